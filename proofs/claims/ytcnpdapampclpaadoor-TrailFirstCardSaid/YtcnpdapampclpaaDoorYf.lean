/- The law TrailFirst: no other beginning of a row is told, but for a clash. -/
import Derived.Test.YtcnpdapampclpaaDoorTp
namespace Go.Proofs.YtcnpdapampclpaaDoor.X
open Go.RowKit Go.Proofs.YtcnpdapampclpaaDoor.H Go.Proofs.YtcnpdapampclpaaDoorW.PrintWords Go.Proofs.YtcnpdapampclpaaDoorW.PrintLast Go.Proofs.YtcnpdapampclpaaDoorW.PrintMore Go.Proofs.YtcnpdapampclpaaDoor.PPl Go.Proofs.YtcnpdapampclpaaDoor.PPm Go.Proofs.YtcnpdapampclpaaDoor.PPn Go.Proofs.YtcnpdapampclpaaDoor.PTp Go.Proofs.YtcnpdapampclpaaDoor.PTr Go.Proofs.YtcnpdapampclpaaDoor.PRa Go.Proofs.YtcnpdapampclpaaDoor.PRb Go.Proofs.YtcnpdapampclpaaDoor.PRd Go.Proofs.YtcnpdapampclpaaDoor.PRo
set_option linter.unusedVariables false
set_option linter.unusedSimpArgs false
theorem hdL_take {M : List (List Int)} {m : Nat} (h1 : 1 ≤ m) (h : m ≤ M.length) : hdL (M.take m) (M.take m).length = headL m (topL (M.take m)) := by
  have hl : (M.take m).length = m := by rw [List.length_take]; omega
  rw [hl]
  unfold hdL
  rw [if_neg (by omega), List.take_take, Nat.min_self]
set_option maxRecDepth 100000 in
set_option maxHeartbeats 8000000 in
theorem first_many (A0 : Option Addr) (n0 c0 : Nat) (l : List (List Int)) (A1 : Option Addr) (n1 c1 : Nat) (s : List Int) (A3 : Option Addr) (n3 c3 : Nat) (top : List Int) (a b : Int) (AW : Option Addr) (nW cW : Nat) (way : List (List Int)) (w : World) (HG : Glb w) (VL : IsN w (.slice A0 n0 c0) l) (VS : IsB w (.slice A1 n1 c1) s) (VT : IsB w (.slice A3 n3 c3) top) (VW : IsN w (.slice AW nW cW) way) {r r2 : Int} (HR : ∃ j, imprimaturref06_Size.f j l 900 = some r) (HR2 : ∃ j, imprimaturref06_Size.f j way 500 = some r2) (HBm : (decide (900 < r) || decide (40 < (l.length : Int))) = true) :
    Calls Tryd.prog 11 #[.slice A0 n0 c0, .slice A1 n1 c1, .int .i64 a, .slice A3 n3 c3, .int .i64 b, .slice AW nW cW] w fun e w' => e = .returned (.bool true) ∧ Below w.heap.size w w' := by
  have HG := Aside0.mk HG
  have VL := Aside0.mk VL
  have VS := Aside0.mk VS
  have VT := Aside0.mk VT
  have VW := Aside0.mk VW
  have HB := Aside0.mk (Below.refl w.heap.size w)
  have HR := Aside0.mk HR
  have HR2 := Aside0.mk HR2
  have HBm := Aside0.mk HBm
  go_enter Tryd.func11, Tryd.ntmps11
  go_wp2_with (first
    | (go_at_call 13; with_reducible refine (many_v (VL.out.below HB.out) HR.out HBm.out).mono ?_; rintro e wn ⟨rfl, hb⟩; replace HB := Aside0.mk (below_step HB.out hb); (try clear hb); (try clear hR))
    | (go_at_call 14; with_reducible refine (known_c _ (HG.out.of HB.out)).mono ?_; rintro e wn ⟨rfl, hb⟩; replace HB := Aside0.mk (below_step HB.out hb); (try replace D := Aside0.mk (D.out.below hb)); (try clear hb); (try clear hR)))
  go_ret
  exact ⟨rfl, HB.out⟩
set_option maxRecDepth 100000 in
set_option maxHeartbeats 8000000 in
theorem first_none (A0 : Option Addr) (n0 c0 : Nat) (l : List (List Int)) (A1 : Option Addr) (n1 c1 : Nat) (s : List Int) (A3 : Option Addr) (n3 c3 : Nat) (top : List Int) (a b : Int) (AW : Option Addr) (nW cW : Nat) (way : List (List Int)) (w : World) (HG : Glb w) (VL : IsN w (.slice A0 n0 c0) l) (VS : IsB w (.slice A1 n1 c1) s) (VT : IsB w (.slice A3 n3 c3) top) (VW : IsN w (.slice AW nW cW) way) {r r2 : Int} (HR : ∃ j, imprimaturref06_Size.f j l 900 = some r) (HR2 : ∃ j, imprimaturref06_Size.f j way 500 = some r2) (HBm : (decide (900 < r) || decide (40 < (l.length : Int))) = false) (h0 : n0 = 0) :
    Calls Tryd.prog 11 #[.slice A0 n0 c0, .slice A1 n1 c1, .int .i64 a, .slice A3 n3 c3, .int .i64 b, .slice AW nW cW] w fun e w' => e = .returned (.bool true) ∧ Below w.heap.size w w' := by
  subst h0
  have HG := Aside0.mk HG
  have VL := Aside0.mk VL
  have VS := Aside0.mk VS
  have VT := Aside0.mk VT
  have VW := Aside0.mk VW
  have HB := Aside0.mk (Below.refl w.heap.size w)
  have HR := Aside0.mk HR
  have HR2 := Aside0.mk HR2
  have HBm := Aside0.mk HBm
  go_enter Tryd.func11, Tryd.ntmps11
  go_wp2_with (first
    | (go_at_call 13; with_reducible refine (many_v (VL.out.below HB.out) HR.out HBm.out).mono ?_; rintro e wn ⟨rfl, hb⟩; replace HB := Aside0.mk (below_step HB.out hb); (try clear hb); (try clear hR))
    | (go_at_call 14; with_reducible refine (known_c _ (HG.out.of HB.out)).mono ?_; rintro e wn ⟨rfl, hb⟩; replace HB := Aside0.mk (below_step HB.out hb); (try replace D := Aside0.mk (D.out.below hb)); (try clear hb); (try clear hR)))
  go_ret
  exact ⟨rfl, HB.out⟩
set_option maxRecDepth 100000 in
set_option maxHeartbeats 8000000 in
theorem first_odd1 (A0 : Option Addr) (n0 c0 : Nat) (l : List (List Int)) (A1 : Option Addr) (n1 c1 : Nat) (s : List Int) (A3 : Option Addr) (n3 c3 : Nat) (top : List Int) (a b : Int) (AW : Option Addr) (nW cW : Nat) (way : List (List Int)) (w : World) (HG : Glb w) (VL : IsN w (.slice A0 n0 c0) l) (VS : IsB w (.slice A1 n1 c1) s) (VT : IsB w (.slice A3 n3 c3) top) (VW : IsN w (.slice AW nW cW) way) {r r2 : Int} (HR : ∃ j, imprimaturref06_Size.f j l 900 = some r) (HR2 : ∃ j, imprimaturref06_Size.f j way 500 = some r2) (HBm : (decide (900 < r) || decide (40 < (l.length : Int))) = false) (h0 : 1 ≤ n0) (h1 : n1 ≠ 32) :
    Calls Tryd.prog 11 #[.slice A0 n0 c0, .slice A1 n1 c1, .int .i64 a, .slice A3 n3 c3, .int .i64 b, .slice AW nW cW] w fun e w' => e = .returned (.bool true) ∧ Below w.heap.size w w' := by
  have HG := Aside0.mk HG
  have VL := Aside0.mk VL
  have VS := Aside0.mk VS
  have VT := Aside0.mk VT
  have VW := Aside0.mk VW
  have HB := Aside0.mk (Below.refl w.heap.size w)
  have HR := Aside0.mk HR
  have HR2 := Aside0.mk HR2
  have HBm := Aside0.mk HBm
  have zk : ((n0 : Int) == 0) = false := beq_eq_false_iff_ne.2 (by omega)
  have ck1 : ((n1 : Int) != 32) = true := bne_iff_ne.2 (by omega)
  go_enter Tryd.func11, Tryd.ntmps11
  go_wp2_with (first
    | (go_at_call 13; with_reducible refine (many_v (VL.out.below HB.out) HR.out HBm.out).mono ?_; rintro e wn ⟨rfl, hb⟩; replace HB := Aside0.mk (below_step HB.out hb); (try clear hb); (try clear hR))
    | (go_at_call 14; with_reducible refine (known_c _ (HG.out.of HB.out)).mono ?_; rintro e wn ⟨rfl, hb⟩; replace HB := Aside0.mk (below_step HB.out hb); (try replace D := Aside0.mk (D.out.below hb)); (try clear hb); (try clear hR)))
  go_ret
  exact ⟨rfl, HB.out⟩
set_option maxRecDepth 100000 in
set_option maxHeartbeats 8000000 in
theorem first_odd3 (A0 : Option Addr) (n0 c0 : Nat) (l : List (List Int)) (A1 : Option Addr) (n1 c1 : Nat) (s : List Int) (A3 : Option Addr) (n3 c3 : Nat) (top : List Int) (a b : Int) (AW : Option Addr) (nW cW : Nat) (way : List (List Int)) (w : World) (HG : Glb w) (VL : IsN w (.slice A0 n0 c0) l) (VS : IsB w (.slice A1 n1 c1) s) (VT : IsB w (.slice A3 n3 c3) top) (VW : IsN w (.slice AW nW cW) way) {r r2 : Int} (HR : ∃ j, imprimaturref06_Size.f j l 900 = some r) (HR2 : ∃ j, imprimaturref06_Size.f j way 500 = some r2) (HBm : (decide (900 < r) || decide (40 < (l.length : Int))) = false) (h0 : 1 ≤ n0) (h1 : n1 = 32) (h3 : n3 ≠ 32) :
    Calls Tryd.prog 11 #[.slice A0 n0 c0, .slice A1 n1 c1, .int .i64 a, .slice A3 n3 c3, .int .i64 b, .slice AW nW cW] w fun e w' => e = .returned (.bool true) ∧ Below w.heap.size w w' := by
  subst h1
  have HG := Aside0.mk HG
  have VL := Aside0.mk VL
  have VS := Aside0.mk VS
  have VT := Aside0.mk VT
  have VW := Aside0.mk VW
  have HB := Aside0.mk (Below.refl w.heap.size w)
  have HR := Aside0.mk HR
  have HR2 := Aside0.mk HR2
  have HBm := Aside0.mk HBm
  have zk : ((n0 : Int) == 0) = false := beq_eq_false_iff_ne.2 (by omega)
  have ck3 : ((n3 : Int) != 32) = true := bne_iff_ne.2 (by omega)
  go_enter Tryd.func11, Tryd.ntmps11
  go_wp2_with (first
    | (go_at_call 13; with_reducible refine (many_v (VL.out.below HB.out) HR.out HBm.out).mono ?_; rintro e wn ⟨rfl, hb⟩; replace HB := Aside0.mk (below_step HB.out hb); (try clear hb); (try clear hR))
    | (go_at_call 14; with_reducible refine (known_c _ (HG.out.of HB.out)).mono ?_; rintro e wn ⟨rfl, hb⟩; replace HB := Aside0.mk (below_step HB.out hb); (try replace D := Aside0.mk (D.out.below hb)); (try clear hb); (try clear hR)))
  go_ret
  exact ⟨rfl, HB.out⟩
set_option maxRecDepth 100000 in
set_option maxHeartbeats 8000000 in
theorem first_big (A0 : Option Addr) (n0 c0 : Nat) (l : List (List Int)) (A1 : Option Addr) (n1 c1 : Nat) (s : List Int) (A3 : Option Addr) (n3 c3 : Nat) (top : List Int) (a b : Int) (AW : Option Addr) (nW cW : Nat) (way : List (List Int)) (w : World) (HG : Glb w) (VL : IsN w (.slice A0 n0 c0) l) (VS : IsB w (.slice A1 n1 c1) s) (VT : IsB w (.slice A3 n3 c3) top) (VW : IsN w (.slice AW nW cW) way) {r r2 : Int} (HR : ∃ j, imprimaturref06_Size.f j l 900 = some r) (HR2 : ∃ j, imprimaturref06_Size.f j way 500 = some r2) (HBm : (decide (900 < r) || decide (40 < (l.length : Int))) = false) (h0 : 1 ≤ n0) (h1 : n1 = 32) (h3 : n3 = 32) (h5 : 500 < r2) :
    Calls Tryd.prog 11 #[.slice A0 n0 c0, .slice A1 n1 c1, .int .i64 a, .slice A3 n3 c3, .int .i64 b, .slice AW nW cW] w fun e w' => e = .returned (.bool true) ∧ Below w.heap.size w w' := by
  subst h1 h3
  have HG := Aside0.mk HG
  have VL := Aside0.mk VL
  have VS := Aside0.mk VS
  have VT := Aside0.mk VT
  have VW := Aside0.mk VW
  have HB := Aside0.mk (Below.refl w.heap.size w)
  have HR := Aside0.mk HR
  have HR2 := Aside0.mk HR2
  have HBm := Aside0.mk HBm
  have zk : ((n0 : Int) == 0) = false := beq_eq_false_iff_ne.2 (by omega)
  have cr : ((500 : Int) < r2) = True := eq_true (by omega)
  go_enter Tryd.func11, Tryd.ntmps11
  go_wp2_with (first
    | (go_at_call 13; with_reducible refine (many_v (VL.out.below HB.out) HR.out HBm.out).mono ?_; rintro e wn ⟨rfl, hb⟩; replace HB := Aside0.mk (below_step HB.out hb); (try clear hb); (try clear hR))
    | (go_at_call 33; with_reducible refine (size_v (VW.out.below HB.out) HR2.out).mono ?_; rintro e wn ⟨rfl, hb⟩; replace HB := Aside0.mk (below_step HB.out hb); (try clear hb); (try clear hR))
    | (go_at_call 14; with_reducible refine (known_c _ (HG.out.of HB.out)).mono ?_; rintro e wn ⟨rfl, hb⟩; replace HB := Aside0.mk (below_step HB.out hb); (try replace D := Aside0.mk (D.out.below hb)); (try clear hb); (try clear hR)))
  go_ret
  exact ⟨rfl, HB.out⟩
set_option maxRecDepth 100000 in
set_option maxHeartbeats 8000000 in
theorem first_no (A0 : Option Addr) (n0 c0 : Nat) (l : List (List Int)) (A1 : Option Addr) (n1 c1 : Nat) (s : List Int) (A3 : Option Addr) (n3 c3 : Nat) (top : List Int) (a b : Int) (AW : Option Addr) (nW cW : Nat) (way : List (List Int)) (w : World) (HG : Glb w) (VL : IsN w (.slice A0 n0 c0) l) (VS : IsB w (.slice A1 n1 c1) s) (VT : IsB w (.slice A3 n3 c3) top) (VW : IsN w (.slice AW nW cW) way) {r r2 : Int} (HR : ∃ j, imprimaturref06_Size.f j l 900 = some r) (HR2 : ∃ j, imprimaturref06_Size.f j way 500 = some r2) (HBm : (decide (900 < r) || decide (40 < (l.length : Int))) = false) (h0 : 1 ≤ n0) (h1 : n1 = 32) (h3 : n3 = 32) (h5 : ¬ 500 < r2) (HS : (∀ x ∈ l, (∀ y ∈ x, 0 ≤ y ∧ y < 256) ∧ x.length ≤ 8192) ∧ l.length ≤ 4096) (HML : (marks l).length = n0) (h40 : n0 ≤ 40) (HLv : Lv (marks l)) {x : Int} (HBg : ∃ j, trail_Begins.f j s a top (hdL (marks l) n0) b way = some x) (hx : x ≠ 0) :
    Calls Tryd.prog 11 #[.slice A0 n0 c0, .slice A1 n1 c1, .int .i64 a, .slice A3 n3 c3, .int .i64 b, .slice AW nW cW] w fun e w' => e = .returned (.bool true) ∧ Below w.heap.size w w' := by
  subst h1 h3
  have HG := Aside0.mk HG
  have VL := Aside0.mk VL
  have VS := Aside0.mk VS
  have VT := Aside0.mk VT
  have VW := Aside0.mk VW
  have HB := Aside0.mk (Below.refl w.heap.size w)
  have HR := Aside0.mk HR
  have HR2 := Aside0.mk HR2
  have HBm := Aside0.mk HBm
  have HS := Aside0.mk HS
  have HML := Aside0.mk HML
  have HLv := Aside0.mk HLv
  have zk : ((n0 : Int) == 0) = false := beq_eq_false_iff_ne.2 (by omega)
  have cr : ((500 : Int) < r2) = False := eq_false (by omega)
  have HBg := Aside0.mk HBg
  have cx : (x != 0) = true := bne_iff_ne.2 hx
  go_enter Tryd.func11, Tryd.ntmps11
  go_wp2_with (first
    | (go_at_call 13; with_reducible refine (many_v (VL.out.below HB.out) HR.out HBm.out).mono ?_; rintro e wn ⟨rfl, hb⟩; replace HB := Aside0.mk (below_step HB.out hb); (try clear hb); (try clear hR))
    | (go_at_call 33; with_reducible refine (size_v (VW.out.below HB.out) HR2.out).mono ?_; rintro e wn ⟨rfl, hb⟩; replace HB := Aside0.mk (below_step HB.out hb); (try clear hb); (try clear hR))
    | (go_at_call 15; with_reducible refine (row_v (HG.out.of HB.out) (VL.out.below HB.out) HS.out.1 HS.out.2).mono ?_; rintro e wn ⟨rfl, hR, hb⟩; replace HB := Aside0.mk (below_step HB.out hb); have T := Aside0.mk hR; clear hR; (try clear hb); (try clear hR))
    | (go_at_call 19; have hc_ := T.out.head n0 (by rw [HML.out]; exact Nat.le_refl _); with_reducible refine (hc_).mono ?_; rintro e wn ⟨v, rfl, hR, hb⟩; replace HB := Aside0.mk (below_step HB.out hb); (try replace T := Aside0.mk (T.out.below hb)); have VH := Aside0.mk (IsB.of_R hR); clear hR hc_; (try clear hb); (try clear hR))
    | (go_at_call 41; with_reducible refine (begins_v (HG.out.of HB.out) (VS.out.below HB.out) (VT.out.below HB.out) VH.out (VW.out.below HB.out) HBg.out).mono ?_; rintro e wn ⟨rfl, hb⟩; replace HB := Aside0.mk (below_step HB.out hb); (try clear hb); (try clear hR))
    | (go_at_call 14; with_reducible refine (known_c _ (HG.out.of HB.out)).mono ?_; rintro e wn ⟨rfl, hb⟩; replace HB := Aside0.mk (below_step HB.out hb); (try replace D := Aside0.mk (D.out.below hb)); (try clear hb); (try clear hR)))
  all_goals (go_ret; exact ⟨rfl, HB.out⟩)
set_option maxRecDepth 100000 in
set_option maxHeartbeats 8000000 in
theorem first_main (A0 : Option Addr) (n0 c0 : Nat) (l : List (List Int)) (A1 : Option Addr) (n1 c1 : Nat) (s : List Int) (A3 : Option Addr) (n3 c3 : Nat) (top : List Int) (m n : Nat) (AW : Option Addr) (nW cW : Nat) (way : List (List Int)) (w : World) (HG : Glb w) (VL : IsN w (.slice A0 n0 c0) l) (VS : IsB w (.slice A1 n1 c1) s) (VT : IsB w (.slice A3 n3 c3) top) (VW : IsN w (.slice AW nW cW) way) {r r2 : Int} (HR : ∃ j, imprimaturref06_Size.f j l 900 = some r) (HR2 : ∃ j, imprimaturref06_Size.f j way 500 = some r2) (HBm : (decide (900 < r) || decide (40 < (l.length : Int))) = false) (h0 : 1 ≤ n0) (h1 : n1 = 32) (h3 : n3 = 32) (h5 : ¬ 500 < r2) (HS : (∀ x ∈ l, (∀ y ∈ x, 0 ≤ y ∧ y < 256) ∧ x.length ≤ 8192) ∧ l.length ≤ 4096) (HML : (marks l).length = n0) (h40 : n0 ≤ 40) (HLv : Lv (marks l)) (HBg : ∃ j, trail_Begins.f j s m top (hdL (marks l) n0) n way = some 0) (HSs : BytesB s) (HT32 : top.length = 32 ∧ BytesB top) (HWl : Lv way ∧ way.length ≤ 4096) (HWk : way.length ≤ 500) (HN : 1 ≤ m ∧ m ≤ n ∧ n ≤ 4096) (HCl : ¬ (n = n0 ∧ top = topL ((marks l).take m) ∧ s = headL m (topL ((marks l).take m))) → ∃ j, imprimaturref06_Clash.f j ((toldT m n top way true).2.2.1 ++ [18 :: (e8 n ++ (toldT m n top way true).2.1), 18 :: (e8 m ++ top), 18 :: (e8 n0 ++ topL (marks l))] ++ textsL (marks l) ++ mtexts l) = some true) :
    Calls Tryd.prog 11 #[.slice A0 n0 c0, .slice A1 n1 c1, .int .i64 m, .slice A3 n3 c3, .int .i64 n, .slice AW nW cW] w fun e w' => e = .returned (.bool true) ∧ Below w.heap.size w w' := by
  subst h1 h3
  have HG := Aside0.mk HG
  have VL := Aside0.mk VL
  have VS := Aside0.mk VS
  have VT := Aside0.mk VT
  have VW := Aside0.mk VW
  have HB := Aside0.mk (Below.refl w.heap.size w)
  have HR := Aside0.mk HR
  have HR2 := Aside0.mk HR2
  have HBm := Aside0.mk HBm
  have HS := Aside0.mk HS
  have HML := Aside0.mk HML
  have HLv := Aside0.mk HLv
  have zk : ((n0 : Int) == 0) = false := beq_eq_false_iff_ne.2 (by omega)
  have cr : ((500 : Int) < r2) = False := eq_false (by omega)
  have HBg := Aside0.mk HBg
  have HSs := Aside0.mk HSs
  have HT32 := Aside0.mk HT32
  have HWl := Aside0.mk HWl
  have HWk := Aside0.mk HWk
  have HN := Aside0.mk HN
  have HMl := Aside0.mk (show (marks l).length ≤ 4096 by rw [HML.out]; omega)
  have HM1 := Aside0.mk (show 1 ≤ (marks l).length by rw [HML.out]; omega)
  have HTb := Aside0.mk HT32.out.2
  have HSl := Aside0.mk (fun x hx => (HS.out.1 x hx).2 : ∀ x ∈ l, x.length ≤ 8192)
  have hu := toldT_ok n m top way true HT32.out HWl.out.1 HN.out.1 HN.out.2.1
  have htp := topL_32 HLv.out HM1.out
  have HXl := Aside0.mk (show (toldT m n top way true).2.1.length ≤ 200000 by have := hu.2.1.1; omega)
  have HT2l := Aside0.mk (show top.length ≤ 200000 by have := HT32.out.1; omega)
  have HYl := Aside0.mk (show (topL (marks l)).length ≤ 200000 by have := htp.1; omega)
  have hxt := (textsL_ok (marks l).length (marks l) rfl HLv.out).1
  have hmt : (mtexts l).length ≤ 42 := by unfold mtexts; have := marks_length l; have := HML.out; simp; omega
  have HLa := Aside0.mk (show ((toldT m n top way true).2.2.1.length + 3) * 24 ≤ 140737488355328 by have := hu.2.2.1; have := HWk.out; omega)
  have HLb := Aside0.mk (show (((toldT m n top way true).2.2.1 ++ [18 :: (e8 n ++ (toldT m n top way true).2.1), 18 :: (e8 m ++ top), 18 :: (e8 n0 ++ topL (marks l))]).length + (textsL (marks l)).length) * 24 ≤ 140737488355328 by have := hu.2.2.1; have := HWk.out; have := HML.out; simp only [List.length_append, List.length_cons, List.length_nil]; omega)
  have HLc := Aside0.mk (show (((toldT m n top way true).2.2.1 ++ [18 :: (e8 n ++ (toldT m n top way true).2.1), 18 :: (e8 m ++ top), 18 :: (e8 n0 ++ topL (marks l))] ++ textsL (marks l)).length + (mtexts l).length) * 24 ≤ 140737488355328 by have := hu.2.2.1; have := HWk.out; have := HML.out; simp only [List.length_append, List.length_cons, List.length_nil]; omega)
  clear hu htp hxt hmt
  have hc4 : n ≠ n0 ∨ (n = n0 ∧ ¬ top = topL ((marks l).take m)) ∨ (n = n0 ∧ top = topL ((marks l).take m) ∧ ¬ s = headL m (topL ((marks l).take m))) ∨ (n = n0 ∧ top = topL ((marks l).take m) ∧ s = headL m (topL ((marks l).take m))) := by
    by_cases h1 : n = n0
    · by_cases h2 : top = topL ((marks l).take m)
      · by_cases h3 : s = headL m (topL ((marks l).take m))
        · exact .inr (.inr (.inr ⟨h1, h2, h3⟩))
        · exact .inr (.inr (.inl ⟨h1, h2, h3⟩))
      · exact .inr (.inl ⟨h1, h2⟩)
    · exact .inl h1
  rcases hc4 with hc | ⟨hc, hS⟩ | ⟨hc, hS, hW⟩ | ⟨hc, hS, hW⟩
  all_goals (first
    | (have cn : ((n : Int) == (n0 : Int)) = false := beq_eq_false_iff_ne.2 (by omega); replace HCl := Aside0.mk (HCl (fun h => hc h.1)))
    | (have cn : ((n : Int) == (n0 : Int)) = true := beq_iff_eq.2 (by omega); have HMn := Aside0.mk (show m ≤ n0 by have := HN.out.2.1; omega); have hlm : ((marks l).take m).length = m := (by rw [List.length_take, HML.out]; have := HMn.out; omega); have HTm := Aside0.mk (show 1 ≤ ((marks l).take m).length ∧ ((marks l).take m).length ≤ 4096 by rw [hlm]; have := HN.out; omega); have HEb := Aside0.mk (topL_32 (HLv.out.take m) HTm.out.1).2; have HAe := Aside0.mk (hdL_take (M := marks l) HN.out.1 (by rw [HML.out]; exact HMn.out)); have HAb := Aside0.mk (headL_bytes (m : Int) (topL ((marks l).take m))); clear hlm; (first | (replace HCl := Aside0.mk (HCl (fun h => hS h.2.1))) | (replace HCl := Aside0.mk (HCl (fun h => hW h.2.2))) | clear HCl); replace hS := Aside0.mk hS; (try replace hW := Aside0.mk hW); clear hc))
  all_goals
    go_enter Tryd.func11, Tryd.ntmps11
    go_wp2_with (first
      | (go_at_call 13; with_reducible refine (many_v (VL.out.below HB.out) HR.out HBm.out).mono ?_; rintro e wn ⟨rfl, hb⟩; replace HB := Aside0.mk (below_step HB.out hb); (try clear hb); (try clear hR))
      | (go_at_call 33; with_reducible refine (size_v (VW.out.below HB.out) HR2.out).mono ?_; rintro e wn ⟨rfl, hb⟩; replace HB := Aside0.mk (below_step HB.out hb); (try clear hb); (try clear hR))
      | (go_at_call 15; with_reducible refine (row_v (HG.out.of HB.out) (VL.out.below HB.out) HS.out.1 HS.out.2).mono ?_; rintro e wn ⟨rfl, hR, hb⟩; replace HB := Aside0.mk (below_step HB.out hb); have T := Aside0.mk hR; clear hR; (try clear hb); (try clear hR))
      | (go_at_call 19; have hc_ := T.out.head n0 (by rw [HML.out]; exact Nat.le_refl _); with_reducible refine (hc_).mono ?_; rintro e wn ⟨v, rfl, hR, hb⟩; replace HB := Aside0.mk (below_step HB.out hb); (try replace T := Aside0.mk (T.out.below hb)); have VH := Aside0.mk (IsB.of_R hR); clear hR hc_; (try clear hb); (try clear hR))
      | (go_at_call 41; with_reducible refine (begins_v (HG.out.of HB.out) (VS.out.below HB.out) (VT.out.below HB.out) VH.out (VW.out.below HB.out) HBg.out).mono ?_; rintro e wn ⟨rfl, hb⟩; replace HB := Aside0.mk (below_step HB.out hb); (try clear hb); (try clear hR))
      | (go_at_call 17; have hz_ := HB.out.size; with_reducible refine (marks_v (VL.out.below HB.out) HS.out.1 HS.out.2).mono ?_; rintro e wn ⟨v, rfl, hR, hb⟩; replace HB := Aside0.mk (below_step HB.out hb); obtain ⟨Am, cm, rfl⟩ := hR.slice; have hcc := hR.C.2.1; rw [HML.out] at hR hcc ⊢; (try have hcut := cut_row Am n0 cm m HMn.out hcc); obtain ⟨B, hle, hVQ⟩ := Vq.of hR; have HBB := Aside0.mk (Nat.le_trans (Nat.le_trans hz_ hb.size) hle); have VQ := Aside0.mk hVQ; clear hR hVQ hle hz_ hcc; (try clear hb); (try clear hR))
      | (go_at_call 23; with_reducible refine (refTop_v (VQ.out.isN.take HMn.out) (HLv.out.take m) HTm.out.1 HTm.out.2).mono ?_; rintro e wn ⟨v, rfl, hR, hb⟩; replace HB := Aside0.mk (below_step HB.out hb); (try replace VQ := Aside0.mk (VQ.out.below hb)); have VE := Aside0.mk hR; clear hR; (try clear hb); (try clear hR))
      | (go_at_call 21; have hc_ := same_c (VT.out.below HB.out) VE.out HTb.out HEb.out; rw [decide_eq_true hS.out] at hc_; with_reducible refine (hc_).mono ?_; rintro e wn ⟨rfl, hb⟩; replace HB := Aside0.mk (below_step HB.out hb); (try replace VQ := Aside0.mk (VQ.out.below hb)); clear hc_; (try clear hb); (try clear hR))
      | (go_at_call 21; have hc_ := same_c (VT.out.below HB.out) VE.out HTb.out HEb.out; rw [decide_eq_false hS.out] at hc_; with_reducible refine (hc_).mono ?_; rintro e wn ⟨rfl, hb⟩; replace HB := Aside0.mk (below_step HB.out hb); (try replace VQ := Aside0.mk (VQ.out.below hb)); clear hc_; (try clear hb); (try clear hR))
      | (go_at_call 22; have hc_ := refHead_v (VQ.out.isN.take HMn.out) (HLv.out.take m) HTm.out.2; rw [HAe.out] at hc_; with_reducible refine (hc_).mono ?_; rintro e wn ⟨v, rfl, hR, hb⟩; replace HB := Aside0.mk (below_step HB.out hb); (try replace VQ := Aside0.mk (VQ.out.below hb)); have VA := Aside0.mk hR; clear hR hc_; (try clear hb); (try clear hR))
      | (go_at_call 21; have hc_ := same_c (VS.out.below HB.out) VA.out HSs.out HAb.out; rw [decide_eq_true hW.out] at hc_; with_reducible refine (hc_).mono ?_; rintro e wn ⟨rfl, hb⟩; replace HB := Aside0.mk (below_step HB.out hb); (try replace VQ := Aside0.mk (VQ.out.below hb)); clear hc_; (try clear hb); (try clear hR))
      | (go_at_call 21; have hc_ := same_c (VS.out.below HB.out) VA.out HSs.out HAb.out; rw [decide_eq_false hW.out] at hc_; with_reducible refine (hc_).mono ?_; rintro e wn ⟨rfl, hb⟩; replace HB := Aside0.mk (below_step HB.out hb); (try replace VQ := Aside0.mk (VQ.out.below hb)); clear hc_; (try clear hb); (try clear hR))
      | (go_at_call 43; with_reducible refine (told_q HB.out HBB.out VQ.out (VT.out.below HB.out) (VW.out.below HB.out) HT32.out HWl.out.1 (Nat.le_trans HWk.out (by decide)) HN.out.1 HN.out.2.1 HN.out.2.2).mono ?_; rintro e wn ⟨v0, v1, v2, rfl, hR, hb⟩; replace HB := Aside0.mk (below_step HB.out hb); (try replace VQ := Aside0.mk (VQ.out.below hb)); have VX := Aside0.mk hR.1; have D := Aside0.mk hR.2; clear hR; (try clear hb); (try clear hR))
      | (go_at_call 37; obtain ⟨s_, hs_, hO_⟩ := D.out.lt; have HO := Aside0.mk hO_; have Z1 := Aside0.mk (show Sz _ s_ from hs_); clear hs_ hO_; with_reducible refine (headtext_q VX.out HXl.out Z1.out).mono ?_; rintro e wn ⟨v, rfl, hR, hb⟩; replace HB := Aside0.mk (below_step HB.out hb); (try replace D := Aside0.mk (D.out.below hb)); (try replace VQ := Aside0.mk (VQ.out.below hb)); (try replace QA := Aside0.mk (QA.out.below hb)); (try replace QB := Aside0.mk (QB.out.below hb)); (try replace Z1 := Aside0.mk (Z1.out.below hb)); obtain ⟨AA, cA, rfl⟩ := hR.b.slice; obtain ⟨kA, hk_⟩ : ∃ k_, k_ = (18 :: (e8 n ++ (toldT m n top way true).2.1) : List Int).length := ⟨_, rfl⟩; rw [← hk_] at hR ⊢; have QA := Aside0.mk hR; clear hR hk_; (try clear hb); (try clear hR))
      | (go_at_call 37; with_reducible refine (headtext_q (VT.out.below HB.out) HT2l.out Z1.out).mono ?_; rintro e wn ⟨v, rfl, hR, hb⟩; replace HB := Aside0.mk (below_step HB.out hb); (try replace D := Aside0.mk (D.out.below hb)); (try replace VQ := Aside0.mk (VQ.out.below hb)); (try replace QA := Aside0.mk (QA.out.below hb)); (try replace QB := Aside0.mk (QB.out.below hb)); (try replace Z1 := Aside0.mk (Z1.out.below hb)); obtain ⟨AB, cB, rfl⟩ := hR.b.slice; obtain ⟨kB, hk_⟩ : ∃ k_, k_ = (18 :: (e8 m ++ top) : List Int).length := ⟨_, rfl⟩; rw [← hk_] at hR ⊢; have QB := Aside0.mk hR; clear hR hk_; (try clear hb); (try clear hR))
      | (go_at_call 23; with_reducible refine (refTop_v VQ.out.isN HLv.out HM1.out HMl.out).mono ?_; rintro e wn ⟨v, rfl, hR, hb⟩; replace HB := Aside0.mk (below_step HB.out hb); (try replace D := Aside0.mk (D.out.below hb)); (try replace VQ := Aside0.mk (VQ.out.below hb)); (try replace QA := Aside0.mk (QA.out.below hb)); (try replace QB := Aside0.mk (QB.out.below hb)); (try replace Z1 := Aside0.mk (Z1.out.below hb)); have VY := Aside0.mk hR; clear hR; (try clear hb); (try clear hR))
      | (go_at_call 37; with_reducible refine (headtext_q VY.out HYl.out Z1.out).mono ?_; rintro e wn ⟨v, rfl, hR, hb⟩; replace HB := Aside0.mk (below_step HB.out hb); (try replace D := Aside0.mk (D.out.below hb)); (try replace VQ := Aside0.mk (VQ.out.below hb)); (try replace QA := Aside0.mk (QA.out.below hb)); (try replace QB := Aside0.mk (QB.out.below hb)); (try replace Z1 := Aside0.mk (Z1.out.below hb)); obtain ⟨AC, cC, rfl⟩ := hR.b.slice; obtain ⟨kC, hk_⟩ : ∃ k_, k_ = (18 :: (e8 n0 ++ topL (marks l)) : List Int).length := ⟨_, rfl⟩; rw [← hk_] at hR ⊢; have QC := Aside0.mk hR; clear hR hk_; (try clear hb); (try clear hR))
      | ((with_reducible refine gate_dst (N := 118) rfl ?_); refine Kd.N_lit (w0 := wn) dB wn.heap.size 23 ?hg (N' := 118) ?hd (xs := [18 :: (e8 n ++ (toldT m n top way true).2.1), 18 :: (e8 m ++ top), 18 :: (e8 n0 ++ topL (marks l))]) (inner := [.slice AA kA cA, .slice AB kB cB, .slice AC kC cC]) (ok := fun k => k < B ∨ s_ ≤ k) (okp := fun k => k < B ∨ s_ ≤ k) ?hr (three_q QA.out QB.out QC.out) (fun _ h => h) (.inr Z1.out) (Below.refl _ _) (Nat.le_refl _) (by simp) ?_; (case hd => rfl); (case hg => rfl); (case hr => first | (go_simp; done) | (go_simp; rfl)); intro v4 w4 ho4 hb4 hg4 hn4; have hb := below_new hg4; replace HB := Aside0.mk (below_step HB.out hb); (try replace D := Aside0.mk (D.out.below hb)); (try replace Z1 := Aside0.mk (Z1.out.below hb)); obtain ⟨A4, c4, rfl⟩ := Kd.N_slice ho4; have QN := Aside0.mk (Nq.of ho4); clear ho4 hb4 hg4 hn4 hb)
      | ((with_reducible refine gate_builtin (b := .append) (xs := #[.tmp 106, .tmp 118]) rfl ?_); at_builtin; obtain ⟨bq_, hq_⟩ := QN.out; refine N_append_N dB (w0 := w) w.heap.size rfl (.tmp 106) (.tmp 118) 22 23 (.slice none 0 0) 24 rfl Tryd.underlying22 info_row rfl (by decide) (by decide) _ _ _ _ _ _ (fun _ => True) (fun k => k < B ∨ s_ ≤ k) rfl rfl D.out.n hq_ (D.out.apart HO.out _) (fun _ _ => trivial) HB.out HB.out.size HLa.out ?_; intro v5 w5 hN5 hB5 hg5 hat5; have D_ := Aside0.mk (D.out.app hN5 hB5 hg5 hat5); clear D; have D := D_; clear D_ HB QN HO Z1 hq_; have HB := Aside0.mk hB5; clear hN5 hB5 hg5 hat5)
      | (go_at_call 38; obtain ⟨s_, hs_, hO_⟩ := D.out.lt; have HO := Aside0.mk hO_; have Z1 := Aside0.mk (show Sz _ s_ from hs_); clear hs_ hO_; with_reducible refine (texts_q D.out.k HLv.out HMl.out Z1.out).mono ?_; rintro e wn ⟨v, rfl, hR, hb⟩; replace HB := Aside0.mk (below_step HB.out hb); (try replace D := Aside0.mk (D.out.below hb)); obtain ⟨A6, c6, rfl⟩ := hR.slice; have QN := Aside0.mk hR; clear hR; (try clear hb); (try clear hR))
      | ((with_reducible refine gate_builtin (b := .append) (xs := #[.tmp 119, .tmp 121]) rfl ?_); at_builtin; obtain ⟨bq_, hq_⟩ := QN.out; refine N_append_N dB (w0 := w) w.heap.size rfl (.tmp 119) (.tmp 121) 22 23 (.slice none 0 0) 24 rfl Tryd.underlying22 info_row rfl (by decide) (by decide) _ _ _ _ _ _ (fun _ => True) (fun k => k < B ∨ s_ ≤ k) rfl rfl D.out.n hq_ (D.out.apart HO.out _) (fun _ _ => trivial) HB.out HB.out.size HLb.out ?_; intro v5 w5 hN5 hB5 hg5 hat5; have D_ := Aside0.mk (D.out.app hN5 hB5 hg5 hat5); clear D; have D := D_; clear D_ HB QN HO Z1 hq_; have HB := Aside0.mk hB5; clear hN5 hB5 hg5 hat5)
      | (go_at_call 39; obtain ⟨s_, hs_, hO_⟩ := D.out.lt; have HO := Aside0.mk hO_; have Z1 := Aside0.mk (show Sz _ s_ from hs_); clear hs_ hO_; with_reducible refine (marktexts_q B (VL.out.below HB.out) HSl.out HS.out.2 Z1.out).mono ?_; rintro e wn ⟨v, rfl, hR, hb⟩; replace HB := Aside0.mk (below_step HB.out hb); (try replace D := Aside0.mk (D.out.below hb)); obtain ⟨A7, c7, rfl⟩ := hR.slice; have QN := Aside0.mk hR; clear hR; (try clear hb); (try clear hR))
      | ((with_reducible refine gate_builtin (b := .append) (xs := #[.tmp 122, .tmp 124]) rfl ?_); at_builtin; obtain ⟨bq_, hq_⟩ := QN.out; refine N_append_N dB (w0 := w) w.heap.size rfl (.tmp 122) (.tmp 124) 22 23 (.slice none 0 0) 24 rfl Tryd.underlying22 info_row rfl (by decide) (by decide) _ _ _ _ _ _ (fun _ => True) (fun k => k < B ∨ s_ ≤ k) rfl rfl D.out.n hq_ (D.out.apart HO.out _) (fun _ _ => trivial) HB.out HB.out.size HLc.out ?_; intro v5 w5 hN5 hB5 hg5 hat5; have D_ := Aside0.mk (D.out.app hN5 hB5 hg5 hat5); clear D; have D := D_; clear D_ HB QN HO Z1 hq_; have HB := Aside0.mk hB5; clear hN5 hB5 hg5 hat5)
      | (go_at_call 14; with_reducible refine (known_c _ (HG.out.of HB.out)).mono ?_; rintro e wn ⟨rfl, hb⟩; replace HB := Aside0.mk (below_step HB.out hb); (try replace D := Aside0.mk (D.out.below hb)); (try clear hb); (try clear hR))
      | (go_at_call 40; with_reducible refine (clash_v D.out.all HCl.out).mono ?_; rintro e wn ⟨rfl, hb⟩; replace HB := Aside0.mk (below_step HB.out hb); (try clear hb); (try clear hR)))
    all_goals (go_ret; exact ⟨rfl, HB.out⟩)
set_option maxRecDepth 100000 in
set_option maxHeartbeats 8000000 in
theorem TrailFirst_walk (A0 : Option Addr) (c0 : Nat) (l0 : List (List Int)) (A1 : Option Addr) (n1 c1 : Nat) (z1 : List Int) (a2 : Int) (A3 : Option Addr) (n3 c3 : Nat) (z3 : List Int) (a4 : Int) (A5 : Option Addr) (c5 : Nat) (l5 : List (List Int)) (w : World) (HG : Glb w) (w0 : Kd.C dB w A0 l0.length l0) (hc0 : l0.length ≤ c0) (o0 : l0.length * 24 ≤ 140737488351232) (g0 : ∀ l ∈ l0, (∀ x ∈ l, (Lit.int .u8 x).wf = true) ∧ l.length * 1 ≤ 140737488351232) (h1 : (A1 = none ∧ n1 = 0 ∧ c1 = 0 ∧ z1 = []) ∨ ∃ x, A1 = some x ∧ n1 ≤ c1 ∧ c1 ≤ maxLen ∧ z1.length = c1 ∧ (∀ i, i < z1.length → w.cell? (x.add i) = some (.int .u8 (z1.getD i 0))) ∧ ∀ n ∈ z1, (Lit.int .u8 n).wf = true) (y1 : n1 * 1 ≤ 140737488351232) (w2 : (Lit.int .i64 a2).wf = true) (h3 : (A3 = none ∧ n3 = 0 ∧ c3 = 0 ∧ z3 = []) ∨ ∃ x, A3 = some x ∧ n3 ≤ c3 ∧ c3 ≤ maxLen ∧ z3.length = c3 ∧ (∀ i, i < z3.length → w.cell? (x.add i) = some (.int .u8 (z3.getD i 0))) ∧ ∀ n ∈ z3, (Lit.int .u8 n).wf = true) (y3 : n3 * 1 ≤ 140737488351232) (w4 : (Lit.int .i64 a4).wf = true) (w5 : Kd.C dB w A5 l5.length l5) (hc5 : l5.length ≤ c5) (o5 : l5.length * 24 ≤ 140737488351232) (g5 : ∀ l ∈ l5, (∀ x ∈ l, (Lit.int .u8 x).wf = true) ∧ l.length * 1 ≤ 140737488351232) :
    Calls Tryd.prog 11 #[.slice A0 l0.length c0, .slice A1 n1 c1, .int .i64 a2, .slice A3 n3 c3, .int .i64 a4, .slice A5 l5.length c5] w fun e w' => e = .returned (.bool true) ∧ Below w.heap.size w w' := by
  obtain ⟨s, rfl, hr1, hm1, hb1, hc1⟩ := ReadsInt.ofRowC h1
  obtain ⟨t, rfl, hr3, hm3, hb3, hc3⟩ := ReadsInt.ofRowC h3
  have VL : IsN w (.slice A0 l0.length c0) l0 := ⟨A0, c0, rfl, hc0, w0⟩
  have VS : IsB w (.slice A1 s.length c1) s := ⟨A1, c1, rfl, hc1, Kd.C_of_reads (d := (0 : Int)) (h1 := fun _ => rfl) hr1⟩
  have VT : IsB w (.slice A3 t.length c3) t := ⟨A3, c3, rfl, hc3, Kd.C_of_reads (d := (0 : Int)) (h1 := fun _ => rfl) hr3⟩
  have VW : IsN w (.slice A5 l5.length c5) l5 := ⟨A5, c5, rfl, hc5, w5⟩
  have HSs : ∀ y ∈ s, 0 ≤ y ∧ y < 256 := fun x hx => byte_of (hb1 x hx)
  have HTt : ∀ y ∈ t, 0 ≤ y ∧ y < 256 := fun x hx => byte_of (hb3 x hx)
  obtain ⟨r, HR, hs⟩ := small_of l0 (row_len g0) (by omega)
  obtain ⟨r2, HR2', hs5⟩ := size_eq l5 500 (by decide) (row_len g5) (by omega) (l5.length + 1) (by omega)
  have HR2 : ∃ j, imprimaturref06_Size.f j l5 500 = some r2 := ⟨_, HR2'⟩
  cases hb : (decide (900 < r) || decide (40 < (l0.length : Int))) with
  | true => exact first_many A0 _ c0 l0 A1 _ c1 s A3 _ c3 t a2 a4 A5 _ c5 l5 w HG VL VS VT VW HR HR2 hb
  | false =>
    have hs2 := hs hb
    by_cases h0 : l0.length = 0
    · exact first_none A0 _ c0 l0 A1 _ c1 s A3 _ c3 t a2 a4 A5 _ c5 l5 w HG VL VS VT VW HR HR2 hb h0
    by_cases h31 : s.length = 32
    · by_cases h32 : t.length = 32
      · by_cases h5 : 500 < r2
        · exact first_big A0 _ c0 l0 A1 _ c1 s A3 _ c3 t a2 a4 A5 _ c5 l5 w HG VL VS VT VW HR HR2 hb (by omega) h31 h32 h5
        have HS : (∀ x ∈ l0, (∀ y ∈ x, 0 ≤ y ∧ y < 256) ∧ x.length ≤ 8192) ∧ l0.length ≤ 4096 := ⟨fun x hx => ⟨row_bytes g0 x hx, by have := hs2.2 x hx; omega⟩, by omega⟩
        have HML := marks_length l0
        have HLv := marks_lv l0
        have hwl := (hs5 (by omega)).1
        have hfull : hdL (marks l0) l0.length = headL (l0.length : Int) (topL (marks l0)) := by
          have e := hdL_take (M := marks l0) (m := l0.length) (by omega) (by omega)
          rw [show (marks l0).take l0.length = marks l0 from by rw [← HML, List.take_length], HML] at e
          exact e
        by_cases hbad : bgBad s a2 t (hdL (marks l0) l0.length) a4 l5
        · exact first_no A0 _ c0 l0 A1 _ c1 s A3 _ c3 t a2 a4 A5 _ c5 l5 w HG VL VS VT VW HR HR2 hb (by omega) h31 h32 h5 HS HML hs2.1 HLv ⟨1, begins_bad hbad⟩ (by decide)
        · unfold bgBad at hbad
          obtain ⟨n, rfl⟩ : ∃ j : Nat, a4 = (j : Int) := ⟨a4.toNat, by omega⟩
          obtain ⟨m, rfl⟩ : ∃ j : Nat, a2 = (j : Int) := ⟨a2.toNat, by omega⟩
          have hv : Lv l5 := fun x hx => ⟨Classical.byContradiction fun h => hbad (.inr (.inr (.inr (.inr (.inr (.inr (.inr ⟨x, hx, h⟩))))))), row_bytes g5 x hx⟩
          have hIn := begins_good (k := 2 * n + 10) (m := m) (n := n) (a := s) (top := t) (b := hdL (marks l0) l0.length) (pr := l5) (by omega) (by omega) (by omega) ⟨h31, HSs⟩ ⟨h32, HTt⟩ (by rw [hfull]; exact ⟨headL_length _ _, headL_bytes _ _⟩) hv (by omega) (Nat.le_refl _)
          by_cases hz : bgL s m t (hdL (marks l0) l0.length) n l5 = 0
          · rw [hz] at hIn
            have hz2 := hz
            rw [hfull] at hz2
            have hN : 1 ≤ m ∧ m ≤ n ∧ n ≤ 4096 := ⟨by omega, by omega, by omega⟩
            refine first_main A0 _ c0 l0 A1 _ c1 s A3 _ c3 t m n A5 _ c5 l5 w HG VL VS VT VW HR HR2 hb (by omega) h31 h32 h5 HS HML hs2.1 HLv ⟨_, hIn⟩ HSs ⟨h32, HTt⟩ ⟨hv, by omega⟩ hwl hN (fun hall => ?_)
            have hcl := clash_first l0 n m s t l5 (by omega) hs2.1 (fun x hx => HS.1 x hx) (by omega) (by omega) (by omega) ⟨h32, HTt⟩ hv hwl (by rw [HML]; exact hz2) (by rw [HML]; exact hall)
            rw [HML] at hcl
            exact hcl
          · exact first_no A0 _ c0 l0 A1 _ c1 s A3 _ c3 t m n A5 _ c5 l5 w HG VL VS VT VW HR HR2 hb (by omega) h31 h32 h5 HS HML hs2.1 HLv ⟨_, hIn⟩ hz
      · exact first_odd3 A0 _ c0 l0 A1 _ c1 s A3 _ c3 t a2 a4 A5 _ c5 l5 w HG VL VS VT VW HR HR2 hb (by omega) h31 h32
    · exact first_odd1 A0 _ c0 l0 A1 _ c1 s A3 _ c3 t a2 a4 A5 _ c5 l5 w HG VL VS VT VW HR HR2 hb (by omega) h31
end Go.Proofs.YtcnpdapampclpaaDoor.X
