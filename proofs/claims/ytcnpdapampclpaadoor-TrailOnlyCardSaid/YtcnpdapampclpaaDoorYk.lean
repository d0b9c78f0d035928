/- The law TrailOnly: no other mark is in a row, but for a clash. -/
import Derived.Test.YtcnpdapampclpaaDoorTq
namespace Go.Proofs.YtcnpdapampclpaaDoor.X
open Go.RowKit Go.Proofs.YtcnpdapampclpaaDoor.H Go.Proofs.YtcnpdapampclpaaDoorW.PrintWords Go.Proofs.YtcnpdapampclpaaDoorW.PrintLast Go.Proofs.YtcnpdapampclpaaDoorW.PrintMore Go.Proofs.YtcnpdapampclpaaDoor.PPl Go.Proofs.YtcnpdapampclpaaDoor.PPm Go.Proofs.YtcnpdapampclpaaDoor.PPn Go.Proofs.YtcnpdapampclpaaDoor.PTp Go.Proofs.YtcnpdapampclpaaDoor.PTq Go.Proofs.YtcnpdapampclpaaDoor.PRa Go.Proofs.YtcnpdapampclpaaDoor.PRb Go.Proofs.YtcnpdapampclpaaDoor.PRd
set_option linter.unusedVariables false
set_option linter.unusedSimpArgs false
/-- A mark of the row, where it lies. -/
theorem cell_of {w : World} {A : Option Addr} {n c q : Nat} {M : List (List Int)} (h : IsN w (.slice A n c) M) (hq : q < n) (hn : M.length = n) (hv : Lv M) : ∃ A9 c9 ad, A = some ad ∧ w.cell? (ad.add q) = some (.slice A9 32 c9) ∧ IsB w (.slice A9 32 c9) (M.getD q []) := by
  obtain ⟨rfl, h1, h2⟩ := h.C
  obtain ⟨ad, A9, c9, e1, e2, e3, e4⟩ := elem_at h2 hq
  have h32 := (hv _ (getD_mem' (l := M) (i := q) hq)).1
  rw [h32] at e2 e3 e4
  exact ⟨A9, c9, ad, e1, e2, ⟨A9, c9, by rw [h32], by rw [h32]; exact e3, by rw [h32]; exact e4⟩⟩
set_option maxRecDepth 100000 in
set_option maxHeartbeats 8000000 in
theorem only_many (A0 : Option Addr) (n0 c0 : Nat) (l : List (List Int)) (a b : Int) (A3 : Option Addr) (n3 c3 : Nat) (mark : List Int) (AW : Option Addr) (nW cW : Nat) (way : List (List Int)) (w : World) (HG : Glb w) (VL : IsN w (.slice A0 n0 c0) l) (VT : IsB w (.slice A3 n3 c3) mark) (VW : IsN w (.slice AW nW cW) way) {r r2 : Int} (HR : ∃ j, imprimaturref06_Size.f j l 900 = some r) (HR2 : ∃ j, imprimaturref06_Size.f j way 500 = some r2) (HBm : (decide (900 < r) || decide (40 < (l.length : Int))) = true) :
    Calls Tryd.prog 9 #[.slice A0 n0 c0, .int .i64 a, .int .i64 b, .slice A3 n3 c3, .slice AW nW cW] w fun e w' => e = .returned (.bool true) ∧ Below w.heap.size w w' := by
  have HG := Aside0.mk HG
  have VL := Aside0.mk VL
  have VT := Aside0.mk VT
  have VW := Aside0.mk VW
  have HB := Aside0.mk (Below.refl w.heap.size w)
  have HR := Aside0.mk HR
  have HR2 := Aside0.mk HR2
  have HBm := Aside0.mk HBm
  go_enter Tryd.func9, Tryd.ntmps9
  go_wp2_with (first
    | (go_at_call 13; with_reducible refine (many_v (VL.out.below HB.out) HR.out HBm.out).mono ?_; rintro e wn ⟨rfl, hb⟩; have k_ := Aside0.mk (below_step HB.out hb); clear HB; have HB := k_; clear k_; (try clear hb); (try clear hR))
    | (go_at_call 14; with_reducible refine (known_c _ (HG.out.of HB.out)).mono ?_; rintro e wn ⟨rfl, hb⟩; have k_ := Aside0.mk (below_step HB.out hb); clear HB; have HB := k_; clear k_; (try (have k_ := Aside0.mk (D.out.below hb); clear D; have D := k_; clear k_)); (try clear hb); (try clear hR)))
  go_ret
  exact ⟨rfl, HB.out⟩
set_option maxRecDepth 100000 in
set_option maxHeartbeats 8000000 in
theorem only_none (A0 : Option Addr) (n0 c0 : Nat) (l : List (List Int)) (a b : Int) (A3 : Option Addr) (n3 c3 : Nat) (mark : List Int) (AW : Option Addr) (nW cW : Nat) (way : List (List Int)) (w : World) (HG : Glb w) (VL : IsN w (.slice A0 n0 c0) l) (VT : IsB w (.slice A3 n3 c3) mark) (VW : IsN w (.slice AW nW cW) way) {r r2 : Int} (HR : ∃ j, imprimaturref06_Size.f j l 900 = some r) (HR2 : ∃ j, imprimaturref06_Size.f j way 500 = some r2) (HBm : (decide (900 < r) || decide (40 < (l.length : Int))) = false) (h0 : n0 = 0) :
    Calls Tryd.prog 9 #[.slice A0 n0 c0, .int .i64 a, .int .i64 b, .slice A3 n3 c3, .slice AW nW cW] w fun e w' => e = .returned (.bool true) ∧ Below w.heap.size w w' := by
  subst h0
  have HG := Aside0.mk HG
  have VL := Aside0.mk VL
  have VT := Aside0.mk VT
  have VW := Aside0.mk VW
  have HB := Aside0.mk (Below.refl w.heap.size w)
  have HR := Aside0.mk HR
  have HR2 := Aside0.mk HR2
  have HBm := Aside0.mk HBm
  go_enter Tryd.func9, Tryd.ntmps9
  go_wp2_with (first
    | (go_at_call 13; with_reducible refine (many_v (VL.out.below HB.out) HR.out HBm.out).mono ?_; rintro e wn ⟨rfl, hb⟩; have k_ := Aside0.mk (below_step HB.out hb); clear HB; have HB := k_; clear k_; (try clear hb); (try clear hR))
    | (go_at_call 14; with_reducible refine (known_c _ (HG.out.of HB.out)).mono ?_; rintro e wn ⟨rfl, hb⟩; have k_ := Aside0.mk (below_step HB.out hb); clear HB; have HB := k_; clear k_; (try (have k_ := Aside0.mk (D.out.below hb); clear D; have D := k_; clear k_)); (try clear hb); (try clear hR)))
  go_ret
  exact ⟨rfl, HB.out⟩
set_option maxRecDepth 100000 in
set_option maxHeartbeats 8000000 in
theorem only_odd (A0 : Option Addr) (n0 c0 : Nat) (l : List (List Int)) (a b : Int) (A3 : Option Addr) (n3 c3 : Nat) (mark : List Int) (AW : Option Addr) (nW cW : Nat) (way : List (List Int)) (w : World) (HG : Glb w) (VL : IsN w (.slice A0 n0 c0) l) (VT : IsB w (.slice A3 n3 c3) mark) (VW : IsN w (.slice AW nW cW) way) {r r2 : Int} (HR : ∃ j, imprimaturref06_Size.f j l 900 = some r) (HR2 : ∃ j, imprimaturref06_Size.f j way 500 = some r2) (HBm : (decide (900 < r) || decide (40 < (l.length : Int))) = false) (h0 : 1 ≤ n0) (h3 : n3 ≠ 32) :
    Calls Tryd.prog 9 #[.slice A0 n0 c0, .int .i64 a, .int .i64 b, .slice A3 n3 c3, .slice AW nW cW] w fun e w' => e = .returned (.bool true) ∧ Below w.heap.size w w' := by
  have HG := Aside0.mk HG
  have VL := Aside0.mk VL
  have VT := Aside0.mk VT
  have VW := Aside0.mk VW
  have HB := Aside0.mk (Below.refl w.heap.size w)
  have HR := Aside0.mk HR
  have HR2 := Aside0.mk HR2
  have HBm := Aside0.mk HBm
  have zk : ((n0 : Int) == 0) = false := beq_eq_false_iff_ne.2 (by omega)
  have ck : ((n3 : Int) != 32) = true := bne_iff_ne.2 (by omega)
  go_enter Tryd.func9, Tryd.ntmps9
  go_wp2_with (first
    | (go_at_call 13; with_reducible refine (many_v (VL.out.below HB.out) HR.out HBm.out).mono ?_; rintro e wn ⟨rfl, hb⟩; have k_ := Aside0.mk (below_step HB.out hb); clear HB; have HB := k_; clear k_; (try clear hb); (try clear hR))
    | (go_at_call 14; with_reducible refine (known_c _ (HG.out.of HB.out)).mono ?_; rintro e wn ⟨rfl, hb⟩; have k_ := Aside0.mk (below_step HB.out hb); clear HB; have HB := k_; clear k_; (try (have k_ := Aside0.mk (D.out.below hb); clear D; have D := k_; clear k_)); (try clear hb); (try clear hR)))
  go_ret
  exact ⟨rfl, HB.out⟩
set_option maxRecDepth 100000 in
set_option maxHeartbeats 8000000 in
theorem only_big (A0 : Option Addr) (n0 c0 : Nat) (l : List (List Int)) (a b : Int) (A3 : Option Addr) (n3 c3 : Nat) (mark : List Int) (AW : Option Addr) (nW cW : Nat) (way : List (List Int)) (w : World) (HG : Glb w) (VL : IsN w (.slice A0 n0 c0) l) (VT : IsB w (.slice A3 n3 c3) mark) (VW : IsN w (.slice AW nW cW) way) {r r2 : Int} (HR : ∃ j, imprimaturref06_Size.f j l 900 = some r) (HR2 : ∃ j, imprimaturref06_Size.f j way 500 = some r2) (HBm : (decide (900 < r) || decide (40 < (l.length : Int))) = false) (h0 : 1 ≤ n0) (h3 : n3 = 32) (h5 : 500 < r2) :
    Calls Tryd.prog 9 #[.slice A0 n0 c0, .int .i64 a, .int .i64 b, .slice A3 n3 c3, .slice AW nW cW] w fun e w' => e = .returned (.bool true) ∧ Below w.heap.size w w' := by
  subst h3
  have HG := Aside0.mk HG
  have VL := Aside0.mk VL
  have VT := Aside0.mk VT
  have VW := Aside0.mk VW
  have HB := Aside0.mk (Below.refl w.heap.size w)
  have HR := Aside0.mk HR
  have HR2 := Aside0.mk HR2
  have HBm := Aside0.mk HBm
  have zk : ((n0 : Int) == 0) = false := beq_eq_false_iff_ne.2 (by omega)
  have cr : ((500 : Int) < r2) = True := eq_true (by omega)
  go_enter Tryd.func9, Tryd.ntmps9
  go_wp2_with (first
    | (go_at_call 13; with_reducible refine (many_v (VL.out.below HB.out) HR.out HBm.out).mono ?_; rintro e wn ⟨rfl, hb⟩; have k_ := Aside0.mk (below_step HB.out hb); clear HB; have HB := k_; clear k_; (try clear hb); (try clear hR))
    | (go_at_call 33; with_reducible refine (size_v (VW.out.below HB.out) HR2.out).mono ?_; rintro e wn ⟨rfl, hb⟩; have k_ := Aside0.mk (below_step HB.out hb); clear HB; have HB := k_; clear k_; (try clear hb); (try clear hR))
    | (go_at_call 14; with_reducible refine (known_c _ (HG.out.of HB.out)).mono ?_; rintro e wn ⟨rfl, hb⟩; have k_ := Aside0.mk (below_step HB.out hb); clear HB; have HB := k_; clear k_; (try (have k_ := Aside0.mk (D.out.below hb); clear D; have D := k_; clear k_)); (try clear hb); (try clear hR)))
  go_ret
  exact ⟨rfl, HB.out⟩
set_option maxRecDepth 100000 in
set_option maxHeartbeats 8000000 in
theorem only_no (A0 : Option Addr) (n0 c0 : Nat) (l : List (List Int)) (a b : Int) (A3 : Option Addr) (n3 c3 : Nat) (mark : List Int) (AW : Option Addr) (nW cW : Nat) (way : List (List Int)) (w : World) (HG : Glb w) (VL : IsN w (.slice A0 n0 c0) l) (VT : IsB w (.slice A3 n3 c3) mark) (VW : IsN w (.slice AW nW cW) way) {r r2 : Int} (HR : ∃ j, imprimaturref06_Size.f j l 900 = some r) (HR2 : ∃ j, imprimaturref06_Size.f j way 500 = some r2) (HBm : (decide (900 < r) || decide (40 < (l.length : Int))) = false) (h0 : 1 ≤ n0) (h3 : n3 = 32) (h5 : ¬ 500 < r2) (HS : (∀ x ∈ l, (∀ y ∈ x, 0 ≤ y ∧ y < 256) ∧ x.length ≤ 8192) ∧ l.length ≤ 4096) (HML : (marks l).length = n0) (h40 : n0 ≤ 40) (HLv : Lv (marks l)) {x : Int} (HIn : ∃ j, trail_In.f j (hdL (marks l) n0) a b mark way = some x) (hx : x ≠ 0) :
    Calls Tryd.prog 9 #[.slice A0 n0 c0, .int .i64 a, .int .i64 b, .slice A3 n3 c3, .slice AW nW cW] w fun e w' => e = .returned (.bool true) ∧ Below w.heap.size w w' := by
  subst h3
  have HG := Aside0.mk HG
  have VL := Aside0.mk VL
  have VT := Aside0.mk VT
  have VW := Aside0.mk VW
  have HB := Aside0.mk (Below.refl w.heap.size w)
  have HR := Aside0.mk HR
  have HR2 := Aside0.mk HR2
  have HBm := Aside0.mk HBm
  have HS := Aside0.mk HS
  have HML := Aside0.mk HML
  have HLv := Aside0.mk HLv
  have zk : ((n0 : Int) == 0) = false := beq_eq_false_iff_ne.2 (by omega)
  have cr : ((500 : Int) < r2) = False := eq_false (by omega)
  have HIn := Aside0.mk HIn
  have cx : (x != 0) = true := bne_iff_ne.2 hx
  go_enter Tryd.func9, Tryd.ntmps9
  go_wp2_with (first
    | (go_at_call 13; with_reducible refine (many_v (VL.out.below HB.out) HR.out HBm.out).mono ?_; rintro e wn ⟨rfl, hb⟩; have k_ := Aside0.mk (below_step HB.out hb); clear HB; have HB := k_; clear k_; (try clear hb); (try clear hR))
    | (go_at_call 33; with_reducible refine (size_v (VW.out.below HB.out) HR2.out).mono ?_; rintro e wn ⟨rfl, hb⟩; have k_ := Aside0.mk (below_step HB.out hb); clear HB; have HB := k_; clear k_; (try clear hb); (try clear hR))
    | (go_at_call 15; with_reducible refine (row_v (HG.out.of HB.out) (VL.out.below HB.out) HS.out.1 HS.out.2).mono ?_; rintro e wn ⟨rfl, hR, hb⟩; have k_ := Aside0.mk (below_step HB.out hb); clear HB; have HB := k_; clear k_; have T := Aside0.mk hR; clear hR; (try clear hb); (try clear hR))
    | (go_at_call 19; have hc_ := T.out.head n0 (by rw [HML.out]; exact Nat.le_refl _); with_reducible refine (hc_).mono ?_; rintro e wn ⟨v, rfl, hR, hb⟩; have k_ := Aside0.mk (below_step HB.out hb); clear HB; have HB := k_; clear k_; (try (have k_ := Aside0.mk (T.out.below hb); clear T; have T := k_; clear k_)); have VH := Aside0.mk (IsB.of_R hR); clear hR hc_; (try clear hb); (try clear hR))
    | (go_at_call 34; with_reducible refine (in_v (HG.out.of HB.out) VH.out (VT.out.below HB.out) (VW.out.below HB.out) HIn.out).mono ?_; rintro e wn ⟨rfl, hb⟩; have k_ := Aside0.mk (below_step HB.out hb); clear HB; have HB := k_; clear k_; (try clear hb); (try clear hR))
    | (go_at_call 14; with_reducible refine (known_c _ (HG.out.of HB.out)).mono ?_; rintro e wn ⟨rfl, hb⟩; have k_ := Aside0.mk (below_step HB.out hb); clear HB; have HB := k_; clear k_; (try (have k_ := Aside0.mk (D.out.below hb); clear D; have D := k_; clear k_)); (try clear hb); (try clear hR)))
  all_goals (go_ret; exact ⟨rfl, HB.out⟩)
set_option maxRecDepth 100000 in
set_option maxHeartbeats 8000000 in
theorem only_A (A0 : Option Addr) (n0 c0 : Nat) (l : List (List Int)) (n q : Nat) (A3 : Option Addr) (n3 c3 : Nat) (mark : List Int) (AW : Option Addr) (nW cW : Nat) (way : List (List Int)) (w : World) (HG : Glb w) (VL : IsN w (.slice A0 n0 c0) l) (VT : IsB w (.slice A3 n3 c3) mark) (VW : IsN w (.slice AW nW cW) way) {r r2 : Int} (HR : ∃ j, imprimaturref06_Size.f j l 900 = some r) (HR2 : ∃ j, imprimaturref06_Size.f j way 500 = some r2) (HBm : (decide (900 < r) || decide (40 < (l.length : Int))) = false) (h0 : 1 ≤ n0) (h3 : n3 = 32) (h5 : ¬ 500 < r2) (HS : (∀ x ∈ l, (∀ y ∈ x, 0 ≤ y ∧ y < 256) ∧ x.length ≤ 8192) ∧ l.length ≤ 4096) (HML : (marks l).length = n0) (h40 : n0 ≤ 40) (HLv : Lv (marks l)) (HIn : ∃ j, trail_In.f j (hdL (marks l) n0) n q mark way = some 0) (HT32 : mark.length = 32 ∧ BytesB mark) (HWl : Lv way ∧ way.length ≤ 4096) (HWk : way.length ≤ 500) (HN : 1 ≤ n ∧ n ≤ 4096 ∧ q < n) (HCl : ∃ j, imprimaturref06_Clash.f j ((upT n q mark way).2.1 ++ [18 :: (e8 n ++ (upT n q mark way).1), 18 :: (e8 n0 ++ topL (marks l))] ++ textsL (marks l) ++ mtexts l) = some true) (hne : n ≠ n0) :
    Calls Tryd.prog 9 #[.slice A0 n0 c0, .int .i64 n, .int .i64 q, .slice A3 n3 c3, .slice AW nW cW] w fun e w' => e = .returned (.bool true) ∧ Below w.heap.size w w' := by
  subst h3
  have HG := Aside0.mk HG
  have VL := Aside0.mk VL
  have VT := Aside0.mk VT
  have VW := Aside0.mk VW
  have HB := Aside0.mk (Below.refl w.heap.size w)
  have HR := Aside0.mk HR
  have HR2 := Aside0.mk HR2
  have HBm := Aside0.mk HBm
  have HS := Aside0.mk HS
  have HML := Aside0.mk HML
  have HLv := Aside0.mk HLv
  have zk : ((n0 : Int) == 0) = false := beq_eq_false_iff_ne.2 (by omega)
  have cr : ((500 : Int) < r2) = False := eq_false (by omega)
  have HIn := Aside0.mk HIn
  have HT32 := Aside0.mk HT32
  have HWl := Aside0.mk HWl
  have HWk := Aside0.mk HWk
  have HN := Aside0.mk HN
  have HMl := Aside0.mk (show (marks l).length ≤ 4096 by rw [HML.out]; omega)
  have HM1 := Aside0.mk (show 1 ≤ (marks l).length by rw [HML.out]; omega)
  have HTb := Aside0.mk HT32.out.2
  have HSl := Aside0.mk (fun x hx => (HS.out.1 x hx).2 : ∀ x ∈ l, x.length ≤ 8192)
  have hu := upT_ok n q mark way HT32.out HWl.out.1
  have htp := topL_32 HLv.out HM1.out
  have HXl := Aside0.mk (show (upT n q mark way).1.length ≤ 200000 by have := hu.1.1; omega)
  have HYl := Aside0.mk (show (topL (marks l)).length ≤ 200000 by have := htp.1; omega)
  have hxt := (textsL_ok (marks l).length (marks l) rfl HLv.out).1
  have hmt : (mtexts l).length ≤ 42 := by unfold mtexts; have := marks_length l; have := HML.out; simp; omega
  have HLa := Aside0.mk (show ((upT n q mark way).2.1.length + 2) * 24 ≤ 140737488355328 by have := hu.2.1; have := HWk.out; omega)
  have HLb := Aside0.mk (show (((upT n q mark way).2.1 ++ [18 :: (e8 n ++ (upT n q mark way).1), 18 :: (e8 n0 ++ topL (marks l))]).length + (textsL (marks l)).length) * 24 ≤ 140737488355328 by have := hu.2.1; have := HWk.out; have := HML.out; simp only [List.length_append, List.length_cons, List.length_nil]; omega)
  have HLc := Aside0.mk (show (((upT n q mark way).2.1 ++ [18 :: (e8 n ++ (upT n q mark way).1), 18 :: (e8 n0 ++ topL (marks l))] ++ textsL (marks l)).length + (mtexts l).length) * 24 ≤ 140737488355328 by have := hu.2.1; have := HWk.out; have := HML.out; simp only [List.length_append, List.length_cons, List.length_nil]; omega)
  clear hu htp hxt hmt
  have HCl := Aside0.mk HCl
  have cn : ((n : Int) == (n0 : Int)) = false := beq_eq_false_iff_ne.2 (by omega)
  go_enter Tryd.func9, Tryd.ntmps9
  go_wp2_with (first
    | (go_at_call 13; with_reducible refine (many_v (VL.out.below HB.out) HR.out HBm.out).mono ?_; rintro e wn ⟨rfl, hb⟩; have k_ := Aside0.mk (below_step HB.out hb); clear HB; have HB := k_; clear k_; (try clear hb); (try clear hR))
    | (go_at_call 33; with_reducible refine (size_v (VW.out.below HB.out) HR2.out).mono ?_; rintro e wn ⟨rfl, hb⟩; have k_ := Aside0.mk (below_step HB.out hb); clear HB; have HB := k_; clear k_; (try clear hb); (try clear hR))
    | (go_at_call 15; with_reducible refine (row_v (HG.out.of HB.out) (VL.out.below HB.out) HS.out.1 HS.out.2).mono ?_; rintro e wn ⟨rfl, hR, hb⟩; have k_ := Aside0.mk (below_step HB.out hb); clear HB; have HB := k_; clear k_; have T := Aside0.mk hR; clear hR; (try clear hb); (try clear hR))
    | (go_at_call 19; have hc_ := T.out.head n0 (by rw [HML.out]; exact Nat.le_refl _); with_reducible refine (hc_).mono ?_; rintro e wn ⟨v, rfl, hR, hb⟩; have k_ := Aside0.mk (below_step HB.out hb); clear HB; have HB := k_; clear k_; (try (have k_ := Aside0.mk (T.out.below hb); clear T; have T := k_; clear k_)); have VH := Aside0.mk (IsB.of_R hR); clear hR hc_; (try clear hb); (try clear hR))
    | (go_at_call 34; with_reducible refine (in_v (HG.out.of HB.out) VH.out (VT.out.below HB.out) (VW.out.below HB.out) HIn.out).mono ?_; rintro e wn ⟨rfl, hb⟩; have k_ := Aside0.mk (below_step HB.out hb); clear HB; have HB := k_; clear k_; (try clear hb); (try clear hR))
    | (go_at_call 17; have hz_ := HB.out.size; with_reducible refine (marks_v (VL.out.below HB.out) HS.out.1 HS.out.2).mono ?_; rintro e wn ⟨v, rfl, hR, hb⟩; have k_ := Aside0.mk (below_step HB.out hb); clear HB; have HB := k_; clear k_; obtain ⟨Am, cm, rfl⟩ := hR.slice; rw [HML.out] at hR ⊢; obtain ⟨B, hle, hVQ⟩ := Vq.of hR; have HBB := Aside0.mk (Nat.le_trans (Nat.le_trans hz_ hb.size) hle); have VQ := Aside0.mk hVQ; clear hR hVQ hle hz_; (try clear hb); (try clear hR))
    | (go_at_call 36; with_reducible refine (refup_q HB.out HBB.out VQ.out (VT.out.below HB.out) (VW.out.below HB.out) HT32.out HWl.out.1 (Nat.le_trans HWk.out (by decide)) HN.out.1 HN.out.2.1 HN.out.2.2).mono ?_; rintro e wn ⟨v0, v1, rfl, hR, hb⟩; have k_ := Aside0.mk (below_step HB.out hb); clear HB; have HB := k_; clear k_; (try (have k_ := Aside0.mk (VQ.out.below hb); clear VQ; have VQ := k_; clear k_)); have VX := Aside0.mk hR.1; have D := Aside0.mk hR.2; clear hR; (try clear hb); (try clear hR))
    | (go_at_call 37; obtain ⟨s_, hs_, hO_⟩ := D.out.lt; have HO := Aside0.mk hO_; have Z1 := Aside0.mk (show Sz _ s_ from hs_); clear hs_ hO_; with_reducible refine (headtext_q VX.out HXl.out Z1.out).mono ?_; rintro e wn ⟨v, rfl, hR, hb⟩; have k_ := Aside0.mk (below_step HB.out hb); clear HB; have HB := k_; clear k_; (try (have k_ := Aside0.mk (D.out.below hb); clear D; have D := k_; clear k_)); (try (have k_ := Aside0.mk (VQ.out.below hb); clear VQ; have VQ := k_; clear k_)); (try (have k_ := Aside0.mk (QA.out.below hb); clear QA; have QA := k_; clear k_)); (try (have k_ := Aside0.mk (Z1.out.below hb); clear Z1; have Z1 := k_; clear k_)); obtain ⟨AA, cA, rfl⟩ := hR.b.slice; obtain ⟨kA, hk_⟩ : ∃ k_, k_ = (18 :: (e8 n ++ (upT n q mark way).1) : List Int).length := ⟨_, rfl⟩; rw [← hk_] at hR ⊢; have QA := Aside0.mk hR; clear hR hk_; (try clear hb); (try clear hR))
    | (go_at_call 23; with_reducible refine (refTop_v VQ.out.isN HLv.out HM1.out HMl.out).mono ?_; rintro e wn ⟨v, rfl, hR, hb⟩; have k_ := Aside0.mk (below_step HB.out hb); clear HB; have HB := k_; clear k_; (try (have k_ := Aside0.mk (D.out.below hb); clear D; have D := k_; clear k_)); (try (have k_ := Aside0.mk (VQ.out.below hb); clear VQ; have VQ := k_; clear k_)); (try (have k_ := Aside0.mk (QA.out.below hb); clear QA; have QA := k_; clear k_)); (try (have k_ := Aside0.mk (Z1.out.below hb); clear Z1; have Z1 := k_; clear k_)); have VY := Aside0.mk hR; clear hR; (try clear hb); (try clear hR))
    | (go_at_call 37; with_reducible refine (headtext_q VY.out HYl.out Z1.out).mono ?_; rintro e wn ⟨v, rfl, hR, hb⟩; have k_ := Aside0.mk (below_step HB.out hb); clear HB; have HB := k_; clear k_; (try (have k_ := Aside0.mk (D.out.below hb); clear D; have D := k_; clear k_)); (try (have k_ := Aside0.mk (VQ.out.below hb); clear VQ; have VQ := k_; clear k_)); (try (have k_ := Aside0.mk (QA.out.below hb); clear QA; have QA := k_; clear k_)); (try (have k_ := Aside0.mk (Z1.out.below hb); clear Z1; have Z1 := k_; clear k_)); obtain ⟨AB, cB, rfl⟩ := hR.b.slice; obtain ⟨kB, hk_⟩ : ∃ k_, k_ = (18 :: (e8 n0 ++ topL (marks l)) : List Int).length := ⟨_, rfl⟩; rw [← hk_] at hR ⊢; have QB := Aside0.mk hR; clear hR hk_; (try clear hb); (try clear hR))
    | ((with_reducible refine gate_dst (N := 104) rfl ?_); refine Kd.N_lit (w0 := wn) dB wn.heap.size 23 ?hg (N' := 104) ?hd (xs := [18 :: (e8 n ++ (upT n q mark way).1), 18 :: (e8 n0 ++ topL (marks l))]) (inner := [.slice AA kA cA, .slice AB kB cB]) (ok := fun k => k < B ∨ s_ ≤ k) (okp := fun k => k < B ∨ s_ ≤ k) ?hr (two_q QA.out QB.out) (fun _ h => h) (.inr Z1.out) (Below.refl _ _) (Nat.le_refl _) (by simp) ?_; (case hd => rfl); (case hg => rfl); (case hr => first | (go_simp; done) | (go_simp; rfl)); intro v4 w4 ho4 hb4 hg4 hn4; have hb := below_new hg4; have k_ := Aside0.mk (below_step HB.out hb); clear HB; have HB := k_; clear k_; (try (have k_ := Aside0.mk (D.out.below hb); clear D; have D := k_; clear k_)); (try (have k_ := Aside0.mk (Z1.out.below hb); clear Z1; have Z1 := k_; clear k_)); obtain ⟨A4, c4, rfl⟩ := Kd.N_slice ho4; have QN := Aside0.mk (Nq.of ho4); clear ho4 hb4 hg4 hn4 hb)
    | ((with_reducible refine gate_builtin (b := .append) (xs := #[.tmp 95, .tmp 104]) rfl ?_); at_builtin; obtain ⟨bq_, hq_⟩ := QN.out; refine N_append_N dB (w0 := w) w.heap.size rfl (.tmp 95) (.tmp 104) 22 23 (.slice none 0 0) 24 rfl Tryd.underlying22 info_row rfl (by decide) (by decide) _ _ _ _ _ _ (fun _ => True) (fun k => k < B ∨ s_ ≤ k) rfl rfl D.out.n hq_ (D.out.apart HO.out _) (fun _ _ => trivial) HB.out HB.out.size HLa.out ?_; intro v5 w5 hN5 hB5 hg5 hat5; have D_ := Aside0.mk (D.out.app hN5 hB5 hg5 hat5); clear D; have D := D_; clear D_ HB QN HO Z1 hq_; have HB := Aside0.mk hB5; clear hN5 hB5 hg5 hat5)
    | (go_at_call 38; obtain ⟨s_, hs_, hO_⟩ := D.out.lt; have HO := Aside0.mk hO_; have Z1 := Aside0.mk (show Sz _ s_ from hs_); clear hs_ hO_; with_reducible refine (texts_q D.out.k HLv.out HMl.out Z1.out).mono ?_; rintro e wn ⟨v, rfl, hR, hb⟩; have k_ := Aside0.mk (below_step HB.out hb); clear HB; have HB := k_; clear k_; (try (have k_ := Aside0.mk (D.out.below hb); clear D; have D := k_; clear k_)); obtain ⟨A6, c6, rfl⟩ := hR.slice; have QN := Aside0.mk hR; clear hR; (try clear hb); (try clear hR))
    | ((with_reducible refine gate_builtin (b := .append) (xs := #[.tmp 105, .tmp 107]) rfl ?_); at_builtin; obtain ⟨bq_, hq_⟩ := QN.out; refine N_append_N dB (w0 := w) w.heap.size rfl (.tmp 105) (.tmp 107) 22 23 (.slice none 0 0) 24 rfl Tryd.underlying22 info_row rfl (by decide) (by decide) _ _ _ _ _ _ (fun _ => True) (fun k => k < B ∨ s_ ≤ k) rfl rfl D.out.n hq_ (D.out.apart HO.out _) (fun _ _ => trivial) HB.out HB.out.size HLb.out ?_; intro v5 w5 hN5 hB5 hg5 hat5; have D_ := Aside0.mk (D.out.app hN5 hB5 hg5 hat5); clear D; have D := D_; clear D_ HB QN HO Z1 hq_; have HB := Aside0.mk hB5; clear hN5 hB5 hg5 hat5)
    | (go_at_call 39; obtain ⟨s_, hs_, hO_⟩ := D.out.lt; have HO := Aside0.mk hO_; have Z1 := Aside0.mk (show Sz _ s_ from hs_); clear hs_ hO_; with_reducible refine (marktexts_q B (VL.out.below HB.out) HSl.out HS.out.2 Z1.out).mono ?_; rintro e wn ⟨v, rfl, hR, hb⟩; have k_ := Aside0.mk (below_step HB.out hb); clear HB; have HB := k_; clear k_; (try (have k_ := Aside0.mk (D.out.below hb); clear D; have D := k_; clear k_)); obtain ⟨A7, c7, rfl⟩ := hR.slice; have QN := Aside0.mk hR; clear hR; (try clear hb); (try clear hR))
    | ((with_reducible refine gate_builtin (b := .append) (xs := #[.tmp 108, .tmp 110]) rfl ?_); at_builtin; obtain ⟨bq_, hq_⟩ := QN.out; refine N_append_N dB (w0 := w) w.heap.size rfl (.tmp 108) (.tmp 110) 22 23 (.slice none 0 0) 24 rfl Tryd.underlying22 info_row rfl (by decide) (by decide) _ _ _ _ _ _ (fun _ => True) (fun k => k < B ∨ s_ ≤ k) rfl rfl D.out.n hq_ (D.out.apart HO.out _) (fun _ _ => trivial) HB.out HB.out.size HLc.out ?_; intro v5 w5 hN5 hB5 hg5 hat5; have D_ := Aside0.mk (D.out.app hN5 hB5 hg5 hat5); clear D; have D := D_; clear D_ HB QN HO Z1 hq_; have HB := Aside0.mk hB5; clear hN5 hB5 hg5 hat5)
    | (go_at_call 14; with_reducible refine (known_c _ (HG.out.of HB.out)).mono ?_; rintro e wn ⟨rfl, hb⟩; have k_ := Aside0.mk (below_step HB.out hb); clear HB; have HB := k_; clear k_; (try (have k_ := Aside0.mk (D.out.below hb); clear D; have D := k_; clear k_)); (try clear hb); (try clear hR))
    | (go_at_call 40; with_reducible refine (clash_v D.out.all HCl.out).mono ?_; rintro e wn ⟨rfl, hb⟩; have k_ := Aside0.mk (below_step HB.out hb); clear HB; have HB := k_; clear k_; (try clear hb); (try clear hR)))
  all_goals (go_ret; exact ⟨rfl, HB.out⟩)
set_option maxRecDepth 100000 in
set_option maxHeartbeats 8000000 in
theorem only_yes (A0 : Option Addr) (c0 : Nat) (l : List (List Int)) (n q : Nat) (A3 : Option Addr) (n3 c3 : Nat) (mark : List Int) (AW : Option Addr) (nW cW : Nat) (way : List (List Int)) (w : World) (HG : Glb w) (VL : IsN w (.slice A0 n c0) l) (VT : IsB w (.slice A3 n3 c3) mark) (VW : IsN w (.slice AW nW cW) way) {r r2 : Int} (HR : ∃ j, imprimaturref06_Size.f j l 900 = some r) (HR2 : ∃ j, imprimaturref06_Size.f j way 500 = some r2) (HBm : (decide (900 < r) || decide (40 < (l.length : Int))) = false) (h0 : 1 ≤ n) (h3 : n3 = 32) (h5 : ¬ 500 < r2) (HS : (∀ x ∈ l, (∀ y ∈ x, 0 ≤ y ∧ y < 256) ∧ x.length ≤ 8192) ∧ l.length ≤ 4096) (HML : (marks l).length = n) (h40 : n ≤ 40) (HLv : Lv (marks l)) (HIn : ∃ j, trail_In.f j (hdL (marks l) n) n q mark way = some 0) (HT32 : mark.length = 32 ∧ BytesB mark) (HWl : Lv way ∧ way.length ≤ 4096) (HWk : way.length ≤ 500) (HN : 1 ≤ n ∧ n ≤ 4096 ∧ q < n) (hS : mark = (marks l).getD q []) (hW : way = walkL (marks l) q) :
    Calls Tryd.prog 9 #[.slice A0 n c0, .int .i64 n, .int .i64 q, .slice A3 n3 c3, .slice AW nW cW] w fun e w' => e = .returned (.bool true) ∧ Below w.heap.size w w' := by
  subst h3
  have HG := Aside0.mk HG
  have VL := Aside0.mk VL
  have VT := Aside0.mk VT
  have VW := Aside0.mk VW
  have HB := Aside0.mk (Below.refl w.heap.size w)
  have HR := Aside0.mk HR
  have HR2 := Aside0.mk HR2
  have HBm := Aside0.mk HBm
  have HS := Aside0.mk HS
  have HML := Aside0.mk HML
  have HLv := Aside0.mk HLv
  have zk : ((n : Int) == 0) = false := beq_eq_false_iff_ne.2 (by omega)
  have cr : ((500 : Int) < r2) = False := eq_false (by omega)
  have HIn := Aside0.mk HIn
  have HT32 := Aside0.mk HT32
  have HWl := Aside0.mk HWl
  have HWk := Aside0.mk HWk
  have HN := Aside0.mk HN
  have HMl := Aside0.mk (show (marks l).length ≤ 4096 by rw [HML.out]; omega)
  have HM1 := Aside0.mk (show 1 ≤ (marks l).length by rw [HML.out]; omega)
  have HTb := Aside0.mk HT32.out.2
  have HSl := Aside0.mk (fun x hx => (HS.out.1 x hx).2 : ∀ x ∈ l, x.length ≤ 8192)
  have hu := upT_ok n q mark way HT32.out HWl.out.1
  have htp := topL_32 HLv.out HM1.out
  have HXl := Aside0.mk (show (upT n q mark way).1.length ≤ 200000 by have := hu.1.1; omega)
  have HYl := Aside0.mk (show (topL (marks l)).length ≤ 200000 by have := htp.1; omega)
  have hxt := (textsL_ok (marks l).length (marks l) rfl HLv.out).1
  have hmt : (mtexts l).length ≤ 42 := by unfold mtexts; have := marks_length l; have := HML.out; simp; omega
  have HLa := Aside0.mk (show ((upT n q mark way).2.1.length + 2) * 24 ≤ 140737488355328 by have := hu.2.1; have := HWk.out; omega)
  have HLb := Aside0.mk (show (((upT n q mark way).2.1 ++ [18 :: (e8 n ++ (upT n q mark way).1), 18 :: (e8 n ++ topL (marks l))]).length + (textsL (marks l)).length) * 24 ≤ 140737488355328 by have := hu.2.1; have := HWk.out; have := HML.out; simp only [List.length_append, List.length_cons, List.length_nil]; omega)
  have HLc := Aside0.mk (show (((upT n q mark way).2.1 ++ [18 :: (e8 n ++ (upT n q mark way).1), 18 :: (e8 n ++ topL (marks l))] ++ textsL (marks l)).length + (mtexts l).length) * 24 ≤ 140737488355328 by have := hu.2.1; have := HWk.out; have := HML.out; simp only [List.length_append, List.length_cons, List.length_nil]; omega)
  clear hu htp hxt hmt
  have HSb := Aside0.mk hS
  have HSn := Aside0.mk hW
  have HQn := Aside0.mk (show q < n by have := HN.out.2.2; omega)
  have HQn2 := Aside0.mk (show q < (marks l).length by rw [HML.out]; exact HQn.out)
  have HEb := Aside0.mk (HLv.out _ (getD_mem' (l := marks l) (i := q) HQn2.out)).2
  have pk : (0 ≤ (q : Int)) = True := eq_true (by omega)
  have qk : ((q : Int) < (n : Int)) = True := eq_true (by have := HQn.out; omega)
  have HWy := Aside0.mk (fun x hx => (walkL_32 (marks l).length (marks l) q rfl HLv.out x hx).2 : ∀ x ∈ walkL (marks l) q, ∀ y ∈ x, 0 ≤ y ∧ y < 256)
  go_enter Tryd.func9, Tryd.ntmps9
  go_wp2_with (first
    | (go_at_call 13; with_reducible refine (many_v (VL.out.below HB.out) HR.out HBm.out).mono ?_; rintro e wn ⟨rfl, hb⟩; have k_ := Aside0.mk (below_step HB.out hb); clear HB; have HB := k_; clear k_; (try clear hb); (try clear hR))
    | (go_at_call 33; with_reducible refine (size_v (VW.out.below HB.out) HR2.out).mono ?_; rintro e wn ⟨rfl, hb⟩; have k_ := Aside0.mk (below_step HB.out hb); clear HB; have HB := k_; clear k_; (try clear hb); (try clear hR))
    | (go_at_call 15; with_reducible refine (row_v (HG.out.of HB.out) (VL.out.below HB.out) HS.out.1 HS.out.2).mono ?_; rintro e wn ⟨rfl, hR, hb⟩; have k_ := Aside0.mk (below_step HB.out hb); clear HB; have HB := k_; clear k_; have T := Aside0.mk hR; clear hR; (try clear hb); (try clear hR))
    | (go_at_call 19; have hc_ := T.out.head n (by rw [HML.out]; exact Nat.le_refl _); with_reducible refine (hc_).mono ?_; rintro e wn ⟨v, rfl, hR, hb⟩; have k_ := Aside0.mk (below_step HB.out hb); clear HB; have HB := k_; clear k_; (try (have k_ := Aside0.mk (T.out.below hb); clear T; have T := k_; clear k_)); have VH := Aside0.mk (IsB.of_R hR); clear hR hc_; (try clear hb); (try clear hR))
    | (go_at_call 34; with_reducible refine (in_v (HG.out.of HB.out) VH.out (VT.out.below HB.out) (VW.out.below HB.out) HIn.out).mono ?_; rintro e wn ⟨rfl, hb⟩; have k_ := Aside0.mk (below_step HB.out hb); clear HB; have HB := k_; clear k_; (try clear hb); (try clear hR))
    | (go_at_call 17; have hz_ := HB.out.size; with_reducible refine (marks_v (VL.out.below HB.out) HS.out.1 HS.out.2).mono ?_; rintro e wn ⟨v, rfl, hR, hb⟩; have k_ := Aside0.mk (below_step HB.out hb); clear HB; have HB := k_; clear k_; obtain ⟨Am, cm, rfl⟩ := hR.slice; rw [HML.out] at hR ⊢; obtain ⟨A9, c9, ad, hA, hcell, hV9⟩ := cell_of hR HQn.out HML.out HLv.out; subst hA; have VE := Aside0.mk hV9; clear hV9; obtain ⟨B, hle, hVQ⟩ := Vq.of hR; have HBB := Aside0.mk (Nat.le_trans (Nat.le_trans hz_ hb.size) hle); have VQ := Aside0.mk hVQ; clear hR hVQ hle hz_; (try clear hb); (try clear hR))
    | (go_at_call 21; have hc_ := same_c (VT.out.below HB.out) VE.out HTb.out HEb.out; rw [decide_eq_true HSb.out] at hc_; with_reducible refine (hc_).mono ?_; rintro e wn ⟨rfl, hb⟩; have k_ := Aside0.mk (below_step HB.out hb); clear HB; have HB := k_; clear k_; (try (have k_ := Aside0.mk (VQ.out.below hb); clear VQ; have VQ := k_; clear k_)); clear hc_; (try clear hb); (try clear hR))
    | (go_at_call 30; with_reducible refine (refWay_v VQ.out.isN HLv.out HMl.out q HQn2.out).mono ?_; rintro e wn ⟨v, rfl, hR, hb⟩; have k_ := Aside0.mk (below_step HB.out hb); clear HB; have HB := k_; clear k_; (try (have k_ := Aside0.mk (VQ.out.below hb); clear VQ; have VQ := k_; clear k_)); have VA := Aside0.mk hR; clear hR; (try clear hb); (try clear hR))
    | (go_at_call 29; have hc_ := sameN_c (VW.out.below HB.out) VA.out HWl.out.1 HWy.out HWl.out.2; rw [decide_eq_true HSn.out] at hc_; with_reducible refine (hc_).mono ?_; rintro e wn ⟨rfl, hb⟩; have k_ := Aside0.mk (below_step HB.out hb); clear HB; have HB := k_; clear k_; (try (have k_ := Aside0.mk (VQ.out.below hb); clear VQ; have VQ := k_; clear k_)); clear hc_; (try clear hb); (try clear hR))
    | (go_at_call 14; with_reducible refine (known_c _ (HG.out.of HB.out)).mono ?_; rintro e wn ⟨rfl, hb⟩; have k_ := Aside0.mk (below_step HB.out hb); clear HB; have HB := k_; clear k_; (try (have k_ := Aside0.mk (D.out.below hb); clear D; have D := k_; clear k_)); (try clear hb); (try clear hR)))
  all_goals (go_ret; exact ⟨rfl, HB.out⟩)
set_option maxRecDepth 100000 in
set_option maxHeartbeats 8000000 in
theorem only_B (A0 : Option Addr) (c0 : Nat) (l : List (List Int)) (n q : Nat) (A3 : Option Addr) (n3 c3 : Nat) (mark : List Int) (AW : Option Addr) (nW cW : Nat) (way : List (List Int)) (w : World) (HG : Glb w) (VL : IsN w (.slice A0 n c0) l) (VT : IsB w (.slice A3 n3 c3) mark) (VW : IsN w (.slice AW nW cW) way) {r r2 : Int} (HR : ∃ j, imprimaturref06_Size.f j l 900 = some r) (HR2 : ∃ j, imprimaturref06_Size.f j way 500 = some r2) (HBm : (decide (900 < r) || decide (40 < (l.length : Int))) = false) (h0 : 1 ≤ n) (h3 : n3 = 32) (h5 : ¬ 500 < r2) (HS : (∀ x ∈ l, (∀ y ∈ x, 0 ≤ y ∧ y < 256) ∧ x.length ≤ 8192) ∧ l.length ≤ 4096) (HML : (marks l).length = n) (h40 : n ≤ 40) (HLv : Lv (marks l)) (HIn : ∃ j, trail_In.f j (hdL (marks l) n) n q mark way = some 0) (HT32 : mark.length = 32 ∧ BytesB mark) (HWl : Lv way ∧ way.length ≤ 4096) (HWk : way.length ≤ 500) (HN : 1 ≤ n ∧ n ≤ 4096 ∧ q < n) (HCl : ∃ j, imprimaturref06_Clash.f j ((upT n q mark way).2.1 ++ [18 :: (e8 n ++ (upT n q mark way).1), 18 :: (e8 n ++ topL (marks l))] ++ textsL (marks l) ++ mtexts l) = some true) (hS : ¬ mark = (marks l).getD q []) :
    Calls Tryd.prog 9 #[.slice A0 n c0, .int .i64 n, .int .i64 q, .slice A3 n3 c3, .slice AW nW cW] w fun e w' => e = .returned (.bool true) ∧ Below w.heap.size w w' := by
  subst h3
  have HG := Aside0.mk HG
  have VL := Aside0.mk VL
  have VT := Aside0.mk VT
  have VW := Aside0.mk VW
  have HB := Aside0.mk (Below.refl w.heap.size w)
  have HR := Aside0.mk HR
  have HR2 := Aside0.mk HR2
  have HBm := Aside0.mk HBm
  have HS := Aside0.mk HS
  have HML := Aside0.mk HML
  have HLv := Aside0.mk HLv
  have zk : ((n : Int) == 0) = false := beq_eq_false_iff_ne.2 (by omega)
  have cr : ((500 : Int) < r2) = False := eq_false (by omega)
  have HIn := Aside0.mk HIn
  have HT32 := Aside0.mk HT32
  have HWl := Aside0.mk HWl
  have HWk := Aside0.mk HWk
  have HN := Aside0.mk HN
  have HMl := Aside0.mk (show (marks l).length ≤ 4096 by rw [HML.out]; omega)
  have HM1 := Aside0.mk (show 1 ≤ (marks l).length by rw [HML.out]; omega)
  have HTb := Aside0.mk HT32.out.2
  have HSl := Aside0.mk (fun x hx => (HS.out.1 x hx).2 : ∀ x ∈ l, x.length ≤ 8192)
  have hu := upT_ok n q mark way HT32.out HWl.out.1
  have htp := topL_32 HLv.out HM1.out
  have HXl := Aside0.mk (show (upT n q mark way).1.length ≤ 200000 by have := hu.1.1; omega)
  have HYl := Aside0.mk (show (topL (marks l)).length ≤ 200000 by have := htp.1; omega)
  have hxt := (textsL_ok (marks l).length (marks l) rfl HLv.out).1
  have hmt : (mtexts l).length ≤ 42 := by unfold mtexts; have := marks_length l; have := HML.out; simp; omega
  have HLa := Aside0.mk (show ((upT n q mark way).2.1.length + 2) * 24 ≤ 140737488355328 by have := hu.2.1; have := HWk.out; omega)
  have HLb := Aside0.mk (show (((upT n q mark way).2.1 ++ [18 :: (e8 n ++ (upT n q mark way).1), 18 :: (e8 n ++ topL (marks l))]).length + (textsL (marks l)).length) * 24 ≤ 140737488355328 by have := hu.2.1; have := HWk.out; have := HML.out; simp only [List.length_append, List.length_cons, List.length_nil]; omega)
  have HLc := Aside0.mk (show (((upT n q mark way).2.1 ++ [18 :: (e8 n ++ (upT n q mark way).1), 18 :: (e8 n ++ topL (marks l))] ++ textsL (marks l)).length + (mtexts l).length) * 24 ≤ 140737488355328 by have := hu.2.1; have := HWk.out; have := HML.out; simp only [List.length_append, List.length_cons, List.length_nil]; omega)
  clear hu htp hxt hmt
  have HCl := Aside0.mk HCl
  have HSb := Aside0.mk hS
  have HQn := Aside0.mk (show q < n by have := HN.out.2.2; omega)
  have HQn2 := Aside0.mk (show q < (marks l).length by rw [HML.out]; exact HQn.out)
  have HEb := Aside0.mk (HLv.out _ (getD_mem' (l := marks l) (i := q) HQn2.out)).2
  have pk : (0 ≤ (q : Int)) = True := eq_true (by omega)
  have qk : ((q : Int) < (n : Int)) = True := eq_true (by have := HQn.out; omega)
  have HWy := Aside0.mk (fun x hx => (walkL_32 (marks l).length (marks l) q rfl HLv.out x hx).2 : ∀ x ∈ walkL (marks l) q, ∀ y ∈ x, 0 ≤ y ∧ y < 256)
  go_enter Tryd.func9, Tryd.ntmps9
  go_wp2_with (first
    | (go_at_call 13; with_reducible refine (many_v (VL.out.below HB.out) HR.out HBm.out).mono ?_; rintro e wn ⟨rfl, hb⟩; have k_ := Aside0.mk (below_step HB.out hb); clear HB; have HB := k_; clear k_; (try clear hb); (try clear hR))
    | (go_at_call 33; with_reducible refine (size_v (VW.out.below HB.out) HR2.out).mono ?_; rintro e wn ⟨rfl, hb⟩; have k_ := Aside0.mk (below_step HB.out hb); clear HB; have HB := k_; clear k_; (try clear hb); (try clear hR))
    | (go_at_call 15; with_reducible refine (row_v (HG.out.of HB.out) (VL.out.below HB.out) HS.out.1 HS.out.2).mono ?_; rintro e wn ⟨rfl, hR, hb⟩; have k_ := Aside0.mk (below_step HB.out hb); clear HB; have HB := k_; clear k_; have T := Aside0.mk hR; clear hR; (try clear hb); (try clear hR))
    | (go_at_call 19; have hc_ := T.out.head n (by rw [HML.out]; exact Nat.le_refl _); with_reducible refine (hc_).mono ?_; rintro e wn ⟨v, rfl, hR, hb⟩; have k_ := Aside0.mk (below_step HB.out hb); clear HB; have HB := k_; clear k_; (try (have k_ := Aside0.mk (T.out.below hb); clear T; have T := k_; clear k_)); have VH := Aside0.mk (IsB.of_R hR); clear hR hc_; (try clear hb); (try clear hR))
    | (go_at_call 34; with_reducible refine (in_v (HG.out.of HB.out) VH.out (VT.out.below HB.out) (VW.out.below HB.out) HIn.out).mono ?_; rintro e wn ⟨rfl, hb⟩; have k_ := Aside0.mk (below_step HB.out hb); clear HB; have HB := k_; clear k_; (try clear hb); (try clear hR))
    | (go_at_call 17; have hz_ := HB.out.size; with_reducible refine (marks_v (VL.out.below HB.out) HS.out.1 HS.out.2).mono ?_; rintro e wn ⟨v, rfl, hR, hb⟩; have k_ := Aside0.mk (below_step HB.out hb); clear HB; have HB := k_; clear k_; obtain ⟨Am, cm, rfl⟩ := hR.slice; rw [HML.out] at hR ⊢; obtain ⟨A9, c9, ad, hA, hcell, hV9⟩ := cell_of hR HQn.out HML.out HLv.out; subst hA; have VE := Aside0.mk hV9; clear hV9; obtain ⟨B, hle, hVQ⟩ := Vq.of hR; have HBB := Aside0.mk (Nat.le_trans (Nat.le_trans hz_ hb.size) hle); have VQ := Aside0.mk hVQ; clear hR hVQ hle hz_; (try clear hb); (try clear hR))
    | (go_at_call 21; have hc_ := same_c (VT.out.below HB.out) VE.out HTb.out HEb.out; rw [decide_eq_false HSb.out] at hc_; with_reducible refine (hc_).mono ?_; rintro e wn ⟨rfl, hb⟩; have k_ := Aside0.mk (below_step HB.out hb); clear HB; have HB := k_; clear k_; (try (have k_ := Aside0.mk (VQ.out.below hb); clear VQ; have VQ := k_; clear k_)); clear hc_; (try clear hb); (try clear hR))
    | (go_at_call 36; with_reducible refine (refup_q HB.out HBB.out VQ.out (VT.out.below HB.out) (VW.out.below HB.out) HT32.out HWl.out.1 (Nat.le_trans HWk.out (by decide)) HN.out.1 HN.out.2.1 HN.out.2.2).mono ?_; rintro e wn ⟨v0, v1, rfl, hR, hb⟩; have k_ := Aside0.mk (below_step HB.out hb); clear HB; have HB := k_; clear k_; (try (have k_ := Aside0.mk (VQ.out.below hb); clear VQ; have VQ := k_; clear k_)); have VX := Aside0.mk hR.1; have D := Aside0.mk hR.2; clear hR; (try clear hb); (try clear hR))
    | (go_at_call 37; obtain ⟨s_, hs_, hO_⟩ := D.out.lt; have HO := Aside0.mk hO_; have Z1 := Aside0.mk (show Sz _ s_ from hs_); clear hs_ hO_; with_reducible refine (headtext_q VX.out HXl.out Z1.out).mono ?_; rintro e wn ⟨v, rfl, hR, hb⟩; have k_ := Aside0.mk (below_step HB.out hb); clear HB; have HB := k_; clear k_; (try (have k_ := Aside0.mk (D.out.below hb); clear D; have D := k_; clear k_)); (try (have k_ := Aside0.mk (VQ.out.below hb); clear VQ; have VQ := k_; clear k_)); (try (have k_ := Aside0.mk (QA.out.below hb); clear QA; have QA := k_; clear k_)); (try (have k_ := Aside0.mk (Z1.out.below hb); clear Z1; have Z1 := k_; clear k_)); obtain ⟨AA, cA, rfl⟩ := hR.b.slice; obtain ⟨kA, hk_⟩ : ∃ k_, k_ = (18 :: (e8 n ++ (upT n q mark way).1) : List Int).length := ⟨_, rfl⟩; rw [← hk_] at hR ⊢; have QA := Aside0.mk hR; clear hR hk_; (try clear hb); (try clear hR))
    | (go_at_call 23; with_reducible refine (refTop_v VQ.out.isN HLv.out HM1.out HMl.out).mono ?_; rintro e wn ⟨v, rfl, hR, hb⟩; have k_ := Aside0.mk (below_step HB.out hb); clear HB; have HB := k_; clear k_; (try (have k_ := Aside0.mk (D.out.below hb); clear D; have D := k_; clear k_)); (try (have k_ := Aside0.mk (VQ.out.below hb); clear VQ; have VQ := k_; clear k_)); (try (have k_ := Aside0.mk (QA.out.below hb); clear QA; have QA := k_; clear k_)); (try (have k_ := Aside0.mk (Z1.out.below hb); clear Z1; have Z1 := k_; clear k_)); have VY := Aside0.mk hR; clear hR; (try clear hb); (try clear hR))
    | (go_at_call 37; with_reducible refine (headtext_q VY.out HYl.out Z1.out).mono ?_; rintro e wn ⟨v, rfl, hR, hb⟩; have k_ := Aside0.mk (below_step HB.out hb); clear HB; have HB := k_; clear k_; (try (have k_ := Aside0.mk (D.out.below hb); clear D; have D := k_; clear k_)); (try (have k_ := Aside0.mk (VQ.out.below hb); clear VQ; have VQ := k_; clear k_)); (try (have k_ := Aside0.mk (QA.out.below hb); clear QA; have QA := k_; clear k_)); (try (have k_ := Aside0.mk (Z1.out.below hb); clear Z1; have Z1 := k_; clear k_)); obtain ⟨AB, cB, rfl⟩ := hR.b.slice; obtain ⟨kB, hk_⟩ : ∃ k_, k_ = (18 :: (e8 n ++ topL (marks l)) : List Int).length := ⟨_, rfl⟩; rw [← hk_] at hR ⊢; have QB := Aside0.mk hR; clear hR hk_; (try clear hb); (try clear hR))
    | ((with_reducible refine gate_dst (N := 104) rfl ?_); refine Kd.N_lit (w0 := wn) dB wn.heap.size 23 ?hg (N' := 104) ?hd (xs := [18 :: (e8 n ++ (upT n q mark way).1), 18 :: (e8 n ++ topL (marks l))]) (inner := [.slice AA kA cA, .slice AB kB cB]) (ok := fun k => k < B ∨ s_ ≤ k) (okp := fun k => k < B ∨ s_ ≤ k) ?hr (two_q QA.out QB.out) (fun _ h => h) (.inr Z1.out) (Below.refl _ _) (Nat.le_refl _) (by simp) ?_; (case hd => rfl); (case hg => rfl); (case hr => first | (go_simp; done) | (go_simp; rfl)); intro v4 w4 ho4 hb4 hg4 hn4; have hb := below_new hg4; have k_ := Aside0.mk (below_step HB.out hb); clear HB; have HB := k_; clear k_; (try (have k_ := Aside0.mk (D.out.below hb); clear D; have D := k_; clear k_)); (try (have k_ := Aside0.mk (Z1.out.below hb); clear Z1; have Z1 := k_; clear k_)); obtain ⟨A4, c4, rfl⟩ := Kd.N_slice ho4; have QN := Aside0.mk (Nq.of ho4); clear ho4 hb4 hg4 hn4 hb)
    | ((with_reducible refine gate_builtin (b := .append) (xs := #[.tmp 95, .tmp 104]) rfl ?_); at_builtin; obtain ⟨bq_, hq_⟩ := QN.out; refine N_append_N dB (w0 := w) w.heap.size rfl (.tmp 95) (.tmp 104) 22 23 (.slice none 0 0) 24 rfl Tryd.underlying22 info_row rfl (by decide) (by decide) _ _ _ _ _ _ (fun _ => True) (fun k => k < B ∨ s_ ≤ k) rfl rfl D.out.n hq_ (D.out.apart HO.out _) (fun _ _ => trivial) HB.out HB.out.size HLa.out ?_; intro v5 w5 hN5 hB5 hg5 hat5; have D_ := Aside0.mk (D.out.app hN5 hB5 hg5 hat5); clear D; have D := D_; clear D_ HB QN HO Z1 hq_; have HB := Aside0.mk hB5; clear hN5 hB5 hg5 hat5)
    | (go_at_call 38; obtain ⟨s_, hs_, hO_⟩ := D.out.lt; have HO := Aside0.mk hO_; have Z1 := Aside0.mk (show Sz _ s_ from hs_); clear hs_ hO_; with_reducible refine (texts_q D.out.k HLv.out HMl.out Z1.out).mono ?_; rintro e wn ⟨v, rfl, hR, hb⟩; have k_ := Aside0.mk (below_step HB.out hb); clear HB; have HB := k_; clear k_; (try (have k_ := Aside0.mk (D.out.below hb); clear D; have D := k_; clear k_)); obtain ⟨A6, c6, rfl⟩ := hR.slice; have QN := Aside0.mk hR; clear hR; (try clear hb); (try clear hR))
    | ((with_reducible refine gate_builtin (b := .append) (xs := #[.tmp 105, .tmp 107]) rfl ?_); at_builtin; obtain ⟨bq_, hq_⟩ := QN.out; refine N_append_N dB (w0 := w) w.heap.size rfl (.tmp 105) (.tmp 107) 22 23 (.slice none 0 0) 24 rfl Tryd.underlying22 info_row rfl (by decide) (by decide) _ _ _ _ _ _ (fun _ => True) (fun k => k < B ∨ s_ ≤ k) rfl rfl D.out.n hq_ (D.out.apart HO.out _) (fun _ _ => trivial) HB.out HB.out.size HLb.out ?_; intro v5 w5 hN5 hB5 hg5 hat5; have D_ := Aside0.mk (D.out.app hN5 hB5 hg5 hat5); clear D; have D := D_; clear D_ HB QN HO Z1 hq_; have HB := Aside0.mk hB5; clear hN5 hB5 hg5 hat5)
    | (go_at_call 39; obtain ⟨s_, hs_, hO_⟩ := D.out.lt; have HO := Aside0.mk hO_; have Z1 := Aside0.mk (show Sz _ s_ from hs_); clear hs_ hO_; with_reducible refine (marktexts_q B (VL.out.below HB.out) HSl.out HS.out.2 Z1.out).mono ?_; rintro e wn ⟨v, rfl, hR, hb⟩; have k_ := Aside0.mk (below_step HB.out hb); clear HB; have HB := k_; clear k_; (try (have k_ := Aside0.mk (D.out.below hb); clear D; have D := k_; clear k_)); obtain ⟨A7, c7, rfl⟩ := hR.slice; have QN := Aside0.mk hR; clear hR; (try clear hb); (try clear hR))
    | ((with_reducible refine gate_builtin (b := .append) (xs := #[.tmp 108, .tmp 110]) rfl ?_); at_builtin; obtain ⟨bq_, hq_⟩ := QN.out; refine N_append_N dB (w0 := w) w.heap.size rfl (.tmp 108) (.tmp 110) 22 23 (.slice none 0 0) 24 rfl Tryd.underlying22 info_row rfl (by decide) (by decide) _ _ _ _ _ _ (fun _ => True) (fun k => k < B ∨ s_ ≤ k) rfl rfl D.out.n hq_ (D.out.apart HO.out _) (fun _ _ => trivial) HB.out HB.out.size HLc.out ?_; intro v5 w5 hN5 hB5 hg5 hat5; have D_ := Aside0.mk (D.out.app hN5 hB5 hg5 hat5); clear D; have D := D_; clear D_ HB QN HO Z1 hq_; have HB := Aside0.mk hB5; clear hN5 hB5 hg5 hat5)
    | (go_at_call 14; with_reducible refine (known_c _ (HG.out.of HB.out)).mono ?_; rintro e wn ⟨rfl, hb⟩; have k_ := Aside0.mk (below_step HB.out hb); clear HB; have HB := k_; clear k_; (try (have k_ := Aside0.mk (D.out.below hb); clear D; have D := k_; clear k_)); (try clear hb); (try clear hR))
    | (go_at_call 40; with_reducible refine (clash_v D.out.all HCl.out).mono ?_; rintro e wn ⟨rfl, hb⟩; have k_ := Aside0.mk (below_step HB.out hb); clear HB; have HB := k_; clear k_; (try clear hb); (try clear hR)))
  all_goals (go_ret; exact ⟨rfl, HB.out⟩)
set_option maxRecDepth 100000 in
set_option maxHeartbeats 8000000 in
theorem only_C (A0 : Option Addr) (c0 : Nat) (l : List (List Int)) (n q : Nat) (A3 : Option Addr) (n3 c3 : Nat) (mark : List Int) (AW : Option Addr) (nW cW : Nat) (way : List (List Int)) (w : World) (HG : Glb w) (VL : IsN w (.slice A0 n c0) l) (VT : IsB w (.slice A3 n3 c3) mark) (VW : IsN w (.slice AW nW cW) way) {r r2 : Int} (HR : ∃ j, imprimaturref06_Size.f j l 900 = some r) (HR2 : ∃ j, imprimaturref06_Size.f j way 500 = some r2) (HBm : (decide (900 < r) || decide (40 < (l.length : Int))) = false) (h0 : 1 ≤ n) (h3 : n3 = 32) (h5 : ¬ 500 < r2) (HS : (∀ x ∈ l, (∀ y ∈ x, 0 ≤ y ∧ y < 256) ∧ x.length ≤ 8192) ∧ l.length ≤ 4096) (HML : (marks l).length = n) (h40 : n ≤ 40) (HLv : Lv (marks l)) (HIn : ∃ j, trail_In.f j (hdL (marks l) n) n q mark way = some 0) (HT32 : mark.length = 32 ∧ BytesB mark) (HWl : Lv way ∧ way.length ≤ 4096) (HWk : way.length ≤ 500) (HN : 1 ≤ n ∧ n ≤ 4096 ∧ q < n) (HCl : ∃ j, imprimaturref06_Clash.f j ((upT n q mark way).2.1 ++ [18 :: (e8 n ++ (upT n q mark way).1), 18 :: (e8 n ++ topL (marks l))] ++ textsL (marks l) ++ mtexts l) = some true) (hS : mark = (marks l).getD q []) (hW : ¬ way = walkL (marks l) q) :
    Calls Tryd.prog 9 #[.slice A0 n c0, .int .i64 n, .int .i64 q, .slice A3 n3 c3, .slice AW nW cW] w fun e w' => e = .returned (.bool true) ∧ Below w.heap.size w w' := by
  subst h3
  have HG := Aside0.mk HG
  have VL := Aside0.mk VL
  have VT := Aside0.mk VT
  have VW := Aside0.mk VW
  have HB := Aside0.mk (Below.refl w.heap.size w)
  have HR := Aside0.mk HR
  have HR2 := Aside0.mk HR2
  have HBm := Aside0.mk HBm
  have HS := Aside0.mk HS
  have HML := Aside0.mk HML
  have HLv := Aside0.mk HLv
  have zk : ((n : Int) == 0) = false := beq_eq_false_iff_ne.2 (by omega)
  have cr : ((500 : Int) < r2) = False := eq_false (by omega)
  have HIn := Aside0.mk HIn
  have HT32 := Aside0.mk HT32
  have HWl := Aside0.mk HWl
  have HWk := Aside0.mk HWk
  have HN := Aside0.mk HN
  have HMl := Aside0.mk (show (marks l).length ≤ 4096 by rw [HML.out]; omega)
  have HM1 := Aside0.mk (show 1 ≤ (marks l).length by rw [HML.out]; omega)
  have HTb := Aside0.mk HT32.out.2
  have HSl := Aside0.mk (fun x hx => (HS.out.1 x hx).2 : ∀ x ∈ l, x.length ≤ 8192)
  have hu := upT_ok n q mark way HT32.out HWl.out.1
  have htp := topL_32 HLv.out HM1.out
  have HXl := Aside0.mk (show (upT n q mark way).1.length ≤ 200000 by have := hu.1.1; omega)
  have HYl := Aside0.mk (show (topL (marks l)).length ≤ 200000 by have := htp.1; omega)
  have hxt := (textsL_ok (marks l).length (marks l) rfl HLv.out).1
  have hmt : (mtexts l).length ≤ 42 := by unfold mtexts; have := marks_length l; have := HML.out; simp; omega
  have HLa := Aside0.mk (show ((upT n q mark way).2.1.length + 2) * 24 ≤ 140737488355328 by have := hu.2.1; have := HWk.out; omega)
  have HLb := Aside0.mk (show (((upT n q mark way).2.1 ++ [18 :: (e8 n ++ (upT n q mark way).1), 18 :: (e8 n ++ topL (marks l))]).length + (textsL (marks l)).length) * 24 ≤ 140737488355328 by have := hu.2.1; have := HWk.out; have := HML.out; simp only [List.length_append, List.length_cons, List.length_nil]; omega)
  have HLc := Aside0.mk (show (((upT n q mark way).2.1 ++ [18 :: (e8 n ++ (upT n q mark way).1), 18 :: (e8 n ++ topL (marks l))] ++ textsL (marks l)).length + (mtexts l).length) * 24 ≤ 140737488355328 by have := hu.2.1; have := HWk.out; have := HML.out; simp only [List.length_append, List.length_cons, List.length_nil]; omega)
  clear hu htp hxt hmt
  have HCl := Aside0.mk HCl
  have HSb := Aside0.mk hS
  have HSn := Aside0.mk hW
  have HQn := Aside0.mk (show q < n by have := HN.out.2.2; omega)
  have HQn2 := Aside0.mk (show q < (marks l).length by rw [HML.out]; exact HQn.out)
  have HEb := Aside0.mk (HLv.out _ (getD_mem' (l := marks l) (i := q) HQn2.out)).2
  have pk : (0 ≤ (q : Int)) = True := eq_true (by omega)
  have qk : ((q : Int) < (n : Int)) = True := eq_true (by have := HQn.out; omega)
  have HWy := Aside0.mk (fun x hx => (walkL_32 (marks l).length (marks l) q rfl HLv.out x hx).2 : ∀ x ∈ walkL (marks l) q, ∀ y ∈ x, 0 ≤ y ∧ y < 256)
  go_enter Tryd.func9, Tryd.ntmps9
  go_wp2_with (first
    | (go_at_call 13; with_reducible refine (many_v (VL.out.below HB.out) HR.out HBm.out).mono ?_; rintro e wn ⟨rfl, hb⟩; have k_ := Aside0.mk (below_step HB.out hb); clear HB; have HB := k_; clear k_; (try clear hb); (try clear hR))
    | (go_at_call 33; with_reducible refine (size_v (VW.out.below HB.out) HR2.out).mono ?_; rintro e wn ⟨rfl, hb⟩; have k_ := Aside0.mk (below_step HB.out hb); clear HB; have HB := k_; clear k_; (try clear hb); (try clear hR))
    | (go_at_call 15; with_reducible refine (row_v (HG.out.of HB.out) (VL.out.below HB.out) HS.out.1 HS.out.2).mono ?_; rintro e wn ⟨rfl, hR, hb⟩; have k_ := Aside0.mk (below_step HB.out hb); clear HB; have HB := k_; clear k_; have T := Aside0.mk hR; clear hR; (try clear hb); (try clear hR))
    | (go_at_call 19; have hc_ := T.out.head n (by rw [HML.out]; exact Nat.le_refl _); with_reducible refine (hc_).mono ?_; rintro e wn ⟨v, rfl, hR, hb⟩; have k_ := Aside0.mk (below_step HB.out hb); clear HB; have HB := k_; clear k_; (try (have k_ := Aside0.mk (T.out.below hb); clear T; have T := k_; clear k_)); have VH := Aside0.mk (IsB.of_R hR); clear hR hc_; (try clear hb); (try clear hR))
    | (go_at_call 34; with_reducible refine (in_v (HG.out.of HB.out) VH.out (VT.out.below HB.out) (VW.out.below HB.out) HIn.out).mono ?_; rintro e wn ⟨rfl, hb⟩; have k_ := Aside0.mk (below_step HB.out hb); clear HB; have HB := k_; clear k_; (try clear hb); (try clear hR))
    | (go_at_call 17; have hz_ := HB.out.size; with_reducible refine (marks_v (VL.out.below HB.out) HS.out.1 HS.out.2).mono ?_; rintro e wn ⟨v, rfl, hR, hb⟩; have k_ := Aside0.mk (below_step HB.out hb); clear HB; have HB := k_; clear k_; obtain ⟨Am, cm, rfl⟩ := hR.slice; rw [HML.out] at hR ⊢; obtain ⟨A9, c9, ad, hA, hcell, hV9⟩ := cell_of hR HQn.out HML.out HLv.out; subst hA; have VE := Aside0.mk hV9; clear hV9; obtain ⟨B, hle, hVQ⟩ := Vq.of hR; have HBB := Aside0.mk (Nat.le_trans (Nat.le_trans hz_ hb.size) hle); have VQ := Aside0.mk hVQ; clear hR hVQ hle hz_; (try clear hb); (try clear hR))
    | (go_at_call 21; have hc_ := same_c (VT.out.below HB.out) VE.out HTb.out HEb.out; rw [decide_eq_true HSb.out] at hc_; with_reducible refine (hc_).mono ?_; rintro e wn ⟨rfl, hb⟩; have k_ := Aside0.mk (below_step HB.out hb); clear HB; have HB := k_; clear k_; (try (have k_ := Aside0.mk (VQ.out.below hb); clear VQ; have VQ := k_; clear k_)); clear hc_; (try clear hb); (try clear hR))
    | (go_at_call 30; with_reducible refine (refWay_v VQ.out.isN HLv.out HMl.out q HQn2.out).mono ?_; rintro e wn ⟨v, rfl, hR, hb⟩; have k_ := Aside0.mk (below_step HB.out hb); clear HB; have HB := k_; clear k_; (try (have k_ := Aside0.mk (VQ.out.below hb); clear VQ; have VQ := k_; clear k_)); have VA := Aside0.mk hR; clear hR; (try clear hb); (try clear hR))
    | (go_at_call 29; have hc_ := sameN_c (VW.out.below HB.out) VA.out HWl.out.1 HWy.out HWl.out.2; rw [decide_eq_false HSn.out] at hc_; with_reducible refine (hc_).mono ?_; rintro e wn ⟨rfl, hb⟩; have k_ := Aside0.mk (below_step HB.out hb); clear HB; have HB := k_; clear k_; (try (have k_ := Aside0.mk (VQ.out.below hb); clear VQ; have VQ := k_; clear k_)); clear hc_; (try clear hb); (try clear hR))
    | (go_at_call 36; with_reducible refine (refup_q HB.out HBB.out VQ.out (VT.out.below HB.out) (VW.out.below HB.out) HT32.out HWl.out.1 (Nat.le_trans HWk.out (by decide)) HN.out.1 HN.out.2.1 HN.out.2.2).mono ?_; rintro e wn ⟨v0, v1, rfl, hR, hb⟩; have k_ := Aside0.mk (below_step HB.out hb); clear HB; have HB := k_; clear k_; (try (have k_ := Aside0.mk (VQ.out.below hb); clear VQ; have VQ := k_; clear k_)); have VX := Aside0.mk hR.1; have D := Aside0.mk hR.2; clear hR; (try clear hb); (try clear hR))
    | (go_at_call 37; obtain ⟨s_, hs_, hO_⟩ := D.out.lt; have HO := Aside0.mk hO_; have Z1 := Aside0.mk (show Sz _ s_ from hs_); clear hs_ hO_; with_reducible refine (headtext_q VX.out HXl.out Z1.out).mono ?_; rintro e wn ⟨v, rfl, hR, hb⟩; have k_ := Aside0.mk (below_step HB.out hb); clear HB; have HB := k_; clear k_; (try (have k_ := Aside0.mk (D.out.below hb); clear D; have D := k_; clear k_)); (try (have k_ := Aside0.mk (VQ.out.below hb); clear VQ; have VQ := k_; clear k_)); (try (have k_ := Aside0.mk (QA.out.below hb); clear QA; have QA := k_; clear k_)); (try (have k_ := Aside0.mk (Z1.out.below hb); clear Z1; have Z1 := k_; clear k_)); obtain ⟨AA, cA, rfl⟩ := hR.b.slice; obtain ⟨kA, hk_⟩ : ∃ k_, k_ = (18 :: (e8 n ++ (upT n q mark way).1) : List Int).length := ⟨_, rfl⟩; rw [← hk_] at hR ⊢; have QA := Aside0.mk hR; clear hR hk_; (try clear hb); (try clear hR))
    | (go_at_call 23; with_reducible refine (refTop_v VQ.out.isN HLv.out HM1.out HMl.out).mono ?_; rintro e wn ⟨v, rfl, hR, hb⟩; have k_ := Aside0.mk (below_step HB.out hb); clear HB; have HB := k_; clear k_; (try (have k_ := Aside0.mk (D.out.below hb); clear D; have D := k_; clear k_)); (try (have k_ := Aside0.mk (VQ.out.below hb); clear VQ; have VQ := k_; clear k_)); (try (have k_ := Aside0.mk (QA.out.below hb); clear QA; have QA := k_; clear k_)); (try (have k_ := Aside0.mk (Z1.out.below hb); clear Z1; have Z1 := k_; clear k_)); have VY := Aside0.mk hR; clear hR; (try clear hb); (try clear hR))
    | (go_at_call 37; with_reducible refine (headtext_q VY.out HYl.out Z1.out).mono ?_; rintro e wn ⟨v, rfl, hR, hb⟩; have k_ := Aside0.mk (below_step HB.out hb); clear HB; have HB := k_; clear k_; (try (have k_ := Aside0.mk (D.out.below hb); clear D; have D := k_; clear k_)); (try (have k_ := Aside0.mk (VQ.out.below hb); clear VQ; have VQ := k_; clear k_)); (try (have k_ := Aside0.mk (QA.out.below hb); clear QA; have QA := k_; clear k_)); (try (have k_ := Aside0.mk (Z1.out.below hb); clear Z1; have Z1 := k_; clear k_)); obtain ⟨AB, cB, rfl⟩ := hR.b.slice; obtain ⟨kB, hk_⟩ : ∃ k_, k_ = (18 :: (e8 n ++ topL (marks l)) : List Int).length := ⟨_, rfl⟩; rw [← hk_] at hR ⊢; have QB := Aside0.mk hR; clear hR hk_; (try clear hb); (try clear hR))
    | ((with_reducible refine gate_dst (N := 104) rfl ?_); refine Kd.N_lit (w0 := wn) dB wn.heap.size 23 ?hg (N' := 104) ?hd (xs := [18 :: (e8 n ++ (upT n q mark way).1), 18 :: (e8 n ++ topL (marks l))]) (inner := [.slice AA kA cA, .slice AB kB cB]) (ok := fun k => k < B ∨ s_ ≤ k) (okp := fun k => k < B ∨ s_ ≤ k) ?hr (two_q QA.out QB.out) (fun _ h => h) (.inr Z1.out) (Below.refl _ _) (Nat.le_refl _) (by simp) ?_; (case hd => rfl); (case hg => rfl); (case hr => first | (go_simp; done) | (go_simp; rfl)); intro v4 w4 ho4 hb4 hg4 hn4; have hb := below_new hg4; have k_ := Aside0.mk (below_step HB.out hb); clear HB; have HB := k_; clear k_; (try (have k_ := Aside0.mk (D.out.below hb); clear D; have D := k_; clear k_)); (try (have k_ := Aside0.mk (Z1.out.below hb); clear Z1; have Z1 := k_; clear k_)); obtain ⟨A4, c4, rfl⟩ := Kd.N_slice ho4; have QN := Aside0.mk (Nq.of ho4); clear ho4 hb4 hg4 hn4 hb)
    | ((with_reducible refine gate_builtin (b := .append) (xs := #[.tmp 95, .tmp 104]) rfl ?_); at_builtin; obtain ⟨bq_, hq_⟩ := QN.out; refine N_append_N dB (w0 := w) w.heap.size rfl (.tmp 95) (.tmp 104) 22 23 (.slice none 0 0) 24 rfl Tryd.underlying22 info_row rfl (by decide) (by decide) _ _ _ _ _ _ (fun _ => True) (fun k => k < B ∨ s_ ≤ k) rfl rfl D.out.n hq_ (D.out.apart HO.out _) (fun _ _ => trivial) HB.out HB.out.size HLa.out ?_; intro v5 w5 hN5 hB5 hg5 hat5; have D_ := Aside0.mk (D.out.app hN5 hB5 hg5 hat5); clear D; have D := D_; clear D_ HB QN HO Z1 hq_; have HB := Aside0.mk hB5; clear hN5 hB5 hg5 hat5)
    | (go_at_call 38; obtain ⟨s_, hs_, hO_⟩ := D.out.lt; have HO := Aside0.mk hO_; have Z1 := Aside0.mk (show Sz _ s_ from hs_); clear hs_ hO_; with_reducible refine (texts_q D.out.k HLv.out HMl.out Z1.out).mono ?_; rintro e wn ⟨v, rfl, hR, hb⟩; have k_ := Aside0.mk (below_step HB.out hb); clear HB; have HB := k_; clear k_; (try (have k_ := Aside0.mk (D.out.below hb); clear D; have D := k_; clear k_)); obtain ⟨A6, c6, rfl⟩ := hR.slice; have QN := Aside0.mk hR; clear hR; (try clear hb); (try clear hR))
    | ((with_reducible refine gate_builtin (b := .append) (xs := #[.tmp 105, .tmp 107]) rfl ?_); at_builtin; obtain ⟨bq_, hq_⟩ := QN.out; refine N_append_N dB (w0 := w) w.heap.size rfl (.tmp 105) (.tmp 107) 22 23 (.slice none 0 0) 24 rfl Tryd.underlying22 info_row rfl (by decide) (by decide) _ _ _ _ _ _ (fun _ => True) (fun k => k < B ∨ s_ ≤ k) rfl rfl D.out.n hq_ (D.out.apart HO.out _) (fun _ _ => trivial) HB.out HB.out.size HLb.out ?_; intro v5 w5 hN5 hB5 hg5 hat5; have D_ := Aside0.mk (D.out.app hN5 hB5 hg5 hat5); clear D; have D := D_; clear D_ HB QN HO Z1 hq_; have HB := Aside0.mk hB5; clear hN5 hB5 hg5 hat5)
    | (go_at_call 39; obtain ⟨s_, hs_, hO_⟩ := D.out.lt; have HO := Aside0.mk hO_; have Z1 := Aside0.mk (show Sz _ s_ from hs_); clear hs_ hO_; with_reducible refine (marktexts_q B (VL.out.below HB.out) HSl.out HS.out.2 Z1.out).mono ?_; rintro e wn ⟨v, rfl, hR, hb⟩; have k_ := Aside0.mk (below_step HB.out hb); clear HB; have HB := k_; clear k_; (try (have k_ := Aside0.mk (D.out.below hb); clear D; have D := k_; clear k_)); obtain ⟨A7, c7, rfl⟩ := hR.slice; have QN := Aside0.mk hR; clear hR; (try clear hb); (try clear hR))
    | ((with_reducible refine gate_builtin (b := .append) (xs := #[.tmp 108, .tmp 110]) rfl ?_); at_builtin; obtain ⟨bq_, hq_⟩ := QN.out; refine N_append_N dB (w0 := w) w.heap.size rfl (.tmp 108) (.tmp 110) 22 23 (.slice none 0 0) 24 rfl Tryd.underlying22 info_row rfl (by decide) (by decide) _ _ _ _ _ _ (fun _ => True) (fun k => k < B ∨ s_ ≤ k) rfl rfl D.out.n hq_ (D.out.apart HO.out _) (fun _ _ => trivial) HB.out HB.out.size HLc.out ?_; intro v5 w5 hN5 hB5 hg5 hat5; have D_ := Aside0.mk (D.out.app hN5 hB5 hg5 hat5); clear D; have D := D_; clear D_ HB QN HO Z1 hq_; have HB := Aside0.mk hB5; clear hN5 hB5 hg5 hat5)
    | (go_at_call 14; with_reducible refine (known_c _ (HG.out.of HB.out)).mono ?_; rintro e wn ⟨rfl, hb⟩; have k_ := Aside0.mk (below_step HB.out hb); clear HB; have HB := k_; clear k_; (try (have k_ := Aside0.mk (D.out.below hb); clear D; have D := k_; clear k_)); (try clear hb); (try clear hR))
    | (go_at_call 40; with_reducible refine (clash_v D.out.all HCl.out).mono ?_; rintro e wn ⟨rfl, hb⟩; have k_ := Aside0.mk (below_step HB.out hb); clear HB; have HB := k_; clear k_; (try clear hb); (try clear hR)))
  all_goals (go_ret; exact ⟨rfl, HB.out⟩)
theorem hdL_full {M : List (List Int)} (h : 1 ≤ M.length) : hdL M M.length = headL M.length (topL M) := by
  unfold hdL
  rw [if_neg (by omega), List.take_length]
set_option maxRecDepth 100000 in
set_option maxHeartbeats 8000000 in
theorem TrailOnly_walk (A0 : Option Addr) (c0 : Nat) (l0 : List (List Int)) (a1 a2 : Int) (A3 : Option Addr) (n3 c3 : Nat) (z3 : List Int) (A4 : Option Addr) (c4 : Nat) (l4 : List (List Int)) (w : World) (HG : Glb w) (w0 : Kd.C dB w A0 l0.length l0) (hc0 : l0.length ≤ c0) (o0 : l0.length * 24 ≤ 140737488351232) (g0 : ∀ l ∈ l0, (∀ x ∈ l, (Lit.int .u8 x).wf = true) ∧ l.length * 1 ≤ 140737488351232) (w1 : (Lit.int .i64 a1).wf = true) (w2 : (Lit.int .i64 a2).wf = true) (h3 : (A3 = none ∧ n3 = 0 ∧ c3 = 0 ∧ z3 = []) ∨ ∃ x, A3 = some x ∧ n3 ≤ c3 ∧ c3 ≤ maxLen ∧ z3.length = c3 ∧ (∀ i, i < z3.length → w.cell? (x.add i) = some (.int .u8 (z3.getD i 0))) ∧ ∀ n ∈ z3, (Lit.int .u8 n).wf = true) (y3 : n3 * 1 ≤ 140737488351232) (w4 : Kd.C dB w A4 l4.length l4) (hc4 : l4.length ≤ c4) (o4 : l4.length * 24 ≤ 140737488351232) (g4 : ∀ l ∈ l4, (∀ x ∈ l, (Lit.int .u8 x).wf = true) ∧ l.length * 1 ≤ 140737488351232) :
    Calls Tryd.prog 9 #[.slice A0 l0.length c0, .int .i64 a1, .int .i64 a2, .slice A3 n3 c3, .slice A4 l4.length c4] w fun e w' => e = .returned (.bool true) ∧ Below w.heap.size w w' := by
  obtain ⟨t, rfl, hr3, hm3, hb3, hc3⟩ := ReadsInt.ofRowC h3
  have VL : IsN w (.slice A0 l0.length c0) l0 := ⟨A0, c0, rfl, hc0, w0⟩
  have VT : IsB w (.slice A3 t.length c3) t := ⟨A3, c3, rfl, hc3, Kd.C_of_reads (d := (0 : Int)) (h1 := fun _ => rfl) hr3⟩
  have VW : IsN w (.slice A4 l4.length c4) l4 := ⟨A4, c4, rfl, hc4, w4⟩
  have HTt : ∀ y ∈ t, 0 ≤ y ∧ y < 256 := fun x hx => byte_of (hb3 x hx)
  obtain ⟨r, HR, hs⟩ := small_of l0 (row_len g0) (by omega)
  obtain ⟨r2, HR2', hs5⟩ := size_eq l4 500 (by decide) (row_len g4) (by omega) (l4.length + 1) (by omega)
  have HR2 : ∃ j, imprimaturref06_Size.f j l4 500 = some r2 := ⟨_, HR2'⟩
  cases hb : (decide (900 < r) || decide (40 < (l0.length : Int))) with
  | true => exact only_many A0 _ c0 l0 a1 a2 A3 _ c3 t A4 _ c4 l4 w HG VL VT VW HR HR2 hb
  | false =>
    have hs2 := hs hb
    by_cases h0 : l0.length = 0
    · exact only_none A0 _ c0 l0 a1 a2 A3 _ c3 t A4 _ c4 l4 w HG VL VT VW HR HR2 hb h0
    by_cases h32 : t.length = 32
    · by_cases h5 : 500 < r2
      · exact only_big A0 _ c0 l0 a1 a2 A3 _ c3 t A4 _ c4 l4 w HG VL VT VW HR HR2 hb (by omega) h32 h5
      have HS : (∀ x ∈ l0, (∀ y ∈ x, 0 ≤ y ∧ y < 256) ∧ x.length ≤ 8192) ∧ l0.length ≤ 4096 := ⟨fun x hx => ⟨row_bytes g0 x hx, by have := hs2.2 x hx; omega⟩, by omega⟩
      have HML := marks_length l0
      have HLv := marks_lv l0
      have hwl := (hs5 (by omega)).1
      have hfull := hdL_full (M := marks l0) (by omega)
      rw [HML] at hfull
      by_cases hbad : inBad a1 a2 (hdL (marks l0) l0.length) t l4
      · exact only_no A0 _ c0 l0 a1 a2 A3 _ c3 t A4 _ c4 l4 w HG VL VT VW HR HR2 hb (by omega) h32 h5 HS HML hs2.1 HLv ⟨1, in_bad hbad⟩ (by decide)
      · have hbad' := hbad
        unfold inBad at hbad
        obtain ⟨n, rfl⟩ : ∃ j : Nat, a1 = (j : Int) := ⟨a1.toNat, by omega⟩
        obtain ⟨q, rfl⟩ : ∃ j : Nat, a2 = (j : Int) := ⟨a2.toNat, by omega⟩
        have hv : Lv l4 := fun x hx => ⟨Classical.byContradiction fun h => hbad (.inr (.inr (.inr (.inr (.inr (.inr ⟨x, hx, h⟩)))))), row_bytes g4 x hx⟩
        have hIn := in_good (k := n + 32) (n := n) (p := q) (h := hdL (marks l0) l0.length) (mark := t) (way := l4) (by omega) (by omega) (by omega) (by rw [hfull]; exact ⟨headL_length _ _, headL_bytes _ _⟩) ⟨h32, HTt⟩ hv (by omega) (Nat.le_refl _)
        by_cases hz : inL n q (hdL (marks l0) l0.length) t l4 = 0
        · rw [hz] at hIn
          have hz2 := hz
          rw [hfull] at hz2
          have hN : 1 ≤ n ∧ n ≤ 4096 ∧ q < n := ⟨by omega, by omega, by omega⟩
          by_cases hall : n = l0.length ∧ t = (marks l0).getD q [] ∧ l4 = walkL (marks l0) q
          · obtain ⟨rfl, hS, hW⟩ := hall
            exact only_yes A0 c0 l0 l0.length q A3 _ c3 t A4 _ c4 l4 w HG VL VT VW HR HR2 hb (by omega) h32 h5 HS HML hs2.1 HLv ⟨_, hIn⟩ ⟨h32, HTt⟩ ⟨hv, by omega⟩ hwl hN hS hW
          · have hcl := clash_only l0 n q t l4 (by omega) hs2.1 (fun x hx => HS.1 x hx) (by omega) (by omega) ⟨h32, HTt⟩ hv (by omega) (by rw [HML]; exact hz2) (by rw [HML]; exact hall)
            rw [HML] at hcl
            by_cases hn : n = l0.length
            · subst hn
              by_cases hS : t = (marks l0).getD q []
              · exact only_C A0 c0 l0 l0.length q A3 _ c3 t A4 _ c4 l4 w HG VL VT VW HR HR2 hb (by omega) h32 h5 HS HML hs2.1 HLv ⟨_, hIn⟩ ⟨h32, HTt⟩ ⟨hv, by omega⟩ hwl hN hcl hS (fun hW => hall ⟨rfl, hS, hW⟩)
              · exact only_B A0 c0 l0 l0.length q A3 _ c3 t A4 _ c4 l4 w HG VL VT VW HR HR2 hb (by omega) h32 h5 HS HML hs2.1 HLv ⟨_, hIn⟩ ⟨h32, HTt⟩ ⟨hv, by omega⟩ hwl hN hcl hS
            · exact only_A A0 _ c0 l0 n q A3 _ c3 t A4 _ c4 l4 w HG VL VT VW HR HR2 hb (by omega) h32 h5 HS HML hs2.1 HLv ⟨_, hIn⟩ ⟨h32, HTt⟩ ⟨hv, by omega⟩ hwl hN hcl hn
        · exact only_no A0 _ c0 l0 n q A3 _ c3 t A4 _ c4 l4 w HG VL VT VW HR HR2 hb (by omega) h32 h5 HS HML hs2.1 HLv ⟨_, hIn⟩ hz
    · exact only_odd A0 _ c0 l0 a1 a2 A3 _ c3 t A4 _ c4 l4 w HG VL VT VW HR HR2 hb (by omega) h32
end Go.Proofs.YtcnpdapampclpaaDoor.X
