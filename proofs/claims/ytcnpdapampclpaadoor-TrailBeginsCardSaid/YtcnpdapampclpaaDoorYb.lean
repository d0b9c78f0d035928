/- The law TrailBegins. -/
import Derived.Test.YtcnpdapampclpaaDoorTjr
namespace Go.Proofs.YtcnpdapampclpaaDoor.X
open Go.RowKit Go.Proofs.YtcnpdapampclpaaDoor.H Go.Proofs.YtcnpdapampclpaaDoorW.PrintWords Go.Proofs.YtcnpdapampclpaaDoorW.PrintLast Go.Proofs.YtcnpdapampclpaaDoorW.PrintMore Go.Proofs.YtcnpdapampclpaaDoor.PPl Go.Proofs.YtcnpdapampclpaaDoor.PPm Go.Proofs.YtcnpdapampclpaaDoor.PPn Go.Proofs.YtcnpdapampclpaaDoor.PTp Go.Proofs.YtcnpdapampclpaaDoor.PTr Go.Proofs.YtcnpdapampclpaaDoor.PRa Go.Proofs.YtcnpdapampclpaaDoor.PRb Go.Proofs.YtcnpdapampclpaaDoor.PRh
set_option linter.unusedVariables false
set_option linter.unusedSimpArgs false
set_option maxRecDepth 100000 in
set_option maxHeartbeats 8000000 in
theorem begins_far0 (A0 : Option Addr) (n0 c0 : Nat) (t0 : List Int) (A2 : Option Addr) (n2 c2 : Nat) (t2 : List Int) (A3 : Option Addr) (n3 c3 : Nat) (t3 : List Int) (a1 : Int) (a4 : Int) (AW : Option Addr) (nW cW : Nat) (way : List (List Int)) (w : World) (HG : Glb w) (V0 : IsB w (.slice A0 n0 c0) t0) (V2 : IsB w (.slice A2 n2 c2) t2) (V3 : IsB w (.slice A3 n3 c3) t3) (VW : IsN w (.slice AW nW cW) way) (h0 : 100 < n0) :
    Calls Tryd.prog 10 #[.slice A0 n0 c0, .int .i64 a1, .slice A2 n2 c2, .slice A3 n3 c3, .int .i64 a4, .slice AW nW cW] w fun e w' => e = .returned (.bool true) ∧ Below w.heap.size w w' := by
  have HG := Aside0.mk HG
  have V0 := Aside0.mk V0
  have V2 := Aside0.mk V2
  have V3 := Aside0.mk V3
  have VW := Aside0.mk VW
  have HB := Aside0.mk (Below.refl w.heap.size w)
  have c0 : ((100 : Int) < (n0 : Int)) = True := eq_true (by omega)
  go_enter Tryd.func10, Tryd.ntmps10
  go_wp2_with (first
    | (go_at_call 33; with_reducible refine (size_v VW.out HR.out).mono ?_; rintro e wn ⟨rfl, hb⟩; have k_ := Aside0.mk (below_step HB.out hb); clear HB; have HB := k_; clear k_; (try (have k_ := Aside0.mk (V0.out.below hb); clear V0; have V0 := k_; clear k_)); (try (have k_ := Aside0.mk (V2.out.below hb); clear V2; have V2 := k_; clear k_)); (try (have k_ := Aside0.mk (V3.out.below hb); clear V3; have V3 := k_; clear k_)); (try (have k_ := Aside0.mk (VW.out.below hb); clear VW; have VW := k_; clear k_)); (try clear hb); (try clear hR))
    | (go_at_call 14; with_reducible refine (known_c _ (HG.out.of HB.out)).mono ?_; rintro e wn ⟨rfl, hb⟩; have k_ := Aside0.mk (below_step HB.out hb); clear HB; have HB := k_; clear k_; (try (have k_ := Aside0.mk (V0.out.below hb); clear V0; have V0 := k_; clear k_)); (try (have k_ := Aside0.mk (V2.out.below hb); clear V2; have V2 := k_; clear k_)); (try (have k_ := Aside0.mk (V3.out.below hb); clear V3; have V3 := k_; clear k_)); (try (have k_ := Aside0.mk (VW.out.below hb); clear VW; have VW := k_; clear k_)); (try clear hb); (try clear hR)))
  go_ret
  exact ⟨rfl, HB.out⟩
set_option maxRecDepth 100000 in
set_option maxHeartbeats 8000000 in
theorem begins_far2 (A0 : Option Addr) (n0 c0 : Nat) (t0 : List Int) (A2 : Option Addr) (n2 c2 : Nat) (t2 : List Int) (A3 : Option Addr) (n3 c3 : Nat) (t3 : List Int) (a1 : Int) (a4 : Int) (AW : Option Addr) (nW cW : Nat) (way : List (List Int)) (w : World) (HG : Glb w) (V0 : IsB w (.slice A0 n0 c0) t0) (V2 : IsB w (.slice A2 n2 c2) t2) (V3 : IsB w (.slice A3 n3 c3) t3) (VW : IsN w (.slice AW nW cW) way) (h0 : n0 ≤ 100) (h2 : 100 < n2) :
    Calls Tryd.prog 10 #[.slice A0 n0 c0, .int .i64 a1, .slice A2 n2 c2, .slice A3 n3 c3, .int .i64 a4, .slice AW nW cW] w fun e w' => e = .returned (.bool true) ∧ Below w.heap.size w w' := by
  have HG := Aside0.mk HG
  have V0 := Aside0.mk V0
  have V2 := Aside0.mk V2
  have V3 := Aside0.mk V3
  have VW := Aside0.mk VW
  have HB := Aside0.mk (Below.refl w.heap.size w)
  have c0 : ((100 : Int) < (n0 : Int)) = False := eq_false (by omega)
  have c2 : ((100 : Int) < (n2 : Int)) = True := eq_true (by omega)
  go_enter Tryd.func10, Tryd.ntmps10
  go_wp2_with (first
    | (go_at_call 33; with_reducible refine (size_v VW.out HR.out).mono ?_; rintro e wn ⟨rfl, hb⟩; have k_ := Aside0.mk (below_step HB.out hb); clear HB; have HB := k_; clear k_; (try (have k_ := Aside0.mk (V0.out.below hb); clear V0; have V0 := k_; clear k_)); (try (have k_ := Aside0.mk (V2.out.below hb); clear V2; have V2 := k_; clear k_)); (try (have k_ := Aside0.mk (V3.out.below hb); clear V3; have V3 := k_; clear k_)); (try (have k_ := Aside0.mk (VW.out.below hb); clear VW; have VW := k_; clear k_)); (try clear hb); (try clear hR))
    | (go_at_call 14; with_reducible refine (known_c _ (HG.out.of HB.out)).mono ?_; rintro e wn ⟨rfl, hb⟩; have k_ := Aside0.mk (below_step HB.out hb); clear HB; have HB := k_; clear k_; (try (have k_ := Aside0.mk (V0.out.below hb); clear V0; have V0 := k_; clear k_)); (try (have k_ := Aside0.mk (V2.out.below hb); clear V2; have V2 := k_; clear k_)); (try (have k_ := Aside0.mk (V3.out.below hb); clear V3; have V3 := k_; clear k_)); (try (have k_ := Aside0.mk (VW.out.below hb); clear VW; have VW := k_; clear k_)); (try clear hb); (try clear hR)))
  go_ret
  exact ⟨rfl, HB.out⟩
set_option maxRecDepth 100000 in
set_option maxHeartbeats 8000000 in
theorem begins_far3 (A0 : Option Addr) (n0 c0 : Nat) (t0 : List Int) (A2 : Option Addr) (n2 c2 : Nat) (t2 : List Int) (A3 : Option Addr) (n3 c3 : Nat) (t3 : List Int) (a1 : Int) (a4 : Int) (AW : Option Addr) (nW cW : Nat) (way : List (List Int)) (w : World) (HG : Glb w) (V0 : IsB w (.slice A0 n0 c0) t0) (V2 : IsB w (.slice A2 n2 c2) t2) (V3 : IsB w (.slice A3 n3 c3) t3) (VW : IsN w (.slice AW nW cW) way) (h0 : n0 ≤ 100) (h2 : n2 ≤ 100) (h3 : 100 < n3) :
    Calls Tryd.prog 10 #[.slice A0 n0 c0, .int .i64 a1, .slice A2 n2 c2, .slice A3 n3 c3, .int .i64 a4, .slice AW nW cW] w fun e w' => e = .returned (.bool true) ∧ Below w.heap.size w w' := by
  have HG := Aside0.mk HG
  have V0 := Aside0.mk V0
  have V2 := Aside0.mk V2
  have V3 := Aside0.mk V3
  have VW := Aside0.mk VW
  have HB := Aside0.mk (Below.refl w.heap.size w)
  have c0 : ((100 : Int) < (n0 : Int)) = False := eq_false (by omega)
  have c2 : ((100 : Int) < (n2 : Int)) = False := eq_false (by omega)
  have c3 : ((100 : Int) < (n3 : Int)) = True := eq_true (by omega)
  go_enter Tryd.func10, Tryd.ntmps10
  go_wp2_with (first
    | (go_at_call 33; with_reducible refine (size_v VW.out HR.out).mono ?_; rintro e wn ⟨rfl, hb⟩; have k_ := Aside0.mk (below_step HB.out hb); clear HB; have HB := k_; clear k_; (try (have k_ := Aside0.mk (V0.out.below hb); clear V0; have V0 := k_; clear k_)); (try (have k_ := Aside0.mk (V2.out.below hb); clear V2; have V2 := k_; clear k_)); (try (have k_ := Aside0.mk (V3.out.below hb); clear V3; have V3 := k_; clear k_)); (try (have k_ := Aside0.mk (VW.out.below hb); clear VW; have VW := k_; clear k_)); (try clear hb); (try clear hR))
    | (go_at_call 14; with_reducible refine (known_c _ (HG.out.of HB.out)).mono ?_; rintro e wn ⟨rfl, hb⟩; have k_ := Aside0.mk (below_step HB.out hb); clear HB; have HB := k_; clear k_; (try (have k_ := Aside0.mk (V0.out.below hb); clear V0; have V0 := k_; clear k_)); (try (have k_ := Aside0.mk (V2.out.below hb); clear V2; have V2 := k_; clear k_)); (try (have k_ := Aside0.mk (V3.out.below hb); clear V3; have V3 := k_; clear k_)); (try (have k_ := Aside0.mk (VW.out.below hb); clear VW; have VW := k_; clear k_)); (try clear hb); (try clear hR)))
  go_ret
  exact ⟨rfl, HB.out⟩
set_option maxRecDepth 100000 in
set_option maxHeartbeats 8000000 in
theorem begins_many (A0 : Option Addr) (n0 c0 : Nat) (t0 : List Int) (A2 : Option Addr) (n2 c2 : Nat) (t2 : List Int) (A3 : Option Addr) (n3 c3 : Nat) (t3 : List Int) (a1 : Int) (a4 : Int) (AW : Option Addr) (nW cW : Nat) (way : List (List Int)) (w : World) (HG : Glb w) (V0 : IsB w (.slice A0 n0 c0) t0) (V2 : IsB w (.slice A2 n2 c2) t2) (V3 : IsB w (.slice A3 n3 c3) t3) (VW : IsN w (.slice AW nW cW) way) (h0 : n0 ≤ 100) (h2 : n2 ≤ 100) (h3 : n3 ≤ 100) {r : Int} (HR : ∃ k, imprimaturref06_Size.f k way 900 = some r) (hr : 900 < r) :
    Calls Tryd.prog 10 #[.slice A0 n0 c0, .int .i64 a1, .slice A2 n2 c2, .slice A3 n3 c3, .int .i64 a4, .slice AW nW cW] w fun e w' => e = .returned (.bool true) ∧ Below w.heap.size w w' := by
  have HG := Aside0.mk HG
  have V0 := Aside0.mk V0
  have V2 := Aside0.mk V2
  have V3 := Aside0.mk V3
  have VW := Aside0.mk VW
  have HB := Aside0.mk (Below.refl w.heap.size w)
  have HR := Aside0.mk HR
  have c0 : ((100 : Int) < (n0 : Int)) = False := eq_false (by omega)
  have c2 : ((100 : Int) < (n2 : Int)) = False := eq_false (by omega)
  have c3 : ((100 : Int) < (n3 : Int)) = False := eq_false (by omega)
  have cr : ((900 : Int) < r) = True := eq_true (by omega)
  go_enter Tryd.func10, Tryd.ntmps10
  go_wp2_with (first
    | (go_at_call 33; with_reducible refine (size_v VW.out HR.out).mono ?_; rintro e wn ⟨rfl, hb⟩; have k_ := Aside0.mk (below_step HB.out hb); clear HB; have HB := k_; clear k_; (try (have k_ := Aside0.mk (V0.out.below hb); clear V0; have V0 := k_; clear k_)); (try (have k_ := Aside0.mk (V2.out.below hb); clear V2; have V2 := k_; clear k_)); (try (have k_ := Aside0.mk (V3.out.below hb); clear V3; have V3 := k_; clear k_)); (try (have k_ := Aside0.mk (VW.out.below hb); clear VW; have VW := k_; clear k_)); (try clear hb); (try clear hR))
    | (go_at_call 14; with_reducible refine (known_c _ (HG.out.of HB.out)).mono ?_; rintro e wn ⟨rfl, hb⟩; have k_ := Aside0.mk (below_step HB.out hb); clear HB; have HB := k_; clear k_; (try (have k_ := Aside0.mk (V0.out.below hb); clear V0; have V0 := k_; clear k_)); (try (have k_ := Aside0.mk (V2.out.below hb); clear V2; have V2 := k_; clear k_)); (try (have k_ := Aside0.mk (V3.out.below hb); clear V3; have V3 := k_; clear k_)); (try (have k_ := Aside0.mk (VW.out.below hb); clear VW; have VW := k_; clear k_)); (try clear hb); (try clear hR)))
  go_ret
  exact ⟨rfl, HB.out⟩
set_option maxRecDepth 100000 in
set_option maxHeartbeats 8000000 in
theorem begins_main (A0 : Option Addr) (n0 c0 : Nat) (t0 : List Int) (A2 : Option Addr) (n2 c2 : Nat) (t2 : List Int) (A3 : Option Addr) (n3 c3 : Nat) (t3 : List Int) (a1 : Int) (a4 : Int) (AW : Option Addr) (nW cW : Nat) (way : List (List Int)) (w : World) (HG : Glb w) (V0 : IsB w (.slice A0 n0 c0) t0) (V2 : IsB w (.slice A2 n2 c2) t2) (V3 : IsB w (.slice A3 n3 c3) t3) (VW : IsN w (.slice AW nW cW) way) (h0 : n0 ≤ 100) (h2 : n2 ≤ 100) (h3 : n3 ≤ 100) {r : Int} (HR : ∃ k, imprimaturref06_Size.f k way 900 = some r) (hr : ¬ 900 < r) {x : Int} (HX : ∃ k, trail_Begins.f k t0 a1 t2 t3 a4 way = some x) (HY : ∃ k, imprimaturref20_Begins.f k t0 a1 t2 t3 a4 way = some x) :
    Calls Tryd.prog 10 #[.slice A0 n0 c0, .int .i64 a1, .slice A2 n2 c2, .slice A3 n3 c3, .int .i64 a4, .slice AW nW cW] w fun e w' => e = .returned (.bool true) ∧ Below w.heap.size w w' := by
  have HG := Aside0.mk HG
  have V0 := Aside0.mk V0
  have V2 := Aside0.mk V2
  have V3 := Aside0.mk V3
  have VW := Aside0.mk VW
  have HB := Aside0.mk (Below.refl w.heap.size w)
  have HR := Aside0.mk HR
  have HX := Aside0.mk HX
  have HY := Aside0.mk HY
  have c0 : ((100 : Int) < (n0 : Int)) = False := eq_false (by omega)
  have c2 : ((100 : Int) < (n2 : Int)) = False := eq_false (by omega)
  have c3 : ((100 : Int) < (n3 : Int)) = False := eq_false (by omega)
  have cr : ((900 : Int) < r) = False := eq_false (by omega)
  go_enter Tryd.func10, Tryd.ntmps10
  go_wp2_with (first
    | (go_at_call 33; with_reducible refine (size_v VW.out HR.out).mono ?_; rintro e wn ⟨rfl, hb⟩; have k_ := Aside0.mk (below_step HB.out hb); clear HB; have HB := k_; clear k_; (try (have k_ := Aside0.mk (V0.out.below hb); clear V0; have V0 := k_; clear k_)); (try (have k_ := Aside0.mk (V2.out.below hb); clear V2; have V2 := k_; clear k_)); (try (have k_ := Aside0.mk (V3.out.below hb); clear V3; have V3 := k_; clear k_)); (try (have k_ := Aside0.mk (VW.out.below hb); clear VW; have VW := k_; clear k_)); (try clear hb); (try clear hR))
    | (go_at_call 41; with_reducible refine (begins_v (HG.out.of HB.out) V0.out V2.out V3.out VW.out HX.out).mono ?_; rintro e wn ⟨rfl, hb⟩; have k_ := Aside0.mk (below_step HB.out hb); clear HB; have HB := k_; clear k_; (try (have k_ := Aside0.mk (V0.out.below hb); clear V0; have V0 := k_; clear k_)); (try (have k_ := Aside0.mk (V2.out.below hb); clear V2; have V2 := k_; clear k_)); (try (have k_ := Aside0.mk (V3.out.below hb); clear V3; have V3 := k_; clear k_)); (try (have k_ := Aside0.mk (VW.out.below hb); clear VW; have VW := k_; clear k_)); (try clear hb); (try clear hR))
    | (go_at_call 42; with_reducible refine (refbegins_v V0.out V2.out V3.out VW.out HY.out).mono ?_; rintro e wn ⟨rfl, hb⟩; have k_ := Aside0.mk (below_step HB.out hb); clear HB; have HB := k_; clear k_; (try (have k_ := Aside0.mk (V0.out.below hb); clear V0; have V0 := k_; clear k_)); (try (have k_ := Aside0.mk (V2.out.below hb); clear V2; have V2 := k_; clear k_)); (try (have k_ := Aside0.mk (V3.out.below hb); clear V3; have V3 := k_; clear k_)); (try (have k_ := Aside0.mk (VW.out.below hb); clear VW; have VW := k_; clear k_)); (try clear hb); (try clear hR))
    | (go_at_call 14; with_reducible refine (known_c _ (HG.out.of HB.out)).mono ?_; rintro e wn ⟨rfl, hb⟩; have k_ := Aside0.mk (below_step HB.out hb); clear HB; have HB := k_; clear k_; (try (have k_ := Aside0.mk (V0.out.below hb); clear V0; have V0 := k_; clear k_)); (try (have k_ := Aside0.mk (V2.out.below hb); clear V2; have V2 := k_; clear k_)); (try (have k_ := Aside0.mk (V3.out.below hb); clear V3; have V3 := k_; clear k_)); (try (have k_ := Aside0.mk (VW.out.below hb); clear VW; have VW := k_; clear k_)); (try clear hb); (try clear hR)))
  all_goals (go_ret; exact ⟨rfl, HB.out⟩)
set_option maxRecDepth 100000 in
set_option maxHeartbeats 8000000 in
theorem TrailBegins_walk (A0 : Option Addr) (n0 c0 : Nat) (z0 : List Int) (a1 : Int) (A2 : Option Addr) (n2 c2 : Nat) (z2 : List Int) (A3 : Option Addr) (n3 c3 : Nat) (z3 : List Int) (a4 : Int) (A5 : Option Addr) (c5 : Nat) (l5 : List (List Int)) (w : World) (HG : Glb w) (h0 : (A0 = none ∧ n0 = 0 ∧ c0 = 0 ∧ z0 = []) ∨ ∃ x, A0 = some x ∧ n0 ≤ c0 ∧ c0 ≤ maxLen ∧ z0.length = c0 ∧ (∀ i, i < z0.length → w.cell? (x.add i) = some (.int .u8 (z0.getD i 0))) ∧ ∀ n ∈ z0, (Lit.int .u8 n).wf = true) (y0 : n0 * 1 ≤ 140737488351232) (w1 : (Lit.int .i64 a1).wf = true) (h2 : (A2 = none ∧ n2 = 0 ∧ c2 = 0 ∧ z2 = []) ∨ ∃ x, A2 = some x ∧ n2 ≤ c2 ∧ c2 ≤ maxLen ∧ z2.length = c2 ∧ (∀ i, i < z2.length → w.cell? (x.add i) = some (.int .u8 (z2.getD i 0))) ∧ ∀ n ∈ z2, (Lit.int .u8 n).wf = true) (y2 : n2 * 1 ≤ 140737488351232) (h3 : (A3 = none ∧ n3 = 0 ∧ c3 = 0 ∧ z3 = []) ∨ ∃ x, A3 = some x ∧ n3 ≤ c3 ∧ c3 ≤ maxLen ∧ z3.length = c3 ∧ (∀ i, i < z3.length → w.cell? (x.add i) = some (.int .u8 (z3.getD i 0))) ∧ ∀ n ∈ z3, (Lit.int .u8 n).wf = true) (y3 : n3 * 1 ≤ 140737488351232) (w4 : (Lit.int .i64 a4).wf = true) (w5 : Kd.C dB w A5 l5.length l5) (hc5 : l5.length ≤ c5) (o5 : l5.length * 24 ≤ 140737488351232) (g5 : ∀ l ∈ l5, (∀ x ∈ l, (Lit.int .u8 x).wf = true) ∧ l.length * 1 ≤ 140737488351232) :
    Calls Tryd.prog 10 #[.slice A0 n0 c0, .int .i64 a1, .slice A2 n2 c2, .slice A3 n3 c3, .int .i64 a4, .slice A5 l5.length c5] w fun e w' => e = .returned (.bool true) ∧ Below w.heap.size w w' := by
  obtain ⟨t0, rfl, hr0, hm0, hb0, hc0⟩ := ReadsInt.ofRowC h0
  have V0 : IsB w (.slice A0 t0.length c0) t0 := ⟨A0, c0, rfl, hc0, Kd.C_of_reads (d := (0 : Int)) (h1 := fun _ => rfl) hr0⟩
  obtain ⟨t2, rfl, hr2, hm2, hb2, hc2⟩ := ReadsInt.ofRowC h2
  have V2 : IsB w (.slice A2 t2.length c2) t2 := ⟨A2, c2, rfl, hc2, Kd.C_of_reads (d := (0 : Int)) (h1 := fun _ => rfl) hr2⟩
  obtain ⟨t3, rfl, hr3, hm3, hb3, hc3⟩ := ReadsInt.ofRowC h3
  have V3 : IsB w (.slice A3 t3.length c3) t3 := ⟨A3, c3, rfl, hc3, Kd.C_of_reads (d := (0 : Int)) (h1 := fun _ => rfl) hr3⟩
  have VW : IsN w (.slice A5 l5.length c5) l5 := ⟨A5, c5, rfl, hc5, w5⟩
  obtain ⟨r, HR, hs⟩ := size_eq l5 900 (by decide) (row_len g5) (by omega) (l5.length + 1) (by omega)
  by_cases e0 : 100 < t0.length
  · exact begins_far0 A0 _ c0 t0 A2 _ c2 t2 A3 _ c3 t3 a1 a4 A5 _ c5 l5 w HG V0 V2 V3 VW e0
  by_cases e2 : 100 < t2.length
  · exact begins_far2 A0 _ c0 t0 A2 _ c2 t2 A3 _ c3 t3 a1 a4 A5 _ c5 l5 w HG V0 V2 V3 VW (by omega) e2
  by_cases e3 : 100 < t3.length
  · exact begins_far3 A0 _ c0 t0 A2 _ c2 t2 A3 _ c3 t3 a1 a4 A5 _ c5 l5 w HG V0 V2 V3 VW (by omega) (by omega) e3
  by_cases er : 900 < r
  · exact begins_many A0 _ c0 t0 A2 _ c2 t2 A3 _ c3 t3 a1 a4 A5 _ c5 l5 w HG V0 V2 V3 VW (by omega) (by omega) (by omega) ⟨_, HR⟩ er
  obtain ⟨x, hx, hy⟩ := begins_same t0 t2 t3 a1 a4 l5 (fun x hx => byte_of (hb0 x hx)) (fun x hx => byte_of (hb2 x hx)) (fun x hx => byte_of (hb3 x hx)) (row_bytes g5) (by have := hs (by omega); omega)
  exact begins_main A0 _ c0 t0 A2 _ c2 t2 A3 _ c3 t3 a1 a4 A5 _ c5 l5 w HG V0 V2 V3 VW (by omega) (by omega) (by omega) ⟨_, HR⟩ er hx hy
end Go.Proofs.YtcnpdapampclpaaDoor.X
