/- The law TrailIns. -/
import Derived.Test.YtcnpdapampclpaaDoorThr
namespace Go.Proofs.YtcnpdapampclpaaDoor.X
open Go.RowKit Go.Proofs.YtcnpdapampclpaaDoor.H Go.Proofs.YtcnpdapampclpaaDoorW.PrintWords Go.Proofs.YtcnpdapampclpaaDoorW.PrintLast Go.Proofs.YtcnpdapampclpaaDoorW.PrintMore Go.Proofs.YtcnpdapampclpaaDoor.PPl Go.Proofs.YtcnpdapampclpaaDoor.PPm Go.Proofs.YtcnpdapampclpaaDoor.PPn Go.Proofs.YtcnpdapampclpaaDoor.PTp Go.Proofs.YtcnpdapampclpaaDoor.PTq Go.Proofs.YtcnpdapampclpaaDoor.PRa Go.Proofs.YtcnpdapampclpaaDoor.PRb Go.Proofs.YtcnpdapampclpaaDoor.PRg
set_option linter.unusedVariables false
set_option linter.unusedSimpArgs false
set_option maxRecDepth 100000 in
set_option maxHeartbeats 8000000 in
theorem ins_far0 (A0 : Option Addr) (n0 c0 : Nat) (t0 : List Int) (A3 : Option Addr) (n3 c3 : Nat) (t3 : List Int) (a1 : Int) (a2 : Int) (AW : Option Addr) (nW cW : Nat) (way : List (List Int)) (w : World) (HG : Glb w) (V0 : IsB w (.slice A0 n0 c0) t0) (V3 : IsB w (.slice A3 n3 c3) t3) (VW : IsN w (.slice AW nW cW) way) (h0 : 100 < n0) :
    Calls Tryd.prog 8 #[.slice A0 n0 c0, .int .i64 a1, .int .i64 a2, .slice A3 n3 c3, .slice AW nW cW] w fun e w' => e = .returned (.bool true) ∧ Below w.heap.size w w' := by
  have HG := Aside0.mk HG
  have V0 := Aside0.mk V0
  have V3 := Aside0.mk V3
  have VW := Aside0.mk VW
  have HB := Aside0.mk (Below.refl w.heap.size w)
  have c0 : ((100 : Int) < (n0 : Int)) = True := eq_true (by omega)
  go_enter Tryd.func8, Tryd.ntmps8
  go_wp2_with (first
    | (go_at_call 33; with_reducible refine (size_v VW.out HR.out).mono ?_; rintro e wn ⟨rfl, hb⟩; have k_ := Aside0.mk (below_step HB.out hb); clear HB; have HB := k_; clear k_; (try (have k_ := Aside0.mk (V0.out.below hb); clear V0; have V0 := k_; clear k_)); (try (have k_ := Aside0.mk (V2.out.below hb); clear V2; have V2 := k_; clear k_)); (try (have k_ := Aside0.mk (V3.out.below hb); clear V3; have V3 := k_; clear k_)); (try (have k_ := Aside0.mk (VW.out.below hb); clear VW; have VW := k_; clear k_)); (try clear hb); (try clear hR))
    | (go_at_call 14; with_reducible refine (known_c _ (HG.out.of HB.out)).mono ?_; rintro e wn ⟨rfl, hb⟩; have k_ := Aside0.mk (below_step HB.out hb); clear HB; have HB := k_; clear k_; (try (have k_ := Aside0.mk (V0.out.below hb); clear V0; have V0 := k_; clear k_)); (try (have k_ := Aside0.mk (V2.out.below hb); clear V2; have V2 := k_; clear k_)); (try (have k_ := Aside0.mk (V3.out.below hb); clear V3; have V3 := k_; clear k_)); (try (have k_ := Aside0.mk (VW.out.below hb); clear VW; have VW := k_; clear k_)); (try clear hb); (try clear hR)))
  go_ret
  exact ⟨rfl, HB.out⟩
set_option maxRecDepth 100000 in
set_option maxHeartbeats 8000000 in
theorem ins_far3 (A0 : Option Addr) (n0 c0 : Nat) (t0 : List Int) (A3 : Option Addr) (n3 c3 : Nat) (t3 : List Int) (a1 : Int) (a2 : Int) (AW : Option Addr) (nW cW : Nat) (way : List (List Int)) (w : World) (HG : Glb w) (V0 : IsB w (.slice A0 n0 c0) t0) (V3 : IsB w (.slice A3 n3 c3) t3) (VW : IsN w (.slice AW nW cW) way) (h0 : n0 ≤ 100) (h3 : 100 < n3) :
    Calls Tryd.prog 8 #[.slice A0 n0 c0, .int .i64 a1, .int .i64 a2, .slice A3 n3 c3, .slice AW nW cW] w fun e w' => e = .returned (.bool true) ∧ Below w.heap.size w w' := by
  have HG := Aside0.mk HG
  have V0 := Aside0.mk V0
  have V3 := Aside0.mk V3
  have VW := Aside0.mk VW
  have HB := Aside0.mk (Below.refl w.heap.size w)
  have c0 : ((100 : Int) < (n0 : Int)) = False := eq_false (by omega)
  have c3 : ((100 : Int) < (n3 : Int)) = True := eq_true (by omega)
  go_enter Tryd.func8, Tryd.ntmps8
  go_wp2_with (first
    | (go_at_call 33; with_reducible refine (size_v VW.out HR.out).mono ?_; rintro e wn ⟨rfl, hb⟩; have k_ := Aside0.mk (below_step HB.out hb); clear HB; have HB := k_; clear k_; (try (have k_ := Aside0.mk (V0.out.below hb); clear V0; have V0 := k_; clear k_)); (try (have k_ := Aside0.mk (V2.out.below hb); clear V2; have V2 := k_; clear k_)); (try (have k_ := Aside0.mk (V3.out.below hb); clear V3; have V3 := k_; clear k_)); (try (have k_ := Aside0.mk (VW.out.below hb); clear VW; have VW := k_; clear k_)); (try clear hb); (try clear hR))
    | (go_at_call 14; with_reducible refine (known_c _ (HG.out.of HB.out)).mono ?_; rintro e wn ⟨rfl, hb⟩; have k_ := Aside0.mk (below_step HB.out hb); clear HB; have HB := k_; clear k_; (try (have k_ := Aside0.mk (V0.out.below hb); clear V0; have V0 := k_; clear k_)); (try (have k_ := Aside0.mk (V2.out.below hb); clear V2; have V2 := k_; clear k_)); (try (have k_ := Aside0.mk (V3.out.below hb); clear V3; have V3 := k_; clear k_)); (try (have k_ := Aside0.mk (VW.out.below hb); clear VW; have VW := k_; clear k_)); (try clear hb); (try clear hR)))
  go_ret
  exact ⟨rfl, HB.out⟩
set_option maxRecDepth 100000 in
set_option maxHeartbeats 8000000 in
theorem ins_many (A0 : Option Addr) (n0 c0 : Nat) (t0 : List Int) (A3 : Option Addr) (n3 c3 : Nat) (t3 : List Int) (a1 : Int) (a2 : Int) (AW : Option Addr) (nW cW : Nat) (way : List (List Int)) (w : World) (HG : Glb w) (V0 : IsB w (.slice A0 n0 c0) t0) (V3 : IsB w (.slice A3 n3 c3) t3) (VW : IsN w (.slice AW nW cW) way) (h0 : n0 ≤ 100) (h3 : n3 ≤ 100) {r : Int} (HR : ∃ k, imprimaturref06_Size.f k way 900 = some r) (hr : 900 < r) :
    Calls Tryd.prog 8 #[.slice A0 n0 c0, .int .i64 a1, .int .i64 a2, .slice A3 n3 c3, .slice AW nW cW] w fun e w' => e = .returned (.bool true) ∧ Below w.heap.size w w' := by
  have HG := Aside0.mk HG
  have V0 := Aside0.mk V0
  have V3 := Aside0.mk V3
  have VW := Aside0.mk VW
  have HB := Aside0.mk (Below.refl w.heap.size w)
  have HR := Aside0.mk HR
  have c0 : ((100 : Int) < (n0 : Int)) = False := eq_false (by omega)
  have c3 : ((100 : Int) < (n3 : Int)) = False := eq_false (by omega)
  have cr : ((900 : Int) < r) = True := eq_true (by omega)
  go_enter Tryd.func8, Tryd.ntmps8
  go_wp2_with (first
    | (go_at_call 33; with_reducible refine (size_v VW.out HR.out).mono ?_; rintro e wn ⟨rfl, hb⟩; have k_ := Aside0.mk (below_step HB.out hb); clear HB; have HB := k_; clear k_; (try (have k_ := Aside0.mk (V0.out.below hb); clear V0; have V0 := k_; clear k_)); (try (have k_ := Aside0.mk (V2.out.below hb); clear V2; have V2 := k_; clear k_)); (try (have k_ := Aside0.mk (V3.out.below hb); clear V3; have V3 := k_; clear k_)); (try (have k_ := Aside0.mk (VW.out.below hb); clear VW; have VW := k_; clear k_)); (try clear hb); (try clear hR))
    | (go_at_call 14; with_reducible refine (known_c _ (HG.out.of HB.out)).mono ?_; rintro e wn ⟨rfl, hb⟩; have k_ := Aside0.mk (below_step HB.out hb); clear HB; have HB := k_; clear k_; (try (have k_ := Aside0.mk (V0.out.below hb); clear V0; have V0 := k_; clear k_)); (try (have k_ := Aside0.mk (V2.out.below hb); clear V2; have V2 := k_; clear k_)); (try (have k_ := Aside0.mk (V3.out.below hb); clear V3; have V3 := k_; clear k_)); (try (have k_ := Aside0.mk (VW.out.below hb); clear VW; have VW := k_; clear k_)); (try clear hb); (try clear hR)))
  go_ret
  exact ⟨rfl, HB.out⟩
set_option maxRecDepth 100000 in
set_option maxHeartbeats 8000000 in
theorem ins_main (A0 : Option Addr) (n0 c0 : Nat) (t0 : List Int) (A3 : Option Addr) (n3 c3 : Nat) (t3 : List Int) (a1 : Int) (a2 : Int) (AW : Option Addr) (nW cW : Nat) (way : List (List Int)) (w : World) (HG : Glb w) (V0 : IsB w (.slice A0 n0 c0) t0) (V3 : IsB w (.slice A3 n3 c3) t3) (VW : IsN w (.slice AW nW cW) way) (h0 : n0 ≤ 100) (h3 : n3 ≤ 100) {r : Int} (HR : ∃ k, imprimaturref06_Size.f k way 900 = some r) (hr : ¬ 900 < r) {x : Int} (HX : ∃ k, trail_In.f k t0 a1 a2 t3 way = some x) (HY : ∃ k, imprimaturref20_In.f k t0 a1 a2 t3 way = some x) :
    Calls Tryd.prog 8 #[.slice A0 n0 c0, .int .i64 a1, .int .i64 a2, .slice A3 n3 c3, .slice AW nW cW] w fun e w' => e = .returned (.bool true) ∧ Below w.heap.size w w' := by
  have HG := Aside0.mk HG
  have V0 := Aside0.mk V0
  have V3 := Aside0.mk V3
  have VW := Aside0.mk VW
  have HB := Aside0.mk (Below.refl w.heap.size w)
  have HR := Aside0.mk HR
  have HX := Aside0.mk HX
  have HY := Aside0.mk HY
  have c0 : ((100 : Int) < (n0 : Int)) = False := eq_false (by omega)
  have c3 : ((100 : Int) < (n3 : Int)) = False := eq_false (by omega)
  have cr : ((900 : Int) < r) = False := eq_false (by omega)
  go_enter Tryd.func8, Tryd.ntmps8
  go_wp2_with (first
    | (go_at_call 33; with_reducible refine (size_v VW.out HR.out).mono ?_; rintro e wn ⟨rfl, hb⟩; have k_ := Aside0.mk (below_step HB.out hb); clear HB; have HB := k_; clear k_; (try (have k_ := Aside0.mk (V0.out.below hb); clear V0; have V0 := k_; clear k_)); (try (have k_ := Aside0.mk (V2.out.below hb); clear V2; have V2 := k_; clear k_)); (try (have k_ := Aside0.mk (V3.out.below hb); clear V3; have V3 := k_; clear k_)); (try (have k_ := Aside0.mk (VW.out.below hb); clear VW; have VW := k_; clear k_)); (try clear hb); (try clear hR))
    | (go_at_call 34; with_reducible refine (in_v (HG.out.of HB.out) V0.out V3.out VW.out HX.out).mono ?_; rintro e wn ⟨rfl, hb⟩; have k_ := Aside0.mk (below_step HB.out hb); clear HB; have HB := k_; clear k_; (try (have k_ := Aside0.mk (V0.out.below hb); clear V0; have V0 := k_; clear k_)); (try (have k_ := Aside0.mk (V2.out.below hb); clear V2; have V2 := k_; clear k_)); (try (have k_ := Aside0.mk (V3.out.below hb); clear V3; have V3 := k_; clear k_)); (try (have k_ := Aside0.mk (VW.out.below hb); clear VW; have VW := k_; clear k_)); (try clear hb); (try clear hR))
    | (go_at_call 35; with_reducible refine (refin_v V0.out V3.out VW.out HY.out).mono ?_; rintro e wn ⟨rfl, hb⟩; have k_ := Aside0.mk (below_step HB.out hb); clear HB; have HB := k_; clear k_; (try (have k_ := Aside0.mk (V0.out.below hb); clear V0; have V0 := k_; clear k_)); (try (have k_ := Aside0.mk (V2.out.below hb); clear V2; have V2 := k_; clear k_)); (try (have k_ := Aside0.mk (V3.out.below hb); clear V3; have V3 := k_; clear k_)); (try (have k_ := Aside0.mk (VW.out.below hb); clear VW; have VW := k_; clear k_)); (try clear hb); (try clear hR))
    | (go_at_call 14; with_reducible refine (known_c _ (HG.out.of HB.out)).mono ?_; rintro e wn ⟨rfl, hb⟩; have k_ := Aside0.mk (below_step HB.out hb); clear HB; have HB := k_; clear k_; (try (have k_ := Aside0.mk (V0.out.below hb); clear V0; have V0 := k_; clear k_)); (try (have k_ := Aside0.mk (V2.out.below hb); clear V2; have V2 := k_; clear k_)); (try (have k_ := Aside0.mk (V3.out.below hb); clear V3; have V3 := k_; clear k_)); (try (have k_ := Aside0.mk (VW.out.below hb); clear VW; have VW := k_; clear k_)); (try clear hb); (try clear hR)))
  all_goals (go_ret; exact ⟨rfl, HB.out⟩)
set_option maxRecDepth 100000 in
set_option maxHeartbeats 8000000 in
theorem TrailIns_walk (A0 : Option Addr) (n0 c0 : Nat) (z0 : List Int) (a1 a2 : Int) (A3 : Option Addr) (n3 c3 : Nat) (z3 : List Int) (A4 : Option Addr) (c4 : Nat) (l4 : List (List Int)) (w : World) (HG : Glb w) (h0 : (A0 = none ∧ n0 = 0 ∧ c0 = 0 ∧ z0 = []) ∨ ∃ x, A0 = some x ∧ n0 ≤ c0 ∧ c0 ≤ maxLen ∧ z0.length = c0 ∧ (∀ i, i < z0.length → w.cell? (x.add i) = some (.int .u8 (z0.getD i 0))) ∧ ∀ n ∈ z0, (Lit.int .u8 n).wf = true) (y0 : n0 * 1 ≤ 140737488351232) (w1 : (Lit.int .i64 a1).wf = true) (w2 : (Lit.int .i64 a2).wf = true) (h3 : (A3 = none ∧ n3 = 0 ∧ c3 = 0 ∧ z3 = []) ∨ ∃ x, A3 = some x ∧ n3 ≤ c3 ∧ c3 ≤ maxLen ∧ z3.length = c3 ∧ (∀ i, i < z3.length → w.cell? (x.add i) = some (.int .u8 (z3.getD i 0))) ∧ ∀ n ∈ z3, (Lit.int .u8 n).wf = true) (y3 : n3 * 1 ≤ 140737488351232) (w4 : Kd.C dB w A4 l4.length l4) (hc4 : l4.length ≤ c4) (o4 : l4.length * 24 ≤ 140737488351232) (g4 : ∀ l ∈ l4, (∀ x ∈ l, (Lit.int .u8 x).wf = true) ∧ l.length * 1 ≤ 140737488351232) :
    Calls Tryd.prog 8 #[.slice A0 n0 c0, .int .i64 a1, .int .i64 a2, .slice A3 n3 c3, .slice A4 l4.length c4] w fun e w' => e = .returned (.bool true) ∧ Below w.heap.size w w' := by
  obtain ⟨t0, rfl, hr0, hm0, hb0, hc0⟩ := ReadsInt.ofRowC h0
  have V0 : IsB w (.slice A0 t0.length c0) t0 := ⟨A0, c0, rfl, hc0, Kd.C_of_reads (d := (0 : Int)) (h1 := fun _ => rfl) hr0⟩
  obtain ⟨t3, rfl, hr3, hm3, hb3, hc3⟩ := ReadsInt.ofRowC h3
  have V3 : IsB w (.slice A3 t3.length c3) t3 := ⟨A3, c3, rfl, hc3, Kd.C_of_reads (d := (0 : Int)) (h1 := fun _ => rfl) hr3⟩
  have VW : IsN w (.slice A4 l4.length c4) l4 := ⟨A4, c4, rfl, hc4, w4⟩
  obtain ⟨r, HR, hs⟩ := size_eq l4 900 (by decide) (row_len g4) (by omega) (l4.length + 1) (by omega)
  by_cases e0 : 100 < t0.length
  · exact ins_far0 A0 _ c0 t0 A3 _ c3 t3 a1 a2 A4 _ c4 l4 w HG V0 V3 VW e0
  by_cases e3 : 100 < t3.length
  · exact ins_far3 A0 _ c0 t0 A3 _ c3 t3 a1 a2 A4 _ c4 l4 w HG V0 V3 VW (by omega) e3
  by_cases er : 900 < r
  · exact ins_many A0 _ c0 t0 A3 _ c3 t3 a1 a2 A4 _ c4 l4 w HG V0 V3 VW (by omega) (by omega) ⟨_, HR⟩ er
  obtain ⟨x, hx, hy⟩ := in_same t0 t3 a1 a2 l4 (fun x hx => byte_of (hb0 x hx)) (fun x hx => byte_of (hb3 x hx)) (row_bytes g4) (by have := hs (by omega); omega)
  exact ins_main A0 _ c0 t0 A3 _ c3 t3 a1 a2 A4 _ c4 l4 w HG V0 V3 VW (by omega) (by omega) ⟨_, HR⟩ er hx hy
end Go.Proofs.YtcnpdapampclpaaDoor.X
