-- Written by a program of this session, after the print of the kit.
import Derived.Test.YtdpdmmbdoeefbaaDoorWC
import Derived.Test.YtdpdmmbdoeefbaaDoorPRgx0
namespace Go.Proofs.YtdpdmmbdoeefbaaDoor.PRg
open Go.RowKit Go.Proofs.YtdpdmmbdoeefbaaDoor.X Go.Proofs.YtdpdmmbdoeefbaaDoor.PCut Go.Proofs.YtdpdmmbdoeefbaaDoor.PCa Go.Proofs.YtdpdmmbdoeefbaaDoor.PCs Go.Proofs.YtdpdmmbdoeefbaaDoor.PCo Go.Proofs.YtdpdmmbdoeefbaaDoor.PCr Go.Proofs.YtdpdmmbdoeefbaaDoor.PRa Go.Proofs.YtdpdmmbdoeefbaaDoor.PPw Go.Proofs.YtdpdmmbdoeefbaaDoor.PPv Go.Proofs.YtdpdmmbdoeefbaaDoor.PRb Go.Proofs.YtdpdmmbdoeefbaaDoor.PRc Go.Proofs.YtdpdmmbdoeefbaaDoor.PRd Go.Proofs.YtdpdmmbdoeefbaaDoor.PRe Go.Proofs.YtdpdmmbdoeefbaaDoor.PUp Go.Proofs.YtdpdmmbdoeefbaaDoor.PCl Go.Proofs.YtdpdmmbdoeefbaaDoorW.PrintWords Go.Proofs.YtdpdmmbdoeefbaaDoorW.PrintLast Go.Proofs.YtdpdmmbdoeefbaaDoorW.PrintMore
attribute [local go_sem] max2_int min2_int max_two min_two max_three min_three max_four min_four   -- for this text's walks alone
set_option linter.unusedVariables false
set_option linter.unusedSimpArgs false

/-! ### imprimaturlaw06_MerkleRanges: function 12 -/
def imprimaturlaw06_MerkleRanges.j0 : Nat → List (List Int) → Int → Int → List Int → Int → Int → List (List Int) → List (List Int) → Bool → Option (Bool)
 | 0, _, _, _, _, _, _, _, _, _ => none
 | k + 1, x0, x1, x2, x3, x4, x5, x6, x7, x38 => if x38 = true then ((imprimaturlaw06_known.f).bind fun t104 => (some t104)) else ((merkle_ProveRange.f k x0 x1 x2).bind fun bt105 => ((imprimaturref06_ProveRange.f k x0 x1 x2).bind fun bt109 => ((imprimaturref06_Same.f k bt105.1 bt109.1).bind fun t113 => (if t113 = true then (if bt105.2 = bt109.2 then ((merkle_CheckRange.f x3 x4 x5 x6 x7).bind fun t114 => ((imprimaturref06_CheckRange.f k x3 x4 x5 x6 x7).bind fun t115 => (if t114 = t115 then ((imprimaturlaw06_known.f).bind fun t116 => (some t116)) else (some false)))) else (some false)) else (some false)))))
def imprimaturlaw06_MerkleRanges.f (k : Nat) (l0 : List (List Int)) (a1 : Int) (a2 : Int) (l3 : List Int) (a4 : Int) (a5 : Int) (l6 : List (List Int)) (l7 : List (List Int)) : Option (Bool) := (imprimaturref06_Size.f k l0 900).bind fun t101 => (if t101 > 900 then (imprimaturlaw06_MerkleRanges.j0 k l0 a1 a2 l3 a4 a5 l6 l7 true) else (if (l3.length : Int) > 100 then (imprimaturlaw06_MerkleRanges.j0 k l0 a1 a2 l3 a4 a5 l6 l7 true) else ((imprimaturref06_Size.f k l6 900).bind fun t102 => (if t102 > 900 then (imprimaturlaw06_MerkleRanges.j0 k l0 a1 a2 l3 a4 a5 l6 l7 true) else ((imprimaturref06_Size.f k l7 900).bind fun t103 => (imprimaturlaw06_MerkleRanges.j0 k l0 a1 a2 l3 a4 a5 l6 l7 (decide (t103 > 900))))))))
theorem imprimaturlaw06_MerkleRanges.mono_l : ∀ k, (∀ y0 y1 y2 y3 y4 y5 y6 y7 y8, LeO (imprimaturlaw06_MerkleRanges.j0 k y0 y1 y2 y3 y4 y5 y6 y7 y8) (imprimaturlaw06_MerkleRanges.j0 (k + 1) y0 y1 y2 y3 y4 y5 y6 y7 y8))
 | 0 => fun _ _ _ _ _ _ _ _ _ r h => by simp [imprimaturlaw06_MerkleRanges.j0] at h
 | k + 1 => by
  have ih0 := imprimaturlaw06_MerkleRanges.mono_l k
  intro y0 y1 y2 y3 y4 y5 y6 y7 y8
  unfold imprimaturlaw06_MerkleRanges.j0
  repeat' first
  | (with_reducible exact ih0 _ _ _ _ _ _ _ _ _)
  | (with_reducible exact imprimaturref06_CheckRange.mono _ _ _ _ _ _)
  | (with_reducible exact imprimaturref06_ProveRange.mono _ _ _ _)
  | (with_reducible exact imprimaturref06_Same.mono _ _ _)
  | (with_reducible exact imprimaturref06_Size.mono _ _ _)
  | (with_reducible exact merkle_ProveRange.mono _ _ _ _)
  | (with_reducible exact LeO.refl _)
  | (with_reducible exact LeO.none _)
  | (with_reducible refine LeO.ite ?_ ?_)
  | (with_reducible refine LeO.bind ?_ (fun _ => ?_))
theorem imprimaturlaw06_MerkleRanges.mono : ∀ a0 a1 a2 a3 a4 a5 a6 a7 k, LeO (imprimaturlaw06_MerkleRanges.f k a0 a1 a2 a3 a4 a5 a6 a7) (imprimaturlaw06_MerkleRanges.f (k + 1) a0 a1 a2 a3 a4 a5 a6 a7) := by
 intro a0 a1 a2 a3 a4 a5 a6 a7 k
 have ih0 := imprimaturlaw06_MerkleRanges.mono_l k
 unfold imprimaturlaw06_MerkleRanges.f
 repeat' first
   | (with_reducible exact ih0 _ _ _ _ _ _ _ _ _)
   | (with_reducible exact imprimaturref06_CheckRange.mono _ _ _ _ _ _)
   | (with_reducible exact imprimaturref06_ProveRange.mono _ _ _ _)
   | (with_reducible exact imprimaturref06_Same.mono _ _ _)
   | (with_reducible exact imprimaturref06_Size.mono _ _ _)
   | (with_reducible exact merkle_ProveRange.mono _ _ _ _)
   | (with_reducible exact LeO.refl _)
   | (with_reducible exact LeO.none _)
   | (with_reducible refine LeO.ite ?_ ?_)
   | (with_reducible refine LeO.bind ?_ (fun _ => ?_))
set_option maxHeartbeats 8000000 in
set_option maxRecDepth 100000 in
theorem imprimaturlaw06_MerkleRanges.calls (k : Nat) (A0 : Option Addr) (c0 : Nat) (l0 : List (List Int)) (a1 : Int) (a2 : Int) (A3 : Option Addr) (c3 : Nat) (l3 : List Int) (a4 : Int) (a5 : Int) (A6 : Option Addr) (c6 : Nat) (l6 : List (List Int)) (A7 : Option Addr) (c7 : Nat) (l7 : List (List Int)) (r : Bool) (w : World) (HG : Glb w) (hr0 : Kd.C (Kd.slice 5 (Kd.int .u8)) w A0 l0.length l0) (hc0 : l0.length ≤ c0) (hr3 : Kd.C (Kd.int .u8) w A3 l3.length l3) (hc3 : l3.length ≤ c3) (hr6 : Kd.C (Kd.slice 5 (Kd.int .u8)) w A6 l6.length l6) (hc6 : l6.length ≤ c6) (hr7 : Kd.C (Kd.slice 5 (Kd.int .u8)) w A7 l7.length l7) (hc7 : l7.length ≤ c7) (h : imprimaturlaw06_MerkleRanges.f k l0 a1 a2 l3 a4 a5 l6 l7 = some r) :
  Calls Tryd.prog 12 #[.slice A0 l0.length c0, .int .i64 a1, .int .i64 a2, .slice A3 l3.length c3, .int .i64 a4, .int .i64 a5, .slice A6 l6.length c6, .slice A7 l7.length c7] w fun e w' => e = .returned (.bool r) ∧ Below w.heap.size w w' := by
 have HR0 := aM hr0
 have HC0 := aM hc0
 clear hr0 hc0
 have HR3 := aM hr3
 have HC3 := aM hc3
 clear hr3 hc3
 have HR6 := aM hr6
 have HC6 := aM hc6
 clear hr6 hc6
 have HR7 := aM hr7
 have HC7 := aM hc7
 clear hr7 hc7
 have HB := aM (Below.refl w.heap.size w)
 have H : ((imprimaturref06_Size.f k l0 900).bind fun t101 => (if t101 > 900 then (imprimaturlaw06_MerkleRanges.j0 k l0 a1 a2 l3 a4 a5 l6 l7 true) else (if (l3.length : Int) > 100 then (imprimaturlaw06_MerkleRanges.j0 k l0 a1 a2 l3 a4 a5 l6 l7 true) else ((imprimaturref06_Size.f k l6 900).bind fun t102 => (if t102 > 900 then (imprimaturlaw06_MerkleRanges.j0 k l0 a1 a2 l3 a4 a5 l6 l7 true) else ((imprimaturref06_Size.f k l7 900).bind fun t103 => (imprimaturlaw06_MerkleRanges.j0 k l0 a1 a2 l3 a4 a5 l6 l7 (decide (t103 > 900))))))))) = some r := h
 clear h
 have HC9 := aM H
 clear H
 go_enter Tryd.func12, Tryd.ntmps12
 go_upto_region 1 with (fail)
 go_cut [38] (fun v38 wc => ∃ (kq : Nat) (x38_8 : Bool), v38 = .bool x38_8 ∧ Aside0 (imprimaturlaw06_MerkleRanges.j0 kq l0 a1 a2 l3 a4 a5 l6 l7 x38_8 = some r) ∧ Aside0 (kq ≤ k) ∧ Aside0 (Below w.heap.size w wc))
 case first =>
  have H := HC9.out
  clear HC9
  replace H := Option.bind_eq_some_iff.mp H
  obtain ⟨t101, A100, H⟩ := H
  replace H : (if t101 > 900 then (imprimaturlaw06_MerkleRanges.j0 k l0 a1 a2 l3 a4 a5 l6 l7 true) else (if (l3.length : Int) > 100 then (imprimaturlaw06_MerkleRanges.j0 k l0 a1 a2 l3 a4 a5 l6 l7 true) else ((imprimaturref06_Size.f k l6 900).bind fun t102 => (if t102 > 900 then (imprimaturlaw06_MerkleRanges.j0 k l0 a1 a2 l3 a4 a5 l6 l7 true) else ((imprimaturref06_Size.f k l7 900).bind fun t103 => (imprimaturlaw06_MerkleRanges.j0 k l0 a1 a2 l3 a4 a5 l6 l7 (decide (t103 > 900)))))))) = some r := H
  have A10 := aM A100
  clear A100
  by_cases c11 : t101 > 900
  ·rw [if_pos c11] at H
   have c11b0 : decide (900 < t101) = true := decide_eq_true c11
   clear c11
   (first | rw [c11b0] | (simp only [i64_w, i32_w]; rw [c11b0]) | skip)
   have H' := aM H
   clear H
   go_wp2_with (first | ((with_reducible refine gate_callee (f := 14) rfl ?_); refine goesL_ (some 22) rfl rfl Tryd.func14 (by kernel_rfl) rfl #[.slice A0 l0.length c0, .int .i64 900] rfl eqA ?_; (with_reducible refine (imprimaturref06_Size.calls k _ _ l0 900 t101 _ ?side1 ?side2 A10.out).mono ?_); (case side1 => exact cL (Kd.C_below HR0.out HB.out)); (case side2 => exact HC0.out); rintro e w' ⟨rfl, ⟨nd, rfl⟩⟩; refine ⟨_, rfl, ?_⟩))
   go_meet
   case rel => exact ⟨_, (true), rfS, H', omL, ⟨bel⟩⟩
  rw [if_neg c11] at H
  have c11b0 : decide (900 < t101) = false := decide_eq_false c11
  clear c11
  (first | rw [c11b0] | (simp only [i64_w, i32_w]; rw [c11b0]) | skip)
  by_cases c12 : (l3.length : Int) > 100
  ·rw [if_pos c12] at H
   have c12b0 : decide (100 < (l3.length : Int)) = true := decide_eq_true c12
   have c12b1 : decide (100 < l3.length) = true := decide_eq_true (by omega)
   clear c12
   have H' := aM H
   clear H
   go_wp2_with (first | ((with_reducible refine gate_callee (f := 14) rfl ?_); refine goesL_ (some 22) rfl rfl Tryd.func14 (by kernel_rfl) rfl #[.slice A0 l0.length c0, .int .i64 900] rfl eqA ?_; (with_reducible refine (imprimaturref06_Size.calls k _ _ l0 900 t101 _ ?side1 ?side2 A10.out).mono ?_); (case side1 => exact cL (Kd.C_below HR0.out HB.out)); (case side2 => exact HC0.out); rintro e w' ⟨rfl, ⟨nd, rfl⟩⟩; refine ⟨_, rfl, ?_⟩))
   go_meet
   case rel => exact ⟨_, (true), rfS, H', omL, ⟨bel⟩⟩
  rw [if_neg c12] at H
  have c12b0 : decide (100 < (l3.length : Int)) = false := decide_eq_false c12
  have c12b1 : decide (100 < l3.length) = false := decide_eq_false (by omega)
  clear c12
  replace H := Option.bind_eq_some_iff.mp H
  obtain ⟨t102, A130, H⟩ := H
  replace H : (if t102 > 900 then (imprimaturlaw06_MerkleRanges.j0 k l0 a1 a2 l3 a4 a5 l6 l7 true) else ((imprimaturref06_Size.f k l7 900).bind fun t103 => (imprimaturlaw06_MerkleRanges.j0 k l0 a1 a2 l3 a4 a5 l6 l7 (decide (t103 > 900))))) = some r := H
  have A13 := aM A130
  clear A130
  by_cases c14 : t102 > 900
  ·rw [if_pos c14] at H
   have c14b0 : decide (900 < t102) = true := decide_eq_true c14
   clear c14
   have H' := aM H
   clear H
   go_wp2_with (first | ((with_reducible refine gate_callee (f := 14) rfl ?_); refine goesL_ (some 22) rfl rfl Tryd.func14 (by kernel_rfl) rfl #[.slice A0 l0.length c0, .int .i64 900] rfl eqA ?_; (with_reducible refine (imprimaturref06_Size.calls k _ _ l0 900 t101 _ ?side1 ?side2 A10.out).mono ?_); (case side1 => exact cL (Kd.C_below HR0.out HB.out)); (case side2 => exact HC0.out); rintro e w' ⟨rfl, ⟨nd, rfl⟩⟩; refine ⟨_, rfl, ?_⟩) | (go_at_call 14; (with_reducible refine (imprimaturref06_Size.calls k _ _ l6 900 t102 _ ?side1 ?side2 A13.out).mono ?_); (case side1 => exact cL (Kd.C_below HR6.out bel)); (case side2 => exact HC6.out); rintro e w' ⟨rfl, ⟨nd, rfl⟩⟩))
   go_meet
   case rel => exact ⟨_, (true), rfS, H', omL, ⟨bel⟩⟩
  rw [if_neg c14] at H
  have c14b0 : decide (900 < t102) = false := decide_eq_false c14
  clear c14
  replace H := Option.bind_eq_some_iff.mp H
  obtain ⟨t103, A150, H⟩ := H
  replace H : (imprimaturlaw06_MerkleRanges.j0 k l0 a1 a2 l3 a4 a5 l6 l7 (decide (t103 > 900))) = some r := H
  have A15 := aM A150
  clear A150
  have H' := aM H
  clear H
  go_wp2_with (first | ((with_reducible refine gate_callee (f := 14) rfl ?_); refine goesL_ (some 22) rfl rfl Tryd.func14 (by kernel_rfl) rfl #[.slice A0 l0.length c0, .int .i64 900] rfl eqA ?_; (with_reducible refine (imprimaturref06_Size.calls k _ _ l0 900 t101 _ ?side1 ?side2 A10.out).mono ?_); (case side1 => exact cL (Kd.C_below HR0.out HB.out)); (case side2 => exact HC0.out); rintro e w' ⟨rfl, ⟨nd, rfl⟩⟩; refine ⟨_, rfl, ?_⟩) | (go_at_call 14; (with_reducible refine (imprimaturref06_Size.calls k _ _ l6 900 t102 _ ?side1 ?side2 A13.out).mono ?_); (case side1 => exact cL (Kd.C_below HR6.out bel)); (case side2 => exact HC6.out); rintro e w' ⟨rfl, ⟨nd, rfl⟩⟩) | (go_at_call 14; (with_reducible refine (imprimaturref06_Size.calls k _ _ l7 900 t103 _ ?side1 ?side2 A15.out).mono ?_); (case side1 => exact cL (Kd.C_below HR7.out bel)); (case side2 => exact HC7.out); rintro e w' ⟨rfl, ⟨nd, rfl⟩⟩))
  go_meet
  case rel => exact ⟨_, (decide (t103 > 900)), rfS, H', omL, ⟨bel⟩⟩
 case rest =>
  clear HC9
  obtain ⟨kq, x38_8, rfl, HA, HJ8, HB⟩ := hcut
  cases kq with
  | zero => exact absurd HA.out (by simp [imprimaturlaw06_MerkleRanges.j0])
  | succ kj8 =>
   have H := HA.out
   clear HA
   simp only [imprimaturlaw06_MerkleRanges.j0] at H
   by_cases c16 : x38_8 = true
   ·subst c16
    have H1 : ((imprimaturlaw06_known.f).bind fun t104 => (some t104)) = some r := by rw [if_pos rfl] at H; exact H
    clear H
    have H := H1
    clear H1
    replace H := Option.bind_eq_some_iff.mp H
    obtain ⟨t104, A170, H⟩ := H
    replace H : (some t104) = some r := H
    have A17 := aM A170
    clear A170
    obtain rfl := Option.some.inj H
    go_wp2_with (first | ((with_reducible refine gate_callee (f := 15) rfl ?_); refine goesL_ (some 39) rfl rfl Tryd.func15 (by kernel_rfl) rfl #[] rfl eqA ?_; (with_reducible refine (imprimaturlaw06_known.calls  t104 _ (Glb.of HG bel) A17.out).mono ?_); rintro e w18 ⟨rfl, hb⟩; refine ⟨_, rfl, ?_⟩; replace HB := aM (below_step bel hb); clear hb))
    go_ret
    exact ⟨erR, bel⟩
   replace c16 := Bool.eq_false_iff.mpr c16
   subst c16
   have H1 : ((merkle_ProveRange.f kj8 l0 a1 a2).bind fun bt105 => ((imprimaturref06_ProveRange.f kj8 l0 a1 a2).bind fun bt109 => ((imprimaturref06_Same.f kj8 bt105.1 bt109.1).bind fun t113 => (if t113 = true then (if bt105.2 = bt109.2 then ((merkle_CheckRange.f l3 a4 a5 l6 l7).bind fun t114 => ((imprimaturref06_CheckRange.f kj8 l3 a4 a5 l6 l7).bind fun t115 => (if t114 = t115 then ((imprimaturlaw06_known.f).bind fun t116 => (some t116)) else (some false)))) else (some false)) else (some false))))) = some r := by rw [if_neg (show ¬ (false = true) by decide)] at H; exact H
   clear H
   have H := H1
   clear H1
   replace H := Option.bind_eq_some_iff.mp H
   obtain ⟨⟨t105, t108⟩, A190, H⟩ := H
   replace H : ((imprimaturref06_ProveRange.f kj8 l0 a1 a2).bind fun bt109 => ((imprimaturref06_Same.f kj8 t105 bt109.1).bind fun t113 => (if t113 = true then (if t108 = bt109.2 then ((merkle_CheckRange.f l3 a4 a5 l6 l7).bind fun t114 => ((imprimaturref06_CheckRange.f kj8 l3 a4 a5 l6 l7).bind fun t115 => (if t114 = t115 then ((imprimaturlaw06_known.f).bind fun t116 => (some t116)) else (some false)))) else (some false)) else (some false)))) = some r := H
   have A19 := aM A190
   clear A190
   replace H := Option.bind_eq_some_iff.mp H
   obtain ⟨⟨t109, t112⟩, A200, H⟩ := H
   replace H : ((imprimaturref06_Same.f kj8 t105 t109).bind fun t113 => (if t113 = true then (if t108 = t112 then ((merkle_CheckRange.f l3 a4 a5 l6 l7).bind fun t114 => ((imprimaturref06_CheckRange.f kj8 l3 a4 a5 l6 l7).bind fun t115 => (if t114 = t115 then ((imprimaturlaw06_known.f).bind fun t116 => (some t116)) else (some false)))) else (some false)) else (some false))) = some r := H
   have A20 := aM A200
   clear A200
   replace H := Option.bind_eq_some_iff.mp H
   obtain ⟨t113, A210, H⟩ := H
   replace H : (if t113 = true then (if t108 = t112 then ((merkle_CheckRange.f l3 a4 a5 l6 l7).bind fun t114 => ((imprimaturref06_CheckRange.f kj8 l3 a4 a5 l6 l7).bind fun t115 => (if t114 = t115 then ((imprimaturlaw06_known.f).bind fun t116 => (some t116)) else (some false)))) else (some false)) else (some false)) = some r := H
   have A21 := aM A210
   clear A210
   by_cases c22 : t113 = true
   rotate_left
   ·replace c22 := Bool.eq_false_iff.mpr c22
    subst c22
    have H1 : (some false) = some r := by rw [if_neg (show ¬ (false = true) by decide)] at H; exact H
    clear H
    have H := H1
    clear H1
    obtain rfl := Option.some.inj H
    go_wp2_with (first | ((with_reducible refine gate_callee (f := 46) rfl ?_); refine goesL_ (some 44) rfl rfl Tryd.func46 (by kernel_rfl) rfl #[.slice A0 l0.length c0, .int .i64 a1, .int .i64 a2] rfl eqA ?_; (with_reducible refine (merkle_ProveRange.calls kj8 (fun k_ => k_ < w.heap.size) _ _ l0 a1 a2 t105 t108 _ (Glb.of HG bel) ?side1 A19.out).mono ?_); (case side1 => exact Kd.V_mk HC0.out (Kd.F_below (Kd.C_F (Kd.heap_slice 5 (Kd.heap_int .u8)) HR0.out) bel)); rintro e w45 ⟨v106, rfl, ho0, hb⟩; refine ⟨_, rfl, ?_⟩; have HO107 := aM (Kd.N_lower (Kd.N_mono (ok' := fun k_ => True) ho0 (fun k_ hk_ => trivial)) (below_size bel)); replace HB := aM (below_step bel hb); clear hb ho0) | ((with_reducible refine gate_callee (f := 47) rfl ?_); refine goesL_ (some 51) rfl rfl Tryd.func47 (by kernel_rfl) rfl #[.slice A0 l0.length c0, .int .i64 a1, .int .i64 a2] rfl eqA ?_; (with_reducible refine (imprimaturref06_ProveRange.calls kj8 (fun k_ => k_ < w.heap.size) _ _ l0 a1 a2 t109 t112 _ ?side1 A20.out).mono ?_); (case side1 => exact Kd.V_mk HC0.out (Kd.F_below (Kd.C_F (Kd.heap_slice 5 (Kd.heap_int .u8)) HR0.out) bel)); rintro e w46 ⟨v110, rfl, ho0, hb⟩; refine ⟨_, rfl, ?_⟩; have HO111 := aM (Kd.N_lower (Kd.N_mono (ok' := fun k_ => some k_ ≠ (v106 : Value).ownBlock) ho0 (fun k_ hk_ => Or.elim hk_ (fun hs_ => fun e_ => Nat.not_le.2 hs_ (Kd.N_base HO107.out k_ e_.symm)) (fun hn_ => (Kd.fresh' (Kd.N_lt (nL HO107.out)) k_ hn_)))) (below_size bel)); replace HO107 := aM (Kd.N_elder' (nL HO107.out) (Kd.N_base ho0) hb); replace HB := aM (below_step bel hb); clear hb ho0; obtain ⟨Ao47, co47, eo47⟩ := Kd.N_slice HO107.out; subst eo47; obtain ⟨Ao48, co48, eo48⟩ := Kd.N_slice HO111.out; subst eo48) | ((with_reducible refine gate_callee (f := 30) rfl ?_); refine goesL_ (some 56) rfl rfl Tryd.func30 (by kernel_rfl) rfl #[.slice Ao47 t105.length co47, .slice Ao48 t109.length co48] rfl eqA ?_; (with_reducible refine (imprimaturref06_Same.calls kj8 _ _ t105 _ _ t109 false _ ?side1 ?side2 ?side3 ?side4 A21.out).mono ?_); (case side1 => exact cL (Kd.N_reads' HO107.out).2.2); (case side2 => exact (Kd.N_reads' HO107.out).2.1); (case side3 => exact cL (Kd.N_reads' HO111.out).2.2); (case side4 => exact (Kd.N_reads' HO111.out).2.1); rintro e w' ⟨rfl, ⟨nd, rfl⟩⟩; refine ⟨_, rfl, ?_⟩))
    go_ret
    exact ⟨erR, bel⟩

   subst c22
   have H1 : (if t108 = t112 then ((merkle_CheckRange.f l3 a4 a5 l6 l7).bind fun t114 => ((imprimaturref06_CheckRange.f kj8 l3 a4 a5 l6 l7).bind fun t115 => (if t114 = t115 then ((imprimaturlaw06_known.f).bind fun t116 => (some t116)) else (some false)))) else (some false)) = some r := by rw [if_pos rfl] at H; exact H
   clear H
   have H := H1
   clear H1
   by_cases c23 : t108 = t112
   rotate_left
   ·rw [if_neg c23] at H
    have c23b0 : (t108 == t112) = false := beq_eq_false_iff_ne.mpr c23
    have c23b1 : (t108 != t112) = true := bne_iff_ne.mpr c23
    obtain rfl := Option.some.inj H
    go_wp2_with (first | ((with_reducible refine gate_callee (f := 46) rfl ?_); refine goesL_ (some 44) rfl rfl Tryd.func46 (by kernel_rfl) rfl #[.slice A0 l0.length c0, .int .i64 a1, .int .i64 a2] rfl eqA ?_; (with_reducible refine (merkle_ProveRange.calls kj8 (fun k_ => k_ < w.heap.size) _ _ l0 a1 a2 t105 t108 _ (Glb.of HG bel) ?side1 A19.out).mono ?_); (case side1 => exact Kd.V_mk HC0.out (Kd.F_below (Kd.C_F (Kd.heap_slice 5 (Kd.heap_int .u8)) HR0.out) bel)); rintro e w41 ⟨v106, rfl, ho0, hb⟩; refine ⟨_, rfl, ?_⟩; have HO107 := aM (Kd.N_lower (Kd.N_mono (ok' := fun k_ => True) ho0 (fun k_ hk_ => trivial)) (below_size bel)); replace HB := aM (below_step bel hb); clear hb ho0) | ((with_reducible refine gate_callee (f := 47) rfl ?_); refine goesL_ (some 51) rfl rfl Tryd.func47 (by kernel_rfl) rfl #[.slice A0 l0.length c0, .int .i64 a1, .int .i64 a2] rfl eqA ?_; (with_reducible refine (imprimaturref06_ProveRange.calls kj8 (fun k_ => k_ < w.heap.size) _ _ l0 a1 a2 t109 t112 _ ?side1 A20.out).mono ?_); (case side1 => exact Kd.V_mk HC0.out (Kd.F_below (Kd.C_F (Kd.heap_slice 5 (Kd.heap_int .u8)) HR0.out) bel)); rintro e w42 ⟨v110, rfl, ho0, hb⟩; refine ⟨_, rfl, ?_⟩; have HO111 := aM (Kd.N_lower (Kd.N_mono (ok' := fun k_ => some k_ ≠ (v106 : Value).ownBlock) ho0 (fun k_ hk_ => Or.elim hk_ (fun hs_ => fun e_ => Nat.not_le.2 hs_ (Kd.N_base HO107.out k_ e_.symm)) (fun hn_ => (Kd.fresh' (Kd.N_lt (nL HO107.out)) k_ hn_)))) (below_size bel)); replace HO107 := aM (Kd.N_elder' (nL HO107.out) (Kd.N_base ho0) hb); replace HB := aM (below_step bel hb); clear hb ho0; obtain ⟨Ao43, co43, eo43⟩ := Kd.N_slice HO107.out; subst eo43; obtain ⟨Ao44, co44, eo44⟩ := Kd.N_slice HO111.out; subst eo44) | ((with_reducible refine gate_callee (f := 30) rfl ?_); refine goesL_ (some 56) rfl rfl Tryd.func30 (by kernel_rfl) rfl #[.slice Ao43 t105.length co43, .slice Ao44 t109.length co44] rfl eqA ?_; (with_reducible refine (imprimaturref06_Same.calls kj8 _ _ t105 _ _ t109 true _ ?side1 ?side2 ?side3 ?side4 A21.out).mono ?_); (case side1 => exact cL (Kd.N_reads' HO107.out).2.2); (case side2 => exact (Kd.N_reads' HO107.out).2.1); (case side3 => exact cL (Kd.N_reads' HO111.out).2.2); (case side4 => exact (Kd.N_reads' HO111.out).2.1); rintro e w' ⟨rfl, ⟨nd, rfl⟩⟩; refine ⟨_, rfl, ?_⟩))
    go_ret
    exact ⟨erR, bel⟩
   rw [if_pos c23] at H
   have c23b0 : (t108 == t112) = true := beq_iff_eq.mpr c23
   have c23b1 : (t108 != t112) = false := bne_eq_false_iff_eq.mpr c23
   clear c23
   replace H := Option.bind_eq_some_iff.mp H
   obtain ⟨t114, A240, H⟩ := H
   replace H : ((imprimaturref06_CheckRange.f kj8 l3 a4 a5 l6 l7).bind fun t115 => (if t114 = t115 then ((imprimaturlaw06_known.f).bind fun t116 => (some t116)) else (some false))) = some r := H
   have A24 := aM A240
   clear A240
   replace H := Option.bind_eq_some_iff.mp H
   obtain ⟨t115, A250, H⟩ := H
   replace H : (if t114 = t115 then ((imprimaturlaw06_known.f).bind fun t116 => (some t116)) else (some false)) = some r := H
   have A25 := aM A250
   clear A250
   by_cases c26 : t114 = t115
   ·rw [if_pos c26] at H
    have c26b0 : (t114 == t115) = true := beq_iff_eq.mpr c26
    have c26b1 : (t114 != t115) = false := bne_eq_false_iff_eq.mpr c26
    clear c26
    replace H := Option.bind_eq_some_iff.mp H
    obtain ⟨t116, A270, H⟩ := H
    replace H : (some t116) = some r := H
    have A27 := aM A270
    clear A270
    obtain rfl := Option.some.inj H
    go_wp2_with (first | ((with_reducible refine gate_callee (f := 46) rfl ?_); refine goesL_ (some 44) rfl rfl Tryd.func46 (by kernel_rfl) rfl #[.slice A0 l0.length c0, .int .i64 a1, .int .i64 a2] rfl eqA ?_; (with_reducible refine (merkle_ProveRange.calls kj8 (fun k_ => k_ < w.heap.size) _ _ l0 a1 a2 t105 t108 _ (Glb.of HG bel) ?side1 A19.out).mono ?_); (case side1 => exact Kd.V_mk HC0.out (Kd.F_below (Kd.C_F (Kd.heap_slice 5 (Kd.heap_int .u8)) HR0.out) bel)); rintro e w28 ⟨v106, rfl, ho0, hb⟩; refine ⟨_, rfl, ?_⟩; have HO107 := aM (Kd.N_lower (Kd.N_mono (ok' := fun k_ => True) ho0 (fun k_ hk_ => trivial)) (below_size bel)); replace HB := aM (below_step bel hb); clear hb ho0) | ((with_reducible refine gate_callee (f := 47) rfl ?_); refine goesL_ (some 51) rfl rfl Tryd.func47 (by kernel_rfl) rfl #[.slice A0 l0.length c0, .int .i64 a1, .int .i64 a2] rfl eqA ?_; (with_reducible refine (imprimaturref06_ProveRange.calls kj8 (fun k_ => k_ < w.heap.size) _ _ l0 a1 a2 t109 t112 _ ?side1 A20.out).mono ?_); (case side1 => exact Kd.V_mk HC0.out (Kd.F_below (Kd.C_F (Kd.heap_slice 5 (Kd.heap_int .u8)) HR0.out) bel)); rintro e w29 ⟨v110, rfl, ho0, hb⟩; refine ⟨_, rfl, ?_⟩; have HO111 := aM (Kd.N_lower (Kd.N_mono (ok' := fun k_ => some k_ ≠ (v106 : Value).ownBlock) ho0 (fun k_ hk_ => Or.elim hk_ (fun hs_ => fun e_ => Nat.not_le.2 hs_ (Kd.N_base HO107.out k_ e_.symm)) (fun hn_ => (Kd.fresh' (Kd.N_lt (nL HO107.out)) k_ hn_)))) (below_size bel)); replace HO107 := aM (Kd.N_elder' (nL HO107.out) (Kd.N_base ho0) hb); replace HB := aM (below_step bel hb); clear hb ho0; obtain ⟨Ao30, co30, eo30⟩ := Kd.N_slice HO107.out; subst eo30; obtain ⟨Ao31, co31, eo31⟩ := Kd.N_slice HO111.out; subst eo31) | ((with_reducible refine gate_callee (f := 30) rfl ?_); refine goesL_ (some 56) rfl rfl Tryd.func30 (by kernel_rfl) rfl #[.slice Ao30 t105.length co30, .slice Ao31 t109.length co31] rfl eqA ?_; (with_reducible refine (imprimaturref06_Same.calls kj8 _ _ t105 _ _ t109 true _ ?side1 ?side2 ?side3 ?side4 A21.out).mono ?_); (case side1 => exact cL (Kd.N_reads' HO107.out).2.2); (case side2 => exact (Kd.N_reads' HO107.out).2.1); (case side3 => exact cL (Kd.N_reads' HO111.out).2.2); (case side4 => exact (Kd.N_reads' HO111.out).2.1); rintro e w' ⟨rfl, ⟨nd, rfl⟩⟩; refine ⟨_, rfl, ?_⟩) | (go_at_call 48; (with_reducible refine (merkle_CheckRange.calls _ _ l3 a4 a5 _ _ l6 _ _ l7 t114 _ (Glb.of HG bel) ?side1 ?side2 ?side3 ?side4 ?side5 ?side6 A24.out).mono ?_); (case side1 => exact cL (Kd.C_below HR3.out bel)); (case side2 => exact HC3.out); (case side3 => exact cL (Kd.C_below HR6.out bel)); (case side4 => exact HC6.out); (case side5 => exact cL (Kd.C_below HR7.out bel)); (case side6 => exact HC7.out); rintro e w32 ⟨rfl, hb⟩; replace HO107 := aM (Kd.N_below (nL HO107.out) hb); replace HO111 := aM (Kd.N_below (nL HO111.out) hb); replace HB := aM (below_step bel hb); clear hb) | (go_at_call 49; (with_reducible refine (imprimaturref06_CheckRange.calls kj8 _ _ l3 a4 a5 _ _ l6 _ _ l7 t115 _ ?side1 ?side2 ?side3 ?side4 ?side5 ?side6 A25.out).mono ?_); (case side1 => exact cL (Kd.C_below HR3.out HB.out)); (case side2 => exact HC3.out); (case side3 => exact cL (Kd.C_below HR6.out HB.out)); (case side4 => exact HC6.out); (case side5 => exact cL (Kd.C_below HR7.out HB.out)); (case side6 => exact HC7.out); rintro e w33 ⟨rfl, hb⟩; replace HO107 := aM (Kd.N_below (nL HO107.out) hb); replace HO111 := aM (Kd.N_below (nL HO111.out) hb); replace HB := aM (below_step bel hb); clear hb) | (go_at_call 15; (with_reducible refine (imprimaturlaw06_known.calls  t116 _ (Glb.of HG bel) A27.out).mono ?_); rintro e w34 ⟨rfl, hb⟩; replace HO107 := aM (Kd.N_below (nL HO107.out) hb); replace HO111 := aM (Kd.N_below (nL HO111.out) hb); replace HB := aM (below_step bel hb); clear hb))
    go_ret
    exact ⟨erR, bel⟩
   rw [if_neg c26] at H
   have c26b0 : (t114 == t115) = false := beq_eq_false_iff_ne.mpr c26
   have c26b1 : (t114 != t115) = true := bne_iff_ne.mpr c26
   obtain rfl := Option.some.inj H
   go_wp2_with (first | ((with_reducible refine gate_callee (f := 46) rfl ?_); refine goesL_ (some 44) rfl rfl Tryd.func46 (by kernel_rfl) rfl #[.slice A0 l0.length c0, .int .i64 a1, .int .i64 a2] rfl eqA ?_; (with_reducible refine (merkle_ProveRange.calls kj8 (fun k_ => k_ < w.heap.size) _ _ l0 a1 a2 t105 t108 _ (Glb.of HG bel) ?side1 A19.out).mono ?_); (case side1 => exact Kd.V_mk HC0.out (Kd.F_below (Kd.C_F (Kd.heap_slice 5 (Kd.heap_int .u8)) HR0.out) bel)); rintro e w35 ⟨v106, rfl, ho0, hb⟩; refine ⟨_, rfl, ?_⟩; have HO107 := aM (Kd.N_lower (Kd.N_mono (ok' := fun k_ => True) ho0 (fun k_ hk_ => trivial)) (below_size bel)); replace HB := aM (below_step bel hb); clear hb ho0) | ((with_reducible refine gate_callee (f := 47) rfl ?_); refine goesL_ (some 51) rfl rfl Tryd.func47 (by kernel_rfl) rfl #[.slice A0 l0.length c0, .int .i64 a1, .int .i64 a2] rfl eqA ?_; (with_reducible refine (imprimaturref06_ProveRange.calls kj8 (fun k_ => k_ < w.heap.size) _ _ l0 a1 a2 t109 t112 _ ?side1 A20.out).mono ?_); (case side1 => exact Kd.V_mk HC0.out (Kd.F_below (Kd.C_F (Kd.heap_slice 5 (Kd.heap_int .u8)) HR0.out) bel)); rintro e w36 ⟨v110, rfl, ho0, hb⟩; refine ⟨_, rfl, ?_⟩; have HO111 := aM (Kd.N_lower (Kd.N_mono (ok' := fun k_ => some k_ ≠ (v106 : Value).ownBlock) ho0 (fun k_ hk_ => Or.elim hk_ (fun hs_ => fun e_ => Nat.not_le.2 hs_ (Kd.N_base HO107.out k_ e_.symm)) (fun hn_ => (Kd.fresh' (Kd.N_lt (nL HO107.out)) k_ hn_)))) (below_size bel)); replace HO107 := aM (Kd.N_elder' (nL HO107.out) (Kd.N_base ho0) hb); replace HB := aM (below_step bel hb); clear hb ho0; obtain ⟨Ao37, co37, eo37⟩ := Kd.N_slice HO107.out; subst eo37; obtain ⟨Ao38, co38, eo38⟩ := Kd.N_slice HO111.out; subst eo38) | ((with_reducible refine gate_callee (f := 30) rfl ?_); refine goesL_ (some 56) rfl rfl Tryd.func30 (by kernel_rfl) rfl #[.slice Ao37 t105.length co37, .slice Ao38 t109.length co38] rfl eqA ?_; (with_reducible refine (imprimaturref06_Same.calls kj8 _ _ t105 _ _ t109 true _ ?side1 ?side2 ?side3 ?side4 A21.out).mono ?_); (case side1 => exact cL (Kd.N_reads' HO107.out).2.2); (case side2 => exact (Kd.N_reads' HO107.out).2.1); (case side3 => exact cL (Kd.N_reads' HO111.out).2.2); (case side4 => exact (Kd.N_reads' HO111.out).2.1); rintro e w' ⟨rfl, ⟨nd, rfl⟩⟩; refine ⟨_, rfl, ?_⟩) | (go_at_call 48; (with_reducible refine (merkle_CheckRange.calls _ _ l3 a4 a5 _ _ l6 _ _ l7 t114 _ (Glb.of HG bel) ?side1 ?side2 ?side3 ?side4 ?side5 ?side6 A24.out).mono ?_); (case side1 => exact cL (Kd.C_below HR3.out bel)); (case side2 => exact HC3.out); (case side3 => exact cL (Kd.C_below HR6.out bel)); (case side4 => exact HC6.out); (case side5 => exact cL (Kd.C_below HR7.out bel)); (case side6 => exact HC7.out); rintro e w39 ⟨rfl, hb⟩; replace HO107 := aM (Kd.N_below (nL HO107.out) hb); replace HO111 := aM (Kd.N_below (nL HO111.out) hb); replace HB := aM (below_step bel hb); clear hb) | (go_at_call 49; (with_reducible refine (imprimaturref06_CheckRange.calls kj8 _ _ l3 a4 a5 _ _ l6 _ _ l7 t115 _ ?side1 ?side2 ?side3 ?side4 ?side5 ?side6 A25.out).mono ?_); (case side1 => exact cL (Kd.C_below HR3.out HB.out)); (case side2 => exact HC3.out); (case side3 => exact cL (Kd.C_below HR6.out HB.out)); (case side4 => exact HC6.out); (case side5 => exact cL (Kd.C_below HR7.out HB.out)); (case side6 => exact HC7.out); rintro e w40 ⟨rfl, hb⟩; replace HO107 := aM (Kd.N_below (nL HO107.out) hb); replace HO111 := aM (Kd.N_below (nL HO111.out) hb); replace HB := aM (below_step bel hb); clear hb))
   go_ret
   exact ⟨erR, bel⟩
end Go.Proofs.YtdpdmmbdoeefbaaDoor.PRg
