-- Written by a program of this session, after the print of the kit.
import Derived.Test.YtdpdmmbdoeefbaaDoorWC
import Derived.Test.YtdpdmmbdoeefbaaDoorPChx0
namespace Go.Proofs.YtdpdmmbdoeefbaaDoor.PCh
open Go.RowKit Go.Proofs.YtdpdmmbdoeefbaaDoor.X Go.Proofs.YtdpdmmbdoeefbaaDoor.PCut Go.Proofs.YtdpdmmbdoeefbaaDoor.PCa Go.Proofs.YtdpdmmbdoeefbaaDoor.PCs Go.Proofs.YtdpdmmbdoeefbaaDoor.PCo Go.Proofs.YtdpdmmbdoeefbaaDoor.PCr Go.Proofs.YtdpdmmbdoeefbaaDoor.PRa Go.Proofs.YtdpdmmbdoeefbaaDoor.PPw Go.Proofs.YtdpdmmbdoeefbaaDoor.PPv Go.Proofs.YtdpdmmbdoeefbaaDoor.PRb Go.Proofs.YtdpdmmbdoeefbaaDoor.PRc Go.Proofs.YtdpdmmbdoeefbaaDoor.PRd Go.Proofs.YtdpdmmbdoeefbaaDoor.PRe Go.Proofs.YtdpdmmbdoeefbaaDoor.PUp Go.Proofs.YtdpdmmbdoeefbaaDoor.PCl Go.Proofs.YtdpdmmbdoeefbaaDoorW.PrintWords Go.Proofs.YtdpdmmbdoeefbaaDoorW.PrintLast Go.Proofs.YtdpdmmbdoeefbaaDoorW.PrintMore
attribute [local go_sem] max2_int min2_int max_two min_two max_three min_three max_four min_four   -- for this text's walks alone
set_option linter.unusedVariables false
set_option linter.unusedSimpArgs false

/-! ### imprimaturlaw06_MerkleChecks: function 3 -/
def imprimaturlaw06_MerkleChecks.j0 : Nat → List Int → Int → Int → List Int → List (List Int) → Bool → Option (Bool)
 | 0, _, _, _, _, _, _ => none
 | k + 1, x0, x1, x2, x3, x4, x23 => if x23 = true then ((imprimaturlaw06_known.f).bind fun t102 => (some t102)) else ((merkle_Check.f k x0 x1 x2 x3 x4).bind fun t103 => ((imprimaturref06_Check.f k x0 x1 x2 x3 x4).bind fun t104 => (if t103 = t104 then ((imprimaturlaw06_known.f).bind fun t105 => (some t105)) else (some false))))
def imprimaturlaw06_MerkleChecks.f (k : Nat) (l0 : List Int) (a1 : Int) (a2 : Int) (l3 : List Int) (l4 : List (List Int)) : Option (Bool) := if (l0.length : Int) > 100 then (imprimaturlaw06_MerkleChecks.j0 k l0 a1 a2 l3 l4 true) else (if (l3.length : Int) > 100 then (imprimaturlaw06_MerkleChecks.j0 k l0 a1 a2 l3 l4 true) else ((imprimaturref06_Size.f k l4 1500).bind fun t101 => (imprimaturlaw06_MerkleChecks.j0 k l0 a1 a2 l3 l4 (decide (t101 > 1500)))))
theorem imprimaturlaw06_MerkleChecks.mono_l : ∀ k, (∀ y0 y1 y2 y3 y4 y5, LeO (imprimaturlaw06_MerkleChecks.j0 k y0 y1 y2 y3 y4 y5) (imprimaturlaw06_MerkleChecks.j0 (k + 1) y0 y1 y2 y3 y4 y5))
 | 0 => fun _ _ _ _ _ _ r h => by simp [imprimaturlaw06_MerkleChecks.j0] at h
 | k + 1 => by
  have ih0 := imprimaturlaw06_MerkleChecks.mono_l k
  ·intro y0 y1 y2 y3 y4 y5
   unfold imprimaturlaw06_MerkleChecks.j0
   repeat' first
   | (with_reducible exact ih0 _ _ _ _ _ _)
   | (with_reducible exact imprimaturref06_Check.mono _ _ _ _ _ _)
   | (with_reducible exact imprimaturref06_Size.mono _ _ _)
   | (with_reducible exact merkle_Check.mono _ _ _ _ _ _)
   | (with_reducible exact LeO.refl _)
   | (with_reducible exact LeO.none _)
   | (with_reducible refine LeO.ite ?_ ?_)
   | (with_reducible refine LeO.bind ?_ (fun _ => ?_))
   | exact ih0 _ _ _ _ _ _
   | exact imprimaturref06_Check.mono _ _ _ _ _ _
   | exact imprimaturref06_Size.mono _ _ _
   | exact merkle_Check.mono _ _ _ _ _ _
   | exact LeO.none _
   | refine LeO.ite ?_ ?_
   | refine LeO.bind ?_ (fun _ => ?_)
theorem imprimaturlaw06_MerkleChecks.mono : ∀ a0 a1 a2 a3 a4 k, LeO (imprimaturlaw06_MerkleChecks.f k a0 a1 a2 a3 a4) (imprimaturlaw06_MerkleChecks.f (k + 1) a0 a1 a2 a3 a4) := by
 intro a0 a1 a2 a3 a4 k
 have ih0 := imprimaturlaw06_MerkleChecks.mono_l k
 unfold imprimaturlaw06_MerkleChecks.f
 repeat' first
   | (with_reducible exact ih0 _ _ _ _ _ _)
   | (with_reducible exact imprimaturref06_Check.mono _ _ _ _ _ _)
   | (with_reducible exact imprimaturref06_Size.mono _ _ _)
   | (with_reducible exact merkle_Check.mono _ _ _ _ _ _)
   | (with_reducible exact LeO.refl _)
   | (with_reducible exact LeO.none _)
   | (with_reducible refine LeO.ite ?_ ?_)
   | (with_reducible refine LeO.bind ?_ (fun _ => ?_))
   | exact ih0 _ _ _ _ _ _
   | exact imprimaturref06_Check.mono _ _ _ _ _ _
   | exact imprimaturref06_Size.mono _ _ _
   | exact merkle_Check.mono _ _ _ _ _ _
   | exact LeO.none _
   | refine LeO.ite ?_ ?_
   | refine LeO.bind ?_ (fun _ => ?_)
set_option maxHeartbeats 8000000 in
set_option maxRecDepth 100000 in
theorem imprimaturlaw06_MerkleChecks.calls (k : Nat) (A0 : Option Addr) (c0 : Nat) (l0 : List Int) (a1 : Int) (a2 : Int) (A3 : Option Addr) (c3 : Nat) (l3 : List Int) (A4 : Option Addr) (c4 : Nat) (l4 : List (List Int)) (r : Bool) (w : World) (HG : Glb w) (hr0 : Kd.C (Kd.int .u8) w A0 l0.length l0) (hc0 : l0.length ≤ c0) (hr3 : Kd.C (Kd.int .u8) w A3 l3.length l3) (hc3 : l3.length ≤ c3) (hr4 : Kd.C (Kd.slice 5 (Kd.int .u8)) w A4 l4.length l4) (hc4 : l4.length ≤ c4) (h : imprimaturlaw06_MerkleChecks.f k l0 a1 a2 l3 l4 = some r) :
  Calls Tryd.prog 3 #[.slice A0 l0.length c0, .int .i64 a1, .int .i64 a2, .slice A3 l3.length c3, .slice A4 l4.length c4] w fun e w' => e = .returned (.bool r) ∧ Below w.heap.size w w' := by
 have HR0 := Aside0.mk hr0
 have HC0 := Aside0.mk hc0
 clear hr0 hc0
 have HR3 := Aside0.mk hr3
 have HC3 := Aside0.mk hc3
 clear hr3 hc3
 have HR4 := Aside0.mk hr4
 have HC4 := Aside0.mk hc4
 clear hr4 hc4
 have HB := Aside0.mk (Below.refl w.heap.size w)
 have H : (if (l0.length : Int) > 100 then (imprimaturlaw06_MerkleChecks.j0 k l0 a1 a2 l3 l4 true) else (if (l3.length : Int) > 100 then (imprimaturlaw06_MerkleChecks.j0 k l0 a1 a2 l3 l4 true) else ((imprimaturref06_Size.f k l4 1500).bind fun t101 => (imprimaturlaw06_MerkleChecks.j0 k l0 a1 a2 l3 l4 (decide (t101 > 1500)))))) = some r := h
 clear h
 have HC6 := Aside0.mk H
 clear H
 go_enter Tryd.func3, Tryd.ntmps3
 go_upto_region 1 with (fail)
 go_cut [23] (fun v23 wc => ∃ (kq : Nat) (x23_5 : Bool), v23 = .bool x23_5 ∧ Aside0 (imprimaturlaw06_MerkleChecks.j0 kq l0 a1 a2 l3 l4 x23_5 = some r) ∧ Aside0 (kq ≤ k) ∧ Aside0 (Below w.heap.size w wc))
 case first =>
  have H := HC6.out
  clear HC6
  by_cases c7 : (l0.length : Int) > 100
  ·rw [if_pos c7] at H
   have c7b0 : decide (100 < (l0.length : Int)) = true := decide_eq_true c7
   have c7b1 : decide (100 < l0.length) = true := decide_eq_true (by omega)
   clear c7
   (first | rw [c7b0] | (simp only [i64_w, i32_w]; rw [c7b0]) | skip)
   have H' := Aside0.mk H
   clear H
   go_wp2
   go_meet
   case rel => exact ⟨_, (true), (by first | rfl | (simp; done) | (simp [*]; done)), H', ⟨by first | omega | exact Nat.le_refl _⟩, ⟨by repeat (first | (with_reducible first | exact HB.out | apply below_alloc | apply pw_below_drewN | apply below_drew1) | exact HB.out)⟩⟩
  ·rw [if_neg c7] at H
   have c7b0 : decide (100 < (l0.length : Int)) = false := decide_eq_false c7
   have c7b1 : decide (100 < l0.length) = false := decide_eq_false (by omega)
   clear c7
   (first | rw [c7b0] | (simp only [i64_w, i32_w]; rw [c7b0]) | skip)
   by_cases c8 : (l3.length : Int) > 100
   ·rw [if_pos c8] at H
    have c8b0 : decide (100 < (l3.length : Int)) = true := decide_eq_true c8
    have c8b1 : decide (100 < l3.length) = true := decide_eq_true (by omega)
    clear c8
    have H' := Aside0.mk H
    clear H
    go_wp2
    go_meet
    case rel => exact ⟨_, (true), (by first | rfl | (simp; done) | (simp [*]; done)), H', ⟨by first | omega | exact Nat.le_refl _⟩, ⟨by repeat (first | (with_reducible first | exact HB.out | apply below_alloc | apply pw_below_drewN | apply below_drew1) | exact HB.out)⟩⟩
   ·rw [if_neg c8] at H
    have c8b0 : decide (100 < (l3.length : Int)) = false := decide_eq_false c8
    have c8b1 : decide (100 < l3.length) = false := decide_eq_false (by omega)
    clear c8
    replace H := Option.bind_eq_some_iff.mp H
    obtain ⟨t101, A90, H⟩ := H
    replace H : (imprimaturlaw06_MerkleChecks.j0 k l0 a1 a2 l3 l4 (decide (t101 > 1500))) = some r := H
    have A9 := Aside0.mk A90
    clear A90
    have H' := Aside0.mk H
    clear H
    go_wp2_with (first | (go_at_call 14; (with_reducible refine (imprimaturref06_Size.calls k _ _ l4 1500 t101 _ ?side1 ?side2 A9.out).mono ?_); (case side1 => exact cL (Kd.C_below HR4.out HB.out)); (case side2 => exact HC4.out); rintro e w' ⟨rfl, ⟨nd, rfl⟩⟩))
    go_meet
    case rel => exact ⟨_, (decide (t101 > 1500)), (by first | rfl | (simp; done) | (simp [*]; done)), H', ⟨by first | omega | exact Nat.le_refl _⟩, ⟨by repeat (first | (with_reducible first | exact HB.out | apply below_alloc | apply pw_below_drewN | apply below_drew1) | exact HB.out)⟩⟩
 case rest =>
  clear HC6
  try clear p2
  try clear c3
  try clear c4
  try clear c7
  try clear c7b0
  try clear c7b1
  try clear c8
  try clear c8b0
  try clear c8b1
  obtain ⟨kq, x23_5, rfl, HA, HJ5, HB⟩ := hcut
  cases kq with
  | zero => exact absurd HA.out (by simp [imprimaturlaw06_MerkleChecks.j0])
  | succ kj5 =>
   have H := HA.out
   clear HA
   simp only [imprimaturlaw06_MerkleChecks.j0] at H
   by_cases c10 : x23_5 = true
   ·subst c10
    have H1 : ((imprimaturlaw06_known.f).bind fun t102 => (some t102)) = some r := by rw [if_pos rfl] at H; exact H
    clear H
    have H := H1
    clear H1
    replace H := Option.bind_eq_some_iff.mp H
    obtain ⟨t102, A110, H⟩ := H
    replace H : (some t102) = some r := H
    have A11 := Aside0.mk A110
    clear A110
    obtain rfl := Option.some.inj H
    go_wp2_with (first | ((with_reducible refine gate_callee (f := 15) rfl ?_); refine goesL_ (some 24) rfl rfl Tryd.func15 (by kernel_rfl) rfl #[] rfl eqA ?_; (with_reducible refine (imprimaturlaw06_known.calls  t102 _ (Glb.of HG bel) A11.out).mono ?_); rintro e w12 ⟨rfl, hb⟩; refine ⟨_, rfl, ?_⟩; have n0_ := Aside0.mk (below_step bel hb); clear HB; have HB := n0_; clear n0_; (try clear hb); (try clear hb2); (try clear hk); (try clear hi)))
    go_ret
    exact ⟨by first | rfl | (simp [errW_none, errW_some] <;> rfl) | (simp [*, errW_none, errW_some] <;> rfl), by repeat (first | (with_reducible first | exact HB.out | apply below_alloc | apply pw_below_drewN | apply below_drew1) | exact HB.out)⟩
   ·replace c10 := Bool.eq_false_iff.mpr c10
    subst c10
    have H1 : ((merkle_Check.f kj5 l0 a1 a2 l3 l4).bind fun t103 => ((imprimaturref06_Check.f kj5 l0 a1 a2 l3 l4).bind fun t104 => (if t103 = t104 then ((imprimaturlaw06_known.f).bind fun t105 => (some t105)) else (some false)))) = some r := by rw [if_neg (show ¬ (false = true) by decide)] at H; exact H
    clear H
    have H := H1
    clear H1
    replace H := Option.bind_eq_some_iff.mp H
    obtain ⟨t103, A130, H⟩ := H
    replace H : ((imprimaturref06_Check.f kj5 l0 a1 a2 l3 l4).bind fun t104 => (if t103 = t104 then ((imprimaturlaw06_known.f).bind fun t105 => (some t105)) else (some false))) = some r := H
    have A13 := Aside0.mk A130
    clear A130
    replace H := Option.bind_eq_some_iff.mp H
    obtain ⟨t104, A140, H⟩ := H
    replace H : (if t103 = t104 then ((imprimaturlaw06_known.f).bind fun t105 => (some t105)) else (some false)) = some r := H
    have A14 := Aside0.mk A140
    clear A140
    by_cases c15 : t103 = t104
    ·rw [if_pos c15] at H
     have c15b0 : (t103 == t104) = true := beq_iff_eq.mpr c15
     have c15b1 : (t103 != t104) = false := bne_eq_false_iff_eq.mpr c15
     clear c15
     replace H := Option.bind_eq_some_iff.mp H
     obtain ⟨t105, A160, H⟩ := H
     replace H : (some t105) = some r := H
     have A16 := Aside0.mk A160
     clear A160
     obtain rfl := Option.some.inj H
     go_wp2_with (first | ((with_reducible refine gate_callee (f := 16) rfl ?_); refine goesL_ (some 30) rfl rfl Tryd.func16 (by kernel_rfl) rfl #[.slice A0 l0.length c0, .int .i64 a1, .int .i64 a2, .slice A3 l3.length c3, .slice A4 l4.length c4] rfl eqA ?_; (with_reducible refine (merkle_Check.calls kj5 _ _ l0 a1 a2 (fun k_ => k_ < w.heap.size) _ _ l3 (fun k_ => k_ < w.heap.size) _ _ l4 t103 _ (Glb.of HG bel) ?side1 ?side2 ?side3 ?side4 A13.out).mono ?_); (case side1 => exact cL (Kd.C_below HR0.out HB.out)); (case side2 => exact HC0.out); (case side3 => exact Kd.V_mk HC3.out (Kd.F_below (Kd.C_F (Kd.heap_int .u8) HR3.out) bel)); (case side4 => exact Kd.V_mk HC4.out (Kd.F_below (Kd.C_F (Kd.heap_slice 5 (Kd.heap_int .u8)) HR4.out) bel)); rintro e w17 ⟨rfl, hb⟩; refine ⟨_, rfl, ?_⟩; have n0_ := Aside0.mk (below_step bel hb); clear HB; have HB := n0_; clear n0_; (try clear hb); (try clear hb2); (try clear hk); (try clear hi)) | ((with_reducible refine gate_callee (f := 17) rfl ?_); refine goesL_ (some 36) rfl rfl Tryd.func17 (by kernel_rfl) rfl #[.slice A0 l0.length c0, .int .i64 a1, .int .i64 a2, .slice A3 l3.length c3, .slice A4 l4.length c4] rfl eqA ?_; (with_reducible refine (imprimaturref06_Check.calls kj5 _ _ l0 a1 a2 _ _ l3 _ _ l4 t104 _ ?side1 ?side2 ?side3 ?side4 ?side5 ?side6 A14.out).mono ?_); (case side1 => exact cL (Kd.C_below HR0.out HB.out)); (case side2 => exact HC0.out); (case side3 => exact cL (Kd.C_below HR3.out HB.out)); (case side4 => exact HC3.out); (case side5 => exact cL (Kd.C_below HR4.out HB.out)); (case side6 => exact HC4.out); rintro e w18 ⟨rfl, hb⟩; refine ⟨_, rfl, ?_⟩; have n0_ := Aside0.mk (below_step bel hb); clear HB; have HB := n0_; clear n0_; (try clear hb); (try clear hb2); (try clear hk); (try clear hi)) | (go_at_call 15; (with_reducible refine (imprimaturlaw06_known.calls  t105 _ (Glb.of HG bel) A16.out).mono ?_); rintro e w19 ⟨rfl, hb⟩; have n0_ := Aside0.mk (below_step bel hb); clear HB; have HB := n0_; clear n0_; (try clear hb); (try clear hb2); (try clear hk); (try clear hi)))
     go_ret
     exact ⟨by first | rfl | (simp [errW_none, errW_some] <;> rfl) | (simp [*, errW_none, errW_some] <;> rfl), by repeat (first | (with_reducible first | exact HB.out | apply below_alloc | apply pw_below_drewN | apply below_drew1) | exact HB.out)⟩
    ·rw [if_neg c15] at H
     have c15b0 : (t103 == t104) = false := beq_eq_false_iff_ne.mpr c15
     have c15b1 : (t103 != t104) = true := bne_iff_ne.mpr c15
     obtain rfl := Option.some.inj H
     go_wp2_with (first | ((with_reducible refine gate_callee (f := 16) rfl ?_); refine goesL_ (some 30) rfl rfl Tryd.func16 (by kernel_rfl) rfl #[.slice A0 l0.length c0, .int .i64 a1, .int .i64 a2, .slice A3 l3.length c3, .slice A4 l4.length c4] rfl eqA ?_; (with_reducible refine (merkle_Check.calls kj5 _ _ l0 a1 a2 (fun k_ => k_ < w.heap.size) _ _ l3 (fun k_ => k_ < w.heap.size) _ _ l4 t103 _ (Glb.of HG bel) ?side1 ?side2 ?side3 ?side4 A13.out).mono ?_); (case side1 => exact cL (Kd.C_below HR0.out HB.out)); (case side2 => exact HC0.out); (case side3 => exact Kd.V_mk HC3.out (Kd.F_below (Kd.C_F (Kd.heap_int .u8) HR3.out) bel)); (case side4 => exact Kd.V_mk HC4.out (Kd.F_below (Kd.C_F (Kd.heap_slice 5 (Kd.heap_int .u8)) HR4.out) bel)); rintro e w20 ⟨rfl, hb⟩; refine ⟨_, rfl, ?_⟩; have n0_ := Aside0.mk (below_step bel hb); clear HB; have HB := n0_; clear n0_; (try clear hb); (try clear hb2); (try clear hk); (try clear hi)) | ((with_reducible refine gate_callee (f := 17) rfl ?_); refine goesL_ (some 36) rfl rfl Tryd.func17 (by kernel_rfl) rfl #[.slice A0 l0.length c0, .int .i64 a1, .int .i64 a2, .slice A3 l3.length c3, .slice A4 l4.length c4] rfl eqA ?_; (with_reducible refine (imprimaturref06_Check.calls kj5 _ _ l0 a1 a2 _ _ l3 _ _ l4 t104 _ ?side1 ?side2 ?side3 ?side4 ?side5 ?side6 A14.out).mono ?_); (case side1 => exact cL (Kd.C_below HR0.out HB.out)); (case side2 => exact HC0.out); (case side3 => exact cL (Kd.C_below HR3.out HB.out)); (case side4 => exact HC3.out); (case side5 => exact cL (Kd.C_below HR4.out HB.out)); (case side6 => exact HC4.out); rintro e w21 ⟨rfl, hb⟩; refine ⟨_, rfl, ?_⟩; have n0_ := Aside0.mk (below_step bel hb); clear HB; have HB := n0_; clear n0_; (try clear hb); (try clear hb2); (try clear hk); (try clear hi)))
     go_ret
     exact ⟨by first | rfl | (simp [errW_none, errW_some] <;> rfl) | (simp [*, errW_none, errW_some] <;> rfl), by repeat (first | (with_reducible first | exact HB.out | apply below_alloc | apply pw_below_drewN | apply below_drew1) | exact HB.out)⟩

end Go.Proofs.YtdpdmmbdoeefbaaDoor.PCh
