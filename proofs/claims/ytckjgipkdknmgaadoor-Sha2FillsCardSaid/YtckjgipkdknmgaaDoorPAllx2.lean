-- Written by a program of this session, after the print of the kit.
import Derived.Test.YtckjgipkdknmgaaDoorPAllx0
import Derived.Test.YtckjgipkdknmgaaDoorPAllx1
namespace Go.Proofs.YtckjgipkdknmgaaDoor.PAll
open Go.RowKit Go.Proofs.YtckjgipkdknmgaaDoor.X Go.Proofs.YtckjgipkdknmgaaDoorW.PrintWords Go.Proofs.YtckjgipkdknmgaaDoorW.PrintLast Go.Proofs.YtckjgipkdknmgaaDoorW.PrintMore
attribute [local go_sem] max2_int min2_int max_two min_two max_three min_three max_four min_four   -- for this text's walks alone
set_option linter.unusedVariables false
set_option linter.unusedSimpArgs false

/-! ### imprimaturlaw02_Sha2Fills: function 5 -/
mutual
def imprimaturlaw02_Sha2Fills.j0 : Nat → Int → Bool → Bool → Option (Bool)
  | 0, _, _, _ => none
  | k + 1, x0, x1, x15 => if x15 = true then ((imprimaturlaw02_known.f).bind fun t143 => (some t143)) else ((imprimaturlaw02_which.f x1).bind fun t144 => ((sha2_Pad.f x0 t144).bind fun bt145 => (if bt145.2 = 0 then (if (bt145.1.length : Int) < 9 then (imprimaturlaw02_Sha2Fills.j1 k x0 x1 bt145.1 true) else ((imprimaturlaw02_which.f x1).bind fun t149 => (if (wrap64 (Int.tdiv t149 4)) = 0 then (none) else (if (Int.tmod (wrap64 (x0 + (bt145.1.length : Int))) (wrap64 (Int.tdiv t149 4))) = 0 then (if 0 < (bt145.1.length : Int) then (imprimaturlaw02_Sha2Fills.j1 k x0 x1 bt145.1 ((rd bt145.1 0) != 128)) else (none)) else (imprimaturlaw02_Sha2Fills.j1 k x0 x1 bt145.1 true))))) else (imprimaturlaw02_Sha2Fills.j1 k x0 x1 bt145.1 true))))
def imprimaturlaw02_Sha2Fills.j1 : Nat → Int → Bool → List Int → Bool → Option (Bool)
  | 0, _, _, _, _ => none
  | k + 1, x0, x1, x5, x47 => if x47 = true then (some false) else (imprimaturlaw02_Sha2Fills.l0 k x0 x1 x5 0 (wrap64 ((x5.length : Int) - 8)))
def imprimaturlaw02_Sha2Fills.l0 : Nat → Int → Bool → List Int → Int → Int → Option (Bool)
  | 0, _, _, _, _, _ => none
  | k + 1, x0, x1, x5, x7, x8 => if x8 < (x5.length : Int) then (if 0 ≤ x8 then (imprimaturlaw02_Sha2Fills.l0 k x0 x1 x5 (IntKind.u64.wrap ((IntKind.u64.wrap (x7 * 256)) + (IntKind.u64.wrap (rd x5 x8)))) (wrap64 (x8 + 1))) else (none)) else (if x7 = (IntKind.u64.wrap ((IntKind.u64.wrap (x0)) * 8)) then (imprimaturlaw02_Sha2Fills.l1 k x1 x5 1) else (some false))
def imprimaturlaw02_Sha2Fills.l1 : Nat → Bool → List Int → Int → Option (Bool)
  | 0, _, _, _ => none
  | k + 1, x1, x5, x9 => if x9 < (wrap64 ((x5.length : Int) - 8)) then (if 0 ≤ x9 then (if x9 < (x5.length : Int) then (if (rd x5 x9) = 0 then (imprimaturlaw02_Sha2Fills.l1 k x1 x5 (wrap64 (x9 + 1))) else (some false)) else (none)) else (none)) else ((imprimaturlaw02_which.f x1).bind fun t153 => ((imprimaturlaw02_which.f x1).bind fun t154 => (if (x5.length : Int) ≤ (wrap64 ((wrap64 (Int.tdiv t153 4)) + (wrap64 (Int.tdiv t154 32)))) then ((imprimaturlaw02_known.f).bind fun t155 => (some t155)) else (some false))))
end
def imprimaturlaw02_Sha2Fills.f (k : Nat) (a0 : Int) (a1 : Bool) : Option (Bool) := if a0 < 0 then (imprimaturlaw02_Sha2Fills.j0 k a0 a1 true) else (imprimaturlaw02_Sha2Fills.j0 k a0 a1 (decide (a0 > 1048576)))
theorem imprimaturlaw02_Sha2Fills.mono_l : ∀ k, (∀ y0 y1 y2, LeO (imprimaturlaw02_Sha2Fills.j0 k y0 y1 y2) (imprimaturlaw02_Sha2Fills.j0 (k + 1) y0 y1 y2)) ∧ (∀ y0 y1 y2 y3, LeO (imprimaturlaw02_Sha2Fills.j1 k y0 y1 y2 y3) (imprimaturlaw02_Sha2Fills.j1 (k + 1) y0 y1 y2 y3)) ∧ (∀ y0 y1 y2 y3 y4, LeO (imprimaturlaw02_Sha2Fills.l0 k y0 y1 y2 y3 y4) (imprimaturlaw02_Sha2Fills.l0 (k + 1) y0 y1 y2 y3 y4)) ∧ (∀ y0 y1 y2, LeO (imprimaturlaw02_Sha2Fills.l1 k y0 y1 y2) (imprimaturlaw02_Sha2Fills.l1 (k + 1) y0 y1 y2))
  | 0 => ⟨fun _ _ _ r h => by simp [imprimaturlaw02_Sha2Fills.j0] at h, fun _ _ _ _ r h => by simp [imprimaturlaw02_Sha2Fills.j1] at h, fun _ _ _ _ _ r h => by simp [imprimaturlaw02_Sha2Fills.l0] at h, fun _ _ _ r h => by simp [imprimaturlaw02_Sha2Fills.l1] at h⟩
  | k + 1 => by
    obtain ⟨ih0, ih1, ih2, ih3⟩ := imprimaturlaw02_Sha2Fills.mono_l k
    refine ⟨?_, ?_, ?_, ?_⟩
    · intro y0 y1 y2
      unfold imprimaturlaw02_Sha2Fills.j0
      repeat' first
      | (with_reducible exact ih0 _ _ _)
      | (with_reducible exact ih1 _ _ _ _)
      | (with_reducible exact ih2 _ _ _ _ _)
      | (with_reducible exact ih3 _ _ _)
      | (with_reducible exact LeO.refl _)
      | (with_reducible exact LeO.none _)
      | (with_reducible refine LeO.ite ?_ ?_)
      | (with_reducible refine LeO.bind ?_ (fun _ => ?_))
      | exact ih0 _ _ _
      | exact ih1 _ _ _ _
      | exact ih2 _ _ _ _ _
      | exact ih3 _ _ _
      | exact LeO.none _
      | refine LeO.ite ?_ ?_
      | refine LeO.bind ?_ (fun _ => ?_)
    · intro y0 y1 y2 y3
      unfold imprimaturlaw02_Sha2Fills.j1
      repeat' first
      | (with_reducible exact ih0 _ _ _)
      | (with_reducible exact ih1 _ _ _ _)
      | (with_reducible exact ih2 _ _ _ _ _)
      | (with_reducible exact ih3 _ _ _)
      | (with_reducible exact LeO.refl _)
      | (with_reducible exact LeO.none _)
      | (with_reducible refine LeO.ite ?_ ?_)
      | (with_reducible refine LeO.bind ?_ (fun _ => ?_))
      | exact ih0 _ _ _
      | exact ih1 _ _ _ _
      | exact ih2 _ _ _ _ _
      | exact ih3 _ _ _
      | exact LeO.none _
      | refine LeO.ite ?_ ?_
      | refine LeO.bind ?_ (fun _ => ?_)
    · intro y0 y1 y2 y3 y4
      unfold imprimaturlaw02_Sha2Fills.l0
      repeat' first
      | (with_reducible exact ih0 _ _ _)
      | (with_reducible exact ih1 _ _ _ _)
      | (with_reducible exact ih2 _ _ _ _ _)
      | (with_reducible exact ih3 _ _ _)
      | (with_reducible exact LeO.refl _)
      | (with_reducible exact LeO.none _)
      | (with_reducible refine LeO.ite ?_ ?_)
      | (with_reducible refine LeO.bind ?_ (fun _ => ?_))
      | exact ih0 _ _ _
      | exact ih1 _ _ _ _
      | exact ih2 _ _ _ _ _
      | exact ih3 _ _ _
      | exact LeO.none _
      | refine LeO.ite ?_ ?_
      | refine LeO.bind ?_ (fun _ => ?_)
    · intro y0 y1 y2
      unfold imprimaturlaw02_Sha2Fills.l1
      repeat' first
      | (with_reducible exact ih0 _ _ _)
      | (with_reducible exact ih1 _ _ _ _)
      | (with_reducible exact ih2 _ _ _ _ _)
      | (with_reducible exact ih3 _ _ _)
      | (with_reducible exact LeO.refl _)
      | (with_reducible exact LeO.none _)
      | (with_reducible refine LeO.ite ?_ ?_)
      | (with_reducible refine LeO.bind ?_ (fun _ => ?_))
      | exact ih0 _ _ _
      | exact ih1 _ _ _ _
      | exact ih2 _ _ _ _ _
      | exact ih3 _ _ _
      | exact LeO.none _
      | refine LeO.ite ?_ ?_
      | refine LeO.bind ?_ (fun _ => ?_)
theorem imprimaturlaw02_Sha2Fills.mono : ∀ a0 a1 k, LeO (imprimaturlaw02_Sha2Fills.f k a0 a1) (imprimaturlaw02_Sha2Fills.f (k + 1) a0 a1) := by
  intro a0 a1 k
  obtain ⟨ih0, ih1, ih2, ih3⟩ := imprimaturlaw02_Sha2Fills.mono_l k
  unfold imprimaturlaw02_Sha2Fills.f
  repeat' first
      | (with_reducible exact ih0 _ _ _)
      | (with_reducible exact ih1 _ _ _ _)
      | (with_reducible exact ih2 _ _ _ _ _)
      | (with_reducible exact ih3 _ _ _)
      | (with_reducible exact LeO.refl _)
      | (with_reducible exact LeO.none _)
      | (with_reducible refine LeO.ite ?_ ?_)
      | (with_reducible refine LeO.bind ?_ (fun _ => ?_))
      | exact ih0 _ _ _
      | exact ih1 _ _ _ _
      | exact ih2 _ _ _ _ _
      | exact ih3 _ _ _
      | exact LeO.none _
      | refine LeO.ite ?_ ?_
      | refine LeO.bind ?_ (fun _ => ?_)
set_option maxHeartbeats 8000000 in
set_option maxRecDepth 100000 in
theorem imprimaturlaw02_Sha2Fills.calls (k : Nat) (a0 : Int) (a1 : Bool) (r : Bool) (w : World) (HG : Glb w) (h : imprimaturlaw02_Sha2Fills.f k a0 a1 = some r) :
    Calls Tryd.prog 5 #[.int .i64 a0, .bool a1] w fun e w' => e = .returned (.bool r) ∧ Below w.heap.size w w' := by
  have HB := Aside0.mk (Below.refl w.heap.size w)
  have H : (if a0 < 0 then (imprimaturlaw02_Sha2Fills.j0 k a0 a1 true) else (imprimaturlaw02_Sha2Fills.j0 k a0 a1 (decide (a0 > 1048576)))) = some r := h
  clear h
  have HC3 := Aside0.mk H
  clear H
  go_enter Tryd.func5, Tryd.ntmps5
  go_upto_region 1 with (fail)
  go_cut [15] (fun v15 wc => ∃ (kq : Nat) (x15_2 : Bool), v15 = .bool x15_2 ∧ Aside0 (imprimaturlaw02_Sha2Fills.j0 kq a0 a1 x15_2 = some r) ∧ Aside0 (kq ≤ k) ∧ Aside0 (Below w.heap.size w wc))
  case first =>
    have H := HC3.out
    clear HC3
    by_cases c4 : a0 < 0
    · rw [if_pos c4] at H
      have c4b0 : decide (a0 < 0) = true := decide_eq_true c4
      clear c4
      (first | rw [c4b0] | (simp only [i64_w, i32_w]; rw [c4b0]) | skip)
      have H' := Aside0.mk H
      clear H
      go_wp2
      go_meet
      case rel => exact ⟨_, (true), (by first | rfl | (simp; done) | (simp [*]; done)), H', ⟨by first | omega | exact Nat.le_refl _⟩, ⟨by repeat (first | (with_reducible first | exact HB.out | apply below_alloc | apply pw_below_drewN | apply below_drew1) | exact HB.out)⟩⟩
    · rw [if_neg c4] at H
      have c4b0 : decide (a0 < 0) = false := decide_eq_false c4
      clear c4
      (first | rw [c4b0] | (simp only [i64_w, i32_w]; rw [c4b0]) | skip)
      have H' := Aside0.mk H
      clear H
      go_wp2
      go_meet
      case rel => exact ⟨_, (decide (a0 > 1048576)), (by first | rfl | (simp; done) | (simp [*]; done)), H', ⟨by first | omega | exact Nat.le_refl _⟩, ⟨by repeat (first | (with_reducible first | exact HB.out | apply below_alloc | apply pw_below_drewN | apply below_drew1) | exact HB.out)⟩⟩
  case rest =>
    clear HC3
    try clear p2
    try clear c4
    try clear c4b0
    obtain ⟨kq, x15_2, rfl, HA, HJ2, HB⟩ := hcut
    cases kq with
    | zero => exact absurd HA.out (by simp [imprimaturlaw02_Sha2Fills.j0])
    | succ kj2 =>
      have H := HA.out
      clear HA
      simp only [imprimaturlaw02_Sha2Fills.j0] at H
      by_cases c5 : x15_2 = true
      · subst c5
        have H1 : ((imprimaturlaw02_known.f).bind fun t143 => (some t143)) = some r := by rw [if_pos rfl] at H; exact H
        clear H
        have H := H1
        clear H1
        replace H := Option.bind_eq_some_iff.mp H
        obtain ⟨t143, A60, H⟩ := H
        replace H : (some t143) = some r := H
        have A6 := Aside0.mk A60
        clear A60
        obtain rfl := Option.some.inj H
        go_wp2_with (first | ((with_reducible refine gate_callee (f := 12) rfl ?_); refine goesL_ (some 16) rfl rfl Tryd.func12 (by kernel_rfl) rfl #[] rfl (by (try simp only [List.map_toArray, List.map_cons, List.map_nil]); first | done | rfl | (simp only [List.length_drop, List.length_take]; rfl)) ?_; (with_reducible refine (imprimaturlaw02_known.calls  t143 _ (Glb.of HG (by repeat (first | (with_reducible first | exact HB.out | apply below_alloc | apply pw_below_drewN | apply below_drew1) | exact HB.out))) A6.out).mono ?_); rintro e w7 ⟨rfl, hb⟩; refine ⟨_, rfl, ?_⟩; have n0_ := Aside0.mk (below_step (by repeat (first | (with_reducible first | exact HB.out | apply below_alloc | apply pw_below_drewN | apply below_drew1) | exact HB.out)) hb); clear HB; have HB := n0_; clear n0_; (try clear hb); (try clear hb2); (try clear hk); (try clear hi)))
        go_ret
        exact ⟨by first | rfl | (simp [errW_none, errW_some] <;> rfl) | (simp [*, errW_none, errW_some] <;> rfl), by repeat (first | (with_reducible first | exact HB.out | apply below_alloc | apply pw_below_drewN | apply below_drew1) | exact HB.out)⟩
      · replace c5 := Bool.eq_false_iff.mpr c5
        subst c5
        have H1 : ((imprimaturlaw02_which.f a1).bind fun t144 => ((sha2_Pad.f a0 t144).bind fun bt145 => (if bt145.2 = 0 then (if (bt145.1.length : Int) < 9 then (imprimaturlaw02_Sha2Fills.j1 kj2 a0 a1 bt145.1 true) else ((imprimaturlaw02_which.f a1).bind fun t149 => (if (wrap64 (Int.tdiv t149 4)) = 0 then (none) else (if (Int.tmod (wrap64 (a0 + (bt145.1.length : Int))) (wrap64 (Int.tdiv t149 4))) = 0 then (if 0 < (bt145.1.length : Int) then (imprimaturlaw02_Sha2Fills.j1 kj2 a0 a1 bt145.1 ((rd bt145.1 0) != 128)) else (none)) else (imprimaturlaw02_Sha2Fills.j1 kj2 a0 a1 bt145.1 true))))) else (imprimaturlaw02_Sha2Fills.j1 kj2 a0 a1 bt145.1 true)))) = some r := by rw [if_neg (show ¬ (false = true) by decide)] at H; exact H
        clear H
        have H := H1
        clear H1
        replace H := Option.bind_eq_some_iff.mp H
        obtain ⟨t144, A80, H⟩ := H
        replace H : ((sha2_Pad.f a0 t144).bind fun bt145 => (if bt145.2 = 0 then (if (bt145.1.length : Int) < 9 then (imprimaturlaw02_Sha2Fills.j1 kj2 a0 a1 bt145.1 true) else ((imprimaturlaw02_which.f a1).bind fun t149 => (if (wrap64 (Int.tdiv t149 4)) = 0 then (none) else (if (Int.tmod (wrap64 (a0 + (bt145.1.length : Int))) (wrap64 (Int.tdiv t149 4))) = 0 then (if 0 < (bt145.1.length : Int) then (imprimaturlaw02_Sha2Fills.j1 kj2 a0 a1 bt145.1 ((rd bt145.1 0) != 128)) else (none)) else (imprimaturlaw02_Sha2Fills.j1 kj2 a0 a1 bt145.1 true))))) else (imprimaturlaw02_Sha2Fills.j1 kj2 a0 a1 bt145.1 true))) = some r := H
        have A8 := Aside0.mk A80
        clear A80
        replace H := Option.bind_eq_some_iff.mp H
        obtain ⟨⟨t145, t146⟩, A90, H⟩ := H
        replace H : (if t146 = 0 then (if (t145.length : Int) < 9 then (imprimaturlaw02_Sha2Fills.j1 kj2 a0 a1 t145 true) else ((imprimaturlaw02_which.f a1).bind fun t149 => (if (wrap64 (Int.tdiv t149 4)) = 0 then (none) else (if (Int.tmod (wrap64 (a0 + (t145.length : Int))) (wrap64 (Int.tdiv t149 4))) = 0 then (if 0 < (t145.length : Int) then (imprimaturlaw02_Sha2Fills.j1 kj2 a0 a1 t145 ((rd t145 0) != 128)) else (none)) else (imprimaturlaw02_Sha2Fills.j1 kj2 a0 a1 t145 true))))) else (imprimaturlaw02_Sha2Fills.j1 kj2 a0 a1 t145 true)) = some r := H
        have A9 := Aside0.mk A90
        clear A90
        have HC10 := Aside0.mk H
        clear H
        go_upto_region 4 with (first | ((with_reducible refine gate_callee (f := 18) rfl ?_); refine goesL_ (some 20) rfl rfl Tryd.func18 (by kernel_rfl) rfl #[.bool a1] rfl (by (try simp only [List.map_toArray, List.map_cons, List.map_nil]); first | done | rfl | (simp only [List.length_drop, List.length_take]; rfl)) ?_; (with_reducible refine (imprimaturlaw02_which.calls a1 t144 _ A8.out).mono ?_); rintro e w' ⟨rfl, ⟨nd, rfl⟩⟩; refine ⟨_, rfl, ?_⟩) | ((with_reducible refine gate_callee (f := 13) rfl ?_); refine goesL_ (some 21) rfl rfl Tryd.func13 (by kernel_rfl) rfl #[.int .i64 a0, .int .i64 t144] rfl (by (try simp only [List.map_toArray, List.map_cons, List.map_nil]); first | done | rfl | (simp only [List.length_drop, List.length_take]; rfl)) ?_; (with_reducible refine (sha2_Pad.calls a0 t144 t145 t146 _ A9.out).mono ?_); rintro e w11 ⟨v147, rfl, ho0, hb⟩; refine ⟨_, rfl, ?_⟩; have n0_ := Aside0.mk (Kd.R_lower ho0 (below_size (by repeat (first | (with_reducible first | exact HB.out | apply below_alloc | apply pw_below_drewN | apply below_drew1) | exact HB.out)))); have n1_ := Aside0.mk (below_step (by repeat (first | (with_reducible first | exact HB.out | apply below_alloc | apply pw_below_drewN | apply below_drew1) | exact HB.out)) hb); clear HB; have HO148 := n0_; have HB := n1_; clear n0_ n1_; (try clear hb); (try clear hb2); (try clear hk); (try clear hi); (try clear ho0)))
        (try simp only [Act.put, List.setIfInBounds_toArray, List.set_cons_zero, List.set_cons_succ])
        go_cut [47] (fun v47 wc => ∃ (kq : Nat) (x47_9 : Bool), v47 = .bool x47_9 ∧ Aside0 (imprimaturlaw02_Sha2Fills.j1 kq a0 a1 t145 x47_9 = some r) ∧ Aside0 (kq ≤ kj2) ∧ Aside0 (Kd.R (Kd.int .u8) 5 wc w.heap.size (fun _ => True) v147 t145) ∧ Aside0 (Below w.heap.size w wc))
        case first =>
          have H := HC10.out
          clear HC10
          by_cases c12 : t146 = 0
          · rw [if_pos c12] at H
            have c12b0 : (t146 == 0) = true := beq_iff_eq.mpr c12
            have c12b1 : (t146 != 0) = false := bne_eq_false_iff_eq.mpr c12
            clear c12
            (first | rw [c12b0] | (simp only [i64_w, i32_w]; rw [c12b0]) | skip)
            by_cases c13 : (t145.length : Int) < 9
            · rw [if_pos c13] at H
              have c13b0 : decide ((t145.length : Int) < 9) = true := decide_eq_true c13
              have c13b1 : decide (t145.length < 9) = true := decide_eq_true (by omega)
              clear c13
              have H' := Aside0.mk H
              clear H
              obtain ⟨Ao14, co14, eo14⟩ := Kd.R_slice HO148.out
              subst eo14
              go_wp2
              go_meet
              case rel => exact ⟨_, (true), (by first | rfl | (simp; done) | (simp [*]; done)), H', ⟨by have := HJ2.out; first | omega | exact Nat.le_refl _⟩, ⟨by (with_reducible repeat (first | apply Kd.R_alloc | apply Kd.R_drewN | apply Kd.R_drew)); exact HO148.out⟩, ⟨by repeat (first | (with_reducible first | exact HB.out | apply below_alloc | apply pw_below_drewN | apply below_drew1) | exact HB.out)⟩⟩
            · rw [if_neg c13] at H
              have c13b0 : decide ((t145.length : Int) < 9) = false := decide_eq_false c13
              have c13b1 : decide (t145.length < 9) = false := decide_eq_false (by omega)
              clear c13
              replace H := Option.bind_eq_some_iff.mp H
              obtain ⟨t149, A150, H⟩ := H
              replace H : (if (wrap64 (Int.tdiv t149 4)) = 0 then (none) else (if (Int.tmod (wrap64 (a0 + (t145.length : Int))) (wrap64 (Int.tdiv t149 4))) = 0 then (if 0 < (t145.length : Int) then (imprimaturlaw02_Sha2Fills.j1 kj2 a0 a1 t145 ((rd t145 0) != 128)) else (none)) else (imprimaturlaw02_Sha2Fills.j1 kj2 a0 a1 t145 true))) = some r := H
              have A15 := Aside0.mk A150
              clear A150
              by_cases c16 : (wrap64 (Int.tdiv t149 4)) = 0
              · rw [if_pos c16] at H
                exact absurd H (by simp)
              · rw [if_neg c16] at H
                have c16b0 : ((wrap64 (Int.tdiv t149 4)) == 0) = false := beq_eq_false_iff_ne.mpr c16
                have c16b1 : ((wrap64 (Int.tdiv t149 4)) != 0) = true := bne_iff_ne.mpr c16
                by_cases c17 : (Int.tmod (wrap64 (a0 + (t145.length : Int))) (wrap64 (Int.tdiv t149 4))) = 0
                · rw [if_pos c17] at H
                  have c17b0 : ((Int.tmod (wrap64 (a0 + (t145.length : Int))) (wrap64 (Int.tdiv t149 4))) == 0) = true := beq_iff_eq.mpr c17
                  have c17b1 : ((Int.tmod (wrap64 (a0 + (t145.length : Int))) (wrap64 (Int.tdiv t149 4))) != 0) = false := bne_eq_false_iff_eq.mpr c17
                  clear c17
                  by_cases c18 : 0 < (t145.length : Int)
                  · rw [if_pos c18] at H
                    have c18b0 : decide (0 < (t145.length : Int)) = true := decide_eq_true c18
                    have c18b1 : decide (0 < t145.length) = true := decide_eq_true (by omega)
                    clear c18
                    have H' := Aside0.mk H
                    clear H
                    obtain ⟨Ao19, co19, eo19⟩ := Kd.R_slice HO148.out
                    subst eo19
                    go_wp2_with (first | (go_at_call 18; (with_reducible refine (imprimaturlaw02_which.calls a1 t149 _ A15.out).mono ?_); rintro e w' ⟨rfl, ⟨nd, rfl⟩⟩; have p150 : 0 ≤ (0 : Int) := (by omega); have q150 : 0 < (t145.length : Int) := of_decide_eq_true (by first | (with_reducible assumption) | assumption); obtain ⟨ad150, e150, hx150_0⟩ := Kd.at_int (Kd.R_reads' HO148.out).2.2 0 p150 q150; cases e150; have qi150 : (0 < t145.length) = True := eq_true (by omega); (try rw [show ((0 : Int)).toNat = 0 from rfl] at hx150_0); (try rw [Addr.add_zero'] at hx150_0); replace p150 := eq_true p150; replace q150 := eq_true q150))
                    go_meet
                    case rel => exact ⟨_, (((rd t145 0) != 128)), (by first | rfl | (simp; done) | (simp [*]; done)), H', ⟨by have := HJ2.out; first | omega | exact Nat.le_refl _⟩, ⟨by (with_reducible repeat (first | apply Kd.R_alloc | apply Kd.R_drewN | apply Kd.R_drew)); exact HO148.out⟩, ⟨by repeat (first | (with_reducible first | exact HB.out | apply below_alloc | apply pw_below_drewN | apply below_drew1) | exact HB.out)⟩⟩
                  · rw [if_neg c18] at H
                    exact absurd H (by simp)
                · rw [if_neg c17] at H
                  have c17b0 : ((Int.tmod (wrap64 (a0 + (t145.length : Int))) (wrap64 (Int.tdiv t149 4))) == 0) = false := beq_eq_false_iff_ne.mpr c17
                  have c17b1 : ((Int.tmod (wrap64 (a0 + (t145.length : Int))) (wrap64 (Int.tdiv t149 4))) != 0) = true := bne_iff_ne.mpr c17
                  have H' := Aside0.mk H
                  clear H
                  obtain ⟨Ao20, co20, eo20⟩ := Kd.R_slice HO148.out
                  subst eo20
                  go_wp2_with (first | (go_at_call 18; (with_reducible refine (imprimaturlaw02_which.calls a1 t149 _ A15.out).mono ?_); rintro e w' ⟨rfl, ⟨nd, rfl⟩⟩))
                  go_meet
                  case rel => exact ⟨_, (true), (by first | rfl | (simp; done) | (simp [*]; done)), H', ⟨by have := HJ2.out; first | omega | exact Nat.le_refl _⟩, ⟨by (with_reducible repeat (first | apply Kd.R_alloc | apply Kd.R_drewN | apply Kd.R_drew)); exact HO148.out⟩, ⟨by repeat (first | (with_reducible first | exact HB.out | apply below_alloc | apply pw_below_drewN | apply below_drew1) | exact HB.out)⟩⟩
          · rw [if_neg c12] at H
            have c12b0 : (t146 == 0) = false := beq_eq_false_iff_ne.mpr c12
            have c12b1 : (t146 != 0) = true := bne_iff_ne.mpr c12
            (first | rw [c12b0] | (simp only [i64_w, i32_w]; rw [c12b0]) | skip)
            have H' := Aside0.mk H
            clear H
            go_wp2
            go_meet
            case rel => exact ⟨_, (true), (by first | rfl | (simp; done) | (simp [*]; done)), H', ⟨by have := HJ2.out; first | omega | exact Nat.le_refl _⟩, ⟨by (with_reducible repeat (first | apply Kd.R_alloc | apply Kd.R_drewN | apply Kd.R_drew)); exact HO148.out⟩, ⟨by repeat (first | (with_reducible first | exact HB.out | apply below_alloc | apply pw_below_drewN | apply below_drew1) | exact HB.out)⟩⟩
        case rest =>
          clear HC10
          try clear c1
          try clear p1
          try clear q1
          try clear hx1
          try clear qi1
          try clear p2
          try clear c4
          try clear c4b0
          try clear c5
          try clear p6
          try clear c12
          try clear c12b0
          try clear c12b1
          try clear c13
          try clear c13b0
          try clear c13b1
          try clear p15
          try clear q15
          try clear hx15
          try clear qi15
          try clear c16
          try clear c16b0
          try clear c16b1
          try clear c17
          try clear c17b0
          try clear c17b1
          try clear c18
          try clear c18b0
          try clear c18b1
          try clear hx150_0
          try clear p150
          try clear p2
          try clear q150
          obtain ⟨kq, x47_9, rfl, HA, HJ9, HO_5, HB⟩ := hcut
          cases kq with
          | zero => exact absurd HA.out (by simp [imprimaturlaw02_Sha2Fills.j1])
          | succ kj9 =>
            have H := HA.out
            clear HA
            simp only [imprimaturlaw02_Sha2Fills.j1] at H
            by_cases c21 : x47_9 = true
            · subst c21
              have H1 : (some false) = some r := by rw [if_pos rfl] at H; exact H
              clear H
              have H := H1
              clear H1
              obtain rfl := Option.some.inj H
              go_wp2
              go_ret
              exact ⟨by first | rfl | (simp [errW_none, errW_some] <;> rfl) | (simp [*, errW_none, errW_some] <;> rfl), by repeat (first | (with_reducible first | exact HB.out | apply below_alloc | apply pw_below_drewN | apply below_drew1) | exact HB.out)⟩
            · replace c21 := Bool.eq_false_iff.mpr c21
              subst c21
              have H1 : (imprimaturlaw02_Sha2Fills.l0 kj9 a0 a1 t145 0 (wrap64 ((t145.length : Int) - 8))) = some r := by rw [if_neg (show ¬ (false = true) by decide)] at H; exact H
              clear H
              have H := H1
              clear H1
              have H' := Aside0.mk H
              clear H
              obtain ⟨Ao22, co22, eo22⟩ := Kd.R_slice HO_5.out
              subst eo22
              go_wp2
              go_loopg [7, 8] kj9 (fun kq v7 v8 w' => ∃ (x7_3 : Int) (x8_3 : Int), v7 = .int .u64 x7_3 ∧ v8 = .int .i64 x8_3 ∧ Aside0 (imprimaturlaw02_Sha2Fills.l0 kq a0 a1 t145 x7_3 x8_3 = some r) ∧ Aside0 (kq ≤ kj9) ∧ Aside0 (Kd.R (Kd.int .u8) 5 w' w.heap.size (fun _ => True) (.slice Ao22 t145.length co22) t145) ∧ Aside0 (Below w.heap.size w w'))
              case atStart => exact ⟨(0), (wrap64 ((t145.length : Int) - 8)), (by first | rfl | (simp; done) | (simp [*]; done)), (by first | rfl | (simp; done) | (simp [*]; done)), H', ⟨Nat.le_refl _⟩, ⟨by (with_reducible repeat (first | apply Kd.R_alloc | apply Kd.R_drewN | apply Kd.R_drew)); exact HO_5.out⟩, ⟨by repeat (first | (with_reducible first | exact HB.out | apply below_alloc | apply pw_below_drewN | apply below_drew1) | exact HB.out)⟩⟩
              case round =>
                clear H'
                try clear c1
                try clear p1
                try clear q1
                try clear hx1
                try clear qi1
                try clear c2
                try clear p2
                try clear c4
                try clear c4b0
                try clear c5
                try clear p6
                try clear c12
                try clear c12b0
                try clear c12b1
                try clear c13
                try clear c13b0
                try clear c13b1
                try clear p15
                try clear q15
                try clear hx15
                try clear qi15
                try clear c16
                try clear c16b0
                try clear c16b1
                try clear c17
                try clear c17b0
                try clear c17b1
                try clear c18
                try clear c18b0
                try clear c18b1
                try clear c21
                try clear hx150_0
                try clear p1
                try clear p15
                try clear p150
                try clear p2
                try clear p6
                try clear q1
                try clear q15
                try clear q150
                obtain ⟨x7_3, x8_3, rfl, rfl, HA, HK3, HO_5, HB⟩ := hrel
                cases gk with
                | zero => exact absurd HA.out (by simp [imprimaturlaw02_Sha2Fills.l0])
                | succ k3 =>
                  have H := HA.out
                  clear HA
                  simp only [imprimaturlaw02_Sha2Fills.l0] at H
                  by_cases c23 : x8_3 < (t145.length : Int)
                  · rw [if_pos c23] at H
                    have c23b0 : decide (x8_3 < (t145.length : Int)) = true := decide_eq_true c23
                    clear c23
                    by_cases c24 : 0 ≤ x8_3
                    · rw [if_pos c24] at H
                      have c24b0 : decide (0 ≤ x8_3) = true := decide_eq_true c24
                      clear c24
                      have H' := Aside0.mk H
                      clear H
                      have p151 : 0 ≤ (x8_3 : Int) := of_decide_eq_true (by first | (with_reducible assumption) | assumption)
                      have q151 : x8_3 < (t145.length : Int) := of_decide_eq_true (by first | (with_reducible assumption) | assumption)
                      obtain ⟨ad151, e151, hx151_0⟩ := Kd.at_int (Kd.R_reads' HO_5.out).2.2 x8_3 p151 q151
                      cases e151
                      replace p151 := eq_true p151
                      replace q151 := eq_true q151
                      go_wp2
                      go_roundg k3
                      case measure => have := HJ2.out; have := HJ9.out; have := HK3.out; omega
                      case rel => exact ⟨(IntKind.u64.wrap ((IntKind.u64.wrap (x7_3 * 256)) + (IntKind.u64.wrap (rd t145 x8_3)))), (wrap64 (x8_3 + 1)), (by first | rfl | (simp; done) | (simp [*]; done)), (by first | rfl | (simp; done) | (simp [*]; done)), H', ⟨by have := HJ2.out; have := HJ9.out; have := HK3.out; omega⟩, ⟨by (with_reducible repeat (first | apply Kd.R_alloc | apply Kd.R_drewN | apply Kd.R_drew)); exact HO_5.out⟩, ⟨by repeat (first | (with_reducible first | exact HB.out | apply below_alloc | apply pw_below_drewN | apply below_drew1) | exact HB.out)⟩⟩
                    · rw [if_neg c24] at H
                      exact absurd H (by simp)
                  · rw [if_neg c23] at H
                    have c23b0 : decide (x8_3 < (t145.length : Int)) = false := decide_eq_false c23
                    clear c23
                    by_cases c25 : x7_3 = (IntKind.u64.wrap ((IntKind.u64.wrap (a0)) * 8))
                    · rw [if_pos c25] at H
                      have c25b0 : (x7_3 == (IntKind.u64.wrap ((IntKind.u64.wrap (a0)) * 8))) = true := beq_iff_eq.mpr c25
                      have c25b1 : (x7_3 != (IntKind.u64.wrap ((IntKind.u64.wrap (a0)) * 8))) = false := bne_eq_false_iff_eq.mpr c25
                      clear c25
                      have H' := Aside0.mk H
                      clear H
                      go_wp2
                      go_loopg [9] k3 (fun kq v9 w' => ∃ (x9_4 : Int), v9 = .int .i64 x9_4 ∧ Aside0 (imprimaturlaw02_Sha2Fills.l1 kq a1 t145 x9_4 = some r) ∧ Aside0 (kq ≤ k3) ∧ Aside0 (Kd.R (Kd.int .u8) 5 w' w.heap.size (fun _ => True) (.slice Ao22 t145.length co22) t145) ∧ Aside0 (Below w.heap.size w w'))
                      case atStart => exact ⟨(1), (by first | rfl | (simp; done) | (simp [*]; done)), H', ⟨Nat.le_refl _⟩, ⟨by (with_reducible repeat (first | apply Kd.R_alloc | apply Kd.R_drewN | apply Kd.R_drew)); exact HO_5.out⟩, ⟨by repeat (first | (with_reducible first | exact HB.out | apply below_alloc | apply pw_below_drewN | apply below_drew1) | exact HB.out)⟩⟩
                      case round =>
                        clear H'
                        try clear c1
                        try clear p1
                        try clear q1
                        try clear hx1
                        try clear qi1
                        try clear c2
                        try clear p2
                        try clear c4
                        try clear c4b0
                        try clear c5
                        try clear p6
                        try clear c12
                        try clear c12b0
                        try clear c12b1
                        try clear c13
                        try clear c13b0
                        try clear c13b1
                        try clear p15
                        try clear q15
                        try clear hx15
                        try clear qi15
                        try clear c16
                        try clear c16b0
                        try clear c16b1
                        try clear c17
                        try clear c17b0
                        try clear c17b1
                        try clear c18
                        try clear c18b0
                        try clear c18b1
                        try clear c21
                        try clear c23
                        try clear c23b0
                        try clear c24
                        try clear c24b0
                        try clear c25
                        try clear c25b0
                        try clear c25b1
                        try clear hx150_0
                        try clear hx151_0
                        try clear p1
                        try clear p15
                        try clear p150
                        try clear p151
                        try clear p2
                        try clear p6
                        try clear q1
                        try clear q15
                        try clear q150
                        try clear q151
                        obtain ⟨x9_4, rfl, HA, HK4, HO_5, HB⟩ := hrel
                        cases gk with
                        | zero => exact absurd HA.out (by simp [imprimaturlaw02_Sha2Fills.l1])
                        | succ k4 =>
                          have H := HA.out
                          clear HA
                          simp only [imprimaturlaw02_Sha2Fills.l1] at H
                          by_cases c26 : x9_4 < (wrap64 ((t145.length : Int) - 8))
                          · rw [if_pos c26] at H
                            have c26b0 : decide (x9_4 < (wrap64 ((t145.length : Int) - 8))) = true := decide_eq_true c26
                            clear c26
                            by_cases c27 : 0 ≤ x9_4
                            · rw [if_pos c27] at H
                              have c27b0 : decide (0 ≤ x9_4) = true := decide_eq_true c27
                              clear c27
                              by_cases c28 : x9_4 < (t145.length : Int)
                              · rw [if_pos c28] at H
                                have c28b0 : decide (x9_4 < (t145.length : Int)) = true := decide_eq_true c28
                                clear c28
                                by_cases c29 : (rd t145 x9_4) = 0
                                · rw [if_pos c29] at H
                                  have c29b0 : ((rd t145 x9_4) == 0) = true := beq_iff_eq.mpr c29
                                  have c29b1 : ((rd t145 x9_4) != 0) = false := bne_eq_false_iff_eq.mpr c29
                                  clear c29
                                  have H' := Aside0.mk H
                                  clear H
                                  have p152 : 0 ≤ (x9_4 : Int) := of_decide_eq_true (by first | (with_reducible assumption) | assumption)
                                  have q152 : x9_4 < (t145.length : Int) := of_decide_eq_true (by first | (with_reducible assumption) | assumption)
                                  obtain ⟨ad152, e152, hx152_0⟩ := Kd.at_int (Kd.R_reads' HO_5.out).2.2 x9_4 p152 q152
                                  cases e152
                                  replace p152 := eq_true p152
                                  replace q152 := eq_true q152
                                  go_wp2
                                  go_roundg k4
                                  case measure => have := HJ2.out; have := HJ9.out; have := HK3.out; have := HK4.out; omega
                                  case rel => exact ⟨(wrap64 (x9_4 + 1)), (by first | rfl | (simp; done) | (simp [*]; done)), H', ⟨by have := HJ2.out; have := HJ9.out; have := HK3.out; have := HK4.out; omega⟩, ⟨by (with_reducible repeat (first | apply Kd.R_alloc | apply Kd.R_drewN | apply Kd.R_drew)); exact HO_5.out⟩, ⟨by repeat (first | (with_reducible first | exact HB.out | apply below_alloc | apply pw_below_drewN | apply below_drew1) | exact HB.out)⟩⟩
                                · rw [if_neg c29] at H
                                  have c29b0 : ((rd t145 x9_4) == 0) = false := beq_eq_false_iff_ne.mpr c29
                                  have c29b1 : ((rd t145 x9_4) != 0) = true := bne_iff_ne.mpr c29
                                  obtain rfl := Option.some.inj H
                                  have p152 : 0 ≤ (x9_4 : Int) := of_decide_eq_true (by first | (with_reducible assumption) | assumption)
                                  have q152 : x9_4 < (t145.length : Int) := of_decide_eq_true (by first | (with_reducible assumption) | assumption)
                                  obtain ⟨ad152, e152, hx152_0⟩ := Kd.at_int (Kd.R_reads' HO_5.out).2.2 x9_4 p152 q152
                                  cases e152
                                  replace p152 := eq_true p152
                                  replace q152 := eq_true q152
                                  go_wp2
                                  go_ret
                                  exact ⟨by first | rfl | (simp [errW_none, errW_some] <;> rfl) | (simp [*, errW_none, errW_some] <;> rfl), by repeat (first | (with_reducible first | exact HB.out | apply below_alloc | apply pw_below_drewN | apply below_drew1) | exact HB.out)⟩
                              · rw [if_neg c28] at H
                                exact absurd H (by simp)
                            · rw [if_neg c27] at H
                              exact absurd H (by simp)
                          · rw [if_neg c26] at H
                            have c26b0 : decide (x9_4 < (wrap64 ((t145.length : Int) - 8))) = false := decide_eq_false c26
                            clear c26
                            replace H := Option.bind_eq_some_iff.mp H
                            obtain ⟨t153, A300, H⟩ := H
                            replace H : ((imprimaturlaw02_which.f a1).bind fun t154 => (if (t145.length : Int) ≤ (wrap64 ((wrap64 (Int.tdiv t153 4)) + (wrap64 (Int.tdiv t154 32)))) then ((imprimaturlaw02_known.f).bind fun t155 => (some t155)) else (some false))) = some r := H
                            have A30 := Aside0.mk A300
                            clear A300
                            replace H := Option.bind_eq_some_iff.mp H
                            obtain ⟨t154, A310, H⟩ := H
                            replace H : (if (t145.length : Int) ≤ (wrap64 ((wrap64 (Int.tdiv t153 4)) + (wrap64 (Int.tdiv t154 32)))) then ((imprimaturlaw02_known.f).bind fun t155 => (some t155)) else (some false)) = some r := H
                            have A31 := Aside0.mk A310
                            clear A310
                            by_cases c32 : (t145.length : Int) ≤ (wrap64 ((wrap64 (Int.tdiv t153 4)) + (wrap64 (Int.tdiv t154 32))))
                            · rw [if_pos c32] at H
                              have c32b0 : decide ((t145.length : Int) ≤ (wrap64 ((wrap64 (Int.tdiv t153 4)) + (wrap64 (Int.tdiv t154 32))))) = true := decide_eq_true c32
                              clear c32
                              replace H := Option.bind_eq_some_iff.mp H
                              obtain ⟨t155, A330, H⟩ := H
                              replace H : (some t155) = some r := H
                              have A33 := Aside0.mk A330
                              clear A330
                              obtain rfl := Option.some.inj H
                              go_wp2_with (first | ((with_reducible refine gate_callee (f := 18) rfl ?_); refine goesL_ (some 85) rfl rfl Tryd.func18 (by kernel_rfl) rfl #[.bool a1] rfl (by (try simp only [List.map_toArray, List.map_cons, List.map_nil]); first | done | rfl | (simp only [List.length_drop, List.length_take]; rfl)) ?_; (with_reducible refine (imprimaturlaw02_which.calls a1 t153 _ A30.out).mono ?_); rintro e w' ⟨rfl, ⟨nd, rfl⟩⟩; refine ⟨_, rfl, ?_⟩) | ((with_reducible refine gate_callee (f := 18) rfl ?_); refine goesL_ (some 88) rfl rfl Tryd.func18 (by kernel_rfl) rfl #[.bool a1] rfl (by (try simp only [List.map_toArray, List.map_cons, List.map_nil]); first | done | rfl | (simp only [List.length_drop, List.length_take]; rfl)) ?_; (with_reducible refine (imprimaturlaw02_which.calls a1 t154 _ A31.out).mono ?_); rintro e w' ⟨rfl, ⟨nd, rfl⟩⟩; refine ⟨_, rfl, ?_⟩) | (go_at_call 12; (with_reducible refine (imprimaturlaw02_known.calls  t155 _ (Glb.of HG (by repeat (first | (with_reducible first | exact HB.out | apply below_alloc | apply pw_below_drewN | apply below_drew1) | exact HB.out))) A33.out).mono ?_); rintro e w34 ⟨rfl, hb⟩; have n0_ := Aside0.mk (Kd.R_below (by (with_reducible repeat (first | apply Kd.R_alloc | apply Kd.R_drewN | apply Kd.R_drew)); exact HO_5.out) hb); have n1_ := Aside0.mk (below_step (by repeat (first | (with_reducible first | exact HB.out | apply below_alloc | apply pw_below_drewN | apply below_drew1) | exact HB.out)) hb); clear HO_5; clear HB; have HO_5 := n0_; have HB := n1_; clear n0_ n1_; (try clear hb); (try clear hb2); (try clear hk); (try clear hi)))
                              go_ret
                              exact ⟨by first | rfl | (simp [errW_none, errW_some] <;> rfl) | (simp [*, errW_none, errW_some] <;> rfl), by repeat (first | (with_reducible first | exact HB.out | apply below_alloc | apply pw_below_drewN | apply below_drew1) | exact HB.out)⟩
                            · rw [if_neg c32] at H
                              have c32b0 : decide ((t145.length : Int) ≤ (wrap64 ((wrap64 (Int.tdiv t153 4)) + (wrap64 (Int.tdiv t154 32))))) = false := decide_eq_false c32
                              clear c32
                              obtain rfl := Option.some.inj H
                              go_wp2_with (first | ((with_reducible refine gate_callee (f := 18) rfl ?_); refine goesL_ (some 85) rfl rfl Tryd.func18 (by kernel_rfl) rfl #[.bool a1] rfl (by (try simp only [List.map_toArray, List.map_cons, List.map_nil]); first | done | rfl | (simp only [List.length_drop, List.length_take]; rfl)) ?_; (with_reducible refine (imprimaturlaw02_which.calls a1 t153 _ A30.out).mono ?_); rintro e w' ⟨rfl, ⟨nd, rfl⟩⟩; refine ⟨_, rfl, ?_⟩) | ((with_reducible refine gate_callee (f := 18) rfl ?_); refine goesL_ (some 88) rfl rfl Tryd.func18 (by kernel_rfl) rfl #[.bool a1] rfl (by (try simp only [List.map_toArray, List.map_cons, List.map_nil]); first | done | rfl | (simp only [List.length_drop, List.length_take]; rfl)) ?_; (with_reducible refine (imprimaturlaw02_which.calls a1 t154 _ A31.out).mono ?_); rintro e w' ⟨rfl, ⟨nd, rfl⟩⟩; refine ⟨_, rfl, ?_⟩))
                              go_ret
                              exact ⟨by first | rfl | (simp [errW_none, errW_some] <;> rfl) | (simp [*, errW_none, errW_some] <;> rfl), by repeat (first | (with_reducible first | exact HB.out | apply below_alloc | apply pw_below_drewN | apply below_drew1) | exact HB.out)⟩
                    · rw [if_neg c25] at H
                      have c25b0 : (x7_3 == (IntKind.u64.wrap ((IntKind.u64.wrap (a0)) * 8))) = false := beq_eq_false_iff_ne.mpr c25
                      have c25b1 : (x7_3 != (IntKind.u64.wrap ((IntKind.u64.wrap (a0)) * 8))) = true := bne_iff_ne.mpr c25
                      obtain rfl := Option.some.inj H
                      go_wp2
                      go_ret
                      exact ⟨by first | rfl | (simp [errW_none, errW_some] <;> rfl) | (simp [*, errW_none, errW_some] <;> rfl), by repeat (first | (with_reducible first | exact HB.out | apply below_alloc | apply pw_below_drewN | apply below_drew1) | exact HB.out)⟩

/-- THE ONE PURE STATEMENT of imprimaturlaw02_Sha2Fills: yours. -/
def imprimaturlaw02_Sha2Fills.Pure : Prop := ∀ (a0 : Int) (a1 : Bool), (Lit.int .i64 a0).wf = true → ∃ k, imprimaturlaw02_Sha2Fills.f k a0 a1 = some true
theorem imprimaturlaw02_Sha2Fills.walk (P : imprimaturlaw02_Sha2Fills.Pure) (a0 : Int) (a1 : Bool) (w : World) (HG : Glb w) (w0 : (Lit.int .i64 a0).wf = true) :
    Calls Tryd.prog 5 #[.int .i64 a0, .bool a1] w fun e w' => e = .returned (.bool true) ∧ Below w.heap.size w w' := by
  obtain ⟨k, h⟩ := P a0 a1 w0
  refine (imprimaturlaw02_Sha2Fills.calls k a0 a1 true w HG h).mono ?_
  rintro e w' ⟨rfl, hd⟩
  exact ⟨rfl, hd⟩

/-! ### imprimaturlaw02_long: function 16 -/
def imprimaturlaw02_long.f (l0 : List Int) : Option (Bool) := some (decide ((l0.length : Int) > 600))
set_option maxHeartbeats 8000000 in
set_option maxRecDepth 100000 in
theorem imprimaturlaw02_long.calls (A0 : Option Addr) (c0 : Nat) (l0 : List Int) (r : Bool) (w : World) (hr0 : Kd.C (Kd.int .u8) w A0 l0.length l0) (hc0 : l0.length ≤ c0) (h : imprimaturlaw02_long.f l0 = some r) :
    Calls Tryd.prog 16 #[.slice A0 l0.length c0] w fun e w' => e = .returned (.bool r) ∧ Drawn0 w w' := by
  have HR0 := Aside0.mk hr0
  have HC0 := Aside0.mk hc0
  clear hr0 hc0
  have H : (some (decide ((l0.length : Int) > 600))) = some r := h
  clear h
  obtain rfl := Option.some.inj H
  go_enter Tryd.func16, Tryd.ntmps16
  go_wp2
  go_ret
  exact ⟨by first | rfl | (simp; done) | (simp [*]; done), by repeat (first | exact Drawn0.refl _ | apply Drawn0.step)⟩

/-! ### imprimaturref02_constants: function 40 -/
def imprimaturref02_constants.f  : Option (List Int) := some (([4794697086780616226, 8158064640168781261, 13096744586834688815, 16840607885511220156, 4131703408338449720, 6480981068601479193, 10538285296894168987, 12329834152419229976, 15566598209576043074, 1334009975649890238, 2608012711638119052, 6128411473006802146, 8268148722764581231, 9286055187155687089, 11230858885718282805, 13951009754708518548, 16472876342353939154, 17275323862435702243, 1135362057144423861, 2597628984639134821, 3308224258029322869, 5365058923640841347, 6679025012923562964, 8573033837759648693, 10970295158949994411, 12119686244451234320, 12683024718118986047, 13788192230050041572, 14330467153632333762, 15395433587784984357, 489312712824947311, 1452737877330783856, 2861767655752347644, 3322285676063803686, 5560940570517711597, 5996557281743188959, 7280758554555802590, 8532644243296465576, 9350256976987008742, 10552545826968843579, 11727347734174303076, 12113106623233404929, 14000437183269869457, 14369950271660146224, 15101387698204529176, 15463397548674623760, 17586052441742319658, 1182934255886127544, 1847814050463011016, 2177327727835720531, 2830643537854262169, 3796741975233480872, 4115178125766777443, 5681478168544905931, 6601373596472566643, 7507060721942968483, 8399075790359081724, 8693463985226723168, 9568029438360202098, 10144078919501101548, 10430055236837252648, 11840083180663258601, 13761210420658862357, 14299343276471374635, 14566680578165727644, 15097957966210449927, 16922976911328602910, 17689382322260857208, 500013540394364858, 748580250866718886, 1242879168328830382, 1977374033974150939, 2944078676154940804, 3659926193048069267, 4368137639120453308, 4836135668995329356, 5532061633213252278, 6448918945643986474, 6902733635092675308, 7801388544844847127] : List Int))
set_option maxHeartbeats 8000000 in
set_option maxRecDepth 100000 in
theorem imprimaturref02_constants.calls  (r : List Int) (w : World) (h : imprimaturref02_constants.f  = some r) :
    Calls Tryd.prog 40 #[] w fun e w' => ∃ v0_ : Value, e = .returned (v0_) ∧ Kd.R (Kd.int .u64) 39 w' w.heap.size (fun _ => True) v0_ r ∧ Below w.heap.size w w' := by
  have HB := Aside0.mk (Below.refl w.heap.size w)
  have H : (some (([4794697086780616226, 8158064640168781261, 13096744586834688815, 16840607885511220156, 4131703408338449720, 6480981068601479193, 10538285296894168987, 12329834152419229976, 15566598209576043074, 1334009975649890238, 2608012711638119052, 6128411473006802146, 8268148722764581231, 9286055187155687089, 11230858885718282805, 13951009754708518548, 16472876342353939154, 17275323862435702243, 1135362057144423861, 2597628984639134821, 3308224258029322869, 5365058923640841347, 6679025012923562964, 8573033837759648693, 10970295158949994411, 12119686244451234320, 12683024718118986047, 13788192230050041572, 14330467153632333762, 15395433587784984357, 489312712824947311, 1452737877330783856, 2861767655752347644, 3322285676063803686, 5560940570517711597, 5996557281743188959, 7280758554555802590, 8532644243296465576, 9350256976987008742, 10552545826968843579, 11727347734174303076, 12113106623233404929, 14000437183269869457, 14369950271660146224, 15101387698204529176, 15463397548674623760, 17586052441742319658, 1182934255886127544, 1847814050463011016, 2177327727835720531, 2830643537854262169, 3796741975233480872, 4115178125766777443, 5681478168544905931, 6601373596472566643, 7507060721942968483, 8399075790359081724, 8693463985226723168, 9568029438360202098, 10144078919501101548, 10430055236837252648, 11840083180663258601, 13761210420658862357, 14299343276471374635, 14566680578165727644, 15097957966210449927, 16922976911328602910, 17689382322260857208, 500013540394364858, 748580250866718886, 1242879168328830382, 1977374033974150939, 2944078676154940804, 3659926193048069267, 4368137639120453308, 4836135668995329356, 5532061633213252278, 6448918945643986474, 6902733635092675308, 7801388544844847127] : List Int))) = some r := h
  clear h
  obtain ⟨y156, hy156⟩ : ∃ y_ : List Int, y_ = (([4794697086780616226, 8158064640168781261, 13096744586834688815, 16840607885511220156, 4131703408338449720, 6480981068601479193, 10538285296894168987, 12329834152419229976, 15566598209576043074, 1334009975649890238, 2608012711638119052, 6128411473006802146, 8268148722764581231, 9286055187155687089, 11230858885718282805, 13951009754708518548, 16472876342353939154, 17275323862435702243, 1135362057144423861, 2597628984639134821, 3308224258029322869, 5365058923640841347, 6679025012923562964, 8573033837759648693, 10970295158949994411, 12119686244451234320, 12683024718118986047, 13788192230050041572, 14330467153632333762, 15395433587784984357, 489312712824947311, 1452737877330783856, 2861767655752347644, 3322285676063803686, 5560940570517711597, 5996557281743188959, 7280758554555802590, 8532644243296465576, 9350256976987008742, 10552545826968843579, 11727347734174303076, 12113106623233404929, 14000437183269869457, 14369950271660146224, 15101387698204529176, 15463397548674623760, 17586052441742319658, 1182934255886127544, 1847814050463011016, 2177327727835720531, 2830643537854262169, 3796741975233480872, 4115178125766777443, 5681478168544905931, 6601373596472566643, 7507060721942968483, 8399075790359081724, 8693463985226723168, 9568029438360202098, 10144078919501101548, 10430055236837252648, 11840083180663258601, 13761210420658862357, 14299343276471374635, 14566680578165727644, 15097957966210449927, 16922976911328602910, 17689382322260857208, 500013540394364858, 748580250866718886, 1242879168328830382, 1977374033974150939, 2944078676154940804, 3659926193048069267, 4368137639120453308, 4836135668995329356, 5532061633213252278, 6448918945643986474, 6902733635092675308, 7801388544844847127] : List Int)) := ⟨_, rfl⟩
  replace H : (some y156) = some r := by first | (rw [hy156]; with_reducible exact H) | (have H2_ := (Option.bind_some _ _).symm.trans H; rw [hy156]; with_reducible exact H2_) | (have H2_ := (Option.bind_some _ _).symm.trans H; with_reducible exact H2_) | with_reducible exact H | (rw [hy156]; exact H) | exact H
  have Ny156 := Aside0.mk hy156
  clear hy156
  obtain rfl := Option.some.inj H
  go_enter Tryd.func40, Tryd.ntmps40
  go_wp2_with (first | ((with_reducible refine gate_dst (N := 1) rfl ?_); refine Kd.R_lit (Kd.int .u64) _ 39 ?hg (N := 1) ?hd (xs := ([4794697086780616226, 8158064640168781261, 13096744586834688815, 16840607885511220156, 4131703408338449720, 6480981068601479193, 10538285296894168987, 12329834152419229976, 15566598209576043074, 1334009975649890238, 2608012711638119052, 6128411473006802146, 8268148722764581231, 9286055187155687089, 11230858885718282805, 13951009754708518548, 16472876342353939154, 17275323862435702243, 1135362057144423861, 2597628984639134821, 3308224258029322869, 5365058923640841347, 6679025012923562964, 8573033837759648693, 10970295158949994411, 12119686244451234320, 12683024718118986047, 13788192230050041572, 14330467153632333762, 15395433587784984357, 489312712824947311, 1452737877330783856, 2861767655752347644, 3322285676063803686, 5560940570517711597, 5996557281743188959, 7280758554555802590, 8532644243296465576, 9350256976987008742, 10552545826968843579, 11727347734174303076, 12113106623233404929, 14000437183269869457, 14369950271660146224, 15101387698204529176, 15463397548674623760, 17586052441742319658, 1182934255886127544, 1847814050463011016, 2177327727835720531, 2830643537854262169, 3796741975233480872, 4115178125766777443, 5681478168544905931, 6601373596472566643, 7507060721942968483, 8399075790359081724, 8693463985226723168, 9568029438360202098, 10144078919501101548, 10430055236837252648, 11840083180663258601, 13761210420658862357, 14299343276471374635, 14566680578165727644, 15097957966210449927, 16922976911328602910, 17689382322260857208, 500013540394364858, 748580250866718886, 1242879168328830382, 1977374033974150939, 2944078676154940804, 3659926193048069267, 4368137639120453308, 4836135668995329356, 5532061633213252278, 6448918945643986474, 6902733635092675308, 7801388544844847127] : List Int)) (inner := [.int .u64 4794697086780616226, .int .u64 8158064640168781261, .int .u64 13096744586834688815, .int .u64 16840607885511220156, .int .u64 4131703408338449720, .int .u64 6480981068601479193, .int .u64 10538285296894168987, .int .u64 12329834152419229976, .int .u64 15566598209576043074, .int .u64 1334009975649890238, .int .u64 2608012711638119052, .int .u64 6128411473006802146, .int .u64 8268148722764581231, .int .u64 9286055187155687089, .int .u64 11230858885718282805, .int .u64 13951009754708518548, .int .u64 16472876342353939154, .int .u64 17275323862435702243, .int .u64 1135362057144423861, .int .u64 2597628984639134821, .int .u64 3308224258029322869, .int .u64 5365058923640841347, .int .u64 6679025012923562964, .int .u64 8573033837759648693, .int .u64 10970295158949994411, .int .u64 12119686244451234320, .int .u64 12683024718118986047, .int .u64 13788192230050041572, .int .u64 14330467153632333762, .int .u64 15395433587784984357, .int .u64 489312712824947311, .int .u64 1452737877330783856, .int .u64 2861767655752347644, .int .u64 3322285676063803686, .int .u64 5560940570517711597, .int .u64 5996557281743188959, .int .u64 7280758554555802590, .int .u64 8532644243296465576, .int .u64 9350256976987008742, .int .u64 10552545826968843579, .int .u64 11727347734174303076, .int .u64 12113106623233404929, .int .u64 14000437183269869457, .int .u64 14369950271660146224, .int .u64 15101387698204529176, .int .u64 15463397548674623760, .int .u64 17586052441742319658, .int .u64 1182934255886127544, .int .u64 1847814050463011016, .int .u64 2177327727835720531, .int .u64 2830643537854262169, .int .u64 3796741975233480872, .int .u64 4115178125766777443, .int .u64 5681478168544905931, .int .u64 6601373596472566643, .int .u64 7507060721942968483, .int .u64 8399075790359081724, .int .u64 8693463985226723168, .int .u64 9568029438360202098, .int .u64 10144078919501101548, .int .u64 10430055236837252648, .int .u64 11840083180663258601, .int .u64 13761210420658862357, .int .u64 14299343276471374635, .int .u64 14566680578165727644, .int .u64 15097957966210449927, .int .u64 16922976911328602910, .int .u64 17689382322260857208, .int .u64 500013540394364858, .int .u64 748580250866718886, .int .u64 1242879168328830382, .int .u64 1977374033974150939, .int .u64 2944078676154940804, .int .u64 3659926193048069267, .int .u64 4368137639120453308, .int .u64 4836135668995329356, .int .u64 5532061633213252278, .int .u64 6448918945643986474, .int .u64 6902733635092675308, .int .u64 7801388544844847127]) (ok := fun _ => True) (okp := fun _ => True) ?hr ?hp (fun _ hk => hk) trivial (Below.refl _ _) (Nat.le_refl _) (by simp) ?_; (case hd => rfl); (case hg => rfl); (case hr => first | (go_simp; done) | (go_simp; rfl)); (case hp => exact (Reps.one (show Kd.M (Kd.int .u64) _ _ _ 4794697086780616226 [.int .u64 4794697086780616226] from rfl) (Reps.one (show Kd.M (Kd.int .u64) _ _ _ 8158064640168781261 [.int .u64 8158064640168781261] from rfl) (Reps.one (show Kd.M (Kd.int .u64) _ _ _ 13096744586834688815 [.int .u64 13096744586834688815] from rfl) (Reps.one (show Kd.M (Kd.int .u64) _ _ _ 16840607885511220156 [.int .u64 16840607885511220156] from rfl) (Reps.one (show Kd.M (Kd.int .u64) _ _ _ 4131703408338449720 [.int .u64 4131703408338449720] from rfl) (Reps.one (show Kd.M (Kd.int .u64) _ _ _ 6480981068601479193 [.int .u64 6480981068601479193] from rfl) (Reps.one (show Kd.M (Kd.int .u64) _ _ _ 10538285296894168987 [.int .u64 10538285296894168987] from rfl) (Reps.one (show Kd.M (Kd.int .u64) _ _ _ 12329834152419229976 [.int .u64 12329834152419229976] from rfl) (Reps.one (show Kd.M (Kd.int .u64) _ _ _ 15566598209576043074 [.int .u64 15566598209576043074] from rfl) (Reps.one (show Kd.M (Kd.int .u64) _ _ _ 1334009975649890238 [.int .u64 1334009975649890238] from rfl) (Reps.one (show Kd.M (Kd.int .u64) _ _ _ 2608012711638119052 [.int .u64 2608012711638119052] from rfl) (Reps.one (show Kd.M (Kd.int .u64) _ _ _ 6128411473006802146 [.int .u64 6128411473006802146] from rfl) (Reps.one (show Kd.M (Kd.int .u64) _ _ _ 8268148722764581231 [.int .u64 8268148722764581231] from rfl) (Reps.one (show Kd.M (Kd.int .u64) _ _ _ 9286055187155687089 [.int .u64 9286055187155687089] from rfl) (Reps.one (show Kd.M (Kd.int .u64) _ _ _ 11230858885718282805 [.int .u64 11230858885718282805] from rfl) (Reps.one (show Kd.M (Kd.int .u64) _ _ _ 13951009754708518548 [.int .u64 13951009754708518548] from rfl) (Reps.one (show Kd.M (Kd.int .u64) _ _ _ 16472876342353939154 [.int .u64 16472876342353939154] from rfl) (Reps.one (show Kd.M (Kd.int .u64) _ _ _ 17275323862435702243 [.int .u64 17275323862435702243] from rfl) (Reps.one (show Kd.M (Kd.int .u64) _ _ _ 1135362057144423861 [.int .u64 1135362057144423861] from rfl) (Reps.one (show Kd.M (Kd.int .u64) _ _ _ 2597628984639134821 [.int .u64 2597628984639134821] from rfl) (Reps.one (show Kd.M (Kd.int .u64) _ _ _ 3308224258029322869 [.int .u64 3308224258029322869] from rfl) (Reps.one (show Kd.M (Kd.int .u64) _ _ _ 5365058923640841347 [.int .u64 5365058923640841347] from rfl) (Reps.one (show Kd.M (Kd.int .u64) _ _ _ 6679025012923562964 [.int .u64 6679025012923562964] from rfl) (Reps.one (show Kd.M (Kd.int .u64) _ _ _ 8573033837759648693 [.int .u64 8573033837759648693] from rfl) (Reps.one (show Kd.M (Kd.int .u64) _ _ _ 10970295158949994411 [.int .u64 10970295158949994411] from rfl) (Reps.one (show Kd.M (Kd.int .u64) _ _ _ 12119686244451234320 [.int .u64 12119686244451234320] from rfl) (Reps.one (show Kd.M (Kd.int .u64) _ _ _ 12683024718118986047 [.int .u64 12683024718118986047] from rfl) (Reps.one (show Kd.M (Kd.int .u64) _ _ _ 13788192230050041572 [.int .u64 13788192230050041572] from rfl) (Reps.one (show Kd.M (Kd.int .u64) _ _ _ 14330467153632333762 [.int .u64 14330467153632333762] from rfl) (Reps.one (show Kd.M (Kd.int .u64) _ _ _ 15395433587784984357 [.int .u64 15395433587784984357] from rfl) (Reps.one (show Kd.M (Kd.int .u64) _ _ _ 489312712824947311 [.int .u64 489312712824947311] from rfl) (Reps.one (show Kd.M (Kd.int .u64) _ _ _ 1452737877330783856 [.int .u64 1452737877330783856] from rfl) (Reps.one (show Kd.M (Kd.int .u64) _ _ _ 2861767655752347644 [.int .u64 2861767655752347644] from rfl) (Reps.one (show Kd.M (Kd.int .u64) _ _ _ 3322285676063803686 [.int .u64 3322285676063803686] from rfl) (Reps.one (show Kd.M (Kd.int .u64) _ _ _ 5560940570517711597 [.int .u64 5560940570517711597] from rfl) (Reps.one (show Kd.M (Kd.int .u64) _ _ _ 5996557281743188959 [.int .u64 5996557281743188959] from rfl) (Reps.one (show Kd.M (Kd.int .u64) _ _ _ 7280758554555802590 [.int .u64 7280758554555802590] from rfl) (Reps.one (show Kd.M (Kd.int .u64) _ _ _ 8532644243296465576 [.int .u64 8532644243296465576] from rfl) (Reps.one (show Kd.M (Kd.int .u64) _ _ _ 9350256976987008742 [.int .u64 9350256976987008742] from rfl) (Reps.one (show Kd.M (Kd.int .u64) _ _ _ 10552545826968843579 [.int .u64 10552545826968843579] from rfl) (Reps.one (show Kd.M (Kd.int .u64) _ _ _ 11727347734174303076 [.int .u64 11727347734174303076] from rfl) (Reps.one (show Kd.M (Kd.int .u64) _ _ _ 12113106623233404929 [.int .u64 12113106623233404929] from rfl) (Reps.one (show Kd.M (Kd.int .u64) _ _ _ 14000437183269869457 [.int .u64 14000437183269869457] from rfl) (Reps.one (show Kd.M (Kd.int .u64) _ _ _ 14369950271660146224 [.int .u64 14369950271660146224] from rfl) (Reps.one (show Kd.M (Kd.int .u64) _ _ _ 15101387698204529176 [.int .u64 15101387698204529176] from rfl) (Reps.one (show Kd.M (Kd.int .u64) _ _ _ 15463397548674623760 [.int .u64 15463397548674623760] from rfl) (Reps.one (show Kd.M (Kd.int .u64) _ _ _ 17586052441742319658 [.int .u64 17586052441742319658] from rfl) (Reps.one (show Kd.M (Kd.int .u64) _ _ _ 1182934255886127544 [.int .u64 1182934255886127544] from rfl) (Reps.one (show Kd.M (Kd.int .u64) _ _ _ 1847814050463011016 [.int .u64 1847814050463011016] from rfl) (Reps.one (show Kd.M (Kd.int .u64) _ _ _ 2177327727835720531 [.int .u64 2177327727835720531] from rfl) (Reps.one (show Kd.M (Kd.int .u64) _ _ _ 2830643537854262169 [.int .u64 2830643537854262169] from rfl) (Reps.one (show Kd.M (Kd.int .u64) _ _ _ 3796741975233480872 [.int .u64 3796741975233480872] from rfl) (Reps.one (show Kd.M (Kd.int .u64) _ _ _ 4115178125766777443 [.int .u64 4115178125766777443] from rfl) (Reps.one (show Kd.M (Kd.int .u64) _ _ _ 5681478168544905931 [.int .u64 5681478168544905931] from rfl) (Reps.one (show Kd.M (Kd.int .u64) _ _ _ 6601373596472566643 [.int .u64 6601373596472566643] from rfl) (Reps.one (show Kd.M (Kd.int .u64) _ _ _ 7507060721942968483 [.int .u64 7507060721942968483] from rfl) (Reps.one (show Kd.M (Kd.int .u64) _ _ _ 8399075790359081724 [.int .u64 8399075790359081724] from rfl) (Reps.one (show Kd.M (Kd.int .u64) _ _ _ 8693463985226723168 [.int .u64 8693463985226723168] from rfl) (Reps.one (show Kd.M (Kd.int .u64) _ _ _ 9568029438360202098 [.int .u64 9568029438360202098] from rfl) (Reps.one (show Kd.M (Kd.int .u64) _ _ _ 10144078919501101548 [.int .u64 10144078919501101548] from rfl) (Reps.one (show Kd.M (Kd.int .u64) _ _ _ 10430055236837252648 [.int .u64 10430055236837252648] from rfl) (Reps.one (show Kd.M (Kd.int .u64) _ _ _ 11840083180663258601 [.int .u64 11840083180663258601] from rfl) (Reps.one (show Kd.M (Kd.int .u64) _ _ _ 13761210420658862357 [.int .u64 13761210420658862357] from rfl) (Reps.one (show Kd.M (Kd.int .u64) _ _ _ 14299343276471374635 [.int .u64 14299343276471374635] from rfl) (Reps.one (show Kd.M (Kd.int .u64) _ _ _ 14566680578165727644 [.int .u64 14566680578165727644] from rfl) (Reps.one (show Kd.M (Kd.int .u64) _ _ _ 15097957966210449927 [.int .u64 15097957966210449927] from rfl) (Reps.one (show Kd.M (Kd.int .u64) _ _ _ 16922976911328602910 [.int .u64 16922976911328602910] from rfl) (Reps.one (show Kd.M (Kd.int .u64) _ _ _ 17689382322260857208 [.int .u64 17689382322260857208] from rfl) (Reps.one (show Kd.M (Kd.int .u64) _ _ _ 500013540394364858 [.int .u64 500013540394364858] from rfl) (Reps.one (show Kd.M (Kd.int .u64) _ _ _ 748580250866718886 [.int .u64 748580250866718886] from rfl) (Reps.one (show Kd.M (Kd.int .u64) _ _ _ 1242879168328830382 [.int .u64 1242879168328830382] from rfl) (Reps.one (show Kd.M (Kd.int .u64) _ _ _ 1977374033974150939 [.int .u64 1977374033974150939] from rfl) (Reps.one (show Kd.M (Kd.int .u64) _ _ _ 2944078676154940804 [.int .u64 2944078676154940804] from rfl) (Reps.one (show Kd.M (Kd.int .u64) _ _ _ 3659926193048069267 [.int .u64 3659926193048069267] from rfl) (Reps.one (show Kd.M (Kd.int .u64) _ _ _ 4368137639120453308 [.int .u64 4368137639120453308] from rfl) (Reps.one (show Kd.M (Kd.int .u64) _ _ _ 4836135668995329356 [.int .u64 4836135668995329356] from rfl) (Reps.one (show Kd.M (Kd.int .u64) _ _ _ 5532061633213252278 [.int .u64 5532061633213252278] from rfl) (Reps.one (show Kd.M (Kd.int .u64) _ _ _ 6448918945643986474 [.int .u64 6448918945643986474] from rfl) (Reps.one (show Kd.M (Kd.int .u64) _ _ _ 6902733635092675308 [.int .u64 6902733635092675308] from rfl) (Reps.one (show Kd.M (Kd.int .u64) _ _ _ 7801388544844847127 [.int .u64 7801388544844847127] from rfl) (Reps.none _ _)))))))))))))))))))))))))))))))))))))))))))))))))))))))))))))))))))))))))))))))))); intro v157 w1 ho2 hb hg_ hnew_; clear hg_ hnew_; (first | rw [← Ny156.out] at ho2 | (simp only [Int.reduceToNat] at ho2; rw [← Ny156.out] at ho2)); have n0_ := Aside0.mk (Kd.R_lower ho2 (below_size (by repeat (first | (with_reducible first | exact HB.out | apply below_alloc | apply pw_below_drewN | apply below_drew1) | exact HB.out)))); have n1_ := Aside0.mk (below_step (by repeat (first | (with_reducible first | exact HB.out | apply below_alloc | apply pw_below_drewN | apply below_drew1) | exact HB.out)) hb); clear HB; have HO158 := n0_; have HB := n1_; clear n0_ n1_; clear hb ho2))
  go_ret
  exact ⟨_, by first | rfl | (simp [errW_none, errW_some] <;> rfl) | (simp [*, errW_none, errW_some] <;> rfl), by (with_reducible repeat (first | apply Kd.R_alloc | apply Kd.R_drewN | apply Kd.R_drew)); exact HO158.out, by repeat (first | (with_reducible first | exact HB.out | apply below_alloc | apply pw_below_drewN | apply below_drew1) | exact HB.out)⟩

/-! ### imprimaturref02_starts: function 41 -/
def imprimaturref02_starts.f  : Option (List Int) := some (([7640891576956012808, 13503953896175478587, 4354685564936845355, 11912009170470909681, 5840696475078001361, 11170449401992604703, 2270897969802886507, 6620516959819538809] : List Int))
set_option maxHeartbeats 8000000 in
set_option maxRecDepth 100000 in
theorem imprimaturref02_starts.calls  (r : List Int) (w : World) (h : imprimaturref02_starts.f  = some r) :
    Calls Tryd.prog 41 #[] w fun e w' => ∃ v0_ : Value, e = .returned (v0_) ∧ Kd.R (Kd.int .u64) 39 w' w.heap.size (fun _ => True) v0_ r ∧ Below w.heap.size w w' := by
  have HB := Aside0.mk (Below.refl w.heap.size w)
  have H : (some (([7640891576956012808, 13503953896175478587, 4354685564936845355, 11912009170470909681, 5840696475078001361, 11170449401992604703, 2270897969802886507, 6620516959819538809] : List Int))) = some r := h
  clear h
  obtain ⟨y159, hy159⟩ : ∃ y_ : List Int, y_ = (([7640891576956012808, 13503953896175478587, 4354685564936845355, 11912009170470909681, 5840696475078001361, 11170449401992604703, 2270897969802886507, 6620516959819538809] : List Int)) := ⟨_, rfl⟩
  replace H : (some y159) = some r := by first | (rw [hy159]; with_reducible exact H) | (have H2_ := (Option.bind_some _ _).symm.trans H; rw [hy159]; with_reducible exact H2_) | (have H2_ := (Option.bind_some _ _).symm.trans H; with_reducible exact H2_) | with_reducible exact H | (rw [hy159]; exact H) | exact H
  have Ny159 := Aside0.mk hy159
  clear hy159
  obtain rfl := Option.some.inj H
  go_enter Tryd.func41, Tryd.ntmps41
  go_wp2_with (first | ((with_reducible refine gate_dst (N := 1) rfl ?_); refine Kd.R_lit (Kd.int .u64) _ 39 ?hg (N := 1) ?hd (xs := ([7640891576956012808, 13503953896175478587, 4354685564936845355, 11912009170470909681, 5840696475078001361, 11170449401992604703, 2270897969802886507, 6620516959819538809] : List Int)) (inner := [.int .u64 7640891576956012808, .int .u64 13503953896175478587, .int .u64 4354685564936845355, .int .u64 11912009170470909681, .int .u64 5840696475078001361, .int .u64 11170449401992604703, .int .u64 2270897969802886507, .int .u64 6620516959819538809]) (ok := fun _ => True) (okp := fun _ => True) ?hr ?hp (fun _ hk => hk) trivial (Below.refl _ _) (Nat.le_refl _) (by simp) ?_; (case hd => rfl); (case hg => rfl); (case hr => first | (go_simp; done) | (go_simp; rfl)); (case hp => exact (Reps.one (show Kd.M (Kd.int .u64) _ _ _ 7640891576956012808 [.int .u64 7640891576956012808] from rfl) (Reps.one (show Kd.M (Kd.int .u64) _ _ _ 13503953896175478587 [.int .u64 13503953896175478587] from rfl) (Reps.one (show Kd.M (Kd.int .u64) _ _ _ 4354685564936845355 [.int .u64 4354685564936845355] from rfl) (Reps.one (show Kd.M (Kd.int .u64) _ _ _ 11912009170470909681 [.int .u64 11912009170470909681] from rfl) (Reps.one (show Kd.M (Kd.int .u64) _ _ _ 5840696475078001361 [.int .u64 5840696475078001361] from rfl) (Reps.one (show Kd.M (Kd.int .u64) _ _ _ 11170449401992604703 [.int .u64 11170449401992604703] from rfl) (Reps.one (show Kd.M (Kd.int .u64) _ _ _ 2270897969802886507 [.int .u64 2270897969802886507] from rfl) (Reps.one (show Kd.M (Kd.int .u64) _ _ _ 6620516959819538809 [.int .u64 6620516959819538809] from rfl) (Reps.none _ _)))))))))); intro v160 w1 ho2 hb hg_ hnew_; clear hg_ hnew_; (first | rw [← Ny159.out] at ho2 | (simp only [Int.reduceToNat] at ho2; rw [← Ny159.out] at ho2)); have n0_ := Aside0.mk (Kd.R_lower ho2 (below_size (by repeat (first | (with_reducible first | exact HB.out | apply below_alloc | apply pw_below_drewN | apply below_drew1) | exact HB.out)))); have n1_ := Aside0.mk (below_step (by repeat (first | (with_reducible first | exact HB.out | apply below_alloc | apply pw_below_drewN | apply below_drew1) | exact HB.out)) hb); clear HB; have HO161 := n0_; have HB := n1_; clear n0_ n1_; clear hb ho2))
  go_ret
  exact ⟨_, by first | rfl | (simp [errW_none, errW_some] <;> rfl) | (simp [*, errW_none, errW_some] <;> rfl), by (with_reducible repeat (first | apply Kd.R_alloc | apply Kd.R_drewN | apply Kd.R_drew)); exact HO161.out, by repeat (first | (with_reducible first | exact HB.out | apply below_alloc | apply pw_below_drewN | apply below_drew1) | exact HB.out)⟩

/-! ### imprimaturref02_Words_cut: function 44 -/
def imprimaturref02_Words_cut.f (a0_0 : Int) (a0_1 : Int) (a1 : Int) : Option (Int) := if a0_0 = 0 then (some a1) else (some (Int.tmod a1 a0_0))
set_option maxHeartbeats 8000000 in
set_option maxRecDepth 100000 in
theorem imprimaturref02_Words_cut.calls (a0_0 : Int) (a0_1 : Int) (a1 : Int) (r : Int) (w : World) (h : imprimaturref02_Words_cut.f a0_0 a0_1 a1 = some r) :
    Calls Tryd.prog 44 #[.agg #[.int .u64 a0_0, .int .u64 a0_1], .int .u64 a1] w fun e w' => e = .returned (.int .u64 r) ∧ Below w.heap.size w w' := by
  have hu70 := Tryd.underlying70
  have HB := Aside0.mk (Below.refl w.heap.size w)
  have H : (if a0_0 = 0 then (some a1) else (some (Int.tmod a1 a0_0))) = some r := h
  clear h
  by_cases c3 : a0_0 = 0
  · rw [if_pos c3] at H
    have c3b0 : (a0_0 == 0) = true := beq_iff_eq.mpr c3
    have c3b1 : (a0_0 != 0) = false := bne_eq_false_iff_eq.mpr c3
    clear c3
    obtain rfl := Option.some.inj H
    go_enter Tryd.func44, Tryd.ntmps44
    go_wp2_with (first | ((with_reducible refine gate_dst (N := 2) rfl ?_); refine box_event ?hg (N := 2) ?hd (cs := #[.int .u64 a0_0, .int .u64 a0_1]) (t := 70) ?hr ?_; (case hd => rfl); (case hg => rfl); (case hr => first | (go_simp; done) | (go_simp; rfl)); intro gb162 hg w4 hbox hb; have n0_ := Aside0.mk (below_step (by repeat (first | (with_reducible first | exact HB.out | apply below_alloc | apply pw_below_drewN | apply below_drew1) | exact HB.out)) hb); have n1_ := Aside0.mk (hbox); have n2_ := Aside0.mk ((by rw [hg]; exact (below_size (by repeat (first | (with_reducible first | exact HB.out | apply below_alloc | apply pw_below_drewN | apply below_drew1) | exact HB.out))) : w.heap.size ≤ gb162)); have n3_ := Aside0.mk ((by rw [hg]; exact (below_size (by repeat (first | (with_reducible first | exact HB.out | apply below_alloc | apply pw_below_drewN | apply below_drew1) | exact HB.out))) : w.heap.size ≤ gb162)); clear HB; have HB := n0_; have BK162 := n1_; have GW162 := n2_; have GE162 := n3_; clear n0_ n1_ n2_ n3_; clear hb hbox hg; have hcz5_0 : w4.cell? ⟨gb162, 0, none⟩ = some (.int .u64 a0_0) := (blk_cell BK162.out 0).trans rfl; have hcz5_1 : w4.cell? ⟨gb162, 1, none⟩ = some (.int .u64 a0_1) := (blk_cell BK162.out 1).trans rfl; have hfz5_0 := blk_frozen BK162.out 0; have hfz5_1 := blk_frozen BK162.out 1))
    go_ret
    exact ⟨by first | rfl | (simp [errW_none, errW_some] <;> rfl) | (simp [*, errW_none, errW_some] <;> rfl), by repeat (first | (with_reducible first | exact HB.out | apply below_alloc | apply pw_below_drewN | apply below_drew1 | refine below_set ?_ GE162.out) | exact HB.out)⟩
  · rw [if_neg c3] at H
    have c3b0 : (a0_0 == 0) = false := beq_eq_false_iff_ne.mpr c3
    have c3b1 : (a0_0 != 0) = true := bne_iff_ne.mpr c3
    obtain rfl := Option.some.inj H
    go_enter Tryd.func44, Tryd.ntmps44
    go_wp2_with (first | ((with_reducible refine gate_dst (N := 2) rfl ?_); refine box_event ?hg (N := 2) ?hd (cs := #[.int .u64 a0_0, .int .u64 a0_1]) (t := 70) ?hr ?_; (case hd => rfl); (case hg => rfl); (case hr => first | (go_simp; done) | (go_simp; rfl)); intro gb162 hg w6 hbox hb; have n0_ := Aside0.mk (below_step (by repeat (first | (with_reducible first | exact HB.out | apply below_alloc | apply pw_below_drewN | apply below_drew1) | exact HB.out)) hb); have n1_ := Aside0.mk (hbox); have n2_ := Aside0.mk ((by rw [hg]; exact (below_size (by repeat (first | (with_reducible first | exact HB.out | apply below_alloc | apply pw_below_drewN | apply below_drew1) | exact HB.out))) : w.heap.size ≤ gb162)); have n3_ := Aside0.mk ((by rw [hg]; exact (below_size (by repeat (first | (with_reducible first | exact HB.out | apply below_alloc | apply pw_below_drewN | apply below_drew1) | exact HB.out))) : w.heap.size ≤ gb162)); clear HB; have HB := n0_; have BK162 := n1_; have GW162 := n2_; have GE162 := n3_; clear n0_ n1_ n2_ n3_; clear hb hbox hg; have hcz7_0 : w6.cell? ⟨gb162, 0, none⟩ = some (.int .u64 a0_0) := (blk_cell BK162.out 0).trans rfl; have hcz7_1 : w6.cell? ⟨gb162, 1, none⟩ = some (.int .u64 a0_1) := (blk_cell BK162.out 1).trans rfl; have hfz7_0 := blk_frozen BK162.out 0; have hfz7_1 := blk_frozen BK162.out 1))
    go_ret
    exact ⟨by first | rfl | (simp [errW_none, errW_some] <;> rfl) | (simp [*, errW_none, errW_some] <;> rfl), by repeat (first | (with_reducible first | exact HB.out | apply below_alloc | apply pw_below_drewN | apply below_drew1 | refine below_set ?_ GE162.out) | exact HB.out)⟩

/-! ### imprimaturref02_Words_turn: function 63 -/
def imprimaturref02_Words_turn.f (a0_0 : Int) (a0_1 : Int) (a1 : Int) (a2 : Int) : Option (Int) := if 0 ≤ a2 then (if 0 ≤ (IntKind.u64.wrap (a0_1 - a2)) then ((imprimaturref02_Words_cut.f a0_0 a0_1 (Go.bits .or .u64 (shr .u64 a1 a2) (shl .u64 a1 (IntKind.u64.wrap (a0_1 - a2))))).bind fun t164 => (some t164)) else (none)) else (none)
set_option maxHeartbeats 8000000 in
set_option maxRecDepth 100000 in
theorem imprimaturref02_Words_turn.calls (a0_0 : Int) (a0_1 : Int) (a1 : Int) (a2 : Int) (r : Int) (w : World) (h : imprimaturref02_Words_turn.f a0_0 a0_1 a1 a2 = some r) :
    Calls Tryd.prog 63 #[.agg #[.int .u64 a0_0, .int .u64 a0_1], .int .u64 a1, .int .u64 a2] w fun e w' => e = .returned (.int .u64 r) ∧ Below w.heap.size w w' := by
  have hu70 := Tryd.underlying70
  have HB := Aside0.mk (Below.refl w.heap.size w)
  have H : (if 0 ≤ a2 then (if 0 ≤ (IntKind.u64.wrap (a0_1 - a2)) then ((imprimaturref02_Words_cut.f a0_0 a0_1 (Go.bits .or .u64 (shr .u64 a1 a2) (shl .u64 a1 (IntKind.u64.wrap (a0_1 - a2))))).bind fun t164 => (some t164)) else (none)) else (none)) = some r := h
  clear h
  by_cases c4 : 0 ≤ a2
  · rw [if_pos c4] at H
    have c4b0 := eq_true c4
    have c4b1 : decide (0 ≤ a2) = true := decide_eq_true c4
    clear c4
    obtain ⟨ji5, hji5⟩ : ∃ j_ : Int, (shr .u64 a1 a2) = j_ := ⟨_, rfl⟩
    replace H : (if 0 ≤ (IntKind.u64.wrap (a0_1 - a2)) then ((imprimaturref02_Words_cut.f a0_0 a0_1 (Go.bits .or .u64 (ji5) (shl .u64 a1 (IntKind.u64.wrap (a0_1 - a2))))).bind fun t164 => (some t164)) else (none)) = some r := by first | (rw [hji5] at H; exact H) | (simp only [hji5] at H ⊢; exact H)
    have hji5_ : (a1 / 2 ^ min a2.toNat 64) = ji5 := hji5
    have hji5z : a2 ≤ 64 → (a1 / 2 ^ a2.toNat) = ji5 := shr_small hji5
    obtain ⟨ji6, hji6⟩ : ∃ j_ : Int, (IntKind.u64.wrap (a0_1 - a2)) = j_ := ⟨_, rfl⟩
    replace H : (if 0 ≤ (ji6) then ((imprimaturref02_Words_cut.f a0_0 a0_1 (Go.bits .or .u64 (ji5) (shl .u64 a1 (ji6)))).bind fun t164 => (some t164)) else (none)) = some r := by first | (rw [hji6] at H; exact H) | (simp only [hji6] at H ⊢; exact H)
    by_cases c7 : 0 ≤ (ji6)
    · rw [if_pos c7] at H
      have c7b0 := eq_true c7
      have c7b1 : decide (0 ≤ (ji6)) = true := decide_eq_true c7
      clear c7
      obtain ⟨ji8, hji8⟩ : ∃ j_ : Int, (shl .u64 a1 (ji6)) = j_ := ⟨_, rfl⟩
      replace H : ((imprimaturref02_Words_cut.f a0_0 a0_1 (Go.bits .or .u64 (ji5) (ji8))).bind fun t164 => (some t164)) = some r := by first | (rw [hji8] at H; exact H) | (simp only [hji8] at H ⊢; exact H)
      have hji8_ : (IntKind.u64.wrap (a1 * 2 ^ min (ji6).toNat 64)) = ji8 := hji8
      have hji8z : (ji6) ≤ 64 → (IntKind.u64.wrap (a1 * 2 ^ (ji6).toNat)) = ji8 := shl_small hji8
      replace H := Option.bind_eq_some_iff.mp H
      obtain ⟨t164, A90, H⟩ := H
      replace H : (some t164) = some r := H
      have A9 := Aside0.mk A90
      clear A90
      obtain rfl := Option.some.inj H
      go_enter Tryd.func63, Tryd.ntmps63
      go_wp2_with (first | ((with_reducible refine gate_dst (N := 3) rfl ?_); refine box_event ?hg (N := 3) ?hd (cs := #[.int .u64 a0_0, .int .u64 a0_1]) (t := 70) ?hr ?_; (case hd => rfl); (case hg => rfl); (case hr => first | (go_simp; done) | (go_simp; rfl)); intro gb163 hg w10 hbox hb; have n0_ := Aside0.mk (below_step (by repeat (first | (with_reducible first | exact HB.out | apply below_alloc | apply pw_below_drewN | apply below_drew1) | exact HB.out)) hb); have n1_ := Aside0.mk (hbox); have n2_ := Aside0.mk ((by rw [hg]; exact (below_size (by repeat (first | (with_reducible first | exact HB.out | apply below_alloc | apply pw_below_drewN | apply below_drew1) | exact HB.out))) : w.heap.size ≤ gb163)); have n3_ := Aside0.mk ((by rw [hg]; exact (below_size (by repeat (first | (with_reducible first | exact HB.out | apply below_alloc | apply pw_below_drewN | apply below_drew1) | exact HB.out))) : w.heap.size ≤ gb163)); clear HB; have HB := n0_; have BK163 := n1_; have GW163 := n2_; have GE163 := n3_; clear n0_ n1_ n2_ n3_; clear hb hbox hg; have hcz11_0 : w10.cell? ⟨gb163, 0, none⟩ = some (.int .u64 a0_0) := (blk_cell BK163.out 0).trans rfl; have hcz11_1 : w10.cell? ⟨gb163, 1, none⟩ = some (.int .u64 a0_1) := (blk_cell BK163.out 1).trans rfl; have hfz11_0 := blk_frozen BK163.out 0; have hfz11_1 := blk_frozen BK163.out 1) | ((with_reducible refine gate_callee (f := 44) rfl ?_); refine goesL_ (some 18) rfl rfl Tryd.func44 (by kernel_rfl) rfl #[.agg #[.int .u64 a0_0, .int .u64 a0_1], .int .u64 (Go.bits .or .u64 (ji5) (ji8))] rfl (by (try simp only [List.map_toArray, List.map_cons, List.map_nil]); first | done | (simp only [hji5, hji8]; rfl) | rfl | (simp only [List.length_drop, List.length_take]; rfl)) ?_; (with_reducible refine (imprimaturref02_Words_cut.calls a0_0 a0_1 (Go.bits .or .u64 (ji5) (ji8)) t164 _ A9.out).mono ?_); rintro e w12 ⟨rfl, hb⟩; refine ⟨_, rfl, ?_⟩; have n0_ := Aside0.mk (blk_below (g := gb163) (o := .cells #[.int .u64 a0_0, .int .u64 a0_1] 70 (0, 0)) (by (with_reducible repeat (first | refine blk_drewN ?_ _ | refine blk_drew ?_ | refine blk_alloc ?_ _)); exact BK163.out) hb); have n1_ := Aside0.mk (below_step (by repeat (first | (with_reducible first | exact HB.out | apply below_alloc | apply pw_below_drewN | apply below_drew1 | refine below_set ?_ GE163.out) | exact HB.out)) hb); clear BK163; clear HB; have BK163 := n0_; have HB := n1_; clear n0_ n1_; (try clear hb); (try clear hb2); (try clear hk); (try clear hi)))
      go_ret
      exact ⟨by first | rfl | (simp [errW_none, errW_some] <;> rfl) | (simp only [← hji5, ← hji6, ← hji8]; first | rfl | (simp [errW_none, errW_some] <;> rfl)) | (simp [*, errW_none, errW_some] <;> rfl), by repeat (first | (with_reducible first | exact HB.out | apply below_alloc | apply pw_below_drewN | apply below_drew1 | refine below_set ?_ GE163.out) | exact HB.out)⟩
    · rw [if_neg c7] at H
      exact absurd H (by simp)
  · rw [if_neg c4] at H
    exact absurd H (by simp)

/-! ### imprimaturref02_Words_small: function 56 -/
def imprimaturref02_Words_small.f (a0_0 : Int) (a0_1 : Int) (a1 : Int) (a2 : Int) (a3 : Int) (a4 : Int) : Option (Int) := (imprimaturref02_Words_turn.f a0_0 a0_1 a1 a2).bind fun t166 => ((imprimaturref02_Words_turn.f a0_0 a0_1 a1 a3).bind fun t167 => (if 0 ≤ a4 then (some (Go.bits .xor .u64 (Go.bits .xor .u64 t166 t167) (shr .u64 a1 a4))) else (none)))
def imprimaturref02_Words_small.T1 : Bool × List (List Nat × List Nat) := (true, [([], []), ([], []), ([], []), ([0, 1, 2], [0, 1, 2]), ([], []), ([], []), ([], []), ([4, 5, 6, 3], [4, 5, 6]), ([3, 7], [3, 7]), ([], []), ([], []), ([9, 10], [9, 10]), ([8, 11], [8, 11]), ([12, 7, 0, 1, 2, 3, 4, 5, 6, 7, 8, 9, 10, 11, 12], [12])])
def imprimaturref02_Words_small.B1 : List Nat := [0, 0, 0, 7, 0, 0, 0, 127, 255, 0, 0, 1536, 4095, 8191]
theorem imprimaturref02_Words_small.tab1 : rtab .any (opsOf Tryd.f56 1) = imprimaturref02_Words_small.T1 := by kernel_rfl
theorem imprimaturref02_Words_small.bits1 : waitsOk imprimaturref02_Words_small.T1.2 imprimaturref02_Words_small.B1 = true := by kernel_rfl
set_option maxHeartbeats 8000000 in
set_option maxRecDepth 100000 in
theorem imprimaturref02_Words_small.calls (a0_0 : Int) (a0_1 : Int) (a1 : Int) (a2 : Int) (a3 : Int) (a4 : Int) (r : Int) (w : World) (h : imprimaturref02_Words_small.f a0_0 a0_1 a1 a2 a3 a4 = some r) :
    Calls Tryd.prog 56 #[.agg #[.int .u64 a0_0, .int .u64 a0_1], .int .u64 a1, .int .u64 a2, .int .u64 a3, .int .u64 a4] w fun e w' => e = .returned (.int .u64 r) ∧ Below w.heap.size w w' := by
  have hu70 := Tryd.underlying70
  have HB := Aside0.mk (Below.refl w.heap.size w)
  have H : ((imprimaturref02_Words_turn.f a0_0 a0_1 a1 a2).bind fun t166 => ((imprimaturref02_Words_turn.f a0_0 a0_1 a1 a3).bind fun t167 => (if 0 ≤ a4 then (some (Go.bits .xor .u64 (Go.bits .xor .u64 t166 t167) (shr .u64 a1 a4))) else (none)))) = some r := h
  clear h
  replace H := Option.bind_eq_some_iff.mp H
  obtain ⟨t166, A60, H⟩ := H
  replace H : ((imprimaturref02_Words_turn.f a0_0 a0_1 a1 a3).bind fun t167 => (if 0 ≤ a4 then (some (Go.bits .xor .u64 (Go.bits .xor .u64 t166 t167) (shr .u64 a1 a4))) else (none))) = some r := H
  have A6 := Aside0.mk A60
  clear A60
  replace H := Option.bind_eq_some_iff.mp H
  obtain ⟨t167, A70, H⟩ := H
  replace H : (if 0 ≤ a4 then (some (Go.bits .xor .u64 (Go.bits .xor .u64 t166 t167) (shr .u64 a1 a4))) else (none)) = some r := H
  have A7 := Aside0.mk A70
  clear A70
  by_cases c8 : 0 ≤ a4
  · rw [if_pos c8] at H
    have c8b0 := eq_true c8
    have c8b1 : decide (0 ≤ a4) = true := decide_eq_true c8
    clear c8
    obtain ⟨ji9, hji9⟩ : ∃ j_ : Int, (shr .u64 a1 a4) = j_ := ⟨_, rfl⟩
    replace H : (some (Go.bits .xor .u64 (Go.bits .xor .u64 t166 t167) (ji9))) = some r := by first | (rw [hji9] at H; exact H) | (simp only [hji9] at H ⊢; exact H)
    (try rw [hji9] at A6)
    (try rw [hji9] at A7)
    have hji9_ : (a1 / 2 ^ min a4.toNat 64) = ji9 := hji9
    have hji9z : a4 ≤ 64 → (a1 / 2 ^ a4.toNat) = ji9 := shr_small hji9
    obtain rfl := Option.some.inj H
    go_enter Tryd.func56, Tryd.ntmps56
    try go_wp2_with (first | ((with_reducible refine gate_dst (N := 5) rfl ?_); refine box_event ?hg (N := 5) ?hd (cs := #[.int .u64 a0_0, .int .u64 a0_1]) (t := 70) ?hr ?_; (case hd => rfl); (case hg => rfl); (case hr => first | (go_simp; done) | (go_simp; rfl)); intro gb165 hg w10 hbox hb; have n0_ := Aside0.mk (below_step (by repeat (first | (with_reducible first | exact HB.out | apply below_alloc | apply pw_below_drewN | apply below_drew1) | exact HB.out)) hb); have n1_ := Aside0.mk (hbox); have n2_ := Aside0.mk ((by rw [hg]; exact (below_size (by repeat (first | (with_reducible first | exact HB.out | apply below_alloc | apply pw_below_drewN | apply below_drew1) | exact HB.out))) : w.heap.size ≤ gb165)); have n3_ := Aside0.mk ((by rw [hg]; exact (below_size (by repeat (first | (with_reducible first | exact HB.out | apply below_alloc | apply pw_below_drewN | apply below_drew1) | exact HB.out))) : w.heap.size ≤ gb165)); clear HB; have HB := n0_; have BK165 := n1_; have GW165 := n2_; have GE165 := n3_; clear n0_ n1_ n2_ n3_; clear hb hbox hg))
    have n0_ := Aside0.mk (blk_drew BK165.out)
    have n1_ := Aside0.mk (below_drew1 HB.out)
    clear BK165
    clear HB
    have BK165 := n0_
    have HB := n1_
    clear n0_ n1_
    refine start_ (n := 14) (S := fun w' => w'.cell? ⟨gb165, 0, none⟩ = some (.int .u64 a0_0) ∧ w'.cell? ⟨gb165, 1, none⟩ = some (.int .u64 a0_1)) (ds := []) #[false, false, false, false, false, false, false, false, false, false, false, false, false, false] (by kernel_rfl) rfl rfl ⟨(blk_cell BK165.out 0).trans rfl, (blk_cell BK165.out 1).trans rfl⟩ (fun hHeld => ?_); refine with_tabW imprimaturref02_Words_small.tab1 imprimaturref02_Words_small.bits1 (fun HT_ HW_ => ?_)
    generalize w10.drew = w11 at BK165 HB hHeld ⊢
    refine pure_ (i := 1) (N := some 12) (v := ?_) (a' := ?_) #[false, true, false, false, false, false, false, false, false, false, false, false, false, false] rfl rfl (any_of HT_.out (by kernel_rfl)) (fun _ _ _ h => h) (Or.inl ⟨by rfl, ?_⟩) ?_ ?_
    rotate_left
    · intro w'
      go_simp
      with_reducible rfl
    rotate_left
    · simp only [Act.put, List.setIfInBounds_toArray, List.set_cons_zero, List.set_cons_succ, i64_w, i32_w]
      rfl
    refine pure_ (i := 2) (N := some 13) (v := ?_) (a' := ?_) #[false, true, true, false, false, false, false, false, false, false, false, false, false, false] rfl rfl (any_of HT_.out (by kernel_rfl)) (fun _ _ _ h => h) (Or.inl ⟨by rfl, ?_⟩) ?_ ?_
    rotate_left
    · intro w'
      go_simp
      with_reducible rfl
    rotate_left
    · simp only [Act.put, List.setIfInBounds_toArray, List.set_cons_zero, List.set_cons_succ, i64_w, i32_w]
      rfl
    refine pure_ (i := 5) (N := some 16) (v := ?_) (a' := ?_) #[false, true, true, false, false, true, false, false, false, false, false, false, false, false] rfl rfl (any_of HT_.out (by kernel_rfl)) (fun _ _ _ h => h) (Or.inl ⟨by rfl, ?_⟩) ?_ ?_
    rotate_left
    · intro w'
      go_simp
      with_reducible rfl
    rotate_left
    · simp only [Act.put, List.setIfInBounds_toArray, List.set_cons_zero, List.set_cons_succ, i64_w, i32_w]
      rfl
    refine pure_ (i := 6) (N := some 17) (v := ?_) (a' := ?_) #[false, true, true, false, false, true, true, false, false, false, false, false, false, false] rfl rfl (any_of HT_.out (by kernel_rfl)) (fun _ _ _ h => h) (Or.inl ⟨by rfl, ?_⟩) ?_ ?_
    rotate_left
    · intro w'
      go_simp
      with_reducible rfl
    rotate_left
    · simp only [Act.put, List.setIfInBounds_toArray, List.set_cons_zero, List.set_cons_succ, i64_w, i32_w]
      rfl
    refine pure_ (i := 9) (N := some 20) (v := ?_) (a' := ?_) #[false, true, true, false, false, true, true, false, false, true, false, false, false, false] rfl rfl (any_of HT_.out (by kernel_rfl)) (fun _ _ _ h => h) (Or.inl ⟨by rfl, ?_⟩) ?_ ?_
    rotate_left
    · intro w'
      go_simp
      with_reducible rfl
    rotate_left
    · simp only [Act.put, List.setIfInBounds_toArray, List.set_cons_zero, List.set_cons_succ, i64_w, i32_w]
      rfl
    refine pure_ (i := 10) (N := some 21) (v := ?_) (a' := ?_) #[false, true, true, false, false, true, true, false, false, true, true, false, false, false] rfl rfl (any_of HT_.out (by kernel_rfl)) (fun _ _ _ h => h) (Or.inl ⟨by rfl, ?_⟩) ?_ ?_
    rotate_left
    · intro w'
      go_simp
      with_reducible rfl
    rotate_left
    · simp only [Act.put, List.setIfInBounds_toArray, List.set_cons_zero, List.set_cons_succ, i64_w, i32_w]
      rfl
    refine pure_ (i := 11) (N := some 22) (v := ?_) (a' := ?_) #[false, true, true, false, false, true, true, false, false, true, true, true, false, false] rfl rfl (any_of HT_.out (by kernel_rfl)) (fun _ _ _ h => h) (Or.inl ⟨by rfl, ?_⟩) ?_ ?_
    rotate_left
    · intro w'
      go_simp
      with_reducible rfl
    rotate_left
    · simp only [Act.put, List.setIfInBounds_toArray, List.set_cons_zero, List.set_cons_succ, i64_w, i32_w]
      rfl
    refine take_ (i := 0) (N := some 11) (v := ?_) (a' := ?_) #[true, true, true, false, false, true, true, false, false, true, true, true, false, false] rfl rfl (take_ofW HT_.out HW_.out (by kernel_rfl)) (fun _ _ _ h => h) (Or.inl ⟨by rfl, ?_⟩) hHeld ?_ ?_
    rotate_left
    · rintro w' ⟨s0, s1⟩
      go_simp
      with_reducible rfl
    rotate_left
    · simp only [Act.put, List.setIfInBounds_toArray, List.set_cons_zero, List.set_cons_succ, i64_w, i32_w]
      rfl
    refine take_ (i := 4) (N := some 15) (v := ?_) (a' := ?_) #[true, true, true, false, true, true, true, false, false, true, true, true, false, false] rfl rfl (take_ofW HT_.out HW_.out (by kernel_rfl)) (fun _ _ _ h => h) (Or.inl ⟨by rfl, ?_⟩) hHeld ?_ ?_
    rotate_left
    · rintro w' ⟨s0, s1⟩
      go_simp
      with_reducible rfl
    rotate_left
    · simp only [Act.put, List.setIfInBounds_toArray, List.set_cons_zero, List.set_cons_succ, i64_w, i32_w]
      rfl
    refine one_ (i := 3) (N := some 14) #[true, true, true, true, true, true, true, false, false, true, true, true, false, false] rfl rfl (one_of HT_.out (by kernel_rfl)) (by decide) (fun K hK => ?_)
    refine goes_ Tryd.func63 (by kernel_rfl) rfl #[.agg #[.int .u64 a0_0, .int .u64 a0_1], .int .u64 a1, .int .u64 a2] (by rfl) rfl rfl (by (try simp only [List.map_toArray, List.map_cons, List.map_nil]); first | done | rfl | (simp only [List.length_drop, List.length_take]; rfl)) ?_
    with_reducible refine (imprimaturref02_Words_turn.calls a0_0 a0_1 a1 a2 t166 _ A6.out).mono ?_
    rintro e w12 ⟨rfl, hb⟩
    refine ⟨_, rfl, ?_⟩
    have n0_ := Aside0.mk (blk_below (g := gb165) (o := .cells #[.int .u64 a0_0, .int .u64 a0_1] 70 (0, 0)) (by (with_reducible repeat (first | refine blk_drewN ?_ _ | refine blk_drew ?_ | refine blk_alloc ?_ _)); exact BK165.out) hb)
    have n1_ := Aside0.mk (below_step (by repeat (first | (with_reducible first | exact HB.out | apply below_alloc | apply pw_below_drewN | apply below_drew1 | refine below_set ?_ GE165.out) | exact HB.out)) hb)
    clear BK165
    clear HB
    have BK165 := n0_
    have HB := n1_
    clear n0_ n1_
    (try clear hb)
    (try clear hb2)
    (try clear hk)
    (try clear hi)
    refine hK.out _ _ ⟨(blk_cell BK165.out 0).trans rfl, (blk_cell BK165.out 1).trans rfl⟩ (fun hHeld => ?_)
    clear hK K
    refine norm_ (a' := ?_) ?_ ?_
    rotate_left
    · show Act.put _ (some 14) _ = _
      simp only [Act.put, List.setIfInBounds_toArray, List.set_cons_zero, List.set_cons_succ, i64_w, i32_w]
      rfl
    refine one_ (i := 7) (N := some 18) #[true, true, true, true, true, true, true, true, false, true, true, true, false, false] rfl rfl (one_of HT_.out (by kernel_rfl)) (by decide) (fun K hK => ?_)
    refine goes_ Tryd.func63 (by kernel_rfl) rfl #[.agg #[.int .u64 a0_0, .int .u64 a0_1], .int .u64 a1, .int .u64 a3] (by rfl) rfl rfl (by (try simp only [List.map_toArray, List.map_cons, List.map_nil]); first | done | rfl | (simp only [List.length_drop, List.length_take]; rfl)) ?_
    with_reducible refine (imprimaturref02_Words_turn.calls a0_0 a0_1 a1 a3 t167 _ A7.out).mono ?_
    rintro e w13 ⟨rfl, hb⟩
    refine ⟨_, rfl, ?_⟩
    have n0_ := Aside0.mk (blk_below (g := gb165) (o := .cells #[.int .u64 a0_0, .int .u64 a0_1] 70 (0, 0)) (by (with_reducible repeat (first | refine blk_drewN ?_ _ | refine blk_drew ?_ | refine blk_alloc ?_ _)); exact BK165.out) hb)
    have n1_ := Aside0.mk (below_step (by repeat (first | (with_reducible first | exact HB.out | apply below_alloc | apply pw_below_drewN | apply below_drew1 | refine below_set ?_ GE165.out) | exact HB.out)) hb)
    clear BK165
    clear HB
    have BK165 := n0_
    have HB := n1_
    clear n0_ n1_
    (try clear hb)
    (try clear hb2)
    (try clear hk)
    (try clear hi)
    refine hK.out _ _ ⟨(blk_cell BK165.out 0).trans rfl, (blk_cell BK165.out 1).trans rfl⟩ (fun hHeld => ?_)
    clear hK K
    refine norm_ (a' := ?_) ?_ ?_
    rotate_left
    · show Act.put _ (some 18) _ = _
      simp only [Act.put, List.setIfInBounds_toArray, List.set_cons_zero, List.set_cons_succ, i64_w, i32_w]
      rfl
    refine pure_ (i := 8) (N := some 19) (v := ?_) (a' := ?_) #[true, true, true, true, true, true, true, true, true, true, true, true, false, false] rfl rfl (any_of HT_.out (by kernel_rfl)) (fun _ _ _ h => h) (Or.inl ⟨by rfl, ?_⟩) ?_ ?_
    rotate_left
    · intro w'
      go_simp
      with_reducible rfl
    rotate_left
    · simp only [Act.put, List.setIfInBounds_toArray, List.set_cons_zero, List.set_cons_succ, i64_w, i32_w]
      rfl
    refine pure_ (i := 12) (N := some 23) (v := ?_) (a' := ?_) #[true, true, true, true, true, true, true, true, true, true, true, true, true, false] rfl rfl (any_of HT_.out (by kernel_rfl)) (fun _ _ _ h => h) (Or.inl ⟨by rfl, ?_⟩) ?_ ?_
    rotate_left
    · intro w'
      go_simp
      with_reducible rfl
    rotate_left
    · simp only [Act.put, List.setIfInBounds_toArray, List.set_cons_zero, List.set_cons_succ, i64_w, i32_w]
      rfl
    refine pure_ (i := 13) (N := some 10) (v := ?_) (a' := ?_) #[true, true, true, true, true, true, true, true, true, true, true, true, true, true] rfl rfl (any_of HT_.out (by kernel_rfl)) (fun _ _ _ h => h) (Or.inl ⟨by rfl, ?_⟩) ?_ ?_
    rotate_left
    · intro w'
      go_simp
      with_reducible rfl
    rotate_left
    · simp only [Act.put, List.setIfInBounds_toArray, List.set_cons_zero, List.set_cons_succ, i64_w, i32_w]
      rfl
    refine done_ (done_of HT_.out (by kernel_rfl)) ?_
    try go_wp2
    go_ret
    exact ⟨by first | rfl | (simp [errW_none, errW_some] <;> rfl) | (simp only [← hji9]; first | rfl | (simp [errW_none, errW_some] <;> rfl)) | (simp [*, errW_none, errW_some] <;> rfl), by repeat (first | (with_reducible first | exact HB.out | apply below_alloc | apply pw_below_drewN | apply below_drew1 | refine below_set ?_ GE165.out) | exact HB.out)⟩
  · rw [if_neg c8] at H
    exact absurd H (by simp)

end Go.Proofs.YtckjgipkdknmgaaDoor.PAll
