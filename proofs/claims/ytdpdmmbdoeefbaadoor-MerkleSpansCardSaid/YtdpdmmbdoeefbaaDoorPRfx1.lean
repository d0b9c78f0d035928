-- Written by a program of this session, after the print of the kit.
import Derived.Test.YtdpdmmbdoeefbaaDoorWC
import Derived.Test.YtdpdmmbdoeefbaaDoorPRfx0
namespace Go.Proofs.YtdpdmmbdoeefbaaDoor.PRf
open Go.RowKit YtdpdmmbdoeefbaaDoorW.PrintWords YtdpdmmbdoeefbaaDoorW.PrintLast YtdpdmmbdoeefbaaDoorW.PrintMore
attribute [local go_sem] max2_int min2_int max_two min_two max_three min_three max_four min_four   -- for this text's walks alone
set_option linter.unusedVariables false
set_option linter.unusedSimpArgs false

/-! ### imprimaturref02_Pad: function 91 -/
mutual
def imprimaturref02_Pad.j0 : Nat → Int → Int → Bool → Option (List Int × Int)
 | 0, _, _, _ => none
 | k + 1, x0, x1, x21 => if x21 = true then (some (([] : List Int), 1)) else (if x0 > 1048576 then (some (([] : List Int), 2)) else (imprimaturref02_Pad.l0 k x0 (wrap64 (Int.tdiv x1 4)) (wrap64 (Int.tdiv x1 32)) (([128] : List Int))))
def imprimaturref02_Pad.l0 : Nat → Int → Int → Int → List Int → Option (List Int × Int)
 | 0, _, _, _, _ => none
 | k + 1, x0, x6, x7, x8 => if x6 = 0 then (none) else (if (Int.tmod (wrap64 ((wrap64 (x0 + (x8.length : Int))) + x7)) x6) = 0 then (imprimaturref02_Pad.l1 k x7 x8 ([] : List Int) (IntKind.u64.wrap ((IntKind.u64.wrap (x0)) * 8)) 0) else (if x8.length < 140737488355328 then (imprimaturref02_Pad.l0 k x0 x6 x7 (x8 ++ [0])) else (none)))
def imprimaturref02_Pad.l1 : Nat → Int → List Int → List Int → Int → Int → Option (List Int × Int)
 | 0, _, _, _, _, _ => none
 | k + 1, x7, x8, x9, x10, x11 => if x11 < x7 then ((some (([(Int.tmod x10 256) % 256] : List Int) : List Int)).bind fun y107 => (if y107.length + x9.length < 140737488355328 then (imprimaturref02_Pad.l1 k x7 x8 (y107 ++ x9) (IntKind.u64.wrap (Int.tdiv x10 256)) (wrap64 (x11 + 1))) else (none))) else (if x8.length + x9.length < 140737488355328 then (some ((x8 ++ x9), 0)) else (none))
end
def imprimaturref02_Pad.f (k : Nat) (a0 : Int) (a1 : Int) : Option (List Int × Int) := if a1 = 256 then (imprimaturref02_Pad.j0 k a0 a1 (decide (a0 < 0))) else (if a1 = 512 then (imprimaturref02_Pad.j0 k a0 a1 (decide (a0 < 0))) else (imprimaturref02_Pad.j0 k a0 a1 true))
theorem imprimaturref02_Pad.mono_l : ∀ k, (∀ y0 y1 y2, LeO (imprimaturref02_Pad.j0 k y0 y1 y2) (imprimaturref02_Pad.j0 (k + 1) y0 y1 y2)) ∧ (∀ y0 y1 y2 y3, LeO (imprimaturref02_Pad.l0 k y0 y1 y2 y3) (imprimaturref02_Pad.l0 (k + 1) y0 y1 y2 y3)) ∧ (∀ y0 y1 y2 y3 y4, LeO (imprimaturref02_Pad.l1 k y0 y1 y2 y3 y4) (imprimaturref02_Pad.l1 (k + 1) y0 y1 y2 y3 y4))
 | 0 => ⟨fun _ _ _ r h => by simp [imprimaturref02_Pad.j0] at h, fun _ _ _ _ r h => by simp [imprimaturref02_Pad.l0] at h, fun _ _ _ _ _ r h => by simp [imprimaturref02_Pad.l1] at h⟩
 | k + 1 => by
  obtain ⟨ih0, ih1, ih2⟩ := imprimaturref02_Pad.mono_l k
  refine ⟨?_, ?_, ?_⟩
  ·intro y0 y1 y2
   unfold imprimaturref02_Pad.j0
   repeat' first
   | (with_reducible exact ih0 _ _ _)
   | (with_reducible exact ih1 _ _ _ _)
   | (with_reducible exact ih2 _ _ _ _ _)
   | (with_reducible exact LeO.refl _)
   | (with_reducible exact LeO.none _)
   | (with_reducible refine LeO.ite ?_ ?_)
   | (with_reducible refine LeO.bind ?_ (fun _ => ?_))
  ·intro y0 y1 y2 y3
   unfold imprimaturref02_Pad.l0
   repeat' first
   | (with_reducible exact ih0 _ _ _)
   | (with_reducible exact ih1 _ _ _ _)
   | (with_reducible exact ih2 _ _ _ _ _)
   | (with_reducible exact LeO.refl _)
   | (with_reducible exact LeO.none _)
   | (with_reducible refine LeO.ite ?_ ?_)
   | (with_reducible refine LeO.bind ?_ (fun _ => ?_))
  intro y0 y1 y2 y3 y4
  unfold imprimaturref02_Pad.l1
  repeat' first
  | (with_reducible exact ih0 _ _ _)
  | (with_reducible exact ih1 _ _ _ _)
  | (with_reducible exact ih2 _ _ _ _ _)
  | (with_reducible exact LeO.refl _)
  | (with_reducible exact LeO.none _)
  | (with_reducible refine LeO.ite ?_ ?_)
  | (with_reducible refine LeO.bind ?_ (fun _ => ?_))
theorem imprimaturref02_Pad.mono : ∀ a0 a1 k, LeO (imprimaturref02_Pad.f k a0 a1) (imprimaturref02_Pad.f (k + 1) a0 a1) := by
 intro a0 a1 k
 obtain ⟨ih0, ih1, ih2⟩ := imprimaturref02_Pad.mono_l k
 unfold imprimaturref02_Pad.f
 repeat' first
   | (with_reducible exact ih0 _ _ _)
   | (with_reducible exact ih1 _ _ _ _)
   | (with_reducible exact ih2 _ _ _ _ _)
   | (with_reducible exact LeO.refl _)
   | (with_reducible exact LeO.none _)
   | (with_reducible refine LeO.ite ?_ ?_)
   | (with_reducible refine LeO.bind ?_ (fun _ => ?_))
set_option maxHeartbeats 8000000 in
set_option maxRecDepth 100000 in
theorem imprimaturref02_Pad.calls (k : Nat) (a0 : Int) (a1 : Int) (r1 : List Int) (r2 : Int) (w : World) (h : imprimaturref02_Pad.f k a0 a1 = some (r1, r2)) :
  Calls Tryd.prog 91 #[.int .i64 a0, .int .i64 a1] w fun e w' => ∃ v0_ : Value, e = .returned (.tuple #[v0_, .int .i64 r2]) ∧ Kd.R (Kd.int .u8) 5 w' w.heap.size (fun _ => True) v0_ r1 ∧ Below w.heap.size w w' := by
 have HB := aM (Below.refl w.heap.size w)
 have H : (if a1 = 256 then (imprimaturref02_Pad.j0 k a0 a1 (decide (a0 < 0))) else (if a1 = 512 then (imprimaturref02_Pad.j0 k a0 a1 (decide (a0 < 0))) else (imprimaturref02_Pad.j0 k a0 a1 true))) = some (r1, r2) := h
 clear h
 have HC3 := aM H
 clear H
 go_enter Tryd.func91, Tryd.ntmps91
 go_upto_region 1 with (fail)
 go_cut [21] (fun v21 wc => ∃ (kq : Nat) (x21_2 : Bool), v21 = .bool x21_2 ∧ Aside0 (imprimaturref02_Pad.j0 kq a0 a1 x21_2 = some (r1, r2)) ∧ Aside0 (kq ≤ k) ∧ Aside0 (Below w.heap.size w wc))
 case first =>
  have H := HC3.out
  clear HC3
  by_cases c4 : a1 = 256
  ·rw [if_pos c4] at H
   have c4b0 : (a1 == 256) = true := beq_iff_eq.mpr c4
   have c4b1 : (a1 != 256) = false := bne_eq_false_iff_eq.mpr c4
   clear c4
   (first | rw [c4b0] | (simp only [i64_w, i32_w]; rw [c4b0]) | skip)
   have H' := aM H
   clear H
   go_wp2
   go_meet
   case rel => exact ⟨_, (decide (a0 < 0)), rfS, H', omL, ⟨bel⟩⟩
  rw [if_neg c4] at H
  have c4b0 : (a1 == 256) = false := beq_eq_false_iff_ne.mpr c4
  have c4b1 : (a1 != 256) = true := bne_iff_ne.mpr c4
  (first | rw [c4b0] | (simp only [i64_w, i32_w]; rw [c4b0]) | skip)
  by_cases c5 : a1 = 512
  ·rw [if_pos c5] at H
   have c5b0 : (a1 == 512) = true := beq_iff_eq.mpr c5
   have c5b1 : (a1 != 512) = false := bne_eq_false_iff_eq.mpr c5
   clear c5
   have H' := aM H
   clear H
   go_wp2
   go_meet
   case rel => exact ⟨_, (decide (a0 < 0)), rfS, H', omL, ⟨bel⟩⟩
  rw [if_neg c5] at H
  have c5b0 : (a1 == 512) = false := beq_eq_false_iff_ne.mpr c5
  have c5b1 : (a1 != 512) = true := bne_iff_ne.mpr c5
  have H' := aM H
  clear H
  go_wp2
  go_meet
  case rel => exact ⟨_, (true), rfS, H', omL, ⟨bel⟩⟩
 case rest =>
  clear HC3
  obtain ⟨kq, x21_2, rfl, HA, HJ2, HB⟩ := hcut
  cases kq with
  | zero => exact absurd HA.out (by simp [imprimaturref02_Pad.j0])
  | succ kj2 =>
   have H := HA.out
   clear HA
   simp only [imprimaturref02_Pad.j0] at H
   by_cases c6 : x21_2 = true
   ·subst c6
    have H1 : (some (([] : List Int), 1)) = some (r1, r2) := by rw [if_pos rfl] at H; exact H
    clear H
    have H := H1
    clear H1
    simp only [Option.some.injEq, Prod.mk.injEq] at H
    obtain ⟨rfl, rfl⟩ := H
    go_wp2
    go_ret2
    exact ⟨_, erR, by first | exact Kd.R_nil _ _ _ _ _ | exact Kd.N_nil _ _ _ _ _ | exact Kd.V_nil _ _ _ _ _ | exact Kd.Q_nil _ _ _ _ _ | exact Kd.S_nil _ _ _ _ _, bel⟩
   replace c6 := Bool.eq_false_iff.mpr c6
   subst c6
   have H1 : (if a0 > 1048576 then (some (([] : List Int), 2)) else (imprimaturref02_Pad.l0 kj2 a0 (wrap64 (Int.tdiv a1 4)) (wrap64 (Int.tdiv a1 32)) (([128] : List Int)))) = some (r1, r2) := by rw [if_neg (show ¬ (false = true) by decide)] at H; exact H
   clear H
   have H := H1
   clear H1
   by_cases c7 : a0 > 1048576
   ·rw [if_pos c7] at H
    have c7b0 : decide (1048576 < a0) = true := decide_eq_true c7
    clear c7
    simp only [Option.some.injEq, Prod.mk.injEq] at H
    obtain ⟨rfl, rfl⟩ := H
    go_wp2
    go_ret2
    exact ⟨_, erR, by first | exact Kd.R_nil _ _ _ _ _ | exact Kd.N_nil _ _ _ _ _ | exact Kd.V_nil _ _ _ _ _ | exact Kd.Q_nil _ _ _ _ _ | exact Kd.S_nil _ _ _ _ _, bel⟩
   rw [if_neg c7] at H
   have c7b0 : decide (1048576 < a0) = false := decide_eq_false c7
   clear c7
   obtain ⟨y101, hy101⟩ : ∃ y_ : List Int, y_ = (([128] : List Int)) := ⟨_, rfl⟩
   replace H : (imprimaturref02_Pad.l0 kj2 a0 (wrap64 (Int.tdiv a1 4)) (wrap64 (Int.tdiv a1 32)) y101) = some (r1, r2) := hyA hy101 H
   have Ny101 := aM hy101
   clear hy101
   have H' := aM H
   clear H
   go_wp2_with (first | ((with_reducible refine gate_dst (N := 28) rfl ?_); refine Kd.R_lit (Kd.int .u8) _ 5 ?hg (N := 28) ?hd (xs := ([128] : List Int)) (inner := [.int .u8 128]) (ok := fun _ => True) (okp := fun _ => True) ?hr ?hp (fun _ hk => hk) trivial (Below.refl _ _) (Nat.le_refl _) (by simp) ?_; (case hd => rfl); (case hg => rfl); (case hr => first | (go_simp; done) | (go_simp; rfl)); (case hp => exact (Reps.one (show Kd.M (Kd.int .u8) _ _ _ 128 [.int .u8 128] from rfl) (Reps.none _ _))); intro v102 w8 ho9 hb hg_ hnew_; clear hg_ hnew_; (first | rw [← Ny101.out] at ho9 | (simp only [Int.reduceToNat] at ho9; rw [← Ny101.out] at ho9)); have HO103 := aM (Kd.R_lower ho9 (below_size bel)); replace HB := aM (below_step bel hb); clear hb ho9))
   go_loopg [8] kj2 (fun kq v8 w' => ∃ (x8_2 : List Int), Aside0 (imprimaturref02_Pad.l0 kq a0 (wrap64 (Int.tdiv a1 4)) (wrap64 (Int.tdiv a1 32)) x8_2 = some (r1, r2)) ∧ Aside0 (kq ≤ kj2) ∧ Aside0 (Kd.R (Kd.int .u8) 5 w' w.heap.size (fun _ => True) v8 x8_2) ∧ Aside0 (Below w.heap.size w w'))
   case atStart => exact ⟨(y101), H', ⟨Nat.le_refl _⟩, ⟨by (with_reducible repeat (first | apply Kd.R_alloc | apply Kd.R_drewN | apply Kd.R_drew)); exact HO103.out⟩, ⟨bel⟩⟩
   case round =>
    clear H'
    try clear c6
    try clear c7
    try clear c7b0
    obtain ⟨x8_2, HA, HK2, HO_8, HB⟩ := hrel
    cases gk with
    | zero => exact absurd HA.out (by simp [imprimaturref02_Pad.l0])
    | succ k2 =>
     have H := HA.out
     clear HA
     simp only [imprimaturref02_Pad.l0] at H
     by_cases c10 : (wrap64 (Int.tdiv a1 4)) = 0
     ·rw [if_pos c10] at H
      exact absurd H (by simp)
     rw [if_neg c10] at H
     have c10b0 : ((wrap64 (Int.tdiv a1 4)) == 0) = false := beq_eq_false_iff_ne.mpr c10
     have c10b1 : ((wrap64 (Int.tdiv a1 4)) != 0) = true := bne_iff_ne.mpr c10
     by_cases c11 : (Int.tmod (wrap64 ((wrap64 (a0 + (x8_2.length : Int))) + (wrap64 (Int.tdiv a1 32)))) (wrap64 (Int.tdiv a1 4))) = 0
     rotate_left
     ·rw [if_neg c11] at H
      have c11b0 : ((Int.tmod (wrap64 ((wrap64 (a0 + (x8_2.length : Int))) + (wrap64 (Int.tdiv a1 32)))) (wrap64 (Int.tdiv a1 4))) == 0) = false := beq_eq_false_iff_ne.mpr c11
      have c11b1 : ((Int.tmod (wrap64 ((wrap64 (a0 + (x8_2.length : Int))) + (wrap64 (Int.tdiv a1 32)))) (wrap64 (Int.tdiv a1 4))) != 0) = true := bne_iff_ne.mpr c11
      by_cases c22 : x8_2.length < 140737488355328
      rotate_left
      ·rw [if_neg c22] at H
       exact absurd H (by simp)

      rw [if_pos c22] at H
      have LMc22 := aM c22
      clear c22
      obtain ⟨y104, hy104⟩ : ∃ y_ : List Int, y_ = (x8_2 ++ [0]) := ⟨_, rfl⟩
      replace H : (imprimaturref02_Pad.l0 k2 a0 (wrap64 (Int.tdiv a1 4)) (wrap64 (Int.tdiv a1 32)) y104) = some (r1, r2) := hyA hy104 H
      have Ny104 := aM hy104
      clear hy104
      have H' := aM H
      clear H
      obtain ⟨Ao23, co23, eo23⟩ := Kd.R_slice HO_8.out
      subst eo23
      go_wp2_with (first | ((with_reducible refine gate_builtin (b := .append) (xs := #[.tmp 38, .tmp 39]) rfl ?_); at_builtin; refine Kd.R_append (Kd.int .u8) (w0 := w) w.heap.size rfl (.tmp 38) (.tmp 39) 22 5 (.int .u8 0) 1 rfl Tryd.underlying22 info5 rfl (by decide) (by omega) (.slice Ao23 x8_2.length co23) x8_2 0 [.int .u8 0] (fun _ => True) (fun _ => False) rfl rfl ?aP (fun _ hk => hk.elim) ?aF ?aO ?aB ?aS ?aL ?_; (case aP => exact rfl); (case aB => exact bel); (case aF => exact (fun _ _ => trivial)); (case aO => exact (rL HO_8.out)); (case aS => exact (below_size bel)); (case aL => have := LMc22.out; omega); intro v105 w24 ho hb hg hat; rw [← Ny104.out] at ho; replace HB := aM (hb); have HO106 := aM (ho); clear HO_8; clear ho hb hg hat))
      go_roundg k2
      case measure => have := HJ2.out; have := HK2.out; omega
      case rel => exact ⟨(y104), H', ⟨by have := HJ2.out; have := HK2.out; omega⟩, ⟨by (with_reducible repeat (first | apply Kd.R_alloc | apply Kd.R_drewN | apply Kd.R_drew)); exact HO106.out⟩, ⟨bel⟩⟩
     rw [if_pos c11] at H
     have c11b0 : ((Int.tmod (wrap64 ((wrap64 (a0 + (x8_2.length : Int))) + (wrap64 (Int.tdiv a1 32)))) (wrap64 (Int.tdiv a1 4))) == 0) = true := beq_iff_eq.mpr c11
     have c11b1 : ((Int.tmod (wrap64 ((wrap64 (a0 + (x8_2.length : Int))) + (wrap64 (Int.tdiv a1 32)))) (wrap64 (Int.tdiv a1 4))) != 0) = false := bne_eq_false_iff_eq.mpr c11
     clear c11
     have H' := aM H
     clear H
     obtain ⟨Ao12, co12, eo12⟩ := Kd.R_slice HO_8.out
     subst eo12
     go_wp2
     go_loopg [9, 10, 11] k2 (fun kq v9 v10 v11 w' => ∃ (x9_3 : List Int) (x10_3 : Int) (x11_3 : Int), v10 = .int .u64 x10_3 ∧ v11 = .int .i64 x11_3 ∧ Aside0 (imprimaturref02_Pad.l1 kq (wrap64 (Int.tdiv a1 32)) x8_2 x9_3 x10_3 x11_3 = some (r1, r2)) ∧ Aside0 (kq ≤ k2) ∧ Aside0 (Kd.R (Kd.int .u8) 5 w' w.heap.size (fun k_ => some k_ ≠ (v9 : Value).ownBlock) (.slice Ao12 x8_2.length co12) x8_2) ∧ Aside0 (Kd.R (Kd.int .u8) 5 w' w.heap.size (fun k_ => some k_ ≠ ((.slice Ao12 x8_2.length co12) : Value).ownBlock) v9 x9_3) ∧ Aside0 (Below w.heap.size w w'))
     case atStart => exact ⟨(([] : List Int)), (IntKind.u64.wrap ((IntKind.u64.wrap (a0)) * 8)), (0), rfS, rfS, H', ⟨Nat.le_refl _⟩, ⟨by (with_reducible repeat (first | apply Kd.R_alloc | apply Kd.R_drewN | apply Kd.R_drew)); exact Kd.R_mono HO_8.out (fun _ hk => (by simp [Value.ownBlock]))⟩, ⟨by first | exact Kd.R_nil _ _ _ _ _ | exact Kd.N_nil _ _ _ _ _ | exact Kd.V_nil _ _ _ _ _ | exact Kd.Q_nil _ _ _ _ _ | exact Kd.S_nil _ _ _ _ _⟩, ⟨bel⟩⟩
     case round =>
      clear H'
      try clear c6
      try clear c7
      try clear c7b0
      try clear c10
      try clear c10b0
      try clear c10b1
      try clear c11
      try clear c11b0
      try clear c11b1
      obtain ⟨x9_3, x10_3, x11_3, rfl, rfl, HA, HK3, HO_8, HO_9, HB⟩ := hrel
      cases gk with
      | zero => exact absurd HA.out (by simp [imprimaturref02_Pad.l1])
      | succ k3 =>
       have H := HA.out
       clear HA
       simp only [imprimaturref02_Pad.l1] at H
       by_cases c13 : x11_3 < (wrap64 (Int.tdiv a1 32))
       ·rw [if_pos c13] at H
        have c13b0 : decide (x11_3 < (wrap64 (Int.tdiv a1 32))) = true := decide_eq_true c13
        clear c13
        obtain ⟨y107, hy107⟩ : ∃ y_ : List Int, y_ = (([(Int.tmod x10_3 256) % 256] : List Int)) := ⟨_, rfl⟩
        replace H : (if y107.length + x9_3.length < 140737488355328 then (imprimaturref02_Pad.l1 k3 (wrap64 (Int.tdiv a1 32)) x8_2 (y107 ++ x9_3) (IntKind.u64.wrap (Int.tdiv x10_3 256)) (wrap64 (x11_3 + 1))) else (none)) = some (r1, r2) := hyA hy107 H
        have Ny107 := aM hy107
        clear hy107
        by_cases c14 : y107.length + x9_3.length < 140737488355328
        rotate_left
        ·rw [if_neg c14] at H
         exact absurd H (by simp)
        rw [if_pos c14] at H
        have LMc14 := aM c14
        clear c14
        obtain ⟨y110, hy110⟩ : ∃ y_ : List Int, y_ = (y107 ++ x9_3) := ⟨_, rfl⟩
        replace H : (imprimaturref02_Pad.l1 k3 (wrap64 (Int.tdiv a1 32)) x8_2 y110 (IntKind.u64.wrap (Int.tdiv x10_3 256)) (wrap64 (x11_3 + 1))) = some (r1, r2) := hyA hy110 H
        have Ny110 := aM hy110
        clear hy110
        have H' := aM H
        clear H
        go_wp2_with (first | ((with_reducible refine gate_dst (N := 52) rfl ?_); refine Kd.R_lit (Kd.int .u8) _ 5 ?hg (N := 52) ?hd (xs := ([(Int.tmod x10_3 256) % 256] : List Int)) (inner := [.int .u8 ((Int.tmod x10_3 256) % 256)]) (ok := fun _ => True) (okp := fun _ => True) ?hr ?hp (fun _ hk => hk) trivial (Below.refl _ _) (Nat.le_refl _) (by simp) ?_; (case hd => rfl); (case hg => rfl); (case hr => first | (go_simp; done) | (go_simp; rfl)); (case hp => exact (Reps.one (show Kd.M (Kd.int .u8) _ _ _ ((Int.tmod x10_3 256) % 256) [.int .u8 ((Int.tmod x10_3 256) % 256)] from rfl) (Reps.none _ _))); intro v108 w15 ho16 hb hg_ hnew_; clear hg_ hnew_; (first | rw [← Ny107.out] at ho16 | (simp only [Int.reduceToNat] at ho16; rw [← Ny107.out] at ho16)); have HO109 := aM (Kd.R_lower (Kd.R_new' (Kd.R_new' ho16 (Kd.R_lt (rL HO_8.out))) (Kd.R_lt (rL HO_9.out))) (below_size bel)); replace HO_8 := aM (Kd.R_elder' (rL HO_8.out) (Kd.R_base ho16) hb); replace HO_9 := aM (Kd.R_elder' (rL HO_9.out) (Kd.R_base ho16) hb); replace HB := aM (below_step bel hb); clear hb ho16; obtain ⟨Ao18, co18, eo18⟩ := Kd.R_slice HO_9.out; subst eo18) | ((with_reducible refine gate_builtin (b := .append) (xs := #[.tmp 52, .tmp 53]) rfl ?_); at_builtin; refine Kd.R_append_rows (Kd.int .u8) (w0 := w) w.heap.size rfl (.tmp 52) (.tmp 53) 22 5 (.int .u8 0) 1 rfl Tryd.underlying22 info5 rfl (by decide) (by omega) v108 y107 x9_3 _ _ _ (fun k_ => some k_ ≠ (.slice Ao12 x8_2.length co12 : Value).ownBlock ∧ some k_ ≠ (.slice Ao18 x9_3.length co18 : Value).ownBlock) (fun _ => False) rfl rfl ?aO ?aR (fun _ _ h => h) (fun _ h => h.elim) ?aF ?aB ?aS ?aL ?_; (case aR => repeat (first | exact (Kd.R_reads' HO_9.out).2.2 | (with_reducible refine Kd.C_alloc ?_ _) | (with_reducible refine Kd.C_drewN ?_ _) | (with_reducible refine Kd.C_drew ?_))); (case aB => exact bel); (case aF => exact (fun k_ hk => ⟨Kd.fresh' (Kd.R_lt (rL HO_8.out)) k_ hk, Kd.fresh' (Kd.R_lt (rL HO_9.out)) k_ hk⟩)); (case aO => exact (by (with_reducible repeat (first | apply Kd.R_alloc | apply Kd.R_drewN | apply Kd.R_drew)); exact Kd.R_mono HO109.out (fun _ hk => ⟨hk.1.2, hk.2⟩))); (case aS => exact (below_size bel)); (case aL => have := LMc14.out; omega); intro v111 w17 ho hb hg hat; rw [← Ny110.out] at ho; replace HO_8 := aM (Kd.R_after (ok := (fun k_ => some k_ ≠ (.slice Ao18 x9_3.length co18 : Value).ownBlock)) (rL HO_8.out) hg hat); replace HO_9 := aM (Kd.R_after (ok := (fun k_ => some k_ ≠ (.slice Ao12 x8_2.length co12 : Value).ownBlock)) (rL HO_9.out) hg hat); replace HB := aM (hb); have HO112 := aM (ho); clear HO109; clear ho hb hg hat))
        go_roundg k3
        case measure => have := HJ2.out; have := HK2.out; have := HK3.out; omega
        case rel => exact ⟨(y110), (IntKind.u64.wrap (Int.tdiv x10_3 256)), (wrap64 (x11_3 + 1)), rfS, rfS, H', ⟨by have := HJ2.out; have := HK2.out; have := HK3.out; omega⟩, ⟨by (with_reducible repeat (first | apply Kd.R_alloc | apply Kd.R_drewN | apply Kd.R_drew)); exact Kd.R_mono HO_8.out (fun _ hk => hk.2)⟩, ⟨by (with_reducible repeat (first | apply Kd.R_alloc | apply Kd.R_drewN | apply Kd.R_drew)); exact Kd.R_mono HO112.out (fun _ hk => hk.1)⟩, ⟨bel⟩⟩
       rw [if_neg c13] at H
       have c13b0 : decide (x11_3 < (wrap64 (Int.tdiv a1 32))) = false := decide_eq_false c13
       clear c13
       by_cases c19 : x8_2.length + x9_3.length < 140737488355328
       rotate_left
       ·rw [if_neg c19] at H
        exact absurd H (by simp)
       rw [if_pos c19] at H
       have LMc19 := aM c19
       clear c19
       obtain ⟨y113, hy113⟩ : ∃ y_ : List Int, y_ = (x8_2 ++ x9_3) := ⟨_, rfl⟩
       replace H : (some (y113, 0)) = some (r1, r2) := hyA hy113 H
       have Ny113 := aM hy113
       clear hy113
       simp only [Option.some.injEq, Prod.mk.injEq] at H
       obtain ⟨rfl, rfl⟩ := H
       obtain ⟨Ao21, co21, eo21⟩ := Kd.R_slice HO_9.out
       subst eo21
       go_wp2_with (first | ((with_reducible refine gate_builtin (b := .append) (xs := #[.tmp 57, .tmp 58]) rfl ?_); at_builtin; refine Kd.R_append_rows (Kd.int .u8) (w0 := w) w.heap.size rfl (.tmp 57) (.tmp 58) 22 5 (.int .u8 0) 1 rfl Tryd.underlying22 info5 rfl (by decide) (by omega) (.slice Ao12 x8_2.length co12) x8_2 x9_3 _ _ _ (fun k_ => some k_ ≠ (.slice Ao21 x9_3.length co21 : Value).ownBlock) (fun _ => False) rfl rfl ?aO ?aR (fun _ _ h => h) (fun _ h => h.elim) ?aF ?aB ?aS ?aL ?_; (case aR => repeat (first | exact (Kd.R_reads' HO_9.out).2.2 | (with_reducible refine Kd.C_alloc ?_ _) | (with_reducible refine Kd.C_drewN ?_ _) | (with_reducible refine Kd.C_drew ?_))); (case aB => exact bel); (case aF => exact (fun k_ hk => Kd.fresh' (Kd.R_lt (rL HO_9.out)) k_ hk)); (case aO => exact (rL HO_8.out)); (case aS => exact (below_size bel)); (case aL => have := LMc19.out; omega); intro v114 w20 ho hb hg hat; rw [← Ny113.out] at ho; replace HO_9 := aM (Kd.R_after (ok := (fun _ => True)) (by (with_reducible repeat (first | apply Kd.R_alloc | apply Kd.R_drewN | apply Kd.R_drew)); exact Kd.R_mono HO_9.out (fun _ hk => ⟨trivial, hk⟩)) hg hat); replace HB := aM (hb); have HO115 := aM (ho); clear HO_8; clear ho hb hg hat))
       go_ret2
       exact ⟨_, erR, by (with_reducible repeat (first | apply Kd.R_alloc | apply Kd.R_drewN | apply Kd.R_drew)); exact Kd.R_mono HO115.out (fun _ hk => trivial), bel⟩
/-! ### imprimaturref02_constants: function 92 -/
def imprimaturref02_constants.f  : Option (List Int) := some (([4794697086780616226, 8158064640168781261, 13096744586834688815, 16840607885511220156, 4131703408338449720, 6480981068601479193, 10538285296894168987, 12329834152419229976, 15566598209576043074, 1334009975649890238, 2608012711638119052, 6128411473006802146, 8268148722764581231, 9286055187155687089, 11230858885718282805, 13951009754708518548, 16472876342353939154, 17275323862435702243, 1135362057144423861, 2597628984639134821, 3308224258029322869, 5365058923640841347, 6679025012923562964, 8573033837759648693, 10970295158949994411, 12119686244451234320, 12683024718118986047, 13788192230050041572, 14330467153632333762, 15395433587784984357, 489312712824947311, 1452737877330783856, 2861767655752347644, 3322285676063803686, 5560940570517711597, 5996557281743188959, 7280758554555802590, 8532644243296465576, 9350256976987008742, 10552545826968843579, 11727347734174303076, 12113106623233404929, 14000437183269869457, 14369950271660146224, 15101387698204529176, 15463397548674623760, 17586052441742319658, 1182934255886127544, 1847814050463011016, 2177327727835720531, 2830643537854262169, 3796741975233480872, 4115178125766777443, 5681478168544905931, 6601373596472566643, 7507060721942968483, 8399075790359081724, 8693463985226723168, 9568029438360202098, 10144078919501101548, 10430055236837252648, 11840083180663258601, 13761210420658862357, 14299343276471374635, 14566680578165727644, 15097957966210449927, 16922976911328602910, 17689382322260857208, 500013540394364858, 748580250866718886, 1242879168328830382, 1977374033974150939, 2944078676154940804, 3659926193048069267, 4368137639120453308, 4836135668995329356, 5532061633213252278, 6448918945643986474, 6902733635092675308, 7801388544844847127] : List Int))
set_option maxHeartbeats 8000000 in
set_option maxRecDepth 100000 in
theorem imprimaturref02_constants.calls  (r : List Int) (w : World) (h : imprimaturref02_constants.f  = some r) :
  Calls Tryd.prog 92 #[] w fun e w' => ∃ v0_ : Value, e = .returned (v0_) ∧ Kd.R (Kd.int .u64) 94 w' w.heap.size (fun _ => True) v0_ r ∧ Below w.heap.size w w' := by
 have HB := aM (Below.refl w.heap.size w)
 have H : (some (([4794697086780616226, 8158064640168781261, 13096744586834688815, 16840607885511220156, 4131703408338449720, 6480981068601479193, 10538285296894168987, 12329834152419229976, 15566598209576043074, 1334009975649890238, 2608012711638119052, 6128411473006802146, 8268148722764581231, 9286055187155687089, 11230858885718282805, 13951009754708518548, 16472876342353939154, 17275323862435702243, 1135362057144423861, 2597628984639134821, 3308224258029322869, 5365058923640841347, 6679025012923562964, 8573033837759648693, 10970295158949994411, 12119686244451234320, 12683024718118986047, 13788192230050041572, 14330467153632333762, 15395433587784984357, 489312712824947311, 1452737877330783856, 2861767655752347644, 3322285676063803686, 5560940570517711597, 5996557281743188959, 7280758554555802590, 8532644243296465576, 9350256976987008742, 10552545826968843579, 11727347734174303076, 12113106623233404929, 14000437183269869457, 14369950271660146224, 15101387698204529176, 15463397548674623760, 17586052441742319658, 1182934255886127544, 1847814050463011016, 2177327727835720531, 2830643537854262169, 3796741975233480872, 4115178125766777443, 5681478168544905931, 6601373596472566643, 7507060721942968483, 8399075790359081724, 8693463985226723168, 9568029438360202098, 10144078919501101548, 10430055236837252648, 11840083180663258601, 13761210420658862357, 14299343276471374635, 14566680578165727644, 15097957966210449927, 16922976911328602910, 17689382322260857208, 500013540394364858, 748580250866718886, 1242879168328830382, 1977374033974150939, 2944078676154940804, 3659926193048069267, 4368137639120453308, 4836135668995329356, 5532061633213252278, 6448918945643986474, 6902733635092675308, 7801388544844847127] : List Int))) = some r := h
 clear h
 obtain ⟨y116, hy116⟩ : ∃ y_ : List Int, y_ = (([4794697086780616226, 8158064640168781261, 13096744586834688815, 16840607885511220156, 4131703408338449720, 6480981068601479193, 10538285296894168987, 12329834152419229976, 15566598209576043074, 1334009975649890238, 2608012711638119052, 6128411473006802146, 8268148722764581231, 9286055187155687089, 11230858885718282805, 13951009754708518548, 16472876342353939154, 17275323862435702243, 1135362057144423861, 2597628984639134821, 3308224258029322869, 5365058923640841347, 6679025012923562964, 8573033837759648693, 10970295158949994411, 12119686244451234320, 12683024718118986047, 13788192230050041572, 14330467153632333762, 15395433587784984357, 489312712824947311, 1452737877330783856, 2861767655752347644, 3322285676063803686, 5560940570517711597, 5996557281743188959, 7280758554555802590, 8532644243296465576, 9350256976987008742, 10552545826968843579, 11727347734174303076, 12113106623233404929, 14000437183269869457, 14369950271660146224, 15101387698204529176, 15463397548674623760, 17586052441742319658, 1182934255886127544, 1847814050463011016, 2177327727835720531, 2830643537854262169, 3796741975233480872, 4115178125766777443, 5681478168544905931, 6601373596472566643, 7507060721942968483, 8399075790359081724, 8693463985226723168, 9568029438360202098, 10144078919501101548, 10430055236837252648, 11840083180663258601, 13761210420658862357, 14299343276471374635, 14566680578165727644, 15097957966210449927, 16922976911328602910, 17689382322260857208, 500013540394364858, 748580250866718886, 1242879168328830382, 1977374033974150939, 2944078676154940804, 3659926193048069267, 4368137639120453308, 4836135668995329356, 5532061633213252278, 6448918945643986474, 6902733635092675308, 7801388544844847127] : List Int)) := ⟨_, rfl⟩
 replace H : (some y116) = some r := hyA hy116 H
 have Ny116 := aM hy116
 clear hy116
 obtain rfl := Option.some.inj H
 go_enter Tryd.func92, Tryd.ntmps92
 go_wp2_with (first | ((with_reducible refine gate_dst (N := 1) rfl ?_); refine Kd.R_lit (Kd.int .u64) _ 94 ?hg (N := 1) ?hd (xs := ([4794697086780616226, 8158064640168781261, 13096744586834688815, 16840607885511220156, 4131703408338449720, 6480981068601479193, 10538285296894168987, 12329834152419229976, 15566598209576043074, 1334009975649890238, 2608012711638119052, 6128411473006802146, 8268148722764581231, 9286055187155687089, 11230858885718282805, 13951009754708518548, 16472876342353939154, 17275323862435702243, 1135362057144423861, 2597628984639134821, 3308224258029322869, 5365058923640841347, 6679025012923562964, 8573033837759648693, 10970295158949994411, 12119686244451234320, 12683024718118986047, 13788192230050041572, 14330467153632333762, 15395433587784984357, 489312712824947311, 1452737877330783856, 2861767655752347644, 3322285676063803686, 5560940570517711597, 5996557281743188959, 7280758554555802590, 8532644243296465576, 9350256976987008742, 10552545826968843579, 11727347734174303076, 12113106623233404929, 14000437183269869457, 14369950271660146224, 15101387698204529176, 15463397548674623760, 17586052441742319658, 1182934255886127544, 1847814050463011016, 2177327727835720531, 2830643537854262169, 3796741975233480872, 4115178125766777443, 5681478168544905931, 6601373596472566643, 7507060721942968483, 8399075790359081724, 8693463985226723168, 9568029438360202098, 10144078919501101548, 10430055236837252648, 11840083180663258601, 13761210420658862357, 14299343276471374635, 14566680578165727644, 15097957966210449927, 16922976911328602910, 17689382322260857208, 500013540394364858, 748580250866718886, 1242879168328830382, 1977374033974150939, 2944078676154940804, 3659926193048069267, 4368137639120453308, 4836135668995329356, 5532061633213252278, 6448918945643986474, 6902733635092675308, 7801388544844847127] : List Int)) (inner := [.int .u64 4794697086780616226, .int .u64 8158064640168781261, .int .u64 13096744586834688815, .int .u64 16840607885511220156, .int .u64 4131703408338449720, .int .u64 6480981068601479193, .int .u64 10538285296894168987, .int .u64 12329834152419229976, .int .u64 15566598209576043074, .int .u64 1334009975649890238, .int .u64 2608012711638119052, .int .u64 6128411473006802146, .int .u64 8268148722764581231, .int .u64 9286055187155687089, .int .u64 11230858885718282805, .int .u64 13951009754708518548, .int .u64 16472876342353939154, .int .u64 17275323862435702243, .int .u64 1135362057144423861, .int .u64 2597628984639134821, .int .u64 3308224258029322869, .int .u64 5365058923640841347, .int .u64 6679025012923562964, .int .u64 8573033837759648693, .int .u64 10970295158949994411, .int .u64 12119686244451234320, .int .u64 12683024718118986047, .int .u64 13788192230050041572, .int .u64 14330467153632333762, .int .u64 15395433587784984357, .int .u64 489312712824947311, .int .u64 1452737877330783856, .int .u64 2861767655752347644, .int .u64 3322285676063803686, .int .u64 5560940570517711597, .int .u64 5996557281743188959, .int .u64 7280758554555802590, .int .u64 8532644243296465576, .int .u64 9350256976987008742, .int .u64 10552545826968843579, .int .u64 11727347734174303076, .int .u64 12113106623233404929, .int .u64 14000437183269869457, .int .u64 14369950271660146224, .int .u64 15101387698204529176, .int .u64 15463397548674623760, .int .u64 17586052441742319658, .int .u64 1182934255886127544, .int .u64 1847814050463011016, .int .u64 2177327727835720531, .int .u64 2830643537854262169, .int .u64 3796741975233480872, .int .u64 4115178125766777443, .int .u64 5681478168544905931, .int .u64 6601373596472566643, .int .u64 7507060721942968483, .int .u64 8399075790359081724, .int .u64 8693463985226723168, .int .u64 9568029438360202098, .int .u64 10144078919501101548, .int .u64 10430055236837252648, .int .u64 11840083180663258601, .int .u64 13761210420658862357, .int .u64 14299343276471374635, .int .u64 14566680578165727644, .int .u64 15097957966210449927, .int .u64 16922976911328602910, .int .u64 17689382322260857208, .int .u64 500013540394364858, .int .u64 748580250866718886, .int .u64 1242879168328830382, .int .u64 1977374033974150939, .int .u64 2944078676154940804, .int .u64 3659926193048069267, .int .u64 4368137639120453308, .int .u64 4836135668995329356, .int .u64 5532061633213252278, .int .u64 6448918945643986474, .int .u64 6902733635092675308, .int .u64 7801388544844847127]) (ok := fun _ => True) (okp := fun _ => True) ?hr ?hp (fun _ hk => hk) trivial (Below.refl _ _) (Nat.le_refl _) (by simp) ?_; (case hd => rfl); (case hg => rfl); (case hr => first | (go_simp; done) | (go_simp; rfl)); (case hp => exact (Reps.one (show Kd.M (Kd.int .u64) _ _ _ 4794697086780616226 [.int .u64 4794697086780616226] from rfl) (Reps.one (show Kd.M (Kd.int .u64) _ _ _ 8158064640168781261 [.int .u64 8158064640168781261] from rfl) (Reps.one (show Kd.M (Kd.int .u64) _ _ _ 13096744586834688815 [.int .u64 13096744586834688815] from rfl) (Reps.one (show Kd.M (Kd.int .u64) _ _ _ 16840607885511220156 [.int .u64 16840607885511220156] from rfl) (Reps.one (show Kd.M (Kd.int .u64) _ _ _ 4131703408338449720 [.int .u64 4131703408338449720] from rfl) (Reps.one (show Kd.M (Kd.int .u64) _ _ _ 6480981068601479193 [.int .u64 6480981068601479193] from rfl) (Reps.one (show Kd.M (Kd.int .u64) _ _ _ 10538285296894168987 [.int .u64 10538285296894168987] from rfl) (Reps.one (show Kd.M (Kd.int .u64) _ _ _ 12329834152419229976 [.int .u64 12329834152419229976] from rfl) (Reps.one (show Kd.M (Kd.int .u64) _ _ _ 15566598209576043074 [.int .u64 15566598209576043074] from rfl) (Reps.one (show Kd.M (Kd.int .u64) _ _ _ 1334009975649890238 [.int .u64 1334009975649890238] from rfl) (Reps.one (show Kd.M (Kd.int .u64) _ _ _ 2608012711638119052 [.int .u64 2608012711638119052] from rfl) (Reps.one (show Kd.M (Kd.int .u64) _ _ _ 6128411473006802146 [.int .u64 6128411473006802146] from rfl) (Reps.one (show Kd.M (Kd.int .u64) _ _ _ 8268148722764581231 [.int .u64 8268148722764581231] from rfl) (Reps.one (show Kd.M (Kd.int .u64) _ _ _ 9286055187155687089 [.int .u64 9286055187155687089] from rfl) (Reps.one (show Kd.M (Kd.int .u64) _ _ _ 11230858885718282805 [.int .u64 11230858885718282805] from rfl) (Reps.one (show Kd.M (Kd.int .u64) _ _ _ 13951009754708518548 [.int .u64 13951009754708518548] from rfl) (Reps.one (show Kd.M (Kd.int .u64) _ _ _ 16472876342353939154 [.int .u64 16472876342353939154] from rfl) (Reps.one (show Kd.M (Kd.int .u64) _ _ _ 17275323862435702243 [.int .u64 17275323862435702243] from rfl) (Reps.one (show Kd.M (Kd.int .u64) _ _ _ 1135362057144423861 [.int .u64 1135362057144423861] from rfl) (Reps.one (show Kd.M (Kd.int .u64) _ _ _ 2597628984639134821 [.int .u64 2597628984639134821] from rfl) (Reps.one (show Kd.M (Kd.int .u64) _ _ _ 3308224258029322869 [.int .u64 3308224258029322869] from rfl) (Reps.one (show Kd.M (Kd.int .u64) _ _ _ 5365058923640841347 [.int .u64 5365058923640841347] from rfl) (Reps.one (show Kd.M (Kd.int .u64) _ _ _ 6679025012923562964 [.int .u64 6679025012923562964] from rfl) (Reps.one (show Kd.M (Kd.int .u64) _ _ _ 8573033837759648693 [.int .u64 8573033837759648693] from rfl) (Reps.one (show Kd.M (Kd.int .u64) _ _ _ 10970295158949994411 [.int .u64 10970295158949994411] from rfl) (Reps.one (show Kd.M (Kd.int .u64) _ _ _ 12119686244451234320 [.int .u64 12119686244451234320] from rfl) (Reps.one (show Kd.M (Kd.int .u64) _ _ _ 12683024718118986047 [.int .u64 12683024718118986047] from rfl) (Reps.one (show Kd.M (Kd.int .u64) _ _ _ 13788192230050041572 [.int .u64 13788192230050041572] from rfl) (Reps.one (show Kd.M (Kd.int .u64) _ _ _ 14330467153632333762 [.int .u64 14330467153632333762] from rfl) (Reps.one (show Kd.M (Kd.int .u64) _ _ _ 15395433587784984357 [.int .u64 15395433587784984357] from rfl) (Reps.one (show Kd.M (Kd.int .u64) _ _ _ 489312712824947311 [.int .u64 489312712824947311] from rfl) (Reps.one (show Kd.M (Kd.int .u64) _ _ _ 1452737877330783856 [.int .u64 1452737877330783856] from rfl) (Reps.one (show Kd.M (Kd.int .u64) _ _ _ 2861767655752347644 [.int .u64 2861767655752347644] from rfl) (Reps.one (show Kd.M (Kd.int .u64) _ _ _ 3322285676063803686 [.int .u64 3322285676063803686] from rfl) (Reps.one (show Kd.M (Kd.int .u64) _ _ _ 5560940570517711597 [.int .u64 5560940570517711597] from rfl) (Reps.one (show Kd.M (Kd.int .u64) _ _ _ 5996557281743188959 [.int .u64 5996557281743188959] from rfl) (Reps.one (show Kd.M (Kd.int .u64) _ _ _ 7280758554555802590 [.int .u64 7280758554555802590] from rfl) (Reps.one (show Kd.M (Kd.int .u64) _ _ _ 8532644243296465576 [.int .u64 8532644243296465576] from rfl) (Reps.one (show Kd.M (Kd.int .u64) _ _ _ 9350256976987008742 [.int .u64 9350256976987008742] from rfl) (Reps.one (show Kd.M (Kd.int .u64) _ _ _ 10552545826968843579 [.int .u64 10552545826968843579] from rfl) (Reps.one (show Kd.M (Kd.int .u64) _ _ _ 11727347734174303076 [.int .u64 11727347734174303076] from rfl) (Reps.one (show Kd.M (Kd.int .u64) _ _ _ 12113106623233404929 [.int .u64 12113106623233404929] from rfl) (Reps.one (show Kd.M (Kd.int .u64) _ _ _ 14000437183269869457 [.int .u64 14000437183269869457] from rfl) (Reps.one (show Kd.M (Kd.int .u64) _ _ _ 14369950271660146224 [.int .u64 14369950271660146224] from rfl) (Reps.one (show Kd.M (Kd.int .u64) _ _ _ 15101387698204529176 [.int .u64 15101387698204529176] from rfl) (Reps.one (show Kd.M (Kd.int .u64) _ _ _ 15463397548674623760 [.int .u64 15463397548674623760] from rfl) (Reps.one (show Kd.M (Kd.int .u64) _ _ _ 17586052441742319658 [.int .u64 17586052441742319658] from rfl) (Reps.one (show Kd.M (Kd.int .u64) _ _ _ 1182934255886127544 [.int .u64 1182934255886127544] from rfl) (Reps.one (show Kd.M (Kd.int .u64) _ _ _ 1847814050463011016 [.int .u64 1847814050463011016] from rfl) (Reps.one (show Kd.M (Kd.int .u64) _ _ _ 2177327727835720531 [.int .u64 2177327727835720531] from rfl) (Reps.one (show Kd.M (Kd.int .u64) _ _ _ 2830643537854262169 [.int .u64 2830643537854262169] from rfl) (Reps.one (show Kd.M (Kd.int .u64) _ _ _ 3796741975233480872 [.int .u64 3796741975233480872] from rfl) (Reps.one (show Kd.M (Kd.int .u64) _ _ _ 4115178125766777443 [.int .u64 4115178125766777443] from rfl) (Reps.one (show Kd.M (Kd.int .u64) _ _ _ 5681478168544905931 [.int .u64 5681478168544905931] from rfl) (Reps.one (show Kd.M (Kd.int .u64) _ _ _ 6601373596472566643 [.int .u64 6601373596472566643] from rfl) (Reps.one (show Kd.M (Kd.int .u64) _ _ _ 7507060721942968483 [.int .u64 7507060721942968483] from rfl) (Reps.one (show Kd.M (Kd.int .u64) _ _ _ 8399075790359081724 [.int .u64 8399075790359081724] from rfl) (Reps.one (show Kd.M (Kd.int .u64) _ _ _ 8693463985226723168 [.int .u64 8693463985226723168] from rfl) (Reps.one (show Kd.M (Kd.int .u64) _ _ _ 9568029438360202098 [.int .u64 9568029438360202098] from rfl) (Reps.one (show Kd.M (Kd.int .u64) _ _ _ 10144078919501101548 [.int .u64 10144078919501101548] from rfl) (Reps.one (show Kd.M (Kd.int .u64) _ _ _ 10430055236837252648 [.int .u64 10430055236837252648] from rfl) (Reps.one (show Kd.M (Kd.int .u64) _ _ _ 11840083180663258601 [.int .u64 11840083180663258601] from rfl) (Reps.one (show Kd.M (Kd.int .u64) _ _ _ 13761210420658862357 [.int .u64 13761210420658862357] from rfl) (Reps.one (show Kd.M (Kd.int .u64) _ _ _ 14299343276471374635 [.int .u64 14299343276471374635] from rfl) (Reps.one (show Kd.M (Kd.int .u64) _ _ _ 14566680578165727644 [.int .u64 14566680578165727644] from rfl) (Reps.one (show Kd.M (Kd.int .u64) _ _ _ 15097957966210449927 [.int .u64 15097957966210449927] from rfl) (Reps.one (show Kd.M (Kd.int .u64) _ _ _ 16922976911328602910 [.int .u64 16922976911328602910] from rfl) (Reps.one (show Kd.M (Kd.int .u64) _ _ _ 17689382322260857208 [.int .u64 17689382322260857208] from rfl) (Reps.one (show Kd.M (Kd.int .u64) _ _ _ 500013540394364858 [.int .u64 500013540394364858] from rfl) (Reps.one (show Kd.M (Kd.int .u64) _ _ _ 748580250866718886 [.int .u64 748580250866718886] from rfl) (Reps.one (show Kd.M (Kd.int .u64) _ _ _ 1242879168328830382 [.int .u64 1242879168328830382] from rfl) (Reps.one (show Kd.M (Kd.int .u64) _ _ _ 1977374033974150939 [.int .u64 1977374033974150939] from rfl) (Reps.one (show Kd.M (Kd.int .u64) _ _ _ 2944078676154940804 [.int .u64 2944078676154940804] from rfl) (Reps.one (show Kd.M (Kd.int .u64) _ _ _ 3659926193048069267 [.int .u64 3659926193048069267] from rfl) (Reps.one (show Kd.M (Kd.int .u64) _ _ _ 4368137639120453308 [.int .u64 4368137639120453308] from rfl) (Reps.one (show Kd.M (Kd.int .u64) _ _ _ 4836135668995329356 [.int .u64 4836135668995329356] from rfl) (Reps.one (show Kd.M (Kd.int .u64) _ _ _ 5532061633213252278 [.int .u64 5532061633213252278] from rfl) (Reps.one (show Kd.M (Kd.int .u64) _ _ _ 6448918945643986474 [.int .u64 6448918945643986474] from rfl) (Reps.one (show Kd.M (Kd.int .u64) _ _ _ 6902733635092675308 [.int .u64 6902733635092675308] from rfl) (Reps.one (show Kd.M (Kd.int .u64) _ _ _ 7801388544844847127 [.int .u64 7801388544844847127] from rfl) (Reps.none _ _)))))))))))))))))))))))))))))))))))))))))))))))))))))))))))))))))))))))))))))))))); intro v117 w1 ho2 hb hg_ hnew_; clear hg_ hnew_; (first | rw [← Ny116.out] at ho2 | (simp only [Int.reduceToNat] at ho2; rw [← Ny116.out] at ho2)); have HO118 := aM (Kd.R_lower ho2 (below_size bel)); replace HB := aM (below_step bel hb); clear hb ho2))
 go_ret
 exact ⟨_, erR, by (with_reducible repeat (first | apply Kd.R_alloc | apply Kd.R_drewN | apply Kd.R_drew)); exact HO118.out, bel⟩

/-! ### imprimaturref02_starts: function 93 -/
def imprimaturref02_starts.f  : Option (List Int) := some (([7640891576956012808, 13503953896175478587, 4354685564936845355, 11912009170470909681, 5840696475078001361, 11170449401992604703, 2270897969802886507, 6620516959819538809] : List Int))
set_option maxHeartbeats 8000000 in
set_option maxRecDepth 100000 in
theorem imprimaturref02_starts.calls  (r : List Int) (w : World) (h : imprimaturref02_starts.f  = some r) :
  Calls Tryd.prog 93 #[] w fun e w' => ∃ v0_ : Value, e = .returned (v0_) ∧ Kd.R (Kd.int .u64) 94 w' w.heap.size (fun _ => True) v0_ r ∧ Below w.heap.size w w' := by
 have HB := aM (Below.refl w.heap.size w)
 have H : (some (([7640891576956012808, 13503953896175478587, 4354685564936845355, 11912009170470909681, 5840696475078001361, 11170449401992604703, 2270897969802886507, 6620516959819538809] : List Int))) = some r := h
 clear h
 obtain ⟨y119, hy119⟩ : ∃ y_ : List Int, y_ = (([7640891576956012808, 13503953896175478587, 4354685564936845355, 11912009170470909681, 5840696475078001361, 11170449401992604703, 2270897969802886507, 6620516959819538809] : List Int)) := ⟨_, rfl⟩
 replace H : (some y119) = some r := hyA hy119 H
 have Ny119 := aM hy119
 clear hy119
 obtain rfl := Option.some.inj H
 go_enter Tryd.func93, Tryd.ntmps93
 go_wp2_with (first | ((with_reducible refine gate_dst (N := 1) rfl ?_); refine Kd.R_lit (Kd.int .u64) _ 94 ?hg (N := 1) ?hd (xs := ([7640891576956012808, 13503953896175478587, 4354685564936845355, 11912009170470909681, 5840696475078001361, 11170449401992604703, 2270897969802886507, 6620516959819538809] : List Int)) (inner := [.int .u64 7640891576956012808, .int .u64 13503953896175478587, .int .u64 4354685564936845355, .int .u64 11912009170470909681, .int .u64 5840696475078001361, .int .u64 11170449401992604703, .int .u64 2270897969802886507, .int .u64 6620516959819538809]) (ok := fun _ => True) (okp := fun _ => True) ?hr ?hp (fun _ hk => hk) trivial (Below.refl _ _) (Nat.le_refl _) (by simp) ?_; (case hd => rfl); (case hg => rfl); (case hr => first | (go_simp; done) | (go_simp; rfl)); (case hp => exact (Reps.one (show Kd.M (Kd.int .u64) _ _ _ 7640891576956012808 [.int .u64 7640891576956012808] from rfl) (Reps.one (show Kd.M (Kd.int .u64) _ _ _ 13503953896175478587 [.int .u64 13503953896175478587] from rfl) (Reps.one (show Kd.M (Kd.int .u64) _ _ _ 4354685564936845355 [.int .u64 4354685564936845355] from rfl) (Reps.one (show Kd.M (Kd.int .u64) _ _ _ 11912009170470909681 [.int .u64 11912009170470909681] from rfl) (Reps.one (show Kd.M (Kd.int .u64) _ _ _ 5840696475078001361 [.int .u64 5840696475078001361] from rfl) (Reps.one (show Kd.M (Kd.int .u64) _ _ _ 11170449401992604703 [.int .u64 11170449401992604703] from rfl) (Reps.one (show Kd.M (Kd.int .u64) _ _ _ 2270897969802886507 [.int .u64 2270897969802886507] from rfl) (Reps.one (show Kd.M (Kd.int .u64) _ _ _ 6620516959819538809 [.int .u64 6620516959819538809] from rfl) (Reps.none _ _)))))))))); intro v120 w1 ho2 hb hg_ hnew_; clear hg_ hnew_; (first | rw [← Ny119.out] at ho2 | (simp only [Int.reduceToNat] at ho2; rw [← Ny119.out] at ho2)); have HO121 := aM (Kd.R_lower ho2 (below_size bel)); replace HB := aM (below_step bel hb); clear hb ho2))
 go_ret
 exact ⟨_, erR, by (with_reducible repeat (first | apply Kd.R_alloc | apply Kd.R_drewN | apply Kd.R_drew)); exact HO121.out, bel⟩

/-! ### imprimaturref02_Words_cut: function 96 -/
def imprimaturref02_Words_cut.f (a0_0 : Int) (a0_1 : Int) (a1 : Int) : Option (Int) := if a0_0 = 0 then (none) else (some (Int.tmod a1 a0_0))
set_option maxHeartbeats 8000000 in
set_option maxRecDepth 100000 in
theorem imprimaturref02_Words_cut.calls (a0_0 : Int) (a0_1 : Int) (a1 : Int) (r : Int) (w : World) (h : imprimaturref02_Words_cut.f a0_0 a0_1 a1 = some r) :
  Calls Tryd.prog 96 #[.agg #[.int .u64 a0_0, .int .u64 a0_1], .int .u64 a1] w fun e w' => e = .returned (.int .u64 r) ∧ Below w.heap.size w w' := by
 have hu115 := Tryd.underlying115
 have HB := aM (Below.refl w.heap.size w)
 have H : (if a0_0 = 0 then (none) else (some (Int.tmod a1 a0_0))) = some r := h
 clear h
 by_cases c3 : a0_0 = 0
 ·rw [if_pos c3] at H
  exact absurd H (by simp)
 rw [if_neg c3] at H
 have c3b0 : (a0_0 == 0) = false := beq_eq_false_iff_ne.mpr c3
 have c3b1 : (a0_0 != 0) = true := bne_iff_ne.mpr c3
 obtain rfl := Option.some.inj H
 go_enter Tryd.func96, Tryd.ntmps96
 go_wp2_with (first | ((with_reducible refine gate_dst (N := 2) rfl ?_); refine box_event ?hg (N := 2) ?hd (cs := #[.int .u64 a0_0, .int .u64 a0_1]) (t := 115) ?hr ?_; (case hd => rfl); (case hg => rfl); (case hr => first | (go_simp; done) | (go_simp; rfl)); intro gb122 hg w6 hbox hb; have BK122 := aM (hbox); have GW122 := aM ((by rw [hg]; exact (below_size bel) : w.heap.size ≤ gb122)); have GE122 := aM ((by rw [hg]; exact (below_size bel) : w.heap.size ≤ gb122)); replace HB := aM (below_step bel hb); clear hb hbox hg; have hcz7_0 : w6.cell? ⟨gb122, 0, none⟩ = some (.int .u64 a0_0) := (blk_cell BK122.out 0).trans rfl; have hcz7_1 : w6.cell? ⟨gb122, 1, none⟩ = some (.int .u64 a0_1) := (blk_cell BK122.out 1).trans rfl; have hfz7_0 := blk_frozen BK122.out 0; have hfz7_1 := blk_frozen BK122.out 1))
 go_ret
 exact ⟨erR, by repeat (first | (with_reducible first | exact HB.out | apply below_alloc | apply pw_below_drewN | apply below_drew1 | refine below_set ?_ GE122.out) | exact HB.out)⟩

/-! ### imprimaturref02_Words_turn: function 112 -/
def imprimaturref02_Words_turn.f (a0_0 : Int) (a0_1 : Int) (a1 : Int) (a2 : Int) : Option (Int) := if 0 ≤ a2 then (if 0 ≤ (IntKind.u64.wrap (a0_1 - a2)) then ((imprimaturref02_Words_cut.f a0_0 a0_1 (Go.bits .or .u64 (shr .u64 a1 a2) (shl .u64 a1 (IntKind.u64.wrap (a0_1 - a2))))).bind fun t124 => (some t124)) else (none)) else (none)
set_option maxHeartbeats 8000000 in
set_option maxRecDepth 100000 in
theorem imprimaturref02_Words_turn.calls (a0_0 : Int) (a0_1 : Int) (a1 : Int) (a2 : Int) (r : Int) (w : World) (h : imprimaturref02_Words_turn.f a0_0 a0_1 a1 a2 = some r) :
  Calls Tryd.prog 112 #[.agg #[.int .u64 a0_0, .int .u64 a0_1], .int .u64 a1, .int .u64 a2] w fun e w' => e = .returned (.int .u64 r) ∧ Below w.heap.size w w' := by
 have hu115 := Tryd.underlying115
 have HB := aM (Below.refl w.heap.size w)
 have H : (if 0 ≤ a2 then (if 0 ≤ (IntKind.u64.wrap (a0_1 - a2)) then ((imprimaturref02_Words_cut.f a0_0 a0_1 (Go.bits .or .u64 (shr .u64 a1 a2) (shl .u64 a1 (IntKind.u64.wrap (a0_1 - a2))))).bind fun t124 => (some t124)) else (none)) else (none)) = some r := h
 clear h
 by_cases c4 : 0 ≤ a2
 rotate_left
 ·rw [if_neg c4] at H
  exact absurd H (by simp)

 rw [if_pos c4] at H
 have c4b0 := eq_true c4
 have c4b1 : decide (0 ≤ a2) = true := decide_eq_true c4
 clear c4
 obtain ⟨ji5, hji5⟩ : ∃ j_ : Int, (shr .u64 a1 a2) = j_ := ⟨_, rfl⟩
 replace H : (if 0 ≤ (IntKind.u64.wrap (a0_1 - a2)) then ((imprimaturref02_Words_cut.f a0_0 a0_1 (Go.bits .or .u64 (ji5) (shl .u64 a1 (IntKind.u64.wrap (a0_1 - a2))))).bind fun t124 => (some t124)) else (none)) = some r := by first | (rw [hji5] at H; exact H) | (simp only [hji5] at H ⊢; exact H)
 have hji5_ : (a1 / 2 ^ min a2.toNat 64) = ji5 := hji5
 have hji5z : a2 ≤ 64 → (a1 / 2 ^ a2.toNat) = ji5 := shr_small hji5
 obtain ⟨ji6, hji6⟩ : ∃ j_ : Int, (IntKind.u64.wrap (a0_1 - a2)) = j_ := ⟨_, rfl⟩
 replace H : (if 0 ≤ (ji6) then ((imprimaturref02_Words_cut.f a0_0 a0_1 (Go.bits .or .u64 (ji5) (shl .u64 a1 (ji6)))).bind fun t124 => (some t124)) else (none)) = some r := by first | (rw [hji6] at H; exact H) | (simp only [hji6] at H ⊢; exact H)
 by_cases c7 : 0 ≤ (ji6)
 rotate_left
 ·rw [if_neg c7] at H
  exact absurd H (by simp)
 rw [if_pos c7] at H
 have c7b0 := eq_true c7
 have c7b1 : decide (0 ≤ (ji6)) = true := decide_eq_true c7
 clear c7
 obtain ⟨ji8, hji8⟩ : ∃ j_ : Int, (shl .u64 a1 (ji6)) = j_ := ⟨_, rfl⟩
 replace H : ((imprimaturref02_Words_cut.f a0_0 a0_1 (Go.bits .or .u64 (ji5) (ji8))).bind fun t124 => (some t124)) = some r := by first | (rw [hji8] at H; exact H) | (simp only [hji8] at H ⊢; exact H)
 have hji8_ : (IntKind.u64.wrap (a1 * 2 ^ min (ji6).toNat 64)) = ji8 := hji8
 have hji8z : (ji6) ≤ 64 → (IntKind.u64.wrap (a1 * 2 ^ (ji6).toNat)) = ji8 := shl_small hji8
 replace H := Option.bind_eq_some_iff.mp H
 obtain ⟨t124, A90, H⟩ := H
 replace H : (some t124) = some r := H
 have A9 := aM A90
 clear A90
 obtain rfl := Option.some.inj H
 go_enter Tryd.func112, Tryd.ntmps112
 go_wp2_with (first | ((with_reducible refine gate_dst (N := 3) rfl ?_); refine box_event ?hg (N := 3) ?hd (cs := #[.int .u64 a0_0, .int .u64 a0_1]) (t := 115) ?hr ?_; (case hd => rfl); (case hg => rfl); (case hr => first | (go_simp; done) | (go_simp; rfl)); intro gb123 hg w10 hbox hb; have BK123 := aM (hbox); have GW123 := aM ((by rw [hg]; exact (below_size bel) : w.heap.size ≤ gb123)); have GE123 := aM ((by rw [hg]; exact (below_size bel) : w.heap.size ≤ gb123)); replace HB := aM (below_step bel hb); clear hb hbox hg; have hcz11_0 : w10.cell? ⟨gb123, 0, none⟩ = some (.int .u64 a0_0) := (blk_cell BK123.out 0).trans rfl; have hcz11_1 : w10.cell? ⟨gb123, 1, none⟩ = some (.int .u64 a0_1) := (blk_cell BK123.out 1).trans rfl; have hfz11_0 := blk_frozen BK123.out 0; have hfz11_1 := blk_frozen BK123.out 1) | ((with_reducible refine gate_callee (f := 96) rfl ?_); refine goesL_ (some 18) rfl rfl Tryd.func96 (by kernel_rfl) rfl #[.agg #[.int .u64 a0_0, .int .u64 a0_1], .int .u64 (Go.bits .or .u64 (ji5) (ji8))] rfl (by (try simp only [List.map_toArray, List.map_cons, List.map_nil]); first | done | (simp only [hji5, hji8]; rfl) | rfl | (simp only [List.length_drop, List.length_take]; rfl)) ?_; (with_reducible refine (imprimaturref02_Words_cut.calls a0_0 a0_1 (Go.bits .or .u64 (ji5) (ji8)) t124 _ A9.out).mono ?_); rintro e w12 ⟨rfl, hb⟩; refine ⟨_, rfl, ?_⟩; replace BK123 := aM (blk_below (g := gb123) (o := .cells #[.int .u64 a0_0, .int .u64 a0_1] 115 (0, 0)) (bL BK123.out) hb); replace HB := aM (below_step (belG GE123.out) hb); clear hb))
 go_ret
 exact ⟨by first | rfl | (simp [errW_none, errW_some] <;> rfl) | (simp only [← hji5, ← hji6, ← hji8]; first | rfl | (simp [errW_none, errW_some] <;> rfl)) | (simp [*, errW_none, errW_some] <;> rfl), by repeat (first | (with_reducible first | exact HB.out | apply below_alloc | apply pw_below_drewN | apply below_drew1 | refine below_set ?_ GE123.out) | exact HB.out)⟩
/-! ### imprimaturref02_Words_small: function 106 -/
def imprimaturref02_Words_small.f (a0_0 : Int) (a0_1 : Int) (a1 : Int) (a2 : Int) (a3 : Int) (a4 : Int) : Option (Int) := (imprimaturref02_Words_turn.f a0_0 a0_1 a1 a2).bind fun t126 => ((imprimaturref02_Words_turn.f a0_0 a0_1 a1 a3).bind fun t127 => (if 0 ≤ a4 then (some (Go.bits .xor .u64 (Go.bits .xor .u64 t126 t127) (shr .u64 a1 a4))) else (none)))
def imprimaturref02_Words_small.T1 : Bool × List (List Nat × List Nat) := (true, [([], []), ([], []), ([], []), ([0, 1, 2], [0, 1, 2]), ([], []), ([], []), ([], []), ([4, 5, 6, 3], [4, 5, 6]), ([3, 7], [3, 7]), ([], []), ([], []), ([9, 10], [9, 10]), ([8, 11], [8, 11]), ([12, 7, 0, 1, 2, 3, 4, 5, 6, 7, 8, 9, 10, 11, 12], [12])])
def imprimaturref02_Words_small.B1 : List Nat := [0, 0, 0, 7, 0, 0, 0, 127, 255, 0, 0, 1536, 4095, 8191]
theorem imprimaturref02_Words_small.tab1 : rtab .any (opsOf Tryd.f106 1) = imprimaturref02_Words_small.T1 := by kernel_rfl
theorem imprimaturref02_Words_small.bits1 : waitsOk imprimaturref02_Words_small.T1.2 imprimaturref02_Words_small.B1 = true := by kernel_rfl
set_option maxHeartbeats 8000000 in
set_option maxRecDepth 100000 in
theorem imprimaturref02_Words_small.calls (a0_0 : Int) (a0_1 : Int) (a1 : Int) (a2 : Int) (a3 : Int) (a4 : Int) (r : Int) (w : World) (h : imprimaturref02_Words_small.f a0_0 a0_1 a1 a2 a3 a4 = some r) :
  Calls Tryd.prog 106 #[.agg #[.int .u64 a0_0, .int .u64 a0_1], .int .u64 a1, .int .u64 a2, .int .u64 a3, .int .u64 a4] w fun e w' => e = .returned (.int .u64 r) ∧ Below w.heap.size w w' := by
 have hu115 := Tryd.underlying115
 have HB := aM (Below.refl w.heap.size w)
 have H : ((imprimaturref02_Words_turn.f a0_0 a0_1 a1 a2).bind fun t126 => ((imprimaturref02_Words_turn.f a0_0 a0_1 a1 a3).bind fun t127 => (if 0 ≤ a4 then (some (Go.bits .xor .u64 (Go.bits .xor .u64 t126 t127) (shr .u64 a1 a4))) else (none)))) = some r := h
 clear h
 replace H := Option.bind_eq_some_iff.mp H
 obtain ⟨t126, A60, H⟩ := H
 replace H : ((imprimaturref02_Words_turn.f a0_0 a0_1 a1 a3).bind fun t127 => (if 0 ≤ a4 then (some (Go.bits .xor .u64 (Go.bits .xor .u64 t126 t127) (shr .u64 a1 a4))) else (none))) = some r := H
 have A6 := aM A60
 clear A60
 replace H := Option.bind_eq_some_iff.mp H
 obtain ⟨t127, A70, H⟩ := H
 replace H : (if 0 ≤ a4 then (some (Go.bits .xor .u64 (Go.bits .xor .u64 t126 t127) (shr .u64 a1 a4))) else (none)) = some r := H
 have A7 := aM A70
 clear A70
 by_cases c8 : 0 ≤ a4
 rotate_left
 ·rw [if_neg c8] at H
  exact absurd H (by simp)

 rw [if_pos c8] at H
 have c8b0 := eq_true c8
 have c8b1 : decide (0 ≤ a4) = true := decide_eq_true c8
 clear c8
 obtain ⟨ji9, hji9⟩ : ∃ j_ : Int, (shr .u64 a1 a4) = j_ := ⟨_, rfl⟩
 replace H : (some (Go.bits .xor .u64 (Go.bits .xor .u64 t126 t127) (ji9))) = some r := by first | (rw [hji9] at H; exact H) | (simp only [hji9] at H ⊢; exact H)
 (try rw [hji9] at A6)
 (try rw [hji9] at A7)
 have hji9_ : (a1 / 2 ^ min a4.toNat 64) = ji9 := hji9
 have hji9z : a4 ≤ 64 → (a1 / 2 ^ a4.toNat) = ji9 := shr_small hji9
 obtain rfl := Option.some.inj H
 go_enter Tryd.func106, Tryd.ntmps106
 try go_wp2_with (first | ((with_reducible refine gate_dst (N := 5) rfl ?_); refine box_event ?hg (N := 5) ?hd (cs := #[.int .u64 a0_0, .int .u64 a0_1]) (t := 115) ?hr ?_; (case hd => rfl); (case hg => rfl); (case hr => first | (go_simp; done) | (go_simp; rfl)); intro gb125 hg w10 hbox hb; have BK125 := aM (hbox); have GW125 := aM ((by rw [hg]; exact (below_size bel) : w.heap.size ≤ gb125)); have GE125 := aM ((by rw [hg]; exact (below_size bel) : w.heap.size ≤ gb125)); replace HB := aM (below_step bel hb); clear hb hbox hg))
 replace BK125 := aM (blk_drew BK125.out)
 replace HB := aM (below_drew1 HB.out)
 refine start_ (n := 14) (S := fun w' => w'.cell? ⟨gb125, 0, none⟩ = some (.int .u64 a0_0) ∧ w'.cell? ⟨gb125, 1, none⟩ = some (.int .u64 a0_1)) (ds := []) (fl 14 0) (by kernel_rfl) rfl rfl ⟨(blk_cell BK125.out 0).trans rfl, (blk_cell BK125.out 1).trans rfl⟩ (fun hHeld => ?_); refine with_tabW imprimaturref02_Words_small.tab1 imprimaturref02_Words_small.bits1 (fun HT_ HW_ => ?_)
 generalize w10.drew = w11 at BK125 HB hHeld ⊢
 refine pB 1 12 14 2 ?_
 refine pB 2 13 14 6 ?_
 refine pB 5 16 14 38 ?_
 refine pB 6 17 14 102 ?_
 refine pB 9 20 14 614 ?_
 refine pB 10 21 14 1638 ?_
 refine pB 11 22 14 3686 ?_
 refine take_ (i := 0) (N := some 11) (v := ?_) (a' := ?_) (fl 14 3687) rfl rfl (take_ofW HT_.out HW_.out (by kernel_rfl)) (fun _ _ _ h => h) (Or.inl ⟨by rfl, ?_⟩) hHeld ?_ ?_
 rotate_left
 ·rintro w' ⟨s0, s1⟩
  go_simp
  with_reducible rfl
 rotate_left
 ·simp only [Act.put, List.setIfInBounds_toArray, List.set_cons_zero, List.set_cons_succ, i64_w, i32_w]
  rfl
 refine take_ (i := 4) (N := some 15) (v := ?_) (a' := ?_) (fl 14 3703) rfl rfl (take_ofW HT_.out HW_.out (by kernel_rfl)) (fun _ _ _ h => h) (Or.inl ⟨by rfl, ?_⟩) hHeld ?_ ?_
 rotate_left
 ·rintro w' ⟨s0, s1⟩
  go_simp
  with_reducible rfl
 rotate_left
 ·simp only [Act.put, List.setIfInBounds_toArray, List.set_cons_zero, List.set_cons_succ, i64_w, i32_w]
  rfl
 refine one_ (i := 3) (N := some 14) (fl 14 3711) rfl rfl (one_of HT_.out (by kernel_rfl)) (by decide) (fun K hK => ?_)
 refine goes_ Tryd.func112 (by kernel_rfl) rfl #[.agg #[.int .u64 a0_0, .int .u64 a0_1], .int .u64 a1, .int .u64 a2] (by rfl) rfl rfl eqA ?_
 with_reducible refine (imprimaturref02_Words_turn.calls a0_0 a0_1 a1 a2 t126 _ A6.out).mono ?_
 rintro e w12 ⟨rfl, hb⟩
 refine ⟨_, rfl, ?_⟩
 replace BK125 := aM (blk_below (g := gb125) (o := .cells #[.int .u64 a0_0, .int .u64 a0_1] 115 (0, 0)) (bL BK125.out) hb)
 replace HB := aM (below_step (belG GE125.out) hb)
 (try clear hb)
 (try clear hb2)
 (try clear hk)
 (try clear hi)
 refine hK.out _ _ ⟨(blk_cell BK125.out 0).trans rfl, (blk_cell BK125.out 1).trans rfl⟩ (fun hHeld => ?_)
 clear hK K
 refine normA (some 14) ?_
 refine one_ (i := 7) (N := some 18) (fl 14 3839) rfl rfl (one_of HT_.out (by kernel_rfl)) (by decide) (fun K hK => ?_)
 refine goes_ Tryd.func112 (by kernel_rfl) rfl #[.agg #[.int .u64 a0_0, .int .u64 a0_1], .int .u64 a1, .int .u64 a3] (by rfl) rfl rfl eqA ?_
 with_reducible refine (imprimaturref02_Words_turn.calls a0_0 a0_1 a1 a3 t127 _ A7.out).mono ?_
 rintro e w13 ⟨rfl, hb⟩
 refine ⟨_, rfl, ?_⟩
 replace BK125 := aM (blk_below (g := gb125) (o := .cells #[.int .u64 a0_0, .int .u64 a0_1] 115 (0, 0)) (bL BK125.out) hb)
 replace HB := aM (below_step (belG GE125.out) hb)
 (try clear hb)
 (try clear hb2)
 (try clear hk)
 (try clear hi)
 refine hK.out _ _ ⟨(blk_cell BK125.out 0).trans rfl, (blk_cell BK125.out 1).trans rfl⟩ (fun hHeld => ?_)
 clear hK K
 refine normA (some 18) ?_
 refine pB 8 19 14 4095 ?_
 refine pB 12 23 14 8191 ?_
 refine pB 13 10 14 16383 ?_
 refine done_ (done_of HT_.out (by kernel_rfl)) ?_
 try go_wp2
 go_ret
 exact ⟨by first | rfl | (simp [errW_none, errW_some] <;> rfl) | (simp only [← hji9]; first | rfl | (simp [errW_none, errW_some] <;> rfl)) | (simp [*, errW_none, errW_some] <;> rfl), by repeat (first | (with_reducible first | exact HB.out | apply below_alloc | apply pw_below_drewN | apply below_drew1 | refine below_set ?_ GE125.out) | exact HB.out)⟩
/-! ### imprimaturref02_Words_expand: function 94 -/
mutual
def imprimaturref02_Words_expand.l0 : Nat → List Int → Int → List Int → Int → Int → Int → Option (List Int)
 | 0, _, _, _, _, _, _ => none
 | k + 1, x1, x5, x6, x7, x129000, x129001 => if x7 < 16 then (imprimaturref02_Words_expand.l1 k x1 x5 x6 x7 0 0 x129000 x129001) else (if x129000 = 0 then (none) else (imprimaturref02_Words_expand.j2 k x6 64 x129000 x129001))
def imprimaturref02_Words_expand.l1 : Nat → List Int → Int → List Int → Int → Int → Int → Int → Int → Option (List Int)
 | 0, _, _, _, _, _, _, _, _ => none
 | k + 1, x1, x5, x6, x7, x8, x9, x129000, x129001 => if x9 < x5 then (if 0 ≤ (wrap64 ((wrap64 (x7 * x5)) + x9)) then (if (wrap64 ((wrap64 (x7 * x5)) + x9)) < (x1.length : Int) then (imprimaturref02_Words_expand.l1 k x1 x5 x6 x7 (IntKind.u64.wrap ((IntKind.u64.wrap (x8 * 256)) + (IntKind.u64.wrap (rd x1 (wrap64 ((wrap64 (x7 * x5)) + x9)))))) (wrap64 (x9 + 1)) x129000 x129001) else (none)) else (none)) else (if x6.length < 17592186044416 then (imprimaturref02_Words_expand.l0 k x1 x5 (x6 ++ [x8]) (wrap64 (x7 + 1)) x129000 x129001) else (none))
def imprimaturref02_Words_expand.j2 : Nat → List Int → Int → Int → Int → Option (List Int)
 | 0, _, _, _, _ => none
 | k + 1, x6, x10, x129000, x129001 => imprimaturref02_Words_expand.l2 k x6 x10 16 x129000 x129001
def imprimaturref02_Words_expand.l2 : Nat → List Int → Int → Int → Int → Int → Option (List Int)
 | 0, _, _, _, _, _ => none
 | k + 1, x6, x10, x11, x129000, x129001 => if x11 < x10 then (if 0 ≤ (wrap64 (x11 - 16)) then (if (wrap64 (x11 - 16)) < (x6.length : Int) then (if 0 ≤ (wrap64 (x11 - 7)) then (if (wrap64 (x11 - 7)) < (x6.length : Int) then (if x129000 = 0 then (none) else (if 0 ≤ (wrap64 (x11 - 15)) then (if (wrap64 (x11 - 15)) < (x6.length : Int) then ((imprimaturref02_Words_small.f x129000 x129001 (rd x6 (wrap64 (x11 - 15))) 7 18 3).bind fun t144 => (if 0 ≤ (wrap64 (x11 - 2)) then (if (wrap64 (x11 - 2)) < (x6.length : Int) then ((imprimaturref02_Words_small.f x129000 x129001 (rd x6 (wrap64 (x11 - 2))) 17 19 10).bind fun t146 => ((imprimaturref02_Words_cut.f x129000 x129001 (IntKind.u64.wrap ((IntKind.u64.wrap ((IntKind.u64.wrap ((rd x6 (wrap64 (x11 - 16))) + (rd x6 (wrap64 (x11 - 7))))) + t144)) + t146))).bind fun t147 => (if x6.length < 17592186044416 then (imprimaturref02_Words_expand.l2 k (x6 ++ [t147]) x10 (wrap64 (x11 + 1)) x129000 x129001) else (none)))) else (none)) else (none))) else (none)) else (none))) else (none)) else (none)) else (none)) else (none)) else (some x6)
end
def imprimaturref02_Words_expand.f (k : Nat) (a0_0 : Int) (a0_1 : Int) (l1 : List Int) : Option (List Int) := imprimaturref02_Words_expand.l0 k l1 (wrap64 (IntKind.u64.wrap (Int.tdiv a0_1 8))) ([] : List Int) 0 a0_0 a0_1
theorem imprimaturref02_Words_expand.mono_l : ∀ k, (∀ y0 y1 y2 y3 y4 y5, LeO (imprimaturref02_Words_expand.l0 k y0 y1 y2 y3 y4 y5) (imprimaturref02_Words_expand.l0 (k + 1) y0 y1 y2 y3 y4 y5)) ∧ (∀ y0 y1 y2 y3 y4 y5 y6 y7, LeO (imprimaturref02_Words_expand.l1 k y0 y1 y2 y3 y4 y5 y6 y7) (imprimaturref02_Words_expand.l1 (k + 1) y0 y1 y2 y3 y4 y5 y6 y7)) ∧ (∀ y0 y1 y2 y3, LeO (imprimaturref02_Words_expand.j2 k y0 y1 y2 y3) (imprimaturref02_Words_expand.j2 (k + 1) y0 y1 y2 y3)) ∧ (∀ y0 y1 y2 y3 y4, LeO (imprimaturref02_Words_expand.l2 k y0 y1 y2 y3 y4) (imprimaturref02_Words_expand.l2 (k + 1) y0 y1 y2 y3 y4))
 | 0 => ⟨fun _ _ _ _ _ _ r h => by simp [imprimaturref02_Words_expand.l0] at h, fun _ _ _ _ _ _ _ _ r h => by simp [imprimaturref02_Words_expand.l1] at h, fun _ _ _ _ r h => by simp [imprimaturref02_Words_expand.j2] at h, fun _ _ _ _ _ r h => by simp [imprimaturref02_Words_expand.l2] at h⟩
 | k + 1 => by
  obtain ⟨ih0, ih1, ih2, ih3⟩ := imprimaturref02_Words_expand.mono_l k
  refine ⟨?_, ?_, ?_, ?_⟩
  ·intro y0 y1 y2 y3 y4 y5
   unfold imprimaturref02_Words_expand.l0
   repeat' first
   | (with_reducible exact ih0 _ _ _ _ _ _)
   | (with_reducible exact ih1 _ _ _ _ _ _ _ _)
   | (with_reducible exact ih2 _ _ _ _)
   | (with_reducible exact ih3 _ _ _ _ _)
   | (with_reducible exact LeO.refl _)
   | (with_reducible exact LeO.none _)
   | (with_reducible refine LeO.ite ?_ ?_)
   | (with_reducible refine LeO.bind ?_ (fun _ => ?_))
  ·intro y0 y1 y2 y3 y4 y5 y6 y7
   unfold imprimaturref02_Words_expand.l1
   repeat' first
   | (with_reducible exact ih0 _ _ _ _ _ _)
   | (with_reducible exact ih1 _ _ _ _ _ _ _ _)
   | (with_reducible exact ih2 _ _ _ _)
   | (with_reducible exact ih3 _ _ _ _ _)
   | (with_reducible exact LeO.refl _)
   | (with_reducible exact LeO.none _)
   | (with_reducible refine LeO.ite ?_ ?_)
   | (with_reducible refine LeO.bind ?_ (fun _ => ?_))
  ·intro y0 y1 y2 y3
   unfold imprimaturref02_Words_expand.j2
   repeat' first
   | (with_reducible exact ih0 _ _ _ _ _ _)
   | (with_reducible exact ih1 _ _ _ _ _ _ _ _)
   | (with_reducible exact ih2 _ _ _ _)
   | (with_reducible exact ih3 _ _ _ _ _)
   | (with_reducible exact LeO.refl _)
   | (with_reducible exact LeO.none _)
   | (with_reducible refine LeO.ite ?_ ?_)
   | (with_reducible refine LeO.bind ?_ (fun _ => ?_))
  intro y0 y1 y2 y3 y4
  unfold imprimaturref02_Words_expand.l2
  repeat' first
  | (with_reducible exact ih0 _ _ _ _ _ _)
  | (with_reducible exact ih1 _ _ _ _ _ _ _ _)
  | (with_reducible exact ih2 _ _ _ _)
  | (with_reducible exact ih3 _ _ _ _ _)
  | (with_reducible exact LeO.refl _)
  | (with_reducible exact LeO.none _)
  | (with_reducible refine LeO.ite ?_ ?_)
  | (with_reducible refine LeO.bind ?_ (fun _ => ?_))
theorem imprimaturref02_Words_expand.mono : ∀ a0 a1 a2 k, LeO (imprimaturref02_Words_expand.f k a0 a1 a2) (imprimaturref02_Words_expand.f (k + 1) a0 a1 a2) := by
 intro a0 a1 a2 k
 obtain ⟨ih0, ih1, ih2, ih3⟩ := imprimaturref02_Words_expand.mono_l k
 unfold imprimaturref02_Words_expand.f
 repeat' first
   | (with_reducible exact ih0 _ _ _ _ _ _)
   | (with_reducible exact ih1 _ _ _ _ _ _ _ _)
   | (with_reducible exact ih2 _ _ _ _)
   | (with_reducible exact ih3 _ _ _ _ _)
   | (with_reducible exact LeO.refl _)
   | (with_reducible exact LeO.none _)
   | (with_reducible refine LeO.ite ?_ ?_)
   | (with_reducible refine LeO.bind ?_ (fun _ => ?_))
def imprimaturref02_Words_expand.T18 : Bool × List (List Nat × List Nat) := (true, [([], []), ([], []), ([1], [1]), ([0, 2], [0, 2]), ([3], [3]), ([], []), ([], []), ([6], [6]), ([5, 7], [5, 7]), ([8], [8]), ([4, 9], [4, 9]), ([10, 0, 1, 2, 3, 4, 5, 6, 7, 8, 9, 10], [10])])
def imprimaturref02_Words_expand.B18 : List Nat := [0, 0, 2, 7, 15, 0, 0, 64, 224, 480, 1023, 2047]
theorem imprimaturref02_Words_expand.tab18 : rtab .any (opsOf Tryd.f94 18) = imprimaturref02_Words_expand.T18 := by kernel_rfl
theorem imprimaturref02_Words_expand.bits18 : waitsOk imprimaturref02_Words_expand.T18.2 imprimaturref02_Words_expand.B18 = true := by kernel_rfl
def imprimaturref02_Words_expand.T20 : Bool × List (List Nat × List Nat) := (true, [([], []), ([], []), ([], []), ([], []), ([3], [3]), ([2, 4], [2, 4]), ([5], [5]), ([1, 6], [1, 6]), ([0, 7], [0, 7]), ([], []), ([], []), ([], []), ([11], [11]), ([10, 12], [10, 12]), ([13], [13]), ([9, 14, 7], [9, 14]), ([8, 15], [8, 15]), ([16, 15, 0, 1, 2, 3, 4, 5, 6, 7, 8, 9, 10, 11, 12, 13, 14, 15, 16], [0, 16])])
def imprimaturref02_Words_expand.B20 : List Nat := [0, 0, 0, 0, 8, 28, 60, 126, 255, 0, 0, 0, 2048, 7168, 15360, 32510, 65535, 131071]
theorem imprimaturref02_Words_expand.tab20 : rtab .any (opsOf Tryd.f94 20) = imprimaturref02_Words_expand.T20 := by kernel_rfl
theorem imprimaturref02_Words_expand.bits20 : waitsOk imprimaturref02_Words_expand.T20.2 imprimaturref02_Words_expand.B20 = true := by kernel_rfl
def imprimaturref02_Words_expand.T21 : Bool × List (List Nat × List Nat) := (true, [([], []), ([], []), ([], []), ([], []), ([3], [3]), ([2, 4], [2, 4]), ([5], [5]), ([1, 6], [1, 6]), ([0, 7], [0, 7]), ([], []), ([], []), ([], []), ([11], [11]), ([10, 12], [10, 12]), ([13], [13]), ([9, 14, 7], [9, 14]), ([8, 15], [8, 15]), ([16, 15, 0, 1, 2, 3, 4, 5, 6, 7, 8, 9, 10, 11, 12, 13, 14, 15, 16], [0, 16])])
def imprimaturref02_Words_expand.B21 : List Nat := [0, 0, 0, 0, 8, 28, 60, 126, 255, 0, 0, 0, 2048, 7168, 15360, 32510, 65535, 131071]
theorem imprimaturref02_Words_expand.tab21 : rtab .any (opsOf Tryd.f94 21) = imprimaturref02_Words_expand.T21 := by kernel_rfl
theorem imprimaturref02_Words_expand.bits21 : waitsOk imprimaturref02_Words_expand.T21.2 imprimaturref02_Words_expand.B21 = true := by kernel_rfl
set_option maxHeartbeats 8000000 in
set_option maxRecDepth 100000 in
theorem imprimaturref02_Words_expand.calls (k : Nat) (a0_0 : Int) (a0_1 : Int) (A1 : Option Addr) (c1 : Nat) (l1 : List Int) (r : List Int) (w : World) (hr1 : Kd.C (Kd.int .u8) w A1 l1.length l1) (hc1 : l1.length ≤ c1) (h : imprimaturref02_Words_expand.f k a0_0 a0_1 l1 = some r) :
  Calls Tryd.prog 94 #[.agg #[.int .u64 a0_0, .int .u64 a0_1], .slice A1 l1.length c1] w fun e w' => ∃ v0_ : Value, e = .returned (v0_) ∧ Kd.R (Kd.int .u64) 94 w' w.heap.size (fun _ => True) v0_ r ∧ Below w.heap.size w w' := by
 have hu115 := Tryd.underlying115
 have HR1 := aM hr1
 have HC1 := aM hc1
 clear hr1 hc1
 have HB := aM (Below.refl w.heap.size w)
 have H : (imprimaturref02_Words_expand.l0 k l1 (wrap64 (IntKind.u64.wrap (Int.tdiv a0_1 8))) ([] : List Int) 0 a0_0 a0_1) = some r := h
 clear h
 have H' := aM H
 clear H
 go_enter Tryd.func94, Tryd.ntmps94
 go_wp2_with (first | ((with_reducible refine gate_dst (N := 2) rfl ?_); refine box_event ?hg (N := 2) ?hd (cs := #[.int .u64 a0_0, .int .u64 a0_1]) (t := 115) ?hr ?_; (case hd => rfl); (case hg => rfl); (case hr => first | (go_simp; done) | (go_simp; rfl)); intro gb128 hg w3 hbox hb; have BK128 := aM (hbox); have GW128 := aM ((by rw [hg]; exact (below_size bel) : w.heap.size ≤ gb128)); have GE128 := aM ((by rw [hg]; exact (below_size bel) : w.heap.size ≤ gb128)); replace HB := aM (below_step bel hb); clear hb hbox hg; have hcz4_0 : w3.cell? ⟨gb128, 0, none⟩ = some (.int .u64 a0_0) := (blk_cell BK128.out 0).trans rfl; have hcz4_1 : w3.cell? ⟨gb128, 1, none⟩ = some (.int .u64 a0_1) := (blk_cell BK128.out 1).trans rfl; have hfz4_0 := blk_frozen BK128.out 0; have hfz4_1 := blk_frozen BK128.out 1))
 go_loopg [6, 7] k (fun kq v6 v7 w' => ∃ (x6_1 : List Int) (x7_1 : Int), v7 = .int .i64 x7_1 ∧ Aside0 (imprimaturref02_Words_expand.l0 kq l1 (wrap64 (IntKind.u64.wrap (Int.tdiv a0_1 8))) x6_1 x7_1 a0_0 a0_1 = some r) ∧ Aside0 (kq ≤ k) ∧ Aside0 (Kd.R (Kd.int .u64) 94 w' w.heap.size (fun _ => True) v6 x6_1) ∧ Aside0 (w'.heap[gb128]? = some (.cells #[.int .u64 a0_0, .int .u64 a0_1] 115 (0, 0))) ∧ Aside0 (Below w.heap.size w w'))
 case atStart => exact ⟨(([] : List Int)), (0), rfS, H', ⟨Nat.le_refl _⟩, ⟨by first | exact Kd.R_nil _ _ _ _ _ | exact Kd.N_nil _ _ _ _ _ | exact Kd.V_nil _ _ _ _ _ | exact Kd.Q_nil _ _ _ _ _ | exact Kd.S_nil _ _ _ _ _⟩, ⟨by (with_reducible repeat (first | refine blk_drewN ?_ _ | refine blk_drew ?_ | refine blk_alloc ?_ _)); exact BK128.out⟩, ⟨by repeat (first | (with_reducible first | exact HB.out | apply below_alloc | apply pw_below_drewN | apply below_drew1 | refine below_set ?_ GE128.out) | exact HB.out)⟩⟩
 case round =>
  clear H'
  try clear hcz4_0
  try clear hcz4_1
  try clear hfz4_0
  try clear hfz4_1
  obtain ⟨x6_1, x7_1, rfl, HA, HK1, HO_6, BK128, HB⟩ := hrel
  cases gk with
  | zero => exact absurd HA.out (by simp [imprimaturref02_Words_expand.l0])
  | succ k1 =>
   have H := HA.out
   clear HA
   simp only [imprimaturref02_Words_expand.l0] at H
   by_cases c5 : x7_1 < 16
   ·rw [if_pos c5] at H
    have c5b0 : decide (x7_1 < 16) = true := decide_eq_true c5
    clear c5
    have H' := aM H
    clear H
    go_wp2
    go_loopg [8, 9] k1 (fun kq v8 v9 w' => ∃ (x8_2 : Int) (x9_2 : Int), v8 = .int .u64 x8_2 ∧ v9 = .int .i64 x9_2 ∧ Aside0 (imprimaturref02_Words_expand.l1 kq l1 (wrap64 (IntKind.u64.wrap (Int.tdiv a0_1 8))) x6_1 x7_1 x8_2 x9_2 a0_0 a0_1 = some r) ∧ Aside0 (kq ≤ k1) ∧ Aside0 (Kd.R (Kd.int .u64) 94 w' w.heap.size (fun _ => True) u6 x6_1) ∧ Aside0 (w'.heap[gb128]? = some (.cells #[.int .u64 a0_0, .int .u64 a0_1] 115 (0, 0))) ∧ Aside0 (Below w.heap.size w w'))
    case atStart => exact ⟨(0), (0), rfS, rfS, H', ⟨Nat.le_refl _⟩, ⟨by (with_reducible repeat (first | apply Kd.R_alloc | apply Kd.R_drewN | apply Kd.R_drew)); exact HO_6.out⟩, ⟨by (with_reducible repeat (first | refine blk_drewN ?_ _ | refine blk_drew ?_ | refine blk_alloc ?_ _)); exact BK128.out⟩, ⟨by repeat (first | (with_reducible first | exact HB.out | apply below_alloc | apply pw_below_drewN | apply below_drew1 | refine below_set ?_ GE128.out) | exact HB.out)⟩⟩
    case round =>
     clear H'
     try clear c5
     try clear c5b0
     try clear hcz4_0
     try clear hcz4_1
     try clear hfz4_0
     try clear hfz4_1
     obtain ⟨x8_2, x9_2, rfl, rfl, HA, HK2, HO_6, BK128, HB⟩ := hrel
     cases gk with
     | zero => exact absurd HA.out (by simp [imprimaturref02_Words_expand.l1])
     | succ k2 =>
      have H := HA.out
      clear HA
      simp only [imprimaturref02_Words_expand.l1] at H
      by_cases c6 : x9_2 < (wrap64 (IntKind.u64.wrap (Int.tdiv a0_1 8)))
      rotate_left
      ·rw [if_neg c6] at H
       have c6b0 : decide (x9_2 < (wrap64 (IntKind.u64.wrap (Int.tdiv a0_1 8)))) = false := decide_eq_false c6
       clear c6
       by_cases c10 : x6_1.length < 17592186044416
       rotate_left
       ·rw [if_neg c10] at H
        exact absurd H (by simp)
       rw [if_pos c10] at H
       have LMc10 := aM c10
       clear c10
       obtain ⟨y130, hy130⟩ : ∃ y_ : List Int, y_ = (x6_1 ++ [x8_2]) := ⟨_, rfl⟩
       replace H : (imprimaturref02_Words_expand.l0 k2 l1 (wrap64 (IntKind.u64.wrap (Int.tdiv a0_1 8))) y130 (wrap64 (x7_1 + 1)) a0_0 a0_1) = some r := hyA hy130 H
       have Ny130 := aM hy130
       clear hy130
       have H' := aM H
       clear H
       go_wp2_with (first | ((with_reducible refine gate_builtin (b := .append) (xs := #[.tmp 38, .tmp 40]) rfl ?_); at_builtin; refine Kd.R_append (Kd.int .u64) (w0 := w) w.heap.size rfl (.tmp 38) (.tmp 40) 116 94 (.int .u64 0) 8 rfl Tryd.underlying116 info94 rfl (by decide) (by omega) u6 x6_1 x8_2 [.int .u64 x8_2] (fun _ => True) (fun _ => False) rfl rfl ?aP (fun _ hk => hk.elim) ?aF ?aO ?aB ?aS ?aL ?_; (case aP => exact rfl); (case aB => exact (belG GE128.out)); (case aF => exact (fun _ _ => trivial)); (case aO => exact (rL HO_6.out)); (case aS => exact (below_size (belG GE128.out))); (case aL => have := LMc10.out; omega); intro v131 w11 ho hb hg hat; rw [← Ny130.out] at ho; replace BK128 := aM (blk_grown (g := gb128) (o := .cells #[.int .u64 a0_0, .int .u64 a0_1] 115 (0, 0)) (bL BK128.out) hg (Kd.R_ne HO_6.out BK128.out (by decide))); replace HB := aM (hb); have HO132 := aM (ho); clear HO_6; clear ho hb hg hat))
       go_roundg k2
       case measure => have := HK1.out; have := HK2.out; omega
       case rel => exact ⟨(y130), (wrap64 (x7_1 + 1)), rfS, H', ⟨by have := HK1.out; have := HK2.out; omega⟩, ⟨by (with_reducible repeat (first | apply Kd.R_alloc | apply Kd.R_drewN | apply Kd.R_drew)); exact HO132.out⟩, ⟨by (with_reducible repeat (first | refine blk_drewN ?_ _ | refine blk_drew ?_ | refine blk_alloc ?_ _)); exact BK128.out⟩, ⟨by repeat (first | (with_reducible first | exact HB.out | apply below_alloc | apply pw_below_drewN | apply below_drew1 | refine below_set ?_ GE128.out) | exact HB.out)⟩⟩
      rw [if_pos c6] at H
      have c6b0 : decide (x9_2 < (wrap64 (IntKind.u64.wrap (Int.tdiv a0_1 8)))) = true := decide_eq_true c6
      clear c6
      obtain ⟨ji7, hji7⟩ : ∃ j_ : Int, (wrap64 ((wrap64 (x7_1 * (wrap64 (IntKind.u64.wrap (Int.tdiv a0_1 8))))) + x9_2)) = j_ := ⟨_, rfl⟩
      replace H : (if 0 ≤ (ji7) then (if (ji7) < (l1.length : Int) then (imprimaturref02_Words_expand.l1 k2 l1 (wrap64 (IntKind.u64.wrap (Int.tdiv a0_1 8))) x6_1 x7_1 (IntKind.u64.wrap ((IntKind.u64.wrap (x8_2 * 256)) + (IntKind.u64.wrap (rd l1 (ji7))))) (wrap64 (x9_2 + 1)) a0_0 a0_1) else (none)) else (none)) = some r := by first | (rw [hji7] at H; exact H) | (simp only [hji7] at H ⊢; exact H)
      have hji7w : (IntKind.i64.wrap ((wrap64 (x7_1 * (wrap64 (IntKind.u64.wrap (Int.tdiv a0_1 8))))) + x9_2)) = ji7 := (i64_w _).trans hji7
      by_cases c8 : 0 ≤ (ji7)
      rotate_left
      ·rw [if_neg c8] at H
       exact absurd H (by simp)
      rw [if_pos c8] at H
      have c8b0 : decide (0 ≤ (ji7)) = true := decide_eq_true c8
      clear c8
      by_cases c9 : (ji7) < (l1.length : Int)
      rotate_left
      ·rw [if_neg c9] at H
       exact absurd H (by simp)
      rw [if_pos c9] at H
      have c9b0 : decide ((ji7) < (l1.length : Int)) = true := decide_eq_true c9
      clear c9
      have H' := aM H
      clear H
      have p129 : 0 ≤ ((ji7) : Int) := of_decide_eq_true asm_
      have q129 : (ji7) < (l1.length : Int) := of_decide_eq_true asm_
      obtain ⟨ad129, e129, hx129_0⟩ := Kd.at_int HR1.out (ji7) p129 q129
      cases e129
      replace hx129_0 := (HB.out.cell (World.block_lt_of_cell? w _ hx129_0)).trans hx129_0
      replace p129 := eq_true p129
      replace q129 := eq_true q129
      go_wp2
      go_roundg k2
      case measure => have := HK1.out; have := HK2.out; omega
      case rel => exact ⟨(IntKind.u64.wrap ((IntKind.u64.wrap (x8_2 * 256)) + (IntKind.u64.wrap (rd l1 (ji7))))), (wrap64 (x9_2 + 1)), (by first | rfl | (simp; done) | (simp only [← hji7] <;> (first | rfl | simp)) | (simp [*]; done)), rfS, H', ⟨by have := HK1.out; have := HK2.out; omega⟩, ⟨by (with_reducible repeat (first | apply Kd.R_alloc | apply Kd.R_drewN | apply Kd.R_drew)); exact HO_6.out⟩, ⟨by (with_reducible repeat (first | refine blk_drewN ?_ _ | refine blk_drew ?_ | refine blk_alloc ?_ _)); exact BK128.out⟩, ⟨by repeat (first | (with_reducible first | exact HB.out | apply below_alloc | apply pw_below_drewN | apply below_drew1 | refine below_set ?_ GE128.out) | exact HB.out)⟩⟩
   rw [if_neg c5] at H
   have c5b0 : decide (x7_1 < 16) = false := decide_eq_false c5
   clear c5
   have HC12 := aM H
   clear H
   have hcz13_0 : wr.cell? ⟨gb128, 0, none⟩ = some (.int .u64 a0_0) := (blk_cell BK128.out 0).trans rfl
   have hcz13_1 : wr.cell? ⟨gb128, 1, none⟩ = some (.int .u64 a0_1) := (blk_cell BK128.out 1).trans rfl
   have hfz13_0 := blk_frozen BK128.out 0
   have hfz13_1 := blk_frozen BK128.out 1
   go_upto_if 44 with (fail)
   go_cut [10] (fun v10 wc => ∃ (kq : Nat) (x10_11 : Int), v10 = .int .i64 x10_11 ∧ Aside0 (imprimaturref02_Words_expand.j2 kq x6_1 x10_11 a0_0 a0_1 = some r) ∧ Aside0 (kq ≤ k1) ∧ Aside0 (Kd.R (Kd.int .u64) 94 wc w.heap.size (fun _ => True) u6 x6_1) ∧ Aside0 (wc.heap[gb128]? = some (.cells #[.int .u64 a0_0, .int .u64 a0_1] 115 (0, 0))) ∧ Aside0 (Below w.heap.size w wc))
   case first =>
    have H := HC12.out
    clear HC12
    by_cases c14 : a0_0 = 0
    ·rw [if_pos c14] at H
     exact absurd H (by simp)
    rw [if_neg c14] at H
    have c14b0 : (a0_0 == 0) = false := beq_eq_false_iff_ne.mpr c14
    have c14b1 : (a0_0 != 0) = true := bne_iff_ne.mpr c14
    (first | rw [c14b0] | (simp only [i64_w, i32_w]; rw [c14b0]) | skip)
    have H' := aM H
    clear H
    go_wp2
    go_meet
    case rel => exact ⟨_, (64), rfS, H', ⟨by have := HK1.out; first | omega | exact Nat.le_refl _⟩, ⟨by (with_reducible repeat (first | apply Kd.R_alloc | apply Kd.R_drewN | apply Kd.R_drew)); exact HO_6.out⟩, ⟨by (with_reducible repeat (first | refine blk_drewN ?_ _ | refine blk_drew ?_ | refine blk_alloc ?_ _)); exact BK128.out⟩, ⟨by repeat (first | (with_reducible first | exact HB.out | apply below_alloc | apply pw_below_drewN | apply below_drew1 | refine below_set ?_ GE128.out) | exact HB.out)⟩⟩
   case rest =>
    clear HC12
    try clear c5
    try clear c5b0
    try clear hcz13_0
    try clear hcz13_1
    try clear hcz4_0
    try clear hcz4_1
    try clear hfz13_0
    try clear hfz13_1
    try clear hfz4_0
    try clear hfz4_1
    obtain ⟨kq, x10_11, rfl, HA, HJ11, HO_6, BK128, HB⟩ := hcut
    cases kq with
    | zero => exact absurd HA.out (by simp [imprimaturref02_Words_expand.j2])
    | succ kj11 =>
     have H := HA.out
     clear HA
     simp only [imprimaturref02_Words_expand.j2] at H
     have H' := aM H
     clear H
     go_wp2
     go_loopg [6, 11] kj11 (fun kq v6 v11 w' => ∃ (x6_3 : List Int) (x11_3 : Int), v11 = .int .i64 x11_3 ∧ Aside0 (imprimaturref02_Words_expand.l2 kq x6_3 x10_11 x11_3 a0_0 a0_1 = some r) ∧ Aside0 (kq ≤ kj11) ∧ Aside0 (Kd.R (Kd.int .u64) 94 w' w.heap.size (fun _ => True) v6 x6_3) ∧ Aside0 (w'.heap[gb128]? = some (.cells #[.int .u64 a0_0, .int .u64 a0_1] 115 (0, 0))) ∧ Aside0 (Below w.heap.size w w'))
     case atStart => exact ⟨(x6_1), (16), rfS, H', ⟨Nat.le_refl _⟩, ⟨by (with_reducible repeat (first | apply Kd.R_alloc | apply Kd.R_drewN | apply Kd.R_drew)); exact HO_6.out⟩, ⟨by (with_reducible repeat (first | refine blk_drewN ?_ _ | refine blk_drew ?_ | refine blk_alloc ?_ _)); exact BK128.out⟩, ⟨by repeat (first | (with_reducible first | exact HB.out | apply below_alloc | apply pw_below_drewN | apply below_drew1 | refine below_set ?_ GE128.out) | exact HB.out)⟩⟩
     case round =>
      clear H'
      try clear c5
      try clear c5b0
      try clear hcz13_0
      try clear hcz13_1
      try clear hcz4_0
      try clear hcz4_1
      try clear hfz13_0
      try clear hfz13_1
      try clear hfz4_0
      try clear hfz4_1
      obtain ⟨x6_3, x11_3, rfl, HA, HK3, HO_6, BK128, HB⟩ := hrel
      cases gk with
      | zero => exact absurd HA.out (by simp [imprimaturref02_Words_expand.l2])
      | succ k3 =>
       have H := HA.out
       clear HA
       simp only [imprimaturref02_Words_expand.l2] at H
       by_cases c15 : x11_3 < x10_11
       rotate_left
       ·rw [if_neg c15] at H
        have c15b0 : decide (x11_3 < x10_11) = false := decide_eq_false c15
        clear c15
        obtain rfl := Option.some.inj H
        go_wp2
        go_ret
        exact ⟨_, erR, by (with_reducible repeat (first | apply Kd.R_alloc | apply Kd.R_drewN | apply Kd.R_drew)); exact HO_6.out, by repeat (first | (with_reducible first | exact HB.out | apply below_alloc | apply pw_below_drewN | apply below_drew1 | refine below_set ?_ GE128.out) | exact HB.out)⟩

       rw [if_pos c15] at H
       have c15b0 : decide (x11_3 < x10_11) = true := decide_eq_true c15
       clear c15
       obtain ⟨ji16, hji16⟩ : ∃ j_ : Int, (wrap64 (x11_3 - 16)) = j_ := ⟨_, rfl⟩
       replace H : (if 0 ≤ (ji16) then (if (ji16) < (x6_3.length : Int) then (if 0 ≤ (wrap64 (x11_3 - 7)) then (if (wrap64 (x11_3 - 7)) < (x6_3.length : Int) then (if a0_0 = 0 then (none) else (if 0 ≤ (wrap64 (x11_3 - 15)) then (if (wrap64 (x11_3 - 15)) < (x6_3.length : Int) then ((imprimaturref02_Words_small.f a0_0 a0_1 (rd x6_3 (wrap64 (x11_3 - 15))) 7 18 3).bind fun t144 => (if 0 ≤ (wrap64 (x11_3 - 2)) then (if (wrap64 (x11_3 - 2)) < (x6_3.length : Int) then ((imprimaturref02_Words_small.f a0_0 a0_1 (rd x6_3 (wrap64 (x11_3 - 2))) 17 19 10).bind fun t146 => ((imprimaturref02_Words_cut.f a0_0 a0_1 (IntKind.u64.wrap ((IntKind.u64.wrap ((IntKind.u64.wrap ((rd x6_3 (ji16)) + (rd x6_3 (wrap64 (x11_3 - 7))))) + t144)) + t146))).bind fun t147 => (if x6_3.length < 17592186044416 then (imprimaturref02_Words_expand.l2 k3 (x6_3 ++ [t147]) x10_11 (wrap64 (x11_3 + 1)) a0_0 a0_1) else (none)))) else (none)) else (none))) else (none)) else (none))) else (none)) else (none)) else (none)) else (none)) = some r := by first | (rw [hji16] at H; exact H) | (simp only [hji16] at H ⊢; exact H)
       have hji16w : (IntKind.i64.wrap (x11_3 - 16)) = ji16 := (i64_w _).trans hji16
       by_cases c17 : 0 ≤ (ji16)
       rotate_left
       ·rw [if_neg c17] at H
        exact absurd H (by simp)
       rw [if_pos c17] at H
       have c17b0 : decide (0 ≤ (ji16)) = true := decide_eq_true c17
       clear c17
       by_cases c18 : (ji16) < (x6_3.length : Int)
       rotate_left
       ·rw [if_neg c18] at H
        exact absurd H (by simp)
       rw [if_pos c18] at H
       have c18b0 : decide ((ji16) < (x6_3.length : Int)) = true := decide_eq_true c18
       clear c18
       obtain ⟨ji19, hji19⟩ : ∃ j_ : Int, (wrap64 (x11_3 - 7)) = j_ := ⟨_, rfl⟩
       replace H : (if 0 ≤ (ji19) then (if (ji19) < (x6_3.length : Int) then (if a0_0 = 0 then (none) else (if 0 ≤ (wrap64 (x11_3 - 15)) then (if (wrap64 (x11_3 - 15)) < (x6_3.length : Int) then ((imprimaturref02_Words_small.f a0_0 a0_1 (rd x6_3 (wrap64 (x11_3 - 15))) 7 18 3).bind fun t144 => (if 0 ≤ (wrap64 (x11_3 - 2)) then (if (wrap64 (x11_3 - 2)) < (x6_3.length : Int) then ((imprimaturref02_Words_small.f a0_0 a0_1 (rd x6_3 (wrap64 (x11_3 - 2))) 17 19 10).bind fun t146 => ((imprimaturref02_Words_cut.f a0_0 a0_1 (IntKind.u64.wrap ((IntKind.u64.wrap ((IntKind.u64.wrap ((rd x6_3 (ji16)) + (rd x6_3 (ji19)))) + t144)) + t146))).bind fun t147 => (if x6_3.length < 17592186044416 then (imprimaturref02_Words_expand.l2 k3 (x6_3 ++ [t147]) x10_11 (wrap64 (x11_3 + 1)) a0_0 a0_1) else (none)))) else (none)) else (none))) else (none)) else (none))) else (none)) else (none)) = some r := by first | (rw [hji19] at H; exact H) | (simp only [hji19] at H ⊢; exact H)
       have hji19w : (IntKind.i64.wrap (x11_3 - 7)) = ji19 := (i64_w _).trans hji19
       by_cases c20 : 0 ≤ (ji19)
       rotate_left
       ·rw [if_neg c20] at H
        exact absurd H (by simp)
       rw [if_pos c20] at H
       have c20b0 : decide (0 ≤ (ji19)) = true := decide_eq_true c20
       clear c20
       by_cases c21 : (ji19) < (x6_3.length : Int)
       rotate_left
       ·rw [if_neg c21] at H
        exact absurd H (by simp)
       rw [if_pos c21] at H
       have c21b0 : decide ((ji19) < (x6_3.length : Int)) = true := decide_eq_true c21
       clear c21
       by_cases c22 : a0_0 = 0
       ·rw [if_pos c22] at H
        exact absurd H (by simp)
       rw [if_neg c22] at H
       have c22b0 : (a0_0 == 0) = false := beq_eq_false_iff_ne.mpr c22
       have c22b1 : (a0_0 != 0) = true := bne_iff_ne.mpr c22
       obtain ⟨ji42, hji42⟩ : ∃ j_ : Int, (wrap64 (x11_3 - 15)) = j_ := ⟨_, rfl⟩
       replace H : (if 0 ≤ (ji42) then (if (ji42) < (x6_3.length : Int) then ((imprimaturref02_Words_small.f a0_0 a0_1 (rd x6_3 (ji42)) 7 18 3).bind fun t144 => (if 0 ≤ (wrap64 (x11_3 - 2)) then (if (wrap64 (x11_3 - 2)) < (x6_3.length : Int) then ((imprimaturref02_Words_small.f a0_0 a0_1 (rd x6_3 (wrap64 (x11_3 - 2))) 17 19 10).bind fun t146 => ((imprimaturref02_Words_cut.f a0_0 a0_1 (IntKind.u64.wrap ((IntKind.u64.wrap ((IntKind.u64.wrap ((rd x6_3 (ji16)) + (rd x6_3 (ji19)))) + t144)) + t146))).bind fun t147 => (if x6_3.length < 17592186044416 then (imprimaturref02_Words_expand.l2 k3 (x6_3 ++ [t147]) x10_11 (wrap64 (x11_3 + 1)) a0_0 a0_1) else (none)))) else (none)) else (none))) else (none)) else (none)) = some r := by first | (rw [hji42] at H; exact H) | (simp only [hji42] at H ⊢; exact H)
       have hji42w : (IntKind.i64.wrap (x11_3 - 15)) = ji42 := (i64_w _).trans hji42
       by_cases c43 : 0 ≤ (ji42)
       rotate_left
       ·rw [if_neg c43] at H
        exact absurd H (by simp)
       rw [if_pos c43] at H
       have c43b0 : decide (0 ≤ (ji42)) = true := decide_eq_true c43
       clear c43
       by_cases c44 : (ji42) < (x6_3.length : Int)
       rotate_left
       ·rw [if_neg c44] at H
        exact absurd H (by simp)
       rw [if_pos c44] at H
       have c44b0 : decide ((ji42) < (x6_3.length : Int)) = true := decide_eq_true c44
       clear c44
       replace H := Option.bind_eq_some_iff.mp H
       obtain ⟨t144, A450, H⟩ := H
       replace H : (if 0 ≤ (wrap64 (x11_3 - 2)) then (if (wrap64 (x11_3 - 2)) < (x6_3.length : Int) then ((imprimaturref02_Words_small.f a0_0 a0_1 (rd x6_3 (wrap64 (x11_3 - 2))) 17 19 10).bind fun t146 => ((imprimaturref02_Words_cut.f a0_0 a0_1 (IntKind.u64.wrap ((IntKind.u64.wrap ((IntKind.u64.wrap ((rd x6_3 (ji16)) + (rd x6_3 (ji19)))) + t144)) + t146))).bind fun t147 => (if x6_3.length < 17592186044416 then (imprimaturref02_Words_expand.l2 k3 (x6_3 ++ [t147]) x10_11 (wrap64 (x11_3 + 1)) a0_0 a0_1) else (none)))) else (none)) else (none)) = some r := H
       have A45 := aM A450
       clear A450
       obtain ⟨ji46, hji46⟩ : ∃ j_ : Int, (wrap64 (x11_3 - 2)) = j_ := ⟨_, rfl⟩
       replace H : (if 0 ≤ (ji46) then (if (ji46) < (x6_3.length : Int) then ((imprimaturref02_Words_small.f a0_0 a0_1 (rd x6_3 (ji46)) 17 19 10).bind fun t146 => ((imprimaturref02_Words_cut.f a0_0 a0_1 (IntKind.u64.wrap ((IntKind.u64.wrap ((IntKind.u64.wrap ((rd x6_3 (ji16)) + (rd x6_3 (ji19)))) + t144)) + t146))).bind fun t147 => (if x6_3.length < 17592186044416 then (imprimaturref02_Words_expand.l2 k3 (x6_3 ++ [t147]) x10_11 (wrap64 (x11_3 + 1)) a0_0 a0_1) else (none)))) else (none)) else (none)) = some r := by first | (rw [hji46] at H; exact H) | (simp only [hji46] at H ⊢; exact H)
       (try rw [hji46] at A45)
       have hji46w : (IntKind.i64.wrap (x11_3 - 2)) = ji46 := (i64_w _).trans hji46
       by_cases c47 : 0 ≤ (ji46)
       rotate_left
       ·rw [if_neg c47] at H
        exact absurd H (by simp)
       rw [if_pos c47] at H
       have c47b0 : decide (0 ≤ (ji46)) = true := decide_eq_true c47
       clear c47
       by_cases c48 : (ji46) < (x6_3.length : Int)
       rotate_left
       ·rw [if_neg c48] at H
        exact absurd H (by simp)
       rw [if_pos c48] at H
       have c48b0 : decide ((ji46) < (x6_3.length : Int)) = true := decide_eq_true c48
       clear c48
       replace H := Option.bind_eq_some_iff.mp H
       obtain ⟨t146, A490, H⟩ := H
       replace H : ((imprimaturref02_Words_cut.f a0_0 a0_1 (IntKind.u64.wrap ((IntKind.u64.wrap ((IntKind.u64.wrap ((rd x6_3 (ji16)) + (rd x6_3 (ji19)))) + t144)) + t146))).bind fun t147 => (if x6_3.length < 17592186044416 then (imprimaturref02_Words_expand.l2 k3 (x6_3 ++ [t147]) x10_11 (wrap64 (x11_3 + 1)) a0_0 a0_1) else (none))) = some r := H
       have A49 := aM A490
       clear A490
       replace H := Option.bind_eq_some_iff.mp H
       obtain ⟨t147, A500, H⟩ := H
       replace H : (if x6_3.length < 17592186044416 then (imprimaturref02_Words_expand.l2 k3 (x6_3 ++ [t147]) x10_11 (wrap64 (x11_3 + 1)) a0_0 a0_1) else (none)) = some r := H
       have A50 := aM A500
       clear A500
       by_cases c51 : x6_3.length < 17592186044416
       rotate_left
       ·rw [if_neg c51] at H
        exact absurd H (by simp)
       rw [if_pos c51] at H
       have LMc51 := aM c51
       clear c51
       obtain ⟨y148, hy148⟩ : ∃ y_ : List Int, y_ = (x6_3 ++ [t147]) := ⟨_, rfl⟩
       replace H : (imprimaturref02_Words_expand.l2 k3 y148 x10_11 (wrap64 (x11_3 + 1)) a0_0 a0_1) = some r := hyA hy148 H
       have Ny148 := aM hy148
       clear hy148
       have H' := aM H
       clear H
       try go_wp2
       replace HO_6 := aM (Kd.R_drew HO_6.out)
       replace BK128 := aM (blk_drew BK128.out)
       replace HB := aM (below_drew1 HB.out)
       obtain ⟨Ao53, co53, eo53⟩ := Kd.R_slice HO_6.out
       (first | subst eo53 | (injection eo53 with f1_ f2_ f3_; have f4_ := f1_.symm; have f5_ := f3_.symm; clear f1_ f2_ f3_; subst f4_; subst f5_))
       have p133 : 0 ≤ ((ji16) : Int) := of_decide_eq_true asm_
       have q133 : (ji16) < (x6_3.length : Int) := of_decide_eq_true asm_
       obtain ⟨ad133, e133, hx133_0⟩ := Kd.at_int (Kd.R_reads' HO_6.out).2.2 (ji16) p133 q133
       cases e133
       replace p133 := eq_true p133
       replace q133 := eq_true q133
       have p134 : 0 ≤ ((ji19) : Int) := of_decide_eq_true asm_
       have q134 : (ji19) < (x6_3.length : Int) := of_decide_eq_true asm_
       obtain ⟨ad134, e134, hx134_0⟩ := Kd.at_int (Kd.R_reads' HO_6.out).2.2 (ji19) p134 q134
       obtain rfl : ad133 = ad134 := (by injection e134)
       replace p134 := eq_true p134
       replace q134 := eq_true q134
       refine start_ (n := 12) (S := fun w' => w'.cell? (ad133.add ((ji16)).toNat) = some (.int .u64 (rd x6_3 (ji16))) ∧ w'.cell? (ad133.add ((ji19)).toNat) = some (.int .u64 (rd x6_3 (ji19)))) (ds := []) #[false, false, false, false, false, false, false, false, false, false, false, false] (by kernel_rfl) rfl rfl ⟨hx133_0, hx134_0⟩ (fun hHeld => ?_); refine with_tabW imprimaturref02_Words_expand.tab18 imprimaturref02_Words_expand.bits18 (fun HT_ HW_ => ?_)
       generalize wr.drew = w52 at HO_6 BK128 HB hx133_0 hx134_0 hHeld ⊢
       refine pB 0 50 12 1 ?_
       refine pB 1 51 12 3 ?_
       refine pB 2 52 12 7 ?_
       refine pB 3 53 12 15 ?_
       refine pB 5 55 12 47 ?_
       refine pB 6 56 12 111 ?_
       refine pB 7 57 12 239 ?_
       refine pB 8 58 12 495 ?_
       refine take_ (i := 4) (N := some 54) (v := ?_) (a' := ?_) (fl 12 511) rfl rfl (take_ofW HT_.out HW_.out (by kernel_rfl)) (fun _ _ _ h => h) (Or.inl ⟨by rfl, ?_⟩) hHeld ?_ ?_
       rotate_left
       ·rintro w' ⟨s0, s1⟩
        go_simp
        with_reducible rfl
       rotate_left
       ·simp only [Act.put, List.setIfInBounds_toArray, List.set_cons_zero, List.set_cons_succ, i64_w, i32_w]
        rfl
       refine take_ (i := 9) (N := some 59) (v := ?_) (a' := ?_) (fl 12 1023) rfl rfl (take_ofW HT_.out HW_.out (by kernel_rfl)) (fun _ _ _ h => h) (Or.inl ⟨by rfl, ?_⟩) hHeld ?_ ?_
       rotate_left
       ·rintro w' ⟨s0, s1⟩
        go_simp
        with_reducible rfl
       rotate_left
       ·simp only [Act.put, List.setIfInBounds_toArray, List.set_cons_zero, List.set_cons_succ, i64_w, i32_w]
        rfl
       refine pB 10 60 12 2047 ?_
       refine pB 11 12 12 4095 ?_
       refine done_ (done_of HT_.out (by kernel_rfl)) ?_
       have hcz54_0 : w52.cell? ⟨gb128, 0, none⟩ = some (.int .u64 a0_0) := (blk_cell BK128.out 0).trans rfl
       have hcz54_1 : w52.cell? ⟨gb128, 1, none⟩ = some (.int .u64 a0_1) := (blk_cell BK128.out 1).trans rfl
       have hfz54_0 := blk_frozen BK128.out 0
       have hfz54_1 := blk_frozen BK128.out 1
       try go_wp2
       replace HO_6 := aM (Kd.R_drew HO_6.out)
       replace BK128 := aM (blk_drew BK128.out)
       replace HB := aM (below_drew1 HB.out)
       have p143 : 0 ≤ ((ji42) : Int) := of_decide_eq_true asm_
       have q143 : (ji42) < (x6_3.length : Int) := of_decide_eq_true asm_
       obtain ⟨ad143, e143, hx143_0⟩ := Kd.at_int (Kd.R_reads' HO_6.out).2.2 (ji42) p143 q143
       obtain rfl : ad133 = ad143 := (by injection e143)
       replace p143 := eq_true p143
       replace q143 := eq_true q143
       have p145 : 0 ≤ ((ji46) : Int) := of_decide_eq_true asm_
       have q145 : (ji46) < (x6_3.length : Int) := of_decide_eq_true asm_
       obtain ⟨ad145, e145, hx145_0⟩ := Kd.at_int (Kd.R_reads' HO_6.out).2.2 (ji46) p145 q145
       obtain rfl : ad133 = ad145 := (by injection e145)
       replace p145 := eq_true p145
       replace q145 := eq_true q145
       refine start_ (n := 18) (S := fun w' => w'.cell? ⟨gb128, 0, none⟩ = some (.int .u64 a0_0) ∧ w'.cell? ⟨gb128, 1, none⟩ = some (.int .u64 a0_1) ∧ w'.cell? (ad133.add ((ji42)).toNat) = some (.int .u64 (rd x6_3 (ji42))) ∧ w'.cell? (ad133.add ((ji46)).toNat) = some (.int .u64 (rd x6_3 (ji46)))) (ds := []) #[false, false, false, false, false, false, false, false, false, false, false, false, false, false, false, false, false, false] (by kernel_rfl) rfl rfl ⟨(blk_cell BK128.out 0).trans rfl, (blk_cell BK128.out 1).trans rfl, hx143_0, hx145_0⟩ (fun hHeld => ?_); refine with_tabW imprimaturref02_Words_expand.tab20 imprimaturref02_Words_expand.bits20 (fun HT_ HW_ => ?_)
       generalize w52.drew = w55 at HO_6 BK128 HB hx143_0 hx145_0 hHeld ⊢
       refine pB 0 64 18 1 ?_
       refine pB 2 66 18 5 ?_
       refine pB 3 67 18 13 ?_
       refine pB 4 68 18 29 ?_
       refine pB 5 69 18 61 ?_
       refine pB 10 74 18 1085 ?_
       refine pB 11 75 18 3133 ?_
       refine pB 12 76 18 7229 ?_
       refine pB 13 77 18 15421 ?_
       refine take_ (i := 1) (N := some 65) (v := ?_) (a' := ?_) (fl 18 15423) rfl rfl (take_ofW HT_.out HW_.out (by kernel_rfl)) (fun _ _ _ h => h) (Or.inl ⟨by rfl, ?_⟩) hHeld ?_ ?_
       rotate_left
       ·rintro w' ⟨s0, s1, s2, s3⟩
        go_simp
        with_reducible rfl
       rotate_left
       ·simp only [Act.put, List.setIfInBounds_toArray, List.set_cons_zero, List.set_cons_succ, i64_w, i32_w]
        rfl
       refine take_ (i := 6) (N := some 70) (v := ?_) (a' := ?_) (fl 18 15487) rfl rfl (take_ofW HT_.out HW_.out (by kernel_rfl)) (fun _ _ _ h => h) (Or.inl ⟨by rfl, ?_⟩) hHeld ?_ ?_
       rotate_left
       ·rintro w' ⟨s0, s1, s2, s3⟩
        go_simp
        with_reducible rfl
       rotate_left
       ·simp only [Act.put, List.setIfInBounds_toArray, List.set_cons_zero, List.set_cons_succ, i64_w, i32_w]
        rfl
       refine take_ (i := 9) (N := some 73) (v := ?_) (a' := ?_) (fl 18 15999) rfl rfl (take_ofW HT_.out HW_.out (by kernel_rfl)) (fun _ _ _ h => h) (Or.inl ⟨by rfl, ?_⟩) hHeld ?_ ?_
       rotate_left
       ·rintro w' ⟨s0, s1, s2, s3⟩
        go_simp
        with_reducible rfl
       rotate_left
       ·simp only [Act.put, List.setIfInBounds_toArray, List.set_cons_zero, List.set_cons_succ, i64_w, i32_w]
        rfl
       refine take_ (i := 14) (N := some 78) (v := ?_) (a' := ?_) (fl 18 32383) rfl rfl (take_ofW HT_.out HW_.out (by kernel_rfl)) (fun _ _ _ h => h) (Or.inl ⟨by rfl, ?_⟩) hHeld ?_ ?_
       rotate_left
       ·rintro w' ⟨s0, s1, s2, s3⟩
        go_simp
        with_reducible rfl
       rotate_left
       ·simp only [Act.put, List.setIfInBounds_toArray, List.set_cons_zero, List.set_cons_succ, i64_w, i32_w]
        rfl
       refine one_ (i := 7) (N := some 71) (fl 18 32511) rfl rfl (one_of HT_.out (by kernel_rfl)) (by decide) (fun K hK => ?_)
       refine goes_ Tryd.func106 (by kernel_rfl) rfl #[.agg #[.int .u64 a0_0, .int .u64 a0_1], .int .u64 (rd x6_3 (ji42)), .int .u64 7, .int .u64 18, .int .u64 3] (by rfl) rfl rfl (by (try simp only [List.map_toArray, List.map_cons, List.map_nil]); first | done | (simp only [hji42]; rfl) | rfl | (simp only [List.length_drop, List.length_take]; rfl)) ?_
       with_reducible refine (imprimaturref02_Words_small.calls a0_0 a0_1 (rd x6_3 (ji42)) 7 18 3 t144 _ A45.out).mono ?_
       rintro e w56 ⟨rfl, hb⟩
       have HS2_ := (hb.cell (World.block_lt_of_cell? _ _ (hHeld.2.2.1))).trans (hHeld.2.2.1)
       have HS3_ := (hb.cell (World.block_lt_of_cell? _ _ (hHeld.2.2.2))).trans (hHeld.2.2.2)
       refine ⟨_, rfl, ?_⟩
       replace HO_6 := aM (Kd.R_below (rL HO_6.out) hb)
       replace BK128 := aM (blk_below (g := gb128) (o := .cells #[.int .u64 a0_0, .int .u64 a0_1] 115 (0, 0)) (bL BK128.out) hb)
       replace HB := aM (below_step (belG GE128.out) hb)
       (try clear hb)
       (try clear hb2)
       (try clear hk)
       (try clear hi)
       refine hK.out _ _ ⟨(blk_cell BK128.out 0).trans rfl, (blk_cell BK128.out 1).trans rfl, HS2_, HS3_⟩ (fun hHeld => ?_)
       clear hK K
       refine normA (some 71) ?_
       refine pB 8 72 18 32767 ?_
       refine one_ (i := 15) (N := some 79) (fl 18 65535) rfl rfl (one_of HT_.out (by kernel_rfl)) (by decide) (fun K hK => ?_)
       refine goes_ Tryd.func106 (by kernel_rfl) rfl #[.agg #[.int .u64 a0_0, .int .u64 a0_1], .int .u64 (rd x6_3 (ji46)), .int .u64 17, .int .u64 19, .int .u64 10] (by rfl) rfl rfl (by (try simp only [List.map_toArray, List.map_cons, List.map_nil]); first | done | (simp only [hji46]; rfl) | rfl | (simp only [List.length_drop, List.length_take]; rfl)) ?_
       with_reducible refine (imprimaturref02_Words_small.calls a0_0 a0_1 (rd x6_3 (ji46)) 17 19 10 t146 _ A49.out).mono ?_
       rintro e w57 ⟨rfl, hb⟩
       have HS2_ := (hb.cell (World.block_lt_of_cell? _ _ (hHeld.2.2.1))).trans (hHeld.2.2.1)
       have HS3_ := (hb.cell (World.block_lt_of_cell? _ _ (hHeld.2.2.2))).trans (hHeld.2.2.2)
       refine ⟨_, rfl, ?_⟩
       replace HO_6 := aM (Kd.R_below (rL HO_6.out) hb)
       replace BK128 := aM (blk_below (g := gb128) (o := .cells #[.int .u64 a0_0, .int .u64 a0_1] 115 (0, 0)) (bL BK128.out) hb)
       replace HB := aM (below_step (belG GE128.out) hb)
       (try clear hb)
       (try clear hb2)
       (try clear hk)
       (try clear hi)
       refine hK.out _ _ ⟨(blk_cell BK128.out 0).trans rfl, (blk_cell BK128.out 1).trans rfl, HS2_, HS3_⟩ (fun hHeld => ?_)
       clear hK K
       refine normA (some 79) ?_
       refine pB 16 80 18 131071 ?_
       refine pB 17 12 18 262143 ?_
       refine done_ (done_of HT_.out (by kernel_rfl)) ?_
       have hcz58_0 : w57.cell? ⟨gb128, 0, none⟩ = some (.int .u64 a0_0) := (blk_cell BK128.out 0).trans rfl
       have hcz58_1 : w57.cell? ⟨gb128, 1, none⟩ = some (.int .u64 a0_1) := (blk_cell BK128.out 1).trans rfl
       have hfz58_0 := blk_frozen BK128.out 0
       have hfz58_1 := blk_frozen BK128.out 1
       try go_wp2_with (first | ((with_reducible refine gate_callee (f := 96) rfl ?_); refine goesL_ (some 101) rfl rfl Tryd.func96 (by kernel_rfl) rfl #[.agg #[.int .u64 a0_0, .int .u64 a0_1], .int .u64 (IntKind.u64.wrap ((IntKind.u64.wrap ((IntKind.u64.wrap ((rd x6_3 (ji16)) + (rd x6_3 (ji19)))) + t144)) + t146))] rfl (by (try simp only [List.map_toArray, List.map_cons, List.map_nil]); first | done | (simp only [hji16, hji19]; rfl) | rfl | (simp only [List.length_drop, List.length_take]; rfl)) ?_; (with_reducible refine (imprimaturref02_Words_cut.calls a0_0 a0_1 (IntKind.u64.wrap ((IntKind.u64.wrap ((IntKind.u64.wrap ((rd x6_3 (ji16)) + (rd x6_3 (ji19)))) + t144)) + t146)) t147 _ A50.out).mono ?_); rintro e w59 ⟨rfl, hb⟩; refine ⟨_, rfl, ?_⟩; replace HO_6 := aM (Kd.R_below (rL HO_6.out) hb); replace BK128 := aM (blk_below (g := gb128) (o := .cells #[.int .u64 a0_0, .int .u64 a0_1] 115 (0, 0)) (bL BK128.out) hb); replace HB := aM (below_step (belG GE128.out) hb); clear hb) | ((with_reducible refine gate_builtin (b := .append) (xs := #[.tmp 98, .tmp 102]) rfl ?_); at_builtin; refine Kd.R_append (Kd.int .u64) (w0 := w) w.heap.size rfl (.tmp 98) (.tmp 102) 116 94 (.int .u64 0) 8 rfl Tryd.underlying116 info94 rfl (by decide) (by omega) (.slice (some ad133) x6_3.length co53) x6_3 t147 [.int .u64 t147] (fun _ => True) (fun _ => False) rfl rfl ?aP (fun _ hk => hk.elim) ?aF ?aO ?aB ?aS ?aL ?_; (case aP => exact rfl); (case aB => exact (belG GE128.out)); (case aF => exact (fun _ _ => trivial)); (case aO => exact (rL HO_6.out)); (case aS => exact (below_size (belG GE128.out))); (case aL => have := LMc51.out; omega); intro v149 w60 ho hb hg hat; rw [← Ny148.out] at ho; replace BK128 := aM (blk_grown (g := gb128) (o := .cells #[.int .u64 a0_0, .int .u64 a0_1] 115 (0, 0)) (bL BK128.out) hg (Kd.R_ne HO_6.out BK128.out (by decide))); replace HB := aM (hb); have HO150 := aM (ho); clear HO_6; clear ho hb hg hat))
       go_roundg k3
       case measure => have := HK1.out; have := HJ11.out; have := HK3.out; omega
       case rel => exact ⟨(y148), (wrap64 (x11_3 + 1)), rfS, H', ⟨by have := HK1.out; have := HJ11.out; have := HK3.out; omega⟩, ⟨by (with_reducible repeat (first | apply Kd.R_alloc | apply Kd.R_drewN | apply Kd.R_drew)); exact HO150.out⟩, ⟨by (with_reducible repeat (first | refine blk_drewN ?_ _ | refine blk_drew ?_ | refine blk_alloc ?_ _)); exact BK128.out⟩, ⟨by repeat (first | (with_reducible first | exact HB.out | apply below_alloc | apply pw_below_drewN | apply below_drew1 | refine below_set ?_ GE128.out) | exact HB.out)⟩⟩
/-! ### imprimaturref02_Words_big: function 107 -/
def imprimaturref02_Words_big.f (a0_0 : Int) (a0_1 : Int) (a1 : Int) (a2 : Int) (a3 : Int) (a4 : Int) : Option (Int) := (imprimaturref02_Words_turn.f a0_0 a0_1 a1 a2).bind fun t152 => ((imprimaturref02_Words_turn.f a0_0 a0_1 a1 a3).bind fun t153 => ((imprimaturref02_Words_turn.f a0_0 a0_1 a1 a4).bind fun t154 => (some (Go.bits .xor .u64 (Go.bits .xor .u64 t152 t153) t154))))
def imprimaturref02_Words_big.T1 : Bool × List (List Nat × List Nat) := (true, [([], []), ([], []), ([], []), ([0, 1, 2], [0, 1, 2]), ([], []), ([], []), ([], []), ([4, 5, 6, 3], [4, 5, 6]), ([3, 7], [3, 7]), ([], []), ([], []), ([], []), ([9, 10, 11, 7], [9, 10, 11]), ([8, 12], [8, 12]), ([13, 12, 0, 1, 2, 3, 4, 5, 6, 7, 8, 9, 10, 11, 12, 13], [13])])
def imprimaturref02_Words_big.B1 : List Nat := [0, 0, 0, 7, 0, 0, 0, 127, 255, 0, 0, 0, 3839, 8191, 16383]
theorem imprimaturref02_Words_big.tab1 : rtab .any (opsOf Tryd.f107 1) = imprimaturref02_Words_big.T1 := by kernel_rfl
theorem imprimaturref02_Words_big.bits1 : waitsOk imprimaturref02_Words_big.T1.2 imprimaturref02_Words_big.B1 = true := by kernel_rfl
set_option maxHeartbeats 8000000 in
set_option maxRecDepth 100000 in
theorem imprimaturref02_Words_big.calls (a0_0 : Int) (a0_1 : Int) (a1 : Int) (a2 : Int) (a3 : Int) (a4 : Int) (r : Int) (w : World) (h : imprimaturref02_Words_big.f a0_0 a0_1 a1 a2 a3 a4 = some r) :
  Calls Tryd.prog 107 #[.agg #[.int .u64 a0_0, .int .u64 a0_1], .int .u64 a1, .int .u64 a2, .int .u64 a3, .int .u64 a4] w fun e w' => e = .returned (.int .u64 r) ∧ Below w.heap.size w w' := by
 have hu115 := Tryd.underlying115
 have HB := aM (Below.refl w.heap.size w)
 have H : ((imprimaturref02_Words_turn.f a0_0 a0_1 a1 a2).bind fun t152 => ((imprimaturref02_Words_turn.f a0_0 a0_1 a1 a3).bind fun t153 => ((imprimaturref02_Words_turn.f a0_0 a0_1 a1 a4).bind fun t154 => (some (Go.bits .xor .u64 (Go.bits .xor .u64 t152 t153) t154))))) = some r := h
 clear h
 replace H := Option.bind_eq_some_iff.mp H
 obtain ⟨t152, A60, H⟩ := H
 replace H : ((imprimaturref02_Words_turn.f a0_0 a0_1 a1 a3).bind fun t153 => ((imprimaturref02_Words_turn.f a0_0 a0_1 a1 a4).bind fun t154 => (some (Go.bits .xor .u64 (Go.bits .xor .u64 t152 t153) t154)))) = some r := H
 have A6 := aM A60
 clear A60
 replace H := Option.bind_eq_some_iff.mp H
 obtain ⟨t153, A70, H⟩ := H
 replace H : ((imprimaturref02_Words_turn.f a0_0 a0_1 a1 a4).bind fun t154 => (some (Go.bits .xor .u64 (Go.bits .xor .u64 t152 t153) t154))) = some r := H
 have A7 := aM A70
 clear A70
 replace H := Option.bind_eq_some_iff.mp H
 obtain ⟨t154, A80, H⟩ := H
 replace H : (some (Go.bits .xor .u64 (Go.bits .xor .u64 t152 t153) t154)) = some r := H
 have A8 := aM A80
 clear A80
 obtain rfl := Option.some.inj H
 go_enter Tryd.func107, Tryd.ntmps107
 try go_wp2_with (first | ((with_reducible refine gate_dst (N := 5) rfl ?_); refine box_event ?hg (N := 5) ?hd (cs := #[.int .u64 a0_0, .int .u64 a0_1]) (t := 115) ?hr ?_; (case hd => rfl); (case hg => rfl); (case hr => first | (go_simp; done) | (go_simp; rfl)); intro gb151 hg w9 hbox hb; have BK151 := aM (hbox); have GW151 := aM ((by rw [hg]; exact (below_size bel) : w.heap.size ≤ gb151)); have GE151 := aM ((by rw [hg]; exact (below_size bel) : w.heap.size ≤ gb151)); replace HB := aM (below_step bel hb); clear hb hbox hg))
 replace BK151 := aM (blk_drew BK151.out)
 replace HB := aM (below_drew1 HB.out)
 refine start_ (n := 15) (S := fun w' => w'.cell? ⟨gb151, 0, none⟩ = some (.int .u64 a0_0) ∧ w'.cell? ⟨gb151, 1, none⟩ = some (.int .u64 a0_1)) (ds := []) (fl 15 0) (by kernel_rfl) rfl rfl ⟨(blk_cell BK151.out 0).trans rfl, (blk_cell BK151.out 1).trans rfl⟩ (fun hHeld => ?_); refine with_tabW imprimaturref02_Words_big.tab1 imprimaturref02_Words_big.bits1 (fun HT_ HW_ => ?_)
 generalize w9.drew = w10 at BK151 HB hHeld ⊢
 refine pB 1 12 15 2 ?_
 refine pB 2 13 15 6 ?_
 refine pB 5 16 15 38 ?_
 refine pB 6 17 15 102 ?_
 refine pB 10 21 15 1126 ?_
 refine pB 11 22 15 3174 ?_
 refine take_ (i := 0) (N := some 11) (v := ?_) (a' := ?_) (fl 15 3175) rfl rfl (take_ofW HT_.out HW_.out (by kernel_rfl)) (fun _ _ _ h => h) (Or.inl ⟨by rfl, ?_⟩) hHeld ?_ ?_
 rotate_left
 ·rintro w' ⟨s0, s1⟩
  go_simp
  with_reducible rfl
 rotate_left
 ·simp only [Act.put, List.setIfInBounds_toArray, List.set_cons_zero, List.set_cons_succ, i64_w, i32_w]
  rfl
 refine take_ (i := 4) (N := some 15) (v := ?_) (a' := ?_) (fl 15 3191) rfl rfl (take_ofW HT_.out HW_.out (by kernel_rfl)) (fun _ _ _ h => h) (Or.inl ⟨by rfl, ?_⟩) hHeld ?_ ?_
 rotate_left
 ·rintro w' ⟨s0, s1⟩
  go_simp
  with_reducible rfl
 rotate_left
 ·simp only [Act.put, List.setIfInBounds_toArray, List.set_cons_zero, List.set_cons_succ, i64_w, i32_w]
  rfl
 refine take_ (i := 9) (N := some 20) (v := ?_) (a' := ?_) (fl 15 3703) rfl rfl (take_ofW HT_.out HW_.out (by kernel_rfl)) (fun _ _ _ h => h) (Or.inl ⟨by rfl, ?_⟩) hHeld ?_ ?_
 rotate_left
 ·rintro w' ⟨s0, s1⟩
  go_simp
  with_reducible rfl
 rotate_left
 ·simp only [Act.put, List.setIfInBounds_toArray, List.set_cons_zero, List.set_cons_succ, i64_w, i32_w]
  rfl
 refine one_ (i := 3) (N := some 14) (fl 15 3711) rfl rfl (one_of HT_.out (by kernel_rfl)) (by decide) (fun K hK => ?_)
 refine goes_ Tryd.func112 (by kernel_rfl) rfl #[.agg #[.int .u64 a0_0, .int .u64 a0_1], .int .u64 a1, .int .u64 a2] (by rfl) rfl rfl eqA ?_
 with_reducible refine (imprimaturref02_Words_turn.calls a0_0 a0_1 a1 a2 t152 _ A6.out).mono ?_
 rintro e w11 ⟨rfl, hb⟩
 refine ⟨_, rfl, ?_⟩
 replace BK151 := aM (blk_below (g := gb151) (o := .cells #[.int .u64 a0_0, .int .u64 a0_1] 115 (0, 0)) (bL BK151.out) hb)
 replace HB := aM (below_step (belG GE151.out) hb)
 (try clear hb)
 (try clear hb2)
 (try clear hk)
 (try clear hi)
 refine hK.out _ _ ⟨(blk_cell BK151.out 0).trans rfl, (blk_cell BK151.out 1).trans rfl⟩ (fun hHeld => ?_)
 clear hK K
 refine normA (some 14) ?_
 refine one_ (i := 7) (N := some 18) (fl 15 3839) rfl rfl (one_of HT_.out (by kernel_rfl)) (by decide) (fun K hK => ?_)
 refine goes_ Tryd.func112 (by kernel_rfl) rfl #[.agg #[.int .u64 a0_0, .int .u64 a0_1], .int .u64 a1, .int .u64 a3] (by rfl) rfl rfl eqA ?_
 with_reducible refine (imprimaturref02_Words_turn.calls a0_0 a0_1 a1 a3 t153 _ A7.out).mono ?_
 rintro e w12 ⟨rfl, hb⟩
 refine ⟨_, rfl, ?_⟩
 replace BK151 := aM (blk_below (g := gb151) (o := .cells #[.int .u64 a0_0, .int .u64 a0_1] 115 (0, 0)) (bL BK151.out) hb)
 replace HB := aM (below_step (belG GE151.out) hb)
 (try clear hb)
 (try clear hb2)
 (try clear hk)
 (try clear hi)
 refine hK.out _ _ ⟨(blk_cell BK151.out 0).trans rfl, (blk_cell BK151.out 1).trans rfl⟩ (fun hHeld => ?_)
 clear hK K
 refine normA (some 18) ?_
 refine pB 8 19 15 4095 ?_
 refine one_ (i := 12) (N := some 23) (fl 15 8191) rfl rfl (one_of HT_.out (by kernel_rfl)) (by decide) (fun K hK => ?_)
 refine goes_ Tryd.func112 (by kernel_rfl) rfl #[.agg #[.int .u64 a0_0, .int .u64 a0_1], .int .u64 a1, .int .u64 a4] (by rfl) rfl rfl eqA ?_
 with_reducible refine (imprimaturref02_Words_turn.calls a0_0 a0_1 a1 a4 t154 _ A8.out).mono ?_
 rintro e w13 ⟨rfl, hb⟩
 refine ⟨_, rfl, ?_⟩
 replace BK151 := aM (blk_below (g := gb151) (o := .cells #[.int .u64 a0_0, .int .u64 a0_1] 115 (0, 0)) (bL BK151.out) hb)
 replace HB := aM (below_step (belG GE151.out) hb)
 (try clear hb)
 (try clear hb2)
 (try clear hk)
 (try clear hi)
 refine hK.out _ _ ⟨(blk_cell BK151.out 0).trans rfl, (blk_cell BK151.out 1).trans rfl⟩ (fun hHeld => ?_)
 clear hK K
 refine normA (some 23) ?_
 refine pB 13 24 15 16383 ?_
 refine pB 14 10 15 32767 ?_
 refine done_ (done_of HT_.out (by kernel_rfl)) ?_
 try go_wp2
 go_ret
 exact ⟨erR, by repeat (first | (with_reducible first | exact HB.out | apply below_alloc | apply pw_below_drewN | apply below_drew1 | refine below_set ?_ GE151.out) | exact HB.out)⟩

end Go.Proofs.YtdpdmmbdoeefbaaDoor.PRf
