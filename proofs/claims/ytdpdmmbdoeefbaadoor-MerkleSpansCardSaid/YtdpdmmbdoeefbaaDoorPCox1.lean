-- Written by a program of this session, after the print of the kit.
import Derived.Test.YtdpdmmbdoeefbaaDoorWC
import Derived.Test.YtdpdmmbdoeefbaaDoorPCox0
namespace Go.Proofs.YtdpdmmbdoeefbaaDoor.PCo
open Go.RowKit X PCut YtdpdmmbdoeefbaaDoorW.PrintWords YtdpdmmbdoeefbaaDoorW.PrintLast YtdpdmmbdoeefbaaDoorW.PrintMore
attribute [local go_sem] max2_int min2_int max_two min_two max_three min_three max_four min_four   -- for this text's walks alone
set_option linter.unusedVariables false
set_option linter.unusedSimpArgs false

/-! ### imprimaturref06_ok: function 59 -/
def imprimaturref06_ok.l0 : Nat → List (List Int) → Int → Option (Int)
 | 0, _, _ => none
 | k + 1, x0, x3 => if x3 < (x0.length : Int) then (if 0 ≤ x3 then (if ((rd_L1 x0 x3).length : Int) = 32 then (imprimaturref06_ok.l0 k x0 (wrap64 (x3 + 1))) else (some 1)) else (none)) else (some 0)
def imprimaturref06_ok.f (k : Nat) (l0 : List (List Int)) : Option (Int) := if (l0.length : Int) > 4096 then (some 2) else (imprimaturref06_ok.l0 k l0 0)
theorem imprimaturref06_ok.mono_l : ∀ k, (∀ y0 y1, LeO (imprimaturref06_ok.l0 k y0 y1) (imprimaturref06_ok.l0 (k + 1) y0 y1))
 | 0 => fun _ _ r h => by simp [imprimaturref06_ok.l0] at h
 | k + 1 => by
  have ih0 := imprimaturref06_ok.mono_l k
  intro y0 y1
  unfold imprimaturref06_ok.l0
  repeat' first
  | (with_reducible exact ih0 _ _)
  | (with_reducible exact LeO.refl _)
  | (with_reducible exact LeO.none _)
  | (with_reducible refine LeO.ite ?_ ?_)
  | (with_reducible refine LeO.bind ?_ (fun _ => ?_))
theorem imprimaturref06_ok.mono : ∀ a0 k, LeO (imprimaturref06_ok.f k a0) (imprimaturref06_ok.f (k + 1) a0) := by
 intro a0 k
 have ih0 := imprimaturref06_ok.mono_l k
 unfold imprimaturref06_ok.f
 repeat' first
   | (with_reducible exact ih0 _ _)
   | (with_reducible exact LeO.refl _)
   | (with_reducible exact LeO.none _)
   | (with_reducible refine LeO.ite ?_ ?_)
   | (with_reducible refine LeO.bind ?_ (fun _ => ?_))
set_option maxHeartbeats 8000000 in
set_option maxRecDepth 100000 in
theorem imprimaturref06_ok.calls (k : Nat) (A0 : Option Addr) (c0 : Nat) (l0 : List (List Int)) (r : Int) (w : World) (hr0 : Kd.C (Kd.slice 5 (Kd.int .u8)) w A0 l0.length l0) (hc0 : l0.length ≤ c0) (h : imprimaturref06_ok.f k l0 = some r) :
  Calls Tryd.prog 59 #[.slice A0 l0.length c0] w fun e w' => e = .returned (.int .i64 r) ∧ Drawn0 w w' := by
 have HR0 := aM hr0
 have HC0 := aM hc0
 clear hr0 hc0
 have H : (if (l0.length : Int) > 4096 then (some 2) else (imprimaturref06_ok.l0 k l0 0)) = some r := h
 clear h
 by_cases c2 : (l0.length : Int) > 4096
 ·rw [if_pos c2] at H
  have c2b0 : decide (4096 < (l0.length : Int)) = true := decide_eq_true c2
  have c2b1 : decide (4096 < l0.length) = true := decide_eq_true (by omega)
  clear c2
  obtain rfl := Option.some.inj H
  go_enter Tryd.func59, Tryd.ntmps59
  go_wp2
  go_ret
  exact ⟨by first | rfl | (simp; done) | (simp [*]; done), by repeat (first | exact Drawn0.refl _ | apply Drawn0.step)⟩
 rw [if_neg c2] at H
 have c2b0 : decide (4096 < (l0.length : Int)) = false := decide_eq_false c2
 have c2b1 : decide (4096 < l0.length) = false := decide_eq_false (by omega)
 clear c2
 have H' := aM H
 clear H
 go_enter Tryd.func59, Tryd.ntmps59
 go_wp2
 go_loopg [3] k (fun kq v3 w' => ∃ (x3_1 : Int), v3 = .int .i64 x3_1 ∧ Aside0 (imprimaturref06_ok.l0 kq l0 x3_1 = some r) ∧ Aside0 (kq ≤ k) ∧ Drawn0 w w')
 case atStart => exact ⟨(0), rfS, H', ⟨Nat.le_refl _⟩, by repeat (first | exact Drawn0.refl _ | apply Drawn0.step)⟩
 case round =>
  clear H'
  try clear c2
  try clear c2b0
  try clear c2b1
  obtain ⟨x3_1, rfl, HA, HK1, ⟨m1, rfl⟩⟩ := hrel
  cases gk with
  | zero => exact absurd HA.out (by simp [imprimaturref06_ok.l0])
  | succ k1 =>
   have H := HA.out
   clear HA
   simp only [imprimaturref06_ok.l0] at H
   by_cases c3 : x3_1 < (l0.length : Int)
   rotate_left
   ·rw [if_neg c3] at H
    have c3b0 : decide (x3_1 < (l0.length : Int)) = false := decide_eq_false c3
    clear c3
    obtain rfl := Option.some.inj H
    go_wp2
    go_ret
    exact ⟨by first | rfl | (simp; done) | (simp [*]; done), by repeat (first | exact Drawn0.refl _ | apply Drawn0.step)⟩

   rw [if_pos c3] at H
   have c3b0 : decide (x3_1 < (l0.length : Int)) = true := decide_eq_true c3
   clear c3
   by_cases c4 : 0 ≤ x3_1
   rotate_left
   ·rw [if_neg c4] at H
    exact absurd H (by simp)
   rw [if_pos c4] at H
   have c4b0 : decide (0 ≤ x3_1) = true := decide_eq_true c4
   clear c4
   by_cases c5 : ((rd_L1 l0 x3_1).length : Int) = 32
   ·rw [if_pos c5] at H
    have c5b0 : (((rd_L1 l0 x3_1).length : Int) == 32) = true := beq_iff_eq.mpr c5
    have c5b1 : (((rd_L1 l0 x3_1).length : Int) != 32) = false := bne_eq_false_iff_eq.mpr c5
    clear c5
    have H' := aM H
    clear H
    have p101 : 0 ≤ (x3_1 : Int) := of_decide_eq_true asm_
    have q101 : x3_1 < (l0.length : Int) := of_decide_eq_true asm_
    obtain ⟨ad101, A101_0, c101_0, e101, hx101_0, hl101_0, hi101_0⟩ := at_L1 HR0.out x3_1 p101 q101
    cases e101
    have HR101_0 := aM hi101_0
    have HC101_0 := aM hl101_0
    clear hi101_0 hl101_0
    replace p101 := eq_true p101
    replace q101 := eq_true q101
    go_wp2
    go_roundg k1
    case measure => have := HK1.out; omega
    case rel => exact ⟨(wrap64 (x3_1 + 1)), rfS, H', ⟨by have := HK1.out; omega⟩, by repeat (first | exact Drawn0.refl _ | apply Drawn0.step)⟩
   rw [if_neg c5] at H
   have c5b0 : (((rd_L1 l0 x3_1).length : Int) == 32) = false := beq_eq_false_iff_ne.mpr c5
   have c5b1 : (((rd_L1 l0 x3_1).length : Int) != 32) = true := bne_iff_ne.mpr c5
   obtain rfl := Option.some.inj H
   have p101 : 0 ≤ (x3_1 : Int) := of_decide_eq_true asm_
   have q101 : x3_1 < (l0.length : Int) := of_decide_eq_true asm_
   obtain ⟨ad101, A101_0, c101_0, e101, hx101_0, hl101_0, hi101_0⟩ := at_L1 HR0.out x3_1 p101 q101
   cases e101
   have HR101_0 := aM hi101_0
   have HC101_0 := aM hl101_0
   clear hi101_0 hl101_0
   replace p101 := eq_true p101
   replace q101 := eq_true q101
   go_wp2
   go_ret
   exact ⟨by first | rfl | (simp; done) | (simp [*]; done), by repeat (first | exact Drawn0.refl _ | apply Drawn0.step)⟩
/-! ### imprimaturref06_Half: function 72 -/
def imprimaturref06_Half.l0 : Nat → Int → Int → Option (Int)
 | 0, _, _ => none
 | k + 1, x0, x3 => if (wrap64 (x3 * 2)) < x0 then (imprimaturref06_Half.l0 k x0 (wrap64 (x3 * 2))) else (some x3)
def imprimaturref06_Half.f (k : Nat) (a0 : Int) : Option (Int) := imprimaturref06_Half.l0 k a0 1
theorem imprimaturref06_Half.mono_l : ∀ k, (∀ y0 y1, LeO (imprimaturref06_Half.l0 k y0 y1) (imprimaturref06_Half.l0 (k + 1) y0 y1))
 | 0 => fun _ _ r h => by simp [imprimaturref06_Half.l0] at h
 | k + 1 => by
  have ih0 := imprimaturref06_Half.mono_l k
  intro y0 y1
  unfold imprimaturref06_Half.l0
  repeat' first
  | (with_reducible exact ih0 _ _)
  | (with_reducible exact LeO.refl _)
  | (with_reducible exact LeO.none _)
  | (with_reducible refine LeO.ite ?_ ?_)
  | (with_reducible refine LeO.bind ?_ (fun _ => ?_))
theorem imprimaturref06_Half.mono : ∀ a0 k, LeO (imprimaturref06_Half.f k a0) (imprimaturref06_Half.f (k + 1) a0) := by
 intro a0 k
 have ih0 := imprimaturref06_Half.mono_l k
 unfold imprimaturref06_Half.f
 repeat' first
   | (with_reducible exact ih0 _ _)
   | (with_reducible exact LeO.refl _)
   | (with_reducible exact LeO.none _)
   | (with_reducible refine LeO.ite ?_ ?_)
   | (with_reducible refine LeO.bind ?_ (fun _ => ?_))
set_option maxHeartbeats 8000000 in
set_option maxRecDepth 100000 in
theorem imprimaturref06_Half.calls (k : Nat) (a0 : Int) (r : Int) (w : World) (h : imprimaturref06_Half.f k a0 = some r) :
  Calls Tryd.prog 72 #[.int .i64 a0] w fun e w' => e = .returned (.int .i64 r) ∧ Drawn0 w w' := by
 have H : (imprimaturref06_Half.l0 k a0 1) = some r := h
 clear h
 have H' := aM H
 clear H
 go_enter Tryd.func72, Tryd.ntmps72
 go_wp2
 go_loopg [3] k (fun kq v3 w' => ∃ (x3_1 : Int), v3 = .int .i64 x3_1 ∧ Aside0 (imprimaturref06_Half.l0 kq a0 x3_1 = some r) ∧ Aside0 (kq ≤ k) ∧ Drawn0 w w')
 case atStart => exact ⟨(1), rfS, H', ⟨Nat.le_refl _⟩, by repeat (first | exact Drawn0.refl _ | apply Drawn0.step)⟩
 case round =>
  clear H'
  obtain ⟨x3_1, rfl, HA, HK1, ⟨m1, rfl⟩⟩ := hrel
  cases gk with
  | zero => exact absurd HA.out (by simp [imprimaturref06_Half.l0])
  | succ k1 =>
   have H := HA.out
   clear HA
   simp only [imprimaturref06_Half.l0] at H
   by_cases c2 : (wrap64 (x3_1 * 2)) < a0
   ·rw [if_pos c2] at H
    have c2b0 : decide ((wrap64 (x3_1 * 2)) < a0) = true := decide_eq_true c2
    clear c2
    have H' := aM H
    clear H
    go_wp2
    go_roundg k1
    case measure => have := HK1.out; omega
    case rel => exact ⟨(wrap64 (x3_1 * 2)), rfS, H', ⟨by have := HK1.out; omega⟩, by repeat (first | exact Drawn0.refl _ | apply Drawn0.step)⟩
   rw [if_neg c2] at H
   have c2b0 : decide ((wrap64 (x3_1 * 2)) < a0) = false := decide_eq_false c2
   clear c2
   obtain rfl := Option.some.inj H
   go_wp2
   go_ret
   exact ⟨by first | rfl | (simp; done) | (simp [*]; done), by repeat (first | exact Drawn0.refl _ | apply Drawn0.step)⟩

/-! ### imprimaturref06_Eight: function 75 -/
def imprimaturref06_Eight.l0 : Nat → List Int → Int → Int → Option (List Int)
 | 0, _, _, _ => none
 | k + 1, x3, x4, x5 => if x5 < 8 then ((some (([(Int.tmod x4 256) % 256] : List Int) : List Int)).bind fun y102 => (if y102.length + x3.length < 140737488355328 then (imprimaturref06_Eight.l0 k (y102 ++ x3) (IntKind.u64.wrap (Int.tdiv x4 256)) (wrap64 (x5 + 1))) else (none))) else (some x3)
def imprimaturref06_Eight.f (k : Nat) (a0 : Int) : Option (List Int) := imprimaturref06_Eight.l0 k ([] : List Int) (IntKind.u64.wrap (a0)) 0
theorem imprimaturref06_Eight.mono_l : ∀ k, (∀ y0 y1 y2, LeO (imprimaturref06_Eight.l0 k y0 y1 y2) (imprimaturref06_Eight.l0 (k + 1) y0 y1 y2))
 | 0 => fun _ _ _ r h => by simp [imprimaturref06_Eight.l0] at h
 | k + 1 => by
  have ih0 := imprimaturref06_Eight.mono_l k
  intro y0 y1 y2
  unfold imprimaturref06_Eight.l0
  repeat' first
  | (with_reducible exact ih0 _ _ _)
  | (with_reducible exact LeO.refl _)
  | (with_reducible exact LeO.none _)
  | (with_reducible refine LeO.ite ?_ ?_)
  | (with_reducible refine LeO.bind ?_ (fun _ => ?_))
theorem imprimaturref06_Eight.mono : ∀ a0 k, LeO (imprimaturref06_Eight.f k a0) (imprimaturref06_Eight.f (k + 1) a0) := by
 intro a0 k
 have ih0 := imprimaturref06_Eight.mono_l k
 unfold imprimaturref06_Eight.f
 repeat' first
   | (with_reducible exact ih0 _ _ _)
   | (with_reducible exact LeO.refl _)
   | (with_reducible exact LeO.none _)
   | (with_reducible refine LeO.ite ?_ ?_)
   | (with_reducible refine LeO.bind ?_ (fun _ => ?_))
set_option maxHeartbeats 8000000 in
set_option maxRecDepth 100000 in
theorem imprimaturref06_Eight.calls (k : Nat) (a0 : Int) (r : List Int) (w : World) (h : imprimaturref06_Eight.f k a0 = some r) :
  Calls Tryd.prog 75 #[.int .i64 a0] w fun e w' => ∃ v0_ : Value, e = .returned (v0_) ∧ Kd.R (Kd.int .u8) 5 w' w.heap.size (fun _ => True) v0_ r ∧ Below w.heap.size w w' := by
 have HB := aM (Below.refl w.heap.size w)
 have H : (imprimaturref06_Eight.l0 k ([] : List Int) (IntKind.u64.wrap (a0)) 0) = some r := h
 clear h
 have H' := aM H
 clear H
 go_enter Tryd.func75, Tryd.ntmps75
 go_wp2
 go_loopg [3, 4, 5] k (fun kq v3 v4 v5 w' => ∃ (x3_1 : List Int) (x4_1 : Int) (x5_1 : Int), v4 = .int .u64 x4_1 ∧ v5 = .int .i64 x5_1 ∧ Aside0 (imprimaturref06_Eight.l0 kq x3_1 x4_1 x5_1 = some r) ∧ Aside0 (kq ≤ k) ∧ Aside0 (Kd.R (Kd.int .u8) 5 w' w.heap.size (fun _ => True) v3 x3_1) ∧ Aside0 (Below w.heap.size w w'))
 case atStart => exact ⟨(([] : List Int)), (IntKind.u64.wrap (a0)), (0), rfS, rfS, H', ⟨Nat.le_refl _⟩, ⟨by first | exact Kd.R_nil _ _ _ _ _ | exact Kd.N_nil _ _ _ _ _ | exact Kd.V_nil _ _ _ _ _ | exact Kd.Q_nil _ _ _ _ _ | exact Kd.S_nil _ _ _ _ _⟩, ⟨bel⟩⟩
 case round =>
  clear H'
  obtain ⟨x3_1, x4_1, x5_1, rfl, rfl, HA, HK1, HO_3, HB⟩ := hrel
  cases gk with
  | zero => exact absurd HA.out (by simp [imprimaturref06_Eight.l0])
  | succ k1 =>
   have H := HA.out
   clear HA
   simp only [imprimaturref06_Eight.l0] at H
   by_cases c2 : x5_1 < 8
   rotate_left
   ·rw [if_neg c2] at H
    have c2b0 : decide (x5_1 < 8) = false := decide_eq_false c2
    clear c2
    obtain rfl := Option.some.inj H
    go_wp2
    go_ret
    exact ⟨_, erR, by (with_reducible repeat (first | apply Kd.R_alloc | apply Kd.R_drewN | apply Kd.R_drew)); exact HO_3.out, bel⟩

   rw [if_pos c2] at H
   have c2b0 : decide (x5_1 < 8) = true := decide_eq_true c2
   clear c2
   obtain ⟨y102, hy102⟩ : ∃ y_ : List Int, y_ = (([(Int.tmod x4_1 256) % 256] : List Int)) := ⟨_, rfl⟩
   replace H : (if y102.length + x3_1.length < 140737488355328 then (imprimaturref06_Eight.l0 k1 (y102 ++ x3_1) (IntKind.u64.wrap (Int.tdiv x4_1 256)) (wrap64 (x5_1 + 1))) else (none)) = some r := hyA hy102 H
   have Ny102 := aM hy102
   clear hy102
   by_cases c3 : y102.length + x3_1.length < 140737488355328
   rotate_left
   ·rw [if_neg c3] at H
    exact absurd H (by simp)
   rw [if_pos c3] at H
   have LMc3 := aM c3
   clear c3
   obtain ⟨y105, hy105⟩ : ∃ y_ : List Int, y_ = (y102 ++ x3_1) := ⟨_, rfl⟩
   replace H : (imprimaturref06_Eight.l0 k1 y105 (IntKind.u64.wrap (Int.tdiv x4_1 256)) (wrap64 (x5_1 + 1))) = some r := hyA hy105 H
   have Ny105 := aM hy105
   clear hy105
   have H' := aM H
   clear H
   go_wp2_with (first | ((with_reducible refine gate_dst (N := 15) rfl ?_); refine Kd.R_lit (Kd.int .u8) _ 5 ?hg (N := 15) ?hd (xs := ([(Int.tmod x4_1 256) % 256] : List Int)) (inner := [.int .u8 ((Int.tmod x4_1 256) % 256)]) (ok := fun _ => True) (okp := fun _ => True) ?hr ?hp (fun _ hk => hk) trivial (Below.refl _ _) (Nat.le_refl _) (by simp) ?_; (case hd => rfl); (case hg => rfl); (case hr => first | (go_simp; done) | (go_simp; rfl)); (case hp => exact (Reps.one (show Kd.M (Kd.int .u8) _ _ _ ((Int.tmod x4_1 256) % 256) [.int .u8 ((Int.tmod x4_1 256) % 256)] from rfl) (Reps.none _ _))); intro v103 w4 ho5 hb hg_ hnew_; clear hg_ hnew_; (first | rw [← Ny102.out] at ho5 | (simp only [Int.reduceToNat] at ho5; rw [← Ny102.out] at ho5)); have HO104 := aM (Kd.R_lower (Kd.R_new' ho5 (Kd.R_lt (rL HO_3.out))) (below_size bel)); replace HO_3 := aM (Kd.R_elder' (rL HO_3.out) (Kd.R_base ho5) hb); replace HB := aM (below_step bel hb); clear hb ho5; obtain ⟨Ao7, co7, eo7⟩ := Kd.R_slice HO_3.out; subst eo7) | ((with_reducible refine gate_builtin (b := .append) (xs := #[.tmp 15, .tmp 16]) rfl ?_); at_builtin; refine Kd.R_append_rows (Kd.int .u8) (w0 := w) w.heap.size rfl (.tmp 15) (.tmp 16) 22 5 (.int .u8 0) 1 rfl Tryd.underlying22 info5 rfl (by decide) (by omega) v103 y102 x3_1 _ _ _ (fun k_ => some k_ ≠ (.slice Ao7 x3_1.length co7 : Value).ownBlock) (fun _ => False) rfl rfl ?aO ?aR (fun _ _ h => h) (fun _ h => h.elim) ?aF ?aB ?aS ?aL ?_; (case aR => repeat (first | exact (Kd.R_reads' HO_3.out).2.2 | (with_reducible refine Kd.C_alloc ?_ _) | (with_reducible refine Kd.C_drewN ?_ _) | (with_reducible refine Kd.C_drew ?_))); (case aB => exact bel); (case aF => exact (fun k_ hk => Kd.fresh' (Kd.R_lt (rL HO_3.out)) k_ hk)); (case aO => exact (by (with_reducible repeat (first | apply Kd.R_alloc | apply Kd.R_drewN | apply Kd.R_drew)); exact Kd.R_mono HO104.out (fun _ hk => hk.2))); (case aS => exact (below_size bel)); (case aL => have := LMc3.out; omega); intro v106 w6 ho hb hg hat; rw [← Ny105.out] at ho; replace HO_3 := aM (Kd.R_after (ok := (fun _ => True)) (rL HO_3.out) hg hat); replace HB := aM (hb); have HO107 := aM (ho); clear HO104; clear ho hb hg hat))
   go_roundg k1
   case measure => have := HK1.out; omega
   case rel => exact ⟨(y105), (IntKind.u64.wrap (Int.tdiv x4_1 256)), (wrap64 (x5_1 + 1)), rfS, rfS, H', ⟨by have := HK1.out; omega⟩, ⟨by (with_reducible repeat (first | apply Kd.R_alloc | apply Kd.R_drewN | apply Kd.R_drew)); exact Kd.R_mono HO107.out (fun _ hk => trivial)⟩, ⟨bel⟩⟩
end Go.Proofs.YtdpdmmbdoeefbaaDoor.PCo
