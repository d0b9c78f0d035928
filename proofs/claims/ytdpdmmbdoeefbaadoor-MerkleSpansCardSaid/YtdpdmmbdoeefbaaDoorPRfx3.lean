-- Written by a program of this session, after the print of the kit.
import Derived.Test.YtdpdmmbdoeefbaaDoorWC
import Derived.Test.YtdpdmmbdoeefbaaDoorPRfx0
import Derived.Test.YtdpdmmbdoeefbaaDoorPRfx1
import Derived.Test.YtdpdmmbdoeefbaaDoorPRfx2
namespace Go.Proofs.YtdpdmmbdoeefbaaDoor.PRf
open Go.RowKit YtdpdmmbdoeefbaaDoorW.PrintWords YtdpdmmbdoeefbaaDoorW.PrintLast YtdpdmmbdoeefbaaDoorW.PrintMore
attribute [local go_sem] max2_int min2_int max_two min_two max_three min_three max_four min_four   -- for this text's walks alone
set_option linter.unusedVariables false
set_option linter.unusedSimpArgs false

/-! ### imprimaturref02_Sum: function 79 -/
mutual
def imprimaturref02_Sum.j0 : Nat → List Int → Int → Int → Int → Option (List Int × Int)
 | 0, _, _, _, _ => none
 | k + 1, x0, x1, x183000, x183001 => (imprimaturref02_Pad.f k (x0.length : Int) x1).bind fun bt183 => (if ([] : List Int).length + x0.length < 140737488355328 then ((some (([] : List Int) ++ x0 : List Int)).bind fun y187 => (if y187.length + bt183.1.length < 140737488355328 then ((imprimaturref02_constants.f).bind fun t193 => ((imprimaturref02_starts.f).bind fun t196 => (imprimaturref02_Sum.l0 k x1 (y187 ++ bt183.1) t193 t196 0 x183000 x183001))) else (none))) else (none))
def imprimaturref02_Sum.j2 : Nat → Int → List Int → List Int → List Int → Int → Int → Option (List Int × Int)
 | 0, _, _, _, _, _, _ => none
 | k + 1, x1, x9, x10, x11, x183000, x183001 => imprimaturref02_Sum.l1 k x1 x9 x10 x11 0 x183000 x183001
def imprimaturref02_Sum.l1 : Nat → Int → List Int → List Int → List Int → Int → Int → Int → Option (List Int × Int)
 | 0, _, _, _, _, _, _, _ => none
 | k + 1, x1, x9, x10, x11, x13, x183000, x183001 => if x13 < (x9.length : Int) then (if 0 ≤ x13 then (if x13 ≤ (wrap64 (x13 + (wrap64 (Int.tdiv x1 4)))) then (if (wrap64 (x13 + (wrap64 (Int.tdiv x1 4)))) ≤ (x9.length : Int) then ((imprimaturref02_Words_expand.f k x183000 x183001 ((x9.take ((wrap64 (x13 + (wrap64 (Int.tdiv x1 4)))) : Int).toNat).drop (x13 : Int).toNat)).bind fun t205 => (imprimaturref02_Sum.l2 k x1 x9 x10 x11 x13 t205 x11 0 x183000 x183001)) else (none)) else (none)) else (none)) else (imprimaturref02_Sum.l4 k x11 ([] : List Int) 0 x183000 x183001)
def imprimaturref02_Sum.l2 : Nat → Int → List Int → List Int → List Int → Int → List Int → List Int → Int → Int → Int → Option (List Int × Int)
 | 0, _, _, _, _, _, _, _, _, _, _ => none
 | k + 1, x1, x9, x10, x11, x13, x14, x15, x16, x183000, x183001 => if x16 < (x14.length : Int) then (if 0 ≤ x16 then (if x16 < (x10.length : Int) then ((imprimaturref02_Words_round.f x183000 x183001 x15 (rd x10 x16) (rd x14 x16)).bind fun t210 => (imprimaturref02_Sum.l2 k x1 x9 x10 x11 x13 x14 t210 (wrap64 (x16 + 1)) x183000 x183001)) else (none)) else (none)) else (imprimaturref02_Sum.l3 k x1 x9 x10 x11 x13 x15 ([] : List Int) 0 x183000 x183001)
def imprimaturref02_Sum.l3 : Nat → Int → List Int → List Int → List Int → Int → List Int → List Int → Int → Int → Int → Option (List Int × Int)
 | 0, _, _, _, _, _, _, _, _, _, _ => none
 | k + 1, x1, x9, x10, x11, x13, x15, x17, x18, x183000, x183001 => if x18 < 8 then (if 0 ≤ x18 then (if x18 < (x11.length : Int) then (if x18 < (x15.length : Int) then ((imprimaturref02_Words_cut.f x183000 x183001 (IntKind.u64.wrap ((rd x11 x18) + (rd x15 x18)))).bind fun t215 => (if x17.length < 17592186044416 then (imprimaturref02_Sum.l3 k x1 x9 x10 x11 x13 x15 (x17 ++ [t215]) (wrap64 (x18 + 1)) x183000 x183001) else (none))) else (none)) else (none)) else (none)) else (imprimaturref02_Sum.l1 k x1 x9 x10 x17 (wrap64 (x13 + (wrap64 (Int.tdiv x1 4)))) x183000 x183001)
def imprimaturref02_Sum.l4 : Nat → List Int → List Int → Int → Int → Int → Option (List Int × Int)
 | 0, _, _, _, _, _ => none
 | k + 1, x11, x19, x20, x183000, x183001 => if x20 < 8 then (imprimaturref02_Sum.l5 k x11 x19 x20 (wrap64 ((wrap64 (x183001)) - 8)) x183000 x183001) else (some (x19, 0))
def imprimaturref02_Sum.l5 : Nat → List Int → List Int → Int → Int → Int → Int → Option (List Int × Int)
 | 0, _, _, _, _, _, _ => none
 | k + 1, x11, x19, x20, x21, x183000, x183001 => if x21 ≥ 0 then (if 0 ≤ x20 then (if x20 < (x11.length : Int) then (if 0 ≤ (IntKind.u64.wrap (x21)) then (if x19.length < 140737488355328 then (imprimaturref02_Sum.l5 k x11 (x19 ++ [(shr .u64 (rd x11 x20) (IntKind.u64.wrap (x21))) % 256]) x20 (wrap64 (x21 - 8)) x183000 x183001) else (none)) else (none)) else (none)) else (none)) else (imprimaturref02_Sum.l4 k x11 x19 (wrap64 (x20 + 1)) x183000 x183001)
def imprimaturref02_Sum.l0 : Nat → Int → List Int → List Int → List Int → Int → Int → Int → Option (List Int × Int)
 | 0, _, _, _, _, _, _, _ => none
 | k + 1, x1, x9, x10, x11, x12, x183000, x183001 => if x12 < 8 then (if x183000 = 0 then (imprimaturref02_Sum.j2 k x1 x9 x10 x11 x183000 x183001) else (if 0 ≤ x12 then (if x12 < (x11.length : Int) then (imprimaturref02_Sum.l0 k x1 x9 x10 (x11.set (x12 : Int).toNat (IntKind.u64.wrap (Int.tdiv (rd x11 x12) 4294967296))) (wrap64 (x12 + 1)) x183000 x183001) else (none)) else (none))) else (imprimaturref02_Sum.j2 k x1 x9 x10 x11 x183000 x183001)
end
def imprimaturref02_Sum.f (k : Nat) (l0 : List Int) (a1 : Int) : Option (List Int × Int) := if (l0.length : Int) > 1048576 then (some (([] : List Int), 2)) else (if a1 = 256 then (imprimaturref02_Sum.j0 k l0 a1 4294967296 32) else (imprimaturref02_Sum.j0 k l0 a1 0 64))
theorem imprimaturref02_Sum.mono_l : ∀ k, (∀ y0 y1 y2 y3, LeO (imprimaturref02_Sum.j0 k y0 y1 y2 y3) (imprimaturref02_Sum.j0 (k + 1) y0 y1 y2 y3)) ∧ (∀ y0 y1 y2 y3 y4 y5, LeO (imprimaturref02_Sum.j2 k y0 y1 y2 y3 y4 y5) (imprimaturref02_Sum.j2 (k + 1) y0 y1 y2 y3 y4 y5)) ∧ (∀ y0 y1 y2 y3 y4 y5 y6, LeO (imprimaturref02_Sum.l1 k y0 y1 y2 y3 y4 y5 y6) (imprimaturref02_Sum.l1 (k + 1) y0 y1 y2 y3 y4 y5 y6)) ∧ (∀ y0 y1 y2 y3 y4 y5 y6 y7 y8 y9, LeO (imprimaturref02_Sum.l2 k y0 y1 y2 y3 y4 y5 y6 y7 y8 y9) (imprimaturref02_Sum.l2 (k + 1) y0 y1 y2 y3 y4 y5 y6 y7 y8 y9)) ∧ (∀ y0 y1 y2 y3 y4 y5 y6 y7 y8 y9, LeO (imprimaturref02_Sum.l3 k y0 y1 y2 y3 y4 y5 y6 y7 y8 y9) (imprimaturref02_Sum.l3 (k + 1) y0 y1 y2 y3 y4 y5 y6 y7 y8 y9)) ∧ (∀ y0 y1 y2 y3 y4, LeO (imprimaturref02_Sum.l4 k y0 y1 y2 y3 y4) (imprimaturref02_Sum.l4 (k + 1) y0 y1 y2 y3 y4)) ∧ (∀ y0 y1 y2 y3 y4 y5, LeO (imprimaturref02_Sum.l5 k y0 y1 y2 y3 y4 y5) (imprimaturref02_Sum.l5 (k + 1) y0 y1 y2 y3 y4 y5)) ∧ (∀ y0 y1 y2 y3 y4 y5 y6, LeO (imprimaturref02_Sum.l0 k y0 y1 y2 y3 y4 y5 y6) (imprimaturref02_Sum.l0 (k + 1) y0 y1 y2 y3 y4 y5 y6))
 | 0 => ⟨fun _ _ _ _ r h => by simp [imprimaturref02_Sum.j0] at h, fun _ _ _ _ _ _ r h => by simp [imprimaturref02_Sum.j2] at h, fun _ _ _ _ _ _ _ r h => by simp [imprimaturref02_Sum.l1] at h, fun _ _ _ _ _ _ _ _ _ _ r h => by simp [imprimaturref02_Sum.l2] at h, fun _ _ _ _ _ _ _ _ _ _ r h => by simp [imprimaturref02_Sum.l3] at h, fun _ _ _ _ _ r h => by simp [imprimaturref02_Sum.l4] at h, fun _ _ _ _ _ _ r h => by simp [imprimaturref02_Sum.l5] at h, fun _ _ _ _ _ _ _ r h => by simp [imprimaturref02_Sum.l0] at h⟩
 | k + 1 => by
  obtain ⟨ih0, ih1, ih2, ih3, ih4, ih5, ih6, ih7⟩ := imprimaturref02_Sum.mono_l k
  refine ⟨?_, ?_, ?_, ?_, ?_, ?_, ?_, ?_⟩
  ·intro y0 y1 y2 y3
   unfold imprimaturref02_Sum.j0
   repeat' first
   | (with_reducible exact ih0 _ _ _ _)
   | (with_reducible exact ih1 _ _ _ _ _ _)
   | (with_reducible exact ih2 _ _ _ _ _ _ _)
   | (with_reducible exact ih3 _ _ _ _ _ _ _ _ _ _)
   | (with_reducible exact ih4 _ _ _ _ _ _ _ _ _ _)
   | (with_reducible exact ih5 _ _ _ _ _)
   | (with_reducible exact ih6 _ _ _ _ _ _)
   | (with_reducible exact ih7 _ _ _ _ _ _ _)
   | (with_reducible exact imprimaturref02_Pad.mono _ _ _)
   | (with_reducible exact imprimaturref02_Words_expand.mono _ _ _ _)
   | (with_reducible exact LeO.refl _)
   | (with_reducible exact LeO.none _)
   | (with_reducible refine LeO.ite ?_ ?_)
   | (with_reducible refine LeO.bind ?_ (fun _ => ?_))
  ·intro y0 y1 y2 y3 y4 y5
   unfold imprimaturref02_Sum.j2
   repeat' first
   | (with_reducible exact ih0 _ _ _ _)
   | (with_reducible exact ih1 _ _ _ _ _ _)
   | (with_reducible exact ih2 _ _ _ _ _ _ _)
   | (with_reducible exact ih3 _ _ _ _ _ _ _ _ _ _)
   | (with_reducible exact ih4 _ _ _ _ _ _ _ _ _ _)
   | (with_reducible exact ih5 _ _ _ _ _)
   | (with_reducible exact ih6 _ _ _ _ _ _)
   | (with_reducible exact ih7 _ _ _ _ _ _ _)
   | (with_reducible exact imprimaturref02_Pad.mono _ _ _)
   | (with_reducible exact imprimaturref02_Words_expand.mono _ _ _ _)
   | (with_reducible exact LeO.refl _)
   | (with_reducible exact LeO.none _)
   | (with_reducible refine LeO.ite ?_ ?_)
   | (with_reducible refine LeO.bind ?_ (fun _ => ?_))
  ·intro y0 y1 y2 y3 y4 y5 y6
   unfold imprimaturref02_Sum.l1
   repeat' first
   | (with_reducible exact ih0 _ _ _ _)
   | (with_reducible exact ih1 _ _ _ _ _ _)
   | (with_reducible exact ih2 _ _ _ _ _ _ _)
   | (with_reducible exact ih3 _ _ _ _ _ _ _ _ _ _)
   | (with_reducible exact ih4 _ _ _ _ _ _ _ _ _ _)
   | (with_reducible exact ih5 _ _ _ _ _)
   | (with_reducible exact ih6 _ _ _ _ _ _)
   | (with_reducible exact ih7 _ _ _ _ _ _ _)
   | (with_reducible exact imprimaturref02_Pad.mono _ _ _)
   | (with_reducible exact imprimaturref02_Words_expand.mono _ _ _ _)
   | (with_reducible exact LeO.refl _)
   | (with_reducible exact LeO.none _)
   | (with_reducible refine LeO.ite ?_ ?_)
   | (with_reducible refine LeO.bind ?_ (fun _ => ?_))
  ·intro y0 y1 y2 y3 y4 y5 y6 y7 y8 y9
   unfold imprimaturref02_Sum.l2
   repeat' first
   | (with_reducible exact ih0 _ _ _ _)
   | (with_reducible exact ih1 _ _ _ _ _ _)
   | (with_reducible exact ih2 _ _ _ _ _ _ _)
   | (with_reducible exact ih3 _ _ _ _ _ _ _ _ _ _)
   | (with_reducible exact ih4 _ _ _ _ _ _ _ _ _ _)
   | (with_reducible exact ih5 _ _ _ _ _)
   | (with_reducible exact ih6 _ _ _ _ _ _)
   | (with_reducible exact ih7 _ _ _ _ _ _ _)
   | (with_reducible exact imprimaturref02_Pad.mono _ _ _)
   | (with_reducible exact imprimaturref02_Words_expand.mono _ _ _ _)
   | (with_reducible exact LeO.refl _)
   | (with_reducible exact LeO.none _)
   | (with_reducible refine LeO.ite ?_ ?_)
   | (with_reducible refine LeO.bind ?_ (fun _ => ?_))
  ·intro y0 y1 y2 y3 y4 y5 y6 y7 y8 y9
   unfold imprimaturref02_Sum.l3
   repeat' first
   | (with_reducible exact ih0 _ _ _ _)
   | (with_reducible exact ih1 _ _ _ _ _ _)
   | (with_reducible exact ih2 _ _ _ _ _ _ _)
   | (with_reducible exact ih3 _ _ _ _ _ _ _ _ _ _)
   | (with_reducible exact ih4 _ _ _ _ _ _ _ _ _ _)
   | (with_reducible exact ih5 _ _ _ _ _)
   | (with_reducible exact ih6 _ _ _ _ _ _)
   | (with_reducible exact ih7 _ _ _ _ _ _ _)
   | (with_reducible exact imprimaturref02_Pad.mono _ _ _)
   | (with_reducible exact imprimaturref02_Words_expand.mono _ _ _ _)
   | (with_reducible exact LeO.refl _)
   | (with_reducible exact LeO.none _)
   | (with_reducible refine LeO.ite ?_ ?_)
   | (with_reducible refine LeO.bind ?_ (fun _ => ?_))
  ·intro y0 y1 y2 y3 y4
   unfold imprimaturref02_Sum.l4
   repeat' first
   | (with_reducible exact ih0 _ _ _ _)
   | (with_reducible exact ih1 _ _ _ _ _ _)
   | (with_reducible exact ih2 _ _ _ _ _ _ _)
   | (with_reducible exact ih3 _ _ _ _ _ _ _ _ _ _)
   | (with_reducible exact ih4 _ _ _ _ _ _ _ _ _ _)
   | (with_reducible exact ih5 _ _ _ _ _)
   | (with_reducible exact ih6 _ _ _ _ _ _)
   | (with_reducible exact ih7 _ _ _ _ _ _ _)
   | (with_reducible exact imprimaturref02_Pad.mono _ _ _)
   | (with_reducible exact imprimaturref02_Words_expand.mono _ _ _ _)
   | (with_reducible exact LeO.refl _)
   | (with_reducible exact LeO.none _)
   | (with_reducible refine LeO.ite ?_ ?_)
   | (with_reducible refine LeO.bind ?_ (fun _ => ?_))
  ·intro y0 y1 y2 y3 y4 y5
   unfold imprimaturref02_Sum.l5
   repeat' first
   | (with_reducible exact ih0 _ _ _ _)
   | (with_reducible exact ih1 _ _ _ _ _ _)
   | (with_reducible exact ih2 _ _ _ _ _ _ _)
   | (with_reducible exact ih3 _ _ _ _ _ _ _ _ _ _)
   | (with_reducible exact ih4 _ _ _ _ _ _ _ _ _ _)
   | (with_reducible exact ih5 _ _ _ _ _)
   | (with_reducible exact ih6 _ _ _ _ _ _)
   | (with_reducible exact ih7 _ _ _ _ _ _ _)
   | (with_reducible exact imprimaturref02_Pad.mono _ _ _)
   | (with_reducible exact imprimaturref02_Words_expand.mono _ _ _ _)
   | (with_reducible exact LeO.refl _)
   | (with_reducible exact LeO.none _)
   | (with_reducible refine LeO.ite ?_ ?_)
   | (with_reducible refine LeO.bind ?_ (fun _ => ?_))
  intro y0 y1 y2 y3 y4 y5 y6
  unfold imprimaturref02_Sum.l0
  repeat' first
  | (with_reducible exact ih0 _ _ _ _)
  | (with_reducible exact ih1 _ _ _ _ _ _)
  | (with_reducible exact ih2 _ _ _ _ _ _ _)
  | (with_reducible exact ih3 _ _ _ _ _ _ _ _ _ _)
  | (with_reducible exact ih4 _ _ _ _ _ _ _ _ _ _)
  | (with_reducible exact ih5 _ _ _ _ _)
  | (with_reducible exact ih6 _ _ _ _ _ _)
  | (with_reducible exact ih7 _ _ _ _ _ _ _)
  | (with_reducible exact imprimaturref02_Pad.mono _ _ _)
  | (with_reducible exact imprimaturref02_Words_expand.mono _ _ _ _)
  | (with_reducible exact LeO.refl _)
  | (with_reducible exact LeO.none _)
  | (with_reducible refine LeO.ite ?_ ?_)
  | (with_reducible refine LeO.bind ?_ (fun _ => ?_))
theorem imprimaturref02_Sum.mono : ∀ a0 a1 k, LeO (imprimaturref02_Sum.f k a0 a1) (imprimaturref02_Sum.f (k + 1) a0 a1) := by
 intro a0 a1 k
 obtain ⟨ih0, ih1, ih2, ih3, ih4, ih5, ih6, ih7⟩ := imprimaturref02_Sum.mono_l k
 unfold imprimaturref02_Sum.f
 repeat' first
   | (with_reducible exact ih0 _ _ _ _)
   | (with_reducible exact ih1 _ _ _ _ _ _)
   | (with_reducible exact ih2 _ _ _ _ _ _ _)
   | (with_reducible exact ih3 _ _ _ _ _ _ _ _ _ _)
   | (with_reducible exact ih4 _ _ _ _ _ _ _ _ _ _)
   | (with_reducible exact ih5 _ _ _ _ _)
   | (with_reducible exact ih6 _ _ _ _ _ _)
   | (with_reducible exact ih7 _ _ _ _ _ _ _)
   | (with_reducible exact imprimaturref02_Pad.mono _ _ _)
   | (with_reducible exact imprimaturref02_Words_expand.mono _ _ _ _)
   | (with_reducible exact LeO.refl _)
   | (with_reducible exact LeO.none _)
   | (with_reducible refine LeO.ite ?_ ?_)
   | (with_reducible refine LeO.bind ?_ (fun _ => ?_))
def imprimaturref02_Sum.T18 : Bool × List (List Nat × List Nat) := (true, [([], []), ([], []), ([], []), ([], []), ([], []), ([4], [4]), ([3, 5], [3, 5]), ([1, 2, 6], [1, 2, 6]), ([0, 7], [0, 7]), ([8, 8, 0, 1, 2, 3, 4, 5, 6, 7, 8], [8])])
def imprimaturref02_Sum.B18 : List Nat := [0, 0, 0, 0, 0, 16, 56, 126, 255, 511]
theorem imprimaturref02_Sum.tab18 : rtab .any (opsOf Tryd.f79 18) = imprimaturref02_Sum.T18 := by kernel_rfl
theorem imprimaturref02_Sum.bits18 : waitsOk imprimaturref02_Sum.T18.2 imprimaturref02_Sum.B18 = true := by kernel_rfl
def imprimaturref02_Sum.T23 : Bool × List (List Nat × List Nat) := (true, [([], []), ([], []), ([], []), ([], []), ([2, 3], [2, 3]), ([4], [4]), ([], []), ([], []), ([6, 7], [6, 7]), ([8], [8]), ([0, 1, 5, 9], [0, 1, 5, 9]), ([10, 10, 0, 1, 2, 3, 4, 5, 6, 7, 8, 9, 10], [1, 10])])
def imprimaturref02_Sum.B23 : List Nat := [0, 0, 0, 0, 12, 28, 0, 0, 192, 448, 1023, 2047]
theorem imprimaturref02_Sum.tab23 : rtab .any (opsOf Tryd.f79 23) = imprimaturref02_Sum.T23 := by kernel_rfl
theorem imprimaturref02_Sum.bits23 : waitsOk imprimaturref02_Sum.T23.2 imprimaturref02_Sum.B23 = true := by kernel_rfl
def imprimaturref02_Sum.T28 : Bool × List (List Nat × List Nat) := (true, [([], []), ([], []), ([], []), ([], []), ([2, 3], [2, 3]), ([4], [4]), ([], []), ([], []), ([6, 7], [6, 7]), ([8], [8]), ([5, 9], [5, 9]), ([1, 10], [1, 10]), ([11], [11]), ([0, 12, 11], [0, 12]), ([13, 13, 0, 1, 2, 3, 4, 5, 6, 7, 8, 9, 10, 11, 12, 13], [0, 13])])
def imprimaturref02_Sum.B28 : List Nat := [0, 0, 0, 0, 12, 28, 0, 0, 192, 448, 1020, 2046, 4094, 8191, 16383]
theorem imprimaturref02_Sum.tab28 : rtab .any (opsOf Tryd.f79 28) = imprimaturref02_Sum.T28 := by kernel_rfl
theorem imprimaturref02_Sum.bits28 : waitsOk imprimaturref02_Sum.T28.2 imprimaturref02_Sum.B28 = true := by kernel_rfl
set_option maxHeartbeats 8000000 in
set_option maxRecDepth 100000 in
theorem imprimaturref02_Sum.calls (k : Nat) (A0 : Option Addr) (c0 : Nat) (l0 : List Int) (a1 : Int) (r1 : List Int) (r2 : Int) (w : World) (hr0 : Kd.C (Kd.int .u8) w A0 l0.length l0) (hc0 : l0.length ≤ c0) (h : imprimaturref02_Sum.f k l0 a1 = some (r1, r2)) :
  Calls Tryd.prog 79 #[.slice A0 l0.length c0, .int .i64 a1] w fun e w' => ∃ v0_ : Value, e = .returned (.tuple #[v0_, .int .i64 r2]) ∧ Kd.R (Kd.int .u8) 5 w' w.heap.size (fun _ => True) v0_ r1 ∧ Below w.heap.size w w' := by
 have hu115 := Tryd.underlying115
 have HR0 := aM hr0
 have HC0 := aM hc0
 clear hr0 hc0
 have HB := aM (Below.refl w.heap.size w)
 have H : (if (l0.length : Int) > 1048576 then (some (([] : List Int), 2)) else (if a1 = 256 then (imprimaturref02_Sum.j0 k l0 a1 4294967296 32) else (imprimaturref02_Sum.j0 k l0 a1 0 64))) = some (r1, r2) := h
 clear h
 by_cases c3 : (l0.length : Int) > 1048576
 ·rw [if_pos c3] at H
  have c3b0 : decide (1048576 < (l0.length : Int)) = true := decide_eq_true c3
  have c3b1 : decide (1048576 < l0.length) = true := decide_eq_true (by omega)
  clear c3
  simp only [Option.some.injEq, Prod.mk.injEq] at H
  obtain ⟨rfl, rfl⟩ := H
  go_enter Tryd.func79, Tryd.ntmps79
  go_wp2
  go_ret2
  exact ⟨_, erR, by first | exact Kd.R_nil _ _ _ _ _ | exact Kd.N_nil _ _ _ _ _ | exact Kd.V_nil _ _ _ _ _ | exact Kd.Q_nil _ _ _ _ _ | exact Kd.S_nil _ _ _ _ _, bel⟩
 rw [if_neg c3] at H
 have c3b0 : decide (1048576 < (l0.length : Int)) = false := decide_eq_false c3
 have c3b1 : decide (1048576 < l0.length) = false := decide_eq_false (by omega)
 clear c3
 have HC4 := aM H
 clear H
 go_enter Tryd.func79, Tryd.ntmps79
 go_upto_if 27 with (first | ((with_reducible refine gate_dst (N := 6) rfl ?_); refine box_event ?hg (N := 6) ?hd (cs := #[.int .u64 0, .int .u64 0]) (t := 115) ?hr ?_; (case hd => rfl); (case hg => rfl); (case hr => first | (go_simp; done) | (go_simp; rfl)); intro gb182 hg w5 hbox hb; have BK182 := aM (hbox); have GW182 := aM ((by rw [hg]; exact (below_size bel) : w.heap.size ≤ gb182)); have GE182 := aM ((by rw [hg]; exact (below_size bel) : w.heap.size ≤ gb182)); replace HB := aM (below_step bel hb); clear hb hbox hg; have hcz6_0 : w5.cell? ⟨gb182, 0, none⟩ = some (.int .u64 0) := (blk_cell BK182.out 0).trans rfl; have hcz6_1 : w5.cell? ⟨gb182, 1, none⟩ = some (.int .u64 0) := (blk_cell BK182.out 1).trans rfl; have hfz6_0 := blk_frozen BK182.out 0; have hfz6_1 := blk_frozen BK182.out 1))
 (try simp only [Act.put, List.setIfInBounds_toArray, List.set_cons_zero, List.set_cons_succ])
 go_cut [] (fun wc => ∃ (kq : Nat) (x183000_3 : Int) (x183001_3 : Int), Aside0 (imprimaturref02_Sum.j0 kq l0 a1 x183000_3 x183001_3 = some (r1, r2)) ∧ Aside0 (kq ≤ k) ∧ Aside0 (wc.heap[gb182]? = some (.cells #[.int .u64 x183000_3, .int .u64 x183001_3] 115 (0, 0))) ∧ Aside0 (Below w.heap.size w wc))
 case first =>
  have H := HC4.out
  clear HC4
  by_cases c7 : a1 = 256
  ·rw [if_pos c7] at H
   have c7b0 : (a1 == 256) = true := beq_iff_eq.mpr c7
   have c7b1 : (a1 != 256) = false := bne_eq_false_iff_eq.mpr c7
   clear c7
   (first | rw [c7b0] | (simp only [i64_w, i32_w]; rw [c7b0]) | skip)
   have H' := aM H
   clear H
   have hcz8_0 : w5.cell? ⟨gb182, 0, none⟩ = some (.int .u64 0) := (blk_cell BK182.out 0).trans rfl
   have hcz8_1 : w5.cell? ⟨gb182, 1, none⟩ = some (.int .u64 0) := (blk_cell BK182.out 1).trans rfl
   have hfz8_0 := blk_frozen BK182.out 0
   have hfz8_1 := blk_frozen BK182.out 1
   go_wp2
   go_meet
   case rel => exact ⟨_, (4294967296), (32), H', omL, ⟨by (with_reducible repeat (first | refine blk_drewN ?_ _ | refine blk_drew ?_ | refine blk_alloc ?_ _)); refine blk_put (cs := #[.int .u64 4294967296, .int .u64 64]) ?_ 1 _ rfl; (with_reducible repeat (first | refine blk_drewN ?_ _ | refine blk_drew ?_ | refine blk_alloc ?_ _)); refine blk_put (cs := #[.int .u64 0, .int .u64 64]) ?_ 0 _ rfl; (with_reducible repeat (first | refine blk_drewN ?_ _ | refine blk_drew ?_ | refine blk_alloc ?_ _)); refine blk_put (cs := #[.int .u64 0, .int .u64 0]) ?_ 1 _ rfl; (with_reducible repeat (first | refine blk_drewN ?_ _ | refine blk_drew ?_ | refine blk_alloc ?_ _)); refine blk_put (cs := #[.int .u64 0, .int .u64 0]) ?_ 0 _ rfl; (with_reducible repeat (first | refine blk_drewN ?_ _ | refine blk_drew ?_ | refine blk_alloc ?_ _)); exact BK182.out⟩, ⟨by repeat (first | (with_reducible first | exact HB.out | apply below_alloc | apply pw_below_drewN | apply below_drew1 | refine below_set ?_ GE182.out) | exact HB.out)⟩⟩
  rw [if_neg c7] at H
  have c7b0 : (a1 == 256) = false := beq_eq_false_iff_ne.mpr c7
  have c7b1 : (a1 != 256) = true := bne_iff_ne.mpr c7
  (first | rw [c7b0] | (simp only [i64_w, i32_w]; rw [c7b0]) | skip)
  have H' := aM H
  clear H
  go_wp2
  go_meet
  case rel => exact ⟨_, (0), (64), H', omL, ⟨by (with_reducible repeat (first | refine blk_drewN ?_ _ | refine blk_drew ?_ | refine blk_alloc ?_ _)); refine blk_put (cs := #[.int .u64 0, .int .u64 0]) ?_ 1 _ rfl; (with_reducible repeat (first | refine blk_drewN ?_ _ | refine blk_drew ?_ | refine blk_alloc ?_ _)); refine blk_put (cs := #[.int .u64 0, .int .u64 0]) ?_ 0 _ rfl; (with_reducible repeat (first | refine blk_drewN ?_ _ | refine blk_drew ?_ | refine blk_alloc ?_ _)); exact BK182.out⟩, ⟨by repeat (first | (with_reducible first | exact HB.out | apply below_alloc | apply pw_below_drewN | apply below_drew1 | refine below_set ?_ GE182.out) | exact HB.out)⟩⟩
 case rest =>
  clear HC4
  try clear c3
  try clear c3b0
  try clear c3b1
  try clear hcz6_0
  try clear hcz6_1
  try clear hfz6_0
  try clear hfz6_1
  obtain ⟨kq, x183000_3, x183001_3, HA, HJ3, BK182, HB⟩ := hcut
  cases kq with
  | zero => exact absurd HA.out (by simp [imprimaturref02_Sum.j0])
  | succ kj3 =>
   have H := HA.out
   clear HA
   simp only [imprimaturref02_Sum.j0] at H
   replace H := Option.bind_eq_some_iff.mp H
   obtain ⟨⟨t183, t184⟩, A90, H⟩ := H
   replace H : (if ([] : List Int).length + l0.length < 140737488355328 then ((some (([] : List Int) ++ l0 : List Int)).bind fun y187 => (if y187.length + t183.length < 140737488355328 then ((imprimaturref02_constants.f).bind fun t193 => ((imprimaturref02_starts.f).bind fun t196 => (imprimaturref02_Sum.l0 kj3 a1 (y187 ++ t183) t193 t196 0 x183000_3 x183001_3))) else (none))) else (none)) = some (r1, r2) := H
   have A9 := aM A90
   clear A90
   by_cases c10 : ([] : List Int).length + l0.length < 140737488355328
   rotate_left
   ·rw [if_neg c10] at H
    exact absurd H (by simp)

   rw [if_pos c10] at H
   have LMc10 := aM c10
   clear c10
   obtain ⟨y187, hy187⟩ : ∃ y_ : List Int, y_ = (([] : List Int) ++ l0) := ⟨_, rfl⟩
   replace H : (if y187.length + t183.length < 140737488355328 then ((imprimaturref02_constants.f).bind fun t193 => ((imprimaturref02_starts.f).bind fun t196 => (imprimaturref02_Sum.l0 kj3 a1 (y187 ++ t183) t193 t196 0 x183000_3 x183001_3))) else (none)) = some (r1, r2) := hyA hy187 H
   have Ny187 := aM hy187
   clear hy187
   by_cases c11 : y187.length + t183.length < 140737488355328
   rotate_left
   ·rw [if_neg c11] at H
    exact absurd H (by simp)
   rw [if_pos c11] at H
   have LMc11 := aM c11
   clear c11
   obtain ⟨y190, hy190⟩ : ∃ y_ : List Int, y_ = (y187 ++ t183) := ⟨_, rfl⟩
   replace H : ((imprimaturref02_constants.f).bind fun t193 => ((imprimaturref02_starts.f).bind fun t196 => (imprimaturref02_Sum.l0 kj3 a1 y190 t193 t196 0 x183000_3 x183001_3))) = some (r1, r2) := hyA hy190 H
   have Ny190 := aM hy190
   clear hy190
   replace H := Option.bind_eq_some_iff.mp H
   obtain ⟨t193, A120, H⟩ := H
   replace H : ((imprimaturref02_starts.f).bind fun t196 => (imprimaturref02_Sum.l0 kj3 a1 y190 t193 t196 0 x183000_3 x183001_3)) = some (r1, r2) := H
   have A12 := aM A120
   clear A120
   replace H := Option.bind_eq_some_iff.mp H
   obtain ⟨t196, A130, H⟩ := H
   replace H : (imprimaturref02_Sum.l0 kj3 a1 y190 t193 t196 0 x183000_3 x183001_3) = some (r1, r2) := H
   have A13 := aM A130
   clear A130
   have HC14 := aM H
   clear H
   go_upto_block 0 with (first | ((with_reducible refine gate_callee (f := 91) rfl ?_); refine goesL_ (some 33) rfl rfl Tryd.func91 (by kernel_rfl) rfl #[.int .i64 (l0.length : Int), .int .i64 a1] rfl eqA ?_; (with_reducible refine (imprimaturref02_Pad.calls kj3 (l0.length : Int) a1 t183 t184 _ A9.out).mono ?_); rintro e w15 ⟨v185, rfl, ho0, hb⟩; refine ⟨_, rfl, ?_⟩; have HO186 := aM (Kd.R_lower ho0 (below_size (belG GE182.out))); replace BK182 := aM (blk_below (g := gb182) (o := .cells #[.int .u64 x183000_3, .int .u64 x183001_3] 115 (0, 0)) (bL BK182.out) hb); replace HB := aM (below_step (belG GE182.out) hb); clear hb ho0) | ((with_reducible refine gate_builtin (b := .append) (xs := #[.tmp 36, .tmp 37]) rfl ?_); at_builtin; refine Kd.R_append_rows (Kd.int .u8) (w0 := w) w.heap.size rfl (.tmp 36) (.tmp 37) 22 5 (.int .u8 0) 1 rfl Tryd.underlying22 info5 rfl (by decide) (by omega) (.slice none 0 0) ([] : List Int) l0 _ _ _ (fun k_ => some k_ ≠ (v185 : Value).ownBlock) (fun _ => False) rfl rfl ?aO ?aR (fun _ _ h => h) (fun _ h => h.elim) ?aF ?aB ?aS ?aL ?_; (case aR => repeat (first | exact (Kd.C_below HR0.out HB.out) | (with_reducible refine Kd.C_alloc ?_ _) | (with_reducible refine Kd.C_drewN ?_ _) | (with_reducible refine Kd.C_drew ?_))); (case aB => exact (belG GE182.out)); (case aF => exact (fun k_ hk => Kd.fresh' (Kd.R_lt (rL HO186.out)) k_ hk)); (case aO => exact ((Kd.R_nil _ _ _ _ (fun k_ => some k_ ≠ (v185 : Value).ownBlock)))); (case aS => exact (below_size (belG GE182.out))); (case aL => have := LMc10.out; omega); intro v188 w16 ho hb hg hat; rw [← Ny187.out] at ho; replace BK182 := aM (blk_grown (g := gb182) (o := .cells #[.int .u64 x183000_3, .int .u64 x183001_3] 115 (0, 0)) (bL BK182.out) hg (by simp [Value.ownBlock])); replace HO186 := aM (Kd.R_after (Kd.R_apart_nil (rL HO186.out)) hg hat); replace HB := aM (hb); have HO189 := aM (ho); clear ho hb hg hat; obtain ⟨Ao18, co18, eo18⟩ := Kd.R_slice HO186.out; subst eo18) | ((with_reducible refine gate_builtin (b := .append) (xs := #[.tmp 38, .tmp 39]) rfl ?_); at_builtin; refine Kd.R_append_rows (Kd.int .u8) (w0 := w) w.heap.size rfl (.tmp 38) (.tmp 39) 22 5 (.int .u8 0) 1 rfl Tryd.underlying22 info5 rfl (by decide) (by omega) v188 y187 t183 _ _ _ (fun k_ => some k_ ≠ (.slice Ao18 t183.length co18 : Value).ownBlock) (fun _ => False) rfl rfl ?aO ?aR (fun _ _ h => h) (fun _ h => h.elim) ?aF ?aB ?aS ?aL ?_; (case aR => repeat (first | exact (Kd.R_reads' HO186.out).2.2 | (with_reducible refine Kd.C_alloc ?_ _) | (with_reducible refine Kd.C_drewN ?_ _) | (with_reducible refine Kd.C_drew ?_))); (case aB => exact (belG GE182.out)); (case aF => exact (fun k_ hk => Kd.fresh' (Kd.R_lt (rL HO186.out)) k_ hk)); (case aO => exact (rL HO189.out)); (case aS => exact (below_size (belG GE182.out))); (case aL => have := LMc11.out; omega); intro v191 w17 ho hb hg hat; rw [← Ny190.out] at ho; replace BK182 := aM (blk_grown (g := gb182) (o := .cells #[.int .u64 x183000_3, .int .u64 x183001_3] 115 (0, 0)) (bL BK182.out) hg (Kd.R_ne HO189.out BK182.out (by decide))); replace HO186 := aM (Kd.R_after (ok := (fun _ => True)) (rL HO186.out) hg hat); replace HB := aM (hb); have HO192 := aM (ho); clear HO189; clear ho hb hg hat) | ((with_reducible refine gate_callee (f := 92) rfl ?_); refine goesL_ (some 41) rfl rfl Tryd.func92 (by kernel_rfl) rfl #[] rfl eqA ?_; (with_reducible refine (imprimaturref02_constants.calls  t193 _ A12.out).mono ?_); rintro e w19 ⟨v194, rfl, ho0, hb⟩; refine ⟨_, rfl, ?_⟩; replace HO186 := aM (Kd.R_below (rL HO186.out) hb); replace HO192 := aM (Kd.R_below (rL HO192.out) hb); have HO195 := aM (Kd.R_lower ho0 (below_size (belG GE182.out))); replace BK182 := aM (blk_below (g := gb182) (o := .cells #[.int .u64 x183000_3, .int .u64 x183001_3] 115 (0, 0)) (bL BK182.out) hb); replace HB := aM (below_step (belG GE182.out) hb); clear hb ho0) | ((with_reducible refine gate_callee (f := 93) rfl ?_); refine goesL_ (some 42) rfl rfl Tryd.func93 (by kernel_rfl) rfl #[] rfl eqA ?_; (with_reducible refine (imprimaturref02_starts.calls  t196 _ A13.out).mono ?_); rintro e w20 ⟨v197, rfl, ho0, hb⟩; refine ⟨_, rfl, ?_⟩; replace HO186 := aM (Kd.R_below (rL HO186.out) hb); replace HO192 := aM (Kd.R_below (rL HO192.out) hb); have HO198 := aM (Kd.R_lower (Kd.R_new' ho0 (Kd.R_lt (rL HO195.out))) (below_size (belG GE182.out))); replace HO195 := aM (Kd.R_elder' (rL HO195.out) (Kd.R_base ho0) hb); replace BK182 := aM (blk_below (g := gb182) (o := .cells #[.int .u64 x183000_3, .int .u64 x183001_3] 115 (0, 0)) (bL BK182.out) hb); replace HB := aM (below_step (belG GE182.out) hb); clear hb ho0))
   (try simp only [Act.put, List.setIfInBounds_toArray, List.set_cons_zero, List.set_cons_succ])
   go_cut [] (fun wc => ∃ (kq : Nat) (x11_13 : List Int), Aside0 (imprimaturref02_Sum.j2 kq a1 y190 t193 x11_13 x183000_3 x183001_3 = some (r1, r2)) ∧ Aside0 (kq ≤ kj3) ∧ Aside0 (Kd.R (Kd.int .u8) 5 wc w.heap.size (fun _ => True) v191 y190) ∧ Aside0 (Kd.R (Kd.int .u64) 94 wc w.heap.size (fun k_ => some k_ ≠ (v197 : Value).ownBlock) v194 t193) ∧ Aside0 (Kd.R (Kd.int .u64) 94 wc w.heap.size (fun k_ => some k_ ≠ (v194 : Value).ownBlock) v197 x11_13) ∧ Aside0 (wc.heap[gb182]? = some (.cells #[.int .u64 x183000_3, .int .u64 x183001_3] 115 (0, 0))) ∧ Aside0 (Below w.heap.size w wc))
   case first =>
    have H := HC14.out
    clear HC14
    have H' := aM H
    clear H
    go_wp2
    go_loopg [12] kj3 (fun kq v12 w' => ∃ (x11_2 : List Int) (x12_2 : Int), v12 = .int .i64 x12_2 ∧ Aside0 (imprimaturref02_Sum.l0 kq a1 y190 t193 x11_2 x12_2 x183000_3 x183001_3 = some (r1, r2)) ∧ Aside0 (kq ≤ kj3) ∧ Aside0 (Kd.R (Kd.int .u8) 5 w' w.heap.size (fun _ => True) v191 y190) ∧ Aside0 (Kd.R (Kd.int .u64) 94 w' w.heap.size (fun k_ => some k_ ≠ (v197 : Value).ownBlock) v194 t193) ∧ Aside0 (Kd.R (Kd.int .u64) 94 w' w.heap.size (fun k_ => some k_ ≠ (v194 : Value).ownBlock) v197 x11_2) ∧ Aside0 (w'.heap[gb182]? = some (.cells #[.int .u64 x183000_3, .int .u64 x183001_3] 115 (0, 0))) ∧ Aside0 (Below w.heap.size w w'))
    case atStart => exact ⟨(t196), (0), rfS, H', ⟨Nat.le_refl _⟩, ⟨by (with_reducible repeat (first | apply Kd.R_alloc | apply Kd.R_drewN | apply Kd.R_drew)); exact Kd.R_mono HO192.out (fun _ hk => trivial)⟩, ⟨by (with_reducible repeat (first | apply Kd.R_alloc | apply Kd.R_drewN | apply Kd.R_drew)); exact Kd.R_mono HO195.out (fun _ hk => hk.2)⟩, ⟨by (with_reducible repeat (first | apply Kd.R_alloc | apply Kd.R_drewN | apply Kd.R_drew)); exact Kd.R_mono HO198.out (fun _ hk => hk.2)⟩, ⟨by (with_reducible repeat (first | refine blk_drewN ?_ _ | refine blk_drew ?_ | refine blk_alloc ?_ _)); exact BK182.out⟩, ⟨by repeat (first | (with_reducible first | exact HB.out | apply below_alloc | apply pw_below_drewN | apply below_drew1 | refine below_set ?_ GE182.out) | exact HB.out)⟩⟩
    case round =>
     clear H'
     try clear c3
     try clear c3b0
     try clear c3b1
     try clear c10
     try clear c11
     try clear hcz6_0
     try clear hcz6_1
     try clear hfz6_0
     try clear hfz6_1
     obtain ⟨x11_2, x12_2, rfl, HA, HK2, HO_9, HO_10, HO_11, BK182, HB⟩ := hrel
     cases gk with
     | zero => exact absurd HA.out (by simp [imprimaturref02_Sum.l0])
     | succ k2 =>
      have H := HA.out
      clear HA
      simp only [imprimaturref02_Sum.l0] at H
      by_cases c21 : x12_2 < 8
      rotate_left
      ·rw [if_neg c21] at H
       have c21b0 : decide (x12_2 < 8) = false := decide_eq_false c21
       clear c21
       (first | rw [c21b0] | (simp only [i64_w, i32_w]; rw [c21b0]) | skip)
       have H' := aM H
       clear H
       go_wp2
       go_meet
       case rel => exact ⟨_, (x11_2), H', ⟨by have := HJ3.out; have := HK2.out; first | omega | exact Nat.le_refl _⟩, ⟨by (with_reducible repeat (first | apply Kd.R_alloc | apply Kd.R_drewN | apply Kd.R_drew)); exact HO_9.out⟩, ⟨by (with_reducible repeat (first | apply Kd.R_alloc | apply Kd.R_drewN | apply Kd.R_drew)); exact HO_10.out⟩, ⟨by (with_reducible repeat (first | apply Kd.R_alloc | apply Kd.R_drewN | apply Kd.R_drew)); exact HO_11.out⟩, ⟨by (with_reducible repeat (first | refine blk_drewN ?_ _ | refine blk_drew ?_ | refine blk_alloc ?_ _)); exact BK182.out⟩, ⟨by repeat (first | (with_reducible first | exact HB.out | apply below_alloc | apply pw_below_drewN | apply below_drew1 | refine below_set ?_ GE182.out) | exact HB.out)⟩⟩
      rw [if_pos c21] at H
      have c21b0 : decide (x12_2 < 8) = true := decide_eq_true c21
      clear c21
      (first | rw [c21b0] | (simp only [i64_w, i32_w]; rw [c21b0]) | skip)
      by_cases c22 : x183000_3 = 0
      ·rw [if_pos c22] at H
       have c22b0 : (x183000_3 == 0) = true := beq_iff_eq.mpr c22
       have c22b1 : (x183000_3 != 0) = false := bne_eq_false_iff_eq.mpr c22
       clear c22
       have H' := aM H
       clear H
       have hcz23_0 : wr.cell? ⟨gb182, 0, none⟩ = some (.int .u64 x183000_3) := (blk_cell BK182.out 0).trans rfl
       have hcz23_1 : wr.cell? ⟨gb182, 1, none⟩ = some (.int .u64 x183001_3) := (blk_cell BK182.out 1).trans rfl
       have hfz23_0 := blk_frozen BK182.out 0
       have hfz23_1 := blk_frozen BK182.out 1
       go_wp2
       go_meet
       case rel => exact ⟨_, (x11_2), H', ⟨by have := HJ3.out; have := HK2.out; first | omega | exact Nat.le_refl _⟩, ⟨by (with_reducible repeat (first | apply Kd.R_alloc | apply Kd.R_drewN | apply Kd.R_drew)); exact HO_9.out⟩, ⟨by (with_reducible repeat (first | apply Kd.R_alloc | apply Kd.R_drewN | apply Kd.R_drew)); exact HO_10.out⟩, ⟨by (with_reducible repeat (first | apply Kd.R_alloc | apply Kd.R_drewN | apply Kd.R_drew)); exact HO_11.out⟩, ⟨by (with_reducible repeat (first | refine blk_drewN ?_ _ | refine blk_drew ?_ | refine blk_alloc ?_ _)); exact BK182.out⟩, ⟨by repeat (first | (with_reducible first | exact HB.out | apply below_alloc | apply pw_below_drewN | apply below_drew1 | refine below_set ?_ GE182.out) | exact HB.out)⟩⟩
      rw [if_neg c22] at H
      have c22b0 : (x183000_3 == 0) = false := beq_eq_false_iff_ne.mpr c22
      have c22b1 : (x183000_3 != 0) = true := bne_iff_ne.mpr c22
      by_cases c24 : 0 ≤ x12_2
      rotate_left
      ·rw [if_neg c24] at H
       exact absurd H (by simp)
      rw [if_pos c24] at H
      have c24b0 : decide (0 ≤ x12_2) = true := decide_eq_true c24
      clear c24
      by_cases c25 : x12_2 < (x11_2.length : Int)
      rotate_left
      ·rw [if_neg c25] at H
       exact absurd H (by simp)
      rw [if_pos c25] at H
      have c25b0 : decide (x12_2 < (x11_2.length : Int)) = true := decide_eq_true c25
      clear c25
      obtain ⟨y200, hy200⟩ : ∃ y_ : List Int, y_ = (x11_2.set (x12_2 : Int).toNat (IntKind.u64.wrap (Int.tdiv (rd x11_2 x12_2) 4294967296))) := ⟨_, rfl⟩
      replace H : (imprimaturref02_Sum.l0 k2 a1 y190 t193 y200 (wrap64 (x12_2 + 1)) x183000_3 x183001_3) = some (r1, r2) := hyA hy200 H
      have Ny200 := aM hy200
      clear hy200
      have H' := aM H
      clear H
      have hcz27_0 : wr.cell? ⟨gb182, 0, none⟩ = some (.int .u64 x183000_3) := (blk_cell BK182.out 0).trans rfl
      have hcz27_1 : wr.cell? ⟨gb182, 1, none⟩ = some (.int .u64 x183001_3) := (blk_cell BK182.out 1).trans rfl
      have hfz27_0 := blk_frozen BK182.out 0
      have hfz27_1 := blk_frozen BK182.out 1
      obtain ⟨Ao28, co28, eo28⟩ := Kd.R_slice HO_11.out
      subst eo28
      have p199 : 0 ≤ (x12_2 : Int) := of_decide_eq_true asm_
      have q199 : x12_2 < (x11_2.length : Int) := of_decide_eq_true asm_
      obtain ⟨ad199, e199, hx199_0⟩ := Kd.at_int (Kd.R_reads' HO_11.out).2.2 x12_2 p199 q199
      cases e199
      replace p199 := eq_true p199
      replace q199 := eq_true q199
      have p26 : 0 ≤ (x12_2 : Int) := of_decide_eq_true asm_
      have q26 : (x12_2 : Int) < ((x11_2.length : Int) : Int) := of_decide_eq_true asm_
      obtain ⟨go26, co26, eo26, gb26, gl26, cl26, HG26⟩ := Kd.R_form HO_11.out (by omega)
      (first | cases eo26 | (injection eo26 with ea_ en_ ec_; (first | subst ea_ | (injection ea_ with ea_; subst ea_)); subst ec_; clear en_))
      have GB26 := aM gb26
      have GG26 := aM HG26
      clear gb26 gl26 HG26
      (first | simp only [add_plain] at hx199_0 | skip)
      obtain ⟨hx26_0, hf26_0⟩ := Kd.R_celln 0 HO_11.out (x12_2 : Int) p26 q26
      replace p26 := eq_true p26
      replace q26 := eq_true q26
      have HP29 := Kd.R_putg HO_11.out (x12_2 : Int) (IntKind.u64.wrap (Int.tdiv (rd x11_2 x12_2) 4294967296))
      go_wp2_with (first | ((with_reducible refine gate_store (t := 94) (p := 59) rfl ?_); refine store_event (t := 94) (p := 59) (v := ?vo_w30) (w1 := (wr.setCell ⟨go26, (x12_2 : Int).toNat, none⟩ (.int .u64 (IntKind.u64.wrap (Int.tdiv (rd x11_2 x12_2) 4294967296))))) ?hg ?ho ?hn ?hr ?_; (case ho => rfl); (case hg => rfl); (case hn => rfl); (case hr => first | (go_simp; done) | (go_simp; rfl)); intro w30 hw; have hg : wr.grownBy w30 (some go26) := (by rw [hw]; exact HP29.2); have hp_ : Kd.R (Kd.int .u64) 94 w30 w.heap.size (fun k_ => some k_ ≠ (v194 : Value).ownBlock) (.slice (some ⟨go26, 0, none⟩) x11_2.length co28) y200 := (by rw [hw, Ny200.out]; exact HP29.1); clear HP29; replace HO_9 := aM (Kd.R_over' (v := (.slice (some ⟨go26, 0, none⟩) x11_2.length co28)) (rL HO_9.out) (Kd.R_typed HO_11.out) (by decide) hg); replace HO_10 := aM (Kd.R_after (v := (.slice (some ⟨go26, 0, none⟩) x11_2.length co28)) (v1 := (.slice (some ⟨go26, 0, none⟩) x11_2.length co28)) (ok := (fun _ => True)) (by (with_reducible repeat (first | apply Kd.R_alloc | apply Kd.R_drewN | apply Kd.R_drew)); exact Kd.R_mono HO_10.out (fun _ hk => ⟨trivial, hk⟩)) hg (.inl rfl)); replace BK182 := aM (blk_grown (g := gb182) (o := .cells #[.int .u64 x183000_3, .int .u64 x183001_3] 115 (0, 0)) (bL BK182.out) hg (Kd.R_ne HO_11.out BK182.out (by decide))); replace HO_11 := aM (hp_); replace HB := aM ((by rw [hw]; exact below_set (HB.out) GB26.out : Below w.heap.size w w30)); clear hg hw hp_))
      go_roundg k2
      case measure => have := HJ3.out; have := HK2.out; omega
      case rel => exact ⟨(y200), (wrap64 (x12_2 + 1)), rfS, H', ⟨by have := HJ3.out; have := HK2.out; omega⟩, ⟨by (with_reducible repeat (first | apply Kd.R_alloc | apply Kd.R_drewN | apply Kd.R_drew)); exact HO_9.out⟩, ⟨by (with_reducible repeat (first | apply Kd.R_alloc | apply Kd.R_drewN | apply Kd.R_drew)); exact Kd.R_mono HO_10.out (fun _ hk => hk.2)⟩, ⟨by (with_reducible repeat (first | apply Kd.R_alloc | apply Kd.R_drewN | apply Kd.R_drew)); exact HO_11.out⟩, ⟨by (with_reducible repeat (first | refine blk_drewN ?_ _ | refine blk_drew ?_ | refine blk_alloc ?_ _)); exact BK182.out⟩, ⟨by repeat (first | (with_reducible first | exact HB.out | apply below_alloc | apply pw_below_drewN | apply below_drew1 | refine below_set ?_ GE182.out) | exact HB.out)⟩⟩
   case rest =>
    clear HC14
    try clear c3
    try clear c3b0
    try clear c3b1
    try clear c10
    try clear c11
    try clear hcz6_0
    try clear hcz6_1
    try clear hfz6_0
    try clear hfz6_1
    obtain ⟨kq, x11_13, HA, HJ13, HO_9, HO_10, HO_11, BK182, HB⟩ := hcut
    cases kq with
    | zero => exact absurd HA.out (by simp [imprimaturref02_Sum.j2])
    | succ kj13 =>
     have H := HA.out
     clear HA
     simp only [imprimaturref02_Sum.j2] at H
     have H' := aM H
     clear H
     go_wp2
     go_loopg [11, 13] kj13 (fun kq v11 v13 w' => ∃ (x11_3 : List Int) (x13_3 : Int), v13 = .int .i64 x13_3 ∧ Aside0 (imprimaturref02_Sum.l1 kq a1 y190 t193 x11_3 x13_3 x183000_3 x183001_3 = some (r1, r2)) ∧ Aside0 (kq ≤ kj13) ∧ Aside0 (Kd.R (Kd.int .u8) 5 w' w.heap.size (fun _ => True) v191 y190) ∧ Aside0 (Kd.R (Kd.int .u64) 94 w' w.heap.size (fun k_ => some k_ ≠ (v11 : Value).ownBlock) v194 t193) ∧ Aside0 (Kd.R (Kd.int .u64) 94 w' w.heap.size (fun k_ => some k_ ≠ (v194 : Value).ownBlock) v11 x11_3) ∧ Aside0 (w'.heap[gb182]? = some (.cells #[.int .u64 x183000_3, .int .u64 x183001_3] 115 (0, 0))) ∧ Aside0 (Below w.heap.size w w'))
     case atStart => exact ⟨(x11_13), (0), rfS, H', ⟨Nat.le_refl _⟩, ⟨by (with_reducible repeat (first | apply Kd.R_alloc | apply Kd.R_drewN | apply Kd.R_drew)); exact HO_9.out⟩, ⟨by (with_reducible repeat (first | apply Kd.R_alloc | apply Kd.R_drewN | apply Kd.R_drew)); exact HO_10.out⟩, ⟨by (with_reducible repeat (first | apply Kd.R_alloc | apply Kd.R_drewN | apply Kd.R_drew)); exact HO_11.out⟩, ⟨by (with_reducible repeat (first | refine blk_drewN ?_ _ | refine blk_drew ?_ | refine blk_alloc ?_ _)); exact BK182.out⟩, ⟨by repeat (first | (with_reducible first | exact HB.out | apply below_alloc | apply pw_below_drewN | apply below_drew1 | refine below_set ?_ GE182.out) | exact HB.out)⟩⟩
     case round =>
      clear H'
      try clear c3
      try clear c3b0
      try clear c3b1
      try clear c10
      try clear c11
      try clear hcz6_0
      try clear hcz6_1
      try clear hfz6_0
      try clear hfz6_1
      obtain ⟨x11_3, x13_3, rfl, HA, HK3, HO_9, HO_10, HO_11, BK182, HB⟩ := hrel
      cases gk with
      | zero => exact absurd HA.out (by simp [imprimaturref02_Sum.l1])
      | succ k3 =>
       have H := HA.out
       clear HA
       simp only [imprimaturref02_Sum.l1] at H
       by_cases c31 : x13_3 < (y190.length : Int)
       rotate_left
       ·rw [if_neg c31] at H
        have c31b0 : decide (x13_3 < (y190.length : Int)) = false := decide_eq_false c31
        clear c31
        have H' := aM H
        clear H
        obtain ⟨Ao61, co61, eo61⟩ := Kd.R_slice HO_9.out
        subst eo61
        go_wp2
        go_loopg [19, 20] k3 (fun kq v19 v20 w' => ∃ (x19_4 : List Int) (x20_4 : Int), v20 = .int .i64 x20_4 ∧ Aside0 (imprimaturref02_Sum.l4 kq x11_3 x19_4 x20_4 x183000_3 x183001_3 = some (r1, r2)) ∧ Aside0 (kq ≤ k3) ∧ Aside0 (Kd.R (Kd.int .u64) 94 w' w.heap.size (fun _ => True) u11 x11_3) ∧ Aside0 (Kd.R (Kd.int .u8) 5 w' w.heap.size (fun _ => True) v19 x19_4) ∧ Aside0 (w'.heap[gb182]? = some (.cells #[.int .u64 x183000_3, .int .u64 x183001_3] 115 (0, 0))) ∧ Aside0 (Below w.heap.size w w'))
        case atStart => exact ⟨(([] : List Int)), (0), rfS, H', ⟨Nat.le_refl _⟩, ⟨by (with_reducible repeat (first | apply Kd.R_alloc | apply Kd.R_drewN | apply Kd.R_drew)); exact Kd.R_mono HO_11.out (fun _ hk => trivial)⟩, ⟨by first | exact Kd.R_nil _ _ _ _ _ | exact Kd.N_nil _ _ _ _ _ | exact Kd.V_nil _ _ _ _ _ | exact Kd.Q_nil _ _ _ _ _ | exact Kd.S_nil _ _ _ _ _⟩, ⟨by (with_reducible repeat (first | refine blk_drewN ?_ _ | refine blk_drew ?_ | refine blk_alloc ?_ _)); exact BK182.out⟩, ⟨by repeat (first | (with_reducible first | exact HB.out | apply below_alloc | apply pw_below_drewN | apply below_drew1 | refine below_set ?_ GE182.out) | exact HB.out)⟩⟩
        case round =>
         clear H'
         try clear c3
         try clear c3b0
         try clear c3b1
         try clear c10
         try clear c11
         try clear c31
         try clear c31b0
         try clear hcz6_0
         try clear hcz6_1
         try clear hfz6_0
         try clear hfz6_1
         obtain ⟨x19_4, x20_4, rfl, HA, HK4, HO_11, HO_19, BK182, HB⟩ := hrel
         cases gk with
         | zero => exact absurd HA.out (by simp [imprimaturref02_Sum.l4])
         | succ k4 =>
          have H := HA.out
          clear HA
          simp only [imprimaturref02_Sum.l4] at H
          by_cases c62 : x20_4 < 8
          rotate_left
          ·rw [if_neg c62] at H
           have c62b0 : decide (x20_4 < 8) = false := decide_eq_false c62
           clear c62
           simp only [Option.some.injEq, Prod.mk.injEq] at H
           obtain ⟨rfl, rfl⟩ := H
           go_wp2
           go_ret2
           exact ⟨_, erR, by (with_reducible repeat (first | apply Kd.R_alloc | apply Kd.R_drewN | apply Kd.R_drew)); exact HO_19.out, by repeat (first | (with_reducible first | exact HB.out | apply below_alloc | apply pw_below_drewN | apply below_drew1 | refine below_set ?_ GE182.out) | exact HB.out)⟩
          rw [if_pos c62] at H
          have c62b0 : decide (x20_4 < 8) = true := decide_eq_true c62
          clear c62
          have H' := aM H
          clear H
          have hcz63_0 : wr.cell? ⟨gb182, 0, none⟩ = some (.int .u64 x183000_3) := (blk_cell BK182.out 0).trans rfl
          have hcz63_1 : wr.cell? ⟨gb182, 1, none⟩ = some (.int .u64 x183001_3) := (blk_cell BK182.out 1).trans rfl
          have hfz63_0 := blk_frozen BK182.out 0
          have hfz63_1 := blk_frozen BK182.out 1
          go_wp2
          go_loopg [19, 21] k4 (fun kq v19 v21 w' => ∃ (x19_5 : List Int) (x21_5 : Int), v21 = .int .i64 x21_5 ∧ Aside0 (imprimaturref02_Sum.l5 kq x11_3 x19_5 x20_4 x21_5 x183000_3 x183001_3 = some (r1, r2)) ∧ Aside0 (kq ≤ k4) ∧ Aside0 (Kd.R (Kd.int .u64) 94 w' w.heap.size (fun _ => True) u11 x11_3) ∧ Aside0 (Kd.R (Kd.int .u8) 5 w' w.heap.size (fun _ => True) v19 x19_5) ∧ Aside0 (w'.heap[gb182]? = some (.cells #[.int .u64 x183000_3, .int .u64 x183001_3] 115 (0, 0))) ∧ Aside0 (Below w.heap.size w w'))
          case atStart => exact ⟨(x19_4), (wrap64 ((wrap64 (x183001_3)) - 8)), rfS, H', ⟨Nat.le_refl _⟩, ⟨by (with_reducible repeat (first | apply Kd.R_alloc | apply Kd.R_drewN | apply Kd.R_drew)); exact HO_11.out⟩, ⟨by (with_reducible repeat (first | apply Kd.R_alloc | apply Kd.R_drewN | apply Kd.R_drew)); exact HO_19.out⟩, ⟨by (with_reducible repeat (first | refine blk_drewN ?_ _ | refine blk_drew ?_ | refine blk_alloc ?_ _)); exact BK182.out⟩, ⟨by repeat (first | (with_reducible first | exact HB.out | apply below_alloc | apply pw_below_drewN | apply below_drew1 | refine below_set ?_ GE182.out) | exact HB.out)⟩⟩
          case round =>
           clear H'
           try clear c3
           try clear c3b0
           try clear c3b1
           try clear c10
           try clear c11
           try clear c31
           try clear c31b0
           try clear c62
           try clear c62b0
           try clear hcz63_0
           try clear hcz63_1
           try clear hcz6_0
           try clear hcz6_1
           try clear hfz63_0
           try clear hfz63_1
           try clear hfz6_0
           try clear hfz6_1
           obtain ⟨x19_5, x21_5, rfl, HA, HK5, HO_11, HO_19, BK182, HB⟩ := hrel
           cases gk with
           | zero => exact absurd HA.out (by simp [imprimaturref02_Sum.l5])
           | succ k5 =>
            have H := HA.out
            clear HA
            simp only [imprimaturref02_Sum.l5] at H
            by_cases c64 : x21_5 ≥ 0
            rotate_left
            ·rw [if_neg c64] at H
             have c64b0 : decide (0 ≤ x21_5) = false := decide_eq_false c64
             clear c64
             have H' := aM H
             clear H
             go_wp2
             go_roundg k5
             case measure => have := HJ3.out; have := HJ13.out; have := HK3.out; have := HK4.out; have := HK5.out; omega
             case rel => exact ⟨(x19_5), (wrap64 (x20_4 + 1)), rfS, H', ⟨by have := HJ3.out; have := HJ13.out; have := HK3.out; have := HK4.out; have := HK5.out; omega⟩, ⟨by (with_reducible repeat (first | apply Kd.R_alloc | apply Kd.R_drewN | apply Kd.R_drew)); exact HO_11.out⟩, ⟨by (with_reducible repeat (first | apply Kd.R_alloc | apply Kd.R_drewN | apply Kd.R_drew)); exact HO_19.out⟩, ⟨by (with_reducible repeat (first | refine blk_drewN ?_ _ | refine blk_drew ?_ | refine blk_alloc ?_ _)); exact BK182.out⟩, ⟨by repeat (first | (with_reducible first | exact HB.out | apply below_alloc | apply pw_below_drewN | apply below_drew1 | refine below_set ?_ GE182.out) | exact HB.out)⟩⟩
            rw [if_pos c64] at H
            have c64b0 : decide (0 ≤ x21_5) = true := decide_eq_true c64
            clear c64
            by_cases c65 : 0 ≤ x20_4
            rotate_left
            ·rw [if_neg c65] at H
             exact absurd H (by simp)
            rw [if_pos c65] at H
            have c65b0 : decide (0 ≤ x20_4) = true := decide_eq_true c65
            clear c65
            by_cases c66 : x20_4 < (x11_3.length : Int)
            rotate_left
            ·rw [if_neg c66] at H
             exact absurd H (by simp)
            rw [if_pos c66] at H
            have c66b0 : decide (x20_4 < (x11_3.length : Int)) = true := decide_eq_true c66
            clear c66
            obtain ⟨ji67, hji67⟩ : ∃ j_ : Int, (IntKind.u64.wrap (x21_5)) = j_ := ⟨_, rfl⟩
            replace H : (if 0 ≤ (ji67) then (if x19_5.length < 140737488355328 then (imprimaturref02_Sum.l5 k5 x11_3 (x19_5 ++ [(shr .u64 (rd x11_3 x20_4) (ji67)) % 256]) x20_4 (wrap64 (x21_5 - 8)) x183000_3 x183001_3) else (none)) else (none)) = some (r1, r2) := by first | (rw [hji67] at H; exact H) | (simp only [hji67] at H ⊢; exact H)
            by_cases c68 : 0 ≤ (ji67)
            rotate_left
            ·rw [if_neg c68] at H
             exact absurd H (by simp)
            rw [if_pos c68] at H
            have c68b0 := eq_true c68
            have c68b1 : decide (0 ≤ (ji67)) = true := decide_eq_true c68
            clear c68
            obtain ⟨ji69, hji69⟩ : ∃ j_ : Int, (shr .u64 (rd x11_3 x20_4) (ji67)) = j_ := ⟨_, rfl⟩
            replace H : (if x19_5.length < 140737488355328 then (imprimaturref02_Sum.l5 k5 x11_3 (x19_5 ++ [(ji69) % 256]) x20_4 (wrap64 (x21_5 - 8)) x183000_3 x183001_3) else (none)) = some (r1, r2) := by first | (rw [hji69] at H; exact H) | (simp only [hji69] at H ⊢; exact H)
            have hji69_ : ((rd x11_3 x20_4) / 2 ^ min (ji67).toNat 64) = ji69 := hji69
            have hji69z : (ji67) ≤ 64 → ((rd x11_3 x20_4) / 2 ^ (ji67).toNat) = ji69 := shr_small hji69
            by_cases c70 : x19_5.length < 140737488355328
            rotate_left
            ·rw [if_neg c70] at H
             exact absurd H (by simp)
            rw [if_pos c70] at H
            have LMc70 := aM c70
            clear c70
            obtain ⟨y220, hy220⟩ : ∃ y_ : List Int, y_ = (x19_5 ++ [(ji69) % 256]) := ⟨_, rfl⟩
            replace H : (imprimaturref02_Sum.l5 k5 x11_3 y220 x20_4 (wrap64 (x21_5 - 8)) x183000_3 x183001_3) = some (r1, r2) := hyA hy220 H
            have Ny220 := aM hy220
            clear hy220
            have H' := aM H
            clear H
            obtain ⟨Ao71, co71, eo71⟩ := Kd.R_slice HO_11.out
            subst eo71
            have p219 : 0 ≤ (x20_4 : Int) := of_decide_eq_true asm_
            have q219 : x20_4 < (x11_3.length : Int) := of_decide_eq_true asm_
            obtain ⟨ad219, e219, hx219_0⟩ := Kd.at_int (Kd.R_reads' HO_11.out).2.2 x20_4 p219 q219
            cases e219
            replace p219 := eq_true p219
            replace q219 := eq_true q219
            go_wp2_with (first | ((with_reducible refine gate_builtin (b := .append) (xs := #[.tmp 126, .tmp 135]) rfl ?_); at_builtin; refine Kd.R_append (Kd.int .u8) (w0 := w) w.heap.size rfl (.tmp 126) (.tmp 135) 22 5 (.int .u8 0) 1 rfl Tryd.underlying22 info5 rfl (by decide) (by omega) u19 x19_5 ((ji69) % 256) [.int .u8 ((ji69) % 256)] (fun _ => True) (fun _ => False) rfl rfl ?aP (fun _ hk => hk.elim) ?aF ?aO ?aB ?aS ?aL ?_; (case aP => exact rfl); (case aB => exact (belG GE182.out)); (case aF => exact (fun _ _ => trivial)); (case aO => exact (rL HO_19.out)); (case aS => exact (below_size (belG GE182.out))); (case aL => have := LMc70.out; omega); intro v221 w72 ho hb hg hat; rw [← Ny220.out] at ho; replace HO_11 := aM (Kd.R_over' (rL HO_11.out) (Kd.R_typed (rL HO_19.out)) (by decide) hg); replace BK182 := aM (blk_grown (g := gb182) (o := .cells #[.int .u64 x183000_3, .int .u64 x183001_3] 115 (0, 0)) (bL BK182.out) hg (Kd.R_ne HO_19.out BK182.out (by decide))); replace HB := aM (hb); have HO222 := aM (ho); clear HO_19; clear ho hb hg hat))
            go_roundg k5
            case measure => have := HJ3.out; have := HJ13.out; have := HK3.out; have := HK4.out; have := HK5.out; omega
            case rel => exact ⟨(y220), (wrap64 (x21_5 - 8)), rfS, H', ⟨by have := HJ3.out; have := HJ13.out; have := HK3.out; have := HK4.out; have := HK5.out; omega⟩, ⟨by (with_reducible repeat (first | apply Kd.R_alloc | apply Kd.R_drewN | apply Kd.R_drew)); exact HO_11.out⟩, ⟨by (with_reducible repeat (first | apply Kd.R_alloc | apply Kd.R_drewN | apply Kd.R_drew)); exact HO222.out⟩, ⟨by (with_reducible repeat (first | refine blk_drewN ?_ _ | refine blk_drew ?_ | refine blk_alloc ?_ _)); exact BK182.out⟩, ⟨by repeat (first | (with_reducible first | exact HB.out | apply below_alloc | apply pw_below_drewN | apply below_drew1 | refine below_set ?_ GE182.out) | exact HB.out)⟩⟩
       rw [if_pos c31] at H
       have c31b0 : decide (x13_3 < (y190.length : Int)) = true := decide_eq_true c31
       clear c31
       by_cases c32 : 0 ≤ x13_3
       rotate_left
       ·rw [if_neg c32] at H
        exact absurd H (by simp)
       rw [if_pos c32] at H
       have c32b0 := eq_true c32
       have c32b1 : decide (0 ≤ x13_3) = true := decide_eq_true c32
       clear c32
       by_cases c33 : x13_3 ≤ (wrap64 (x13_3 + (wrap64 (Int.tdiv a1 4))))
       rotate_left
       ·rw [if_neg c33] at H
        exact absurd H (by simp)
       rw [if_pos c33] at H
       have c33b0 := eq_true c33
       have c33b1 : decide (x13_3 ≤ (wrap64 (x13_3 + (wrap64 (Int.tdiv a1 4))))) = true := decide_eq_true c33
       by_cases c34 : (wrap64 (x13_3 + (wrap64 (Int.tdiv a1 4)))) ≤ (y190.length : Int)
       rotate_left
       ·rw [if_neg c34] at H
        exact absurd H (by simp)
       rw [if_pos c34] at H
       have c34b0 := eq_true c34
       have c34b1 : decide ((wrap64 (x13_3 + (wrap64 (Int.tdiv a1 4)))) ≤ (y190.length : Int)) = true := decide_eq_true c34
       obtain ⟨y201, hy201⟩ : ∃ y_ : List Int, y_ = ((y190.take ((wrap64 (x13_3 + (wrap64 (Int.tdiv a1 4)))) : Int).toNat).drop (x13_3 : Int).toNat) := ⟨_, rfl⟩
       replace H : ((imprimaturref02_Words_expand.f k3 x183000_3 x183001_3 y201).bind fun t205 => (imprimaturref02_Sum.l2 k3 a1 y190 t193 x11_3 x13_3 t205 x11_3 0 x183000_3 x183001_3)) = some (r1, r2) := hyA hy201 H
       have Ny201 := aM hy201
       clear hy201
       replace H := Option.bind_eq_some_iff.mp H
       obtain ⟨t205, A350, H⟩ := H
       replace H : (imprimaturref02_Sum.l2 k3 a1 y190 t193 x11_3 x13_3 t205 x11_3 0 x183000_3 x183001_3) = some (r1, r2) := H
       have A35 := aM A350
       clear A350
       have H' := aM H
       clear H
       obtain ⟨Ao36, co36, eo36⟩ := Kd.R_slice HO_9.out
       subst eo36
       try go_wp2
       replace HO_9 := aM (Kd.R_drew HO_9.out)
       replace HO_10 := aM (Kd.R_drew HO_10.out)
       replace HO_11 := aM (Kd.R_drew HO_11.out)
       replace BK182 := aM (blk_drew BK182.out)
       replace HB := aM (below_drew1 HB.out)
       have q38 : ((wrap64 (x13_3 + (wrap64 (Int.tdiv a1 4)))) : Int) ≤ ((y190.length : Int) : Int) := of_decide_eq_true asm_
       obtain ⟨i038, hi038, _, hsz38, _⟩ := info_parts info5
       have hroom38 : y190.length ≤ co36 := (Kd.R_reads' HO_9.out).2.1
       have hC38 : Kd.C (Kd.int .u8) _ Ao36 y190.length y190 := (Kd.R_reads' HO_9.out).2.2
       have ql38 : (x13_3 : Int) ≤ ((wrap64 (x13_3 + (wrap64 (Int.tdiv a1 4)))) : Int) := of_decide_eq_true asm_
       have q038 : (0 : Int) ≤ (x13_3 : Int) := of_decide_eq_true asm_
       have hcut38 := cut_mid (P := Tryd.prog) 22 5 .i64 .i64 Tryd.underlying22 hi038 1 hsz38 Ao36 y190.length co36 x13_3 (wrap64 (x13_3 + (wrap64 (Int.tdiv a1 4)))) q038 ql38 q38 hroom38
       have hr38 := Kd.C_mid (lo := (x13_3 : Int).toNat) (hi := ((wrap64 (x13_3 + (wrap64 (Int.tdiv a1 4)))) : Int).toNat) (c := co36) hC38 (by omega) (by omega) hroom38
       obtain ⟨A38, hA38⟩ : ∃ A1, A1 = (if co36 = (x13_3 : Int).toNat then Ao36 else (Ao36 : Option Addr).map (·.add ((x13_3 : Int).toNat * 1))) := ⟨_, rfl⟩
       obtain ⟨c38, hc38⟩ : ∃ c1, c1 = co36 - (x13_3 : Int).toNat := ⟨_, rfl⟩
       have hy38 : y201.length = ((wrap64 (x13_3 + (wrap64 (Int.tdiv a1 4)))) : Int).toNat - (x13_3 : Int).toNat := (by rw [Ny201.out, List.length_drop, List.length_take] <;> omega)
       rw [show ((y190).take ((wrap64 (x13_3 + (wrap64 (Int.tdiv a1 4)))) : Int).toNat).drop (x13_3 : Int).toNat = y201 from Ny201.out.symm] at hr38
       replace hr38 : Kd.C (Kd.int .u8) _ A38 y201.length y201 := (by rw [hA38]; exact hr38)
       rw [← hy38, ← hA38, ← hc38] at hcut38
       have HR204 := aM hr38
       have HC204 := aM (show y201.length ≤ c38 from by rw [hy38, hc38]; exact Nat.sub_le_sub_right (Nat.le_trans (by omega) hroom38) _)
       clear hr38 hC38 hroom38 hi038 hsz38 hc38
       have KY38 := aM hy38
       have KA38 := aM hA38
       clear hy38 hA38
       have KL38 := aM (show ((wrap64 (x13_3 + (wrap64 (Int.tdiv a1 4)))) : Int).toNat ≤ y190.length from by omega)
       have KM38 := aM (show (x13_3 : Int).toNat ≤ ((wrap64 (x13_3 + (wrap64 (Int.tdiv a1 4)))) : Int).toNat from by omega)
       replace q38 := eq_true q38
       refine start_ (n := 10) (S := fun w' => w'.cell? ⟨gb182, 0, none⟩ = some (.int .u64 x183000_3) ∧ w'.cell? ⟨gb182, 1, none⟩ = some (.int .u64 x183001_3)) (ds := []) (fl 10 0) (by kernel_rfl) rfl rfl ⟨(blk_cell BK182.out 0).trans rfl, (blk_cell BK182.out 1).trans rfl⟩ (fun hHeld => ?_); refine with_tabW imprimaturref02_Sum.tab18 imprimaturref02_Sum.bits18 (fun HT_ HW_ => ?_)
       generalize wr.drew = w37 at HO_9 HO_10 HO_11 BK182 HB HR204 hHeld ⊢
       refine pB 1 69 10 2 ?_
       refine pB 2 70 10 6 ?_
       refine pB 3 71 10 14 ?_
       refine pB 4 72 10 30 ?_
       refine pB 5 73 10 62 ?_
       refine pB 6 74 10 126 ?_
       refine pB 7 75 10 254 ?_
       refine take_ (i := 0) (N := some 68) (v := ?_) (a' := ?_) (fl 10 255) rfl rfl (take_ofW HT_.out HW_.out (by kernel_rfl)) (fun _ _ _ h => h) (Or.inl ⟨by rfl, ?_⟩) hHeld ?_ ?_
       rotate_left
       ·rintro w' ⟨s0, s1⟩
        go_simp
        with_reducible rfl
       rotate_left
       ·simp only [Act.put, List.setIfInBounds_toArray, List.set_cons_zero, List.set_cons_succ, i64_w, i32_w]
        rfl
       refine one_ (i := 8) (N := some 76) (fl 10 511) rfl rfl (one_of HT_.out (by kernel_rfl)) (by decide) (fun K hK => ?_)
       refine goes_ Tryd.func94 (by kernel_rfl) rfl #[.agg #[.int .u64 x183000_3, .int .u64 x183001_3], .slice A38 y201.length c38] (by rfl) rfl rfl eqA ?_
       with_reducible refine (imprimaturref02_Words_expand.calls k3 x183000_3 x183001_3 _ _ y201 t205 _ ?side1 ?side2 A35.out).mono ?_
       (case side1 => repeat (first | exact (by repeat (first | (with_reducible exact HR204.out) | (with_reducible refine Kd.C_alloc ?_ _) | (with_reducible refine Kd.C_drewN ?_ _) | (with_reducible refine Kd.C_drew ?_) | exact HR204.out)) | (with_reducible refine Kd.C_alloc ?_ _) | (with_reducible refine Kd.C_drewN ?_ _) | (with_reducible refine Kd.C_drew ?_)))
       (case side2 => exact HC204.out)
       rintro e w39 ⟨v206, rfl, ho0, hb⟩
       refine ⟨_, rfl, ?_⟩
       replace HO_9 := aM (Kd.R_below (rL HO_9.out) hb)
       have HO207 := aM (Kd.R_lower (Kd.R_new' (Kd.R_new' ho0 (Kd.R_lt (rL HO_10.out))) (Kd.R_lt (rL HO_11.out))) (below_size (belG GE182.out)))
       replace HO_10 := aM (Kd.R_elder' (rL HO_10.out) (Kd.R_base ho0) hb)
       replace HO_11 := aM (Kd.R_elder' (rL HO_11.out) (Kd.R_base ho0) hb)
       replace BK182 := aM (blk_below (g := gb182) (o := .cells #[.int .u64 x183000_3, .int .u64 x183001_3] 115 (0, 0)) (bL BK182.out) hb)
       replace HR204 := aM (Kd.C_below (by repeat (first | (with_reducible exact HR204.out) | (with_reducible refine Kd.C_alloc ?_ _) | (with_reducible refine Kd.C_drewN ?_ _) | (with_reducible refine Kd.C_drew ?_) | exact HR204.out)) hb)
       replace HB := aM (below_step (belG GE182.out) hb)
       (try clear hb)
       (try clear hb2)
       (try clear hk)
       (try clear hi)
       (try clear ho0)
       refine hK.out _ _ ⟨(blk_cell BK182.out 0).trans rfl, (blk_cell BK182.out 1).trans rfl⟩ (fun hHeld => ?_)
       clear hK K
       refine normA (some 76) ?_
       refine pB 9 14 10 1023 ?_
       refine done_ (done_of HT_.out (by kernel_rfl)) ?_
       try go_wp2
       go_loopg [15, 16] k3 (fun kq v15 v16 w' => ∃ (x15_4 : List Int) (x16_4 : Int), v16 = .int .i64 x16_4 ∧ Aside0 (imprimaturref02_Sum.l2 kq a1 y190 t193 x11_3 x13_3 t205 x15_4 x16_4 x183000_3 x183001_3 = some (r1, r2)) ∧ Aside0 (kq ≤ k3) ∧ Aside0 (Kd.R (Kd.int .u8) 5 w' w.heap.size (fun _ => True) (.slice Ao36 y190.length co36) y190) ∧ Aside0 (Kd.R (Kd.int .u64) 94 w' w.heap.size (fun k_ => some k_ ≠ (u11 : Value).ownBlock ∧ some k_ ≠ (v206 : Value).ownBlock ∧ some k_ ≠ (v15 : Value).ownBlock) v194 t193) ∧ Aside0 (Kd.R (Kd.int .u64) 94 w' w.heap.size (fun k_ => some k_ ≠ (v194 : Value).ownBlock ∧ some k_ ≠ (v206 : Value).ownBlock) u11 x11_3) ∧ Aside0 (Kd.R (Kd.int .u64) 94 w' w.heap.size (fun k_ => some k_ ≠ (v194 : Value).ownBlock ∧ some k_ ≠ (u11 : Value).ownBlock ∧ some k_ ≠ (v15 : Value).ownBlock) v206 t205) ∧ Aside0 (Kd.R (Kd.int .u64) 94 w' w.heap.size (fun k_ => some k_ ≠ (v194 : Value).ownBlock ∧ some k_ ≠ (v206 : Value).ownBlock) v15 x15_4) ∧ Aside0 (w'.heap[gb182]? = some (.cells #[.int .u64 x183000_3, .int .u64 x183001_3] 115 (0, 0))) ∧ Aside0 (Below w.heap.size w w'))
       case atStart => exact ⟨(x11_3), (0), rfS, H', ⟨Nat.le_refl _⟩, ⟨by (with_reducible repeat (first | apply Kd.R_alloc | apply Kd.R_drewN | apply Kd.R_drew)); exact HO_9.out⟩, ⟨by (with_reducible repeat (first | apply Kd.R_alloc | apply Kd.R_drewN | apply Kd.R_drew)); exact Kd.R_mono HO_10.out (fun _ hk => ⟨hk.1, ⟨hk.2, hk.1⟩⟩)⟩, ⟨by (with_reducible repeat (first | apply Kd.R_alloc | apply Kd.R_drewN | apply Kd.R_drew)); exact HO_11.out⟩, ⟨by (with_reducible repeat (first | apply Kd.R_alloc | apply Kd.R_drewN | apply Kd.R_drew)); exact Kd.R_mono HO207.out (fun _ hk => ⟨hk.1.2, ⟨hk.2, hk.2⟩⟩)⟩, ⟨by (with_reducible repeat (first | apply Kd.R_alloc | apply Kd.R_drewN | apply Kd.R_drew)); exact HO_11.out⟩, ⟨by (with_reducible repeat (first | refine blk_drewN ?_ _ | refine blk_drew ?_ | refine blk_alloc ?_ _)); exact BK182.out⟩, ⟨by repeat (first | (with_reducible first | exact HB.out | apply below_alloc | apply pw_below_drewN | apply below_drew1 | refine below_set ?_ GE182.out) | exact HB.out)⟩⟩
       case round =>
        clear H'
        try clear c1
        try clear c3
        try clear c3b0
        try clear c3b1
        try clear c10
        try clear c11
        try clear c31
        try clear c31b0
        try clear c32
        try clear c32b0
        try clear c32b1
        try clear c33
        try clear c33b0
        try clear c33b1
        try clear c34
        try clear c34b0
        try clear c34b1
        try clear c38
        try clear q38
        try clear hcz6_0
        try clear hcz6_1
        try clear hfz6_0
        try clear hfz6_1
        try clear q038
        try clear q38
        obtain ⟨x15_4, x16_4, rfl, HA, HK4, HO_9, HO_10, HO_11, HO_14, HO_15, BK182, HB⟩ := hrel
        cases gk with
        | zero => exact absurd HA.out (by simp [imprimaturref02_Sum.l2])
        | succ k4 =>
         have H := HA.out
         clear HA
         simp only [imprimaturref02_Sum.l2] at H
         by_cases c40 : x16_4 < (t205.length : Int)
         ·rw [if_pos c40] at H
          have c40b0 : decide (x16_4 < (t205.length : Int)) = true := decide_eq_true c40
          clear c40
          by_cases c41 : 0 ≤ x16_4
          rotate_left
          ·rw [if_neg c41] at H
           exact absurd H (by simp)
          rw [if_pos c41] at H
          have c41b0 : decide (0 ≤ x16_4) = true := decide_eq_true c41
          clear c41
          by_cases c42 : x16_4 < (t193.length : Int)
          rotate_left
          ·rw [if_neg c42] at H
           exact absurd H (by simp)
          rw [if_pos c42] at H
          have c42b0 : decide (x16_4 < (t193.length : Int)) = true := decide_eq_true c42
          clear c42
          replace H := Option.bind_eq_some_iff.mp H
          obtain ⟨t210, A430, H⟩ := H
          replace H : (imprimaturref02_Sum.l2 k4 a1 y190 t193 x11_3 x13_3 t205 t210 (wrap64 (x16_4 + 1)) x183000_3 x183001_3) = some (r1, r2) := H
          have A43 := aM A430
          clear A430
          have H' := aM H
          clear H
          obtain ⟨Ao44, co44, eo44⟩ := Kd.R_slice HO_14.out
          subst eo44
          try go_wp2
          have n0_ := aM (Kd.R_drew HO_9.out)
          have n1_ := aM (Kd.R_drew HO_10.out)
          have n2_ := aM (Kd.R_drew HO_11.out)
          have n3_ := aM (Kd.R_drew HO_14.out)
          have n4_ := aM (Kd.R_drew HO_15.out)
          have n5_ := aM (blk_drew BK182.out)
          have n6_ := True.intro
          have n7_ := aM (below_drew1 HB.out)
          clear HO_9
          clear HO_10
          clear HO_11
          clear HO_14
          clear HO_15
          clear BK182
          clear HB
          have HO_9 := n0_
          have HO_10 := n1_
          have HO_11 := n2_
          have HO_14 := n3_
          have HO_15 := n4_
          have BK182 := n5_
          have HB := n7_
          clear n0_ n1_ n2_ n3_ n4_ n5_ n6_ n7_
          obtain ⟨Ao46, co46, eo46⟩ := Kd.R_slice HO_10.out
          (first | subst eo46 | (injection eo46 with f1_ f2_ f3_; have f4_ := f1_.symm; have f5_ := f3_.symm; clear f1_ f2_ f3_; subst f4_; subst f5_))
          have p208 : 0 ≤ (x16_4 : Int) := of_decide_eq_true asm_
          have q208 : x16_4 < (t193.length : Int) := of_decide_eq_true asm_
          obtain ⟨ad208, e208, hx208_0⟩ := Kd.at_int (Kd.R_reads' HO_10.out).2.2 x16_4 p208 q208
          cases e208
          replace p208 := eq_true p208
          replace q208 := eq_true q208
          have p209 : 0 ≤ (x16_4 : Int) := of_decide_eq_true asm_
          have q209 : x16_4 < (t205.length : Int) := of_decide_eq_true asm_
          obtain ⟨ad209, e209, hx209_0⟩ := Kd.at_int (Kd.R_reads' HO_14.out).2.2 x16_4 p209 q209
          cases e209
          replace p209 := eq_true p209
          replace q209 := eq_true q209
          obtain ⟨Ao47, co47, eo47⟩ := Kd.R_slice HO_15.out
          (first | subst eo47 | (injection eo47 with f1_ f2_ f3_; have f4_ := f1_.symm; have f5_ := f3_.symm; clear f1_ f2_ f3_; subst f4_; subst f5_))
          refine start_ (n := 12) (S := fun w' => w'.cell? ⟨gb182, 0, none⟩ = some (.int .u64 x183000_3) ∧ w'.cell? ⟨gb182, 1, none⟩ = some (.int .u64 x183001_3) ∧ w'.cell? (ad208.add (x16_4).toNat) = some (.int .u64 (rd t193 x16_4)) ∧ w'.cell? (ad209.add (x16_4).toNat) = some (.int .u64 (rd t205 x16_4))) (ds := []) #[false, false, false, false, false, false, false, false, false, false, false, false] (by kernel_rfl) rfl rfl ⟨(blk_cell BK182.out 0).trans rfl, (blk_cell BK182.out 1).trans rfl, hx208_0, hx209_0⟩ (fun hHeld => ?_); refine with_tabW imprimaturref02_Sum.tab23 imprimaturref02_Sum.bits23 (fun HT_ HW_ => ?_)
          generalize wr.drew = w45 at HO_9 HO_10 HO_11 HO_14 HO_15 BK182 HB hx208_0 hx209_0 hHeld ⊢
          refine pB 1 85 12 2 ?_
          refine pB 2 86 12 6 ?_
          refine pB 3 87 12 14 ?_
          refine pB 4 88 12 30 ?_
          refine pB 6 90 12 94 ?_
          refine pB 7 91 12 222 ?_
          refine pB 8 92 12 478 ?_
          refine take_ (i := 0) (N := some 84) (v := ?_) (a' := ?_) (fl 12 479) rfl rfl (take_ofW HT_.out HW_.out (by kernel_rfl)) (fun _ _ _ h => h) (Or.inl ⟨by rfl, ?_⟩) hHeld ?_ ?_
          rotate_left
          ·rintro w' ⟨s0, s1, s2, s3⟩
           go_simp
           with_reducible rfl
          rotate_left
          ·simp only [Act.put, List.setIfInBounds_toArray, List.set_cons_zero, List.set_cons_succ, i64_w, i32_w]
           rfl
          refine take_ (i := 5) (N := some 89) (v := ?_) (a' := ?_) (fl 12 511) rfl rfl (take_ofW HT_.out HW_.out (by kernel_rfl)) (fun _ _ _ h => h) (Or.inl ⟨by rfl, ?_⟩) hHeld ?_ ?_
          rotate_left
          ·rintro w' ⟨s0, s1, s2, s3⟩
           go_simp
           with_reducible rfl
          rotate_left
          ·simp only [Act.put, List.setIfInBounds_toArray, List.set_cons_zero, List.set_cons_succ, i64_w, i32_w]
           rfl
          refine take_ (i := 9) (N := some 93) (v := ?_) (a' := ?_) (fl 12 1023) rfl rfl (take_ofW HT_.out HW_.out (by kernel_rfl)) (fun _ _ _ h => h) (Or.inl ⟨by rfl, ?_⟩) hHeld ?_ ?_
          rotate_left
          ·rintro w' ⟨s0, s1, s2, s3⟩
           go_simp
           with_reducible rfl
          rotate_left
          ·simp only [Act.put, List.setIfInBounds_toArray, List.set_cons_zero, List.set_cons_succ, i64_w, i32_w]
           rfl
          refine one_ (i := 10) (N := some 94) (fl 12 2047) rfl rfl (one_of HT_.out (by kernel_rfl)) (by decide) (fun K hK => ?_)
          refine goes_ Tryd.func95 (by kernel_rfl) rfl #[.agg #[.int .u64 x183000_3, .int .u64 x183001_3], .slice Ao47 x15_4.length co47, .int .u64 (rd t193 x16_4), .int .u64 (rd t205 x16_4)] (by rfl) rfl rfl eqA ?_
          with_reducible refine (imprimaturref02_Words_round.calls x183000_3 x183001_3 _ _ x15_4 (rd t193 x16_4) (rd t205 x16_4) t210 _ ?side1 ?side2 A43.out).mono ?_
          (case side1 => exact cL (Kd.R_reads' HO_15.out).2.2)
          (case side2 => exact (Kd.R_reads' HO_15.out).2.1)
          rintro e w48 ⟨v211, rfl, ho0, hb⟩
          have HS2_ := (hb.cell (World.block_lt_of_cell? _ _ (hHeld.2.2.1))).trans (hHeld.2.2.1)
          have HS3_ := (hb.cell (World.block_lt_of_cell? _ _ (hHeld.2.2.2))).trans (hHeld.2.2.2)
          refine ⟨_, rfl, ?_⟩
          have n0_ := aM (Kd.R_below (rL HO_9.out) hb)
          have n1_ := aM (Kd.R_elder' (rL HO_10.out) (Kd.R_base ho0) hb)
          have n2_ := aM (Kd.R_elder' (rL HO_11.out) (Kd.R_base ho0) hb)
          have n3_ := aM (Kd.R_elder' (rL HO_14.out) (Kd.R_base ho0) hb)
          have n4_ := aM (Kd.R_elder' (rL HO_15.out) (Kd.R_base ho0) hb)
          have n5_ := aM (Kd.R_lower (Kd.R_new' (Kd.R_new' (Kd.R_new' (Kd.R_new' ho0 (Kd.R_lt (rL HO_10.out))) (Kd.R_lt (rL HO_11.out))) (Kd.R_lt (rL HO_14.out))) (Kd.R_lt (rL HO_15.out))) (below_size (belG GE182.out)))
          have n6_ := aM (blk_below (g := gb182) (o := .cells #[.int .u64 x183000_3, .int .u64 x183001_3] 115 (0, 0)) (bL BK182.out) hb)
          have n7_ := True.intro
          have n8_ := aM (below_step (belG GE182.out) hb)
          clear HO_9
          clear HO_10
          clear HO_11
          clear HO_14
          clear HO_15
          clear BK182
          clear HB
          have HO_9 := n0_
          have HO_10 := n1_
          have HO_11 := n2_
          have HO_14 := n3_
          have HO_15 := n4_
          have HO212 := n5_
          have BK182 := n6_
          have HB := n8_
          clear n0_ n1_ n2_ n3_ n4_ n5_ n6_ n7_ n8_
          (try clear hb)
          (try clear hb2)
          (try clear hk)
          (try clear hi)
          (try clear ho0)
          refine hK.out _ _ ⟨(blk_cell BK182.out 0).trans rfl, (blk_cell BK182.out 1).trans rfl, HS2_, HS3_⟩ (fun hHeld => ?_)
          clear hK K
          refine normA (some 94) ?_
          refine pB 11 15 12 4095 ?_
          refine done_ (done_of HT_.out (by kernel_rfl)) ?_
          try go_wp2
          go_roundg k4
          case measure => have := HJ3.out; have := HJ13.out; have := HK3.out; have := HK4.out; omega
          case rel => exact ⟨(t210), (wrap64 (x16_4 + 1)), rfS, H', ⟨by have := HJ3.out; have := HJ13.out; have := HK3.out; have := HK4.out; omega⟩, ⟨by (with_reducible repeat (first | apply Kd.R_alloc | apply Kd.R_drewN | apply Kd.R_drew)); exact HO_9.out⟩, ⟨by (with_reducible repeat (first | apply Kd.R_alloc | apply Kd.R_drewN | apply Kd.R_drew)); exact Kd.R_mono HO_10.out (fun _ hk => ⟨hk.1.1, ⟨hk.1.2.1, hk.2⟩⟩)⟩, ⟨by (with_reducible repeat (first | apply Kd.R_alloc | apply Kd.R_drewN | apply Kd.R_drew)); exact Kd.R_mono HO_11.out (fun _ hk => ⟨hk.1.1, hk.1.2⟩)⟩, ⟨by (with_reducible repeat (first | apply Kd.R_alloc | apply Kd.R_drewN | apply Kd.R_drew)); exact Kd.R_mono HO_14.out (fun _ hk => ⟨hk.1.1, ⟨hk.1.2.1, hk.2⟩⟩)⟩, ⟨by (with_reducible repeat (first | apply Kd.R_alloc | apply Kd.R_drewN | apply Kd.R_drew)); exact Kd.R_mono HO212.out (fun _ hk => ⟨hk.1.1.1.2, hk.1.2⟩)⟩, ⟨by (with_reducible repeat (first | refine blk_drewN ?_ _ | refine blk_drew ?_ | refine blk_alloc ?_ _)); exact BK182.out⟩, ⟨by repeat (first | (with_reducible first | exact HB.out | apply below_alloc | apply pw_below_drewN | apply below_drew1 | refine below_set ?_ GE182.out) | exact HB.out)⟩⟩
         rw [if_neg c40] at H
         have c40b0 : decide (x16_4 < (t205.length : Int)) = false := decide_eq_false c40
         clear c40
         have H' := aM H
         clear H
         obtain ⟨Ao49, co49, eo49⟩ := Kd.R_slice HO_14.out
         subst eo49
         go_wp2
         go_loopg [17, 18] k4 (fun kq v17 v18 w' => ∃ (x17_5 : List Int) (x18_5 : Int), v18 = .int .i64 x18_5 ∧ Aside0 (imprimaturref02_Sum.l3 kq a1 y190 t193 x11_3 x13_3 x15_4 x17_5 x18_5 x183000_3 x183001_3 = some (r1, r2)) ∧ Aside0 (kq ≤ k4) ∧ Aside0 (Kd.R (Kd.int .u8) 5 w' w.heap.size (fun _ => True) (.slice Ao36 y190.length co36) y190) ∧ Aside0 (Kd.R (Kd.int .u64) 94 w' w.heap.size (fun k_ => some k_ ≠ (u11 : Value).ownBlock ∧ some k_ ≠ (u15 : Value).ownBlock ∧ some k_ ≠ (v17 : Value).ownBlock) v194 t193) ∧ Aside0 (Kd.R (Kd.int .u64) 94 w' w.heap.size (fun k_ => some k_ ≠ (v194 : Value).ownBlock ∧ some k_ ≠ (v17 : Value).ownBlock) u11 x11_3) ∧ Aside0 (Kd.R (Kd.int .u64) 94 w' w.heap.size (fun k_ => some k_ ≠ (v194 : Value).ownBlock ∧ some k_ ≠ (v17 : Value).ownBlock) u15 x15_4) ∧ Aside0 (Kd.R (Kd.int .u64) 94 w' w.heap.size (fun k_ => some k_ ≠ (v194 : Value).ownBlock ∧ some k_ ≠ (u11 : Value).ownBlock ∧ some k_ ≠ (u15 : Value).ownBlock) v17 x17_5) ∧ Aside0 (w'.heap[gb182]? = some (.cells #[.int .u64 x183000_3, .int .u64 x183001_3] 115 (0, 0))) ∧ Aside0 (Below w.heap.size w w'))
         case atStart => exact ⟨(([] : List Int)), (0), rfS, H', ⟨Nat.le_refl _⟩, ⟨by (with_reducible repeat (first | apply Kd.R_alloc | apply Kd.R_drewN | apply Kd.R_drew)); exact HO_9.out⟩, ⟨by (with_reducible repeat (first | apply Kd.R_alloc | apply Kd.R_drewN | apply Kd.R_drew)); exact Kd.R_mono HO_10.out (fun _ hk => ⟨hk.1, ⟨hk.2.2, (by simp [Value.ownBlock])⟩⟩)⟩, ⟨by (with_reducible repeat (first | apply Kd.R_alloc | apply Kd.R_drewN | apply Kd.R_drew)); exact Kd.R_mono HO_11.out (fun _ hk => ⟨hk.1, (by simp [Value.ownBlock])⟩)⟩, ⟨by (with_reducible repeat (first | apply Kd.R_alloc | apply Kd.R_drewN | apply Kd.R_drew)); exact Kd.R_mono HO_15.out (fun _ hk => ⟨hk.1, (by simp [Value.ownBlock])⟩)⟩, ⟨by first | exact Kd.R_nil _ _ _ _ _ | exact Kd.N_nil _ _ _ _ _ | exact Kd.V_nil _ _ _ _ _ | exact Kd.Q_nil _ _ _ _ _ | exact Kd.S_nil _ _ _ _ _⟩, ⟨by (with_reducible repeat (first | refine blk_drewN ?_ _ | refine blk_drew ?_ | refine blk_alloc ?_ _)); exact BK182.out⟩, ⟨by repeat (first | (with_reducible first | exact HB.out | apply below_alloc | apply pw_below_drewN | apply below_drew1 | refine below_set ?_ GE182.out) | exact HB.out)⟩⟩
         case round =>
          clear H'
          try clear c1
          try clear c3
          try clear c3b0
          try clear c3b1
          try clear c10
          try clear c11
          try clear c31
          try clear c31b0
          try clear c32
          try clear c32b0
          try clear c32b1
          try clear c33
          try clear c33b0
          try clear c33b1
          try clear c34
          try clear c34b0
          try clear c34b1
          try clear c38
          try clear q38
          try clear c40
          try clear c40b0
          try clear hcz6_0
          try clear hcz6_1
          try clear hfz6_0
          try clear hfz6_1
          try clear q038
          try clear q38
          obtain ⟨x17_5, x18_5, rfl, HA, HK5, HO_9, HO_10, HO_11, HO_15, HO_17, BK182, HB⟩ := hrel
          cases gk with
          | zero => exact absurd HA.out (by simp [imprimaturref02_Sum.l3])
          | succ k5 =>
           have H := HA.out
           clear HA
           simp only [imprimaturref02_Sum.l3] at H
           by_cases c50 : x18_5 < 8
           rotate_left
           ·rw [if_neg c50] at H
            have c50b0 : decide (x18_5 < 8) = false := decide_eq_false c50
            clear c50
            have H' := aM H
            clear H
            go_wp2
            go_roundg k5
            case measure => have := HJ3.out; have := HJ13.out; have := HK3.out; have := HK4.out; have := HK5.out; omega
            case rel => exact ⟨(x17_5), (wrap64 (x13_3 + (wrap64 (Int.tdiv a1 4)))), rfS, H', ⟨by have := HJ3.out; have := HJ13.out; have := HK3.out; have := HK4.out; have := HK5.out; omega⟩, ⟨by (with_reducible repeat (first | apply Kd.R_alloc | apply Kd.R_drewN | apply Kd.R_drew)); exact HO_9.out⟩, ⟨by (with_reducible repeat (first | apply Kd.R_alloc | apply Kd.R_drewN | apply Kd.R_drew)); exact Kd.R_mono HO_10.out (fun _ hk => hk.2.2)⟩, ⟨by (with_reducible repeat (first | apply Kd.R_alloc | apply Kd.R_drewN | apply Kd.R_drew)); exact Kd.R_mono HO_17.out (fun _ hk => hk.1)⟩, ⟨by (with_reducible repeat (first | refine blk_drewN ?_ _ | refine blk_drew ?_ | refine blk_alloc ?_ _)); exact BK182.out⟩, ⟨by repeat (first | (with_reducible first | exact HB.out | apply below_alloc | apply pw_below_drewN | apply below_drew1 | refine below_set ?_ GE182.out) | exact HB.out)⟩⟩
           rw [if_pos c50] at H
           have c50b0 : decide (x18_5 < 8) = true := decide_eq_true c50
           clear c50
           by_cases c51 : 0 ≤ x18_5
           rotate_left
           ·rw [if_neg c51] at H
            exact absurd H (by simp)
           rw [if_pos c51] at H
           have c51b0 : decide (0 ≤ x18_5) = true := decide_eq_true c51
           clear c51
           by_cases c52 : x18_5 < (x11_3.length : Int)
           rotate_left
           ·rw [if_neg c52] at H
            exact absurd H (by simp)
           rw [if_pos c52] at H
           have c52b0 : decide (x18_5 < (x11_3.length : Int)) = true := decide_eq_true c52
           clear c52
           by_cases c53 : x18_5 < (x15_4.length : Int)
           rotate_left
           ·rw [if_neg c53] at H
            exact absurd H (by simp)
           rw [if_pos c53] at H
           have c53b0 : decide (x18_5 < (x15_4.length : Int)) = true := decide_eq_true c53
           clear c53
           replace H := Option.bind_eq_some_iff.mp H
           obtain ⟨t215, A540, H⟩ := H
           replace H : (if x17_5.length < 17592186044416 then (imprimaturref02_Sum.l3 k5 a1 y190 t193 x11_3 x13_3 x15_4 (x17_5 ++ [t215]) (wrap64 (x18_5 + 1)) x183000_3 x183001_3) else (none)) = some (r1, r2) := H
           have A54 := aM A540
           clear A540
           by_cases c55 : x17_5.length < 17592186044416
           rotate_left
           ·rw [if_neg c55] at H
            exact absurd H (by simp)
           rw [if_pos c55] at H
           have LMc55 := aM c55
           clear c55
           obtain ⟨y216, hy216⟩ : ∃ y_ : List Int, y_ = (x17_5 ++ [t215]) := ⟨_, rfl⟩
           replace H : (imprimaturref02_Sum.l3 k5 a1 y190 t193 x11_3 x13_3 x15_4 y216 (wrap64 (x18_5 + 1)) x183000_3 x183001_3) = some (r1, r2) := hyA hy216 H
           have Ny216 := aM hy216
           clear hy216
           have H' := aM H
           clear H
           try go_wp2
           have n0_ := aM (Kd.R_drew HO_9.out)
           have n1_ := aM (Kd.R_drew HO_10.out)
           have n2_ := aM (Kd.R_drew HO_11.out)
           have n3_ := aM (Kd.R_drew HO_15.out)
           have n4_ := aM (Kd.R_drew HO_17.out)
           have n5_ := aM (blk_drew BK182.out)
           have n6_ := True.intro
           have n7_ := aM (below_drew1 HB.out)
           clear HO_9
           clear HO_10
           clear HO_11
           clear HO_15
           clear HO_17
           clear BK182
           clear HB
           have HO_9 := n0_
           have HO_10 := n1_
           have HO_11 := n2_
           have HO_15 := n3_
           have HO_17 := n4_
           have BK182 := n5_
           have HB := n7_
           clear n0_ n1_ n2_ n3_ n4_ n5_ n6_ n7_
           obtain ⟨Ao57, co57, eo57⟩ := Kd.R_slice HO_11.out
           (first | subst eo57 | (injection eo57 with f1_ f2_ f3_; have f4_ := f1_.symm; have f5_ := f3_.symm; clear f1_ f2_ f3_; subst f4_; subst f5_))
           have p213 : 0 ≤ (x18_5 : Int) := of_decide_eq_true asm_
           have q213 : x18_5 < (x11_3.length : Int) := of_decide_eq_true asm_
           obtain ⟨ad213, e213, hx213_0⟩ := Kd.at_int (Kd.R_reads' HO_11.out).2.2 x18_5 p213 q213
           cases e213
           replace p213 := eq_true p213
           replace q213 := eq_true q213
           obtain ⟨Ao58, co58, eo58⟩ := Kd.R_slice HO_15.out
           (first | subst eo58 | (injection eo58 with f1_ f2_ f3_; have f4_ := f1_.symm; have f5_ := f3_.symm; clear f1_ f2_ f3_; subst f4_; subst f5_))
           have p214 : 0 ≤ (x18_5 : Int) := of_decide_eq_true asm_
           have q214 : x18_5 < (x15_4.length : Int) := of_decide_eq_true asm_
           obtain ⟨ad214, e214, hx214_0⟩ := Kd.at_int (Kd.R_reads' HO_15.out).2.2 x18_5 p214 q214
           cases e214
           replace p214 := eq_true p214
           replace q214 := eq_true q214
           refine start_ (n := 15) (S := fun w' => w'.cell? ⟨gb182, 0, none⟩ = some (.int .u64 x183000_3) ∧ w'.cell? ⟨gb182, 1, none⟩ = some (.int .u64 x183001_3) ∧ w'.cell? (ad213.add (x18_5).toNat) = some (.int .u64 (rd x11_3 x18_5)) ∧ w'.cell? (ad214.add (x18_5).toNat) = some (.int .u64 (rd x15_4 x18_5))) (ds := [12, 13]) #[false, false, false, false, false, false, false, false, false, false, false, false, false, false, false] (by kernel_rfl) rfl rfl ⟨(blk_cell BK182.out 0).trans rfl, (blk_cell BK182.out 1).trans rfl, hx213_0, hx214_0⟩ (fun hHeld => ?_); refine with_tabW imprimaturref02_Sum.tab28 imprimaturref02_Sum.bits28 (fun HT_ HW_ => ?_)
           generalize wr.drew = w56 at HO_9 HO_10 HO_11 HO_15 HO_17 BK182 HB hx213_0 hx214_0 hHeld ⊢
           refine pB 0 99 15 1 ?_
           refine pB 2 101 15 5 ?_
           refine pB 3 102 15 13 ?_
           refine pB 4 103 15 29 ?_
           refine pB 6 105 15 93 ?_
           refine pB 7 106 15 221 ?_
           refine pB 8 107 15 477 ?_
           refine take_ (i := 1) (N := some 100) (v := ?_) (a' := ?_) (fl 15 479) rfl rfl (take_ofW HT_.out HW_.out (by kernel_rfl)) (fun _ _ _ h => h) (Or.inl ⟨by rfl, ?_⟩) hHeld ?_ ?_
           rotate_left
           ·rintro w' ⟨s0, s1, s2, s3⟩
            go_simp
            with_reducible rfl
           rotate_left
           ·simp only [Act.put, List.setIfInBounds_toArray, List.set_cons_zero, List.set_cons_succ, i64_w, i32_w]
            rfl
           refine take_ (i := 5) (N := some 104) (v := ?_) (a' := ?_) (fl 15 511) rfl rfl (take_ofW HT_.out HW_.out (by kernel_rfl)) (fun _ _ _ h => h) (Or.inl ⟨by rfl, ?_⟩) hHeld ?_ ?_
           rotate_left
           ·rintro w' ⟨s0, s1, s2, s3⟩
            go_simp
            with_reducible rfl
           rotate_left
           ·simp only [Act.put, List.setIfInBounds_toArray, List.set_cons_zero, List.set_cons_succ, i64_w, i32_w]
            rfl
           refine take_ (i := 9) (N := some 108) (v := ?_) (a' := ?_) (fl 15 1023) rfl rfl (take_ofW HT_.out HW_.out (by kernel_rfl)) (fun _ _ _ h => h) (Or.inl ⟨by rfl, ?_⟩) hHeld ?_ ?_
           rotate_left
           ·rintro w' ⟨s0, s1, s2, s3⟩
            go_simp
            with_reducible rfl
           rotate_left
           ·simp only [Act.put, List.setIfInBounds_toArray, List.set_cons_zero, List.set_cons_succ, i64_w, i32_w]
            rfl
           refine pB 10 109 15 2047 ?_
           refine one_ (i := 11) (N := some 110) (fl 15 4095) rfl rfl (one_of HT_.out (by kernel_rfl)) (by decide) (fun K hK => ?_)
           refine goes_ Tryd.func96 (by kernel_rfl) rfl #[.agg #[.int .u64 x183000_3, .int .u64 x183001_3], .int .u64 (IntKind.u64.wrap ((rd x11_3 x18_5) + (rd x15_4 x18_5)))] (by rfl) rfl rfl eqA ?_
           with_reducible refine (imprimaturref02_Words_cut.calls x183000_3 x183001_3 (IntKind.u64.wrap ((rd x11_3 x18_5) + (rd x15_4 x18_5))) t215 _ A54.out).mono ?_
           rintro e w59 ⟨rfl, hb⟩
           have HS2_ := (hb.cell (World.block_lt_of_cell? _ _ (hHeld.2.2.1))).trans (hHeld.2.2.1)
           have HS3_ := (hb.cell (World.block_lt_of_cell? _ _ (hHeld.2.2.2))).trans (hHeld.2.2.2)
           refine ⟨_, rfl, ?_⟩
           have n0_ := aM (Kd.R_below (rL HO_9.out) hb)
           have n1_ := aM (Kd.R_below (rL HO_10.out) hb)
           have n2_ := aM (Kd.R_below (rL HO_11.out) hb)
           have n3_ := aM (Kd.R_below (rL HO_15.out) hb)
           have n4_ := aM (Kd.R_below (rL HO_17.out) hb)
           have n5_ := aM (blk_below (g := gb182) (o := .cells #[.int .u64 x183000_3, .int .u64 x183001_3] 115 (0, 0)) (bL BK182.out) hb)
           have n6_ := True.intro
           have n7_ := aM (below_step (belG GE182.out) hb)
           clear HO_9
           clear HO_10
           clear HO_11
           clear HO_15
           clear HO_17
           clear BK182
           clear HB
           have HO_9 := n0_
           have HO_10 := n1_
           have HO_11 := n2_
           have HO_15 := n3_
           have HO_17 := n4_
           have BK182 := n5_
           have HB := n7_
           clear n0_ n1_ n2_ n3_ n4_ n5_ n6_ n7_
           (try clear hb)
           (try clear hb2)
           (try clear hk)
           (try clear hi)
           refine hK.out _ _ ⟨(blk_cell BK182.out 0).trans rfl, (blk_cell BK182.out 1).trans rfl, HS2_, HS3_⟩ (fun hHeld => ?_)
           clear hK K
           refine normA (some 110) ?_
           refine last_ (i := 12) (N := some 111) (fl 15 8191) rfl rfl (one_of HT_.out (by kernel_rfl)) (by decide) (fun K hK => ?_)
           refine value_ (w1 := ?_) (v := ?_) (by rfl) rfl ?_ ?_
           rotate_left 2
           ·go_simp
            constructor
            ·rfl
            rfl
           refine hK.out _ _ ?_
           clear hK K
           refine normA (some 111) ?_
           refine last_ (i := 13) (N := some 112) (fl 15 16383) rfl rfl (one_of HT_.out (by kernel_rfl)) (by decide) (fun K hK => ?_)
           refine Kd.R_append_step (Kd.int .u64) (w0 := w) w.heap.size (by rfl) (.tmp 99) (.tmp 111) 116 94 (.int .u64 0) 8 rfl Tryd.underlying116 info94 rfl (by decide) (by omega) u17 x17_5 t215 [.int .u64 t215] (fun k_ => some k_ ≠ (v194 : Value).ownBlock ∧ some k_ ≠ (.slice (some ad213) x11_3.length co57 : Value).ownBlock ∧ some k_ ≠ (.slice (some ad214) x15_4.length co58 : Value).ownBlock) (fun _ => False) rfl rfl ?aP (fun _ hk => hk.elim) ?aF ?aO ?aB ?aS ?aL ?_
           (case aP => exact rfl)
           (case aB => exact (belG GE182.out))
           (case aF => exact (fun k_ hk => ⟨Kd.fresh' (Kd.R_lt (rL HO_10.out)) k_ hk, Kd.fresh' (Kd.R_lt (rL HO_11.out)) k_ hk, Kd.fresh' (Kd.R_lt (rL HO_15.out)) k_ hk⟩))
           (case aO => exact (rL HO_17.out))
           (case aS => exact (below_size (belG GE182.out)))
           (case aL => have := LMc55.out; omega)
           intro v217 w60 ho hb hg hat
           rw [← Ny216.out] at ho
           have n0_ := aM (Kd.R_over' (rL HO_9.out) (Kd.R_typed (rL HO_17.out)) (by decide) hg)
           have n1_ := aM (Kd.R_after (ok := (fun k_ => some k_ ≠ (.slice (some ad213) x11_3.length co57 : Value).ownBlock ∧ some k_ ≠ (.slice (some ad214) x15_4.length co58 : Value).ownBlock)) (by (with_reducible repeat (first | apply Kd.R_alloc | apply Kd.R_drewN | apply Kd.R_drew)); exact Kd.R_mono HO_10.out (fun _ hk => ⟨⟨hk.1, hk.2.1⟩, hk.2.2⟩)) hg hat)
           have n2_ := aM (Kd.R_after (ok := (fun k_ => some k_ ≠ (v194 : Value).ownBlock)) (rL HO_11.out) hg hat)
           have n3_ := aM (Kd.R_after (ok := (fun k_ => some k_ ≠ (v194 : Value).ownBlock)) (rL HO_15.out) hg hat)
           have n4_ := aM (blk_grown (g := gb182) (o := .cells #[.int .u64 x183000_3, .int .u64 x183001_3] 115 (0, 0)) (bL BK182.out) hg (Kd.R_ne HO_17.out BK182.out (by decide)))
           have n5_ := aM (hb)
           have n6_ := aM ((show Kd.C (Kd.int .u8) w60 A38 y201.length y201 from by rw [Ny201.out, KA38.out]; exact Kd.C_mid (lo := (x13_3 : Int).toNat) (hi := ((wrap64 (x13_3 + (wrap64 (Int.tdiv a1 4)))) : Int).toNat) (c := co36) ((Kd.R_reads' (Kd.R_over' (rL HO_9.out) (Kd.R_typed (rL HO_17.out)) (by decide) hg)).2.2) KM38.out KL38.out ((Kd.R_reads' (Kd.R_over' (rL HO_9.out) (Kd.R_typed (rL HO_17.out)) (by decide) hg)).2.1)))
           have n7_ := aM (ho)
           clear HO_9
           clear HO_10
           clear HO_11
           clear HO_15
           clear BK182
           clear HB
           clear HO_17
           have HO_9 := n0_
           have HO_10 := n1_
           have HO_11 := n2_
           have HO_15 := n3_
           have BK182 := n4_
           have HB := n5_
           have HO218 := n7_
           clear n0_ n1_ n2_ n3_ n4_ n5_ n6_ n7_
           clear ho hb hg hat
           refine hK.out _ _ ?_
           clear hK K
           refine normA (some 112) ?_
           refine pB 14 17 15 32767 ?_
           refine done_ (done_of HT_.out (by kernel_rfl)) ?_
           try go_wp2
           go_roundg k5
           case measure => have := HJ3.out; have := HJ13.out; have := HK3.out; have := HK4.out; have := HK5.out; omega
           case rel => exact ⟨(y216), (wrap64 (x18_5 + 1)), rfS, H', ⟨by have := HJ3.out; have := HJ13.out; have := HK3.out; have := HK4.out; have := HK5.out; omega⟩, ⟨by (with_reducible repeat (first | apply Kd.R_alloc | apply Kd.R_drewN | apply Kd.R_drew)); exact HO_9.out⟩, ⟨by (with_reducible repeat (first | apply Kd.R_alloc | apply Kd.R_drewN | apply Kd.R_drew)); exact Kd.R_mono HO_10.out (fun _ hk => ⟨hk.1.1, ⟨hk.1.2, hk.2⟩⟩)⟩, ⟨by (with_reducible repeat (first | apply Kd.R_alloc | apply Kd.R_drewN | apply Kd.R_drew)); exact HO_11.out⟩, ⟨by (with_reducible repeat (first | apply Kd.R_alloc | apply Kd.R_drewN | apply Kd.R_drew)); exact HO_15.out⟩, ⟨by (with_reducible repeat (first | apply Kd.R_alloc | apply Kd.R_drewN | apply Kd.R_drew)); exact HO218.out⟩, ⟨by (with_reducible repeat (first | refine blk_drewN ?_ _ | refine blk_drew ?_ | refine blk_alloc ?_ _)); exact BK182.out⟩, ⟨by repeat (first | (with_reducible first | exact HB.out | apply below_alloc | apply pw_below_drewN | apply below_drew1 | refine below_set ?_ GE182.out) | exact HB.out)⟩⟩
/-! ### imprimaturref02_Hash256: function 56 -/
def imprimaturref02_Hash256.f (k : Nat) (l0 : List Int) : Option (List Int) := (imprimaturref02_Sum.f k l0 256).bind fun bt223 => (some bt223.1)
theorem imprimaturref02_Hash256.mono : ∀ a0 k, LeO (imprimaturref02_Hash256.f k a0) (imprimaturref02_Hash256.f (k + 1) a0) := by
 intro a0 k
 unfold imprimaturref02_Hash256.f
 repeat' first
   | (with_reducible exact imprimaturref02_Sum.mono _ _ _)
   | (with_reducible exact LeO.refl _)
   | (with_reducible exact LeO.none _)
   | (with_reducible refine LeO.ite ?_ ?_)
   | (with_reducible refine LeO.bind ?_ (fun _ => ?_))
set_option maxHeartbeats 8000000 in
set_option maxRecDepth 100000 in
theorem imprimaturref02_Hash256.calls (k : Nat) (A0 : Option Addr) (c0 : Nat) (l0 : List Int) (r : List Int) (w : World) (hr0 : Kd.C (Kd.int .u8) w A0 l0.length l0) (hc0 : l0.length ≤ c0) (h : imprimaturref02_Hash256.f k l0 = some r) :
  Calls Tryd.prog 56 #[.slice A0 l0.length c0] w fun e w' => ∃ v0_ : Value, e = .returned (v0_) ∧ Kd.R (Kd.int .u8) 5 w' w.heap.size (fun _ => True) v0_ r ∧ Below w.heap.size w w' := by
 have HR0 := aM hr0
 have HC0 := aM hc0
 clear hr0 hc0
 have HB := aM (Below.refl w.heap.size w)
 have H : ((imprimaturref02_Sum.f k l0 256).bind fun bt223 => (some bt223.1)) = some r := h
 clear h
 replace H := Option.bind_eq_some_iff.mp H
 obtain ⟨⟨t223, t224⟩, A20, H⟩ := H
 replace H : (some t223) = some r := H
 have A2 := aM A20
 clear A20
 obtain rfl := Option.some.inj H
 go_enter Tryd.func56, Tryd.ntmps56
 go_wp2_with (first | ((with_reducible refine gate_callee (f := 79) rfl ?_); refine goesL_ (some 7) rfl rfl Tryd.func79 (by kernel_rfl) rfl #[.slice A0 l0.length c0, .int .i64 256] rfl eqA ?_; (with_reducible refine (imprimaturref02_Sum.calls k _ _ l0 256 t223 t224 _ ?side1 ?side2 A2.out).mono ?_); (case side1 => exact cL HR0.out); (case side2 => exact HC0.out); rintro e w3 ⟨v225, rfl, ho0, hb⟩; refine ⟨_, rfl, ?_⟩; have HO226 := aM (Kd.R_lower ho0 (below_size bel)); replace HB := aM (below_step bel hb); clear hb ho0))
 go_ret
 exact ⟨_, erR, by (with_reducible repeat (first | apply Kd.R_alloc | apply Kd.R_drewN | apply Kd.R_drew)); exact HO226.out, bel⟩

end Go.Proofs.YtdpdmmbdoeefbaaDoor.PRf
