-- Written by a program of this session, after the print of the kit.
import Derived.Test.YtdpdmmbdoeefbaaDoorWC
import Derived.Test.YtdpdmmbdoeefbaaDoorPRfx0
import Derived.Test.YtdpdmmbdoeefbaaDoorPRfx1
namespace Go.Proofs.YtdpdmmbdoeefbaaDoor.PRf
open Go.RowKit YtdpdmmbdoeefbaaDoorW.PrintWords YtdpdmmbdoeefbaaDoorW.PrintLast YtdpdmmbdoeefbaaDoorW.PrintMore
attribute [local go_sem] max2_int min2_int max_two min_two max_three min_three max_four min_four   -- for this text's walks alone
set_option linter.unusedVariables false
set_option linter.unusedSimpArgs false

/-! ### imprimaturref02_Words_round: function 95 -/
def imprimaturref02_Words_round.f (a0_0 : Int) (a0_1 : Int) (l1 : List Int) (a2 : Int) (a3 : Int) : Option (List Int) := if 0 < (l1.length : Int) then (if 1 < (l1.length : Int) then (if 2 < (l1.length : Int) then (if 4 < (l1.length : Int) then (if 5 < (l1.length : Int) then (if 6 < (l1.length : Int) then (if a0_0 = 0 then (none) else ((imprimaturref02_Words_big.f a0_0 a0_1 (rd l1 4) 6 11 25).bind fun t172 => ((imprimaturref02_Words_big.f a0_0 a0_1 (rd l1 0) 2 13 22).bind fun t173 => ((imprimaturref02_Words_cut.f a0_0 a0_1 (Go.bits .xor .u64 Go.IntKind.u64.max (rd l1 4))).bind fun t174 => (if 7 < (l1.length : Int) then ((imprimaturref02_Words_cut.f a0_0 a0_1 (IntKind.u64.wrap ((IntKind.u64.wrap ((IntKind.u64.wrap ((IntKind.u64.wrap ((IntKind.u64.wrap ((IntKind.u64.wrap ((rd l1 7) + t172)) + (Go.bits .or .u64 (Go.bits .and .u64 (rd l1 4) (rd l1 5)) (Go.bits .and .u64 t174 (rd l1 6))))) + (IntKind.u64.wrap (Int.tdiv a2 4294967296)))) + a3)) + t173)) + (Go.bits .or .u64 (Go.bits .or .u64 (Go.bits .and .u64 (rd l1 0) (rd l1 1)) (Go.bits .and .u64 (rd l1 0) (rd l1 2))) (Go.bits .and .u64 (rd l1 1) (rd l1 2)))))).bind fun t176 => (if 3 < (l1.length : Int) then ((imprimaturref02_Words_cut.f a0_0 a0_1 (IntKind.u64.wrap ((rd l1 3) + (IntKind.u64.wrap ((IntKind.u64.wrap ((IntKind.u64.wrap ((IntKind.u64.wrap ((rd l1 7) + t172)) + (Go.bits .or .u64 (Go.bits .and .u64 (rd l1 4) (rd l1 5)) (Go.bits .and .u64 t174 (rd l1 6))))) + (IntKind.u64.wrap (Int.tdiv a2 4294967296)))) + a3))))).bind fun t178 => (some (([t176, rd l1 0, rd l1 1, rd l1 2, t178, rd l1 4, rd l1 5, rd l1 6] : List Int)))) else (none))) else (none)))))) else (none)) else (none)) else (none)) else (none)) else (none)) else (none)
def imprimaturref02_Words_round.T1 : Bool × List (List Nat × List Nat) := (true, [([], []), ([0], [0]), ([1], [1]), ([], []), ([3], [3]), ([4], [4]), ([], []), ([6], [6]), ([7], [7]), ([], []), ([9], [9]), ([10], [10]), ([], []), ([12], [12]), ([13], [13]), ([], []), ([15], [15]), ([16], [16]), ([2, 0, 1, 2], [2]), ([5, 18, 0, 1, 2, 3, 4, 5, 18], [5]), ([8, 19, 0, 1, 2, 3, 4, 5, 6, 7, 8, 18, 19], [8]), ([11, 20, 0, 1, 2, 3, 4, 5, 6, 7, 8, 9, 10, 11, 18, 19, 20], [11]), ([14, 21, 0, 1, 2, 3, 4, 5, 6, 7, 8, 9, 10, 11, 12, 13, 14, 18, 19, 20, 21], [14]), ([17, 22, 0, 1, 2, 3, 4, 5, 6, 7, 8, 9, 10, 11, 12, 13, 14, 15, 16, 17, 18, 19, 20, 21, 22], [17])])
def imprimaturref02_Words_round.B1 : List Nat := [0, 1, 3, 0, 8, 24, 0, 64, 192, 0, 512, 1536, 0, 4096, 12288, 0, 32768, 98304, 7, 262207, 786943, 1839103, 3964927, 8388607]
theorem imprimaturref02_Words_round.tab1 : rtab .any (opsOf Tryd.f95 1) = imprimaturref02_Words_round.T1 := by kernel_rfl
theorem imprimaturref02_Words_round.bits1 : waitsOk imprimaturref02_Words_round.T1.2 imprimaturref02_Words_round.B1 = true := by kernel_rfl
def imprimaturref02_Words_round.T12 : Bool × List (List Nat × List Nat) := (true, [([], []), ([], []), ([], []), ([1, 2], [1, 2]), ([], []), ([3, 4], [3, 4]), ([0, 5], [0, 5]), ([], []), ([], []), ([], []), ([], []), ([], []), ([11], [11]), ([12], [12]), ([], []), ([13, 14], [13, 14]), ([10, 15, 6], [10, 15]), ([], []), ([], []), ([], []), ([6, 7, 8, 9, 16, 17, 18, 19], [6, 7, 8, 9, 16, 17, 18, 19]), ([20, 16, 0, 1, 2, 3, 4, 5, 6, 7, 8, 9, 10, 11, 12, 13, 14, 15, 16, 17, 18, 19, 20], [20])])
def imprimaturref02_Words_round.B12 : List Nat := [0, 0, 0, 6, 0, 30, 63, 0, 0, 0, 0, 0, 2048, 6144, 0, 30720, 64639, 0, 0, 0, 1048575, 2097151]
theorem imprimaturref02_Words_round.tab12 : rtab .any (opsOf Tryd.f95 12) = imprimaturref02_Words_round.T12 := by kernel_rfl
theorem imprimaturref02_Words_round.bits12 : waitsOk imprimaturref02_Words_round.T12.2 imprimaturref02_Words_round.B12 = true := by kernel_rfl
set_option maxHeartbeats 8000000 in
set_option maxRecDepth 100000 in
theorem imprimaturref02_Words_round.calls (a0_0 : Int) (a0_1 : Int) (A1 : Option Addr) (c1 : Nat) (l1 : List Int) (a2 : Int) (a3 : Int) (r : List Int) (w : World) (hr1 : Kd.C (Kd.int .u64) w A1 l1.length l1) (hc1 : l1.length ≤ c1) (h : imprimaturref02_Words_round.f a0_0 a0_1 l1 a2 a3 = some r) :
  Calls Tryd.prog 95 #[.agg #[.int .u64 a0_0, .int .u64 a0_1], .slice A1 l1.length c1, .int .u64 a2, .int .u64 a3] w fun e w' => ∃ v0_ : Value, e = .returned (v0_) ∧ Kd.R (Kd.int .u64) 94 w' w.heap.size (fun _ => True) v0_ r ∧ Below w.heap.size w w' := by
 have hu115 := Tryd.underlying115
 have HR1 := aM hr1
 have HC1 := aM hc1
 clear hr1 hc1
 have HB := aM (Below.refl w.heap.size w)
 have H : (if 0 < (l1.length : Int) then (if 1 < (l1.length : Int) then (if 2 < (l1.length : Int) then (if 4 < (l1.length : Int) then (if 5 < (l1.length : Int) then (if 6 < (l1.length : Int) then (if a0_0 = 0 then (none) else ((imprimaturref02_Words_big.f a0_0 a0_1 (rd l1 4) 6 11 25).bind fun t172 => ((imprimaturref02_Words_big.f a0_0 a0_1 (rd l1 0) 2 13 22).bind fun t173 => ((imprimaturref02_Words_cut.f a0_0 a0_1 (Go.bits .xor .u64 Go.IntKind.u64.max (rd l1 4))).bind fun t174 => (if 7 < (l1.length : Int) then ((imprimaturref02_Words_cut.f a0_0 a0_1 (IntKind.u64.wrap ((IntKind.u64.wrap ((IntKind.u64.wrap ((IntKind.u64.wrap ((IntKind.u64.wrap ((IntKind.u64.wrap ((rd l1 7) + t172)) + (Go.bits .or .u64 (Go.bits .and .u64 (rd l1 4) (rd l1 5)) (Go.bits .and .u64 t174 (rd l1 6))))) + (IntKind.u64.wrap (Int.tdiv a2 4294967296)))) + a3)) + t173)) + (Go.bits .or .u64 (Go.bits .or .u64 (Go.bits .and .u64 (rd l1 0) (rd l1 1)) (Go.bits .and .u64 (rd l1 0) (rd l1 2))) (Go.bits .and .u64 (rd l1 1) (rd l1 2)))))).bind fun t176 => (if 3 < (l1.length : Int) then ((imprimaturref02_Words_cut.f a0_0 a0_1 (IntKind.u64.wrap ((rd l1 3) + (IntKind.u64.wrap ((IntKind.u64.wrap ((IntKind.u64.wrap ((IntKind.u64.wrap ((rd l1 7) + t172)) + (Go.bits .or .u64 (Go.bits .and .u64 (rd l1 4) (rd l1 5)) (Go.bits .and .u64 t174 (rd l1 6))))) + (IntKind.u64.wrap (Int.tdiv a2 4294967296)))) + a3))))).bind fun t178 => (some (([t176, rd l1 0, rd l1 1, rd l1 2, t178, rd l1 4, rd l1 5, rd l1 6] : List Int)))) else (none))) else (none)))))) else (none)) else (none)) else (none)) else (none)) else (none)) else (none)) = some r := h
 clear h
 by_cases c5 : 0 < (l1.length : Int)
 rotate_left
 ·rw [if_neg c5] at H
  exact absurd H (by simp)

 rw [if_pos c5] at H
 have c5b0 : decide (0 < (l1.length : Int)) = true := decide_eq_true c5
 have c5b1 : decide (0 < l1.length) = true := decide_eq_true (by omega)
 clear c5
 by_cases c6 : 1 < (l1.length : Int)
 rotate_left
 ·rw [if_neg c6] at H
  exact absurd H (by simp)
 rw [if_pos c6] at H
 have c6b0 : decide (1 < (l1.length : Int)) = true := decide_eq_true c6
 have c6b1 : decide (1 < l1.length) = true := decide_eq_true (by omega)
 clear c6
 by_cases c7 : 2 < (l1.length : Int)
 rotate_left
 ·rw [if_neg c7] at H
  exact absurd H (by simp)
 rw [if_pos c7] at H
 have c7b0 : decide (2 < (l1.length : Int)) = true := decide_eq_true c7
 have c7b1 : decide (2 < l1.length) = true := decide_eq_true (by omega)
 clear c7
 by_cases c8 : 4 < (l1.length : Int)
 rotate_left
 ·rw [if_neg c8] at H
  exact absurd H (by simp)
 rw [if_pos c8] at H
 have c8b0 : decide (4 < (l1.length : Int)) = true := decide_eq_true c8
 have c8b1 : decide (4 < l1.length) = true := decide_eq_true (by omega)
 clear c8
 by_cases c9 : 5 < (l1.length : Int)
 rotate_left
 ·rw [if_neg c9] at H
  exact absurd H (by simp)
 rw [if_pos c9] at H
 have c9b0 : decide (5 < (l1.length : Int)) = true := decide_eq_true c9
 have c9b1 : decide (5 < l1.length) = true := decide_eq_true (by omega)
 clear c9
 by_cases c10 : 6 < (l1.length : Int)
 rotate_left
 ·rw [if_neg c10] at H
  exact absurd H (by simp)
 rw [if_pos c10] at H
 have c10b0 : decide (6 < (l1.length : Int)) = true := decide_eq_true c10
 have c10b1 : decide (6 < l1.length) = true := decide_eq_true (by omega)
 clear c10
 by_cases c11 : a0_0 = 0
 ·rw [if_pos c11] at H
  exact absurd H (by simp)
 rw [if_neg c11] at H
 have c11b0 : (a0_0 == 0) = false := beq_eq_false_iff_ne.mpr c11
 have c11b1 : (a0_0 != 0) = true := bne_iff_ne.mpr c11
 replace H := Option.bind_eq_some_iff.mp H
 obtain ⟨t172, A320, H⟩ := H
 replace H : ((imprimaturref02_Words_big.f a0_0 a0_1 (rd l1 0) 2 13 22).bind fun t173 => ((imprimaturref02_Words_cut.f a0_0 a0_1 (Go.bits .xor .u64 Go.IntKind.u64.max (rd l1 4))).bind fun t174 => (if 7 < (l1.length : Int) then ((imprimaturref02_Words_cut.f a0_0 a0_1 (IntKind.u64.wrap ((IntKind.u64.wrap ((IntKind.u64.wrap ((IntKind.u64.wrap ((IntKind.u64.wrap ((IntKind.u64.wrap ((rd l1 7) + t172)) + (Go.bits .or .u64 (Go.bits .and .u64 (rd l1 4) (rd l1 5)) (Go.bits .and .u64 t174 (rd l1 6))))) + (IntKind.u64.wrap (Int.tdiv a2 4294967296)))) + a3)) + t173)) + (Go.bits .or .u64 (Go.bits .or .u64 (Go.bits .and .u64 (rd l1 0) (rd l1 1)) (Go.bits .and .u64 (rd l1 0) (rd l1 2))) (Go.bits .and .u64 (rd l1 1) (rd l1 2)))))).bind fun t176 => (if 3 < (l1.length : Int) then ((imprimaturref02_Words_cut.f a0_0 a0_1 (IntKind.u64.wrap ((rd l1 3) + (IntKind.u64.wrap ((IntKind.u64.wrap ((IntKind.u64.wrap ((IntKind.u64.wrap ((rd l1 7) + t172)) + (Go.bits .or .u64 (Go.bits .and .u64 (rd l1 4) (rd l1 5)) (Go.bits .and .u64 t174 (rd l1 6))))) + (IntKind.u64.wrap (Int.tdiv a2 4294967296)))) + a3))))).bind fun t178 => (some (([t176, rd l1 0, rd l1 1, rd l1 2, t178, rd l1 4, rd l1 5, rd l1 6] : List Int)))) else (none))) else (none)))) = some r := H
 have A32 := aM A320
 clear A320
 replace H := Option.bind_eq_some_iff.mp H
 obtain ⟨t173, A330, H⟩ := H
 replace H : ((imprimaturref02_Words_cut.f a0_0 a0_1 (Go.bits .xor .u64 Go.IntKind.u64.max (rd l1 4))).bind fun t174 => (if 7 < (l1.length : Int) then ((imprimaturref02_Words_cut.f a0_0 a0_1 (IntKind.u64.wrap ((IntKind.u64.wrap ((IntKind.u64.wrap ((IntKind.u64.wrap ((IntKind.u64.wrap ((IntKind.u64.wrap ((rd l1 7) + t172)) + (Go.bits .or .u64 (Go.bits .and .u64 (rd l1 4) (rd l1 5)) (Go.bits .and .u64 t174 (rd l1 6))))) + (IntKind.u64.wrap (Int.tdiv a2 4294967296)))) + a3)) + t173)) + (Go.bits .or .u64 (Go.bits .or .u64 (Go.bits .and .u64 (rd l1 0) (rd l1 1)) (Go.bits .and .u64 (rd l1 0) (rd l1 2))) (Go.bits .and .u64 (rd l1 1) (rd l1 2)))))).bind fun t176 => (if 3 < (l1.length : Int) then ((imprimaturref02_Words_cut.f a0_0 a0_1 (IntKind.u64.wrap ((rd l1 3) + (IntKind.u64.wrap ((IntKind.u64.wrap ((IntKind.u64.wrap ((IntKind.u64.wrap ((rd l1 7) + t172)) + (Go.bits .or .u64 (Go.bits .and .u64 (rd l1 4) (rd l1 5)) (Go.bits .and .u64 t174 (rd l1 6))))) + (IntKind.u64.wrap (Int.tdiv a2 4294967296)))) + a3))))).bind fun t178 => (some (([t176, rd l1 0, rd l1 1, rd l1 2, t178, rd l1 4, rd l1 5, rd l1 6] : List Int)))) else (none))) else (none))) = some r := H
 have A33 := aM A330
 clear A330
 replace H := Option.bind_eq_some_iff.mp H
 obtain ⟨t174, A340, H⟩ := H
 replace H : (if 7 < (l1.length : Int) then ((imprimaturref02_Words_cut.f a0_0 a0_1 (IntKind.u64.wrap ((IntKind.u64.wrap ((IntKind.u64.wrap ((IntKind.u64.wrap ((IntKind.u64.wrap ((IntKind.u64.wrap ((rd l1 7) + t172)) + (Go.bits .or .u64 (Go.bits .and .u64 (rd l1 4) (rd l1 5)) (Go.bits .and .u64 t174 (rd l1 6))))) + (IntKind.u64.wrap (Int.tdiv a2 4294967296)))) + a3)) + t173)) + (Go.bits .or .u64 (Go.bits .or .u64 (Go.bits .and .u64 (rd l1 0) (rd l1 1)) (Go.bits .and .u64 (rd l1 0) (rd l1 2))) (Go.bits .and .u64 (rd l1 1) (rd l1 2)))))).bind fun t176 => (if 3 < (l1.length : Int) then ((imprimaturref02_Words_cut.f a0_0 a0_1 (IntKind.u64.wrap ((rd l1 3) + (IntKind.u64.wrap ((IntKind.u64.wrap ((IntKind.u64.wrap ((IntKind.u64.wrap ((rd l1 7) + t172)) + (Go.bits .or .u64 (Go.bits .and .u64 (rd l1 4) (rd l1 5)) (Go.bits .and .u64 t174 (rd l1 6))))) + (IntKind.u64.wrap (Int.tdiv a2 4294967296)))) + a3))))).bind fun t178 => (some (([t176, rd l1 0, rd l1 1, rd l1 2, t178, rd l1 4, rd l1 5, rd l1 6] : List Int)))) else (none))) else (none)) = some r := H
 have A34 := aM A340
 clear A340
 by_cases c35 : 7 < (l1.length : Int)
 rotate_left
 ·rw [if_neg c35] at H
  exact absurd H (by simp)
 rw [if_pos c35] at H
 have c35b0 : decide (7 < (l1.length : Int)) = true := decide_eq_true c35
 have c35b1 : decide (7 < l1.length) = true := decide_eq_true (by omega)
 clear c35
 replace H := Option.bind_eq_some_iff.mp H
 obtain ⟨t176, A360, H⟩ := H
 replace H : (if 3 < (l1.length : Int) then ((imprimaturref02_Words_cut.f a0_0 a0_1 (IntKind.u64.wrap ((rd l1 3) + (IntKind.u64.wrap ((IntKind.u64.wrap ((IntKind.u64.wrap ((IntKind.u64.wrap ((rd l1 7) + t172)) + (Go.bits .or .u64 (Go.bits .and .u64 (rd l1 4) (rd l1 5)) (Go.bits .and .u64 t174 (rd l1 6))))) + (IntKind.u64.wrap (Int.tdiv a2 4294967296)))) + a3))))).bind fun t178 => (some (([t176, rd l1 0, rd l1 1, rd l1 2, t178, rd l1 4, rd l1 5, rd l1 6] : List Int)))) else (none)) = some r := H
 have A36 := aM A360
 clear A360
 by_cases c37 : 3 < (l1.length : Int)
 rotate_left
 ·rw [if_neg c37] at H
  exact absurd H (by simp)
 rw [if_pos c37] at H
 have c37b0 : decide (3 < (l1.length : Int)) = true := decide_eq_true c37
 have c37b1 : decide (3 < l1.length) = true := decide_eq_true (by omega)
 clear c37
 replace H := Option.bind_eq_some_iff.mp H
 obtain ⟨t178, A380, H⟩ := H
 replace H : (some (([t176, rd l1 0, rd l1 1, rd l1 2, t178, rd l1 4, rd l1 5, rd l1 6] : List Int))) = some r := H
 have A38 := aM A380
 clear A380
 obtain ⟨y179, hy179⟩ : ∃ y_ : List Int, y_ = (([t176, rd l1 0, rd l1 1, rd l1 2, t178, rd l1 4, rd l1 5, rd l1 6] : List Int)) := ⟨_, rfl⟩
 replace H : (some y179) = some r := hyA hy179 H
 have Ny179 := aM hy179
 clear hy179
 obtain rfl := Option.some.inj H
 go_enter Tryd.func95, Tryd.ntmps95
 try go_wp2_with (first | ((with_reducible refine gate_dst (N := 4) rfl ?_); refine box_event ?hg (N := 4) ?hd (cs := #[.int .u64 a0_0, .int .u64 a0_1]) (t := 115) ?hr ?_; (case hd => rfl); (case hg => rfl); (case hr => first | (go_simp; done) | (go_simp; rfl)); intro gb155 hg w39 hbox hb; have BK155 := aM (hbox); have GW155 := aM ((by rw [hg]; exact (below_size bel) : w.heap.size ≤ gb155)); have GE155 := aM ((by rw [hg]; exact (below_size bel) : w.heap.size ≤ gb155)); replace HB := aM (below_step bel hb); clear hb hbox hg))
 replace BK155 := aM (blk_drew BK155.out)
 replace HB := aM (below_drew1 HB.out)
 have p156 : 0 ≤ (0 : Int) := (by omega)
 have q156 : 0 < (l1.length : Int) := of_decide_eq_true asm_
 obtain ⟨ad156, e156, hx156_0⟩ := Kd.at_int HR1.out 0 p156 q156
 have hw156_0 := hx156_0
 (try rw [show ((0 : Int)).toNat = 0 from rfl] at hw156_0)
 (try rw [show 0 * 1 = 0 from rfl] at hw156_0)
 (try rw [Addr.add_zero'] at hw156_0)
 cases e156
 have qi156 : (0 < l1.length) = True := eq_true (by omega)
 (try rw [show ((0 : Int)).toNat = 0 from rfl] at hx156_0)
 (try rw [Addr.add_zero'] at hx156_0)
 replace hx156_0 := (HB.out.cell (World.block_lt_of_cell? w _ hx156_0)).trans hx156_0
 replace p156 := eq_true p156
 replace q156 := eq_true q156
 have p157 : 0 ≤ (1 : Int) := (by omega)
 have q157 : 1 < (l1.length : Int) := of_decide_eq_true asm_
 obtain ⟨ad157, e157, hx157_0⟩ := Kd.at_int HR1.out 1 p157 q157
 have hw157_0 := hx157_0
 (try rw [show ((1 : Int)).toNat = 1 from rfl] at hw157_0)
 (try rw [show 1 * 1 = 1 from rfl] at hw157_0)
 (try simp only [Nat.reduceMul, Nat.reduceEqDiff, Go.Addr.add, ↓reduceIte] at hw157_0)
 obtain rfl : ad156 = ad157 := (by injection e157)
 (try simp only [show (1 : Int).toNat = 1 from rfl, Nat.reduceMul, Nat.reduceEqDiff, Go.Addr.add, ↓reduceIte] at hx157_0)
 have qi157 : (1 < l1.length) = True := eq_true (by omega)
 (try rw [show ((1 : Int)).toNat = 1 from rfl] at hx157_0)
 replace hx157_0 := (HB.out.cell (World.block_lt_of_cell? w _ hx157_0)).trans hx157_0
 replace p157 := eq_true p157
 replace q157 := eq_true q157
 have p158 : 0 ≤ (2 : Int) := (by omega)
 have q158 : 2 < (l1.length : Int) := of_decide_eq_true asm_
 obtain ⟨ad158, e158, hx158_0⟩ := Kd.at_int HR1.out 2 p158 q158
 have hw158_0 := hx158_0
 (try rw [show ((2 : Int)).toNat = 2 from rfl] at hw158_0)
 (try rw [show 2 * 1 = 2 from rfl] at hw158_0)
 (try simp only [Nat.reduceMul, Nat.reduceEqDiff, Go.Addr.add, ↓reduceIte] at hw158_0)
 obtain rfl : ad156 = ad158 := (by injection e158)
 (try simp only [show (2 : Int).toNat = 2 from rfl, Nat.reduceMul, Nat.reduceEqDiff, Go.Addr.add, ↓reduceIte] at hx158_0)
 have qi158 : (2 < l1.length) = True := eq_true (by omega)
 (try rw [show ((2 : Int)).toNat = 2 from rfl] at hx158_0)
 replace hx158_0 := (HB.out.cell (World.block_lt_of_cell? w _ hx158_0)).trans hx158_0
 replace p158 := eq_true p158
 replace q158 := eq_true q158
 have p159 : 0 ≤ (4 : Int) := (by omega)
 have q159 : 4 < (l1.length : Int) := of_decide_eq_true asm_
 obtain ⟨ad159, e159, hx159_0⟩ := Kd.at_int HR1.out 4 p159 q159
 have hw159_0 := hx159_0
 (try rw [show ((4 : Int)).toNat = 4 from rfl] at hw159_0)
 (try rw [show 4 * 1 = 4 from rfl] at hw159_0)
 (try simp only [Nat.reduceMul, Nat.reduceEqDiff, Go.Addr.add, ↓reduceIte] at hw159_0)
 obtain rfl : ad156 = ad159 := (by injection e159)
 (try simp only [show (4 : Int).toNat = 4 from rfl, Nat.reduceMul, Nat.reduceEqDiff, Go.Addr.add, ↓reduceIte] at hx159_0)
 have qi159 : (4 < l1.length) = True := eq_true (by omega)
 (try rw [show ((4 : Int)).toNat = 4 from rfl] at hx159_0)
 replace hx159_0 := (HB.out.cell (World.block_lt_of_cell? w _ hx159_0)).trans hx159_0
 replace p159 := eq_true p159
 replace q159 := eq_true q159
 have p160 : 0 ≤ (5 : Int) := (by omega)
 have q160 : 5 < (l1.length : Int) := of_decide_eq_true asm_
 obtain ⟨ad160, e160, hx160_0⟩ := Kd.at_int HR1.out 5 p160 q160
 have hw160_0 := hx160_0
 (try rw [show ((5 : Int)).toNat = 5 from rfl] at hw160_0)
 (try rw [show 5 * 1 = 5 from rfl] at hw160_0)
 (try simp only [Nat.reduceMul, Nat.reduceEqDiff, Go.Addr.add, ↓reduceIte] at hw160_0)
 obtain rfl : ad156 = ad160 := (by injection e160)
 (try simp only [show (5 : Int).toNat = 5 from rfl, Nat.reduceMul, Nat.reduceEqDiff, Go.Addr.add, ↓reduceIte] at hx160_0)
 have qi160 : (5 < l1.length) = True := eq_true (by omega)
 (try rw [show ((5 : Int)).toNat = 5 from rfl] at hx160_0)
 replace hx160_0 := (HB.out.cell (World.block_lt_of_cell? w _ hx160_0)).trans hx160_0
 replace p160 := eq_true p160
 replace q160 := eq_true q160
 have p161 : 0 ≤ (6 : Int) := (by omega)
 have q161 : 6 < (l1.length : Int) := of_decide_eq_true asm_
 obtain ⟨ad161, e161, hx161_0⟩ := Kd.at_int HR1.out 6 p161 q161
 have hw161_0 := hx161_0
 (try rw [show ((6 : Int)).toNat = 6 from rfl] at hw161_0)
 (try rw [show 6 * 1 = 6 from rfl] at hw161_0)
 (try simp only [Nat.reduceMul, Nat.reduceEqDiff, Go.Addr.add, ↓reduceIte] at hw161_0)
 obtain rfl : ad156 = ad161 := (by injection e161)
 (try simp only [show (6 : Int).toNat = 6 from rfl, Nat.reduceMul, Nat.reduceEqDiff, Go.Addr.add, ↓reduceIte] at hx161_0)
 have qi161 : (6 < l1.length) = True := eq_true (by omega)
 (try rw [show ((6 : Int)).toNat = 6 from rfl] at hx161_0)
 replace hx161_0 := (HB.out.cell (World.block_lt_of_cell? w _ hx161_0)).trans hx161_0
 replace p161 := eq_true p161
 replace q161 := eq_true q161
 refine start_ (n := 24) (S := fun w' => w'.cell? ad156 = some (.int .u64 (rd l1 0)) ∧ w'.cell? ⟨ad156.block, ad156.off + 1, none⟩ = some (.int .u64 (rd l1 1)) ∧ w'.cell? ⟨ad156.block, ad156.off + 2, none⟩ = some (.int .u64 (rd l1 2)) ∧ w'.cell? ⟨ad156.block, ad156.off + 4, none⟩ = some (.int .u64 (rd l1 4)) ∧ w'.cell? ⟨ad156.block, ad156.off + 5, none⟩ = some (.int .u64 (rd l1 5)) ∧ w'.cell? ⟨ad156.block, ad156.off + 6, none⟩ = some (.int .u64 (rd l1 6))) (ds := []) #[false, false, false, false, false, false, false, false, false, false, false, false, false, false, false, false, false, false, false, false, false, false, false, false] (by kernel_rfl) rfl rfl ⟨((HB.out.cell (World.block_lt_of_cell? w _ hw156_0)).trans hw156_0), ((HB.out.cell (World.block_lt_of_cell? w _ hw157_0)).trans hw157_0), ((HB.out.cell (World.block_lt_of_cell? w _ hw158_0)).trans hw158_0), ((HB.out.cell (World.block_lt_of_cell? w _ hw159_0)).trans hw159_0), ((HB.out.cell (World.block_lt_of_cell? w _ hw160_0)).trans hw160_0), ((HB.out.cell (World.block_lt_of_cell? w _ hw161_0)).trans hw161_0)⟩ (fun hHeld => ?_); refine with_tabW imprimaturref02_Words_round.tab1 imprimaturref02_Words_round.bits1 (fun HT_ HW_ => ?_)
 generalize w39.drew = w40 at BK155 HB hx156_0 hx157_0 hx158_0 hx159_0 hx160_0 hx161_0 hHeld ⊢
 refine pB 0 20 24 1 ?_
 refine pB 1 21 24 3 ?_
 refine pB 3 23 24 11 ?_
 refine pB 4 24 24 27 ?_
 refine pB 6 26 24 91 ?_
 refine pB 7 27 24 219 ?_
 refine pB 9 29 24 731 ?_
 refine pB 10 30 24 1755 ?_
 refine pB 12 32 24 5851 ?_
 refine pB 13 33 24 14043 ?_
 refine pB 15 35 24 46811 ?_
 refine pB 16 36 24 112347 ?_
 refine take_ (i := 2) (N := some 22) (v := ?_) (a' := ?_) (fl 24 112351) rfl rfl (take_ofW HT_.out HW_.out (by kernel_rfl)) (fun _ _ _ h => h) (Or.inl ⟨by rfl, ?_⟩) hHeld ?_ ?_
 rotate_left
 ·rintro w' ⟨s0, s1, s2, s3, s4, s5⟩
  go_simp
  with_reducible rfl
 rotate_left
 ·simp only [Act.put, List.setIfInBounds_toArray, List.set_cons_zero, List.set_cons_succ, i64_w, i32_w]
  rfl
 refine pB 18 9 24 374495 ?_
 refine take_ (i := 5) (N := some 25) (v := ?_) (a' := ?_) (fl 24 374527) rfl rfl (take_ofW HT_.out HW_.out (by kernel_rfl)) (fun _ _ _ h => h) (Or.inl ⟨by rfl, ?_⟩) hHeld ?_ ?_
 rotate_left
 ·rintro w' ⟨s0, s1, s2, s3, s4, s5⟩
  go_simp
  with_reducible rfl
 rotate_left
 ·simp only [Act.put, List.setIfInBounds_toArray, List.set_cons_zero, List.set_cons_succ, i64_w, i32_w]
  rfl
 refine pB 19 10 24 898815 ?_
 refine take_ (i := 8) (N := some 28) (v := ?_) (a' := ?_) (fl 24 899071) rfl rfl (take_ofW HT_.out HW_.out (by kernel_rfl)) (fun _ _ _ h => h) (Or.inl ⟨by rfl, ?_⟩) hHeld ?_ ?_
 rotate_left
 ·rintro w' ⟨s0, s1, s2, s3, s4, s5⟩
  go_simp
  with_reducible rfl
 rotate_left
 ·simp only [Act.put, List.setIfInBounds_toArray, List.set_cons_zero, List.set_cons_succ, i64_w, i32_w]
  rfl
 refine pB 20 11 24 1947647 ?_
 refine take_ (i := 11) (N := some 31) (v := ?_) (a' := ?_) (fl 24 1949695) rfl rfl (take_ofW HT_.out HW_.out (by kernel_rfl)) (fun _ _ _ h => h) (Or.inl ⟨by rfl, ?_⟩) hHeld ?_ ?_
 rotate_left
 ·rintro w' ⟨s0, s1, s2, s3, s4, s5⟩
  go_simp
  with_reducible rfl
 rotate_left
 ·simp only [Act.put, List.setIfInBounds_toArray, List.set_cons_zero, List.set_cons_succ, i64_w, i32_w]
  rfl
 refine pB 21 12 24 4046847 ?_
 refine take_ (i := 14) (N := some 34) (v := ?_) (a' := ?_) (fl 24 4063231) rfl rfl (take_ofW HT_.out HW_.out (by kernel_rfl)) (fun _ _ _ h => h) (Or.inl ⟨by rfl, ?_⟩) hHeld ?_ ?_
 rotate_left
 ·rintro w' ⟨s0, s1, s2, s3, s4, s5⟩
  go_simp
  with_reducible rfl
 rotate_left
 ·simp only [Act.put, List.setIfInBounds_toArray, List.set_cons_zero, List.set_cons_succ, i64_w, i32_w]
  rfl
 refine pB 22 13 24 8257535 ?_
 refine take_ (i := 17) (N := some 37) (v := ?_) (a' := ?_) (fl 24 8388607) rfl rfl (take_ofW HT_.out HW_.out (by kernel_rfl)) (fun _ _ _ h => h) (Or.inl ⟨by rfl, ?_⟩) hHeld ?_ ?_
 rotate_left
 ·rintro w' ⟨s0, s1, s2, s3, s4, s5⟩
  go_simp
  with_reducible rfl
 rotate_left
 ·simp only [Act.put, List.setIfInBounds_toArray, List.set_cons_zero, List.set_cons_succ, i64_w, i32_w]
  rfl
 refine pB 23 14 24 16777215 ?_
 refine done_ (done_of HT_.out (by kernel_rfl)) ?_
 have hcz41_0 : w40.cell? ⟨gb155, 0, none⟩ = some (.int .u64 a0_0) := (blk_cell BK155.out 0).trans rfl
 have hcz41_1 : w40.cell? ⟨gb155, 1, none⟩ = some (.int .u64 a0_1) := (blk_cell BK155.out 1).trans rfl
 have hfz41_0 := blk_frozen BK155.out 0
 have hfz41_1 := blk_frozen BK155.out 1
 try go_wp2_with (first | ((with_reducible refine gate_callee (f := 107) rfl ?_); refine goesL_ (some 43) rfl rfl Tryd.func107 (by kernel_rfl) rfl #[.agg #[.int .u64 a0_0, .int .u64 a0_1], .int .u64 (rd l1 4), .int .u64 6, .int .u64 11, .int .u64 25] rfl eqA ?_; (with_reducible refine (imprimaturref02_Words_big.calls a0_0 a0_1 (rd l1 4) 6 11 25 t172 _ A32.out).mono ?_); rintro e w42 ⟨rfl, hb⟩; refine ⟨_, rfl, ?_⟩; replace BK155 := aM (blk_below (g := gb155) (o := .cells #[.int .u64 a0_0, .int .u64 a0_1] 115 (0, 0)) (bL BK155.out) hb); replace HB := aM (below_step (belG GE155.out) hb); clear hb; have hcz43_0 : w42.cell? ⟨gb155, 0, none⟩ = some (.int .u64 a0_0) := (blk_cell BK155.out 0).trans rfl; have hcz43_1 : w42.cell? ⟨gb155, 1, none⟩ = some (.int .u64 a0_1) := (blk_cell BK155.out 1).trans rfl; have hfz43_0 := blk_frozen BK155.out 0; have hfz43_1 := blk_frozen BK155.out 1) | ((with_reducible refine gate_callee (f := 107) rfl ?_); refine goesL_ (some 46) rfl rfl Tryd.func107 (by kernel_rfl) rfl #[.agg #[.int .u64 a0_0, .int .u64 a0_1], .int .u64 (rd l1 0), .int .u64 2, .int .u64 13, .int .u64 22] rfl eqA ?_; (with_reducible refine (imprimaturref02_Words_big.calls a0_0 a0_1 (rd l1 0) 2 13 22 t173 _ A33.out).mono ?_); rintro e w44 ⟨rfl, hb⟩; refine ⟨_, rfl, ?_⟩; replace BK155 := aM (blk_below (g := gb155) (o := .cells #[.int .u64 a0_0, .int .u64 a0_1] 115 (0, 0)) (bL BK155.out) hb); replace HB := aM (below_step (belG GE155.out) hb); clear hb; have hcz45_0 : w44.cell? ⟨gb155, 0, none⟩ = some (.int .u64 a0_0) := (blk_cell BK155.out 0).trans rfl; have hcz45_1 : w44.cell? ⟨gb155, 1, none⟩ = some (.int .u64 a0_1) := (blk_cell BK155.out 1).trans rfl; have hfz45_0 := blk_frozen BK155.out 0; have hfz45_1 := blk_frozen BK155.out 1) | ((with_reducible refine gate_callee (f := 96) rfl ?_); refine goesL_ (some 61) rfl rfl Tryd.func96 (by kernel_rfl) rfl #[.agg #[.int .u64 a0_0, .int .u64 a0_1], .int .u64 (Go.bits .xor .u64 Go.IntKind.u64.max (rd l1 4))] rfl eqA ?_; (with_reducible refine (imprimaturref02_Words_cut.calls a0_0 a0_1 (Go.bits .xor .u64 Go.IntKind.u64.max (rd l1 4)) t174 _ A34.out).mono ?_); rintro e w46 ⟨rfl, hb⟩; refine ⟨_, rfl, ?_⟩; replace BK155 := aM (blk_below (g := gb155) (o := .cells #[.int .u64 a0_0, .int .u64 a0_1] 115 (0, 0)) (bL BK155.out) hb); replace HB := aM (below_step (belG GE155.out) hb); clear hb; have p175 : 0 ≤ (7 : Int) := (by omega); have q175 : 7 < (l1.length : Int) := of_decide_eq_true asm_; obtain ⟨ad175, e175, hx175_0⟩ := Kd.at_int HR1.out 7 p175 q175; obtain rfl : ad156 = ad175 := (by injection e175); (try simp only [show (7 : Int).toNat = 7 from rfl, Nat.reduceMul, Nat.reduceEqDiff, Go.Addr.add, ↓reduceIte] at hx175_0); have qi175 : (7 < l1.length) = True := eq_true (by omega); (try rw [show ((7 : Int)).toNat = 7 from rfl] at hx175_0); replace hx175_0 := (HB.out.cell (World.block_lt_of_cell? w _ hx175_0)).trans hx175_0; replace p175 := eq_true p175; replace q175 := eq_true q175))
 replace BK155 := aM (blk_drew BK155.out)
 replace HB := aM (below_drew1 HB.out)
 have p177 : 0 ≤ (3 : Int) := (by omega)
 have q177 : 3 < (l1.length : Int) := of_decide_eq_true asm_
 obtain ⟨ad177, e177, hx177_0⟩ := Kd.at_int HR1.out 3 p177 q177
 have hw177_0 := hx177_0
 (try rw [show ((3 : Int)).toNat = 3 from rfl] at hw177_0)
 (try rw [show 3 * 1 = 3 from rfl] at hw177_0)
 (try simp only [Nat.reduceMul, Nat.reduceEqDiff, Go.Addr.add, ↓reduceIte] at hw177_0)
 obtain rfl : ad156 = ad177 := (by injection e177)
 (try simp only [show (3 : Int).toNat = 3 from rfl, Nat.reduceMul, Nat.reduceEqDiff, Go.Addr.add, ↓reduceIte] at hx177_0)
 have qi177 : (3 < l1.length) = True := eq_true (by omega)
 (try rw [show ((3 : Int)).toNat = 3 from rfl] at hx177_0)
 replace hx177_0 := (HB.out.cell (World.block_lt_of_cell? w _ hx177_0)).trans hx177_0
 replace p177 := eq_true p177
 replace q177 := eq_true q177
 refine start_ (n := 22) (S := fun w' => w'.cell? ⟨gb155, 0, none⟩ = some (.int .u64 a0_0) ∧ w'.cell? ⟨gb155, 1, none⟩ = some (.int .u64 a0_1) ∧ w'.cell? ⟨ad156.block, ad156.off + 3, none⟩ = some (.int .u64 (rd l1 3))) (ds := []) #[false, false, false, false, false, false, false, false, false, false, false, false, false, false, false, false, false, false, false, false, false, false] (by kernel_rfl) rfl rfl ⟨(blk_cell BK155.out 0).trans rfl, (blk_cell BK155.out 1).trans rfl, ((HB.out.cell (World.block_lt_of_cell? w _ hw177_0)).trans hw177_0)⟩ (fun hHeld => ?_); refine with_tabW imprimaturref02_Words_round.tab12 imprimaturref02_Words_round.bits12 (fun HT_ HW_ => ?_)
 generalize w46.drew = w47 at BK155 HB hx177_0 hHeld ⊢
 refine pB 1 88 22 2 ?_
 refine pB 2 89 22 6 ?_
 refine pB 3 90 22 14 ?_
 refine pB 4 91 22 30 ?_
 refine pB 5 92 22 62 ?_
 refine pB 7 94 22 190 ?_
 refine pB 8 95 22 446 ?_
 refine pB 9 96 22 958 ?_
 refine pB 11 98 22 3006 ?_
 refine pB 12 99 22 7102 ?_
 refine pB 14 101 22 23486 ?_
 refine pB 17 104 22 154558 ?_
 refine pB 18 105 22 416702 ?_
 refine pB 19 106 22 940990 ?_
 refine take_ (i := 0) (N := some 87) (v := ?_) (a' := ?_) (fl 22 940991) rfl rfl (take_ofW HT_.out HW_.out (by kernel_rfl)) (fun _ _ _ h => h) (Or.inl ⟨by rfl, ?_⟩) hHeld ?_ ?_
 rotate_left
 ·rintro w' ⟨s0, s1, s2⟩
  go_simp
  with_reducible rfl
 rotate_left
 ·simp only [Act.put, List.setIfInBounds_toArray, List.set_cons_zero, List.set_cons_succ, i64_w, i32_w]
  rfl
 refine take_ (i := 10) (N := some 97) (v := ?_) (a' := ?_) (fl 22 942015) rfl rfl (take_ofW HT_.out HW_.out (by kernel_rfl)) (fun _ _ _ h => h) (Or.inl ⟨by rfl, ?_⟩) hHeld ?_ ?_
 rotate_left
 ·rintro w' ⟨s0, s1, s2⟩
  go_simp
  with_reducible rfl
 rotate_left
 ·simp only [Act.put, List.setIfInBounds_toArray, List.set_cons_zero, List.set_cons_succ, i64_w, i32_w]
  rfl
 refine take_ (i := 13) (N := some 100) (v := ?_) (a' := ?_) (fl 22 950207) rfl rfl (take_ofW HT_.out HW_.out (by kernel_rfl)) (fun _ _ _ h => h) (Or.inl ⟨by rfl, ?_⟩) hHeld ?_ ?_
 rotate_left
 ·rintro w' ⟨s0, s1, s2⟩
  go_simp
  with_reducible rfl
 rotate_left
 ·simp only [Act.put, List.setIfInBounds_toArray, List.set_cons_zero, List.set_cons_succ, i64_w, i32_w]
  rfl
 refine pB 15 102 22 982975 ?_
 refine one_ (i := 6) (N := some 93) (fl 22 983039) rfl rfl (one_of HT_.out (by kernel_rfl)) (by decide) (fun K hK => ?_)
 refine goes_ Tryd.func96 (by kernel_rfl) rfl #[.agg #[.int .u64 a0_0, .int .u64 a0_1], .int .u64 (IntKind.u64.wrap ((IntKind.u64.wrap ((IntKind.u64.wrap ((IntKind.u64.wrap ((IntKind.u64.wrap ((IntKind.u64.wrap ((rd l1 7) + t172)) + (Go.bits .or .u64 (Go.bits .and .u64 (rd l1 4) (rd l1 5)) (Go.bits .and .u64 t174 (rd l1 6))))) + (IntKind.u64.wrap (Int.tdiv a2 4294967296)))) + a3)) + t173)) + (Go.bits .or .u64 (Go.bits .or .u64 (Go.bits .and .u64 (rd l1 0) (rd l1 1)) (Go.bits .and .u64 (rd l1 0) (rd l1 2))) (Go.bits .and .u64 (rd l1 1) (rd l1 2)))))] (by rfl) rfl rfl eqA ?_
 with_reducible refine (imprimaturref02_Words_cut.calls a0_0 a0_1 (IntKind.u64.wrap ((IntKind.u64.wrap ((IntKind.u64.wrap ((IntKind.u64.wrap ((IntKind.u64.wrap ((IntKind.u64.wrap ((rd l1 7) + t172)) + (Go.bits .or .u64 (Go.bits .and .u64 (rd l1 4) (rd l1 5)) (Go.bits .and .u64 t174 (rd l1 6))))) + (IntKind.u64.wrap (Int.tdiv a2 4294967296)))) + a3)) + t173)) + (Go.bits .or .u64 (Go.bits .or .u64 (Go.bits .and .u64 (rd l1 0) (rd l1 1)) (Go.bits .and .u64 (rd l1 0) (rd l1 2))) (Go.bits .and .u64 (rd l1 1) (rd l1 2))))) t176 _ A36.out).mono ?_
 rintro e w48 ⟨rfl, hb⟩
 refine ⟨_, rfl, ?_⟩
 replace BK155 := aM (blk_below (g := gb155) (o := .cells #[.int .u64 a0_0, .int .u64 a0_1] 115 (0, 0)) (bL BK155.out) hb)
 replace HB := aM (below_step (belG GE155.out) hb)
 (try clear hb)
 (try clear hb2)
 (try clear hk)
 (try clear hi)
 refine hK.out _ _ ⟨(blk_cell BK155.out 0).trans rfl, (blk_cell BK155.out 1).trans rfl, ((HB.out.cell (World.block_lt_of_cell? w _ hw177_0)).trans hw177_0)⟩ (fun hHeld => ?_)
 clear hK K
 refine normA (some 93) ?_
 refine one_ (i := 16) (N := some 103) (fl 22 1048575) rfl rfl (one_of HT_.out (by kernel_rfl)) (by decide) (fun K hK => ?_)
 refine goes_ Tryd.func96 (by kernel_rfl) rfl #[.agg #[.int .u64 a0_0, .int .u64 a0_1], .int .u64 (IntKind.u64.wrap ((rd l1 3) + (IntKind.u64.wrap ((IntKind.u64.wrap ((IntKind.u64.wrap ((IntKind.u64.wrap ((rd l1 7) + t172)) + (Go.bits .or .u64 (Go.bits .and .u64 (rd l1 4) (rd l1 5)) (Go.bits .and .u64 t174 (rd l1 6))))) + (IntKind.u64.wrap (Int.tdiv a2 4294967296)))) + a3))))] (by rfl) rfl rfl eqA ?_
 with_reducible refine (imprimaturref02_Words_cut.calls a0_0 a0_1 (IntKind.u64.wrap ((rd l1 3) + (IntKind.u64.wrap ((IntKind.u64.wrap ((IntKind.u64.wrap ((IntKind.u64.wrap ((rd l1 7) + t172)) + (Go.bits .or .u64 (Go.bits .and .u64 (rd l1 4) (rd l1 5)) (Go.bits .and .u64 t174 (rd l1 6))))) + (IntKind.u64.wrap (Int.tdiv a2 4294967296)))) + a3)))) t178 _ A38.out).mono ?_
 rintro e w49 ⟨rfl, hb⟩
 refine ⟨_, rfl, ?_⟩
 replace BK155 := aM (blk_below (g := gb155) (o := .cells #[.int .u64 a0_0, .int .u64 a0_1] 115 (0, 0)) (bL BK155.out) hb)
 replace HB := aM (below_step (belG GE155.out) hb)
 (try clear hb)
 (try clear hb2)
 (try clear hk)
 (try clear hi)
 refine hK.out _ _ ⟨(blk_cell BK155.out 0).trans rfl, (blk_cell BK155.out 1).trans rfl, ((HB.out.cell (World.block_lt_of_cell? w _ hw177_0)).trans hw177_0)⟩ (fun hHeld => ?_)
 clear hK K
 refine normA (some 103) ?_
 refine one_ (i := 20) (N := some 107) (fl 22 2097151) rfl rfl (one_of HT_.out (by kernel_rfl)) (by decide) (fun K hK => ?_)
 refine Kd.R_lit_step (Kd.int .u64) _ 94 ?hg (N := 107) ?hd (xs := ([t176, rd l1 0, rd l1 1, rd l1 2, t178, rd l1 4, rd l1 5, rd l1 6] : List Int)) (inner := [.int .u64 t176, .int .u64 (rd l1 0), .int .u64 (rd l1 1), .int .u64 (rd l1 2), .int .u64 t178, .int .u64 (rd l1 4), .int .u64 (rd l1 5), .int .u64 (rd l1 6)]) (ok := fun _ => True) (okp := fun _ => True) ?hr ?hp (fun _ hk => hk) trivial (Below.refl _ _) (Nat.le_refl _) (by simp) ?_; (case hd => rfl); (case hg => rfl); (case hr => first | (go_simp; done) | (go_simp; rfl)); (case hp => exact (Reps.one (show Kd.M (Kd.int .u64) _ _ _ t176 [.int .u64 t176] from rfl) (Reps.one (show Kd.M (Kd.int .u64) _ _ _ (rd l1 0) [.int .u64 (rd l1 0)] from rfl) (Reps.one (show Kd.M (Kd.int .u64) _ _ _ (rd l1 1) [.int .u64 (rd l1 1)] from rfl) (Reps.one (show Kd.M (Kd.int .u64) _ _ _ (rd l1 2) [.int .u64 (rd l1 2)] from rfl) (Reps.one (show Kd.M (Kd.int .u64) _ _ _ t178 [.int .u64 t178] from rfl) (Reps.one (show Kd.M (Kd.int .u64) _ _ _ (rd l1 4) [.int .u64 (rd l1 4)] from rfl) (Reps.one (show Kd.M (Kd.int .u64) _ _ _ (rd l1 5) [.int .u64 (rd l1 5)] from rfl) (Reps.one (show Kd.M (Kd.int .u64) _ _ _ (rd l1 6) [.int .u64 (rd l1 6)] from rfl) (Reps.none _ _))))))))))
 intro v180 w50 ho51 hb hg_ hnew_
 clear hg_ hnew_
 (first | rw [← Ny179.out] at ho51 | (simp only [Int.reduceToNat] at ho51; rw [← Ny179.out] at ho51))
 have HO181 := aM (Kd.R_lower ho51 (below_size (belG GE155.out)))
 replace BK155 := aM (blk_below (g := gb155) (o := .cells #[.int .u64 a0_0, .int .u64 a0_1] 115 (0, 0)) (bL BK155.out) hb)
 replace HB := aM (below_step (belG GE155.out) hb)
 clear hb ho51
 refine hK.out _ _ ⟨(blk_cell BK155.out 0).trans rfl, (blk_cell BK155.out 1).trans rfl, ((HB.out.cell (World.block_lt_of_cell? w _ hw177_0)).trans hw177_0)⟩ (fun hHeld => ?_)
 clear hK K
 refine normA (some 107) ?_
 refine pB 21 8 22 4194303 ?_
 refine done_ (done_of HT_.out (by kernel_rfl)) ?_
 try go_wp2
 go_ret
 exact ⟨_, erR, by (with_reducible repeat (first | apply Kd.R_alloc | apply Kd.R_drewN | apply Kd.R_drew)); exact HO181.out, by repeat (first | (with_reducible first | exact HB.out | apply below_alloc | apply pw_below_drewN | apply below_drew1 | refine below_set ?_ GE155.out) | exact HB.out)⟩
end Go.Proofs.YtdpdmmbdoeefbaaDoor.PRf
