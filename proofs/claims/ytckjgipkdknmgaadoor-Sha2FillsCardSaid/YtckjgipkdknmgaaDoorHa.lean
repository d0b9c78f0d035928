/- Contracts of sha2's Const and Start. -/
import Derived.Test.YtckjgipkdknmgaaDoorH9
namespace Go.Proofs.YtckjgipkdknmgaaDoor.H
open Go.RowKit Go.Proofs.YtckjgipkdknmgaaDoorW.PrintWords
theorem Const_in (i : Nat) (hi : i < 80) (K : List Int) (w : World) (hK : w.cell? ⟨0, i, none⟩ = some (.int .u64 (K.getD i 0))) :
    Calls Tryd.prog 26 #[.int .i64 (i : Int)] w fun e w' => e = .returned (.tuple #[.int .u64 (K.getD i 0), .int .i64 0]) ∧ Below w.heap.size w w' := by
  have h0 : (0 : Int) ≤ (i : Int) := by omega
  have h1 : (i : Int) < 80 := by omega
  have d0 : decide ((i : Int) < 0) = false := decide_eq_false (by omega)
  generalize K.getD i 0 = x at hK ⊢
  go_enter Tryd.func26, Tryd.ntmps26
  go_wp2
  go_ret2
  exact ⟨rfl, Below.refl _ _⟩
theorem Const_out (i : Int) (hi : i < 0 ∨ 80 ≤ i) (w : World) :
    Calls Tryd.prog 26 #[.int .i64 i] w fun e w' => e = .returned (.tuple #[.int .u64 0, .int .i64 1]) ∧ Below w.heap.size w w' := by
  by_cases h : i < 0
  · have d0 : decide (i < 0) = true := decide_eq_true h
    clear hi
    go_enter Tryd.func26, Tryd.ntmps26
    go_wp2
    go_ret2
    exact ⟨rfl, Below.refl _ _⟩
  · have h8 : 80 ≤ i := by omega
    have d0 : decide (i < 0) = false := decide_eq_false h
    have d1 : decide (80 ≤ i) = true := decide_eq_true h8
    clear hi
    go_enter Tryd.func26, Tryd.ntmps26
    go_wp2
    go_ret2
    exact ⟨rfl, Below.refl _ _⟩
theorem Start_in (i : Nat) (hi : i < 8) (K : List Int) (w : World) (hK : w.cell? ⟨1, i, none⟩ = some (.int .u64 (K.getD i 0))) :
    Calls Tryd.prog 28 #[.int .i64 (i : Int)] w fun e w' => e = .returned (.tuple #[.int .u64 (K.getD i 0), .int .i64 0]) ∧ Below w.heap.size w w' := by
  have h0 : (0 : Int) ≤ (i : Int) := by omega
  have h1 : (i : Int) < 8 := by omega
  have d0 : decide ((i : Int) < 0) = false := decide_eq_false (by omega)
  generalize K.getD i 0 = x at hK ⊢
  go_enter Tryd.func28, Tryd.ntmps28
  go_wp2
  go_ret2
  exact ⟨rfl, Below.refl _ _⟩
theorem Start_out (i : Int) (hi : i < 0 ∨ 8 ≤ i) (w : World) :
    Calls Tryd.prog 28 #[.int .i64 i] w fun e w' => e = .returned (.tuple #[.int .u64 0, .int .i64 1]) ∧ Below w.heap.size w w' := by
  by_cases h : i < 0
  · have d0 : decide (i < 0) = true := decide_eq_true h
    clear hi
    go_enter Tryd.func28, Tryd.ntmps28
    go_wp2
    go_ret2
    exact ⟨rfl, Below.refl _ _⟩
  · have h8 : 8 ≤ i := by omega
    have d0 : decide (i < 0) = false := decide_eq_false h
    have d1 : decide (8 ≤ i) = true := decide_eq_true h8
    clear hi
    go_enter Tryd.func28, Tryd.ntmps28
    go_wp2
    go_ret2
    exact ⟨rfl, Below.refl _ _⟩
end Go.Proofs.YtckjgipkdknmgaaDoor.H
