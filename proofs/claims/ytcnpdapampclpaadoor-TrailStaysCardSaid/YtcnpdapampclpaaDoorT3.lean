/- Small functions of a trail; nil. -/
import Derived.Test.YtcnpdapampclpaaDoorT2
namespace Go.Proofs.YtcnpdapampclpaaDoor.X
open Go.RowKit Go.Proofs.YtcnpdapampclpaaDoor.H Go.Proofs.YtcnpdapampclpaaDoorW.PrintWords Go.Proofs.YtcnpdapampclpaaDoorW.PrintLast Go.Proofs.YtcnpdapampclpaaDoorW.PrintMore Go.Proofs.YtcnpdapampclpaaDoor.PPl Go.Proofs.YtcnpdapampclpaaDoor.PTp
set_option linter.unusedVariables false
set_option linter.unusedSimpArgs false
section
variable {base p : Nat} {N : Nat} {vs : List Value} {L : Nat → List (List Int)} (w : World)
theorem size_c (T : TrailR base p N vs L w) : Calls Tryd.prog 16 #[.pointer (some ⟨p, 0, none⟩)] w fun e w' => e = .returned (.int .i64 N) ∧ Below w.heap.size w w' := by
  have hc := T.cellN
  go_enter Tryd.func16, Tryd.ntmps16
  go_wp2
  go_ret
  exact ⟨rfl, Below.refl _ _⟩
theorem size_nil : Calls Tryd.prog 16 #[.pointer none] w fun e w' => e = .returned (.int .i64 0) ∧ Below w.heap.size w w' := by
  go_enter Tryd.func16, Tryd.ntmps16
  go_wp2
  go_ret
  exact ⟨rfl, Below.refl _ _⟩
theorem within_c (T : TrailR base p N vs L w) (n least : Int) : Calls Tryd.prog 46 #[.pointer (some ⟨p, 0, none⟩), .int .i64 n, .int .i64 least] w fun e w' => e = .returned (.int .i64 (if n < least ∨ N < n then 1 else 0)) ∧ Below w.heap.size w w' := by
  have hc := T.cellN
  go_enter Tryd.func46, Tryd.ntmps46
  go_wp2
  all_goals (go_ret; exact ⟨rfl, Below.refl _ _⟩)
theorem within_nil (n least : Int) : Calls Tryd.prog 46 #[.pointer none, .int .i64 n, .int .i64 least] w fun e w' => e = .returned (.int .i64 3) ∧ Below w.heap.size w w' := by
  go_enter Tryd.func46, Tryd.ntmps46
  go_wp2
  go_ret
  exact ⟨rfl, Below.refl _ _⟩
theorem add_nil (b : Value) : Calls Tryd.prog 25 #[.pointer none, b] w fun e w' => e = .returned (.int .i64 3) ∧ Below w.heap.size w w' := by
  go_enter Tryd.func25, Tryd.ntmps25
  go_wp2
  go_ret
  exact ⟨rfl, Below.refl _ _⟩
theorem copy_nil : Calls Tryd.prog 32 #[.pointer none] w fun e w' => e = .returned (.pointer none) ∧ Below w.heap.size w w' := by
  go_enter Tryd.func32, Tryd.ntmps32
  go_wp2
  go_ret
  exact ⟨rfl, Below.refl _ _⟩
theorem within_ok (T : TrailR base p N vs L w) {n least : Int} (h1 : least ≤ n) (h2 : n ≤ N) : Calls Tryd.prog 46 #[.pointer (some ⟨p, 0, none⟩), .int .i64 n, .int .i64 least] w fun e w' => e = .returned (.int .i64 0) ∧ Below w.heap.size w w' := by
  have h := within_c w T n least
  rwa [if_neg (by omega)] at h
theorem within_err (T : TrailR base p N vs L w) {n least : Int} (h1 : n < least ∨ N < n) : Calls Tryd.prog 46 #[.pointer (some ⟨p, 0, none⟩), .int .i64 n, .int .i64 least] w fun e w' => e = .returned (.int .i64 1) ∧ Below w.heap.size w w' := by
  have h := within_c w T n least
  rwa [if_pos h1] at h
theorem head_nil (n : Int) : Calls Tryd.prog 19 #[.pointer none, .int .i64 n] w fun e w' => e = .returned (.tuple #[.slice none 0 0, .int .i64 3]) ∧ Below w.heap.size w w' := by
  go_enter Tryd.func19, Tryd.ntmps19
  go_wp2_with (first | (go_at_call 46; refine (within_nil _ _ _).mono ?_; rintro e w1 ⟨rfl, hB⟩))
  go_ret2
  exact ⟨rfl, hB⟩
theorem top_nil (n : Int) : Calls Tryd.prog 18 #[.pointer none, .int .i64 n] w fun e w' => e = .returned (.tuple #[.slice none 0 0, .int .i64 3]) ∧ Below w.heap.size w w' := by
  go_enter Tryd.func18, Tryd.ntmps18
  go_wp2_with (first | (go_at_call 46; refine (within_nil _ _ _).mono ?_; rintro e w1 ⟨rfl, hB⟩))
  go_ret2
  exact ⟨rfl, hB⟩
theorem way_nil (n m : Int) : Calls Tryd.prog 27 #[.pointer none, .int .i64 n, .int .i64 m] w fun e w' => e = .returned (.tuple #[.slice none 0 0, .int .i64 3]) ∧ Below w.heap.size w w' := by
  go_enter Tryd.func27, Tryd.ntmps27
  go_wp2_with (first | (go_at_call 46; refine (within_nil _ _ _).mono ?_; rintro e w1 ⟨rfl, hB⟩))
  go_ret2
  exact ⟨rfl, hB⟩
theorem bridge_nil (m n : Int) : Calls Tryd.prog 28 #[.pointer none, .int .i64 m, .int .i64 n] w fun e w' => e = .returned (.tuple #[.slice none 0 0, .int .i64 3]) ∧ Below w.heap.size w w' := by
  go_enter Tryd.func28, Tryd.ntmps28
  go_wp2_with (first | (go_at_call 46; refine (within_nil _ _ _).mono ?_; rintro e w1 ⟨rfl, hB⟩))
  go_ret2
  exact ⟨rfl, hB⟩
end
end Go.Proofs.YtcnpdapampclpaaDoor.X
