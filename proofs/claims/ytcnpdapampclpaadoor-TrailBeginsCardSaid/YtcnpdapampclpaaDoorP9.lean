/- Plain lemmas for one law. -/
import Derived.Test.YtcnpdapampclpaaDoorPRsx1
import Derived.Test.YtcnpdapampclpaaDoorP0
import Derived.Test.YtcnpdapampclpaaDoorP1
import Derived.Test.YtcnpdapampclpaaDoorD
set_option linter.unusedVariables false
namespace Go.Proofs.YtcnpdapampclpaaDoor.PRs
open Go.RowKit Go.Proofs.YtcnpdapampclpaaDoorW.PrintWords Go.Proofs.YtcnpdapampclpaaDoorW.PrintLast Go.Proofs.YtcnpdapampclpaaDoorW.PrintMore Go.Proofs.YtcnpdapampclpaaDoor.X Go.Proofs.YtcnpdapampclpaaDoor.H Go.Proofs.YtcnpdapampclpaaDoor.PPl Go.Proofs.YtcnpdapampclpaaDoor.PPm
theorem all_drop {α : Type} (l : List α) (p : α → Bool) (d : α) (i : Nat) (h : i < l.length) : (l.drop i).all p = (p (l.getD i d) && (l.drop (i + 1)).all p) := by
  rw [List.drop_eq_getElem_cons h, List.all_cons, List.getD_eq_getElem?_getD, List.getElem?_eq_getElem h]
  rfl
theorem short_l (l : List (List Int)) (hl : l.length ≤ 5864062014805) : ∀ (d k i : Nat), i + d = l.length → imprimaturref20_short.l0 (k + d + 1) l i = some (all32 (l.drop i)) := by
  intro d
  induction d with
  | zero =>
    intro k i hi
    rw [imprimaturref20_short.l0, if_neg (by omega), List.drop_of_length_le (by omega)]
    rfl
  | succ d ih =>
    intro k i hi
    rw [show k + (d + 1) + 1 = (k + d + 1) + 1 by omega, imprimaturref20_short.l0, if_pos (by omega), if_pos (by omega), (show rd_L1 l ((i : Nat) : Int) = l.getD i [] by unfold rd_L1; rw [Int.toNat_natCast])]
    have e : all32 (l.drop i) = (decide ((l.getD i []).length = 32) && all32 (l.drop (i + 1))) := all_drop l (fun x => decide (x.length = 32)) [] i (by omega)
    rw [e]
    by_cases h : (l.getD i []).length = 32
    · rw [if_pos (by omega), w64 (by omega) (by omega), show (i : Int) + 1 = ((i + 1 : Nat) : Int) by omega, ih k (i + 1) (by omega), decide_eq_true h, Bool.true_and]
    · rw [if_neg (by omega), decide_eq_false h, Bool.false_and]
theorem short_f (l : List (List Int)) (hl : l.length ≤ 5864062014805) (k : Nat) (hk : l.length < k) : imprimaturref20_short.f k l = some (all32 l) := by
  unfold imprimaturref20_short.f
  have := short_l l hl l.length (k - l.length - 1) 0 (by omega)
  rw [show k - l.length - 1 + l.length + 1 = k by omega, List.drop_zero] at this
  exact this
end Go.Proofs.YtcnpdapampclpaaDoor.PRs
