/- Plain lemmas for one law. -/
import Derived.Test.YtcnpdapampclpaaDoorPRax1
import Derived.Test.YtcnpdapampclpaaDoorP0
set_option linter.unusedVariables false
namespace Go.Proofs.YtcnpdapampclpaaDoor.PRa
open Go.RowKit Go.Proofs.YtcnpdapampclpaaDoorW.PrintWords Go.Proofs.YtcnpdapampclpaaDoorW.PrintLast Go.Proofs.YtcnpdapampclpaaDoorW.PrintMore Go.Proofs.YtcnpdapampclpaaDoor.X Go.Proofs.YtcnpdapampclpaaDoor.H Go.Proofs.YtcnpdapampclpaaDoor.PPl Go.Proofs.YtcnpdapampclpaaDoor.PRa
theorem w64 {x : Int} (h : -9223372036854775808 ≤ x) (h' : x ≤ 9223372036854775807) : wrap64 x = x := by unfold wrap64; omega
theorem getD_mem' {l : List (List Int)} {i : Nat} (h : i < l.length) : l.getD i [] ∈ l := by rw [List.getD_eq_getElem?_getD, List.getElem?_eq_getElem h]; exact List.getElem_mem _
theorem same_dl (a b : List (List Int)) (ha : ∀ x ∈ a, BytesB x) (hb : ∀ x ∈ b, BytesB x) (hl : a.length = b.length) (hal : a.length ≤ 100000) : ∀ (d k i : Nat), i + d = a.length → imprimaturref06_Same.l0 (k + d + 1) a b i = some (decide (a.drop i = b.drop i)) := by
  intro d
  induction d with
  | zero =>
    intro k i hi
    rw [imprimaturref06_Same.l0, if_neg (by omega), List.drop_of_length_le (by omega), List.drop_of_length_le (by omega), decide_eq_true rfl]
  | succ d ih =>
    intro k i hi
    rw [show k + (d + 1) + 1 = (k + d + 1) + 1 by omega, imprimaturref06_Same.l0, if_pos (by omega), if_pos (by omega), if_pos (by omega), show rd_L1 a (i : Int) = a.getD i [] by unfold rd_L1; rw [Int.toNat_natCast], show rd_L1 b (i : Int) = b.getD i [] by unfold rd_L1; rw [Int.toNat_natCast]]
    have ea : a.drop i = a.getD i [] :: a.drop (i + 1) := by
      rw [List.drop_eq_getElem_cons (show i < a.length by omega), List.getD_eq_getElem?_getD, List.getElem?_eq_getElem (by omega)]; rfl
    have eb : b.drop i = b.getD i [] :: b.drop (i + 1) := by
      rw [List.drop_eq_getElem_cons (show i < b.length by omega), List.getD_eq_getElem?_getD, List.getElem?_eq_getElem (by omega)]; rfl
    rw [ea, eb]
    by_cases h : a.getD i [] = b.getD i []
    · rw [if_pos ((strs_eq (ha _ (getD_mem' (by omega))) (hb _ (getD_mem' (by omega)))).2 h), w64 (by omega) (by omega), show (i : Int) + 1 = ((i + 1 : Nat) : Int) by omega, ih k (i + 1) (by omega), h]
      congr 1
      rw [decide_eq_decide, List.cons.injEq]
      simp
    · rw [if_neg (fun e => h ((strs_eq (ha _ (getD_mem' (by omega))) (hb _ (getD_mem' (by omega)))).1 e)), decide_eq_false (fun e => h (List.cons.inj e).1)]
theorem same_dec (a b : List (List Int)) (ha : ∀ x ∈ a, BytesB x) (hb : ∀ x ∈ b, BytesB x) (hal : a.length ≤ 100000) (k : Nat) (hk : a.length < k) : imprimaturref06_Same.f k a b = some (decide (a = b)) := by
  unfold imprimaturref06_Same.f
  by_cases h : a.length = b.length
  · rw [if_pos (by omega)]
    have := same_dl a b ha hb h hal a.length (k - a.length - 1) 0 (by omega)
    rw [show k - a.length - 1 + a.length + 1 = k by omega] at this
    exact this
  · rw [if_neg (by omega), decide_eq_false (fun e => h (by rw [e]))]
end Go.Proofs.YtcnpdapampclpaaDoor.PRa
