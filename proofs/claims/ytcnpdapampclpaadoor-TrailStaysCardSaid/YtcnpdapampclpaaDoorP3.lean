/- Plain lemmas for one law. -/
import Derived.Test.YtcnpdapampclpaaDoorP0
set_option linter.unusedVariables false
namespace Go.Proofs.YtcnpdapampclpaaDoor.PPo
open Go.RowKit Go.Proofs.YtcnpdapampclpaaDoorW.PrintWords Go.Proofs.YtcnpdapampclpaaDoorW.PrintLast Go.Proofs.YtcnpdapampclpaaDoorW.PrintMore Go.Proofs.YtcnpdapampclpaaDoor.X Go.Proofs.YtcnpdapampclpaaDoor.H Go.Proofs.YtcnpdapampclpaaDoor.PPl
/-- The bridge from the first m marks of a part. -/
def bridgeL (l : List (List Int)) (m : Nat) (first : Bool) : List (List Int) :=
 if _h : l.length ≤ 1 ∨ m = l.length then (if first = true then [] else [topL l]) else if m ≤ hf l.length then bridgeL (l.take (hf l.length)) m first ++ [topL (l.drop (hf l.length))] else bridgeL (l.drop (hf l.length)) (m - hf l.length) false ++ [topL (l.take (hf l.length))]
termination_by l.length
decreasing_by
 ·simp only [List.length_take]; have := hf_lt (n := l.length) (by omega); omega
 ·simp only [List.length_drop]; have := hf_pos l.length; omega
theorem bridgeL_first {l : List (List Int)} {m : Nat} (h : m = l.length) : bridgeL l m true = [] := by rw [bridgeL, dif_pos (Or.inr h), if_pos rfl]
theorem bridgeL_last {l : List (List Int)} {m : Nat} (h : m = l.length) : bridgeL l m false = [topL l] := by rw [bridgeL, dif_pos (Or.inr h), if_neg (by decide)]
theorem bridgeL_left {l : List (List Int)} {m : Nat} {b : Bool} (h : 2 ≤ l.length) (h1 : m < l.length) (hm : m ≤ hf l.length) : bridgeL l m b = bridgeL (l.take (hf l.length)) m b ++ [topL (l.drop (hf l.length))] := by rw [bridgeL, dif_neg (by omega), if_pos hm]
theorem bridgeL_right {l : List (List Int)} {m : Nat} {b : Bool} (h : 2 ≤ l.length) (h1 : m < l.length) (hm : hf l.length < m) : bridgeL l m b = bridgeL (l.drop (hf l.length)) (m - hf l.length) false ++ [topL (l.take (hf l.length))] := by rw [bridgeL, dif_neg (by omega), if_neg (by omega)]
theorem bridgeL_ok : ∀ (n : Nat) (l : List (List Int)) (m : Nat) (b : Bool), l.length = n → 1 ≤ m → m ≤ n → Lv l → (bridgeL l m b).length ≤ n ∧ Lv (bridgeL l m b) := by
 intro n
 induction n using Nat.strongRecOn with
 | _ n ih =>
  intro l m b hl h1 hmn hv
  by_cases h : m = n
  ·cases b
   ·rw [bridgeL_last (by omega)]
    refine ⟨by simp; omega, fun x hx => ?_⟩
    obtain rfl := List.mem_singleton.1 hx
    exact topL_32 hv (by omega)
   ·rw [bridgeL_first (by omega)]
    exact ⟨by simp, fun x hx => by cases hx⟩
  ·have h3 := hf_pos n
   have h4 := hf_lt (n := n) (by omega)
   have t1 : (l.take (hf n)).length = hf n := by rw [List.length_take]; omega
   have t2 : (l.drop (hf n)).length = n - hf n := by rw [List.length_drop]; omega
   by_cases hm : m ≤ hf n
   ·rw [bridgeL_left (by omega) (by omega) (by rw [hl]; exact hm), hl]
    have i := ih (hf n) h4 _ m b t1 h1 hm (hv.take _)
    refine ⟨by rw [List.length_append, List.length_singleton]; omega, fun x hx => ?_⟩
    rw [List.mem_append, List.mem_singleton] at hx
    rcases hx with hx | rfl
    ·exact i.2 x hx
    ·exact topL_32 (hv.drop _) (by omega)
   ·rw [bridgeL_right (by omega) (by omega) (by rw [hl]; omega), hl]
    have i := ih (n - hf n) (by omega) _ (m - hf n) false t2 (by omega) (by omega) (hv.drop _)
    refine ⟨by rw [List.length_append, List.length_singleton]; omega, fun x hx => ?_⟩
    rw [List.mem_append, List.mem_singleton] at hx
    rcases hx with hx | rfl
    ·exact i.2 x hx
    ·exact topL_32 (hv.take _) (by omega)
theorem bseg_left (M : List (List Int)) (f n m : Nat) (b : Bool) (hn : 2 ≤ n) (hM : f + n ≤ M.length) (h1 : m < n) (hm : m ≤ hf n) : bridgeL ((M.drop f).take n) m b = bridgeL ((M.drop f).take (hf n)) m b ++ [topL ((M.drop (f + hf n)).take (n - hf n))] := by
 have h3 := hf_lt hn
 have hl : ((M.drop f).take n).length = n := by rw [List.length_take, List.length_drop]; omega
 rw [bridgeL_left (l := (M.drop f).take n) (by omega) (by omega) (by rw [hl]; exact hm), hl, List.take_take, Nat.min_eq_left (by omega), List.drop_take, List.drop_drop]
theorem bseg_right (M : List (List Int)) (f n m : Nat) (b : Bool) (hn : 2 ≤ n) (hM : f + n ≤ M.length) (h1 : m < n) (hm : hf n < m) : bridgeL ((M.drop f).take n) m b = bridgeL ((M.drop (f + hf n)).take (n - hf n)) (m - hf n) false ++ [topL ((M.drop f).take (hf n))] := by
 have h3 := hf_lt hn
 have hl : ((M.drop f).take n).length = n := by rw [List.length_take, List.length_drop]; omega
 rw [bridgeL_right (l := (M.drop f).take n) (by omega) (by omega) (by rw [hl]; omega), hl, List.take_take, Nat.min_eq_left (by omega), List.drop_take, List.drop_drop]
end Go.Proofs.YtcnpdapampclpaaDoor.PPo
