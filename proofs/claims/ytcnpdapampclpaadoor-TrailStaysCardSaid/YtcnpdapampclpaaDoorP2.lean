/- Plain lemmas for one law. -/
import Derived.Test.YtcnpdapampclpaaDoorP0
import Derived.Test.YtcnpdapampclpaaDoorP1
set_option linter.unusedVariables false
namespace Go.Proofs.YtcnpdapampclpaaDoor.PPn
open Go.RowKit Go.Proofs.YtcnpdapampclpaaDoorW.PrintWords Go.Proofs.YtcnpdapampclpaaDoorW.PrintLast Go.Proofs.YtcnpdapampclpaaDoorW.PrintMore Go.Proofs.YtcnpdapampclpaaDoor.X Go.Proofs.YtcnpdapampclpaaDoor.H Go.Proofs.YtcnpdapampclpaaDoor.PPl Go.Proofs.YtcnpdapampclpaaDoor.PPm
/-- For each step from the top down to a place: whether it goes into the second half. -/
def pathL (n p : Nat) : List Bool :=
 if _h : n ≤ 1 then [] else decide (hf n ≤ p) :: (if hf n ≤ p then pathL (n - hf n) (p - hf n) else pathL (hf n) p)
termination_by n
decreasing_by
 ·have := hf_pos n; omega
 ·have := hf_lt (n := n) (by omega); omega
theorem pathL_one {n : Nat} (h : n ≤ 1) (p : Nat) : pathL n p = [] := by rw [pathL, dif_pos h]
theorem pathL_left {n p : Nat} (h : 2 ≤ n) (hp : p < hf n) : pathL n p = false :: pathL (hf n) p := by rw [pathL, dif_neg (by omega), decide_eq_false (by omega), if_neg (by omega)]
theorem pathL_right {n p : Nat} (h : 2 ≤ n) (hp : hf n ≤ p) : pathL n p = true :: pathL (n - hf n) (p - hf n) := by rw [pathL, dif_neg (by omega), decide_eq_true hp, if_pos hp]
/-- One step up. -/
def stepU (x : List Int) (b : Bool × List Int) : List Int := if b.1 = true then dig (17 :: (b.2 ++ x)) else dig (17 :: (x ++ b.2))
/-- The top that comes of a leaf, its way and a proof. -/
def climbL (way : List Bool) (proof : List (List Int)) (x : List Int) : List Int := (way.reverse.zip proof).foldl stepU x
theorem climbL_snoc (r : Bool) (way : List Bool) (proof : List (List Int)) (y x : List Int) (h : proof.length = way.length) : climbL (r :: way) (proof ++ [y]) x = stepU (climbL way proof x) (r, y) := by
 unfold climbL
 rw [List.reverse_cons, List.zip_append (by simp [h]), List.foldl_append]
 rfl
/-- The tops beside a place, the nearest first. -/
def walkL (l : List (List Int)) (p : Nat) : List (List Int) :=
 if _h : l.length ≤ 1 then [] else if hf l.length ≤ p then walkL (l.drop (hf l.length)) (p - hf l.length) ++ [topL (l.take (hf l.length))] else walkL (l.take (hf l.length)) p ++ [topL (l.drop (hf l.length))]
termination_by l.length
decreasing_by
 ·simp only [List.length_drop]; have := hf_pos l.length; omega
 ·simp only [List.length_take]; have := hf_lt (n := l.length) (by omega); omega
theorem walkL_one {l : List (List Int)} (h : l.length ≤ 1) (p : Nat) : walkL l p = [] := by rw [walkL, dif_pos h]
theorem walkL_left {l : List (List Int)} {p : Nat} (h : 2 ≤ l.length) (hp : p < hf l.length) : walkL l p = walkL (l.take (hf l.length)) p ++ [topL (l.drop (hf l.length))] := by rw [walkL, dif_neg (by omega), if_neg (by omega)]
theorem walkL_right {l : List (List Int)} {p : Nat} (h : 2 ≤ l.length) (hp : hf l.length ≤ p) : walkL l p = walkL (l.drop (hf l.length)) (p - hf l.length) ++ [topL (l.take (hf l.length))] := by rw [walkL, dif_neg (by omega), if_pos hp]
theorem walkL_length : ∀ (n : Nat) (l : List (List Int)) (p : Nat), l.length = n → (walkL l p).length = (pathL n p).length := by
 intro n
 induction n using Nat.strongRecOn with
 | _ n ih =>
  intro l p hl
  by_cases h : n ≤ 1
  ·rw [walkL_one (by omega), pathL_one h]; rfl
  ·have h3 := hf_pos n
   have h4 := hf_lt (n := n) (by omega)
   by_cases hp : p < hf n
   ·rw [walkL_left (by omega) (by rw [hl]; exact hp), pathL_left (by omega) hp, List.length_append, List.length_cons, hl, ih (hf n) h4 _ p (by rw [List.length_take]; omega)]; simp
   ·rw [walkL_right (by omega) (by rw [hl]; omega), pathL_right (by omega) (by omega), List.length_append, List.length_cons, hl, ih (n - hf n) (by omega) _ (p - hf n) (by rw [List.length_drop]; omega)]; simp
theorem walkL_32 : ∀ (n : Nat) (l : List (List Int)) (p : Nat), l.length = n → Lv l → Lv (walkL l p) := by
 intro n
 induction n using Nat.strongRecOn with
 | _ n ih =>
  intro l p hl hv
  by_cases h : n ≤ 1
  ·rw [walkL_one (by omega)]; intro x hx; cases hx
  ·have h3 := hf_pos n
   have h4 := hf_lt (n := n) (by omega)
   have t1 : (l.take (hf n)).length = hf n := by rw [List.length_take]; omega
   have t2 : (l.drop (hf n)).length = n - hf n := by rw [List.length_drop]; omega
   intro x hx
   by_cases hp : p < hf n
   ·rw [walkL_left (by omega) (by rw [hl]; exact hp), hl, List.mem_append, List.mem_singleton] at hx
    rcases hx with hx | rfl
    ·exact ih (hf n) h4 _ p t1 (hv.take _) x hx
    ·exact topL_32 (hv.drop _) (by omega)
   ·rw [walkL_right (by omega) (by rw [hl]; omega), hl, List.mem_append, List.mem_singleton] at hx
    rcases hx with hx | rfl
    ·exact ih (n - hf n) (by omega) _ _ t2 (hv.drop _) x hx
    ·exact topL_32 (hv.take _) (by omega)
/-- The proof that is made leads to the top. -/
theorem walkL_climb : ∀ (n : Nat) (l : List (List Int)) (p : Nat), l.length = n → p < n → climbL (pathL n p) (walkL l p) (l.getD p []) = topL l := by
 intro n
 induction n using Nat.strongRecOn with
 | _ n ih =>
  intro l p hl hp
  by_cases h : n ≤ 1
  ·rw [walkL_one (by omega), pathL_one h, topL_one (by omega), show p = 0 by omega]
   rfl
  ·have h3 := hf_pos n
   have h4 := hf_lt (n := n) (by omega)
   have t1 : (l.take (hf n)).length = hf n := by rw [List.length_take]; omega
   have t2 : (l.drop (hf n)).length = n - hf n := by rw [List.length_drop]; omega
   by_cases hq : p < hf n
   ·rw [walkL_left (by omega) (by rw [hl]; exact hq), pathL_left (by omega) hq, hl, climbL_snoc _ _ _ _ _ (walkL_length _ _ _ t1)]
    have e : l.getD p [] = (l.take (hf n)).getD p [] := by rw [List.getD_eq_getElem?_getD, List.getD_eq_getElem?_getD, List.getElem?_take, if_pos hq]
    rw [e, ih (hf n) h4 _ p t1 hq, topL_node (l := l) (by omega), hl]
    rfl
   ·rw [walkL_right (by omega) (by rw [hl]; omega), pathL_right (by omega) (by omega), hl, climbL_snoc _ _ _ _ _ (walkL_length _ _ _ t2)]
    have e : l.getD p [] = (l.drop (hf n)).getD (p - hf n) [] := by rw [List.getD_eq_getElem?_getD, List.getD_eq_getElem?_getD, List.getElem?_drop, show hf n + (p - hf n) = p by omega]
    rw [e, ih (n - hf n) (by omega) _ (p - hf n) t2 (by omega), topL_node (l := l) (by omega), hl]
    rfl
theorem getD_mem' {l : List (List Int)} {i : Nat} (h : i < l.length) : l.getD i [] ∈ l := by rw [List.getD_eq_getElem?_getD, List.getElem?_eq_getElem h]; exact List.getElem_mem _
end Go.Proofs.YtcnpdapampclpaaDoor.PPn
