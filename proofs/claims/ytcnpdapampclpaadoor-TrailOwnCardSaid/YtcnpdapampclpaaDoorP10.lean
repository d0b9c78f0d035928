/- Plain lemmas for one law. -/
import Derived.Test.YtcnpdapampclpaaDoorP0
import Derived.Test.YtcnpdapampclpaaDoorP1
import Derived.Test.YtcnpdapampclpaaDoorP2
import Derived.Test.YtcnpdapampclpaaDoorP3
import Derived.Test.YtcnpdapampclpaaDoorP6
import Derived.Test.YtcnpdapampclpaaDoorP7
set_option linter.unusedVariables false
namespace Go.Proofs.YtcnpdapampclpaaDoor.PPr
open Go.RowKit Go.Proofs.YtcnpdapampclpaaDoorW.PrintWords Go.Proofs.YtcnpdapampclpaaDoorW.PrintLast Go.Proofs.YtcnpdapampclpaaDoorW.PrintMore Go.Proofs.YtcnpdapampclpaaDoor.X Go.Proofs.YtcnpdapampclpaaDoor.H Go.Proofs.YtcnpdapampclpaaDoor.PPl Go.Proofs.YtcnpdapampclpaaDoor.PPm Go.Proofs.YtcnpdapampclpaaDoor.PPn Go.Proofs.YtcnpdapampclpaaDoor.PPo Go.Proofs.YtcnpdapampclpaaDoor.PTq Go.Proofs.YtcnpdapampclpaaDoor.PTr
theorem pathL_length : ∀ (n p : Nat), (pathL n p).length ≤ n := by
  intro n
  induction n using Nat.strongRecOn with
  | _ n ih =>
    intro p
    by_cases h : n ≤ 1
    · rw [pathL_one h]; simp
    · have h1 := hf_pos n
      have h2 := hf_lt (n := n) (by omega)
      by_cases hp : p < hf n
      · rw [pathL_left (by omega) hp, List.length_cons]; have := ih (hf n) h2 p; omega
      · rw [pathL_right (by omega) (by omega), List.length_cons]; have := ih (n - hf n) (by omega) (p - hf n); omega
theorem getD_take {l : List (List Int)} {n q : Nat} (h : q < n) : (l.take n).getD q [] = l.getD q [] := by
  rw [List.getD_eq_getElem?_getD, List.getElem?_take, if_pos h, ← List.getD_eq_getElem?_getD]
/-- A mark is in the row by its own way. -/
theorem in_own (M : List (List Int)) (n q : Nat) (hv : Lv M) (hn : n ≤ M.length) (hq : q < n) : inL n q (headL n (topL (M.take n))) (M.getD q []) (walkL (M.take n) q) = 0 := by
  have hl : (M.take n).length = n := by rw [List.length_take]; omega
  have hm := hv _ (getD_mem' (l := M) (i := q) (by omega))
  have u := upT_ok n q (M.getD q []) (walkL (M.take n) q) hm (walkL_32 n _ q hl (hv.take n))
  have h1 : (upT n q (M.getD q []) (walkL (M.take n) q)).2.2 = true := by rw [u.2.2.2.1]; exact decide_eq_true (walkL_length n _ q hl)
  have h2 := walkL_climb n (M.take n) q hl hq
  rw [getD_take hq] at h2
  unfold inL
  rw [if_pos ⟨h1, by rw [(u.2.2.2.2 h1).1, h2]⟩]
theorem hf_mid {m n : Nat} (h1 : hf n < m) (h2 : m ≤ n) : hf m = hf n := by
  have h0 := hf_pos n
  have h3 : Nat.log2 (m - 1) ≤ Nat.log2 (n - 1) := by
    rcases Nat.lt_or_ge (Nat.log2 (n - 1)) (Nat.log2 (m - 1)) with h | h
    · exfalso
      have h4 : 2 ^ Nat.log2 (m - 1) ≤ m - 1 := Nat.log2_self_le (by omega)
      have h5 : n - 1 < 2 ^ (Nat.log2 (n - 1) + 1) := Nat.lt_log2_self
      have h6 : 2 ^ (Nat.log2 (n - 1) + 1) ≤ 2 ^ Nat.log2 (m - 1) := Nat.pow_le_pow_right (by decide) h
      omega
    · exact h
  have h4 : Nat.log2 (n - 1) ≤ Nat.log2 (m - 1) := (Nat.le_log2 (by omega)).2 (by show hf n ≤ m - 1; omega)
  unfold hf
  rw [Nat.le_antisymm h3 h4]
theorem top_mid {l : List (List Int)} {m n : Nat} (hl : l.length = n) (h1 : hf n < m) (h2 : m ≤ n) : topL (l.take m) = dig (17 :: (topL (l.take (hf n)) ++ topL ((l.drop (hf n)).take (m - hf n)))) := by
  have h0 := hf_pos n
  have hm : (l.take m).length = m := by rw [List.length_take]; omega
  rw [topL_node (l := l.take m) (by omega), hm, hf_mid h1 h2, List.take_take, Nat.min_eq_left (by omega), List.drop_take]
theorem told_own : ∀ (n : Nat) (l : List (List Int)) (m : Nat) (b : Bool) (top : List Int), l.length = n → 1 ≤ m → m ≤ n → (b = true → top = topL (l.take m)) → (toldT m n top (bridgeL l m b) b).1 = topL (l.take m) ∧ (toldT m n top (bridgeL l m b) b).2.1 = topL l ∧ (toldT m n top (bridgeL l m b) b).2.2.2 = true := by
  intro n
  induction n using Nat.strongRecOn with
  | _ n ih =>
    intro l m b top hl h1 hmn ht
    by_cases h : m = n
    · have e : l.take m = l := by rw [h, ← hl, List.take_length]
      rw [e]
      cases b
      · rw [bridgeL_last (by omega), toldT_one h top _ rfl]
        exact ⟨rfl, rfl, rfl⟩
      · have := ht rfl
        rw [e] at this
        rw [bridgeL_first (by omega), toldT_first h]
        exact ⟨this, this, rfl⟩
    · have h3 := hf_pos n
      have h4 := hf_lt (n := n) (by omega)
      have t1 : (l.take (hf n)).length = hf n := by rw [List.length_take]; omega
      have t2 : (l.drop (hf n)).length = n - hf n := by rw [List.length_drop]; omega
      have snoc : ∀ (a : List (List Int)) (x : List Int), (a ++ [x]).length ≠ 0 ∧ (a ++ [x]).take ((a ++ [x]).length - 1) = a ∧ (a ++ [x]).getD ((a ++ [x]).length - 1) [] = x := fun a x => by
        have e : (a ++ [x]).length - 1 = a.length := by rw [List.length_append, List.length_singleton]; omega
        refine ⟨by rw [List.length_append, List.length_singleton]; omega, ?_, ?_⟩
        · rw [e, List.take_left']; rfl
        · rw [e]; simp
      by_cases hm : m ≤ hf n
      · rw [bridgeL_left (by omega) (by omega) (by rw [hl]; exact hm), hl]
        have s := snoc (bridgeL (l.take (hf n)) m b) (topL (l.drop (hf n)))
        have i := ih (hf n) h4 (l.take (hf n)) m b top t1 h1 hm (by rw [List.take_take, Nat.min_eq_left hm]; exact ht)
        rw [List.take_take, Nat.min_eq_left hm] at i
        rw [toldT_left (by omega) (by omega) hm top _ s.1, s.2.1, s.2.2]
        refine ⟨i.1, ?_, i.2.2⟩
        show dig (17 :: (_ ++ _)) = _
        rw [i.2.1, topL_node (l := l) (by omega), hl]
      · rw [bridgeL_right (by omega) (by omega) (by rw [hl]; omega), hl]
        have s := snoc (bridgeL (l.drop (hf n)) (m - hf n) false) (topL (l.take (hf n)))
        have i := ih (n - hf n) (by omega) (l.drop (hf n)) (m - hf n) false top t2 (by omega) (by omega) (fun h => by cases h)
        rw [toldT_right (by omega) (by omega) (by omega) top _ s.1, s.2.1, s.2.2]
        refine ⟨?_, ?_, i.2.2⟩
        · show dig (17 :: (_ ++ _)) = _
          rw [i.1, top_mid hl (by omega) hmn]
        · show dig (17 :: (_ ++ _)) = _
          rw [i.2.1, topL_node (l := l) (by omega), hl]
/-- A longer row begins with a shorter one by its bridge. -/
theorem begins_own (M : List (List Int)) (n m : Nat) (hn : n ≤ M.length) (h1 : 1 ≤ m) (hm : m ≤ n) : bgL (headL m (topL (M.take m))) m (topL (M.take m)) (headL n (topL (M.take n))) n (bridgeL (M.take n) m true) = 0 := by
  have e : (M.take n).take m = M.take m := by rw [List.take_take, Nat.min_eq_left hm]
  have u := told_own n (M.take n) m true (topL (M.take m)) (by rw [List.length_take]; omega) h1 hm (fun _ => by rw [e])
  rw [e] at u
  unfold bgL
  rw [if_pos ⟨u.2.2, u.1, rfl, by rw [u.2.1]⟩]
end Go.Proofs.YtcnpdapampclpaaDoor.PPr
