/- Plain lemmas for one law. -/
import Derived.Test.YtcnpdapampclpaaDoorJ2
import Derived.Test.YtcnpdapampclpaaDoorJ3
import Derived.Test.YtcnpdapampclpaaDoorP7
import Derived.Test.YtcnpdapampclpaaDoorP12
set_option linter.unusedVariables false
namespace Go.Proofs.YtcnpdapampclpaaDoor.PPr
open Go.RowKit Go.Proofs.YtcnpdapampclpaaDoorW.PrintWords Go.Proofs.YtcnpdapampclpaaDoorW.PrintLast Go.Proofs.YtcnpdapampclpaaDoorW.PrintMore Go.Proofs.YtcnpdapampclpaaDoor.X Go.Proofs.YtcnpdapampclpaaDoor.H Go.Proofs.YtcnpdapampclpaaDoor.PPl Go.Proofs.YtcnpdapampclpaaDoor.PPm Go.Proofs.YtcnpdapampclpaaDoor.PPn Go.Proofs.YtcnpdapampclpaaDoor.PTr Go.Proofs.YtcnpdapampclpaaDoor.PRa Go.Proofs.YtcnpdapampclpaaDoor.PRb Go.Proofs.YtcnpdapampclpaaDoor.PRd
theorem e8_inj {a b : Int} (ha : 0 ≤ a ∧ a ≤ 60000) (hb : 0 ≤ b ∧ b ≤ 60000) (h : e8 a = e8 b) : a = b := by
  simp only [e8, List.cons.injEq, and_true] at h
  obtain ⟨_, _, _, _, _, _, h7, h8⟩ := h
  omega
theorem hf_mid {m n : Nat} (h1 : hf n < m) (h2 : m ≤ n) : hf m = hf n := by
  have h0 := hf_pos n
  have h3 : Nat.log2 (m - 1) ≤ Nat.log2 (n - 1) := by
    rcases Nat.lt_or_ge (Nat.log2 (n - 1)) (Nat.log2 (m - 1)) with h | h
    · exfalso
      have h4 : 2 ^ Nat.log2 (m - 1) ≤ m - 1 := Nat.log2_self_le (by omega)
      have h5 : n - 1 < 2 ^ (Nat.log2 (n - 1) + 1) := Nat.lt_log2_self
      have h6 : 2 ^ (Nat.log2 (n - 1) + 1) ≤ 2 ^ Nat.log2 (m - 1) := Nat.pow_le_pow_right (by decide) h
      omega
    · exact h
  have h4 : Nat.log2 (n - 1) ≤ Nat.log2 (m - 1) := (Nat.le_log2 (by omega)).2 (by show hf n ≤ m - 1; omega)
  unfold hf
  rw [Nat.le_antisymm h3 h4]
theorem top_mid {l : List (List Int)} {m n : Nat} (hl : l.length = n) (h1 : hf n < m) (h2 : m ≤ n) : topL (l.take m) = dig (17 :: (topL (l.take (hf n)) ++ topL ((l.drop (hf n)).take (m - hf n)))) := by
  have h0 := hf_pos n
  have hm : (l.take m).length = m := by rw [List.length_take]; omega
  rw [topL_node (l := l.take m) (by omega), hm, hf_mid h1 h2, List.take_take, Nat.min_eq_left (by omega), List.drop_take]
theorem texts_head {n L : Nat} {x t : List Int} (hn : n ≤ 60000) (hL : L ≤ 60000) (h : (18 :: (e8 n ++ x) : List Int) = 18 :: (e8 L ++ t)) : n = L ∧ x = t := by
  have h1 := List.append_inj (List.cons.inj h).2 (by rw [e8_length, e8_length])
  have h2 := e8_inj (a := n) (b := L) (by omega) (by omega) h1.1
  exact ⟨by omega, h1.2⟩
theorem split_32 {a b c d : List Int} (h : (17 :: (a ++ b) : List Int) = 17 :: (c ++ d)) (ha : a.length ≤ 32) (hb : b.length ≤ 32) (hc : c.length = 32) (hd : d.length = 32) : a = c ∧ b = d := by
  have h1 := (List.cons.inj h).2
  have h2 := congrArg List.length h1
  rw [List.length_append, List.length_append] at h2
  exact List.append_inj h1 (by omega)
theorem only_told : ∀ (n : Nat) (l : List (List Int)) (m : Nat) (b : Bool) (top : List Int) (pr : List (List Int)), l.length = n → 1 ≤ m → m ≤ n → Lv l → Lv pr → (top.length = 32 ∧ BytesB top) → (toldT m n top pr b).2.2.2 = true → (toldT m n top pr b).2.1 = topL l → Inj ((toldT m n top pr b).2.2.1 ++ textsL l) → (toldT m n top pr b).1 = topL (l.take m) := by
  intro n
  induction n using Nat.strongRecOn with
  | _ n ih =>
    intro l m b top pr hl h1 hmn hv hw ht hok hy hI
    by_cases h : m = n
    · have e : l.take m = l := by rw [h, ← hl, List.take_length]
      rw [e]
      cases b
      · by_cases h2 : pr.length = 1
        · rw [toldT_one h top pr h2] at hy ⊢
          exact hy
        · rw [toldT_odd h top pr h2] at hok
          cases hok
      · rw [toldT_first h] at hy ⊢
        exact hy
    · by_cases h0 : pr.length = 0
      · rw [toldT_none (by omega) (by omega) top pr h0] at hok
        cases hok
      · have h3 := hf_pos n
        have h4 := hf_lt (n := n) (by omega)
        have t1 : (l.take (hf n)).length = hf n := by rw [List.length_take]; omega
        have t2 : (l.drop (hf n)).length = n - hf n := by rw [List.length_drop]; omega
        have x1 := topL_32 (hv.take (hf n)) (by omega)
        have x2 := topL_32 (hv.drop (hf n)) (by omega)
        have hlast := hw _ (getD_mem' (l := pr) (i := pr.length - 1) (by omega))
        have hnode := topL_node (l := l) (by omega)
        have htx := textsL_node (l := l) (by omega)
        rw [hl] at hnode htx
        by_cases hm : m ≤ hf n
        · have u := toldT_ok (hf n) m top (pr.take (pr.length - 1)) b ht (hw.take _) h1 hm
          rw [toldT_left (by omega) (by omega) hm top pr h0] at hok hy hI ⊢
          simp only at hok hy hI ⊢
          rw [htx] at hI
          rw [hnode] at hy
          have e := hI _ (by simp) _ (by simp) hy
          have e2 := split_32 e u.2.1.1 (by omega) x1.1 x2.1
          have r := ih (hf n) h4 (l.take (hf n)) m b top (pr.take (pr.length - 1)) t1 h1 hm (hv.take _) (hw.take _) ht hok e2.1 (hI.sub (fun x hx => by
            rcases List.mem_append.1 hx with hx | hx
            · simp [hx]
            · simp [hx]))
          rw [List.take_take, Nat.min_eq_left hm] at r
          exact r
        · have u := toldT_ok (n - hf n) (m - hf n) top (pr.take (pr.length - 1)) false ht (hw.take _) (by omega) (by omega)
          rw [toldT_right (by omega) (by omega) (by omega) top pr h0] at hok hy hI ⊢
          simp only at hok hy hI ⊢
          rw [htx] at hI
          rw [hnode] at hy
          have e := hI _ (by simp) _ (by simp) hy
          have e2 := split_32 e (by omega) u.2.1.1 x1.1 x2.1
          have r := ih (n - hf n) (by omega) (l.drop (hf n)) (m - hf n) false top (pr.take (pr.length - 1)) t2 (by omega) (by omega) (hv.drop _) (hw.take _) ht hok e2.2 (hI.sub (fun x hx => by
            rcases List.mem_append.1 hx with hx | hx
            · simp [hx]
            · simp [hx]))
          rw [r, e2.1, top_mid hl (by omega) hmn]
/-- By the head of a row it begins with others only by their top; or two texts clash. -/
theorem begins_only (M : List (List Int)) (n m : Nat) (a top : List Int) (pr : List (List Int)) (hv : Lv M) (hM : 1 ≤ M.length) (hM2 : M.length ≤ 4096) (hn : n ≤ 4096) (h1 : 1 ≤ m) (hmn : m ≤ n) (ht : top.length = 32 ∧ BytesB top) (hw : Lv pr)
    (h : bgL a m top (headL M.length (topL M)) n pr = 0) (hI : Inj ((toldT m n top pr true).2.2.1 ++ [18 :: (e8 n ++ (toldT m n top pr true).2.1), 18 :: (e8 m ++ top), 18 :: (e8 M.length ++ topL M)] ++ textsL M)) : n = M.length ∧ top = topL (M.take m) ∧ a = headL m (topL (M.take m)) := by
  unfold bgL at h
  split at h
  · rename_i c
    have e := hI (18 :: (e8 n ++ (toldT m n top pr true).2.1)) (by simp) (18 :: (e8 M.length ++ topL M)) (by simp) c.2.2.2
    obtain ⟨e3, e4⟩ := texts_head (by omega) (by omega) e
    subst e3
    have r := only_told M.length M m true top pr rfl h1 hmn hv hw ht c.1 e4 (hI.sub (fun x hx => by
      rcases List.mem_append.1 hx with hx | hx
      · exact List.mem_append.2 (.inl (List.mem_append.2 (.inl hx)))
      · exact List.mem_append.2 (.inr hx)))
    have e5 : top = topL (M.take m) := by rw [← c.2.1]; exact r
    exact ⟨rfl, e5, by rw [← c.2.2.1, ← e5]⟩
  · omega
end Go.Proofs.YtcnpdapampclpaaDoor.PPr
