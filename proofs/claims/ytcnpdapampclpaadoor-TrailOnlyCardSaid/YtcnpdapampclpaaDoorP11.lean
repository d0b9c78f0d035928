/- Plain lemmas for one law. -/
import Derived.Test.YtcnpdapampclpaaDoorJ2
import Derived.Test.YtcnpdapampclpaaDoorJ3
import Derived.Test.YtcnpdapampclpaaDoorP6
import Derived.Test.YtcnpdapampclpaaDoorP12
set_option linter.unusedVariables false
namespace Go.Proofs.YtcnpdapampclpaaDoor.PPr
open Go.RowKit Go.Proofs.YtcnpdapampclpaaDoorW.PrintWords Go.Proofs.YtcnpdapampclpaaDoorW.PrintLast Go.Proofs.YtcnpdapampclpaaDoorW.PrintMore Go.Proofs.YtcnpdapampclpaaDoor.X Go.Proofs.YtcnpdapampclpaaDoor.H Go.Proofs.YtcnpdapampclpaaDoor.PPl Go.Proofs.YtcnpdapampclpaaDoor.PPm Go.Proofs.YtcnpdapampclpaaDoor.PPn Go.Proofs.YtcnpdapampclpaaDoor.PTq Go.Proofs.YtcnpdapampclpaaDoor.PRa Go.Proofs.YtcnpdapampclpaaDoor.PRb Go.Proofs.YtcnpdapampclpaaDoor.PRd
theorem e8_inj {a b : Int} (ha : 0 ≤ a ∧ a ≤ 60000) (hb : 0 ≤ b ∧ b ≤ 60000) (h : e8 a = e8 b) : a = b := by
  simp only [e8, List.cons.injEq, and_true] at h
  obtain ⟨_, _, _, _, _, _, h7, h8⟩ := h
  omega
theorem only_climb : ∀ (n : Nat) (l : List (List Int)) (p : Nat) (leaf : List Int) (pr : List (List Int)), l.length = n → p < n → Lv l → Lv pr → (leaf.length = 32 ∧ BytesB leaf) → pr.length = (pathL n p).length → (upT n p leaf pr).1 = topL l → Inj ((upT n p leaf pr).2.1 ++ textsL l) → leaf = l.getD p [] ∧ pr = walkL l p := by
  intro n
  induction n using Nat.strongRecOn with
  | _ n ih =>
    intro l p leaf pr hl hp hv hpv hlf hlen he hI
    by_cases h : n ≤ 1
    · rw [upT_one h, topL_one (by omega)] at he
      rw [pathL_one h] at hlen
      rw [walkL_one (by omega), show p = 0 by omega]
      exact ⟨he, List.length_eq_zero_iff.1 hlen⟩
    · have h3 := hf_pos n
      have h4 := hf_lt (n := n) (by omega)
      have t1 : (l.take (hf n)).length = hf n := by rw [List.length_take]; omega
      have t2 : (l.drop (hf n)).length = n - hf n := by rw [List.length_drop]; omega
      have ha := topL_32 (hv.take (hf n)) (by omega)
      have hb := topL_32 (hv.drop (hf n)) (by omega)
      have htn := topL_node (l := l) (by omega)
      have htx := textsL_node (l := l) (by omega)
      rw [hl] at htn htx
      by_cases hq : p < hf n
      · rw [pathL_left (by omega) hq, List.length_cons] at hlen
        have h0 : pr.length ≠ 0 := by omega
        have htl : (pr.take (pr.length - 1)).length = (pathL (hf n) p).length := by rw [List.length_take]; omega
        have hlast := hpv _ (getD_mem' (l := pr) (i := pr.length - 1) (by omega))
        have hsnoc : pr = pr.take (pr.length - 1) ++ [pr.getD (pr.length - 1) []] := by
          have h1 := take_next pr [] (pr.length - 1) (by omega)
          rw [show pr.length - 1 + 1 = pr.length by omega, List.take_length] at h1
          exact h1
        have u := upT_ok (hf n) p leaf (pr.take (pr.length - 1)) hlf (hpv.take _)
        have u5 := u.2.2.2.1
        rw [htl, decide_eq_true rfl] at u5
        have u6 := (u.2.2.2.2 u5).2
        rw [upT_left (by omega) hq leaf pr h0] at he hI
        simp only at he hI
        rw [htn] at he
        rw [htx] at hI
        have hE := hI _ (by simp) _ (by simp) he
        have hE2 := (List.cons.inj hE).2
        obtain ⟨hE3, hE4⟩ := List.append_inj hE2 (by rw [u6, ha.1])
        have hr := ih (hf n) h4 (l.take (hf n)) p leaf (pr.take (pr.length - 1)) t1 hq (hv.take _) (hpv.take _) hlf htl hE3 (hI.sub fun x hx => by
          simp only [List.mem_append] at hx ⊢
          rcases hx with hx | hx
          · exact .inl (.inl hx)
          · exact .inr (.inl (.inl hx)))
        refine ⟨?_, ?_⟩
        · rw [hr.1, List.getD_eq_getElem?_getD, List.getD_eq_getElem?_getD, List.getElem?_take, if_pos hq]
        · rw [walkL_left (l := l) (p := p) (by omega) (by rw [hl]; exact hq), hl, ← hr.2, ← hE4]
          exact hsnoc
      · rw [pathL_right (by omega) (by omega), List.length_cons] at hlen
        have h0 : pr.length ≠ 0 := by omega
        have htl : (pr.take (pr.length - 1)).length = (pathL (n - hf n) (p - hf n)).length := by rw [List.length_take]; omega
        have hlast := hpv _ (getD_mem' (l := pr) (i := pr.length - 1) (by omega))
        have hsnoc : pr = pr.take (pr.length - 1) ++ [pr.getD (pr.length - 1) []] := by
          have h1 := take_next pr [] (pr.length - 1) (by omega)
          rw [show pr.length - 1 + 1 = pr.length by omega, List.take_length] at h1
          exact h1
        rw [upT_right (by omega) (by omega) leaf pr h0] at he hI
        simp only at he hI
        rw [htn] at he
        rw [htx] at hI
        have hE := hI _ (by simp) _ (by simp) he
        have hE2 := (List.cons.inj hE).2
        obtain ⟨hE3, hE4⟩ := List.append_inj hE2 (by rw [hlast.1, ha.1])
        have hr := ih (n - hf n) (by omega) (l.drop (hf n)) (p - hf n) leaf (pr.take (pr.length - 1)) t2 (by omega) (hv.drop _) (hpv.take _) hlf htl hE4 (hI.sub fun x hx => by
          simp only [List.mem_append] at hx ⊢
          rcases hx with hx | hx
          · exact .inl (.inl hx)
          · exact .inr (.inl (.inr hx)))
        refine ⟨?_, ?_⟩
        · rw [hr.1, List.getD_eq_getElem?_getD, List.getD_eq_getElem?_getD, List.getElem?_drop, show hf n + (p - hf n) = p by omega]
        · rw [walkL_right (l := l) (p := p) (by omega) (by rw [hl]; omega), hl, ← hr.2, ← hE3]
          exact hsnoc
theorem texts_head {n L : Nat} {x t : List Int} (hn : n ≤ 60000) (hL : L ≤ 60000) (h : (18 :: (e8 n ++ x) : List Int) = 18 :: (e8 L ++ t)) : n = L ∧ x = t := by
  have h1 := List.append_inj (List.cons.inj h).2 (by rw [e8_length, e8_length])
  have h2 := e8_inj (a := n) (b := L) (by omega) (by omega) h1.1
  exact ⟨by omega, h1.2⟩
/-- By the head of a row a mark is in it only with its number, at its place, by its way; or two texts clash. -/
theorem in_only (M : List (List Int)) (n q : Nat) (mark : List Int) (way : List (List Int)) (hv : Lv M) (hM : 1 ≤ M.length) (hM2 : M.length ≤ 4096) (hn : n ≤ 4096) (hq : q < n) (hm : mark.length = 32 ∧ BytesB mark) (hw : Lv way)
    (h : inL n q (headL M.length (topL M)) mark way = 0) (hI : Inj ((upT n q mark way).2.1 ++ [18 :: (e8 n ++ (upT n q mark way).1), 18 :: (e8 M.length ++ topL M)] ++ textsL M)) : n = M.length ∧ mark = M.getD q [] ∧ way = walkL M q := by
  have u := upT_ok n q mark way hm hw
  unfold inL at h
  split at h
  · rename_i c
    have e := hI (18 :: (e8 n ++ (upT n q mark way).1)) (by simp) (18 :: (e8 M.length ++ topL M)) (by simp) c.2
    have e2 := texts_head (by omega) (by omega) e
    obtain ⟨e3, e4⟩ := e2
    subst e3
    have hp := u.2.2.2.1
    rw [c.1] at hp
    have := only_climb M.length M q mark way rfl hq hv hw hm (of_decide_eq_true hp.symm) e4 (hI.sub (fun x hx => by
      rcases List.mem_append.1 hx with hx | hx
      · exact List.mem_append.2 (.inl (List.mem_append.2 (.inl hx)))
      · exact List.mem_append.2 (.inr hx)))
    exact ⟨rfl, this⟩
  · omega
end Go.Proofs.YtcnpdapampclpaaDoor.PPr
