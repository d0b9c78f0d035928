/- Plain lemmas for one law. -/
import Derived.Test.YtcnpdapampclpaaDoorPTqx1
import Derived.Test.YtcnpdapampclpaaDoorJ2
import Derived.Test.YtcnpdapampclpaaDoorJ3
set_option linter.unusedVariables false
namespace Go.Proofs.YtcnpdapampclpaaDoor.PTq
open Go.RowKit Go.Proofs.YtcnpdapampclpaaDoorW.PrintWords Go.Proofs.YtcnpdapampclpaaDoorW.PrintLast Go.Proofs.YtcnpdapampclpaaDoorW.PrintMore Go.Proofs.YtcnpdapampclpaaDoor.X Go.Proofs.YtcnpdapampclpaaDoor.H Go.Proofs.YtcnpdapampclpaaDoor.PPl Go.Proofs.YtcnpdapampclpaaDoor.PPm Go.Proofs.YtcnpdapampclpaaDoor.PPn Go.Proofs.YtcnpdapampclpaaDoor.PTp
/-- What the document climbs: the top, the texts, whether the proof has as many as it must. -/
def upT (n p : Nat) (leaf : List Int) (pr : List (List Int)) : List Int × List (List Int) × Bool :=
  if _h : n ≤ 1 then (leaf, [], decide (pr.length = 0)) else if pr.length = 0 then ([], [], false)
  else if hf n ≤ p then (let u := upT (n - hf n) (p - hf n) leaf (pr.take (pr.length - 1)); (dig (17 :: (pr.getD (pr.length - 1) [] ++ u.1)), u.2.1 ++ [17 :: (pr.getD (pr.length - 1) [] ++ u.1)], u.2.2))
  else (let u := upT (hf n) p leaf (pr.take (pr.length - 1)); (dig (17 :: (u.1 ++ pr.getD (pr.length - 1) [])), u.2.1 ++ [17 :: (u.1 ++ pr.getD (pr.length - 1) [])], u.2.2))
termination_by n
decreasing_by
  · have := hf_pos n; omega
  · have := hf_lt (n := n) (by omega); omega
theorem upT_one {n : Nat} (h : n ≤ 1) (p : Nat) (leaf : List Int) (pr : List (List Int)) : upT n p leaf pr = (leaf, [], decide (pr.length = 0)) := by rw [upT, dif_pos h]
theorem upT_none {n : Nat} (h : 2 ≤ n) (p : Nat) (leaf : List Int) (pr : List (List Int)) (h0 : pr.length = 0) : upT n p leaf pr = ([], [], false) := by rw [upT, dif_neg (by omega), if_pos h0]
theorem upT_right {n p : Nat} (h : 2 ≤ n) (hp : hf n ≤ p) (leaf : List Int) (pr : List (List Int)) (h0 : pr.length ≠ 0) : upT n p leaf pr = (dig (17 :: (pr.getD (pr.length - 1) [] ++ (upT (n - hf n) (p - hf n) leaf (pr.take (pr.length - 1))).1)), (upT (n - hf n) (p - hf n) leaf (pr.take (pr.length - 1))).2.1 ++ [17 :: (pr.getD (pr.length - 1) [] ++ (upT (n - hf n) (p - hf n) leaf (pr.take (pr.length - 1))).1)], (upT (n - hf n) (p - hf n) leaf (pr.take (pr.length - 1))).2.2) := by
  rw [upT, dif_neg (by omega), if_neg h0, if_pos hp]
theorem upT_left {n p : Nat} (h : 2 ≤ n) (hp : p < hf n) (leaf : List Int) (pr : List (List Int)) (h0 : pr.length ≠ 0) : upT n p leaf pr = (dig (17 :: ((upT (hf n) p leaf (pr.take (pr.length - 1))).1 ++ pr.getD (pr.length - 1) [])), (upT (hf n) p leaf (pr.take (pr.length - 1))).2.1 ++ [17 :: ((upT (hf n) p leaf (pr.take (pr.length - 1))).1 ++ pr.getD (pr.length - 1) [])], (upT (hf n) p leaf (pr.take (pr.length - 1))).2.2) := by
  rw [upT, dif_neg (by omega), if_neg h0, if_neg (by omega)]
theorem upT_ok : ∀ (n p : Nat) (leaf : List Int) (pr : List (List Int)), leaf.length = 32 ∧ BytesB leaf → Lv pr → ((upT n p leaf pr).1.length ≤ 32 ∧ BytesB (upT n p leaf pr).1) ∧ (upT n p leaf pr).2.1.length ≤ pr.length ∧ (∀ t ∈ (upT n p leaf pr).2.1, BytesB t ∧ t.length ≤ 65) ∧ (upT n p leaf pr).2.2 = decide (pr.length = (pathL n p).length) ∧ ((upT n p leaf pr).2.2 = true → (upT n p leaf pr).1 = climbL (pathL n p) pr leaf ∧ (upT n p leaf pr).1.length = 32) := by
  intro n
  induction n using Nat.strongRecOn with
  | _ n ih =>
    intro p leaf pr hl hv
    by_cases h : n ≤ 1
    · rw [upT_one h, pathL_one h]
      refine ⟨⟨by show leaf.length ≤ 32; omega, hl.2⟩, Nat.zero_le _, (fun t ht => by cases ht), rfl, fun hd => ?_⟩
      have h0 : pr.length = 0 := of_decide_eq_true hd
      obtain rfl := List.length_eq_zero_iff.1 h0
      exact ⟨rfl, hl.1⟩
    · have h3 := hf_pos n
      have h4 := hf_lt (n := n) (by omega)
      by_cases h0 : pr.length = 0
      · rw [upT_none (by omega) p leaf pr h0]
        refine ⟨⟨Nat.zero_le _, fun y hy => by cases hy⟩, Nat.zero_le _, (fun t ht => by cases ht), ?_, fun hd => by cases hd⟩
        by_cases hp : p < hf n
        · rw [pathL_left (by omega) hp, List.length_cons, decide_eq_false (by omega)]
        · rw [pathL_right (by omega) (by omega), List.length_cons, decide_eq_false (by omega)]
      have hlast := hv _ (getD_mem' (l := pr) (i := pr.length - 1) (by omega))
      have htl : (pr.take (pr.length - 1)).length = pr.length - 1 := by rw [List.length_take]; omega
      have hsnoc : pr = pr.take (pr.length - 1) ++ [pr.getD (pr.length - 1) []] := by
        have h1 := take_next pr [] (pr.length - 1) (by omega)
        rw [show pr.length - 1 + 1 = pr.length by omega, List.take_length] at h1
        exact h1
      by_cases hp : p < hf n
      · have u := ih (hf n) h4 p leaf (pr.take (pr.length - 1)) hl (hv.take _)
        rw [upT_left (by omega) hp leaf pr h0, pathL_left (by omega) hp]
        obtain ⟨⟨u1, u2⟩, u3, u4, u5, u6⟩ := u
        refine ⟨⟨by show (dig _).length ≤ 32; rw [dig_length]; omega, dig_bytes _⟩, ?_, fun t ht => ?_, ?_, fun hd => ?_⟩
        · show (_ ++ _ : List (List Int)).length ≤ _
          rw [List.length_append, List.length_singleton]; omega
        · simp only [List.mem_append, List.mem_singleton] at ht
          rcases ht with ht | rfl
          · exact u4 t ht
          · exact ⟨isBytes_cons (by decide) (isBytes_app u2 hlast.2), by simp only [List.length_cons, List.length_append]; omega⟩
        · show (upT (hf n) p leaf (pr.take (pr.length - 1))).2.2 = _
          rw [u5, htl, List.length_cons, decide_eq_decide]; omega
        · have hd2 : (upT (hf n) p leaf (pr.take (pr.length - 1))).2.2 = true := hd
          have u7 := u6 hd2
          rw [u5] at hd2
          have hd3 := of_decide_eq_true hd2
          refine ⟨?_, dig_length _⟩
          show dig (17 :: ((upT (hf n) p leaf (pr.take (pr.length - 1))).1 ++ pr.getD (pr.length - 1) [])) = _
          rw [u7.1]
          have h9 := climbL_snoc false (pathL (hf n) p) (pr.take (pr.length - 1)) (pr.getD (pr.length - 1) []) leaf hd3
          rw [← hsnoc] at h9
          rw [h9]
          rfl
      · have u := ih (n - hf n) (by omega) (p - hf n) leaf (pr.take (pr.length - 1)) hl (hv.take _)
        rw [upT_right (by omega) (by omega) leaf pr h0, pathL_right (by omega) (by omega)]
        obtain ⟨⟨u1, u2⟩, u3, u4, u5, u6⟩ := u
        refine ⟨⟨by show (dig _).length ≤ 32; rw [dig_length]; omega, dig_bytes _⟩, ?_, fun t ht => ?_, ?_, fun hd => ?_⟩
        · show (_ ++ _ : List (List Int)).length ≤ _
          rw [List.length_append, List.length_singleton]; omega
        · simp only [List.mem_append, List.mem_singleton] at ht
          rcases ht with ht | rfl
          · exact u4 t ht
          · exact ⟨isBytes_cons (by decide) (isBytes_app hlast.2 u2), by simp only [List.length_cons, List.length_append]; omega⟩
        · show (upT (n - hf n) (p - hf n) leaf (pr.take (pr.length - 1))).2.2 = _
          rw [u5, htl, List.length_cons, decide_eq_decide]; omega
        · have hd2 : (upT (n - hf n) (p - hf n) leaf (pr.take (pr.length - 1))).2.2 = true := hd
          have u7 := u6 hd2
          rw [u5] at hd2
          have hd3 := of_decide_eq_true hd2
          refine ⟨?_, dig_length _⟩
          show dig (17 :: (pr.getD (pr.length - 1) [] ++ (upT (n - hf n) (p - hf n) leaf (pr.take (pr.length - 1))).1)) = _
          rw [u7.1]
          have h9 := climbL_snoc true (pathL (n - hf n) (p - hf n)) (pr.take (pr.length - 1)) (pr.getD (pr.length - 1) []) leaf hd3
          rw [← hsnoc] at h9
          rw [h9]
          rfl
theorem lastI {pr : List (List Int)} (h0 : pr.length ≠ 0) (hl : pr.length ≤ 5864062014805) : wrap64 ((pr.length : Int) - 1) = ((pr.length - 1 : Nat) : Int) := by rw [w64 (by omega) (by omega)]; omega
theorem len0 (pr : List (List Int)) : ((pr.length : Int) == 0) = decide (pr.length = 0) := by
  by_cases h : pr.length = 0
  · rw [decide_eq_true h, h]; rfl
  · rw [decide_eq_false h]; exact beq_eq_false_iff_ne.2 (by omega)
theorem up_f : ∀ (n p : Nat) (leaf : List Int) (pr : List (List Int)) (k : Nat), leaf.length = 32 ∧ BytesB leaf → Lv pr → pr.length ≤ 5864062014805 → 1 ≤ n → n ≤ 4096 → p < n → n ≤ k → trail_up.f k n p leaf pr = some ((upT n p leaf pr).1, (upT n p leaf pr).2.2) := by
  intro n
  induction n using Nat.strongRecOn with
  | _ n ih =>
    intro p leaf pr k hl hv hpl h1 h2 hp hk
    obtain ⟨k, rfl⟩ : ∃ j, k = j + 1 := ⟨k - 1, by omega⟩
    rw [trail_up.f]
    by_cases h : n = 1
    · rw [if_pos (by omega), upT_one (by omega), len0]
    · rw [if_neg (by omega)]
      by_cases h0 : pr.length = 0
      · rw [if_pos (by omega), upT_none (by omega) p leaf pr h0]
      · have h3 := hf_pos n
        have h4 := hf_lt (n := n) (by omega)
        have hlast := hv _ (getD_mem' (l := pr) (i := pr.length - 1) (by omega))
        have htl : (pr.take (pr.length - 1)).length = pr.length - 1 := by rw [List.length_take]; omega
        rw [if_neg (by omega), half_eq n (by omega) (by omega), Option.bind_some, lastI h0 hpl]
        by_cases hpp : p < hf n
        · have u := upT_ok (hf n) p leaf (pr.take (pr.length - 1)) hl (hv.take _)
          rw [if_pos (by omega), if_pos (by omega), if_pos (by omega), Int.toNat_natCast, ih (hf n) h4 p leaf _ k hl (hv.take _) (by omega) h3 (by omega) hpp (by omega), Option.bind_some, if_pos (by omega), (show rd_L1 pr ((pr.length - 1 : Nat) : Int) = pr.getD (pr.length - 1) [] by unfold rd_L1; rw [Int.toNat_natCast]), digest2 (by decide) u.1.2 hlast.2 (by have := u.1.1; omega), Option.bind_some, upT_left (by omega) hpp leaf pr h0]
        · have u := upT_ok (n - hf n) (p - hf n) leaf (pr.take (pr.length - 1)) hl (hv.take _)
          rw [if_neg (by omega), if_pos (by omega), if_pos (by omega), Int.toNat_natCast, w64 (x := (n : Int) - (hf n : Int)) (by omega) (by omega), w64 (x := (p : Int) - (hf n : Int)) (by omega) (by omega), show (n : Int) - (hf n : Int) = ((n - hf n : Nat) : Int) by omega, show (p : Int) - (hf n : Int) = ((p - hf n : Nat) : Int) by omega, ih (n - hf n) (by omega) (p - hf n) leaf _ k hl (hv.take _) (by omega) (by omega) (by omega) (by omega) (by omega), Option.bind_some, if_pos (by omega), (show rd_L1 pr ((pr.length - 1 : Nat) : Int) = pr.getD (pr.length - 1) [] by unfold rd_L1; rw [Int.toNat_natCast]), digest2 (by decide) hlast.2 u.1.2 (by have := u.1.1; omega), Option.bind_some, upT_right (by omega) (by omega) leaf pr h0]
/-- Whether a mark is in a row. -/
def inL (n p : Nat) (h mark : List Int) (way : List (List Int)) : Int := if (upT n p mark way).2.2 = true ∧ headL n (upT n p mark way).1 = h then 0 else 50
def inBad (n p : Int) (h mark : List Int) (way : List (List Int)) : Prop := n < 1 ∨ 4096 < n ∨ p < 0 ∨ n ≤ p ∨ h.length ≠ 32 ∨ mark.length ≠ 32 ∨ ∃ x ∈ way, x.length ≠ 32
theorem all32_no {l : List (List Int)} (h : ∃ x ∈ l, x.length ≠ 32) : all32 l = false := by
  obtain ⟨x, hx, h2⟩ := h
  rw [Bool.eq_false_iff]
  intro ha
  exact h2 (of_decide_eq_true (List.all_eq_true.1 ha x hx))
theorem all32_yes {l : List (List Int)} (h : ∀ x ∈ l, x.length = 32) : all32 l = true := List.all_eq_true.2 fun x hx => decide_eq_true (h x hx)
theorem in_bad {k : Nat} {n p : Int} {h mark : List Int} {way : List (List Int)} (hb : inBad n p h mark way) : trail_In.f (k + 1) h n p mark way = some 1 := by
  unfold trail_In.f
  by_cases h1 : n < 1
  · rw [if_pos h1, trail_In.j0, if_pos rfl]
  rw [if_neg h1]
  by_cases h2 : n > 4096
  · rw [if_pos h2, trail_In.j0, if_pos rfl]
  rw [if_neg h2]
  by_cases h3 : p < 0
  · rw [if_pos h3, trail_In.j0, if_pos rfl]
  rw [if_neg h3]
  by_cases h4 : p ≥ n
  · rw [if_pos h4, trail_In.j0, if_pos rfl]
  rw [if_neg h4]
  show (some (all32 [h, mark])).bind _ = _
  rw [Option.bind_some]
  by_cases h5 : h.length ≠ 32 ∨ mark.length ≠ 32
  · rw [all32_no (l := [h, mark]) (by rcases h5 with h5 | h5; exact ⟨h, by simp, h5⟩; exact ⟨mark, by simp, h5⟩), if_neg (by decide), trail_In.j0, if_pos rfl]
  · have h6 : ∃ x ∈ way, x.length ≠ 32 := by
      rcases hb with h | h | h | h | h | h | h
      · exact absurd h h1
      · exact absurd h h2
      · exact absurd h h3
      · exact absurd h h4
      · exact absurd (.inl h) h5
      · exact absurd (.inr h) h5
      · exact h
    rw [all32_yes (l := [h, mark]) (fun x hx => by simp only [List.mem_cons, List.not_mem_nil, or_false] at hx; rcases hx with rfl | rfl <;> omega), if_pos rfl]
    show (some (all32 way)).bind _ = _
    rw [Option.bind_some, all32_no h6, trail_In.j0, if_pos (by decide)]
theorem in_good {k n p : Nat} {h mark : List Int} {way : List (List Int)} (h1 : 1 ≤ n) (h2 : n ≤ 4096) (hp : p < n) (hh : h.length = 32 ∧ BytesB h) (hm : mark.length = 32 ∧ BytesB mark) (hv : Lv way) (hl : way.length ≤ 5864062014804) (hk : n + 32 ≤ k) : trail_In.f k h n p mark way = some (inL n p h mark way) := by
  obtain ⟨k, rfl⟩ : ∃ j, k = j + 1 := ⟨k - 1, by omega⟩
  have u := upT_ok n p mark way hm hv
  unfold trail_In.f
  rw [if_neg (by omega), if_neg (by omega), if_neg (by omega), if_neg (by omega)]
  show (some (all32 [h, mark])).bind _ = _
  rw [Option.bind_some, all32_yes (l := [h, mark]) (fun x hx => by simp only [List.mem_cons, List.not_mem_nil, or_false] at hx; rcases hx with rfl | rfl <;> omega), if_pos rfl]
  show (some (all32 way)).bind _ = _
  rw [Option.bind_some, all32_yes (fun x hx => (hv x hx).1), trail_In.j0, if_neg (by decide), up_f n p mark way k hm hv (by omega) h1 h2 hp (by omega), Option.bind_some]
  unfold inL
  by_cases hok : (upT n p mark way).2.2 = true
  · rw [if_pos hok, head_eq k (n : Int) _ (by omega) u.1.2 (by have := u.1.1; omega), Option.bind_some]
    show (some _).bind _ = _
    rw [Option.bind_some, strs_beq (headL_bytes _ _) hh.2]
    by_cases he : headL n (upT n p mark way).1 = h
    · rw [decide_eq_true he, if_pos rfl, if_pos ⟨hok, he⟩]
    · rw [decide_eq_false he, if_neg (by decide), if_neg (fun c => he c.2)]
  · rw [if_neg hok, if_neg (fun c => hok c.1)]
end Go.Proofs.YtcnpdapampclpaaDoor.PTq
