/- Plain lemmas for one law. -/
import Derived.Test.YtcnpdapampclpaaDoorPTrx1
import Derived.Test.YtcnpdapampclpaaDoorJ2
import Derived.Test.YtcnpdapampclpaaDoorJ3
set_option linter.unusedVariables false
namespace Go.Proofs.YtcnpdapampclpaaDoor.PTr
open Go.RowKit Go.Proofs.YtcnpdapampclpaaDoorW.PrintWords Go.Proofs.YtcnpdapampclpaaDoorW.PrintLast Go.Proofs.YtcnpdapampclpaaDoorW.PrintMore Go.Proofs.YtcnpdapampclpaaDoor.X Go.Proofs.YtcnpdapampclpaaDoor.H Go.Proofs.YtcnpdapampclpaaDoor.PPl Go.Proofs.YtcnpdapampclpaaDoor.PPm Go.Proofs.YtcnpdapampclpaaDoor.PPn Go.Proofs.YtcnpdapampclpaaDoor.PTp
theorem all32_no {l : List (List Int)} (h : ∃ x ∈ l, x.length ≠ 32) : all32 l = false := by
  obtain ⟨x, hx, h2⟩ := h
  rw [Bool.eq_false_iff]
  intro ha
  exact h2 (of_decide_eq_true (List.all_eq_true.1 ha x hx))
theorem all32_yes {l : List (List Int)} (h : ∀ x ∈ l, x.length = 32) : all32 l = true := List.all_eq_true.2 fun x hx => decide_eq_true (h x hx)
/-- What a bridge tells: the short top, the long one, the texts that are digested; false: nothing. -/
def toldT (m n : Nat) (top : List Int) (pr : List (List Int)) (b : Bool) : List Int × List Int × List (List Int) × Bool :=
  if _h : n ≤ 1 ∨ m = n then (if b = true then (top, top, [], decide (pr.length = 0)) else if pr.length = 1 then (pr.getD 0 [], pr.getD 0 [], [], true) else ([], [], [], false)) else if pr.length = 0 then ([], [], [], false)
  else if m ≤ hf n then (let u := toldT m (hf n) top (pr.take (pr.length - 1)) b; (u.1, dig (17 :: (u.2.1 ++ pr.getD (pr.length - 1) [])), u.2.2.1 ++ [17 :: (u.2.1 ++ pr.getD (pr.length - 1) [])], u.2.2.2))
  else (let u := toldT (m - hf n) (n - hf n) top (pr.take (pr.length - 1)) false; (dig (17 :: (pr.getD (pr.length - 1) [] ++ u.1)), dig (17 :: (pr.getD (pr.length - 1) [] ++ u.2.1)), u.2.2.1 ++ [17 :: (pr.getD (pr.length - 1) [] ++ u.1)] ++ [17 :: (pr.getD (pr.length - 1) [] ++ u.2.1)], u.2.2.2))
termination_by n
decreasing_by
  · have := hf_lt (n := n) (by omega); omega
  · have := hf_pos n; omega
theorem toldT_first {m n : Nat} (h : m = n) (top : List Int) (pr : List (List Int)) : toldT m n top pr true = (top, top, [], decide (pr.length = 0)) := by rw [toldT, dif_pos (Or.inr h), if_pos rfl]
theorem toldT_one {m n : Nat} (h : m = n) (top : List Int) (pr : List (List Int)) (h1 : pr.length = 1) : toldT m n top pr false = (pr.getD 0 [], pr.getD 0 [], [], true) := by rw [toldT, dif_pos (Or.inr h), if_neg (by decide), if_pos h1]
theorem toldT_odd {m n : Nat} (h : m = n) (top : List Int) (pr : List (List Int)) (h1 : pr.length ≠ 1) : toldT m n top pr false = ([], [], [], false) := by rw [toldT, dif_pos (Or.inr h), if_neg (by decide), if_neg h1]
theorem toldT_none {m n : Nat} {b : Bool} (h : 2 ≤ n) (hm : m < n) (top : List Int) (pr : List (List Int)) (h1 : pr.length = 0) : toldT m n top pr b = ([], [], [], false) := by rw [toldT, dif_neg (by omega), if_pos h1]
theorem toldT_left {m n : Nat} {b : Bool} (h : 2 ≤ n) (hm : m < n) (hl : m ≤ hf n) (top : List Int) (pr : List (List Int)) (h1 : pr.length ≠ 0) : toldT m n top pr b = ((toldT m (hf n) top (pr.take (pr.length - 1)) b).1, dig (17 :: ((toldT m (hf n) top (pr.take (pr.length - 1)) b).2.1 ++ pr.getD (pr.length - 1) [])), (toldT m (hf n) top (pr.take (pr.length - 1)) b).2.2.1 ++ [17 :: ((toldT m (hf n) top (pr.take (pr.length - 1)) b).2.1 ++ pr.getD (pr.length - 1) [])], (toldT m (hf n) top (pr.take (pr.length - 1)) b).2.2.2) := by
  rw [toldT, dif_neg (by omega), if_neg h1, if_pos hl]
theorem toldT_right {m n : Nat} {b : Bool} (h : 2 ≤ n) (hm : m < n) (hl : hf n < m) (top : List Int) (pr : List (List Int)) (h1 : pr.length ≠ 0) : toldT m n top pr b = (dig (17 :: (pr.getD (pr.length - 1) [] ++ (toldT (m - hf n) (n - hf n) top (pr.take (pr.length - 1)) false).1)), dig (17 :: (pr.getD (pr.length - 1) [] ++ (toldT (m - hf n) (n - hf n) top (pr.take (pr.length - 1)) false).2.1)), (toldT (m - hf n) (n - hf n) top (pr.take (pr.length - 1)) false).2.2.1 ++ [17 :: (pr.getD (pr.length - 1) [] ++ (toldT (m - hf n) (n - hf n) top (pr.take (pr.length - 1)) false).1)] ++ [17 :: (pr.getD (pr.length - 1) [] ++ (toldT (m - hf n) (n - hf n) top (pr.take (pr.length - 1)) false).2.1)], (toldT (m - hf n) (n - hf n) top (pr.take (pr.length - 1)) false).2.2.2) := by
  rw [toldT, dif_neg (by omega), if_neg h1, if_neg (by omega)]
theorem toldT_ok : ∀ (n m : Nat) (top : List Int) (pr : List (List Int)) (b : Bool), top.length = 32 ∧ BytesB top → Lv pr → 1 ≤ m → m ≤ n → ((toldT m n top pr b).1.length ≤ 32 ∧ BytesB (toldT m n top pr b).1) ∧ ((toldT m n top pr b).2.1.length ≤ 32 ∧ BytesB (toldT m n top pr b).2.1) ∧ (toldT m n top pr b).2.2.1.length ≤ 2 * pr.length ∧ ∀ t ∈ (toldT m n top pr b).2.2.1, BytesB t ∧ t.length ≤ 65 := by
  intro n
  induction n using Nat.strongRecOn with
  | _ n ih =>
    intro m top pr b ht hv h1 hmn
    have hnil : BytesB [] := fun y hy => by cases hy
    by_cases h : m = n
    · cases b
      · by_cases h2 : pr.length = 1
        · have hx := hv _ (getD_mem' (l := pr) (i := 0) (by omega))
          rw [toldT_one h top pr h2]
          exact ⟨⟨by show (pr.getD 0 []).length ≤ 32; omega, hx.2⟩, ⟨by show (pr.getD 0 []).length ≤ 32; omega, hx.2⟩, Nat.zero_le _, fun t ht => by cases ht⟩
        · rw [toldT_odd h top pr h2]
          exact ⟨⟨Nat.zero_le _, hnil⟩, ⟨Nat.zero_le _, hnil⟩, Nat.zero_le _, fun t ht => by cases ht⟩
      · rw [toldT_first h]
        exact ⟨⟨by show top.length ≤ 32; omega, ht.2⟩, ⟨by show top.length ≤ 32; omega, ht.2⟩, Nat.zero_le _, fun t ht => by cases ht⟩
    · by_cases h0 : pr.length = 0
      · rw [toldT_none (by omega) (by omega) top pr h0]
        exact ⟨⟨Nat.zero_le _, hnil⟩, ⟨Nat.zero_le _, hnil⟩, Nat.zero_le _, fun t ht => by cases ht⟩
      · have h3 := hf_pos n
        have h4 := hf_lt (n := n) (by omega)
        have hlast := hv _ (getD_mem' (l := pr) (i := pr.length - 1) (by omega))
        have htl : (pr.take (pr.length - 1)).length = pr.length - 1 := by rw [List.length_take]; omega
        by_cases hm : m ≤ hf n
        · obtain ⟨u1, u2, u3, u4⟩ := ih (hf n) h4 m top (pr.take (pr.length - 1)) b ht (hv.take _) h1 hm
          rw [htl] at u3
          rw [toldT_left (by omega) (by omega) hm top pr h0]
          refine ⟨u1, ⟨by show (dig _).length ≤ 32; rw [dig_length]; omega, dig_bytes _⟩, ?_, fun t ht => ?_⟩
          · show (_ ++ _ : List (List Int)).length ≤ _
            rw [List.length_append, List.length_singleton]; omega
          · simp only [List.mem_append, List.mem_singleton] at ht
            rcases ht with ht | rfl
            · exact u4 t ht
            · exact ⟨isBytes_cons (by decide) (isBytes_app u2.2 hlast.2), by have := u2.1; simp only [List.length_cons, List.length_append]; omega⟩
        · obtain ⟨u1, u2, u3, u4⟩ := ih (n - hf n) (by omega) (m - hf n) top (pr.take (pr.length - 1)) false ht (hv.take _) (by omega) (by omega)
          rw [htl] at u3
          rw [toldT_right (by omega) (by omega) (by omega) top pr h0]
          refine ⟨⟨by show (dig _).length ≤ 32; rw [dig_length]; omega, dig_bytes _⟩, ⟨by show (dig _).length ≤ 32; rw [dig_length]; omega, dig_bytes _⟩, ?_, fun t ht => ?_⟩
          · show (_ ++ _ ++ _ : List (List Int)).length ≤ _
            rw [List.length_append, List.length_append, List.length_singleton, List.length_singleton]; omega
          · simp only [List.mem_append, List.mem_singleton] at ht
            rcases ht with (ht | rfl) | rfl
            · exact u4 t ht
            · exact ⟨isBytes_cons (by decide) (isBytes_app hlast.2 u1.2), by have := u1.1; simp only [List.length_cons, List.length_append]; omega⟩
            · exact ⟨isBytes_cons (by decide) (isBytes_app hlast.2 u2.2), by have := u2.1; simp only [List.length_cons, List.length_append]; omega⟩
theorem tells_f : ∀ (n m : Nat) (top : List Int) (pr : List (List Int)) (b : Bool) (k : Nat), top.length = 32 ∧ BytesB top → Lv pr → pr.length ≤ 5864062014804 → 1 ≤ m → m ≤ n → n ≤ 4096 → 2 * n ≤ k → trail_tells.f k m n top pr b = some ((toldT m n top pr b).1, (toldT m n top pr b).2.1, (toldT m n top pr b).2.2.2) := by
  intro n
  induction n using Nat.strongRecOn with
  | _ n ih =>
    intro m top pr b k ht hv hpl h1 hmn h2 hk
    obtain ⟨k, rfl⟩ : ∃ j, k = j + 2 := ⟨k - 2, by omega⟩
    have hw : wrap64 ((pr.length : Int) - 1) = (pr.length : Int) - 1 := w64 (by omega) (by omega)
    rw [trail_tells.f, hw]
    by_cases h : m = n
    · rw [if_pos (by omega), trail_tells.j0]
      cases b
      · rw [if_neg (by decide), if_pos (by omega)]
        by_cases h3 : pr.length = 1
        · rw [if_pos (by omega), if_pos (by omega), toldT_one h top pr h3]
          have e : rd_L1 pr ((0 : Nat) : Int) = pr.getD 0 [] := by unfold rd_L1; rw [Int.toNat_natCast]
          rw [show ((0 : Nat) : Int) = 0 from rfl] at e
          rw [e]
        · rw [if_neg (by omega), toldT_odd h top pr h3]
      · rw [if_pos rfl, toldT_first h]
        congr 3
        rw [decide_eq_decide]
        omega
    · rw [if_neg (by omega), trail_tells.j0, if_neg (by decide), if_neg (by omega)]
      by_cases h0 : pr.length = 0
      · rw [if_pos (by omega), toldT_none (by omega) (by omega) top pr h0]
      · have h3 := hf_pos n
        have h4 := hf_lt (n := n) (by omega)
        have hlast := hv _ (getD_mem' (l := pr) (i := pr.length - 1) (by omega))
        have htl : (pr.take (pr.length - 1)).length = pr.length - 1 := by rw [List.length_take]; omega
        rw [show (pr.length : Int) - 1 = ((pr.length - 1 : Nat) : Int) by omega, if_neg (by omega), half_eq n (by omega) (by omega), Option.bind_some, if_pos (by omega), if_pos (by omega), (show rd_L1 pr ((pr.length - 1 : Nat) : Int) = pr.getD (pr.length - 1) [] by unfold rd_L1; rw [Int.toNat_natCast]), Int.toNat_natCast]
        by_cases hm : m ≤ hf n
        · have u := toldT_ok (hf n) m top (pr.take (pr.length - 1)) b ht (hv.take _) h1 hm
          rw [if_pos (by omega), if_pos (by omega), ih (hf n) h4 m top _ b k ht (hv.take _) (by omega) h1 hm (by omega) (by omega), Option.bind_some, digest2 (by decide) u.2.1.2 hlast.2 (by have := u.2.1.1; omega), Option.bind_some, toldT_left (by omega) (by omega) hm top pr h0]
        · have u := toldT_ok (n - hf n) (m - hf n) top (pr.take (pr.length - 1)) false ht (hv.take _) (by omega) (by omega)
          rw [if_neg (by omega), if_pos (by omega), w64 (x := (m : Int) - (hf n : Int)) (by omega) (by omega), w64 (x := (n : Int) - (hf n : Int)) (by omega) (by omega), show (m : Int) - (hf n : Int) = ((m - hf n : Nat) : Int) by omega, show (n : Int) - (hf n : Int) = ((n - hf n : Nat) : Int) by omega, ih (n - hf n) (by omega) (m - hf n) top _ false k ht (hv.take _) (by omega) (by omega) (by omega) (by omega) (by omega), Option.bind_some, digest2 (by decide) hlast.2 u.1.2 (by have := u.1.1; omega), Option.bind_some, digest2 (by decide) hlast.2 u.2.1.2 (by have := u.2.1.1; omega), Option.bind_some, toldT_right (by omega) (by omega) (by omega) top pr h0]
/-- Whether a row begins with another one. -/
def bgL (a : List Int) (m : Nat) (top b : List Int) (n : Nat) (pr : List (List Int)) : Int := if (toldT m n top pr true).2.2.2 = true ∧ (toldT m n top pr true).1 = top ∧ headL m top = a ∧ headL n (toldT m n top pr true).2.1 = b then 0 else 50
def bgBad (a : List Int) (m : Int) (top b : List Int) (n : Int) (pr : List (List Int)) : Prop := n < 1 ∨ 4096 < n ∨ m < 1 ∨ n < m ∨ a.length ≠ 32 ∨ top.length ≠ 32 ∨ b.length ≠ 32 ∨ ∃ x ∈ pr, x.length ≠ 32
theorem begins_bad {k : Nat} {a top b : List Int} {m n : Int} {pr : List (List Int)} (hb : bgBad a m top b n pr) : trail_Begins.f (k + 1) a m top b n pr = some 1 := by
  unfold trail_Begins.f
  by_cases h1 : n < 1
  · rw [if_pos h1, trail_Begins.j0, if_pos rfl]
  rw [if_neg h1]
  by_cases h2 : n > 4096
  · rw [if_pos h2, trail_Begins.j0, if_pos rfl]
  rw [if_neg h2]
  by_cases h3 : m < 1
  · rw [if_pos h3, trail_Begins.j0, if_pos rfl]
  rw [if_neg h3]
  by_cases h4 : m > n
  · rw [if_pos h4, trail_Begins.j0, if_pos rfl]
  rw [if_neg h4]
  show (some (all32 [a, top, b])).bind _ = _
  rw [Option.bind_some]
  by_cases h5 : a.length ≠ 32 ∨ top.length ≠ 32 ∨ b.length ≠ 32
  · rw [all32_no (l := [a, top, b]) (by rcases h5 with h5 | h5 | h5; exact ⟨a, by simp, h5⟩; exact ⟨top, by simp, h5⟩; exact ⟨b, by simp, h5⟩), if_neg (by decide), trail_Begins.j0, if_pos rfl]
  · have h6 : ∃ x ∈ pr, x.length ≠ 32 := by
      rcases hb with h | h | h | h | h | h | h | h
      · exact absurd h h1
      · exact absurd h h2
      · exact absurd h h3
      · exact absurd h h4
      · exact absurd (.inl h) h5
      · exact absurd (.inr (.inl h)) h5
      · exact absurd (.inr (.inr h)) h5
      · exact h
    rw [all32_yes (l := [a, top, b]) (fun x hx => by simp only [List.mem_cons, List.not_mem_nil, or_false] at hx; rcases hx with rfl | rfl | rfl <;> omega), if_pos rfl]
    show (some (all32 pr)).bind _ = _
    rw [Option.bind_some, all32_no h6, trail_Begins.j0, if_pos (by decide)]
theorem begins_good {k m n : Nat} {a top b : List Int} {pr : List (List Int)} (h1 : 1 ≤ m) (hmn : m ≤ n) (h2 : n ≤ 4096) (ha : a.length = 32 ∧ BytesB a) (ht : top.length = 32 ∧ BytesB top) (hb : b.length = 32 ∧ BytesB b) (hv : Lv pr) (hl : pr.length ≤ 1000000000000) (hk : 2 * n + 10 ≤ k) : trail_Begins.f k a m top b n pr = some (bgL a m top b n pr) := by
  obtain ⟨k, rfl⟩ : ∃ j, k = j + 1 := ⟨k - 1, by omega⟩
  have u := toldT_ok n m top pr true ht hv h1 hmn
  unfold trail_Begins.f
  rw [if_neg (by omega), if_neg (by omega), if_neg (by omega), if_neg (by omega)]
  show (some (all32 [a, top, b])).bind _ = _
  rw [Option.bind_some, all32_yes (l := [a, top, b]) (fun x hx => by simp only [List.mem_cons, List.not_mem_nil, or_false] at hx; rcases hx with rfl | rfl | rfl <;> omega), if_pos rfl]
  show (some (all32 pr)).bind _ = _
  rw [Option.bind_some, all32_yes (fun x hx => (hv x hx).1), trail_Begins.j0, if_neg (by decide), tells_f n m top pr true k ht hv (by omega) h1 hmn h2 (by omega), Option.bind_some]
  unfold bgL
  by_cases hok : (toldT m n top pr true).2.2.2 = true
  · rw [if_pos hok]
    show (some _).bind _ = _
    rw [Option.bind_some, strs_beq u.1.2 ht.2]
    by_cases hx : (toldT m n top pr true).1 = top
    · rw [decide_eq_true hx, if_pos rfl, head_eq k (m : Int) top (by omega) ht.2 (by omega), Option.bind_some]
      show (some _).bind _ = _
      rw [Option.bind_some, strs_beq (headL_bytes _ _) ha.2]
      by_cases he : headL m top = a
      · rw [decide_eq_true he, if_pos rfl, head_eq k (n : Int) _ (by omega) u.2.1.2 (by have := u.2.1.1; omega), Option.bind_some]
        show (some _).bind _ = _
        rw [Option.bind_some, strs_beq (headL_bytes _ _) hb.2]
        by_cases hg : headL n (toldT m n top pr true).2.1 = b
        · rw [decide_eq_true hg, if_pos rfl, if_pos ⟨hok, hx, he, hg⟩]
        · rw [decide_eq_false hg, if_neg (by decide), if_neg (fun c => hg c.2.2.2)]
      · rw [decide_eq_false he, if_neg (by decide), if_neg (fun c => he c.2.2.1)]
    · rw [decide_eq_false hx, if_neg (by decide), if_neg (fun c => hx c.2.1)]
  · rw [if_neg hok, if_neg (fun c => hok c.1)]
end Go.Proofs.YtcnpdapampclpaaDoor.PTr
