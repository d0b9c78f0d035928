/- Plain lemmas for one law. -/
import Derived.Test.YtcnpdapampclpaaDoorPRhx1
import Derived.Test.YtcnpdapampclpaaDoorPRox1
import Derived.Test.YtcnpdapampclpaaDoorP0
import Derived.Test.YtcnpdapampclpaaDoorP1
import Derived.Test.YtcnpdapampclpaaDoorP2
import Derived.Test.YtcnpdapampclpaaDoorP8
import Derived.Test.YtcnpdapampclpaaDoorP4
import Derived.Test.YtcnpdapampclpaaDoorP7
import Derived.Test.YtcnpdapampclpaaDoorP9
set_option linter.unusedVariables false
namespace Go.Proofs.YtcnpdapampclpaaDoor.PRa
open Go.RowKit Go.Proofs.YtcnpdapampclpaaDoorW.PrintWords Go.Proofs.YtcnpdapampclpaaDoorW.PrintLast Go.Proofs.YtcnpdapampclpaaDoorW.PrintMore Go.Proofs.YtcnpdapampclpaaDoor.X Go.Proofs.YtcnpdapampclpaaDoor.H Go.Proofs.YtcnpdapampclpaaDoor.PPl Go.Proofs.YtcnpdapampclpaaDoor.PPm Go.Proofs.YtcnpdapampclpaaDoor.PPn Go.Proofs.YtcnpdapampclpaaDoor.PTp Go.Proofs.YtcnpdapampclpaaDoor.PTr Go.Proofs.YtcnpdapampclpaaDoor.PRa Go.Proofs.YtcnpdapampclpaaDoor.PRb Go.Proofs.YtcnpdapampclpaaDoor.PRs
theorem headhash2 {n : Int} {t : List Int} (hb : BytesB t) (ht : t.length ≤ 200000) : imprimaturref02_Hash256.f (18 :: (e8 n ++ t)) = some (headL n t) := headhash hb ht
theorem lastI {pr : List (List Int)} (h0 : pr.length ≠ 0) (hl : pr.length ≤ 5864062014805) : wrap64 ((pr.length : Int) - 1) = ((pr.length - 1 : Nat) : Int) := by rw [w64 (by omega) (by omega)]; omega
theorem len0 (pr : List (List Int)) : ((pr.length : Int) == 0) = decide (pr.length = 0) := by
  by_cases h : pr.length = 0
  · rw [decide_eq_true h, h]; rfl
  · rw [decide_eq_false h]; exact beq_eq_false_iff_ne.2 (by omega)
end Go.Proofs.YtcnpdapampclpaaDoor.PRa
namespace Go.Proofs.YtcnpdapampclpaaDoor.PRo
open Go.RowKit Go.Proofs.YtcnpdapampclpaaDoorW.PrintWords Go.Proofs.YtcnpdapampclpaaDoorW.PrintLast Go.Proofs.YtcnpdapampclpaaDoorW.PrintMore Go.Proofs.YtcnpdapampclpaaDoor.X Go.Proofs.YtcnpdapampclpaaDoor.H Go.Proofs.YtcnpdapampclpaaDoor.PPl Go.Proofs.YtcnpdapampclpaaDoor.PPm Go.Proofs.YtcnpdapampclpaaDoor.PPn Go.Proofs.YtcnpdapampclpaaDoor.PTp Go.Proofs.YtcnpdapampclpaaDoor.PTr Go.Proofs.YtcnpdapampclpaaDoor.PRa Go.Proofs.YtcnpdapampclpaaDoor.PRb Go.Proofs.YtcnpdapampclpaaDoor.PRs Go.Proofs.YtcnpdapampclpaaDoor.PRa
theorem told_f : ∀ (n m : Nat) (top : List Int) (pr : List (List Int)) (b : Bool) (k : Nat), top.length = 32 ∧ BytesB top → Lv pr → pr.length ≤ 1000000000000 → 1 ≤ m → m ≤ n → n ≤ 4096 → 3 * n + 40 ≤ k → imprimaturref20_Told.f k m n top pr b = some (toldT m n top pr b) := by
  intro n
  induction n using Nat.strongRecOn with
  | _ n ih =>
    intro m top pr b k ht hv hpl h1 hmn h2 hk
    obtain ⟨k, rfl⟩ : ∃ j, k = j + 3 := ⟨k - 3, by omega⟩
    rw [imprimaturref20_Told.f]
    by_cases h : m = n
    · rw [if_pos (by omega), imprimaturref20_Told.j0]
      cases b
      · rw [if_neg (by decide)]
        by_cases h0 : pr.length = 0
        · rw [if_pos (by omega), imprimaturref20_Told.j1, if_pos rfl, toldT_odd h top pr (by omega)]
        · rw [if_neg (by omega), if_pos (by omega)]
          by_cases h3 : pr.length = 1
          · have hb : ((pr.length : Int) != 1) = false := by rw [h3]; rfl
            rw [hb, imprimaturref20_Told.j1, if_neg (by decide), lastI h0 (by omega), if_pos (by omega), if_pos (by omega), if_pos (by omega), (show rd_L1 pr ((pr.length - 1 : Nat) : Int) = pr.getD (pr.length - 1) [] by unfold rd_L1; rw [Int.toNat_natCast]), toldT_one h top pr h3, h3]
          · have hb : ((pr.length : Int) != 1) = true := bne_iff_ne.2 (by omega)
            rw [hb, imprimaturref20_Told.j1, if_pos rfl, toldT_odd h top pr h3]
      · rw [if_pos rfl, toldT_first h, len0]
    · rw [if_neg (by omega), imprimaturref20_Told.j0, if_neg (by decide)]
      by_cases h0 : pr.length = 0
      · rw [if_pos (by omega), imprimaturref20_Told.j1, if_pos rfl, toldT_none (by omega) (by omega) top pr h0]
      · have h3 := hf_pos n
        have h4 := hf_lt (n := n) (by omega)
        have hlast := hv _ (getD_mem' (l := pr) (i := pr.length - 1) (by omega))
        have htl : (pr.take (pr.length - 1)).length = pr.length - 1 := by rw [List.length_take]; omega
        rw [if_neg (by omega), if_neg (by omega), imprimaturref20_Told.j1, if_neg (by decide), lastI h0 (by omega), if_pos (by omega), if_pos (by omega), if_neg (by omega), refhalf_eq n (by omega) (by omega) k (by omega), Option.bind_some, if_pos (by omega), Option.bind_some, (show rd_L1 pr ((pr.length - 1 : Nat) : Int) = pr.getD (pr.length - 1) [] by unfold rd_L1; rw [Int.toNat_natCast]), Int.toNat_natCast]
        by_cases hm : m ≤ hf n
        · have u := toldT_ok (hf n) m top (pr.take (pr.length - 1)) b ht (hv.take _) h1 hm
          have e := u.2.2.1
          rw [htl] at e
          rw [if_pos (by omega), ih (hf n) h4 m top _ b k ht (hv.take _) (by omega) h1 hm (by omega) (by omega), Option.bind_some, text_f (by have := u.2.1.1; omega) (by omega), Option.bind_some, hash_eq (isBytes_cons (by decide) (isBytes_app u.2.1.2 hlast.2)) (by have := u.2.1.1; simp only [List.length_cons, List.length_append]; omega), Option.bind_some, if_pos (by omega), toldT_left (by omega) (by omega) hm top pr h0]
        · have u := toldT_ok (n - hf n) (m - hf n) top (pr.take (pr.length - 1)) false ht (hv.take _) (by omega) (by omega)
          have e := u.2.2.1
          rw [htl] at e
          rw [if_neg (by omega), w64 (x := (m : Int) - (hf n : Int)) (by omega) (by omega), w64 (x := (n : Int) - (hf n : Int)) (by omega) (by omega), show (m : Int) - (hf n : Int) = ((m - hf n : Nat) : Int) by omega, show (n : Int) - (hf n : Int) = ((n - hf n : Nat) : Int) by omega, ih (n - hf n) (by omega) (m - hf n) top _ false k ht (hv.take _) (by omega) (by omega) (by omega) (by omega) (by omega), Option.bind_some, text_f (by omega) (by have := u.1.1; omega), Option.bind_some, text_f (by omega) (by have := u.2.1.1; omega), Option.bind_some, hash_eq (isBytes_cons (by decide) (isBytes_app hlast.2 u.1.2)) (by have := u.1.1; simp only [List.length_cons, List.length_append]; omega), Option.bind_some, hash_eq (isBytes_cons (by decide) (isBytes_app hlast.2 u.2.1.2)) (by have := u.2.1.1; simp only [List.length_cons, List.length_append]; omega), Option.bind_some, if_pos (by omega), Option.bind_some, if_pos (by rw [List.length_append, List.length_singleton]; omega), toldT_right (by omega) (by omega) (by omega) top pr h0]
end Go.Proofs.YtcnpdapampclpaaDoor.PRo
namespace Go.Proofs.YtcnpdapampclpaaDoor.PRh
open Go.RowKit Go.Proofs.YtcnpdapampclpaaDoorW.PrintWords Go.Proofs.YtcnpdapampclpaaDoorW.PrintLast Go.Proofs.YtcnpdapampclpaaDoorW.PrintMore Go.Proofs.YtcnpdapampclpaaDoor.X Go.Proofs.YtcnpdapampclpaaDoor.H Go.Proofs.YtcnpdapampclpaaDoor.PPl Go.Proofs.YtcnpdapampclpaaDoor.PPm Go.Proofs.YtcnpdapampclpaaDoor.PPn Go.Proofs.YtcnpdapampclpaaDoor.PTp Go.Proofs.YtcnpdapampclpaaDoor.PTr Go.Proofs.YtcnpdapampclpaaDoor.PRa Go.Proofs.YtcnpdapampclpaaDoor.PRb Go.Proofs.YtcnpdapampclpaaDoor.PRs Go.Proofs.YtcnpdapampclpaaDoor.PRa Go.Proofs.YtcnpdapampclpaaDoor.PRo
theorem refbegins_bad {k : Nat} {a top b : List Int} {m n : Int} {pr : List (List Int)} (hl : pr.length ≤ 5864062014805) (hk : pr.length < k) (hb : bgBad a m top b n pr) : imprimaturref20_Begins.f k a m top b n pr = some 1 := by
  obtain ⟨k, rfl⟩ : ∃ j, k = j + 1 := ⟨k - 1, by omega⟩
  unfold imprimaturref20_Begins.f
  by_cases h1 : n < 1
  · rw [if_pos h1, imprimaturref20_Begins.j0, if_pos rfl]
  rw [if_neg h1]
  by_cases h2 : n > 4096
  · rw [if_pos h2, imprimaturref20_Begins.j0, if_pos rfl]
  rw [if_neg h2]
  by_cases h3 : m < 1
  · rw [if_pos h3, imprimaturref20_Begins.j0, if_pos rfl]
  rw [if_neg h3]
  by_cases h4 : m > n
  · rw [if_pos h4, imprimaturref20_Begins.j0, if_pos rfl]
  rw [if_neg h4]
  by_cases h5 : a.length = 32
  · rw [if_pos (by omega)]
    by_cases h6 : top.length = 32
    · rw [if_pos (by omega)]
      by_cases h8 : b.length = 32
      · rw [if_pos (by omega), short_f pr hl (k + 1) hk, Option.bind_some]
        have h7 : ∃ x ∈ pr, x.length ≠ 32 := by
          rcases hb with h | h | h | h | h | h | h | h
          · exact absurd h h1
          · exact absurd h h2
          · exact absurd h h3
          · exact absurd h h4
          · exact absurd h5 h
          · exact absurd h6 h
          · exact absurd h8 h
          · exact h
        rw [all32_no h7, imprimaturref20_Begins.j0, if_pos (by decide)]
      · rw [if_neg (by omega), imprimaturref20_Begins.j0, if_pos rfl]
    · rw [if_neg (by omega), imprimaturref20_Begins.j0, if_pos rfl]
  · rw [if_neg (by omega), imprimaturref20_Begins.j0, if_pos rfl]
theorem refbegins_good {k m n : Nat} {a top b : List Int} {pr : List (List Int)} (h1 : 1 ≤ m) (hmn : m ≤ n) (h2 : n ≤ 4096) (ha : a.length = 32 ∧ BytesB a) (ht : top.length = 32 ∧ BytesB top) (hb : b.length = 32 ∧ BytesB b) (hv : Lv pr) (hl : pr.length ≤ 1000000000000) (hk : 3 * n + 41 ≤ k) (hk2 : pr.length < k) : imprimaturref20_Begins.f k a m top b n pr = some (bgL a m top b n pr) := by
  obtain ⟨k, rfl⟩ : ∃ j, k = j + 1 := ⟨k - 1, by omega⟩
  have u := toldT_ok n m top pr true ht hv h1 hmn
  unfold imprimaturref20_Begins.f
  rw [if_neg (by omega), if_neg (by omega), if_neg (by omega), if_neg (by omega), if_pos (by omega), if_pos (by omega), if_pos (by omega), short_f pr (by omega) (k + 1) hk2, Option.bind_some, all32_yes (fun x hx => (hv x hx).1), imprimaturref20_Begins.j0, if_neg (by decide), told_f n m top pr true k ht hv hl h1 hmn h2 (by omega), Option.bind_some]
  unfold bgL
  by_cases hok : (toldT m n top pr true).2.2.2 = true
  · rw [if_pos hok]
    by_cases hx : (toldT m n top pr true).1 = top
    · rw [if_pos ((strs_eq u.1.2 ht.2).2 hx), headtext_f (by omega) (by omega), Option.bind_some, headhash2 ht.2 (by omega), Option.bind_some]
      by_cases he : headL m top = a
      · rw [if_pos ((strs_eq (headL_bytes _ _) ha.2).2 he), headtext_f (by omega) (by have := u.2.1.1; omega), Option.bind_some, headhash2 u.2.1.2 (by have := u.2.1.1; omega), Option.bind_some]
        by_cases hg : headL n (toldT m n top pr true).2.1 = b
        · rw [if_pos ((strs_eq (headL_bytes _ _) hb.2).2 hg), if_pos ⟨hok, hx, he, hg⟩]
        · rw [if_neg (fun c => hg ((strs_eq (headL_bytes _ _) hb.2).1 c)), if_neg (fun c => hg c.2.2.2)]
      · rw [if_neg (fun c => he ((strs_eq (headL_bytes _ _) ha.2).1 c)), if_neg (fun c => he c.2.2.1)]
    · rw [if_neg (fun c => hx ((strs_eq u.1.2 ht.2).1 c)), if_neg (fun c => hx c.2.1)]
  · rw [if_neg hok, if_neg (fun c => hok c.1)]
end Go.Proofs.YtcnpdapampclpaaDoor.PRh
