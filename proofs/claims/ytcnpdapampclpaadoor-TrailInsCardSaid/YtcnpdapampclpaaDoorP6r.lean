/- Plain lemmas for one law. -/
import Derived.Test.YtcnpdapampclpaaDoorPRex1
import Derived.Test.YtcnpdapampclpaaDoorPRgx1
import Derived.Test.YtcnpdapampclpaaDoorP0
import Derived.Test.YtcnpdapampclpaaDoorP1
import Derived.Test.YtcnpdapampclpaaDoorP2
import Derived.Test.YtcnpdapampclpaaDoorP8
import Derived.Test.YtcnpdapampclpaaDoorP4
import Derived.Test.YtcnpdapampclpaaDoorP6
import Derived.Test.YtcnpdapampclpaaDoorP9
set_option linter.unusedVariables false
namespace Go.Proofs.YtcnpdapampclpaaDoor.PRa
open Go.RowKit Go.Proofs.YtcnpdapampclpaaDoorW.PrintWords Go.Proofs.YtcnpdapampclpaaDoorW.PrintLast Go.Proofs.YtcnpdapampclpaaDoorW.PrintMore Go.Proofs.YtcnpdapampclpaaDoor.X Go.Proofs.YtcnpdapampclpaaDoor.H Go.Proofs.YtcnpdapampclpaaDoor.PPl Go.Proofs.YtcnpdapampclpaaDoor.PPm Go.Proofs.YtcnpdapampclpaaDoor.PPn Go.Proofs.YtcnpdapampclpaaDoor.PTp Go.Proofs.YtcnpdapampclpaaDoor.PTq Go.Proofs.YtcnpdapampclpaaDoor.PRa Go.Proofs.YtcnpdapampclpaaDoor.PRb Go.Proofs.YtcnpdapampclpaaDoor.PRs
theorem headhash2 {n : Int} {t : List Int} (hb : BytesB t) (ht : t.length ≤ 200000) : imprimaturref02_Hash256.f (18 :: (e8 n ++ t)) = some (headL n t) := headhash hb ht
end Go.Proofs.YtcnpdapampclpaaDoor.PRa
namespace Go.Proofs.YtcnpdapampclpaaDoor.PRe
open Go.RowKit Go.Proofs.YtcnpdapampclpaaDoorW.PrintWords Go.Proofs.YtcnpdapampclpaaDoorW.PrintLast Go.Proofs.YtcnpdapampclpaaDoorW.PrintMore Go.Proofs.YtcnpdapampclpaaDoor.X Go.Proofs.YtcnpdapampclpaaDoor.H Go.Proofs.YtcnpdapampclpaaDoor.PPl Go.Proofs.YtcnpdapampclpaaDoor.PPm Go.Proofs.YtcnpdapampclpaaDoor.PPn Go.Proofs.YtcnpdapampclpaaDoor.PTp Go.Proofs.YtcnpdapampclpaaDoor.PTq Go.Proofs.YtcnpdapampclpaaDoor.PRa Go.Proofs.YtcnpdapampclpaaDoor.PRb Go.Proofs.YtcnpdapampclpaaDoor.PRs Go.Proofs.YtcnpdapampclpaaDoor.PRa
theorem refup_f : ∀ (n p : Nat) (leaf : List Int) (pr : List (List Int)) (k : Nat), leaf.length = 32 ∧ BytesB leaf → Lv pr → pr.length ≤ 5864062014804 → 1 ≤ n → n ≤ 4096 → p < n → n + 31 ≤ k → imprimaturref20_Up.f k n p leaf pr = some (upT n p leaf pr) := by
  intro n
  induction n using Nat.strongRecOn with
  | _ n ih =>
    intro p leaf pr k hl hv hpl h1 h2 hp hk
    obtain ⟨k, rfl⟩ : ∃ j, k = j + 1 := ⟨k - 1, by omega⟩
    rw [imprimaturref20_Up.f]
    by_cases h : n = 1
    · rw [if_pos (by omega), upT_one (by omega), len0]
    · rw [if_neg (by omega)]
      by_cases h0 : pr.length = 0
      · rw [if_pos (by omega), upT_none (by omega) p leaf pr h0]
      · have h3 := hf_pos n
        have h4 := hf_lt (n := n) (by omega)
        have hlast := hv _ (getD_mem' (l := pr) (i := pr.length - 1) (by omega))
        have htl : (pr.take (pr.length - 1)).length = pr.length - 1 := by rw [List.length_take]; omega
        rw [if_neg (by omega), refhalf_eq n (by omega) (by omega) k (by omega), Option.bind_some, lastI h0 (by omega), if_pos (by omega), if_pos (by omega), if_pos (by omega), Option.bind_some, Int.toNat_natCast, (show rd_L1 pr ((pr.length - 1 : Nat) : Int) = pr.getD (pr.length - 1) [] by unfold rd_L1; rw [Int.toNat_natCast])]
        by_cases hpp : p < hf n
        · have u := upT_ok (hf n) p leaf (pr.take (pr.length - 1)) hl (hv.take _)
          have e := u.2.1
          rw [htl] at e
          rw [if_pos (by omega), ih (hf n) h4 p leaf _ k hl (hv.take _) (by omega) h3 (by omega) hpp (by omega), Option.bind_some, text_f (by have := u.1.1; omega) (by omega), Option.bind_some, hash_eq (isBytes_cons (by decide) (isBytes_app u.1.2 hlast.2)) (by have := u.1.1; simp only [List.length_cons, List.length_append]; omega), Option.bind_some, if_pos (by omega), upT_left (by omega) hpp leaf pr h0]
        · have u := upT_ok (n - hf n) (p - hf n) leaf (pr.take (pr.length - 1)) hl (hv.take _)
          have e := u.2.1
          rw [htl] at e
          rw [if_neg (by omega), w64 (x := (n : Int) - (hf n : Int)) (by omega) (by omega), w64 (x := (p : Int) - (hf n : Int)) (by omega) (by omega), show (n : Int) - (hf n : Int) = ((n - hf n : Nat) : Int) by omega, show (p : Int) - (hf n : Int) = ((p - hf n : Nat) : Int) by omega, ih (n - hf n) (by omega) (p - hf n) leaf _ k hl (hv.take _) (by omega) (by omega) (by omega) (by omega) (by omega), Option.bind_some, text_f (by omega) (by have := u.1.1; omega), Option.bind_some, hash_eq (isBytes_cons (by decide) (isBytes_app hlast.2 u.1.2)) (by have := u.1.1; simp only [List.length_cons, List.length_append]; omega), Option.bind_some, if_pos (by omega), upT_right (by omega) (by omega) leaf pr h0]
end Go.Proofs.YtcnpdapampclpaaDoor.PRe
namespace Go.Proofs.YtcnpdapampclpaaDoor.PRg
open Go.RowKit Go.Proofs.YtcnpdapampclpaaDoorW.PrintWords Go.Proofs.YtcnpdapampclpaaDoorW.PrintLast Go.Proofs.YtcnpdapampclpaaDoorW.PrintMore Go.Proofs.YtcnpdapampclpaaDoor.X Go.Proofs.YtcnpdapampclpaaDoor.H Go.Proofs.YtcnpdapampclpaaDoor.PPl Go.Proofs.YtcnpdapampclpaaDoor.PPm Go.Proofs.YtcnpdapampclpaaDoor.PPn Go.Proofs.YtcnpdapampclpaaDoor.PTp Go.Proofs.YtcnpdapampclpaaDoor.PTq Go.Proofs.YtcnpdapampclpaaDoor.PRa Go.Proofs.YtcnpdapampclpaaDoor.PRb Go.Proofs.YtcnpdapampclpaaDoor.PRs Go.Proofs.YtcnpdapampclpaaDoor.PRa Go.Proofs.YtcnpdapampclpaaDoor.PRe
theorem refin_bad {k : Nat} {n p : Int} {h mark : List Int} {way : List (List Int)} (hl : way.length ≤ 5864062014805) (hk : way.length < k) (hb : inBad n p h mark way) : imprimaturref20_In.f k h n p mark way = some 1 := by
  obtain ⟨k, rfl⟩ : ∃ j, k = j + 1 := ⟨k - 1, by omega⟩
  unfold imprimaturref20_In.f
  by_cases h1 : n < 1
  · rw [if_pos h1, imprimaturref20_In.j0, if_pos rfl]
  rw [if_neg h1]
  by_cases h2 : n > 4096
  · rw [if_pos h2, imprimaturref20_In.j0, if_pos rfl]
  rw [if_neg h2]
  by_cases h3 : p < 0
  · rw [if_pos h3, imprimaturref20_In.j0, if_pos rfl]
  rw [if_neg h3]
  by_cases h4 : p ≥ n
  · rw [if_pos h4, imprimaturref20_In.j0, if_pos rfl]
  rw [if_neg h4]
  by_cases h5 : h.length = 32
  · rw [if_pos (by omega)]
    by_cases h6 : mark.length = 32
    · rw [if_pos (by omega), short_f way hl (k + 1) hk, Option.bind_some]
      have h7 : ∃ x ∈ way, x.length ≠ 32 := by
        rcases hb with h | h | h | h | h | h | h
        · exact absurd h h1
        · exact absurd h h2
        · exact absurd h h3
        · exact absurd h h4
        · exact absurd h5 h
        · exact absurd h6 h
        · exact h
      rw [all32_no h7, imprimaturref20_In.j0, if_pos (by decide)]
    · rw [if_neg (by omega), imprimaturref20_In.j0, if_pos rfl]
  · rw [if_neg (by omega), imprimaturref20_In.j0, if_pos rfl]
theorem refin_good {k n p : Nat} {h mark : List Int} {way : List (List Int)} (h1 : 1 ≤ n) (h2 : n ≤ 4096) (hp : p < n) (hh : h.length = 32 ∧ BytesB h) (hm : mark.length = 32 ∧ BytesB mark) (hv : Lv way) (hl : way.length ≤ 5864062014804) (hk : n + 33 ≤ k) (hk2 : way.length < k) : imprimaturref20_In.f k h n p mark way = some (inL n p h mark way) := by
  obtain ⟨k, rfl⟩ : ∃ j, k = j + 1 := ⟨k - 1, by omega⟩
  have u := upT_ok n p mark way hm hv
  unfold imprimaturref20_In.f
  rw [if_neg (by omega), if_neg (by omega), if_neg (by omega), if_neg (by omega), if_pos (by omega), if_pos (by omega), short_f way (by omega) (k + 1) hk2, Option.bind_some, all32_yes (fun x hx => (hv x hx).1), imprimaturref20_In.j0, if_neg (by decide), refup_f n p mark way k hm hv hl h1 h2 hp (by omega), Option.bind_some]
  unfold inL
  by_cases hok : (upT n p mark way).2.2 = true
  · rw [if_pos hok, headtext_f (by omega) (by have := u.1.1; omega), Option.bind_some, headhash2 u.1.2 (by have := u.1.1; omega), Option.bind_some]
    by_cases he : headL n (upT n p mark way).1 = h
    · rw [if_pos ((strs_eq (headL_bytes _ _) hh.2).2 he), if_pos ⟨hok, he⟩]
    · rw [if_neg (fun c => he ((strs_eq (headL_bytes _ _) hh.2).1 c)), if_neg (fun c => he c.2)]
  · rw [if_neg hok, if_neg (fun c => hok c.1)]
end Go.Proofs.YtcnpdapampclpaaDoor.PRg
