/- Plain lemmas for one law. -/
import Derived.Test.YtcnpdapampclpaaDoorPRex1
import Derived.Test.YtcnpdapampclpaaDoorJ2
import Derived.Test.YtcnpdapampclpaaDoorJ3
import Derived.Test.YtcnpdapampclpaaDoorJ4
import Derived.Test.YtcnpdapampclpaaDoorP4
import Derived.Test.YtcnpdapampclpaaDoorP6
set_option linter.unusedVariables false
namespace Go.Proofs.YtcnpdapampclpaaDoor.PRe
open Go.RowKit Go.Proofs.YtcnpdapampclpaaDoorW.PrintWords Go.Proofs.YtcnpdapampclpaaDoorW.PrintLast Go.Proofs.YtcnpdapampclpaaDoorW.PrintMore Go.Proofs.YtcnpdapampclpaaDoor.X Go.Proofs.YtcnpdapampclpaaDoor.H Go.Proofs.YtcnpdapampclpaaDoor.PPl Go.Proofs.YtcnpdapampclpaaDoor.PPm Go.Proofs.YtcnpdapampclpaaDoor.PPn Go.Proofs.YtcnpdapampclpaaDoor.PTp Go.Proofs.YtcnpdapampclpaaDoor.PTq Go.Proofs.YtcnpdapampclpaaDoor.PRa Go.Proofs.YtcnpdapampclpaaDoor.PRb
theorem refup_f : ∀ (n p : Nat) (leaf : List Int) (pr : List (List Int)) (k : Nat), leaf.length = 32 ∧ BytesB leaf → Lv pr → pr.length ≤ 5864062014804 → 1 ≤ n → n ≤ 4096 → p < n → n + 31 ≤ k → imprimaturref20_Up.f k n p leaf pr = some (upT n p leaf pr) := by
  intro n
  induction n using Nat.strongRecOn with
  | _ n ih =>
    intro p leaf pr k hl hv hpl h1 h2 hp hk
    obtain ⟨k, rfl⟩ : ∃ j, k = j + 1 := ⟨k - 1, by omega⟩
    rw [imprimaturref20_Up.f]
    by_cases h : n = 1
    · rw [if_pos (by omega), upT_one (by omega), len0]
    · rw [if_neg (by omega)]
      by_cases h0 : pr.length = 0
      · rw [if_pos (by omega), upT_none (by omega) p leaf pr h0]
      · have h3 := hf_pos n
        have h4 := hf_lt (n := n) (by omega)
        have hlast := hv _ (getD_mem' (l := pr) (i := pr.length - 1) (by omega))
        have htl : (pr.take (pr.length - 1)).length = pr.length - 1 := by rw [List.length_take]; omega
        rw [if_neg (by omega), refhalf_eq n (by omega) (by omega) k (by omega), Option.bind_some, lastI h0 (by omega), if_pos (by omega), if_pos (by omega), if_pos (by omega), Option.bind_some, Int.toNat_natCast, (show rd_L1 pr ((pr.length - 1 : Nat) : Int) = pr.getD (pr.length - 1) [] by unfold rd_L1; rw [Int.toNat_natCast])]
        by_cases hpp : p < hf n
        · have u := upT_ok (hf n) p leaf (pr.take (pr.length - 1)) hl (hv.take _)
          have e := u.2.1
          rw [htl] at e
          rw [if_pos (by omega), ih (hf n) h4 p leaf _ k hl (hv.take _) (by omega) h3 (by omega) hpp (by omega), Option.bind_some, text_f (by have := u.1.1; omega) (by omega), Option.bind_some, hash_eq (isBytes_cons (by decide) (isBytes_app u.1.2 hlast.2)) (by have := u.1.1; simp only [List.length_cons, List.length_append]; omega), Option.bind_some, if_pos (by omega), upT_left (by omega) hpp leaf pr h0]
        · have u := upT_ok (n - hf n) (p - hf n) leaf (pr.take (pr.length - 1)) hl (hv.take _)
          have e := u.2.1
          rw [htl] at e
          rw [if_neg (by omega), w64 (x := (n : Int) - (hf n : Int)) (by omega) (by omega), w64 (x := (p : Int) - (hf n : Int)) (by omega) (by omega), show (n : Int) - (hf n : Int) = ((n - hf n : Nat) : Int) by omega, show (p : Int) - (hf n : Int) = ((p - hf n : Nat) : Int) by omega, ih (n - hf n) (by omega) (p - hf n) leaf _ k hl (hv.take _) (by omega) (by omega) (by omega) (by omega) (by omega), Option.bind_some, text_f (by omega) (by have := u.1.1; omega), Option.bind_some, hash_eq (isBytes_cons (by decide) (isBytes_app hlast.2 u.1.2)) (by have := u.1.1; simp only [List.length_cons, List.length_append]; omega), Option.bind_some, if_pos (by omega), upT_right (by omega) (by omega) leaf pr h0]
end Go.Proofs.YtcnpdapampclpaaDoor.PRe
