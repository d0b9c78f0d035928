/- Plain lemmas for one law. -/
import Derived.Test.YtcnpdapampclpaaDoorPRcx1
import Derived.Test.YtcnpdapampclpaaDoorJ2
import Derived.Test.YtcnpdapampclpaaDoorJ3
import Derived.Test.YtcnpdapampclpaaDoorJ4
import Derived.Test.YtcnpdapampclpaaDoorP4
set_option linter.unusedVariables false
namespace Go.Proofs.YtcnpdapampclpaaDoor.PRa
open Go.RowKit Go.Proofs.YtcnpdapampclpaaDoorW.PrintWords Go.Proofs.YtcnpdapampclpaaDoorW.PrintLast Go.Proofs.YtcnpdapampclpaaDoorW.PrintMore Go.Proofs.YtcnpdapampclpaaDoor.X Go.Proofs.YtcnpdapampclpaaDoor.H Go.Proofs.YtcnpdapampclpaaDoor.PPl Go.Proofs.YtcnpdapampclpaaDoor.PPm Go.Proofs.YtcnpdapampclpaaDoor.PPn Go.Proofs.YtcnpdapampclpaaDoor.PTp Go.Proofs.YtcnpdapampclpaaDoor.PRa Go.Proofs.YtcnpdapampclpaaDoor.PRb
theorem pathL_length : ∀ (n p : Nat), (pathL n p).length ≤ n := by
  intro n
  induction n using Nat.strongRecOn with
  | _ n ih =>
    intro p
    by_cases h : n ≤ 1
    · rw [pathL_one h]; simp
    · have h1 := hf_pos n
      have h2 := hf_lt (n := n) (by omega)
      by_cases hp : p < hf n
      · rw [pathL_left (by omega) hp, List.length_cons]; have := ih (hf n) h2 p; omega
      · rw [pathL_right (by omega) (by omega), List.length_cons]; have := ih (n - hf n) (by omega) (p - hf n); omega
end Go.Proofs.YtcnpdapampclpaaDoor.PRa
namespace Go.Proofs.YtcnpdapampclpaaDoor.PRc
open Go.RowKit Go.Proofs.YtcnpdapampclpaaDoorW.PrintWords Go.Proofs.YtcnpdapampclpaaDoorW.PrintLast Go.Proofs.YtcnpdapampclpaaDoorW.PrintMore Go.Proofs.YtcnpdapampclpaaDoor.X Go.Proofs.YtcnpdapampclpaaDoor.H Go.Proofs.YtcnpdapampclpaaDoor.PPl Go.Proofs.YtcnpdapampclpaaDoor.PPm Go.Proofs.YtcnpdapampclpaaDoor.PPn Go.Proofs.YtcnpdapampclpaaDoor.PTp Go.Proofs.YtcnpdapampclpaaDoor.PRa Go.Proofs.YtcnpdapampclpaaDoor.PRb Go.Proofs.YtcnpdapampclpaaDoor.PRa
theorem way_f : ∀ (n : Nat) (l : List (List Int)) (q k : Nat), l.length = n → Lv l → q < n → n ≤ 1000000 → n + 32 ≤ k → imprimaturref20_Way.f k l q = some (walkL l q) := by
  intro n
  induction n using Nat.strongRecOn with
  | _ n ih =>
    intro l q k hl hv hq h2 hk
    obtain ⟨k, rfl⟩ : ∃ j, k = j + 1 := ⟨k - 1, by omega⟩
    rw [imprimaturref20_Way.f]
    by_cases h : n = 1
    · rw [if_pos (by omega), walkL_one (by omega)]
    · have h3 := hf_pos n
      have h4 := hf_lt (n := n) (by omega)
      have t1 : (l.take (hf n)).length = hf n := by rw [List.length_take]; omega
      have t2 : (l.drop (hf n)).length = n - hf n := by rw [List.length_drop]; omega
      rw [if_neg (by omega), hl, refhalf_eq n (by omega) h2 k (by omega), Option.bind_some]
      by_cases hqq : q < hf n
      · have hlen := walkL_length (hf n) (l.take (hf n)) q t1
        have hp := pathL_length (hf n) q
        rw [if_pos (by omega), if_pos (by omega), if_pos (by omega), Int.toNat_natCast, ih (hf n) h4 _ q k t1 (hv.take _) hqq (by omega) (by omega), Option.bind_some, top_f (n - hf n) _ k t2 (hv.drop _) (by omega) (by omega) (by omega), Option.bind_some, if_pos (by omega), walkL_left (l := l) (by omega) (by rw [hl]; exact hqq), hl]
      · have hlen := walkL_length (n - hf n) (l.drop (hf n)) (q - hf n) t2
        have hp := pathL_length (n - hf n) (q - hf n)
        rw [if_neg (by omega), if_pos (by omega), if_pos (by omega), Int.toNat_natCast, w64 (by omega) (by omega), show (q : Int) - (hf n : Int) = ((q - hf n : Nat) : Int) by omega, ih (n - hf n) (by omega) _ (q - hf n) k t2 (hv.drop _) (by omega) (by omega) (by omega), Option.bind_some, top_f (hf n) _ k t1 (hv.take _) (by omega) (by omega) (by omega), Option.bind_some, if_pos (by omega), walkL_right (l := l) (by omega) (by rw [hl]; omega), hl]
end Go.Proofs.YtcnpdapampclpaaDoor.PRc
