/- Plain lemmas for one law. -/
import Derived.Test.YtcnpdapampclpaaDoorPRox1
import Derived.Test.YtcnpdapampclpaaDoorJ2
import Derived.Test.YtcnpdapampclpaaDoorJ3
import Derived.Test.YtcnpdapampclpaaDoorJ4
import Derived.Test.YtcnpdapampclpaaDoorP4
import Derived.Test.YtcnpdapampclpaaDoorP7
set_option linter.unusedVariables false
namespace Go.Proofs.YtcnpdapampclpaaDoor.PRa
open Go.RowKit Go.Proofs.YtcnpdapampclpaaDoorW.PrintWords Go.Proofs.YtcnpdapampclpaaDoorW.PrintLast Go.Proofs.YtcnpdapampclpaaDoorW.PrintMore Go.Proofs.YtcnpdapampclpaaDoor.X Go.Proofs.YtcnpdapampclpaaDoor.H Go.Proofs.YtcnpdapampclpaaDoor.PPl Go.Proofs.YtcnpdapampclpaaDoor.PPm Go.Proofs.YtcnpdapampclpaaDoor.PPn Go.Proofs.YtcnpdapampclpaaDoor.PTp Go.Proofs.YtcnpdapampclpaaDoor.PTr Go.Proofs.YtcnpdapampclpaaDoor.PRa Go.Proofs.YtcnpdapampclpaaDoor.PRb
theorem lastI {pr : List (List Int)} (h0 : pr.length ≠ 0) (hl : pr.length ≤ 5864062014805) : wrap64 ((pr.length : Int) - 1) = ((pr.length - 1 : Nat) : Int) := by rw [w64 (by omega) (by omega)]; omega
theorem len0 (pr : List (List Int)) : ((pr.length : Int) == 0) = decide (pr.length = 0) := by
  by_cases h : pr.length = 0
  · rw [decide_eq_true h, h]; rfl
  · rw [decide_eq_false h]; exact beq_eq_false_iff_ne.2 (by omega)
end Go.Proofs.YtcnpdapampclpaaDoor.PRa
namespace Go.Proofs.YtcnpdapampclpaaDoor.PRo
open Go.RowKit Go.Proofs.YtcnpdapampclpaaDoorW.PrintWords Go.Proofs.YtcnpdapampclpaaDoorW.PrintLast Go.Proofs.YtcnpdapampclpaaDoorW.PrintMore Go.Proofs.YtcnpdapampclpaaDoor.X Go.Proofs.YtcnpdapampclpaaDoor.H Go.Proofs.YtcnpdapampclpaaDoor.PPl Go.Proofs.YtcnpdapampclpaaDoor.PPm Go.Proofs.YtcnpdapampclpaaDoor.PPn Go.Proofs.YtcnpdapampclpaaDoor.PTp Go.Proofs.YtcnpdapampclpaaDoor.PTr Go.Proofs.YtcnpdapampclpaaDoor.PRa Go.Proofs.YtcnpdapampclpaaDoor.PRb Go.Proofs.YtcnpdapampclpaaDoor.PRa
theorem told_f : ∀ (n m : Nat) (top : List Int) (pr : List (List Int)) (b : Bool) (k : Nat), top.length = 32 ∧ BytesB top → Lv pr → pr.length ≤ 1000000000000 → 1 ≤ m → m ≤ n → n ≤ 4096 → 3 * n + 40 ≤ k → imprimaturref20_Told.f k m n top pr b = some (toldT m n top pr b) := by
  intro n
  induction n using Nat.strongRecOn with
  | _ n ih =>
    intro m top pr b k ht hv hpl h1 hmn h2 hk
    obtain ⟨k, rfl⟩ : ∃ j, k = j + 3 := ⟨k - 3, by omega⟩
    rw [imprimaturref20_Told.f]
    by_cases h : m = n
    · rw [if_pos (by omega), imprimaturref20_Told.j0]
      cases b
      · rw [if_neg (by decide)]
        by_cases h0 : pr.length = 0
        · rw [if_pos (by omega), imprimaturref20_Told.j1, if_pos rfl, toldT_odd h top pr (by omega)]
        · rw [if_neg (by omega), if_pos (by omega)]
          by_cases h3 : pr.length = 1
          · have hb : ((pr.length : Int) != 1) = false := by rw [h3]; rfl
            rw [hb, imprimaturref20_Told.j1, if_neg (by decide), lastI h0 (by omega), if_pos (by omega), if_pos (by omega), if_pos (by omega), (show rd_L1 pr ((pr.length - 1 : Nat) : Int) = pr.getD (pr.length - 1) [] by unfold rd_L1; rw [Int.toNat_natCast]), toldT_one h top pr h3, h3]
          · have hb : ((pr.length : Int) != 1) = true := bne_iff_ne.2 (by omega)
            rw [hb, imprimaturref20_Told.j1, if_pos rfl, toldT_odd h top pr h3]
      · rw [if_pos rfl, toldT_first h, len0]
    · rw [if_neg (by omega), imprimaturref20_Told.j0, if_neg (by decide)]
      by_cases h0 : pr.length = 0
      · rw [if_pos (by omega), imprimaturref20_Told.j1, if_pos rfl, toldT_none (by omega) (by omega) top pr h0]
      · have h3 := hf_pos n
        have h4 := hf_lt (n := n) (by omega)
        have hlast := hv _ (getD_mem' (l := pr) (i := pr.length - 1) (by omega))
        have htl : (pr.take (pr.length - 1)).length = pr.length - 1 := by rw [List.length_take]; omega
        rw [if_neg (by omega), if_neg (by omega), imprimaturref20_Told.j1, if_neg (by decide), lastI h0 (by omega), if_pos (by omega), if_pos (by omega), if_neg (by omega), refhalf_eq n (by omega) (by omega) k (by omega), Option.bind_some, if_pos (by omega), Option.bind_some, (show rd_L1 pr ((pr.length - 1 : Nat) : Int) = pr.getD (pr.length - 1) [] by unfold rd_L1; rw [Int.toNat_natCast]), Int.toNat_natCast]
        by_cases hm : m ≤ hf n
        · have u := toldT_ok (hf n) m top (pr.take (pr.length - 1)) b ht (hv.take _) h1 hm
          have e := u.2.2.1
          rw [htl] at e
          rw [if_pos (by omega), ih (hf n) h4 m top _ b k ht (hv.take _) (by omega) h1 hm (by omega) (by omega), Option.bind_some, text_f (by have := u.2.1.1; omega) (by omega), Option.bind_some, hash_eq (isBytes_cons (by decide) (isBytes_app u.2.1.2 hlast.2)) (by have := u.2.1.1; simp only [List.length_cons, List.length_append]; omega), Option.bind_some, if_pos (by omega), toldT_left (by omega) (by omega) hm top pr h0]
        · have u := toldT_ok (n - hf n) (m - hf n) top (pr.take (pr.length - 1)) false ht (hv.take _) (by omega) (by omega)
          have e := u.2.2.1
          rw [htl] at e
          rw [if_neg (by omega), w64 (x := (m : Int) - (hf n : Int)) (by omega) (by omega), w64 (x := (n : Int) - (hf n : Int)) (by omega) (by omega), show (m : Int) - (hf n : Int) = ((m - hf n : Nat) : Int) by omega, show (n : Int) - (hf n : Int) = ((n - hf n : Nat) : Int) by omega, ih (n - hf n) (by omega) (m - hf n) top _ false k ht (hv.take _) (by omega) (by omega) (by omega) (by omega) (by omega), Option.bind_some, text_f (by omega) (by have := u.1.1; omega), Option.bind_some, text_f (by omega) (by have := u.2.1.1; omega), Option.bind_some, hash_eq (isBytes_cons (by decide) (isBytes_app hlast.2 u.1.2)) (by have := u.1.1; simp only [List.length_cons, List.length_append]; omega), Option.bind_some, hash_eq (isBytes_cons (by decide) (isBytes_app hlast.2 u.2.1.2)) (by have := u.2.1.1; simp only [List.length_cons, List.length_append]; omega), Option.bind_some, if_pos (by omega), Option.bind_some, if_pos (by rw [List.length_append, List.length_singleton]; omega), toldT_right (by omega) (by omega) (by omega) top pr h0]
end Go.Proofs.YtcnpdapampclpaaDoor.PRo
