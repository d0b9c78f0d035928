/- Begins, the reference's, by the values that stand for rows. -/
import Derived.Test.YtcnpdapampclpaaDoorTj
import Derived.Test.YtcnpdapampclpaaDoorP7r
namespace Go.Proofs.YtcnpdapampclpaaDoor.X
open Go.RowKit Go.Proofs.YtcnpdapampclpaaDoor.H Go.Proofs.YtcnpdapampclpaaDoorW.PrintWords Go.Proofs.YtcnpdapampclpaaDoorW.PrintLast Go.Proofs.YtcnpdapampclpaaDoorW.PrintMore Go.Proofs.YtcnpdapampclpaaDoor.PPl Go.Proofs.YtcnpdapampclpaaDoor.PPm Go.Proofs.YtcnpdapampclpaaDoor.PPn Go.Proofs.YtcnpdapampclpaaDoor.PTp Go.Proofs.YtcnpdapampclpaaDoor.PRa Go.Proofs.YtcnpdapampclpaaDoor.PTr Go.Proofs.YtcnpdapampclpaaDoor.PRb Go.Proofs.YtcnpdapampclpaaDoor.PRo Go.Proofs.YtcnpdapampclpaaDoor.PRs Go.Proofs.YtcnpdapampclpaaDoor.PRh
set_option linter.unusedVariables false
set_option linter.unusedSimpArgs false
section
variable {w : World}
theorem refbegins_v {v0 v2 v3 v5 : Value} {a top b : List Int} {pr : List (List Int)} {m n r : Int} (h0 : IsB w v0 a) (h2 : IsB w v2 top) (h3 : IsB w v3 b) (h5 : IsN w v5 pr) (hr : ∃ k, imprimaturref20_Begins.f k a m top b n pr = some r) :
    Calls Tryd.prog 42 #[v0, .int .i64 m, v2, v3, .int .i64 n, v5] w fun e w' => e = .returned (.int .i64 r) ∧ Below w.heap.size w w' := by
  obtain ⟨A0, c0, rfl, a1, a2⟩ := h0
  obtain ⟨A2, c2, rfl, b1, b2⟩ := h2
  obtain ⟨A3, c3, rfl, d1, d2⟩ := h3
  obtain ⟨A5, c5, rfl, e1, e2⟩ := h5
  obtain ⟨k, hk⟩ := hr
  exact imprimaturref20_Begins.calls k A0 c0 a m A2 c2 top A3 c3 b n A5 c5 pr r w a2 a1 b2 b1 d2 d1 e2 e1 hk
end
theorem begins_same (a top b : List Int) (m n : Int) (pr : List (List Int)) (ab : ∀ y ∈ a, 0 ≤ y ∧ y < 256) (tb : ∀ y ∈ top, 0 ≤ y ∧ y < 256) (bb : ∀ y ∈ b, 0 ≤ y ∧ y < 256) (wb : ∀ x ∈ pr, ∀ y ∈ x, 0 ≤ y ∧ y < 256) (hl : pr.length ≤ 100000) :
    ∃ r, (∃ k, trail_Begins.f k a m top b n pr = some r) ∧ ∃ k, imprimaturref20_Begins.f k a m top b n pr = some r := by
  by_cases hbad : bgBad a m top b n pr
  · exact ⟨1, ⟨1, begins_bad hbad⟩, ⟨pr.length + 1, refbegins_bad (by omega) (by omega) hbad⟩⟩
  · unfold bgBad at hbad
    obtain ⟨n, rfl⟩ : ∃ j : Nat, n = (j : Int) := ⟨n.toNat, by omega⟩
    obtain ⟨m, rfl⟩ : ∃ j : Nat, m = (j : Int) := ⟨m.toNat, by omega⟩
    have hv : Lv pr := fun x hx => ⟨Classical.byContradiction fun h => hbad (.inr (.inr (.inr (.inr (.inr (.inr (.inr ⟨x, hx, h⟩))))))), wb x hx⟩
    exact ⟨bgL a m top b n pr, ⟨2 * n + 10, begins_good (by omega) (by omega) (by omega) ⟨by omega, ab⟩ ⟨by omega, tb⟩ ⟨by omega, bb⟩ hv (by omega) (Nat.le_refl _)⟩, ⟨3 * n + 41 + pr.length + 1, refbegins_good (by omega) (by omega) (by omega) ⟨by omega, ab⟩ ⟨by omega, tb⟩ ⟨by omega, bb⟩ hv (by omega) (by omega) (by omega)⟩⟩
end Go.Proofs.YtcnpdapampclpaaDoor.X
