/- In, the reference's, by the values that stand for rows. -/
import Derived.Test.YtcnpdapampclpaaDoorTh
import Derived.Test.YtcnpdapampclpaaDoorP6r
namespace Go.Proofs.YtcnpdapampclpaaDoor.X
open Go.RowKit Go.Proofs.YtcnpdapampclpaaDoor.H Go.Proofs.YtcnpdapampclpaaDoorW.PrintWords Go.Proofs.YtcnpdapampclpaaDoorW.PrintLast Go.Proofs.YtcnpdapampclpaaDoorW.PrintMore Go.Proofs.YtcnpdapampclpaaDoor.PPl Go.Proofs.YtcnpdapampclpaaDoor.PPm Go.Proofs.YtcnpdapampclpaaDoor.PPn Go.Proofs.YtcnpdapampclpaaDoor.PTp Go.Proofs.YtcnpdapampclpaaDoor.PRa Go.Proofs.YtcnpdapampclpaaDoor.PTq Go.Proofs.YtcnpdapampclpaaDoor.PRb Go.Proofs.YtcnpdapampclpaaDoor.PRe Go.Proofs.YtcnpdapampclpaaDoor.PRs Go.Proofs.YtcnpdapampclpaaDoor.PRg
set_option linter.unusedVariables false
set_option linter.unusedSimpArgs false
section
variable {w : World}
theorem refin_v {v3 v4 v0 : Value} {h mark : List Int} {way : List (List Int)} {n p r : Int} (h0 : IsB w v0 h) (h3 : IsB w v3 mark) (h4 : IsN w v4 way) (hr : ∃ k, imprimaturref20_In.f k h n p mark way = some r) :
    Calls Tryd.prog 35 #[v0, .int .i64 n, .int .i64 p, v3, v4] w fun e w' => e = .returned (.int .i64 r) ∧ Below w.heap.size w w' := by
  obtain ⟨A0, c0, rfl, a1, a2⟩ := h0
  obtain ⟨A3, c3, rfl, b1, b2⟩ := h3
  obtain ⟨A4, c4, rfl, d1, d2⟩ := h4
  obtain ⟨k, hk⟩ := hr
  exact imprimaturref20_In.calls k A0 c0 h n p A3 c3 mark A4 c4 way r w a2 a1 b2 b1 d2 d1 hk
end
/-- Whatever a way is, the program and the document answer the same. -/
theorem in_same (h mark : List Int) (n p : Int) (way : List (List Int)) (hb : ∀ y ∈ h, 0 ≤ y ∧ y < 256) (mb : ∀ y ∈ mark, 0 ≤ y ∧ y < 256) (wb : ∀ x ∈ way, ∀ y ∈ x, 0 ≤ y ∧ y < 256) (hl : way.length ≤ 5864062014804) :
    ∃ r, (∃ k, trail_In.f k h n p mark way = some r) ∧ ∃ k, imprimaturref20_In.f k h n p mark way = some r := by
  by_cases hbad : inBad n p h mark way
  · exact ⟨1, ⟨1, in_bad hbad⟩, ⟨way.length + 1, refin_bad (by omega) (by omega) hbad⟩⟩
  · unfold inBad at hbad
    obtain ⟨n, rfl⟩ : ∃ j : Nat, n = (j : Int) := ⟨n.toNat, by omega⟩
    obtain ⟨p, rfl⟩ : ∃ j : Nat, p = (j : Int) := ⟨p.toNat, by omega⟩
    have hv : Lv way := fun x hx => ⟨Classical.byContradiction fun h => hbad (.inr (.inr (.inr (.inr (.inr (.inr ⟨x, hx, h⟩)))))), wb x hx⟩
    exact ⟨inL n p h mark way, ⟨n + 32, in_good (by omega) (by omega) (by omega) ⟨by omega, hb⟩ ⟨by omega, mb⟩ hv hl (Nat.le_refl _)⟩, ⟨n + 33 + way.length + 1, refin_good (by omega) (by omega) (by omega) ⟨by omega, hb⟩ ⟨by omega, mb⟩ hv hl (by omega) (by omega)⟩⟩
end Go.Proofs.YtcnpdapampclpaaDoor.X
