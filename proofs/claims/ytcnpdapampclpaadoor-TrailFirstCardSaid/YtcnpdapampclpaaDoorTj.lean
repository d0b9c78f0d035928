/- Begins, by the values that stand for rows. -/
import Derived.Test.YtcnpdapampclpaaDoorJ4
import Derived.Test.YtcnpdapampclpaaDoorP7
namespace Go.Proofs.YtcnpdapampclpaaDoor.X
open Go.RowKit Go.Proofs.YtcnpdapampclpaaDoor.H Go.Proofs.YtcnpdapampclpaaDoorW.PrintWords Go.Proofs.YtcnpdapampclpaaDoorW.PrintLast Go.Proofs.YtcnpdapampclpaaDoorW.PrintMore Go.Proofs.YtcnpdapampclpaaDoor.PPl Go.Proofs.YtcnpdapampclpaaDoor.PPm Go.Proofs.YtcnpdapampclpaaDoor.PPn Go.Proofs.YtcnpdapampclpaaDoor.PTp Go.Proofs.YtcnpdapampclpaaDoor.PRa Go.Proofs.YtcnpdapampclpaaDoor.PTr
set_option linter.unusedVariables false
set_option linter.unusedSimpArgs false
section
variable {w : World}
theorem begins_v {v0 v2 v3 v5 : Value} {a top b : List Int} {pr : List (List Int)} {m n r : Int} (HG : Glb w) (h0 : IsB w v0 a) (h2 : IsB w v2 top) (h3 : IsB w v3 b) (h5 : IsN w v5 pr) (hr : ∃ k, trail_Begins.f k a m top b n pr = some r) :
    Calls Tryd.prog 41 #[v0, .int .i64 m, v2, v3, .int .i64 n, v5] w fun e w' => e = .returned (.int .i64 r) ∧ Below w.heap.size w w' := by
  obtain ⟨A0, c0, rfl, hV0⟩ := h0.V
  obtain ⟨A2, c2, rfl, hV2⟩ := h2.V
  obtain ⟨A3, c3, rfl, hV3⟩ := h3.V
  obtain ⟨A5, c5, rfl, hV5⟩ := h5.V
  obtain ⟨k, hk⟩ := hr
  exact trail_Begins.calls k _ A0 c0 a m _ A2 c2 top _ A3 c3 b n _ A5 c5 pr r w HG hV0 hV2 hV3 hV5 hk
end
end Go.Proofs.YtcnpdapampclpaaDoor.X
