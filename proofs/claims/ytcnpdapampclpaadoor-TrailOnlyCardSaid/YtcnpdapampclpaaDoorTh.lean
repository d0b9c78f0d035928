/- In, by the values that stand for rows. -/
import Derived.Test.YtcnpdapampclpaaDoorJ4
import Derived.Test.YtcnpdapampclpaaDoorP6
namespace Go.Proofs.YtcnpdapampclpaaDoor.X
open Go.RowKit Go.Proofs.YtcnpdapampclpaaDoor.H Go.Proofs.YtcnpdapampclpaaDoorW.PrintWords Go.Proofs.YtcnpdapampclpaaDoorW.PrintLast Go.Proofs.YtcnpdapampclpaaDoorW.PrintMore Go.Proofs.YtcnpdapampclpaaDoor.PPl Go.Proofs.YtcnpdapampclpaaDoor.PPm Go.Proofs.YtcnpdapampclpaaDoor.PPn Go.Proofs.YtcnpdapampclpaaDoor.PTp Go.Proofs.YtcnpdapampclpaaDoor.PRa Go.Proofs.YtcnpdapampclpaaDoor.PTq
set_option linter.unusedVariables false
set_option linter.unusedSimpArgs false
section
variable {w : World}
theorem in_v {v3 v4 v0 : Value} {h mark : List Int} {way : List (List Int)} {n p r : Int} (HG : Glb w) (h0 : IsB w v0 h) (h3 : IsB w v3 mark) (h4 : IsN w v4 way) (hr : ∃ k, trail_In.f k h n p mark way = some r) :
    Calls Tryd.prog 34 #[v0, .int .i64 n, .int .i64 p, v3, v4] w fun e w' => e = .returned (.int .i64 r) ∧ Below w.heap.size w w' := by
  obtain ⟨A0, c0, rfl, hV0⟩ := h0.V
  obtain ⟨A3, c3, rfl, hV3⟩ := h3.V
  obtain ⟨A4, c4, rfl, hV4⟩ := h4.V
  obtain ⟨k, hk⟩ := hr
  exact trail_In.calls k _ A0 c0 h n p _ A3 c3 mark _ A4 c4 way r w HG hV0 hV3 hV4 hk
end
end Go.Proofs.YtcnpdapampclpaaDoor.X
