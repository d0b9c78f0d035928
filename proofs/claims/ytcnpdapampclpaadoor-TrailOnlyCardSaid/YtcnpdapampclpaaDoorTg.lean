/- The reference's ways. -/
import Derived.Test.YtcnpdapampclpaaDoorTf
import Derived.Test.YtcnpdapampclpaaDoorP4c
namespace Go.Proofs.YtcnpdapampclpaaDoor.X
open Go.RowKit Go.Proofs.YtcnpdapampclpaaDoor.H Go.Proofs.YtcnpdapampclpaaDoorW.PrintWords Go.Proofs.YtcnpdapampclpaaDoorW.PrintLast Go.Proofs.YtcnpdapampclpaaDoorW.PrintMore Go.Proofs.YtcnpdapampclpaaDoor.PPl Go.Proofs.YtcnpdapampclpaaDoor.PPm Go.Proofs.YtcnpdapampclpaaDoor.PPn Go.Proofs.YtcnpdapampclpaaDoor.PTp Go.Proofs.YtcnpdapampclpaaDoor.PRa Go.Proofs.YtcnpdapampclpaaDoor.PRb Go.Proofs.YtcnpdapampclpaaDoor.PRc
set_option linter.unusedVariables false
set_option linter.unusedSimpArgs false
section
variable {w w1 : World} {v : Value} {A : Option Addr} {n c : Nat}
theorem refWay_v {l : List (List Int)} (h : IsN w v l) (hv : Lv l) (hl : l.length ≤ 4096) (q : Nat) (hq : q < l.length) :
    Calls Tryd.prog 30 #[v, .int .i64 q] w fun e w' => ∃ v', e = .returned v' ∧ IsN w' v' (walkL l q) ∧ Below w.heap.size w w' := by
  obtain ⟨A, c, rfl, hV⟩ := h.V
  refine (imprimaturref20_Way.calls 5000 _ A c l q (walkL l q) w hV (way_f l.length l q 5000 rfl hv hq (by omega) (by omega))).mono ?_
  rintro e w' ⟨v', rfl, hN, hB⟩
  exact ⟨v', rfl, IsN.of_N hN, hB⟩
end
end Go.Proofs.YtcnpdapampclpaaDoor.X
