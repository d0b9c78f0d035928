/- Rows of rows compared. -/
import Derived.Test.YtcnpdapampclpaaDoorTf
import Derived.Test.YtcnpdapampclpaaDoorP5
namespace Go.Proofs.YtcnpdapampclpaaDoor.X
open Go.RowKit Go.Proofs.YtcnpdapampclpaaDoor.H Go.Proofs.YtcnpdapampclpaaDoorW.PrintWords Go.Proofs.YtcnpdapampclpaaDoorW.PrintLast Go.Proofs.YtcnpdapampclpaaDoorW.PrintMore Go.Proofs.YtcnpdapampclpaaDoor.PPl Go.Proofs.YtcnpdapampclpaaDoor.PPm Go.Proofs.YtcnpdapampclpaaDoor.PPn Go.Proofs.YtcnpdapampclpaaDoor.PPo Go.Proofs.YtcnpdapampclpaaDoor.PTp Go.Proofs.YtcnpdapampclpaaDoor.PRa Go.Proofs.YtcnpdapampclpaaDoor.PRb Go.Proofs.YtcnpdapampclpaaDoor.PRc
theorem sameN_c {w : World} {va vb : Value} {a b : List (List Int)} (ha : IsN w va a) (hb : IsN w vb b) (xa : Lv a) (xb : ∀ x ∈ b, ∀ y ∈ x, 0 ≤ y ∧ y < 256) (hl : a.length ≤ 4096) :
    Calls Tryd.prog 29 #[va, vb] w fun e w' => e = .returned (.bool (decide (a = b))) ∧ Below w.heap.size w w' := by
  obtain ⟨A, c, rfl, h1, h2⟩ := ha
  obtain ⟨A', c', rfl, h3, h4⟩ := hb
  refine (imprimaturref06_Same.calls 5000 A c a A' c' b (decide (a = b)) w h2 h1 h4 h3 (same_dec a b (fun x hx => (xa x hx).2) xb (by omega) 5000 (by omega))).mono ?_
  rintro e w' ⟨rfl, hd⟩
  exact ⟨rfl, hd.below⟩
theorem sameN_yes {w : World} {va vb : Value} {a : List (List Int)} (ha : IsN w va a) (hb : IsN w vb a) (xa : Lv a) (hl : a.length ≤ 4096) :
    Calls Tryd.prog 29 #[va, vb] w fun e w' => e = .returned (.bool true) ∧ Below w.heap.size w w' := by
  have h := sameN_c ha hb xa (fun x hx => (xa x hx).2) hl
  rwa [decide_eq_true rfl] at h
end Go.Proofs.YtcnpdapampclpaaDoor.X
