/- The law TrailNil: a trail that is not there answers so. -/
import Derived.Test.YtcnpdapampclpaaDoorT8
namespace Go.Proofs.YtcnpdapampclpaaDoor.X
open Go.RowKit Go.Proofs.YtcnpdapampclpaaDoor.H Go.Proofs.YtcnpdapampclpaaDoorW.PrintWords
set_option linter.unusedVariables false
set_option maxRecDepth 100000 in
set_option maxHeartbeats 4000000 in
theorem TrailNil_walk (A0 : Option Addr) (n0 c0 : Nat) (z0 : List Int) (a1 a2 : Int) (w : World) (HG : Glb w) {h0 y0 h1 h2 : Prop} (_h0 : h0) (_y0 : y0) (_h1 : h1) (_h2 : h2) :
    Calls Tryd.prog 7 #[.slice A0 n0 c0, .int .i64 a1, .int .i64 a2] w fun e w' => e = .returned (.bool true) ∧ Below w.heap.size w w' := by
  have H0 := Aside0.mk HG
  clear HG
  go_enter Tryd.func7, Tryd.ntmps7
  go_wp2_with (first
    | (go_at_call 18; with_reducible refine (top_nil _ _).mono ?_; rintro e w1 ⟨rfl, hB1⟩)
    | (go_at_call 19; with_reducible refine (head_nil _ _).mono ?_; rintro e w2 ⟨rfl, hB2⟩)
    | (go_at_call 27; with_reducible refine (way_nil _ _ _).mono ?_; rintro e w3 ⟨rfl, hB3⟩)
    | (go_at_call 28; with_reducible refine (bridge_nil _ _ _).mono ?_; rintro e w4 ⟨rfl, hB4⟩)
    | (go_at_call 25; with_reducible refine (add_nil _ _).mono ?_; rintro e w5 ⟨rfl, hB5⟩)
    | (go_at_call 16; with_reducible refine (size_nil _).mono ?_; rintro e w6 ⟨rfl, hB6⟩)
    | (go_at_call 32; with_reducible refine (copy_nil _).mono ?_; rintro e w7 ⟨rfl, hB7⟩)
    | (go_at_call 14; have hB := below_step (below_step (below_step (below_step (below_step (below_step hB1 hB2) hB3) hB4) hB5) hB6) hB7; with_reducible refine (known_c _ (H0.out.of hB)).mono ?_; rintro e w8 ⟨rfl, hB8⟩))
  go_ret
  exact ⟨rfl, below_step hB hB8⟩
end Go.Proofs.YtcnpdapampclpaaDoor.X
