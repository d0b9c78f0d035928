/- Add, where it refuses. -/
import Derived.Test.YtcnpdapampclpaaDoorTi
namespace Go.Proofs.YtcnpdapampclpaaDoor.X
open Go.RowKit Go.Proofs.YtcnpdapampclpaaDoor.H Go.Proofs.YtcnpdapampclpaaDoorW.PrintWords Go.Proofs.YtcnpdapampclpaaDoorW.PrintLast Go.Proofs.YtcnpdapampclpaaDoorW.PrintMore Go.Proofs.YtcnpdapampclpaaDoor.PPl Go.Proofs.YtcnpdapampclpaaDoor.PPm Go.Proofs.YtcnpdapampclpaaDoor.PTp
set_option linter.unusedVariables false
set_option linter.unusedSimpArgs false
theorem mark_long {b : List Int} (hl : 8192 < b.length) : trail_Mark.f b = some ([], 2) := by
  unfold trail_Mark.f
  rw [if_pos (by omega)]
set_option maxRecDepth 100000 in
set_option maxHeartbeats 4000000 in
theorem add_long (p : Nat) (v : Value) (b : List Int) (w : World) (HG : Glb w) (VB : IsB w v b) (hl : 8192 < b.length) :
    Calls Tryd.prog 25 #[.pointer (some ⟨p, 0, none⟩), v] w fun e w' => e = .returned (.int .i64 2) ∧ Below w.heap.size w w' := by
  have HG := Aside0.mk HG
  have VB := Aside0.mk VB
  have Hl := Aside0.mk hl
  go_enter Tryd.func25, Tryd.ntmps25
  go_wp2_with (first
    | (go_at_call 26; with_reducible refine (mark_v HG.out VB.out (mark_long Hl.out)).mono ?_; rintro e w1 ⟨v1, rfl, hR, hB⟩))
  go_ret
  exact ⟨rfl, hB⟩
set_option maxRecDepth 100000 in
set_option maxHeartbeats 4000000 in
theorem add_full (base p : Nat) (n : Nat) (vs : List Value) (L : Nat → List (List Int)) (v : Value) (b : List Int) (w : World) (HG : Glb w) (T : TrailR base p n vs L w) (hn : 4096 ≤ n) (VB : IsB w v b) (hb : ∀ x ∈ b, 0 ≤ x ∧ x < 256) (hl : b.length ≤ 8192) :
    Calls Tryd.prog 25 #[.pointer (some ⟨p, 0, none⟩), v] w fun e w' => e = .returned (.int .i64 2) ∧ Below w.heap.size w w' := by
  have HG := Aside0.mk HG
  have VB := Aside0.mk VB
  have T := Aside0.mk T
  have Hm := Aside0.mk (mark_eq hb hl)
  have hnI : ((4096 : Int) ≤ (n : Int)) = True := eq_true (by omega)
  go_enter Tryd.func25, Tryd.ntmps25
  go_wp2_with (first
    | (go_at_call 26; with_reducible refine (mark_v HG.out VB.out Hm.out).mono ?_; rintro e w1 ⟨v1, rfl, hR, hB⟩; have hc := (T.out.below hB).cellN))
  go_ret
  exact ⟨rfl, hB⟩
end Go.Proofs.YtcnpdapampclpaaDoor.X
