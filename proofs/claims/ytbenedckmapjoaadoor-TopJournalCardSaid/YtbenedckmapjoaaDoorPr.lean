/- A point's bytes. -/
import Derived.Test.YtbenedckmapjoaaDoorPo
namespace Go.Proofs.YtbenedckmapjoaaDoor.F
open Go.RowKit Go.Proofs.YtbenedckmapjoaaDoor.H Go.Proofs.YtbenedckmapjoaaDoorW.PrintWords Go.Proofs.YtbenedckmapjoaaDoorW.PrintLast Go.Proofs.YtbenedckmapjoaaDoorW.PrintMore
set_option linter.unusedVariables false
set_option linter.unusedSimpArgs false
theorem PS.of0 (w : World) (p : List Int) : PS w 0 [p] [] [] (w.alloc (.cells (cells64 p) 52)) := by
  refine ⟨rfl, fun i hi => ?_, Mem.nil _ _, below_alloc (Below.refl _ _) _, by simp⟩
  match i, hi with
  | 0, _ => exact new1 _ _
  | i + 1, hi => exact absurd hi (by simp)
set_option maxRecDepth 100000 in
set_option maxHeartbeats 8000000 in
theorem Enc_w (px py pz pt zi m1 m2 l pW : List Int) (b : Bool) (v : Int) (h_pW : pW = px ++ py ++ pz ++ pt) (hx : px.length = 5) (hy : py.length = 5) (hz : pz.length = 5) (ht : pt.length = 5) (hzi : zi.length = 5) (h1 : m1.length = 5) (h2 : m2.length = 5) (hl : l.length = 32) (hv : l.getD 31 0 = v) (w : World)
    (kI : ∀ w : World, Calls Tryd.prog 62 #[.agg (cells64 pz)] w fun e w' => e = .returned (.agg (cells64 zi)) ∧ Below w.heap.size w w')
    (kM : ∀ w : World, Calls Tryd.prog 57 #[.agg (cells64 py), .agg (cells64 zi)] w fun e w' => e = .returned (.agg (cells64 m1)) ∧ Below w.heap.size w w')
    (kE : ∀ w : World, Calls Tryd.prog 63 #[.agg (cells64 m1)] w fun e w' => ∃ g, e = .returned (.slice (some ⟨g, 0, none⟩) 32 32) ∧ Byt g l w' ∧ w.heap.size ≤ g ∧ Below w.heap.size w w')
    (kN : ∀ w : World, Calls Tryd.prog 57 #[.agg (cells64 px), .agg (cells64 zi)] w fun e w' => e = .returned (.agg (cells64 m2)) ∧ Below w.heap.size w w')
    (kO : ∀ w : World, Calls Tryd.prog 64 #[.agg (cells64 m2)] w fun e w' => e = .returned (.bool b) ∧ Below w.heap.size w w') :
    Calls Tryd.prog 23 #[.agg (cells64 pW)] w fun e w' => ∃ g, e = .returned (.slice (some ⟨g, 0, none⟩) 32 32) ∧ Byt g (if b then l.set 31 (bits .or .u8 v 128) else l) w' ∧ w.heap.size ≤ g ∧ Below w.heap.size w w' := by
  have HL := Lib.hid (And.intro (size5 hx) (And.intro (size5 hy) (And.intro (size5 hz) (And.intro (size5 hzi) (And.intro hl hv)))))
  have HK := Aside0.mk (And.intro kI (And.intro kM (And.intro kE (And.intro kN kO))))
  have hr : ∀ w1 : World, PtAt (w.heap.size + 0) pW w1 → w1.rangeAt w.heap.size 0 (cells64 px).toList ∧ w1.rangeAt w.heap.size 5 (cells64 py).toList ∧ w1.rangeAt w.heap.size 10 (cells64 pz).toList ∧ w1.rangeAt w.heap.size 15 (cells64 pt).toList := fun w1 hp => PtAt.row4 (by rw [← h_pW]; exact hp) hx hy hz ht
  have HR := Aside0.mk hr
  clear hr h_pW hx hy hz ht hzi h1 h2 hl hv kI kM kE kN kO
  go_enter Tryd.func23, Tryd.ntmps23
  go_upto_region 1 with (fail)
  have P0 : Aside0 (PS w 0 [pW] [] [] (w.alloc (.cells (cells64 pW) 52))) := ⟨PS.of0 w _⟩
  generalize (w.alloc (.cells (cells64 pW) 52)) = w0 at P0 ⊢
  go_upto_region 2 with (first
    | (refine wpList_load_at rfl 50 (.tmp 5) rfl w.heap.size 10 (by rfl) (cells64 pz) _ (HR.out _ (P0.out.p 0 (by simp))).2.2.1 Tryd.underlying50 (by rfl) (by rw [HL.out.2.2.1]; exact info5) ?_)
    | (go_at_call 62; refine (HK.out.1 _).mono ?_; rintro e w1 ⟨rfl, hbc⟩; have P1 := Aside0.mk (P0.out.below hbc); clear hbc)
    | (refine wpList_store_row rfl 50 (.tmp 3) (.tmp 7) rfl w1.heap.size (cells64 zi) (by rfl) (by rfl) 50 (cells64 [0, 0, 0, 0, 0]) (blk_new w1 _) (by rw [HL.out.2.2.2.1]; exact info5) (by rw [HL.out.2.2.2.1]; rfl) (ones64 _) ?_; rw [World.setRow_alloc_new]))
  have P2 : Aside0 (PS w 0 [pW] [w1.heap.size] [zi] (w1.alloc (.cells (cells64 zi) 50))) := ⟨P1.out.new zi⟩
  clear P0 P1
  generalize (w1.alloc (.cells (cells64 zi) 50)) = w2 at P2 ⊢
  generalize w1.heap.size = g3 at P2 ⊢
  go_upto_region 3 with (first
    | (refine wpList_load_at rfl 50 (.tmp 8) rfl w.heap.size 5 (by rfl) (cells64 py) _ (HR.out _ (P2.out.p 0 (by simp))).2.1 Tryd.underlying50 (by rfl) (by rw [HL.out.2.1]; exact info5) ?_)
    | (refine wpList_load_row rfl 50 (.tmp 3) rfl g3 (by rfl) 50 (cells64 zi) (0, 0) _ (P2.out.m.el 0 (by simp)) Tryd.underlying50 rfl (by rw [HL.out.2.2.2.1]; exact info5) ?_)
    | (go_at_call 57; refine (HK.out.2.1 _).mono ?_; rintro e w3 ⟨rfl, hbc⟩; have P3 := Aside0.mk (P2.out.below hbc); clear hbc)
    | (go_at_call 63; refine (HK.out.2.2.1 _).mono ?_; rintro e w4 ⟨g4, rfl, hY, hg, hbc⟩; have P4 := Aside0.mk (And.intro (P3.out.below hbc) (And.intro hY (Nat.le_trans P3.out.b.size hg))); clear hbc hY hg))
  cases b with
  | false =>
    go_wp2_with (first
      | (refine wpList_load_at rfl 50 (.tmp 13) rfl w.heap.size 0 (by rfl) (cells64 px) _ (HR.out _ (P4.out.1.p 0 (by simp))).1 Tryd.underlying50 (by rfl) (by rw [HL.out.1]; exact info5) ?_)
      | (refine wpList_load_row rfl 50 (.tmp 3) rfl g3 (by rfl) 50 (cells64 zi) (0, 0) _ (P4.out.1.m.el 0 (by simp)) Tryd.underlying50 rfl (by rw [HL.out.2.2.2.1]; exact info5) ?_)
      | (go_at_call 57; refine (HK.out.2.2.2.1 _).mono ?_; rintro e w5 ⟨rfl, hbc⟩; have P5 := Aside0.mk (And.intro (below_step P4.out.1.b hbc) (And.intro (P4.out.2.1.below hbc) P4.out.2.2)); clear hbc)
      | (go_at_call 64; refine (HK.out.2.2.2.2 _).mono ?_; rintro e w6 ⟨rfl, hbc⟩; have P6 := Aside0.mk (And.intro (below_step P5.out.1 hbc) (And.intro (P5.out.2.1.below hbc) P5.out.2.2)); clear hbc; have c31 := P6.out.2.1.cell (i := 31) (by rw [HL.out.2.2.2.2.1]; decide); have f31 := P6.out.2.1.frozen 31; rw [HL.out.2.2.2.2.2] at c31))
    go_ret
    exact ⟨g4, rfl, P6.out.2.1, P6.out.2.2, P6.out.1⟩
  | true =>
    go_wp2_with (first
      | (refine wpList_load_at rfl 50 (.tmp 13) rfl w.heap.size 0 (by rfl) (cells64 px) _ (HR.out _ (P4.out.1.p 0 (by simp))).1 Tryd.underlying50 (by rfl) (by rw [HL.out.1]; exact info5) ?_)
      | (refine wpList_load_row rfl 50 (.tmp 3) rfl g3 (by rfl) 50 (cells64 zi) (0, 0) _ (P4.out.1.m.el 0 (by simp)) Tryd.underlying50 rfl (by rw [HL.out.2.2.2.1]; exact info5) ?_)
      | (go_at_call 57; refine (HK.out.2.2.2.1 _).mono ?_; rintro e w5 ⟨rfl, hbc⟩; have P5 := Aside0.mk (And.intro (below_step P4.out.1.b hbc) (And.intro (P4.out.2.1.below hbc) P4.out.2.2)); clear hbc)
      | (go_at_call 64; refine (HK.out.2.2.2.2 _).mono ?_; rintro e w6 ⟨rfl, hbc⟩; have P6 := Aside0.mk (And.intro (below_step P5.out.1 hbc) (And.intro (P5.out.2.1.below hbc) P5.out.2.2)); clear hbc; have c31 := P6.out.2.1.cell (i := 31) (by rw [HL.out.2.2.2.2.1]; decide); have f31 := P6.out.2.1.frozen 31; rw [HL.out.2.2.2.2.2] at c31))
    go_ret
    exact ⟨g4, rfl, P6.out.2.1.put 31 _, P6.out.2.2, below_set P6.out.1 P6.out.2.2⟩
end Go.Proofs.YtbenedckmapjoaaDoor.F
