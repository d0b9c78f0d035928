/- Copy. -/
import Derived.Test.YtcnpdapampclpaaDoorTb
import Derived.Deep.MidRow
namespace Go.Proofs.YtcnpdapampclpaaDoor.X
open Go.RowKit Go.Proofs.YtcnpdapampclpaaDoor.H Go.Proofs.YtcnpdapampclpaaDoorW.PrintWords Go.Proofs.YtcnpdapampclpaaDoorW.PrintLast Go.Proofs.YtcnpdapampclpaaDoorW.PrintMore Go.Proofs.YtcnpdapampclpaaDoor.PPl Go.Proofs.YtcnpdapampclpaaDoor.PTp
set_option linter.unusedVariables false
set_option linter.unusedSimpArgs false
def cpR.T7 : Bool × List (List Nat × List Nat) := (true, [([], []), ([], []), ([], []), ([2], [2]), ([0], [0]), ([4], [4]), ([5, 1, 0, 1, 2, 3], [1, 5]), ([6, 3, 3, 0, 1, 2, 3], [3, 6])])
def cpR.B7 : List Nat := [0, 0, 0, 4, 1, 17, 63, 127]
theorem cpR.tab7 : rtab .any (opsOf Tryd.f32 7) = cpR.T7 := by kernel_rfl
theorem cpR.bits7 : waitsOk cpR.T7.2 cpR.B7 = true := by kernel_rfl
/-- A trail whose marks lie apart from some blocks. -/
structure TrailX (X : Nat → Prop) (base p : Nat) (n : Int) (vs : List Value) (L : Nat → List (List Int)) (w : World) : Prop where
  blk : w.heap[p]? = some (.cells (Value.int .i64 n :: vs).toArray 64 (0, 0))
  hb : base ≤ p
  lv : vs.length = 13
  row : ∀ k, k < 13 → Kd.N dB 23 w base (fun b => okL p vs k b ∧ X b) (vs.getD k nilV) (L k)
section
variable {X S : Nat → Prop} {base p : Nat} {n : Int} {vs : List Value} {L : Nat → List (List Int)} {w w1 : World}
theorem TrailX.toR (h : TrailX X base p n vs L w) : TrailR base p n vs L w := ⟨h.blk, h.hb, h.lv, fun k hk => Kd.N_mono (h.row k hk) (fun b hb => hb.1)⟩
theorem TrailX.below (h : TrailX X base p n vs L w) (hb : Below w.heap.size w w1) : TrailX X base p n vs L w1 :=
  ⟨blk_below h.blk hb, h.hb, h.lv, fun k hk => Kd.N_below (h.row k hk) hb⟩
theorem TrailX.congrL {L' : Nat → List (List Int)} (h : TrailX X base p n vs L w) (hL : ∀ k, k < 13 → L k = L' k) : TrailX X base p n vs L' w :=
  ⟨h.blk, h.hb, h.lv, fun k hk => by rw [← hL k hk]; exact h.row k hk⟩
theorem TrailX.fr (h : TrailX X base p n vs L w) (hf : Fr S w w1) (hp : ¬ S p) (hS : ∀ k, k < 13 → ∀ b, okL p vs k b → X b → b < w.heap.size → ¬ S b) : TrailX X base p n vs L w1 :=
  ⟨hf.blk h.blk hp, h.hb, h.lv, fun k hk => Kd.N_step (h.row k hk) (fun b hb hlt => hf.block b hlt (hS k hk b hb.1 hb.2 hlt))⟩
theorem TrailX.put {k : Nat} (h : TrailX X base p n vs L w) (hk : k < 13) {v1 : Value} {xs : List (List Int)} (hB : Below w.heap.size w w1)
    (hN : Kd.N dB 23 w1 w.heap.size (fun b => X b ∧ b ≠ p ∧ ∀ j, j ≠ k → some b ≠ (vs.getD j nilV).ownBlock) v1 xs) :
    TrailX X base p n (vs.set k v1) (fun j => if j = k then xs else L j) (w1.setCell ⟨p, 1 + k, none⟩ v1) := by
  have hlv := h.lv
  have hlt := h.toR.lt
  have hb := h.hb
  refine ⟨blk_put (blk_below h.blk hB) (1 + k) v1 ?_, h.hb, by rw [List.length_set]; exact hlv, fun j hj => ?_⟩
  · rw [show 1 + k = k + 1 by omega]; simp
  · by_cases hjk : j = k
    · subst hjk
      rw [if_pos rfl, getD_set_self _ _ _ _ (by omega)]
      refine Kd.N_far (Kd.N_mono (Kd.N_lower hN (by omega)) (fun b hb => ⟨⟨hb.2.1, fun i hi => ?_⟩, hb.1⟩)) (fun b hb => hb.1.1) _
      rw [getD_set_ne _ _ _ _ _ hi]
      exact hb.2.2 i hi
    · rw [if_neg hjk, getD_set_ne _ _ _ _ _ hjk]
      have h1 := Kd.N_below (Kd.N_bound (h.row j hj)) hB
      refine Kd.N_far (Kd.N_mono h1 (fun b hb => ⟨⟨hb.1.1.1, fun i hi => ?_⟩, hb.1.2⟩)) (fun b hb => hb.1.1) _
      by_cases hik : i = k
      · subst hik
        rw [getD_set_self _ _ _ _ (by omega)]
        intro e
        have := Kd.N_base hN b e.symm
        have := hb.2
        omega
      · rw [getD_set_ne _ _ _ _ _ hik]; exact hb.1.1.2 i hi
end
/-- An element of an array of slices, by value. -/
theorem run_index_sl {P : Program} (W : World) (t e q n : Nat) (cs : Array Value) (k : Nat) (v : Value) (h : P.underlying t = some (.array n e)) (he : P.underlying e = some (.slice q)) (hs : (P.info? e).map (·.size) = some 1) (hk : k < n) (hv : cs[k]? = some v) :
    (Instr.index t (.agg cs) (.int .i64 k)).run P W = .ok v W := by
  have hagg : (isAgg e).run P W = .ok false W := by
    unfold isAgg
    rw [Sem.run_bind, run_underlying he W]
    simp
  cases hq : P.info? e with
  | none => simp [hq] at hs
  | some i =>
    have hs' : i.size = 1 := by simpa [hq] using hs
    have hz : (sizeOf e).run P W = .ok 1 W := by simp [sizeOf, typeInfo, hq, hs']
    have h0 : (0 : Int) ≤ (k : Int) := by omega
    have h1 : (k : Int) < (n : Int) := by omega
    simp [Instr.index, run_underlying h, asIntOf, h0, h1, part, hagg, hz, hv, go_sem]
    exact fun hn => absurd hn (by omega)
set_option maxRecDepth 100000 in
set_option maxHeartbeats 8000000 in
theorem copy_c (base p : Nat) (n : Int) (vs : List Value) (L : Nat → List (List Int)) (w : World) (T : TrailR base p n vs L w) (hL : ∀ k, (L k).length ≤ 4096) :
    Calls Tryd.prog 32 #[.pointer (some ⟨p, 0, none⟩)] w fun e w' => e = .returned (.pointer (some ⟨w.heap.size, 0, none⟩)) ∧ (∃ vs', TrailX (fun b => ¬ ownT p vs b) w.heap.size w.heap.size n vs' L w') ∧ Below w.heap.size w w' := by
  have hc := T.cellN
  have hlv := T.lv
  have H0 := Aside0.mk (And.intro T (And.intro hL hlv))
  clear T hL
  go_enter Tryd.func32, Tryd.ntmps32
  go_upto_region 4 with (fail)
  have hal := below_alloc (Below.refl w.heap.size w) (.cells #[.int .i64 n, .slice none 0 0, .slice none 0 0, .slice none 0 0, .slice none 0 0, .slice none 0 0, .slice none 0 0, .slice none 0 0, .slice none 0 0, .slice none 0 0, .slice none 0 0, .slice none 0 0, .slice none 0 0, .slice none 0 0] 64)
  have hTX : TrailX (fun b => ¬ ownT p vs b) w.heap.size w.heap.size n vs0 (fun j => if j < 0 then L j else []) (w.alloc (.cells #[.int .i64 n, .slice none 0 0, .slice none 0 0, .slice none 0 0, .slice none 0 0, .slice none 0 0, .slice none 0 0, .slice none 0 0, .slice none 0 0, .slice none 0 0, .slice none 0 0, .slice none 0 0, .slice none 0 0, .slice none 0 0] 64)) :=
    ⟨blk_new w _, Nat.le_refl _, rfl, fun k hk => by rw [show vs0.getD k nilV = nilV by unfold vs0; rw [List.getD_eq_getElem?_getD, List.getElem?_replicate, if_pos hk]; rfl, if_neg (by omega)]; exact Kd.N_nil _ _ _ _ _⟩
  have hr : ∀ W, Below w.heap.size w W → W.rangeAt p 1 vs := fun W hW j v hv => by
    have hj := (List.getElem?_eq_some_iff.1 hv).1
    have := (H0.out.1.below hW).cell (k := j) (by have := H0.out.2.2; omega)
    rw [List.getD_eq_getElem?_getD, hv] at this
    exact this
  have P0 := Aside0.mk (And.intro hTX (And.intro hal hr))
  clear hTX hal hr
  generalize w.alloc (.cells #[.int .i64 n, .slice none 0 0, .slice none 0 0, .slice none 0 0, .slice none 0 0, .slice none 0 0, .slice none 0 0, .slice none 0 0, .slice none 0 0, .slice none 0 0, .slice none 0 0, .slice none 0 0, .slice none 0 0, .slice none 0 0] 64) = w1 at P0 ⊢
  have hsz : (Tryd.prog.info? 62).map (·.size) = some vs.length := by rw [hlv]; kernel_rfl
  have Hsz := Aside0.mk hsz
  clear hsz hc
  obtain ⟨vk, hvk⟩ : ∃ vk : Nat → Value, ∀ k, vk k = vs.getD k nilV := ⟨_, fun _ => rfl⟩
  go_wp2_with (first
    | (refine wpList_load_mid rfl 62 (.tmp 16) rfl p 1 (by rfl) vs _ (P0.out.2.2 _ P0.out.2.1) Tryd.underlying62 rfl Hsz.out ?_))
  have hkx := Aside0.mk hvk
  clear hvk hlv
  go_loopg [4, 5, 18] 13 (fun m v4 v5 v18 wr => ∃ (k : Nat) (vs' : List Value) (u4 u5 : Value), m + k = 13 ∧ v4 = u4 ∧ v5 = u5 ∧ v18 = .int .i64 k ∧ Aside0 (TrailX (fun b => ¬ ownT p vs b) w.heap.size w.heap.size n vs' (fun j => if j < k then L j else []) wr ∧ Below w.heap.size w wr))
  case atStart => exact ⟨0, vs0, _, _, by omega, rfl, rfl, rfl, ⟨P0.out.1, P0.out.2.1⟩⟩
  case round =>
    obtain ⟨k, vs', u4, u5, hmk, rfl, rfl, rfl, P⟩ := hrel
    clear P0
    by_cases hk : k < 13
    · have hkI : ((k : Int) < 13) = True := eq_true (by omega)
      have pk : (0 ≤ (k : Int)) = True := eq_true (by omega)
      have hix : ∀ W : World, (Instr.index 62 (.agg vs.toArray) (.int .i64 k)).run Tryd.prog W = .ok (vk k) W := fun W =>
        run_index_sl W _ 22 23 13 vs.toArray k (vk k) Tryd.underlying62 Tryd.underlying22 (by kernel_rfl) hk (by
          rw [hkx.out k, List.getD_eq_getElem?_getD]
          simp [List.getElem?_eq_getElem (show k < vs.length by have := H0.out.2.2; omega)])
      go_upto_region 7 with (fail)
      have T2 := P.out.1.below (below_drew1 (Below.refl wr.heap.size wr))
      have B2 := below_drew1 P.out.2
      have hcell := T2.toR.cell hk
      obtain ⟨old, hold⟩ : ∃ old, old = vs'.getD k nilV := ⟨_, rfl⟩
      rw [← hold] at hcell
      refine start_ (n := 8) (S := fun w' => w'.cell? ⟨w.heap.size, 1 + k, none⟩ = some old) (ds := [7]) (fl 8 0) (by kernel_rfl) rfl rfl hcell (fun hHeld => ?_)
      refine with_tabW cpR.tab7 cpR.bits7 (fun HT_ HW_ => ?_)
      clear hcell P hix
      generalize wr.drew = w2 at T2 B2 hHeld ⊢
      have hNk : Kd.N dB 23 w2 base (fun b => okL p vs k b ∧ b < w.heap.size) (vk k) (L k) := by
        rw [hkx.out k]
        exact Kd.N_below (Kd.N_bound (H0.out.1.row k hk)) B2
      have hcl := clone2_c (vk k) (L k) w2 base _ (fun b => ¬ ownT p vs b ∧ (b < w.heap.size ∨ w2.heap.size ≤ b)) hNk (Nat.le_trans (H0.out.2.1 k) (by decide))
        (fun b hb => ⟨fun ho => by have := H0.out.1.ownT_lt ho; have := B2.size; omega, .inr hb⟩)
        (fun b hb hne _ => ⟨fun ho => by
          rcases ho with rfl | ⟨j, hj⟩
          · exact hb.1.1 rfl
          · by_cases hjk : j = k
            · subst hjk; exact hne (by rw [hkx.out j]; exact hj.symm)
            · exact hb.1.2 j hjk hj.symm, .inl hb.2⟩)
      have Hcl := Aside0.mk hcl
      have H2 := Aside0.mk (And.intro T2 B2)
      clear hcl hNk T2 B2
      refine pureA (i := 0) (N := some 22) (fl 8 1) (any_of HT_.out (by kernel_rfl)) ?_
      refine pureA (i := 1) (N := some 23) (fl 8 3) (any_of HT_.out (by kernel_rfl)) ?_
      refine pureA (i := 2) (N := some 24) (fl 8 7) (any_of HT_.out (by kernel_rfl)) ?_
      refine pureA (i := 4) (N := some 26) (fl 8 23) (any_of HT_.out (by kernel_rfl)) ?_
      refine pureA (i := 5) (N := some 27) (fl 8 55) (any_of HT_.out (by kernel_rfl)) ?_
      refine one_ (i := 3) (N := some 25) (fl 8 63) rfl rfl (one_of HT_.out (by kernel_rfl)) (by decide) (fun K hK => ?_)
      refine goes_ Tryd.func57 (by kernel_rfl) rfl #[vk k] (by rfl) rfl rfl eqA ?_
      refine Hcl.out.mono ?_
      rintro e w3 ⟨v3, rfl, hN3, hB3⟩
      refine ⟨_, rfl, ?_⟩
      refine hK.out _ _ ((hB3.cell (World.block_lt_of_cell? _ _ hHeld)).trans hHeld) (fun hHeld => ?_)
      clear hK K
      refine normA (some 25) ?_
      obtain ⟨A3, c3, rfl⟩ := Kd.N_slice hN3
      have hfz := (H2.out.1.below hB3).toR.frozen (1 + k)
      have T4 := TrailX.put H2.out.1 hk hB3 (Kd.N_mono hN3 (fun b hb => ⟨hb.1, by have := H2.out.2.size; have := H2.out.1.toR.lt; rcases hb.2 with h | h <;> omega, fun j _ he => by
        have h1 := H2.out.1.toR.own_base he.symm
        have h2 := H2.out.1.toR.own_lt he.symm
        rcases hb.2 with h | h <;> omega⟩))
      have H4 := Aside0.mk (And.intro T4 (below_step H2.out.2 hB3))
      clear T4 hN3 hB3
      refine pureA (i := 6) (N := some 28) (fl 8 127) (any_of HT_.out (by kernel_rfl)) ?_
      refine last_ (i := 7) (N := none) (fl 8 255) rfl rfl (one_of HT_.out (by kernel_rfl)) (by decide) (fun K hK => ?_)
      refine skip_ (w1 := w3.setCell ⟨w.heap.size, 1 + k, none⟩ (.slice A3 (L k).length c3)) (by rfl) rfl (by go_simp) ?_
      refine hK.out _ _ ?_
      clear hK K
      refine done_ (done_of HT_.out (by kernel_rfl)) ?_
      clear hHeld hfz HT_ HW_
      have H5 := Aside0.mk (And.intro (H4.out.1.congrL (L' := fun j => if j < k + 1 then L j else []) (fun j _ => by
        by_cases hj : j = k
        · subst hj; rw [if_pos rfl, if_pos (by omega)]
        · rw [if_neg hj]
          by_cases h1 : j < k
          · rw [if_pos h1, if_pos (by omega)]
          · rw [if_neg h1, if_neg (by omega)])) (show Below w.heap.size w (w3.setCell ⟨w.heap.size, 1 + k, none⟩ (.slice A3 (L k).length c3)) from below_set H4.out.2 (Nat.le_refl _)))
      clear H4 H2 Hcl
      generalize w3.setCell ⟨w.heap.size, 1 + k, none⟩ (.slice A3 (L k).length c3) = w4 at H5 ⊢
      go_wp2
      go_roundg (gk - 1)
      case measure => omega
      case rel => exact ⟨k + 1, _, _, _, by omega, rfl, rfl, by simp, ⟨H5.out.1, H5.out.2⟩⟩
    · have hkI : ((k : Int) < 13) = False := eq_false (by omega)
      obtain rfl : k = 13 := by omega
      go_wp2
      go_ret
      exact ⟨rfl, ⟨vs', P.out.1.congrL (fun j hj => if_pos hj)⟩, P.out.2⟩
end Go.Proofs.YtcnpdapampclpaaDoor.X
