/- Several texts as one. -/
import Derived.Test.YtbenedckmapjoaaDoorY2
import Derived.Test.YtbenedckmapjoaaDoorPu
import Derived.Laws.CopyRow
namespace Go.Proofs.YtbenedckmapjoaaDoor.D
open Go.RowKit Go.Proofs.YtbenedckmapjoaaDoor.H Go.Proofs.YtbenedckmapjoaaDoor.F Go.Proofs.YtbenedckmapjoaaDoorW.PrintWords Go.Proofs.YtbenedckmapjoaaDoorW.PrintLast Go.Proofs.YtbenedckmapjoaaDoorW.PrintMore
set_option linter.unusedVariables false
set_option linter.unusedSimpArgs false
theorem fill1 (n : Nat) (a z : Array Value) (ha : a.size = n) (hz : z.size = n) : Instr.fill (fun i => some (i * n, n)) z [(0, .agg a)] = some a := by
  have e1 : a.zipIdx.foldl (fun cs (x : Value × Nat) => cs.setIfInBounds (0 * n + x.2) x.1) z = a := by
    have := fold_row (0 * n) a [] z.toList [] (by simp; omega) (by simp)
    simp at this
    simpa using this
  have c1 : ¬ ((decide ((Value.agg a).cells.size ≠ n) || decide (0 * n + (Value.agg a).cells.size > z.size)) = true) := by simp [Value.cells, ha, hz]
  rw [Instr.fill]
  simp only []
  rw [if_neg c1, Instr.fill, show (Value.agg a).cells = a from rfl, e1]
theorem fillH (x : Int) (b z : Array Value) (hb : b.size = 64) (hz : z.size = 65) : Instr.fill (fun i => (#[(0, 1), (1, 64)] : Array (Nat × Nat))[i]?) z [(0, .int .i64 x), (1, .agg b)] = some (#[.int .i64 x] ++ b) := by
  have e1 : (#[Value.int .i64 x] : Array Value).zipIdx.foldl (fun cs (x : Value × Nat) => cs.setIfInBounds (0 + x.2) x.1) z = (Value.int .i64 x :: z.toList.drop 1).toArray := by
    have := fold_row 0 #[Value.int .i64 x] [] (z.toList.take 1) (z.toList.drop 1) (by simp; omega) (by simp)
    rw [List.take_append_drop] at this
    simpa using this
  have e2 : b.zipIdx.foldl (fun cs (x : Value × Nat) => cs.setIfInBounds (1 + x.2) x.1) (Value.int .i64 x :: z.toList.drop 1).toArray = #[.int .i64 x] ++ b := by
    have := fold_row 1 b [Value.int .i64 x] (z.toList.drop 1) [] (by simp; omega) (by simp)
    rw [List.append_nil, List.append_nil] at this
    rw [show #[Value.int .i64 x] ++ b = ([Value.int .i64 x] ++ b.toList).toArray by simp]
    exact this
  have c1 : ¬ ((decide ((Value.int .i64 x).cells.size ≠ 1) || decide (0 + (Value.int .i64 x).cells.size > z.size)) = true) := by simp [Value.cells, hz]
  have c2 : ¬ ((decide ((Value.agg b).cells.size ≠ 64) || decide (1 + (Value.agg b).cells.size > (Value.int .i64 x :: z.toList.drop 1).toArray.size)) = true) := by simp [Value.cells, hb, hz]
  rw [Instr.fill]
  simp only [show (#[(0, 1), (1, 64)] : Array (Nat × Nat))[0]? = some (0, 1) from rfl]
  rw [if_neg c1, Instr.fill]
  simp only [show (#[(0, 1), (1, 64)] : Array (Nat × Nat))[1]? = some (1, 64) from rfl]
  rw [show (Value.int .i64 x).cells = #[Value.int .i64 x] from rfl, e1, if_neg c2, Instr.fill, show (Value.agg b).cells = b from rfl, e2]
theorem buildHeld (x : Int) (b : List Int) (hb : b.length = 64) (w : World) : (Instr.build 173 #[(0, .int .i64 x), (1, .agg (cells8 b))]).run Tryd.prog w = .ok (.agg (heldV (x, b)).toArray) w := by
  have hf := fillH x (cells8 b) Tryd.zeroCells173 (size8 hb) zsize65
  obtain ⟨fields, hu⟩ : ∃ fields, Tryd.prog.underlying 173 = some (.struct fields) := ⟨_, Tryd.underlying173⟩
  have hp : (fields.mapM fun (f : Go.Field) => do pure (f.offset, ← sizeOf f.type)).run Tryd.prog w = .ok #[(0, 1), (1, 64)] w := by
    rw [Tryd.underlying173] at hu
    injection hu with hu
    injection hu with hu
    subst hu
    kernel_rfl
  unfold Instr.build
  simp only [Sem.run_bind, zero_held, run_underlying hu, Result.andThen_ok, hp]
  rw [show (Value.agg Tryd.zeroCells173).cells = Tryd.zeroCells173 from rfl, hf]
  rw [show #[Value.int .i64 x] ++ cells8 b = (heldV (x, b)).toArray by unfold heldV cells8; simp]
  rfl
theorem one_held (x : Int) (b : List Int) (hb : b.length = 64) (w : World) : (Instr.buildSlice 113 1 #[(0, .agg (heldV (x, b)).toArray)]).run Tryd.prog w = .ok (.slice (some ⟨w.heap.size, 0, none⟩) 1 1) (w.alloc (.cells (heldV (x, b)).toArray 173)) := by
  have hl : (heldV (x, b)).toArray.size = 65 := by rw [List.size_toArray]; exact heldV_length hb
  have hu : (underlying 113).run Tryd.prog w = .ok (.slice 173) w := by kernel_rfl
  have hs : (sizeOf 173).run Tryd.prog w = .ok 65 w := by kernel_rfl
  unfold Instr.buildSlice
  simp only [Sem.run_bind, hu, hs, Result.andThen_ok, zero_held, Value.cells, Nat.one_mul]
  rw [if_neg (by decide), if_neg (by decide)]
  simp only [Sem.run_bind, Sem.run_pure, zero_held, Result.andThen_ok, Value.cells]
  rw [fill1 65 _ _ hl (by simp)]
  rfl
def writeR.T6 : Bool × List (List Nat × List Nat) := (true, [([], []), ([], []), ([1], [1]), ([2], [2]), ([3], [3]), ([], []), ([], []), ([6], [6]), ([7], [7]), ([5, 8], [5, 8]), ([9], [9]), ([4, 10], [4, 10]), ([0, 0, 1, 2, 3, 4, 5, 6, 7, 8, 9, 10, 11], [0]), ([12, 0, 1, 2, 3, 4, 5, 6, 7, 8, 9, 10, 11], [12]), ([13, 11, 11, 0, 1, 2, 3, 4, 5, 6, 7, 8, 9, 10, 11], [11, 13])])
def writeR.B6 : List Nat := [0, 0, 2, 6, 14, 0, 0, 64, 192, 480, 992, 2046, 4095, 8191, 16383]
theorem writeR.tab6 : rtab .any (opsOf Tryd.f81 6) = writeR.T6 := by kernel_rfl
theorem writeR.bits6 : waitsOk writeR.T6.2 writeR.B6 = true := by kernel_rfl
theorem run_bslice_op {P : Program} {a : Act} {oi : Oper} (w : World) (ty : TypeId) (len : Nat) (parts : Array (Nat × Operand)) (ho : oi.op = .buildSlice ty len parts) (ps : Array (Nat × Value)) (hp : parts.map (fun x => (x.1, a.eval x.2)) = ps) {v : Value} {w1 : World} (h : (Instr.buildSlice ty len ps).run P w = .ok v w1) : (execOp a.eval oi).run P w = .ok (.value v) w1 := by
  subst hp
  unfold execOp
  simp only [ho, Sem.run_bind]
  rw [h]
  rfl
theorem arrayAt64 (g c : Nat) : ∀ w : World, (Instr.arrayAt 117 (.slice (some ⟨g, 0, none⟩) 64 c)).run Tryd.prog w = .ok (.pointer (some ⟨g, 0, none⟩)) w := fun w => by (show _ = _; kernel_rfl)
theorem Mv.grown {w w1 : World} {row : Option Nat} (hg : w.grownBy w1 row) (hr : ∀ k, row = some k → ∃ cs, w.heap[k]? = some (.cells cs 173 (0, 0))) : Mv w w1 := by
  refine ⟨hg.os, hg.tape, hg.output, hg.size, fun k hk hty => hg.block k hk (fun e => ?_)⟩
  obtain ⟨cs, h⟩ := hr k e.symm
  exact (hty _ _ _ h).2.2 rfl
theorem heldC_snoc (l : List (Int × List Int)) (x : Int × List Int) : heldC (l ++ [x]) = heldC l ++ heldV x := by unfold heldC; rw [List.flatMap_append]; simp
/-- The held writes' row has grown: once the disk's own cell says so, it holds one write more. -/
theorem Dk.regrown {base p gs : Nat} {hv cv v1 : Value} {d : DSt} {w w3 : World} (h : Dk base p gs hv cv d w) {x : Int × List Int} (ho : w3.ownsRow base 173 65 v1 (d.H.length + 1) (heldC d.H ++ heldV x)) (hg : w.grownBy w3 hv.ownBlock) (hx : x.2.length = 64 ∧ 0 ≤ x.1 ∧ x.1 < d.S.length) (hm : d.H.length < 100000) :
    Dk base p gs v1 cv { d with H := d.H ++ [x] } (w3.setCell ⟨p, 1, none⟩ v1) ∧ Mv w (w3.setCell ⟨p, 1, none⟩ v1) ∧ w3.frozen? ⟨p, 1, none⟩ = false := by
  obtain ⟨cells, hty⟩ := h.s.ty
  have hM := Mv.grown hg (fun k hk => own_typed h.h k hk)
  have hpo : some p ≠ hv.ownBlock := fun e => own_types h.h h.o (by decide) p e.symm rfl
  have hso : some gs ≠ hv.ownBlock := fun e => own_types h.h hty (by decide) gs e.symm rfl
  have h3 : w3.heap[p]? = some (.cells (dkV gs d.S.length hv cv d) 115 (0, 0)) := (hg.block p (blk_lt h.o) hpo).trans h.o
  have hs3 : w3.heap[gs]? = some (.cells cells 117 (0, 0)) := (hg.block gs (blk_lt hty) hso).trans hty
  have hm4 := Mv.set h3 (.inl rfl) 1 v1
  refine ⟨⟨blk_put h3 1 v1 rfl, (h.s.move (hg.block gs (blk_lt hty) hso)).move (Below.heap_setCell w3 _ v1 gs (ne_types hs3 h3 (by decide))), ?_, (h.c.mv hM).mv hm4, fun y hy => ?_, h.bp, h.bs, h.n1, by simp only [List.length_append, List.length_singleton]; omega, h.k1⟩, hM.trans hm4, blk_frozen h3 1⟩
  · simp only [List.length_append, List.length_singleton, heldC_snoc]
    exact own_move ho (fun k hk => Below.heap_setCell w3 _ v1 k (own_types ho h3 (by decide) k hk))
  · rcases List.mem_append.1 hy with h1 | h1
    · exact h.h64 y h1
    · rw [List.mem_singleton] at h1
      subst h1
      exact hx
/-- A write is held. -/
def DSt.hold (d : DSt) (k : Nat) (b : List Int) : DSt := { d with H := d.H ++ [((k : Int), b)] }
def DSt.write (d : DSt) (k : Nat) (b : List Int) : DSt × Int := if d.off then ((d.hold k b).stroke.lost, 60) else ((d.hold k b).stroke, 0)
theorem info_held : (Tryd.prog.info? 173).map (fun i => (i.zero, i.size, i.bytes)) = some (some (.agg Tryd.zeroCells173), 65, 72) := by kernel_rfl
theorem heldV_one (x : Int × List Int) : ∀ u ∈ heldV x, u.oneCell' = true := fun v hv => by
  unfold heldV at hv
  rcases List.mem_cons.1 hv with rfl | h
  · rfl
  · obtain ⟨y, _, rfl⟩ := List.mem_map.1 h
    rfl
set_option maxRecDepth 100000 in
set_option maxHeartbeats 8000000 in
theorem write_c {base p gs : Nat} {hv cv : Value} {d : DSt} {w : World} (h : Dk base p gs hv cv d w) (hup : d.down = false) (k : Nat) (hk : k < d.S.length) (b : List Int) (hb : b.length = 64) (g c : Nat) (hgr : w.rangeAt g 0 (cells8 b).toList) (hgt : ∃ cells, w.heap[g]? = some (.cells cells 117 (0, 0))) (hm : d.H.length < 100000) :
    Calls Tryd.prog 81 #[.pointer (some ⟨p, 0, none⟩), .int .i64 k, .slice (some ⟨g, 0, none⟩) 64 c] w fun e w' => e = .returned (.int .i64 (d.write k b).2) ∧ (∃ hv', Dk base p gs hv' cv (d.write k b).1 w') ∧ Mv w w' ∧ Below base w w' := by
  have K := at_c h k
  rw [show d.atE k = 0 by unfold DSt.atE; rw [hup]; simp; omega] at K
  have K := Aside0.mk K
  have H := Aside0.mk (And.intro h (And.intro hup (And.intro hk (And.intro hb (And.intro hgr (And.intro hgt hm))))))
  obtain ⟨r, hr⟩ : ∃ r, r = d.write k b := ⟨_, rfl⟩
  rw [← hr]
  have HR := Lib.hid hr
  clear h hup hk hb hgr hgt hm hr
  go_enter Tryd.func81, Tryd.ntmps81
  go_upto_region 6 with (first
    | (go_at_call 118; refine K.out.mono ?_; rintro e w1 ⟨rfl, hB⟩; have P1 := Aside0.mk (And.intro (H.out.1.below hB) (And.intro (rangeAt_below H.out.2.2.2.2.1 hB) hB)); clear hB))
  have c1 := P1.out.1.cells.2.1
  refine start_ (n := 15) (S := fun w' => w'.cell? ⟨p, 1, none⟩ = some hv ∧ w'.rangeAt g 0 (cells8 b).toList) (ds := [14]) (fl 15 0) (by kernel_rfl) rfl rfl ⟨c1, rangeAt_below P1.out.2.1 (below_drew1 (Below.refl _ _))⟩ (fun hHeld => ?_)
  refine with_tabW writeR.tab6 writeR.bits6 (fun HT_ HW_ => ?_)
  have har := arrayAt64 g c
  refine pB 0 17 15 1 ?_
  refine pB 1 18 15 3 ?_
  refine pB 2 19 15 7 ?_
  refine pB 3 20 15 15 ?_
  refine tB 4 21 15 31 hHeld ?_
  refine pB 5 22 15 63 ?_
  refine pB 6 23 15 127 ?_
  refine pB 7 24 15 255 ?_
  refine takeA (i := 8) (N := some 25) (v := .agg (cells8 b)) (fl 15 511) (take_ofW HT_.out HW_.out (by kernel_rfl)) hHeld ?_ (hy := fun w' s0 => run_atA w' 117 (.tmp 24) rfl g 0 (by rfl) (cells8 b) _ s0.2 Tryd.underlying117 (by rfl) (by rw [size8 H.out.2.2.2.1]; exact info64))
  refine takeA (i := 9) (N := some 26) (v := .agg (heldV ((k : Int), b)).toArray) (fl 15 1023) (take_ofW HT_.out HW_.out (by kernel_rfl)) hHeld ?_ (hy := fun w' s0 => run_build_op _ _ _ rfl _ (by simp only [List.map_toArray, List.map_cons, List.map_nil]; rfl) (buildHeld (k : Int) b H.out.2.2.2.1 w'))
  have hd1 := below_drew1 (Below.refl w1.heap.size w1)
  have P2 := Aside0.mk (And.intro (P1.out.1.below hd1) (And.intro (below_step P1.out.2.2 hd1) (And.intro hHeld (show ∃ cells, w1.drew.heap[g]? = some (.cells cells 117 (0, 0)) from by obtain ⟨cells, hc⟩ := H.out.2.2.2.2.2.1; exact ⟨cells, blk_below hc (below_step P1.out.2.2 hd1)⟩))))
  clear hHeld c1 hd1 har
  generalize w1.drew = w2 at P2 ⊢
  refine one_ (i := 10) (N := some 27) (fl 15 2047) rfl rfl (one_of HT_.out (by kernel_rfl)) (by decide) (fun K_ hK => ?_)
  refine value_ (v := .slice (some ⟨w2.heap.size, 0, none⟩) 1 1) (w1 := w2.alloc (.cells (heldV ((k : Int), b)).toArray 173)) (by rfl) rfl (run_bslice_op _ _ _ _ rfl _ (by simp only [List.map_toArray, List.map_cons, List.map_nil]; rfl) (one_held (k : Int) b H.out.2.2.2.1 w2)) ?_
  refine hK.out _ _ ⟨(World.cell?_alloc_lt _ _ _ (World.block_lt_of_cell? _ _ P2.out.2.2.1.1)).trans P2.out.2.2.1.1, rangeAt_below P2.out.2.2.1.2 (below_alloc (Below.refl _ _) _)⟩ (fun _ => ?_)
  clear hK K_
  refine normA (some 27) ?_
  refine one_ (i := 11) (N := some 28) (fl 15 4095) rfl rfl (one_of HT_.out (by kernel_rfl)) (by decide) (fun K_ hK => ?_)
  refine step_append_cells (w0 := w2) (W := w2) base (by rfl) (.tmp 21) (.tmp 27) 113 173 (.agg Tryd.zeroCells173) 65 72 rfl Tryd.underlying113 info_held zsize65 (by decide) (by decide) hv d.H.length (heldC d.H) (heldV ((k : Int), b)) rfl rfl (heldV_length H.out.2.2.2.1) (heldV_one _) P2.out.1.h (Below.refl base w2) P2.out.1.lt (by have := H.out.2.2.2.2.2.2; omega) ?_
  intro v1 w3 ho3 hB3 hg3 hat3
  have hpo : some p ≠ hv.ownBlock := fun e => own_types P2.out.1.h P2.out.1.o (by decide) p e.symm rfl
  obtain ⟨gcs, hgb⟩ := P2.out.2.2.2
  have hgo : some g ≠ hv.ownBlock := fun e => own_types P2.out.1.h hgb (by decide) g e.symm rfl
  refine hK.out _ _ ⟨cell_grown hg3 P2.out.2.2.1.1 hpo, fun j v hv' => (World.cell?_of_block (a := ⟨g, 0 + j, none⟩) (hg3.block g (blk_lt hgb) hgo)).trans (P2.out.2.2.1.2 j v hv')⟩ (fun _ => ?_)
  clear hK K_
  have P3 := Aside0.mk (And.intro (P2.out.1.regrown (x := ((k : Int), b)) ho3 hg3 ⟨H.out.2.2.2.1, by simp, by simpa using H.out.2.2.1⟩ H.out.2.2.2.2.2.2) hB3)
  have c3 : w3.cell? ⟨p, 1, none⟩ = some hv := cell_grown hg3 P2.out.2.2.1.1 hpo
  have f3 := P3.out.1.2.2
  obtain ⟨A1, q1, rfl⟩ := own_slice ho3
  clear ho3 hB3 hg3 hat3 hpo hgb hgo
  refine normA (some 28) ?_
  refine pB 12 29 15 8191 ?_
  refine pB 13 30 15 16383 ?_
  refine last_ (i := 14) (N := none) (fl 15 32767) rfl rfl (one_of HT_.out (by kernel_rfl)) (by decide) (fun K_ hK => ?_)
  refine skip_ (w1 := w3.setCell ⟨p, 1, none⟩ (.slice A1 (d.H.length + 1) q1)) (by rfl) rfl (by go_simp) ?_
  refine hK.out _ _ ?_
  clear hK K_ c3 f3
  refine done_ (done_of HT_.out (by kernel_rfl)) ?_
  clear HT_ HW_
  have P4 : Aside0 (Dk base p gs (.slice A1 (d.H.length + 1) q1) cv (d.hold k b) (w3.setCell ⟨p, 1, none⟩ (.slice A1 (d.H.length + 1) q1)) ∧ Mv w (w3.setCell ⟨p, 1, none⟩ (.slice A1 (d.H.length + 1) q1)) ∧ Below base w (w3.setCell ⟨p, 1, none⟩ (.slice A1 (d.H.length + 1) q1))) := ⟨P3.out.1.1, (Mv.of P2.out.2.1).trans P3.out.1.2.1, (below_step' (Below.refl base w) P2.out.2.1 H.out.1.lt).trans (P3.out.2.setCell H.out.1.bp _)⟩
  clear P1 P2 P3
  generalize (w3.setCell ⟨p, 1, none⟩ (.slice A1 (d.H.length + 1) q1)) = w4 at P4 ⊢
  have hoff : (d.hold k b).off = d.off := rfl
  cases ho : d.off with
  | false =>
    go_wp2_with (first
      | (go_at_call 83; have hg := goes_c P4.out.1; rw [hoff, ho] at hg; refine hg.mono ?_; clear hg; rintro e w5 ⟨rfl, hD, hM, hB⟩; have P5 := Aside0.mk (And.intro hD (And.intro (P4.out.2.1.trans hM) (P4.out.2.2.trans hB))); clear hD hM hB))
    go_ret
    have hr := HR.out
    unfold DSt.write at hr
    rw [ho, if_neg (by decide)] at hr
    rw [hr]
    exact ⟨rfl, ⟨_, P5.out.1⟩, P5.out.2⟩
  | true =>
    go_wp2_with (first
      | (go_at_call 83; have hg := goes_c P4.out.1; rw [hoff, ho] at hg; refine hg.mono ?_; clear hg; rintro e w5 ⟨rfl, hD, hM, hB⟩; have P5 := Aside0.mk (And.intro hD (And.intro (P4.out.2.1.trans hM) (P4.out.2.2.trans hB))); have c6 := hD.cells.2.2.2.2.2.2; clear hD hM hB)
      | (go_at_call 84; refine (lose_c P5.out.1 (by unfold DSt.stroke; split <;> exact H.out.2.1)).mono ?_; rintro e w6 ⟨rfl, hD, hM, hB⟩; have P6 := Aside0.mk (And.intro hD (And.intro (P5.out.2.1.trans hM) (P5.out.2.2.trans hB))); clear hD hM hB))
    go_ret
    have hr := HR.out
    unfold DSt.write at hr
    rw [ho, if_pos rfl] at hr
    rw [hr]
    exact ⟨rfl, P6.out⟩
end Go.Proofs.YtbenedckmapjoaaDoor.D
namespace Go.Proofs.YtbenedckmapjoaaDoor.D
open Go.RowKit Go.Proofs.YtbenedckmapjoaaDoor.H Go.Proofs.YtbenedckmapjoaaDoor.F Go.Proofs.YtbenedckmapjoaaDoorW.PrintWords Go.Proofs.YtbenedckmapjoaaDoorW.PrintLast Go.Proofs.YtbenedckmapjoaaDoorW.PrintMore
set_option linter.unusedVariables false
set_option linter.unusedSimpArgs false
/-- All writes that wait are put. -/
def DSt.put (d : DSt) : DSt := { d with S := putsL (fun _ => true) d.H d.S d.H.length, H := [] }
def DSt.flush (d : DSt) : DSt × Int := if d.off then (d.stroke.lost, 60) else (d.stroke.put, 0)
set_option maxRecDepth 100000 in
set_option maxHeartbeats 4000000 in
theorem flush_c {base p gs : Nat} {hv cv : Value} {d : DSt} {w : World} (h : Dk base p gs hv cv d w) (hup : d.down = false) :
    Calls Tryd.prog 35 #[.pointer (some ⟨p, 0, none⟩)] w fun e w' => e = .returned (.int .i64 d.flush.2) ∧ (∃ hv', Dk base p gs hv' cv d.flush.1 w') ∧ Mv w w' ∧ Below base w w' := by
  have K := ready_c h
  rw [show d.ready = 0 by unfold DSt.ready; rw [hup]; rfl] at K
  have K := Aside0.mk K
  obtain ⟨r, hr⟩ : ∃ r, r = d.flush := ⟨_, rfl⟩
  rw [← hr]
  have HR := Lib.hid hr
  have H := Aside0.mk (And.intro h hup)
  have hsd : d.stroke.down = false := by unfold DSt.stroke; split <;> exact hup
  have HS := Lib.hid hsd
  have hlt := h.lt
  have HL := Lib.hid hlt
  clear h hup hr hsd hlt
  cases ho : d.off with
  | false =>
    go_enter Tryd.func35, Tryd.ntmps35
    go_wp2_with (first
      | (go_at_call 82; refine K.out.mono ?_; rintro e w1 ⟨rfl, hB⟩; have P1 := Aside0.mk (And.intro (H.out.1.below hB) (And.intro (Mv.of hB) (below_step' (Below.refl base w) hB HL.out))); clear hB)
      | (go_at_call 83; have hg := goes_c P1.out.1; rw [ho] at hg; refine hg.mono ?_; clear hg; rintro e w5 ⟨rfl, hD, hM, hB⟩; have P5 := Aside0.mk (And.intro hD (And.intro (P1.out.2.1.trans hM) (P1.out.2.2.trans hB))); clear hD hM hB)
      | (go_at_call 85; refine (putsA_c P5.out.1 (fun _ => true) (fun i _ w1 _ => (all_c w1 i).mono (by rintro e w' ⟨rfl, rfl⟩; exact ⟨rfl, Below.refl _ _⟩))).mono ?_; rintro e w6 ⟨rfl, hD, hM, hB⟩; have P6 := Aside0.mk (And.intro hD (And.intro (P5.out.2.1.trans hM) (P5.out.2.2.trans hB))); clear hD hM hB))
    go_ret
    have hr := HR.out
    unfold DSt.flush at hr
    rw [ho, if_neg (by decide)] at hr
    rw [hr]
    exact ⟨rfl, P6.out⟩
  | true =>
    go_enter Tryd.func35, Tryd.ntmps35
    go_wp2_with (first
      | (go_at_call 82; refine K.out.mono ?_; rintro e w1 ⟨rfl, hB⟩; have P1 := Aside0.mk (And.intro (H.out.1.below hB) (And.intro (Mv.of hB) (below_step' (Below.refl base w) hB HL.out))); clear hB)
      | (go_at_call 83; have hg := goes_c P1.out.1; rw [ho] at hg; refine hg.mono ?_; clear hg; rintro e w5 ⟨rfl, hD, hM, hB⟩; have P5 := Aside0.mk (And.intro hD (And.intro (P1.out.2.1.trans hM) (P1.out.2.2.trans hB))); have c6 := hD.cells.2.2.2.2.2.2; clear hD hM hB)
      | (go_at_call 84; refine (lose_c P5.out.1 HS.out).mono ?_; rintro e w6 ⟨rfl, hD, hM, hB⟩; have P6 := Aside0.mk (And.intro hD (And.intro (P5.out.2.1.trans hM) (P5.out.2.2.trans hB))); clear hD hM hB))
    go_ret
    have hr := HR.out
    unfold DSt.flush at hr
    rw [ho, if_pos rfl] at hr
    rw [hr]
    exact ⟨rfl, P6.out⟩
/-- The i-th sector of bytes, zeros behind them. -/
def sect (b : List Int) (i : Nat) : List Int := (b.drop (i * 64)).take 64 ++ List.replicate (64 - ((b.drop (i * 64)).take 64).length) 0
theorem sect_length (b : List Int) (i : Nat) : (sect b i).length = 64 := by
  unfold sect
  rw [List.length_append, List.length_replicate, List.length_take]
  omega
def DSt.saves (d : DSt) (k : Nat) (b : List Int) : Nat → DSt × Int
  | 0 => (d, 0)
  | i + 1 => if (d.saves k b i).2 = 0 then (d.saves k b i).1.write (k + i) (sect b i) else d.saves k b i
theorem saves_stop (d : DSt) (k : Nat) (b : List Int) (i : Nat) (h : (d.saves k b i).2 ≠ 0) : ∀ j, d.saves k b (i + j) = d.saves k b i
  | 0 => rfl
  | j + 1 => by
    have := saves_stop d k b i h j
    rw [show i + (j + 1) = (i + j) + 1 by omega, DSt.saves, this, if_neg h]
theorem stroke_same (d : DSt) : d.stroke.S = d.S ∧ d.stroke.H = d.H ∧ d.stroke.down = d.down ∧ d.stroke.ch = d.ch ∧ d.stroke.set = d.set := by unfold DSt.stroke; split <;> exact ⟨rfl, rfl, rfl, rfl, rfl⟩
theorem write_ok {d : DSt} {k : Nat} {b : List Int} (h : (d.write k b).2 = 0) : (d.write k b).1 = (d.hold k b).stroke := by
  unfold DSt.write at h ⊢
  split
  · rename_i ho
    rw [if_pos ho] at h
    exact absurd (show (60 : Int) = 0 from h) (by decide)
  · rfl
theorem saves_ok {d : DSt} {k : Nat} {b : List Int} : ∀ {i : Nat}, (d.saves k b i).2 = 0 → (d.saves k b i).1.S = d.S ∧ (d.saves k b i).1.H.length = d.H.length + i ∧ (d.saves k b i).1.down = d.down
  | 0, _ => ⟨rfl, rfl, rfl⟩
  | i + 1, h => by
    rw [DSt.saves] at h ⊢
    by_cases h0 : (d.saves k b i).2 = 0
    · rw [if_pos h0] at h ⊢
      obtain ⟨h1, h2, h3⟩ := saves_ok h0
      rw [write_ok h]
      obtain ⟨s1, s2, s3, _⟩ := stroke_same ((d.saves k b i).1.hold (k + i) (sect b i))
      refine ⟨s1.trans h1, ?_, s3.trans h3⟩
      rw [s2]
      unfold DSt.hold
      simp only [List.length_append, List.length_singleton, h2]
      omega
    · rw [if_neg h0] at h
      exact absurd h h0
def saveR.T8 : Bool × List (List Nat × List Nat) := (true, [([], []), ([], []), ([], []), ([2], [2]), ([1, 3], [1, 3]), ([0, 4], [0, 4])])
def saveR.B8 : List Nat := [0, 0, 0, 4, 14, 31]
theorem saveR.tab8 : rtab .any (opsOf Tryd.f34 8) = saveR.T8 := by kernel_rfl
theorem saveR.bits8 : waitsOk saveR.T8.2 saveR.B8 = true := by kernel_rfl
theorem saves_end (d : DSt) (k : Nat) (b : List Int) {i q : Nat} (h : (d.saves k b i).2 ≠ 0) (hq : i ≤ q) : d.saves k b q = d.saves k b i := by
  have := saves_stop d k b i h (q - i)
  rwa [show i + (q - i) = q by omega] at this
theorem C_addr {w : World} {A : Option Addr} {n : Nat} {b : List Int} (h : Kd.C (Kd.int .u8) w A n b) (hn : 0 < n) : ∃ ad, A = some ad ∧ ∀ j v, (cells8 b).toList[j]? = some v → w.cell? (ad.add j) = some v := by
  obtain ⟨h1, _, h3⟩ := h
  obtain ⟨ad, he, hc⟩ := h3 hn
  refine ⟨ad, he, fun j v hv => ?_⟩
  have hj : j < b.length := by have := (List.getElem?_eq_some_iff.1 hv).1; simpa [cells8] using this
  obtain ⟨c, e1, e2, e3⟩ := hc j b[j] (List.getElem?_eq_getElem hj)
  have hcv : c = [.int .u8 b[j]] := e2
  subst hcv
  have := e3 0 _ rfl
  rw [show j * (Kd.int .u8).sz + 0 = j by show j * 1 + 0 = j; omega] at this
  rw [this]
  have hv2 : (cells8 b)[j]? = some v := by simpa using hv
  rw [cells8_get b j hj, List.getD_eq_getElem?_getD, List.getElem?_eq_getElem hj] at hv2
  exact hv2
theorem info1 : (Tryd.prog.info? 5).map (·.size) = some 1 := by kernel_rfl
theorem sect_row (b : List Int) (i : Nat) (cs : List Value) (hcs : cs = (cells8 ((b.drop (i * 64)).take 64)).toList) : ((cells8 (List.replicate 64 0)).toList.take 0 ++ cs ++ (cells8 (List.replicate 64 0)).toList.drop (0 + cs.length)).toArray = cells8 (sect b i) := by
  subst hcs
  have hl : ((b.drop (i * 64)).take 64).length ≤ 64 := by rw [List.length_take]; omega
  unfold sect cells8
  simp only [List.take_zero, List.nil_append, Nat.zero_add, List.map_append, List.length_map, List.map_replicate, List.drop_replicate]
set_option maxRecDepth 100000 in
set_option maxHeartbeats 8000000 in
theorem saveg_c {base p gs : Nat} {hv cv : Value} {d : DSt} {w : World} (h : Dk base p gs hv cv d w) (hup : d.down = false) (k : Nat) (b : List Int) (A : Option Addr) (n c : Nat) (hn : n = b.length) (hc : n ≤ c) (hC : Kd.C (Kd.int .u8) w A n b) (hk : k + needN n ≤ d.S.length) (hm : d.H.length ≤ 50000) (hA : ∀ ad, A = some ad → 0 < n → ad.block < w.heap.size ∧ ∀ w1, Mv w w1 → Below base w w1 → w1.heap[ad.block]? = w.heap[ad.block]?) :
    Calls Tryd.prog 34 #[.pointer (some ⟨p, 0, none⟩), .int .i64 k, .slice A n c] w fun e w' => e = .returned (.int .i64 (d.saves k b (needN n)).2) ∧ (∃ hv', Dk base p gs hv' cv (d.saves k b (needN n)).1 w') ∧ Mv w w' ∧ Below base w w' := by
  have K2 := span_c h k n hk
  rw [show d.ready = 0 by unfold DSt.ready; rw [hup]; rfl] at K2
  have hn1 := h.n1
  have hnn : n ≤ 1000000000 := by unfold needN at hk; omega
  have K3 := need_c n hnn
  have hq64 : ∀ i, i < needN n → i * 64 < n := fun i hi => by unfold needN at hi; omega
  obtain ⟨q, hq⟩ : ∃ q, q = needN n := ⟨_, rfl⟩
  rw [← hq] at K3 hk hq64 ⊢
  have hlt := h.lt
  have HK := Aside0.mk (And.intro K2 K3)
  have HD := Aside0.mk (And.intro h (And.intro hup (And.intro hk (And.intro hm (And.intro hA (And.intro hC (And.intro hn (And.intro hq64 hlt))))))))
  have hkI : (k : Int) ≤ 16384 := by omega
  have hqI : (q : Int) ≤ 16384 := by omega
  have hnI : (n : Int) ≤ 1000000000 := by omega
  have hcI : (n : Int) ≤ (c : Int) := by omega
  obtain ⟨r, hr⟩ : ∃ r, r = d.saves k b q := ⟨_, rfl⟩
  rw [← hr]
  have HR := Lib.hid hr
  clear K2 K3 h hup hn hC hk hm hA hn1 hnn hq hr hc hq64 hlt
  go_enter Tryd.func34, Tryd.ntmps34
  go_upto_region 5 with (first
    | (go_at_call 79; refine HK.out.1.mono ?_; rintro e w2 ⟨rfl, hB⟩; have B2 := Aside0.mk hB; clear hB)
    | (go_at_call 80; refine (HK.out.2 _).mono ?_; rintro e w3 ⟨rfl, rfl⟩))
  go_loopg [22] q (fun j t wr => ∃ (i : Nat), i + j = q ∧ t = .int .i64 (i : Int) ∧ Aside0 ((d.saves k b i).2 = 0 ∧ (∃ hv', Dk base p gs hv' cv (d.saves k b i).1 wr) ∧ Mv w wr ∧ Below base w wr))
  case atStart => exact ⟨0, by omega, rfl, ⟨rfl, ⟨hv, HD.out.1.below B2.out⟩, Mv.of B2.out, below_step' (Below.refl base w) B2.out HD.out.2.2.2.2.2.2.2.2⟩⟩
  case round =>
    clear B2
    obtain ⟨i, hiq, rfl, P⟩ := hrel
    have HI := Lib.hid hiq
    clear hiq
    by_cases hi : i < q
    · have hiI : (i : Int) < (q : Int) := by omega
      have hi64 := HD.out.2.2.2.2.2.2.2.1 i hi
      have hi64I : (i : Int) * 64 < (n : Int) := by omega
      obtain ⟨ad, hAd, hcell⟩ := C_addr HD.out.2.2.2.2.2.1 (by omega)
      subst hAd
      go_upto_region 8 with (fail)
      have P4 : Aside0 ((wr.alloc (.cells #[.int .u8 0, .int .u8 0, .int .u8 0, .int .u8 0, .int .u8 0, .int .u8 0, .int .u8 0, .int .u8 0, .int .u8 0, .int .u8 0, .int .u8 0, .int .u8 0, .int .u8 0, .int .u8 0, .int .u8 0, .int .u8 0, .int .u8 0, .int .u8 0, .int .u8 0, .int .u8 0, .int .u8 0, .int .u8 0, .int .u8 0, .int .u8 0, .int .u8 0, .int .u8 0, .int .u8 0, .int .u8 0, .int .u8 0, .int .u8 0, .int .u8 0, .int .u8 0, .int .u8 0, .int .u8 0, .int .u8 0, .int .u8 0, .int .u8 0, .int .u8 0, .int .u8 0, .int .u8 0, .int .u8 0, .int .u8 0, .int .u8 0, .int .u8 0, .int .u8 0, .int .u8 0, .int .u8 0, .int .u8 0, .int .u8 0, .int .u8 0, .int .u8 0, .int .u8 0, .int .u8 0, .int .u8 0, .int .u8 0, .int .u8 0, .int .u8 0, .int .u8 0, .int .u8 0, .int .u8 0, .int .u8 0, .int .u8 0, .int .u8 0, .int .u8 0] 117)).heap[wr.heap.size]? = some (.cells (cells8 (List.replicate 64 0)) 117 (0, 0)) ∧ Below wr.heap.size wr (wr.alloc (.cells #[.int .u8 0, .int .u8 0, .int .u8 0, .int .u8 0, .int .u8 0, .int .u8 0, .int .u8 0, .int .u8 0, .int .u8 0, .int .u8 0, .int .u8 0, .int .u8 0, .int .u8 0, .int .u8 0, .int .u8 0, .int .u8 0, .int .u8 0, .int .u8 0, .int .u8 0, .int .u8 0, .int .u8 0, .int .u8 0, .int .u8 0, .int .u8 0, .int .u8 0, .int .u8 0, .int .u8 0, .int .u8 0, .int .u8 0, .int .u8 0, .int .u8 0, .int .u8 0, .int .u8 0, .int .u8 0, .int .u8 0, .int .u8 0, .int .u8 0, .int .u8 0, .int .u8 0, .int .u8 0, .int .u8 0, .int .u8 0, .int .u8 0, .int .u8 0, .int .u8 0, .int .u8 0, .int .u8 0, .int .u8 0, .int .u8 0, .int .u8 0, .int .u8 0, .int .u8 0, .int .u8 0, .int .u8 0, .int .u8 0, .int .u8 0, .int .u8 0, .int .u8 0, .int .u8 0, .int .u8 0, .int .u8 0, .int .u8 0, .int .u8 0, .int .u8 0] 117))) := ⟨new1 _ _, below_alloc (Below.refl _ _) _⟩
      generalize (wr.alloc (.cells #[.int .u8 0, .int .u8 0, .int .u8 0, .int .u8 0, .int .u8 0, .int .u8 0, .int .u8 0, .int .u8 0, .int .u8 0, .int .u8 0, .int .u8 0, .int .u8 0, .int .u8 0, .int .u8 0, .int .u8 0, .int .u8 0, .int .u8 0, .int .u8 0, .int .u8 0, .int .u8 0, .int .u8 0, .int .u8 0, .int .u8 0, .int .u8 0, .int .u8 0, .int .u8 0, .int .u8 0, .int .u8 0, .int .u8 0, .int .u8 0, .int .u8 0, .int .u8 0, .int .u8 0, .int .u8 0, .int .u8 0, .int .u8 0, .int .u8 0, .int .u8 0, .int .u8 0, .int .u8 0, .int .u8 0, .int .u8 0, .int .u8 0, .int .u8 0, .int .u8 0, .int .u8 0, .int .u8 0, .int .u8 0, .int .u8 0, .int .u8 0, .int .u8 0, .int .u8 0, .int .u8 0, .int .u8 0, .int .u8 0, .int .u8 0, .int .u8 0, .int .u8 0, .int .u8 0, .int .u8 0, .int .u8 0, .int .u8 0, .int .u8 0, .int .u8 0] 117)) = w4 at P4 ⊢
      have hwm : wrap64 ((i : Int) * 64) = (i : Int) * 64 := by unfold wrap64; omega
      refine start_ (n := 6) (S := fun _ => True) (ds := []) (fl 6 0) (by kernel_rfl) rfl rfl trivial (fun hHeld => ?_)
      refine with_tabW saveR.tab8 saveR.bits8 (fun HT_ HW_ => ?_)
      refine pB 0 25 6 1 ?_
      refine pB 1 26 6 3 ?_
      refine pB 2 27 6 7 ?_
      refine pB 3 28 6 15 (v := .int .i64 ((i : Int) * 64)) (hy := fun w' => by go_simp; exact (i64_w _).trans hwm) ?_
      refine pB 4 29 6 31 (v := .slice (some (ad.add (i * 64))) (n - i * 64) (c - i * 64)) (hy := fun w' => by go_simp; rw [if_pos ⟨by omega, by omega⟩, show ((i : Int) * 64).toNat = i * 64 by omega, if_neg (by omega)]) ?_
      obtain ⟨y, hy⟩ : ∃ y, y = (b.drop (i * 64)).take 64 := ⟨_, rfl⟩
      have hyl : y.length = Nat.min (n - i * 64) 64 := by rw [hy, List.length_take, List.length_drop, ← HD.out.2.2.2.2.2.2.1]; exact Nat.min_comm _ _
      have hd4 : Below wr.heap.size wr w4.drew := below_drew P4.out.2
      have hadl := HD.out.2.2.2.2.1 ad rfl (by omega)
      have hkeep : w4.drew.heap[ad.block]? = w.heap[ad.block]? := (hd4.block _ (Nat.lt_of_lt_of_le hadl.1 P.out.2.2.1.size)).trans (hadl.2 _ P.out.2.2.1 P.out.2.2.2)
      have hsrc : ∀ j v, (cells8 y).toList[j]? = some v → w4.drew.cell? ((ad.add (i * 64)).add j) = some v := fun j v hv => by
        have hj : j < y.length := by have := (List.getElem?_eq_some_iff.1 hv).1; simpa [cells8] using this
        have hj2 : j < 64 := by rw [hyl] at hj; exact Nat.lt_of_lt_of_le hj (Nat.min_le_right _ _)
        have hv2 : (cells8 b).toList[i * 64 + j]? = some v := by
          rw [← hv, hy]
          simp only [cells8, List.toList_toArray, List.map_take, List.map_drop]
          rw [List.getElem?_take_of_lt hj2, List.getElem?_drop]
        have h1 := hcell (i * 64 + j) v hv2
        rw [show (ad.add (i * 64)).add j = ad.add (i * 64 + j) from Addr.add_add ad _ _]
        have hb2 : (ad.add (i * 64 + j)).block = ad.block := by unfold Addr.add; split <;> rfl
        exact (World.cell?_of_block (w := w) (w' := w4.drew) (a := ad.add (i * 64 + j)) (by rw [hb2]; exact hkeep)).trans h1
      have hcopy := run_copy_row (P := Tryd.prog) w4.drew 30 30 3 5 wr.heap.size 0 64 64 (ad.add (i * 64)) (n - i * 64) (c - i * 64) (cells8 (List.replicate 64 0)) 117 (cells8 y).toList Tryd.underlying30 info1 P4.out.1 (by rw [Array.length_toList, size8 hyl]) hsrc (by rw [Array.length_toList, size8 rfl, hyl, Nat.zero_add]; exact Nat.min_le_right _ _) (fun v hv => by obtain ⟨x, _, rfl⟩ := List.mem_map.1 (by simpa [cells8] using hv); rfl)
      rw [sect_row b i _ (by rw [hy])] at hcopy
      refine one_ (i := 5) (N := some 30) (fl 6 63) rfl rfl (one_of HT_.out (by kernel_rfl)) (by decide) (fun K_ hK => ?_)
      refine value_ (v := goInt (cells8 y).toList.length) (w1 := w4.drew.setRow wr.heap.size (cells8 (sect b i))) (by rfl) rfl (by go_simp) ?_
      refine hK.out _ _ trivial (fun _ => ?_)
      clear hK K_ hcopy hsrc hkeep hadl hHeld hcell hwm
      refine normA (some 30) ?_
      refine done_ (done_of HT_.out (by kernel_rfl)) ?_
      clear HT_ HW_
      have P5 : Aside0 ((w4.drew.setRow wr.heap.size (cells8 (sect b i))).heap[wr.heap.size]? = some (.cells (cells8 (sect b i)) 117 (0, 0)) ∧ Below wr.heap.size wr (w4.drew.setRow wr.heap.size (cells8 (sect b i)))) := ⟨setRow_heap _ _ _ _ _ _ (blk_drew P4.out.1), below_setRow hd4 (Nat.le_refl _) _⟩
      clear hd4 P4
      generalize w4.drew.setRow wr.heap.size (cells8 (sect b i)) = w5 at P5 ⊢
      obtain ⟨hv1, hD⟩ := P.out.2.1
      have hs := saves_ok P.out.1
      have hrg : w5.rangeAt wr.heap.size 0 (cells8 (sect b i)).toList := by
        have := World.rangeAt_of_block P5.out.1 0 64
        rw [show ((cells8 (sect b i)).extract 0 (0 + 64)).toList = (cells8 (sect b i)).toList by rw [Array.toList_extract]; simp [cells8, List.extract_eq_take_drop]; exact List.take_of_length_le (by rw [List.length_map, sect_length]; exact Nat.le_refl _)] at this
        exact this
      have hW := write_c (hD.below P5.out.2) (by rw [hs.2.2]; exact HD.out.2.1) (k + i) (by rw [hs.1]; have := HD.out.2.2.1; omega) (sect b i) (sect_length b i) wr.heap.size 64 hrg ⟨_, P5.out.1⟩ (by rw [hs.2.1]; have := HD.out.2.2.2.1; omega)
      rw [show ((k + i : Nat) : Int) = (k : Int) + (i : Int) by omega] at hW
      obtain ⟨r2, hr2⟩ : ∃ r, r = (d.saves k b i).1.write (k + i) (sect b i) := ⟨_, rfl⟩
      rw [← hr2] at hW
      have hnext : d.saves k b (i + 1) = r2 := by rw [DSt.saves, if_pos P.out.1, hr2]
      have hdown : r2.2 = 0 ∨ r2.2 = 60 := by rw [hr2]; unfold DSt.write; split; exact .inr rfl; exact .inl rfl
      have hlt5 := hD.lt
      have HW := Aside0.mk (And.intro hW (And.intro hnext (And.intro P.out.2.2.1 (And.intro (below_step' P.out.2.2.2 P5.out.2 hlt5) P5.out.2))))
      clear hW hnext hr2 hrg hs hD P5 hlt5 hyl hy
      rcases hdown with hd0 | hd0
      · rw [hd0] at HW
        go_wp2_with (first
          | (go_at_call 81; refine HW.out.1.mono ?_; rintro e w6 ⟨rfl, hD6, hM6, hB6⟩; have P6 := Aside0.mk (And.intro hD6 (And.intro ((HW.out.2.2.1.below HW.out.2.2.2.2).trans hM6) (HW.out.2.2.2.1.trans hB6))); clear hD6 hM6 hB6))
        go_roundg (gk - 1)
        all_goals first
          | omega
          | exact ⟨i + 1, by have := HI.out; omega, by go_num, ⟨by rw [HW.out.2.1]; exact hd0, by rw [HW.out.2.1]; exact P6.out.1, P6.out.2.1, P6.out.2.2⟩⟩
          | (have := HI.out; omega)
      · rw [hd0] at HW
        go_wp2_with (first
          | (go_at_call 81; refine HW.out.1.mono ?_; rintro e w6 ⟨rfl, hD6, hM6, hB6⟩; have P6 := Aside0.mk (And.intro hD6 (And.intro ((HW.out.2.2.1.below HW.out.2.2.2.2).trans hM6) (HW.out.2.2.2.1.trans hB6))); clear hD6 hM6 hB6))
        go_ret
        have hr := HR.out
        rw [saves_end d k b (i := i + 1) (q := q) (by rw [HW.out.2.1, hd0]; decide) (by omega), HW.out.2.1] at hr
        rw [hr]
        exact ⟨by rw [hd0]; rfl, P6.out⟩
    · have hiI : ¬ (i : Int) < (q : Int) := by omega
      obtain rfl : i = q := by have := HI.out; omega
      go_wp2
      go_ret
      have hr := HR.out
      rw [hr]
      exact ⟨by rw [P.out.1]; rfl, P.out.2⟩
theorem save_c {base p gs : Nat} {hv cv : Value} {d : DSt} {w : World} (h : Dk base p gs hv cv d w) (hup : d.down = false) (k : Nat) (b : List Int) (A : Option Addr) (n c : Nat) (hn : n = b.length) (hc : n ≤ c) (hC : Kd.C (Kd.int .u8) w A n b) (hk : k + needN n ≤ d.S.length) (hm : d.H.length ≤ 50000) (hA : ∀ ad, A = some ad → 0 < n → ad.block < w.heap.size ∧ ∀ cs t fr, w.heap[ad.block]? = some (.cells cs t fr) → t ≠ 115 ∧ t ≠ 117 ∧ t ≠ 173) :
    Calls Tryd.prog 34 #[.pointer (some ⟨p, 0, none⟩), .int .i64 k, .slice A n c] w fun e w' => e = .returned (.int .i64 (d.saves k b (needN n)).2) ∧ (∃ hv', Dk base p gs hv' cv (d.saves k b (needN n)).1 w') ∧ Mv w w' ∧ Below base w w' :=
  saveg_c h hup k b A n c hn hc hC hk hm (fun ad e h0 => ⟨(hA ad e h0).1, fun w1 m _ => m.block _ (hA ad e h0).1 (hA ad e h0).2⟩)
end Go.Proofs.YtbenedckmapjoaaDoor.D
namespace Go.Proofs.YtbenedckmapjoaaDoor.D
open Go.RowKit Go.Proofs.YtbenedckmapjoaaDoor.H Go.Proofs.YtbenedckmapjoaaDoor.F Go.Proofs.YtbenedckmapjoaaDoorW.PrintWords Go.Proofs.YtbenedckmapjoaaDoorW.PrintLast Go.Proofs.YtbenedckmapjoaaDoorW.PrintMore
set_option linter.unusedVariables false
set_option linter.unusedSimpArgs false
theorem Trs.nil (base : Nat) (w : World) : Trs base w (.slice none 0 0) [] := ⟨none, 0, rfl, Nat.le_refl _, fun h => absurd h (by decide)⟩
/-- A disk of zeros. -/
def DSt.new (n : Nat) : DSt := ⟨List.replicate n (List.replicate 64 0), [], false, 0, 0, false, []⟩
theorem new_build (n gs : Nat) (w : World) : (Instr.build 115 #[(0, .slice (some ⟨gs, 0, none⟩) n n)]).run Tryd.prog w = .ok (.agg (dkV gs n (.slice none 0 0) (.slice none 0 0) (DSt.new n))) w := by kernel_rfl
theorem Sec.new {gs n : Nat} {w : World} (h : w.heap[gs]? = some (.cells (cells8 (List.replicate (n * 64) 0)) 117 (0, 0))) : Sec gs (List.replicate n (List.replicate 64 0)) w := by
  have hg : ∀ i, i < n → (List.replicate n (List.replicate 64 (0 : Int))).getD i [] = List.replicate 64 0 := fun i hi => getD_rep _ _ _ _ hi
  refine ⟨fun i hi => ?_, there_of h _ (by simp [cells8]), fun i hi => ?_, ⟨_, h⟩⟩
  · rw [List.length_replicate] at hi
    rw [hg i hi]
    have := World.rangeAt_of_block h (i * 64) 64
    rw [show ((cells8 (List.replicate (n * 64) 0)).extract (i * 64) (i * 64 + 64)).toList = (cells8 (List.replicate 64 0)).toList by
      have h64 : i * 64 + 64 ≤ n * 64 := by omega
      simp only [cells8, List.map_replicate, Array.toList_extract, List.extract_eq_take_drop, List.drop_replicate, List.take_replicate]
      congr 1
      omega] at this
    exact this
  · rw [List.length_replicate] at hi
    rw [hg i hi, List.length_replicate]
set_option maxRecDepth 100000 in
set_option maxHeartbeats 4000000 in
theorem new_c (n : Nat) (h1 : 1 ≤ n) (hn : n ≤ 16384) (hmk : ∀ w : World, (Instr.makeSlice 112 (.int .i64 (n : Int)) (.int .i64 (n : Int))).run Tryd.prog w = .ok (.slice (some ⟨w.heap.size, 0, none⟩) n n) (w.alloc (.cells (cells8 (List.replicate (n * 64) 0)) 117))) (w : World) :
    Calls Tryd.prog 25 #[.slice none 0 0, .int .i64 n] w fun e w' => ∃ p gs, e = .returned (.tuple #[.pointer (some ⟨p, 0, none⟩), .int .i64 0]) ∧ Dk w.heap.size p gs (.slice none 0 0) (.slice none 0 0) (DSt.new n) w' ∧ Below w.heap.size w w' := by
  have h1I : (1 : Int) ≤ (n : Int) := by omega
  have hnI : (n : Int) ≤ 16384 := by omega
  have HN := Lib.hid (And.intro h1 hn)
  clear h1 hn
  have hbd := new_build n w.heap.size
  go_enter Tryd.func25, Tryd.ntmps25
  go_upto_region 5 with (fail)
  have P0 : Aside0 (Dk w.heap.size (w.heap.size + 1) w.heap.size (.slice none 0 0) (.slice none 0 0) (DSt.new n) ((w.alloc (.cells (cells8 (List.replicate (n * 64) 0)) 117)).alloc (.cells #[.slice (some ⟨w.heap.size, 0, none⟩) n n, .slice none 0 0, .bool false, .int .i64 0, .int .i64 0, .bool false, .slice none 0 0] 115)) ∧ Below w.heap.size w ((w.alloc (.cells (cells8 (List.replicate (n * 64) 0)) 117)).alloc (.cells #[.slice (some ⟨w.heap.size, 0, none⟩) n n, .slice none 0 0, .bool false, .int .i64 0, .int .i64 0, .bool false, .slice none 0 0] 115))) :=
    ⟨⟨by unfold DSt.new; simp only [List.length_replicate]; exact new2 _ _ _, Sec.new (blk_alloc (new1 _ _) _), own_nil _ _ _ _, Trs.nil _ _, fun x hx => (by cases hx), Nat.le_succ _, Nat.le_refl _, by unfold DSt.new; simp only [List.length_replicate]; exact HN.out.2, Nat.zero_le _, Nat.zero_le _⟩, below_alloc (below_alloc (Below.refl _ _) _) _⟩
  generalize ((w.alloc (.cells (cells8 (List.replicate (n * 64) 0)) 117)).alloc (.cells #[.slice (some ⟨w.heap.size, 0, none⟩) n n, .slice none 0 0, .bool false, .int .i64 0, .int .i64 0, .bool false, .slice none 0 0] 115)) = w2 at P0 ⊢
  go_loopg [27] n (fun j t wr => ∃ (i : Nat), i + j = n ∧ t = .int .i64 (i : Int) ∧ wr = w2)
  case atStart => exact ⟨0, by omega, rfl, rfl⟩
  case round =>
    obtain ⟨i, hin, rfl, rfl⟩ := hrel
    by_cases hi : i < n
    · have hiI : (i : Int) < (n : Int) := by omega
      have hi0 : ¬ ((i : Int) * 64 < 0) := by omega
      go_wp2
      go_roundg (gk - 1)
      all_goals first
        | omega
        | exact ⟨i + 1, by omega, by go_num, rfl⟩
    · have hiI : ¬ (i : Int) < (n : Int) := by omega
      obtain rfl : i = n := by omega
      go_wp2
      go_ret2
      exact ⟨_, rfl, ⟨_, P0.out.1⟩, P0.out.2⟩
set_option maxRecDepth 100000 in
set_option maxHeartbeats 4000000 in
theorem size_c {base p gs : Nat} {hv cv : Value} {d : DSt} {w : World} (h : Dk base p gs hv cv d w) (n : Nat) (hn : n = d.S.length) : Calls Tryd.prog 68 #[.pointer (some ⟨p, 0, none⟩)] w fun e w' => e = .returned (.int .i64 n) ∧ w' = w := by
  have c0 := h.cells.1
  rw [← hn] at c0
  clear h hn
  go_enter Tryd.func68, Tryd.ntmps68
  go_wp2
  go_ret
  exact ⟨rfl, rfl⟩
/-- Another choice. -/
theorem Dk.choose {base p gs : Nat} {hv cv : Value} {d : DSt} {w : World} (h : Dk base p gs hv cv d w) (cv' : Value) (ch' : List Bool) (hT : Trs base w cv' ch') (hk : ch'.length ≤ 4096) :
    Dk base p gs hv cv' { d with ch := ch' } (w.setCell ⟨p, 6, none⟩ cv') ∧ Mv w (w.setCell ⟨p, 6, none⟩ cv') ∧ Below base w (w.setCell ⟨p, 6, none⟩ cv') := by
  obtain ⟨cells, hty⟩ := h.s.ty
  have hmv := Mv.set h.o (.inl rfl) 6 cv'
  exact ⟨⟨blk_put h.o 6 cv' rfl, h.s.move (Below.heap_setCell w _ cv' gs (ne_types hty h.o (by decide))), own_move h.h (fun k hk => Below.heap_setCell w _ cv' k (own_types h.h h.o (by decide) k hk)), hT.mv hmv, h.h64, h.bp, h.bs, h.n1, h.m1, hk⟩, hmv, (Below.refl base w).setCell h.bp _⟩
/-- Started anew. -/
def DSt.start (d : DSt) : DSt := { d with down := false, set := false, ch := [] }
set_option maxRecDepth 100000 in
set_option maxHeartbeats 4000000 in
theorem start_c {base p gs : Nat} {hv cv : Value} {d : DSt} {w : World} (h : Dk base p gs hv cv d w) : Calls Tryd.prog 29 #[.pointer (some ⟨p, 0, none⟩)] w fun e w' => e = .returned (.tuple #[]) ∧ Dk base p gs hv (.slice none 0 0) d.start w' ∧ Mv w w' ∧ Below base w w' := by
  have P1 := h.step (d' := { d with down := false }) 2 (.bool false) rfl rfl rfl rfl
  have P2 := P1.1.step (d' := { d with down := false, set := false }) 5 (.bool false) rfl rfl rfl rfl
  have P3 := P2.1.choose (.slice none 0 0) [] (Trs.nil _ _) (by decide)
  have c2 := h.cells.2.2.1
  have f2 := blk_frozen h.o 2
  have c5 := P1.1.cells.2.2.2.2.2.1
  have f5 := blk_frozen P1.1.o 5
  have c6 := P2.1.cells.2.2.2.2.2.2
  have f6 := blk_frozen P2.1.o 6
  have HP := Aside0.mk (And.intro P1 (And.intro P2 P3))
  clear h P1 P2 P3
  go_enter Tryd.func29, Tryd.ntmps29
  go_wp2
  (try simp only [Exit.inBlock, Exit.then]); first | refine bodyPost_end (results_none rfl _ _ _) rfl ?_ | refine bodyPost_ret (results_none rfl _ _ _) rfl ?_
  exact ⟨rfl, HP.out.2.2.1, HP.out.1.2.1.trans (HP.out.2.1.2.1.trans HP.out.2.2.2.1), HP.out.1.2.2.trans (HP.out.2.1.2.2.trans HP.out.2.2.2.2)⟩
end Go.Proofs.YtbenedckmapjoaaDoor.D
namespace Go.Proofs.YtbenedckmapjoaaDoor.D
open Go.RowKit Go.Proofs.YtbenedckmapjoaaDoor.H Go.Proofs.YtbenedckmapjoaaDoor.F Go.Proofs.YtbenedckmapjoaaDoorW.PrintWords Go.Proofs.YtbenedckmapjoaaDoorW.PrintLast Go.Proofs.YtbenedckmapjoaaDoorW.PrintMore
set_option linter.unusedVariables false
set_option linter.unusedSimpArgs false
theorem info_bool : (Tryd.prog.info? 4).map (fun i => (i.zero, i.size, i.bytes)) = some (some (.bool false), 1, 1) := by kernel_rfl
/-- The stroke, and the choice. -/
def DSt.setAt (d : DSt) (k : Nat) (l : List Bool) : DSt := { d with set := true, left := (k : Int), ch := l }
theorem trs_of {base : Nat} {w : World} {v : Value} {l : List Bool} {ok : Nat → Prop} (h : Kd.bool.R 4 w base ok v l) : Trs base w v l := by
  have ho := Kd.own_of_R (enc := Value.bool) (h1 := fun _ => rfl) h
  obtain ⟨h1, h2⟩ := ho
  rcases h2 with ⟨rfl, h2⟩ | ⟨g, cap, cur, rfl, hg, hh, hc, hm, hs, ht⟩
  · rw [List.length_eq_zero_iff] at h2
    subst h2
    exact Trs.nil _ _
  · refine ⟨_, _, rfl, hc, fun hn => ⟨g, cur, rfl, hg, hh, fun i hi => ?_⟩⟩
    have h3 : (cur.toList.take (l.length * 1))[i]? = (encs Value.bool l)[i]? := by rw [ht]
    rw [List.getElem?_take_of_lt (by omega)] at h3
    rw [Array.getElem?_toList] at h3
    rw [h3]
    unfold encs
    rw [List.getElem?_map, List.getElem?_eq_getElem hi, List.getD_eq_getElem?_getD, List.getElem?_eq_getElem hi]
    rfl
set_option maxRecDepth 100000 in
set_option maxHeartbeats 4000000 in
theorem set_c {base p gs : Nat} {hv cv : Value} {d : DSt} {w : World} (h : Dk base p gs hv cv d w) (k : Nat) (hk : k ≤ 1000000) (l : List Bool) (A : Option Addr) (n c : Nat) (hn : n = l.length) (hl : l.length ≤ 4096) (hC : Kd.bool.C w A n l) :
    Calls Tryd.prog 27 #[.pointer (some ⟨p, 0, none⟩), .int .i64 k, .slice A n c] w fun e w' => e = .returned (.int .i64 0) ∧ (∃ cv', Dk base p gs hv cv' (d.setAt k l) w') ∧ Mv w w' ∧ Below base w w' := by
  have hlt := h.lt
  have H := Aside0.mk (And.intro h (And.intro hn (And.intro hl (And.intro hC hlt))))
  have hnI : (n : Int) ≤ 4096 := by omega
  have hk0 : ¬ ((k : Int) < 0) := by omega
  clear h hn hl hC hlt
  go_enter Tryd.func27, Tryd.ntmps27
  go_upto_region 8 with (first
    | ((with_reducible refine gate_builtin (b := .append) (xs := #[.const (.slice none 0 0), .tmp 21]) rfl ?_); at_builtin; refine Kd.R_append_rows Kd.bool (w0 := w) base rfl (.const (.slice none 0 0)) (.tmp 21) 62 4 (.bool false) 1 rfl Tryd.underlying62 info_bool rfl (by decide) (by omega) (.slice none 0 0) ([] : List Bool) l _ _ _ (fun k => base ≤ k) (fun _ => False) rfl rfl (Kd.R_nil _ _ _ _ _) H.out.2.2.2.1 (fun _ _ h => h) (fun _ h => h.elim) (fun k hk => Nat.le_trans H.out.2.2.2.2 hk) (Below.refl _ _) H.out.2.2.2.2 (by show (0 + n) * 1 ≤ _; omega) ?_
       intro v1 w1 ho1 hb1 hg1 hat1
       have hbw : Below w.heap.size w w1 := ⟨hg1.os, hg1.tape, hg1.output, hg1.size, fun k hk => hg1.block k hk (by simp [Value.ownBlock])⟩
       have Q0 := H.out.1.below hbw
       have Q1 := Q0.step (d' := { d with set := true }) 5 (.bool true) rfl rfl rfl rfl
       have Q2 := Q1.1.step (d' := { d with set := true, left := (k : Int) }) 4 (.int .i64 (k : Int)) rfl rfl rfl rfl
       have hT := (((trs_of ho1).mv Q1.2.1).mv Q2.2.1)
       rw [List.nil_append] at hT
       have Q3 := Q2.1.choose v1 l hT H.out.2.2.1
       have c5 := Q0.cells.2.2.2.2.2.1
       have f5 := blk_frozen Q0.o 5
       have c4 := Q1.1.cells.2.2.2.2.1
       have f4 := blk_frozen Q1.1.o 4
       have c6 := Q2.1.cells.2.2.2.2.2.2
       have f6 := blk_frozen Q2.1.o 6
       have HQ := Aside0.mk (And.intro Q3.1 (And.intro ((Mv.of hbw).trans (Q1.2.1.trans (Q2.2.1.trans Q3.2.1))) ((below_step' (Below.refl base w) hbw H.out.2.2.2.2).trans (Q1.2.2.trans (Q2.2.2.trans Q3.2.2)))))
       obtain ⟨A1, q1, rfl⟩ := Kd.R_slice ho1
       clear ho1 hb1 hg1 hat1 hbw Q0 Q1 Q2 Q3 hT))
  go_wp2
  go_ret
  exact ⟨rfl, ⟨_, HQ.out.1⟩, HQ.out.2⟩
end Go.Proofs.YtbenedckmapjoaaDoor.D
namespace Go.Proofs.YtbenedckmapjoaaDoor.D
open Go.RowKit Go.Proofs.YtbenedckmapjoaaDoor.H Go.Proofs.YtbenedckmapjoaaDoor.F Go.Proofs.YtbenedckmapjoaaDoorW.PrintWords Go.Proofs.YtbenedckmapjoaaDoorW.PrintLast Go.Proofs.YtbenedckmapjoaaDoorW.PrintMore
set_option linter.unusedVariables false
set_option linter.unusedSimpArgs false
def Hs (k : Nat) (b : List Int) : Nat → List (Int × List Int)
  | 0 => []
  | i + 1 => Hs k b i ++ [(((k + i : Nat) : Int), sect b i)]
theorem Hs_length (k : Nat) (b : List Int) : ∀ i, (Hs k b i).length = i
  | 0 => rfl
  | i + 1 => by rw [Hs, List.length_append, Hs_length k b i]; rfl
theorem Hs_get (k : Nat) (b : List Int) : ∀ (i j : Nat), j < i → (Hs k b i).getD j (0, []) = (((k + j : Nat) : Int), sect b j)
  | 0, j, h => absurd h (Nat.not_lt_zero j)
  | i + 1, j, h => by
    rw [Hs]
    by_cases e : j = i
    · subst e
      rw [getD_app2 _ _ _ _ (by rw [Hs_length]; exact Nat.le_refl _), Hs_length, Nat.sub_self]
      rfl
    · rw [getD_app1 _ _ _ _ (by rw [Hs_length]; omega), Hs_get k b i j (by omega)]
theorem off_false {d : DSt} (h : d.set = false) : d.off = false := by unfold DSt.off; rw [h]; rfl
theorem saves_quiet (d : DSt) (k : Nat) (b : List Int) (hs : d.set = false) : ∀ i, (d.saves k b i).2 = 0 ∧ (d.saves k b i).1.H = d.H ++ Hs k b i ∧ (d.saves k b i).1.S = d.S ∧ (d.saves k b i).1.set = false ∧ (d.saves k b i).1.down = d.down ∧ (d.saves k b i).1.ch = d.ch
  | 0 => ⟨rfl, by rw [Hs, List.append_nil]; rfl, rfl, hs, rfl, rfl⟩
  | i + 1 => by
    obtain ⟨h1, h2, h3, h4, h5, h6⟩ := saves_quiet d k b hs i
    rw [DSt.saves, if_pos h1]
    unfold DSt.write
    rw [off_false h4, if_neg (by decide)]
    obtain ⟨s1, s2, s3, s4, s5⟩ := stroke_same ((d.saves k b i).1.hold (k + i) (sect b i))
    refine ⟨rfl, ?_, s1.trans h3, s5.trans h4, s3.trans h5, s4.trans h6⟩
    rw [s2, Hs, ← List.append_assoc, ← h2]
    rfl
theorem flush_quiet (d : DSt) (hs : d.set = false) : d.flush = (d.stroke.put, 0) := by unfold DSt.flush; rw [off_false hs, if_neg (by decide)]
theorem puts_get (b : List Int) (S : List (List Int)) (q : Nat) (hq : q ≤ S.length) : ∀ i, i ≤ q → ∀ j, (putsL (fun _ => true) (Hs 0 b q) S i).getD j [] = if j < i then sect b j else S.getD j []
  | 0, _, j => by rw [putsL, if_neg (Nat.not_lt_zero j)]
  | i + 1, hi, j => by
    rw [putsL, if_pos rfl, Hs_get 0 b q i (by omega)]
    rw [show (((0 + i : Nat) : Int), sect b i).1.toNat = i by show ((0 + i : Nat) : Int).toNat = i; omega]
    rw [getD_set_gen _ _ _ _ _ (by rw [putsL_length]; omega), puts_get b S q hq i (by omega) j]
    by_cases e : i = j
    · subst e
      rw [if_pos rfl, if_pos (Nat.lt_succ_self i)]
    · rw [if_neg e]
      by_cases h : j < i
      · rw [if_pos h, if_pos (by omega)]
      · rw [if_neg h, if_neg (by omega)]
theorem sect_take (b : List Int) (i : Nat) (h : i * 64 ≤ b.length) : (sect b i).take (b.length - i * 64) = (b.drop (i * 64)).take 64 := by
  unfold sect
  have hl : (b.drop (i * 64)).length = b.length - i * 64 := List.length_drop
  by_cases h2 : 64 ≤ b.length - i * 64
  · have h3 : ((b.drop (i * 64)).take 64).length = 64 := by rw [List.length_take, hl]; omega
    rw [h3, Nat.sub_self, List.replicate_zero, List.append_nil, List.take_of_length_le (by rw [h3]; exact h2)]
  · have h3 : ((b.drop (i * 64)).take 64).length = b.length - i * 64 := by rw [List.length_take, hl]; omega
    rw [List.take_append, h3, Nat.sub_self, List.take_zero, List.append_nil, List.take_of_length_le (by rw [h3]; exact Nat.le_refl _)]
theorem sees_take (d : DSt) (b : List Int) (q : Nat) (hd : ∀ i, i < q → d.see (0 + i) = sect b i) (hq : ∀ i, i < q → i * 64 ≤ b.length) : ∀ i, i ≤ q → (d.sees 0 i).length = i * 64 ∧ (d.sees 0 i).take b.length = b.take (i * 64)
  | 0, _ => ⟨rfl, by rw [DSt.sees, List.take_nil, Nat.zero_mul, List.take_zero]⟩
  | i + 1, hi => by
    obtain ⟨h1, h2⟩ := sees_take d b q hd hq i (by omega)
    have h3 := hq i (by omega)
    refine ⟨by rw [DSt.sees, List.length_append, h1, hd i (by omega), sect_length]; omega, ?_⟩
    rw [DSt.sees, List.take_append, h1, h2, hd i (by omega), sect_take b i h3]
    rw [show (i + 1) * 64 = i * 64 + 64 by omega, List.take_add]
/-- What is saved at the first sector and flushed is what is loaded. -/
theorem disk_round (d : DSt) (b : List Int) (hs : d.set = false) (hH : d.H = []) (hq : needN b.length ≤ d.S.length) :
    (d.saves 0 b (needN b.length)).2 = 0 ∧ (d.saves 0 b (needN b.length)).1.set = false ∧ (d.saves 0 b (needN b.length)).1.down = d.down ∧
    (d.saves 0 b (needN b.length)).1.flush.2 = 0 ∧ (d.saves 0 b (needN b.length)).1.flush.1.set = false ∧ (d.saves 0 b (needN b.length)).1.flush.1.H = [] ∧ (d.saves 0 b (needN b.length)).1.flush.1.down = d.down ∧ (d.saves 0 b (needN b.length)).1.flush.1.S.length = d.S.length ∧
    ((d.saves 0 b (needN b.length)).1.flush.1.sees 0 (needN b.length)).take b.length = b := by
  obtain ⟨h1, h2, h3, h4, h5, h6⟩ := saves_quiet d 0 b hs (needN b.length)
  have hq64 : ∀ i, i < needN b.length → i * 64 ≤ b.length := fun i hi => by unfold needN at hi; omega
  have hqn : b.length ≤ needN b.length * 64 := by unfold needN; omega
  obtain ⟨q, hqq⟩ : ∃ q, q = needN b.length := ⟨_, rfl⟩
  rw [← hqq] at h1 h2 h3 h4 h5 h6 hq hq64 hqn ⊢
  obtain ⟨r, hr⟩ : ∃ r, r = (d.saves 0 b q).1 := ⟨_, rfl⟩
  rw [← hr] at h2 h3 h4 h5 h6 ⊢
  rw [hH, List.nil_append] at h2
  rw [flush_quiet r h4]
  obtain ⟨s1, s2, s3, s4, s5⟩ := stroke_same r
  refine ⟨h1, h4, h5, rfl, s5.trans h4, rfl, s3.trans h5, ?_, ?_⟩
  · show (putsL _ _ _ _).length = _
    rw [putsL_length, s1, h3]
  · have hsee : ∀ i, i < q → (r.stroke.put).see (0 + i) = sect b i := fun i hi => by
      rw [Nat.zero_add]
      show (putsL (fun _ => true) r.stroke.H r.stroke.S r.stroke.H.length).getD i [] = _
      rw [s2, s1, h2, h3, Hs_length, puts_get b d.S q hq q (Nat.le_refl _) i, if_pos hi]
    have := (sees_take r.stroke.put b q hsee hq64 q (Nat.le_refl _)).2
    rw [this, List.take_of_length_le hqn]
end Go.Proofs.YtbenedckmapjoaaDoor.D
