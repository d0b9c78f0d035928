/- Sums, differences and products of elements: the walks. -/
import Derived.Test.YtbenedckmapjoaaDoorY5
namespace Go.Proofs.YtbenedckmapjoaaDoor.F
open Go.RowKit Go.Proofs.YtbenedckmapjoaaDoor.H Go.Proofs.YtbenedckmapjoaaDoorW.PrintWords Go.Proofs.YtbenedckmapjoaaDoorW.PrintLast Go.Proofs.YtbenedckmapjoaaDoorW.PrintMore
set_option linter.unusedVariables false
set_option linter.unusedSimpArgs false
theorem run_row {P : Program} {a : Act} {oi : Oper} (w : World) (ty : TypeId) (x : Operand) (ho : oi.op = .load ty x) (g : Nat) (hx : a.eval x = .pointer (some ⟨g, 0, none⟩)) (t : TypeId) (cs : Array Value) (fr : Nat × Nat) (d : TypeDesc) (hg : w.heap[g]? = some (.cells cs t fr))
    (hu : P.underlying ty = some d) (hd : (match d with | .struct _ | .array _ _ => true | _ => false) = true) (hi : (P.info? ty).map (·.size) = some cs.size) : (execOp a.eval oi).run P w = .ok (.value (.agg cs)) w := by
  unfold execOp
  simp only [ho, hx, Instr.loadAt, Instr.sureAddr, Sem.run_bind, Sem.run_pure, Result.andThen_ok, run_loadVar_row w g t ty cs fr d hg hu hd hi]
theorem run_put {P : Program} {a : Act} {oi : Oper} (w : World) (ty : TypeId) (x y : Operand) (ho : oi.op = .store ty x y) (g : Nat) (cells : Array Value) (hx : a.eval x = .pointer (some ⟨g, 0, none⟩)) (hy : a.eval y = .agg cells) (t : TypeId) (old : Array Value)
    (hg : w.heap[g]? = some (.cells old t (0, 0))) (hi : (P.info? ty).map (·.size) = some cells.size) (hold : old.size = cells.size) (h1 : cells.all (·.oneCell') = true) : (execOp a.eval oi).run P w = .ok .skip (w.setRow g cells) := by
  unfold execOp
  simp only [ho, hx, hy, Instr.storeAt, Instr.sureAddr, Sem.run_bind, Sem.run_pure, Result.andThen_ok, run_storeVar_row w g t ty old cells hg hi hold h1]
theorem Own2.below {w wr w1 : World} {l m : List Int} (h : Own2 w l m wr) (hb : Below wr.heap.size wr w1) : Own2 w l m w1 := ⟨h.a.below hb, h.c.below hb, h.z.below hb, below_step h.b hb⟩
theorem size5 {x : List Int} (h : x.length = 5) : (cells64 x).size = 5 := by simp [cells64, h]
theorem info5 : (Tryd.prog.info? 50).map (·.size) = some 5 := by kernel_rfl
theorem ones64 (x : List Int) : (cells64 x).all (·.oneCell') = true := by simp [cells64, Value.oneCell']
theorem weak_d (x : List Int) (hx : x.length = 5) (w : World) : Calls Tryd.prog 105 #[.agg (cells64 x)] w fun e w' => e = .returned (.agg (cells64 (wk1 (wk1 x)))) ∧ Below w.heap.size w w' := weak_c x hx w
theorem Reduce_d (x : List Int) (hx : x.length = 5) (w : World) : Calls Tryd.prog 104 #[.agg (cells64 x)] w fun e w' => e = .returned (.agg (cells64 (red x))) ∧ Below w.heap.size w w' := Reduce_c x hx w
theorem add_d (x y : List Int) (hx : x.length = 5) (hy : y.length = 5) (_ : Lim x) (_ : Lim y) (w : World) : Calls Tryd.prog 110 #[.agg (cells64 x), .agg (cells64 y)] w fun e w' => e = .returned (.agg (cells64 (adS x y 5))) ∧ Below w.heap.size w w' := add_c x y hx hy w
theorem sub_d (x y : List Int) (hx : x.length = 5) (hy : y.length = 5) (_ : Lim x) (_ : Lim y) (w : World) : Calls Tryd.prog 109 #[.agg (cells64 x), .agg (cells64 y)] w fun e w' => e = .returned (.agg (cells64 (sbS (fpS x 4) y 5))) ∧ Below w.heap.size w w' := sub_c x y hx hy w
theorem mul_d (x y : List Int) (hx : x.length = 5) (hy : y.length = 5) (hLx : Lim x) (hLy : Lim y) (w : World) : Calls Tryd.prog 106 #[.agg (cells64 x), .agg (cells64 y)] w fun e w' => e = .returned (.agg (cells64 (mulL x y))) ∧ Below w.heap.size w w' := mul_c x y hx hy hLx hLy w
theorem wk2_length (x : List Int) : (wk1 (wk1 x)).length = x.length := by rw [wk1_length, wk1_length]
theorem mulL_length (x y : List Int) : (mulL x y).length = 5 := by unfold mulL; rw [wk1_length, wk1_length, mEnd_length]
theorem sub_length (x y : List Int) (h : x.length = 5) : (sbS (fpS x 4) y 5).length = 5 := by rw [sbS_length, fpS_length, h]
theorem add_length (x y : List Int) (h : x.length = 5) : (adS x y 5).length = 5 := by rw [adS_length, h]
def MulT.T1 : Bool × List (List Nat × List Nat) := (true, [([], []), ([0], [0]), ([], []), ([2, 1], [2]), ([1, 3, 3], [1, 3]), ([4, 4], [4]), ([5, 5, 0, 1, 2, 3, 4, 5], [5])])
def MulT.B1 : List Nat := [0, 1, 0, 7, 15, 31, 63]
theorem MulT.tab1 : rtab .any (opsOf Tryd.f57 1) = MulT.T1 := by kernel_rfl
theorem MulT.bits1 : waitsOk MulT.T1.2 MulT.B1 = true := by kernel_rfl
set_option maxRecDepth 100000 in
set_option maxHeartbeats 4000000 in
theorem Mul_w (x y x2 y2 r1 r : List Int) (hx : x.length = 5) (hy : y.length = 5) (hr : r.length = 5) (w : World)
    (k1 : ∀ w : World, Calls Tryd.prog 105 #[.agg (cells64 x)] w fun e w' => e = .returned (.agg (cells64 x2)) ∧ Below w.heap.size w w') (k2 : ∀ w : World, Calls Tryd.prog 105 #[.agg (cells64 y)] w fun e w' => e = .returned (.agg (cells64 y2)) ∧ Below w.heap.size w w')
    (k3 : ∀ w : World, Calls Tryd.prog 106 #[.agg (cells64 x2), .agg (cells64 y2)] w fun e w' => e = .returned (.agg (cells64 r1)) ∧ Below w.heap.size w w') (k4 : ∀ w : World, Calls Tryd.prog 104 #[.agg (cells64 r1)] w fun e w' => e = .returned (.agg (cells64 r)) ∧ Below w.heap.size w w') :
    Calls Tryd.prog 57 #[.agg (cells64 x), .agg (cells64 y)] w fun e w' => e = .returned (.agg (cells64 r)) ∧ Below w.heap.size w w' := by
  have HX := Lib.hid (And.intro (size5 hx) (And.intro (size5 hy) (size5 hr)))
  have HK := Aside0.mk (And.intro k1 (And.intro k2 (And.intro k3 k4)))
  clear hx hy hr k1 k2 k3 k4
  go_enter Tryd.func57, Tryd.ntmps57
  go_upto_region 1 with (fail)
  have P0 : Aside0 (Own2 w x y (((w.alloc (.cells (cells64 x) 50)).alloc (.cells (cells64 y) 50)).alloc (.cells #[.int .u64 0, .int .u64 0, .int .u64 0, .int .u64 0, .int .u64 0] 50))) := ⟨Own2.of w x y⟩
  generalize (((w.alloc (.cells (cells64 x) 50)).alloc (.cells (cells64 y) 50)).alloc (.cells #[.int .u64 0, .int .u64 0, .int .u64 0, .int .u64 0, .int .u64 0] 50)) = w0 at P0 ⊢
  refine start_ (n := 7) (S := fun w' => Arr w.heap.size x w' ∧ Arr (w.heap.size + 1) y w') (ds := [6]) (fl 7 0) (by kernel_rfl) rfl rfl ⟨P0.out.a, P0.out.c⟩ (fun hHeld => ?_)
  refine with_tabW MulT.tab1 MulT.bits1 (fun HT_ HW_ => ?_)
  refine takeA (i := 0) (N := some 5) (v := .agg (cells64 x)) (fl 7 1) (take_ofW HT_.out HW_.out (by kernel_rfl)) hHeld ?_ (hy := fun w' s0 => run_row w' 50 (.tmp 2) rfl w.heap.size (by rfl) 50 (cells64 x) (0, 0) _ s0.1 Tryd.underlying50 rfl (by rw [HX.out.1]; exact info5))
  refine takeA (i := 2) (N := some 7) (v := .agg (cells64 y)) (fl 7 5) (take_ofW HT_.out HW_.out (by kernel_rfl)) hHeld ?_ (hy := fun w' s0 => run_row w' 50 (.tmp 3) rfl (w.heap.size + 1) (by rfl) 50 (cells64 y) (0, 0) _ s0.2 Tryd.underlying50 rfl (by rw [HX.out.2.1]; exact info5))
  refine one_ (i := 1) (N := some 6) (fl 7 7) rfl rfl (one_of HT_.out (by kernel_rfl)) (by decide) (fun K hK => ?_)
  refine goes_ Tryd.func105 (by kernel_rfl) rfl #[.agg (cells64 x)] (by rfl) rfl rfl eqA ?_
  with_reducible refine (HK.out.1 _).mono ?_
  rintro e w1 ⟨rfl, hb⟩
  refine ⟨_, rfl, ?_⟩
  have P1 : Aside0 (Own2 w x y w1) := ⟨P0.out.below (by first | exact hb | exact below_step (below_drew1 (Below.refl _ _)) hb)⟩
  refine hK.out _ _ ⟨P1.out.a, P1.out.c⟩ (fun hHeld => ?_)
  clear hK K hb P0
  refine normA (some 6) ?_
  refine one_ (i := 3) (N := some 8) (fl 7 15) rfl rfl (one_of HT_.out (by kernel_rfl)) (by decide) (fun K hK => ?_)
  refine goes_ Tryd.func105 (by kernel_rfl) rfl #[.agg (cells64 y)] (by rfl) rfl rfl eqA ?_
  with_reducible refine (HK.out.2.1 _).mono ?_
  rintro e w2 ⟨rfl, hb⟩
  refine ⟨_, rfl, ?_⟩
  have P2 : Aside0 (Own2 w x y w2) := ⟨P1.out.below (by first | exact hb | exact below_step (below_drew1 (Below.refl _ _)) hb)⟩
  refine hK.out _ _ ⟨P2.out.a, P2.out.c⟩ (fun hHeld => ?_)
  clear hK K hb P1
  refine normA (some 8) ?_
  refine one_ (i := 4) (N := some 9) (fl 7 31) rfl rfl (one_of HT_.out (by kernel_rfl)) (by decide) (fun K hK => ?_)
  refine goes_ Tryd.func106 (by kernel_rfl) rfl #[.agg (cells64 x2), .agg (cells64 y2)] (by rfl) rfl rfl eqA ?_
  with_reducible refine (HK.out.2.2.1 _).mono ?_
  rintro e w3 ⟨rfl, hb⟩
  refine ⟨_, rfl, ?_⟩
  have P3 : Aside0 (Own2 w x y w3) := ⟨P2.out.below (by first | exact hb | exact below_step (below_drew1 (Below.refl _ _)) hb)⟩
  refine hK.out _ _ ⟨P3.out.a, P3.out.c⟩ (fun hHeld => ?_)
  clear hK K hb P2
  refine normA (some 9) ?_
  refine one_ (i := 5) (N := some 10) (fl 7 63) rfl rfl (one_of HT_.out (by kernel_rfl)) (by decide) (fun K hK => ?_)
  refine goes_ Tryd.func104 (by kernel_rfl) rfl #[.agg (cells64 r1)] (by rfl) rfl rfl eqA ?_
  with_reducible refine (HK.out.2.2.2 _).mono ?_
  rintro e w4 ⟨rfl, hb⟩
  refine ⟨_, rfl, ?_⟩
  have P4 : Aside0 (Own2 w x y w4) := ⟨P3.out.below (by first | exact hb | exact below_step (below_drew1 (Below.refl _ _)) hb)⟩
  refine hK.out _ _ ⟨P4.out.a, P4.out.c⟩ (fun hHeld => ?_)
  clear hK K hb P3
  refine normA (some 10) ?_
  refine last_ (i := 6) (N := none) (fl 7 127) rfl rfl (one_of HT_.out (by kernel_rfl)) (by decide) (fun K hK => ?_)
  refine skip_ (w1 := w4.setRow (w.heap.size + 1 + 1) (cells64 r)) (by rfl) rfl (run_put w4 50 (.tmp 4) (.tmp 10) rfl (w.heap.size + 1 + 1) (cells64 r) (by rfl) (by rfl) 50 (cells64 [0, 0, 0, 0, 0]) P4.out.z (by rw [HX.out.2.2]; exact info5) (by rw [HX.out.2.2]; rfl) (ones64 _)) ?_
  refine hK.out _ _ ?_
  clear hK K
  refine done_ (done_of HT_.out (by kernel_rfl)) ?_
  go_wp2
  refine bodyPost_ret (v := .agg (cells64 r)) (results_cell_row (by rfl) _ _ (w.heap.size + 1 + 1) 50 (cells64 r) (0, 0) _ (by rfl) (setRow_heap _ _ _ _ _ _ P4.out.z) Tryd.underlying50 rfl (by rw [HX.out.2.2]; exact info5)) rfl ⟨rfl, below_setRow P4.out.b (by omega) _⟩
theorem Mul_c (x y : List Int) (hx : W5 x) (hy : W5 y) (w : World) :
    Calls Tryd.prog 57 #[.agg (cells64 x), .agg (cells64 y)] w fun e w' => e = .returned (.agg (cells64 (red (mulL (wk1 (wk1 x)) (wk1 (wk1 y)))))) ∧ Below w.heap.size w w' :=
  Mul_w x y _ _ _ _ hx.1 hy.1 (by rw [red_length]; exact (mulL_length _ _)) w (weak_d x hx.1) (weak_d y hy.1) (mul_d _ _ (wk2_ok hx).1.1 (wk2_ok hy).1.1 ((wk2_ok hx).1.lim (by decide)) ((wk2_ok hy).1.lim (by decide))) (Reduce_d _ (mulL_length _ _))
def AddT.T1 : Bool × List (List Nat × List Nat) := (true, [([], []), ([0], [0]), ([], []), ([2, 1], [2]), ([1, 3, 3], [1, 3]), ([4, 4], [4]), ([5, 5, 0, 1, 2, 3, 4, 5], [5])])
def AddT.B1 : List Nat := [0, 1, 0, 7, 15, 31, 63]
theorem AddT.tab1 : rtab .any (opsOf Tryd.f56 1) = AddT.T1 := by kernel_rfl
theorem AddT.bits1 : waitsOk AddT.T1.2 AddT.B1 = true := by kernel_rfl
set_option maxRecDepth 100000 in
set_option maxHeartbeats 4000000 in
theorem Add_w (x y x2 y2 r1 r : List Int) (hx : x.length = 5) (hy : y.length = 5) (hr : r.length = 5) (w : World)
    (k1 : ∀ w : World, Calls Tryd.prog 105 #[.agg (cells64 x)] w fun e w' => e = .returned (.agg (cells64 x2)) ∧ Below w.heap.size w w') (k2 : ∀ w : World, Calls Tryd.prog 105 #[.agg (cells64 y)] w fun e w' => e = .returned (.agg (cells64 y2)) ∧ Below w.heap.size w w')
    (k3 : ∀ w : World, Calls Tryd.prog 110 #[.agg (cells64 x2), .agg (cells64 y2)] w fun e w' => e = .returned (.agg (cells64 r1)) ∧ Below w.heap.size w w') (k4 : ∀ w : World, Calls Tryd.prog 104 #[.agg (cells64 r1)] w fun e w' => e = .returned (.agg (cells64 r)) ∧ Below w.heap.size w w') :
    Calls Tryd.prog 56 #[.agg (cells64 x), .agg (cells64 y)] w fun e w' => e = .returned (.agg (cells64 r)) ∧ Below w.heap.size w w' := by
  have HX := Lib.hid (And.intro (size5 hx) (And.intro (size5 hy) (size5 hr)))
  have HK := Aside0.mk (And.intro k1 (And.intro k2 (And.intro k3 k4)))
  clear hx hy hr k1 k2 k3 k4
  go_enter Tryd.func56, Tryd.ntmps56
  go_upto_region 1 with (fail)
  have P0 : Aside0 (Own2 w x y (((w.alloc (.cells (cells64 x) 50)).alloc (.cells (cells64 y) 50)).alloc (.cells #[.int .u64 0, .int .u64 0, .int .u64 0, .int .u64 0, .int .u64 0] 50))) := ⟨Own2.of w x y⟩
  generalize (((w.alloc (.cells (cells64 x) 50)).alloc (.cells (cells64 y) 50)).alloc (.cells #[.int .u64 0, .int .u64 0, .int .u64 0, .int .u64 0, .int .u64 0] 50)) = w0 at P0 ⊢
  refine start_ (n := 7) (S := fun w' => Arr w.heap.size x w' ∧ Arr (w.heap.size + 1) y w') (ds := [6]) (fl 7 0) (by kernel_rfl) rfl rfl ⟨P0.out.a, P0.out.c⟩ (fun hHeld => ?_)
  refine with_tabW AddT.tab1 AddT.bits1 (fun HT_ HW_ => ?_)
  refine takeA (i := 0) (N := some 5) (v := .agg (cells64 x)) (fl 7 1) (take_ofW HT_.out HW_.out (by kernel_rfl)) hHeld ?_ (hy := fun w' s0 => run_row w' 50 (.tmp 2) rfl w.heap.size (by rfl) 50 (cells64 x) (0, 0) _ s0.1 Tryd.underlying50 rfl (by rw [HX.out.1]; exact info5))
  refine takeA (i := 2) (N := some 7) (v := .agg (cells64 y)) (fl 7 5) (take_ofW HT_.out HW_.out (by kernel_rfl)) hHeld ?_ (hy := fun w' s0 => run_row w' 50 (.tmp 3) rfl (w.heap.size + 1) (by rfl) 50 (cells64 y) (0, 0) _ s0.2 Tryd.underlying50 rfl (by rw [HX.out.2.1]; exact info5))
  refine one_ (i := 1) (N := some 6) (fl 7 7) rfl rfl (one_of HT_.out (by kernel_rfl)) (by decide) (fun K hK => ?_)
  refine goes_ Tryd.func105 (by kernel_rfl) rfl #[.agg (cells64 x)] (by rfl) rfl rfl eqA ?_
  with_reducible refine (HK.out.1 _).mono ?_
  rintro e w1 ⟨rfl, hb⟩
  refine ⟨_, rfl, ?_⟩
  have P1 : Aside0 (Own2 w x y w1) := ⟨P0.out.below (by first | exact hb | exact below_step (below_drew1 (Below.refl _ _)) hb)⟩
  refine hK.out _ _ ⟨P1.out.a, P1.out.c⟩ (fun hHeld => ?_)
  clear hK K hb P0
  refine normA (some 6) ?_
  refine one_ (i := 3) (N := some 8) (fl 7 15) rfl rfl (one_of HT_.out (by kernel_rfl)) (by decide) (fun K hK => ?_)
  refine goes_ Tryd.func105 (by kernel_rfl) rfl #[.agg (cells64 y)] (by rfl) rfl rfl eqA ?_
  with_reducible refine (HK.out.2.1 _).mono ?_
  rintro e w2 ⟨rfl, hb⟩
  refine ⟨_, rfl, ?_⟩
  have P2 : Aside0 (Own2 w x y w2) := ⟨P1.out.below (by first | exact hb | exact below_step (below_drew1 (Below.refl _ _)) hb)⟩
  refine hK.out _ _ ⟨P2.out.a, P2.out.c⟩ (fun hHeld => ?_)
  clear hK K hb P1
  refine normA (some 8) ?_
  refine one_ (i := 4) (N := some 9) (fl 7 31) rfl rfl (one_of HT_.out (by kernel_rfl)) (by decide) (fun K hK => ?_)
  refine goes_ Tryd.func110 (by kernel_rfl) rfl #[.agg (cells64 x2), .agg (cells64 y2)] (by rfl) rfl rfl eqA ?_
  with_reducible refine (HK.out.2.2.1 _).mono ?_
  rintro e w3 ⟨rfl, hb⟩
  refine ⟨_, rfl, ?_⟩
  have P3 : Aside0 (Own2 w x y w3) := ⟨P2.out.below (by first | exact hb | exact below_step (below_drew1 (Below.refl _ _)) hb)⟩
  refine hK.out _ _ ⟨P3.out.a, P3.out.c⟩ (fun hHeld => ?_)
  clear hK K hb P2
  refine normA (some 9) ?_
  refine one_ (i := 5) (N := some 10) (fl 7 63) rfl rfl (one_of HT_.out (by kernel_rfl)) (by decide) (fun K hK => ?_)
  refine goes_ Tryd.func104 (by kernel_rfl) rfl #[.agg (cells64 r1)] (by rfl) rfl rfl eqA ?_
  with_reducible refine (HK.out.2.2.2 _).mono ?_
  rintro e w4 ⟨rfl, hb⟩
  refine ⟨_, rfl, ?_⟩
  have P4 : Aside0 (Own2 w x y w4) := ⟨P3.out.below (by first | exact hb | exact below_step (below_drew1 (Below.refl _ _)) hb)⟩
  refine hK.out _ _ ⟨P4.out.a, P4.out.c⟩ (fun hHeld => ?_)
  clear hK K hb P3
  refine normA (some 10) ?_
  refine last_ (i := 6) (N := none) (fl 7 127) rfl rfl (one_of HT_.out (by kernel_rfl)) (by decide) (fun K hK => ?_)
  refine skip_ (w1 := w4.setRow (w.heap.size + 1 + 1) (cells64 r)) (by rfl) rfl (run_put w4 50 (.tmp 4) (.tmp 10) rfl (w.heap.size + 1 + 1) (cells64 r) (by rfl) (by rfl) 50 (cells64 [0, 0, 0, 0, 0]) P4.out.z (by rw [HX.out.2.2]; exact info5) (by rw [HX.out.2.2]; rfl) (ones64 _)) ?_
  refine hK.out _ _ ?_
  clear hK K
  refine done_ (done_of HT_.out (by kernel_rfl)) ?_
  go_wp2
  refine bodyPost_ret (v := .agg (cells64 r)) (results_cell_row (by rfl) _ _ (w.heap.size + 1 + 1) 50 (cells64 r) (0, 0) _ (by rfl) (setRow_heap _ _ _ _ _ _ P4.out.z) Tryd.underlying50 rfl (by rw [HX.out.2.2]; exact info5)) rfl ⟨rfl, below_setRow P4.out.b (by omega) _⟩
theorem Add_c (x y : List Int) (hx : W5 x) (hy : W5 y) (w : World) :
    Calls Tryd.prog 56 #[.agg (cells64 x), .agg (cells64 y)] w fun e w' => e = .returned (.agg (cells64 (red (adS (wk1 (wk1 x)) (wk1 (wk1 y)) 5)))) ∧ Below w.heap.size w w' :=
  Add_w x y _ _ _ _ hx.1 hy.1 (by rw [red_length]; exact (add_length _ _ (wk2_ok hx).1.1)) w (weak_d x hx.1) (weak_d y hy.1) (add_d _ _ (wk2_ok hx).1.1 (wk2_ok hy).1.1 ((wk2_ok hx).1.lim (by decide)) ((wk2_ok hy).1.lim (by decide))) (Reduce_d _ (add_length _ _ (wk2_ok hx).1.1))
def SubT.T1 : Bool × List (List Nat × List Nat) := (true, [([], []), ([0], [0]), ([], []), ([2, 1], [2]), ([1, 3, 3], [1, 3]), ([4, 4], [4]), ([5, 5, 0, 1, 2, 3, 4, 5], [5])])
def SubT.B1 : List Nat := [0, 1, 0, 7, 15, 31, 63]
theorem SubT.tab1 : rtab .any (opsOf Tryd.f54 1) = SubT.T1 := by kernel_rfl
theorem SubT.bits1 : waitsOk SubT.T1.2 SubT.B1 = true := by kernel_rfl
set_option maxRecDepth 100000 in
set_option maxHeartbeats 4000000 in
theorem Sub_w (x y x2 y2 r1 r : List Int) (hx : x.length = 5) (hy : y.length = 5) (hr : r.length = 5) (w : World)
    (k1 : ∀ w : World, Calls Tryd.prog 105 #[.agg (cells64 x)] w fun e w' => e = .returned (.agg (cells64 x2)) ∧ Below w.heap.size w w') (k2 : ∀ w : World, Calls Tryd.prog 105 #[.agg (cells64 y)] w fun e w' => e = .returned (.agg (cells64 y2)) ∧ Below w.heap.size w w')
    (k3 : ∀ w : World, Calls Tryd.prog 109 #[.agg (cells64 x2), .agg (cells64 y2)] w fun e w' => e = .returned (.agg (cells64 r1)) ∧ Below w.heap.size w w') (k4 : ∀ w : World, Calls Tryd.prog 104 #[.agg (cells64 r1)] w fun e w' => e = .returned (.agg (cells64 r)) ∧ Below w.heap.size w w') :
    Calls Tryd.prog 54 #[.agg (cells64 x), .agg (cells64 y)] w fun e w' => e = .returned (.agg (cells64 r)) ∧ Below w.heap.size w w' := by
  have HX := Lib.hid (And.intro (size5 hx) (And.intro (size5 hy) (size5 hr)))
  have HK := Aside0.mk (And.intro k1 (And.intro k2 (And.intro k3 k4)))
  clear hx hy hr k1 k2 k3 k4
  go_enter Tryd.func54, Tryd.ntmps54
  go_upto_region 1 with (fail)
  have P0 : Aside0 (Own2 w x y (((w.alloc (.cells (cells64 x) 50)).alloc (.cells (cells64 y) 50)).alloc (.cells #[.int .u64 0, .int .u64 0, .int .u64 0, .int .u64 0, .int .u64 0] 50))) := ⟨Own2.of w x y⟩
  generalize (((w.alloc (.cells (cells64 x) 50)).alloc (.cells (cells64 y) 50)).alloc (.cells #[.int .u64 0, .int .u64 0, .int .u64 0, .int .u64 0, .int .u64 0] 50)) = w0 at P0 ⊢
  refine start_ (n := 7) (S := fun w' => Arr w.heap.size x w' ∧ Arr (w.heap.size + 1) y w') (ds := [6]) (fl 7 0) (by kernel_rfl) rfl rfl ⟨P0.out.a, P0.out.c⟩ (fun hHeld => ?_)
  refine with_tabW SubT.tab1 SubT.bits1 (fun HT_ HW_ => ?_)
  refine takeA (i := 0) (N := some 5) (v := .agg (cells64 x)) (fl 7 1) (take_ofW HT_.out HW_.out (by kernel_rfl)) hHeld ?_ (hy := fun w' s0 => run_row w' 50 (.tmp 2) rfl w.heap.size (by rfl) 50 (cells64 x) (0, 0) _ s0.1 Tryd.underlying50 rfl (by rw [HX.out.1]; exact info5))
  refine takeA (i := 2) (N := some 7) (v := .agg (cells64 y)) (fl 7 5) (take_ofW HT_.out HW_.out (by kernel_rfl)) hHeld ?_ (hy := fun w' s0 => run_row w' 50 (.tmp 3) rfl (w.heap.size + 1) (by rfl) 50 (cells64 y) (0, 0) _ s0.2 Tryd.underlying50 rfl (by rw [HX.out.2.1]; exact info5))
  refine one_ (i := 1) (N := some 6) (fl 7 7) rfl rfl (one_of HT_.out (by kernel_rfl)) (by decide) (fun K hK => ?_)
  refine goes_ Tryd.func105 (by kernel_rfl) rfl #[.agg (cells64 x)] (by rfl) rfl rfl eqA ?_
  with_reducible refine (HK.out.1 _).mono ?_
  rintro e w1 ⟨rfl, hb⟩
  refine ⟨_, rfl, ?_⟩
  have P1 : Aside0 (Own2 w x y w1) := ⟨P0.out.below (by first | exact hb | exact below_step (below_drew1 (Below.refl _ _)) hb)⟩
  refine hK.out _ _ ⟨P1.out.a, P1.out.c⟩ (fun hHeld => ?_)
  clear hK K hb P0
  refine normA (some 6) ?_
  refine one_ (i := 3) (N := some 8) (fl 7 15) rfl rfl (one_of HT_.out (by kernel_rfl)) (by decide) (fun K hK => ?_)
  refine goes_ Tryd.func105 (by kernel_rfl) rfl #[.agg (cells64 y)] (by rfl) rfl rfl eqA ?_
  with_reducible refine (HK.out.2.1 _).mono ?_
  rintro e w2 ⟨rfl, hb⟩
  refine ⟨_, rfl, ?_⟩
  have P2 : Aside0 (Own2 w x y w2) := ⟨P1.out.below (by first | exact hb | exact below_step (below_drew1 (Below.refl _ _)) hb)⟩
  refine hK.out _ _ ⟨P2.out.a, P2.out.c⟩ (fun hHeld => ?_)
  clear hK K hb P1
  refine normA (some 8) ?_
  refine one_ (i := 4) (N := some 9) (fl 7 31) rfl rfl (one_of HT_.out (by kernel_rfl)) (by decide) (fun K hK => ?_)
  refine goes_ Tryd.func109 (by kernel_rfl) rfl #[.agg (cells64 x2), .agg (cells64 y2)] (by rfl) rfl rfl eqA ?_
  with_reducible refine (HK.out.2.2.1 _).mono ?_
  rintro e w3 ⟨rfl, hb⟩
  refine ⟨_, rfl, ?_⟩
  have P3 : Aside0 (Own2 w x y w3) := ⟨P2.out.below (by first | exact hb | exact below_step (below_drew1 (Below.refl _ _)) hb)⟩
  refine hK.out _ _ ⟨P3.out.a, P3.out.c⟩ (fun hHeld => ?_)
  clear hK K hb P2
  refine normA (some 9) ?_
  refine one_ (i := 5) (N := some 10) (fl 7 63) rfl rfl (one_of HT_.out (by kernel_rfl)) (by decide) (fun K hK => ?_)
  refine goes_ Tryd.func104 (by kernel_rfl) rfl #[.agg (cells64 r1)] (by rfl) rfl rfl eqA ?_
  with_reducible refine (HK.out.2.2.2 _).mono ?_
  rintro e w4 ⟨rfl, hb⟩
  refine ⟨_, rfl, ?_⟩
  have P4 : Aside0 (Own2 w x y w4) := ⟨P3.out.below (by first | exact hb | exact below_step (below_drew1 (Below.refl _ _)) hb)⟩
  refine hK.out _ _ ⟨P4.out.a, P4.out.c⟩ (fun hHeld => ?_)
  clear hK K hb P3
  refine normA (some 10) ?_
  refine last_ (i := 6) (N := none) (fl 7 127) rfl rfl (one_of HT_.out (by kernel_rfl)) (by decide) (fun K hK => ?_)
  refine skip_ (w1 := w4.setRow (w.heap.size + 1 + 1) (cells64 r)) (by rfl) rfl (run_put w4 50 (.tmp 4) (.tmp 10) rfl (w.heap.size + 1 + 1) (cells64 r) (by rfl) (by rfl) 50 (cells64 [0, 0, 0, 0, 0]) P4.out.z (by rw [HX.out.2.2]; exact info5) (by rw [HX.out.2.2]; rfl) (ones64 _)) ?_
  refine hK.out _ _ ?_
  clear hK K
  refine done_ (done_of HT_.out (by kernel_rfl)) ?_
  go_wp2
  refine bodyPost_ret (v := .agg (cells64 r)) (results_cell_row (by rfl) _ _ (w.heap.size + 1 + 1) 50 (cells64 r) (0, 0) _ (by rfl) (setRow_heap _ _ _ _ _ _ P4.out.z) Tryd.underlying50 rfl (by rw [HX.out.2.2]; exact info5)) rfl ⟨rfl, below_setRow P4.out.b (by omega) _⟩
theorem Sub_c (x y : List Int) (hx : W5 x) (hy : W5 y) (w : World) :
    Calls Tryd.prog 54 #[.agg (cells64 x), .agg (cells64 y)] w fun e w' => e = .returned (.agg (cells64 (red (sbS (fpS (wk1 (wk1 x)) 4) (wk1 (wk1 y)) 5)))) ∧ Below w.heap.size w w' :=
  Sub_w x y _ _ _ _ hx.1 hy.1 (by rw [red_length]; exact (sub_length _ _ (wk2_ok hx).1.1)) w (weak_d x hx.1) (weak_d y hy.1) (sub_d _ _ (wk2_ok hx).1.1 (wk2_ok hy).1.1 ((wk2_ok hx).1.lim (by decide)) ((wk2_ok hy).1.lim (by decide))) (Reduce_d _ (sub_length _ _ (wk2_ok hx).1.1))
end Go.Proofs.YtbenedckmapjoaaDoor.F
