/- Points twice, and sums of points: the walks. -/
import Derived.Test.YtbenedckmapjoaaDoorPk
namespace Go.Proofs.YtbenedckmapjoaaDoor.F
open Go.RowKit Go.Proofs.YtbenedckmapjoaaDoor.H Go.Proofs.YtbenedckmapjoaaDoorW.PrintWords Go.Proofs.YtbenedckmapjoaaDoorW.PrintLast Go.Proofs.YtbenedckmapjoaaDoorW.PrintMore
set_option linter.unusedVariables false
set_option linter.unusedSimpArgs false
theorem size20 {a b c d o : List Int} (ho : o = a ++ b ++ c ++ d) (h1 : a.length = 5) (h2 : b.length = 5) (h3 : c.length = 5) (h4 : d.length = 5) : (cells64 o).size = 20 := by subst ho; simp [cells64, h1, h2, h3, h4]
theorem info20 : (Tryd.prog.info? 52).map (·.size) = some 20 := by kernel_rfl
theorem rangeAt_mid {w : World} {g : Nat} {t : TypeId} {fr : Nat × Nat} (a b c : List Int) (h : w.heap[g]? = some (.cells (cells64 (a ++ b ++ c)) t fr)) : w.rangeAt g a.length (cells64 b).toList := by
  have h1 := World.rangeAt_of_block h a.length b.length
  have h2 : ((cells64 (a ++ b ++ c)).extract a.length (a.length + b.length)).toList = (cells64 b).toList := by simp [cells64, List.drop_append, List.take_append]
  rw [h2] at h1
  exact h1
theorem PtAt.row4 {g : Nat} {x y z t : List Int} {w : World} (h : PtAt g (x ++ y ++ z ++ t) w) (hx : x.length = 5) (hy : y.length = 5) (hz : z.length = 5) (ht : t.length = 5) : w.rangeAt g 0 (cells64 x).toList ∧ w.rangeAt g 5 (cells64 y).toList ∧ w.rangeAt g 10 (cells64 z).toList ∧ w.rangeAt g 15 (cells64 t).toList := by
  refine ⟨?_, ?_, ?_, ?_⟩
  · exact rangeAt_mid [] x (y ++ z ++ t) (by unfold PtAt at h; simpa using h)
  · have := rangeAt_mid x y (z ++ t) (by unfold PtAt at h; simpa using h)
    rwa [hx] at this
  · have := rangeAt_mid (x ++ y) z t (by unfold PtAt at h; simpa using h)
    rwa [List.length_append, hx, hy] at this
  · have := rangeAt_mid (x ++ y ++ z) t [] (by unfold PtAt at h; simpa using h)
    rwa [List.length_append, List.length_append, hx, hy, hz] at this
theorem run_atx {P : Program} {a : Act} {oi : Oper} (w : World) (ty : TypeId) (x : Operand) (ho : oi.op = .load ty x) (b o : Nat) (hx : a.eval x = .pointer (some ⟨b, o, none⟩)) (l : List Int) (d : TypeDesc) (hc : w.rangeAt b o (cells64 l).toList)
    (hu : P.underlying ty = some d) (hd : d.isRow = true) (hi : (P.info? ty).map (·.size) = some (cells64 l).size) : (execOp a.eval oi).run P w = .ok (.value (.agg (cells64 l))) w := by
  have h := run_loadAt_mid (P := P) w b o ty (cells64 l).toList d hc hu hd (by rw [hi]; simp)
  unfold execOp
  simp only [ho, hx, Sem.run_bind]
  rw [h]
  rfl
theorem wpList_load_at {P : Program} {ops : Array Oper} {rest : List Oper} {o : Oper} {a : Act} {w : World} {Q : Exit → Act → World → Prop} (hgd : o.guard = none) (ty : TypeId) (x : Operand) (ho : o.op = .load ty x) (b oo : Nat) (hx : a.eval x = .pointer (some ⟨b, oo, none⟩)) (cs : Array Value) (d : TypeDesc) (hc : w.rangeAt b oo cs.toList)
    (hu : P.underlying ty = some d) (hd : d.isRow = true) (hi : (P.info? ty).map (·.size) = some cs.size) (h : wpList P ops Q rest (a.put o.dst (.agg cs)) w) : wpList P ops Q (o :: rest) a w :=
  wpList_plain hgd fun _ hK => by
    have h1 := run_loadAt_mid (P := P) w b oo ty cs.toList d hc hu hd (by rw [hi]; simp)
    unfold Oper.wp
    have h2 : (execOp a.eval o).run P w = .ok (.value (.agg cs)) w := by
      unfold execOp
      simp only [ho, hx, Sem.run_bind]
      rw [h1]
      rfl
    rw [h2]
    exact hK _ _ h
theorem run_build_op {P : Program} {a : Act} {oi : Oper} (w : World) (ty : TypeId) (parts : Array (Nat × Operand)) (ho : oi.op = .build ty parts) (ps : Array (Nat × Value)) (hp : parts.map (fun x => (x.1, a.eval x.2)) = ps) {v : Value} {w1 : World} (h : (Instr.build ty ps).run P w = .ok v w1) : (execOp a.eval oi).run P w = .ok (.value v) w1 := by
  unfold execOp
  simp only [ho, Sem.run_bind]
  rw [show (parts.map fun (i, x) => (i, a.eval x)) = ps from hp, h]
  rfl
theorem PS.of1 (w : World) (p : List Int) : PS w 1 [p, List.replicate 20 0] [] [] ((w.alloc (.cells (cells64 p) 52)).alloc (.cells #[.int .u64 0, .int .u64 0, .int .u64 0, .int .u64 0, .int .u64 0, .int .u64 0, .int .u64 0, .int .u64 0, .int .u64 0, .int .u64 0, .int .u64 0, .int .u64 0, .int .u64 0, .int .u64 0, .int .u64 0, .int .u64 0, .int .u64 0, .int .u64 0, .int .u64 0, .int .u64 0] 52)) := by
  refine ⟨rfl, fun i hi => ?_, Mem.nil _ _, below_alloc (below_alloc (Below.refl _ _) _) _, by simp⟩
  match i, hi with
  | 0, _ => exact blk_alloc (new1 _ _) _
  | 1, _ => exact new2 _ _ _
  | i + 2, hi => exact absurd hi (by simp)
theorem PS.of2 (w : World) (p q : List Int) : PS w 2 [p, q, List.replicate 20 0] [] [] (((w.alloc (.cells (cells64 p) 52)).alloc (.cells (cells64 q) 52)).alloc (.cells #[.int .u64 0, .int .u64 0, .int .u64 0, .int .u64 0, .int .u64 0, .int .u64 0, .int .u64 0, .int .u64 0, .int .u64 0, .int .u64 0, .int .u64 0, .int .u64 0, .int .u64 0, .int .u64 0, .int .u64 0, .int .u64 0, .int .u64 0, .int .u64 0, .int .u64 0, .int .u64 0] 52)) := by
  refine ⟨rfl, fun i hi => ?_, Mem.nil _ _, below_alloc (below_alloc (below_alloc (Below.refl _ _) _) _) _, by simp⟩
  match i, hi with
  | 0, _ => exact blk_alloc (blk_alloc (new1 _ _) _) _
  | 1, _ => exact blk_alloc (new2 _ _ _) _
  | 2, _ => exact new3 _ _ _ _
  | i + 3, hi => exact absurd hi (by simp)
def DblT.T1 : Bool × List (List Nat × List Nat) := (true, [([], []), ([0], [0]), ([1], [1]), ([], []), ([3], [3]), ([4, 2], [4]), ([], []), ([6], [6]), ([7, 5], [7]), ([], []), ([], []), ([], []), ([9, 2, 8, 0, 1, 2, 9, 10, 11], [2, 9]), ([10, 5, 12, 0, 1, 2, 3, 4, 5, 9, 10, 11, 12], [5, 10]), ([11, 8, 13, 0, 1, 2, 3, 4, 5, 6, 7, 8, 9, 10, 11, 12, 13], [8, 11])])
def DblT.B1 : List Nat := [0, 1, 3, 0, 8, 31, 0, 64, 255, 0, 0, 0, 4095, 8191, 16383]
theorem DblT.tab1 : rtab .any (opsOf Tryd.f112 1) = DblT.T1 := by kernel_rfl
theorem DblT.bits1 : waitsOk DblT.T1.2 DblT.B1 = true := by kernel_rfl
def DblT.T4 : Bool × List (List Nat × List Nat) := (true, [([], []), ([0], [0]), ([], []), ([2], [2]), ([1, 3], [1, 3]), ([4, 4], [4]), ([], []), ([5, 6, 5], [5, 6]), ([], []), ([8, 7, 7, 0, 1, 2, 3, 4, 5, 6, 7, 8], [7, 8])])
def DblT.B4 : List Nat := [0, 1, 0, 4, 15, 31, 0, 127, 0, 511]
theorem DblT.tab4 : rtab .any (opsOf Tryd.f112 4) = DblT.T4 := by kernel_rfl
theorem DblT.bits4 : waitsOk DblT.T4.2 DblT.B4 = true := by kernel_rfl
def DblT.T6 : Bool × List (List Nat × List Nat) := (true, [([], []), ([], []), ([0, 1], [0, 1]), ([], []), ([3, 2], [3]), ([], []), ([], []), ([5, 2, 4, 0, 1, 2, 5, 6], [2, 5]), ([6, 4, 7, 0, 1, 2, 3, 4, 5, 6, 7], [4, 6])])
def DblT.B6 : List Nat := [0, 0, 3, 0, 15, 0, 0, 127, 255]
theorem DblT.tab6 : rtab .any (opsOf Tryd.f112 6) = DblT.T6 := by kernel_rfl
theorem DblT.bits6 : waitsOk DblT.T6.2 DblT.B6 = true := by kernel_rfl
def DblT.T7 : Bool × List (List Nat × List Nat) := (true, [([], []), ([], []), ([0, 1], [0, 1]), ([], []), ([], []), ([3, 4, 2], [3, 4]), ([], []), ([], []), ([6, 7, 5], [6, 7]), ([], []), ([], []), ([9, 10, 8], [9, 10]), ([2, 5, 8, 11], [2, 5, 8, 11]), ([12, 11, 0, 1, 2, 3, 4, 5, 6, 7, 8, 9, 10, 11, 12], [12])])
def DblT.B7 : List Nat := [0, 0, 3, 0, 0, 31, 0, 0, 255, 0, 0, 2047, 4095, 8191]
theorem DblT.tab7 : rtab .any (opsOf Tryd.f112 7) = DblT.T7 := by kernel_rfl
theorem DblT.bits7 : waitsOk DblT.T7.2 DblT.B7 = true := by kernel_rfl
set_option maxRecDepth 100000 in
set_option maxHeartbeats 8000000 in
theorem Dbl_w (px py pz pt ra rb rc rd rs ru rv re rg rf rh oX oY oZ oT pW oW : List Int) (h_pW : pW = px ++ py ++ pz ++ pt) (h_oW : oW = oX ++ oY ++ oZ ++ oT) (h_px : px.length = 5) (h_py : py.length = 5) (h_pz : pz.length = 5) (h_pt : pt.length = 5) (h_ra : ra.length = 5) (h_rb : rb.length = 5) (h_rc : rc.length = 5) (h_rd : rd.length = 5) (h_rs : rs.length = 5) (h_ru : ru.length = 5) (h_rv : rv.length = 5) (h_re : re.length = 5) (h_rg : rg.length = 5) (h_rf : rf.length = 5) (h_rh : rh.length = 5) (h_oX : oX.length = 5) (h_oY : oY.length = 5) (h_oZ : oZ.length = 5) (h_oT : oT.length = 5) (w : World) 
    (k0 : ∀ w : World, Calls Tryd.prog 52 #[.agg (cells64 px)] w fun e w' => e = .returned (.agg (cells64 ra)) ∧ Below w.heap.size w w')
    (k1 : ∀ w : World, Calls Tryd.prog 52 #[.agg (cells64 py)] w fun e w' => e = .returned (.agg (cells64 rb)) ∧ Below w.heap.size w w')
    (k2 : ∀ w : World, Calls Tryd.prog 52 #[.agg (cells64 pz)] w fun e w' => e = .returned (.agg (cells64 rc)) ∧ Below w.heap.size w w')
    (k3 : ∀ w : World, Calls Tryd.prog 56 #[.agg (cells64 rc), .agg (cells64 rc)] w fun e w' => e = .returned (.agg (cells64 rd)) ∧ Below w.heap.size w w')
    (k4 : ∀ w : World, Calls Tryd.prog 56 #[.agg (cells64 ra), .agg (cells64 rb)] w fun e w' => e = .returned (.agg (cells64 rs)) ∧ Below w.heap.size w w')
    (k5 : ∀ w : World, Calls Tryd.prog 56 #[.agg (cells64 px), .agg (cells64 py)] w fun e w' => e = .returned (.agg (cells64 ru)) ∧ Below w.heap.size w w')
    (k6 : ∀ w : World, Calls Tryd.prog 52 #[.agg (cells64 ru)] w fun e w' => e = .returned (.agg (cells64 rv)) ∧ Below w.heap.size w w')
    (k7 : ∀ w : World, Calls Tryd.prog 54 #[.agg (cells64 rv), .agg (cells64 rs)] w fun e w' => e = .returned (.agg (cells64 re)) ∧ Below w.heap.size w w')
    (k8 : ∀ w : World, Calls Tryd.prog 54 #[.agg (cells64 rb), .agg (cells64 ra)] w fun e w' => e = .returned (.agg (cells64 rg)) ∧ Below w.heap.size w w')
    (k9 : ∀ w : World, Calls Tryd.prog 54 #[.agg (cells64 rg), .agg (cells64 rd)] w fun e w' => e = .returned (.agg (cells64 rf)) ∧ Below w.heap.size w w')
    (k10 : ∀ w : World, Calls Tryd.prog 58 #[.agg (cells64 rs)] w fun e w' => e = .returned (.agg (cells64 rh)) ∧ Below w.heap.size w w')
    (k11 : ∀ w : World, Calls Tryd.prog 57 #[.agg (cells64 re), .agg (cells64 rf)] w fun e w' => e = .returned (.agg (cells64 oX)) ∧ Below w.heap.size w w')
    (k12 : ∀ w : World, Calls Tryd.prog 57 #[.agg (cells64 rg), .agg (cells64 rh)] w fun e w' => e = .returned (.agg (cells64 oY)) ∧ Below w.heap.size w w')
    (k13 : ∀ w : World, Calls Tryd.prog 57 #[.agg (cells64 rf), .agg (cells64 rg)] w fun e w' => e = .returned (.agg (cells64 oZ)) ∧ Below w.heap.size w w')
    (k14 : ∀ w : World, Calls Tryd.prog 57 #[.agg (cells64 re), .agg (cells64 rh)] w fun e w' => e = .returned (.agg (cells64 oT)) ∧ Below w.heap.size w w')
    (kB : ∀ w : World, (Instr.build 52 #[(0, (.agg (cells64 oX))), (1, (.agg (cells64 oY))), (2, (.agg (cells64 oZ))), (3, (.agg (cells64 oT)))]).run Tryd.prog w = .ok (.agg (cells64 (oW))) w) :
    Calls Tryd.prog 112 #[.agg (cells64 (pW))] w fun e w' => e = .returned (.agg (cells64 (oW))) ∧ Below w.heap.size w w' := by
  have HL := Lib.hid (And.intro (size5 h_px) (And.intro (size5 h_py) (And.intro (size5 h_pz) (And.intro (size5 h_pt) (And.intro (size5 h_ra) (And.intro (size5 h_rb) (And.intro (size5 h_rc) (And.intro (size5 h_rd) (And.intro (size5 h_rs) (And.intro (size5 h_ru) (And.intro (size5 h_rv) (And.intro (size5 h_re) (And.intro (size5 h_rg) (And.intro (size5 h_rf) (And.intro (size5 h_rh) (And.intro (size5 h_oX) (And.intro (size5 h_oY) (And.intro (size5 h_oZ) ((size5 h_oT))))))))))))))))))))
  have HK := Aside0.mk (And.intro k0 (And.intro k1 (And.intro k2 (And.intro k3 (And.intro k4 (And.intro k5 (And.intro k6 (And.intro k7 (And.intro k8 (And.intro k9 (And.intro k10 (And.intro k11 (And.intro k12 (And.intro k13 (k14)))))))))))))))
  have HB := Aside0.mk kB
  have hr0 : ∀ w1 : World, PtAt (w.heap.size + 0) (pW) w1 → w1.rangeAt (w.heap.size + 0) 0 (cells64 px).toList ∧ w1.rangeAt (w.heap.size + 0) 5 (cells64 py).toList ∧ w1.rangeAt (w.heap.size + 0) 10 (cells64 pz).toList ∧ w1.rangeAt (w.heap.size + 0) 15 (cells64 pt).toList := fun w1 hp => PtAt.row4 (by rw [← h_pW]; exact hp) h_px h_py h_pz h_pt
  have HR := Aside0.mk (And.intro hr0 (True.intro))
  have HP := Lib.hid (And.intro (size20 h_pW h_px h_py h_pz h_pt) ((size20 h_oW h_oX h_oY h_oZ h_oT)))
  clear h_px h_py h_pz h_pt h_ra h_rb h_rc h_rd h_rs h_ru h_rv h_re h_rg h_rf h_rh h_oX h_oY h_oZ h_oT h_pW h_oW k0 k1 k2 k3 k4 k5 k6 k7 k8 k9 k10 k11 k12 k13 k14 kB hr0 
  go_enter Tryd.func112, Tryd.ntmps112
  go_upto_region 1 with (fail)
  have P0 : Aside0 (PS w 1 [(pW), List.replicate 20 0] [] [] ((w.alloc (.cells (cells64 (pW)) 52)).alloc (.cells #[.int .u64 0, .int .u64 0, .int .u64 0, .int .u64 0, .int .u64 0, .int .u64 0, .int .u64 0, .int .u64 0, .int .u64 0, .int .u64 0, .int .u64 0, .int .u64 0, .int .u64 0, .int .u64 0, .int .u64 0, .int .u64 0, .int .u64 0, .int .u64 0, .int .u64 0, .int .u64 0] 52))) := ⟨PS.of1 w _⟩
  generalize ((w.alloc (.cells (cells64 (pW)) 52)).alloc (.cells #[.int .u64 0, .int .u64 0, .int .u64 0, .int .u64 0, .int .u64 0, .int .u64 0, .int .u64 0, .int .u64 0, .int .u64 0, .int .u64 0, .int .u64 0, .int .u64 0, .int .u64 0, .int .u64 0, .int .u64 0, .int .u64 0, .int .u64 0, .int .u64 0, .int .u64 0, .int .u64 0] 52)) = w0 at P0 ⊢
  refine start_ (n := 15) (S := fun w' => Below w0.heap.size w0 w') (ds := [12, 13, 14]) (fl 15 0) (by kernel_rfl) rfl rfl (below_drew1 (Below.refl _ _)) (fun hHeld => ?_)
  refine with_tabW DblT.tab1 DblT.bits1 (fun HT_ HW_ => ?_)
  refine pB 0 11 15 1 ?_
  refine takeA (i := 1) (N := some 12) (v := .agg (cells64 px)) (fl 15 3) (take_ofW HT_.out HW_.out (by kernel_rfl)) hHeld ?_ (hy := fun w' s0 => run_atx w' 50 (.tmp 11) rfl (w.heap.size) 0 (by rfl) px _ (rangeAt_below (HR.out.1 _ (P0.out.p 0 (by simp))).1 s0) Tryd.underlying50 (by rfl) (by rw [HL.out.1]; exact info5))
  refine pB 3 14 15 11 ?_
  refine takeA (i := 4) (N := some 15) (v := .agg (cells64 py)) (fl 15 27) (take_ofW HT_.out HW_.out (by kernel_rfl)) hHeld ?_ (hy := fun w' s0 => run_atx w' 50 (.tmp 14) rfl (w.heap.size) 5 (by rfl) py _ (rangeAt_below (HR.out.1 _ (P0.out.p 0 (by simp))).2.1 s0) Tryd.underlying50 (by rfl) (by rw [HL.out.2.1]; exact info5))
  refine pB 6 17 15 91 ?_
  refine takeA (i := 7) (N := some 18) (v := .agg (cells64 pz)) (fl 15 219) (take_ofW HT_.out HW_.out (by kernel_rfl)) hHeld ?_ (hy := fun w' s0 => run_atx w' 50 (.tmp 17) rfl (w.heap.size) 10 (by rfl) pz _ (rangeAt_below (HR.out.1 _ (P0.out.p 0 (by simp))).2.2.1 s0) Tryd.underlying50 (by rfl) (by rw [HL.out.2.2.1]; exact info5))
  refine phz HT_.out 15 219 4095 6 [true, true, false, true, true, false, true, true, false, false, false, false, false, false, false] [2, 5, 8] [9, 10, 11] (by kernel_rfl) (by kernel_rfl) (by kernel_rfl) rfl w0 _ [(13, .agg (cells64 ra)), (16, .agg (cells64 rb)), (19, .agg (cells64 rc))] [3, 4, 5] (cells64 [0, 0, 0, 0, 0]) 50 rfl rfl (by decide) (by simp) 3 ?_ ?_ _ hHeld ?_
  · intro j hj tm wj htm hbj
    match j, hj with
    | 0, _ =>
      refine callOk (i := 2) (N := 13) rfl (by decide) rfl Tryd.func52 (by kernel_rfl) rfl rfl #[.agg (cells64 px)] (.agg (cells64 ra)) tm wj (by rfl) ?_ HK.out.1
      simp only [List.map_toArray, List.map_cons, List.map_nil]
      show #[tm.getD 12 undef] = _
      rw [htm 12 (by decide)]
      rfl
    | 1, _ =>
      refine callOk (i := 5) (N := 16) rfl (by decide) rfl Tryd.func52 (by kernel_rfl) rfl rfl #[.agg (cells64 py)] (.agg (cells64 rb)) tm wj (by rfl) ?_ HK.out.2.1
      simp only [List.map_toArray, List.map_cons, List.map_nil]
      show #[tm.getD 15 undef] = _
      rw [htm 15 (by decide)]
      rfl
    | 2, _ =>
      refine callOk (i := 8) (N := 19) rfl (by decide) rfl Tryd.func52 (by kernel_rfl) rfl rfl #[.agg (cells64 pz)] (.agg (cells64 rc)) tm wj (by rfl) ?_ HK.out.2.2.1
      simp only [List.map_toArray, List.map_cons, List.map_nil]
      show #[tm.getD 18 undef] = _
      rw [htm 18 (by decide)]
      rfl
    | j + 3, hj => exact absurd hj (by simp)
  · intro j hj tm wj
    match j, hj with
    | 0, _ => exact allocOk (i := 9) (s := 3) rfl (by decide) rfl _ _ tm wj (by rfl) (by kernel_rfl)
    | 1, _ => exact allocOk (i := 10) (s := 4) rfl (by decide) rfl _ _ tm wj (by rfl) (by kernel_rfl)
    | 2, _ => exact allocOk (i := 11) (s := 5) rfl (by decide) rfl _ _ tm wj (by rfl) (by kernel_rfl)
    | j + 3, hj => exact absurd hj (by simp)
  intro gn w1 hgl hbk hnk hek
  obtain ⟨g3, g4, g5, rfl⟩ := list3 gn hgl
  have P1 : Aside0 (PS w 1 [(pW), List.replicate 20 0] [g3, g4, g5] [[0, 0, 0, 0, 0], [0, 0, 0, 0, 0], [0, 0, 0, 0, 0]] w1) := ⟨P0.out.app hbk hnk hek⟩
  clear hgl hbk hnk hek P0 hHeld
  simp only [setAd, setAll, if_true, List.replicate, List.length_cons, List.length_nil, List.setIfInBounds_toArray, List.set_cons_zero, List.set_cons_succ, ptrV]
  refine last_ (i := 12) (N := none) (fl 15 8191) rfl rfl (one_of HT_.out (by kernel_rfl)) (by decide) (fun K hK => ?_)
  refine skip_ (w1 := w1.setRow g3 (cells64 ra)) (by rfl) rfl (run_put w1 50 (.tmp 3) (.tmp 13) rfl g3 (cells64 ra) (by rfl) (by rfl) 50 (cells64 [0, 0, 0, 0, 0]) (P1.out.m.el 0 (by simp)) (by rw [HL.out.2.2.2.2.1]; exact info5) (by rw [HL.out.2.2.2.2.1]; rfl) (ones64 _)) ?_
  refine hK.out _ _ ?_
  clear hK K
  have P2 : Aside0 (PS w 1 [(pW), List.replicate 20 0] [g3, g4, g5] [ra, [0, 0, 0, 0, 0], [0, 0, 0, 0, 0]] (w1.setRow g3 (cells64 ra))) := ⟨P1.out.put 0 ra (by simp)⟩
  clear P1
  generalize (w1.setRow g3 (cells64 ra)) = w2 at P2 ⊢
  refine last_ (i := 13) (N := none) (fl 15 16383) rfl rfl (one_of HT_.out (by kernel_rfl)) (by decide) (fun K hK => ?_)
  refine skip_ (w1 := w2.setRow g4 (cells64 rb)) (by rfl) rfl (run_put w2 50 (.tmp 4) (.tmp 16) rfl g4 (cells64 rb) (by rfl) (by rfl) 50 (cells64 [0, 0, 0, 0, 0]) (P2.out.m.el 1 (by simp)) (by rw [HL.out.2.2.2.2.2.1]; exact info5) (by rw [HL.out.2.2.2.2.2.1]; rfl) (ones64 _)) ?_
  refine hK.out _ _ ?_
  clear hK K
  have P3 : Aside0 (PS w 1 [(pW), List.replicate 20 0] [g3, g4, g5] [ra, rb, [0, 0, 0, 0, 0]] (w2.setRow g4 (cells64 rb))) := ⟨P2.out.put 1 rb (by simp)⟩
  clear P2
  generalize (w2.setRow g4 (cells64 rb)) = w3 at P3 ⊢
  refine last_ (i := 14) (N := none) (fl 15 32767) rfl rfl (one_of HT_.out (by kernel_rfl)) (by decide) (fun K hK => ?_)
  refine skip_ (w1 := w3.setRow g5 (cells64 rc)) (by rfl) rfl (run_put w3 50 (.tmp 5) (.tmp 19) rfl g5 (cells64 rc) (by rfl) (by rfl) 50 (cells64 [0, 0, 0, 0, 0]) (P3.out.m.el 2 (by simp)) (by rw [HL.out.2.2.2.2.2.2.1]; exact info5) (by rw [HL.out.2.2.2.2.2.2.1]; rfl) (ones64 _)) ?_
  refine hK.out _ _ ?_
  clear hK K
  have P4 : Aside0 (PS w 1 [(pW), List.replicate 20 0] [g3, g4, g5] [ra, rb, rc] (w3.setRow g5 (cells64 rc))) := ⟨P3.out.put 2 rc (by simp)⟩
  clear P3
  generalize (w3.setRow g5 (cells64 rc)) = w4 at P4 ⊢
  refine done_ (done_of HT_.out (by kernel_rfl)) ?_
  clear HT_ HW_
  go_upto_region 3 with (first
    | (refine wpList_load_row rfl 50 (.tmp 5) rfl g5 (by rfl) 50 (cells64 rc) (0, 0) _ (P4.out.m.el 2 (by simp)) Tryd.underlying50 rfl (by rw [HL.out.2.2.2.2.2.2.1]; exact info5) ?_)
    | (go_at_call 56; refine (HK.out.2.2.2.1 _).mono ?_; rintro e w5 ⟨rfl, hbc⟩; have P5 := Aside0.mk (P4.out.below hbc); clear hbc)
    | (refine wpList_store_row rfl 50 (.tmp 5) (.tmp 22) rfl g5 (cells64 rd) (by rfl) (by rfl) 50 (cells64 rc) (P5.out.m.el 2 (by simp)) (by rw [HL.out.2.2.2.2.2.2.2.1]; exact info5) (by rw [HL.out.2.2.2.2.2.2.1, HL.out.2.2.2.2.2.2.2.1]) (ones64 _) ?_))
  have P6 : Aside0 (PS w 1 [(pW), List.replicate 20 0] [g3, g4, g5] [ra, rb, rd] (w5.setRow g5 (cells64 rd))) := ⟨P5.out.put 2 rd (by simp)⟩
  clear P5
  generalize (w5.setRow g5 (cells64 rd)) = w6 at P6 ⊢
  go_upto_region 4 with (first
    | (refine wpList_load_row rfl 50 (.tmp 3) rfl g3 (by rfl) 50 (cells64 ra) (0, 0) _ (P6.out.m.el 0 (by simp)) Tryd.underlying50 rfl (by rw [HL.out.2.2.2.2.1]; exact info5) ?_)
    | (refine wpList_load_row rfl 50 (.tmp 4) rfl g4 (by rfl) 50 (cells64 rb) (0, 0) _ (P6.out.m.el 1 (by simp)) Tryd.underlying50 rfl (by rw [HL.out.2.2.2.2.2.1]; exact info5) ?_)
    | (go_at_call 56; refine (HK.out.2.2.2.2.1 _).mono ?_; rintro e w7 ⟨rfl, hbc⟩; have P7 := Aside0.mk (P6.out.below hbc); clear hbc)
    | (refine wpList_store_row rfl 50 (.tmp 6) (.tmp 25) rfl w7.heap.size (cells64 rs) (by rfl) (by rfl) 50 (cells64 [0, 0, 0, 0, 0]) (blk_new w7 _) (by rw [HL.out.2.2.2.2.2.2.2.2.1]; exact info5) (by rw [HL.out.2.2.2.2.2.2.2.2.1]; rfl) (ones64 _) ?_; rw [World.setRow_alloc_new]))
  have P8 : Aside0 (PS w 1 [(pW), List.replicate 20 0] [g3, g4, g5, w7.heap.size] [ra, rb, rd, rs] (w7.alloc (.cells (cells64 rs) 50))) := ⟨P7.out.new rs⟩
  clear P7
  generalize (w7.alloc (.cells (cells64 rs) 50)) = w8 at P8 ⊢
  generalize w7.heap.size = g6 at P8 ⊢
  refine start_ (n := 10) (S := fun w' => Below w8.heap.size w8 w') (ds := [9]) (fl 10 0) (by kernel_rfl) rfl rfl (below_drew1 (Below.refl _ _)) (fun hHeld => ?_)
  refine with_tabW DblT.tab4 DblT.bits4 (fun HT_ HW_ => ?_)
  refine pB 0 26 10 1 ?_
  refine takeA (i := 1) (N := some 27) (v := .agg (cells64 px)) (fl 10 3) (take_ofW HT_.out HW_.out (by kernel_rfl)) hHeld ?_ (hy := fun w' s0 => run_atx w' 50 (.tmp 26) rfl (w.heap.size) 0 (by rfl) px _ (rangeAt_below (HR.out.1 _ (P8.out.p 0 (by simp))).1 s0) Tryd.underlying50 (by rfl) (by rw [HL.out.1]; exact info5))
  refine pB 2 28 10 7 ?_
  refine takeA (i := 3) (N := some 29) (v := .agg (cells64 py)) (fl 10 15) (take_ofW HT_.out HW_.out (by kernel_rfl)) hHeld ?_ (hy := fun w' s0 => run_atx w' 50 (.tmp 28) rfl (w.heap.size) 5 (by rfl) py _ (rangeAt_below (HR.out.1 _ (P8.out.p 0 (by simp))).2.1 s0) Tryd.underlying50 (by rfl) (by rw [HL.out.2.1]; exact info5))
  refine takeA (i := 6) (N := some 32) (v := .agg (cells64 rs)) (fl 10 79) (take_ofW HT_.out HW_.out (by kernel_rfl)) hHeld ?_ (hy := fun w' s0 => run_row w' 50 (.tmp 6) rfl g6 (by rfl) 50 (cells64 rs) (0, 0) _ (((P8.out.m.el 3 (by simp)).below s0)) Tryd.underlying50 rfl (by rw [HL.out.2.2.2.2.2.2.2.2.1]; exact info5))
  refine phz HT_.out 10 79 511 4 [true, true, true, true, false, false, true, false, false, false] [4, 5, 7] [8] (by kernel_rfl) (by kernel_rfl) (by kernel_rfl) rfl w8 _ [(30, .agg (cells64 ru)), (31, .agg (cells64 rv)), (33, .agg (cells64 re))] [7] (cells64 [0, 0, 0, 0, 0]) 50 rfl rfl (by decide) (by simp) 1 ?_ ?_ _ hHeld ?_
  · intro j hj tm wj htm hbj
    match j, hj with
    | 0, _ =>
      refine callOk (i := 4) (N := 30) rfl (by decide) rfl Tryd.func56 (by kernel_rfl) rfl rfl #[.agg (cells64 px), .agg (cells64 py)] (.agg (cells64 ru)) tm wj (by rfl) ?_ HK.out.2.2.2.2.2.1
      simp only [List.map_toArray, List.map_cons, List.map_nil]
      show #[tm.getD 27 undef, tm.getD 29 undef] = _
      rw [htm 27 (by decide), htm 29 (by decide)]
      rfl
    | 1, _ =>
      refine callOk (i := 5) (N := 31) rfl (by decide) rfl Tryd.func52 (by kernel_rfl) rfl rfl #[.agg (cells64 ru)] (.agg (cells64 rv)) tm wj (by rfl) ?_ HK.out.2.2.2.2.2.2.1
      simp only [List.map_toArray, List.map_cons, List.map_nil]
      show #[tm.getD 30 undef] = _
      rw [htm 30 (by decide)]
      rfl
    | 2, _ =>
      refine callOk (i := 7) (N := 33) rfl (by decide) rfl Tryd.func54 (by kernel_rfl) rfl rfl #[.agg (cells64 rv), .agg (cells64 rs)] (.agg (cells64 re)) tm wj (by rfl) ?_ HK.out.2.2.2.2.2.2.2.1
      simp only [List.map_toArray, List.map_cons, List.map_nil]
      show #[tm.getD 31 undef, tm.getD 32 undef] = _
      rw [htm 31 (by decide), htm 32 (by decide)]
      rfl
    | j + 3, hj => exact absurd hj (by simp)
  · intro j hj tm wj
    match j, hj with
    | 0, _ => exact allocOk (i := 8) (s := 7) rfl (by decide) rfl _ _ tm wj (by rfl) (by kernel_rfl)
    | j + 1, hj => exact absurd hj (by simp)
  intro gn w9 hgl hbk hnk hek
  obtain ⟨g7, rfl⟩ := list1 gn hgl
  have P9 : Aside0 (PS w 1 [(pW), List.replicate 20 0] [g3, g4, g5, g6, g7] [ra, rb, rd, rs, [0, 0, 0, 0, 0]] w9) := ⟨P8.out.app hbk hnk hek⟩
  clear hgl hbk hnk hek P8 hHeld
  simp only [setAd, setAll, if_true, List.replicate, List.length_cons, List.length_nil, List.setIfInBounds_toArray, List.set_cons_zero, List.set_cons_succ, ptrV]
  refine last_ (i := 9) (N := none) (fl 10 1023) rfl rfl (one_of HT_.out (by kernel_rfl)) (by decide) (fun K hK => ?_)
  refine skip_ (w1 := w9.setRow g7 (cells64 re)) (by rfl) rfl (run_put w9 50 (.tmp 7) (.tmp 33) rfl g7 (cells64 re) (by rfl) (by rfl) 50 (cells64 [0, 0, 0, 0, 0]) (P9.out.m.el 4 (by simp)) (by rw [HL.out.2.2.2.2.2.2.2.2.2.2.2.1]; exact info5) (by rw [HL.out.2.2.2.2.2.2.2.2.2.2.2.1]; rfl) (ones64 _)) ?_
  refine hK.out _ _ ?_
  clear hK K
  have P10 : Aside0 (PS w 1 [(pW), List.replicate 20 0] [g3, g4, g5, g6, g7] [ra, rb, rd, rs, re] (w9.setRow g7 (cells64 re))) := ⟨P9.out.put 4 re (by simp)⟩
  clear P9
  generalize (w9.setRow g7 (cells64 re)) = w10 at P10 ⊢
  refine done_ (done_of HT_.out (by kernel_rfl)) ?_
  clear HT_ HW_
  go_upto_region 6 with (first
    | (refine wpList_load_row rfl 50 (.tmp 4) rfl g4 (by rfl) 50 (cells64 rb) (0, 0) _ (P10.out.m.el 1 (by simp)) Tryd.underlying50 rfl (by rw [HL.out.2.2.2.2.2.1]; exact info5) ?_)
    | (refine wpList_load_row rfl 50 (.tmp 3) rfl g3 (by rfl) 50 (cells64 ra) (0, 0) _ (P10.out.m.el 0 (by simp)) Tryd.underlying50 rfl (by rw [HL.out.2.2.2.2.1]; exact info5) ?_)
    | (go_at_call 54; refine (HK.out.2.2.2.2.2.2.2.2.1 _).mono ?_; rintro e w11 ⟨rfl, hbc⟩; have P11 := Aside0.mk (P10.out.below hbc); clear hbc)
    | (refine wpList_store_row rfl 50 (.tmp 8) (.tmp 36) rfl w11.heap.size (cells64 rg) (by rfl) (by rfl) 50 (cells64 [0, 0, 0, 0, 0]) (blk_new w11 _) (by rw [HL.out.2.2.2.2.2.2.2.2.2.2.2.2.1]; exact info5) (by rw [HL.out.2.2.2.2.2.2.2.2.2.2.2.2.1]; rfl) (ones64 _) ?_; rw [World.setRow_alloc_new]))
  have P12 : Aside0 (PS w 1 [(pW), List.replicate 20 0] [g3, g4, g5, g6, g7, w11.heap.size] [ra, rb, rd, rs, re, rg] (w11.alloc (.cells (cells64 rg) 50))) := ⟨P11.out.new rg⟩
  clear P11
  generalize (w11.alloc (.cells (cells64 rg) 50)) = w12 at P12 ⊢
  generalize w11.heap.size = g8 at P12 ⊢
  refine start_ (n := 9) (S := fun w' => Below w12.heap.size w12 w') (ds := [7, 8]) (fl 9 0) (by kernel_rfl) rfl rfl (below_drew1 (Below.refl _ _)) (fun hHeld => ?_)
  refine with_tabW DblT.tab6 DblT.bits6 (fun HT_ HW_ => ?_)
  refine takeA (i := 0) (N := some 37) (v := .agg (cells64 rg)) (fl 9 1) (take_ofW HT_.out HW_.out (by kernel_rfl)) hHeld ?_ (hy := fun w' s0 => run_row w' 50 (.tmp 8) rfl g8 (by rfl) 50 (cells64 rg) (0, 0) _ (((P12.out.m.el 5 (by simp)).below s0)) Tryd.underlying50 rfl (by rw [HL.out.2.2.2.2.2.2.2.2.2.2.2.2.1]; exact info5))
  refine takeA (i := 1) (N := some 38) (v := .agg (cells64 rd)) (fl 9 3) (take_ofW HT_.out HW_.out (by kernel_rfl)) hHeld ?_ (hy := fun w' s0 => run_row w' 50 (.tmp 5) rfl g5 (by rfl) 50 (cells64 rd) (0, 0) _ (((P12.out.m.el 2 (by simp)).below s0)) Tryd.underlying50 rfl (by rw [HL.out.2.2.2.2.2.2.2.1]; exact info5))
  refine takeA (i := 3) (N := some 40) (v := .agg (cells64 rs)) (fl 9 11) (take_ofW HT_.out HW_.out (by kernel_rfl)) hHeld ?_ (hy := fun w' s0 => run_row w' 50 (.tmp 6) rfl g6 (by rfl) 50 (cells64 rs) (0, 0) _ (((P12.out.m.el 3 (by simp)).below s0)) Tryd.underlying50 rfl (by rw [HL.out.2.2.2.2.2.2.2.2.1]; exact info5))
  refine phz HT_.out 9 11 127 4 [true, true, false, true, false, false, false, false, false] [2, 4] [5, 6] (by kernel_rfl) (by kernel_rfl) (by kernel_rfl) rfl w12 _ [(39, .agg (cells64 rf)), (41, .agg (cells64 rh))] [9, 10] (cells64 [0, 0, 0, 0, 0]) 50 rfl rfl (by decide) (by simp) 2 ?_ ?_ _ hHeld ?_
  · intro j hj tm wj htm hbj
    match j, hj with
    | 0, _ =>
      refine callOk (i := 2) (N := 39) rfl (by decide) rfl Tryd.func54 (by kernel_rfl) rfl rfl #[.agg (cells64 rg), .agg (cells64 rd)] (.agg (cells64 rf)) tm wj (by rfl) ?_ HK.out.2.2.2.2.2.2.2.2.2.1
      simp only [List.map_toArray, List.map_cons, List.map_nil]
      show #[tm.getD 37 undef, tm.getD 38 undef] = _
      rw [htm 37 (by decide), htm 38 (by decide)]
      rfl
    | 1, _ =>
      refine callOk (i := 4) (N := 41) rfl (by decide) rfl Tryd.func58 (by kernel_rfl) rfl rfl #[.agg (cells64 rs)] (.agg (cells64 rh)) tm wj (by rfl) ?_ HK.out.2.2.2.2.2.2.2.2.2.2.1
      simp only [List.map_toArray, List.map_cons, List.map_nil]
      show #[tm.getD 40 undef] = _
      rw [htm 40 (by decide)]
      rfl
    | j + 2, hj => exact absurd hj (by simp)
  · intro j hj tm wj
    match j, hj with
    | 0, _ => exact allocOk (i := 5) (s := 9) rfl (by decide) rfl _ _ tm wj (by rfl) (by kernel_rfl)
    | 1, _ => exact allocOk (i := 6) (s := 10) rfl (by decide) rfl _ _ tm wj (by rfl) (by kernel_rfl)
    | j + 2, hj => exact absurd hj (by simp)
  intro gn w13 hgl hbk hnk hek
  obtain ⟨g9, g10, rfl⟩ := list2 gn hgl
  have P13 : Aside0 (PS w 1 [(pW), List.replicate 20 0] [g3, g4, g5, g6, g7, g8, g9, g10] [ra, rb, rd, rs, re, rg, [0, 0, 0, 0, 0], [0, 0, 0, 0, 0]] w13) := ⟨P12.out.app hbk hnk hek⟩
  clear hgl hbk hnk hek P12 hHeld
  simp only [setAd, setAll, if_true, List.replicate, List.length_cons, List.length_nil, List.setIfInBounds_toArray, List.set_cons_zero, List.set_cons_succ, ptrV]
  refine last_ (i := 7) (N := none) (fl 9 255) rfl rfl (one_of HT_.out (by kernel_rfl)) (by decide) (fun K hK => ?_)
  refine skip_ (w1 := w13.setRow g9 (cells64 rf)) (by rfl) rfl (run_put w13 50 (.tmp 9) (.tmp 39) rfl g9 (cells64 rf) (by rfl) (by rfl) 50 (cells64 [0, 0, 0, 0, 0]) (P13.out.m.el 6 (by simp)) (by rw [HL.out.2.2.2.2.2.2.2.2.2.2.2.2.2.1]; exact info5) (by rw [HL.out.2.2.2.2.2.2.2.2.2.2.2.2.2.1]; rfl) (ones64 _)) ?_
  refine hK.out _ _ ?_
  clear hK K
  have P14 : Aside0 (PS w 1 [(pW), List.replicate 20 0] [g3, g4, g5, g6, g7, g8, g9, g10] [ra, rb, rd, rs, re, rg, rf, [0, 0, 0, 0, 0]] (w13.setRow g9 (cells64 rf))) := ⟨P13.out.put 6 rf (by simp)⟩
  clear P13
  generalize (w13.setRow g9 (cells64 rf)) = w14 at P14 ⊢
  refine last_ (i := 8) (N := none) (fl 9 511) rfl rfl (one_of HT_.out (by kernel_rfl)) (by decide) (fun K hK => ?_)
  refine skip_ (w1 := w14.setRow g10 (cells64 rh)) (by rfl) rfl (run_put w14 50 (.tmp 10) (.tmp 41) rfl g10 (cells64 rh) (by rfl) (by rfl) 50 (cells64 [0, 0, 0, 0, 0]) (P14.out.m.el 7 (by simp)) (by rw [HL.out.2.2.2.2.2.2.2.2.2.2.2.2.2.2.1]; exact info5) (by rw [HL.out.2.2.2.2.2.2.2.2.2.2.2.2.2.2.1]; rfl) (ones64 _)) ?_
  refine hK.out _ _ ?_
  clear hK K
  have P15 : Aside0 (PS w 1 [(pW), List.replicate 20 0] [g3, g4, g5, g6, g7, g8, g9, g10] [ra, rb, rd, rs, re, rg, rf, rh] (w14.setRow g10 (cells64 rh))) := ⟨P14.out.put 7 rh (by simp)⟩
  clear P14
  generalize (w14.setRow g10 (cells64 rh)) = w15 at P15 ⊢
  refine done_ (done_of HT_.out (by kernel_rfl)) ?_
  clear HT_ HW_
  go_upto_region 7 with (fail)
  refine start_ (n := 14) (S := fun w' => Below w15.heap.size w15 w') (ds := [13]) (fl 14 0) (by kernel_rfl) rfl rfl (below_drew1 (Below.refl _ _)) (fun hHeld => ?_)
  refine with_tabW DblT.tab7 DblT.bits7 (fun HT_ HW_ => ?_)
  refine takeA (i := 0) (N := some 42) (v := .agg (cells64 re)) (fl 14 1) (take_ofW HT_.out HW_.out (by kernel_rfl)) hHeld ?_ (hy := fun w' s0 => run_row w' 50 (.tmp 7) rfl g7 (by rfl) 50 (cells64 re) (0, 0) _ (((P15.out.m.el 4 (by simp)).below s0)) Tryd.underlying50 rfl (by rw [HL.out.2.2.2.2.2.2.2.2.2.2.2.1]; exact info5))
  refine takeA (i := 1) (N := some 43) (v := .agg (cells64 rf)) (fl 14 3) (take_ofW HT_.out HW_.out (by kernel_rfl)) hHeld ?_ (hy := fun w' s0 => run_row w' 50 (.tmp 9) rfl g9 (by rfl) 50 (cells64 rf) (0, 0) _ (((P15.out.m.el 6 (by simp)).below s0)) Tryd.underlying50 rfl (by rw [HL.out.2.2.2.2.2.2.2.2.2.2.2.2.2.1]; exact info5))
  refine takeA (i := 3) (N := some 45) (v := .agg (cells64 rg)) (fl 14 11) (take_ofW HT_.out HW_.out (by kernel_rfl)) hHeld ?_ (hy := fun w' s0 => run_row w' 50 (.tmp 8) rfl g8 (by rfl) 50 (cells64 rg) (0, 0) _ (((P15.out.m.el 5 (by simp)).below s0)) Tryd.underlying50 rfl (by rw [HL.out.2.2.2.2.2.2.2.2.2.2.2.2.1]; exact info5))
  refine takeA (i := 4) (N := some 46) (v := .agg (cells64 rh)) (fl 14 27) (take_ofW HT_.out HW_.out (by kernel_rfl)) hHeld ?_ (hy := fun w' s0 => run_row w' 50 (.tmp 10) rfl g10 (by rfl) 50 (cells64 rh) (0, 0) _ (((P15.out.m.el 7 (by simp)).below s0)) Tryd.underlying50 rfl (by rw [HL.out.2.2.2.2.2.2.2.2.2.2.2.2.2.2.1]; exact info5))
  refine takeA (i := 6) (N := some 48) (v := .agg (cells64 rf)) (fl 14 91) (take_ofW HT_.out HW_.out (by kernel_rfl)) hHeld ?_ (hy := fun w' s0 => run_row w' 50 (.tmp 9) rfl g9 (by rfl) 50 (cells64 rf) (0, 0) _ (((P15.out.m.el 6 (by simp)).below s0)) Tryd.underlying50 rfl (by rw [HL.out.2.2.2.2.2.2.2.2.2.2.2.2.2.1]; exact info5))
  refine takeA (i := 7) (N := some 49) (v := .agg (cells64 rg)) (fl 14 219) (take_ofW HT_.out HW_.out (by kernel_rfl)) hHeld ?_ (hy := fun w' s0 => run_row w' 50 (.tmp 8) rfl g8 (by rfl) 50 (cells64 rg) (0, 0) _ (((P15.out.m.el 5 (by simp)).below s0)) Tryd.underlying50 rfl (by rw [HL.out.2.2.2.2.2.2.2.2.2.2.2.2.1]; exact info5))
  refine takeA (i := 9) (N := some 51) (v := .agg (cells64 re)) (fl 14 731) (take_ofW HT_.out HW_.out (by kernel_rfl)) hHeld ?_ (hy := fun w' s0 => run_row w' 50 (.tmp 7) rfl g7 (by rfl) 50 (cells64 re) (0, 0) _ (((P15.out.m.el 4 (by simp)).below s0)) Tryd.underlying50 rfl (by rw [HL.out.2.2.2.2.2.2.2.2.2.2.2.1]; exact info5))
  refine takeA (i := 10) (N := some 52) (v := .agg (cells64 rh)) (fl 14 1755) (take_ofW HT_.out HW_.out (by kernel_rfl)) hHeld ?_ (hy := fun w' s0 => run_row w' 50 (.tmp 10) rfl g10 (by rfl) 50 (cells64 rh) (0, 0) _ (((P15.out.m.el 7 (by simp)).below s0)) Tryd.underlying50 rfl (by rw [HL.out.2.2.2.2.2.2.2.2.2.2.2.2.2.2.1]; exact info5))
  refine one_ (i := 2) (N := some 44) (fl 14 1759) rfl rfl (one_of HT_.out (by kernel_rfl)) (by decide) (fun K hK => ?_)
  refine goes_ Tryd.func57 (by kernel_rfl) rfl #[.agg (cells64 re), .agg (cells64 rf)] (by rfl) rfl rfl eqA ?_
  with_reducible refine (HK.out.2.2.2.2.2.2.2.2.2.2.2.1 _).mono ?_
  rintro e v2 ⟨rfl, hb⟩
  refine ⟨_, rfl, ?_⟩
  have hHeld2 := below_step hHeld hb
  clear hHeld hb
  refine hK.out _ _ hHeld2 (fun hHeld => ?_)
  clear hK K hHeld2
  refine normA (some 44) ?_
  refine one_ (i := 5) (N := some 47) (fl 14 1791) rfl rfl (one_of HT_.out (by kernel_rfl)) (by decide) (fun K hK => ?_)
  refine goes_ Tryd.func57 (by kernel_rfl) rfl #[.agg (cells64 rg), .agg (cells64 rh)] (by rfl) rfl rfl eqA ?_
  with_reducible refine (HK.out.2.2.2.2.2.2.2.2.2.2.2.2.1 _).mono ?_
  rintro e v5 ⟨rfl, hb⟩
  refine ⟨_, rfl, ?_⟩
  have hHeld2 := below_step hHeld hb
  clear hHeld hb
  refine hK.out _ _ hHeld2 (fun hHeld => ?_)
  clear hK K hHeld2
  refine normA (some 47) ?_
  refine one_ (i := 8) (N := some 50) (fl 14 2047) rfl rfl (one_of HT_.out (by kernel_rfl)) (by decide) (fun K hK => ?_)
  refine goes_ Tryd.func57 (by kernel_rfl) rfl #[.agg (cells64 rf), .agg (cells64 rg)] (by rfl) rfl rfl eqA ?_
  with_reducible refine (HK.out.2.2.2.2.2.2.2.2.2.2.2.2.2.1 _).mono ?_
  rintro e v8 ⟨rfl, hb⟩
  refine ⟨_, rfl, ?_⟩
  have hHeld2 := below_step hHeld hb
  clear hHeld hb
  refine hK.out _ _ hHeld2 (fun hHeld => ?_)
  clear hK K hHeld2
  refine normA (some 50) ?_
  refine one_ (i := 11) (N := some 53) (fl 14 4095) rfl rfl (one_of HT_.out (by kernel_rfl)) (by decide) (fun K hK => ?_)
  refine goes_ Tryd.func57 (by kernel_rfl) rfl #[.agg (cells64 re), .agg (cells64 rh)] (by rfl) rfl rfl eqA ?_
  with_reducible refine (HK.out.2.2.2.2.2.2.2.2.2.2.2.2.2.2 _).mono ?_
  rintro e v11 ⟨rfl, hb⟩
  refine ⟨_, rfl, ?_⟩
  have hHeld2 := below_step hHeld hb
  clear hHeld hb
  refine hK.out _ _ hHeld2 (fun hHeld => ?_)
  clear hK K hHeld2
  refine normA (some 53) ?_
  have P16 := Aside0.mk (P15.out.below hHeld)
  clear P15
  obtain ⟨w16, hw16⟩ : ∃ W : World, W = v11 := ⟨_, rfl⟩
  rw [← hw16] at P16 hHeld ⊢
  clear hw16
  refine one_ (i := 12) (N := some 54) (fl 14 8191) rfl rfl (one_of HT_.out (by kernel_rfl)) (by decide) (fun K hK => ?_)
  refine value_ (v := .agg (cells64 (oW))) (w1 := w16) (by rfl) rfl (run_build_op _ _ _ rfl _ (by simp only [List.map_toArray, List.map_cons, List.map_nil]; rfl) (HB.out w16)) ?_
  refine hK.out _ _ hHeld (fun _ => ?_)
  clear hK K hHeld
  refine normA (some 54) ?_
  refine last_ (i := 13) (N := none) (fl 14 16383) rfl rfl (one_of HT_.out (by kernel_rfl)) (by decide) (fun K hK => ?_)
  refine skip_ (w1 := w16.setRow (w.heap.size + 1) (cells64 (oW))) (by rfl) rfl (run_put w16 52 (.tmp 2) (.tmp 54) rfl (w.heap.size + 1) (cells64 (oW)) (by rfl) (by rfl) 52 (cells64 (List.replicate 20 0)) (P16.out.p 1 (by simp)) (by rw [HP.out.2]; exact info20) (by rw [HP.out.2]; rfl) (ones64 _)) ?_
  refine hK.out _ _ ?_
  clear hK K
  refine done_ (done_of HT_.out (by kernel_rfl)) ?_
  clear HT_ HW_
  go_wp2
  refine bodyPost_ret (v := .agg (cells64 (oW))) (results_cell_row (by rfl) _ _ (w.heap.size + 1) 52 (cells64 (oW)) (0, 0) _ (by rfl) (setRow_heap _ _ _ _ _ _ (P16.out.p 1 (by simp))) Tryd.underlying52 rfl (by rw [HP.out.2]; exact info20)) rfl ⟨rfl, below_setRow P16.out.b (by omega) _⟩
def SumT.T1 : Bool × List (List Nat × List Nat) := (true, [([], []), ([0], [0]), ([], []), ([2], [2]), ([1, 3], [1, 3]), ([], []), ([5], [5]), ([], []), ([7], [7]), ([6, 8, 4], [6, 8]), ([4, 9, 9], [4, 9]), ([], []), ([11, 10, 10, 0, 1, 2, 3, 4, 5, 6, 7, 8, 9, 10, 11], [10, 11])])
def SumT.B1 : List Nat := [0, 1, 0, 4, 15, 0, 32, 0, 128, 511, 1023, 0, 4095]
theorem SumT.tab1 : rtab .any (opsOf Tryd.f21 1) = SumT.T1 := by kernel_rfl
theorem SumT.bits1 : waitsOk SumT.T1.2 SumT.B1 = true := by kernel_rfl
def SumT.T2 : Bool × List (List Nat × List Nat) := (true, [([], []), ([0], [0]), ([], []), ([2], [2]), ([1, 3], [1, 3]), ([], []), ([5], [5]), ([], []), ([7], [7]), ([6, 8, 4], [6, 8]), ([4, 9, 9], [4, 9]), ([], []), ([11, 10, 10, 0, 1, 2, 3, 4, 5, 6, 7, 8, 9, 10, 11], [10, 11])])
def SumT.B2 : List Nat := [0, 1, 0, 4, 15, 0, 32, 0, 128, 511, 1023, 0, 4095]
theorem SumT.tab2 : rtab .any (opsOf Tryd.f21 2) = SumT.T2 := by kernel_rfl
theorem SumT.bits2 : waitsOk SumT.T2.2 SumT.B2 = true := by kernel_rfl
def SumT.T3 : Bool × List (List Nat × List Nat) := (true, [([], []), ([0], [0]), ([], []), ([2], [2]), ([1, 3], [1, 3]), ([], []), ([4, 5, 4], [4, 5]), ([], []), ([7, 6, 6, 0, 1, 2, 3, 4, 5, 6, 7], [6, 7])])
def SumT.B3 : List Nat := [0, 1, 0, 4, 15, 0, 63, 0, 255]
theorem SumT.tab3 : rtab .any (opsOf Tryd.f21 3) = SumT.T3 := by kernel_rfl
theorem SumT.bits3 : waitsOk SumT.T3.2 SumT.B3 = true := by kernel_rfl
def SumT.T6 : Bool × List (List Nat × List Nat) := (true, [([], []), ([], []), ([0, 1], [0, 1]), ([], []), ([], []), ([3, 4, 2], [3, 4]), ([], []), ([], []), ([6, 7, 5], [6, 7]), ([], []), ([], []), ([9, 10, 8], [9, 10]), ([], []), ([], []), ([], []), ([], []), ([12, 2, 11, 0, 1, 2, 12, 13, 14, 15], [2, 12]), ([13, 5, 16, 0, 1, 2, 3, 4, 5, 12, 13, 14, 15, 16], [5, 13]), ([14, 8, 17, 0, 1, 2, 3, 4, 5, 6, 7, 8, 12, 13, 14, 15, 16, 17], [8, 14]), ([15, 11, 18, 0, 1, 2, 3, 4, 5, 6, 7, 8, 9, 10, 11, 12, 13, 14, 15, 16, 17, 18], [11, 15])])
def SumT.B6 : List Nat := [0, 0, 3, 0, 0, 31, 0, 0, 255, 0, 0, 2047, 0, 0, 0, 0, 65535, 131071, 262143, 524287]
theorem SumT.tab6 : rtab .any (opsOf Tryd.f21 6) = SumT.T6 := by kernel_rfl
theorem SumT.bits6 : waitsOk SumT.T6.2 SumT.B6 = true := by kernel_rfl
def SumT.T7 : Bool × List (List Nat × List Nat) := (true, [([], []), ([], []), ([0, 1], [0, 1]), ([], []), ([], []), ([3, 4, 2], [3, 4]), ([], []), ([], []), ([6, 7, 5], [6, 7]), ([], []), ([], []), ([9, 10, 8], [9, 10]), ([2, 5, 8, 11], [2, 5, 8, 11]), ([12, 11, 0, 1, 2, 3, 4, 5, 6, 7, 8, 9, 10, 11, 12], [12])])
def SumT.B7 : List Nat := [0, 0, 3, 0, 0, 31, 0, 0, 255, 0, 0, 2047, 4095, 8191]
theorem SumT.tab7 : rtab .any (opsOf Tryd.f21 7) = SumT.T7 := by kernel_rfl
theorem SumT.bits7 : waitsOk SumT.T7.2 SumT.B7 = true := by kernel_rfl
set_option maxRecDepth 100000 in
set_option maxHeartbeats 8000000 in
theorem Sum_w (px py pz pt qx qy qz qt cu r1 r2 ra r3 r4 rb r5 rc r6 rd re rf rg rh oX oY oZ oT pW qW oW : List Int) (h_pW : pW = px ++ py ++ pz ++ pt) (h_qW : qW = qx ++ qy ++ qz ++ qt) (h_oW : oW = oX ++ oY ++ oZ ++ oT) (h_px : px.length = 5) (h_py : py.length = 5) (h_pz : pz.length = 5) (h_pt : pt.length = 5) (h_qx : qx.length = 5) (h_qy : qy.length = 5) (h_qz : qz.length = 5) (h_qt : qt.length = 5) (h_cu : cu.length = 5) (h_r1 : r1.length = 5) (h_r2 : r2.length = 5) (h_ra : ra.length = 5) (h_r3 : r3.length = 5) (h_r4 : r4.length = 5) (h_rb : rb.length = 5) (h_r5 : r5.length = 5) (h_rc : rc.length = 5) (h_r6 : r6.length = 5) (h_rd : rd.length = 5) (h_re : re.length = 5) (h_rf : rf.length = 5) (h_rg : rg.length = 5) (h_rh : rh.length = 5) (h_oX : oX.length = 5) (h_oY : oY.length = 5) (h_oZ : oZ.length = 5) (h_oT : oT.length = 5) (tt : TypeId) (fr : Nat × Nat) (w : World) (hG : w.heap[4]? = some (.cells (cells64 cu) tt fr) ∧ 4 < w.heap.size)
    (k0 : ∀ w : World, Calls Tryd.prog 54 #[.agg (cells64 py), .agg (cells64 px)] w fun e w' => e = .returned (.agg (cells64 r1)) ∧ Below w.heap.size w w')
    (k1 : ∀ w : World, Calls Tryd.prog 54 #[.agg (cells64 qy), .agg (cells64 qx)] w fun e w' => e = .returned (.agg (cells64 r2)) ∧ Below w.heap.size w w')
    (k2 : ∀ w : World, Calls Tryd.prog 57 #[.agg (cells64 r1), .agg (cells64 r2)] w fun e w' => e = .returned (.agg (cells64 ra)) ∧ Below w.heap.size w w')
    (k3 : ∀ w : World, Calls Tryd.prog 56 #[.agg (cells64 py), .agg (cells64 px)] w fun e w' => e = .returned (.agg (cells64 r3)) ∧ Below w.heap.size w w')
    (k4 : ∀ w : World, Calls Tryd.prog 56 #[.agg (cells64 qy), .agg (cells64 qx)] w fun e w' => e = .returned (.agg (cells64 r4)) ∧ Below w.heap.size w w')
    (k5 : ∀ w : World, Calls Tryd.prog 57 #[.agg (cells64 r3), .agg (cells64 r4)] w fun e w' => e = .returned (.agg (cells64 rb)) ∧ Below w.heap.size w w')
    (k6 : ∀ w : World, Calls Tryd.prog 57 #[.agg (cells64 pt), .agg (cells64 qt)] w fun e w' => e = .returned (.agg (cells64 r5)) ∧ Below w.heap.size w w')
    (k7 : ∀ w : World, Calls Tryd.prog 57 #[.agg (cells64 r5), .agg (cells64 cu)] w fun e w' => e = .returned (.agg (cells64 rc)) ∧ Below w.heap.size w w')
    (k8 : ∀ w : World, Calls Tryd.prog 57 #[.agg (cells64 pz), .agg (cells64 qz)] w fun e w' => e = .returned (.agg (cells64 r6)) ∧ Below w.heap.size w w')
    (k9 : ∀ w : World, Calls Tryd.prog 56 #[.agg (cells64 r6), .agg (cells64 r6)] w fun e w' => e = .returned (.agg (cells64 rd)) ∧ Below w.heap.size w w')
    (k10 : ∀ w : World, Calls Tryd.prog 54 #[.agg (cells64 rb), .agg (cells64 ra)] w fun e w' => e = .returned (.agg (cells64 re)) ∧ Below w.heap.size w w')
    (k11 : ∀ w : World, Calls Tryd.prog 54 #[.agg (cells64 rd), .agg (cells64 rc)] w fun e w' => e = .returned (.agg (cells64 rf)) ∧ Below w.heap.size w w')
    (k12 : ∀ w : World, Calls Tryd.prog 56 #[.agg (cells64 rd), .agg (cells64 rc)] w fun e w' => e = .returned (.agg (cells64 rg)) ∧ Below w.heap.size w w')
    (k13 : ∀ w : World, Calls Tryd.prog 56 #[.agg (cells64 rb), .agg (cells64 ra)] w fun e w' => e = .returned (.agg (cells64 rh)) ∧ Below w.heap.size w w')
    (k14 : ∀ w : World, Calls Tryd.prog 57 #[.agg (cells64 re), .agg (cells64 rf)] w fun e w' => e = .returned (.agg (cells64 oX)) ∧ Below w.heap.size w w')
    (k15 : ∀ w : World, Calls Tryd.prog 57 #[.agg (cells64 rg), .agg (cells64 rh)] w fun e w' => e = .returned (.agg (cells64 oY)) ∧ Below w.heap.size w w')
    (k16 : ∀ w : World, Calls Tryd.prog 57 #[.agg (cells64 rf), .agg (cells64 rg)] w fun e w' => e = .returned (.agg (cells64 oZ)) ∧ Below w.heap.size w w')
    (k17 : ∀ w : World, Calls Tryd.prog 57 #[.agg (cells64 re), .agg (cells64 rh)] w fun e w' => e = .returned (.agg (cells64 oT)) ∧ Below w.heap.size w w')
    (kB : ∀ w : World, (Instr.build 52 #[(0, (.agg (cells64 oX))), (1, (.agg (cells64 oY))), (2, (.agg (cells64 oZ))), (3, (.agg (cells64 oT)))]).run Tryd.prog w = .ok (.agg (cells64 (oW))) w) :
    Calls Tryd.prog 21 #[.agg (cells64 (pW)), .agg (cells64 (qW))] w fun e w' => e = .returned (.agg (cells64 (oW))) ∧ Below w.heap.size w w' := by
  have HL := Lib.hid (And.intro (size5 h_px) (And.intro (size5 h_py) (And.intro (size5 h_pz) (And.intro (size5 h_pt) (And.intro (size5 h_qx) (And.intro (size5 h_qy) (And.intro (size5 h_qz) (And.intro (size5 h_qt) (And.intro (size5 h_cu) (And.intro (size5 h_r1) (And.intro (size5 h_r2) (And.intro (size5 h_ra) (And.intro (size5 h_r3) (And.intro (size5 h_r4) (And.intro (size5 h_rb) (And.intro (size5 h_r5) (And.intro (size5 h_rc) (And.intro (size5 h_r6) (And.intro (size5 h_rd) (And.intro (size5 h_re) (And.intro (size5 h_rf) (And.intro (size5 h_rg) (And.intro (size5 h_rh) (And.intro (size5 h_oX) (And.intro (size5 h_oY) (And.intro (size5 h_oZ) ((size5 h_oT))))))))))))))))))))))))))))
  have HK := Aside0.mk (And.intro k0 (And.intro k1 (And.intro k2 (And.intro k3 (And.intro k4 (And.intro k5 (And.intro k6 (And.intro k7 (And.intro k8 (And.intro k9 (And.intro k10 (And.intro k11 (And.intro k12 (And.intro k13 (And.intro k14 (And.intro k15 (And.intro k16 (k17))))))))))))))))))
  have HB := Aside0.mk kB
  have HG := Aside0.mk hG
  have hr0 : ∀ w1 : World, PtAt (w.heap.size + 0) (pW) w1 → w1.rangeAt (w.heap.size + 0) 0 (cells64 px).toList ∧ w1.rangeAt (w.heap.size + 0) 5 (cells64 py).toList ∧ w1.rangeAt (w.heap.size + 0) 10 (cells64 pz).toList ∧ w1.rangeAt (w.heap.size + 0) 15 (cells64 pt).toList := fun w1 hp => PtAt.row4 (by rw [← h_pW]; exact hp) h_px h_py h_pz h_pt
  have hr1 : ∀ w1 : World, PtAt (w.heap.size + 1) (qW) w1 → w1.rangeAt (w.heap.size + 1) 0 (cells64 qx).toList ∧ w1.rangeAt (w.heap.size + 1) 5 (cells64 qy).toList ∧ w1.rangeAt (w.heap.size + 1) 10 (cells64 qz).toList ∧ w1.rangeAt (w.heap.size + 1) 15 (cells64 qt).toList := fun w1 hp => PtAt.row4 (by rw [← h_qW]; exact hp) h_qx h_qy h_qz h_qt
  have HR := Aside0.mk (And.intro hr0 (And.intro hr1 (True.intro)))
  have HP := Lib.hid (And.intro (size20 h_pW h_px h_py h_pz h_pt) (And.intro (size20 h_qW h_qx h_qy h_qz h_qt) ((size20 h_oW h_oX h_oY h_oZ h_oT))))
  clear h_px h_py h_pz h_pt h_qx h_qy h_qz h_qt h_cu h_r1 h_r2 h_ra h_r3 h_r4 h_rb h_r5 h_rc h_r6 h_rd h_re h_rf h_rg h_rh h_oX h_oY h_oZ h_oT h_pW h_qW h_oW k0 k1 k2 k3 k4 k5 k6 k7 k8 k9 k10 k11 k12 k13 k14 k15 k16 k17 kB hr0 hr1 hG
  go_enter Tryd.func21, Tryd.ntmps21
  go_upto_region 1 with (fail)
  have P0 : Aside0 (PS w 2 [(pW), (qW), List.replicate 20 0] [] [] (((w.alloc (.cells (cells64 (pW)) 52)).alloc (.cells (cells64 (qW)) 52)).alloc (.cells #[.int .u64 0, .int .u64 0, .int .u64 0, .int .u64 0, .int .u64 0, .int .u64 0, .int .u64 0, .int .u64 0, .int .u64 0, .int .u64 0, .int .u64 0, .int .u64 0, .int .u64 0, .int .u64 0, .int .u64 0, .int .u64 0, .int .u64 0, .int .u64 0, .int .u64 0, .int .u64 0] 52))) := ⟨PS.of2 w _ _⟩
  generalize (((w.alloc (.cells (cells64 (pW)) 52)).alloc (.cells (cells64 (qW)) 52)).alloc (.cells #[.int .u64 0, .int .u64 0, .int .u64 0, .int .u64 0, .int .u64 0, .int .u64 0, .int .u64 0, .int .u64 0, .int .u64 0, .int .u64 0, .int .u64 0, .int .u64 0, .int .u64 0, .int .u64 0, .int .u64 0, .int .u64 0, .int .u64 0, .int .u64 0, .int .u64 0, .int .u64 0] 52)) = w0 at P0 ⊢
  refine start_ (n := 13) (S := fun w' => Below w0.heap.size w0 w') (ds := [12]) (fl 13 0) (by kernel_rfl) rfl rfl (below_drew1 (Below.refl _ _)) (fun hHeld => ?_)
  refine with_tabW SumT.tab1 SumT.bits1 (fun HT_ HW_ => ?_)
  refine pB 0 13 13 1 ?_
  refine takeA (i := 1) (N := some 14) (v := .agg (cells64 py)) (fl 13 3) (take_ofW HT_.out HW_.out (by kernel_rfl)) hHeld ?_ (hy := fun w' s0 => run_atx w' 50 (.tmp 13) rfl (w.heap.size) 5 (by rfl) py _ (rangeAt_below (HR.out.1 _ (P0.out.p 0 (by simp))).2.1 s0) Tryd.underlying50 (by rfl) (by rw [HL.out.2.1]; exact info5))
  refine pB 2 15 13 7 ?_
  refine takeA (i := 3) (N := some 16) (v := .agg (cells64 px)) (fl 13 15) (take_ofW HT_.out HW_.out (by kernel_rfl)) hHeld ?_ (hy := fun w' s0 => run_atx w' 50 (.tmp 15) rfl (w.heap.size) 0 (by rfl) px _ (rangeAt_below (HR.out.1 _ (P0.out.p 0 (by simp))).1 s0) Tryd.underlying50 (by rfl) (by rw [HL.out.1]; exact info5))
  refine pB 5 18 13 47 ?_
  refine takeA (i := 6) (N := some 19) (v := .agg (cells64 qy)) (fl 13 111) (take_ofW HT_.out HW_.out (by kernel_rfl)) hHeld ?_ (hy := fun w' s0 => run_atx w' 50 (.tmp 18) rfl (w.heap.size + 1) 5 (by rfl) qy _ (rangeAt_below (HR.out.2.1 _ (P0.out.p 1 (by simp))).2.1 s0) Tryd.underlying50 (by rfl) (by rw [HL.out.2.2.2.2.2.1]; exact info5))
  refine pB 7 20 13 239 ?_
  refine takeA (i := 8) (N := some 21) (v := .agg (cells64 qx)) (fl 13 495) (take_ofW HT_.out HW_.out (by kernel_rfl)) hHeld ?_ (hy := fun w' s0 => run_atx w' 50 (.tmp 20) rfl (w.heap.size + 1) 0 (by rfl) qx _ (rangeAt_below (HR.out.2.1 _ (P0.out.p 1 (by simp))).1 s0) Tryd.underlying50 (by rfl) (by rw [HL.out.2.2.2.2.1]; exact info5))
  refine phz HT_.out 13 495 4095 4 [true, true, true, true, false, true, true, true, true, false, false, false, false] [4, 9, 10] [11] (by kernel_rfl) (by kernel_rfl) (by kernel_rfl) rfl w0 _ [(17, .agg (cells64 r1)), (22, .agg (cells64 r2)), (23, .agg (cells64 ra))] [5] (cells64 [0, 0, 0, 0, 0]) 50 rfl rfl (by decide) (by simp) 1 ?_ ?_ _ hHeld ?_
  · intro j hj tm wj htm hbj
    match j, hj with
    | 0, _ =>
      refine callOk (i := 4) (N := 17) rfl (by decide) rfl Tryd.func54 (by kernel_rfl) rfl rfl #[.agg (cells64 py), .agg (cells64 px)] (.agg (cells64 r1)) tm wj (by rfl) ?_ HK.out.1
      simp only [List.map_toArray, List.map_cons, List.map_nil]
      show #[tm.getD 14 undef, tm.getD 16 undef] = _
      rw [htm 14 (by decide), htm 16 (by decide)]
      rfl
    | 1, _ =>
      refine callOk (i := 9) (N := 22) rfl (by decide) rfl Tryd.func54 (by kernel_rfl) rfl rfl #[.agg (cells64 qy), .agg (cells64 qx)] (.agg (cells64 r2)) tm wj (by rfl) ?_ HK.out.2.1
      simp only [List.map_toArray, List.map_cons, List.map_nil]
      show #[tm.getD 19 undef, tm.getD 21 undef] = _
      rw [htm 19 (by decide), htm 21 (by decide)]
      rfl
    | 2, _ =>
      refine callOk (i := 10) (N := 23) rfl (by decide) rfl Tryd.func57 (by kernel_rfl) rfl rfl #[.agg (cells64 r1), .agg (cells64 r2)] (.agg (cells64 ra)) tm wj (by rfl) ?_ HK.out.2.2.1
      simp only [List.map_toArray, List.map_cons, List.map_nil]
      show #[tm.getD 17 undef, tm.getD 22 undef] = _
      rw [htm 17 (by decide), htm 22 (by decide)]
      rfl
    | j + 3, hj => exact absurd hj (by simp)
  · intro j hj tm wj
    match j, hj with
    | 0, _ => exact allocOk (i := 11) (s := 5) rfl (by decide) rfl _ _ tm wj (by rfl) (by kernel_rfl)
    | j + 1, hj => exact absurd hj (by simp)
  intro gn w1 hgl hbk hnk hek
  obtain ⟨g5, rfl⟩ := list1 gn hgl
  have P1 : Aside0 (PS w 2 [(pW), (qW), List.replicate 20 0] [g5] [[0, 0, 0, 0, 0]] w1) := ⟨P0.out.app hbk hnk hek⟩
  clear hgl hbk hnk hek P0 hHeld
  simp only [setAd, setAll, if_true, List.replicate, List.length_cons, List.length_nil, List.setIfInBounds_toArray, List.set_cons_zero, List.set_cons_succ, ptrV]
  refine last_ (i := 12) (N := none) (fl 13 8191) rfl rfl (one_of HT_.out (by kernel_rfl)) (by decide) (fun K hK => ?_)
  refine skip_ (w1 := w1.setRow g5 (cells64 ra)) (by rfl) rfl (run_put w1 50 (.tmp 5) (.tmp 23) rfl g5 (cells64 ra) (by rfl) (by rfl) 50 (cells64 [0, 0, 0, 0, 0]) (P1.out.m.el 0 (by simp)) (by rw [HL.out.2.2.2.2.2.2.2.2.2.2.2.1]; exact info5) (by rw [HL.out.2.2.2.2.2.2.2.2.2.2.2.1]; rfl) (ones64 _)) ?_
  refine hK.out _ _ ?_
  clear hK K
  have P2 : Aside0 (PS w 2 [(pW), (qW), List.replicate 20 0] [g5] [ra] (w1.setRow g5 (cells64 ra))) := ⟨P1.out.put 0 ra (by simp)⟩
  clear P1
  generalize (w1.setRow g5 (cells64 ra)) = w2 at P2 ⊢
  refine done_ (done_of HT_.out (by kernel_rfl)) ?_
  clear HT_ HW_
  go_upto_region 2 with (fail)
  refine start_ (n := 13) (S := fun w' => Below w2.heap.size w2 w') (ds := [12]) (fl 13 0) (by kernel_rfl) rfl rfl (below_drew1 (Below.refl _ _)) (fun hHeld => ?_)
  refine with_tabW SumT.tab2 SumT.bits2 (fun HT_ HW_ => ?_)
  refine pB 0 24 13 1 ?_
  refine takeA (i := 1) (N := some 25) (v := .agg (cells64 py)) (fl 13 3) (take_ofW HT_.out HW_.out (by kernel_rfl)) hHeld ?_ (hy := fun w' s0 => run_atx w' 50 (.tmp 24) rfl (w.heap.size) 5 (by rfl) py _ (rangeAt_below (HR.out.1 _ (P2.out.p 0 (by simp))).2.1 s0) Tryd.underlying50 (by rfl) (by rw [HL.out.2.1]; exact info5))
  refine pB 2 26 13 7 ?_
  refine takeA (i := 3) (N := some 27) (v := .agg (cells64 px)) (fl 13 15) (take_ofW HT_.out HW_.out (by kernel_rfl)) hHeld ?_ (hy := fun w' s0 => run_atx w' 50 (.tmp 26) rfl (w.heap.size) 0 (by rfl) px _ (rangeAt_below (HR.out.1 _ (P2.out.p 0 (by simp))).1 s0) Tryd.underlying50 (by rfl) (by rw [HL.out.1]; exact info5))
  refine pB 5 29 13 47 ?_
  refine takeA (i := 6) (N := some 30) (v := .agg (cells64 qy)) (fl 13 111) (take_ofW HT_.out HW_.out (by kernel_rfl)) hHeld ?_ (hy := fun w' s0 => run_atx w' 50 (.tmp 29) rfl (w.heap.size + 1) 5 (by rfl) qy _ (rangeAt_below (HR.out.2.1 _ (P2.out.p 1 (by simp))).2.1 s0) Tryd.underlying50 (by rfl) (by rw [HL.out.2.2.2.2.2.1]; exact info5))
  refine pB 7 31 13 239 ?_
  refine takeA (i := 8) (N := some 32) (v := .agg (cells64 qx)) (fl 13 495) (take_ofW HT_.out HW_.out (by kernel_rfl)) hHeld ?_ (hy := fun w' s0 => run_atx w' 50 (.tmp 31) rfl (w.heap.size + 1) 0 (by rfl) qx _ (rangeAt_below (HR.out.2.1 _ (P2.out.p 1 (by simp))).1 s0) Tryd.underlying50 (by rfl) (by rw [HL.out.2.2.2.2.1]; exact info5))
  refine phz HT_.out 13 495 4095 4 [true, true, true, true, false, true, true, true, true, false, false, false, false] [4, 9, 10] [11] (by kernel_rfl) (by kernel_rfl) (by kernel_rfl) rfl w2 _ [(28, .agg (cells64 r3)), (33, .agg (cells64 r4)), (34, .agg (cells64 rb))] [6] (cells64 [0, 0, 0, 0, 0]) 50 rfl rfl (by decide) (by simp) 1 ?_ ?_ _ hHeld ?_
  · intro j hj tm wj htm hbj
    match j, hj with
    | 0, _ =>
      refine callOk (i := 4) (N := 28) rfl (by decide) rfl Tryd.func56 (by kernel_rfl) rfl rfl #[.agg (cells64 py), .agg (cells64 px)] (.agg (cells64 r3)) tm wj (by rfl) ?_ HK.out.2.2.2.1
      simp only [List.map_toArray, List.map_cons, List.map_nil]
      show #[tm.getD 25 undef, tm.getD 27 undef] = _
      rw [htm 25 (by decide), htm 27 (by decide)]
      rfl
    | 1, _ =>
      refine callOk (i := 9) (N := 33) rfl (by decide) rfl Tryd.func56 (by kernel_rfl) rfl rfl #[.agg (cells64 qy), .agg (cells64 qx)] (.agg (cells64 r4)) tm wj (by rfl) ?_ HK.out.2.2.2.2.1
      simp only [List.map_toArray, List.map_cons, List.map_nil]
      show #[tm.getD 30 undef, tm.getD 32 undef] = _
      rw [htm 30 (by decide), htm 32 (by decide)]
      rfl
    | 2, _ =>
      refine callOk (i := 10) (N := 34) rfl (by decide) rfl Tryd.func57 (by kernel_rfl) rfl rfl #[.agg (cells64 r3), .agg (cells64 r4)] (.agg (cells64 rb)) tm wj (by rfl) ?_ HK.out.2.2.2.2.2.1
      simp only [List.map_toArray, List.map_cons, List.map_nil]
      show #[tm.getD 28 undef, tm.getD 33 undef] = _
      rw [htm 28 (by decide), htm 33 (by decide)]
      rfl
    | j + 3, hj => exact absurd hj (by simp)
  · intro j hj tm wj
    match j, hj with
    | 0, _ => exact allocOk (i := 11) (s := 6) rfl (by decide) rfl _ _ tm wj (by rfl) (by kernel_rfl)
    | j + 1, hj => exact absurd hj (by simp)
  intro gn w3 hgl hbk hnk hek
  obtain ⟨g6, rfl⟩ := list1 gn hgl
  have P3 : Aside0 (PS w 2 [(pW), (qW), List.replicate 20 0] [g5, g6] [ra, [0, 0, 0, 0, 0]] w3) := ⟨P2.out.app hbk hnk hek⟩
  clear hgl hbk hnk hek P2 hHeld
  simp only [setAd, setAll, if_true, List.replicate, List.length_cons, List.length_nil, List.setIfInBounds_toArray, List.set_cons_zero, List.set_cons_succ, ptrV]
  refine last_ (i := 12) (N := none) (fl 13 8191) rfl rfl (one_of HT_.out (by kernel_rfl)) (by decide) (fun K hK => ?_)
  refine skip_ (w1 := w3.setRow g6 (cells64 rb)) (by rfl) rfl (run_put w3 50 (.tmp 6) (.tmp 34) rfl g6 (cells64 rb) (by rfl) (by rfl) 50 (cells64 [0, 0, 0, 0, 0]) (P3.out.m.el 1 (by simp)) (by rw [HL.out.2.2.2.2.2.2.2.2.2.2.2.2.2.2.1]; exact info5) (by rw [HL.out.2.2.2.2.2.2.2.2.2.2.2.2.2.2.1]; rfl) (ones64 _)) ?_
  refine hK.out _ _ ?_
  clear hK K
  have P4 : Aside0 (PS w 2 [(pW), (qW), List.replicate 20 0] [g5, g6] [ra, rb] (w3.setRow g6 (cells64 rb))) := ⟨P3.out.put 1 rb (by simp)⟩
  clear P3
  generalize (w3.setRow g6 (cells64 rb)) = w4 at P4 ⊢
  refine done_ (done_of HT_.out (by kernel_rfl)) ?_
  clear HT_ HW_
  go_upto_region 3 with (fail)
  refine start_ (n := 9) (S := fun w' => Below w4.heap.size w4 w') (ds := [8]) (fl 9 0) (by kernel_rfl) rfl rfl (below_drew1 (Below.refl _ _)) (fun hHeld => ?_)
  refine with_tabW SumT.tab3 SumT.bits3 (fun HT_ HW_ => ?_)
  refine pB 0 35 9 1 ?_
  refine takeA (i := 1) (N := some 36) (v := .agg (cells64 pt)) (fl 9 3) (take_ofW HT_.out HW_.out (by kernel_rfl)) hHeld ?_ (hy := fun w' s0 => run_atx w' 50 (.tmp 35) rfl (w.heap.size) 15 (by rfl) pt _ (rangeAt_below (HR.out.1 _ (P4.out.p 0 (by simp))).2.2.2 s0) Tryd.underlying50 (by rfl) (by rw [HL.out.2.2.2.1]; exact info5))
  refine pB 2 37 9 7 ?_
  refine takeA (i := 3) (N := some 38) (v := .agg (cells64 qt)) (fl 9 15) (take_ofW HT_.out HW_.out (by kernel_rfl)) hHeld ?_ (hy := fun w' s0 => run_atx w' 50 (.tmp 37) rfl (w.heap.size + 1) 15 (by rfl) qt _ (rangeAt_below (HR.out.2.1 _ (P4.out.p 1 (by simp))).2.2.2 s0) Tryd.underlying50 (by rfl) (by rw [HL.out.2.2.2.2.2.2.2.1]; exact info5))
  refine takeA (i := 5) (N := some 40) (v := .agg (cells64 cu)) (fl 9 47) (take_ofW HT_.out HW_.out (by kernel_rfl)) hHeld ?_ (hy := fun w' s0 => run_row w' 50 (.global 4) rfl 4 (by rfl) tt (cells64 cu) fr _ (blk_below (blk_below HG.out.1 P4.out.b) s0) Tryd.underlying50 rfl (by rw [HL.out.2.2.2.2.2.2.2.2.1]; exact info5))
  refine phz HT_.out 9 47 255 3 [true, true, true, true, false, true, false, false, false] [4, 6] [7] (by kernel_rfl) (by kernel_rfl) (by kernel_rfl) rfl w4 _ [(39, .agg (cells64 r5)), (41, .agg (cells64 rc))] [7] (cells64 [0, 0, 0, 0, 0]) 50 rfl rfl (by decide) (by simp) 1 ?_ ?_ _ hHeld ?_
  · intro j hj tm wj htm hbj
    match j, hj with
    | 0, _ =>
      refine callOk (i := 4) (N := 39) rfl (by decide) rfl Tryd.func57 (by kernel_rfl) rfl rfl #[.agg (cells64 pt), .agg (cells64 qt)] (.agg (cells64 r5)) tm wj (by rfl) ?_ HK.out.2.2.2.2.2.2.1
      simp only [List.map_toArray, List.map_cons, List.map_nil]
      show #[tm.getD 36 undef, tm.getD 38 undef] = _
      rw [htm 36 (by decide), htm 38 (by decide)]
      rfl
    | 1, _ =>
      refine callOk (i := 6) (N := 41) rfl (by decide) rfl Tryd.func57 (by kernel_rfl) rfl rfl #[.agg (cells64 r5), .agg (cells64 cu)] (.agg (cells64 rc)) tm wj (by rfl) ?_ HK.out.2.2.2.2.2.2.2.1
      simp only [List.map_toArray, List.map_cons, List.map_nil]
      show #[tm.getD 39 undef, tm.getD 40 undef] = _
      rw [htm 39 (by decide), htm 40 (by decide)]
      rfl
    | j + 2, hj => exact absurd hj (by simp)
  · intro j hj tm wj
    match j, hj with
    | 0, _ => exact allocOk (i := 7) (s := 7) rfl (by decide) rfl _ _ tm wj (by rfl) (by kernel_rfl)
    | j + 1, hj => exact absurd hj (by simp)
  intro gn w5 hgl hbk hnk hek
  obtain ⟨g7, rfl⟩ := list1 gn hgl
  have P5 : Aside0 (PS w 2 [(pW), (qW), List.replicate 20 0] [g5, g6, g7] [ra, rb, [0, 0, 0, 0, 0]] w5) := ⟨P4.out.app hbk hnk hek⟩
  clear hgl hbk hnk hek P4 hHeld
  simp only [setAd, setAll, if_true, List.replicate, List.length_cons, List.length_nil, List.setIfInBounds_toArray, List.set_cons_zero, List.set_cons_succ, ptrV]
  refine last_ (i := 8) (N := none) (fl 9 511) rfl rfl (one_of HT_.out (by kernel_rfl)) (by decide) (fun K hK => ?_)
  refine skip_ (w1 := w5.setRow g7 (cells64 rc)) (by rfl) rfl (run_put w5 50 (.tmp 7) (.tmp 41) rfl g7 (cells64 rc) (by rfl) (by rfl) 50 (cells64 [0, 0, 0, 0, 0]) (P5.out.m.el 2 (by simp)) (by rw [HL.out.2.2.2.2.2.2.2.2.2.2.2.2.2.2.2.2.1]; exact info5) (by rw [HL.out.2.2.2.2.2.2.2.2.2.2.2.2.2.2.2.2.1]; rfl) (ones64 _)) ?_
  refine hK.out _ _ ?_
  clear hK K
  have P6 : Aside0 (PS w 2 [(pW), (qW), List.replicate 20 0] [g5, g6, g7] [ra, rb, rc] (w5.setRow g7 (cells64 rc))) := ⟨P5.out.put 2 rc (by simp)⟩
  clear P5
  generalize (w5.setRow g7 (cells64 rc)) = w6 at P6 ⊢
  refine done_ (done_of HT_.out (by kernel_rfl)) ?_
  clear HT_ HW_
  go_upto_region 5 with (first
    | (refine wpList_load_at rfl 50 (.tmp 42) rfl (w.heap.size) 10 (by rfl) (cells64 pz) _ (HR.out.1 _ (P6.out.p 0 (by simp))).2.2.1 Tryd.underlying50 (by rfl) (by rw [HL.out.2.2.1]; exact info5) ?_)
    | (refine wpList_load_at rfl 50 (.tmp 44) rfl (w.heap.size + 1) 10 (by rfl) (cells64 qz) _ (HR.out.2.1 _ (P6.out.p 1 (by simp))).2.2.1 Tryd.underlying50 (by rfl) (by rw [HL.out.2.2.2.2.2.2.1]; exact info5) ?_)
    | (go_at_call 57; refine (HK.out.2.2.2.2.2.2.2.2.1 _).mono ?_; rintro e w7 ⟨rfl, hbc⟩; have P7 := Aside0.mk (P6.out.below hbc); clear hbc)
    | (refine wpList_store_row rfl 50 (.tmp 8) (.tmp 46) rfl w7.heap.size (cells64 r6) (by rfl) (by rfl) 50 (cells64 [0, 0, 0, 0, 0]) (blk_new w7 _) (by rw [HL.out.2.2.2.2.2.2.2.2.2.2.2.2.2.2.2.2.2.1]; exact info5) (by rw [HL.out.2.2.2.2.2.2.2.2.2.2.2.2.2.2.2.2.2.1]; rfl) (ones64 _) ?_; rw [World.setRow_alloc_new]))
  have P8 : Aside0 (PS w 2 [(pW), (qW), List.replicate 20 0] [g5, g6, g7, w7.heap.size] [ra, rb, rc, r6] (w7.alloc (.cells (cells64 r6) 50))) := ⟨P7.out.new r6⟩
  clear P7
  generalize (w7.alloc (.cells (cells64 r6) 50)) = w8 at P8 ⊢
  generalize w7.heap.size = g8 at P8 ⊢
  go_upto_region 6 with (first
    | (refine wpList_load_row rfl 50 (.tmp 8) rfl g8 (by rfl) 50 (cells64 r6) (0, 0) _ (P8.out.m.el 3 (by simp)) Tryd.underlying50 rfl (by rw [HL.out.2.2.2.2.2.2.2.2.2.2.2.2.2.2.2.2.2.1]; exact info5) ?_)
    | (go_at_call 56; refine (HK.out.2.2.2.2.2.2.2.2.2.1 _).mono ?_; rintro e w9 ⟨rfl, hbc⟩; have P9 := Aside0.mk (P8.out.below hbc); clear hbc)
    | (refine wpList_store_row rfl 50 (.tmp 8) (.tmp 49) rfl g8 (cells64 rd) (by rfl) (by rfl) 50 (cells64 r6) (P9.out.m.el 3 (by simp)) (by rw [HL.out.2.2.2.2.2.2.2.2.2.2.2.2.2.2.2.2.2.2.1]; exact info5) (by rw [HL.out.2.2.2.2.2.2.2.2.2.2.2.2.2.2.2.2.2.1, HL.out.2.2.2.2.2.2.2.2.2.2.2.2.2.2.2.2.2.2.1]) (ones64 _) ?_))
  have P10 : Aside0 (PS w 2 [(pW), (qW), List.replicate 20 0] [g5, g6, g7, g8] [ra, rb, rc, rd] (w9.setRow g8 (cells64 rd))) := ⟨P9.out.put 3 rd (by simp)⟩
  clear P9
  generalize (w9.setRow g8 (cells64 rd)) = w10 at P10 ⊢
  refine start_ (n := 20) (S := fun w' => Below w10.heap.size w10 w') (ds := [16, 17, 18, 19]) (fl 20 0) (by kernel_rfl) rfl rfl (below_drew1 (Below.refl _ _)) (fun hHeld => ?_)
  refine with_tabW SumT.tab6 SumT.bits6 (fun HT_ HW_ => ?_)
  refine takeA (i := 0) (N := some 50) (v := .agg (cells64 rb)) (fl 20 1) (take_ofW HT_.out HW_.out (by kernel_rfl)) hHeld ?_ (hy := fun w' s0 => run_row w' 50 (.tmp 6) rfl g6 (by rfl) 50 (cells64 rb) (0, 0) _ (((P10.out.m.el 1 (by simp)).below s0)) Tryd.underlying50 rfl (by rw [HL.out.2.2.2.2.2.2.2.2.2.2.2.2.2.2.1]; exact info5))
  refine takeA (i := 1) (N := some 51) (v := .agg (cells64 ra)) (fl 20 3) (take_ofW HT_.out HW_.out (by kernel_rfl)) hHeld ?_ (hy := fun w' s0 => run_row w' 50 (.tmp 5) rfl g5 (by rfl) 50 (cells64 ra) (0, 0) _ (((P10.out.m.el 0 (by simp)).below s0)) Tryd.underlying50 rfl (by rw [HL.out.2.2.2.2.2.2.2.2.2.2.2.1]; exact info5))
  refine takeA (i := 3) (N := some 53) (v := .agg (cells64 rd)) (fl 20 11) (take_ofW HT_.out HW_.out (by kernel_rfl)) hHeld ?_ (hy := fun w' s0 => run_row w' 50 (.tmp 8) rfl g8 (by rfl) 50 (cells64 rd) (0, 0) _ (((P10.out.m.el 3 (by simp)).below s0)) Tryd.underlying50 rfl (by rw [HL.out.2.2.2.2.2.2.2.2.2.2.2.2.2.2.2.2.2.2.1]; exact info5))
  refine takeA (i := 4) (N := some 54) (v := .agg (cells64 rc)) (fl 20 27) (take_ofW HT_.out HW_.out (by kernel_rfl)) hHeld ?_ (hy := fun w' s0 => run_row w' 50 (.tmp 7) rfl g7 (by rfl) 50 (cells64 rc) (0, 0) _ (((P10.out.m.el 2 (by simp)).below s0)) Tryd.underlying50 rfl (by rw [HL.out.2.2.2.2.2.2.2.2.2.2.2.2.2.2.2.2.1]; exact info5))
  refine takeA (i := 6) (N := some 56) (v := .agg (cells64 rd)) (fl 20 91) (take_ofW HT_.out HW_.out (by kernel_rfl)) hHeld ?_ (hy := fun w' s0 => run_row w' 50 (.tmp 8) rfl g8 (by rfl) 50 (cells64 rd) (0, 0) _ (((P10.out.m.el 3 (by simp)).below s0)) Tryd.underlying50 rfl (by rw [HL.out.2.2.2.2.2.2.2.2.2.2.2.2.2.2.2.2.2.2.1]; exact info5))
  refine takeA (i := 7) (N := some 57) (v := .agg (cells64 rc)) (fl 20 219) (take_ofW HT_.out HW_.out (by kernel_rfl)) hHeld ?_ (hy := fun w' s0 => run_row w' 50 (.tmp 7) rfl g7 (by rfl) 50 (cells64 rc) (0, 0) _ (((P10.out.m.el 2 (by simp)).below s0)) Tryd.underlying50 rfl (by rw [HL.out.2.2.2.2.2.2.2.2.2.2.2.2.2.2.2.2.1]; exact info5))
  refine takeA (i := 9) (N := some 59) (v := .agg (cells64 rb)) (fl 20 731) (take_ofW HT_.out HW_.out (by kernel_rfl)) hHeld ?_ (hy := fun w' s0 => run_row w' 50 (.tmp 6) rfl g6 (by rfl) 50 (cells64 rb) (0, 0) _ (((P10.out.m.el 1 (by simp)).below s0)) Tryd.underlying50 rfl (by rw [HL.out.2.2.2.2.2.2.2.2.2.2.2.2.2.2.1]; exact info5))
  refine takeA (i := 10) (N := some 60) (v := .agg (cells64 ra)) (fl 20 1755) (take_ofW HT_.out HW_.out (by kernel_rfl)) hHeld ?_ (hy := fun w' s0 => run_row w' 50 (.tmp 5) rfl g5 (by rfl) 50 (cells64 ra) (0, 0) _ (((P10.out.m.el 0 (by simp)).below s0)) Tryd.underlying50 rfl (by rw [HL.out.2.2.2.2.2.2.2.2.2.2.2.1]; exact info5))
  refine phz HT_.out 20 1755 65535 8 [true, true, false, true, true, false, true, true, false, true, true, false, false, false, false, false, false, false, false, false] [2, 5, 8, 11] [12, 13, 14, 15] (by kernel_rfl) (by kernel_rfl) (by kernel_rfl) rfl w10 _ [(52, .agg (cells64 re)), (55, .agg (cells64 rf)), (58, .agg (cells64 rg)), (61, .agg (cells64 rh))] [9, 10, 11, 12] (cells64 [0, 0, 0, 0, 0]) 50 rfl rfl (by decide) (by simp) 4 ?_ ?_ _ hHeld ?_
  · intro j hj tm wj htm hbj
    match j, hj with
    | 0, _ =>
      refine callOk (i := 2) (N := 52) rfl (by decide) rfl Tryd.func54 (by kernel_rfl) rfl rfl #[.agg (cells64 rb), .agg (cells64 ra)] (.agg (cells64 re)) tm wj (by rfl) ?_ HK.out.2.2.2.2.2.2.2.2.2.2.1
      simp only [List.map_toArray, List.map_cons, List.map_nil]
      show #[tm.getD 50 undef, tm.getD 51 undef] = _
      rw [htm 50 (by decide), htm 51 (by decide)]
      rfl
    | 1, _ =>
      refine callOk (i := 5) (N := 55) rfl (by decide) rfl Tryd.func54 (by kernel_rfl) rfl rfl #[.agg (cells64 rd), .agg (cells64 rc)] (.agg (cells64 rf)) tm wj (by rfl) ?_ HK.out.2.2.2.2.2.2.2.2.2.2.2.1
      simp only [List.map_toArray, List.map_cons, List.map_nil]
      show #[tm.getD 53 undef, tm.getD 54 undef] = _
      rw [htm 53 (by decide), htm 54 (by decide)]
      rfl
    | 2, _ =>
      refine callOk (i := 8) (N := 58) rfl (by decide) rfl Tryd.func56 (by kernel_rfl) rfl rfl #[.agg (cells64 rd), .agg (cells64 rc)] (.agg (cells64 rg)) tm wj (by rfl) ?_ HK.out.2.2.2.2.2.2.2.2.2.2.2.2.1
      simp only [List.map_toArray, List.map_cons, List.map_nil]
      show #[tm.getD 56 undef, tm.getD 57 undef] = _
      rw [htm 56 (by decide), htm 57 (by decide)]
      rfl
    | 3, _ =>
      refine callOk (i := 11) (N := 61) rfl (by decide) rfl Tryd.func56 (by kernel_rfl) rfl rfl #[.agg (cells64 rb), .agg (cells64 ra)] (.agg (cells64 rh)) tm wj (by rfl) ?_ HK.out.2.2.2.2.2.2.2.2.2.2.2.2.2.1
      simp only [List.map_toArray, List.map_cons, List.map_nil]
      show #[tm.getD 59 undef, tm.getD 60 undef] = _
      rw [htm 59 (by decide), htm 60 (by decide)]
      rfl
    | j + 4, hj => exact absurd hj (by simp)
  · intro j hj tm wj
    match j, hj with
    | 0, _ => exact allocOk (i := 12) (s := 9) rfl (by decide) rfl _ _ tm wj (by rfl) (by kernel_rfl)
    | 1, _ => exact allocOk (i := 13) (s := 10) rfl (by decide) rfl _ _ tm wj (by rfl) (by kernel_rfl)
    | 2, _ => exact allocOk (i := 14) (s := 11) rfl (by decide) rfl _ _ tm wj (by rfl) (by kernel_rfl)
    | 3, _ => exact allocOk (i := 15) (s := 12) rfl (by decide) rfl _ _ tm wj (by rfl) (by kernel_rfl)
    | j + 4, hj => exact absurd hj (by simp)
  intro gn w11 hgl hbk hnk hek
  obtain ⟨g9, g10, g11, g12, rfl⟩ := list4 gn hgl
  have P11 : Aside0 (PS w 2 [(pW), (qW), List.replicate 20 0] [g5, g6, g7, g8, g9, g10, g11, g12] [ra, rb, rc, rd, [0, 0, 0, 0, 0], [0, 0, 0, 0, 0], [0, 0, 0, 0, 0], [0, 0, 0, 0, 0]] w11) := ⟨P10.out.app hbk hnk hek⟩
  clear hgl hbk hnk hek P10 hHeld
  simp only [setAd, setAll, if_true, List.replicate, List.length_cons, List.length_nil, List.setIfInBounds_toArray, List.set_cons_zero, List.set_cons_succ, ptrV]
  refine last_ (i := 16) (N := none) (fl 20 131071) rfl rfl (one_of HT_.out (by kernel_rfl)) (by decide) (fun K hK => ?_)
  refine skip_ (w1 := w11.setRow g9 (cells64 re)) (by rfl) rfl (run_put w11 50 (.tmp 9) (.tmp 52) rfl g9 (cells64 re) (by rfl) (by rfl) 50 (cells64 [0, 0, 0, 0, 0]) (P11.out.m.el 4 (by simp)) (by rw [HL.out.2.2.2.2.2.2.2.2.2.2.2.2.2.2.2.2.2.2.2.1]; exact info5) (by rw [HL.out.2.2.2.2.2.2.2.2.2.2.2.2.2.2.2.2.2.2.2.1]; rfl) (ones64 _)) ?_
  refine hK.out _ _ ?_
  clear hK K
  have P12 : Aside0 (PS w 2 [(pW), (qW), List.replicate 20 0] [g5, g6, g7, g8, g9, g10, g11, g12] [ra, rb, rc, rd, re, [0, 0, 0, 0, 0], [0, 0, 0, 0, 0], [0, 0, 0, 0, 0]] (w11.setRow g9 (cells64 re))) := ⟨P11.out.put 4 re (by simp)⟩
  clear P11
  generalize (w11.setRow g9 (cells64 re)) = w12 at P12 ⊢
  refine last_ (i := 17) (N := none) (fl 20 262143) rfl rfl (one_of HT_.out (by kernel_rfl)) (by decide) (fun K hK => ?_)
  refine skip_ (w1 := w12.setRow g10 (cells64 rf)) (by rfl) rfl (run_put w12 50 (.tmp 10) (.tmp 55) rfl g10 (cells64 rf) (by rfl) (by rfl) 50 (cells64 [0, 0, 0, 0, 0]) (P12.out.m.el 5 (by simp)) (by rw [HL.out.2.2.2.2.2.2.2.2.2.2.2.2.2.2.2.2.2.2.2.2.1]; exact info5) (by rw [HL.out.2.2.2.2.2.2.2.2.2.2.2.2.2.2.2.2.2.2.2.2.1]; rfl) (ones64 _)) ?_
  refine hK.out _ _ ?_
  clear hK K
  have P13 : Aside0 (PS w 2 [(pW), (qW), List.replicate 20 0] [g5, g6, g7, g8, g9, g10, g11, g12] [ra, rb, rc, rd, re, rf, [0, 0, 0, 0, 0], [0, 0, 0, 0, 0]] (w12.setRow g10 (cells64 rf))) := ⟨P12.out.put 5 rf (by simp)⟩
  clear P12
  generalize (w12.setRow g10 (cells64 rf)) = w13 at P13 ⊢
  refine last_ (i := 18) (N := none) (fl 20 524287) rfl rfl (one_of HT_.out (by kernel_rfl)) (by decide) (fun K hK => ?_)
  refine skip_ (w1 := w13.setRow g11 (cells64 rg)) (by rfl) rfl (run_put w13 50 (.tmp 11) (.tmp 58) rfl g11 (cells64 rg) (by rfl) (by rfl) 50 (cells64 [0, 0, 0, 0, 0]) (P13.out.m.el 6 (by simp)) (by rw [HL.out.2.2.2.2.2.2.2.2.2.2.2.2.2.2.2.2.2.2.2.2.2.1]; exact info5) (by rw [HL.out.2.2.2.2.2.2.2.2.2.2.2.2.2.2.2.2.2.2.2.2.2.1]; rfl) (ones64 _)) ?_
  refine hK.out _ _ ?_
  clear hK K
  have P14 : Aside0 (PS w 2 [(pW), (qW), List.replicate 20 0] [g5, g6, g7, g8, g9, g10, g11, g12] [ra, rb, rc, rd, re, rf, rg, [0, 0, 0, 0, 0]] (w13.setRow g11 (cells64 rg))) := ⟨P13.out.put 6 rg (by simp)⟩
  clear P13
  generalize (w13.setRow g11 (cells64 rg)) = w14 at P14 ⊢
  refine last_ (i := 19) (N := none) (fl 20 1048575) rfl rfl (one_of HT_.out (by kernel_rfl)) (by decide) (fun K hK => ?_)
  refine skip_ (w1 := w14.setRow g12 (cells64 rh)) (by rfl) rfl (run_put w14 50 (.tmp 12) (.tmp 61) rfl g12 (cells64 rh) (by rfl) (by rfl) 50 (cells64 [0, 0, 0, 0, 0]) (P14.out.m.el 7 (by simp)) (by rw [HL.out.2.2.2.2.2.2.2.2.2.2.2.2.2.2.2.2.2.2.2.2.2.2.1]; exact info5) (by rw [HL.out.2.2.2.2.2.2.2.2.2.2.2.2.2.2.2.2.2.2.2.2.2.2.1]; rfl) (ones64 _)) ?_
  refine hK.out _ _ ?_
  clear hK K
  have P15 : Aside0 (PS w 2 [(pW), (qW), List.replicate 20 0] [g5, g6, g7, g8, g9, g10, g11, g12] [ra, rb, rc, rd, re, rf, rg, rh] (w14.setRow g12 (cells64 rh))) := ⟨P14.out.put 7 rh (by simp)⟩
  clear P14
  generalize (w14.setRow g12 (cells64 rh)) = w15 at P15 ⊢
  refine done_ (done_of HT_.out (by kernel_rfl)) ?_
  clear HT_ HW_
  go_upto_region 7 with (fail)
  refine start_ (n := 14) (S := fun w' => Below w15.heap.size w15 w') (ds := [13]) (fl 14 0) (by kernel_rfl) rfl rfl (below_drew1 (Below.refl _ _)) (fun hHeld => ?_)
  refine with_tabW SumT.tab7 SumT.bits7 (fun HT_ HW_ => ?_)
  refine takeA (i := 0) (N := some 62) (v := .agg (cells64 re)) (fl 14 1) (take_ofW HT_.out HW_.out (by kernel_rfl)) hHeld ?_ (hy := fun w' s0 => run_row w' 50 (.tmp 9) rfl g9 (by rfl) 50 (cells64 re) (0, 0) _ (((P15.out.m.el 4 (by simp)).below s0)) Tryd.underlying50 rfl (by rw [HL.out.2.2.2.2.2.2.2.2.2.2.2.2.2.2.2.2.2.2.2.1]; exact info5))
  refine takeA (i := 1) (N := some 63) (v := .agg (cells64 rf)) (fl 14 3) (take_ofW HT_.out HW_.out (by kernel_rfl)) hHeld ?_ (hy := fun w' s0 => run_row w' 50 (.tmp 10) rfl g10 (by rfl) 50 (cells64 rf) (0, 0) _ (((P15.out.m.el 5 (by simp)).below s0)) Tryd.underlying50 rfl (by rw [HL.out.2.2.2.2.2.2.2.2.2.2.2.2.2.2.2.2.2.2.2.2.1]; exact info5))
  refine takeA (i := 3) (N := some 65) (v := .agg (cells64 rg)) (fl 14 11) (take_ofW HT_.out HW_.out (by kernel_rfl)) hHeld ?_ (hy := fun w' s0 => run_row w' 50 (.tmp 11) rfl g11 (by rfl) 50 (cells64 rg) (0, 0) _ (((P15.out.m.el 6 (by simp)).below s0)) Tryd.underlying50 rfl (by rw [HL.out.2.2.2.2.2.2.2.2.2.2.2.2.2.2.2.2.2.2.2.2.2.1]; exact info5))
  refine takeA (i := 4) (N := some 66) (v := .agg (cells64 rh)) (fl 14 27) (take_ofW HT_.out HW_.out (by kernel_rfl)) hHeld ?_ (hy := fun w' s0 => run_row w' 50 (.tmp 12) rfl g12 (by rfl) 50 (cells64 rh) (0, 0) _ (((P15.out.m.el 7 (by simp)).below s0)) Tryd.underlying50 rfl (by rw [HL.out.2.2.2.2.2.2.2.2.2.2.2.2.2.2.2.2.2.2.2.2.2.2.1]; exact info5))
  refine takeA (i := 6) (N := some 68) (v := .agg (cells64 rf)) (fl 14 91) (take_ofW HT_.out HW_.out (by kernel_rfl)) hHeld ?_ (hy := fun w' s0 => run_row w' 50 (.tmp 10) rfl g10 (by rfl) 50 (cells64 rf) (0, 0) _ (((P15.out.m.el 5 (by simp)).below s0)) Tryd.underlying50 rfl (by rw [HL.out.2.2.2.2.2.2.2.2.2.2.2.2.2.2.2.2.2.2.2.2.1]; exact info5))
  refine takeA (i := 7) (N := some 69) (v := .agg (cells64 rg)) (fl 14 219) (take_ofW HT_.out HW_.out (by kernel_rfl)) hHeld ?_ (hy := fun w' s0 => run_row w' 50 (.tmp 11) rfl g11 (by rfl) 50 (cells64 rg) (0, 0) _ (((P15.out.m.el 6 (by simp)).below s0)) Tryd.underlying50 rfl (by rw [HL.out.2.2.2.2.2.2.2.2.2.2.2.2.2.2.2.2.2.2.2.2.2.1]; exact info5))
  refine takeA (i := 9) (N := some 71) (v := .agg (cells64 re)) (fl 14 731) (take_ofW HT_.out HW_.out (by kernel_rfl)) hHeld ?_ (hy := fun w' s0 => run_row w' 50 (.tmp 9) rfl g9 (by rfl) 50 (cells64 re) (0, 0) _ (((P15.out.m.el 4 (by simp)).below s0)) Tryd.underlying50 rfl (by rw [HL.out.2.2.2.2.2.2.2.2.2.2.2.2.2.2.2.2.2.2.2.1]; exact info5))
  refine takeA (i := 10) (N := some 72) (v := .agg (cells64 rh)) (fl 14 1755) (take_ofW HT_.out HW_.out (by kernel_rfl)) hHeld ?_ (hy := fun w' s0 => run_row w' 50 (.tmp 12) rfl g12 (by rfl) 50 (cells64 rh) (0, 0) _ (((P15.out.m.el 7 (by simp)).below s0)) Tryd.underlying50 rfl (by rw [HL.out.2.2.2.2.2.2.2.2.2.2.2.2.2.2.2.2.2.2.2.2.2.2.1]; exact info5))
  refine one_ (i := 2) (N := some 64) (fl 14 1759) rfl rfl (one_of HT_.out (by kernel_rfl)) (by decide) (fun K hK => ?_)
  refine goes_ Tryd.func57 (by kernel_rfl) rfl #[.agg (cells64 re), .agg (cells64 rf)] (by rfl) rfl rfl eqA ?_
  with_reducible refine (HK.out.2.2.2.2.2.2.2.2.2.2.2.2.2.2.1 _).mono ?_
  rintro e v2 ⟨rfl, hb⟩
  refine ⟨_, rfl, ?_⟩
  have hHeld2 := below_step hHeld hb
  clear hHeld hb
  refine hK.out _ _ hHeld2 (fun hHeld => ?_)
  clear hK K hHeld2
  refine normA (some 64) ?_
  refine one_ (i := 5) (N := some 67) (fl 14 1791) rfl rfl (one_of HT_.out (by kernel_rfl)) (by decide) (fun K hK => ?_)
  refine goes_ Tryd.func57 (by kernel_rfl) rfl #[.agg (cells64 rg), .agg (cells64 rh)] (by rfl) rfl rfl eqA ?_
  with_reducible refine (HK.out.2.2.2.2.2.2.2.2.2.2.2.2.2.2.2.1 _).mono ?_
  rintro e v5 ⟨rfl, hb⟩
  refine ⟨_, rfl, ?_⟩
  have hHeld2 := below_step hHeld hb
  clear hHeld hb
  refine hK.out _ _ hHeld2 (fun hHeld => ?_)
  clear hK K hHeld2
  refine normA (some 67) ?_
  refine one_ (i := 8) (N := some 70) (fl 14 2047) rfl rfl (one_of HT_.out (by kernel_rfl)) (by decide) (fun K hK => ?_)
  refine goes_ Tryd.func57 (by kernel_rfl) rfl #[.agg (cells64 rf), .agg (cells64 rg)] (by rfl) rfl rfl eqA ?_
  with_reducible refine (HK.out.2.2.2.2.2.2.2.2.2.2.2.2.2.2.2.2.1 _).mono ?_
  rintro e v8 ⟨rfl, hb⟩
  refine ⟨_, rfl, ?_⟩
  have hHeld2 := below_step hHeld hb
  clear hHeld hb
  refine hK.out _ _ hHeld2 (fun hHeld => ?_)
  clear hK K hHeld2
  refine normA (some 70) ?_
  refine one_ (i := 11) (N := some 73) (fl 14 4095) rfl rfl (one_of HT_.out (by kernel_rfl)) (by decide) (fun K hK => ?_)
  refine goes_ Tryd.func57 (by kernel_rfl) rfl #[.agg (cells64 re), .agg (cells64 rh)] (by rfl) rfl rfl eqA ?_
  with_reducible refine (HK.out.2.2.2.2.2.2.2.2.2.2.2.2.2.2.2.2.2 _).mono ?_
  rintro e v11 ⟨rfl, hb⟩
  refine ⟨_, rfl, ?_⟩
  have hHeld2 := below_step hHeld hb
  clear hHeld hb
  refine hK.out _ _ hHeld2 (fun hHeld => ?_)
  clear hK K hHeld2
  refine normA (some 73) ?_
  have P16 := Aside0.mk (P15.out.below hHeld)
  clear P15
  obtain ⟨w16, hw16⟩ : ∃ W : World, W = v11 := ⟨_, rfl⟩
  rw [← hw16] at P16 hHeld ⊢
  clear hw16
  refine one_ (i := 12) (N := some 74) (fl 14 8191) rfl rfl (one_of HT_.out (by kernel_rfl)) (by decide) (fun K hK => ?_)
  refine value_ (v := .agg (cells64 (oW))) (w1 := w16) (by rfl) rfl (run_build_op _ _ _ rfl _ (by simp only [List.map_toArray, List.map_cons, List.map_nil]; rfl) (HB.out w16)) ?_
  refine hK.out _ _ hHeld (fun _ => ?_)
  clear hK K hHeld
  refine normA (some 74) ?_
  refine last_ (i := 13) (N := none) (fl 14 16383) rfl rfl (one_of HT_.out (by kernel_rfl)) (by decide) (fun K hK => ?_)
  refine skip_ (w1 := w16.setRow (w.heap.size + 1 + 1) (cells64 (oW))) (by rfl) rfl (run_put w16 52 (.tmp 4) (.tmp 74) rfl (w.heap.size + 1 + 1) (cells64 (oW)) (by rfl) (by rfl) 52 (cells64 (List.replicate 20 0)) (P16.out.p 2 (by simp)) (by rw [HP.out.2.2]; exact info20) (by rw [HP.out.2.2]; rfl) (ones64 _)) ?_
  refine hK.out _ _ ?_
  clear hK K
  refine done_ (done_of HT_.out (by kernel_rfl)) ?_
  clear HT_ HW_
  go_wp2
  refine bodyPost_ret (v := .agg (cells64 (oW))) (results_cell_row (by rfl) _ _ (w.heap.size + 1 + 1) 52 (cells64 (oW)) (0, 0) _ (by rfl) (setRow_heap _ _ _ _ _ _ (P16.out.p 2 (by simp))) Tryd.underlying52 rfl (by rw [HP.out.2.2]; exact info20)) rfl ⟨rfl, below_setRow P16.out.b (by omega) _⟩
end Go.Proofs.YtbenedckmapjoaaDoor.F
