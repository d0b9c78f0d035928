/- The points 0 and base; a point's bytes. -/
import Derived.Test.YtbenedckmapjoaaDoorPm
namespace Go.Proofs.YtbenedckmapjoaaDoor.F
open Go.RowKit Go.Proofs.YtbenedckmapjoaaDoor.H Go.Proofs.YtbenedckmapjoaaDoorW.PrintWords Go.Proofs.YtbenedckmapjoaaDoorW.PrintLast Go.Proofs.YtbenedckmapjoaaDoorW.PrintMore
set_option linter.unusedVariables false
set_option linter.unusedSimpArgs false
def p0 : Pnt := ⟨0, 1, 1, 0⟩
def L0 : List Int := [0, 0, 0, 0, 0, 1, 0, 0, 0, 0, 1, 0, 0, 0, 0, 0, 0, 0, 0, 0]
theorem p0_L : p0.L = L0 := by decide
theorem p0_ok : p0.ok := by unfold Pnt.ok Rg; decide
theorem Zero_w (w : World) : Calls Tryd.prog 60 #[] w fun e w' => e = .returned (.agg (cells64 L0)) ∧ Below w.heap.size w w' := by
  go_enter Tryd.func60, Tryd.ntmps60
  go_wp2_with (first
    | (refine wpList_store_row rfl 52 (.tmp 0) (.tmp 3) rfl w.heap.size (cells64 L0) (by rfl) (by rfl) 52 (cells64 (List.replicate 20 0)) (blk_new w _) info20 rfl (ones64 _) ?_))
  refine bodyPost_ret (v := .agg (cells64 L0)) (results_cell_row (by rfl) _ _ w.heap.size 52 (cells64 L0) (0, 0) _ (by rfl) (setRow_heap _ _ _ _ _ _ (blk_new w _)) Tryd.underlying52 rfl info20) rfl ⟨rfl, below_setRow (below_alloc (Below.refl _ _) _) (Nat.le_refl _) _⟩
theorem PZero (w : World) : Calls Tryd.prog 60 #[] w fun e w' => e = .returned (Vp p0) ∧ Below w.heap.size w w' := by
  unfold Vp
  rw [p0_L]
  exact Zero_w w
/-- The base. -/
def bX : List Int := [1738742601995546, 1146398526822698, 2070867633025821, 562264141797630, 587772402128613]
def bY : List Int := [1801439850948184, 1351079888211148, 450359962737049, 900719925474099, 1801439850948198]
def bT : List Int := [1841354044333475, 16398895984059, 755974180946558, 900171276175154, 1821297809914039]
def pb : Pnt := ⟨val bX, val bY, 1, val bT⟩
theorem pb_L : pb.L = bX ++ bY ++ [1, 0, 0, 0, 0] ++ bT := by decide
theorem pb_ok : pb.ok := by unfold Pnt.ok Rg; decide
def Gb (w : World) : Prop := (∃ tt fr, w.heap[1]? = some (.cells (cells64 bX) tt fr)) ∧ (∃ tt fr, w.heap[2]? = some (.cells (cells64 bY) tt fr)) ∧ (∃ tt fr, w.heap[3]? = some (.cells (cells64 bT) tt fr)) ∧ Gc w
theorem Gc.below {w w1 : World} (h : Gc w) (hb : Below w.heap.size w w1) : Gc w1 := ⟨h.1.imp fun _ f => f.imp fun _ e => blk_below e hb, Nat.lt_of_lt_of_le h.2 hb.size⟩
theorem Gb.below {w w1 : World} (h : Gb w) (hb : Below w.heap.size w w1) : Gb w1 := ⟨h.1.imp fun _ f => f.imp fun _ e => blk_below e hb, h.2.1.imp fun _ f => f.imp fun _ e => blk_below e hb, h.2.2.1.imp fun _ f => f.imp fun _ e => blk_below e hb, h.2.2.2.below hb⟩
theorem wpList_value {P : Program} {ops : Array Oper} {rest : List Oper} {o : Oper} {a : Act} {w w1 : World} {Q : Exit → Act → World → Prop} {v : Value} (N : Option Tmp) (hd : o.dst = N) (hgd : o.guard = none) (hrun : (execOp a.eval o).run P w = .ok (.value v) w1) (h : wpList P ops Q rest (a.put N v) w1) : wpList P ops Q (o :: rest) a w :=
  wpList_plain hgd fun _ hK => by
    unfold Oper.wp
    rw [hrun]
    subst hd
    exact hK _ _ h
theorem Base_w (x y t o : List Int) (hx : x.length = 5) (hy : y.length = 5) (ht : t.length = 5) (ho : o = x ++ y ++ [1, 0, 0, 0, 0] ++ t) (tx ty tz : TypeId) (fx fy fz : Nat × Nat) (w : World) (h1 : w.heap[1]? = some (.cells (cells64 x) tx fx)) (h2 : w.heap[2]? = some (.cells (cells64 y) ty fy)) (h3 : w.heap[3]? = some (.cells (cells64 t) tz fz))
    (kB : ∀ w : World, (Instr.build 52 #[(0, .agg (cells64 x)), (1, .agg (cells64 y)), (2, .agg #[.int .u64 1, .int .u64 0, .int .u64 0, .int .u64 0, .int .u64 0]), (3, .agg (cells64 t))]).run Tryd.prog w = .ok (.agg (cells64 o)) w) :
    Calls Tryd.prog 19 #[] w fun e w' => e = .returned (.agg (cells64 o)) ∧ Below w.heap.size w w' := by
  have HL := Lib.hid (And.intro (size5 hx) (And.intro (size5 hy) (And.intro (size5 ht) (size20 ho hx hy rfl ht))))
  have HB := Aside0.mk kB
  have HG := Aside0.mk (And.intro h1 (And.intro h2 h3))
  clear hx hy ht ho h1 h2 h3 kB
  go_enter Tryd.func19, Tryd.ntmps19
  go_wp2_with (first
    | (refine wpList_load_row rfl 50 (.global 1) rfl 1 (by rfl) tx (cells64 x) fx _ (blk_alloc HG.out.1 _) Tryd.underlying50 rfl (by rw [HL.out.1]; exact info5) ?_)
    | (refine wpList_load_row rfl 50 (.global 2) rfl 2 (by rfl) ty (cells64 y) fy _ (blk_alloc HG.out.2.1 _) Tryd.underlying50 rfl (by rw [HL.out.2.1]; exact info5) ?_)
    | (refine wpList_load_row rfl 50 (.global 3) rfl 3 (by rfl) tz (cells64 t) fz _ (blk_alloc HG.out.2.2 _) Tryd.underlying50 rfl (by rw [HL.out.2.2.1]; exact info5) ?_)
    | (refine wpList_value (some 5) rfl rfl (run_build_op _ _ _ rfl _ (by simp only [List.map_toArray, List.map_cons, List.map_nil]; rfl) (HB.out _)) ?_)
    | (refine wpList_store_row rfl 52 (.tmp 0) (.tmp 5) rfl w.heap.size (cells64 o) (by rfl) (by rfl) 52 (cells64 (List.replicate 20 0)) (blk_new w _) (by rw [HL.out.2.2.2]; exact info20) (by rw [HL.out.2.2.2]; rfl) (ones64 _) ?_))
  refine bodyPost_ret (v := .agg (cells64 o)) (results_cell_row (by rfl) _ _ w.heap.size 52 (cells64 o) (0, 0) _ (by rfl) (setRow_heap _ _ _ _ _ _ (blk_new w _)) Tryd.underlying52 rfl (by rw [HL.out.2.2.2]; exact info20)) rfl ⟨rfl, below_setRow (below_alloc (Below.refl _ _) _) (Nat.le_refl _) _⟩
theorem PBase (w : World) (hG : Gb w) : Calls Tryd.prog 19 #[] w fun e w' => e = .returned (Vp pb) ∧ Below w.heap.size w w' := by
  unfold Vp
  rw [pb_L]
  obtain ⟨⟨tx, fx, h1⟩, ⟨ty, fy, h2⟩, ⟨tz, fz, h3⟩, _⟩ := hG
  exact Base_w bX bY bT _ rfl rfl rfl rfl tx ty tz fx fy fz w h1 h2 h3 (fun w => by kernel_rfl)
end Go.Proofs.YtbenedckmapjoaaDoor.F
