/- Contracts of sha2's shapes, constants and starts. -/
import Derived.Test.YtckjgipkdknmgaaDoorH6
import Derived.Laws.ResultCell
namespace Go.Proofs.YtckjgipkdknmgaaDoor.H
open Go.RowKit Go.Proofs.YtckjgipkdknmgaaDoorW.PrintWords
def shape0 : Array Value := #[.int .i64 0, .int .i64 0, .int .i64 0, .int .i64 0, .int .i64 0, .int .i64 0, .int .i64 0, .int .i64 0, .int .i64 0, .int .i64 0, .int .i64 0, .int .i64 0, .int .i64 0, .int .i64 0, .int .i64 0]
set_option maxRecDepth 100000 in
set_option maxHeartbeats 1000000 in
theorem narrow_c (w : World) : Calls Tryd.prog 46 #[] w fun e w' => e = .returned (.agg narrowV) ∧ Below w.heap.size w w' := by
  go_enter Tryd.func46, Tryd.ntmps46
  go_wp2_with (refine wpList_store_row rfl 58 (.tmp 0) (.tmp 5) rfl w.heap.size narrowV (by rfl) (by rfl) 58 shape0 (new1 _ _) (by kernel_rfl) (by rfl) (by rfl) ?_; rw [World.setRow_alloc_new])
  refine bodyPost_ret (v := .agg narrowV) (results_cell_row (by rfl) _ _ w.heap.size 58 narrowV (0, 0) _ (by rfl) (new1 _ _) Tryd.underlying58 rfl (by kernel_rfl)) rfl ⟨rfl, below_alloc (Below.refl _ _) _⟩
set_option maxRecDepth 100000 in
set_option maxHeartbeats 1000000 in
theorem wide_c (w : World) : Calls Tryd.prog 48 #[] w fun e w' => e = .returned (.agg wideV) ∧ Below w.heap.size w w' := by
  go_enter Tryd.func48, Tryd.ntmps48
  go_wp2_with (refine wpList_store_row rfl 58 (.tmp 0) (.tmp 5) rfl w.heap.size wideV (by rfl) (by rfl) 58 shape0 (new1 _ _) (by kernel_rfl) (by rfl) (by rfl) ?_; rw [World.setRow_alloc_new])
  refine bodyPost_ret (v := .agg wideV) (results_cell_row (by rfl) _ _ w.heap.size 58 wideV (0, 0) _ (by rfl) (new1 _ _) Tryd.underlying58 rfl (by kernel_rfl)) rfl ⟨rfl, below_alloc (Below.refl _ _) _⟩
theorem block32_c (w : World) : Calls Tryd.prog 36 #[.agg narrowV] w fun e w' => e = .returned (.int .i64 64) ∧ Below w.heap.size w w' := by
  unfold narrowV
  go_enter Tryd.func36, Tryd.ntmps36
  go_wp2
  go_ret
  exact ⟨rfl, below_alloc (Below.refl _ _) _⟩
theorem block64_c (w : World) : Calls Tryd.prog 36 #[.agg wideV] w fun e w' => e = .returned (.int .i64 128) ∧ Below w.heap.size w w' := by
  unfold wideV
  go_enter Tryd.func36, Tryd.ntmps36
  go_wp2
  go_ret
  exact ⟨rfl, below_alloc (Below.refl _ _) _⟩
theorem results_row_tmp {P : Program} {fn : Func} {p u : Tmp} {ty : TypeId} (h : fn.results = #[.cell p ty, .tmp u]) (tmps : Array Value) (w : World) (g : Nat) (t : TypeId) (cs : Array Value) (fr : Nat × Nat) (d : TypeDesc) (y : Value)
    (hp : tmps.getD p undef = .pointer (some ⟨g, 0, none⟩)) (hq : tmps.getD u undef = y) (hg : w.heap[g]? = some (.cells cs t fr))
    (hu : P.underlying ty = some d) (hd : (match d with | .struct _ | .array _ _ => true | _ => false) = true) (hi : (P.info? ty).map (·.size) = some cs.size) :
    (results fn tmps).run P w = .ok (.tuple #[.agg cs, y]) w := by
  rw [results_cell_tmp h, hp, hq]
  have hl := run_loadVar_row w g t ty cs fr d hg hu hd hi
  have ha : (asAddr (.pointer (some ⟨g, 0, none⟩))).run P w = .ok ⟨g, 0, none⟩ w := rfl
  rw [ha]
  simp only [Result.andThen, hl]
theorem narrowV_one : narrowV.all (·.oneCell') = true := by simp [narrowV, Value.oneCell']
theorem wideV_one : wideV.all (·.oneCell') = true := by simp [wideV, Value.oneCell']
theorem shape0_one : shape0.all (·.oneCell') = true := by simp [shape0, Value.oneCell']
set_option maxRecDepth 100000 in
set_option maxHeartbeats 1000000 in
theorem of256_c (w : World) : Calls Tryd.prog 35 #[.int .i64 256] w fun e w' => e = .returned (.tuple #[.agg narrowV, .bool true]) ∧ Below w.heap.size w w' := by
  go_enter Tryd.func35, Tryd.ntmps35
  go_wp2_with (first
    | (go_at_call 46; refine (narrow_c _).mono ?_; rintro e w1 ⟨rfl, hb⟩; have B0 : Aside0 (w1.heap[w.heap.size]? = some (.cells shape0 58 (0, 0))) := ⟨blk_below (new1 _ _) hb⟩; have HB := Aside0.mk (below_step (below_alloc (Below.refl _ _) _) hb); clear hb)
    | (refine wpList_store_row rfl 58 (.tmp 2) (.tmp 7) rfl w.heap.size narrowV (by rfl) (by rfl) 58 shape0 B0.out (by kernel_rfl) (by rfl) narrowV_one ?_))
  refine bodyPost_ret (v := .tuple #[.agg narrowV, .bool true]) (results_row_tmp (by rfl) _ _ w.heap.size 58 narrowV (0, 0) _ _ (by rfl) (by rfl) (setRow_heap _ _ _ _ _ _ B0.out) Tryd.underlying58 rfl (by kernel_rfl)) rfl ⟨rfl, below_setRow HB.out (Nat.le_refl _) _⟩
set_option maxRecDepth 100000 in
set_option maxHeartbeats 1000000 in
theorem of512_c (w : World) : Calls Tryd.prog 35 #[.int .i64 512] w fun e w' => e = .returned (.tuple #[.agg wideV, .bool true]) ∧ Below w.heap.size w w' := by
  go_enter Tryd.func35, Tryd.ntmps35
  go_wp2_with (first
    | (go_at_call 48; refine (wide_c _).mono ?_; rintro e w1 ⟨rfl, hb⟩; have B0 : Aside0 (w1.heap[w.heap.size]? = some (.cells shape0 58 (0, 0))) := ⟨blk_below (new1 _ _) hb⟩; have HB := Aside0.mk (below_step (below_alloc (Below.refl _ _) _) hb); clear hb)
    | (refine wpList_store_row rfl 58 (.tmp 2) (.tmp 10) rfl w.heap.size wideV (by rfl) (by rfl) 58 shape0 B0.out (by kernel_rfl) (by rfl) wideV_one ?_))
  refine bodyPost_ret (v := .tuple #[.agg wideV, .bool true]) (results_row_tmp (by rfl) _ _ w.heap.size 58 wideV (0, 0) _ _ (by rfl) (by rfl) (setRow_heap _ _ _ _ _ _ B0.out) Tryd.underlying58 rfl (by kernel_rfl)) rfl ⟨rfl, below_setRow HB.out (Nat.le_refl _) _⟩
set_option maxRecDepth 100000 in
set_option maxHeartbeats 1000000 in
theorem ofNo_c (n : Int) (w : World) (h1 : n ≠ 256) (h2 : n ≠ 512) : Calls Tryd.prog 35 #[.int .i64 n] w fun e w' => e = .returned (.tuple #[.agg shape0, .bool false]) ∧ Below w.heap.size w w' := by
  have b1 : (n == 256) = false := beq_eq_false_iff_ne.2 h1
  have b2 : (n == 512) = false := beq_eq_false_iff_ne.2 h2
  clear h1 h2
  go_enter Tryd.func35, Tryd.ntmps35
  go_wp2_with (refine wpList_store_row rfl 58 (.tmp 2) (.tmp 11) rfl w.heap.size shape0 (by rfl) (by rfl) 58 shape0 (new1 _ _) (by kernel_rfl) (by rfl) shape0_one ?_; rw [World.setRow_alloc_new])
  refine bodyPost_ret (v := .tuple #[.agg shape0, .bool false]) (results_row_tmp (by rfl) _ _ w.heap.size 58 shape0 (0, 0) _ _ (by rfl) (by rfl) (new1 _ _) Tryd.underlying58 rfl (by kernel_rfl)) rfl ⟨rfl, below_alloc (Below.refl _ _) _⟩
end Go.Proofs.YtckjgipkdknmgaaDoor.H
