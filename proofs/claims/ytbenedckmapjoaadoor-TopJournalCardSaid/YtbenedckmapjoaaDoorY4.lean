/- Several texts as one. -/
import Derived.Test.YtbenedckmapjoaaDoorJ1
import Derived.Laws.Externs
namespace Go.Proofs.YtbenedckmapjoaaDoor.F
open Go.RowKit Go.Proofs.YtbenedckmapjoaaDoor.H Go.Proofs.YtbenedckmapjoaaDoorW.PrintWords
set_option linter.unusedVariables false
set_option linter.unusedSimpArgs false
/-- A row of words in a block of its own. -/
def Arr (g : Nat) (l : List Int) (w : World) : Prop := w.heap[g]? = some (.cells (cells64 l) 50 (0, 0))
theorem Arr.cell {g : Nat} {l : List Int} {w : World} (h : Arr g l w) {i : Nat} (hi : i < l.length) : w.cell? ⟨g, i, none⟩ = some (.int .u64 (l.getD i 0)) := (blk_cell h i).trans (cells64_get _ _ hi)
theorem Arr.frozen {g : Nat} {l : List Int} {w : World} (h : Arr g l w) (i : Nat) : w.frozen? ⟨g, i, none⟩ = false := blk_frozen h i
theorem Arr.put {g : Nat} {l : List Int} {w : World} (h : Arr g l w) (i : Nat) (y : Int) (hi : i < l.length) : Arr g (l.set i y) (w.setCell ⟨g, i, none⟩ (.int .u64 y)) := by
  exact blk_put h i _ (cells64_set l i y)
theorem Arr.other {g : Nat} {l : List Int} {w : World} (h : Arr g l w) {p : Addr} (hp : g ≠ p.block) (v : Value) : Arr g l (w.setCell p v) := (Below.heap_setCell _ _ _ _ hp).trans h
theorem Arr.drew {g : Nat} {l : List Int} {w : World} (h : Arr g l w) : Arr g l w.drew := h
theorem Arr.alloc {g : Nat} {l : List Int} {w : World} (h : Arr g l w) (o : Obj) : Arr g l (w.alloc o) := blk_alloc h o
theorem Arr.lt {g : Nat} {l : List Int} {w : World} (h : Arr g l w) : g < w.heap.size := blk_lt h
theorem Arr.below {g : Nat} {l : List Int} {w w1 : World} (h : Arr g l w) (hb : Below w.heap.size w w1) : Arr g l w1 := blk_below h hb
/-- The walk of weak: what a round of carrying leaves, place by place. -/
def wkS (x : List Int) : Nat → List Int × Int
  | 0 => (x, 0)
  | i + 1 => ((wkS x i).1.set i (IntKind.u64.wrap (bits .and .u64 ((wkS x i).1.getD i 0) 2251799813685247 + (wkS x i).2)), (wkS x i).1.getD i 0 / 2251799813685248)
def wk1 (x : List Int) : List Int := (wkS x 5).1.set 0 (IntKind.u64.wrap ((wkS x 5).1.getD 0 0 + IntKind.u64.wrap (19 * (wkS x 5).2)))
theorem wkS_length (x : List Int) : ∀ i, (wkS x i).1.length = x.length
  | 0 => rfl
  | i + 1 => by simp [wkS, wkS_length x i]
def El (l : List Int) : Value := .agg (cells64 l)
/-- A function that turns its own row of five words and hands a copy back. -/
structure Own (w : World) (l : List Int) (wr : World) : Prop where
  a : Arr w.heap.size l wr
  z : Arr (w.heap.size + 1) [0, 0, 0, 0, 0] wr
  b : Below w.heap.size w wr
theorem Own.put {w wr : World} {l : List Int} (h : Own w l wr) (i : Nat) (y : Int) (hi : i < l.length) : Own w (l.set i y) (wr.setCell ⟨w.heap.size, i, none⟩ (.int .u64 y)) := ⟨h.a.put i y hi, h.z.other (by simp) _, below_set h.b (Nat.le_refl _)⟩
theorem Own.drew {w wr : World} {l : List Int} (h : Own w l wr) : Own w l wr.drew := ⟨h.a.drew, h.z.drew, below_drew1 h.b⟩
def pw (x : List Int) : Nat → List Int
  | 0 => x
  | j + 1 => wk1 (pw x j)
theorem wk1_length (x : List Int) : (wk1 x).length = x.length := by unfold wk1; rw [List.length_set, wkS_length]
theorem pw_length (x : List Int) : ∀ j, (pw x j).length = x.length
  | 0 => rfl
  | j + 1 => by rw [pw, wk1_length, pw_length x j]
set_option maxRecDepth 100000 in
set_option maxHeartbeats 4000000 in
theorem weak_c (x : List Int) (hx : x.length = 5) (w : World) :
    Calls Tryd.prog 105 #[El x] w fun e w' => e = .returned (El (wk1 (wk1 x))) ∧ Below w.heap.size w w' := by
  have HX := Lib.hid hx
  clear hx
  unfold El
  go_enter Tryd.func105, Tryd.ntmps105
  go_upto_region 2 with (fail)
  have O0 : Aside0 (Own w (pw x 0) ((w.alloc (.cells (cells64 x) 50)).alloc (.cells (cells64 [0, 0, 0, 0, 0]) 50))) := ⟨⟨blk_alloc (new1 _ _) _, new2 _ _ _, below_alloc (below_alloc (Below.refl _ _) _) _⟩⟩
  go_loopg [6] 2 (fun m t wr => ∃ j : Nat, j + m = 2 ∧ t = .int .i64 (j : Int) ∧ Aside0 (Own w (pw x j) wr))
  case atStart => exact ⟨0, by omega, rfl, O0⟩
  case round =>
    clear O0
    obtain ⟨j, hj', rfl, P⟩ := hrel
    have hj : j ≤ 2 := by omega
    have HJ := Lib.hid hj'
    clear hj'
    by_cases hlt : j < 2
    · have hj1 : (j : Int) < 2 := by omega
      obtain ⟨y, hy⟩ : ∃ y, y = pw x j := ⟨_, rfl⟩
      have hyl : y.length = 5 := by rw [hy, pw_length]; exact HX.out
      have HY := Lib.hid hy
      have HYL := Lib.hid hyl
      rw [← hy] at P
      clear hy hyl
      go_wp2
      obtain ⟨wo, rfl⟩ : ∃ wo : World, wo = wr := ⟨_, rfl⟩
      obtain ⟨gko, rfl⟩ : ∃ gko : Nat, gko = gk := ⟨_, rfl⟩
      go_loopg [3, 8] 5 (fun m c t wr => ∃ i : Nat, i + m = 5 ∧ c = .int .u64 (wkS y i).2 ∧ t = .int .i64 (i : Int) ∧ Aside0 (Own w (wkS y i).1 wr))
      case atStart => exact ⟨0, by omega, rfl, rfl, P⟩
      case round =>
        clear P
        obtain ⟨i, hi', rfl, rfl, P⟩ := hrel
        have hi : i ≤ 5 := by omega
        have HI := Lib.hid hi'
        clear hi'
        by_cases hil : i < 5
        · have hi1 : (i : Int) < 5 := by omega
          have hlen : i < (wkS y i).1.length := by rw [wkS_length, HYL.out]; exact hil
          have c1 := P.out.a.cell hlen
          have f1 := P.out.a.frozen i
          obtain ⟨A, hA⟩ : ∃ A, A = (wkS y i).1.getD i 0 := ⟨_, rfl⟩
          obtain ⟨C, hC⟩ : ∃ C, C = (wkS y i).2 := ⟨_, rfl⟩
          rw [← hA] at c1
          rw [← hC]
          have HA := Lib.hid hA
          have HC := Lib.hid hC
          have HL := Lib.hid hlen
          clear hA hC hlen
          go_wp2
          go_roundg (gk - 1)
          case measure => have := HI.out; omega
          case rel =>
            refine ⟨i + 1, by have := HI.out; omega, ?_, by go_num, ⟨?_⟩⟩
            · show _ = Value.int .u64 ((wkS y i).1.getD i 0 / 2251799813685248)
              rw [← HA.out]
            · show Own w ((wkS y i).1.set i (IntKind.u64.wrap (bits .and .u64 ((wkS y i).1.getD i 0) 2251799813685247 + (wkS y i).2))) _
              rw [← HA.out, ← HC.out]
              exact P.out.put i _ HL.out
        · have hi5 : i = 5 := by omega
          have P5 : Aside0 (Own w (wkS y 5).1 wr) := ⟨by rw [← hi5]; exact P.out⟩
          have hlen : 0 < (wkS y 5).1.length := by rw [wkS_length, HYL.out]; decide
          have c0 := P5.out.a.cell hlen
          have f0 := P5.out.a.frozen 0
          have e5 : (wkS y i).2 = (wkS y 5).2 := by rw [hi5]
          rw [e5]
          obtain ⟨A, hA⟩ : ∃ A, A = (wkS y 5).1.getD 0 0 := ⟨_, rfl⟩
          obtain ⟨C, hC⟩ : ∃ C, C = (wkS y 5).2 := ⟨_, rfl⟩
          rw [← hA] at c0
          rw [← hC]
          have HA := Lib.hid hA
          have HC := Lib.hid hC
          have HL := Lib.hid hlen
          clear hA hC hlen P e5
          go_wp2
          go_roundg (gko - 1)
          case measure => have := HJ.out; omega
          case rel =>
            refine ⟨j + 1, by have := HJ.out; omega, by go_num, ⟨?_⟩⟩
            rw [pw, ← HY.out]
            unfold wk1
            rw [← HA.out, ← HC.out]
            exact P5.out.put 0 _ HL.out
    · have hj2 : j = 2 := by omega
      have P2 : Aside0 (Own w (wk1 (wk1 x)) wr) := ⟨by have := P.out; rw [hj2] at this; exact this⟩
      have hl : (cells64 (wk1 (wk1 x))).size = 5 := by have h := HX.out; simp [cells64, wk1_length, h]
      have hi8 : (Tryd.prog.info? 50).map (·.size) = some 5 := by kernel_rfl
      obtain ⟨y, hy⟩ : ∃ y, y = wk1 (wk1 x) := ⟨_, rfl⟩
      rw [← hy] at P2 hl
      have HYe := Lib.hid hy
      have HL8 := Lib.hid hl
      have HI8 := Lib.hid hi8
      clear P hl hi8 hy
      go_wp2_with (first
        | (refine wpList_load_row rfl 50 (.tmp 1) rfl w.heap.size (by rfl) 50 (cells64 y) (0, 0) _ P2.out.a Tryd.underlying50 rfl (by rw [HL8.out]; exact HI8.out) ?_)
        | (refine wpList_store_row rfl 50 (.tmp 2) (.tmp 32) rfl (w.heap.size + 1) (cells64 y) (by rfl) (by rfl) 50 (cells64 [0, 0, 0, 0, 0]) P2.out.z (by rw [HL8.out]; exact HI8.out) (by rw [HL8.out]; rfl) (by simp [cells64, Value.oneCell']) ?_))
      refine bodyPost_ret (v := .agg (cells64 y)) (results_cell_row (by rfl) _ _ (w.heap.size + 1) 50 (cells64 y) (0, 0) _ (by rfl) (setRow_heap _ _ _ _ _ _ P2.out.z) Tryd.underlying50 rfl (by rw [HL8.out]; exact HI8.out)) rfl ⟨by rw [HYe.out], below_setRow P2.out.b (by omega) _⟩
end Go.Proofs.YtbenedckmapjoaaDoor.F
namespace Go.Proofs.YtbenedckmapjoaaDoor.F
open Go.RowKit Go.Proofs.YtbenedckmapjoaaDoor.H Go.Proofs.YtbenedckmapjoaaDoorW.PrintWords
set_option linter.unusedVariables false
set_option linter.unusedSimpArgs false
/-- Whether a number is p or above: the carry of 19 more. -/
def rq (y : List Int) : Nat → Int
  | 0 => IntKind.u64.wrap (y.getD 0 0 + 19) / 2251799813685248
  | i + 1 => IntKind.u64.wrap (y.getD (i + 1) 0 + rq y i) / 2251799813685248
def rz (y : List Int) : List Int := y.set 0 (IntKind.u64.wrap (y.getD 0 0 + IntKind.u64.wrap (19 * rq y 4)))
def rc (z : List Int) : Nat → List Int × Int
  | 0 => (z, 0)
  | i + 1 => ((rc z i).1.set i (bits .and .u64 (IntKind.u64.wrap ((rc z i).1.getD i 0 + (rc z i).2)) 2251799813685247), IntKind.u64.wrap ((rc z i).1.getD i 0 + (rc z i).2) / 2251799813685248)
theorem rz_length (y : List Int) : (rz y).length = y.length := by unfold rz; rw [List.length_set]
theorem rc_length (z : List Int) : ∀ i, (rc z i).1.length = z.length
  | 0 => rfl
  | i + 1 => by rw [rc, List.length_set, rc_length z i]
def red (x : List Int) : List Int := (rc (rz (wk1 (wk1 (wk1 (wk1 x))))) 5).1
theorem red_length (x : List Int) : (red x).length = x.length := by unfold red; rw [rc_length, rz_length, wk1_length, wk1_length, wk1_length, wk1_length]
set_option maxRecDepth 100000 in
set_option maxHeartbeats 4000000 in
theorem Reduce_c (x : List Int) (hx : x.length = 5) (w : World) :
    Calls Tryd.prog 104 #[El x] w fun e w' => e = .returned (El (red x)) ∧ Below w.heap.size w w' := by
  have hi8 : (Tryd.prog.info? 50).map (·.size) = some 5 := by kernel_rfl
  have hlx : (cells64 x).size = 5 := by simp [cells64, hx]
  have HI8 := Lib.hid hi8
  have HLX := Lib.hid hlx
  have HX := Lib.hid hx
  obtain ⟨y, hy⟩ : ∃ y, y = wk1 (wk1 (wk1 (wk1 x))) := ⟨_, rfl⟩
  have hyl : y.length = 5 := by rw [hy, wk1_length, wk1_length, wk1_length, wk1_length, hx]
  have hsy : (cells64 y).size = 5 := by simp [cells64, hyl]
  have HY := Lib.hid hy
  have HYL := Lib.hid hyl
  have HSY := Lib.hid hsy
  clear hx hy hyl hsy hi8 hlx
  unfold El
  go_enter Tryd.func104, Tryd.ntmps104
  go_upto_region 2 with (first
    | (refine wpList_load_row rfl 50 (.tmp 1) rfl w.heap.size (by rfl) 50 (cells64 x) (0, 0) _ (blk_alloc (new1 _ _) _) Tryd.underlying50 rfl (by rw [HLX.out]; exact HI8.out) ?_)
    | (go_at_call_of 105 (Value.agg (cells64 x)); refine (weak_c x HX.out _).mono ?_; rintro e w1 ⟨rfl, hb1⟩; unfold El)
    | (go_at_call_of 105 (Value.agg (cells64 (wk1 (wk1 x)))); refine (weak_c (wk1 (wk1 x)) (by rw [wk1_length, wk1_length]; exact HX.out) _).mono ?_; rintro e w3 ⟨rfl, hb3⟩; unfold El; rw [← HY.out])
    | (refine wpList_store_row rfl 50 (.tmp 1) (.tmp 10) rfl w.heap.size (cells64 y) (by rfl) (by rfl) 50 (cells64 x) (blk_below (blk_below (blk_alloc (new1 _ _) _) hb1) hb3) (by rw [HSY.out]; exact HI8.out) (by rw [HSY.out, HLX.out]) (by simp [cells64, Value.oneCell']) ?_))
  have hyl5 := HYL.out
  have P : Aside0 (Own w y (w3.setRow w.heap.size (cells64 y))) := ⟨⟨setRow_heap _ _ _ _ _ _ (blk_below (blk_below (blk_alloc (new1 _ _) _) hb1) hb3), (setRow_other _ _ _ _ (by omega)).trans (blk_below (blk_below (new2 _ _ _) hb1) hb3), below_setRow (below_step (below_step (below_alloc (below_alloc (Below.refl _ _) _) _) hb1) hb3) (Nat.le_refl _) _⟩⟩
  generalize w3.setRow w.heap.size (cells64 y) = W at P ⊢
  clear hb1 hb3
  have c0 := P.out.a.cell (i := 0) (by omega)
  clear hyl5
  obtain ⟨y0, e0⟩ : ∃ v, v = y.getD 0 0 := ⟨_, rfl⟩
  rw [← e0] at c0
  have E0 := Lib.hid e0
  clear e0
  go_upto_region 3 with (fail)
  have g0 : IntKind.u64.wrap (y0 + 19) / 2251799813685248 = rq y 0 := by rw [rq, ← E0.out]
  rw [g0]
  clear g0
  go_upto_region 4 with (fail)
  go_loopg [3, 17] 4 (fun m q t wr => ∃ i : Nat, i + m = 4 ∧ q = .int .u64 (rq y i) ∧ t = .int .i64 (i : Int) ∧ Aside0 (Own w y wr))
  case atStart => exact ⟨0, by omega, rfl, rfl, P⟩
  case round =>
    clear P
    obtain ⟨i, hi', rfl, rfl, P⟩ := hrel
    have hi : i ≤ 4 := by omega
    have HI := Lib.hid hi'
    clear hi'
    by_cases hil : i < 4
    · have hi1 : (i : Int) < 4 := by omega
      have c1 := P.out.a.cell (i := 1 + i) (by have := HYL.out; omega)
      obtain ⟨A, hA⟩ : ∃ A, A = y.getD (1 + i) 0 := ⟨_, rfl⟩
      obtain ⟨C, hC⟩ : ∃ C, C = rq y i := ⟨_, rfl⟩
      rw [← hA] at c1
      rw [← hC]
      have HA := Lib.hid hA
      have HC := Lib.hid hC
      clear hA hC
      go_wp2
      go_roundg (gk - 1)
      case measure => have := HI.out; omega
      case rel =>
        refine ⟨i + 1, by have := HI.out; omega, ?_, by go_num, P⟩
        rw [rq, Nat.add_comm i 1, ← HA.out, ← HC.out]
    · obtain rfl : i = 4 := by omega
      clear hil hi HI
      have c0 := P.out.a.cell (i := 0) (by have := HYL.out; omega)
      have f0 := P.out.a.frozen 0
      rw [← E0.out] at c0
      obtain ⟨C, hC⟩ : ∃ C, C = rq y 4 := ⟨_, rfl⟩
      rw [← hC]
      have HC := Lib.hid hC
      clear hC
      obtain ⟨z, hz⟩ : ∃ z, z = rz y := ⟨_, rfl⟩
      have hzl : z.length = 5 := by rw [hz, rz_length]; exact HYL.out
      have HZ := Lib.hid hz
      have HZL := Lib.hid hzl
      clear hz hzl
      go_upto_region 10 with (fail)
      have PZ : Aside0 (Own w z (wr.setCell ⟨w.heap.size, 0, none⟩ (.int .u64 (IntKind.u64.wrap (y0 + IntKind.u64.wrap (19 * C)))))) := ⟨by
        rw [HZ.out]
        unfold rz
        rw [← E0.out, ← HC.out]
        exact P.out.put 0 _ (by have := HYL.out; omega)⟩
      clear P c0 f0
      go_upto_region 11 with (fail)
      go_loopg [6, 32] 5 (fun m c t wr => ∃ i : Nat, i + m = 5 ∧ c = .int .u64 (rc z i).2 ∧ t = .int .i64 (i : Int) ∧ Aside0 (Own w (rc z i).1 wr))
      case atStart => exact ⟨0, by omega, rfl, rfl, PZ⟩
      case round =>
        clear PZ
        obtain ⟨i, hi', rfl, rfl, P⟩ := hrel
        have hi : i ≤ 5 := by omega
        have HI := Lib.hid hi'
        clear hi'
        by_cases hil : i < 5
        · have hi1 : (i : Int) < 5 := by omega
          have hlen : i < (rc z i).1.length := by rw [rc_length, HZL.out]; exact hil
          have c1 := P.out.a.cell hlen
          have f1 := P.out.a.frozen i
          obtain ⟨A, hA⟩ : ∃ A, A = (rc z i).1.getD i 0 := ⟨_, rfl⟩
          obtain ⟨C, hC⟩ : ∃ C, C = (rc z i).2 := ⟨_, rfl⟩
          rw [← hA] at c1
          rw [← hC]
          have HA := Lib.hid hA
          have HC := Lib.hid hC
          have HL := Lib.hid hlen
          clear hA hC hlen
          go_wp2
          go_roundg (gk - 1)
          case measure => have := HI.out; omega
          case rel =>
            refine ⟨i + 1, by have := HI.out; omega, ?_, by go_num, ⟨?_⟩⟩
            · rw [rc, ← HA.out, ← HC.out]
            · rw [rc, ← HA.out, ← HC.out]
              have h1 := (P.out.put i (IntKind.u64.wrap (A + C)) HL.out).put i (bits .and .u64 (IntKind.u64.wrap (A + C)) 2251799813685247) (by rw [List.length_set]; exact HL.out)
              rw [List.set_set] at h1
              exact h1
        · have hi5 : i = 5 := by omega
          have P5 : Aside0 (Own w (red x) wr) := ⟨by have := P.out; rw [hi5, HZ.out, HY.out] at this; exact this⟩
          have hl : (cells64 (red x)).size = 5 := by have h := HX.out; simp [cells64, red_length, h]
          obtain ⟨v, hv⟩ : ∃ v, v = red x := ⟨_, rfl⟩
          rw [← hv] at P5 hl
          have HV := Lib.hid hv
          have HL8 := Lib.hid hl
          clear P hl hv hil hi
          go_wp2_with (first
            | (refine wpList_load_row rfl 50 (.tmp 1) rfl w.heap.size (by rfl) 50 (cells64 v) (0, 0) _ P5.out.a Tryd.underlying50 rfl (by rw [HL8.out]; exact HI8.out) ?_)
            | (refine wpList_store_row rfl 50 (.tmp 2) (.tmp 51) rfl (w.heap.size + 1) (cells64 v) (by rfl) (by rfl) 50 (cells64 [0, 0, 0, 0, 0]) P5.out.z (by rw [HL8.out]; exact HI8.out) (by rw [HL8.out]; rfl) (by simp [cells64, Value.oneCell']) ?_))
          refine bodyPost_ret (v := .agg (cells64 v)) (results_cell_row (by rfl) _ _ (w.heap.size + 1) 50 (cells64 v) (0, 0) _ (by rfl) (setRow_heap _ _ _ _ _ _ P5.out.z) Tryd.underlying50 rfl (by rw [HL8.out]; exact HI8.out)) rfl ⟨by rw [HV.out], below_setRow P5.out.b (by omega) _⟩
end Go.Proofs.YtbenedckmapjoaaDoor.F
namespace Go.Proofs.YtbenedckmapjoaaDoor.F
open Go.RowKit Go.Proofs.YtbenedckmapjoaaDoor.H Go.Proofs.YtbenedckmapjoaaDoorW.PrintWords
set_option linter.unusedVariables false
set_option linter.unusedSimpArgs false
/-- A function that turns its first row of five words, reads its second, and hands a copy back. -/
structure Own2 (w : World) (l m : List Int) (wr : World) : Prop where
  a : Arr w.heap.size l wr
  c : Arr (w.heap.size + 1) m wr
  z : Arr (w.heap.size + 1 + 1) [0, 0, 0, 0, 0] wr
  b : Below w.heap.size w wr
theorem Own2.put {w wr : World} {l m : List Int} (h : Own2 w l m wr) (i : Nat) (y : Int) (hi : i < l.length) : Own2 w (l.set i y) m (wr.setCell ⟨w.heap.size, i, none⟩ (.int .u64 y)) := ⟨h.a.put i y hi, h.c.other (by simp) _, h.z.other (by simp; omega) _, below_set h.b (Nat.le_refl _)⟩
theorem Own2.drew {w wr : World} {l m : List Int} (h : Own2 w l m wr) : Own2 w l m wr.drew := ⟨h.a.drew, h.c.drew, h.z.drew, below_drew1 h.b⟩
theorem new3 (w : World) (o o' o'' : Obj) : (((w.alloc o).alloc o').alloc o'').heap[w.heap.size + 1 + 1]? = some o'' := by have := blk_new ((w.alloc o).alloc o') o''; simpa using this
theorem Own2.of (w : World) (l m : List Int) : Own2 w l m (((w.alloc (.cells (cells64 l) 50)).alloc (.cells (cells64 m) 50)).alloc (.cells (cells64 [0, 0, 0, 0, 0]) 50)) :=
  ⟨blk_alloc (blk_alloc (new1 _ _) _) _, blk_alloc (new2 _ _ _) _, new3 _ _ _ _, below_alloc (below_alloc (below_alloc (Below.refl _ _) _) _) _⟩
def adS (a b : List Int) : Nat → List Int
  | 0 => a
  | i + 1 => (adS a b i).set i (IntKind.u64.wrap ((adS a b i).getD i 0 + b.getD i 0))
theorem adS_length (a b : List Int) : ∀ i, (adS a b i).length = a.length
  | 0 => rfl
  | i + 1 => by rw [adS, List.length_set, adS_length a b i]
set_option maxRecDepth 100000 in
set_option maxHeartbeats 4000000 in
theorem add_c (x y : List Int) (hx : x.length = 5) (hy : y.length = 5) (w : World) :
    Calls Tryd.prog 110 #[El x, El y] w fun e w' => e = .returned (El (adS x y 5)) ∧ Below w.heap.size w w' := by
  have HX := Lib.hid hx
  have HY := Lib.hid hy
  clear hx hy
  unfold El
  go_enter Tryd.func110, Tryd.ntmps110
  go_upto_region 2 with (fail)
  have O0 : Aside0 (Own2 w (adS x y 0) y _) := ⟨Own2.of w x y⟩
  go_loopg [6] 5 (fun m t wr => ∃ i : Nat, i + m = 5 ∧ t = .int .i64 (i : Int) ∧ Aside0 (Own2 w (adS x y i) y wr))
  case atStart => exact ⟨0, by omega, rfl, O0⟩
  case round =>
    clear O0
    obtain ⟨i, hi', rfl, P⟩ := hrel
    have hi : i ≤ 5 := by omega
    have HI := Lib.hid hi'
    clear hi'
    by_cases hil : i < 5
    · have hi0 : (0 : Int) ≤ (i : Int) := by omega
      have hi1 : (i : Int) < 5 := by omega
      have hlen : i < (adS x y i).length := by rw [adS_length, HX.out]; exact hil
      have c1 := P.out.a.cell hlen
      have c2 := P.out.c.cell (i := i) (by rw [HY.out]; exact hil)
      have f1 := P.out.a.frozen i
      obtain ⟨A, hA⟩ : ∃ A, A = (adS x y i).getD i 0 := ⟨_, rfl⟩
      obtain ⟨C, hC⟩ : ∃ C, C = y.getD i 0 := ⟨_, rfl⟩
      rw [← hA] at c1
      rw [← hC] at c2
      have HA := Lib.hid hA
      have HC := Lib.hid hC
      have HL := Lib.hid hlen
      clear hA hC hlen
      go_wp2
      go_region
      all_goals
        go_wp2
        go_roundg (gk - 1)
        case measure => have := HI.out; omega
        case rel =>
          refine ⟨i + 1, by have := HI.out; omega, by go_num, ⟨?_⟩⟩
          rw [adS, ← HA.out, ← HC.out]
          exact P.out.drew.put i _ HL.out
    · obtain rfl : i = 5 := by omega
      have hl : (cells64 (adS x y 5)).size = 5 := by have h := HX.out; simp [cells64, adS_length, h]
      have hi8 : (Tryd.prog.info? 50).map (·.size) = some 5 := by kernel_rfl
      obtain ⟨v, hv⟩ : ∃ v, v = adS x y 5 := ⟨_, rfl⟩
      rw [← hv] at P hl
      have HV := Lib.hid hv
      have HL8 := Lib.hid hl
      have HI8 := Lib.hid hi8
      clear hl hi8 hv hil hi
      go_wp2_with (first
        | (refine wpList_load_row rfl 50 (.tmp 2) rfl w.heap.size (by rfl) 50 (cells64 v) (0, 0) _ P.out.a Tryd.underlying50 rfl (by rw [HL8.out]; exact HI8.out) ?_)
        | (refine wpList_store_row rfl 50 (.tmp 4) (.tmp 18) rfl (w.heap.size + 1 + 1) (cells64 v) (by rfl) (by rfl) 50 (cells64 [0, 0, 0, 0, 0]) P.out.z (by rw [HL8.out]; exact HI8.out) (by rw [HL8.out]; rfl) (by simp [cells64, Value.oneCell']) ?_))
      refine bodyPost_ret (v := .agg (cells64 v)) (results_cell_row (by rfl) _ _ (w.heap.size + 1 + 1) 50 (cells64 v) (0, 0) _ (by rfl) (setRow_heap _ _ _ _ _ _ P.out.z) Tryd.underlying50 rfl (by rw [HL8.out]; exact HI8.out)) rfl ⟨by rw [HV.out], below_setRow P.out.b (by omega) _⟩
/-- Four times p more. -/
def fpS (a : List Int) : Nat → List Int
  | 0 => a.set 0 (IntKind.u64.wrap (a.getD 0 0 + 9007199254740916))
  | i + 1 => (fpS a i).set (i + 1) (IntKind.u64.wrap ((fpS a i).getD (i + 1) 0 + 9007199254740988))
theorem fpS_length (a : List Int) : ∀ i, (fpS a i).length = a.length
  | 0 => by rw [fpS, List.length_set]
  | i + 1 => by rw [fpS, List.length_set, fpS_length a i]
def sbS (a b : List Int) : Nat → List Int
  | 0 => a
  | i + 1 => (sbS a b i).set i (IntKind.u64.wrap ((sbS a b i).getD i 0 - b.getD i 0))
theorem sbS_length (a b : List Int) : ∀ i, (sbS a b i).length = a.length
  | 0 => rfl
  | i + 1 => by rw [sbS, List.length_set, sbS_length a b i]
set_option maxRecDepth 100000 in
set_option maxHeartbeats 4000000 in
theorem sub_c (x y : List Int) (hx : x.length = 5) (hy : y.length = 5) (w : World) :
    Calls Tryd.prog 109 #[El x, El y] w fun e w' => e = .returned (El (sbS (fpS x 4) y 5)) ∧ Below w.heap.size w w' := by
  have HX := Lib.hid hx
  have HY := Lib.hid hy
  obtain ⟨x0, e0⟩ : ∃ v, v = x.getD 0 0 := ⟨_, rfl⟩
  have E0 := Lib.hid e0
  have hx0 : 0 < x.length := by omega
  have HX0 := Lib.hid hx0
  clear hx hy hx0
  unfold El
  go_enter Tryd.func109, Tryd.ntmps109
  go_upto_region 1 with (fail)
  have P0 : Aside0 (Own2 w x y (((w.alloc (.cells (cells64 x) 50)).alloc (.cells (cells64 y) 50)).alloc (.cells #[.int .u64 0, .int .u64 0, .int .u64 0, .int .u64 0, .int .u64 0] 50))) := ⟨Own2.of w x y⟩
  generalize ((w.alloc (.cells (cells64 x) 50)).alloc (.cells (cells64 y) 50)).alloc (.cells #[.int .u64 0, .int .u64 0, .int .u64 0, .int .u64 0, .int .u64 0] 50) = W at P0 ⊢
  have c0 := P0.out.a.cell (i := 0) HX0.out
  have f0 := P0.out.a.frozen 0
  rw [← e0] at c0
  have P1 : Aside0 (Own2 w (fpS x 0) y _) := ⟨by rw [fpS, ← e0]; exact P0.out.put 0 _ HX0.out⟩
  clear e0
  go_upto_region 3 with (fail)
  go_loopg [5] 4 (fun m t wr => ∃ i : Nat, i + m = 4 ∧ t = .int .i64 ((i : Int) + 1) ∧ Aside0 (Own2 w (fpS x i) y wr))
  case atStart => exact ⟨0, by omega, rfl, P1⟩
  case round =>
    clear P1
    obtain ⟨i, hi', rfl, P⟩ := hrel
    have hi : i ≤ 4 := by omega
    have HI := Lib.hid hi'
    clear hi' c0 f0
    by_cases hil : i < 4
    · have hi0 : (0 : Int) ≤ (i : Int) + 1 := by omega
      have hi1 : (i : Int) + 1 < 5 := by omega
      have hlen : i + 1 < (fpS x i).length := by rw [fpS_length, HX.out]; omega
      have c1 := P.out.a.cell hlen
      have f1 := P.out.a.frozen (i + 1)
      obtain ⟨A, hA⟩ : ∃ A, A = (fpS x i).getD (i + 1) 0 := ⟨_, rfl⟩
      rw [← hA] at c1
      have HA := Lib.hid hA
      have HL := Lib.hid hlen
      clear hA hlen
      obtain ⟨j, hj⟩ : ∃ j : Nat, j = i + 1 := ⟨_, rfl⟩
      rw [← hj] at c1 f1
      rw [show (i : Int) + 1 = (j : Int) by omega] at hi0 hi1 ⊢
      have HJ := Lib.hid hj
      clear hj
      go_wp2
      go_roundg (gk - 1)
      case measure => have := HI.out; omega
      case rel =>
        refine ⟨i + 1, by have := HI.out; omega, ?_, ⟨?_⟩⟩
        · have := HJ.out
          rw [show (((i + 1 : Nat) : Int)) = (j : Int) by omega]
        · rw [fpS, ← HA.out, ← HJ.out]
          exact P.out.put j _ (by rw [HJ.out]; exact HL.out)
    · obtain rfl : i = 4 := by omega
      obtain ⟨v, hv⟩ : ∃ v, v = fpS x 4 := ⟨_, rfl⟩
      have hvl : v.length = 5 := by rw [hv, fpS_length]; exact HX.out
      rw [← hv] at P
      have HV := Lib.hid hv
      have HVL := Lib.hid hvl
      clear hv hvl hil hi HI
      go_upto_region 7 with (fail)
      go_loopg [20] 5 (fun m t wr => ∃ i : Nat, i + m = 5 ∧ t = .int .i64 (i : Int) ∧ Aside0 (Own2 w (sbS v y i) y wr))
      case atStart => exact ⟨0, by omega, rfl, P⟩
      case round =>
        clear P
        obtain ⟨i, hi', rfl, P⟩ := hrel
        have hi : i ≤ 5 := by omega
        have HI := Lib.hid hi'
        clear hi'
        by_cases hil : i < 5
        · have hi0 : (0 : Int) ≤ (i : Int) := by omega
          have hi1 : (i : Int) < 5 := by omega
          have hlen : i < (sbS v y i).length := by rw [sbS_length, HVL.out]; exact hil
          have c1 := P.out.a.cell hlen
          have c2 := P.out.c.cell (i := i) (by rw [HY.out]; exact hil)
          have f1 := P.out.a.frozen i
          obtain ⟨A, hA⟩ : ∃ A, A = (sbS v y i).getD i 0 := ⟨_, rfl⟩
          obtain ⟨C, hC⟩ : ∃ C, C = y.getD i 0 := ⟨_, rfl⟩
          rw [← hA] at c1
          rw [← hC] at c2
          have HA := Lib.hid hA
          have HC := Lib.hid hC
          have HL := Lib.hid hlen
          clear hA hC hlen
          go_wp2
          go_region
          all_goals
            go_wp2
            go_roundg (gk - 1)
            case measure => have := HI.out; omega
            case rel =>
              refine ⟨i + 1, by have := HI.out; omega, by go_num, ⟨?_⟩⟩
              rw [sbS, ← HA.out, ← HC.out]
              exact P.out.drew.put i _ HL.out
        · obtain rfl : i = 5 := by omega
          have hl : (cells64 (sbS v y 5)).size = 5 := by have h := HVL.out; simp [cells64, sbS_length, h]
          have hi8 : (Tryd.prog.info? 50).map (·.size) = some 5 := by kernel_rfl
          obtain ⟨u, hu⟩ : ∃ u, u = sbS v y 5 := ⟨_, rfl⟩
          rw [← hu] at P hl
          have HU := Lib.hid hu
          have HL8 := Lib.hid hl
          have HI8 := Lib.hid hi8
          clear hl hi8 hu hil hi
          go_wp2_with (first
            | (refine wpList_load_row rfl 50 (.tmp 2) rfl w.heap.size (by rfl) 50 (cells64 u) (0, 0) _ P.out.a Tryd.underlying50 rfl (by rw [HL8.out]; exact HI8.out) ?_)
            | (refine wpList_store_row rfl 50 (.tmp 4) (.tmp 32) rfl (w.heap.size + 1 + 1) (cells64 u) (by rfl) (by rfl) 50 (cells64 [0, 0, 0, 0, 0]) P.out.z (by rw [HL8.out]; exact HI8.out) (by rw [HL8.out]; rfl) (by simp [cells64, Value.oneCell']) ?_))
          refine bodyPost_ret (v := .agg (cells64 u)) (results_cell_row (by rfl) _ _ (w.heap.size + 1 + 1) 50 (cells64 u) (0, 0) _ (by rfl) (setRow_heap _ _ _ _ _ _ P.out.z) Tryd.underlying50 rfl (by rw [HL8.out]; exact HI8.out)) rfl ⟨by rw [HU.out, HV.out], below_setRow P.out.b (by omega) _⟩
end Go.Proofs.YtbenedckmapjoaaDoor.F
namespace Go.Proofs.YtbenedckmapjoaaDoor.F
open Go.RowKit Go.Proofs.YtbenedckmapjoaaDoor.H Go.Proofs.YtbenedckmapjoaaDoorW.PrintWords
set_option linter.unusedVariables false
set_option linter.unusedSimpArgs false
theorem wr64 (n : Int) : IntKind.u64.wrap n = n % 18446744073709551616 := by simp [IntKind.wrap, IntKind.bits, IntKind.signed]
theorem and32 {x : Int} (h0 : 0 ≤ x) (h1 : x < 18446744073709551616) : bits .and .u64 x 4294967295 = x % 4294967296 :=
  bits_mask .u64 64 (by decide) (fun n h0 h1 => by rw [wr64]; omega) 32 (by decide) x h0 h1
theorem and51 {x : Int} (h0 : 0 ≤ x) (h1 : x < 18446744073709551616) : bits .and .u64 x 2251799813685247 = x % 2251799813685248 :=
  bits_mask .u64 64 (by decide) (fun n h0 h1 => by rw [wr64]; omega) 51 (by decide) x h0 h1
theorem mul_split (x y : Int) (hx0 : 0 ≤ x) (hx : x < 18446744073709551616) (hy0 : 0 ≤ y) (hy : y < 18446744073709551616) (x0 x1 y0 y1 w0 t w1 w2 w1' : Int)
    (e0 : x0 = x % 4294967296) (e1 : x1 = x / 4294967296) (f0 : y0 = y % 4294967296) (f1 : y1 = y / 4294967296) (hw0 : w0 = x0 * y0 % 18446744073709551616) (ht : t = (x1 * y0 % 18446744073709551616 + w0 / 4294967296) % 18446744073709551616)
    (hw1 : w1 = t % 4294967296) (hw2 : w2 = t / 4294967296) (hw1' : w1' = (w1 + x0 * y1 % 18446744073709551616) % 18446744073709551616) :
    ((x1 * y1 % 18446744073709551616 + w2) % 18446744073709551616 + w1' / 4294967296) % 18446744073709551616 = x * y / 18446744073709551616 := by
  have b : ∀ a c : Int, 0 ≤ a → a ≤ 4294967295 → 0 ≤ c → c ≤ 4294967295 → 0 ≤ a * c ∧ a * c ≤ 18446744065119617025 := fun a c h1 h2 h3 h4 => ⟨Int.mul_nonneg h1 h3, Int.le_trans (Int.mul_le_mul h2 h4 h3 (by decide)) (by decide)⟩
  have hxx : x = x1 * 4294967296 + x0 := by omega
  have hyy : y = y1 * 4294967296 + y0 := by omega
  have p00 := b x0 y0 (by omega) (by omega) (by omega) (by omega)
  have p01 := b x0 y1 (by omega) (by omega) (by omega) (by omega)
  have p10 := b x1 y0 (by omega) (by omega) (by omega) (by omega)
  have p11 := b x1 y1 (by omega) (by omega) (by omega) (by omega)
  have hxy : x * y = x1 * y1 * 18446744073709551616 + (x1 * y0 + x0 * y1) * 4294967296 + x0 * y0 := by rw [hxx, hyy]; grind
  rw [hxy]
  generalize x0 * y0 = a at *
  generalize x0 * y1 = c at *
  generalize x1 * y0 = d at *
  generalize x1 * y1 = e at *
  clear hxy hxx hyy e0 e1 f0 f1
  omega
set_option maxRecDepth 100000 in
set_option maxHeartbeats 4000000 in
theorem Mul64_c (x y : Int) (hx0 : 0 ≤ x) (hx : x < 18446744073709551616) (hy0 : 0 ≤ y) (hy : y < 18446744073709551616) (w : World) :
    Calls Tryd.prog 126 #[.int .u64 x, .int .u64 y] w fun e w' => e = .returned (.tuple #[.int .u64 (x * y / 18446744073709551616), .int .u64 (x * y % 18446744073709551616)]) ∧ w' = w := by
  have HX := Lib.hid (And.intro hx0 (And.intro hx (And.intro hy0 hy)))
  clear hx0 hx hy0 hy
  go_enter Tryd.func126, Tryd.ntmps126
  go_wp2
  refine bodyPost_ret (results_list (rs := [.tmp 4, .tmp 5]) rfl (by simp) (.tmp (.tmp .nil))) rfl ?_
  obtain ⟨hx0, hx, hy0, hy⟩ := HX.out
  have hA := and32 hx0 hx
  have hB := and32 hy0 hy
  have hC : ∀ v : Int, bits .and .u64 (v % 18446744073709551616) 4294967295 = v % 18446744073709551616 % 4294967296 := fun v => and32 (by omega) (by omega)
  refine ⟨?_, rfl⟩
  show Ending.returned (Value.tuple #[Value.int IntKind.u64 _, Value.int IntKind.u64 _]) = _
  simp only [wr64, hA, hB, hC]
  rw [mul_split x y hx0 hx hy0 hy _ _ _ _ _ _ _ _ _ rfl rfl rfl rfl rfl rfl rfl rfl rfl]
theorem Add64_run (x y c : Int) (hx : 0 ≤ x) (hy : 0 ≤ y) (hc0 : 0 ≤ c) (hc : c ≤ 1) (w : World) :
    (callFunc 97 #[.int .u64 x, .int .u64 y, .int .u64 c]).run Tryd.prog w = .ok (.value (.tuple #[.int .u64 ((x + y + c) % 18446744073709551616), .int .u64 ((x + y + c) / 18446744073709551616)])) w := by
  rw [run_callFunc_extern Tryd.func97 (by kernel_rfl) (by kernel_rfl) (by kernel_rfl) (e := add64Entry) (by kernel_rfl), run_add64 x y c hx hy hc0 hc]
  rfl
/-- A number of two words, the higher one first. -/
def Wd (n : Int) : Value := .agg #[.int .u64 (n / 18446744073709551616), .int .u64 (n % 18446744073709551616)]
set_option maxRecDepth 100000 in
set_option maxHeartbeats 4000000 in
theorem wadd_c (n a b : Int) (hn0 : 0 ≤ n) (ha0 : 0 ≤ a) (ha : a < 18446744073709551616) (hb0 : 0 ≤ b) (hb : b < 18446744073709551616) (hs : n + a * b < 340282366920938463463374607431768211456) (w : World) :
    Calls Tryd.prog 135 #[Wd n, .int .u64 a, .int .u64 b] w fun e w' => e = .returned (Wd (n + a * b)) ∧ Below w.heap.size w w' := by
  obtain ⟨m, hm⟩ : ∃ m, m = a * b := ⟨_, rfl⟩
  have hm0 : 0 ≤ m := by rw [hm]; exact Int.mul_nonneg ha0 hb0
  have HM := Lib.hid (And.intro ha0 (And.intro ha (And.intro hb0 (And.intro hb hm))))
  rw [← hm] at hs ⊢
  obtain ⟨h, hh⟩ : ∃ h, h = n / 18446744073709551616 := ⟨_, rfl⟩
  obtain ⟨l, hl⟩ : ∃ l, l = n % 18446744073709551616 := ⟨_, rfl⟩
  obtain ⟨mh, hmh⟩ : ∃ h, h = m / 18446744073709551616 := ⟨_, rfl⟩
  obtain ⟨ml, hml⟩ : ∃ l, l = m % 18446744073709551616 := ⟨_, rfl⟩
  have hA1 := Add64_run l ml 0 (by omega) (by omega) (by omega) (by omega)
  obtain ⟨s1, hs1⟩ : ∃ q_, q_ = (l + ml + 0) % 18446744073709551616 := ⟨_, rfl⟩
  obtain ⟨c1, hc1⟩ : ∃ q_, q_ = (l + ml + 0) / 18446744073709551616 := ⟨_, rfl⟩
  have hA2 := Add64_run h mh c1 (by omega) (by omega) (by omega) (by omega)
  obtain ⟨s2, hs2⟩ : ∃ q_, q_ = (h + mh + c1) % 18446744073709551616 := ⟨_, rfl⟩
  obtain ⟨c2, hc2⟩ : ∃ q_, q_ = (h + mh + c1) / 18446744073709551616 := ⟨_, rfl⟩
  rw [← hs1, ← hc1] at hA1
  rw [← hs2, ← hc2] at hA2
  have HN := Lib.hid (show s2 = (n + m) / 18446744073709551616 ∧ s1 = (n + m) % 18446744073709551616 from ⟨by omega, by omega⟩)
  have HQ := Lib.hid (And.intro hmh hml)
  unfold Wd
  rw [← hh, ← hl]
  clear hn0 ha0 ha hb0 hb hs hm hm0 hh hl hmh hml hs1 hc1 hs2 hc2
  go_enter Tryd.func135, Tryd.ntmps135
  go_wp2_with (first
    | (go_at_call 126; refine (Mul64_c a b HM.out.1 HM.out.2.1 HM.out.2.2.1 HM.out.2.2.2.1 _).mono ?_; rintro e w1 ⟨rfl, rfl⟩; rw [← HM.out.2.2.2.2, ← HQ.out.1, ← HQ.out.2])
    | (simp only [hA1])
    | (simp only [hA2]))
  refine bodyPost_ret (v := .agg #[.int .u64 s2, .int .u64 s1]) (results_cell_row (by rfl) _ _ (w.heap.size + 1) 193 #[.int .u64 s2, .int .u64 s1] (0, 0) _ (by rfl) (new2 _ _ _) Tryd.underlying193 rfl (by kernel_rfl)) rfl ⟨by rw [HN.out.1, HN.out.2], below_alloc (below_alloc (Below.refl _ _) _) _⟩
set_option maxRecDepth 100000 in
set_option maxHeartbeats 4000000 in
theorem above_c (n : Int) (hn0 : 0 ≤ n) (hn : n < 41538374868278621028243970633760768) (w : World) :
    Calls Tryd.prog 136 #[Wd n] w fun e w' => e = .returned (.int .u64 (n / 2251799813685248)) ∧ Below w.heap.size w w' := by
  unfold Wd
  obtain ⟨h, hh⟩ : ∃ h, h = n / 18446744073709551616 := ⟨_, rfl⟩
  obtain ⟨l, hl⟩ : ∃ l, l = n % 18446744073709551616 := ⟨_, rfl⟩
  rw [← hh, ← hl]
  have HN := Lib.hid (And.intro hn0 (And.intro hn (And.intro hh hl)))
  clear hn0 hn hh hl
  go_enter Tryd.func136, Tryd.ntmps136
  go_wp2
  go_ret
  obtain ⟨hn0, hn, hh, hl⟩ := HN.out
  have h1 : IntKind.u64.wrap (h * 8192) = h * 8192 := by rw [wr64]; omega
  have h2 : bits .or .u64 (h * 8192) (l / 2251799813685248) = h * 8192 + l / 2251799813685248 :=
    bits_join .u64 64 (by decide) (fun n h0 h1 => by rw [wr64]; omega) 13 _ _ (by omega) (by omega) (by omega) (by omega) (by omega) (by omega)
  have h3 : h * 8192 + l / 2251799813685248 = n / 2251799813685248 := by omega
  have h4 : bits .or .u64 (IntKind.u64.wrap (h * 8192)) (l / 2251799813685248) = n / 2251799813685248 := by rw [h1, h2, h3]
  exact ⟨by rw [← h4]; rfl, below_alloc (Below.refl _ _) _⟩
set_option maxRecDepth 100000 in
set_option maxHeartbeats 4000000 in
theorem Small_c (n : Int) (w : World) :
    Calls Tryd.prog 55 #[.int .u64 n] w fun e w' => e = .returned (El [bits .and .u64 n 2251799813685247, n / 2251799813685248, 0, 0, 0]) ∧ Below w.heap.size w w' := by
  go_enter Tryd.func55, Tryd.ntmps55
  go_wp2
  refine bodyPost_ret (v := El [bits .and .u64 n 2251799813685247, n / 2251799813685248, 0, 0, 0]) (results_cell_row (by rfl) _ _ w.heap.size 50 (cells64 [bits .and .u64 n 2251799813685247, n / 2251799813685248, 0, 0, 0]) (0, 0) _ (by rfl) (new1 _ _) Tryd.underlying50 rfl (by kernel_rfl)) rfl ⟨rfl, below_alloc (Below.refl _ _) _⟩
end Go.Proofs.YtbenedckmapjoaaDoor.F
