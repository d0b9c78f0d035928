/- Contracts of sha2's begin: the eight words at first. -/
import Derived.Test.YtckjgipkdknmgaaDoorH5
namespace Go.Proofs.YtckjgipkdknmgaaDoor.H
open Go.RowKit Go.Proofs.YtckjgipkdknmgaaDoorW.PrintWords
/-- The first n words of the eight at first. -/
def fill32 (S : List Int) : Nat → List Int
  | 0 => List.replicate 8 0
  | n + 1 => (fill32 S n).set n (IntKind.u32.wrap (S.getD n 0 / 4294967296))
theorem fill32_length (S : List Int) : ∀ n, (fill32 S n).length = 8
  | 0 => rfl
  | n + 1 => by unfold fill32; rw [List.length_set]; exact fill32_length S n
def Beg32 (w : World) (h : List Int) (wr : World) : Prop :=
  wr.heap[w.heap.size]? = some (.cells narrowV 58 (0, 0)) ∧ wr.heap[w.heap.size + 1]? = some (.cells (cells32 (List.replicate 8 0)) 62 (0, 0)) ∧
  wr.heap[w.heap.size + 1 + 1]? = some (.cells (cells32 h) 62 (0, 0)) ∧ Below w.heap.size w wr
theorem Beg32.drew {w wr : World} {h : List Int} (p : Beg32 w h wr) : Beg32 w h wr.drew := ⟨p.1, p.2.1, p.2.2.1, below_drew1 p.2.2.2⟩
theorem Beg32.put {w wr : World} {h : List Int} (p : Beg32 w h wr) (n : Nat) (x : Int) : Beg32 w (h.set n x) (wr.setCell ⟨w.heap.size + 1 + 1, n, none⟩ (.int .u32 x)) :=
  ⟨blk_far p.1 (by simp; omega) _, blk_far p.2.1 (by simp) _, blk_put p.2.2.1 _ _ (cells32_set _ _ _), below_set p.2.2.2 (by omega)⟩
set_option maxRecDepth 100000 in
set_option maxHeartbeats 1000000 in
theorem begin32_c (w : World) (S : List Int) (hS : ∀ i, i < 8 → w.cell? ⟨1, i, none⟩ = some (.int .u64 (S.getD i 0))) :
    Calls Tryd.prog 45 #[.agg narrowV] w fun e w' => e = .returned (.agg (cells32 (fill32 S 8))) ∧ Below w.heap.size w w' := by
  have HS := Lib.hid hS
  clear hS
  unfold narrowV
  go_enter Tryd.func45, Tryd.ntmps45
  go_wp2
  go_loopg [5] 8 (fun m t wr => ∃ n : Nat, n + m = 8 ∧ t = .int .i64 (n : Int) ∧ Aside0 (Beg32 w (fill32 S n) wr))
  case atStart => exact ⟨0, by omega, rfl, ⟨blk_alloc (blk_alloc (new1 _ _) _) _, blk_alloc (new2 _ _ _) _, new3 _ _ _ _, below_alloc (below_alloc (below_alloc (Below.refl _ _) _) _) _⟩⟩
  case round =>
    obtain ⟨n, hn', rfl, P⟩ := hrel
    have hn : n ≤ 8 := by omega
    have HN := Lib.hid hn'
    clear hn'
    by_cases hlt : n < 8
    · have hn0 : (0 : Int) ≤ (n : Int) := by omega
      have hn1 : (n : Int) < 8 := by omega
      have c1 : wr.cell? ⟨w.heap.size, 1, none⟩ = some (.int .i64 32) := (blk_cell P.out.1 1).trans rfl
      have c2 : wr.cell? ⟨w.heap.size + 1 + 1, n, none⟩ = some (.int .u32 ((fill32 S n).getD n 0)) := (blk_cell P.out.2.2.1 n).trans (cells32_get _ _ (by rw [fill32_length]; omega))
      have f2 : wr.frozen? ⟨w.heap.size + 1 + 1, n, none⟩ = false := blk_frozen P.out.2.2.1 _
      have c3 : wr.cell? ⟨1, n, none⟩ = some (.int .u64 (S.getD n 0)) := (P.out.2.2.2.cell (p := ⟨1, n, none⟩) (World.block_lt_of_cell? w _ (HS.out n hlt))).trans (HS.out n hlt)
      generalize hA : (fill32 S n).getD n 0 = A at c2
      clear hA
      generalize hB : S.getD n 0 = B at c3
      have HB := Lib.hid hB
      clear hB
      go_wp2
      go_region
      all_goals
        go_wp2
        go_roundg (gk - 1)
        case measure => have := HN.out; omega
        case rel =>
          refine ⟨n + 1, by have := HN.out; omega, by go_num, ⟨?_⟩⟩
          unfold fill32
          rw [HB.out]
          exact Beg32.put P.out.drew n _
    · have hn8 : n = 8 := by omega
      have hl8 : (cells32 (fill32 S 8)).size = 8 := by have := fill32_length S 8; simp [cells32]; omega
      have P8 : Aside0 (Beg32 w (fill32 S 8) wr) := ⟨by rw [← hn8]; exact P.out⟩
      have hi8' : (Tryd.prog.info? 62).map (·.size) = some 8 := by kernel_rfl
      have HL8 := Lib.hid hl8
      have HI8 := Lib.hid hi8'
      clear P hl8 hi8'
      go_wp2_with (first
        | (refine wpList_load_row rfl 62 (.tmp 3) rfl (w.heap.size + 1 + 1) (by rfl) 62 (cells32 (fill32 S 8)) (0, 0) _ P8.out.2.2.1 Tryd.underlying62 rfl (by rw [HL8.out]; exact HI8.out) ?_)
        | (refine wpList_store_row rfl 62 (.tmp 2) (.tmp 19) rfl (w.heap.size + 1) (cells32 (fill32 S 8)) (by rfl) (by rfl) 62 (cells32 (List.replicate 8 0)) P8.out.2.1 (by rw [HL8.out]; exact HI8.out) (by rw [HL8.out]; simp [cells32]) (by simp [cells32, Value.oneCell']) ?_))
      refine bodyPost_ret (v := .agg (cells32 (fill32 S 8))) (results_cell_row (by rfl) _ _ (w.heap.size + 1) 62 (cells32 (fill32 S 8)) (0, 0) _ (by rfl) (setRow_heap _ _ _ _ _ _ P8.out.2.1) Tryd.underlying62 rfl (by rw [HL8.out]; exact HI8.out)) rfl ⟨rfl, ?_⟩
      exact below_setRow P8.out.2.2.2 (by omega) _
/-- The first n words of the eight at first. -/
def fill64 (S : List Int) : Nat → List Int
  | 0 => List.replicate 8 0
  | n + 1 => (fill64 S n).set n (S.getD n 0)
theorem fill64_length (S : List Int) : ∀ n, (fill64 S n).length = 8
  | 0 => rfl
  | n + 1 => by unfold fill64; rw [List.length_set]; exact fill64_length S n
def Beg64 (w : World) (h : List Int) (wr : World) : Prop :=
  wr.heap[w.heap.size]? = some (.cells wideV 58 (0, 0)) ∧ wr.heap[w.heap.size + 1]? = some (.cells (cells64 (List.replicate 8 0)) 63 (0, 0)) ∧
  wr.heap[w.heap.size + 1 + 1]? = some (.cells (cells64 h) 63 (0, 0)) ∧ Below w.heap.size w wr
theorem Beg64.drew {w wr : World} {h : List Int} (p : Beg64 w h wr) : Beg64 w h wr.drew := ⟨p.1, p.2.1, p.2.2.1, below_drew1 p.2.2.2⟩
theorem Beg64.put {w wr : World} {h : List Int} (p : Beg64 w h wr) (n : Nat) (x : Int) : Beg64 w (h.set n x) (wr.setCell ⟨w.heap.size + 1 + 1, n, none⟩ (.int .u64 x)) :=
  ⟨blk_far p.1 (by simp; omega) _, blk_far p.2.1 (by simp) _, blk_put p.2.2.1 _ _ (cells64_set _ _ _), below_set p.2.2.2 (by omega)⟩
set_option maxRecDepth 100000 in
set_option maxHeartbeats 1000000 in
theorem begin64_c (w : World) (S : List Int) (hS : ∀ i, i < 8 → w.cell? ⟨1, i, none⟩ = some (.int .u64 (S.getD i 0))) :
    Calls Tryd.prog 47 #[.agg wideV] w fun e w' => e = .returned (.agg (cells64 (fill64 S 8))) ∧ Below w.heap.size w w' := by
  have HS := Lib.hid hS
  clear hS
  unfold wideV
  go_enter Tryd.func47, Tryd.ntmps47
  go_wp2
  go_loopg [5] 8 (fun m t wr => ∃ n : Nat, n + m = 8 ∧ t = .int .i64 (n : Int) ∧ Aside0 (Beg64 w (fill64 S n) wr))
  case atStart => exact ⟨0, by omega, rfl, ⟨blk_alloc (blk_alloc (new1 _ _) _) _, blk_alloc (new2 _ _ _) _, new3 _ _ _ _, below_alloc (below_alloc (below_alloc (Below.refl _ _) _) _) _⟩⟩
  case round =>
    obtain ⟨n, hn', rfl, P⟩ := hrel
    have hn : n ≤ 8 := by omega
    have HN := Lib.hid hn'
    clear hn'
    by_cases hlt : n < 8
    · have hn0 : (0 : Int) ≤ (n : Int) := by omega
      have hn1 : (n : Int) < 8 := by omega
      have c1 : wr.cell? ⟨w.heap.size, 1, none⟩ = some (.int .i64 64) := (blk_cell P.out.1 1).trans rfl
      have c2 : wr.cell? ⟨w.heap.size + 1 + 1, n, none⟩ = some (.int .u64 ((fill64 S n).getD n 0)) := (blk_cell P.out.2.2.1 n).trans (cells64_get _ _ (by rw [fill64_length]; omega))
      have f2 : wr.frozen? ⟨w.heap.size + 1 + 1, n, none⟩ = false := blk_frozen P.out.2.2.1 _
      have c3 : wr.cell? ⟨1, n, none⟩ = some (.int .u64 (S.getD n 0)) := (P.out.2.2.2.cell (p := ⟨1, n, none⟩) (World.block_lt_of_cell? w _ (HS.out n hlt))).trans (HS.out n hlt)
      generalize hA : (fill64 S n).getD n 0 = A at c2
      clear hA
      generalize hB : S.getD n 0 = B at c3
      have HB := Lib.hid hB
      clear hB
      go_wp2
      go_region
      all_goals
        go_wp2
        go_roundg (gk - 1)
        case measure => have := HN.out; omega
        case rel =>
          refine ⟨n + 1, by have := HN.out; omega, by go_num, ⟨?_⟩⟩
          unfold fill64
          rw [HB.out]
          exact Beg64.put P.out.drew n _
    · have hn8 : n = 8 := by omega
      have hl8 : (cells64 (fill64 S 8)).size = 8 := by have := fill64_length S 8; simp [cells64]; omega
      have P8 : Aside0 (Beg64 w (fill64 S 8) wr) := ⟨by rw [← hn8]; exact P.out⟩
      have hi8' : (Tryd.prog.info? 63).map (·.size) = some 8 := by kernel_rfl
      have HL8 := Lib.hid hl8
      have HI8 := Lib.hid hi8'
      clear P hl8 hi8'
      go_wp2_with (first
        | (refine wpList_load_row rfl 63 (.tmp 3) rfl (w.heap.size + 1 + 1) (by rfl) 63 (cells64 (fill64 S 8)) (0, 0) _ P8.out.2.2.1 Tryd.underlying63 rfl (by rw [HL8.out]; exact HI8.out) ?_)
        | (refine wpList_store_row rfl 63 (.tmp 2) (.tmp 18) rfl (w.heap.size + 1) (cells64 (fill64 S 8)) (by rfl) (by rfl) 63 (cells64 (List.replicate 8 0)) P8.out.2.1 (by rw [HL8.out]; exact HI8.out) (by rw [HL8.out]; simp [cells64]) (by simp [cells64, Value.oneCell']) ?_))
      refine bodyPost_ret (v := .agg (cells64 (fill64 S 8))) (results_cell_row (by rfl) _ _ (w.heap.size + 1) 63 (cells64 (fill64 S 8)) (0, 0) _ (by rfl) (setRow_heap _ _ _ _ _ _ P8.out.2.1) Tryd.underlying63 rfl (by rw [HL8.out]; exact HI8.out)) rfl ⟨rfl, ?_⟩
      exact below_setRow P8.out.2.2.2 (by omega) _
end Go.Proofs.YtckjgipkdknmgaaDoor.H
