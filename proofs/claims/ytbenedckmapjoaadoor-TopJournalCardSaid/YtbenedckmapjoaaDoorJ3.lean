/- The words at first; shapes; the words as bytes. -/
import Derived.Test.YtbenedckmapjoaaDoorJ2
import Derived.Laws.ResultCell
import Derived.OwnWalk
import Derived.Test.YtbenedckmapjoaaDoorWT
namespace Go.Proofs.YtbenedckmapjoaaDoor.H
open Go.RowKit Go.Proofs.YtbenedckmapjoaaDoorW.PrintWords
/-- The first n words of the eight at first. -/
def fill32 (S : List Int) : Nat → List Int
  | 0 => List.replicate 8 0
  | n + 1 => (fill32 S n).set n (IntKind.u32.wrap (S.getD n 0 / 4294967296))
theorem fill32_length (S : List Int) : ∀ n, (fill32 S n).length = 8
  | 0 => rfl
  | n + 1 => by unfold fill32; rw [List.length_set]; exact fill32_length S n
def Beg32 (w : World) (h : List Int) (wr : World) : Prop :=
  wr.heap[w.heap.size]? = some (.cells narrowV 180 (0, 0)) ∧ wr.heap[w.heap.size + 1]? = some (.cells (cells32 (List.replicate 8 0)) 184 (0, 0)) ∧
  wr.heap[w.heap.size + 1 + 1]? = some (.cells (cells32 h) 184 (0, 0)) ∧ Below w.heap.size w wr
theorem Beg32.drew {w wr : World} {h : List Int} (p : Beg32 w h wr) : Beg32 w h wr.drew := ⟨p.1, p.2.1, p.2.2.1, below_drew1 p.2.2.2⟩
theorem Beg32.put {w wr : World} {h : List Int} (p : Beg32 w h wr) (n : Nat) (x : Int) : Beg32 w (h.set n x) (wr.setCell ⟨w.heap.size + 1 + 1, n, none⟩ (.int .u32 x)) :=
  ⟨blk_far p.1 (by simp; omega) _, blk_far p.2.1 (by simp) _, blk_put p.2.2.1 _ _ (cells32_set _ _ _), below_set p.2.2.2 (by omega)⟩
set_option maxRecDepth 100000 in
set_option maxHeartbeats 1000000 in
theorem begin32_c (w : World) (S : List Int) (hS : ∀ i, i < 8 → w.cell? ⟨7, i, none⟩ = some (.int .u64 (S.getD i 0))) :
    Calls Tryd.prog 147 #[.agg narrowV] w fun e w' => e = .returned (.agg (cells32 (fill32 S 8))) ∧ Below w.heap.size w w' := by
  have HS := Lib.hid hS
  clear hS
  unfold narrowV
  go_enter Tryd.func147, Tryd.ntmps147
  go_wp2
  go_loopg [5] 8 (fun m t wr => ∃ n : Nat, n + m = 8 ∧ t = .int .i64 (n : Int) ∧ Aside0 (Beg32 w (fill32 S n) wr))
  case atStart => exact ⟨0, by omega, rfl, ⟨blk_alloc (blk_alloc (new1 _ _) _) _, blk_alloc (new2 _ _ _) _, new3 _ _ _ _, below_alloc (below_alloc (below_alloc (Below.refl _ _) _) _) _⟩⟩
  case round =>
    obtain ⟨n, hn', rfl, P⟩ := hrel
    have hn : n ≤ 8 := by omega
    have HN := Lib.hid hn'
    clear hn'
    by_cases hlt : n < 8
    · have hn0 : (0 : Int) ≤ (n : Int) := by omega
      have hn1 : (n : Int) < 8 := by omega
      have c1 : wr.cell? ⟨w.heap.size, 1, none⟩ = some (.int .i64 32) := (blk_cell P.out.1 1).trans rfl
      have c2 : wr.cell? ⟨w.heap.size + 1 + 1, n, none⟩ = some (.int .u32 ((fill32 S n).getD n 0)) := (blk_cell P.out.2.2.1 n).trans (cells32_get _ _ (by rw [fill32_length]; omega))
      have f2 : wr.frozen? ⟨w.heap.size + 1 + 1, n, none⟩ = false := blk_frozen P.out.2.2.1 _
      have c3 : wr.cell? ⟨7, n, none⟩ = some (.int .u64 (S.getD n 0)) := (P.out.2.2.2.cell (p := ⟨7, n, none⟩) (World.block_lt_of_cell? w _ (HS.out n hlt))).trans (HS.out n hlt)
      generalize hA : (fill32 S n).getD n 0 = A at c2
      clear hA
      generalize hB : S.getD n 0 = B at c3
      have HB := Lib.hid hB
      clear hB
      go_wp2
      go_region
      all_goals
        go_wp2
        go_roundg (gk - 1)
        case measure => have := HN.out; omega
        case rel =>
          refine ⟨n + 1, by have := HN.out; omega, by go_num, ⟨?_⟩⟩
          unfold fill32
          rw [HB.out]
          exact Beg32.put P.out.drew n _
    · have hn8 : n = 8 := by omega
      have hl8 : (cells32 (fill32 S 8)).size = 8 := by have := fill32_length S 8; simp [cells32]; omega
      have P8 : Aside0 (Beg32 w (fill32 S 8) wr) := ⟨by rw [← hn8]; exact P.out⟩
      have hi8' : (Tryd.prog.info? 184).map (·.size) = some 8 := by kernel_rfl
      have HL8 := Lib.hid hl8
      have HI8 := Lib.hid hi8'
      clear P hl8 hi8'
      go_wp2_with (first
        | (refine wpList_load_row rfl 184 (.tmp 3) rfl (w.heap.size + 1 + 1) (by rfl) 184 (cells32 (fill32 S 8)) (0, 0) _ P8.out.2.2.1 Tryd.underlying184 rfl (by rw [HL8.out]; exact HI8.out) ?_)
        | (refine wpList_store_row rfl 184 (.tmp 2) (.tmp 19) rfl (w.heap.size + 1) (cells32 (fill32 S 8)) (by rfl) (by rfl) 184 (cells32 (List.replicate 8 0)) P8.out.2.1 (by rw [HL8.out]; exact HI8.out) (by rw [HL8.out]; simp [cells32]) (by simp [cells32, Value.oneCell']) ?_))
      refine bodyPost_ret (v := .agg (cells32 (fill32 S 8))) (results_cell_row (by rfl) _ _ (w.heap.size + 1) 184 (cells32 (fill32 S 8)) (0, 0) _ (by rfl) (setRow_heap _ _ _ _ _ _ P8.out.2.1) Tryd.underlying184 rfl (by rw [HL8.out]; exact HI8.out)) rfl ⟨rfl, ?_⟩
      exact below_setRow P8.out.2.2.2 (by omega) _
/-- The first n words of the eight at first. -/
def fill64 (S : List Int) : Nat → List Int
  | 0 => List.replicate 8 0
  | n + 1 => (fill64 S n).set n (S.getD n 0)
theorem fill64_length (S : List Int) : ∀ n, (fill64 S n).length = 8
  | 0 => rfl
  | n + 1 => by unfold fill64; rw [List.length_set]; exact fill64_length S n
def Beg64 (w : World) (h : List Int) (wr : World) : Prop :=
  wr.heap[w.heap.size]? = some (.cells wideV 180 (0, 0)) ∧ wr.heap[w.heap.size + 1]? = some (.cells (cells64 (List.replicate 8 0)) 185 (0, 0)) ∧
  wr.heap[w.heap.size + 1 + 1]? = some (.cells (cells64 h) 185 (0, 0)) ∧ Below w.heap.size w wr
theorem Beg64.drew {w wr : World} {h : List Int} (p : Beg64 w h wr) : Beg64 w h wr.drew := ⟨p.1, p.2.1, p.2.2.1, below_drew1 p.2.2.2⟩
theorem Beg64.put {w wr : World} {h : List Int} (p : Beg64 w h wr) (n : Nat) (x : Int) : Beg64 w (h.set n x) (wr.setCell ⟨w.heap.size + 1 + 1, n, none⟩ (.int .u64 x)) :=
  ⟨blk_far p.1 (by simp; omega) _, blk_far p.2.1 (by simp) _, blk_put p.2.2.1 _ _ (cells64_set _ _ _), below_set p.2.2.2 (by omega)⟩
set_option maxRecDepth 100000 in
set_option maxHeartbeats 1000000 in
theorem begin64_c (w : World) (S : List Int) (hS : ∀ i, i < 8 → w.cell? ⟨7, i, none⟩ = some (.int .u64 (S.getD i 0))) :
    Calls Tryd.prog 148 #[.agg wideV] w fun e w' => e = .returned (.agg (cells64 (fill64 S 8))) ∧ Below w.heap.size w w' := by
  have HS := Lib.hid hS
  clear hS
  unfold wideV
  go_enter Tryd.func148, Tryd.ntmps148
  go_wp2
  go_loopg [5] 8 (fun m t wr => ∃ n : Nat, n + m = 8 ∧ t = .int .i64 (n : Int) ∧ Aside0 (Beg64 w (fill64 S n) wr))
  case atStart => exact ⟨0, by omega, rfl, ⟨blk_alloc (blk_alloc (new1 _ _) _) _, blk_alloc (new2 _ _ _) _, new3 _ _ _ _, below_alloc (below_alloc (below_alloc (Below.refl _ _) _) _) _⟩⟩
  case round =>
    obtain ⟨n, hn', rfl, P⟩ := hrel
    have hn : n ≤ 8 := by omega
    have HN := Lib.hid hn'
    clear hn'
    by_cases hlt : n < 8
    · have hn0 : (0 : Int) ≤ (n : Int) := by omega
      have hn1 : (n : Int) < 8 := by omega
      have c1 : wr.cell? ⟨w.heap.size, 1, none⟩ = some (.int .i64 64) := (blk_cell P.out.1 1).trans rfl
      have c2 : wr.cell? ⟨w.heap.size + 1 + 1, n, none⟩ = some (.int .u64 ((fill64 S n).getD n 0)) := (blk_cell P.out.2.2.1 n).trans (cells64_get _ _ (by rw [fill64_length]; omega))
      have f2 : wr.frozen? ⟨w.heap.size + 1 + 1, n, none⟩ = false := blk_frozen P.out.2.2.1 _
      have c3 : wr.cell? ⟨7, n, none⟩ = some (.int .u64 (S.getD n 0)) := (P.out.2.2.2.cell (p := ⟨7, n, none⟩) (World.block_lt_of_cell? w _ (HS.out n hlt))).trans (HS.out n hlt)
      generalize hA : (fill64 S n).getD n 0 = A at c2
      clear hA
      generalize hB : S.getD n 0 = B at c3
      have HB := Lib.hid hB
      clear hB
      go_wp2
      go_region
      all_goals
        go_wp2
        go_roundg (gk - 1)
        case measure => have := HN.out; omega
        case rel =>
          refine ⟨n + 1, by have := HN.out; omega, by go_num, ⟨?_⟩⟩
          unfold fill64
          rw [HB.out]
          exact Beg64.put P.out.drew n _
    · have hn8 : n = 8 := by omega
      have hl8 : (cells64 (fill64 S 8)).size = 8 := by have := fill64_length S 8; simp [cells64]; omega
      have P8 : Aside0 (Beg64 w (fill64 S 8) wr) := ⟨by rw [← hn8]; exact P.out⟩
      have hi8' : (Tryd.prog.info? 185).map (·.size) = some 8 := by kernel_rfl
      have HL8 := Lib.hid hl8
      have HI8 := Lib.hid hi8'
      clear P hl8 hi8'
      go_wp2_with (first
        | (refine wpList_load_row rfl 185 (.tmp 3) rfl (w.heap.size + 1 + 1) (by rfl) 185 (cells64 (fill64 S 8)) (0, 0) _ P8.out.2.2.1 Tryd.underlying185 rfl (by rw [HL8.out]; exact HI8.out) ?_)
        | (refine wpList_store_row rfl 185 (.tmp 2) (.tmp 18) rfl (w.heap.size + 1) (cells64 (fill64 S 8)) (by rfl) (by rfl) 185 (cells64 (List.replicate 8 0)) P8.out.2.1 (by rw [HL8.out]; exact HI8.out) (by rw [HL8.out]; simp [cells64]) (by simp [cells64, Value.oneCell']) ?_))
      refine bodyPost_ret (v := .agg (cells64 (fill64 S 8))) (results_cell_row (by rfl) _ _ (w.heap.size + 1) 185 (cells64 (fill64 S 8)) (0, 0) _ (by rfl) (setRow_heap _ _ _ _ _ _ P8.out.2.1) Tryd.underlying185 rfl (by rw [HL8.out]; exact HI8.out)) rfl ⟨rfl, ?_⟩
      exact below_setRow P8.out.2.2.2 (by omega) _
end Go.Proofs.YtbenedckmapjoaaDoor.H
namespace Go.Proofs.YtbenedckmapjoaaDoor.H
open Go.RowKit Go.Proofs.YtbenedckmapjoaaDoorW.PrintWords
def shape0 : Array Value := #[.int .i64 0, .int .i64 0, .int .i64 0, .int .i64 0, .int .i64 0, .int .i64 0, .int .i64 0, .int .i64 0, .int .i64 0, .int .i64 0, .int .i64 0, .int .i64 0, .int .i64 0, .int .i64 0, .int .i64 0]
set_option maxRecDepth 100000 in
set_option maxHeartbeats 1000000 in
theorem narrow_c (w : World) : Calls Tryd.prog 145 #[] w fun e w' => e = .returned (.agg narrowV) ∧ Below w.heap.size w w' := by
  go_enter Tryd.func145, Tryd.ntmps145
  go_wp2_with (refine wpList_store_row rfl 180 (.tmp 0) (.tmp 5) rfl w.heap.size narrowV (by rfl) (by rfl) 180 shape0 (new1 _ _) (by kernel_rfl) (by rfl) (by rfl) ?_; rw [World.setRow_alloc_new])
  refine bodyPost_ret (v := .agg narrowV) (results_cell_row (by rfl) _ _ w.heap.size 180 narrowV (0, 0) _ (by rfl) (new1 _ _) Tryd.underlying180 rfl (by kernel_rfl)) rfl ⟨rfl, below_alloc (Below.refl _ _) _⟩
set_option maxRecDepth 100000 in
set_option maxHeartbeats 1000000 in
theorem wide_c (w : World) : Calls Tryd.prog 146 #[] w fun e w' => e = .returned (.agg wideV) ∧ Below w.heap.size w w' := by
  go_enter Tryd.func146, Tryd.ntmps146
  go_wp2_with (refine wpList_store_row rfl 180 (.tmp 0) (.tmp 5) rfl w.heap.size wideV (by rfl) (by rfl) 180 shape0 (new1 _ _) (by kernel_rfl) (by rfl) (by rfl) ?_; rw [World.setRow_alloc_new])
  refine bodyPost_ret (v := .agg wideV) (results_cell_row (by rfl) _ _ w.heap.size 180 wideV (0, 0) _ (by rfl) (new1 _ _) Tryd.underlying180 rfl (by kernel_rfl)) rfl ⟨rfl, below_alloc (Below.refl _ _) _⟩
theorem block32_c (w : World) : Calls Tryd.prog 149 #[.agg narrowV] w fun e w' => e = .returned (.int .i64 64) ∧ Below w.heap.size w w' := by
  unfold narrowV
  go_enter Tryd.func149, Tryd.ntmps149
  go_wp2
  go_ret
  exact ⟨rfl, below_alloc (Below.refl _ _) _⟩
theorem block64_c (w : World) : Calls Tryd.prog 149 #[.agg wideV] w fun e w' => e = .returned (.int .i64 128) ∧ Below w.heap.size w w' := by
  unfold wideV
  go_enter Tryd.func149, Tryd.ntmps149
  go_wp2
  go_ret
  exact ⟨rfl, below_alloc (Below.refl _ _) _⟩
theorem results_row_tmp {P : Program} {fn : Func} {p u : Tmp} {ty : TypeId} (h : fn.results = #[.cell p ty, .tmp u]) (tmps : Array Value) (w : World) (g : Nat) (t : TypeId) (cs : Array Value) (fr : Nat × Nat) (d : TypeDesc) (y : Value)
    (hp : tmps.getD p undef = .pointer (some ⟨g, 0, none⟩)) (hq : tmps.getD u undef = y) (hg : w.heap[g]? = some (.cells cs t fr))
    (hu : P.underlying ty = some d) (hd : (match d with | .struct _ | .array _ _ => true | _ => false) = true) (hi : (P.info? ty).map (·.size) = some cs.size) :
    (results fn tmps).run P w = .ok (.tuple #[.agg cs, y]) w := by
  rw [results_cell_tmp h, hp, hq]
  have hl := run_loadVar_row w g t ty cs fr d hg hu hd hi
  have ha : (asAddr (.pointer (some ⟨g, 0, none⟩))).run P w = .ok ⟨g, 0, none⟩ w := rfl
  rw [ha]
  simp only [Result.andThen, hl]
theorem narrowV_one : narrowV.all (·.oneCell') = true := by simp [narrowV, Value.oneCell']
theorem wideV_one : wideV.all (·.oneCell') = true := by simp [wideV, Value.oneCell']
theorem shape0_one : shape0.all (·.oneCell') = true := by simp [shape0, Value.oneCell']
set_option maxRecDepth 100000 in
set_option maxHeartbeats 1000000 in
theorem of256_c (w : World) : Calls Tryd.prog 127 #[.int .i64 256] w fun e w' => e = .returned (.tuple #[.agg narrowV, .bool true]) ∧ Below w.heap.size w w' := by
  go_enter Tryd.func127, Tryd.ntmps127
  go_wp2_with (first
    | (go_at_call 145; refine (narrow_c _).mono ?_; rintro e w1 ⟨rfl, hb⟩; have B0 : Aside0 (w1.heap[w.heap.size]? = some (.cells shape0 180 (0, 0))) := ⟨blk_below (new1 _ _) hb⟩; have HB := Aside0.mk (below_step (below_alloc (Below.refl _ _) _) hb); clear hb)
    | (refine wpList_store_row rfl 180 (.tmp 2) (.tmp 7) rfl w.heap.size narrowV (by rfl) (by rfl) 180 shape0 B0.out (by kernel_rfl) (by rfl) narrowV_one ?_))
  refine bodyPost_ret (v := .tuple #[.agg narrowV, .bool true]) (results_row_tmp (by rfl) _ _ w.heap.size 180 narrowV (0, 0) _ _ (by rfl) (by rfl) (setRow_heap _ _ _ _ _ _ B0.out) Tryd.underlying180 rfl (by kernel_rfl)) rfl ⟨rfl, below_setRow HB.out (Nat.le_refl _) _⟩
set_option maxRecDepth 100000 in
set_option maxHeartbeats 1000000 in
theorem of512_c (w : World) : Calls Tryd.prog 127 #[.int .i64 512] w fun e w' => e = .returned (.tuple #[.agg wideV, .bool true]) ∧ Below w.heap.size w w' := by
  go_enter Tryd.func127, Tryd.ntmps127
  go_wp2_with (first
    | (go_at_call 146; refine (wide_c _).mono ?_; rintro e w1 ⟨rfl, hb⟩; have B0 : Aside0 (w1.heap[w.heap.size]? = some (.cells shape0 180 (0, 0))) := ⟨blk_below (new1 _ _) hb⟩; have HB := Aside0.mk (below_step (below_alloc (Below.refl _ _) _) hb); clear hb)
    | (refine wpList_store_row rfl 180 (.tmp 2) (.tmp 10) rfl w.heap.size wideV (by rfl) (by rfl) 180 shape0 B0.out (by kernel_rfl) (by rfl) wideV_one ?_))
  refine bodyPost_ret (v := .tuple #[.agg wideV, .bool true]) (results_row_tmp (by rfl) _ _ w.heap.size 180 wideV (0, 0) _ _ (by rfl) (by rfl) (setRow_heap _ _ _ _ _ _ B0.out) Tryd.underlying180 rfl (by kernel_rfl)) rfl ⟨rfl, below_setRow HB.out (Nat.le_refl _) _⟩
set_option maxRecDepth 100000 in
set_option maxHeartbeats 1000000 in
theorem ofNo_c (n : Int) (w : World) (h1 : n ≠ 256) (h2 : n ≠ 512) : Calls Tryd.prog 127 #[.int .i64 n] w fun e w' => e = .returned (.tuple #[.agg shape0, .bool false]) ∧ Below w.heap.size w w' := by
  have b1 : (n == 256) = false := beq_eq_false_iff_ne.2 h1
  have b2 : (n == 512) = false := beq_eq_false_iff_ne.2 h2
  clear h1 h2
  go_enter Tryd.func127, Tryd.ntmps127
  go_wp2_with (refine wpList_store_row rfl 180 (.tmp 2) (.tmp 11) rfl w.heap.size shape0 (by rfl) (by rfl) 180 shape0 (new1 _ _) (by kernel_rfl) (by rfl) shape0_one ?_; rw [World.setRow_alloc_new])
  refine bodyPost_ret (v := .tuple #[.agg shape0, .bool false]) (results_row_tmp (by rfl) _ _ w.heap.size 180 shape0 (0, 0) _ _ (by rfl) (by rfl) (new1 _ _) Tryd.underlying180 rfl (by kernel_rfl)) rfl ⟨rfl, below_alloc (Below.refl _ _) _⟩
end Go.Proofs.YtbenedckmapjoaaDoor.H
namespace Go.Proofs.YtbenedckmapjoaaDoor.H
open Go.RowKit Go.Proofs.YtbenedckmapjoaaDoorW.PrintWords
/-- The first j bytes of a word, the greatest first. -/
def em32 (x : Int) : Nat → List Int
  | 0 => []
  | j + 1 => em32 x j ++ [IntKind.u8.wrap (x / 2 ^ (8 * (3 - j)))]
theorem em32_succ (x : Int) (j : Nat) : em32 x (j + 1) = em32 x j ++ [IntKind.u8.wrap (x / 2 ^ (8 * (3 - j)))] := rfl
def tell32 (h : List Int) : Nat → List Int
  | 0 => []
  | n + 1 => tell32 h n ++ em32 (h.getD n 0) 4
theorem em32_length (x : Int) : ∀ j, (em32 x j).length = j
  | 0 => rfl
  | j + 1 => by unfold em32; rw [List.length_append, em32_length x j]; rfl
theorem tell32_length (h : List Int) : ∀ n, (tell32 h n).length = 4 * n
  | 0 => rfl
  | n + 1 => by unfold tell32; rw [List.length_append, em32_length, tell32_length h n]; omega
theorem own_made_cap (W : World) (base : Nat) (e : TypeId) (n : Nat) (cs : Array Value) (hb : base ≤ W.heap.size) (hc : cs.size = n) (hm : n ≤ maxLen) : (W.alloc (.cells cs e)).ownsRow base e 1 (.slice (some ⟨W.heap.size, 0, none⟩) 0 n) 0 [] :=
  ⟨rfl, .inr ⟨W.heap.size, n, cs, rfl, hb, new1 _ _, Nat.zero_le _, hm, by omega, by simp⟩⟩
set_option maxRecDepth 100000 in
theorem index32 (h : List Int) (hl : h.length = 8) (n : Nat) (hn : n < 8) : ∀ w : World, (Instr.index 184 (.agg (cells32 h)) (.int .i64 (n : Int))).run Tryd.prog w = .ok (.int .u32 (h.getD n 0)) w := by
  obtain ⟨h0, h1, h2, h3, h4, h5, h6, h7, rfl⟩ := eight_of hl
  intro w
  match n, hn with
  | 0, _ => (show _ = _; kernel_rfl)
  | 1, _ => (show _ = _; kernel_rfl)
  | 2, _ => (show _ = _; kernel_rfl)
  | 3, _ => (show _ = _; kernel_rfl)
  | 4, _ => (show _ = _; kernel_rfl)
  | 5, _ => (show _ = _; kernel_rfl)
  | 6, _ => (show _ = _; kernel_rfl)
  | 7, _ => (show _ = _; kernel_rfl)
theorem info_u8 : (Tryd.prog.info? 5).map (fun i => (i.zero, i.size, i.bytes)) = some (some (.int .u8 0), 1, 1) := by kernel_rfl
set_option maxRecDepth 100000 in
set_option maxHeartbeats 2000000 in
theorem tell32_c (h : List Int) (hl : h.length = 8) (w : World) : Calls Tryd.prog 132 #[.agg narrowV, .agg (cells32 h)] w fun e w' => ∃ v, e = .returned v ∧ w'.ownsRow w.heap.size 5 1 v (tell32 h 8).length (nums .u8 (tell32 h 8)) ∧ Below w.heap.size w w' := by
  have hmk : ∀ W : World, (Instr.makeSlice 30 (.int .i64 0) (.int .i64 32)).run Tryd.prog W = .ok (.slice (some ⟨W.heap.size, 0, none⟩) 0 32) (W.alloc (.cells (Array.replicate 32 (.int .u8 0)) 5)) := fun _ => by kernel_rfl
  have hs8 : (cells32 h).size = 8 := by simpa [cells32] using hl
  have H8 := Lib.hid hs8
  have hi8 : (Tryd.prog.info? 184).map (·.size) = some (cells32 h).size := by rw [hs8]; kernel_rfl
  have HI := Lib.hid hi8
  have HL := Lib.hid hl
  clear hs8 hi8 hl
  unfold narrowV
  go_enter Tryd.func132, Tryd.ntmps132
  go_wp2_with (refine wpList_load_row rfl 184 (.tmp 3) rfl (w.heap.size + 1) (by rfl) 184 (cells32 h) (0, 0) _ (blk_alloc (new2 _ _ _) _) Tryd.underlying184 rfl HI.out ?_)
  have O0 : Aside0 (World.ownsRow (((w.alloc (.cells narrowV 180)).alloc (.cells (cells32 h) 184)).alloc (.cells (Array.replicate 32 (.int .u8 0)) 5)) w.heap.size 5 1 (.slice (some ⟨w.heap.size + 1 + 1, 0, none⟩) 0 32) (tell32 h 0).length (nums .u8 (tell32 h 0))) := ⟨by
    have := own_made_cap ((w.alloc (.cells narrowV 180)).alloc (.cells (cells32 h) 184)) w.heap.size 5 32 (Array.replicate 32 (.int .u8 0)) (by simp; omega) (by simp) (by decide)
    simpa [tell32, nums] using this⟩
  have BA : Aside0 (Below w.heap.size w (((w.alloc (.cells narrowV 180)).alloc (.cells (cells32 h) 184)).alloc (.cells (Array.replicate 32 (.int .u8 0)) 5))) := ⟨below_alloc (below_alloc (below_alloc (Below.refl _ _) _) _) _⟩
  have S0 : Aside0 ((((w.alloc (.cells narrowV 180)).alloc (.cells (cells32 h) 184)).alloc (.cells (Array.replicate 32 (.int .u8 0)) 5)).heap[w.heap.size]? = some (.cells narrowV 180 (0, 0))) := ⟨blk_alloc (blk_alloc (new1 _ _) _) _⟩
  go_loopg [5, 14] 8 (fun m v t wr => ∃ n : Nat, n + m = 8 ∧ t = .int .i64 (n : Int) ∧ Aside0 (wr.ownsRow w.heap.size 5 1 v (tell32 h n).length (nums .u8 (tell32 h n))) ∧ Aside0 (v.ownBlock ≠ some w.heap.size) ∧ Aside0 (wr.heap[w.heap.size]? = some (.cells narrowV 180 (0, 0))) ∧ Aside0 (Below w.heap.size w wr))
  case atStart => exact ⟨0, by omega, rfl, O0, ⟨by simp [Value.ownBlock]; omega⟩, S0, BA⟩
  case round =>
    clear O0 BA S0
    obtain ⟨n, hn', rfl, HO, HNE, BS, HB⟩ := hrel
    have hn : n ≤ 8 := by omega
    have HN := Lib.hid hn'
    clear hn'
    by_cases hlt : n < 8
    · have hn0 : (0 : Int) ≤ (n : Int) := by omega
      have hn1 : (n : Int) < 8 := by omega
      have c0 : wr.cell? ⟨w.heap.size, 0, none⟩ = some (.int .i64 4) := (blk_cell BS.out 0).trans rfl
      have hix := index32 h HL.out n hlt
      generalize hX : h.getD n 0 = X at hix
      have HX := Lib.hid hX
      clear hX
      go_wp2
      have HO2 : Aside0 (wr.ownsRow w.heap.size 5 1 u5 (tell32 h n ++ em32 X 0).length (nums .u8 (tell32 h n ++ em32 X 0))) := ⟨by rw [show em32 X 0 = [] from rfl, List.append_nil]; exact HO.out⟩
      clear HO c0 hix
      obtain ⟨wo, rfl⟩ : ∃ wo : World, wo = wr := ⟨_, rfl⟩
      go_loopg [5, 8] 4 (fun m v t wr => ∃ j : Nat, j + m = 4 ∧ t = .int .i64 ((m : Int) - 1) ∧ Aside0 (wr.ownsRow w.heap.size 5 1 v (tell32 h n ++ em32 X j).length (nums .u8 (tell32 h n ++ em32 X j))) ∧ Aside0 (v.ownBlock ≠ some w.heap.size) ∧ Aside0 (wr.heap[w.heap.size]? = some (.cells narrowV 180 (0, 0))) ∧ Aside0 (Below w.heap.size w wr))
      case atStart => exact ⟨0, by omega, rfl, HO2, HNE, BS, HB⟩
      case round =>
        clear HO2 HNE BS HB
        obtain ⟨j, hj', rfl, HO, HNE, BS, HB⟩ := hrel
        cases gk with
        | zero =>
          obtain rfl : j = 4 := by omega
          rw [show (((0 : Nat) : Int) - 1) = (-1 : Int) from rfl]
          go_wp2
          have hN := HN.out
          go_roundg (7 - n)
          case measure => omega
          case rel =>
            refine ⟨n + 1, by omega, by go_num, ?_, HNE, BS, HB⟩
            unfold tell32
            rw [HX.out]
            exact HO
        | succ k =>
          have hk : k ≤ 3 := by omega
          have hjk : j = 3 - k := by omega
          have HJ := Lib.hid hjk
          have hxl : (tell32 h n ++ em32 X j).length ≤ 36 := by rw [List.length_append, tell32_length, em32_length]; omega
          have hsz : w.heap.size ≤ wr.heap.size := HB.out.size
          clear hj' hjk
          rw [show (((k + 1 : Nat) : Int) - 1) = (k : Int) by omega]
          go_wp2_with (at_builtin; refine print_append_num (w0 := w) w.heap.size rfl (.tmp 24) (.tmp 30) 30 5 .u8 1 rfl Tryd.underlying30 info_u8 (by decide) _ (tell32 h n ++ em32 X j) _ (by rfl) (by rfl) HO.out HB.out hsz (by omega) ?_; intro v1 w1 hown hB hg hat)
          have hy := hown
          clear hown
          go_roundg k
          case measure => omega
          case rel =>
            refine ⟨j + 1, by have := HJ.out; omega, by go_num, ⟨?_⟩, ⟨?_⟩, ⟨blk_grown BS.out hg (fun e => HNE.out e.symm)⟩, ⟨hB⟩⟩
            · rw [em32_succ, ← List.append_assoc, show 3 - j = k by have := HJ.out; omega]
              exact hy
            · rcases hat with hat | ⟨b, hat, hb⟩
              · rw [hat]; exact HNE.out
              · rw [hat]; have := blk_lt BS.out; intro e; injection e with e; omega
    · obtain rfl : n = 8 := by omega
      go_wp2
      go_ret
      exact ⟨_, rfl, HO.out, HB.out⟩
end Go.Proofs.YtbenedckmapjoaaDoor.H
namespace Go.Proofs.YtbenedckmapjoaaDoor.H
open Go.RowKit Go.Proofs.YtbenedckmapjoaaDoorW.PrintWords
/-- The first j bytes of a word, the greatest first. -/
def em64 (x : Int) : Nat → List Int
  | 0 => []
  | j + 1 => em64 x j ++ [IntKind.u8.wrap (x / 2 ^ (8 * (7 - j)))]
theorem em64_succ (x : Int) (j : Nat) : em64 x (j + 1) = em64 x j ++ [IntKind.u8.wrap (x / 2 ^ (8 * (7 - j)))] := rfl
def tell64 (h : List Int) : Nat → List Int
  | 0 => []
  | n + 1 => tell64 h n ++ em64 (h.getD n 0) 8
theorem em64_length (x : Int) : ∀ j, (em64 x j).length = j
  | 0 => rfl
  | j + 1 => by unfold em64; rw [List.length_append, em64_length x j]; rfl
theorem tell64_length (h : List Int) : ∀ n, (tell64 h n).length = 8 * n
  | 0 => rfl
  | n + 1 => by unfold tell64; rw [List.length_append, em64_length, tell64_length h n]; omega
set_option maxRecDepth 100000 in
theorem index64 (h : List Int) (hl : h.length = 8) (n : Nat) (hn : n < 8) : ∀ w : World, (Instr.index 185 (.agg (cells64 h)) (.int .i64 (n : Int))).run Tryd.prog w = .ok (.int .u64 (h.getD n 0)) w := by
  obtain ⟨h0, h1, h2, h3, h4, h5, h6, h7, rfl⟩ := eight_of hl
  intro w
  match n, hn with
  | 0, _ => (show _ = _; kernel_rfl)
  | 1, _ => (show _ = _; kernel_rfl)
  | 2, _ => (show _ = _; kernel_rfl)
  | 3, _ => (show _ = _; kernel_rfl)
  | 4, _ => (show _ = _; kernel_rfl)
  | 5, _ => (show _ = _; kernel_rfl)
  | 6, _ => (show _ = _; kernel_rfl)
  | 7, _ => (show _ = _; kernel_rfl)
set_option maxRecDepth 100000 in
set_option maxHeartbeats 2000000 in
theorem tell64_c (h : List Int) (hl : h.length = 8) (w : World) : Calls Tryd.prog 133 #[.agg wideV, .agg (cells64 h)] w fun e w' => ∃ v, e = .returned v ∧ w'.ownsRow w.heap.size 5 1 v (tell64 h 8).length (nums .u8 (tell64 h 8)) ∧ Below w.heap.size w w' := by
  have hmk : ∀ W : World, (Instr.makeSlice 30 (.int .i64 0) (.int .i64 64)).run Tryd.prog W = .ok (.slice (some ⟨W.heap.size, 0, none⟩) 0 64) (W.alloc (.cells (Array.replicate 64 (.int .u8 0)) 5)) := fun _ => by kernel_rfl
  have hs8 : (cells64 h).size = 8 := by simpa [cells64] using hl
  have H8 := Lib.hid hs8
  have hi8 : (Tryd.prog.info? 185).map (·.size) = some (cells64 h).size := by rw [hs8]; kernel_rfl
  have HI := Lib.hid hi8
  have HL := Lib.hid hl
  clear hs8 hi8 hl
  unfold wideV
  go_enter Tryd.func133, Tryd.ntmps133
  go_wp2_with (refine wpList_load_row rfl 185 (.tmp 3) rfl (w.heap.size + 1) (by rfl) 185 (cells64 h) (0, 0) _ (blk_alloc (new2 _ _ _) _) Tryd.underlying185 rfl HI.out ?_)
  have O0 : Aside0 (World.ownsRow (((w.alloc (.cells wideV 180)).alloc (.cells (cells64 h) 185)).alloc (.cells (Array.replicate 64 (.int .u8 0)) 5)) w.heap.size 5 1 (.slice (some ⟨w.heap.size + 1 + 1, 0, none⟩) 0 64) (tell64 h 0).length (nums .u8 (tell64 h 0))) := ⟨by
    have := own_made_cap ((w.alloc (.cells wideV 180)).alloc (.cells (cells64 h) 185)) w.heap.size 5 64 (Array.replicate 64 (.int .u8 0)) (by simp; omega) (by simp) (by decide)
    simpa [tell64, nums] using this⟩
  have BA : Aside0 (Below w.heap.size w (((w.alloc (.cells wideV 180)).alloc (.cells (cells64 h) 185)).alloc (.cells (Array.replicate 64 (.int .u8 0)) 5))) := ⟨below_alloc (below_alloc (below_alloc (Below.refl _ _) _) _) _⟩
  have S0 : Aside0 ((((w.alloc (.cells wideV 180)).alloc (.cells (cells64 h) 185)).alloc (.cells (Array.replicate 64 (.int .u8 0)) 5)).heap[w.heap.size]? = some (.cells wideV 180 (0, 0))) := ⟨blk_alloc (blk_alloc (new1 _ _) _) _⟩
  go_loopg [5, 14] 8 (fun m v t wr => ∃ n : Nat, n + m = 8 ∧ t = .int .i64 (n : Int) ∧ Aside0 (wr.ownsRow w.heap.size 5 1 v (tell64 h n).length (nums .u8 (tell64 h n))) ∧ Aside0 (v.ownBlock ≠ some w.heap.size) ∧ Aside0 (wr.heap[w.heap.size]? = some (.cells wideV 180 (0, 0))) ∧ Aside0 (Below w.heap.size w wr))
  case atStart => exact ⟨0, by omega, rfl, O0, ⟨by simp [Value.ownBlock]; omega⟩, S0, BA⟩
  case round =>
    clear O0 BA S0
    obtain ⟨n, hn', rfl, HO, HNE, BS, HB⟩ := hrel
    have hn : n ≤ 8 := by omega
    have HN := Lib.hid hn'
    clear hn'
    by_cases hlt : n < 8
    · have hn0 : (0 : Int) ≤ (n : Int) := by omega
      have hn1 : (n : Int) < 8 := by omega
      have c0 : wr.cell? ⟨w.heap.size, 0, none⟩ = some (.int .i64 8) := (blk_cell BS.out 0).trans rfl
      have hix := index64 h HL.out n hlt
      generalize hX : h.getD n 0 = X at hix
      have HX := Lib.hid hX
      clear hX
      go_wp2
      have HO2 : Aside0 (wr.ownsRow w.heap.size 5 1 u5 (tell64 h n ++ em64 X 0).length (nums .u8 (tell64 h n ++ em64 X 0))) := ⟨by rw [show em64 X 0 = [] from rfl, List.append_nil]; exact HO.out⟩
      clear HO c0 hix
      obtain ⟨wo, rfl⟩ : ∃ wo : World, wo = wr := ⟨_, rfl⟩
      go_loopg [5, 8] 8 (fun m v t wr => ∃ j : Nat, j + m = 8 ∧ t = .int .i64 ((m : Int) - 1) ∧ Aside0 (wr.ownsRow w.heap.size 5 1 v (tell64 h n ++ em64 X j).length (nums .u8 (tell64 h n ++ em64 X j))) ∧ Aside0 (v.ownBlock ≠ some w.heap.size) ∧ Aside0 (wr.heap[w.heap.size]? = some (.cells wideV 180 (0, 0))) ∧ Aside0 (Below w.heap.size w wr))
      case atStart => exact ⟨0, by omega, rfl, HO2, HNE, BS, HB⟩
      case round =>
        clear HO2 HNE BS HB
        obtain ⟨j, hj', rfl, HO, HNE, BS, HB⟩ := hrel
        cases gk with
        | zero =>
          obtain rfl : j = 8 := by omega
          rw [show (((0 : Nat) : Int) - 1) = (-1 : Int) from rfl]
          go_wp2
          have hN := HN.out
          go_roundg (7 - n)
          case measure => omega
          case rel =>
            refine ⟨n + 1, by omega, by go_num, ?_, HNE, BS, HB⟩
            unfold tell64
            rw [HX.out]
            exact HO
        | succ k =>
          have hk : k ≤ 7 := by omega
          have hjk : j = 7 - k := by omega
          have HJ := Lib.hid hjk
          have hxl : (tell64 h n ++ em64 X j).length ≤ 72 := by rw [List.length_append, tell64_length, em64_length]; omega
          have hsz : w.heap.size ≤ wr.heap.size := HB.out.size
          clear hj' hjk
          rw [show (((k + 1 : Nat) : Int) - 1) = (k : Int) by omega]
          go_wp2_with (at_builtin; refine print_append_num (w0 := w) w.heap.size rfl (.tmp 24) (.tmp 30) 30 5 .u8 1 rfl Tryd.underlying30 info_u8 (by decide) _ (tell64 h n ++ em64 X j) _ (by rfl) (by rfl) HO.out HB.out hsz (by omega) ?_; intro v1 w1 hown hB hg hat)
          have hy := hown
          clear hown
          go_roundg k
          case measure => omega
          case rel =>
            refine ⟨j + 1, by have := HJ.out; omega, by go_num, ⟨?_⟩, ⟨?_⟩, ⟨blk_grown BS.out hg (fun e => HNE.out e.symm)⟩, ⟨hB⟩⟩
            · rw [em64_succ, ← List.append_assoc, show 7 - j = k by have := HJ.out; omega]
              exact hy
            · rcases hat with hat | ⟨b, hat, hb⟩
              · rw [hat]; exact HNE.out
              · rw [hat]; have := blk_lt BS.out; intro e; injection e with e; omega
    · obtain rfl : n = 8 := by omega
      go_wp2
      go_ret
      exact ⟨_, rfl, HO.out, HB.out⟩
end Go.Proofs.YtbenedckmapjoaaDoor.H
