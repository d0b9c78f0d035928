/- The narrow digest: part 2. -/
import Derived.Test.YtdpdmmbdoeefbaaDoorQ1
namespace Go.Proofs.YtdpdmmbdoeefbaaDoor.H
open Go.RowKit YtdpdmmbdoeefbaaDoorW.PrintWords
set_option maxRecDepth 100000 in
set_option maxHeartbeats 2000000 in
theorem tell32_c (h : List Int) (hl : h.length = 8) (w : World) : Calls Tryd.prog 89 #[.agg narrowV, .agg (cells32 h)] w fun e w' => ∃ v, e = .returned v ∧ w'.ownsRow w.heap.size 5 1 v (tell32 h 8).length (nums .u8 (tell32 h 8)) ∧ Below w.heap.size w w' := by
  have hmk : ∀ W : World, (Instr.makeSlice 22 (.int .i64 0) (.int .i64 32)).run Tryd.prog W = .ok (.slice (some ⟨W.heap.size, 0, none⟩) 0 32) (W.alloc (.cells (Array.replicate 32 (.int .u8 0)) 5)) := fun _ => by kernel_rfl
  have hs8 : (cells32 h).size = 8 := by simpa [cells32] using hl
  have H8 := Lib.hid hs8
  have hi8 : (Tryd.prog.info? 106).map (·.size) = some (cells32 h).size := by rw [hs8]; kernel_rfl
  have HI := Lib.hid hi8
  have HL := Lib.hid hl
  clear hs8 hi8 hl
  unfold narrowV
  go_enter Tryd.func89, Tryd.ntmps89
  go_wp2_with (refine wpList_load_row rfl 106 (.tmp 3) rfl (w.heap.size + 1) (by rfl) 106 (cells32 h) (0, 0) _ (blk_alloc (new2 _ _ _) _) Tryd.underlying106 rfl HI.out ?_)
  have O0 : Aside0 (World.ownsRow (((w.alloc (.cells narrowV 102)).alloc (.cells (cells32 h) 106)).alloc (.cells (Array.replicate 32 (.int .u8 0)) 5)) w.heap.size 5 1 (.slice (some ⟨w.heap.size + 1 + 1, 0, none⟩) 0 32) (tell32 h 0).length (nums .u8 (tell32 h 0))) := ⟨by
    have := own_made_cap ((w.alloc (.cells narrowV 102)).alloc (.cells (cells32 h) 106)) w.heap.size 5 32 (Array.replicate 32 (.int .u8 0)) (by simp; omega) (by simp) (by decide)
    simpa [tell32, nums] using this⟩
  have BA : Aside0 (Below w.heap.size w (((w.alloc (.cells narrowV 102)).alloc (.cells (cells32 h) 106)).alloc (.cells (Array.replicate 32 (.int .u8 0)) 5))) := ⟨below_alloc (below_alloc (below_alloc (Below.refl _ _) _) _) _⟩
  have S0 : Aside0 ((((w.alloc (.cells narrowV 102)).alloc (.cells (cells32 h) 106)).alloc (.cells (Array.replicate 32 (.int .u8 0)) 5)).heap[w.heap.size]? = some (.cells narrowV 102 (0, 0))) := ⟨blk_alloc (blk_alloc (new1 _ _) _) _⟩
  go_loopg [5, 14] 8 (fun m v t wr => ∃ n : Nat, n + m = 8 ∧ t = .int .i64 (n : Int) ∧ Aside0 (wr.ownsRow w.heap.size 5 1 v (tell32 h n).length (nums .u8 (tell32 h n))) ∧ Aside0 (v.ownBlock ≠ some w.heap.size) ∧ Aside0 (wr.heap[w.heap.size]? = some (.cells narrowV 102 (0, 0))) ∧ Aside0 (Below w.heap.size w wr))
  case atStart => exact ⟨0, by omega, rfl, O0, ⟨by simp [Value.ownBlock]; omega⟩, S0, BA⟩
  case round =>
    clear O0 BA S0
    obtain ⟨n, hn', rfl, HO, HNE, BS, HB⟩ := hrel
    have hn : n ≤ 8 := by omega
    have HN := Lib.hid hn'
    clear hn'
    by_cases hlt : n < 8
    rotate_left
    · obtain rfl : n = 8 := by omega
      go_wp2
      go_ret
      exact ⟨_, rfl, HO.out, HB.out⟩
    have hn0 : (0 : Int) ≤ (n : Int) := by omega
    have hn1 : (n : Int) < 8 := by omega
    have c0 : wr.cell? ⟨w.heap.size, 0, none⟩ = some (.int .i64 4) := (blk_cell BS.out 0).trans rfl
    have hix := index32 h HL.out n hlt
    generalize hX : h.getD n 0 = X at hix
    have HX := Lib.hid hX
    clear hX
    go_wp2
    have HO2 : Aside0 (wr.ownsRow w.heap.size 5 1 u5 (tell32 h n ++ em32 X 0).length (nums .u8 (tell32 h n ++ em32 X 0))) := ⟨by rw [show em32 X 0 = [] from rfl, List.append_nil]; exact HO.out⟩
    clear HO c0 hix
    obtain ⟨wo, rfl⟩ : ∃ wo : World, wo = wr := ⟨_, rfl⟩
    go_loopg [5, 8] 4 (fun m v t wr => ∃ j : Nat, j + m = 4 ∧ t = .int .i64 ((m : Int) - 1) ∧ Aside0 (wr.ownsRow w.heap.size 5 1 v (tell32 h n ++ em32 X j).length (nums .u8 (tell32 h n ++ em32 X j))) ∧ Aside0 (v.ownBlock ≠ some w.heap.size) ∧ Aside0 (wr.heap[w.heap.size]? = some (.cells narrowV 102 (0, 0))) ∧ Aside0 (Below w.heap.size w wr))
    case atStart => exact ⟨0, by omega, rfl, HO2, HNE, BS, HB⟩
    case round =>
      clear HO2 HNE BS HB
      obtain ⟨j, hj', rfl, HO, HNE, BS, HB⟩ := hrel
      cases gk with
      | zero =>
        obtain rfl : j = 4 := by omega
        rw [show (((0 : Nat) : Int) - 1) = (-1 : Int) from rfl]
        go_wp2
        have hN := HN.out
        go_roundg (7 - n)
        case measure => omega
        case rel =>
          refine ⟨n + 1, by omega, by go_num, ?_, HNE, BS, HB⟩
          unfold tell32
          rw [HX.out]
          exact HO
      | succ k =>
        have hk : k ≤ 3 := by omega
        have hjk : j = 3 - k := by omega
        have HJ := Lib.hid hjk
        have hxl : (tell32 h n ++ em32 X j).length ≤ 36 := by rw [List.length_append, tell32_length, em32_length]; omega
        have hsz : w.heap.size ≤ wr.heap.size := HB.out.size
        clear hj' hjk
        rw [show (((k + 1 : Nat) : Int) - 1) = (k : Int) by omega]
        go_wp2_with (at_builtin; refine print_append_num (w0 := w) w.heap.size rfl (.tmp 24) (.tmp 30) 22 5 .u8 1 rfl Tryd.underlying22 info_u8 (by decide) _ (tell32 h n ++ em32 X j) _ (by rfl) (by rfl) HO.out HB.out hsz (by omega) ?_; intro v1 w1 hown hB hg hat)
        have hy := hown
        clear hown
        go_roundg k
        case measure => omega
        case rel =>
          refine ⟨j + 1, by have := HJ.out; omega, by go_num, ⟨?_⟩, ⟨?_⟩, ⟨blk_grown BS.out hg (fun e => HNE.out e.symm)⟩, ⟨hB⟩⟩
          · rw [em32_succ, ← List.append_assoc, show 3 - j = k by have := HJ.out; omega]
            exact hy
          rcases hat with hat | ⟨b, hat, hb⟩
          · rw [hat]; exact HNE.out
          rw [hat]; have := blk_lt BS.out; intro e; injection e with e; omega
/-- A padding of len bytes for a text of n, i bytes of its length told. -/
def padS (n : Int) (len : Nat) : Nat → List Int
  | 0 => (List.replicate len 0).set 0 128
  | i + 1 => (padS n len i).set (len - 1 - i) (8 * n / 2 ^ (8 * i) % 256)
theorem padS_succ (n : Int) (len i : Nat) : padS n len (i + 1) = (padS n len i).set (len - 1 - i) (8 * n / 2 ^ (8 * i) % 256) := rfl
theorem padS_length (n : Int) (len : Nat) : ∀ i, (padS n len i).length = len
  | 0 => by simp [padS]
  | i + 1 => by unfold padS; rw [List.length_set]; exact padS_length n len i
def bytes8 (l : List Int) : Array Value := (l.map (Value.int .u8)).toArray
theorem bytes8_get (l : List Int) (i : Nat) (h : i < l.length) : (bytes8 l)[i]? = some (.int .u8 (l.getD i 0)) := by simp [bytes8, h]
theorem bytes8_set (l : List Int) (i : Nat) (v : Int) : (bytes8 l).setIfInBounds i (.int .u8 v) = bytes8 (l.set i v) := by simp [bytes8, List.map_set]
theorem own_bytes8 {w : World} {base g : Nat} {l : List Int} (h : w.heap[g]? = some (.cells (bytes8 l) 5 (0, 0))) (hb : base ≤ g) (hm : l.length ≤ maxLen) : w.ownsRow base 5 1 (.slice (some ⟨g, 0, none⟩) l.length l.length) l.length (nums .u8 l) :=
  ⟨by rw [nums_length, Nat.mul_one], .inr ⟨g, l.length, bytes8 l, rfl, hb, h, Nat.le_refl _, hm, by simp [bytes8], by rw [Nat.mul_one, List.take_of_length_le (by simp [bytes8])]; simp [bytes8, nums]⟩⟩
theorem bytes8_made (n : Nat) : madeCells #[.int .u8 0] n = bytes8 (List.replicate n 0) := by
  apply Array.toList_inj.1
  rw [toList_madeCells_one]
  simp [bytes8]
def padLen32 (n : Int) : Nat := (9 + (64 - (n + 9) % 64) % 64).toNat
theorem narrow_cells {w : World} {g : Nat} (h : w.heap[g]? = some (.cells narrowV 102 (0, 0))) :
    w.cell? ⟨g, 0, none⟩ = some (.int .i64 4) ∧ w.cell? ⟨g, 1, none⟩ = some (.int .i64 32) ∧ w.cell? ⟨g, 2, none⟩ = some (.int .i64 64) ∧ w.cell? ⟨g, 3, none⟩ = some (.int .i64 7) ∧ w.cell? ⟨g, 4, none⟩ = some (.int .i64 18) ∧ w.cell? ⟨g, 5, none⟩ = some (.int .i64 3) ∧ w.cell? ⟨g, 6, none⟩ = some (.int .i64 17) ∧ w.cell? ⟨g, 7, none⟩ = some (.int .i64 19) ∧ w.cell? ⟨g, 8, none⟩ = some (.int .i64 10) ∧ w.cell? ⟨g, 9, none⟩ = some (.int .i64 2) ∧ w.cell? ⟨g, 10, none⟩ = some (.int .i64 13) ∧ w.cell? ⟨g, 11, none⟩ = some (.int .i64 22) ∧ w.cell? ⟨g, 12, none⟩ = some (.int .i64 6) ∧ w.cell? ⟨g, 13, none⟩ = some (.int .i64 11) ∧ w.cell? ⟨g, 14, none⟩ = some (.int .i64 25) :=
  ⟨(blk_cell h 0).trans rfl, (blk_cell h 1).trans rfl, (blk_cell h 2).trans rfl, (blk_cell h 3).trans rfl, (blk_cell h 4).trans rfl, (blk_cell h 5).trans rfl, (blk_cell h 6).trans rfl, (blk_cell h 7).trans rfl, (blk_cell h 8).trans rfl, (blk_cell h 9).trans rfl, (blk_cell h 10).trans rfl, (blk_cell h 11).trans rfl, (blk_cell h 12).trans rfl, (blk_cell h 13).trans rfl, (blk_cell h 14).trans rfl⟩
def PadP (w : World) (g : Nat) (wr : World) : Prop := wr.heap[g]? = some (.cells narrowV 102 (0, 0)) ∧ Below w.heap.size w wr
theorem PadP.drew {w wr : World} {g : Nat} (h : PadP w g wr) : PadP w g wr.drew := ⟨h.1, below_drew1 h.2⟩
theorem PadP.below {w w1 w2 : World} {g : Nat} (hb : Below w1.heap.size w1 w2) (h : PadP w g w1) : PadP w g w2 := ⟨blk_below h.1 hb, below_step h.2 hb⟩
theorem PadP.alloc {w wr : World} {g : Nat} (h : PadP w g wr) (o : Obj) : PadP w g (wr.alloc o) := ⟨blk_alloc h.1 o, below_alloc h.2 o⟩
theorem PadP.cells {w wr : World} {g : Nat} (h : PadP w g wr) : PadP w g wr ∧ wr.cell? ⟨g, 0, none⟩ = some (.int .i64 4) ∧ wr.cell? ⟨g, 1, none⟩ = some (.int .i64 32) ∧ wr.cell? ⟨g, 2, none⟩ = some (.int .i64 64) ∧ wr.cell? ⟨g, 3, none⟩ = some (.int .i64 7) ∧ wr.cell? ⟨g, 4, none⟩ = some (.int .i64 18) ∧ wr.cell? ⟨g, 5, none⟩ = some (.int .i64 3) ∧ wr.cell? ⟨g, 6, none⟩ = some (.int .i64 17) ∧ wr.cell? ⟨g, 7, none⟩ = some (.int .i64 19) ∧ wr.cell? ⟨g, 8, none⟩ = some (.int .i64 10) ∧ wr.cell? ⟨g, 9, none⟩ = some (.int .i64 2) ∧ wr.cell? ⟨g, 10, none⟩ = some (.int .i64 13) ∧ wr.cell? ⟨g, 11, none⟩ = some (.int .i64 22) ∧ wr.cell? ⟨g, 12, none⟩ = some (.int .i64 6) ∧ wr.cell? ⟨g, 13, none⟩ = some (.int .i64 11) ∧ wr.cell? ⟨g, 14, none⟩ = some (.int .i64 25) := ⟨h, narrow_cells h.1⟩
set_option maxRecDepth 100000 in
set_option maxHeartbeats 2000000 in
theorem Pad256_c (n : Int) (h0 : 0 ≤ n) (h1 : n ≤ 1048576) (w : World) : Calls Tryd.prog 88 #[.int .i64 n, .int .i64 256] w fun e w' => ∃ v, e = .returned (.tuple #[v, .int .i64 0]) ∧ w'.ownsRow w.heap.size 5 1 v (padS n (padLen32 n) 8).length (nums .u8 (padS n (padLen32 n) 8)) ∧ Below w.heap.size w w' := by
  have d0 : decide (n < 0) = false := decide_eq_false (by omega)
  have d1 : decide (1048576 < n) = false := decide_eq_false (by omega)
  go_enter Tryd.func88, Tryd.ntmps88
  go_upto_region 6 with (first
    | (go_at_call 84; refine (of256_c _).mono ?_; rintro e w1 ⟨rfl, hb⟩; have HB := Aside0.mk hb; clear hb)
    | (refine wpList_store_row rfl 102 (.tmp 6) (.tmp 16) rfl w1.heap.size narrowV (by rfl) (by rfl) 102 shape0 (new1 _ _) (by kernel_rfl) (by rfl) narrowV_one ?_; rw [World.setRow_alloc_new]))
  have B0 : Aside0 ((w1.alloc (.cells narrowV 102)).heap[w1.heap.size]? = some (.cells narrowV 102 (0, 0))) := ⟨new1 _ _⟩
  have HB2 := Aside0.mk (below_alloc HB.out (.cells narrowV 102))
  have hs := HB.out.size
  clear HB
  generalize w1.heap.size = g at B0 hs ⊢
  generalize w1.alloc (.cells narrowV 102) = w2 at B0 HB2 ⊢
  have c0 : w2.cell? ⟨g, 0, none⟩ = some (.int .i64 4) := (blk_cell B0.out 0).trans rfl
  go_upto_region 7 with fail
  clear c0
  go_wp2_with (first
    | (refine wpList_load_row rfl 102 (.tmp 6) rfl g (by rfl) 102 narrowV (0, 0) _ B0.out Tryd.underlying102 rfl (by kernel_rfl) ?_)
    | (go_at_call 103; refine (block32_c _).mono ?_; rintro e w3 ⟨rfl, hb⟩; have B3 := Aside0.mk (blk_below B0.out hb); have HB3 := Aside0.mk (below_step HB2.out hb); clear hb B0 HB2))
  have P3 : Aside0 (PadP w g w3) := ⟨⟨B3.out, HB3.out⟩⟩
  clear B3 HB3
  have hr0 : 0 ≤ (n + 9) % 64 := by omega
  have hr1 : (n + 9) % 64 < 64 := by omega
  obtain ⟨L, hL⟩ : ∃ L : Nat, L = padLen32 n := ⟨_, rfl⟩
  have hL1 : (L : Int) = 9 + (64 - (n + 9) % 64) % 64 := by rw [hL]; unfold padLen32; omega
  have HL := Lib.hid hL
  generalize hr : (n + 9) % 64 = r at hr0 hr1 hL1 ⊢
  have hm : ∀ m1, m1 = 64 - r → m1.tmod 64 = m1 % 64 := fun m1 h => Int.tmod_eq_emod_of_nonneg (by omega)
  obtain ⟨m1, hm1⟩ : ∃ m1, m1 = 64 - r := ⟨_, rfl⟩
  obtain ⟨q, hq⟩ : ∃ q, q = m1 % 64 := ⟨_, rfl⟩
  have s1 : IntKind.i64.wrap (64 - r) = m1 := by rw [IntWalk.i64_in _ (by omega)]; omega
  have s2 : Int.tmod m1 64 = q := by rw [hm m1 hm1]; omega
  have s3 : IntKind.i64.wrap q = q := IntWalk.i64_in _ (by omega)
  have s4 : IntKind.i64.wrap (9 + q) = (L : Int) := by rw [IntWalk.i64_in _ (by omega)]; omega
  have l9 : 9 ≤ L := by omega
  have l72 : L ≤ 72 := by omega
  have hmk := print_make (P := Tryd.prog) 22 5 .u8 1 Tryd.underlying22 info_u8 (by decide) L (by omega)
  have HR := Lib.hid hr
  clear hm hm1 hq hL hL1 hr hr0 hr1
  go_region_held3 (fun w' => PadP w g w' ∧ w'.cell? ⟨g, 0, none⟩ = some (.int .i64 4) ∧ w'.cell? ⟨g, 1, none⟩ = some (.int .i64 32) ∧ w'.cell? ⟨g, 2, none⟩ = some (.int .i64 64) ∧ w'.cell? ⟨g, 3, none⟩ = some (.int .i64 7) ∧ w'.cell? ⟨g, 4, none⟩ = some (.int .i64 18) ∧ w'.cell? ⟨g, 5, none⟩ = some (.int .i64 3) ∧ w'.cell? ⟨g, 6, none⟩ = some (.int .i64 17) ∧ w'.cell? ⟨g, 7, none⟩ = some (.int .i64 19) ∧ w'.cell? ⟨g, 8, none⟩ = some (.int .i64 10) ∧ w'.cell? ⟨g, 9, none⟩ = some (.int .i64 2) ∧ w'.cell? ⟨g, 10, none⟩ = some (.int .i64 13) ∧ w'.cell? ⟨g, 11, none⟩ = some (.int .i64 22) ∧ w'.cell? ⟨g, 12, none⟩ = some (.int .i64 6) ∧ w'.cell? ⟨g, 13, none⟩ = some (.int .i64 11) ∧ w'.cell? ⟨g, 14, none⟩ = some (.int .i64 25))
    (first | exact PadP.cells P3.out.drew | exact PadP.cells P3.out | exact PadP.cells (PadP.below hb P3.out.drew) | (go_split_ands; first | exact PadP.cells (PadP.below hb (by assumption)) | exact PadP.cells (PadP.alloc (by assumption) _)))
    (first
      | (go_at_call 103; refine (block32_c _).mono ?_; rintro e w4 ⟨rfl, hb⟩))
  go_split_ands
  have PX : Aside0 (PadP w g (w4.alloc (.cells (madeCells #[.int .u8 0] L) 5))) := ⟨by assumption⟩
  have BL : Aside0 ((w4.alloc (.cells (madeCells #[.int .u8 0] L) 5)).heap[w4.heap.size]? = some (.cells (bytes8 (List.replicate L 0)) 5 (0, 0))) := ⟨by rw [bytes8_made]; exact new1 _ _⟩
  have hg4 : w.heap.size ≤ w4.heap.size := by
    have e1 := blk_ne PX.out.1 BL.out (by decide)
    have e2 := blk_lt PX.out.1
    simp at e2
    omega
  generalize w4.heap.size = gl at BL hg4 ⊢
  generalize w4.alloc (.cells (madeCells #[.int .u8 0] L) 5) = w5 at *
  clear P3 hmk s1 s2 s3 s4 HR
  have cL : w5.cell? ⟨gl, 0, none⟩ = some (.int .u8 0) := by
    rw [blk_cell BL.out, bytes8_get _ _ (by simp; omega), List.getD_eq_getElem?_getD, List.getElem?_replicate, if_pos (by omega)]; rfl
  have fL : w5.frozen? ⟨gl, 0, none⟩ = false := blk_frozen BL.out _
  have l0 : 0 < L := by omega
  go_wp2
  have P0 : Aside0 ((w5.setCell ⟨gl, 0, none⟩ (.int .u8 128)).heap[gl]? = some (.cells (bytes8 (padS n L 0)) 5 (0, 0))) := ⟨blk_put BL.out _ _ (bytes8_set _ _ _)⟩
  have HB5 : Aside0 (Below w.heap.size w (w5.setCell ⟨gl, 0, none⟩ (.int .u8 128))) := ⟨below_set PX.out.2 hg4⟩
  clear PX BL cL fL
  generalize w5.setCell ⟨gl, 0, none⟩ (.int .u8 128) = w6 at P0 HB5 ⊢
  go_loopg [11, 12] 8 (fun m t u wr => ∃ i : Nat, i + m = 8 ∧ t = .int .i64 (i : Int) ∧ u = .int .i64 ((L : Int) - 1 - i) ∧ Aside0 (wr.heap[gl]? = some (.cells (bytes8 (padS n L i)) 5 (0, 0))) ∧ Aside0 (Below w.heap.size w wr))
  case atStart => exact ⟨0, by omega, rfl, by simp, P0, HB5⟩
  case round =>
    clear P0 HB5
    obtain ⟨i, hi', rfl, rfl, BL, HB⟩ := hrel
    by_cases hlt : i < 8
    rotate_left
    · obtain rfl : i = 8 := by omega
      go_wp2
      go_ret2
      have hl := padS_length n L 8
      refine ⟨.slice (some ⟨gl, 0, none⟩) L L, rfl, ?_, HB.out⟩
      rw [← HL.out]
      have ho := own_bytes8 (base := w.heap.size) BL.out hg4 (by rw [hl]; unfold maxLen; omega)
      rwa [hl] at ho ⊢
    obtain ⟨k, hk⟩ : ∃ k : Nat, k = L - 1 - i := ⟨_, rfl⟩
    have hkL : k < L := by omega
    have ek : ((L : Int) - 1 - i) = (k : Int) := by omega
    rw [ek]
    have HK := Lib.hid hk
    have HK2 := Lib.hid ek
    have HI := Lib.hid hi'
    have hg8 : gk ≤ 8 := by omega
    clear hk ek hi'
    have cL : wr.cell? ⟨gl, k, none⟩ = some (.int .u8 ((padS n L i).getD k 0)) := (blk_cell BL.out k).trans (bytes8_get _ _ (by rw [padS_length]; omega))
    have fL : wr.frozen? ⟨gl, k, none⟩ = false := blk_frozen BL.out _
    generalize (padS n L i).getD k 0 = A at cL
    go_wp2
    go_roundg (gk - 1)
    case measure => have := HI.out; omega
    case rel =>
      refine ⟨i + 1, by have := HI.out; omega, by go_num, ?_, ⟨blk_put BL.out _ _ ?_⟩, ⟨below_set HB.out hg4⟩⟩
      · have := HK2.out
        rw [show (k : Int) - 1 = (L : Int) - 1 - ((i + 1 : Nat) : Int) by omega]
      rw [bytes8_set]
      rw [padS_succ, ← HK.out]
/-- wr is w, but for blocks of S and new ones. -/
structure Fr (S : Nat → Prop) (w wr : World) : Prop where
  os : wr.os = w.os
  tape : wr.tape = w.tape
  output : wr.output = w.output
  size : w.heap.size ≤ wr.heap.size
  block : ∀ k, k < w.heap.size → ¬ S k → wr.heap[k]? = w.heap[k]?
section
variable {S S' : Nat → Prop} {w wr w2 : World}
theorem Fr.refl (S : Nat → Prop) (w : World) : Fr S w w := ⟨rfl, rfl, rfl, Nat.le_refl _, fun _ _ _ => rfl⟩
theorem Fr.then_below (h : Fr S w wr) (hb : Below wr.heap.size wr w2) : Fr S w w2 := ⟨hb.os.trans h.os, hb.tape.trans h.tape, hb.output.trans h.output, Nat.le_trans h.size hb.size, fun k hk hs => (hb.block k (Nat.lt_of_lt_of_le hk h.size)).trans (h.block k hk hs)⟩
theorem Fr.trans (h : Fr S w wr) (k : Fr S' wr w2) (hs : ∀ i, S' i → S i ∨ w.heap.size ≤ i) : Fr S w w2 :=
  ⟨k.os.trans h.os, k.tape.trans h.tape, k.output.trans h.output, Nat.le_trans h.size k.size, fun i hi hn => (k.block i (Nat.lt_of_lt_of_le hi h.size) (fun x => (hs i x).elim hn (fun y => by omega))).trans (h.block i hi hn)⟩
theorem Fr.drew (h : Fr S w wr) : Fr S w wr.drew := ⟨h.os, h.tape, h.output, h.size, h.block⟩
theorem Fr.drewN (h : Fr S w wr) (n : Nat) : Fr S w (wr.drewN n) := h.then_below (pw_below_drewN (Below.refl _ _) n)
theorem Fr.alloc (h : Fr S w wr) (o : Obj) : Fr S w (wr.alloc o) := h.then_below (below_alloc (Below.refl _ _) o)
theorem Fr.setCell (h : Fr S w wr) (p : Addr) (v : Value) (hp : S p.block ∨ w.heap.size ≤ p.block) : Fr S w (wr.setCell p v) :=
  ⟨h.os, h.tape, h.output, by simpa using h.size, fun k hk hs => (Below.heap_setCell wr p v k (fun e => hp.elim (fun x => hs (by rw [e]; exact x)) (fun x => by omega))).trans (h.block k hk hs)⟩
theorem Fr.setRow (h : Fr S w wr) (g : Nat) (cs : Array Value) (hp : S g ∨ w.heap.size ≤ g) : Fr S w (wr.setRow g cs) :=
  ⟨h.os, h.tape, h.output, by simpa using h.size, fun k hk hs => (setRow_other _ _ _ _ (fun e => hp.elim (fun x => hs (by rw [e]; exact x)) (fun x => by omega))).trans (h.block k hk hs)⟩
theorem Fr.mono (h : Fr S w wr) (hs : ∀ i, S i → S' i) : Fr S' w wr := ⟨h.os, h.tape, h.output, h.size, fun k hk hn => h.block k hk (fun x => hn (hs k x))⟩
theorem Fr.below {B : Nat} {w0 : World} (h0 : Below B w0 w) (hB : B ≤ w.heap.size) (hs : ∀ i, S i → B ≤ i) (h : Fr S w wr) : Below B w0 wr :=
  ⟨h.os.trans h0.os, h.tape.trans h0.tape, h.output.trans h0.output, Nat.le_trans h0.size h.size, fun k hk => (h.block k (by omega) (fun x => by have := hs k x; omega)).trans (h0.block k hk)⟩
theorem Fr.cell (h : Fr S w wr) {a : Addr} {v : Value} (hc : w.cell? a = some v) (hs : ¬ S a.block) : wr.cell? a = some v := by
  have := h.block a.block (World.block_lt_of_cell? w a hc) hs
  unfold World.cell? at *
  rw [this]; exact hc
theorem Fr.blk (h : Fr S w wr) {g : Nat} {o : Obj} (hc : w.heap[g]? = some o) (hs : ¬ S g) : wr.heap[g]? = some o := (h.block g (blk_lt hc) hs).trans hc
end
/-- A hash, cell by cell. -/
def hashV (s : Array Value) (n : Int) (rest : Value) (h32 h64 : List Int) : Array Value := (s.toList ++ (Value.int .i64 n :: rest :: (h32.map (Value.int .u32) ++ h64.map (Value.int .u64)))).toArray
/-- The eight words behind k blocks of a text. -/
def blocks32 (K hs b : List Int) : Nat → List Int
  | 0 => hs
  | k + 1 => mix32 K (blocks32 K hs b k) ((b.drop (64 * k)).take 64)
theorem mix32_length (K hs b : List Int) : (mix32 K hs b).length = hs.length := add32_length _ _ _
theorem blocks32_length (K hs b : List Int) : ∀ k, (blocks32 K hs b k).length = hs.length
  | 0 => rfl
  | k + 1 => by unfold blocks32; rw [mix32_length]; exact blocks32_length K hs b k
/-- A slice's bytes lie elsewhere than in block p. -/
def Away (p : Nat) (A : Option Addr) (n : Nat) : Prop := 0 < n → ∀ ad, A = some ad → ad.block ≠ p
theorem kdcell {w : World} {A : Option Addr} {n : Nat} {l : List Int} (h : Kd.C (Kd.int .u8) w A n l) (hn : 0 < n) : ∃ ad, A = some ad ∧ ∀ i, i < n → w.cell? (ad.add i) = some (.int .u8 (l.getD i 0)) := by
  obtain ⟨ad, he, _⟩ := Kd.at_int h 0 (by omega) (by omega)
  refine ⟨ad, he, fun i hi => ?_⟩
  obtain ⟨ad', he', hc⟩ := Kd.at_int h (i : Int) (by omega) (by omega)
  rw [he] at he'
  injection he' with he'
  subst he'
  simpa [rd] using hc
theorem hash_narrow {w : World} {p : Nat} {n : Int} {rest : Value} {x y : List Int} (h : w.heap[p]? = some (.cells (hashV narrowV n rest x y) 109 (0, 0))) :
    w.cell? ⟨p, 0, none⟩ = some (.int .i64 4) ∧ w.cell? ⟨p, 1, none⟩ = some (.int .i64 32) ∧ w.cell? ⟨p, 2, none⟩ = some (.int .i64 64) ∧ w.cell? ⟨p, 3, none⟩ = some (.int .i64 7) ∧ w.cell? ⟨p, 4, none⟩ = some (.int .i64 18) ∧ w.cell? ⟨p, 5, none⟩ = some (.int .i64 3) ∧ w.cell? ⟨p, 6, none⟩ = some (.int .i64 17) ∧ w.cell? ⟨p, 7, none⟩ = some (.int .i64 19) ∧ w.cell? ⟨p, 8, none⟩ = some (.int .i64 10) ∧ w.cell? ⟨p, 9, none⟩ = some (.int .i64 2) ∧ w.cell? ⟨p, 10, none⟩ = some (.int .i64 13) ∧ w.cell? ⟨p, 11, none⟩ = some (.int .i64 22) ∧ w.cell? ⟨p, 12, none⟩ = some (.int .i64 6) ∧ w.cell? ⟨p, 13, none⟩ = some (.int .i64 11) ∧ w.cell? ⟨p, 14, none⟩ = some (.int .i64 25) :=
  ⟨(blk_cell h 0).trans rfl, (blk_cell h 1).trans rfl, (blk_cell h 2).trans rfl, (blk_cell h 3).trans rfl, (blk_cell h 4).trans rfl, (blk_cell h 5).trans rfl, (blk_cell h 6).trans rfl, (blk_cell h 7).trans rfl, (blk_cell h 8).trans rfl, (blk_cell h 9).trans rfl, (blk_cell h 10).trans rfl, (blk_cell h 11).trans rfl, (blk_cell h 12).trans rfl, (blk_cell h 13).trans rfl, (blk_cell h 14).trans rfl⟩
theorem next_bytes {w : World} {ad : Addr} {g c k : Nat} {b : List Int} (h : Kd.C (Kd.int .u8) w (some ad) g (b.drop (64 * k))) (hg : 64 ≤ g) (hc : g ≤ c) : Kd.C (Kd.int .u8) w (if c = 64 then some ad else some (ad.add 64)) (g - 64) (b.drop (64 * (k + 1))) := by
  have hl : (b.drop (64 * k)).length = g := Kd.C_len h
  subst hl
  have := Kd.C_drop (m := 64) (c := c) h hg hc
  rw [List.length_drop, List.drop_drop] at this
  rw [show 64 * (k + 1) = 64 * k + 64 by omega]
  exact this
theorem Fr.kd {w w1 : World} {p : Nat} {A : Option Addr} {m : Nat} {l : List Int} (h : Fr (· = p) w w1) (hc : Kd.C (Kd.int .u8) w A m l) (ha : Away p A m) : Kd.C (Kd.int .u8) w1 A m l := by
  refine ⟨hc.1, hc.2.1, fun hn => ?_⟩
  obtain ⟨ad, he, hq⟩ := hc.2.2 hn
  refine ⟨ad, he, fun j q hj => ?_⟩
  obtain ⟨cs, h1, h2, h3⟩ := hq j q hj
  exact ⟨cs, h1, h2, fun i u hu => h.cell (h3 i u hu) (by rw [add_block]; exact ha hn ad he)⟩
/-- The state in take, the words being x. -/
def Tk (w : World) (p : Nat) (n : Int) (rest : Value) (x y : List Int) (w' : World) : Prop := w'.heap[p]? = some (.cells (hashV narrowV n rest x y) 109 (0, 0)) ∧ Fr (· = p) w w'
def TkS (w : World) (p : Nat) (n : Int) (rest : Value) (y : List Int) (w' : World) : Prop := ∃ x0 x1 x2 x3 x4 x5 x6 x7, Tk w p n rest [x0, x1, x2, x3, x4, x5, x6, x7] y w'
section
variable {w w1 w2 : World} {p : Nat} {n : Int} {rest : Value} {x y : List Int}
theorem Tk.drew (h : Tk w p n rest x y w1) : Tk w p n rest x y w1.drew := ⟨h.1, h.2.drew⟩
theorem Tk.drewN (h : Tk w p n rest x y w1) (k : Nat) : Tk w p n rest x y (w1.drewN k) := ⟨h.1, h.2.drewN k⟩
theorem Tk.below (h : Tk w p n rest x y w1) (hb : Below w1.heap.size w1 w2) : Tk w p n rest x y w2 := ⟨blk_below h.1 hb, h.2.then_below hb⟩
theorem Tk.s {x0 x1 x2 x3 x4 x5 x6 x7 : Int} (h : Tk w p n rest [x0, x1, x2, x3, x4, x5, x6, x7] y w1) : TkS w p n rest y w1 := ⟨_, _, _, _, _, _, _, _, h⟩
theorem TkS.cells (h : TkS w p n rest y w1) : TkS w p n rest y w1 ∧ w1.cell? ⟨p, 0, none⟩ = some (.int .i64 4) ∧ w1.cell? ⟨p, 1, none⟩ = some (.int .i64 32) ∧ w1.cell? ⟨p, 2, none⟩ = some (.int .i64 64) ∧ w1.cell? ⟨p, 3, none⟩ = some (.int .i64 7) ∧ w1.cell? ⟨p, 4, none⟩ = some (.int .i64 18) ∧ w1.cell? ⟨p, 5, none⟩ = some (.int .i64 3) ∧ w1.cell? ⟨p, 6, none⟩ = some (.int .i64 17) ∧ w1.cell? ⟨p, 7, none⟩ = some (.int .i64 19) ∧ w1.cell? ⟨p, 8, none⟩ = some (.int .i64 10) ∧ w1.cell? ⟨p, 9, none⟩ = some (.int .i64 2) ∧ w1.cell? ⟨p, 10, none⟩ = some (.int .i64 13) ∧ w1.cell? ⟨p, 11, none⟩ = some (.int .i64 22) ∧ w1.cell? ⟨p, 12, none⟩ = some (.int .i64 6) ∧ w1.cell? ⟨p, 13, none⟩ = some (.int .i64 11) ∧ w1.cell? ⟨p, 14, none⟩ = some (.int .i64 25) ∧ w1.frozen? ⟨p, 17, none⟩ = false ∧ w1.frozen? ⟨p, 18, none⟩ = false ∧ w1.frozen? ⟨p, 19, none⟩ = false ∧ w1.frozen? ⟨p, 20, none⟩ = false ∧ w1.frozen? ⟨p, 21, none⟩ = false ∧ w1.frozen? ⟨p, 22, none⟩ = false ∧ w1.frozen? ⟨p, 23, none⟩ = false ∧ w1.frozen? ⟨p, 24, none⟩ = false := by
  obtain ⟨x0, x1, x2, x3, x4, x5, x6, x7, H⟩ := h
  obtain ⟨c0, c1, c2, c3, c4, c5, c6, c7, c8, c9, c10, c11, c12, c13, c14⟩ := hash_narrow H.1
  exact ⟨⟨_, _, _, _, _, _, _, _, H⟩, c0, c1, c2, c3, c4, c5, c6, c7, c8, c9, c10, c11, c12, c13, c14, blk_frozen H.1 _, blk_frozen H.1 _, blk_frozen H.1 _, blk_frozen H.1 _, blk_frozen H.1 _, blk_frozen H.1 _, blk_frozen H.1 _, blk_frozen H.1 _⟩
theorem Tk.words {x0 x1 x2 x3 x4 x5 x6 x7 : Int} (h : Tk w p n rest [x0, x1, x2, x3, x4, x5, x6, x7] y w1) : w1.cell? ⟨p, 17, none⟩ = some (.int .u32 x0) ∧ w1.cell? ⟨p, 18, none⟩ = some (.int .u32 x1) ∧ w1.cell? ⟨p, 19, none⟩ = some (.int .u32 x2) ∧ w1.cell? ⟨p, 20, none⟩ = some (.int .u32 x3) ∧ w1.cell? ⟨p, 21, none⟩ = some (.int .u32 x4) ∧ w1.cell? ⟨p, 22, none⟩ = some (.int .u32 x5) ∧ w1.cell? ⟨p, 23, none⟩ = some (.int .u32 x6) ∧ w1.cell? ⟨p, 24, none⟩ = some (.int .u32 x7) :=
  ⟨(blk_cell h.1 17).trans rfl, (blk_cell h.1 18).trans rfl, (blk_cell h.1 19).trans rfl, (blk_cell h.1 20).trans rfl, (blk_cell h.1 21).trans rfl, (blk_cell h.1 22).trans rfl, (blk_cell h.1 23).trans rfl, (blk_cell h.1 24).trans rfl⟩
end
theorem put_h (s : Array Value) (rest : Value) (n : Int) (x y : List Int) (i : Nat) (z : Int) (hs : s.size = 15) (hi : i < x.length) {x' : List Int} (hx : x.set i z = x') : (hashV s n rest x y).setIfInBounds (17 + i) (.int .u32 z) = hashV s n rest x' y := by
  unfold hashV
  subst hx
  rw [List.setIfInBounds_toArray, List.set_append_right _ _ (by rw [Array.length_toList, hs]; omega), Array.length_toList, hs, show 17 + i - 15 = i + 1 + 1 by omega, List.set_cons_succ, List.set_cons_succ, List.set_append_left _ _ (by rw [List.length_map]; exact hi), List.map_set]
set_option maxRecDepth 100000 in
set_option maxHeartbeats 4000000 in
theorem Tk.stored {w w1 : World} {p : Nat} {n : Int} {rest : Value} {x0 x1 x2 x3 x4 x5 x6 x7 : Int} {y : List Int} (h : Tk w p n rest [x0, x1, x2, x3, x4, x5, x6, x7] y w1) (z0 z1 z2 z3 z4 z5 z6 z7 : Int) : Tk w p n rest [z0, z1, z2, z3, z4, z5, z6, z7] y ((((((((w1.setCell ⟨p, 17, none⟩ (.int .u32 z0)).setCell ⟨p, 18, none⟩ (.int .u32 z1)).setCell ⟨p, 19, none⟩ (.int .u32 z2)).setCell ⟨p, 20, none⟩ (.int .u32 z3)).setCell ⟨p, 21, none⟩ (.int .u32 z4)).setCell ⟨p, 22, none⟩ (.int .u32 z5)).setCell ⟨p, 23, none⟩ (.int .u32 z6)).setCell ⟨p, 24, none⟩ (.int .u32 z7)) := by
  have k0 := blk_put h.1 17 (.int .u32 z0) (put_h narrowV rest _ _ _ 0 z0 rfl (by simp) rfl : _ = hashV narrowV n rest [z0, x1, x2, x3, x4, x5, x6, x7] y)
  have k1 := blk_put k0 18 (.int .u32 z1) (put_h narrowV rest _ _ _ 1 z1 rfl (by simp) rfl : _ = hashV narrowV n rest [z0, z1, x2, x3, x4, x5, x6, x7] y)
  have k2 := blk_put k1 19 (.int .u32 z2) (put_h narrowV rest _ _ _ 2 z2 rfl (by simp) rfl : _ = hashV narrowV n rest [z0, z1, z2, x3, x4, x5, x6, x7] y)
  have k3 := blk_put k2 20 (.int .u32 z3) (put_h narrowV rest _ _ _ 3 z3 rfl (by simp) rfl : _ = hashV narrowV n rest [z0, z1, z2, z3, x4, x5, x6, x7] y)
  have k4 := blk_put k3 21 (.int .u32 z4) (put_h narrowV rest _ _ _ 4 z4 rfl (by simp) rfl : _ = hashV narrowV n rest [z0, z1, z2, z3, z4, x5, x6, x7] y)
  have k5 := blk_put k4 22 (.int .u32 z5) (put_h narrowV rest _ _ _ 5 z5 rfl (by simp) rfl : _ = hashV narrowV n rest [z0, z1, z2, z3, z4, z5, x6, x7] y)
  have k6 := blk_put k5 23 (.int .u32 z6) (put_h narrowV rest _ _ _ 6 z6 rfl (by simp) rfl : _ = hashV narrowV n rest [z0, z1, z2, z3, z4, z5, z6, x7] y)
  have k7 := blk_put k6 24 (.int .u32 z7) (put_h narrowV rest _ _ _ 7 z7 rfl (by simp) rfl : _ = hashV narrowV n rest [z0, z1, z2, z3, z4, z5, z6, z7] y)
  exact ⟨k7, (((((((h.2.setCell _ _ (.inl rfl)).setCell _ _ (.inl rfl)).setCell _ _ (.inl rfl)).setCell _ _ (.inl rfl)).setCell _ _ (.inl rfl)).setCell _ _ (.inl rfl)).setCell _ _ (.inl rfl)).setCell _ _ (.inl rfl)⟩
set_option maxRecDepth 100000 in
set_option maxHeartbeats 1000000 in
theorem take32_c (p : Nat) (hs y : List Int) (n : Int) (rest : Value) (A : Option Addr) (c : Nat) (b K : List Int) (w : World) (hs8 : hs.length = 8) (hy8 : y.length = 8)
    (hp : w.heap[p]? = some (.cells (hashV narrowV n rest hs y) 109 (0, 0))) (hb : Kd.C (Kd.int .u8) w A b.length b) (hc : b.length ≤ c) (hcm : c ≤ 9223372036854775807) (ha : Away p A b.length) (hbd : ∀ i, 0 ≤ b.getD i 0 ∧ b.getD i 0 < 256)
    (hK : ∀ i, i < 80 → w.cell? ⟨1, i, none⟩ = some (.int .u64 (K.getD i 0))) (hpK : p ≠ 1) :
    Calls Tryd.prog 86 #[.pointer (some ⟨p, 0, none⟩), .slice A b.length c] w fun e w' => ∃ A' c', e = .returned (.slice A' (b.length % 64) c') ∧ b.length % 64 ≤ c' ∧ Kd.C (Kd.int .u8) w' A' (b.length % 64) (b.drop (64 * (b.length / 64))) ∧ Away p A' (b.length % 64) ∧
      w'.heap[p]? = some (.cells (hashV narrowV n rest (blocks32 K hs b (b.length / 64)) y) 109 (0, 0)) ∧ Fr (· = p) w w' := by
  go_enter Tryd.func86, Tryd.ntmps86
  go_wp2_with fail
  have HBD := Aside0.mk hbd
  have HK := Aside0.mk hK
  clear hbd hK
  go_loopg [1] b.length (fun m v wr => ∃ (k : Nat) (A' : Option Addr) (c' : Nat), m + 64 * k = b.length ∧ v = .slice A' m c' ∧ m ≤ c' ∧ c' ≤ 9223372036854775807 ∧ Aside0 (Kd.C (Kd.int .u8) w A' m (b.drop (64 * k))) ∧ Aside0 (Away p A' m) ∧
    ∃ x, x.length = 8 ∧ Aside0 (x = blocks32 K hs b k) ∧ Aside0 (wr.heap[p]? = some (.cells (hashV narrowV n rest x y) 109 (0, 0))) ∧ Aside0 (Fr (· = p) w wr))
  case atStart => exact ⟨0, A, c, by omega, rfl, hc, hcm, ⟨hb⟩, ⟨ha⟩, hs, hs8, ⟨rfl⟩, ⟨hp⟩, ⟨Fr.refl _ _⟩⟩
  case round =>
    obtain ⟨k, A', c', hmk, rfl, hmc, hcm', HC, HA, x, hx8, HX, BP, HF⟩ := hrel
    obtain ⟨x0, x1, x2, x3, x4, x5, x6, x7, rfl⟩ := eight_of hx8
    obtain ⟨y0, y1, y2, y3, y4, y5, y6, y7, rfl⟩ := eight_of hy8
    obtain ⟨c0, c1, c2, c3, c4, c5, c6, c7, c8, c9, c10, c11, c12, c13, c14⟩ := hash_narrow BP.out
    by_cases hge : 64 ≤ gk
    rotate_left
    · have hltI : ¬ (64 : Int) ≤ ↑gk := by omega
      go_wp2_with (go_at_call 103; refine (block32_c _).mono ?_; rintro e w1 ⟨rfl, hb1⟩; have HB1 := Aside0.mk hb1; clear hb1)
      have h1 : gk = b.length % 64 := by omega
      have h2 : k = b.length / 64 := by omega
      subst h1 h2
      have HF1 := HF.out.then_below HB1.out
      go_ret
      exact ⟨A', c', rfl, hmc, HF1.kd HC.out HA.out, HA.out, by rw [← HX.out]; exact blk_below BP.out HB1.out, HF1⟩
    have hgI : (64 : Int) ≤ ↑gk := by omega
    obtain ⟨ad, rfl, hcell⟩ := kdcell HC.out (by omega)
    have hne := HA.out (by omega) ad rfl
    have hadS : ad.block < w.heap.size := World.block_lt_of_cell? w (ad.add 0) (hcell 0 (by omega))
    have HCE := Aside0.mk hcell
    clear hcell
    go_upto_region 2 with (go_at_call 103; refine (block32_c _).mono ?_; rintro e w1 ⟨rfl, hb1⟩; have HB1 := Aside0.mk hb1; clear hb1)
    have BP1 := Aside0.mk (blk_below BP.out HB1.out)
    have HF1 := Aside0.mk (HF.out.then_below HB1.out)
    clear c0 c1 c2 c3 c4 c5 c6 c7 c8 c9 c10 c11 c12 c13 c14
    obtain ⟨c0, c1, c2, c3, c4, c5, c6, c7, c8, c9, c10, c11, c12, c13, c14⟩ := hash_narrow BP1.out
    go_upto_region 3 with fail
    clear c0 c1 c2 c3 c4 c5 c6 c7 c8 c9 c10 c11 c12 c13 c14
    have P1 : Aside0 (Tk w p n rest [x0, x1, x2, x3, x4, x5, x6, x7] [y0, y1, y2, y3, y4, y5, y6, y7] w1) := ⟨⟨BP1.out, HF1.out⟩⟩
    clear BP BP1 HF1
    obtain ⟨z0, z1, z2, z3, z4, z5, z6, z7, hz⟩ := eight_of (show (mix32 K [x0, x1, x2, x3, x4, x5, x6, x7] ((b.drop (64 * k)).take 64)).length = 8 by rw [mix32_length]; rfl)
    have HMX : Aside0 (∀ w', Tk w p n rest [x0, x1, x2, x3, x4, x5, x6, x7] [y0, y1, y2, y3, y4, y5, y6, y7] w' → Calls Tryd.prog 104 #[.agg narrowV, .agg #[.int .u32 x0, .int .u32 x1, .int .u32 x2, .int .u32 x3, .int .u32 x4, .int .u32 x5, .int .u32 x6, .int .u32 x7], .slice (some ad) 64 c'] w' fun e w'' => e = .returned (.agg #[.int .u32 z0, .int .u32 z1, .int .u32 z2, .int .u32 z3, .int .u32 z4, .int .u32 z5, .int .u32 z6, .int .u32 z7]) ∧ Below w'.heap.size w' w'') := ⟨fun w' hT => by
      refine (mix32_c x0 x1 x2 x3 x4 x5 x6 x7 ad c' ((b.drop (64 * k)).take 64) w' ?_ (by omega) (by omega) (Nat.lt_of_lt_of_le hadS hT.2.size) ?_ ?_ K ?_).mono ?_
      · rw [List.length_take, List.length_drop]; omega
      · intro i hi
        rw [hT.2.cell (HCE.out i (by omega)) (by rw [add_block]; exact hne), List.getD_eq_getElem?_getD, List.getD_eq_getElem?_getD, List.getElem?_take, if_pos hi]
      · intro i
        rw [List.getD_eq_getElem?_getD, List.getElem?_take]
        split
        · rw [List.getElem?_drop, ← List.getD_eq_getElem?_getD]; exact HBD.out _
        simp
      · exact fun i hi => hT.2.cell (HK.out i hi) (fun e => hpK e.symm)
      rintro e w'' ⟨he, hb⟩
      exact ⟨by rw [he, hz]; rfl, hb⟩⟩
    have hc64 : (64 : Int) ≤ ↑c' := by omega
    go_cut [] from 5 to 63 (fun wx => Aside0 (Tk w p n rest [z0, z1, z2, z3, z4, z5, z6, z7] [y0, y1, y2, y3, y4, y5, y6, y7] wx))
    case first =>
      have W1 := P1.out.drew.words
      go_split_ands
      have S1 := TkS.cells P1.out.drew.s
      go_split_ands
      go_region_law (first
          | (go_simp; go_at_call 103; refine (block32_c _).mono ?_; rintro e w2 ⟨rfl, hb2⟩; have P2 := Aside0.mk (Tk.below P1.out.drew hb2); have W2 := P2.out.words; have S2 := TkS.cells P2.out.s; clear hb2; go_split_ands)
          | (go_simp; go_at_call 104; refine (HMX.out _ P2.out).mono ?_; rintro e w3 ⟨rfl, hb3⟩; have P3 := Aside0.mk (Tk.below P2.out hb3); have W3 := P3.out.words; have S3 := TkS.cells P3.out.s; clear hb3; go_split_ands))
      all_goals have P4 := Aside0.mk (P3.out.stored z0 z1 z2 z3 z4 z5 z6 z7)
      all_goals go_split_ands
      all_goals go_wp2_with fail
      all_goals go_meet
      all_goals exact P4
    case rest =>
      have P4 := hcut
      clear hcut
      obtain ⟨c0, c1, c2, c3, c4, c5, c6, c7, c8, c9, c10, c11, c12, c13, c14⟩ := hash_narrow P4.out.1
      go_wp2_with (first | (go_at_call 103; refine (block32_c _).mono ?_; rintro e w5 ⟨rfl, hb5⟩; have P5 := Aside0.mk (Tk.below P4.out hb5); clear hb5))
      all_goals go_roundg (gk - 64)
      all_goals first
        | omega
        | (have HC' := next_bytes HC.out hge hmc
           have hx : [z0, z1, z2, z3, z4, z5, z6, z7] = blocks32 K hs b (k + 1) := by unfold blocks32; rw [← HX.out]; exact hz.symm
           first
             | (rw [if_pos h] at HC'; exact ⟨k + 1, some ad, 0, by omega, rfl, by omega, by omega, ⟨HC'⟩, ⟨fun hp a e => by injection e with e; subst e; exact hne⟩, [z0, z1, z2, z3, z4, z5, z6, z7], rfl, ⟨hx⟩, ⟨P5.out.1⟩, ⟨P5.out.2⟩⟩)
             | (rw [if_neg h] at HC'; exact ⟨k + 1, some (ad.add 64), c' - 64, by omega, rfl, by omega, by omega, ⟨HC'⟩, ⟨fun hp a e => by injection e with e; subst e; exact hne⟩, [z0, z1, z2, z3, z4, z5, z6, z7], rfl, ⟨hx⟩, ⟨P5.out.1⟩, ⟨P5.out.2⟩⟩))
theorem put_h64 (s : Array Value) (rest : Value) (n : Int) (y x : List Int) (i : Nat) (z : Int) (hs : s.size = 15) (hy : y.length = 8) (_ : i < x.length) {x' : List Int} (hx : x.set i z = x') : (hashV s n rest y x).setIfInBounds (25 + i) (.int .u64 z) = hashV s n rest y x' := by
  unfold hashV
  subst hx
  rw [List.setIfInBounds_toArray, List.set_append_right _ _ (by rw [Array.length_toList, hs]; omega), Array.length_toList, hs, show 25 + i - 15 = (i + 8) + 1 + 1 by omega, List.set_cons_succ, List.set_cons_succ, List.set_append_right _ _ (by rw [List.length_map, hy]; omega), List.length_map, hy, show i + 8 - 8 = i by omega, List.map_set]
/-- A hash with the words x and y set: cell by cell. -/
theorem hash_new32 (s : Array Value) (n : Int) (rest : Value) (x y : List Int) (hs : s.size = 15) : (hashV s n rest x y).setIfInBounds 15 (.int .i64 0) = hashV s 0 rest x y := by
  unfold hashV
  rw [List.setIfInBounds_toArray, List.set_append_right _ _ (by rw [Array.length_toList, hs]; omega), Array.length_toList, hs]
  rfl
theorem hash_newRest (s : Array Value) (n : Int) (rest v : Value) (x y : List Int) (hs : s.size = 15) : (hashV s n rest x y).setIfInBounds 16 v = hashV s n v x y := by
  unfold hashV
  rw [List.setIfInBounds_toArray, List.set_append_right _ _ (by rw [Array.length_toList, hs]; omega), Array.length_toList, hs]
  rfl
theorem hash_at15 (s : Array Value) (n : Int) (rest : Value) (x y : List Int) (hs : s.size = 15) : (hashV s n rest x y)[15]? = some (.int .i64 n) := by
  unfold hashV
  rw [List.getElem?_toArray, List.getElem?_append_right (by rw [Array.length_toList, hs]; omega), Array.length_toList, hs]
  rfl
theorem hash_at16 (s : Array Value) (n : Int) (rest : Value) (x y : List Int) (hs : s.size = 15) : (hashV s n rest x y)[16]? = some rest := by
  unfold hashV
  rw [List.getElem?_toArray, List.getElem?_append_right (by rw [Array.length_toList, hs]; omega), Array.length_toList, hs]
  rfl
theorem hash_at32 (s : Array Value) (n : Int) (rest : Value) (x y : List Int) (hs : s.size = 15) (i : Nat) (hi : i < x.length) : (hashV s n rest x y)[17 + i]? = some (.int .u32 (x.getD i 0)) := by
  unfold hashV
  rw [List.getElem?_toArray, List.getElem?_append_right (by rw [Array.length_toList, hs]; omega), Array.length_toList, hs, show 17 + i - 15 = i + 1 + 1 by omega, List.getElem?_cons_succ, List.getElem?_cons_succ, List.getElem?_append_left (by rw [List.length_map]; exact hi), List.getElem?_map, List.getElem?_eq_getElem hi, List.getD_eq_getElem?_getD, List.getElem?_eq_getElem hi]
  rfl
theorem hash_at64 (s : Array Value) (n : Int) (rest : Value) (x y : List Int) (hs : s.size = 15) (hx : x.length = 8) (i : Nat) (hi : i < y.length) : (hashV s n rest x y)[25 + i]? = some (.int .u64 (y.getD i 0)) := by
  unfold hashV
  rw [List.getElem?_toArray, List.getElem?_append_right (by rw [Array.length_toList, hs]; omega), Array.length_toList, hs, show 25 + i - 15 = (8 + i) + 1 + 1 by omega, List.getElem?_cons_succ, List.getElem?_cons_succ, List.getElem?_append_right (by rw [List.length_map, hx]; omega), List.length_map, hx, show 8 + i - 8 = i by omega, List.getElem?_map, List.getElem?_eq_getElem hi, List.getD_eq_getElem?_getD, List.getElem?_eq_getElem hi]
  rfl
set_option maxRecDepth 100000 in
set_option maxHeartbeats 4000000 in
theorem stored32 {w1 : World} {p : Nat} {s : Array Value} {n : Int} {rest : Value} {x0 x1 x2 x3 x4 x5 x6 x7 : Int} {x : List Int} (hs : s.size = 15) (h : w1.heap[p]? = some (.cells (hashV s n rest [x0, x1, x2, x3, x4, x5, x6, x7] x) 109 (0, 0))) (z0 z1 z2 z3 z4 z5 z6 z7 : Int) : ((((((((w1.setCell ⟨p, 17, none⟩ (.int .u32 z0)).setCell ⟨p, 18, none⟩ (.int .u32 z1)).setCell ⟨p, 19, none⟩ (.int .u32 z2)).setCell ⟨p, 20, none⟩ (.int .u32 z3)).setCell ⟨p, 21, none⟩ (.int .u32 z4)).setCell ⟨p, 22, none⟩ (.int .u32 z5)).setCell ⟨p, 23, none⟩ (.int .u32 z6)).setCell ⟨p, 24, none⟩ (.int .u32 z7)).heap[p]? = some (.cells (hashV s n rest [z0, z1, z2, z3, z4, z5, z6, z7] x) 109 (0, 0)) := by
  have k0 := blk_put h 17 (.int .u32 z0) (put_h s rest _ _ _ 0 z0 hs (by simp) rfl : _ = hashV s n rest [z0, x1, x2, x3, x4, x5, x6, x7] x)
  have k1 := blk_put k0 18 (.int .u32 z1) (put_h s rest _ _ _ 1 z1 hs (by simp) rfl : _ = hashV s n rest [z0, z1, x2, x3, x4, x5, x6, x7] x)
  have k2 := blk_put k1 19 (.int .u32 z2) (put_h s rest _ _ _ 2 z2 hs (by simp) rfl : _ = hashV s n rest [z0, z1, z2, x3, x4, x5, x6, x7] x)
  have k3 := blk_put k2 20 (.int .u32 z3) (put_h s rest _ _ _ 3 z3 hs (by simp) rfl : _ = hashV s n rest [z0, z1, z2, z3, x4, x5, x6, x7] x)
  have k4 := blk_put k3 21 (.int .u32 z4) (put_h s rest _ _ _ 4 z4 hs (by simp) rfl : _ = hashV s n rest [z0, z1, z2, z3, z4, x5, x6, x7] x)
  have k5 := blk_put k4 22 (.int .u32 z5) (put_h s rest _ _ _ 5 z5 hs (by simp) rfl : _ = hashV s n rest [z0, z1, z2, z3, z4, z5, x6, x7] x)
  have k6 := blk_put k5 23 (.int .u32 z6) (put_h s rest _ _ _ 6 z6 hs (by simp) rfl : _ = hashV s n rest [z0, z1, z2, z3, z4, z5, z6, x7] x)
  have k7 := blk_put k6 24 (.int .u32 z7) (put_h s rest _ _ _ 7 z7 hs (by simp) rfl : _ = hashV s n rest [z0, z1, z2, z3, z4, z5, z6, z7] x)
  exact k7
theorem Fr.stored32 {S : Nat → Prop} {w w1 : World} {p : Nat} (h : Fr S w w1) (hp : S p) (z0 z1 z2 z3 z4 z5 z6 z7 : Int) : Fr S w ((((((((w1.setCell ⟨p, 17, none⟩ (.int .u32 z0)).setCell ⟨p, 18, none⟩ (.int .u32 z1)).setCell ⟨p, 19, none⟩ (.int .u32 z2)).setCell ⟨p, 20, none⟩ (.int .u32 z3)).setCell ⟨p, 21, none⟩ (.int .u32 z4)).setCell ⟨p, 22, none⟩ (.int .u32 z5)).setCell ⟨p, 23, none⟩ (.int .u32 z6)).setCell ⟨p, 24, none⟩ (.int .u32 z7)) :=
  ((((((((h.setCell ⟨p, 17, none⟩ _ (.inl hp)).setCell ⟨p, 18, none⟩ _ (.inl hp)).setCell ⟨p, 19, none⟩ _ (.inl hp)).setCell ⟨p, 20, none⟩ _ (.inl hp)).setCell ⟨p, 21, none⟩ _ (.inl hp)).setCell ⟨p, 22, none⟩ _ (.inl hp)).setCell ⟨p, 23, none⟩ _ (.inl hp)).setCell ⟨p, 24, none⟩ _ (.inl hp))
set_option maxRecDepth 100000 in
set_option maxHeartbeats 4000000 in
theorem stored64 {w1 : World} {p : Nat} {s : Array Value} {n : Int} {rest : Value} {x0 x1 x2 x3 x4 x5 x6 x7 : Int} {x : List Int} (hs : s.size = 15) (hy : x.length = 8) (h : w1.heap[p]? = some (.cells (hashV s n rest x [x0, x1, x2, x3, x4, x5, x6, x7]) 109 (0, 0))) (z0 z1 z2 z3 z4 z5 z6 z7 : Int) : ((((((((w1.setCell ⟨p, 25, none⟩ (.int .u64 z0)).setCell ⟨p, 26, none⟩ (.int .u64 z1)).setCell ⟨p, 27, none⟩ (.int .u64 z2)).setCell ⟨p, 28, none⟩ (.int .u64 z3)).setCell ⟨p, 29, none⟩ (.int .u64 z4)).setCell ⟨p, 30, none⟩ (.int .u64 z5)).setCell ⟨p, 31, none⟩ (.int .u64 z6)).setCell ⟨p, 32, none⟩ (.int .u64 z7)).heap[p]? = some (.cells (hashV s n rest x [z0, z1, z2, z3, z4, z5, z6, z7]) 109 (0, 0)) := by
  have k0 := blk_put h 25 (.int .u64 z0) (put_h64 s rest _ _ _ 0 z0 hs hy (by simp) rfl : _ = hashV s n rest x [z0, x1, x2, x3, x4, x5, x6, x7])
  have k1 := blk_put k0 26 (.int .u64 z1) (put_h64 s rest _ _ _ 1 z1 hs hy (by simp) rfl : _ = hashV s n rest x [z0, z1, x2, x3, x4, x5, x6, x7])
  have k2 := blk_put k1 27 (.int .u64 z2) (put_h64 s rest _ _ _ 2 z2 hs hy (by simp) rfl : _ = hashV s n rest x [z0, z1, z2, x3, x4, x5, x6, x7])
  have k3 := blk_put k2 28 (.int .u64 z3) (put_h64 s rest _ _ _ 3 z3 hs hy (by simp) rfl : _ = hashV s n rest x [z0, z1, z2, z3, x4, x5, x6, x7])
  have k4 := blk_put k3 29 (.int .u64 z4) (put_h64 s rest _ _ _ 4 z4 hs hy (by simp) rfl : _ = hashV s n rest x [z0, z1, z2, z3, z4, x5, x6, x7])
  have k5 := blk_put k4 30 (.int .u64 z5) (put_h64 s rest _ _ _ 5 z5 hs hy (by simp) rfl : _ = hashV s n rest x [z0, z1, z2, z3, z4, z5, x6, x7])
  have k6 := blk_put k5 31 (.int .u64 z6) (put_h64 s rest _ _ _ 6 z6 hs hy (by simp) rfl : _ = hashV s n rest x [z0, z1, z2, z3, z4, z5, z6, x7])
  have k7 := blk_put k6 32 (.int .u64 z7) (put_h64 s rest _ _ _ 7 z7 hs hy (by simp) rfl : _ = hashV s n rest x [z0, z1, z2, z3, z4, z5, z6, z7])
  exact k7
theorem Fr.stored64 {S : Nat → Prop} {w w1 : World} {p : Nat} (h : Fr S w w1) (hp : S p) (z0 z1 z2 z3 z4 z5 z6 z7 : Int) : Fr S w ((((((((w1.setCell ⟨p, 25, none⟩ (.int .u64 z0)).setCell ⟨p, 26, none⟩ (.int .u64 z1)).setCell ⟨p, 27, none⟩ (.int .u64 z2)).setCell ⟨p, 28, none⟩ (.int .u64 z3)).setCell ⟨p, 29, none⟩ (.int .u64 z4)).setCell ⟨p, 30, none⟩ (.int .u64 z5)).setCell ⟨p, 31, none⟩ (.int .u64 z6)).setCell ⟨p, 32, none⟩ (.int .u64 z7)) :=
  ((((((((h.setCell ⟨p, 25, none⟩ _ (.inl hp)).setCell ⟨p, 26, none⟩ _ (.inl hp)).setCell ⟨p, 27, none⟩ _ (.inl hp)).setCell ⟨p, 28, none⟩ _ (.inl hp)).setCell ⟨p, 29, none⟩ _ (.inl hp)).setCell ⟨p, 30, none⟩ _ (.inl hp)).setCell ⟨p, 31, none⟩ _ (.inl hp)).setCell ⟨p, 32, none⟩ _ (.inl hp))
set_option maxRecDepth 100000 in
set_option maxHeartbeats 1000000 in
theorem reset_c (p : Nat) (s : Array Value) (n : Int) (rest : Value) (x y S : List Int) (w : World) (hs : s.size = 15) (hx : x.length = 8) (hy : y.length = 8)
    (hp : w.heap[p]? = some (.cells (hashV s n rest x y) 109 (0, 0))) (hS : ∀ i, i < 8 → w.cell? ⟨0, i, none⟩ = some (.int .u64 (S.getD i 0))) (hpS : p ≠ 0) :
    Calls Tryd.prog 85 #[.pointer (some ⟨p, 0, none⟩)] w fun e w' => e = .returned (.tuple #[]) ∧ w'.heap[p]? = some (.cells (hashV s 0 (.slice none 0 0) (fill32 S 8) (fill64 S 8)) 109 (0, 0)) ∧ Fr (· = p) w w' := by
  have HS := Lib.hid hS
  clear hS
  go_enter Tryd.func85, Tryd.ntmps85
  have c15 : w.cell? ⟨p, 15, none⟩ = some (.int .i64 n) := (blk_cell hp 15).trans (hash_at15 _ _ _ _ _ hs)
  have c16 : w.cell? ⟨p, 16, none⟩ = some rest := (blk_cell hp 16).trans (hash_at16 _ _ _ _ _ hs)
  have f15 : w.frozen? ⟨p, 15, none⟩ = false := blk_frozen hp _
  have f16 : w.frozen? ⟨p, 16, none⟩ = false := blk_frozen hp _
  go_upto_region 2 with fail
  have R2 : Aside0 (((w.setCell ⟨p, 15, none⟩ (.int .i64 0)).setCell ⟨p, 16, none⟩ (.slice none 0 0)).heap[p]? = some (.cells (hashV s 0 (.slice none 0 0) x y) 109 (0, 0)) ∧ Fr (· = p) w ((w.setCell ⟨p, 15, none⟩ (.int .i64 0)).setCell ⟨p, 16, none⟩ (.slice none 0 0))) :=
    ⟨⟨blk_put (blk_put hp 15 _ (hash_new32 _ _ _ _ _ hs)) 16 _ (hash_newRest _ _ _ _ _ _ hs), ((Fr.refl (· = p) w).setCell ⟨p, 15, none⟩ _ (.inl rfl)).setCell ⟨p, 16, none⟩ _ (.inl rfl)⟩⟩
  clear c15 c16 f15 f16
  generalize (w.setCell ⟨p, 15, none⟩ (.int .i64 0)).setCell ⟨p, 16, none⟩ (.slice none 0 0) = w1 at R2 ⊢
  obtain ⟨a0, a1, a2, a3, a4, a5, a6, a7, ha⟩ := eight_of (show (fill32 S 8).length = 8 by simp [fill32])
  obtain ⟨b0, b1, b2, b3, b4, b5, b6, b7, hb⟩ := eight_of (show (fill64 S 8).length = 8 by simp [fill64])
  have ka : cells32 [a0, a1, a2, a3, a4, a5, a6, a7] = #[.int .u32 a0, .int .u32 a1, .int .u32 a2, .int .u32 a3, .int .u32 a4, .int .u32 a5, .int .u32 a6, .int .u32 a7] := rfl
  have kb : cells64 [b0, b1, b2, b3, b4, b5, b6, b7] = #[.int .u64 b0, .int .u64 b1, .int .u64 b2, .int .u64 b3, .int .u64 b4, .int .u64 b5, .int .u64 b6, .int .u64 b7] := rfl
  go_wp2_with (first
    | (go_at_call 99; refine (narrow_c _).mono ?_; rintro e w2 ⟨rfl, hb2⟩; have R3 := Aside0.mk (And.intro (blk_below R2.out.1 hb2) (R2.out.2.then_below hb2)); clear hb2 R2)
    | (go_at_call 101; refine (begin32_c _ S (fun i hi => R3.out.2.cell (HS i hi) (fun e => hpS e.symm))).mono ?_; rintro e w3 ⟨rfl, hb3⟩; have R4 := Aside0.mk (And.intro (blk_below R3.out.1 hb3) (R3.out.2.then_below hb3)); clear hb3 R3; rw [ha, ka])
    | (go_at_call 100; refine (wide_c _).mono ?_; rintro e w4 ⟨rfl, hb4⟩; have R5 := Aside0.mk (And.intro (blk_below R4.out.1 hb4) (R4.out.2.then_below hb4)); clear hb4 R4)
    | (go_at_call 102; refine (begin64_c _ S (fun i hi => R5.out.2.cell (HS i hi) (fun e => hpS e.symm))).mono ?_; rintro e w5 ⟨rfl, hb5⟩; have R6 := Aside0.mk (And.intro (blk_below R5.out.1 hb5) (R5.out.2.then_below hb5)); clear hb5 R5; rw [hb, kb]; have c17 := (blk_cell R6.out.1 17).trans (hash_at32 _ _ _ _ _ hs 0 (by omega)); have f17 := blk_frozen R6.out.1 17; have c18 := (blk_cell R6.out.1 18).trans (hash_at32 _ _ _ _ _ hs 1 (by omega)); have f18 := blk_frozen R6.out.1 18; have c19 := (blk_cell R6.out.1 19).trans (hash_at32 _ _ _ _ _ hs 2 (by omega)); have f19 := blk_frozen R6.out.1 19; have c20 := (blk_cell R6.out.1 20).trans (hash_at32 _ _ _ _ _ hs 3 (by omega)); have f20 := blk_frozen R6.out.1 20; have c21 := (blk_cell R6.out.1 21).trans (hash_at32 _ _ _ _ _ hs 4 (by omega)); have f21 := blk_frozen R6.out.1 21; have c22 := (blk_cell R6.out.1 22).trans (hash_at32 _ _ _ _ _ hs 5 (by omega)); have f22 := blk_frozen R6.out.1 22; have c23 := (blk_cell R6.out.1 23).trans (hash_at32 _ _ _ _ _ hs 6 (by omega)); have f23 := blk_frozen R6.out.1 23; have c24 := (blk_cell R6.out.1 24).trans (hash_at32 _ _ _ _ _ hs 7 (by omega)); have f24 := blk_frozen R6.out.1 24; have c25 := (blk_cell R6.out.1 25).trans (hash_at64 _ _ _ _ _ hs hx 0 (by omega)); have f25 := blk_frozen R6.out.1 25; have c26 := (blk_cell R6.out.1 26).trans (hash_at64 _ _ _ _ _ hs hx 1 (by omega)); have f26 := blk_frozen R6.out.1 26; have c27 := (blk_cell R6.out.1 27).trans (hash_at64 _ _ _ _ _ hs hx 2 (by omega)); have f27 := blk_frozen R6.out.1 27; have c28 := (blk_cell R6.out.1 28).trans (hash_at64 _ _ _ _ _ hs hx 3 (by omega)); have f28 := blk_frozen R6.out.1 28; have c29 := (blk_cell R6.out.1 29).trans (hash_at64 _ _ _ _ _ hs hx 4 (by omega)); have f29 := blk_frozen R6.out.1 29; have c30 := (blk_cell R6.out.1 30).trans (hash_at64 _ _ _ _ _ hs hx 5 (by omega)); have f30 := blk_frozen R6.out.1 30; have c31 := (blk_cell R6.out.1 31).trans (hash_at64 _ _ _ _ _ hs hx 6 (by omega)); have f31 := blk_frozen R6.out.1 31; have c32 := (blk_cell R6.out.1 32).trans (hash_at64 _ _ _ _ _ hs hx 7 (by omega)); have f32 := blk_frozen R6.out.1 32))
  obtain ⟨x0, x1, x2, x3, x4, x5, x6, x7, rfl⟩ := eight_of hx
  obtain ⟨y0, y1, y2, y3, y4, y5, y6, y7, rfl⟩ := eight_of hy
  have Q1 := stored64 (s := s) hs rfl (stored32 (s := s) hs R6.out.1 a0 a1 a2 a3 a4 a5 a6 a7) b0 b1 b2 b3 b4 b5 b6 b7
  have Q2 := Fr.stored64 (Fr.stored32 R6.out.2 rfl a0 a1 a2 a3 a4 a5 a6 a7) rfl b0 b1 b2 b3 b4 b5 b6 b7
  (try simp only [Exit.inBlock, Exit.then]); first | refine bodyPost_end (results_none rfl _ _ _) rfl ?_ | refine bodyPost_ret (results_none rfl _ _ _) rfl ?_
  exact ⟨rfl, by rw [ha, hb]; exact Q1, Q2⟩
theorem blocks32_from (K hs t : List Int) (q : Nat) : ∀ j, blocks32 K (blocks32 K hs t q) (t.drop (64 * q)) j = blocks32 K hs t (q + j)
  | 0 => rfl
  | j + 1 => by
    rw [show q + (j + 1) = (q + j) + 1 by omega]
    unfold blocks32
    rw [blocks32_from K hs t q j, List.drop_drop, show 64 * q + 64 * j = 64 * (q + j) by omega]
theorem blocks32_congr (K hs t b : List Int) : ∀ k, 64 * k ≤ t.length → blocks32 K hs (t ++ b) k = blocks32 K hs t k
  | 0, _ => rfl
  | k + 1, h => by
    unfold blocks32
    rw [blocks32_congr K hs t b k (by omega), List.drop_append_of_le_length (by omega), List.take_append_of_le_length (by rw [List.length_drop]; omega)]
/-- How many bytes a block has. -/
def bl (_wide : Bool) : Nat := 64
def shV (_wide : Bool) : Array Value := narrowV
/-- The words of either width behind q blocks of a text. -/
def W32 (_wide : Bool) (K S t : List Int) (q : Nat) : List Int := blocks32 K (fill32 S 8) t q
def W64 (_wide : Bool) (_K S _t : List Int) (_q : Nat) : List Int := fill64 S 8
theorem shV_size (wide : Bool) : (shV wide).size = 15 := rfl
theorem W32_length (wide : Bool) (K S t : List Int) (q : Nat) : (W32 wide K S t q).length = 8 := by
  unfold W32
  rw [blocks32_length]
  exact fill32_length S 8
theorem W64_length (wide : Bool) (K S t : List Int) (q : Nat) : (W64 wide K S t q).length = 8 := fill64_length S 8
theorem W32_congr (wide : Bool) (K S t b : List Int) (k : Nat) (h : bl wide * k ≤ t.length) : W32 wide K S (t ++ b) k = W32 wide K S t k := by
  have h' : 64 * k ≤ t.length := by simpa [bl] using h
  unfold W32
  exact blocks32_congr K _ t b k h'
theorem W64_congr (wide : Bool) (K S t b : List Int) (k : Nat) (_h : bl wide * k ≤ t.length) : W64 wide K S (t ++ b) k = W64 wide K S t k := by
  unfold W64
  rfl
theorem W32_none (wide : Bool) (K S t : List Int) : W32 wide K S t 0 = fill32 S 8 := by simp [W32, blocks32]
theorem W64_none (wide : Bool) (K S t : List Int) : W64 wide K S t 0 = fill64 S 8 := by simp [W64]
theorem bl_le (wide : Bool) (n : Nat) : bl wide * (n / bl wide) ≤ n := Nat.mul_div_le n (bl wide)
theorem bl_rest (wide : Bool) (t : List Int) : (t.drop (bl wide * (t.length / bl wide))).length = t.length % bl wide := by rw [List.length_drop, Nat.mod_eq_sub]
theorem take_c (wide : Bool) (p q : Nat) (n : Int) (rest : Value) (A : Option Addr) (m c : Nat) (t K S : List Int) (w : World) (hq : bl wide * q ≤ t.length) (hm : m = t.length - bl wide * q)
    (hp : w.heap[p]? = some (.cells (hashV (shV wide) n rest (W32 wide K S t q) (W64 wide K S t q)) 109 (0, 0))) (hb : Kd.C (Kd.int .u8) w A m (t.drop (bl wide * q))) (hc : m ≤ c) (hcm : c ≤ 9223372036854775807) (ha : Away p A m) (hbd : ∀ i, 0 ≤ t.getD i 0 ∧ t.getD i 0 < 256)
    (hK : ∀ i, i < 80 → w.cell? ⟨1, i, none⟩ = some (.int .u64 (K.getD i 0))) (hpK : p ≠ 1) :
    Calls Tryd.prog 86 #[.pointer (some ⟨p, 0, none⟩), .slice A m c] w fun e w' => ∃ A' c', e = .returned (.slice A' (t.length % bl wide) c') ∧ t.length % bl wide ≤ c' ∧ Kd.C (Kd.int .u8) w' A' (t.length % bl wide) (t.drop (bl wide * (t.length / bl wide))) ∧ Away p A' (t.length % bl wide) ∧
      w'.heap[p]? = some (.cells (hashV (shV wide) n rest (W32 wide K S t (t.length / bl wide)) (W64 wide K S t (t.length / bl wide))) 109 (0, 0)) ∧ Fr (· = p) w w' := by
  have hbd' : ∀ k i, 0 ≤ (t.drop k).getD i 0 ∧ (t.drop k).getD i 0 < 256 := fun k i => by
    rw [List.getD_eq_getElem?_getD, List.getElem?_drop, ← List.getD_eq_getElem?_getD]
    exact hbd _
  have hl : m = (t.drop (bl wide * q)).length := by rw [List.length_drop]; exact hm
  simp only [bl, shV, W32, W64] at *
  have e1 : (t.drop (64 * q)).length % 64 = t.length % 64 := by rw [List.length_drop]; omega
  have e2 : q + (t.drop (64 * q)).length / 64 = t.length / 64 := by rw [List.length_drop]; omega
  have e3 : (t.drop (64 * q)).drop (64 * ((t.drop (64 * q)).length / 64)) = t.drop (64 * (t.length / 64)) := by rw [List.drop_drop, ← e2, Nat.mul_add]
  have h := take32_c p (blocks32 K (fill32 S 8) t q) (fill64 S 8) n rest A c (t.drop (64 * q)) K w (by rw [blocks32_length]; exact fill32_length S 8) (fill64_length S 8) hp (hl ▸ hb) (hl ▸ hc) hcm (hl ▸ ha) (hbd' _) hK hpK
  rw [blocks32_from, e1, e2, e3, ← hl] at h
  exact h
/-- The two rows of numbers lie where the program laid them. -/
structure Laid (K S : List Int) (w : World) : Prop where
  k : ∀ i, i < 80 → w.cell? ⟨1, i, none⟩ = some (.int .u64 (K.getD i 0))
  s : ∀ i, i < 8 → w.cell? ⟨0, i, none⟩ = some (.int .u64 (S.getD i 0))
theorem Laid.fr {K S : List Int} {w w' : World} {T : Nat → Prop} (h : Laid K S w) (f : Fr T w w') (h0 : ¬ T 1) (h1 : ¬ T 0) : Laid K S w' := ⟨fun i hi => f.cell (h.k i hi) h0, fun i hi => f.cell (h.s i hi) h1⟩
theorem Laid.below {K S : List Int} {w w' : World} {base : Nat} (h : Laid K S w) (hb : Below base w w') (h0 : 1 < base) (h1 : 0 < base) : Laid K S w' := by
  refine ⟨fun i hi => ?_, fun i hi => ?_⟩
  · have := h.k i hi; unfold World.cell? at *; rw [hb.block _ h0]; exact this
  have := h.s i hi; unfold World.cell? at *; rw [hb.block _ h1]; exact this
/-- At block p lies the hash of text t; its rest is the row v of its own. -/
structure HashAt (base : Nat) (wide : Bool) (K S t : List Int) (p : Nat) (v : Value) (w : World) : Prop where
  cells : w.heap[p]? = some (.cells (hashV (shV wide) t.length v (W32 wide K S t (t.length / bl wide)) (W64 wide K S t (t.length / bl wide))) 109 (0, 0))
  row : Kd.R (Kd.int .u8) 5 w base (fun k => k ≠ p) v (t.drop (bl wide * (t.length / bl wide)))
  hbase : base ≤ p
  g0 : 1 < base
  g1 : 0 < base
  most : t.length ≤ 1048576
  bytes : ∀ i, 0 ≤ t.getD i 0 ∧ t.getD i 0 < 256
theorem R_moved {k : IntKind} {e base : Nat} {w w' : World} {ok : Nat → Prop} {v : Value} {xs : List Int} (h : Kd.R (Kd.int k) e w base ok v xs) (hb : ∀ i, v.ownBlock = some i → w'.heap[i]? = w.heap[i]?) : Kd.R (Kd.int k) e w' base ok v xs := by
  have ho := Kd.own_of_R (enc := Value.int k) (h1 := fun _ => rfl) h
  refine Kd.R_of_own (enc := Value.int k) (h1 := fun _ => rfl) ⟨ho.1, ?_⟩ h.1
  rcases ho.2 with hn | ⟨g, cap, cur, rfl, h0, hg, h2⟩
  · exact .inl hn
  exact .inr ⟨g, cap, cur, rfl, h0, by rw [hb g rfl]; exact hg, h2⟩
end Go.Proofs.YtdpdmmbdoeefbaaDoor.H
