/- Constants, starts, paddings. -/
import Derived.Test.YtbenedckmapjoaaDoorJ3
namespace Go.Proofs.YtbenedckmapjoaaDoor.H
open Go.RowKit Go.Proofs.YtbenedckmapjoaaDoorW.PrintWords
end Go.Proofs.YtbenedckmapjoaaDoor.H
namespace Go.Proofs.YtbenedckmapjoaaDoor.H
open Go.RowKit Go.Proofs.YtbenedckmapjoaaDoorW.PrintWords
/-- A padding of len bytes for a text of n, i bytes of its length told. -/
def padS (n : Int) (len : Nat) : Nat → List Int
  | 0 => (List.replicate len 0).set 0 128
  | i + 1 => (padS n len i).set (len - 1 - i) (8 * n / 2 ^ (8 * i) % 256)
theorem padS_succ (n : Int) (len i : Nat) : padS n len (i + 1) = (padS n len i).set (len - 1 - i) (8 * n / 2 ^ (8 * i) % 256) := rfl
theorem padS_length (n : Int) (len : Nat) : ∀ i, (padS n len i).length = len
  | 0 => by simp [padS]
  | i + 1 => by unfold padS; rw [List.length_set]; exact padS_length n len i
def bytes8 (l : List Int) : Array Value := (l.map (Value.int .u8)).toArray
theorem bytes8_get (l : List Int) (i : Nat) (h : i < l.length) : (bytes8 l)[i]? = some (.int .u8 (l.getD i 0)) := by simp [bytes8, h]
theorem bytes8_set (l : List Int) (i : Nat) (v : Int) : (bytes8 l).setIfInBounds i (.int .u8 v) = bytes8 (l.set i v) := by simp [bytes8, List.map_set]
theorem own_bytes8 {w : World} {base g : Nat} {l : List Int} (h : w.heap[g]? = some (.cells (bytes8 l) 5 (0, 0))) (hb : base ≤ g) (hm : l.length ≤ maxLen) : w.ownsRow base 5 1 (.slice (some ⟨g, 0, none⟩) l.length l.length) l.length (nums .u8 l) :=
  ⟨by rw [nums_length, Nat.mul_one], .inr ⟨g, l.length, bytes8 l, rfl, hb, h, Nat.le_refl _, hm, by simp [bytes8], by rw [Nat.mul_one, List.take_of_length_le (by simp [bytes8])]; simp [bytes8, nums]⟩⟩
theorem bytes8_made (n : Nat) : madeCells #[.int .u8 0] n = bytes8 (List.replicate n 0) := by
  apply Array.toList_inj.1
  rw [toList_madeCells_one]
  simp [bytes8]
def padLen32 (n : Int) : Nat := (9 + (64 - (n + 9) % 64) % 64).toNat
theorem narrow_cells {w : World} {g : Nat} (h : w.heap[g]? = some (.cells narrowV 180 (0, 0))) :
    w.cell? ⟨g, 0, none⟩ = some (.int .i64 4) ∧ w.cell? ⟨g, 1, none⟩ = some (.int .i64 32) ∧ w.cell? ⟨g, 2, none⟩ = some (.int .i64 64) ∧ w.cell? ⟨g, 3, none⟩ = some (.int .i64 7) ∧ w.cell? ⟨g, 4, none⟩ = some (.int .i64 18) ∧ w.cell? ⟨g, 5, none⟩ = some (.int .i64 3) ∧ w.cell? ⟨g, 6, none⟩ = some (.int .i64 17) ∧ w.cell? ⟨g, 7, none⟩ = some (.int .i64 19) ∧ w.cell? ⟨g, 8, none⟩ = some (.int .i64 10) ∧ w.cell? ⟨g, 9, none⟩ = some (.int .i64 2) ∧ w.cell? ⟨g, 10, none⟩ = some (.int .i64 13) ∧ w.cell? ⟨g, 11, none⟩ = some (.int .i64 22) ∧ w.cell? ⟨g, 12, none⟩ = some (.int .i64 6) ∧ w.cell? ⟨g, 13, none⟩ = some (.int .i64 11) ∧ w.cell? ⟨g, 14, none⟩ = some (.int .i64 25) :=
  ⟨(blk_cell h 0).trans rfl, (blk_cell h 1).trans rfl, (blk_cell h 2).trans rfl, (blk_cell h 3).trans rfl, (blk_cell h 4).trans rfl, (blk_cell h 5).trans rfl, (blk_cell h 6).trans rfl, (blk_cell h 7).trans rfl, (blk_cell h 8).trans rfl, (blk_cell h 9).trans rfl, (blk_cell h 10).trans rfl, (blk_cell h 11).trans rfl, (blk_cell h 12).trans rfl, (blk_cell h 13).trans rfl, (blk_cell h 14).trans rfl⟩
def PadP (w : World) (g : Nat) (wr : World) : Prop := wr.heap[g]? = some (.cells narrowV 180 (0, 0)) ∧ Below w.heap.size w wr
theorem PadP.drew {w wr : World} {g : Nat} (h : PadP w g wr) : PadP w g wr.drew := ⟨h.1, below_drew1 h.2⟩
theorem PadP.below {w w1 w2 : World} {g : Nat} (hb : Below w1.heap.size w1 w2) (h : PadP w g w1) : PadP w g w2 := ⟨blk_below h.1 hb, below_step h.2 hb⟩
theorem PadP.alloc {w wr : World} {g : Nat} (h : PadP w g wr) (o : Obj) : PadP w g (wr.alloc o) := ⟨blk_alloc h.1 o, below_alloc h.2 o⟩
theorem PadP.cells {w wr : World} {g : Nat} (h : PadP w g wr) : PadP w g wr ∧ wr.cell? ⟨g, 0, none⟩ = some (.int .i64 4) ∧ wr.cell? ⟨g, 1, none⟩ = some (.int .i64 32) ∧ wr.cell? ⟨g, 2, none⟩ = some (.int .i64 64) ∧ wr.cell? ⟨g, 3, none⟩ = some (.int .i64 7) ∧ wr.cell? ⟨g, 4, none⟩ = some (.int .i64 18) ∧ wr.cell? ⟨g, 5, none⟩ = some (.int .i64 3) ∧ wr.cell? ⟨g, 6, none⟩ = some (.int .i64 17) ∧ wr.cell? ⟨g, 7, none⟩ = some (.int .i64 19) ∧ wr.cell? ⟨g, 8, none⟩ = some (.int .i64 10) ∧ wr.cell? ⟨g, 9, none⟩ = some (.int .i64 2) ∧ wr.cell? ⟨g, 10, none⟩ = some (.int .i64 13) ∧ wr.cell? ⟨g, 11, none⟩ = some (.int .i64 22) ∧ wr.cell? ⟨g, 12, none⟩ = some (.int .i64 6) ∧ wr.cell? ⟨g, 13, none⟩ = some (.int .i64 11) ∧ wr.cell? ⟨g, 14, none⟩ = some (.int .i64 25) := ⟨h, narrow_cells h.1⟩
set_option maxRecDepth 100000 in
set_option maxHeartbeats 2000000 in
theorem Pad256_c (n : Int) (h0 : 0 ≤ n) (h1 : n ≤ 1048576) (w : World) : Calls Tryd.prog 131 #[.int .i64 n, .int .i64 256] w fun e w' => ∃ v, e = .returned (.tuple #[v, .int .i64 0]) ∧ w'.ownsRow w.heap.size 5 1 v (padS n (padLen32 n) 8).length (nums .u8 (padS n (padLen32 n) 8)) ∧ Below w.heap.size w w' := by
  have d0 : decide (n < 0) = false := decide_eq_false (by omega)
  have d1 : decide (1048576 < n) = false := decide_eq_false (by omega)
  go_enter Tryd.func131, Tryd.ntmps131
  go_upto_region 6 with (first
    | (go_at_call 127; refine (of256_c _).mono ?_; rintro e w1 ⟨rfl, hb⟩; have HB := Aside0.mk hb; clear hb)
    | (refine wpList_store_row rfl 180 (.tmp 6) (.tmp 16) rfl w1.heap.size narrowV (by rfl) (by rfl) 180 shape0 (new1 _ _) (by kernel_rfl) (by rfl) narrowV_one ?_; rw [World.setRow_alloc_new]))
  have B0 : Aside0 ((w1.alloc (.cells narrowV 180)).heap[w1.heap.size]? = some (.cells narrowV 180 (0, 0))) := ⟨new1 _ _⟩
  have HB2 := Aside0.mk (below_alloc HB.out (.cells narrowV 180))
  have hs := HB.out.size
  clear HB
  generalize w1.heap.size = g at B0 hs ⊢
  generalize w1.alloc (.cells narrowV 180) = w2 at B0 HB2 ⊢
  have c0 : w2.cell? ⟨g, 0, none⟩ = some (.int .i64 4) := (blk_cell B0.out 0).trans rfl
  go_upto_region 7 with fail
  clear c0
  go_wp2_with (first
    | (refine wpList_load_row rfl 180 (.tmp 6) rfl g (by rfl) 180 narrowV (0, 0) _ B0.out Tryd.underlying180 rfl (by kernel_rfl) ?_)
    | (go_at_call 149; refine (block32_c _).mono ?_; rintro e w3 ⟨rfl, hb⟩; have B3 := Aside0.mk (blk_below B0.out hb); have HB3 := Aside0.mk (below_step HB2.out hb); clear hb B0 HB2))
  have P3 : Aside0 (PadP w g w3) := ⟨⟨B3.out, HB3.out⟩⟩
  clear B3 HB3
  have hr0 : 0 ≤ (n + 9) % 64 := by omega
  have hr1 : (n + 9) % 64 < 64 := by omega
  obtain ⟨L, hL⟩ : ∃ L : Nat, L = padLen32 n := ⟨_, rfl⟩
  have hL1 : (L : Int) = 9 + (64 - (n + 9) % 64) % 64 := by rw [hL]; unfold padLen32; omega
  have HL := Lib.hid hL
  generalize hr : (n + 9) % 64 = r at hr0 hr1 hL1 ⊢
  have hm : ∀ m1, m1 = 64 - r → m1.tmod 64 = m1 % 64 := fun m1 h => Int.tmod_eq_emod_of_nonneg (by omega)
  obtain ⟨m1, hm1⟩ : ∃ m1, m1 = 64 - r := ⟨_, rfl⟩
  obtain ⟨q, hq⟩ : ∃ q, q = m1 % 64 := ⟨_, rfl⟩
  have s1 : IntKind.i64.wrap (64 - r) = m1 := by rw [IntWalk.i64_in _ (by omega)]; omega
  have s2 : Int.tmod m1 64 = q := by rw [hm m1 hm1]; omega
  have s3 : IntKind.i64.wrap q = q := IntWalk.i64_in _ (by omega)
  have s4 : IntKind.i64.wrap (9 + q) = (L : Int) := by rw [IntWalk.i64_in _ (by omega)]; omega
  have l9 : 9 ≤ L := by omega
  have l72 : L ≤ 72 := by omega
  have hmk := print_make (P := Tryd.prog) 30 5 .u8 1 Tryd.underlying30 info_u8 (by decide) L (by omega)
  have HR := Lib.hid hr
  clear hm hm1 hq hL hL1 hr hr0 hr1
  go_region_held3 (fun w' => PadP w g w' ∧ w'.cell? ⟨g, 0, none⟩ = some (.int .i64 4) ∧ w'.cell? ⟨g, 1, none⟩ = some (.int .i64 32) ∧ w'.cell? ⟨g, 2, none⟩ = some (.int .i64 64) ∧ w'.cell? ⟨g, 3, none⟩ = some (.int .i64 7) ∧ w'.cell? ⟨g, 4, none⟩ = some (.int .i64 18) ∧ w'.cell? ⟨g, 5, none⟩ = some (.int .i64 3) ∧ w'.cell? ⟨g, 6, none⟩ = some (.int .i64 17) ∧ w'.cell? ⟨g, 7, none⟩ = some (.int .i64 19) ∧ w'.cell? ⟨g, 8, none⟩ = some (.int .i64 10) ∧ w'.cell? ⟨g, 9, none⟩ = some (.int .i64 2) ∧ w'.cell? ⟨g, 10, none⟩ = some (.int .i64 13) ∧ w'.cell? ⟨g, 11, none⟩ = some (.int .i64 22) ∧ w'.cell? ⟨g, 12, none⟩ = some (.int .i64 6) ∧ w'.cell? ⟨g, 13, none⟩ = some (.int .i64 11) ∧ w'.cell? ⟨g, 14, none⟩ = some (.int .i64 25))
    (first | exact PadP.cells P3.out.drew | exact PadP.cells P3.out | exact PadP.cells (PadP.below hb P3.out.drew) | (go_split_ands; first | exact PadP.cells (PadP.below hb (by assumption)) | exact PadP.cells (PadP.alloc (by assumption) _)))
    (first
      | (go_at_call 149; refine (block32_c _).mono ?_; rintro e w4 ⟨rfl, hb⟩))
  go_split_ands
  have PX : Aside0 (PadP w g (w4.alloc (.cells (madeCells #[.int .u8 0] L) 5))) := ⟨by assumption⟩
  have BL : Aside0 ((w4.alloc (.cells (madeCells #[.int .u8 0] L) 5)).heap[w4.heap.size]? = some (.cells (bytes8 (List.replicate L 0)) 5 (0, 0))) := ⟨by rw [bytes8_made]; exact new1 _ _⟩
  have hg4 : w.heap.size ≤ w4.heap.size := by
    have e1 := blk_ne PX.out.1 BL.out (by decide)
    have e2 := blk_lt PX.out.1
    simp at e2
    omega
  generalize w4.heap.size = gl at BL hg4 ⊢
  generalize w4.alloc (.cells (madeCells #[.int .u8 0] L) 5) = w5 at *
  clear P3 hmk s1 s2 s3 s4 HR
  have cL : w5.cell? ⟨gl, 0, none⟩ = some (.int .u8 0) := by
    rw [blk_cell BL.out, bytes8_get _ _ (by simp; omega), List.getD_eq_getElem?_getD, List.getElem?_replicate, if_pos (by omega)]; rfl
  have fL : w5.frozen? ⟨gl, 0, none⟩ = false := blk_frozen BL.out _
  have l0 : 0 < L := by omega
  go_wp2
  have P0 : Aside0 ((w5.setCell ⟨gl, 0, none⟩ (.int .u8 128)).heap[gl]? = some (.cells (bytes8 (padS n L 0)) 5 (0, 0))) := ⟨blk_put BL.out _ _ (bytes8_set _ _ _)⟩
  have HB5 : Aside0 (Below w.heap.size w (w5.setCell ⟨gl, 0, none⟩ (.int .u8 128))) := ⟨below_set PX.out.2 hg4⟩
  clear PX BL cL fL
  generalize w5.setCell ⟨gl, 0, none⟩ (.int .u8 128) = w6 at P0 HB5 ⊢
  go_loopg [11, 12] 8 (fun m t u wr => ∃ i : Nat, i + m = 8 ∧ t = .int .i64 (i : Int) ∧ u = .int .i64 ((L : Int) - 1 - i) ∧ Aside0 (wr.heap[gl]? = some (.cells (bytes8 (padS n L i)) 5 (0, 0))) ∧ Aside0 (Below w.heap.size w wr))
  case atStart => exact ⟨0, by omega, rfl, by simp, P0, HB5⟩
  case round =>
    clear P0 HB5
    obtain ⟨i, hi', rfl, rfl, BL, HB⟩ := hrel
    by_cases hlt : i < 8
    · obtain ⟨k, hk⟩ : ∃ k : Nat, k = L - 1 - i := ⟨_, rfl⟩
      have hkL : k < L := by omega
      have ek : ((L : Int) - 1 - i) = (k : Int) := by omega
      rw [ek]
      have HK := Lib.hid hk
      have HK2 := Lib.hid ek
      have HI := Lib.hid hi'
      have hg8 : gk ≤ 8 := by omega
      clear hk ek hi'
      have cL : wr.cell? ⟨gl, k, none⟩ = some (.int .u8 ((padS n L i).getD k 0)) := (blk_cell BL.out k).trans (bytes8_get _ _ (by rw [padS_length]; omega))
      have fL : wr.frozen? ⟨gl, k, none⟩ = false := blk_frozen BL.out _
      generalize (padS n L i).getD k 0 = A at cL
      go_wp2
      go_roundg (gk - 1)
      case measure => have := HI.out; omega
      case rel =>
        refine ⟨i + 1, by have := HI.out; omega, by go_num, ?_, ⟨blk_put BL.out _ _ ?_⟩, ⟨below_set HB.out hg4⟩⟩
        · have := HK2.out
          rw [show (k : Int) - 1 = (L : Int) - 1 - ((i + 1 : Nat) : Int) by omega]
        · rw [bytes8_set]
          rw [padS_succ, ← HK.out]
    · obtain rfl : i = 8 := by omega
      go_wp2
      go_ret2
      have hl := padS_length n L 8
      refine ⟨.slice (some ⟨gl, 0, none⟩) L L, rfl, ?_, HB.out⟩
      rw [← HL.out]
      have ho := own_bytes8 (base := w.heap.size) BL.out hg4 (by rw [hl]; unfold maxLen; omega)
      rwa [hl] at ho ⊢
end Go.Proofs.YtbenedckmapjoaaDoor.H
namespace Go.Proofs.YtbenedckmapjoaaDoor.H
open Go.RowKit Go.Proofs.YtbenedckmapjoaaDoorW.PrintWords
def padLen64 (n : Int) : Nat := (17 + (128 - (n + 17) % 128) % 128).toNat
theorem wide_cells {w : World} {g : Nat} (h : w.heap[g]? = some (.cells wideV 180 (0, 0))) :
    w.cell? ⟨g, 0, none⟩ = some (.int .i64 8) ∧ w.cell? ⟨g, 1, none⟩ = some (.int .i64 64) ∧ w.cell? ⟨g, 2, none⟩ = some (.int .i64 80) ∧ w.cell? ⟨g, 3, none⟩ = some (.int .i64 1) ∧ w.cell? ⟨g, 4, none⟩ = some (.int .i64 8) ∧ w.cell? ⟨g, 5, none⟩ = some (.int .i64 7) ∧ w.cell? ⟨g, 6, none⟩ = some (.int .i64 19) ∧ w.cell? ⟨g, 7, none⟩ = some (.int .i64 61) ∧ w.cell? ⟨g, 8, none⟩ = some (.int .i64 6) ∧ w.cell? ⟨g, 9, none⟩ = some (.int .i64 28) ∧ w.cell? ⟨g, 10, none⟩ = some (.int .i64 34) ∧ w.cell? ⟨g, 11, none⟩ = some (.int .i64 39) ∧ w.cell? ⟨g, 12, none⟩ = some (.int .i64 14) ∧ w.cell? ⟨g, 13, none⟩ = some (.int .i64 18) ∧ w.cell? ⟨g, 14, none⟩ = some (.int .i64 41) :=
  ⟨(blk_cell h 0).trans rfl, (blk_cell h 1).trans rfl, (blk_cell h 2).trans rfl, (blk_cell h 3).trans rfl, (blk_cell h 4).trans rfl, (blk_cell h 5).trans rfl, (blk_cell h 6).trans rfl, (blk_cell h 7).trans rfl, (blk_cell h 8).trans rfl, (blk_cell h 9).trans rfl, (blk_cell h 10).trans rfl, (blk_cell h 11).trans rfl, (blk_cell h 12).trans rfl, (blk_cell h 13).trans rfl, (blk_cell h 14).trans rfl⟩
def PadQ (w : World) (g : Nat) (wr : World) : Prop := wr.heap[g]? = some (.cells wideV 180 (0, 0)) ∧ Below w.heap.size w wr
theorem PadQ.drew {w wr : World} {g : Nat} (h : PadQ w g wr) : PadQ w g wr.drew := ⟨h.1, below_drew1 h.2⟩
theorem PadQ.below {w w1 w2 : World} {g : Nat} (hb : Below w1.heap.size w1 w2) (h : PadQ w g w1) : PadQ w g w2 := ⟨blk_below h.1 hb, below_step h.2 hb⟩
theorem PadQ.alloc {w wr : World} {g : Nat} (h : PadQ w g wr) (o : Obj) : PadQ w g (wr.alloc o) := ⟨blk_alloc h.1 o, below_alloc h.2 o⟩
theorem PadQ.cells {w wr : World} {g : Nat} (h : PadQ w g wr) : PadQ w g wr ∧ wr.cell? ⟨g, 0, none⟩ = some (.int .i64 8) ∧ wr.cell? ⟨g, 1, none⟩ = some (.int .i64 64) ∧ wr.cell? ⟨g, 2, none⟩ = some (.int .i64 80) ∧ wr.cell? ⟨g, 3, none⟩ = some (.int .i64 1) ∧ wr.cell? ⟨g, 4, none⟩ = some (.int .i64 8) ∧ wr.cell? ⟨g, 5, none⟩ = some (.int .i64 7) ∧ wr.cell? ⟨g, 6, none⟩ = some (.int .i64 19) ∧ wr.cell? ⟨g, 7, none⟩ = some (.int .i64 61) ∧ wr.cell? ⟨g, 8, none⟩ = some (.int .i64 6) ∧ wr.cell? ⟨g, 9, none⟩ = some (.int .i64 28) ∧ wr.cell? ⟨g, 10, none⟩ = some (.int .i64 34) ∧ wr.cell? ⟨g, 11, none⟩ = some (.int .i64 39) ∧ wr.cell? ⟨g, 12, none⟩ = some (.int .i64 14) ∧ wr.cell? ⟨g, 13, none⟩ = some (.int .i64 18) ∧ wr.cell? ⟨g, 14, none⟩ = some (.int .i64 41) := ⟨h, wide_cells h.1⟩
set_option maxRecDepth 100000 in
set_option maxHeartbeats 2000000 in
theorem Pad512_c (n : Int) (h0 : 0 ≤ n) (h1 : n ≤ 1048576) (w : World) : Calls Tryd.prog 131 #[.int .i64 n, .int .i64 512] w fun e w' => ∃ v, e = .returned (.tuple #[v, .int .i64 0]) ∧ w'.ownsRow w.heap.size 5 1 v (padS n (padLen64 n) 8).length (nums .u8 (padS n (padLen64 n) 8)) ∧ Below w.heap.size w w' := by
  have d0 : decide (n < 0) = false := decide_eq_false (by omega)
  have d1 : decide (1048576 < n) = false := decide_eq_false (by omega)
  go_enter Tryd.func131, Tryd.ntmps131
  go_upto_region 6 with (first
    | (go_at_call 127; refine (of512_c _).mono ?_; rintro e w1 ⟨rfl, hb⟩; have HB := Aside0.mk hb; clear hb)
    | (refine wpList_store_row rfl 180 (.tmp 6) (.tmp 16) rfl w1.heap.size wideV (by rfl) (by rfl) 180 shape0 (new1 _ _) (by kernel_rfl) (by rfl) wideV_one ?_; rw [World.setRow_alloc_new]))
  have B0 : Aside0 ((w1.alloc (.cells wideV 180)).heap[w1.heap.size]? = some (.cells wideV 180 (0, 0))) := ⟨new1 _ _⟩
  have HB2 := Aside0.mk (below_alloc HB.out (.cells wideV 180))
  have hs := HB.out.size
  clear HB
  generalize w1.heap.size = g at B0 hs ⊢
  generalize w1.alloc (.cells wideV 180) = w2 at B0 HB2 ⊢
  have c0 : w2.cell? ⟨g, 0, none⟩ = some (.int .i64 8) := (blk_cell B0.out 0).trans rfl
  go_upto_region 7 with fail
  clear c0
  go_wp2_with (first
    | (refine wpList_load_row rfl 180 (.tmp 6) rfl g (by rfl) 180 wideV (0, 0) _ B0.out Tryd.underlying180 rfl (by kernel_rfl) ?_)
    | (go_at_call 149; refine (block64_c _).mono ?_; rintro e w3 ⟨rfl, hb⟩; have B3 := Aside0.mk (blk_below B0.out hb); have HB3 := Aside0.mk (below_step HB2.out hb); clear hb B0 HB2))
  have P3 : Aside0 (PadQ w g w3) := ⟨⟨B3.out, HB3.out⟩⟩
  clear B3 HB3
  have hr0 : 0 ≤ (n + 17) % 128 := by omega
  have hr1 : (n + 17) % 128 < 128 := by omega
  obtain ⟨L, hL⟩ : ∃ L : Nat, L = padLen64 n := ⟨_, rfl⟩
  have hL1 : (L : Int) = 17 + (128 - (n + 17) % 128) % 128 := by rw [hL]; unfold padLen64; omega
  have HL := Lib.hid hL
  generalize hr : (n + 17) % 128 = r at hr0 hr1 hL1 ⊢
  have hm : ∀ m1, m1 = 128 - r → m1.tmod 128 = m1 % 128 := fun m1 h => Int.tmod_eq_emod_of_nonneg (by omega)
  obtain ⟨m1, hm1⟩ : ∃ m1, m1 = 128 - r := ⟨_, rfl⟩
  obtain ⟨q, hq⟩ : ∃ q, q = m1 % 128 := ⟨_, rfl⟩
  have s1 : IntKind.i64.wrap (128 - r) = m1 := by rw [IntWalk.i64_in _ (by omega)]; omega
  have s2 : Int.tmod m1 128 = q := by rw [hm m1 hm1]; omega
  have s3 : IntKind.i64.wrap q = q := IntWalk.i64_in _ (by omega)
  have s4 : IntKind.i64.wrap (17 + q) = (L : Int) := by rw [IntWalk.i64_in _ (by omega)]; omega
  have l9 : 17 ≤ L := by omega
  have l72 : L ≤ 144 := by omega
  have hmk := print_make (P := Tryd.prog) 30 5 .u8 1 Tryd.underlying30 info_u8 (by decide) L (by omega)
  have HR := Lib.hid hr
  clear hm hm1 hq hL hL1 hr hr0 hr1
  go_region_held3 (fun w' => PadQ w g w' ∧ w'.cell? ⟨g, 0, none⟩ = some (.int .i64 8) ∧ w'.cell? ⟨g, 1, none⟩ = some (.int .i64 64) ∧ w'.cell? ⟨g, 2, none⟩ = some (.int .i64 80) ∧ w'.cell? ⟨g, 3, none⟩ = some (.int .i64 1) ∧ w'.cell? ⟨g, 4, none⟩ = some (.int .i64 8) ∧ w'.cell? ⟨g, 5, none⟩ = some (.int .i64 7) ∧ w'.cell? ⟨g, 6, none⟩ = some (.int .i64 19) ∧ w'.cell? ⟨g, 7, none⟩ = some (.int .i64 61) ∧ w'.cell? ⟨g, 8, none⟩ = some (.int .i64 6) ∧ w'.cell? ⟨g, 9, none⟩ = some (.int .i64 28) ∧ w'.cell? ⟨g, 10, none⟩ = some (.int .i64 34) ∧ w'.cell? ⟨g, 11, none⟩ = some (.int .i64 39) ∧ w'.cell? ⟨g, 12, none⟩ = some (.int .i64 14) ∧ w'.cell? ⟨g, 13, none⟩ = some (.int .i64 18) ∧ w'.cell? ⟨g, 14, none⟩ = some (.int .i64 41))
    (first | exact PadQ.cells P3.out.drew | exact PadQ.cells P3.out | exact PadQ.cells (PadQ.below hb P3.out.drew) | (go_split_ands; first | exact PadQ.cells (PadQ.below hb (by assumption)) | exact PadQ.cells (PadQ.alloc (by assumption) _)))
    (first
      | (go_at_call 149; refine (block64_c _).mono ?_; rintro e w4 ⟨rfl, hb⟩))
  go_split_ands
  have PX : Aside0 (PadQ w g (w4.alloc (.cells (madeCells #[.int .u8 0] L) 5))) := ⟨by assumption⟩
  have BL : Aside0 ((w4.alloc (.cells (madeCells #[.int .u8 0] L) 5)).heap[w4.heap.size]? = some (.cells (bytes8 (List.replicate L 0)) 5 (0, 0))) := ⟨by rw [bytes8_made]; exact new1 _ _⟩
  have hg4 : w.heap.size ≤ w4.heap.size := by
    have e1 := blk_ne PX.out.1 BL.out (by decide)
    have e2 := blk_lt PX.out.1
    simp at e2
    omega
  generalize w4.heap.size = gl at BL hg4 ⊢
  generalize w4.alloc (.cells (madeCells #[.int .u8 0] L) 5) = w5 at *
  clear P3 hmk s1 s2 s3 s4 HR
  have cL : w5.cell? ⟨gl, 0, none⟩ = some (.int .u8 0) := by
    rw [blk_cell BL.out, bytes8_get _ _ (by simp; omega), List.getD_eq_getElem?_getD, List.getElem?_replicate, if_pos (by omega)]; rfl
  have fL : w5.frozen? ⟨gl, 0, none⟩ = false := blk_frozen BL.out _
  have l0 : 0 < L := by omega
  go_wp2
  have P0 : Aside0 ((w5.setCell ⟨gl, 0, none⟩ (.int .u8 128)).heap[gl]? = some (.cells (bytes8 (padS n L 0)) 5 (0, 0))) := ⟨blk_put BL.out _ _ (bytes8_set _ _ _)⟩
  have HB5 : Aside0 (Below w.heap.size w (w5.setCell ⟨gl, 0, none⟩ (.int .u8 128))) := ⟨below_set PX.out.2 hg4⟩
  clear PX BL cL fL
  generalize w5.setCell ⟨gl, 0, none⟩ (.int .u8 128) = w6 at P0 HB5 ⊢
  go_loopg [11, 12] 8 (fun m t u wr => ∃ i : Nat, i + m = 8 ∧ t = .int .i64 (i : Int) ∧ u = .int .i64 ((L : Int) - 1 - i) ∧ Aside0 (wr.heap[gl]? = some (.cells (bytes8 (padS n L i)) 5 (0, 0))) ∧ Aside0 (Below w.heap.size w wr))
  case atStart => exact ⟨0, by omega, rfl, by simp, P0, HB5⟩
  case round =>
    clear P0 HB5
    obtain ⟨i, hi', rfl, rfl, BL, HB⟩ := hrel
    by_cases hlt : i < 8
    · obtain ⟨k, hk⟩ : ∃ k : Nat, k = L - 1 - i := ⟨_, rfl⟩
      have hkL : k < L := by omega
      have ek : ((L : Int) - 1 - i) = (k : Int) := by omega
      rw [ek]
      have HK := Lib.hid hk
      have HK2 := Lib.hid ek
      have HI := Lib.hid hi'
      have hg8 : gk ≤ 8 := by omega
      clear hk ek hi'
      have cL : wr.cell? ⟨gl, k, none⟩ = some (.int .u8 ((padS n L i).getD k 0)) := (blk_cell BL.out k).trans (bytes8_get _ _ (by rw [padS_length]; omega))
      have fL : wr.frozen? ⟨gl, k, none⟩ = false := blk_frozen BL.out _
      generalize (padS n L i).getD k 0 = A at cL
      go_wp2
      go_roundg (gk - 1)
      case measure => have := HI.out; omega
      case rel =>
        refine ⟨i + 1, by have := HI.out; omega, by go_num, ?_, ⟨blk_put BL.out _ _ ?_⟩, ⟨below_set HB.out hg4⟩⟩
        · have := HK2.out
          rw [show (k : Int) - 1 = (L : Int) - 1 - ((i + 1 : Nat) : Int) by omega]
        · rw [bytes8_set]
          rw [padS_succ, ← HK.out]
    · obtain rfl : i = 8 := by omega
      go_wp2
      go_ret2
      have hl := padS_length n L 8
      refine ⟨.slice (some ⟨gl, 0, none⟩) L L, rfl, ?_, HB.out⟩
      rw [← HL.out]
      have ho := own_bytes8 (base := w.heap.size) BL.out hg4 (by rw [hl]; unfold maxLen; omega)
      rwa [hl] at ho ⊢
/-- No padding: another number of digits, or a length below 0. -/
theorem PadArg_c (n bits : Int) (h : (bits ≠ 256 ∧ bits ≠ 512) ∨ n < 0) (w : World) : Calls Tryd.prog 131 #[.int .i64 n, .int .i64 bits] w fun e w' => e = .returned (.tuple #[.slice none 0 0, .int .i64 1]) ∧ Below w.heap.size w w' := by
  by_cases hb : bits ≠ 256 ∧ bits ≠ 512
  · clear h
    go_enter Tryd.func131, Tryd.ntmps131
    go_wp2_with (first
      | (go_at_call 127; refine (ofNo_c _ _ hb.1 hb.2).mono ?_; rintro e w1 ⟨rfl, hB⟩; have HB := Aside0.mk hB; clear hB)
      | (refine wpList_store_row rfl 180 (.tmp 6) (.tmp 16) rfl w1.heap.size shape0 (by rfl) (by rfl) 180 shape0 (new1 _ _) (by kernel_rfl) (by rfl) shape0_one ?_; rw [World.setRow_alloc_new]))
    go_ret2
    exact ⟨rfl, below_alloc HB.out _⟩
  · have hn : n < 0 := by omega
    have d0 : decide (n < 0) = true := decide_eq_true hn
    have hb' : bits = 256 ∨ bits = 512 := by omega
    clear h hb hn
    rcases hb' with rfl | rfl
    · go_enter Tryd.func131, Tryd.ntmps131
      go_wp2_with (first
        | (go_at_call 127; refine (of256_c _).mono ?_; rintro e w1 ⟨rfl, hB⟩; have HB := Aside0.mk hB; clear hB)
        | (refine wpList_store_row rfl 180 (.tmp 6) (.tmp 16) rfl w1.heap.size narrowV (by rfl) (by rfl) 180 shape0 (new1 _ _) (by kernel_rfl) (by rfl) narrowV_one ?_; rw [World.setRow_alloc_new]))
      go_ret2
      exact ⟨rfl, below_alloc HB.out _⟩
    · go_enter Tryd.func131, Tryd.ntmps131
      go_wp2_with (first
        | (go_at_call 127; refine (of512_c _).mono ?_; rintro e w1 ⟨rfl, hB⟩; have HB := Aside0.mk hB; clear hB)
        | (refine wpList_store_row rfl 180 (.tmp 6) (.tmp 16) rfl w1.heap.size wideV (by rfl) (by rfl) 180 shape0 (new1 _ _) (by kernel_rfl) (by rfl) wideV_one ?_; rw [World.setRow_alloc_new]))
      go_ret2
      exact ⟨rfl, below_alloc HB.out _⟩
/-- A text too long for a padding. -/
theorem PadLong_c (n bits : Int) (h : bits = 256 ∨ bits = 512) (hn : 1048576 < n) (w : World) : Calls Tryd.prog 131 #[.int .i64 n, .int .i64 bits] w fun e w' => e = .returned (.tuple #[.slice none 0 0, .int .i64 2]) ∧ Below w.heap.size w w' := by
  have d0 : decide (n < 0) = false := decide_eq_false (by omega)
  have d1 : decide (1048576 < n) = true := decide_eq_true hn
  clear hn
  rcases h with rfl | rfl
  · go_enter Tryd.func131, Tryd.ntmps131
    go_wp2_with (first
      | (go_at_call 127; refine (of256_c _).mono ?_; rintro e w1 ⟨rfl, hB⟩; have HB := Aside0.mk hB; clear hB)
      | (refine wpList_store_row rfl 180 (.tmp 6) (.tmp 16) rfl w1.heap.size narrowV (by rfl) (by rfl) 180 shape0 (new1 _ _) (by kernel_rfl) (by rfl) narrowV_one ?_; rw [World.setRow_alloc_new]))
    go_ret2
    exact ⟨rfl, below_alloc HB.out _⟩
  · go_enter Tryd.func131, Tryd.ntmps131
    go_wp2_with (first
      | (go_at_call 127; refine (of512_c _).mono ?_; rintro e w1 ⟨rfl, hB⟩; have HB := Aside0.mk hB; clear hB)
      | (refine wpList_store_row rfl 180 (.tmp 6) (.tmp 16) rfl w1.heap.size wideV (by rfl) (by rfl) 180 shape0 (new1 _ _) (by kernel_rfl) (by rfl) wideV_one ?_; rw [World.setRow_alloc_new]))
    go_ret2
    exact ⟨rfl, below_alloc HB.out _⟩
end Go.Proofs.YtbenedckmapjoaaDoor.H
