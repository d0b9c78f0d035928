/- A block is put to the words. -/
import Derived.Test.YtbenedckmapjoaaDoorJ1
namespace Go.Proofs.YtbenedckmapjoaaDoor.H
open Go.RowKit Go.Proofs.YtbenedckmapjoaaDoorW.PrintWords
/-- What holds of the world in mix' loops. -/
def Mix32 (w : World) (gw gv : Nat) (W hs v : List Int) (wr : World) : Prop :=
  wr.heap[w.heap.size]? = some (.cells narrowV 180 (0, 0)) ∧ wr.heap[w.heap.size + 1]? = some (.cells (cells32 hs) 184 (0, 0)) ∧ wr.heap[w.heap.size + 1 + 1]? = some (.cells (cells32 (List.replicate 8 0)) 184 (0, 0)) ∧
  wr.heap[gw]? = some (.cells (cells32 W) 210 (0, 0)) ∧ wr.heap[gv]? = some (.cells (cells32 v) 184 (0, 0)) ∧ Below w.heap.size w wr
theorem Mix32.drew {w wr : World} {gw gv : Nat} {W hs v : List Int} (h : Mix32 w gw gv W hs v wr) : Mix32 w gw gv W hs v wr.drew := ⟨h.1, h.2.1, h.2.2.1, h.2.2.2.1, h.2.2.2.2.1, below_drew1 h.2.2.2.2.2⟩
theorem Mix32.drewN {w wr : World} {gw gv : Nat} {W hs v : List Int} (h : Mix32 w gw gv W hs v wr) (n : Nat) : Mix32 w gw gv W hs v (wr.drewN n) := ⟨h.1, h.2.1, h.2.2.1, h.2.2.2.1, h.2.2.2.2.1, pw_below_drewN h.2.2.2.2.2 n⟩
theorem Mix32.below {w w1 w2 : World} {gw gv : Nat} {W hs v : List Int} (hb : Below w1.heap.size w1 w2) (h : Mix32 w gw gv W hs v w1) : Mix32 w gw gv W hs v w2 :=
  ⟨blk_below h.1 hb, blk_below h.2.1 hb, blk_below h.2.2.1 hb, blk_below h.2.2.2.1 hb, blk_below h.2.2.2.2.1 hb, below_step h.2.2.2.2.2 hb⟩
theorem Mix32.stored {w wr : World} {gw gv : Nat} {W hs v : List Int} (h1 : w.heap.size + 3 ≤ gw) (h2 : gw < gv) (h : Mix32 w gw gv W hs v wr) (v' : List Int) : Mix32 w gw gv W hs v' (wr.setRow gv (cells32 v')) :=
  ⟨(setRow_other _ _ _ _ (by omega)).trans h.1, (setRow_other _ _ _ _ (by omega)).trans h.2.1, (setRow_other _ _ _ _ (by omega)).trans h.2.2.1, (setRow_other _ _ _ _ (by omega)).trans h.2.2.2.1, setRow_heap _ _ _ _ _ _ h.2.2.2.2.1, below_setRow h.2.2.2.2.2 (by omega) _⟩
/-- The eight words, the first n of a round's end put to them. -/
def add32 (hs v : List Int) : Nat → List Int
  | 0 => hs
  | n + 1 => (add32 hs v n).set n (((add32 hs v n).getD n 0 + v.getD n 0) % 4294967296)
theorem add32_length (hs v : List Int) : ∀ n, (add32 hs v n).length = hs.length
  | 0 => rfl
  | n + 1 => by unfold add32; rw [List.length_set]; exact add32_length hs v n
theorem Mix32.putH {w wr : World} {gw gv : Nat} {W hs v : List Int} (h1 : w.heap.size + 3 ≤ gw) (h2 : gw < gv) (h : Mix32 w gw gv W hs v wr) (n : Nat) (x : Int) : Mix32 w gw gv W (hs.set n x) v (wr.setCell ⟨w.heap.size + 1, n, none⟩ (.int .u32 x)) :=
  ⟨blk_far h.1 (by simp) _, blk_put h.2.1 _ _ (cells32_set _ _ _), blk_far h.2.2.1 (by simp) _, blk_far h.2.2.2.1 (by simp; omega) _, blk_far h.2.2.2.2.1 (by simp; omega) _, below_set h.2.2.2.2.2 (by omega)⟩
/-- The two sums of a round. -/
def sumX32 (v4 v5 v6 v7 k x : Int) : Int := IntKind.u32.wrap (IntKind.u32.wrap (IntKind.u32.wrap (IntKind.u32.wrap (v7 + big32 v4 6 11 25) + bits .xor .u32 (bits .and .u32 v4 v5) (bits .and .u32 (bits .xor .u32 IntKind.u32.max v4) v6)) + IntKind.u32.wrap (k / 4294967296)) + x)
def sumY32 (v0 v1 v2 : Int) : Int := big32 v0 2 13 22 + bits .xor .u32 (bits .xor .u32 (bits .and .u32 v0 v1) (bits .and .u32 v0 v2)) (bits .and .u32 v1 v2)
/-- The eight words behind a round. -/
def step32 (v : List Int) (k x : Int) : List Int :=
  match v with
  | [v0, v1, v2, v3, v4, v5, v6, v7] => [(sumX32 v4 v5 v6 v7 k x + sumY32 v0 v1 v2) % 4294967296, v0, v1, v2, (v3 + sumX32 v4 v5 v6 v7 k x) % 4294967296, v4, v5, v6]
  | _ => v
def rounds32 (K W hs : List Int) : Nat → List Int
  | 0 => hs
  | n + 1 => step32 (rounds32 K W hs n) (K.getD n 0) (W.getD n 0)
theorem Mix32.cells {w wr : World} {gw gv : Nat} {W hs K : List Int} {v0 v1 v2 v3 v4 v5 v6 v7 : Int} {n : Nat} (hl : W.length = 80) (hn : n < 80) (hK : ∀ i, i < 80 → w.cell? ⟨8, i, none⟩ = some (.int .u64 (K.getD i 0))) (h : Mix32 w gw gv W hs [v0, v1, v2, v3, v4, v5, v6, v7] wr) :
    Mix32 w gw gv W hs [v0, v1, v2, v3, v4, v5, v6, v7] wr ∧ wr.cell? ⟨w.heap.size, 1, none⟩ = some (.int .i64 32) ∧ wr.cell? ⟨w.heap.size, 9, none⟩ = some (.int .i64 2) ∧ wr.cell? ⟨w.heap.size, 10, none⟩ = some (.int .i64 13) ∧ wr.cell? ⟨w.heap.size, 11, none⟩ = some (.int .i64 22) ∧ wr.cell? ⟨w.heap.size, 12, none⟩ = some (.int .i64 6) ∧ wr.cell? ⟨w.heap.size, 13, none⟩ = some (.int .i64 11) ∧ wr.cell? ⟨w.heap.size, 14, none⟩ = some (.int .i64 25) ∧ wr.cell? ⟨gv, 0, none⟩ = some (.int .u32 v0) ∧ wr.cell? ⟨gv, 1, none⟩ = some (.int .u32 v1) ∧ wr.cell? ⟨gv, 2, none⟩ = some (.int .u32 v2) ∧ wr.cell? ⟨gv, 3, none⟩ = some (.int .u32 v3) ∧ wr.cell? ⟨gv, 4, none⟩ = some (.int .u32 v4) ∧ wr.cell? ⟨gv, 5, none⟩ = some (.int .u32 v5) ∧ wr.cell? ⟨gv, 6, none⟩ = some (.int .u32 v6) ∧ wr.cell? ⟨gv, 7, none⟩ = some (.int .u32 v7) ∧ wr.cell? ⟨gw, n, none⟩ = some (.int .u32 (W.getD n 0)) ∧ wr.cell? ⟨8, n, none⟩ = some (.int .u64 (K.getD n 0)) :=
  ⟨h, (blk_cell h.1 1).trans rfl, (blk_cell h.1 9).trans rfl, (blk_cell h.1 10).trans rfl, (blk_cell h.1 11).trans rfl, (blk_cell h.1 12).trans rfl, (blk_cell h.1 13).trans rfl, (blk_cell h.1 14).trans rfl, (blk_cell h.2.2.2.2.1 0).trans rfl, (blk_cell h.2.2.2.2.1 1).trans rfl, (blk_cell h.2.2.2.2.1 2).trans rfl, (blk_cell h.2.2.2.2.1 3).trans rfl, (blk_cell h.2.2.2.2.1 4).trans rfl, (blk_cell h.2.2.2.2.1 5).trans rfl, (blk_cell h.2.2.2.2.1 6).trans rfl, (blk_cell h.2.2.2.2.1 7).trans rfl, (blk_cell h.2.2.2.1 n).trans (cells32_get _ _ (by omega)), (h.2.2.2.2.2.cell (p := ⟨8, n, none⟩) (World.block_lt_of_cell? w _ (hK n hn))).trans (hK n hn)⟩
/-- The eight words behind a block. -/
def mix32 (K hs b : List Int) : List Int := add32 hs (rounds32 K (expand32 b 48) hs 64) 8
theorem eight_of {l : List Int} (h : l.length = 8) : ∃ a b c d e f g i, l = [a, b, c, d, e, f, g, i] := by
  match l, h with
  | [a, b, c, d, e, f, g, i], _ => exact ⟨a, b, c, d, e, f, g, i, rfl⟩
set_option maxRecDepth 100000 in
set_option maxHeartbeats 2000000 in
theorem mix32_c (h0 h1 h2 h3 h4 h5 h6 h7 : Int) (a : Addr) (c : Nat) (b : List Int) (w : World) (hb : b.length = 64) (hc : 64 ≤ c) (hcm : c ≤ 9223372036854775807) (hab : a.block < w.heap.size) (hcell : ∀ i, i < 64 → w.cell? (a.add i) = some (.int .u8 (b.getD i 0))) (hbd : ∀ i, 0 ≤ b.getD i 0 ∧ b.getD i 0 < 256)
    (K : List Int) (hK : ∀ i, i < 80 → w.cell? ⟨8, i, none⟩ = some (.int .u64 (K.getD i 0))) :
    Calls Tryd.prog 150 #[.agg narrowV, .agg #[.int .u32 h0, .int .u32 h1, .int .u32 h2, .int .u32 h3, .int .u32 h4, .int .u32 h5, .int .u32 h6, .int .u32 h7], .slice (some a) 64 c] w fun e w' => e = .returned (.agg (cells32 (mix32 K [h0, h1, h2, h3, h4, h5, h6, h7] b))) ∧ Below w.heap.size w w' := by
  have hnV : narrowV = #[.int .i64 4, .int .i64 32, .int .i64 64, .int .i64 7, .int .i64 18, .int .i64 3, .int .i64 17, .int .i64 19, .int .i64 10, .int .i64 2, .int .i64 13, .int .i64 22, .int .i64 6, .int .i64 11, .int .i64 25] := rfl
  have HW := fun w' (hB : Below w.heap.size w w') (h2 : w.heap.size ≤ w'.heap.size) => words32_c a c b w' hb hc hcm (by omega) (fun i hi => by rw [hB.cell (by rw [add_block]; exact hab)]; exact hcell i hi) hbd
  have HW' := Lib.hid HW
  have HK := Lib.hid hK
  clear HW hcell hbd hK
  rw [hnV]
  clear hnV
  obtain ⟨hz, hi80⟩ := zero_of_info (P := Tryd.prog) (t := 210) (v := .agg (Array.replicate 80 (.int .u32 0))) (n := 80) (by kernel_rfl)
  go_enter Tryd.func150, Tryd.ntmps150
  go_wp2_with fail
  refine (HW'.out _ (below_alloc (below_alloc (below_alloc (Below.refl _ _) _) _) _) (by simp; omega)).mono ?_
  rintro e w1 ⟨rfl, hb1⟩
  have B0 : Aside0 (w1.heap[w.heap.size]? = some (.cells narrowV 180 (0, 0))) := ⟨blk_below (blk_alloc (blk_alloc (new1 _ _) _) _) hb1⟩
  have B1 : Aside0 (w1.heap[w.heap.size + 1]? = some (.cells (cells32 [h0, h1, h2, h3, h4, h5, h6, h7]) 184 (0, 0))) := ⟨blk_below (blk_alloc (new2 _ _ _) _) hb1⟩
  have B2 : Aside0 (w1.heap[w.heap.size + 1 + 1]? = some (.cells (cells32 (List.replicate 8 0)) 184 (0, 0))) := ⟨blk_below (new3 _ _ _ _) hb1⟩
  have HB : Aside0 (Below w.heap.size w w1) := ⟨below_step (below_alloc (below_alloc (below_alloc (Below.refl _ _) _) _) _) hb1⟩
  have hs1 : w.heap.size + 3 ≤ w1.heap.size := by have := hb1.size; simp at this; omega
  clear hb1
  obtain ⟨W, hW⟩ : ∃ W, W = expand32 b 48 := ⟨_, rfl⟩
  rw [← hW]
  have HWl : Aside0 (W.length = 80) := ⟨by rw [hW]; exact expand32_length b 48⟩
  have HWe := Lib.hid hW
  clear hW
  have HI := Lib.hid hi80
  clear hi80
  have hcs : (cells32 W).size = 80 := by have := HWl.out; simpa [cells32] using this
  have HCS := Lib.hid hcs
  clear hcs
  go_upto_region 2 with (refine wpList_store_row rfl 210 (.tmp 7) (.tmp 17) rfl w1.heap.size (cells32 W) (by rfl) (by rfl) 210 (Array.replicate 80 (.int .u32 0)) (new1 _ _) (by rw [HCS.out]; exact HI.out) (by rw [HCS.out]; simp) (by simp [cells32, Value.oneCell']) ?_; rw [World.setRow_alloc_new])
  have A0 := Aside0.mk (blk_alloc B0.out (.cells (cells32 W) 210))
  have A1 := Aside0.mk (blk_alloc B1.out (.cells (cells32 W) 210))
  have A2 := Aside0.mk (blk_alloc B2.out (.cells (cells32 W) 210))
  have A3 := Aside0.mk (new1 w1 (.cells (cells32 W) 210))
  have HB' := Aside0.mk (below_alloc HB.out (.cells (cells32 W) 210))
  clear B0 B1 B2 HB
  generalize w1.heap.size = gw at A3 hs1 ⊢
  generalize w1.alloc (.cells (cells32 W) 210) = w2 at A0 A1 A2 A3 HB' ⊢
  have h2s : gw < w2.heap.size := blk_lt A3.out
  go_upto_region 3 with (first
    | (refine wpList_load_row rfl 184 (.tmp 4) rfl (w.heap.size + 1) (by rfl) 184 (cells32 [h0, h1, h2, h3, h4, h5, h6, h7]) (0, 0) _ A1.out Tryd.underlying184 rfl (by kernel_rfl) ?_)
    | (refine wpList_store_row rfl 184 (.tmp 8) (.tmp 18) rfl w2.heap.size (cells32 [h0, h1, h2, h3, h4, h5, h6, h7]) (by rfl) (by rfl) 184 (cells32 (List.replicate 8 0)) (new1 _ _) (by kernel_rfl) (by simp [cells32]) (by simp [cells32, Value.oneCell']) ?_; rw [World.setRow_alloc_new]))
  have P0 : Aside0 (Mix32 w gw w2.heap.size W [h0, h1, h2, h3, h4, h5, h6, h7] [h0, h1, h2, h3, h4, h5, h6, h7] (w2.alloc (.cells (cells32 [h0, h1, h2, h3, h4, h5, h6, h7]) 184))) :=
    ⟨⟨blk_alloc A0.out _, blk_alloc A1.out _, blk_alloc A2.out _, blk_alloc A3.out _, new1 _ _, below_alloc HB'.out _⟩⟩
  clear A0 A1 A2 A3 HB'
  generalize w2.heap.size = gv at P0 h2s ⊢
  generalize w2.alloc (.cells (cells32 [h0, h1, h2, h3, h4, h5, h6, h7]) 184) = w3 at P0 ⊢
  have hhs : ∃ hs, hs = [h0, h1, h2, h3, h4, h5, h6, h7] := ⟨_, rfl⟩
  obtain ⟨hs, hhs⟩ := hhs
  rw [← hhs] at P0 ⊢
  have HH := Lib.hid hhs
  clear hhs
  have e2 : w3.cell? ⟨w.heap.size, 2, none⟩ = some (.int .i64 64) := (blk_cell P0.out.1 2).trans rfl
  go_wp2
  clear e2
  go_loopg [21] 64 (fun m t wr => ∃ n : Nat, n + m = 64 ∧ t = .int .i64 (n : Int) ∧ ∃ v, v.length = 8 ∧ Aside0 (v = rounds32 K W hs n) ∧ Aside0 (Mix32 w gw gv W hs v wr))
  case atStart => exact ⟨0, by omega, rfl, _, by rw [HH.out]; rfl, ⟨rfl⟩, P0⟩
  case round =>
    clear P0
    obtain ⟨n, hn', rfl, v, hv8, HV, P⟩ := hrel
    obtain ⟨v0, v1, v2, v3, v4, v5, v6, v7, rfl⟩ := eight_of hv8
    have hn : n ≤ 64 := by omega
    have HN := Lib.hid hn'
    clear hn' hv8
    by_cases hlt : n < 64
    · have c0 : wr.cell? ⟨gv, 0, none⟩ = some (.int .u32 v0) := (blk_cell P.out.2.2.2.2.1 0).trans rfl
      have c4 : wr.cell? ⟨gv, 4, none⟩ = some (.int .u32 v4) := (blk_cell P.out.2.2.2.2.1 4).trans rfl
      have hn80 : n < 80 := by omega
      have hn0 : (0 : Int) ≤ (n : Int) := by omega
      have hn1 : (n : Int) < 80 := by omega
      go_wp2
      go_quiet (fail)
      go_wp2
      clear c0 c4
      have hsh : IntKind.i64.wrap ((64 : Int) - 32) = 32 := by decide
      have hsh2 : IntKind.i64.wrap (32 : Int) = 32 := by decide
      go_region_held3 (fun w' => Mix32 w gw gv W hs [v0, v1, v2, v3, v4, v5, v6, v7] w' ∧ w'.cell? ⟨w.heap.size, 1, none⟩ = some (.int .i64 32) ∧ w'.cell? ⟨w.heap.size, 9, none⟩ = some (.int .i64 2) ∧ w'.cell? ⟨w.heap.size, 10, none⟩ = some (.int .i64 13) ∧ w'.cell? ⟨w.heap.size, 11, none⟩ = some (.int .i64 22) ∧ w'.cell? ⟨w.heap.size, 12, none⟩ = some (.int .i64 6) ∧ w'.cell? ⟨w.heap.size, 13, none⟩ = some (.int .i64 11) ∧ w'.cell? ⟨w.heap.size, 14, none⟩ = some (.int .i64 25) ∧ w'.cell? ⟨gv, 0, none⟩ = some (.int .u32 v0) ∧ w'.cell? ⟨gv, 1, none⟩ = some (.int .u32 v1) ∧ w'.cell? ⟨gv, 2, none⟩ = some (.int .u32 v2) ∧ w'.cell? ⟨gv, 3, none⟩ = some (.int .u32 v3) ∧ w'.cell? ⟨gv, 4, none⟩ = some (.int .u32 v4) ∧ w'.cell? ⟨gv, 5, none⟩ = some (.int .u32 v5) ∧ w'.cell? ⟨gv, 6, none⟩ = some (.int .u32 v6) ∧ w'.cell? ⟨gv, 7, none⟩ = some (.int .u32 v7) ∧ w'.cell? ⟨gw, n, none⟩ = some (.int .u32 (W.getD n 0)) ∧ w'.cell? ⟨8, n, none⟩ = some (.int .u64 (K.getD n 0)))
        (first | exact Mix32.cells HWl.out hn80 HK.out (P.out.drew) | exact Mix32.cells HWl.out hn80 HK.out (P.out) | exact Mix32.cells HWl.out hn80 HK.out ((P.out.drewN _).drew) | exact Mix32.cells HWl.out hn80 HK.out (Mix32.below hb (P.out.drewN _).drew) | (go_split_ands; exact Mix32.cells HWl.out hn80 HK.out (Mix32.below hb (by assumption))))
        (first
          | (go_at_call_of 156 (Value.agg #[.int .i64 6, .int .i64 11, .int .i64 25]); refine (big32_c _ 6 11 25 _ (by omega) (by omega) (by omega) (by omega) (by omega) (by omega)).mono ?_; rintro e w2 ⟨rfl, hb⟩))
      go_split_ands
      have P2 : Aside0 (Mix32 w gw gv W hs [v0, v1, v2, v3, v4, v5, v6, v7] w2) := ⟨by assumption⟩
      go_wp2
      simp only [← List.getD_eq_getElem?_getD]
      generalize hX : IntKind.u32.wrap (IntKind.u32.wrap (IntKind.u32.wrap (IntKind.u32.wrap (v7 + big32 v4 6 11 25) + bits .xor .u32 (bits .and .u32 v4 v5) (bits .and .u32 (bits .xor .u32 IntKind.u32.max v4) v6)) + IntKind.u32.wrap ((K.getD n 0) / 4294967296)) + W.getD n 0) = X
      have HX : Aside0 (X = sumX32 v4 v5 v6 v7 (K.getD n 0) (W.getD n 0)) := ⟨hX.symm⟩
      clear hX
      go_region_held3 (fun w' => Mix32 w gw gv W hs [v0, v1, v2, v3, v4, v5, v6, v7] w' ∧ w'.cell? ⟨w.heap.size, 1, none⟩ = some (.int .i64 32) ∧ w'.cell? ⟨w.heap.size, 9, none⟩ = some (.int .i64 2) ∧ w'.cell? ⟨w.heap.size, 10, none⟩ = some (.int .i64 13) ∧ w'.cell? ⟨w.heap.size, 11, none⟩ = some (.int .i64 22) ∧ w'.cell? ⟨w.heap.size, 12, none⟩ = some (.int .i64 6) ∧ w'.cell? ⟨w.heap.size, 13, none⟩ = some (.int .i64 11) ∧ w'.cell? ⟨w.heap.size, 14, none⟩ = some (.int .i64 25) ∧ w'.cell? ⟨gv, 0, none⟩ = some (.int .u32 v0) ∧ w'.cell? ⟨gv, 1, none⟩ = some (.int .u32 v1) ∧ w'.cell? ⟨gv, 2, none⟩ = some (.int .u32 v2) ∧ w'.cell? ⟨gv, 3, none⟩ = some (.int .u32 v3) ∧ w'.cell? ⟨gv, 4, none⟩ = some (.int .u32 v4) ∧ w'.cell? ⟨gv, 5, none⟩ = some (.int .u32 v5) ∧ w'.cell? ⟨gv, 6, none⟩ = some (.int .u32 v6) ∧ w'.cell? ⟨gv, 7, none⟩ = some (.int .u32 v7) ∧ w'.cell? ⟨gw, n, none⟩ = some (.int .u32 (W.getD n 0)) ∧ w'.cell? ⟨8, n, none⟩ = some (.int .u64 (K.getD n 0)))
        (first | exact Mix32.cells HWl.out hn80 HK.out P2.out | exact Mix32.cells HWl.out hn80 HK.out P2.out.drew | exact Mix32.cells HWl.out hn80 HK.out (Mix32.below hb P2.out.drew) | (go_split_ands; exact Mix32.cells HWl.out hn80 HK.out (Mix32.below hb (by assumption))))
        (first
          | (go_at_call_of 156 (Value.agg #[.int .i64 2, .int .i64 13, .int .i64 22]); refine (big32_c _ 2 13 22 _ (by omega) (by omega) (by omega) (by omega) (by omega) (by omega)).mono ?_; rintro e w3 ⟨rfl, hb⟩))
      go_split_ands
      have P3 : Aside0 (Mix32 w gw gv W hs [v0, v1, v2, v3, v4, v5, v6, v7] w3) := ⟨by assumption⟩
      go_wp2_with (refine wpList_store_row rfl 184 (.tmp 8) (.tmp 100) rfl gv _ (by rfl) (by rfl) 184 (cells32 [v0, v1, v2, v3, v4, v5, v6, v7]) P3.out.2.2.2.2.1 (by first | rfl | kernel_rfl) (by simp [cells32]) (by simp [Value.oneCell']) ?_)
      go_roundg (gk - 1)
      case measure => have := HN.out; omega
      case rel =>
        refine ⟨n + 1, by have := HN.out; omega, by go_num, _, rfl, ⟨?_⟩, ⟨Mix32.stored hs1 h2s P3.out [(X + sumY32 v0 v1 v2) % 4294967296, v0, v1, v2, (v3 + X) % 4294967296, v4, v5, v6]⟩⟩
        unfold rounds32
        rw [← HV.out, HX.out]
        rfl
    · have hn64 : n = 64 := by omega
      go_wp2
      have HV2 : Aside0 ([v0, v1, v2, v3, v4, v5, v6, v7] = rounds32 K W hs 64) := ⟨by rw [← hn64]; exact HV.out⟩
      have hv8 : [v0, v1, v2, v3, v4, v5, v6, v7].length = 8 := rfl
      generalize [v0, v1, v2, v3, v4, v5, v6, v7] = v at P HV2 hv8 ⊢
      clear HV hn64 hlt
      have hhl : hs.length = 8 := by rw [HH.out]; rfl
      obtain ⟨wo, rfl⟩ : ∃ wo : World, wo = wr := ⟨_, rfl⟩
      go_loopg [102] 8 (fun m t wr => ∃ i : Nat, i + m = 8 ∧ t = .int .i64 (i : Int) ∧ Aside0 (Mix32 w gw gv W (add32 hs v i) v wr))
      case atStart => exact ⟨0, by omega, rfl, P⟩
      case round =>
        clear P
        obtain ⟨i, hi', rfl, P⟩ := hrel
        have hi : i ≤ 8 := by omega
        have HI2 := Lib.hid hi'
        clear hi'
        by_cases hil : i < 8
        · have hi0 : (0 : Int) ≤ (i : Int) := by omega
          have hi1 : (i : Int) < 8 := by omega
          have cv : wr.cell? ⟨gv, i, none⟩ = some (.int .u32 (v.getD i 0)) := (blk_cell P.out.2.2.2.2.1 i).trans (cells32_get _ _ (by omega))
          have ch : wr.cell? ⟨w.heap.size + 1, i, none⟩ = some (.int .u32 ((add32 hs v i).getD i 0)) := (blk_cell P.out.2.1 i).trans (cells32_get _ _ (by rw [add32_length]; omega))
          have fh : wr.frozen? ⟨w.heap.size + 1, i, none⟩ = false := blk_frozen P.out.2.1 _
          generalize hA : (add32 hs v i).getD i 0 = A at ch
          generalize hC : v.getD i 0 = C at cv
          have HA := Lib.hid hA
          have HC := Lib.hid hC
          clear hA hC hhl hv8
          go_wp2
          go_region
          all_goals
            go_wp2
            go_roundg (gk - 1)
            case measure => have := HI2.out; omega
            case rel =>
              refine ⟨i + 1, by have := HI2.out; omega, by go_num, ⟨?_⟩⟩
              unfold add32
              rw [HA.out, HC.out]
              exact Mix32.putH hs1 h2s P.out.drew i _
        · have hi8 : i = 8 := by omega
          have hl8 : (cells32 (add32 hs v 8)).size = 8 := by have := add32_length hs v 8; simp [cells32]; omega
          have P8 : Aside0 (Mix32 w gw gv W (add32 hs v 8) v wr) := ⟨by rw [← hi8]; exact P.out⟩
          have hi8' : (Tryd.prog.info? 184).map (·.size) = some 8 := by kernel_rfl
          have HL8 := Lib.hid hl8
          have HI8 := Lib.hid hi8'
          clear P hl8 hi8'
          go_wp2_with (first
            | (refine wpList_load_row rfl 184 (.tmp 4) rfl (w.heap.size + 1) (by rfl) 184 (cells32 (add32 hs v 8)) (0, 0) _ P8.out.2.1 Tryd.underlying184 rfl (by rw [HL8.out]; exact HI8.out) ?_)
            | (refine wpList_store_row rfl 184 (.tmp 6) (.tmp 114) rfl (w.heap.size + 1 + 1) (cells32 (add32 hs v 8)) (by rfl) (by rfl) 184 (cells32 (List.replicate 8 0)) P8.out.2.2.1 (by rw [HL8.out]; exact HI8.out) (by rw [HL8.out]; simp [cells32]) (by simp [cells32, Value.oneCell']) ?_))
          refine bodyPost_ret (v := .agg (cells32 (add32 hs v 8))) (results_cell_row (by rfl) _ _ (w.heap.size + 1 + 1) 184 (cells32 (add32 hs v 8)) (0, 0) _ (by rfl) (setRow_heap _ _ _ _ _ _ P8.out.2.2.1) Tryd.underlying184 rfl (by rw [HL8.out]; exact HI8.out)) rfl ⟨?_, ?_⟩
          · unfold mix32
            rw [HV2.out, HWe.out, HH.out]
          · exact below_setRow P8.out.2.2.2.2.2 (by omega) _
end Go.Proofs.YtbenedckmapjoaaDoor.H
namespace Go.Proofs.YtbenedckmapjoaaDoor.H
open Go.RowKit Go.Proofs.YtbenedckmapjoaaDoorW.PrintWords
/-- What holds of the world in mix' loops. -/
def Mix64 (w : World) (gw gv : Nat) (W hs v : List Int) (wr : World) : Prop :=
  wr.heap[w.heap.size]? = some (.cells wideV 180 (0, 0)) ∧ wr.heap[w.heap.size + 1]? = some (.cells (cells64 hs) 185 (0, 0)) ∧ wr.heap[w.heap.size + 1 + 1]? = some (.cells (cells64 (List.replicate 8 0)) 185 (0, 0)) ∧
  wr.heap[gw]? = some (.cells (cells64 W) 213 (0, 0)) ∧ wr.heap[gv]? = some (.cells (cells64 v) 185 (0, 0)) ∧ Below w.heap.size w wr
theorem Mix64.drew {w wr : World} {gw gv : Nat} {W hs v : List Int} (h : Mix64 w gw gv W hs v wr) : Mix64 w gw gv W hs v wr.drew := ⟨h.1, h.2.1, h.2.2.1, h.2.2.2.1, h.2.2.2.2.1, below_drew1 h.2.2.2.2.2⟩
theorem Mix64.drewN {w wr : World} {gw gv : Nat} {W hs v : List Int} (h : Mix64 w gw gv W hs v wr) (n : Nat) : Mix64 w gw gv W hs v (wr.drewN n) := ⟨h.1, h.2.1, h.2.2.1, h.2.2.2.1, h.2.2.2.2.1, pw_below_drewN h.2.2.2.2.2 n⟩
theorem Mix64.below {w w1 w2 : World} {gw gv : Nat} {W hs v : List Int} (hb : Below w1.heap.size w1 w2) (h : Mix64 w gw gv W hs v w1) : Mix64 w gw gv W hs v w2 :=
  ⟨blk_below h.1 hb, blk_below h.2.1 hb, blk_below h.2.2.1 hb, blk_below h.2.2.2.1 hb, blk_below h.2.2.2.2.1 hb, below_step h.2.2.2.2.2 hb⟩
theorem Mix64.stored {w wr : World} {gw gv : Nat} {W hs v : List Int} (h1 : w.heap.size + 3 ≤ gw) (h2 : gw < gv) (h : Mix64 w gw gv W hs v wr) (v' : List Int) : Mix64 w gw gv W hs v' (wr.setRow gv (cells64 v')) :=
  ⟨(setRow_other _ _ _ _ (by omega)).trans h.1, (setRow_other _ _ _ _ (by omega)).trans h.2.1, (setRow_other _ _ _ _ (by omega)).trans h.2.2.1, (setRow_other _ _ _ _ (by omega)).trans h.2.2.2.1, setRow_heap _ _ _ _ _ _ h.2.2.2.2.1, below_setRow h.2.2.2.2.2 (by omega) _⟩
/-- The eight words, the first n of a round's end put to them. -/
def add64 (hs v : List Int) : Nat → List Int
  | 0 => hs
  | n + 1 => (add64 hs v n).set n (IntKind.u64.wrap ((add64 hs v n).getD n 0 + v.getD n 0))
theorem add64_length (hs v : List Int) : ∀ n, (add64 hs v n).length = hs.length
  | 0 => rfl
  | n + 1 => by unfold add64; rw [List.length_set]; exact add64_length hs v n
theorem Mix64.putH {w wr : World} {gw gv : Nat} {W hs v : List Int} (h1 : w.heap.size + 3 ≤ gw) (h2 : gw < gv) (h : Mix64 w gw gv W hs v wr) (n : Nat) (x : Int) : Mix64 w gw gv W (hs.set n x) v (wr.setCell ⟨w.heap.size + 1, n, none⟩ (.int .u64 x)) :=
  ⟨blk_far h.1 (by simp) _, blk_put h.2.1 _ _ (cells64_set _ _ _), blk_far h.2.2.1 (by simp) _, blk_far h.2.2.2.1 (by simp; omega) _, blk_far h.2.2.2.2.1 (by simp; omega) _, below_set h.2.2.2.2.2 (by omega)⟩
/-- The two sums of a round. -/
def sumX64 (v4 v5 v6 v7 k x : Int) : Int := IntKind.u64.wrap (IntKind.u64.wrap (IntKind.u64.wrap (IntKind.u64.wrap (v7 + big64 v4 14 18 41) + bits .xor .u64 (bits .and .u64 v4 v5) (bits .and .u64 (bits .xor .u64 IntKind.u64.max v4) v6)) + k) + x)
def sumY64 (v0 v1 v2 : Int) : Int := IntKind.u64.wrap (big64 v0 28 34 39 + bits .xor .u64 (bits .xor .u64 (bits .and .u64 v0 v1) (bits .and .u64 v0 v2)) (bits .and .u64 v1 v2))
/-- The eight words behind a round. -/
def step64 (v : List Int) (k x : Int) : List Int :=
  match v with
  | [v0, v1, v2, v3, v4, v5, v6, v7] => [IntKind.u64.wrap (sumX64 v4 v5 v6 v7 k x + sumY64 v0 v1 v2), v0, v1, v2, IntKind.u64.wrap (v3 + sumX64 v4 v5 v6 v7 k x), v4, v5, v6]
  | _ => v
def rounds64 (K W hs : List Int) : Nat → List Int
  | 0 => hs
  | n + 1 => step64 (rounds64 K W hs n) (K.getD n 0) (W.getD n 0)
theorem Mix64.cells {w wr : World} {gw gv : Nat} {W hs K : List Int} {v0 v1 v2 v3 v4 v5 v6 v7 : Int} {n : Nat} (hl : W.length = 80) (hn : n < 80) (hK : ∀ i, i < 80 → w.cell? ⟨8, i, none⟩ = some (.int .u64 (K.getD i 0))) (h : Mix64 w gw gv W hs [v0, v1, v2, v3, v4, v5, v6, v7] wr) :
    Mix64 w gw gv W hs [v0, v1, v2, v3, v4, v5, v6, v7] wr ∧ wr.cell? ⟨w.heap.size, 1, none⟩ = some (.int .i64 64) ∧ wr.cell? ⟨w.heap.size, 9, none⟩ = some (.int .i64 28) ∧ wr.cell? ⟨w.heap.size, 10, none⟩ = some (.int .i64 34) ∧ wr.cell? ⟨w.heap.size, 11, none⟩ = some (.int .i64 39) ∧ wr.cell? ⟨w.heap.size, 12, none⟩ = some (.int .i64 14) ∧ wr.cell? ⟨w.heap.size, 13, none⟩ = some (.int .i64 18) ∧ wr.cell? ⟨w.heap.size, 14, none⟩ = some (.int .i64 41) ∧ wr.cell? ⟨gv, 0, none⟩ = some (.int .u64 v0) ∧ wr.cell? ⟨gv, 1, none⟩ = some (.int .u64 v1) ∧ wr.cell? ⟨gv, 2, none⟩ = some (.int .u64 v2) ∧ wr.cell? ⟨gv, 3, none⟩ = some (.int .u64 v3) ∧ wr.cell? ⟨gv, 4, none⟩ = some (.int .u64 v4) ∧ wr.cell? ⟨gv, 5, none⟩ = some (.int .u64 v5) ∧ wr.cell? ⟨gv, 6, none⟩ = some (.int .u64 v6) ∧ wr.cell? ⟨gv, 7, none⟩ = some (.int .u64 v7) ∧ wr.cell? ⟨gw, n, none⟩ = some (.int .u64 (W.getD n 0)) ∧ wr.cell? ⟨8, n, none⟩ = some (.int .u64 (K.getD n 0)) :=
  ⟨h, (blk_cell h.1 1).trans rfl, (blk_cell h.1 9).trans rfl, (blk_cell h.1 10).trans rfl, (blk_cell h.1 11).trans rfl, (blk_cell h.1 12).trans rfl, (blk_cell h.1 13).trans rfl, (blk_cell h.1 14).trans rfl, (blk_cell h.2.2.2.2.1 0).trans rfl, (blk_cell h.2.2.2.2.1 1).trans rfl, (blk_cell h.2.2.2.2.1 2).trans rfl, (blk_cell h.2.2.2.2.1 3).trans rfl, (blk_cell h.2.2.2.2.1 4).trans rfl, (blk_cell h.2.2.2.2.1 5).trans rfl, (blk_cell h.2.2.2.2.1 6).trans rfl, (blk_cell h.2.2.2.2.1 7).trans rfl, (blk_cell h.2.2.2.1 n).trans (cells64_get _ _ (by omega)), (h.2.2.2.2.2.cell (p := ⟨8, n, none⟩) (World.block_lt_of_cell? w _ (hK n hn))).trans (hK n hn)⟩
/-- The eight words behind a block. -/
def mix64 (K hs b : List Int) : List Int := add64 hs (rounds64 K (expand64 b 64) hs 80) 8
set_option maxRecDepth 100000 in
set_option maxHeartbeats 2000000 in
theorem mix64_c (h0 h1 h2 h3 h4 h5 h6 h7 : Int) (a : Addr) (c : Nat) (b : List Int) (w : World) (hb : b.length = 128) (hc : 128 ≤ c) (hcm : c ≤ 9223372036854775807) (hab : a.block < w.heap.size) (hcell : ∀ i, i < 128 → w.cell? (a.add i) = some (.int .u8 (b.getD i 0))) (hbd : ∀ i, 0 ≤ b.getD i 0 ∧ b.getD i 0 < 256)
    (K : List Int) (hK : ∀ i, i < 80 → w.cell? ⟨8, i, none⟩ = some (.int .u64 (K.getD i 0))) :
    Calls Tryd.prog 151 #[.agg wideV, .agg #[.int .u64 h0, .int .u64 h1, .int .u64 h2, .int .u64 h3, .int .u64 h4, .int .u64 h5, .int .u64 h6, .int .u64 h7], .slice (some a) 128 c] w fun e w' => e = .returned (.agg (cells64 (mix64 K [h0, h1, h2, h3, h4, h5, h6, h7] b))) ∧ Below w.heap.size w w' := by
  have hnV : wideV = #[.int .i64 8, .int .i64 64, .int .i64 80, .int .i64 1, .int .i64 8, .int .i64 7, .int .i64 19, .int .i64 61, .int .i64 6, .int .i64 28, .int .i64 34, .int .i64 39, .int .i64 14, .int .i64 18, .int .i64 41] := rfl
  have HW := fun w' (hB : Below w.heap.size w w') (h2 : w.heap.size ≤ w'.heap.size) => words64_c a c b w' hb hc hcm (by omega) (fun i hi => by rw [hB.cell (by rw [add_block]; exact hab)]; exact hcell i hi) hbd
  have HW' := Lib.hid HW
  have HK := Lib.hid hK
  clear HW hcell hbd hK
  rw [hnV]
  clear hnV
  obtain ⟨hz, hi80⟩ := zero_of_info (P := Tryd.prog) (t := 213) (v := .agg (Array.replicate 80 (.int .u64 0))) (n := 80) (by kernel_rfl)
  go_enter Tryd.func151, Tryd.ntmps151
  go_wp2_with fail
  refine (HW'.out _ (below_alloc (below_alloc (below_alloc (Below.refl _ _) _) _) _) (by simp; omega)).mono ?_
  rintro e w1 ⟨rfl, hb1⟩
  have B0 : Aside0 (w1.heap[w.heap.size]? = some (.cells wideV 180 (0, 0))) := ⟨blk_below (blk_alloc (blk_alloc (new1 _ _) _) _) hb1⟩
  have B1 : Aside0 (w1.heap[w.heap.size + 1]? = some (.cells (cells64 [h0, h1, h2, h3, h4, h5, h6, h7]) 185 (0, 0))) := ⟨blk_below (blk_alloc (new2 _ _ _) _) hb1⟩
  have B2 : Aside0 (w1.heap[w.heap.size + 1 + 1]? = some (.cells (cells64 (List.replicate 8 0)) 185 (0, 0))) := ⟨blk_below (new3 _ _ _ _) hb1⟩
  have HB : Aside0 (Below w.heap.size w w1) := ⟨below_step (below_alloc (below_alloc (below_alloc (Below.refl _ _) _) _) _) hb1⟩
  have hs1 : w.heap.size + 3 ≤ w1.heap.size := by have := hb1.size; simp at this; omega
  clear hb1
  obtain ⟨W, hW⟩ : ∃ W, W = expand64 b 64 := ⟨_, rfl⟩
  rw [← hW]
  have HWl : Aside0 (W.length = 80) := ⟨by rw [hW]; exact expand64_length b 64⟩
  have HWe := Lib.hid hW
  clear hW
  have HI := Lib.hid hi80
  clear hi80
  have hcs : (cells64 W).size = 80 := by have := HWl.out; simpa [cells64] using this
  have HCS := Lib.hid hcs
  clear hcs
  go_upto_region 2 with (refine wpList_store_row rfl 213 (.tmp 7) (.tmp 17) rfl w1.heap.size (cells64 W) (by rfl) (by rfl) 213 (Array.replicate 80 (.int .u64 0)) (new1 _ _) (by rw [HCS.out]; exact HI.out) (by rw [HCS.out]; simp) (by simp [cells64, Value.oneCell']) ?_; rw [World.setRow_alloc_new])
  have A0 := Aside0.mk (blk_alloc B0.out (.cells (cells64 W) 213))
  have A1 := Aside0.mk (blk_alloc B1.out (.cells (cells64 W) 213))
  have A2 := Aside0.mk (blk_alloc B2.out (.cells (cells64 W) 213))
  have A3 := Aside0.mk (new1 w1 (.cells (cells64 W) 213))
  have HB' := Aside0.mk (below_alloc HB.out (.cells (cells64 W) 213))
  clear B0 B1 B2 HB
  generalize w1.heap.size = gw at A3 hs1 ⊢
  generalize w1.alloc (.cells (cells64 W) 213) = w2 at A0 A1 A2 A3 HB' ⊢
  have h2s : gw < w2.heap.size := blk_lt A3.out
  go_upto_region 3 with (first
    | (refine wpList_load_row rfl 185 (.tmp 4) rfl (w.heap.size + 1) (by rfl) 185 (cells64 [h0, h1, h2, h3, h4, h5, h6, h7]) (0, 0) _ A1.out Tryd.underlying185 rfl (by kernel_rfl) ?_)
    | (refine wpList_store_row rfl 185 (.tmp 8) (.tmp 18) rfl w2.heap.size (cells64 [h0, h1, h2, h3, h4, h5, h6, h7]) (by rfl) (by rfl) 185 (cells64 (List.replicate 8 0)) (new1 _ _) (by kernel_rfl) (by simp [cells64]) (by simp [cells64, Value.oneCell']) ?_; rw [World.setRow_alloc_new]))
  have P0 : Aside0 (Mix64 w gw w2.heap.size W [h0, h1, h2, h3, h4, h5, h6, h7] [h0, h1, h2, h3, h4, h5, h6, h7] (w2.alloc (.cells (cells64 [h0, h1, h2, h3, h4, h5, h6, h7]) 185))) :=
    ⟨⟨blk_alloc A0.out _, blk_alloc A1.out _, blk_alloc A2.out _, blk_alloc A3.out _, new1 _ _, below_alloc HB'.out _⟩⟩
  clear A0 A1 A2 A3 HB'
  generalize w2.heap.size = gv at P0 h2s ⊢
  generalize w2.alloc (.cells (cells64 [h0, h1, h2, h3, h4, h5, h6, h7]) 185) = w3 at P0 ⊢
  have hhs : ∃ hs, hs = [h0, h1, h2, h3, h4, h5, h6, h7] := ⟨_, rfl⟩
  obtain ⟨hs, hhs⟩ := hhs
  rw [← hhs] at P0 ⊢
  have HH := Lib.hid hhs
  clear hhs
  have e2 : w3.cell? ⟨w.heap.size, 2, none⟩ = some (.int .i64 80) := (blk_cell P0.out.1 2).trans rfl
  go_wp2
  clear e2
  go_loopg [21] 80 (fun m t wr => ∃ n : Nat, n + m = 80 ∧ t = .int .i64 (n : Int) ∧ ∃ v, v.length = 8 ∧ Aside0 (v = rounds64 K W hs n) ∧ Aside0 (Mix64 w gw gv W hs v wr))
  case atStart => exact ⟨0, by omega, rfl, _, by rw [HH.out]; rfl, ⟨rfl⟩, P0⟩
  case round =>
    clear P0
    obtain ⟨n, hn', rfl, v, hv8, HV, P⟩ := hrel
    obtain ⟨v0, v1, v2, v3, v4, v5, v6, v7, rfl⟩ := eight_of hv8
    have hn : n ≤ 80 := by omega
    have HN := Lib.hid hn'
    clear hn' hv8
    by_cases hlt : n < 80
    · have c0 : wr.cell? ⟨gv, 0, none⟩ = some (.int .u64 v0) := (blk_cell P.out.2.2.2.2.1 0).trans rfl
      have c4 : wr.cell? ⟨gv, 4, none⟩ = some (.int .u64 v4) := (blk_cell P.out.2.2.2.2.1 4).trans rfl
      have hn80 : n < 80 := by omega
      have hn0 : (0 : Int) ≤ (n : Int) := by omega
      have hn1 : (n : Int) < 80 := by omega
      go_wp2
      go_quiet (fail)
      go_wp2
      clear c0 c4
      have hsh : IntKind.i64.wrap ((64 : Int) - 64) = 0 := by decide
      have hsh2 : IntKind.i64.wrap (0 : Int) = 0 := by decide
      go_region_held3 (fun w' => Mix64 w gw gv W hs [v0, v1, v2, v3, v4, v5, v6, v7] w' ∧ w'.cell? ⟨w.heap.size, 1, none⟩ = some (.int .i64 64) ∧ w'.cell? ⟨w.heap.size, 9, none⟩ = some (.int .i64 28) ∧ w'.cell? ⟨w.heap.size, 10, none⟩ = some (.int .i64 34) ∧ w'.cell? ⟨w.heap.size, 11, none⟩ = some (.int .i64 39) ∧ w'.cell? ⟨w.heap.size, 12, none⟩ = some (.int .i64 14) ∧ w'.cell? ⟨w.heap.size, 13, none⟩ = some (.int .i64 18) ∧ w'.cell? ⟨w.heap.size, 14, none⟩ = some (.int .i64 41) ∧ w'.cell? ⟨gv, 0, none⟩ = some (.int .u64 v0) ∧ w'.cell? ⟨gv, 1, none⟩ = some (.int .u64 v1) ∧ w'.cell? ⟨gv, 2, none⟩ = some (.int .u64 v2) ∧ w'.cell? ⟨gv, 3, none⟩ = some (.int .u64 v3) ∧ w'.cell? ⟨gv, 4, none⟩ = some (.int .u64 v4) ∧ w'.cell? ⟨gv, 5, none⟩ = some (.int .u64 v5) ∧ w'.cell? ⟨gv, 6, none⟩ = some (.int .u64 v6) ∧ w'.cell? ⟨gv, 7, none⟩ = some (.int .u64 v7) ∧ w'.cell? ⟨gw, n, none⟩ = some (.int .u64 (W.getD n 0)) ∧ w'.cell? ⟨8, n, none⟩ = some (.int .u64 (K.getD n 0)))
        (first | exact Mix64.cells HWl.out hn80 HK.out (P.out.drew) | exact Mix64.cells HWl.out hn80 HK.out (P.out) | exact Mix64.cells HWl.out hn80 HK.out ((P.out.drewN _).drew) | exact Mix64.cells HWl.out hn80 HK.out (Mix64.below hb (P.out.drewN _).drew) | (go_split_ands; exact Mix64.cells HWl.out hn80 HK.out (Mix64.below hb (by assumption))))
        (first
          | (go_at_call_of 158 (Value.agg #[.int .i64 14, .int .i64 18, .int .i64 41]); refine (big64_c _ 14 18 41 _ (by omega) (by omega) (by omega) (by omega) (by omega) (by omega)).mono ?_; rintro e w2 ⟨rfl, hb⟩))
      go_split_ands
      have P2 : Aside0 (Mix64 w gw gv W hs [v0, v1, v2, v3, v4, v5, v6, v7] w2) := ⟨by assumption⟩
      go_wp2
      simp only [← List.getD_eq_getElem?_getD]
      generalize hX : IntKind.u64.wrap (IntKind.u64.wrap (IntKind.u64.wrap (IntKind.u64.wrap (v7 + big64 v4 14 18 41) + bits .xor .u64 (bits .and .u64 v4 v5) (bits .and .u64 (bits .xor .u64 IntKind.u64.max v4) v6)) + (K.getD n 0)) + W.getD n 0) = X
      have HX : Aside0 (X = sumX64 v4 v5 v6 v7 (K.getD n 0) (W.getD n 0)) := ⟨hX.symm⟩
      clear hX
      go_region_held3 (fun w' => Mix64 w gw gv W hs [v0, v1, v2, v3, v4, v5, v6, v7] w' ∧ w'.cell? ⟨w.heap.size, 1, none⟩ = some (.int .i64 64) ∧ w'.cell? ⟨w.heap.size, 9, none⟩ = some (.int .i64 28) ∧ w'.cell? ⟨w.heap.size, 10, none⟩ = some (.int .i64 34) ∧ w'.cell? ⟨w.heap.size, 11, none⟩ = some (.int .i64 39) ∧ w'.cell? ⟨w.heap.size, 12, none⟩ = some (.int .i64 14) ∧ w'.cell? ⟨w.heap.size, 13, none⟩ = some (.int .i64 18) ∧ w'.cell? ⟨w.heap.size, 14, none⟩ = some (.int .i64 41) ∧ w'.cell? ⟨gv, 0, none⟩ = some (.int .u64 v0) ∧ w'.cell? ⟨gv, 1, none⟩ = some (.int .u64 v1) ∧ w'.cell? ⟨gv, 2, none⟩ = some (.int .u64 v2) ∧ w'.cell? ⟨gv, 3, none⟩ = some (.int .u64 v3) ∧ w'.cell? ⟨gv, 4, none⟩ = some (.int .u64 v4) ∧ w'.cell? ⟨gv, 5, none⟩ = some (.int .u64 v5) ∧ w'.cell? ⟨gv, 6, none⟩ = some (.int .u64 v6) ∧ w'.cell? ⟨gv, 7, none⟩ = some (.int .u64 v7) ∧ w'.cell? ⟨gw, n, none⟩ = some (.int .u64 (W.getD n 0)) ∧ w'.cell? ⟨8, n, none⟩ = some (.int .u64 (K.getD n 0)))
        (first | exact Mix64.cells HWl.out hn80 HK.out P2.out | exact Mix64.cells HWl.out hn80 HK.out P2.out.drew | exact Mix64.cells HWl.out hn80 HK.out (Mix64.below hb P2.out.drew) | (go_split_ands; exact Mix64.cells HWl.out hn80 HK.out (Mix64.below hb (by assumption))))
        (first
          | (go_at_call_of 158 (Value.agg #[.int .i64 28, .int .i64 34, .int .i64 39]); refine (big64_c _ 28 34 39 _ (by omega) (by omega) (by omega) (by omega) (by omega) (by omega)).mono ?_; rintro e w3 ⟨rfl, hb⟩))
      go_split_ands
      have P3 : Aside0 (Mix64 w gw gv W hs [v0, v1, v2, v3, v4, v5, v6, v7] w3) := ⟨by assumption⟩
      go_wp2_with (refine wpList_store_row rfl 185 (.tmp 8) (.tmp 99) rfl gv _ (by rfl) (by rfl) 185 (cells64 [v0, v1, v2, v3, v4, v5, v6, v7]) P3.out.2.2.2.2.1 (by first | rfl | kernel_rfl) (by simp [cells64]) (by simp [Value.oneCell']) ?_)
      go_roundg (gk - 1)
      case measure => have := HN.out; omega
      case rel =>
        refine ⟨n + 1, by have := HN.out; omega, by go_num, _, rfl, ⟨?_⟩, ⟨Mix64.stored hs1 h2s P3.out [IntKind.u64.wrap (X + sumY64 v0 v1 v2), v0, v1, v2, IntKind.u64.wrap (v3 + X), v4, v5, v6]⟩⟩
        unfold rounds64
        rw [← HV.out, HX.out]
        rfl
    · have hn64 : n = 80 := by omega
      go_wp2
      have HV2 : Aside0 ([v0, v1, v2, v3, v4, v5, v6, v7] = rounds64 K W hs 80) := ⟨by rw [← hn64]; exact HV.out⟩
      have hv8 : [v0, v1, v2, v3, v4, v5, v6, v7].length = 8 := rfl
      generalize [v0, v1, v2, v3, v4, v5, v6, v7] = v at P HV2 hv8 ⊢
      clear HV hn64 hlt
      have hhl : hs.length = 8 := by rw [HH.out]; rfl
      obtain ⟨wo, rfl⟩ : ∃ wo : World, wo = wr := ⟨_, rfl⟩
      go_loopg [101] 8 (fun m t wr => ∃ i : Nat, i + m = 8 ∧ t = .int .i64 (i : Int) ∧ Aside0 (Mix64 w gw gv W (add64 hs v i) v wr))
      case atStart => exact ⟨0, by omega, rfl, P⟩
      case round =>
        clear P
        obtain ⟨i, hi', rfl, P⟩ := hrel
        have hi : i ≤ 8 := by omega
        have HI2 := Lib.hid hi'
        clear hi'
        by_cases hil : i < 8
        · have hi0 : (0 : Int) ≤ (i : Int) := by omega
          have hi1 : (i : Int) < 8 := by omega
          have cv : wr.cell? ⟨gv, i, none⟩ = some (.int .u64 (v.getD i 0)) := (blk_cell P.out.2.2.2.2.1 i).trans (cells64_get _ _ (by omega))
          have ch : wr.cell? ⟨w.heap.size + 1, i, none⟩ = some (.int .u64 ((add64 hs v i).getD i 0)) := (blk_cell P.out.2.1 i).trans (cells64_get _ _ (by rw [add64_length]; omega))
          have fh : wr.frozen? ⟨w.heap.size + 1, i, none⟩ = false := blk_frozen P.out.2.1 _
          generalize hA : (add64 hs v i).getD i 0 = A at ch
          generalize hC : v.getD i 0 = C at cv
          have HA := Lib.hid hA
          have HC := Lib.hid hC
          clear hA hC hhl hv8
          go_wp2
          go_region
          all_goals
            go_wp2
            go_roundg (gk - 1)
            case measure => have := HI2.out; omega
            case rel =>
              refine ⟨i + 1, by have := HI2.out; omega, by go_num, ⟨?_⟩⟩
              unfold add64
              rw [HA.out, HC.out]
              exact Mix64.putH hs1 h2s P.out.drew i _
        · have hi8 : i = 8 := by omega
          have hl8 : (cells64 (add64 hs v 8)).size = 8 := by have := add64_length hs v 8; simp [cells64]; omega
          have P8 : Aside0 (Mix64 w gw gv W (add64 hs v 8) v wr) := ⟨by rw [← hi8]; exact P.out⟩
          have hi8' : (Tryd.prog.info? 185).map (·.size) = some 8 := by kernel_rfl
          have HL8 := Lib.hid hl8
          have HI8 := Lib.hid hi8'
          clear P hl8 hi8'
          go_wp2_with (first
            | (refine wpList_load_row rfl 185 (.tmp 4) rfl (w.heap.size + 1) (by rfl) 185 (cells64 (add64 hs v 8)) (0, 0) _ P8.out.2.1 Tryd.underlying185 rfl (by rw [HL8.out]; exact HI8.out) ?_)
            | (refine wpList_store_row rfl 185 (.tmp 6) (.tmp 113) rfl (w.heap.size + 1 + 1) (cells64 (add64 hs v 8)) (by rfl) (by rfl) 185 (cells64 (List.replicate 8 0)) P8.out.2.2.1 (by rw [HL8.out]; exact HI8.out) (by rw [HL8.out]; simp [cells64]) (by simp [cells64, Value.oneCell']) ?_))
          refine bodyPost_ret (v := .agg (cells64 (add64 hs v 8))) (results_cell_row (by rfl) _ _ (w.heap.size + 1 + 1) 185 (cells64 (add64 hs v 8)) (0, 0) _ (by rfl) (setRow_heap _ _ _ _ _ _ P8.out.2.2.1) Tryd.underlying185 rfl (by rw [HL8.out]; exact HI8.out)) rfl ⟨?_, ?_⟩
          · unfold mix64
            rw [HV2.out, HWe.out, HH.out]
          · exact below_setRow P8.out.2.2.2.2.2 (by omega) _
end Go.Proofs.YtbenedckmapjoaaDoor.H
