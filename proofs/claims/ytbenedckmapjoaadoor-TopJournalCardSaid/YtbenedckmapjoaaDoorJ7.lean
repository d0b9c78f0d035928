/- Reset, Write, Copy. -/
import Derived.Test.YtbenedckmapjoaaDoorJ6
namespace Go.Proofs.YtbenedckmapjoaaDoor.H
open Go.RowKit Go.Proofs.YtbenedckmapjoaaDoorW.PrintWords
/-- A hash with the words x and y set: cell by cell. -/
theorem hash_new32 (s : Array Value) (n : Int) (rest : Value) (x y : List Int) (hs : s.size = 15) : (hashV s n rest x y).setIfInBounds 15 (.int .i64 0) = hashV s 0 rest x y := by
  unfold hashV
  rw [List.setIfInBounds_toArray, List.set_append_right _ _ (by rw [Array.length_toList, hs]; omega), Array.length_toList, hs]
  rfl
theorem hash_newRest (s : Array Value) (n : Int) (rest v : Value) (x y : List Int) (hs : s.size = 15) : (hashV s n rest x y).setIfInBounds 16 v = hashV s n v x y := by
  unfold hashV
  rw [List.setIfInBounds_toArray, List.set_append_right _ _ (by rw [Array.length_toList, hs]; omega), Array.length_toList, hs]
  rfl
theorem hash_at15 (s : Array Value) (n : Int) (rest : Value) (x y : List Int) (hs : s.size = 15) : (hashV s n rest x y)[15]? = some (.int .i64 n) := by
  unfold hashV
  rw [List.getElem?_toArray, List.getElem?_append_right (by rw [Array.length_toList, hs]; omega), Array.length_toList, hs]
  rfl
theorem hash_at16 (s : Array Value) (n : Int) (rest : Value) (x y : List Int) (hs : s.size = 15) : (hashV s n rest x y)[16]? = some rest := by
  unfold hashV
  rw [List.getElem?_toArray, List.getElem?_append_right (by rw [Array.length_toList, hs]; omega), Array.length_toList, hs]
  rfl
theorem hash_at32 (s : Array Value) (n : Int) (rest : Value) (x y : List Int) (hs : s.size = 15) (i : Nat) (hi : i < x.length) : (hashV s n rest x y)[17 + i]? = some (.int .u32 (x.getD i 0)) := by
  unfold hashV
  rw [List.getElem?_toArray, List.getElem?_append_right (by rw [Array.length_toList, hs]; omega), Array.length_toList, hs, show 17 + i - 15 = i + 1 + 1 by omega, List.getElem?_cons_succ, List.getElem?_cons_succ, List.getElem?_append_left (by rw [List.length_map]; exact hi), List.getElem?_map, List.getElem?_eq_getElem hi, List.getD_eq_getElem?_getD, List.getElem?_eq_getElem hi]
  rfl
theorem hash_at64 (s : Array Value) (n : Int) (rest : Value) (x y : List Int) (hs : s.size = 15) (hx : x.length = 8) (i : Nat) (hi : i < y.length) : (hashV s n rest x y)[25 + i]? = some (.int .u64 (y.getD i 0)) := by
  unfold hashV
  rw [List.getElem?_toArray, List.getElem?_append_right (by rw [Array.length_toList, hs]; omega), Array.length_toList, hs, show 25 + i - 15 = (8 + i) + 1 + 1 by omega, List.getElem?_cons_succ, List.getElem?_cons_succ, List.getElem?_append_right (by rw [List.length_map, hx]; omega), List.length_map, hx, show 8 + i - 8 = i by omega, List.getElem?_map, List.getElem?_eq_getElem hi, List.getD_eq_getElem?_getD, List.getElem?_eq_getElem hi]
  rfl
set_option maxRecDepth 100000 in
set_option maxHeartbeats 4000000 in
theorem stored32 {w1 : World} {p : Nat} {s : Array Value} {n : Int} {rest : Value} {x0 x1 x2 x3 x4 x5 x6 x7 : Int} {x : List Int} (hs : s.size = 15) (h : w1.heap[p]? = some (.cells (hashV s n rest [x0, x1, x2, x3, x4, x5, x6, x7] x) 187 (0, 0))) (z0 z1 z2 z3 z4 z5 z6 z7 : Int) : ((((((((w1.setCell ⟨p, 17, none⟩ (.int .u32 z0)).setCell ⟨p, 18, none⟩ (.int .u32 z1)).setCell ⟨p, 19, none⟩ (.int .u32 z2)).setCell ⟨p, 20, none⟩ (.int .u32 z3)).setCell ⟨p, 21, none⟩ (.int .u32 z4)).setCell ⟨p, 22, none⟩ (.int .u32 z5)).setCell ⟨p, 23, none⟩ (.int .u32 z6)).setCell ⟨p, 24, none⟩ (.int .u32 z7)).heap[p]? = some (.cells (hashV s n rest [z0, z1, z2, z3, z4, z5, z6, z7] x) 187 (0, 0)) := by
  have k0 := blk_put h 17 (.int .u32 z0) (put_h s rest _ _ _ 0 z0 hs (by simp) rfl : _ = hashV s n rest [z0, x1, x2, x3, x4, x5, x6, x7] x)
  have k1 := blk_put k0 18 (.int .u32 z1) (put_h s rest _ _ _ 1 z1 hs (by simp) rfl : _ = hashV s n rest [z0, z1, x2, x3, x4, x5, x6, x7] x)
  have k2 := blk_put k1 19 (.int .u32 z2) (put_h s rest _ _ _ 2 z2 hs (by simp) rfl : _ = hashV s n rest [z0, z1, z2, x3, x4, x5, x6, x7] x)
  have k3 := blk_put k2 20 (.int .u32 z3) (put_h s rest _ _ _ 3 z3 hs (by simp) rfl : _ = hashV s n rest [z0, z1, z2, z3, x4, x5, x6, x7] x)
  have k4 := blk_put k3 21 (.int .u32 z4) (put_h s rest _ _ _ 4 z4 hs (by simp) rfl : _ = hashV s n rest [z0, z1, z2, z3, z4, x5, x6, x7] x)
  have k5 := blk_put k4 22 (.int .u32 z5) (put_h s rest _ _ _ 5 z5 hs (by simp) rfl : _ = hashV s n rest [z0, z1, z2, z3, z4, z5, x6, x7] x)
  have k6 := blk_put k5 23 (.int .u32 z6) (put_h s rest _ _ _ 6 z6 hs (by simp) rfl : _ = hashV s n rest [z0, z1, z2, z3, z4, z5, z6, x7] x)
  have k7 := blk_put k6 24 (.int .u32 z7) (put_h s rest _ _ _ 7 z7 hs (by simp) rfl : _ = hashV s n rest [z0, z1, z2, z3, z4, z5, z6, z7] x)
  exact k7
theorem Fr.stored32 {S : Nat → Prop} {w w1 : World} {p : Nat} (h : Fr S w w1) (hp : S p) (z0 z1 z2 z3 z4 z5 z6 z7 : Int) : Fr S w ((((((((w1.setCell ⟨p, 17, none⟩ (.int .u32 z0)).setCell ⟨p, 18, none⟩ (.int .u32 z1)).setCell ⟨p, 19, none⟩ (.int .u32 z2)).setCell ⟨p, 20, none⟩ (.int .u32 z3)).setCell ⟨p, 21, none⟩ (.int .u32 z4)).setCell ⟨p, 22, none⟩ (.int .u32 z5)).setCell ⟨p, 23, none⟩ (.int .u32 z6)).setCell ⟨p, 24, none⟩ (.int .u32 z7)) :=
  ((((((((h.setCell ⟨p, 17, none⟩ _ (.inl hp)).setCell ⟨p, 18, none⟩ _ (.inl hp)).setCell ⟨p, 19, none⟩ _ (.inl hp)).setCell ⟨p, 20, none⟩ _ (.inl hp)).setCell ⟨p, 21, none⟩ _ (.inl hp)).setCell ⟨p, 22, none⟩ _ (.inl hp)).setCell ⟨p, 23, none⟩ _ (.inl hp)).setCell ⟨p, 24, none⟩ _ (.inl hp))
set_option maxRecDepth 100000 in
set_option maxHeartbeats 4000000 in
theorem stored64 {w1 : World} {p : Nat} {s : Array Value} {n : Int} {rest : Value} {x0 x1 x2 x3 x4 x5 x6 x7 : Int} {x : List Int} (hs : s.size = 15) (hy : x.length = 8) (h : w1.heap[p]? = some (.cells (hashV s n rest x [x0, x1, x2, x3, x4, x5, x6, x7]) 187 (0, 0))) (z0 z1 z2 z3 z4 z5 z6 z7 : Int) : ((((((((w1.setCell ⟨p, 25, none⟩ (.int .u64 z0)).setCell ⟨p, 26, none⟩ (.int .u64 z1)).setCell ⟨p, 27, none⟩ (.int .u64 z2)).setCell ⟨p, 28, none⟩ (.int .u64 z3)).setCell ⟨p, 29, none⟩ (.int .u64 z4)).setCell ⟨p, 30, none⟩ (.int .u64 z5)).setCell ⟨p, 31, none⟩ (.int .u64 z6)).setCell ⟨p, 32, none⟩ (.int .u64 z7)).heap[p]? = some (.cells (hashV s n rest x [z0, z1, z2, z3, z4, z5, z6, z7]) 187 (0, 0)) := by
  have k0 := blk_put h 25 (.int .u64 z0) (put_h64 s rest _ _ _ 0 z0 hs hy (by simp) rfl : _ = hashV s n rest x [z0, x1, x2, x3, x4, x5, x6, x7])
  have k1 := blk_put k0 26 (.int .u64 z1) (put_h64 s rest _ _ _ 1 z1 hs hy (by simp) rfl : _ = hashV s n rest x [z0, z1, x2, x3, x4, x5, x6, x7])
  have k2 := blk_put k1 27 (.int .u64 z2) (put_h64 s rest _ _ _ 2 z2 hs hy (by simp) rfl : _ = hashV s n rest x [z0, z1, z2, x3, x4, x5, x6, x7])
  have k3 := blk_put k2 28 (.int .u64 z3) (put_h64 s rest _ _ _ 3 z3 hs hy (by simp) rfl : _ = hashV s n rest x [z0, z1, z2, z3, x4, x5, x6, x7])
  have k4 := blk_put k3 29 (.int .u64 z4) (put_h64 s rest _ _ _ 4 z4 hs hy (by simp) rfl : _ = hashV s n rest x [z0, z1, z2, z3, z4, x5, x6, x7])
  have k5 := blk_put k4 30 (.int .u64 z5) (put_h64 s rest _ _ _ 5 z5 hs hy (by simp) rfl : _ = hashV s n rest x [z0, z1, z2, z3, z4, z5, x6, x7])
  have k6 := blk_put k5 31 (.int .u64 z6) (put_h64 s rest _ _ _ 6 z6 hs hy (by simp) rfl : _ = hashV s n rest x [z0, z1, z2, z3, z4, z5, z6, x7])
  have k7 := blk_put k6 32 (.int .u64 z7) (put_h64 s rest _ _ _ 7 z7 hs hy (by simp) rfl : _ = hashV s n rest x [z0, z1, z2, z3, z4, z5, z6, z7])
  exact k7
theorem Fr.stored64 {S : Nat → Prop} {w w1 : World} {p : Nat} (h : Fr S w w1) (hp : S p) (z0 z1 z2 z3 z4 z5 z6 z7 : Int) : Fr S w ((((((((w1.setCell ⟨p, 25, none⟩ (.int .u64 z0)).setCell ⟨p, 26, none⟩ (.int .u64 z1)).setCell ⟨p, 27, none⟩ (.int .u64 z2)).setCell ⟨p, 28, none⟩ (.int .u64 z3)).setCell ⟨p, 29, none⟩ (.int .u64 z4)).setCell ⟨p, 30, none⟩ (.int .u64 z5)).setCell ⟨p, 31, none⟩ (.int .u64 z6)).setCell ⟨p, 32, none⟩ (.int .u64 z7)) :=
  ((((((((h.setCell ⟨p, 25, none⟩ _ (.inl hp)).setCell ⟨p, 26, none⟩ _ (.inl hp)).setCell ⟨p, 27, none⟩ _ (.inl hp)).setCell ⟨p, 28, none⟩ _ (.inl hp)).setCell ⟨p, 29, none⟩ _ (.inl hp)).setCell ⟨p, 30, none⟩ _ (.inl hp)).setCell ⟨p, 31, none⟩ _ (.inl hp)).setCell ⟨p, 32, none⟩ _ (.inl hp))
set_option maxRecDepth 100000 in
set_option maxHeartbeats 1000000 in
theorem reset_c (p : Nat) (s : Array Value) (n : Int) (rest : Value) (x y S : List Int) (w : World) (hs : s.size = 15) (hx : x.length = 8) (hy : y.length = 8)
    (hp : w.heap[p]? = some (.cells (hashV s n rest x y) 187 (0, 0))) (hS : ∀ i, i < 8 → w.cell? ⟨7, i, none⟩ = some (.int .u64 (S.getD i 0))) (hpS : p ≠ 7) :
    Calls Tryd.prog 128 #[.pointer (some ⟨p, 0, none⟩)] w fun e w' => e = .returned (.tuple #[]) ∧ w'.heap[p]? = some (.cells (hashV s 0 (.slice none 0 0) (fill32 S 8) (fill64 S 8)) 187 (0, 0)) ∧ Fr (· = p) w w' := by
  have HS := Lib.hid hS
  clear hS
  go_enter Tryd.func128, Tryd.ntmps128
  have c15 : w.cell? ⟨p, 15, none⟩ = some (.int .i64 n) := (blk_cell hp 15).trans (hash_at15 _ _ _ _ _ hs)
  have c16 : w.cell? ⟨p, 16, none⟩ = some rest := (blk_cell hp 16).trans (hash_at16 _ _ _ _ _ hs)
  have f15 : w.frozen? ⟨p, 15, none⟩ = false := blk_frozen hp _
  have f16 : w.frozen? ⟨p, 16, none⟩ = false := blk_frozen hp _
  go_upto_region 2 with fail
  have R2 : Aside0 (((w.setCell ⟨p, 15, none⟩ (.int .i64 0)).setCell ⟨p, 16, none⟩ (.slice none 0 0)).heap[p]? = some (.cells (hashV s 0 (.slice none 0 0) x y) 187 (0, 0)) ∧ Fr (· = p) w ((w.setCell ⟨p, 15, none⟩ (.int .i64 0)).setCell ⟨p, 16, none⟩ (.slice none 0 0))) :=
    ⟨⟨blk_put (blk_put hp 15 _ (hash_new32 _ _ _ _ _ hs)) 16 _ (hash_newRest _ _ _ _ _ _ hs), ((Fr.refl (· = p) w).setCell ⟨p, 15, none⟩ _ (.inl rfl)).setCell ⟨p, 16, none⟩ _ (.inl rfl)⟩⟩
  clear c15 c16 f15 f16
  generalize (w.setCell ⟨p, 15, none⟩ (.int .i64 0)).setCell ⟨p, 16, none⟩ (.slice none 0 0) = w1 at R2 ⊢
  obtain ⟨a0, a1, a2, a3, a4, a5, a6, a7, ha⟩ := eight_of (show (fill32 S 8).length = 8 by simp [fill32])
  obtain ⟨b0, b1, b2, b3, b4, b5, b6, b7, hb⟩ := eight_of (show (fill64 S 8).length = 8 by simp [fill64])
  have ka : cells32 [a0, a1, a2, a3, a4, a5, a6, a7] = #[.int .u32 a0, .int .u32 a1, .int .u32 a2, .int .u32 a3, .int .u32 a4, .int .u32 a5, .int .u32 a6, .int .u32 a7] := rfl
  have kb : cells64 [b0, b1, b2, b3, b4, b5, b6, b7] = #[.int .u64 b0, .int .u64 b1, .int .u64 b2, .int .u64 b3, .int .u64 b4, .int .u64 b5, .int .u64 b6, .int .u64 b7] := rfl
  go_wp2_with (first
    | (go_at_call 145; refine (narrow_c _).mono ?_; rintro e w2 ⟨rfl, hb2⟩; have R3 := Aside0.mk (And.intro (blk_below R2.out.1 hb2) (R2.out.2.then_below hb2)); clear hb2 R2)
    | (go_at_call 147; refine (begin32_c _ S (fun i hi => R3.out.2.cell (HS i hi) (fun e => hpS e.symm))).mono ?_; rintro e w3 ⟨rfl, hb3⟩; have R4 := Aside0.mk (And.intro (blk_below R3.out.1 hb3) (R3.out.2.then_below hb3)); clear hb3 R3; rw [ha, ka])
    | (go_at_call 146; refine (wide_c _).mono ?_; rintro e w4 ⟨rfl, hb4⟩; have R5 := Aside0.mk (And.intro (blk_below R4.out.1 hb4) (R4.out.2.then_below hb4)); clear hb4 R4)
    | (go_at_call 148; refine (begin64_c _ S (fun i hi => R5.out.2.cell (HS i hi) (fun e => hpS e.symm))).mono ?_; rintro e w5 ⟨rfl, hb5⟩; have R6 := Aside0.mk (And.intro (blk_below R5.out.1 hb5) (R5.out.2.then_below hb5)); clear hb5 R5; rw [hb, kb]; have c17 := (blk_cell R6.out.1 17).trans (hash_at32 _ _ _ _ _ hs 0 (by omega)); have f17 := blk_frozen R6.out.1 17; have c18 := (blk_cell R6.out.1 18).trans (hash_at32 _ _ _ _ _ hs 1 (by omega)); have f18 := blk_frozen R6.out.1 18; have c19 := (blk_cell R6.out.1 19).trans (hash_at32 _ _ _ _ _ hs 2 (by omega)); have f19 := blk_frozen R6.out.1 19; have c20 := (blk_cell R6.out.1 20).trans (hash_at32 _ _ _ _ _ hs 3 (by omega)); have f20 := blk_frozen R6.out.1 20; have c21 := (blk_cell R6.out.1 21).trans (hash_at32 _ _ _ _ _ hs 4 (by omega)); have f21 := blk_frozen R6.out.1 21; have c22 := (blk_cell R6.out.1 22).trans (hash_at32 _ _ _ _ _ hs 5 (by omega)); have f22 := blk_frozen R6.out.1 22; have c23 := (blk_cell R6.out.1 23).trans (hash_at32 _ _ _ _ _ hs 6 (by omega)); have f23 := blk_frozen R6.out.1 23; have c24 := (blk_cell R6.out.1 24).trans (hash_at32 _ _ _ _ _ hs 7 (by omega)); have f24 := blk_frozen R6.out.1 24; have c25 := (blk_cell R6.out.1 25).trans (hash_at64 _ _ _ _ _ hs hx 0 (by omega)); have f25 := blk_frozen R6.out.1 25; have c26 := (blk_cell R6.out.1 26).trans (hash_at64 _ _ _ _ _ hs hx 1 (by omega)); have f26 := blk_frozen R6.out.1 26; have c27 := (blk_cell R6.out.1 27).trans (hash_at64 _ _ _ _ _ hs hx 2 (by omega)); have f27 := blk_frozen R6.out.1 27; have c28 := (blk_cell R6.out.1 28).trans (hash_at64 _ _ _ _ _ hs hx 3 (by omega)); have f28 := blk_frozen R6.out.1 28; have c29 := (blk_cell R6.out.1 29).trans (hash_at64 _ _ _ _ _ hs hx 4 (by omega)); have f29 := blk_frozen R6.out.1 29; have c30 := (blk_cell R6.out.1 30).trans (hash_at64 _ _ _ _ _ hs hx 5 (by omega)); have f30 := blk_frozen R6.out.1 30; have c31 := (blk_cell R6.out.1 31).trans (hash_at64 _ _ _ _ _ hs hx 6 (by omega)); have f31 := blk_frozen R6.out.1 31; have c32 := (blk_cell R6.out.1 32).trans (hash_at64 _ _ _ _ _ hs hx 7 (by omega)); have f32 := blk_frozen R6.out.1 32))
  obtain ⟨x0, x1, x2, x3, x4, x5, x6, x7, rfl⟩ := eight_of hx
  obtain ⟨y0, y1, y2, y3, y4, y5, y6, y7, rfl⟩ := eight_of hy
  have Q1 := stored64 (s := s) hs rfl (stored32 (s := s) hs R6.out.1 a0 a1 a2 a3 a4 a5 a6 a7) b0 b1 b2 b3 b4 b5 b6 b7
  have Q2 := Fr.stored64 (Fr.stored32 R6.out.2 rfl a0 a1 a2 a3 a4 a5 a6 a7) rfl b0 b1 b2 b3 b4 b5 b6 b7
  (try simp only [Exit.inBlock, Exit.then]); first | refine bodyPost_end (results_none rfl _ _ _) rfl ?_ | refine bodyPost_ret (results_none rfl _ _ _) rfl ?_
  exact ⟨rfl, by rw [ha, hb]; exact Q1, Q2⟩
end Go.Proofs.YtbenedckmapjoaaDoor.H
namespace Go.Proofs.YtbenedckmapjoaaDoor.H
open Go.RowKit Go.Proofs.YtbenedckmapjoaaDoorW.PrintWords
theorem blocks32_from (K hs t : List Int) (q : Nat) : ∀ j, blocks32 K (blocks32 K hs t q) (t.drop (64 * q)) j = blocks32 K hs t (q + j)
  | 0 => rfl
  | j + 1 => by
    rw [show q + (j + 1) = (q + j) + 1 by omega]
    unfold blocks32
    rw [blocks32_from K hs t q j, List.drop_drop, show 64 * q + 64 * j = 64 * (q + j) by omega]
theorem blocks64_from (K hs t : List Int) (q : Nat) : ∀ j, blocks64 K (blocks64 K hs t q) (t.drop (128 * q)) j = blocks64 K hs t (q + j)
  | 0 => rfl
  | j + 1 => by
    rw [show q + (j + 1) = (q + j) + 1 by omega]
    unfold blocks64
    rw [blocks64_from K hs t q j, List.drop_drop, show 128 * q + 128 * j = 128 * (q + j) by omega]
theorem blocks32_congr (K hs t b : List Int) : ∀ k, 64 * k ≤ t.length → blocks32 K hs (t ++ b) k = blocks32 K hs t k
  | 0, _ => rfl
  | k + 1, h => by
    unfold blocks32
    rw [blocks32_congr K hs t b k (by omega), List.drop_append_of_le_length (by omega), List.take_append_of_le_length (by rw [List.length_drop]; omega)]
theorem blocks64_congr (K hs t b : List Int) : ∀ k, 128 * k ≤ t.length → blocks64 K hs (t ++ b) k = blocks64 K hs t k
  | 0, _ => rfl
  | k + 1, h => by
    unfold blocks64
    rw [blocks64_congr K hs t b k (by omega), List.drop_append_of_le_length (by omega), List.take_append_of_le_length (by rw [List.length_drop]; omega)]
/-- How many bytes a block has. -/
def bl (wide : Bool) : Nat := if wide then 128 else 64
def shV (wide : Bool) : Array Value := if wide then wideV else narrowV
/-- The words of either width behind q blocks of a text. -/
def W32 (wide : Bool) (K S t : List Int) (q : Nat) : List Int := if wide then fill32 S 8 else blocks32 K (fill32 S 8) t q
def W64 (wide : Bool) (K S t : List Int) (q : Nat) : List Int := if wide then blocks64 K (fill64 S 8) t q else fill64 S 8
theorem shV_size (wide : Bool) : (shV wide).size = 15 := by cases wide <;> rfl
theorem W32_length (wide : Bool) (K S t : List Int) (q : Nat) : (W32 wide K S t q).length = 8 := by
  unfold W32
  split
  · exact fill32_length S 8
  · rw [blocks32_length]; exact fill32_length S 8
theorem W64_length (wide : Bool) (K S t : List Int) (q : Nat) : (W64 wide K S t q).length = 8 := by
  unfold W64
  split
  · rw [blocks64_length]; exact fill64_length S 8
  · exact fill64_length S 8
theorem W32_congr (wide : Bool) (K S t b : List Int) (k : Nat) (h : bl wide * k ≤ t.length) : W32 wide K S (t ++ b) k = W32 wide K S t k := by
  cases wide
  · have h' : 64 * k ≤ t.length := by simpa [bl] using h
    simp only [W32, Bool.false_eq_true, if_false]
    exact blocks32_congr K _ t b k h'
  · simp only [W32, if_true]
theorem W64_congr (wide : Bool) (K S t b : List Int) (k : Nat) (h : bl wide * k ≤ t.length) : W64 wide K S (t ++ b) k = W64 wide K S t k := by
  cases wide
  · simp only [W64, Bool.false_eq_true, if_false]
  · have h' : 128 * k ≤ t.length := by simpa [bl] using h
    simp only [W64, if_true]
    exact blocks64_congr K _ t b k h'
theorem W32_none (wide : Bool) (K S t : List Int) : W32 wide K S t 0 = fill32 S 8 := by cases wide <;> simp [W32, blocks32]
theorem W64_none (wide : Bool) (K S t : List Int) : W64 wide K S t 0 = fill64 S 8 := by cases wide <;> simp [W64, blocks64]
theorem bl_pos (wide : Bool) : 0 < bl wide := by cases wide <;> decide
theorem bl_le (wide : Bool) (n : Nat) : bl wide * (n / bl wide) ≤ n := Nat.mul_div_le n (bl wide)
theorem bl_rest (wide : Bool) (t : List Int) : (t.drop (bl wide * (t.length / bl wide))).length = t.length % bl wide := by rw [List.length_drop, Nat.mod_eq_sub]
theorem take_c (wide : Bool) (p q : Nat) (n : Int) (rest : Value) (A : Option Addr) (m c : Nat) (t K S : List Int) (w : World) (hq : bl wide * q ≤ t.length) (hm : m = t.length - bl wide * q)
    (hp : w.heap[p]? = some (.cells (hashV (shV wide) n rest (W32 wide K S t q) (W64 wide K S t q)) 187 (0, 0))) (hb : Kd.C (Kd.int .u8) w A m (t.drop (bl wide * q))) (hc : m ≤ c) (hcm : c ≤ 9223372036854775807) (ha : Away p A m) (hbd : ∀ i, 0 ≤ t.getD i 0 ∧ t.getD i 0 < 256)
    (hK : ∀ i, i < 80 → w.cell? ⟨8, i, none⟩ = some (.int .u64 (K.getD i 0))) (hpK : p ≠ 8) :
    Calls Tryd.prog 129 #[.pointer (some ⟨p, 0, none⟩), .slice A m c] w fun e w' => ∃ A' c', e = .returned (.slice A' (t.length % bl wide) c') ∧ t.length % bl wide ≤ c' ∧ Kd.C (Kd.int .u8) w' A' (t.length % bl wide) (t.drop (bl wide * (t.length / bl wide))) ∧ Away p A' (t.length % bl wide) ∧
      w'.heap[p]? = some (.cells (hashV (shV wide) n rest (W32 wide K S t (t.length / bl wide)) (W64 wide K S t (t.length / bl wide))) 187 (0, 0)) ∧ Fr (· = p) w w' := by
  have hbd' : ∀ k i, 0 ≤ (t.drop k).getD i 0 ∧ (t.drop k).getD i 0 < 256 := fun k i => by
    rw [List.getD_eq_getElem?_getD, List.getElem?_drop, ← List.getD_eq_getElem?_getD]
    exact hbd _
  have hl : m = (t.drop (bl wide * q)).length := by rw [List.length_drop]; exact hm
  cases wide
  · simp only [bl, shV, W32, W64, Bool.false_eq_true, if_false] at *
    have e1 : (t.drop (64 * q)).length % 64 = t.length % 64 := by rw [List.length_drop]; omega
    have e2 : q + (t.drop (64 * q)).length / 64 = t.length / 64 := by rw [List.length_drop]; omega
    have e3 : (t.drop (64 * q)).drop (64 * ((t.drop (64 * q)).length / 64)) = t.drop (64 * (t.length / 64)) := by rw [List.drop_drop, ← e2, Nat.mul_add]
    have h := take32_c p (blocks32 K (fill32 S 8) t q) (fill64 S 8) n rest A c (t.drop (64 * q)) K w (by rw [blocks32_length]; exact fill32_length S 8) (fill64_length S 8) hp (hl ▸ hb) (hl ▸ hc) hcm (hl ▸ ha) (hbd' _) hK hpK
    rw [blocks32_from, e1, e2, e3, ← hl] at h
    exact h
  · simp only [bl, shV, W32, W64, if_true] at *
    have e1 : (t.drop (128 * q)).length % 128 = t.length % 128 := by rw [List.length_drop]; omega
    have e2 : q + (t.drop (128 * q)).length / 128 = t.length / 128 := by rw [List.length_drop]; omega
    have e3 : (t.drop (128 * q)).drop (128 * ((t.drop (128 * q)).length / 128)) = t.drop (128 * (t.length / 128)) := by rw [List.drop_drop, ← e2, Nat.mul_add]
    have h := take64_c p (blocks64 K (fill64 S 8) t q) (fill32 S 8) n rest A c (t.drop (128 * q)) K w (by rw [blocks64_length]; exact fill64_length S 8) (fill32_length S 8) hp (hl ▸ hb) (hl ▸ hc) hcm (hl ▸ ha) (hbd' _) hK hpK
    rw [blocks64_from, e1, e2, e3, ← hl] at h
    exact h
/-- The two rows of numbers lie where the program laid them. -/
structure Laid (K S : List Int) (w : World) : Prop where
  k : ∀ i, i < 80 → w.cell? ⟨8, i, none⟩ = some (.int .u64 (K.getD i 0))
  s : ∀ i, i < 8 → w.cell? ⟨7, i, none⟩ = some (.int .u64 (S.getD i 0))
theorem Laid.fr {K S : List Int} {w w' : World} {T : Nat → Prop} (h : Laid K S w) (f : Fr T w w') (h0 : ¬ T 8) (h1 : ¬ T 7) : Laid K S w' := ⟨fun i hi => f.cell (h.k i hi) h0, fun i hi => f.cell (h.s i hi) h1⟩
theorem Laid.below {K S : List Int} {w w' : World} {base : Nat} (h : Laid K S w) (hb : Below base w w') (h0 : 8 < base) (h1 : 7 < base) : Laid K S w' := by
  refine ⟨fun i hi => ?_, fun i hi => ?_⟩
  · have := h.k i hi; unfold World.cell? at *; rw [hb.block _ h0]; exact this
  · have := h.s i hi; unfold World.cell? at *; rw [hb.block _ h1]; exact this
/-- At block p lies the hash of text t; its rest is the row v of its own. -/
structure HashAt (base : Nat) (wide : Bool) (K S t : List Int) (p : Nat) (v : Value) (w : World) : Prop where
  cells : w.heap[p]? = some (.cells (hashV (shV wide) t.length v (W32 wide K S t (t.length / bl wide)) (W64 wide K S t (t.length / bl wide))) 187 (0, 0))
  row : Kd.R (Kd.int .u8) 5 w base (fun k => k ≠ p) v (t.drop (bl wide * (t.length / bl wide)))
  hbase : base ≤ p
  g0 : 8 < base
  g1 : 7 < base
  most : t.length ≤ 1048576
  bytes : ∀ i, 0 ≤ t.getD i 0 ∧ t.getD i 0 < 256
end Go.Proofs.YtbenedckmapjoaaDoor.H
namespace Go.Proofs.YtbenedckmapjoaaDoor.H
open Go.RowKit Go.Proofs.YtbenedckmapjoaaDoorW.PrintWords
theorem R_moved {k : IntKind} {e base : Nat} {w w' : World} {ok : Nat → Prop} {v : Value} {xs : List Int} (h : Kd.R (Kd.int k) e w base ok v xs) (hb : ∀ i, v.ownBlock = some i → w'.heap[i]? = w.heap[i]?) : Kd.R (Kd.int k) e w' base ok v xs := by
  have ho := Kd.own_of_R (enc := Value.int k) (h1 := fun _ => rfl) h
  refine Kd.R_of_own (enc := Value.int k) (h1 := fun _ => rfl) ⟨ho.1, ?_⟩ h.1
  rcases ho.2 with hn | ⟨g, cap, cur, rfl, h0, hg, h2⟩
  · exact .inl hn
  · exact .inr ⟨g, cap, cur, rfl, h0, by rw [hb g rfl]; exact hg, h2⟩
theorem R_cap {k : IntKind} {e base : Nat} {w : World} {ok : Nat → Prop} {A : Option Addr} {n c : Nat} {xs : List Int} (h : Kd.R (Kd.int k) e w base ok (.slice A n c) xs) : c ≤ 9223372036854775807 := by
  have ho := Kd.own_of_R (enc := Value.int k) (h1 := fun _ => rfl) h
  rcases ho.2 with ⟨hn, _⟩ | ⟨g, cap, cur, he, h0, hg, h2, h3, _⟩
  · injection hn with _ _ h3
    omega
  · injection he with _ _ h4
    simp only [maxLen] at h3
    omega
theorem R_weaken {k : IntKind} {e base b2 : Nat} {w : World} {ok ok2 : Nat → Prop} {v : Value} {xs : List Int} (h : Kd.R (Kd.int k) e w base ok v xs) (hb : ∀ i, v.ownBlock = some i → b2 ≤ i) (ho2 : ∀ i, v.ownBlock = some i → ok2 i) : Kd.R (Kd.int k) e w b2 ok2 v xs := by
  have ho := Kd.own_of_R (enc := Value.int k) (h1 := fun _ => rfl) h
  refine Kd.R_of_own (enc := Value.int k) (h1 := fun _ => rfl) ⟨ho.1, ?_⟩ ho2
  rcases ho.2 with hn | ⟨g, cap, cur, rfl, h0, hg, h2⟩
  · exact .inl hn
  · exact .inr ⟨g, cap, cur, rfl, hb g rfl, hg, h2⟩
theorem C_moved {k : IntKind} {w w' : World} {A : Option Addr} {m : Nat} {l : List Int} (hc : Kd.C (Kd.int k) w A m l) (ha : ∀ ad, A = some ad → 0 < m → w'.heap[ad.block]? = w.heap[ad.block]?) : Kd.C (Kd.int k) w' A m l := by
  refine ⟨hc.1, hc.2.1, fun hn => ?_⟩
  obtain ⟨ad, he, hq⟩ := hc.2.2 hn
  refine ⟨ad, he, fun j q hj => ?_⟩
  obtain ⟨cs, h1, h2, h3⟩ := hq j q hj
  refine ⟨cs, h1, h2, fun i u hu => ?_⟩
  have h4 := h3 i u hu
  have h5 := ha ad he hn
  unfold World.cell? at *
  rw [add_block, h5, ← add_block ad _]
  exact h4
theorem C_block {k : IntKind} {w : World} {ad : Addr} {m : Nat} {l : List Int} (hc : Kd.C (Kd.int k) w (some ad) m l) (hm : 0 < m) : ad.block < w.heap.size := by
  obtain ⟨ad', he, hq⟩ := Kd.at_int hc 0 (by omega) (by omega)
  injection he with he
  subst he
  have := World.block_lt_of_cell? w _ hq
  rwa [add_block] at this
theorem Fr.of_grown {w w' : World} {row : Option Nat} (h : w.grownBy w' row) : Fr (fun k => some k = row) w w' := ⟨h.os, h.tape, h.output, h.size, fun k hk hs => h.block k hk hs⟩
theorem bytes_append {t b : List Int} (ht : ∀ i, 0 ≤ t.getD i 0 ∧ t.getD i 0 < 256) (hb : ∀ i, 0 ≤ b.getD i 0 ∧ b.getD i 0 < 256) (i : Nat) : 0 ≤ (t ++ b).getD i 0 ∧ (t ++ b).getD i 0 < 256 := by
  rw [List.getD_eq_getElem?_getD, List.getElem?_append]
  split
  · rw [← List.getD_eq_getElem?_getD]; exact ht _
  · rw [← List.getD_eq_getElem?_getD]; exact hb _
theorem hash_newN (s : Array Value) (n n' : Int) (rest : Value) (x y : List Int) (hs : s.size = 15) : (hashV s n rest x y).setIfInBounds 15 (.int .i64 n') = hashV s n' rest x y := by
  unfold hashV
  rw [List.setIfInBounds_toArray, List.set_append_right _ _ (by rw [Array.length_toList, hs]; omega), Array.length_toList, hs]
  rfl
theorem setCell_off (w : World) (a : Addr) (v : Value) (k : Nat) (h : k ≠ a.block) : (w.setCell a v).heap[k]? = w.heap[k]? := Below.heap_setCell w a v k h
set_option maxRecDepth 100000 in
set_option maxHeartbeats 1000000 in
theorem write_c (base : Nat) (wide : Bool) (K S t : List Int) (p : Nat) (v : Value) (A : Option Addr) (c : Nat) (b : List Int) (w : World) (H : HashAt base wide K S t p v w) (L : Laid K S w)
    (hb : Kd.C (Kd.int .u8) w A b.length b) (ha : Away p A b.length) (ha2 : ∀ k, v.ownBlock = some k → Away k A b.length) (hbd : ∀ i, 0 ≤ b.getD i 0 ∧ b.getD i 0 < 256) (hm : t.length + b.length ≤ 1048576) :
    Calls Tryd.prog 99 #[.pointer (some ⟨p, 0, none⟩), .slice A b.length c] w fun e w' => e = .returned (.int .i64 0) ∧ ∃ v', HashAt base wide K S (t ++ b) p v' w' ∧ (∀ k, v'.ownBlock = some k → w.heap.size ≤ k) ∧ Fr (fun k => k = p ∨ v.ownBlock = some k) w w' := by
  have hd : decide ((1048576 : Int) - ↑t.length < ↑b.length) = false := decide_eq_false (by omega)
  have hmI : (↑t.length : Int) + ↑b.length ≤ 1048576 := by omega
  have hcells := H.cells
  have hs := shV_size wide
  have hbd2 := bytes_append H.bytes hbd
  have hps := blk_lt hcells
  have hB := H.hbase
  have hg0 := H.g0
  have hg1 := H.g1
  have c15 : w.cell? ⟨p, 15, none⟩ = some (.int .i64 t.length) := (blk_cell hcells 15).trans (hash_at15 _ _ _ _ _ hs)
  have f15 : w.frozen? ⟨p, 15, none⟩ = false := blk_frozen hcells _
  have HH := Aside0.mk (And.intro H (And.intro L (And.intro hb (And.intro ha (And.intro ha2 hbd2)))))
  clear H L hb ha ha2 hbd2 hbd hcells
  go_enter Tryd.func99, Tryd.ntmps99
  go_upto_region 6 with fail
  obtain ⟨H, L, hb, ha, ha2, hbd2⟩ := HH.out
  have hqb := bl_le wide t.length
  have hq2 : bl wide * (t.length / bl wide) ≤ (t ++ b).length := by rw [List.length_append]; omega
  have P1 : Aside0 ((w.setCell ⟨p, 15, none⟩ (.int .i64 (↑t.length + ↑b.length))).heap[p]? = some (.cells (hashV (shV wide) ((t ++ b).length : Nat) v (W32 wide K S (t ++ b) (t.length / bl wide)) (W64 wide K S (t ++ b) (t.length / bl wide))) 187 (0, 0)) ∧
      Kd.R (Kd.int .u8) 5 (w.setCell ⟨p, 15, none⟩ (.int .i64 (↑t.length + ↑b.length))) base (fun k => k ≠ p) v (t.drop (bl wide * (t.length / bl wide))) ∧ Kd.C (Kd.int .u8) (w.setCell ⟨p, 15, none⟩ (.int .i64 (↑t.length + ↑b.length))) A b.length b ∧ Fr (fun k => k = p) w (w.setCell ⟨p, 15, none⟩ (.int .i64 (↑t.length + ↑b.length)))) := ⟨by
    refine ⟨?_, R_moved H.row (fun i hi => setCell_off _ _ _ _ (H.row.1 i hi)), C_moved hb (fun ad he hn => setCell_off _ _ _ _ (ha hn ad he)), (Fr.refl _ _).setCell _ _ (.inl rfl)⟩
    rw [W32_congr wide K S t b _ hqb, W64_congr wide K S t b _ hqb]
    refine blk_put H.cells 15 _ ?_
    rw [List.length_append, Int.natCast_add]
    exact hash_newN _ _ _ _ _ _ hs⟩
  clear hb ha c15 f15
  generalize w.setCell ⟨p, 15, none⟩ (.int .i64 (↑t.length + ↑b.length)) = w1 at P1 ⊢
  have c16 : w1.cell? ⟨p, 16, none⟩ = some v := (blk_cell P1.out.1 16).trans (hash_at16 _ _ _ _ _ hs)
  have hsz1 : base ≤ w1.heap.size := by have := blk_lt P1.out.1; omega
  have hlr := bl_rest wide t
  have hlm := Nat.mod_le t.length (bl wide)
  have hdr : t.drop (bl wide * (t.length / bl wide)) ++ b = (t ++ b).drop (bl wide * (t.length / bl wide)) := (List.drop_append_of_le_length hqb).symm
  have HQ := Aside0.mk (And.intro hq2 (And.intro hlr (And.intro hlm (And.intro hdr hqb))))
  clear hq2 hlr hlm hdr hqb
  go_wp2_with (first
    | (at_builtin; refine Kd.R_append_row (Value.int .u8) 0 (w0 := w1) base rfl (.tmp 31) (.tmp 32) 30 5 (.int .u8 0) 1 rfl Tryd.underlying30 info_u8 rfl (by decide) v (t.drop (bl wide * (t.length / bl wide))) b A b.length c (fun k => k ≠ p) rfl rfl (fun k hk => by have := blk_lt P1.out.1; omega) P1.out.2.1 P1.out.2.2.1 (Below.refl _ _) hsz1 (by have := HQ.out; omega) ?_
       intro v1 w2 hown hB2 hg2 hat2
       rw [HQ.out.2.2.2.1] at hown
       have P2 := Aside0.mk (And.intro hown (And.intro hg2 hat2))
       clear hown hB2 hg2 hat2
       obtain ⟨A1, c1, rfl, hc1, hC1⟩ := Kd.R_reads P2.out.1
       have hcap := R_cap P2.out.1
       generalize hm1 : (List.drop (bl wide * (t.length / bl wide)) (t ++ b)).length = m1 at P2 hC1 hc1 ⊢
       have HC1 := Aside0.mk (And.intro hC1 hm1)
       clear hC1 hm1)
    )
  have hp2 : w2.heap[p]? = some (.cells (hashV (shV wide) ((t ++ b).length : Nat) v (W32 wide K S (t ++ b) (t.length / bl wide)) (W64 wide K S (t ++ b) (t.length / bl wide))) 187 (0, 0)) := (P2.out.2.1.block p (blk_lt P1.out.1) (fun e => P1.out.2.1.1 p e.symm rfl)).trans P1.out.1
  have hA1 : Away p A1 m1 := fun hp ad e => by subst e; exact P2.out.1.1 ad.block rfl
  have hK2 : ∀ i, i < 80 → w2.cell? ⟨8, i, none⟩ = some (.int .u64 (K.getD i 0)) := fun i hi => ((Fr.of_grown P2.out.2.1).cell (P1.out.2.2.2.cell (L.k i hi) (by show ¬ 8 = p; omega)) (fun e => by have h : base ≤ 8 := Kd.R_base P1.out.2.1 _ e.symm; omega))
  refine (take_c wide p (t.length / bl wide) ((t ++ b).length : Nat) v A1 m1 c1 (t ++ b) K S w2 HQ.out.1 (HC1.out.2.symm.trans (List.length_drop ..)) hp2 HC1.out.1 hc1 hcap hA1 hbd2 hK2 (by omega)).mono ?_
  rintro e w3 ⟨A3, c3, rfl, hc3, hC3, ha3, hp3, hF3⟩
  have hm3l : (t ++ b).length % bl wide ≤ 1048576 := by have := Nat.mod_le (t ++ b).length (bl wide); rw [List.length_append] at *; omega
  generalize hm3 : (t ++ b).length % bl wide = m3 at hc3 hC3 ha3 hm3l ⊢
  have P3 := Aside0.mk (And.intro hC3 (And.intro ha3 (And.intro hp3 hF3)))
  clear hC3 ha3 hp3 hF3 hm3
  go_wp2_with (first
    | (at_builtin; refine Kd.R_append_row (Value.int .u8) 0 (w0 := w3) base rfl _ (.tmp 34) 30 5 (.int .u8 0) 1 rfl Tryd.underlying30 info_u8 rfl (by decide) (.slice none 0 0) [] ((t ++ b).drop (bl wide * ((t ++ b).length / bl wide))) A3 m3 c3 (fun k => k ≠ p) rfl rfl (fun k hk => by have := blk_lt P3.out.2.2.1; omega) (Kd.R_nil _ _ _ _ _) P3.out.1 (Below.refl _ _) (by have := blk_lt P3.out.2.2.1; omega) (by simp only [List.length_nil]; omega) ?_
       intro v4 w4 hown4 hB4 hg4 hat4
       obtain ⟨A4, c4, rfl, hc4, hC4⟩ := Kd.R_reads hown4
       clear hc4 hC4
       generalize hm4 : ([] ++ List.drop (bl wide * ((t ++ b).length / bl wide)) (t ++ b) : List Int).length = m4 at hown4 hat4 ⊢
       have P4 := Aside0.mk (And.intro hown4 (And.intro hg4 hat4))
       clear hown4 hB4 hg4 hat4
       have hp4 := Aside0.mk ((P4.out.2.1.block p (blk_lt P3.out.2.2.1) (by intro e; cases e)).trans P3.out.2.2.1)
       have f16 : w4.frozen? ⟨p, 16, none⟩ = false := blk_frozen hp4.out _
       have c16' : w4.cell? ⟨p, 16, none⟩ = some v := (blk_cell hp4.out 16).trans (hash_at16 _ _ _ _ _ hs)))
  go_ret
  have hF : Fr (fun k => k = p ∨ v.ownBlock = some k) w w4 := (((P1.out.2.2.2.mono (fun i hi => Or.inl hi)).trans (Fr.of_grown P2.out.2.1) (fun i hi => .inl (.inr hi.symm))).trans P3.out.2.2.2 (fun i hi => .inl (.inl hi))).trans (Fr.of_grown P4.out.2.1) (fun i hi => by cases hi)
  have h4 : ∀ k, (Value.slice A4 m4 c4).ownBlock = some k → w.heap.size ≤ k := fun k hk => by
    rcases P4.out.2.2 with e | ⟨q, e, hq⟩
    · rw [e] at hk; cases hk
    · rw [e] at hk; injection hk with hk; subst hk
      have := P1.out.2.2.2.size
      have := P2.out.2.1.size
      have := P3.out.2.2.2.size
      omega
  refine ⟨rfl, .slice A4 m4 c4, ⟨?_, ?_, hB, hg0, hg1, by rw [List.length_append]; exact hm, hbd2⟩, h4, hF.setCell _ _ (.inl (.inl rfl))⟩
  · exact blk_put hp4.out 16 _ (hash_newRest _ _ _ _ _ _ hs)
  · exact R_moved P4.out.1 (fun i hi => setCell_off _ _ _ _ (P4.out.1.1 i hi))
end Go.Proofs.YtbenedckmapjoaaDoor.H
namespace Go.Proofs.YtbenedckmapjoaaDoor.H
open Go.RowKit Go.Proofs.YtbenedckmapjoaaDoorW.PrintWords
theorem hash_size (s : Array Value) (n : Int) (rest : Value) (x y : List Int) (hs : s.size = 15) (hx : x.length = 8) (hy : y.length = 8) : (hashV s n rest x y).size = 33 := by
  unfold hashV
  simp only [List.size_toArray, List.length_append, Array.length_toList, List.length_cons, List.length_map, hs, hx, hy]
theorem hash_one (wide : Bool) (n : Int) (A : Option Addr) (m c : Nat) (x y : List Int) : (hashV (shV wide) n (.slice A m c) x y).all (·.oneCell') = true := by
  unfold hashV
  rw [← Array.all_toList]
  cases wide <;> simp [shV, narrowV, wideV, Value.oneCell']
set_option maxRecDepth 100000 in
set_option maxHeartbeats 1000000 in
theorem copy_c (base : Nat) (wide : Bool) (K S t : List Int) (p : Nat) (v : Value) (w : World) (H : HashAt base wide K S t p v w) :
    Calls Tryd.prog 130 #[.pointer (some ⟨p, 0, none⟩)] w fun e w' => ∃ p' v', e = .returned (.pointer (some ⟨p', 0, none⟩)) ∧ HashAt base wide K S t p' v' w' ∧ w.heap.size ≤ p' ∧ (∀ k, v'.ownBlock = some k → w.heap.size ≤ k) ∧ Below w.heap.size w w' := by
  obtain ⟨A, m, hv, hm, hC⟩ := Kd.R_reads H.row
  obtain ⟨n0, hn0⟩ : ∃ n0, n0 = (t.drop (bl wide * (t.length / bl wide))).length := ⟨_, rfl⟩
  rw [← hn0] at hv hm hC
  have hn0m : n0 ≤ 1048576 := by have := H.most; rw [hn0, List.length_drop]; omega
  subst hv
  have hcells := H.cells
  have hs := shV_size wide
  have hsz := hash_size (shV wide) t.length (.slice A n0 m) _ _ hs (W32_length wide K S t (t.length / bl wide)) (W64_length wide K S t (t.length / bl wide))
  have hi33 : (Tryd.prog.info? 187).map (·.size) = some (hashV (shV wide) t.length (.slice A n0 m) (W32 wide K S t (t.length / bl wide)) (W64 wide K S t (t.length / bl wide))).size := by rw [hsz]; kernel_rfl
  have hone := hash_one wide t.length A n0 m (W32 wide K S t (t.length / bl wide)) (W64 wide K S t (t.length / bl wide))
  have hp0 := blk_lt hcells
  have HH := Aside0.mk H
  have HC := Aside0.mk hcells
  have HI := Aside0.mk hi33
  have HO := Aside0.mk hone
  have HS := Aside0.mk hsz
  have H1 := Aside0.mk (fun v => hash_newRest (shV wide) t.length (.slice A n0 m) v (W32 wide K S t (t.length / bl wide)) (W64 wide K S t (t.length / bl wide)) hs)
  have H16 := Aside0.mk (hash_at16 (shV wide) t.length (.slice A n0 m) (W32 wide K S t (t.length / bl wide)) (W64 wide K S t (t.length / bl wide)) hs)
  have HR := Aside0.mk (And.intro hC hn0)
  clear H hi33 hone hsz hcells hC hn0
  generalize hG : hashV (shV wide) t.length (.slice A n0 m) (W32 wide K S t (t.length / bl wide)) (W64 wide K S t (t.length / bl wide)) = cs at HC HI HO HS H1 H16
  go_enter Tryd.func130, Tryd.ntmps130
  go_upto_region 4 with (first
    | (refine wpList_load_row rfl 187 (.tmp 7) rfl p (by rfl) 187 cs (0, 0) _ HC.out Tryd.underlying187 rfl HI.out ?_)
    | (refine wpList_store_row rfl 187 (.tmp 3) (.tmp 8) rfl w.heap.size cs (by rfl) (by rfl) 187 _ (new1 _ _) HI.out (by rw [HS.out]; rfl) HO.out ?_; rw [World.setRow_alloc_new]))
  have P1 : Aside0 ((w.alloc (.cells cs 187)).heap[w.heap.size]? = some (.cells cs 187 (0, 0)) ∧ (w.alloc (.cells cs 187)).heap[p]? = some (.cells cs 187 (0, 0)) ∧ Below w.heap.size w (w.alloc (.cells cs 187)) ∧ Kd.C (Kd.int .u8) (w.alloc (.cells cs 187)) A n0 (t.drop (bl wide * (t.length / bl wide)))) :=
    ⟨⟨new1 _ _, blk_alloc HC.out _, below_alloc (Below.refl _ _) _, Kd.C_alloc HR.out.1 _⟩⟩
  generalize w.alloc (.cells cs 187) = w1 at P1 ⊢
  have c16 : w1.cell? ⟨p, 16, none⟩ = some (.slice A n0 m) := (blk_cell P1.out.2.1 16).trans H16.out
  go_wp2_with (first
    | (at_builtin; refine Kd.R_append_row (Value.int .u8) 0 (w0 := w1) w1.heap.size rfl _ (.tmp 12) 30 5 (.int .u8 0) 1 rfl Tryd.underlying30 info_u8 rfl (by decide) (.slice none 0 0) [] (t.drop (bl wide * (t.length / bl wide))) A n0 m (fun k => w1.heap.size ≤ k) rfl rfl (fun k hk => hk) (Kd.R_nil _ _ _ _ _) P1.out.2.2.2 (Below.refl _ _) (Nat.le_refl _) (by simp only [List.length_nil]; omega) ?_
       intro v4 w4 hown4 hB4 hg4 hat4
       rw [List.nil_append] at hown4
       obtain ⟨A4, c4, rfl, hc4, hC4⟩ := Kd.R_reads hown4
       clear hc4 hC4
       generalize hm4 : (List.drop (bl wide * (t.length / bl wide)) t).length = m4 at hown4 hat4 ⊢
       have P4 := Aside0.mk (And.intro hown4 (And.intro hg4 (And.intro hat4 hB4)))
       clear hown4 hB4 hg4 hat4 hm4
       have hp4 := Aside0.mk ((P4.out.2.1.block w.heap.size (blk_lt P1.out.1) (by intro e; cases e)).trans P1.out.1)
       have f16 : w4.frozen? ⟨w.heap.size, 16, none⟩ = false := blk_frozen hp4.out _
       have c16' : w4.cell? ⟨w.heap.size, 16, none⟩ = some (.slice A n0 m) := (blk_cell hp4.out 16).trans H16.out))
  go_ret
  have hB := HH.out.hbase
  have hsz1 := blk_lt P1.out.1
  have hne : ∀ k, (Value.slice A4 m4 c4).ownBlock = some k → w1.heap.size ≤ k := P4.out.1.1
  refine ⟨w.heap.size, .slice A4 m4 c4, rfl, ⟨?_, ?_, by omega, HH.out.g0, HH.out.g1, HH.out.most, HH.out.bytes⟩, Nat.le_refl _, fun k hk => by have := hne k hk; omega, ?_⟩
  · have := blk_put hp4.out 16 (.slice A4 m4 c4) (H1.out _)
    exact this
  · refine R_weaken (R_moved P4.out.1 (fun i hi => setCell_off _ _ _ _ (by have := hne i hi; show i ≠ w.heap.size; omega))) (fun i hi => by have := hne i hi; omega) (fun i hi => by have := hne i hi; omega)
  · exact below_set (below_step P1.out.2.2.1 P4.out.2.2.2) (Nat.le_refl _)
end Go.Proofs.YtbenedckmapjoaaDoor.H
