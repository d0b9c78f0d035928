/- Reset. -/
import Derived.Test.YtckjgipkdknmgaaDoorHe
namespace Go.Proofs.YtckjgipkdknmgaaDoor.H
open Go.RowKit Go.Proofs.YtckjgipkdknmgaaDoorW.PrintWords
/-- A hash with the words x and y set: cell by cell. -/
theorem hash_new32 (s : Array Value) (n : Int) (rest : Value) (x y : List Int) (hs : s.size = 15) : (hashV s n rest x y).setIfInBounds 15 (.int .i64 0) = hashV s 0 rest x y := by
  unfold hashV
  rw [List.setIfInBounds_toArray, List.set_append_right _ _ (by rw [Array.length_toList, hs]; omega), Array.length_toList, hs]
  rfl
theorem hash_newRest (s : Array Value) (n : Int) (rest v : Value) (x y : List Int) (hs : s.size = 15) : (hashV s n rest x y).setIfInBounds 16 v = hashV s n v x y := by
  unfold hashV
  rw [List.setIfInBounds_toArray, List.set_append_right _ _ (by rw [Array.length_toList, hs]; omega), Array.length_toList, hs]
  rfl
theorem hash_at15 (s : Array Value) (n : Int) (rest : Value) (x y : List Int) (hs : s.size = 15) : (hashV s n rest x y)[15]? = some (.int .i64 n) := by
  unfold hashV
  rw [List.getElem?_toArray, List.getElem?_append_right (by rw [Array.length_toList, hs]; omega), Array.length_toList, hs]
  rfl
theorem hash_at16 (s : Array Value) (n : Int) (rest : Value) (x y : List Int) (hs : s.size = 15) : (hashV s n rest x y)[16]? = some rest := by
  unfold hashV
  rw [List.getElem?_toArray, List.getElem?_append_right (by rw [Array.length_toList, hs]; omega), Array.length_toList, hs]
  rfl
theorem hash_at32 (s : Array Value) (n : Int) (rest : Value) (x y : List Int) (hs : s.size = 15) (i : Nat) (hi : i < x.length) : (hashV s n rest x y)[17 + i]? = some (.int .u32 (x.getD i 0)) := by
  unfold hashV
  rw [List.getElem?_toArray, List.getElem?_append_right (by rw [Array.length_toList, hs]; omega), Array.length_toList, hs, show 17 + i - 15 = i + 1 + 1 by omega, List.getElem?_cons_succ, List.getElem?_cons_succ, List.getElem?_append_left (by rw [List.length_map]; exact hi), List.getElem?_map, List.getElem?_eq_getElem hi, List.getD_eq_getElem?_getD, List.getElem?_eq_getElem hi]
  rfl
theorem hash_at64 (s : Array Value) (n : Int) (rest : Value) (x y : List Int) (hs : s.size = 15) (hx : x.length = 8) (i : Nat) (hi : i < y.length) : (hashV s n rest x y)[25 + i]? = some (.int .u64 (y.getD i 0)) := by
  unfold hashV
  rw [List.getElem?_toArray, List.getElem?_append_right (by rw [Array.length_toList, hs]; omega), Array.length_toList, hs, show 25 + i - 15 = (8 + i) + 1 + 1 by omega, List.getElem?_cons_succ, List.getElem?_cons_succ, List.getElem?_append_right (by rw [List.length_map, hx]; omega), List.length_map, hx, show 8 + i - 8 = i by omega, List.getElem?_map, List.getElem?_eq_getElem hi, List.getD_eq_getElem?_getD, List.getElem?_eq_getElem hi]
  rfl
set_option maxRecDepth 100000 in
set_option maxHeartbeats 4000000 in
theorem stored32 {w1 : World} {p : Nat} {s : Array Value} {n : Int} {rest : Value} {x0 x1 x2 x3 x4 x5 x6 x7 : Int} {x : List Int} (hs : s.size = 15) (h : w1.heap[p]? = some (.cells (hashV s n rest [x0, x1, x2, x3, x4, x5, x6, x7] x) 65 (0, 0))) (z0 z1 z2 z3 z4 z5 z6 z7 : Int) : ((((((((w1.setCell ⟨p, 17, none⟩ (.int .u32 z0)).setCell ⟨p, 18, none⟩ (.int .u32 z1)).setCell ⟨p, 19, none⟩ (.int .u32 z2)).setCell ⟨p, 20, none⟩ (.int .u32 z3)).setCell ⟨p, 21, none⟩ (.int .u32 z4)).setCell ⟨p, 22, none⟩ (.int .u32 z5)).setCell ⟨p, 23, none⟩ (.int .u32 z6)).setCell ⟨p, 24, none⟩ (.int .u32 z7)).heap[p]? = some (.cells (hashV s n rest [z0, z1, z2, z3, z4, z5, z6, z7] x) 65 (0, 0)) := by
  have k0 := blk_put h 17 (.int .u32 z0) (put_h s rest _ _ _ 0 z0 hs (by simp) rfl : _ = hashV s n rest [z0, x1, x2, x3, x4, x5, x6, x7] x)
  have k1 := blk_put k0 18 (.int .u32 z1) (put_h s rest _ _ _ 1 z1 hs (by simp) rfl : _ = hashV s n rest [z0, z1, x2, x3, x4, x5, x6, x7] x)
  have k2 := blk_put k1 19 (.int .u32 z2) (put_h s rest _ _ _ 2 z2 hs (by simp) rfl : _ = hashV s n rest [z0, z1, z2, x3, x4, x5, x6, x7] x)
  have k3 := blk_put k2 20 (.int .u32 z3) (put_h s rest _ _ _ 3 z3 hs (by simp) rfl : _ = hashV s n rest [z0, z1, z2, z3, x4, x5, x6, x7] x)
  have k4 := blk_put k3 21 (.int .u32 z4) (put_h s rest _ _ _ 4 z4 hs (by simp) rfl : _ = hashV s n rest [z0, z1, z2, z3, z4, x5, x6, x7] x)
  have k5 := blk_put k4 22 (.int .u32 z5) (put_h s rest _ _ _ 5 z5 hs (by simp) rfl : _ = hashV s n rest [z0, z1, z2, z3, z4, z5, x6, x7] x)
  have k6 := blk_put k5 23 (.int .u32 z6) (put_h s rest _ _ _ 6 z6 hs (by simp) rfl : _ = hashV s n rest [z0, z1, z2, z3, z4, z5, z6, x7] x)
  have k7 := blk_put k6 24 (.int .u32 z7) (put_h s rest _ _ _ 7 z7 hs (by simp) rfl : _ = hashV s n rest [z0, z1, z2, z3, z4, z5, z6, z7] x)
  exact k7
theorem Fr.stored32 {S : Nat → Prop} {w w1 : World} {p : Nat} (h : Fr S w w1) (hp : S p) (z0 z1 z2 z3 z4 z5 z6 z7 : Int) : Fr S w ((((((((w1.setCell ⟨p, 17, none⟩ (.int .u32 z0)).setCell ⟨p, 18, none⟩ (.int .u32 z1)).setCell ⟨p, 19, none⟩ (.int .u32 z2)).setCell ⟨p, 20, none⟩ (.int .u32 z3)).setCell ⟨p, 21, none⟩ (.int .u32 z4)).setCell ⟨p, 22, none⟩ (.int .u32 z5)).setCell ⟨p, 23, none⟩ (.int .u32 z6)).setCell ⟨p, 24, none⟩ (.int .u32 z7)) :=
  ((((((((h.setCell ⟨p, 17, none⟩ _ (.inl hp)).setCell ⟨p, 18, none⟩ _ (.inl hp)).setCell ⟨p, 19, none⟩ _ (.inl hp)).setCell ⟨p, 20, none⟩ _ (.inl hp)).setCell ⟨p, 21, none⟩ _ (.inl hp)).setCell ⟨p, 22, none⟩ _ (.inl hp)).setCell ⟨p, 23, none⟩ _ (.inl hp)).setCell ⟨p, 24, none⟩ _ (.inl hp))
set_option maxRecDepth 100000 in
set_option maxHeartbeats 4000000 in
theorem stored64 {w1 : World} {p : Nat} {s : Array Value} {n : Int} {rest : Value} {x0 x1 x2 x3 x4 x5 x6 x7 : Int} {x : List Int} (hs : s.size = 15) (hy : x.length = 8) (h : w1.heap[p]? = some (.cells (hashV s n rest x [x0, x1, x2, x3, x4, x5, x6, x7]) 65 (0, 0))) (z0 z1 z2 z3 z4 z5 z6 z7 : Int) : ((((((((w1.setCell ⟨p, 25, none⟩ (.int .u64 z0)).setCell ⟨p, 26, none⟩ (.int .u64 z1)).setCell ⟨p, 27, none⟩ (.int .u64 z2)).setCell ⟨p, 28, none⟩ (.int .u64 z3)).setCell ⟨p, 29, none⟩ (.int .u64 z4)).setCell ⟨p, 30, none⟩ (.int .u64 z5)).setCell ⟨p, 31, none⟩ (.int .u64 z6)).setCell ⟨p, 32, none⟩ (.int .u64 z7)).heap[p]? = some (.cells (hashV s n rest x [z0, z1, z2, z3, z4, z5, z6, z7]) 65 (0, 0)) := by
  have k0 := blk_put h 25 (.int .u64 z0) (put_h64 s rest _ _ _ 0 z0 hs hy (by simp) rfl : _ = hashV s n rest x [z0, x1, x2, x3, x4, x5, x6, x7])
  have k1 := blk_put k0 26 (.int .u64 z1) (put_h64 s rest _ _ _ 1 z1 hs hy (by simp) rfl : _ = hashV s n rest x [z0, z1, x2, x3, x4, x5, x6, x7])
  have k2 := blk_put k1 27 (.int .u64 z2) (put_h64 s rest _ _ _ 2 z2 hs hy (by simp) rfl : _ = hashV s n rest x [z0, z1, z2, x3, x4, x5, x6, x7])
  have k3 := blk_put k2 28 (.int .u64 z3) (put_h64 s rest _ _ _ 3 z3 hs hy (by simp) rfl : _ = hashV s n rest x [z0, z1, z2, z3, x4, x5, x6, x7])
  have k4 := blk_put k3 29 (.int .u64 z4) (put_h64 s rest _ _ _ 4 z4 hs hy (by simp) rfl : _ = hashV s n rest x [z0, z1, z2, z3, z4, x5, x6, x7])
  have k5 := blk_put k4 30 (.int .u64 z5) (put_h64 s rest _ _ _ 5 z5 hs hy (by simp) rfl : _ = hashV s n rest x [z0, z1, z2, z3, z4, z5, x6, x7])
  have k6 := blk_put k5 31 (.int .u64 z6) (put_h64 s rest _ _ _ 6 z6 hs hy (by simp) rfl : _ = hashV s n rest x [z0, z1, z2, z3, z4, z5, z6, x7])
  have k7 := blk_put k6 32 (.int .u64 z7) (put_h64 s rest _ _ _ 7 z7 hs hy (by simp) rfl : _ = hashV s n rest x [z0, z1, z2, z3, z4, z5, z6, z7])
  exact k7
theorem Fr.stored64 {S : Nat → Prop} {w w1 : World} {p : Nat} (h : Fr S w w1) (hp : S p) (z0 z1 z2 z3 z4 z5 z6 z7 : Int) : Fr S w ((((((((w1.setCell ⟨p, 25, none⟩ (.int .u64 z0)).setCell ⟨p, 26, none⟩ (.int .u64 z1)).setCell ⟨p, 27, none⟩ (.int .u64 z2)).setCell ⟨p, 28, none⟩ (.int .u64 z3)).setCell ⟨p, 29, none⟩ (.int .u64 z4)).setCell ⟨p, 30, none⟩ (.int .u64 z5)).setCell ⟨p, 31, none⟩ (.int .u64 z6)).setCell ⟨p, 32, none⟩ (.int .u64 z7)) :=
  ((((((((h.setCell ⟨p, 25, none⟩ _ (.inl hp)).setCell ⟨p, 26, none⟩ _ (.inl hp)).setCell ⟨p, 27, none⟩ _ (.inl hp)).setCell ⟨p, 28, none⟩ _ (.inl hp)).setCell ⟨p, 29, none⟩ _ (.inl hp)).setCell ⟨p, 30, none⟩ _ (.inl hp)).setCell ⟨p, 31, none⟩ _ (.inl hp)).setCell ⟨p, 32, none⟩ _ (.inl hp))
set_option maxRecDepth 100000 in
set_option maxHeartbeats 1000000 in
theorem reset_c (p : Nat) (s : Array Value) (n : Int) (rest : Value) (x y S : List Int) (w : World) (hs : s.size = 15) (hx : x.length = 8) (hy : y.length = 8)
    (hp : w.heap[p]? = some (.cells (hashV s n rest x y) 65 (0, 0))) (hS : ∀ i, i < 8 → w.cell? ⟨1, i, none⟩ = some (.int .u64 (S.getD i 0))) (hpS : p ≠ 1) :
    Calls Tryd.prog 23 #[.pointer (some ⟨p, 0, none⟩)] w fun e w' => e = .returned (.tuple #[]) ∧ w'.heap[p]? = some (.cells (hashV s 0 (.slice none 0 0) (fill32 S 8) (fill64 S 8)) 65 (0, 0)) ∧ Fr (· = p) w w' := by
  have HS := Lib.hid hS
  clear hS
  go_enter Tryd.func23, Tryd.ntmps23
  have c15 : w.cell? ⟨p, 15, none⟩ = some (.int .i64 n) := (blk_cell hp 15).trans (hash_at15 _ _ _ _ _ hs)
  have c16 : w.cell? ⟨p, 16, none⟩ = some rest := (blk_cell hp 16).trans (hash_at16 _ _ _ _ _ hs)
  have f15 : w.frozen? ⟨p, 15, none⟩ = false := blk_frozen hp _
  have f16 : w.frozen? ⟨p, 16, none⟩ = false := blk_frozen hp _
  go_upto_region 2 with fail
  have R2 : Aside0 (((w.setCell ⟨p, 15, none⟩ (.int .i64 0)).setCell ⟨p, 16, none⟩ (.slice none 0 0)).heap[p]? = some (.cells (hashV s 0 (.slice none 0 0) x y) 65 (0, 0)) ∧ Fr (· = p) w ((w.setCell ⟨p, 15, none⟩ (.int .i64 0)).setCell ⟨p, 16, none⟩ (.slice none 0 0))) :=
    ⟨⟨blk_put (blk_put hp 15 _ (hash_new32 _ _ _ _ _ hs)) 16 _ (hash_newRest _ _ _ _ _ _ hs), ((Fr.refl (· = p) w).setCell ⟨p, 15, none⟩ _ (.inl rfl)).setCell ⟨p, 16, none⟩ _ (.inl rfl)⟩⟩
  clear c15 c16 f15 f16
  generalize (w.setCell ⟨p, 15, none⟩ (.int .i64 0)).setCell ⟨p, 16, none⟩ (.slice none 0 0) = w1 at R2 ⊢
  obtain ⟨a0, a1, a2, a3, a4, a5, a6, a7, ha⟩ := eight_of (show (fill32 S 8).length = 8 by simp [fill32])
  obtain ⟨b0, b1, b2, b3, b4, b5, b6, b7, hb⟩ := eight_of (show (fill64 S 8).length = 8 by simp [fill64])
  have ka : cells32 [a0, a1, a2, a3, a4, a5, a6, a7] = #[.int .u32 a0, .int .u32 a1, .int .u32 a2, .int .u32 a3, .int .u32 a4, .int .u32 a5, .int .u32 a6, .int .u32 a7] := rfl
  have kb : cells64 [b0, b1, b2, b3, b4, b5, b6, b7] = #[.int .u64 b0, .int .u64 b1, .int .u64 b2, .int .u64 b3, .int .u64 b4, .int .u64 b5, .int .u64 b6, .int .u64 b7] := rfl
  go_wp2_with (first
    | (go_at_call 46; refine (narrow_c _).mono ?_; rintro e w2 ⟨rfl, hb2⟩; have R3 := Aside0.mk (And.intro (blk_below R2.out.1 hb2) (R2.out.2.then_below hb2)); clear hb2 R2)
    | (go_at_call 45; refine (begin32_c _ S (fun i hi => R3.out.2.cell (HS i hi) (fun e => hpS e.symm))).mono ?_; rintro e w3 ⟨rfl, hb3⟩; have R4 := Aside0.mk (And.intro (blk_below R3.out.1 hb3) (R3.out.2.then_below hb3)); clear hb3 R3; rw [ha, ka])
    | (go_at_call 48; refine (wide_c _).mono ?_; rintro e w4 ⟨rfl, hb4⟩; have R5 := Aside0.mk (And.intro (blk_below R4.out.1 hb4) (R4.out.2.then_below hb4)); clear hb4 R4)
    | (go_at_call 47; refine (begin64_c _ S (fun i hi => R5.out.2.cell (HS i hi) (fun e => hpS e.symm))).mono ?_; rintro e w5 ⟨rfl, hb5⟩; have R6 := Aside0.mk (And.intro (blk_below R5.out.1 hb5) (R5.out.2.then_below hb5)); clear hb5 R5; rw [hb, kb]; have c17 := (blk_cell R6.out.1 17).trans (hash_at32 _ _ _ _ _ hs 0 (by omega)); have f17 := blk_frozen R6.out.1 17; have c18 := (blk_cell R6.out.1 18).trans (hash_at32 _ _ _ _ _ hs 1 (by omega)); have f18 := blk_frozen R6.out.1 18; have c19 := (blk_cell R6.out.1 19).trans (hash_at32 _ _ _ _ _ hs 2 (by omega)); have f19 := blk_frozen R6.out.1 19; have c20 := (blk_cell R6.out.1 20).trans (hash_at32 _ _ _ _ _ hs 3 (by omega)); have f20 := blk_frozen R6.out.1 20; have c21 := (blk_cell R6.out.1 21).trans (hash_at32 _ _ _ _ _ hs 4 (by omega)); have f21 := blk_frozen R6.out.1 21; have c22 := (blk_cell R6.out.1 22).trans (hash_at32 _ _ _ _ _ hs 5 (by omega)); have f22 := blk_frozen R6.out.1 22; have c23 := (blk_cell R6.out.1 23).trans (hash_at32 _ _ _ _ _ hs 6 (by omega)); have f23 := blk_frozen R6.out.1 23; have c24 := (blk_cell R6.out.1 24).trans (hash_at32 _ _ _ _ _ hs 7 (by omega)); have f24 := blk_frozen R6.out.1 24; have c25 := (blk_cell R6.out.1 25).trans (hash_at64 _ _ _ _ _ hs hx 0 (by omega)); have f25 := blk_frozen R6.out.1 25; have c26 := (blk_cell R6.out.1 26).trans (hash_at64 _ _ _ _ _ hs hx 1 (by omega)); have f26 := blk_frozen R6.out.1 26; have c27 := (blk_cell R6.out.1 27).trans (hash_at64 _ _ _ _ _ hs hx 2 (by omega)); have f27 := blk_frozen R6.out.1 27; have c28 := (blk_cell R6.out.1 28).trans (hash_at64 _ _ _ _ _ hs hx 3 (by omega)); have f28 := blk_frozen R6.out.1 28; have c29 := (blk_cell R6.out.1 29).trans (hash_at64 _ _ _ _ _ hs hx 4 (by omega)); have f29 := blk_frozen R6.out.1 29; have c30 := (blk_cell R6.out.1 30).trans (hash_at64 _ _ _ _ _ hs hx 5 (by omega)); have f30 := blk_frozen R6.out.1 30; have c31 := (blk_cell R6.out.1 31).trans (hash_at64 _ _ _ _ _ hs hx 6 (by omega)); have f31 := blk_frozen R6.out.1 31; have c32 := (blk_cell R6.out.1 32).trans (hash_at64 _ _ _ _ _ hs hx 7 (by omega)); have f32 := blk_frozen R6.out.1 32))
  obtain ⟨x0, x1, x2, x3, x4, x5, x6, x7, rfl⟩ := eight_of hx
  obtain ⟨y0, y1, y2, y3, y4, y5, y6, y7, rfl⟩ := eight_of hy
  have Q1 := stored64 (s := s) hs rfl (stored32 (s := s) hs R6.out.1 a0 a1 a2 a3 a4 a5 a6 a7) b0 b1 b2 b3 b4 b5 b6 b7
  have Q2 := Fr.stored64 (Fr.stored32 R6.out.2 rfl a0 a1 a2 a3 a4 a5 a6 a7) rfl b0 b1 b2 b3 b4 b5 b6 b7
  (try simp only [Exit.inBlock, Exit.then]); first | refine bodyPost_end (results_none rfl _ _ _) rfl ?_ | refine bodyPost_ret (results_none rfl _ _ _) rfl ?_
  exact ⟨rfl, by rw [ha, hb]; exact Q1, Q2⟩
end Go.Proofs.YtckjgipkdknmgaaDoor.H
