/- Blocks are taken, wide. -/
import Derived.Test.YtbenedckmapjoaaDoorJ5
namespace Go.Proofs.YtbenedckmapjoaaDoor.H
open Go.RowKit Go.Proofs.YtbenedckmapjoaaDoorW.PrintWords
/-- The eight words behind k blocks of a text. -/
def blocks64 (K hs b : List Int) : Nat → List Int
  | 0 => hs
  | k + 1 => mix64 K (blocks64 K hs b k) ((b.drop (128 * k)).take 128)
theorem mix64_length (K hs b : List Int) : (mix64 K hs b).length = hs.length := add64_length _ _ _
theorem blocks64_length (K hs b : List Int) : ∀ k, (blocks64 K hs b k).length = hs.length
  | 0 => rfl
  | k + 1 => by unfold blocks64; rw [mix64_length]; exact blocks64_length K hs b k
theorem hash_wide {w : World} {p : Nat} {n : Int} {rest : Value} {x y : List Int} (h : w.heap[p]? = some (.cells (hashV wideV n rest x y) 187 (0, 0))) :
    w.cell? ⟨p, 0, none⟩ = some (.int .i64 8) ∧ w.cell? ⟨p, 1, none⟩ = some (.int .i64 64) ∧ w.cell? ⟨p, 2, none⟩ = some (.int .i64 80) ∧ w.cell? ⟨p, 3, none⟩ = some (.int .i64 1) ∧ w.cell? ⟨p, 4, none⟩ = some (.int .i64 8) ∧ w.cell? ⟨p, 5, none⟩ = some (.int .i64 7) ∧ w.cell? ⟨p, 6, none⟩ = some (.int .i64 19) ∧ w.cell? ⟨p, 7, none⟩ = some (.int .i64 61) ∧ w.cell? ⟨p, 8, none⟩ = some (.int .i64 6) ∧ w.cell? ⟨p, 9, none⟩ = some (.int .i64 28) ∧ w.cell? ⟨p, 10, none⟩ = some (.int .i64 34) ∧ w.cell? ⟨p, 11, none⟩ = some (.int .i64 39) ∧ w.cell? ⟨p, 12, none⟩ = some (.int .i64 14) ∧ w.cell? ⟨p, 13, none⟩ = some (.int .i64 18) ∧ w.cell? ⟨p, 14, none⟩ = some (.int .i64 41) :=
  ⟨(blk_cell h 0).trans rfl, (blk_cell h 1).trans rfl, (blk_cell h 2).trans rfl, (blk_cell h 3).trans rfl, (blk_cell h 4).trans rfl, (blk_cell h 5).trans rfl, (blk_cell h 6).trans rfl, (blk_cell h 7).trans rfl, (blk_cell h 8).trans rfl, (blk_cell h 9).trans rfl, (blk_cell h 10).trans rfl, (blk_cell h 11).trans rfl, (blk_cell h 12).trans rfl, (blk_cell h 13).trans rfl, (blk_cell h 14).trans rfl⟩
theorem next_bytes128 {w : World} {ad : Addr} {g c k : Nat} {b : List Int} (h : Kd.C (Kd.int .u8) w (some ad) g (b.drop (128 * k))) (hg : 128 ≤ g) (hc : g ≤ c) : Kd.C (Kd.int .u8) w (if c = 128 then some ad else some (ad.add 128)) (g - 128) (b.drop (128 * (k + 1))) := by
  have hl : (b.drop (128 * k)).length = g := Kd.C_len h
  subst hl
  have := Kd.C_drop (m := 128) (c := c) h hg hc
  rw [List.length_drop, List.drop_drop] at this
  rw [show 128 * (k + 1) = 128 * k + 128 by omega]
  exact this
/-- The state in take, the words being x. -/
def Tl (w : World) (p : Nat) (n : Int) (rest : Value) (x y : List Int) (w' : World) : Prop := w'.heap[p]? = some (.cells (hashV wideV n rest y x) 187 (0, 0)) ∧ Fr (· = p) w w'
def TlS (w : World) (p : Nat) (n : Int) (rest : Value) (y : List Int) (w' : World) : Prop := ∃ x0 x1 x2 x3 x4 x5 x6 x7, Tl w p n rest [x0, x1, x2, x3, x4, x5, x6, x7] y w'
section
variable {w w1 w2 : World} {p : Nat} {n : Int} {rest : Value} {x y : List Int}
theorem Tl.drew (h : Tl w p n rest x y w1) : Tl w p n rest x y w1.drew := ⟨h.1, h.2.drew⟩
theorem Tl.drewN (h : Tl w p n rest x y w1) (k : Nat) : Tl w p n rest x y (w1.drewN k) := ⟨h.1, h.2.drewN k⟩
theorem Tl.below (h : Tl w p n rest x y w1) (hb : Below w1.heap.size w1 w2) : Tl w p n rest x y w2 := ⟨blk_below h.1 hb, h.2.then_below hb⟩
theorem Tl.s {x0 x1 x2 x3 x4 x5 x6 x7 : Int} (h : Tl w p n rest [x0, x1, x2, x3, x4, x5, x6, x7] y w1) : TlS w p n rest y w1 := ⟨_, _, _, _, _, _, _, _, h⟩
theorem TlS.cells (h : TlS w p n rest y w1) : TlS w p n rest y w1 ∧ w1.cell? ⟨p, 0, none⟩ = some (.int .i64 8) ∧ w1.cell? ⟨p, 1, none⟩ = some (.int .i64 64) ∧ w1.cell? ⟨p, 2, none⟩ = some (.int .i64 80) ∧ w1.cell? ⟨p, 3, none⟩ = some (.int .i64 1) ∧ w1.cell? ⟨p, 4, none⟩ = some (.int .i64 8) ∧ w1.cell? ⟨p, 5, none⟩ = some (.int .i64 7) ∧ w1.cell? ⟨p, 6, none⟩ = some (.int .i64 19) ∧ w1.cell? ⟨p, 7, none⟩ = some (.int .i64 61) ∧ w1.cell? ⟨p, 8, none⟩ = some (.int .i64 6) ∧ w1.cell? ⟨p, 9, none⟩ = some (.int .i64 28) ∧ w1.cell? ⟨p, 10, none⟩ = some (.int .i64 34) ∧ w1.cell? ⟨p, 11, none⟩ = some (.int .i64 39) ∧ w1.cell? ⟨p, 12, none⟩ = some (.int .i64 14) ∧ w1.cell? ⟨p, 13, none⟩ = some (.int .i64 18) ∧ w1.cell? ⟨p, 14, none⟩ = some (.int .i64 41) ∧ w1.frozen? ⟨p, 25, none⟩ = false ∧ w1.frozen? ⟨p, 26, none⟩ = false ∧ w1.frozen? ⟨p, 27, none⟩ = false ∧ w1.frozen? ⟨p, 28, none⟩ = false ∧ w1.frozen? ⟨p, 29, none⟩ = false ∧ w1.frozen? ⟨p, 30, none⟩ = false ∧ w1.frozen? ⟨p, 31, none⟩ = false ∧ w1.frozen? ⟨p, 32, none⟩ = false := by
  obtain ⟨x0, x1, x2, x3, x4, x5, x6, x7, H⟩ := h
  obtain ⟨c0, c1, c2, c3, c4, c5, c6, c7, c8, c9, c10, c11, c12, c13, c14⟩ := hash_wide H.1
  exact ⟨⟨_, _, _, _, _, _, _, _, H⟩, c0, c1, c2, c3, c4, c5, c6, c7, c8, c9, c10, c11, c12, c13, c14, blk_frozen H.1 _, blk_frozen H.1 _, blk_frozen H.1 _, blk_frozen H.1 _, blk_frozen H.1 _, blk_frozen H.1 _, blk_frozen H.1 _, blk_frozen H.1 _⟩
theorem Tl.words {x0 x1 x2 x3 x4 x5 x6 x7 : Int} (h : Tl w p n rest [x0, x1, x2, x3, x4, x5, x6, x7] y w1) (hy : y.length = 8) : w1.cell? ⟨p, 25, none⟩ = some (.int .u64 x0) ∧ w1.cell? ⟨p, 26, none⟩ = some (.int .u64 x1) ∧ w1.cell? ⟨p, 27, none⟩ = some (.int .u64 x2) ∧ w1.cell? ⟨p, 28, none⟩ = some (.int .u64 x3) ∧ w1.cell? ⟨p, 29, none⟩ = some (.int .u64 x4) ∧ w1.cell? ⟨p, 30, none⟩ = some (.int .u64 x5) ∧ w1.cell? ⟨p, 31, none⟩ = some (.int .u64 x6) ∧ w1.cell? ⟨p, 32, none⟩ = some (.int .u64 x7) := by
  obtain ⟨y0, y1, y2, y3, y4, y5, y6, y7, rfl⟩ := eight_of hy
  exact   ⟨(blk_cell h.1 25).trans rfl, (blk_cell h.1 26).trans rfl, (blk_cell h.1 27).trans rfl, (blk_cell h.1 28).trans rfl, (blk_cell h.1 29).trans rfl, (blk_cell h.1 30).trans rfl, (blk_cell h.1 31).trans rfl, (blk_cell h.1 32).trans rfl⟩
end
theorem put_h64 (s : Array Value) (rest : Value) (n : Int) (y x : List Int) (i : Nat) (z : Int) (hs : s.size = 15) (hy : y.length = 8) (_ : i < x.length) {x' : List Int} (hx : x.set i z = x') : (hashV s n rest y x).setIfInBounds (25 + i) (.int .u64 z) = hashV s n rest y x' := by
  unfold hashV
  subst hx
  rw [List.setIfInBounds_toArray, List.set_append_right _ _ (by rw [Array.length_toList, hs]; omega), Array.length_toList, hs, show 25 + i - 15 = (i + 8) + 1 + 1 by omega, List.set_cons_succ, List.set_cons_succ, List.set_append_right _ _ (by rw [List.length_map, hy]; omega), List.length_map, hy, show i + 8 - 8 = i by omega, List.map_set]
set_option maxRecDepth 100000 in
set_option maxHeartbeats 4000000 in
theorem Tl.stored {w w1 : World} {p : Nat} {n : Int} {rest : Value} {x0 x1 x2 x3 x4 x5 x6 x7 : Int} {y : List Int} (h : Tl w p n rest [x0, x1, x2, x3, x4, x5, x6, x7] y w1) (hy : y.length = 8) (z0 z1 z2 z3 z4 z5 z6 z7 : Int) : Tl w p n rest [z0, z1, z2, z3, z4, z5, z6, z7] y ((((((((w1.setCell ⟨p, 25, none⟩ (.int .u64 z0)).setCell ⟨p, 26, none⟩ (.int .u64 z1)).setCell ⟨p, 27, none⟩ (.int .u64 z2)).setCell ⟨p, 28, none⟩ (.int .u64 z3)).setCell ⟨p, 29, none⟩ (.int .u64 z4)).setCell ⟨p, 30, none⟩ (.int .u64 z5)).setCell ⟨p, 31, none⟩ (.int .u64 z6)).setCell ⟨p, 32, none⟩ (.int .u64 z7)) := by
  have k0 := blk_put h.1 25 (.int .u64 z0) (put_h64 wideV rest _ _ _ 0 z0 rfl hy (by simp) rfl : _ = hashV wideV n rest y [z0, x1, x2, x3, x4, x5, x6, x7])
  have k1 := blk_put k0 26 (.int .u64 z1) (put_h64 wideV rest _ _ _ 1 z1 rfl hy (by simp) rfl : _ = hashV wideV n rest y [z0, z1, x2, x3, x4, x5, x6, x7])
  have k2 := blk_put k1 27 (.int .u64 z2) (put_h64 wideV rest _ _ _ 2 z2 rfl hy (by simp) rfl : _ = hashV wideV n rest y [z0, z1, z2, x3, x4, x5, x6, x7])
  have k3 := blk_put k2 28 (.int .u64 z3) (put_h64 wideV rest _ _ _ 3 z3 rfl hy (by simp) rfl : _ = hashV wideV n rest y [z0, z1, z2, z3, x4, x5, x6, x7])
  have k4 := blk_put k3 29 (.int .u64 z4) (put_h64 wideV rest _ _ _ 4 z4 rfl hy (by simp) rfl : _ = hashV wideV n rest y [z0, z1, z2, z3, z4, x5, x6, x7])
  have k5 := blk_put k4 30 (.int .u64 z5) (put_h64 wideV rest _ _ _ 5 z5 rfl hy (by simp) rfl : _ = hashV wideV n rest y [z0, z1, z2, z3, z4, z5, x6, x7])
  have k6 := blk_put k5 31 (.int .u64 z6) (put_h64 wideV rest _ _ _ 6 z6 rfl hy (by simp) rfl : _ = hashV wideV n rest y [z0, z1, z2, z3, z4, z5, z6, x7])
  have k7 := blk_put k6 32 (.int .u64 z7) (put_h64 wideV rest _ _ _ 7 z7 rfl hy (by simp) rfl : _ = hashV wideV n rest y [z0, z1, z2, z3, z4, z5, z6, z7])
  exact ⟨k7, (((((((h.2.setCell _ _ (.inl rfl)).setCell _ _ (.inl rfl)).setCell _ _ (.inl rfl)).setCell _ _ (.inl rfl)).setCell _ _ (.inl rfl)).setCell _ _ (.inl rfl)).setCell _ _ (.inl rfl)).setCell _ _ (.inl rfl)⟩
set_option maxRecDepth 100000 in
set_option maxHeartbeats 1000000 in
theorem take64_c (p : Nat) (hs y : List Int) (n : Int) (rest : Value) (A : Option Addr) (c : Nat) (b K : List Int) (w : World) (hs8 : hs.length = 8) (hy8 : y.length = 8)
    (hp : w.heap[p]? = some (.cells (hashV wideV n rest y hs) 187 (0, 0))) (hb : Kd.C (Kd.int .u8) w A b.length b) (hc : b.length ≤ c) (hcm : c ≤ 9223372036854775807) (ha : Away p A b.length) (hbd : ∀ i, 0 ≤ b.getD i 0 ∧ b.getD i 0 < 256)
    (hK : ∀ i, i < 80 → w.cell? ⟨8, i, none⟩ = some (.int .u64 (K.getD i 0))) (hpK : p ≠ 8) :
    Calls Tryd.prog 129 #[.pointer (some ⟨p, 0, none⟩), .slice A b.length c] w fun e w' => ∃ A' c', e = .returned (.slice A' (b.length % 128) c') ∧ b.length % 128 ≤ c' ∧ Kd.C (Kd.int .u8) w' A' (b.length % 128) (b.drop (128 * (b.length / 128))) ∧ Away p A' (b.length % 128) ∧
      w'.heap[p]? = some (.cells (hashV wideV n rest y (blocks64 K hs b (b.length / 128))) 187 (0, 0)) ∧ Fr (· = p) w w' := by
  go_enter Tryd.func129, Tryd.ntmps129
  go_wp2_with fail
  have HBD := Aside0.mk hbd
  have HK := Aside0.mk hK
  clear hbd hK
  go_loopg [1] b.length (fun m v wr => ∃ (k : Nat) (A' : Option Addr) (c' : Nat), m + 128 * k = b.length ∧ v = .slice A' m c' ∧ m ≤ c' ∧ c' ≤ 9223372036854775807 ∧ Aside0 (Kd.C (Kd.int .u8) w A' m (b.drop (128 * k))) ∧ Aside0 (Away p A' m) ∧
    ∃ x, x.length = 8 ∧ Aside0 (x = blocks64 K hs b k) ∧ Aside0 (wr.heap[p]? = some (.cells (hashV wideV n rest y x) 187 (0, 0))) ∧ Aside0 (Fr (· = p) w wr))
  case atStart => exact ⟨0, A, c, by omega, rfl, hc, hcm, ⟨hb⟩, ⟨ha⟩, hs, hs8, ⟨rfl⟩, ⟨hp⟩, ⟨Fr.refl _ _⟩⟩
  case round =>
    obtain ⟨k, A', c', hmk, rfl, hmc, hcm', HC, HA, x, hx8, HX, BP, HF⟩ := hrel
    obtain ⟨x0, x1, x2, x3, x4, x5, x6, x7, rfl⟩ := eight_of hx8
    obtain ⟨y0, y1, y2, y3, y4, y5, y6, y7, rfl⟩ := eight_of hy8
    obtain ⟨c0, c1, c2, c3, c4, c5, c6, c7, c8, c9, c10, c11, c12, c13, c14⟩ := hash_wide BP.out
    by_cases hge : 128 ≤ gk
    · have hgI : (128 : Int) ≤ ↑gk := by omega
      obtain ⟨ad, rfl, hcell⟩ := kdcell HC.out (by omega)
      have hne := HA.out (by omega) ad rfl
      have hadS : ad.block < w.heap.size := World.block_lt_of_cell? w (ad.add 0) (hcell 0 (by omega))
      have HCE := Aside0.mk hcell
      clear hcell
      go_upto_region 2 with (go_at_call 149; refine (block64_c _).mono ?_; rintro e w1 ⟨rfl, hb1⟩; have HB1 := Aside0.mk hb1; clear hb1)
      have BP1 := Aside0.mk (blk_below BP.out HB1.out)
      have HF1 := Aside0.mk (HF.out.then_below HB1.out)
      clear c0 c1 c2 c3 c4 c5 c6 c7 c8 c9 c10 c11 c12 c13 c14
      obtain ⟨c0, c1, c2, c3, c4, c5, c6, c7, c8, c9, c10, c11, c12, c13, c14⟩ := hash_wide BP1.out
      go_upto_region 4 with fail
      clear c0 c1 c2 c3 c4 c5 c6 c7 c8 c9 c10 c11 c12 c13 c14
      have P1 : Aside0 (Tl w p n rest [x0, x1, x2, x3, x4, x5, x6, x7] [y0, y1, y2, y3, y4, y5, y6, y7] w1) := ⟨⟨BP1.out, HF1.out⟩⟩
      clear BP BP1 HF1
      obtain ⟨z0, z1, z2, z3, z4, z5, z6, z7, hz⟩ := eight_of (show (mix64 K [x0, x1, x2, x3, x4, x5, x6, x7] ((b.drop (128 * k)).take 128)).length = 8 by rw [mix64_length]; rfl)
      have HMX : Aside0 (∀ w', Tl w p n rest [x0, x1, x2, x3, x4, x5, x6, x7] [y0, y1, y2, y3, y4, y5, y6, y7] w' → Calls Tryd.prog 151 #[.agg wideV, .agg #[.int .u64 x0, .int .u64 x1, .int .u64 x2, .int .u64 x3, .int .u64 x4, .int .u64 x5, .int .u64 x6, .int .u64 x7], .slice (some ad) 128 c'] w' fun e w'' => e = .returned (.agg #[.int .u64 z0, .int .u64 z1, .int .u64 z2, .int .u64 z3, .int .u64 z4, .int .u64 z5, .int .u64 z6, .int .u64 z7]) ∧ Below w'.heap.size w' w'') := ⟨fun w' hT => by
        refine (mix64_c x0 x1 x2 x3 x4 x5 x6 x7 ad c' ((b.drop (128 * k)).take 128) w' ?_ (by omega) (by omega) (Nat.lt_of_lt_of_le hadS hT.2.size) ?_ ?_ K ?_).mono ?_
        · rw [List.length_take, List.length_drop]; omega
        · intro i hi
          rw [hT.2.cell (HCE.out i (by omega)) (by rw [add_block]; exact hne), List.getD_eq_getElem?_getD, List.getD_eq_getElem?_getD, List.getElem?_take, if_pos hi]
        · intro i
          rw [List.getD_eq_getElem?_getD, List.getElem?_take]
          split
          · rw [List.getElem?_drop, ← List.getD_eq_getElem?_getD]; exact HBD.out _
          · simp
        · exact fun i hi => hT.2.cell (HK.out i hi) (fun e => hpK e.symm)
        · rintro e w'' ⟨he, hb⟩
          exact ⟨by rw [he, hz]; rfl, hb⟩⟩
      have hc64 : (128 : Int) ≤ ↑c' := by omega
      go_cut [] from 5 to 63 (fun wx => Aside0 (Tl w p n rest [z0, z1, z2, z3, z4, z5, z6, z7] [y0, y1, y2, y3, y4, y5, y6, y7] wx))
      case first =>
        have W1 := P1.out.drew.words rfl
        go_split_ands
        have S1 := TlS.cells P1.out.drew.s
        go_split_ands
        go_region_law (first
            | (go_simp; go_at_call 149; refine (block64_c _).mono ?_; rintro e w2 ⟨rfl, hb2⟩; have P2 := Aside0.mk (Tl.below P1.out.drew hb2); have W2 := P2.out.words rfl; have S2 := TlS.cells P2.out.s; clear hb2; go_split_ands)
            | (go_simp; go_at_call 151; refine (HMX.out _ P2.out).mono ?_; rintro e w3 ⟨rfl, hb3⟩; have P3 := Aside0.mk (Tl.below P2.out hb3); have W3 := P3.out.words rfl; have S3 := TlS.cells P3.out.s; clear hb3; go_split_ands))
        all_goals have P4 := Aside0.mk (P3.out.stored rfl z0 z1 z2 z3 z4 z5 z6 z7)
        all_goals go_split_ands
        all_goals go_wp2_with fail
        all_goals go_meet
        all_goals exact P4
      case rest =>
        have P4 := hcut
        clear hcut
        obtain ⟨c0, c1, c2, c3, c4, c5, c6, c7, c8, c9, c10, c11, c12, c13, c14⟩ := hash_wide P4.out.1
        go_wp2_with (first | (go_at_call 149; refine (block64_c _).mono ?_; rintro e w5 ⟨rfl, hb5⟩; have P5 := Aside0.mk (Tl.below P4.out hb5); clear hb5))
        all_goals go_roundg (gk - 128)
        all_goals first
          | omega
          | (have HC' := next_bytes128 HC.out hge hmc
             have hx : [z0, z1, z2, z3, z4, z5, z6, z7] = blocks64 K hs b (k + 1) := by unfold blocks64; rw [← HX.out]; exact hz.symm
             first
               | (rw [if_pos h] at HC'; exact ⟨k + 1, some ad, 0, by omega, rfl, by omega, by omega, ⟨HC'⟩, ⟨fun hp a e => by injection e with e; subst e; exact hne⟩, [z0, z1, z2, z3, z4, z5, z6, z7], rfl, ⟨hx⟩, ⟨P5.out.1⟩, ⟨P5.out.2⟩⟩)
               | (rw [if_neg h] at HC'; exact ⟨k + 1, some (ad.add 128), c' - 128, by omega, rfl, by omega, by omega, ⟨HC'⟩, ⟨fun hp a e => by injection e with e; subst e; exact hne⟩, [z0, z1, z2, z3, z4, z5, z6, z7], rfl, ⟨hx⟩, ⟨P5.out.1⟩, ⟨P5.out.2⟩⟩))
    · have hltI : ¬ (128 : Int) ≤ ↑gk := by omega
      go_wp2_with (go_at_call 149; refine (block64_c _).mono ?_; rintro e w1 ⟨rfl, hb1⟩; have HB1 := Aside0.mk hb1; clear hb1)
      have h1 : gk = b.length % 128 := by omega
      have h2 : k = b.length / 128 := by omega
      subst h1 h2
      have HF1 := HF.out.then_below HB1.out
      go_ret
      exact ⟨A', c', rfl, hmc, HF1.kd HC.out HA.out, HA.out, by rw [← HX.out]; exact blk_below BP.out HB1.out, HF1⟩
end Go.Proofs.YtbenedckmapjoaaDoor.H
