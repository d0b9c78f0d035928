/- Blocks are taken, narrow. -/
import Derived.Test.YtbenedckmapjoaaDoorJ4
import Derived.Deep.AppendLies
import Derived.Deep.CutRange
namespace Go.Proofs.YtbenedckmapjoaaDoor.H
open Go.RowKit Go.Proofs.YtbenedckmapjoaaDoorW.PrintWords
/-- wr is w, but for blocks of S and new ones. -/
structure Fr (S : Nat → Prop) (w wr : World) : Prop where
  os : wr.os = w.os
  tape : wr.tape = w.tape
  output : wr.output = w.output
  size : w.heap.size ≤ wr.heap.size
  block : ∀ k, k < w.heap.size → ¬ S k → wr.heap[k]? = w.heap[k]?
section
variable {S S' : Nat → Prop} {w wr w2 : World}
theorem Fr.refl (S : Nat → Prop) (w : World) : Fr S w w := ⟨rfl, rfl, rfl, Nat.le_refl _, fun _ _ _ => rfl⟩
theorem Fr.then_below (h : Fr S w wr) (hb : Below wr.heap.size wr w2) : Fr S w w2 := ⟨hb.os.trans h.os, hb.tape.trans h.tape, hb.output.trans h.output, Nat.le_trans h.size hb.size, fun k hk hs => (hb.block k (Nat.lt_of_lt_of_le hk h.size)).trans (h.block k hk hs)⟩
theorem Fr.of_below (hb : Below w.heap.size w w2) : Fr S w w2 := (Fr.refl S w).then_below hb
theorem Fr.trans (h : Fr S w wr) (k : Fr S' wr w2) (hs : ∀ i, S' i → S i ∨ w.heap.size ≤ i) : Fr S w w2 :=
  ⟨k.os.trans h.os, k.tape.trans h.tape, k.output.trans h.output, Nat.le_trans h.size k.size, fun i hi hn => (k.block i (Nat.lt_of_lt_of_le hi h.size) (fun x => (hs i x).elim hn (fun y => by omega))).trans (h.block i hi hn)⟩
theorem Fr.drew (h : Fr S w wr) : Fr S w wr.drew := ⟨h.os, h.tape, h.output, h.size, h.block⟩
theorem Fr.drewN (h : Fr S w wr) (n : Nat) : Fr S w (wr.drewN n) := h.then_below (pw_below_drewN (Below.refl _ _) n)
theorem Fr.alloc (h : Fr S w wr) (o : Obj) : Fr S w (wr.alloc o) := h.then_below (below_alloc (Below.refl _ _) o)
theorem Fr.setCell (h : Fr S w wr) (p : Addr) (v : Value) (hp : S p.block ∨ w.heap.size ≤ p.block) : Fr S w (wr.setCell p v) :=
  ⟨h.os, h.tape, h.output, by simpa using h.size, fun k hk hs => (Below.heap_setCell wr p v k (fun e => hp.elim (fun x => hs (by rw [e]; exact x)) (fun x => by omega))).trans (h.block k hk hs)⟩
theorem Fr.setRow (h : Fr S w wr) (g : Nat) (cs : Array Value) (hp : S g ∨ w.heap.size ≤ g) : Fr S w (wr.setRow g cs) :=
  ⟨h.os, h.tape, h.output, by simpa using h.size, fun k hk hs => (setRow_other _ _ _ _ (fun e => hp.elim (fun x => hs (by rw [e]; exact x)) (fun x => by omega))).trans (h.block k hk hs)⟩
theorem Fr.mono (h : Fr S w wr) (hs : ∀ i, S i → S' i) : Fr S' w wr := ⟨h.os, h.tape, h.output, h.size, fun k hk hn => h.block k hk (fun x => hn (hs k x))⟩
theorem Fr.below {B : Nat} {w0 : World} (h0 : Below B w0 w) (hB : B ≤ w.heap.size) (hs : ∀ i, S i → B ≤ i) (h : Fr S w wr) : Below B w0 wr :=
  ⟨h.os.trans h0.os, h.tape.trans h0.tape, h.output.trans h0.output, Nat.le_trans h0.size h.size, fun k hk => (h.block k (by omega) (fun x => by have := hs k x; omega)).trans (h0.block k hk)⟩
theorem Fr.cell (h : Fr S w wr) {a : Addr} {v : Value} (hc : w.cell? a = some v) (hs : ¬ S a.block) : wr.cell? a = some v := by
  have := h.block a.block (World.block_lt_of_cell? w a hc) hs
  unfold World.cell? at *
  rw [this]; exact hc
theorem Fr.blk (h : Fr S w wr) {g : Nat} {o : Obj} (hc : w.heap[g]? = some o) (hs : ¬ S g) : wr.heap[g]? = some o := (h.block g (blk_lt hc) hs).trans hc
end
/-- A hash, cell by cell. -/
def hashV (s : Array Value) (n : Int) (rest : Value) (h32 h64 : List Int) : Array Value := (s.toList ++ (Value.int .i64 n :: rest :: (h32.map (Value.int .u32) ++ h64.map (Value.int .u64)))).toArray
/-- The eight words behind k blocks of a text. -/
def blocks32 (K hs b : List Int) : Nat → List Int
  | 0 => hs
  | k + 1 => mix32 K (blocks32 K hs b k) ((b.drop (64 * k)).take 64)
theorem mix32_length (K hs b : List Int) : (mix32 K hs b).length = hs.length := add32_length _ _ _
theorem blocks32_length (K hs b : List Int) : ∀ k, (blocks32 K hs b k).length = hs.length
  | 0 => rfl
  | k + 1 => by unfold blocks32; rw [mix32_length]; exact blocks32_length K hs b k
/-- A slice's bytes lie elsewhere than in block p. -/
def Away (p : Nat) (A : Option Addr) (n : Nat) : Prop := 0 < n → ∀ ad, A = some ad → ad.block ≠ p
theorem kdcell {w : World} {A : Option Addr} {n : Nat} {l : List Int} (h : Kd.C (Kd.int .u8) w A n l) (hn : 0 < n) : ∃ ad, A = some ad ∧ ∀ i, i < n → w.cell? (ad.add i) = some (.int .u8 (l.getD i 0)) := by
  obtain ⟨ad, he, _⟩ := Kd.at_int h 0 (by omega) (by omega)
  refine ⟨ad, he, fun i hi => ?_⟩
  obtain ⟨ad', he', hc⟩ := Kd.at_int h (i : Int) (by omega) (by omega)
  rw [he] at he'
  injection he' with he'
  subst he'
  simpa [rd] using hc
theorem hash_narrow {w : World} {p : Nat} {n : Int} {rest : Value} {x y : List Int} (h : w.heap[p]? = some (.cells (hashV narrowV n rest x y) 187 (0, 0))) :
    w.cell? ⟨p, 0, none⟩ = some (.int .i64 4) ∧ w.cell? ⟨p, 1, none⟩ = some (.int .i64 32) ∧ w.cell? ⟨p, 2, none⟩ = some (.int .i64 64) ∧ w.cell? ⟨p, 3, none⟩ = some (.int .i64 7) ∧ w.cell? ⟨p, 4, none⟩ = some (.int .i64 18) ∧ w.cell? ⟨p, 5, none⟩ = some (.int .i64 3) ∧ w.cell? ⟨p, 6, none⟩ = some (.int .i64 17) ∧ w.cell? ⟨p, 7, none⟩ = some (.int .i64 19) ∧ w.cell? ⟨p, 8, none⟩ = some (.int .i64 10) ∧ w.cell? ⟨p, 9, none⟩ = some (.int .i64 2) ∧ w.cell? ⟨p, 10, none⟩ = some (.int .i64 13) ∧ w.cell? ⟨p, 11, none⟩ = some (.int .i64 22) ∧ w.cell? ⟨p, 12, none⟩ = some (.int .i64 6) ∧ w.cell? ⟨p, 13, none⟩ = some (.int .i64 11) ∧ w.cell? ⟨p, 14, none⟩ = some (.int .i64 25) :=
  ⟨(blk_cell h 0).trans rfl, (blk_cell h 1).trans rfl, (blk_cell h 2).trans rfl, (blk_cell h 3).trans rfl, (blk_cell h 4).trans rfl, (blk_cell h 5).trans rfl, (blk_cell h 6).trans rfl, (blk_cell h 7).trans rfl, (blk_cell h 8).trans rfl, (blk_cell h 9).trans rfl, (blk_cell h 10).trans rfl, (blk_cell h 11).trans rfl, (blk_cell h 12).trans rfl, (blk_cell h 13).trans rfl, (blk_cell h 14).trans rfl⟩
theorem next_bytes {w : World} {ad : Addr} {g c k : Nat} {b : List Int} (h : Kd.C (Kd.int .u8) w (some ad) g (b.drop (64 * k))) (hg : 64 ≤ g) (hc : g ≤ c) : Kd.C (Kd.int .u8) w (if c = 64 then some ad else some (ad.add 64)) (g - 64) (b.drop (64 * (k + 1))) := by
  have hl : (b.drop (64 * k)).length = g := Kd.C_len h
  subst hl
  have := Kd.C_drop (m := 64) (c := c) h hg hc
  rw [List.length_drop, List.drop_drop] at this
  rw [show 64 * (k + 1) = 64 * k + 64 by omega]
  exact this
theorem Fr.kd {w w1 : World} {p : Nat} {A : Option Addr} {m : Nat} {l : List Int} (h : Fr (· = p) w w1) (hc : Kd.C (Kd.int .u8) w A m l) (ha : Away p A m) : Kd.C (Kd.int .u8) w1 A m l := by
  refine ⟨hc.1, hc.2.1, fun hn => ?_⟩
  obtain ⟨ad, he, hq⟩ := hc.2.2 hn
  refine ⟨ad, he, fun j q hj => ?_⟩
  obtain ⟨cs, h1, h2, h3⟩ := hq j q hj
  exact ⟨cs, h1, h2, fun i u hu => h.cell (h3 i u hu) (by rw [add_block]; exact ha hn ad he)⟩
/-- The state in take, the words being x. -/
def Tk (w : World) (p : Nat) (n : Int) (rest : Value) (x y : List Int) (w' : World) : Prop := w'.heap[p]? = some (.cells (hashV narrowV n rest x y) 187 (0, 0)) ∧ Fr (· = p) w w'
def TkS (w : World) (p : Nat) (n : Int) (rest : Value) (y : List Int) (w' : World) : Prop := ∃ x0 x1 x2 x3 x4 x5 x6 x7, Tk w p n rest [x0, x1, x2, x3, x4, x5, x6, x7] y w'
section
variable {w w1 w2 : World} {p : Nat} {n : Int} {rest : Value} {x y : List Int}
theorem Tk.drew (h : Tk w p n rest x y w1) : Tk w p n rest x y w1.drew := ⟨h.1, h.2.drew⟩
theorem Tk.drewN (h : Tk w p n rest x y w1) (k : Nat) : Tk w p n rest x y (w1.drewN k) := ⟨h.1, h.2.drewN k⟩
theorem Tk.below (h : Tk w p n rest x y w1) (hb : Below w1.heap.size w1 w2) : Tk w p n rest x y w2 := ⟨blk_below h.1 hb, h.2.then_below hb⟩
theorem Tk.s {x0 x1 x2 x3 x4 x5 x6 x7 : Int} (h : Tk w p n rest [x0, x1, x2, x3, x4, x5, x6, x7] y w1) : TkS w p n rest y w1 := ⟨_, _, _, _, _, _, _, _, h⟩
theorem TkS.cells (h : TkS w p n rest y w1) : TkS w p n rest y w1 ∧ w1.cell? ⟨p, 0, none⟩ = some (.int .i64 4) ∧ w1.cell? ⟨p, 1, none⟩ = some (.int .i64 32) ∧ w1.cell? ⟨p, 2, none⟩ = some (.int .i64 64) ∧ w1.cell? ⟨p, 3, none⟩ = some (.int .i64 7) ∧ w1.cell? ⟨p, 4, none⟩ = some (.int .i64 18) ∧ w1.cell? ⟨p, 5, none⟩ = some (.int .i64 3) ∧ w1.cell? ⟨p, 6, none⟩ = some (.int .i64 17) ∧ w1.cell? ⟨p, 7, none⟩ = some (.int .i64 19) ∧ w1.cell? ⟨p, 8, none⟩ = some (.int .i64 10) ∧ w1.cell? ⟨p, 9, none⟩ = some (.int .i64 2) ∧ w1.cell? ⟨p, 10, none⟩ = some (.int .i64 13) ∧ w1.cell? ⟨p, 11, none⟩ = some (.int .i64 22) ∧ w1.cell? ⟨p, 12, none⟩ = some (.int .i64 6) ∧ w1.cell? ⟨p, 13, none⟩ = some (.int .i64 11) ∧ w1.cell? ⟨p, 14, none⟩ = some (.int .i64 25) ∧ w1.frozen? ⟨p, 17, none⟩ = false ∧ w1.frozen? ⟨p, 18, none⟩ = false ∧ w1.frozen? ⟨p, 19, none⟩ = false ∧ w1.frozen? ⟨p, 20, none⟩ = false ∧ w1.frozen? ⟨p, 21, none⟩ = false ∧ w1.frozen? ⟨p, 22, none⟩ = false ∧ w1.frozen? ⟨p, 23, none⟩ = false ∧ w1.frozen? ⟨p, 24, none⟩ = false := by
  obtain ⟨x0, x1, x2, x3, x4, x5, x6, x7, H⟩ := h
  obtain ⟨c0, c1, c2, c3, c4, c5, c6, c7, c8, c9, c10, c11, c12, c13, c14⟩ := hash_narrow H.1
  exact ⟨⟨_, _, _, _, _, _, _, _, H⟩, c0, c1, c2, c3, c4, c5, c6, c7, c8, c9, c10, c11, c12, c13, c14, blk_frozen H.1 _, blk_frozen H.1 _, blk_frozen H.1 _, blk_frozen H.1 _, blk_frozen H.1 _, blk_frozen H.1 _, blk_frozen H.1 _, blk_frozen H.1 _⟩
theorem Tk.words {x0 x1 x2 x3 x4 x5 x6 x7 : Int} (h : Tk w p n rest [x0, x1, x2, x3, x4, x5, x6, x7] y w1) : w1.cell? ⟨p, 17, none⟩ = some (.int .u32 x0) ∧ w1.cell? ⟨p, 18, none⟩ = some (.int .u32 x1) ∧ w1.cell? ⟨p, 19, none⟩ = some (.int .u32 x2) ∧ w1.cell? ⟨p, 20, none⟩ = some (.int .u32 x3) ∧ w1.cell? ⟨p, 21, none⟩ = some (.int .u32 x4) ∧ w1.cell? ⟨p, 22, none⟩ = some (.int .u32 x5) ∧ w1.cell? ⟨p, 23, none⟩ = some (.int .u32 x6) ∧ w1.cell? ⟨p, 24, none⟩ = some (.int .u32 x7) :=
  ⟨(blk_cell h.1 17).trans rfl, (blk_cell h.1 18).trans rfl, (blk_cell h.1 19).trans rfl, (blk_cell h.1 20).trans rfl, (blk_cell h.1 21).trans rfl, (blk_cell h.1 22).trans rfl, (blk_cell h.1 23).trans rfl, (blk_cell h.1 24).trans rfl⟩
end
theorem put_h (s : Array Value) (rest : Value) (n : Int) (x y : List Int) (i : Nat) (z : Int) (hs : s.size = 15) (hi : i < x.length) {x' : List Int} (hx : x.set i z = x') : (hashV s n rest x y).setIfInBounds (17 + i) (.int .u32 z) = hashV s n rest x' y := by
  unfold hashV
  subst hx
  rw [List.setIfInBounds_toArray, List.set_append_right _ _ (by rw [Array.length_toList, hs]; omega), Array.length_toList, hs, show 17 + i - 15 = i + 1 + 1 by omega, List.set_cons_succ, List.set_cons_succ, List.set_append_left _ _ (by rw [List.length_map]; exact hi), List.map_set]
set_option maxRecDepth 100000 in
set_option maxHeartbeats 4000000 in
theorem Tk.stored {w w1 : World} {p : Nat} {n : Int} {rest : Value} {x0 x1 x2 x3 x4 x5 x6 x7 : Int} {y : List Int} (h : Tk w p n rest [x0, x1, x2, x3, x4, x5, x6, x7] y w1) (z0 z1 z2 z3 z4 z5 z6 z7 : Int) : Tk w p n rest [z0, z1, z2, z3, z4, z5, z6, z7] y ((((((((w1.setCell ⟨p, 17, none⟩ (.int .u32 z0)).setCell ⟨p, 18, none⟩ (.int .u32 z1)).setCell ⟨p, 19, none⟩ (.int .u32 z2)).setCell ⟨p, 20, none⟩ (.int .u32 z3)).setCell ⟨p, 21, none⟩ (.int .u32 z4)).setCell ⟨p, 22, none⟩ (.int .u32 z5)).setCell ⟨p, 23, none⟩ (.int .u32 z6)).setCell ⟨p, 24, none⟩ (.int .u32 z7)) := by
  have k0 := blk_put h.1 17 (.int .u32 z0) (put_h narrowV rest _ _ _ 0 z0 rfl (by simp) rfl : _ = hashV narrowV n rest [z0, x1, x2, x3, x4, x5, x6, x7] y)
  have k1 := blk_put k0 18 (.int .u32 z1) (put_h narrowV rest _ _ _ 1 z1 rfl (by simp) rfl : _ = hashV narrowV n rest [z0, z1, x2, x3, x4, x5, x6, x7] y)
  have k2 := blk_put k1 19 (.int .u32 z2) (put_h narrowV rest _ _ _ 2 z2 rfl (by simp) rfl : _ = hashV narrowV n rest [z0, z1, z2, x3, x4, x5, x6, x7] y)
  have k3 := blk_put k2 20 (.int .u32 z3) (put_h narrowV rest _ _ _ 3 z3 rfl (by simp) rfl : _ = hashV narrowV n rest [z0, z1, z2, z3, x4, x5, x6, x7] y)
  have k4 := blk_put k3 21 (.int .u32 z4) (put_h narrowV rest _ _ _ 4 z4 rfl (by simp) rfl : _ = hashV narrowV n rest [z0, z1, z2, z3, z4, x5, x6, x7] y)
  have k5 := blk_put k4 22 (.int .u32 z5) (put_h narrowV rest _ _ _ 5 z5 rfl (by simp) rfl : _ = hashV narrowV n rest [z0, z1, z2, z3, z4, z5, x6, x7] y)
  have k6 := blk_put k5 23 (.int .u32 z6) (put_h narrowV rest _ _ _ 6 z6 rfl (by simp) rfl : _ = hashV narrowV n rest [z0, z1, z2, z3, z4, z5, z6, x7] y)
  have k7 := blk_put k6 24 (.int .u32 z7) (put_h narrowV rest _ _ _ 7 z7 rfl (by simp) rfl : _ = hashV narrowV n rest [z0, z1, z2, z3, z4, z5, z6, z7] y)
  exact ⟨k7, (((((((h.2.setCell _ _ (.inl rfl)).setCell _ _ (.inl rfl)).setCell _ _ (.inl rfl)).setCell _ _ (.inl rfl)).setCell _ _ (.inl rfl)).setCell _ _ (.inl rfl)).setCell _ _ (.inl rfl)).setCell _ _ (.inl rfl)⟩
set_option maxRecDepth 100000 in
set_option maxHeartbeats 1000000 in
theorem take32_c (p : Nat) (hs y : List Int) (n : Int) (rest : Value) (A : Option Addr) (c : Nat) (b K : List Int) (w : World) (hs8 : hs.length = 8) (hy8 : y.length = 8)
    (hp : w.heap[p]? = some (.cells (hashV narrowV n rest hs y) 187 (0, 0))) (hb : Kd.C (Kd.int .u8) w A b.length b) (hc : b.length ≤ c) (hcm : c ≤ 9223372036854775807) (ha : Away p A b.length) (hbd : ∀ i, 0 ≤ b.getD i 0 ∧ b.getD i 0 < 256)
    (hK : ∀ i, i < 80 → w.cell? ⟨8, i, none⟩ = some (.int .u64 (K.getD i 0))) (hpK : p ≠ 8) :
    Calls Tryd.prog 129 #[.pointer (some ⟨p, 0, none⟩), .slice A b.length c] w fun e w' => ∃ A' c', e = .returned (.slice A' (b.length % 64) c') ∧ b.length % 64 ≤ c' ∧ Kd.C (Kd.int .u8) w' A' (b.length % 64) (b.drop (64 * (b.length / 64))) ∧ Away p A' (b.length % 64) ∧
      w'.heap[p]? = some (.cells (hashV narrowV n rest (blocks32 K hs b (b.length / 64)) y) 187 (0, 0)) ∧ Fr (· = p) w w' := by
  go_enter Tryd.func129, Tryd.ntmps129
  go_wp2_with fail
  have HBD := Aside0.mk hbd
  have HK := Aside0.mk hK
  clear hbd hK
  go_loopg [1] b.length (fun m v wr => ∃ (k : Nat) (A' : Option Addr) (c' : Nat), m + 64 * k = b.length ∧ v = .slice A' m c' ∧ m ≤ c' ∧ c' ≤ 9223372036854775807 ∧ Aside0 (Kd.C (Kd.int .u8) w A' m (b.drop (64 * k))) ∧ Aside0 (Away p A' m) ∧
    ∃ x, x.length = 8 ∧ Aside0 (x = blocks32 K hs b k) ∧ Aside0 (wr.heap[p]? = some (.cells (hashV narrowV n rest x y) 187 (0, 0))) ∧ Aside0 (Fr (· = p) w wr))
  case atStart => exact ⟨0, A, c, by omega, rfl, hc, hcm, ⟨hb⟩, ⟨ha⟩, hs, hs8, ⟨rfl⟩, ⟨hp⟩, ⟨Fr.refl _ _⟩⟩
  case round =>
    obtain ⟨k, A', c', hmk, rfl, hmc, hcm', HC, HA, x, hx8, HX, BP, HF⟩ := hrel
    obtain ⟨x0, x1, x2, x3, x4, x5, x6, x7, rfl⟩ := eight_of hx8
    obtain ⟨y0, y1, y2, y3, y4, y5, y6, y7, rfl⟩ := eight_of hy8
    obtain ⟨c0, c1, c2, c3, c4, c5, c6, c7, c8, c9, c10, c11, c12, c13, c14⟩ := hash_narrow BP.out
    by_cases hge : 64 ≤ gk
    · have hgI : (64 : Int) ≤ ↑gk := by omega
      obtain ⟨ad, rfl, hcell⟩ := kdcell HC.out (by omega)
      have hne := HA.out (by omega) ad rfl
      have hadS : ad.block < w.heap.size := World.block_lt_of_cell? w (ad.add 0) (hcell 0 (by omega))
      have HCE := Aside0.mk hcell
      clear hcell
      go_upto_region 2 with (go_at_call 149; refine (block32_c _).mono ?_; rintro e w1 ⟨rfl, hb1⟩; have HB1 := Aside0.mk hb1; clear hb1)
      have BP1 := Aside0.mk (blk_below BP.out HB1.out)
      have HF1 := Aside0.mk (HF.out.then_below HB1.out)
      clear c0 c1 c2 c3 c4 c5 c6 c7 c8 c9 c10 c11 c12 c13 c14
      obtain ⟨c0, c1, c2, c3, c4, c5, c6, c7, c8, c9, c10, c11, c12, c13, c14⟩ := hash_narrow BP1.out
      go_upto_region 3 with fail
      clear c0 c1 c2 c3 c4 c5 c6 c7 c8 c9 c10 c11 c12 c13 c14
      have P1 : Aside0 (Tk w p n rest [x0, x1, x2, x3, x4, x5, x6, x7] [y0, y1, y2, y3, y4, y5, y6, y7] w1) := ⟨⟨BP1.out, HF1.out⟩⟩
      clear BP BP1 HF1
      obtain ⟨z0, z1, z2, z3, z4, z5, z6, z7, hz⟩ := eight_of (show (mix32 K [x0, x1, x2, x3, x4, x5, x6, x7] ((b.drop (64 * k)).take 64)).length = 8 by rw [mix32_length]; rfl)
      have HMX : Aside0 (∀ w', Tk w p n rest [x0, x1, x2, x3, x4, x5, x6, x7] [y0, y1, y2, y3, y4, y5, y6, y7] w' → Calls Tryd.prog 150 #[.agg narrowV, .agg #[.int .u32 x0, .int .u32 x1, .int .u32 x2, .int .u32 x3, .int .u32 x4, .int .u32 x5, .int .u32 x6, .int .u32 x7], .slice (some ad) 64 c'] w' fun e w'' => e = .returned (.agg #[.int .u32 z0, .int .u32 z1, .int .u32 z2, .int .u32 z3, .int .u32 z4, .int .u32 z5, .int .u32 z6, .int .u32 z7]) ∧ Below w'.heap.size w' w'') := ⟨fun w' hT => by
        refine (mix32_c x0 x1 x2 x3 x4 x5 x6 x7 ad c' ((b.drop (64 * k)).take 64) w' ?_ (by omega) (by omega) (Nat.lt_of_lt_of_le hadS hT.2.size) ?_ ?_ K ?_).mono ?_
        · rw [List.length_take, List.length_drop]; omega
        · intro i hi
          rw [hT.2.cell (HCE.out i (by omega)) (by rw [add_block]; exact hne), List.getD_eq_getElem?_getD, List.getD_eq_getElem?_getD, List.getElem?_take, if_pos hi]
        · intro i
          rw [List.getD_eq_getElem?_getD, List.getElem?_take]
          split
          · rw [List.getElem?_drop, ← List.getD_eq_getElem?_getD]; exact HBD.out _
          · simp
        · exact fun i hi => hT.2.cell (HK.out i hi) (fun e => hpK e.symm)
        · rintro e w'' ⟨he, hb⟩
          exact ⟨by rw [he, hz]; rfl, hb⟩⟩
      have hc64 : (64 : Int) ≤ ↑c' := by omega
      go_cut [] from 5 to 63 (fun wx => Aside0 (Tk w p n rest [z0, z1, z2, z3, z4, z5, z6, z7] [y0, y1, y2, y3, y4, y5, y6, y7] wx))
      case first =>
        have W1 := P1.out.drew.words
        go_split_ands
        have S1 := TkS.cells P1.out.drew.s
        go_split_ands
        go_region_law (first
            | (go_simp; go_at_call 149; refine (block32_c _).mono ?_; rintro e w2 ⟨rfl, hb2⟩; have P2 := Aside0.mk (Tk.below P1.out.drew hb2); have W2 := P2.out.words; have S2 := TkS.cells P2.out.s; clear hb2; go_split_ands)
            | (go_simp; go_at_call 150; refine (HMX.out _ P2.out).mono ?_; rintro e w3 ⟨rfl, hb3⟩; have P3 := Aside0.mk (Tk.below P2.out hb3); have W3 := P3.out.words; have S3 := TkS.cells P3.out.s; clear hb3; go_split_ands))
        all_goals have P4 := Aside0.mk (P3.out.stored z0 z1 z2 z3 z4 z5 z6 z7)
        all_goals go_split_ands
        all_goals go_wp2_with fail
        all_goals go_meet
        all_goals exact P4
      case rest =>
        have P4 := hcut
        clear hcut
        obtain ⟨c0, c1, c2, c3, c4, c5, c6, c7, c8, c9, c10, c11, c12, c13, c14⟩ := hash_narrow P4.out.1
        go_wp2_with (first | (go_at_call 149; refine (block32_c _).mono ?_; rintro e w5 ⟨rfl, hb5⟩; have P5 := Aside0.mk (Tk.below P4.out hb5); clear hb5))
        all_goals go_roundg (gk - 64)
        all_goals first
          | omega
          | (have HC' := next_bytes HC.out hge hmc
             have hx : [z0, z1, z2, z3, z4, z5, z6, z7] = blocks32 K hs b (k + 1) := by unfold blocks32; rw [← HX.out]; exact hz.symm
             first
               | (rw [if_pos h] at HC'; exact ⟨k + 1, some ad, 0, by omega, rfl, by omega, by omega, ⟨HC'⟩, ⟨fun hp a e => by injection e with e; subst e; exact hne⟩, [z0, z1, z2, z3, z4, z5, z6, z7], rfl, ⟨hx⟩, ⟨P5.out.1⟩, ⟨P5.out.2⟩⟩)
               | (rw [if_neg h] at HC'; exact ⟨k + 1, some (ad.add 64), c' - 64, by omega, rfl, by omega, by omega, ⟨HC'⟩, ⟨fun hp a e => by injection e with e; subst e; exact hne⟩, [z0, z1, z2, z3, z4, z5, z6, z7], rfl, ⟨hx⟩, ⟨P5.out.1⟩, ⟨P5.out.2⟩⟩))
    · have hltI : ¬ (64 : Int) ≤ ↑gk := by omega
      go_wp2_with (go_at_call 149; refine (block32_c _).mono ?_; rintro e w1 ⟨rfl, hb1⟩; have HB1 := Aside0.mk hb1; clear hb1)
      have h1 : gk = b.length % 64 := by omega
      have h2 : k = b.length / 64 := by omega
      subst h1 h2
      have HF1 := HF.out.then_below HB1.out
      go_ret
      exact ⟨A', c', rfl, hmc, HF1.kd HC.out HA.out, HA.out, by rw [← HX.out]; exact blk_below BP.out HB1.out, HF1⟩
end Go.Proofs.YtbenedckmapjoaaDoor.H
