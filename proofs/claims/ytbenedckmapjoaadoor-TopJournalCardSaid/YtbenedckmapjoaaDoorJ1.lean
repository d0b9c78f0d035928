/- Turned words; the words of a block. -/
import Derived.Test.YtbenedckmapjoaaDoorProg
import Derived.WalkKit
import Derived.BigQuiet
import Derived.Deep.QuietTactic
import Derived.KernelRfl
import Derived.Test.YtbenedckmapjoaaDoorWT
import Derived.LoopTactic
import Derived.Deep.LoopGhost
import Derived.Deep.RegionHeld3
import Derived.Laws.Rows
import Derived.Deep.Slices
import Derived.Deep.WholeRow
import Derived.WalkSpells
import Derived.Lib.Hide
import Derived.IntWalk
import Derived.Laws.Tables
import Derived.Laws.CopyOwn
namespace Go.Proofs.YtbenedckmapjoaaDoor.H
open Go.RowKit Go.Proofs.YtbenedckmapjoaaDoorW.PrintWords
/-- A word of 32 digits turned right. -/
def rot32 (x r : Int) : Int := bits .or .u32 (x / 2 ^ r.toNat) (x * 2 ^ (32 - r).toNat % 4294967296)
theorem turn32 (x r : Int) (w : World) (h1 : 0 ≤ r) (h2 : r ≤ 32) :
    Calls Tryd.prog 160 #[.int .u32 x, .int .i64 r, .int .i64 32] w fun e w' => e = .returned (.int .u32 (rot32 x r)) ∧ ∃ n, w' = w.drewN n := by
  go_enter Tryd.func160, Tryd.ntmps160
  go_wp2
  go_quiet (fail)
  go_wp2
  go_ret
  exact ⟨rfl, _, rfl⟩
def small32 (x a b c : Int) : Int := bits .xor .u32 (bits .xor .u32 (rot32 x a) (rot32 x b)) (x / 2 ^ c.toNat)
theorem small32_c (x a b c : Int) (w : World) (ha : 0 ≤ a) (ha' : a ≤ 32) (hb : 0 ≤ b) (hb' : b ≤ 32) (hc : 0 ≤ c) (hc' : c ≤ 32) :
    Calls Tryd.prog 159 #[.int .u32 x, .agg #[.int .i64 a, .int .i64 b, .int .i64 c], .int .i64 32] w fun e w' => e = .returned (.int .u32 (small32 x a b c)) ∧ Below w.heap.size w w' := by
  go_enter Tryd.func159, Tryd.ntmps159
  go_wp2
  go_quiet ((first | (go_at_call_of 160 (Value.int .i64 a); exact Calls.quiet_of (turn32 x a _ ha ha')) | (go_at_call_of 160 (Value.int .i64 b); exact Calls.quiet_of (turn32 x b _ hb hb'))))
  go_wp2
  go_ret
  exact ⟨rfl, pw_below_drewN ((Below.refl _ _).alloc (Nat.le_refl _) _) _⟩
def big32 (x a b c : Int) : Int := bits .xor .u32 (bits .xor .u32 (rot32 x a) (rot32 x b)) (rot32 x c)
theorem big32_c (x a b c : Int) (w : World) (ha : 0 ≤ a) (ha' : a ≤ 32) (hb : 0 ≤ b) (hb' : b ≤ 32) (hc : 0 ≤ c) (hc' : c ≤ 32) :
    Calls Tryd.prog 156 #[.int .u32 x, .agg #[.int .i64 a, .int .i64 b, .int .i64 c], .int .i64 32] w fun e w' => e = .returned (.int .u32 (big32 x a b c)) ∧ Below w.heap.size w w' := by
  go_enter Tryd.func156, Tryd.ntmps156
  go_wp2
  go_quiet ((first | (go_at_call_of 160 (Value.int .i64 a); exact Calls.quiet_of (turn32 x a _ ha ha')) | (go_at_call_of 160 (Value.int .i64 b); exact Calls.quiet_of (turn32 x b _ hb hb')) | (go_at_call_of 160 (Value.int .i64 c); exact Calls.quiet_of (turn32 x c _ hc hc'))))
  go_wp2
  go_ret
  exact ⟨rfl, pw_below_drewN ((Below.refl _ _).alloc (Nat.le_refl _) _) _⟩
/-- A word of 64 digits turned right. -/
def rot64 (x r : Int) : Int := bits .or .u64 (x / 2 ^ r.toNat) (x * 2 ^ (64 - r).toNat % 18446744073709551616)
theorem turn64 (x r : Int) (w : World) (h1 : 0 ≤ r) (h2 : r ≤ 64) :
    Calls Tryd.prog 162 #[.int .u64 x, .int .i64 r, .int .i64 64] w fun e w' => e = .returned (.int .u64 (rot64 x r)) ∧ ∃ n, w' = w.drewN n := by
  go_enter Tryd.func162, Tryd.ntmps162
  go_wp2
  go_quiet (fail)
  go_wp2
  go_ret
  exact ⟨rfl, _, rfl⟩
def small64 (x a b c : Int) : Int := bits .xor .u64 (bits .xor .u64 (rot64 x a) (rot64 x b)) (x / 2 ^ c.toNat)
theorem small64_c (x a b c : Int) (w : World) (ha : 0 ≤ a) (ha' : a ≤ 64) (hb : 0 ≤ b) (hb' : b ≤ 64) (hc : 0 ≤ c) (hc' : c ≤ 64) :
    Calls Tryd.prog 161 #[.int .u64 x, .agg #[.int .i64 a, .int .i64 b, .int .i64 c], .int .i64 64] w fun e w' => e = .returned (.int .u64 (small64 x a b c)) ∧ Below w.heap.size w w' := by
  go_enter Tryd.func161, Tryd.ntmps161
  go_wp2
  go_quiet ((first | (go_at_call_of 162 (Value.int .i64 a); exact Calls.quiet_of (turn64 x a _ ha ha')) | (go_at_call_of 162 (Value.int .i64 b); exact Calls.quiet_of (turn64 x b _ hb hb'))))
  go_wp2
  go_ret
  exact ⟨rfl, pw_below_drewN ((Below.refl _ _).alloc (Nat.le_refl _) _) _⟩
def big64 (x a b c : Int) : Int := bits .xor .u64 (bits .xor .u64 (rot64 x a) (rot64 x b)) (rot64 x c)
theorem big64_c (x a b c : Int) (w : World) (ha : 0 ≤ a) (ha' : a ≤ 64) (hb : 0 ≤ b) (hb' : b ≤ 64) (hc : 0 ≤ c) (hc' : c ≤ 64) :
    Calls Tryd.prog 158 #[.int .u64 x, .agg #[.int .i64 a, .int .i64 b, .int .i64 c], .int .i64 64] w fun e w' => e = .returned (.int .u64 (big64 x a b c)) ∧ Below w.heap.size w w' := by
  go_enter Tryd.func158, Tryd.ntmps158
  go_wp2
  go_quiet ((first | (go_at_call_of 162 (Value.int .i64 a); exact Calls.quiet_of (turn64 x a _ ha ha')) | (go_at_call_of 162 (Value.int .i64 b); exact Calls.quiet_of (turn64 x b _ hb hb')) | (go_at_call_of 162 (Value.int .i64 c); exact Calls.quiet_of (turn64 x c _ hc hc'))))
  go_wp2
  go_ret
  exact ⟨rfl, pw_below_drewN ((Below.refl _ _).alloc (Nat.le_refl _) _) _⟩
end Go.Proofs.YtbenedckmapjoaaDoor.H
namespace Go.Proofs.YtbenedckmapjoaaDoor.H
open Go.RowKit Go.Proofs.YtbenedckmapjoaaDoorW.PrintWords
theorem new1 (w : World) (o : Obj) : (w.alloc o).heap[w.heap.size]? = some o := blk_new w o
theorem new2 (w : World) (o o' : Obj) : ((w.alloc o).alloc o').heap[w.heap.size + 1]? = some o' := by have := blk_new (w.alloc o) o'; simpa using this
theorem new3 (w : World) (o o' o2 : Obj) : (((w.alloc o).alloc o').alloc o2).heap[w.heap.size + 1 + 1]? = some o2 := by have := blk_new ((w.alloc o).alloc o') o2; simpa using this
theorem add_add' (a : Addr) (i j : Nat) : (a.add i).add j = a.add (i + j) := Go.Deep.add_add a i j
theorem add_block (a : Addr) (i : Nat) : (a.add i).block = a.block := by unfold Addr.add; split <;> rfl
theorem cell_none {w : World} {p : Addr} {v : Value} (h : w.cell? p = none) : (w.setCell p v).cell? p = none := by
  cases hx : (w.setCell p v).cell? p with
  | none => rfl
  | some x =>
    exfalso
    unfold World.cell? World.setCell at *
    simp only [Array.getElem?_modify] at hx
    cases hb : w.heap[p.block]? with
    | none => rw [hb] at hx; simp at hx
    | some o =>
      rw [hb] at hx h
      cases o <;> simp_all
/-- What a cell holds, whatever it is. -/
def cellV (w : World) (p : Addr) : Value := (w.cell? p).getD undef
theorem cellV_of {w : World} {p : Addr} {v : Value} (h : w.cell? p = some v) : w.cell? p = some (cellV w p) := by unfold cellV; rw [h]; rfl
/-- The shape of the narrow digest, cell by cell. -/
def narrowV : Array Value := #[.int .i64 4, .int .i64 32, .int .i64 64, .int .i64 7, .int .i64 18, .int .i64 3, .int .i64 17, .int .i64 19, .int .i64 10, .int .i64 2, .int .i64 13, .int .i64 22, .int .i64 6, .int .i64 11, .int .i64 25]
def cells32 (l : List Int) : Array Value := (l.map (Value.int .u32)).toArray
def be32 (b : List Int) (t : Nat) : Nat → Int
  | 0 => 0
  | j + 1 => bits .or .u32 (be32 b t j * 256 % 4294967296) (b.getD (4 * t + j) 0)
def first32 (b : List Int) (t : Nat) : List Int := (List.range t).map (fun i => be32 b i 4) ++ List.replicate (80 - t) 0
theorem be32_succ (b : List Int) (t j : Nat) : be32 b t (j + 1) = bits .or .u32 (be32 b t j * 256 % 4294967296) (b.getD (4 * t + j) 0) := rfl
theorem cells32_get (l : List Int) (i : Nat) (h : i < l.length) : (cells32 l)[i]? = some (.int .u32 (l.getD i 0)) := by simp [cells32, h]
theorem cells32_set (l : List Int) (i : Nat) (v : Int) : (cells32 l).setIfInBounds i (.int .u32 v) = cells32 (l.set i v) := by simp [cells32, List.map_set]
theorem cells32_zero (n : Nat) : cells32 (List.replicate n 0) = Array.replicate n (.int .u32 0) := by simp [cells32]
theorem first32_length (b : List Int) (t : Nat) (h : t ≤ 80) : (first32 b t).length = 80 := by simp [first32]; omega
theorem first32_at (b : List Int) (t : Nat) : (first32 b t).set t 0 = first32 b t := by
  unfold first32
  apply List.ext_getElem
  · simp
  · intro i h1 h2
    rw [List.getElem_set]
    split
    · subst_vars; rw [List.getElem_append_right (by simp)]; simp
    · rfl
theorem first32_next (b : List Int) (t : Nat) (h : t < 80) : (first32 b t).set t (be32 b t 4) = first32 b (t + 1) := by
  unfold first32
  apply List.ext_getElem
  · simp; omega
  · intro i h1 h2
    rw [List.getElem_set]
    split
    · subst_vars; rw [List.getElem_append_left (by simp)]; simp
    · by_cases hi : i < t
      · rw [List.getElem_append_left (by simpa using hi), List.getElem_append_left (by simp; omega)]; simp
      · rw [List.getElem_append_right (by simpa using hi), List.getElem_append_right (by simp; omega)]; simp
def ext32 (W : List Int) (t : Nat) : List Int :=
  W.set t ((((W.getD (t - 16) 0 + small32 (W.getD (t - 15) 0) 7 18 3) % 4294967296 + W.getD (t - 7) 0) % 4294967296 + small32 (W.getD (t - 2) 0) 17 19 10) % 4294967296)
def expand32 (b : List Int) : Nat → List Int
  | 0 => first32 b 16
  | n + 1 => ext32 (expand32 b n) (16 + n)
theorem expand32_length (b : List Int) : ∀ n, (expand32 b n).length = 80
  | 0 => first32_length b 16 (by omega)
  | n + 1 => by unfold expand32 ext32; rw [List.length_set]; exact expand32_length b n
/-- What holds of the world in words' second loop. -/
def Ext32 (w : World) (W : List Int) (wr : World) : Prop :=
  wr.heap[w.heap.size]? = some (.cells narrowV 180 (0, 0)) ∧ wr.heap[w.heap.size + 1]? = some (.cells (Array.replicate 80 (.int .u32 0)) 210 (0, 0)) ∧
  wr.heap[w.heap.size + 1 + 1]? = some (.cells (cells32 W) 210 (0, 0)) ∧ Below w.heap.size w wr
theorem Ext32.drew {w wr : World} {W : List Int} (h : Ext32 w W wr) : Ext32 w W wr.drew := ⟨h.1, h.2.1, h.2.2.1, below_drew1 h.2.2.2⟩
theorem Ext32.below {w w1 w2 : World} {W : List Int} (hb : Below w1.heap.size w1 w2) (h : Ext32 w W w1) : Ext32 w W w2 := ⟨blk_below h.1 hb, blk_below h.2.1 hb, blk_below h.2.2.1 hb, below_step h.2.2.2 hb⟩
/-- .. the word at t being whatever it is. -/
def ExtS32 (w : World) (W : List Int) (t : Nat) (wr : World) : Prop := ∃ v, Ext32 w (W.set t v) wr
theorem ExtS32.mk {w wr : World} {W : List Int} {t : Nat} (hl : W.length = 80) (ht : t < 80) (h : Ext32 w W wr) : ExtS32 w W t wr := ⟨W[t]'(by omega), by rw [List.set_getElem_self]; exact h⟩
theorem ExtS32.below {w w1 w2 : World} {W : List Int} {t : Nat} (hb : Below w1.heap.size w1 w2) (h : ExtS32 w W t w1) : ExtS32 w W t w2 := h.imp fun _ h => h.below hb
theorem ExtS32.stored {w wr : World} {W : List Int} {t : Nat} (h : ExtS32 w W t wr) (v : Int) : Ext32 w (W.set t v) (wr.setCell ⟨w.heap.size + 1 + 1, t, none⟩ (.int .u32 v)) := by
  obtain ⟨u, h1, h2, h3, h4⟩ := h
  refine ⟨blk_far h1 (by simp; omega) _, blk_far h2 (by simp) _, blk_put h3 _ _ ?_, below_set h4 (by omega)⟩
  rw [cells32_set, List.set_set]
theorem ExtS32.fix {w wr : World} {W : List Int} (hl : W.length = 80) {t : Nat} (ht : t < 80) {v : Int} (h : ExtS32 w W t (wr.setCell ⟨w.heap.size + 1 + 1, t, none⟩ (.int .u32 v))) : Ext32 w (W.set t v) (wr.setCell ⟨w.heap.size + 1 + 1, t, none⟩ (.int .u32 v)) := by
  obtain ⟨u, h1, h2, h3, h4⟩ := h
  have e : (wr.setCell ⟨w.heap.size + 1 + 1, t, none⟩ (.int .u32 v)).cell? ⟨w.heap.size + 1 + 1, t, none⟩ = some (.int .u32 u) := by
    rw [blk_cell h3, cells32_get _ _ (by rw [List.length_set]; omega), List.getD_eq_getElem?_getD, List.getElem?_set_self (by omega)]; rfl
  have hold : ∃ x, wr.cell? ⟨w.heap.size + 1 + 1, t, none⟩ = some x := by
    cases hx : wr.cell? ⟨w.heap.size + 1 + 1, t, none⟩ with
    | some x => exact ⟨x, rfl⟩
    | none => exact absurd e (by rw [cell_none hx]; simp)
  obtain ⟨x, hx⟩ := hold
  rw [World.cell?_setCell_same wr _ _ hx] at e
  injection e with e
  injection e with _ e
  subst e
  exact ⟨h1, h2, h3, h4⟩
theorem ExtS32.cells {w wr : World} {W : List Int} (hl : W.length = 80) {t i16 i15 i7 i2 : Nat} (l16 : i16 < t) (l15 : i15 < t) (l7 : i7 < t) (l2 : i2 < t) (lt : t < 80) (h : ExtS32 w W t wr) :
    ExtS32 w W t wr ∧ wr.cell? ⟨w.heap.size, 1, none⟩ = some (.int .i64 32) ∧ wr.cell? ⟨w.heap.size, 3, none⟩ = some (.int .i64 7) ∧ wr.cell? ⟨w.heap.size, 4, none⟩ = some (.int .i64 18) ∧ wr.cell? ⟨w.heap.size, 5, none⟩ = some (.int .i64 3) ∧
    wr.cell? ⟨w.heap.size, 6, none⟩ = some (.int .i64 17) ∧ wr.cell? ⟨w.heap.size, 7, none⟩ = some (.int .i64 19) ∧ wr.cell? ⟨w.heap.size, 8, none⟩ = some (.int .i64 10) ∧
    wr.cell? ⟨w.heap.size + 1 + 1, i16, none⟩ = some (.int .u32 (W.getD i16 0)) ∧ wr.cell? ⟨w.heap.size + 1 + 1, i15, none⟩ = some (.int .u32 (W.getD i15 0)) ∧ wr.cell? ⟨w.heap.size + 1 + 1, i7, none⟩ = some (.int .u32 (W.getD i7 0)) ∧ wr.cell? ⟨w.heap.size + 1 + 1, i2, none⟩ = some (.int .u32 (W.getD i2 0)) ∧
    wr.frozen? ⟨w.heap.size + 1 + 1, t, none⟩ = false ∧ wr.cell? ⟨w.heap.size + 1 + 1, t, none⟩ = some (cellV wr ⟨w.heap.size + 1 + 1, t, none⟩) := by
  have hh := h
  obtain ⟨v, h1, h2, h3, h4⟩ := h
  have one : ∀ i, i < t → wr.cell? ⟨w.heap.size + 1 + 1, i, none⟩ = some (.int .u32 (W.getD i 0)) := by
    intro i hi
    rw [blk_cell h3, cells32_get _ _ (by rw [List.length_set]; omega)]
    simp only [List.getD_eq_getElem?_getD, List.getElem?_set]
    rw [if_neg (by omega)]
  exact ⟨hh, (blk_cell h1 1).trans rfl, (blk_cell h1 3).trans rfl, (blk_cell h1 4).trans rfl, (blk_cell h1 5).trans rfl, (blk_cell h1 6).trans rfl, (blk_cell h1 7).trans rfl, (blk_cell h1 8).trans rfl,
    one _ l16, one _ l15, one _ l7, one _ l2, blk_frozen h3 _, cellV_of ((blk_cell h3 _).trans (cells32_get _ _ (by rw [List.length_set]; omega)))⟩
set_option maxRecDepth 100000 in
set_option maxHeartbeats 2000000 in
theorem words32_c (a : Addr) (c : Nat) (b : List Int) (w : World) (hb : b.length = 64) (hc : 64 ≤ c) (hcm : c ≤ 9223372036854775807) (hab : a.block < w.heap.size) (hcell : ∀ i, i < 64 → w.cell? (a.add i) = some (.int .u8 (b.getD i 0))) (hbd : ∀ i, 0 ≤ b.getD i 0 ∧ b.getD i 0 < 256) :
    Calls Tryd.prog 155 #[.agg narrowV, .slice (some a) 64 c] w fun e w' => e = .returned (.agg (cells32 (expand32 b 48))) ∧ Below w.heap.size w w' := by
  unfold narrowV
  obtain ⟨hz, hi80⟩ := zero_of_info (P := Tryd.prog) (t := 210) (v := .agg (Array.replicate 80 (.int .u32 0))) (n := 80) (by kernel_rfl)
  go_enter Tryd.func155, Tryd.ntmps155
  go_wp2
  have HC0 := Aside0.mk hcell
  have HB0 := Aside0.mk hbd
  have HL := Aside0.mk hb
  have HI := Lib.hid hi80
  clear hcell hbd hb hz hi80
  have Q0 : Aside0 (∃ W : World, W = ((w.alloc (.cells narrowV 180)).alloc (.cells (Array.replicate 80 (.int .u32 0)) 210)).alloc (.cells (Array.replicate 80 (.int .u32 0)) 210)) := ⟨_, rfl⟩
  go_loopw [10] (fun t wr => ∃ k : Nat, k ≤ 16 ∧ t = .int .i64 k ∧ Aside0 (wr.heap[w.heap.size]? = some (.cells narrowV 180 (0, 0))) ∧ Aside0 (wr.heap[w.heap.size + 1]? = some (.cells (Array.replicate 80 (.int .u32 0)) 210 (0, 0))) ∧ Aside0 (wr.heap[w.heap.size + 1 + 1]? = some (.cells (cells32 (first32 b k)) 210 (0, 0))) ∧ Aside0 (Below w.heap.size w wr)) (fun t _ => 16 - (intOf t).toNat)
  case atStart =>
    refine ⟨0, by omega, rfl, ⟨?_⟩, ⟨?_⟩, ⟨?_⟩, ⟨?_⟩⟩
    · exact blk_alloc (blk_alloc (new1 _ _) _) _
    · exact blk_alloc (new2 _ _ _) _
    · show _ = some (Obj.cells (cells32 (List.replicate 80 0)) 210 (0, 0))
      rw [cells32_zero]
      exact new3 _ _ _ _
    · exact below_alloc (below_alloc (below_alloc (Below.refl _ _) _) _) _
  case round =>
    obtain ⟨k, hk, rfl, B0, B1, B2, HB⟩ := hrel
    by_cases hlt : k < 16
    · have c0 : wr.cell? ⟨w.heap.size, 0, none⟩ = some (.int .i64 4) := (blk_cell B0.out 0).trans rfl
      go_wp2
      rw [show (k + 1) * 4 - k * 4 = 4 by omega]
      clear c0
      obtain ⟨wo, rfl⟩ : ∃ wo : World, wo = wr := ⟨_, rfl⟩
      go_loopw [25] (fun t wr => ∃ j : Nat, j ≤ 4 ∧ t = .int .i64 j ∧ Aside0 (wr.heap[w.heap.size]? = some (.cells narrowV 180 (0, 0))) ∧ Aside0 (wr.heap[w.heap.size + 1]? = some (.cells (Array.replicate 80 (.int .u32 0)) 210 (0, 0))) ∧ Aside0 (wr.heap[w.heap.size + 1 + 1]? = some (.cells (cells32 ((first32 b k).set k (be32 b k j))) 210 (0, 0))) ∧ Aside0 (Below w.heap.size w wr)) (fun t _ => 4 - (intOf t).toNat)
      case atStart => exact ⟨0, by omega, rfl, B0, B1, ⟨by rw [show be32 b k 0 = 0 from rfl, first32_at]; exact B2.out⟩, HB⟩
      case round =>
        clear B0 B1 B2 HB
        obtain ⟨j, hj, rfl, B0, B1, B2, HB⟩ := hrel
        by_cases hjl : j < 4
        · have c1 : wr.cell? ((a.add (k * 4)).add j) = some (.int .u8 (b.getD (4 * k + j) 0)) := by
            have e : (a.add (k * 4)).add j = a.add (4 * k + j) := by rw [add_add']; congr 1; omega
            rw [e]; exact (HB.out.cell (p := a.add (4 * k + j)) (by rw [add_block]; exact hab)).trans (HC0.out _ (by omega))
          have hl2 := first32_length b k (by omega)
          have c2 : wr.cell? ⟨w.heap.size + 1 + 1, k, none⟩ = some (.int .u32 (be32 b k j)) := by
            rw [blk_cell B2.out, cells32_get _ _ (by rw [List.length_set]; omega), List.getD_eq_getElem?_getD, List.getElem?_set_self (by omega)]; rfl
          have f2 : wr.frozen? ⟨w.heap.size + 1 + 1, k, none⟩ = false := blk_frozen B2.out _
          clear hl2
          obtain ⟨bv, hbv⟩ : ∃ bv, b.getD (4 * k + j) 0 = bv := ⟨_, rfl⟩
          have b1 := (HB0.out (4 * k + j)).1
          have b2 := (HB0.out (4 * k + j)).2
          rw [hbv] at c1 b1 b2
          have HV := Lib.hid hbv
          clear hbv
          go_wp2
          go_roundw
          case rel =>
            refine ⟨j + 1, by omega, by go_num, ⟨blk_far B0.out (by simp; omega) _⟩, ⟨blk_far B1.out (by simp) _⟩, ⟨?_⟩, ⟨below_set HB.out (by omega)⟩⟩
            refine blk_put B2.out _ _ ?_
            rw [cells32_set, List.set_set]
            rw [be32_succ, HV.out]
          case measure => simp [intOf]; omega
        · obtain rfl : j = 4 := by omega
          go_wp2
          go_roundw
          case rel =>
            refine ⟨k + 1, by omega, by go_num, B0, B1, ⟨?_⟩, HB⟩
            rw [← first32_next b k (by omega)]
            exact B2.out
          case measure => simp [intOf]; omega
    · obtain rfl : k = 16 := by omega
      go_wp2
      clear Q0
      have P0 : Aside0 (Ext32 w (expand32 b 0) wr) := ⟨⟨B0.out, B1.out, B2.out, HB.out⟩⟩
      clear B0 B1 B2 HB hk hlt
      obtain ⟨wo, rfl⟩ : ∃ wo : World, wo = wr := ⟨_, rfl⟩
      go_loopg [9] 48 (fun m t wr => ∃ n : Nat, n + m = 48 ∧ t = .int .i64 ((16 + n : Nat) : Int) ∧ Aside0 (Ext32 w (expand32 b n) wr))
      case atStart => exact ⟨0, by omega, rfl, P0⟩
      case round =>
        clear P0
        obtain ⟨n, hn', rfl, P⟩ := hrel
        have hn : n ≤ 48 := by omega
        have HN := Lib.hid hn'
        clear hn'
        have e2 : wr.cell? ⟨w.heap.size, 2, none⟩ = some (.int .i64 64) := (blk_cell P.out.1 2).trans rfl
        have hlen := Aside0.mk (expand32_length b n)
        obtain ⟨W, hW⟩ : ∃ W, W = expand32 b n := ⟨_, rfl⟩
        rw [← hW] at P hlen
        have HW := Lib.hid hW
        clear hW
        obtain ⟨t, ht⟩ : ∃ t, t = 16 + n := ⟨_, rfl⟩
        rw [← ht]
        have h1 : 16 ≤ t := by omega
        have h2 : t ≤ 64 := by omega
        have HT := Lib.hid ht
        clear ht
        by_cases hlt : t < 64
        · go_wp2
          clear e2
          have hlt2 : t < 80 := by omega
          have ht0 : (0 : Int) ≤ (t : Int) := by omega
          have ht1 : (t : Int) < 80 := by omega
          obtain ⟨i16, g16⟩ : ∃ i : Nat, i = t - 16 := ⟨_, rfl⟩
          have l16 : i16 < t := by omega
          have m16 : (0 : Int) ≤ (i16 : Int) := by omega
          have n16 : (i16 : Int) < 80 := by omega
          have s16 : IntKind.i64.wrap ((t : Int) - 16) = (i16 : Int) := by rw [IntWalk.i64_in _ (by omega)]; omega
          obtain ⟨i15, g15⟩ : ∃ i : Nat, i = t - 15 := ⟨_, rfl⟩
          have l15 : i15 < t := by omega
          have m15 : (0 : Int) ≤ (i15 : Int) := by omega
          have n15 : (i15 : Int) < 80 := by omega
          have s15 : IntKind.i64.wrap ((t : Int) - 15) = (i15 : Int) := by rw [IntWalk.i64_in _ (by omega)]; omega
          obtain ⟨i7, g7⟩ : ∃ i : Nat, i = t - 7 := ⟨_, rfl⟩
          have l7 : i7 < t := by omega
          have m7 : (0 : Int) ≤ (i7 : Int) := by omega
          have n7 : (i7 : Int) < 80 := by omega
          have s7 : IntKind.i64.wrap ((t : Int) - 7) = (i7 : Int) := by rw [IntWalk.i64_in _ (by omega)]; omega
          obtain ⟨i2, g2⟩ : ∃ i : Nat, i = t - 2 := ⟨_, rfl⟩
          have l2 : i2 < t := by omega
          have m2 : (0 : Int) ≤ (i2 : Int) := by omega
          have n2 : (i2 : Int) < 80 := by omega
          have s2 : IntKind.i64.wrap ((t : Int) - 2) = (i2 : Int) := by rw [IntWalk.i64_in _ (by omega)]; omega
          have G16 := Lib.hid g16
          clear g16
          have G15 := Lib.hid g15
          clear g15
          have G7 := Lib.hid g7
          clear g7
          have G2 := Lib.hid g2
          clear g2
          have PS : Aside0 (ExtS32 w W t wr.drew) := ⟨ExtS32.mk hlen.out hlt2 P.out.drew⟩
          clear P
          go_region_held3 (fun w' => ExtS32 w W t w' ∧ w'.cell? ⟨w.heap.size, 1, none⟩ = some (.int .i64 32) ∧ w'.cell? ⟨w.heap.size, 3, none⟩ = some (.int .i64 7) ∧ w'.cell? ⟨w.heap.size, 4, none⟩ = some (.int .i64 18) ∧ w'.cell? ⟨w.heap.size, 5, none⟩ = some (.int .i64 3) ∧
              w'.cell? ⟨w.heap.size, 6, none⟩ = some (.int .i64 17) ∧ w'.cell? ⟨w.heap.size, 7, none⟩ = some (.int .i64 19) ∧ w'.cell? ⟨w.heap.size, 8, none⟩ = some (.int .i64 10) ∧
              w'.cell? ⟨w.heap.size + 1 + 1, i16, none⟩ = some (.int .u32 (W.getD i16 0)) ∧ w'.cell? ⟨w.heap.size + 1 + 1, i15, none⟩ = some (.int .u32 (W.getD i15 0)) ∧ w'.cell? ⟨w.heap.size + 1 + 1, i7, none⟩ = some (.int .u32 (W.getD i7 0)) ∧ w'.cell? ⟨w.heap.size + 1 + 1, i2, none⟩ = some (.int .u32 (W.getD i2 0)) ∧
              w'.frozen? ⟨w.heap.size + 1 + 1, t, none⟩ = false ∧ w'.cell? ⟨w.heap.size + 1 + 1, t, none⟩ = some (cellV w' ⟨w.heap.size + 1 + 1, t, none⟩))
            (first | exact ExtS32.cells hlen.out l16 l15 l7 l2 hlt2 (PS.out) | exact ExtS32.cells hlen.out l16 l15 l7 l2 hlt2 (ExtS32.below hb PS.out) | (go_split_ands; exact ExtS32.cells hlen.out l16 l15 l7 l2 hlt2 (ExtS32.below hb (by assumption))) | (go_split_ands; exact ExtS32.cells hlen.out l16 l15 l7 l2 hlt2 (⟨_, ExtS32.stored (by assumption) _⟩)))
            (first
              | (go_at_call_of 159 (Value.agg #[.int .i64 7, .int .i64 18, .int .i64 3]); refine (small32_c _ 7 18 3 _ (by omega) (by omega) (by omega) (by omega) (by omega) (by omega)).mono ?_; rintro e w2 ⟨rfl, hb⟩)
              | (go_at_call_of 159 (Value.agg #[.int .i64 17, .int .i64 19, .int .i64 10]); refine (small32_c _ 17 19 10 _ (by omega) (by omega) (by omega) (by omega) (by omega) (by omega)).mono ?_; rintro e w2 ⟨rfl, hb⟩))
          go_split_ands
          have PX : Aside0 (ExtS32 w W t _) := ⟨by assumption⟩
          go_wp2
          go_roundg (gk - 1)
          case measure => have := HN.out; have := HT.out; omega
          case rel =>
            refine ⟨n + 1, by have := HN.out; have := HT.out; omega, ?_, ⟨?_⟩⟩
            · rw [HT.out]; go_num
            · have he : expand32 b (n + 1) = W.set t ((((W.getD i16 0 + small32 (W.getD i15 0) 7 18 3) % 4294967296 + W.getD i7 0) % 4294967296 + small32 (W.getD i2 0) 17 19 10) % 4294967296) := by
                unfold expand32 ext32
                rw [← HW.out, ← HT.out, G16.out, G15.out, G7.out, G2.out]
              rw [he]
              exact ExtS32.fix hlen.out hlt2 PX.out
        · have hn48 : n = 48 := by have := HT.out; omega
          have hsz : (cells32 W).size = 80 := by have := hlen.out; simpa [cells32] using this
          have HS := Lib.hid hsz
          clear hsz
          go_wp2_with (first
            | (refine wpList_load_row rfl 210 (.tmp 5) rfl (w.heap.size + 1 + 1) (by rfl) 210 (cells32 W) (0, 0) _ P.out.2.2.1 Tryd.underlying210 rfl (by rw [HS.out]; exact HI.out) ?_)
            | (refine wpList_store_row rfl 210 (.tmp 4) (.tmp 77) rfl (w.heap.size + 1) (cells32 W) (by rfl) (by rfl) 210 (Array.replicate 80 (.int .u32 0)) P.out.2.1 (by rw [HS.out]; exact HI.out) (by rw [HS.out]; simp) (by simp [cells32, Value.oneCell']) ?_))
          refine bodyPost_ret (v := .agg (cells32 W)) (results_cell_row (by rfl) _ _ (w.heap.size + 1) 210 (cells32 W) (0, 0) _ (by rfl) (setRow_heap _ _ _ _ _ _ P.out.2.1) Tryd.underlying210 rfl (by rw [HS.out]; exact HI.out)) rfl ⟨?_, ?_⟩
          · rw [HW.out, hn48]
          · exact below_setRow P.out.2.2.2 (by omega) _
end Go.Proofs.YtbenedckmapjoaaDoor.H
namespace Go.Proofs.YtbenedckmapjoaaDoor.H
open Go.RowKit Go.Proofs.YtbenedckmapjoaaDoorW.PrintWords
/-- The shape of the wide digest, cell by cell. -/
def wideV : Array Value := #[.int .i64 8, .int .i64 64, .int .i64 80, .int .i64 1, .int .i64 8, .int .i64 7, .int .i64 19, .int .i64 61, .int .i64 6, .int .i64 28, .int .i64 34, .int .i64 39, .int .i64 14, .int .i64 18, .int .i64 41]
def cells64 (l : List Int) : Array Value := (l.map (Value.int .u64)).toArray
def be64 (b : List Int) (t : Nat) : Nat → Int
  | 0 => 0
  | j + 1 => bits .or .u64 (IntKind.u64.wrap (be64 b t j * 256)) (b.getD (8 * t + j) 0)
def first64 (b : List Int) (t : Nat) : List Int := (List.range t).map (fun i => be64 b i 8) ++ List.replicate (80 - t) 0
theorem be64_succ (b : List Int) (t j : Nat) : be64 b t (j + 1) = bits .or .u64 (IntKind.u64.wrap (be64 b t j * 256)) (b.getD (8 * t + j) 0) := rfl
theorem cells64_get (l : List Int) (i : Nat) (h : i < l.length) : (cells64 l)[i]? = some (.int .u64 (l.getD i 0)) := by simp [cells64, h]
theorem cells64_set (l : List Int) (i : Nat) (v : Int) : (cells64 l).setIfInBounds i (.int .u64 v) = cells64 (l.set i v) := by simp [cells64, List.map_set]
theorem cells64_zero (n : Nat) : cells64 (List.replicate n 0) = Array.replicate n (.int .u64 0) := by simp [cells64]
theorem first64_length (b : List Int) (t : Nat) (h : t ≤ 80) : (first64 b t).length = 80 := by simp [first64]; omega
theorem first64_at (b : List Int) (t : Nat) : (first64 b t).set t 0 = first64 b t := by
  unfold first64
  apply List.ext_getElem
  · simp
  · intro i h1 h2
    rw [List.getElem_set]
    split
    · subst_vars; rw [List.getElem_append_right (by simp)]; simp
    · rfl
theorem first64_next (b : List Int) (t : Nat) (h : t < 80) : (first64 b t).set t (be64 b t 8) = first64 b (t + 1) := by
  unfold first64
  apply List.ext_getElem
  · simp; omega
  · intro i h1 h2
    rw [List.getElem_set]
    split
    · subst_vars; rw [List.getElem_append_left (by simp)]; simp
    · by_cases hi : i < t
      · rw [List.getElem_append_left (by simpa using hi), List.getElem_append_left (by simp; omega)]; simp
      · rw [List.getElem_append_right (by simpa using hi), List.getElem_append_right (by simp; omega)]; simp
def ext64 (W : List Int) (t : Nat) : List Int :=
  W.set t ((((W.getD (t - 16) 0 + small64 (W.getD (t - 15) 0) 1 8 7) % 18446744073709551616 + W.getD (t - 7) 0) % 18446744073709551616 + small64 (W.getD (t - 2) 0) 19 61 6) % 18446744073709551616)
def expand64 (b : List Int) : Nat → List Int
  | 0 => first64 b 16
  | n + 1 => ext64 (expand64 b n) (16 + n)
theorem expand64_length (b : List Int) : ∀ n, (expand64 b n).length = 80
  | 0 => first64_length b 16 (by omega)
  | n + 1 => by unfold expand64 ext64; rw [List.length_set]; exact expand64_length b n
/-- What holds of the world in words' second loop. -/
def Ext64 (w : World) (W : List Int) (wr : World) : Prop :=
  wr.heap[w.heap.size]? = some (.cells wideV 180 (0, 0)) ∧ wr.heap[w.heap.size + 1]? = some (.cells (Array.replicate 80 (.int .u64 0)) 213 (0, 0)) ∧
  wr.heap[w.heap.size + 1 + 1]? = some (.cells (cells64 W) 213 (0, 0)) ∧ Below w.heap.size w wr
theorem Ext64.drew {w wr : World} {W : List Int} (h : Ext64 w W wr) : Ext64 w W wr.drew := ⟨h.1, h.2.1, h.2.2.1, below_drew1 h.2.2.2⟩
theorem Ext64.below {w w1 w2 : World} {W : List Int} (hb : Below w1.heap.size w1 w2) (h : Ext64 w W w1) : Ext64 w W w2 := ⟨blk_below h.1 hb, blk_below h.2.1 hb, blk_below h.2.2.1 hb, below_step h.2.2.2 hb⟩
/-- .. the word at t being whatever it is. -/
def ExtS64 (w : World) (W : List Int) (t : Nat) (wr : World) : Prop := ∃ v, Ext64 w (W.set t v) wr
theorem ExtS64.mk {w wr : World} {W : List Int} {t : Nat} (hl : W.length = 80) (ht : t < 80) (h : Ext64 w W wr) : ExtS64 w W t wr := ⟨W[t]'(by omega), by rw [List.set_getElem_self]; exact h⟩
theorem ExtS64.below {w w1 w2 : World} {W : List Int} {t : Nat} (hb : Below w1.heap.size w1 w2) (h : ExtS64 w W t w1) : ExtS64 w W t w2 := h.imp fun _ h => h.below hb
theorem ExtS64.stored {w wr : World} {W : List Int} {t : Nat} (h : ExtS64 w W t wr) (v : Int) : Ext64 w (W.set t v) (wr.setCell ⟨w.heap.size + 1 + 1, t, none⟩ (.int .u64 v)) := by
  obtain ⟨u, h1, h2, h3, h4⟩ := h
  refine ⟨blk_far h1 (by simp; omega) _, blk_far h2 (by simp) _, blk_put h3 _ _ ?_, below_set h4 (by omega)⟩
  rw [cells64_set, List.set_set]
theorem ExtS64.fix {w wr : World} {W : List Int} (hl : W.length = 80) {t : Nat} (ht : t < 80) {v : Int} (h : ExtS64 w W t (wr.setCell ⟨w.heap.size + 1 + 1, t, none⟩ (.int .u64 v))) : Ext64 w (W.set t v) (wr.setCell ⟨w.heap.size + 1 + 1, t, none⟩ (.int .u64 v)) := by
  obtain ⟨u, h1, h2, h3, h4⟩ := h
  have e : (wr.setCell ⟨w.heap.size + 1 + 1, t, none⟩ (.int .u64 v)).cell? ⟨w.heap.size + 1 + 1, t, none⟩ = some (.int .u64 u) := by
    rw [blk_cell h3, cells64_get _ _ (by rw [List.length_set]; omega), List.getD_eq_getElem?_getD, List.getElem?_set_self (by omega)]; rfl
  have hold : ∃ x, wr.cell? ⟨w.heap.size + 1 + 1, t, none⟩ = some x := by
    cases hx : wr.cell? ⟨w.heap.size + 1 + 1, t, none⟩ with
    | some x => exact ⟨x, rfl⟩
    | none => exact absurd e (by rw [cell_none hx]; simp)
  obtain ⟨x, hx⟩ := hold
  rw [World.cell?_setCell_same wr _ _ hx] at e
  injection e with e
  injection e with _ e
  subst e
  exact ⟨h1, h2, h3, h4⟩
theorem ExtS64.cells {w wr : World} {W : List Int} (hl : W.length = 80) {t i16 i15 i7 i2 : Nat} (l16 : i16 < t) (l15 : i15 < t) (l7 : i7 < t) (l2 : i2 < t) (lt : t < 80) (h : ExtS64 w W t wr) :
    ExtS64 w W t wr ∧ wr.cell? ⟨w.heap.size, 1, none⟩ = some (.int .i64 64) ∧ wr.cell? ⟨w.heap.size, 3, none⟩ = some (.int .i64 1) ∧ wr.cell? ⟨w.heap.size, 4, none⟩ = some (.int .i64 8) ∧ wr.cell? ⟨w.heap.size, 5, none⟩ = some (.int .i64 7) ∧
    wr.cell? ⟨w.heap.size, 6, none⟩ = some (.int .i64 19) ∧ wr.cell? ⟨w.heap.size, 7, none⟩ = some (.int .i64 61) ∧ wr.cell? ⟨w.heap.size, 8, none⟩ = some (.int .i64 6) ∧
    wr.cell? ⟨w.heap.size + 1 + 1, i16, none⟩ = some (.int .u64 (W.getD i16 0)) ∧ wr.cell? ⟨w.heap.size + 1 + 1, i15, none⟩ = some (.int .u64 (W.getD i15 0)) ∧ wr.cell? ⟨w.heap.size + 1 + 1, i7, none⟩ = some (.int .u64 (W.getD i7 0)) ∧ wr.cell? ⟨w.heap.size + 1 + 1, i2, none⟩ = some (.int .u64 (W.getD i2 0)) ∧
    wr.frozen? ⟨w.heap.size + 1 + 1, t, none⟩ = false ∧ wr.cell? ⟨w.heap.size + 1 + 1, t, none⟩ = some (cellV wr ⟨w.heap.size + 1 + 1, t, none⟩) := by
  have hh := h
  obtain ⟨v, h1, h2, h3, h4⟩ := h
  have one : ∀ i, i < t → wr.cell? ⟨w.heap.size + 1 + 1, i, none⟩ = some (.int .u64 (W.getD i 0)) := by
    intro i hi
    rw [blk_cell h3, cells64_get _ _ (by rw [List.length_set]; omega)]
    simp only [List.getD_eq_getElem?_getD, List.getElem?_set]
    rw [if_neg (by omega)]
  exact ⟨hh, (blk_cell h1 1).trans rfl, (blk_cell h1 3).trans rfl, (blk_cell h1 4).trans rfl, (blk_cell h1 5).trans rfl, (blk_cell h1 6).trans rfl, (blk_cell h1 7).trans rfl, (blk_cell h1 8).trans rfl,
    one _ l16, one _ l15, one _ l7, one _ l2, blk_frozen h3 _, cellV_of ((blk_cell h3 _).trans (cells64_get _ _ (by rw [List.length_set]; omega)))⟩
set_option maxRecDepth 100000 in
set_option maxHeartbeats 2000000 in
theorem words64_c (a : Addr) (c : Nat) (b : List Int) (w : World) (hb : b.length = 128) (hc : 128 ≤ c) (hcm : c ≤ 9223372036854775807) (hab : a.block < w.heap.size) (hcell : ∀ i, i < 128 → w.cell? (a.add i) = some (.int .u8 (b.getD i 0))) (hbd : ∀ i, 0 ≤ b.getD i 0 ∧ b.getD i 0 < 256) :
    Calls Tryd.prog 157 #[.agg wideV, .slice (some a) 128 c] w fun e w' => e = .returned (.agg (cells64 (expand64 b 64))) ∧ Below w.heap.size w w' := by
  unfold wideV
  obtain ⟨hz, hi80⟩ := zero_of_info (P := Tryd.prog) (t := 213) (v := .agg (Array.replicate 80 (.int .u64 0))) (n := 80) (by kernel_rfl)
  go_enter Tryd.func157, Tryd.ntmps157
  go_wp2
  have HC0 := Aside0.mk hcell
  have HB0 := Aside0.mk hbd
  have HL := Aside0.mk hb
  have HI := Lib.hid hi80
  clear hcell hbd hb hz hi80
  have Q0 : Aside0 (∃ W : World, W = ((w.alloc (.cells wideV 180)).alloc (.cells (Array.replicate 80 (.int .u64 0)) 213)).alloc (.cells (Array.replicate 80 (.int .u64 0)) 213)) := ⟨_, rfl⟩
  go_loopw [10] (fun t wr => ∃ k : Nat, k ≤ 16 ∧ t = .int .i64 k ∧ Aside0 (wr.heap[w.heap.size]? = some (.cells wideV 180 (0, 0))) ∧ Aside0 (wr.heap[w.heap.size + 1]? = some (.cells (Array.replicate 80 (.int .u64 0)) 213 (0, 0))) ∧ Aside0 (wr.heap[w.heap.size + 1 + 1]? = some (.cells (cells64 (first64 b k)) 213 (0, 0))) ∧ Aside0 (Below w.heap.size w wr)) (fun t _ => 16 - (intOf t).toNat)
  case atStart =>
    refine ⟨0, by omega, rfl, ⟨?_⟩, ⟨?_⟩, ⟨?_⟩, ⟨?_⟩⟩
    · exact blk_alloc (blk_alloc (new1 _ _) _) _
    · exact blk_alloc (new2 _ _ _) _
    · show _ = some (Obj.cells (cells64 (List.replicate 80 0)) 213 (0, 0))
      rw [cells64_zero]
      exact new3 _ _ _ _
    · exact below_alloc (below_alloc (below_alloc (Below.refl _ _) _) _) _
  case round =>
    obtain ⟨k, hk, rfl, B0, B1, B2, HB⟩ := hrel
    by_cases hlt : k < 16
    · have c0 : wr.cell? ⟨w.heap.size, 0, none⟩ = some (.int .i64 8) := (blk_cell B0.out 0).trans rfl
      go_wp2
      rw [show (k + 1) * 8 - k * 8 = 8 by omega]
      clear c0
      obtain ⟨wo, rfl⟩ : ∃ wo : World, wo = wr := ⟨_, rfl⟩
      go_loopw [25] (fun t wr => ∃ j : Nat, j ≤ 8 ∧ t = .int .i64 j ∧ Aside0 (wr.heap[w.heap.size]? = some (.cells wideV 180 (0, 0))) ∧ Aside0 (wr.heap[w.heap.size + 1]? = some (.cells (Array.replicate 80 (.int .u64 0)) 213 (0, 0))) ∧ Aside0 (wr.heap[w.heap.size + 1 + 1]? = some (.cells (cells64 ((first64 b k).set k (be64 b k j))) 213 (0, 0))) ∧ Aside0 (Below w.heap.size w wr)) (fun t _ => 8 - (intOf t).toNat)
      case atStart => exact ⟨0, by omega, rfl, B0, B1, ⟨by rw [show be64 b k 0 = 0 from rfl, first64_at]; exact B2.out⟩, HB⟩
      case round =>
        clear B0 B1 B2 HB
        obtain ⟨j, hj, rfl, B0, B1, B2, HB⟩ := hrel
        by_cases hjl : j < 8
        · have c1 : wr.cell? ((a.add (k * 8)).add j) = some (.int .u8 (b.getD (8 * k + j) 0)) := by
            have e : (a.add (k * 8)).add j = a.add (8 * k + j) := by rw [add_add']; congr 1; omega
            rw [e]; exact (HB.out.cell (p := a.add (8 * k + j)) (by rw [add_block]; exact hab)).trans (HC0.out _ (by omega))
          have hl2 := first64_length b k (by omega)
          have c2 : wr.cell? ⟨w.heap.size + 1 + 1, k, none⟩ = some (.int .u64 (be64 b k j)) := by
            rw [blk_cell B2.out, cells64_get _ _ (by rw [List.length_set]; omega), List.getD_eq_getElem?_getD, List.getElem?_set_self (by omega)]; rfl
          have f2 : wr.frozen? ⟨w.heap.size + 1 + 1, k, none⟩ = false := blk_frozen B2.out _
          clear hl2
          obtain ⟨bv, hbv⟩ : ∃ bv, b.getD (8 * k + j) 0 = bv := ⟨_, rfl⟩
          have b1 := (HB0.out (8 * k + j)).1
          have b2 := (HB0.out (8 * k + j)).2
          rw [hbv] at c1 b1 b2
          have HV := Lib.hid hbv
          clear hbv
          go_wp2
          go_roundw
          case rel =>
            refine ⟨j + 1, by omega, by go_num, ⟨blk_far B0.out (by simp; omega) _⟩, ⟨blk_far B1.out (by simp) _⟩, ⟨?_⟩, ⟨below_set HB.out (by omega)⟩⟩
            refine blk_put B2.out _ _ ?_
            rw [cells64_set, List.set_set]
            rw [be64_succ, HV.out]
          case measure => simp [intOf]; omega
        · obtain rfl : j = 8 := by omega
          go_wp2
          go_roundw
          case rel =>
            refine ⟨k + 1, by omega, by go_num, B0, B1, ⟨?_⟩, HB⟩
            rw [← first64_next b k (by omega)]
            exact B2.out
          case measure => simp [intOf]; omega
    · obtain rfl : k = 16 := by omega
      go_wp2
      clear Q0
      have P0 : Aside0 (Ext64 w (expand64 b 0) wr) := ⟨⟨B0.out, B1.out, B2.out, HB.out⟩⟩
      clear B0 B1 B2 HB hk hlt
      obtain ⟨wo, rfl⟩ : ∃ wo : World, wo = wr := ⟨_, rfl⟩
      go_loopg [9] 64 (fun m t wr => ∃ n : Nat, n + m = 64 ∧ t = .int .i64 ((16 + n : Nat) : Int) ∧ Aside0 (Ext64 w (expand64 b n) wr))
      case atStart => exact ⟨0, by omega, rfl, P0⟩
      case round =>
        clear P0
        obtain ⟨n, hn', rfl, P⟩ := hrel
        have hn : n ≤ 64 := by omega
        have HN := Lib.hid hn'
        clear hn'
        have e2 : wr.cell? ⟨w.heap.size, 2, none⟩ = some (.int .i64 80) := (blk_cell P.out.1 2).trans rfl
        have hlen := Aside0.mk (expand64_length b n)
        obtain ⟨W, hW⟩ : ∃ W, W = expand64 b n := ⟨_, rfl⟩
        rw [← hW] at P hlen
        have HW := Lib.hid hW
        clear hW
        obtain ⟨t, ht⟩ : ∃ t, t = 16 + n := ⟨_, rfl⟩
        rw [← ht]
        have h1 : 16 ≤ t := by omega
        have h2 : t ≤ 80 := by omega
        have HT := Lib.hid ht
        clear ht
        by_cases hlt : t < 80
        · go_wp2
          clear e2
          have hlt2 : t < 80 := by omega
          have ht0 : (0 : Int) ≤ (t : Int) := by omega
          have ht1 : (t : Int) < 80 := by omega
          obtain ⟨i16, g16⟩ : ∃ i : Nat, i = t - 16 := ⟨_, rfl⟩
          have l16 : i16 < t := by omega
          have m16 : (0 : Int) ≤ (i16 : Int) := by omega
          have n16 : (i16 : Int) < 80 := by omega
          have s16 : IntKind.i64.wrap ((t : Int) - 16) = (i16 : Int) := by rw [IntWalk.i64_in _ (by omega)]; omega
          obtain ⟨i15, g15⟩ : ∃ i : Nat, i = t - 15 := ⟨_, rfl⟩
          have l15 : i15 < t := by omega
          have m15 : (0 : Int) ≤ (i15 : Int) := by omega
          have n15 : (i15 : Int) < 80 := by omega
          have s15 : IntKind.i64.wrap ((t : Int) - 15) = (i15 : Int) := by rw [IntWalk.i64_in _ (by omega)]; omega
          obtain ⟨i7, g7⟩ : ∃ i : Nat, i = t - 7 := ⟨_, rfl⟩
          have l7 : i7 < t := by omega
          have m7 : (0 : Int) ≤ (i7 : Int) := by omega
          have n7 : (i7 : Int) < 80 := by omega
          have s7 : IntKind.i64.wrap ((t : Int) - 7) = (i7 : Int) := by rw [IntWalk.i64_in _ (by omega)]; omega
          obtain ⟨i2, g2⟩ : ∃ i : Nat, i = t - 2 := ⟨_, rfl⟩
          have l2 : i2 < t := by omega
          have m2 : (0 : Int) ≤ (i2 : Int) := by omega
          have n2 : (i2 : Int) < 80 := by omega
          have s2 : IntKind.i64.wrap ((t : Int) - 2) = (i2 : Int) := by rw [IntWalk.i64_in _ (by omega)]; omega
          have G16 := Lib.hid g16
          clear g16
          have G15 := Lib.hid g15
          clear g15
          have G7 := Lib.hid g7
          clear g7
          have G2 := Lib.hid g2
          clear g2
          have PS : Aside0 (ExtS64 w W t wr.drew) := ⟨ExtS64.mk hlen.out hlt2 P.out.drew⟩
          clear P
          go_region_held3 (fun w' => ExtS64 w W t w' ∧ w'.cell? ⟨w.heap.size, 1, none⟩ = some (.int .i64 64) ∧ w'.cell? ⟨w.heap.size, 3, none⟩ = some (.int .i64 1) ∧ w'.cell? ⟨w.heap.size, 4, none⟩ = some (.int .i64 8) ∧ w'.cell? ⟨w.heap.size, 5, none⟩ = some (.int .i64 7) ∧
              w'.cell? ⟨w.heap.size, 6, none⟩ = some (.int .i64 19) ∧ w'.cell? ⟨w.heap.size, 7, none⟩ = some (.int .i64 61) ∧ w'.cell? ⟨w.heap.size, 8, none⟩ = some (.int .i64 6) ∧
              w'.cell? ⟨w.heap.size + 1 + 1, i16, none⟩ = some (.int .u64 (W.getD i16 0)) ∧ w'.cell? ⟨w.heap.size + 1 + 1, i15, none⟩ = some (.int .u64 (W.getD i15 0)) ∧ w'.cell? ⟨w.heap.size + 1 + 1, i7, none⟩ = some (.int .u64 (W.getD i7 0)) ∧ w'.cell? ⟨w.heap.size + 1 + 1, i2, none⟩ = some (.int .u64 (W.getD i2 0)) ∧
              w'.frozen? ⟨w.heap.size + 1 + 1, t, none⟩ = false ∧ w'.cell? ⟨w.heap.size + 1 + 1, t, none⟩ = some (cellV w' ⟨w.heap.size + 1 + 1, t, none⟩))
            (first | exact ExtS64.cells hlen.out l16 l15 l7 l2 hlt2 (PS.out) | exact ExtS64.cells hlen.out l16 l15 l7 l2 hlt2 (ExtS64.below hb PS.out) | (go_split_ands; exact ExtS64.cells hlen.out l16 l15 l7 l2 hlt2 (ExtS64.below hb (by assumption))) | (go_split_ands; exact ExtS64.cells hlen.out l16 l15 l7 l2 hlt2 (⟨_, ExtS64.stored (by assumption) _⟩)))
            (first
              | (go_at_call_of 161 (Value.agg #[.int .i64 1, .int .i64 8, .int .i64 7]); refine (small64_c _ 1 8 7 _ (by omega) (by omega) (by omega) (by omega) (by omega) (by omega)).mono ?_; rintro e w2 ⟨rfl, hb⟩)
              | (go_at_call_of 161 (Value.agg #[.int .i64 19, .int .i64 61, .int .i64 6]); refine (small64_c _ 19 61 6 _ (by omega) (by omega) (by omega) (by omega) (by omega) (by omega)).mono ?_; rintro e w2 ⟨rfl, hb⟩))
          go_split_ands
          have PX : Aside0 (ExtS64 w W t _) := ⟨by assumption⟩
          go_wp2
          go_roundg (gk - 1)
          case measure => have := HN.out; have := HT.out; omega
          case rel =>
            refine ⟨n + 1, by have := HN.out; have := HT.out; omega, ?_, ⟨?_⟩⟩
            · rw [HT.out]; go_num
            · have he : expand64 b (n + 1) = W.set t ((((W.getD i16 0 + small64 (W.getD i15 0) 1 8 7) % 18446744073709551616 + W.getD i7 0) % 18446744073709551616 + small64 (W.getD i2 0) 19 61 6) % 18446744073709551616) := by
                unfold expand64 ext64
                rw [← HW.out, ← HT.out, G16.out, G15.out, G7.out, G2.out]
              rw [he]
              exact ExtS64.fix hlen.out hlt2 PX.out
        · have hn48 : n = 64 := by have := HT.out; omega
          have hsz : (cells64 W).size = 80 := by have := hlen.out; simpa [cells64] using this
          have HS := Lib.hid hsz
          clear hsz
          go_wp2_with (first
            | (refine wpList_load_row rfl 213 (.tmp 5) rfl (w.heap.size + 1 + 1) (by rfl) 213 (cells64 W) (0, 0) _ P.out.2.2.1 Tryd.underlying213 rfl (by rw [HS.out]; exact HI.out) ?_)
            | (refine wpList_store_row rfl 213 (.tmp 4) (.tmp 77) rfl (w.heap.size + 1) (cells64 W) (by rfl) (by rfl) 213 (Array.replicate 80 (.int .u64 0)) P.out.2.1 (by rw [HS.out]; exact HI.out) (by rw [HS.out]; simp) (by simp [cells64, Value.oneCell']) ?_))
          refine bodyPost_ret (v := .agg (cells64 W)) (results_cell_row (by rfl) _ _ (w.heap.size + 1) 213 (cells64 W) (0, 0) _ (by rfl) (setRow_heap _ _ _ _ _ _ P.out.2.1) Tryd.underlying213 rfl (by rw [HS.out]; exact HI.out)) rfl ⟨?_, ?_⟩
          · rw [HW.out, hn48]
          · exact below_setRow P.out.2.2.2 (by omega) _
end Go.Proofs.YtbenedckmapjoaaDoor.H
