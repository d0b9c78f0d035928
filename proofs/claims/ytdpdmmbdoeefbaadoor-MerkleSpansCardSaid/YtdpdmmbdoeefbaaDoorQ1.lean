/- The narrow digest: part 1. -/
import Derived.Test.YtdpdmmbdoeefbaaDoorProg
import Derived.WalkKit
import Derived.BigQuiet
import Derived.Deep.QuietTactic
import Derived.KernelRfl
import Derived.Test.YtdpdmmbdoeefbaaDoorWT
import Derived.LoopTactic
import Derived.Deep.LoopGhost
import Derived.Deep.RegionHeld3
import Derived.Laws.Rows
import Derived.Deep.Slices
import Derived.Deep.WholeRow
import Derived.WalkSpells
import Derived.Lib.Hide
import Derived.IntWalk
import Derived.Laws.Tables
import Derived.Laws.CopyOwn
import Derived.Laws.ResultCell
import Derived.OwnWalk
import Derived.Deep.AppendLies
import Derived.Deep.CutRange
namespace Go.Proofs.YtdpdmmbdoeefbaaDoor.H
open Go.RowKit YtdpdmmbdoeefbaaDoorW.PrintWords
/-- A word of 32 digits turned right. -/
def rot32 (x r : Int) : Int := bits .or .u32 (x / 2 ^ r.toNat) (x * 2 ^ (32 - r).toNat % 4294967296)
theorem turn32 (x r : Int) (w : World) (h1 : 0 ≤ r) (h2 : r ≤ 32) :
    Calls Tryd.prog 114 #[.int .u32 x, .int .i64 r, .int .i64 32] w fun e w' => e = .returned (.int .u32 (rot32 x r)) ∧ ∃ n, w' = w.drewN n := by
  go_enter Tryd.func114, Tryd.ntmps114
  go_wp2
  go_quiet (fail)
  go_wp2
  go_ret
  exact ⟨rfl, _, rfl⟩
def small32 (x a b c : Int) : Int := bits .xor .u32 (bits .xor .u32 (rot32 x a) (rot32 x b)) (x / 2 ^ c.toNat)
theorem small32_c (x a b c : Int) (w : World) (ha : 0 ≤ a) (ha' : a ≤ 32) (hb : 0 ≤ b) (hb' : b ≤ 32) (hc : 0 ≤ c) (hc' : c ≤ 32) :
    Calls Tryd.prog 113 #[.int .u32 x, .agg #[.int .i64 a, .int .i64 b, .int .i64 c], .int .i64 32] w fun e w' => e = .returned (.int .u32 (small32 x a b c)) ∧ Below w.heap.size w w' := by
  go_enter Tryd.func113, Tryd.ntmps113
  go_wp2
  go_quiet ((first | (go_at_call_of 114 (Value.int .i64 a); exact Calls.quiet_of (turn32 x a _ ha ha')) | (go_at_call_of 114 (Value.int .i64 b); exact Calls.quiet_of (turn32 x b _ hb hb'))))
  go_wp2
  go_ret
  exact ⟨rfl, pw_below_drewN ((Below.refl _ _).alloc (Nat.le_refl _) _) _⟩
def big32 (x a b c : Int) : Int := bits .xor .u32 (bits .xor .u32 (rot32 x a) (rot32 x b)) (rot32 x c)
theorem big32_c (x a b c : Int) (w : World) (ha : 0 ≤ a) (ha' : a ≤ 32) (hb : 0 ≤ b) (hb' : b ≤ 32) (hc : 0 ≤ c) (hc' : c ≤ 32) :
    Calls Tryd.prog 109 #[.int .u32 x, .agg #[.int .i64 a, .int .i64 b, .int .i64 c], .int .i64 32] w fun e w' => e = .returned (.int .u32 (big32 x a b c)) ∧ Below w.heap.size w w' := by
  go_enter Tryd.func109, Tryd.ntmps109
  go_wp2
  go_quiet ((first | (go_at_call_of 114 (Value.int .i64 a); exact Calls.quiet_of (turn32 x a _ ha ha')) | (go_at_call_of 114 (Value.int .i64 b); exact Calls.quiet_of (turn32 x b _ hb hb')) | (go_at_call_of 114 (Value.int .i64 c); exact Calls.quiet_of (turn32 x c _ hc hc'))))
  go_wp2
  go_ret
  exact ⟨rfl, pw_below_drewN ((Below.refl _ _).alloc (Nat.le_refl _) _) _⟩
theorem new1 (w : World) (o : Obj) : (w.alloc o).heap[w.heap.size]? = some o := blk_new w o
theorem new2 (w : World) (o o' : Obj) : ((w.alloc o).alloc o').heap[w.heap.size + 1]? = some o' := by have := blk_new (w.alloc o) o'; simpa using this
theorem new3 (w : World) (o o' o2 : Obj) : (((w.alloc o).alloc o').alloc o2).heap[w.heap.size + 1 + 1]? = some o2 := by have := blk_new ((w.alloc o).alloc o') o2; simpa using this
theorem add_add' (a : Addr) (i j : Nat) : (a.add i).add j = a.add (i + j) := Go.Deep.add_add a i j
theorem add_block (a : Addr) (i : Nat) : (a.add i).block = a.block := by unfold Addr.add; split <;> rfl
theorem cell_none {w : World} {p : Addr} {v : Value} (h : w.cell? p = none) : (w.setCell p v).cell? p = none := by
  cases hx : (w.setCell p v).cell? p with
  | none => rfl
  | some x =>
    exfalso
    unfold World.cell? World.setCell at *
    simp only [Array.getElem?_modify] at hx
    cases hb : w.heap[p.block]? with
    | none => rw [hb] at hx; simp at hx
    | some o =>
      rw [hb] at hx h
      cases o <;> simp_all
/-- What a cell holds, whatever it is. -/
def cellV (w : World) (p : Addr) : Value := (w.cell? p).getD undef
theorem cellV_of {w : World} {p : Addr} {v : Value} (h : w.cell? p = some v) : w.cell? p = some (cellV w p) := by unfold cellV; rw [h]; rfl
/-- The shape of the narrow digest, cell by cell. -/
def narrowV : Array Value := #[.int .i64 4, .int .i64 32, .int .i64 64, .int .i64 7, .int .i64 18, .int .i64 3, .int .i64 17, .int .i64 19, .int .i64 10, .int .i64 2, .int .i64 13, .int .i64 22, .int .i64 6, .int .i64 11, .int .i64 25]
def cells32 (l : List Int) : Array Value := (l.map (Value.int .u32)).toArray
def be32 (b : List Int) (t : Nat) : Nat → Int
  | 0 => 0
  | j + 1 => bits .or .u32 (be32 b t j * 256 % 4294967296) (b.getD (4 * t + j) 0)
def first32 (b : List Int) (t : Nat) : List Int := (List.range t).map (fun i => be32 b i 4) ++ List.replicate (80 - t) 0
theorem be32_succ (b : List Int) (t j : Nat) : be32 b t (j + 1) = bits .or .u32 (be32 b t j * 256 % 4294967296) (b.getD (4 * t + j) 0) := rfl
theorem cells32_get (l : List Int) (i : Nat) (h : i < l.length) : (cells32 l)[i]? = some (.int .u32 (l.getD i 0)) := by simp [cells32, h]
theorem cells32_set (l : List Int) (i : Nat) (v : Int) : (cells32 l).setIfInBounds i (.int .u32 v) = cells32 (l.set i v) := by simp [cells32, List.map_set]
theorem cells32_zero (n : Nat) : cells32 (List.replicate n 0) = Array.replicate n (.int .u32 0) := by simp [cells32]
theorem first32_length (b : List Int) (t : Nat) (h : t ≤ 80) : (first32 b t).length = 80 := by simp [first32]; omega
theorem first32_at (b : List Int) (t : Nat) : (first32 b t).set t 0 = first32 b t := by
  unfold first32
  apply List.ext_getElem
  · simp
  intro i h1 h2
  rw [List.getElem_set]
  split
  · subst_vars; rw [List.getElem_append_right (by simp)]; simp
  rfl
theorem first32_next (b : List Int) (t : Nat) (h : t < 80) : (first32 b t).set t (be32 b t 4) = first32 b (t + 1) := by
  unfold first32
  apply List.ext_getElem
  · simp; omega
  intro i h1 h2
  rw [List.getElem_set]
  split
  · subst_vars; rw [List.getElem_append_left (by simp)]; simp
  by_cases hi : i < t
  · rw [List.getElem_append_left (by simpa using hi), List.getElem_append_left (by simp; omega)]; simp
  rw [List.getElem_append_right (by simpa using hi), List.getElem_append_right (by simp; omega)]; simp
def ext32 (W : List Int) (t : Nat) : List Int :=
  W.set t ((((W.getD (t - 16) 0 + small32 (W.getD (t - 15) 0) 7 18 3) % 4294967296 + W.getD (t - 7) 0) % 4294967296 + small32 (W.getD (t - 2) 0) 17 19 10) % 4294967296)
def expand32 (b : List Int) : Nat → List Int
  | 0 => first32 b 16
  | n + 1 => ext32 (expand32 b n) (16 + n)
theorem expand32_length (b : List Int) : ∀ n, (expand32 b n).length = 80
  | 0 => first32_length b 16 (by omega)
  | n + 1 => by unfold expand32 ext32; rw [List.length_set]; exact expand32_length b n
/-- What holds of the world in words' second loop. -/
def Ext32 (w : World) (W : List Int) (wr : World) : Prop :=
  wr.heap[w.heap.size]? = some (.cells narrowV 102 (0, 0)) ∧ wr.heap[w.heap.size + 1]? = some (.cells (Array.replicate 80 (.int .u32 0)) 130 (0, 0)) ∧
  wr.heap[w.heap.size + 1 + 1]? = some (.cells (cells32 W) 130 (0, 0)) ∧ Below w.heap.size w wr
theorem Ext32.drew {w wr : World} {W : List Int} (h : Ext32 w W wr) : Ext32 w W wr.drew := ⟨h.1, h.2.1, h.2.2.1, below_drew1 h.2.2.2⟩
theorem Ext32.below {w w1 w2 : World} {W : List Int} (hb : Below w1.heap.size w1 w2) (h : Ext32 w W w1) : Ext32 w W w2 := ⟨blk_below h.1 hb, blk_below h.2.1 hb, blk_below h.2.2.1 hb, below_step h.2.2.2 hb⟩
/-- .. the word at t being whatever it is. -/
def ExtS32 (w : World) (W : List Int) (t : Nat) (wr : World) : Prop := ∃ v, Ext32 w (W.set t v) wr
theorem ExtS32.mk {w wr : World} {W : List Int} {t : Nat} (hl : W.length = 80) (ht : t < 80) (h : Ext32 w W wr) : ExtS32 w W t wr := ⟨W[t]'(by omega), by rw [List.set_getElem_self]; exact h⟩
theorem ExtS32.below {w w1 w2 : World} {W : List Int} {t : Nat} (hb : Below w1.heap.size w1 w2) (h : ExtS32 w W t w1) : ExtS32 w W t w2 := h.imp fun _ h => h.below hb
theorem ExtS32.stored {w wr : World} {W : List Int} {t : Nat} (h : ExtS32 w W t wr) (v : Int) : Ext32 w (W.set t v) (wr.setCell ⟨w.heap.size + 1 + 1, t, none⟩ (.int .u32 v)) := by
  obtain ⟨u, h1, h2, h3, h4⟩ := h
  refine ⟨blk_far h1 (by simp; omega) _, blk_far h2 (by simp) _, blk_put h3 _ _ ?_, below_set h4 (by omega)⟩
  rw [cells32_set, List.set_set]
theorem ExtS32.fix {w wr : World} {W : List Int} (hl : W.length = 80) {t : Nat} (ht : t < 80) {v : Int} (h : ExtS32 w W t (wr.setCell ⟨w.heap.size + 1 + 1, t, none⟩ (.int .u32 v))) : Ext32 w (W.set t v) (wr.setCell ⟨w.heap.size + 1 + 1, t, none⟩ (.int .u32 v)) := by
  obtain ⟨u, h1, h2, h3, h4⟩ := h
  have e : (wr.setCell ⟨w.heap.size + 1 + 1, t, none⟩ (.int .u32 v)).cell? ⟨w.heap.size + 1 + 1, t, none⟩ = some (.int .u32 u) := by
    rw [blk_cell h3, cells32_get _ _ (by rw [List.length_set]; omega), List.getD_eq_getElem?_getD, List.getElem?_set_self (by omega)]; rfl
  have hold : ∃ x, wr.cell? ⟨w.heap.size + 1 + 1, t, none⟩ = some x := by
    cases hx : wr.cell? ⟨w.heap.size + 1 + 1, t, none⟩ with
    | some x => exact ⟨x, rfl⟩
    | none => exact absurd e (by rw [cell_none hx]; simp)
  obtain ⟨x, hx⟩ := hold
  rw [World.cell?_setCell_same wr _ _ hx] at e
  injection e with e
  injection e with _ e
  subst e
  exact ⟨h1, h2, h3, h4⟩
theorem ExtS32.cells {w wr : World} {W : List Int} (hl : W.length = 80) {t i16 i15 i7 i2 : Nat} (l16 : i16 < t) (l15 : i15 < t) (l7 : i7 < t) (l2 : i2 < t) (lt : t < 80) (h : ExtS32 w W t wr) :
    ExtS32 w W t wr ∧ wr.cell? ⟨w.heap.size, 1, none⟩ = some (.int .i64 32) ∧ wr.cell? ⟨w.heap.size, 3, none⟩ = some (.int .i64 7) ∧ wr.cell? ⟨w.heap.size, 4, none⟩ = some (.int .i64 18) ∧ wr.cell? ⟨w.heap.size, 5, none⟩ = some (.int .i64 3) ∧
    wr.cell? ⟨w.heap.size, 6, none⟩ = some (.int .i64 17) ∧ wr.cell? ⟨w.heap.size, 7, none⟩ = some (.int .i64 19) ∧ wr.cell? ⟨w.heap.size, 8, none⟩ = some (.int .i64 10) ∧
    wr.cell? ⟨w.heap.size + 1 + 1, i16, none⟩ = some (.int .u32 (W.getD i16 0)) ∧ wr.cell? ⟨w.heap.size + 1 + 1, i15, none⟩ = some (.int .u32 (W.getD i15 0)) ∧ wr.cell? ⟨w.heap.size + 1 + 1, i7, none⟩ = some (.int .u32 (W.getD i7 0)) ∧ wr.cell? ⟨w.heap.size + 1 + 1, i2, none⟩ = some (.int .u32 (W.getD i2 0)) ∧
    wr.frozen? ⟨w.heap.size + 1 + 1, t, none⟩ = false ∧ wr.cell? ⟨w.heap.size + 1 + 1, t, none⟩ = some (cellV wr ⟨w.heap.size + 1 + 1, t, none⟩) := by
  have hh := h
  obtain ⟨v, h1, h2, h3, h4⟩ := h
  have one : ∀ i, i < t → wr.cell? ⟨w.heap.size + 1 + 1, i, none⟩ = some (.int .u32 (W.getD i 0)) := by
    intro i hi
    rw [blk_cell h3, cells32_get _ _ (by rw [List.length_set]; omega)]
    simp only [List.getD_eq_getElem?_getD, List.getElem?_set]
    rw [if_neg (by omega)]
  exact ⟨hh, (blk_cell h1 1).trans rfl, (blk_cell h1 3).trans rfl, (blk_cell h1 4).trans rfl, (blk_cell h1 5).trans rfl, (blk_cell h1 6).trans rfl, (blk_cell h1 7).trans rfl, (blk_cell h1 8).trans rfl,
    one _ l16, one _ l15, one _ l7, one _ l2, blk_frozen h3 _, cellV_of ((blk_cell h3 _).trans (cells32_get _ _ (by rw [List.length_set]; omega)))⟩
set_option maxRecDepth 100000 in
set_option maxHeartbeats 2000000 in
theorem words32_c (a : Addr) (c : Nat) (b : List Int) (w : World) (hb : b.length = 64) (hc : 64 ≤ c) (hcm : c ≤ 9223372036854775807) (hab : a.block < w.heap.size) (hcell : ∀ i, i < 64 → w.cell? (a.add i) = some (.int .u8 (b.getD i 0))) (hbd : ∀ i, 0 ≤ b.getD i 0 ∧ b.getD i 0 < 256) :
    Calls Tryd.prog 108 #[.agg narrowV, .slice (some a) 64 c] w fun e w' => e = .returned (.agg (cells32 (expand32 b 48))) ∧ Below w.heap.size w w' := by
  unfold narrowV
  obtain ⟨hz, hi80⟩ := zero_of_info (P := Tryd.prog) (t := 130) (v := .agg (Array.replicate 80 (.int .u32 0))) (n := 80) (by kernel_rfl)
  go_enter Tryd.func108, Tryd.ntmps108
  go_wp2
  have HC0 := Aside0.mk hcell
  have HB0 := Aside0.mk hbd
  have HL := Aside0.mk hb
  have HI := Lib.hid hi80
  clear hcell hbd hb hz hi80
  have Q0 : Aside0 (∃ W : World, W = ((w.alloc (.cells narrowV 102)).alloc (.cells (Array.replicate 80 (.int .u32 0)) 130)).alloc (.cells (Array.replicate 80 (.int .u32 0)) 130)) := ⟨_, rfl⟩
  go_loopw [10] (fun t wr => ∃ k : Nat, k ≤ 16 ∧ t = .int .i64 k ∧ Aside0 (wr.heap[w.heap.size]? = some (.cells narrowV 102 (0, 0))) ∧ Aside0 (wr.heap[w.heap.size + 1]? = some (.cells (Array.replicate 80 (.int .u32 0)) 130 (0, 0))) ∧ Aside0 (wr.heap[w.heap.size + 1 + 1]? = some (.cells (cells32 (first32 b k)) 130 (0, 0))) ∧ Aside0 (Below w.heap.size w wr)) (fun t _ => 16 - (intOf t).toNat)
  case atStart =>
    refine ⟨0, by omega, rfl, ⟨?_⟩, ⟨?_⟩, ⟨?_⟩, ⟨?_⟩⟩
    · exact blk_alloc (blk_alloc (new1 _ _) _) _
    · exact blk_alloc (new2 _ _ _) _
    · show _ = some (Obj.cells (cells32 (List.replicate 80 0)) 130 (0, 0))
      rw [cells32_zero]
      exact new3 _ _ _ _
    exact below_alloc (below_alloc (below_alloc (Below.refl _ _) _) _) _
  case round =>
    obtain ⟨k, hk, rfl, B0, B1, B2, HB⟩ := hrel
    by_cases hlt : k < 16
    · have c0 : wr.cell? ⟨w.heap.size, 0, none⟩ = some (.int .i64 4) := (blk_cell B0.out 0).trans rfl
      go_wp2
      rw [show (k + 1) * 4 - k * 4 = 4 by omega]
      clear c0
      obtain ⟨wo, rfl⟩ : ∃ wo : World, wo = wr := ⟨_, rfl⟩
      go_loopw [25] (fun t wr => ∃ j : Nat, j ≤ 4 ∧ t = .int .i64 j ∧ Aside0 (wr.heap[w.heap.size]? = some (.cells narrowV 102 (0, 0))) ∧ Aside0 (wr.heap[w.heap.size + 1]? = some (.cells (Array.replicate 80 (.int .u32 0)) 130 (0, 0))) ∧ Aside0 (wr.heap[w.heap.size + 1 + 1]? = some (.cells (cells32 ((first32 b k).set k (be32 b k j))) 130 (0, 0))) ∧ Aside0 (Below w.heap.size w wr)) (fun t _ => 4 - (intOf t).toNat)
      case atStart => exact ⟨0, by omega, rfl, B0, B1, ⟨by rw [show be32 b k 0 = 0 from rfl, first32_at]; exact B2.out⟩, HB⟩
      case round =>
        clear B0 B1 B2 HB
        obtain ⟨j, hj, rfl, B0, B1, B2, HB⟩ := hrel
        by_cases hjl : j < 4
        rotate_left
        · obtain rfl : j = 4 := by omega
          go_wp2
          go_roundw
          case rel =>
            refine ⟨k + 1, by omega, by go_num, B0, B1, ⟨?_⟩, HB⟩
            rw [← first32_next b k (by omega)]
            exact B2.out
          case measure => simp [intOf]; omega
        have c1 : wr.cell? ((a.add (k * 4)).add j) = some (.int .u8 (b.getD (4 * k + j) 0)) := by
          have e : (a.add (k * 4)).add j = a.add (4 * k + j) := by rw [add_add']; congr 1; omega
          rw [e]; exact (HB.out.cell (p := a.add (4 * k + j)) (by rw [add_block]; exact hab)).trans (HC0.out _ (by omega))
        have hl2 := first32_length b k (by omega)
        have c2 : wr.cell? ⟨w.heap.size + 1 + 1, k, none⟩ = some (.int .u32 (be32 b k j)) := by
          rw [blk_cell B2.out, cells32_get _ _ (by rw [List.length_set]; omega), List.getD_eq_getElem?_getD, List.getElem?_set_self (by omega)]; rfl
        have f2 : wr.frozen? ⟨w.heap.size + 1 + 1, k, none⟩ = false := blk_frozen B2.out _
        clear hl2
        obtain ⟨bv, hbv⟩ : ∃ bv, b.getD (4 * k + j) 0 = bv := ⟨_, rfl⟩
        have b1 := (HB0.out (4 * k + j)).1
        have b2 := (HB0.out (4 * k + j)).2
        rw [hbv] at c1 b1 b2
        have HV := Lib.hid hbv
        clear hbv
        go_wp2
        go_roundw
        case rel =>
          refine ⟨j + 1, by omega, by go_num, ⟨blk_far B0.out (by simp; omega) _⟩, ⟨blk_far B1.out (by simp) _⟩, ⟨?_⟩, ⟨below_set HB.out (by omega)⟩⟩
          refine blk_put B2.out _ _ ?_
          rw [cells32_set, List.set_set]
          rw [be32_succ, HV.out]
        case measure => simp [intOf]; omega
    obtain rfl : k = 16 := by omega
    go_wp2
    clear Q0
    have P0 : Aside0 (Ext32 w (expand32 b 0) wr) := ⟨⟨B0.out, B1.out, B2.out, HB.out⟩⟩
    clear B0 B1 B2 HB hk hlt
    obtain ⟨wo, rfl⟩ : ∃ wo : World, wo = wr := ⟨_, rfl⟩
    go_loopg [9] 48 (fun m t wr => ∃ n : Nat, n + m = 48 ∧ t = .int .i64 ((16 + n : Nat) : Int) ∧ Aside0 (Ext32 w (expand32 b n) wr))
    case atStart => exact ⟨0, by omega, rfl, P0⟩
    case round =>
      clear P0
      obtain ⟨n, hn', rfl, P⟩ := hrel
      have hn : n ≤ 48 := by omega
      have HN := Lib.hid hn'
      clear hn'
      have e2 : wr.cell? ⟨w.heap.size, 2, none⟩ = some (.int .i64 64) := (blk_cell P.out.1 2).trans rfl
      have hlen := Aside0.mk (expand32_length b n)
      obtain ⟨W, hW⟩ : ∃ W, W = expand32 b n := ⟨_, rfl⟩
      rw [← hW] at P hlen
      have HW := Lib.hid hW
      clear hW
      obtain ⟨t, ht⟩ : ∃ t, t = 16 + n := ⟨_, rfl⟩
      rw [← ht]
      have h1 : 16 ≤ t := by omega
      have h2 : t ≤ 64 := by omega
      have HT := Lib.hid ht
      clear ht
      by_cases hlt : t < 64
      rotate_left
      · have hn48 : n = 48 := by have := HT.out; omega
        have hsz : (cells32 W).size = 80 := by have := hlen.out; simpa [cells32] using this
        have HS := Lib.hid hsz
        clear hsz
        go_wp2_with (first
          | (refine wpList_load_row rfl 130 (.tmp 5) rfl (w.heap.size + 1 + 1) (by rfl) 130 (cells32 W) (0, 0) _ P.out.2.2.1 Tryd.underlying130 rfl (by rw [HS.out]; exact HI.out) ?_)
          | (refine wpList_store_row rfl 130 (.tmp 4) (.tmp 77) rfl (w.heap.size + 1) (cells32 W) (by rfl) (by rfl) 130 (Array.replicate 80 (.int .u32 0)) P.out.2.1 (by rw [HS.out]; exact HI.out) (by rw [HS.out]; simp) (by simp [cells32, Value.oneCell']) ?_))
        refine bodyPost_ret (v := .agg (cells32 W)) (results_cell_row (by rfl) _ _ (w.heap.size + 1) 130 (cells32 W) (0, 0) _ (by rfl) (setRow_heap _ _ _ _ _ _ P.out.2.1) Tryd.underlying130 rfl (by rw [HS.out]; exact HI.out)) rfl ⟨?_, ?_⟩
        · rw [HW.out, hn48]
        exact below_setRow P.out.2.2.2 (by omega) _
      go_wp2
      clear e2
      have hlt2 : t < 80 := by omega
      have ht0 : (0 : Int) ≤ (t : Int) := by omega
      have ht1 : (t : Int) < 80 := by omega
      obtain ⟨i16, g16⟩ : ∃ i : Nat, i = t - 16 := ⟨_, rfl⟩
      have l16 : i16 < t := by omega
      have m16 : (0 : Int) ≤ (i16 : Int) := by omega
      have n16 : (i16 : Int) < 80 := by omega
      have s16 : IntKind.i64.wrap ((t : Int) - 16) = (i16 : Int) := by rw [IntWalk.i64_in _ (by omega)]; omega
      obtain ⟨i15, g15⟩ : ∃ i : Nat, i = t - 15 := ⟨_, rfl⟩
      have l15 : i15 < t := by omega
      have m15 : (0 : Int) ≤ (i15 : Int) := by omega
      have n15 : (i15 : Int) < 80 := by omega
      have s15 : IntKind.i64.wrap ((t : Int) - 15) = (i15 : Int) := by rw [IntWalk.i64_in _ (by omega)]; omega
      obtain ⟨i7, g7⟩ : ∃ i : Nat, i = t - 7 := ⟨_, rfl⟩
      have l7 : i7 < t := by omega
      have m7 : (0 : Int) ≤ (i7 : Int) := by omega
      have n7 : (i7 : Int) < 80 := by omega
      have s7 : IntKind.i64.wrap ((t : Int) - 7) = (i7 : Int) := by rw [IntWalk.i64_in _ (by omega)]; omega
      obtain ⟨i2, g2⟩ : ∃ i : Nat, i = t - 2 := ⟨_, rfl⟩
      have l2 : i2 < t := by omega
      have m2 : (0 : Int) ≤ (i2 : Int) := by omega
      have n2 : (i2 : Int) < 80 := by omega
      have s2 : IntKind.i64.wrap ((t : Int) - 2) = (i2 : Int) := by rw [IntWalk.i64_in _ (by omega)]; omega
      have G16 := Lib.hid g16
      clear g16
      have G15 := Lib.hid g15
      clear g15
      have G7 := Lib.hid g7
      clear g7
      have G2 := Lib.hid g2
      clear g2
      have PS : Aside0 (ExtS32 w W t wr.drew) := ⟨ExtS32.mk hlen.out hlt2 P.out.drew⟩
      clear P
      go_region_held3 (fun w' => ExtS32 w W t w' ∧ w'.cell? ⟨w.heap.size, 1, none⟩ = some (.int .i64 32) ∧ w'.cell? ⟨w.heap.size, 3, none⟩ = some (.int .i64 7) ∧ w'.cell? ⟨w.heap.size, 4, none⟩ = some (.int .i64 18) ∧ w'.cell? ⟨w.heap.size, 5, none⟩ = some (.int .i64 3) ∧
          w'.cell? ⟨w.heap.size, 6, none⟩ = some (.int .i64 17) ∧ w'.cell? ⟨w.heap.size, 7, none⟩ = some (.int .i64 19) ∧ w'.cell? ⟨w.heap.size, 8, none⟩ = some (.int .i64 10) ∧
          w'.cell? ⟨w.heap.size + 1 + 1, i16, none⟩ = some (.int .u32 (W.getD i16 0)) ∧ w'.cell? ⟨w.heap.size + 1 + 1, i15, none⟩ = some (.int .u32 (W.getD i15 0)) ∧ w'.cell? ⟨w.heap.size + 1 + 1, i7, none⟩ = some (.int .u32 (W.getD i7 0)) ∧ w'.cell? ⟨w.heap.size + 1 + 1, i2, none⟩ = some (.int .u32 (W.getD i2 0)) ∧
          w'.frozen? ⟨w.heap.size + 1 + 1, t, none⟩ = false ∧ w'.cell? ⟨w.heap.size + 1 + 1, t, none⟩ = some (cellV w' ⟨w.heap.size + 1 + 1, t, none⟩))
        (first | exact ExtS32.cells hlen.out l16 l15 l7 l2 hlt2 (PS.out) | exact ExtS32.cells hlen.out l16 l15 l7 l2 hlt2 (ExtS32.below hb PS.out) | (go_split_ands; exact ExtS32.cells hlen.out l16 l15 l7 l2 hlt2 (ExtS32.below hb (by assumption))) | (go_split_ands; exact ExtS32.cells hlen.out l16 l15 l7 l2 hlt2 (⟨_, ExtS32.stored (by assumption) _⟩)))
        (first
          | (go_at_call_of 113 (Value.agg #[.int .i64 7, .int .i64 18, .int .i64 3]); refine (small32_c _ 7 18 3 _ (by omega) (by omega) (by omega) (by omega) (by omega) (by omega)).mono ?_; rintro e w2 ⟨rfl, hb⟩)
          | (go_at_call_of 113 (Value.agg #[.int .i64 17, .int .i64 19, .int .i64 10]); refine (small32_c _ 17 19 10 _ (by omega) (by omega) (by omega) (by omega) (by omega) (by omega)).mono ?_; rintro e w2 ⟨rfl, hb⟩))
      go_split_ands
      have PX : Aside0 (ExtS32 w W t _) := ⟨by assumption⟩
      go_wp2
      go_roundg (gk - 1)
      case measure => have := HN.out; have := HT.out; omega
      case rel =>
        refine ⟨n + 1, by have := HN.out; have := HT.out; omega, ?_, ⟨?_⟩⟩
        · rw [HT.out]; go_num
        have he : expand32 b (n + 1) = W.set t ((((W.getD i16 0 + small32 (W.getD i15 0) 7 18 3) % 4294967296 + W.getD i7 0) % 4294967296 + small32 (W.getD i2 0) 17 19 10) % 4294967296) := by
          unfold expand32 ext32
          rw [← HW.out, ← HT.out, G16.out, G15.out, G7.out, G2.out]
        rw [he]
        exact ExtS32.fix hlen.out hlt2 PX.out
/-- The shape of the wide digest, cell by cell. -/
def wideV : Array Value := #[.int .i64 8, .int .i64 64, .int .i64 80, .int .i64 1, .int .i64 8, .int .i64 7, .int .i64 19, .int .i64 61, .int .i64 6, .int .i64 28, .int .i64 34, .int .i64 39, .int .i64 14, .int .i64 18, .int .i64 41]
def cells64 (l : List Int) : Array Value := (l.map (Value.int .u64)).toArray
theorem cells64_get (l : List Int) (i : Nat) (h : i < l.length) : (cells64 l)[i]? = some (.int .u64 (l.getD i 0)) := by simp [cells64, h]
theorem cells64_set (l : List Int) (i : Nat) (v : Int) : (cells64 l).setIfInBounds i (.int .u64 v) = cells64 (l.set i v) := by simp [cells64, List.map_set]
/-- What holds of the world in mix' loops. -/
def Mix32 (w : World) (gw gv : Nat) (W hs v : List Int) (wr : World) : Prop :=
  wr.heap[w.heap.size]? = some (.cells narrowV 102 (0, 0)) ∧ wr.heap[w.heap.size + 1]? = some (.cells (cells32 hs) 106 (0, 0)) ∧ wr.heap[w.heap.size + 1 + 1]? = some (.cells (cells32 (List.replicate 8 0)) 106 (0, 0)) ∧
  wr.heap[gw]? = some (.cells (cells32 W) 130 (0, 0)) ∧ wr.heap[gv]? = some (.cells (cells32 v) 106 (0, 0)) ∧ Below w.heap.size w wr
theorem Mix32.drew {w wr : World} {gw gv : Nat} {W hs v : List Int} (h : Mix32 w gw gv W hs v wr) : Mix32 w gw gv W hs v wr.drew := ⟨h.1, h.2.1, h.2.2.1, h.2.2.2.1, h.2.2.2.2.1, below_drew1 h.2.2.2.2.2⟩
theorem Mix32.drewN {w wr : World} {gw gv : Nat} {W hs v : List Int} (h : Mix32 w gw gv W hs v wr) (n : Nat) : Mix32 w gw gv W hs v (wr.drewN n) := ⟨h.1, h.2.1, h.2.2.1, h.2.2.2.1, h.2.2.2.2.1, pw_below_drewN h.2.2.2.2.2 n⟩
theorem Mix32.below {w w1 w2 : World} {gw gv : Nat} {W hs v : List Int} (hb : Below w1.heap.size w1 w2) (h : Mix32 w gw gv W hs v w1) : Mix32 w gw gv W hs v w2 :=
  ⟨blk_below h.1 hb, blk_below h.2.1 hb, blk_below h.2.2.1 hb, blk_below h.2.2.2.1 hb, blk_below h.2.2.2.2.1 hb, below_step h.2.2.2.2.2 hb⟩
theorem Mix32.stored {w wr : World} {gw gv : Nat} {W hs v : List Int} (h1 : w.heap.size + 3 ≤ gw) (h2 : gw < gv) (h : Mix32 w gw gv W hs v wr) (v' : List Int) : Mix32 w gw gv W hs v' (wr.setRow gv (cells32 v')) :=
  ⟨(setRow_other _ _ _ _ (by omega)).trans h.1, (setRow_other _ _ _ _ (by omega)).trans h.2.1, (setRow_other _ _ _ _ (by omega)).trans h.2.2.1, (setRow_other _ _ _ _ (by omega)).trans h.2.2.2.1, setRow_heap _ _ _ _ _ _ h.2.2.2.2.1, below_setRow h.2.2.2.2.2 (by omega) _⟩
/-- The eight words, the first n of a round's end put to them. -/
def add32 (hs v : List Int) : Nat → List Int
  | 0 => hs
  | n + 1 => (add32 hs v n).set n (((add32 hs v n).getD n 0 + v.getD n 0) % 4294967296)
theorem add32_length (hs v : List Int) : ∀ n, (add32 hs v n).length = hs.length
  | 0 => rfl
  | n + 1 => by unfold add32; rw [List.length_set]; exact add32_length hs v n
theorem Mix32.putH {w wr : World} {gw gv : Nat} {W hs v : List Int} (h1 : w.heap.size + 3 ≤ gw) (h2 : gw < gv) (h : Mix32 w gw gv W hs v wr) (n : Nat) (x : Int) : Mix32 w gw gv W (hs.set n x) v (wr.setCell ⟨w.heap.size + 1, n, none⟩ (.int .u32 x)) :=
  ⟨blk_far h.1 (by simp) _, blk_put h.2.1 _ _ (cells32_set _ _ _), blk_far h.2.2.1 (by simp) _, blk_far h.2.2.2.1 (by simp; omega) _, blk_far h.2.2.2.2.1 (by simp; omega) _, below_set h.2.2.2.2.2 (by omega)⟩
/-- The two sums of a round. -/
def sumX32 (v4 v5 v6 v7 k x : Int) : Int := IntKind.u32.wrap (IntKind.u32.wrap (IntKind.u32.wrap (IntKind.u32.wrap (v7 + big32 v4 6 11 25) + bits .xor .u32 (bits .and .u32 v4 v5) (bits .and .u32 (bits .xor .u32 IntKind.u32.max v4) v6)) + IntKind.u32.wrap (k / 4294967296)) + x)
def sumY32 (v0 v1 v2 : Int) : Int := big32 v0 2 13 22 + bits .xor .u32 (bits .xor .u32 (bits .and .u32 v0 v1) (bits .and .u32 v0 v2)) (bits .and .u32 v1 v2)
/-- The eight words behind a round. -/
def step32 (v : List Int) (k x : Int) : List Int :=
  match v with
  | [v0, v1, v2, v3, v4, v5, v6, v7] => [(sumX32 v4 v5 v6 v7 k x + sumY32 v0 v1 v2) % 4294967296, v0, v1, v2, (v3 + sumX32 v4 v5 v6 v7 k x) % 4294967296, v4, v5, v6]
  | _ => v
def rounds32 (K W hs : List Int) : Nat → List Int
  | 0 => hs
  | n + 1 => step32 (rounds32 K W hs n) (K.getD n 0) (W.getD n 0)
theorem Mix32.cells {w wr : World} {gw gv : Nat} {W hs K : List Int} {v0 v1 v2 v3 v4 v5 v6 v7 : Int} {n : Nat} (hl : W.length = 80) (hn : n < 80) (hK : ∀ i, i < 80 → w.cell? ⟨1, i, none⟩ = some (.int .u64 (K.getD i 0))) (h : Mix32 w gw gv W hs [v0, v1, v2, v3, v4, v5, v6, v7] wr) :
    Mix32 w gw gv W hs [v0, v1, v2, v3, v4, v5, v6, v7] wr ∧ wr.cell? ⟨w.heap.size, 1, none⟩ = some (.int .i64 32) ∧ wr.cell? ⟨w.heap.size, 9, none⟩ = some (.int .i64 2) ∧ wr.cell? ⟨w.heap.size, 10, none⟩ = some (.int .i64 13) ∧ wr.cell? ⟨w.heap.size, 11, none⟩ = some (.int .i64 22) ∧ wr.cell? ⟨w.heap.size, 12, none⟩ = some (.int .i64 6) ∧ wr.cell? ⟨w.heap.size, 13, none⟩ = some (.int .i64 11) ∧ wr.cell? ⟨w.heap.size, 14, none⟩ = some (.int .i64 25) ∧ wr.cell? ⟨gv, 0, none⟩ = some (.int .u32 v0) ∧ wr.cell? ⟨gv, 1, none⟩ = some (.int .u32 v1) ∧ wr.cell? ⟨gv, 2, none⟩ = some (.int .u32 v2) ∧ wr.cell? ⟨gv, 3, none⟩ = some (.int .u32 v3) ∧ wr.cell? ⟨gv, 4, none⟩ = some (.int .u32 v4) ∧ wr.cell? ⟨gv, 5, none⟩ = some (.int .u32 v5) ∧ wr.cell? ⟨gv, 6, none⟩ = some (.int .u32 v6) ∧ wr.cell? ⟨gv, 7, none⟩ = some (.int .u32 v7) ∧ wr.cell? ⟨gw, n, none⟩ = some (.int .u32 (W.getD n 0)) ∧ wr.cell? ⟨1, n, none⟩ = some (.int .u64 (K.getD n 0)) :=
  ⟨h, (blk_cell h.1 1).trans rfl, (blk_cell h.1 9).trans rfl, (blk_cell h.1 10).trans rfl, (blk_cell h.1 11).trans rfl, (blk_cell h.1 12).trans rfl, (blk_cell h.1 13).trans rfl, (blk_cell h.1 14).trans rfl, (blk_cell h.2.2.2.2.1 0).trans rfl, (blk_cell h.2.2.2.2.1 1).trans rfl, (blk_cell h.2.2.2.2.1 2).trans rfl, (blk_cell h.2.2.2.2.1 3).trans rfl, (blk_cell h.2.2.2.2.1 4).trans rfl, (blk_cell h.2.2.2.2.1 5).trans rfl, (blk_cell h.2.2.2.2.1 6).trans rfl, (blk_cell h.2.2.2.2.1 7).trans rfl, (blk_cell h.2.2.2.1 n).trans (cells32_get _ _ (by omega)), (h.2.2.2.2.2.cell (p := ⟨1, n, none⟩) (World.block_lt_of_cell? w _ (hK n hn))).trans (hK n hn)⟩
/-- The eight words behind a block. -/
def mix32 (K hs b : List Int) : List Int := add32 hs (rounds32 K (expand32 b 48) hs 64) 8
theorem eight_of {l : List Int} (h : l.length = 8) : ∃ a b c d e f g i, l = [a, b, c, d, e, f, g, i] := by
  match l, h with
  | [a, b, c, d, e, f, g, i], _ => exact ⟨a, b, c, d, e, f, g, i, rfl⟩
set_option maxRecDepth 100000 in
set_option maxHeartbeats 2000000 in
theorem mix32_c (h0 h1 h2 h3 h4 h5 h6 h7 : Int) (a : Addr) (c : Nat) (b : List Int) (w : World) (hb : b.length = 64) (hc : 64 ≤ c) (hcm : c ≤ 9223372036854775807) (hab : a.block < w.heap.size) (hcell : ∀ i, i < 64 → w.cell? (a.add i) = some (.int .u8 (b.getD i 0))) (hbd : ∀ i, 0 ≤ b.getD i 0 ∧ b.getD i 0 < 256)
    (K : List Int) (hK : ∀ i, i < 80 → w.cell? ⟨1, i, none⟩ = some (.int .u64 (K.getD i 0))) :
    Calls Tryd.prog 104 #[.agg narrowV, .agg #[.int .u32 h0, .int .u32 h1, .int .u32 h2, .int .u32 h3, .int .u32 h4, .int .u32 h5, .int .u32 h6, .int .u32 h7], .slice (some a) 64 c] w fun e w' => e = .returned (.agg (cells32 (mix32 K [h0, h1, h2, h3, h4, h5, h6, h7] b))) ∧ Below w.heap.size w w' := by
  have hnV : narrowV = #[.int .i64 4, .int .i64 32, .int .i64 64, .int .i64 7, .int .i64 18, .int .i64 3, .int .i64 17, .int .i64 19, .int .i64 10, .int .i64 2, .int .i64 13, .int .i64 22, .int .i64 6, .int .i64 11, .int .i64 25] := rfl
  have HW := fun w' (hB : Below w.heap.size w w') (h2 : w.heap.size ≤ w'.heap.size) => words32_c a c b w' hb hc hcm (by omega) (fun i hi => by rw [hB.cell (by rw [add_block]; exact hab)]; exact hcell i hi) hbd
  have HW' := Lib.hid HW
  have HK := Lib.hid hK
  clear HW hcell hbd hK
  rw [hnV]
  clear hnV
  obtain ⟨hz, hi80⟩ := zero_of_info (P := Tryd.prog) (t := 130) (v := .agg (Array.replicate 80 (.int .u32 0))) (n := 80) (by kernel_rfl)
  go_enter Tryd.func104, Tryd.ntmps104
  go_wp2_with fail
  refine (HW'.out _ (below_alloc (below_alloc (below_alloc (Below.refl _ _) _) _) _) (by simp; omega)).mono ?_
  rintro e w1 ⟨rfl, hb1⟩
  have B0 : Aside0 (w1.heap[w.heap.size]? = some (.cells narrowV 102 (0, 0))) := ⟨blk_below (blk_alloc (blk_alloc (new1 _ _) _) _) hb1⟩
  have B1 : Aside0 (w1.heap[w.heap.size + 1]? = some (.cells (cells32 [h0, h1, h2, h3, h4, h5, h6, h7]) 106 (0, 0))) := ⟨blk_below (blk_alloc (new2 _ _ _) _) hb1⟩
  have B2 : Aside0 (w1.heap[w.heap.size + 1 + 1]? = some (.cells (cells32 (List.replicate 8 0)) 106 (0, 0))) := ⟨blk_below (new3 _ _ _ _) hb1⟩
  have HB : Aside0 (Below w.heap.size w w1) := ⟨below_step (below_alloc (below_alloc (below_alloc (Below.refl _ _) _) _) _) hb1⟩
  have hs1 : w.heap.size + 3 ≤ w1.heap.size := by have := hb1.size; simp at this; omega
  clear hb1
  obtain ⟨W, hW⟩ : ∃ W, W = expand32 b 48 := ⟨_, rfl⟩
  rw [← hW]
  have HWl : Aside0 (W.length = 80) := ⟨by rw [hW]; exact expand32_length b 48⟩
  have HWe := Lib.hid hW
  clear hW
  have HI := Lib.hid hi80
  clear hi80
  have hcs : (cells32 W).size = 80 := by have := HWl.out; simpa [cells32] using this
  have HCS := Lib.hid hcs
  clear hcs
  go_upto_region 2 with (refine wpList_store_row rfl 130 (.tmp 7) (.tmp 17) rfl w1.heap.size (cells32 W) (by rfl) (by rfl) 130 (Array.replicate 80 (.int .u32 0)) (new1 _ _) (by rw [HCS.out]; exact HI.out) (by rw [HCS.out]; simp) (by simp [cells32, Value.oneCell']) ?_; rw [World.setRow_alloc_new])
  have A0 := Aside0.mk (blk_alloc B0.out (.cells (cells32 W) 130))
  have A1 := Aside0.mk (blk_alloc B1.out (.cells (cells32 W) 130))
  have A2 := Aside0.mk (blk_alloc B2.out (.cells (cells32 W) 130))
  have A3 := Aside0.mk (new1 w1 (.cells (cells32 W) 130))
  have HB' := Aside0.mk (below_alloc HB.out (.cells (cells32 W) 130))
  clear B0 B1 B2 HB
  generalize w1.heap.size = gw at A3 hs1 ⊢
  generalize w1.alloc (.cells (cells32 W) 130) = w2 at A0 A1 A2 A3 HB' ⊢
  have h2s : gw < w2.heap.size := blk_lt A3.out
  go_upto_region 3 with (first
    | (refine wpList_load_row rfl 106 (.tmp 4) rfl (w.heap.size + 1) (by rfl) 106 (cells32 [h0, h1, h2, h3, h4, h5, h6, h7]) (0, 0) _ A1.out Tryd.underlying106 rfl (by kernel_rfl) ?_)
    | (refine wpList_store_row rfl 106 (.tmp 8) (.tmp 18) rfl w2.heap.size (cells32 [h0, h1, h2, h3, h4, h5, h6, h7]) (by rfl) (by rfl) 106 (cells32 (List.replicate 8 0)) (new1 _ _) (by kernel_rfl) (by simp [cells32]) (by simp [cells32, Value.oneCell']) ?_; rw [World.setRow_alloc_new]))
  have P0 : Aside0 (Mix32 w gw w2.heap.size W [h0, h1, h2, h3, h4, h5, h6, h7] [h0, h1, h2, h3, h4, h5, h6, h7] (w2.alloc (.cells (cells32 [h0, h1, h2, h3, h4, h5, h6, h7]) 106))) :=
    ⟨⟨blk_alloc A0.out _, blk_alloc A1.out _, blk_alloc A2.out _, blk_alloc A3.out _, new1 _ _, below_alloc HB'.out _⟩⟩
  clear A0 A1 A2 A3 HB'
  generalize w2.heap.size = gv at P0 h2s ⊢
  generalize w2.alloc (.cells (cells32 [h0, h1, h2, h3, h4, h5, h6, h7]) 106) = w3 at P0 ⊢
  have hhs : ∃ hs, hs = [h0, h1, h2, h3, h4, h5, h6, h7] := ⟨_, rfl⟩
  obtain ⟨hs, hhs⟩ := hhs
  rw [← hhs] at P0 ⊢
  have HH := Lib.hid hhs
  clear hhs
  have e2 : w3.cell? ⟨w.heap.size, 2, none⟩ = some (.int .i64 64) := (blk_cell P0.out.1 2).trans rfl
  go_wp2
  clear e2
  go_loopg [21] 64 (fun m t wr => ∃ n : Nat, n + m = 64 ∧ t = .int .i64 (n : Int) ∧ ∃ v, v.length = 8 ∧ Aside0 (v = rounds32 K W hs n) ∧ Aside0 (Mix32 w gw gv W hs v wr))
  case atStart => exact ⟨0, by omega, rfl, _, by rw [HH.out]; rfl, ⟨rfl⟩, P0⟩
  case round =>
    clear P0
    obtain ⟨n, hn', rfl, v, hv8, HV, P⟩ := hrel
    obtain ⟨v0, v1, v2, v3, v4, v5, v6, v7, rfl⟩ := eight_of hv8
    have hn : n ≤ 64 := by omega
    have HN := Lib.hid hn'
    clear hn' hv8
    by_cases hlt : n < 64
    · have c0 : wr.cell? ⟨gv, 0, none⟩ = some (.int .u32 v0) := (blk_cell P.out.2.2.2.2.1 0).trans rfl
      have c4 : wr.cell? ⟨gv, 4, none⟩ = some (.int .u32 v4) := (blk_cell P.out.2.2.2.2.1 4).trans rfl
      have hn80 : n < 80 := by omega
      have hn0 : (0 : Int) ≤ (n : Int) := by omega
      have hn1 : (n : Int) < 80 := by omega
      go_wp2
      go_quiet (fail)
      go_wp2
      clear c0 c4
      have hsh : IntKind.i64.wrap ((64 : Int) - 32) = 32 := by decide
      have hsh2 : IntKind.i64.wrap (32 : Int) = 32 := by decide
      go_region_held3 (fun w' => Mix32 w gw gv W hs [v0, v1, v2, v3, v4, v5, v6, v7] w' ∧ w'.cell? ⟨w.heap.size, 1, none⟩ = some (.int .i64 32) ∧ w'.cell? ⟨w.heap.size, 9, none⟩ = some (.int .i64 2) ∧ w'.cell? ⟨w.heap.size, 10, none⟩ = some (.int .i64 13) ∧ w'.cell? ⟨w.heap.size, 11, none⟩ = some (.int .i64 22) ∧ w'.cell? ⟨w.heap.size, 12, none⟩ = some (.int .i64 6) ∧ w'.cell? ⟨w.heap.size, 13, none⟩ = some (.int .i64 11) ∧ w'.cell? ⟨w.heap.size, 14, none⟩ = some (.int .i64 25) ∧ w'.cell? ⟨gv, 0, none⟩ = some (.int .u32 v0) ∧ w'.cell? ⟨gv, 1, none⟩ = some (.int .u32 v1) ∧ w'.cell? ⟨gv, 2, none⟩ = some (.int .u32 v2) ∧ w'.cell? ⟨gv, 3, none⟩ = some (.int .u32 v3) ∧ w'.cell? ⟨gv, 4, none⟩ = some (.int .u32 v4) ∧ w'.cell? ⟨gv, 5, none⟩ = some (.int .u32 v5) ∧ w'.cell? ⟨gv, 6, none⟩ = some (.int .u32 v6) ∧ w'.cell? ⟨gv, 7, none⟩ = some (.int .u32 v7) ∧ w'.cell? ⟨gw, n, none⟩ = some (.int .u32 (W.getD n 0)) ∧ w'.cell? ⟨1, n, none⟩ = some (.int .u64 (K.getD n 0)))
        (first | exact Mix32.cells HWl.out hn80 HK.out (P.out.drew) | exact Mix32.cells HWl.out hn80 HK.out (P.out) | exact Mix32.cells HWl.out hn80 HK.out ((P.out.drewN _).drew) | exact Mix32.cells HWl.out hn80 HK.out (Mix32.below hb (P.out.drewN _).drew) | (go_split_ands; exact Mix32.cells HWl.out hn80 HK.out (Mix32.below hb (by assumption))))
        (first
          | (go_at_call_of 109 (Value.agg #[.int .i64 6, .int .i64 11, .int .i64 25]); refine (big32_c _ 6 11 25 _ (by omega) (by omega) (by omega) (by omega) (by omega) (by omega)).mono ?_; rintro e w2 ⟨rfl, hb⟩))
      go_split_ands
      have P2 : Aside0 (Mix32 w gw gv W hs [v0, v1, v2, v3, v4, v5, v6, v7] w2) := ⟨by assumption⟩
      go_wp2
      simp only [← List.getD_eq_getElem?_getD]
      generalize hX : IntKind.u32.wrap (IntKind.u32.wrap (IntKind.u32.wrap (IntKind.u32.wrap (v7 + big32 v4 6 11 25) + bits .xor .u32 (bits .and .u32 v4 v5) (bits .and .u32 (bits .xor .u32 IntKind.u32.max v4) v6)) + IntKind.u32.wrap ((K.getD n 0) / 4294967296)) + W.getD n 0) = X
      have HX : Aside0 (X = sumX32 v4 v5 v6 v7 (K.getD n 0) (W.getD n 0)) := ⟨hX.symm⟩
      clear hX
      go_region_held3 (fun w' => Mix32 w gw gv W hs [v0, v1, v2, v3, v4, v5, v6, v7] w' ∧ w'.cell? ⟨w.heap.size, 1, none⟩ = some (.int .i64 32) ∧ w'.cell? ⟨w.heap.size, 9, none⟩ = some (.int .i64 2) ∧ w'.cell? ⟨w.heap.size, 10, none⟩ = some (.int .i64 13) ∧ w'.cell? ⟨w.heap.size, 11, none⟩ = some (.int .i64 22) ∧ w'.cell? ⟨w.heap.size, 12, none⟩ = some (.int .i64 6) ∧ w'.cell? ⟨w.heap.size, 13, none⟩ = some (.int .i64 11) ∧ w'.cell? ⟨w.heap.size, 14, none⟩ = some (.int .i64 25) ∧ w'.cell? ⟨gv, 0, none⟩ = some (.int .u32 v0) ∧ w'.cell? ⟨gv, 1, none⟩ = some (.int .u32 v1) ∧ w'.cell? ⟨gv, 2, none⟩ = some (.int .u32 v2) ∧ w'.cell? ⟨gv, 3, none⟩ = some (.int .u32 v3) ∧ w'.cell? ⟨gv, 4, none⟩ = some (.int .u32 v4) ∧ w'.cell? ⟨gv, 5, none⟩ = some (.int .u32 v5) ∧ w'.cell? ⟨gv, 6, none⟩ = some (.int .u32 v6) ∧ w'.cell? ⟨gv, 7, none⟩ = some (.int .u32 v7) ∧ w'.cell? ⟨gw, n, none⟩ = some (.int .u32 (W.getD n 0)) ∧ w'.cell? ⟨1, n, none⟩ = some (.int .u64 (K.getD n 0)))
        (first | exact Mix32.cells HWl.out hn80 HK.out P2.out | exact Mix32.cells HWl.out hn80 HK.out P2.out.drew | exact Mix32.cells HWl.out hn80 HK.out (Mix32.below hb P2.out.drew) | (go_split_ands; exact Mix32.cells HWl.out hn80 HK.out (Mix32.below hb (by assumption))))
        (first
          | (go_at_call_of 109 (Value.agg #[.int .i64 2, .int .i64 13, .int .i64 22]); refine (big32_c _ 2 13 22 _ (by omega) (by omega) (by omega) (by omega) (by omega) (by omega)).mono ?_; rintro e w3 ⟨rfl, hb⟩))
      go_split_ands
      have P3 : Aside0 (Mix32 w gw gv W hs [v0, v1, v2, v3, v4, v5, v6, v7] w3) := ⟨by assumption⟩
      go_wp2_with (refine wpList_store_row rfl 106 (.tmp 8) (.tmp 100) rfl gv _ (by rfl) (by rfl) 106 (cells32 [v0, v1, v2, v3, v4, v5, v6, v7]) P3.out.2.2.2.2.1 (by first | rfl | kernel_rfl) (by simp [cells32]) (by simp [Value.oneCell']) ?_)
      go_roundg (gk - 1)
      case measure => have := HN.out; omega
      case rel =>
        refine ⟨n + 1, by have := HN.out; omega, by go_num, _, rfl, ⟨?_⟩, ⟨Mix32.stored hs1 h2s P3.out [(X + sumY32 v0 v1 v2) % 4294967296, v0, v1, v2, (v3 + X) % 4294967296, v4, v5, v6]⟩⟩
        unfold rounds32
        rw [← HV.out, HX.out]
        rfl
    have hn64 : n = 64 := by omega
    go_wp2
    have HV2 : Aside0 ([v0, v1, v2, v3, v4, v5, v6, v7] = rounds32 K W hs 64) := ⟨by rw [← hn64]; exact HV.out⟩
    have hv8 : [v0, v1, v2, v3, v4, v5, v6, v7].length = 8 := rfl
    generalize [v0, v1, v2, v3, v4, v5, v6, v7] = v at P HV2 hv8 ⊢
    clear HV hn64 hlt
    have hhl : hs.length = 8 := by rw [HH.out]; rfl
    obtain ⟨wo, rfl⟩ : ∃ wo : World, wo = wr := ⟨_, rfl⟩
    go_loopg [102] 8 (fun m t wr => ∃ i : Nat, i + m = 8 ∧ t = .int .i64 (i : Int) ∧ Aside0 (Mix32 w gw gv W (add32 hs v i) v wr))
    case atStart => exact ⟨0, by omega, rfl, P⟩
    case round =>
      clear P
      obtain ⟨i, hi', rfl, P⟩ := hrel
      have hi : i ≤ 8 := by omega
      have HI2 := Lib.hid hi'
      clear hi'
      by_cases hil : i < 8
      rotate_left
      · have hi8 : i = 8 := by omega
        have hl8 : (cells32 (add32 hs v 8)).size = 8 := by have := add32_length hs v 8; simp [cells32]; omega
        have P8 : Aside0 (Mix32 w gw gv W (add32 hs v 8) v wr) := ⟨by rw [← hi8]; exact P.out⟩
        have hi8' : (Tryd.prog.info? 106).map (·.size) = some 8 := by kernel_rfl
        have HL8 := Lib.hid hl8
        have HI8 := Lib.hid hi8'
        clear P hl8 hi8'
        go_wp2_with (first
          | (refine wpList_load_row rfl 106 (.tmp 4) rfl (w.heap.size + 1) (by rfl) 106 (cells32 (add32 hs v 8)) (0, 0) _ P8.out.2.1 Tryd.underlying106 rfl (by rw [HL8.out]; exact HI8.out) ?_)
          | (refine wpList_store_row rfl 106 (.tmp 6) (.tmp 114) rfl (w.heap.size + 1 + 1) (cells32 (add32 hs v 8)) (by rfl) (by rfl) 106 (cells32 (List.replicate 8 0)) P8.out.2.2.1 (by rw [HL8.out]; exact HI8.out) (by rw [HL8.out]; simp [cells32]) (by simp [cells32, Value.oneCell']) ?_))
        refine bodyPost_ret (v := .agg (cells32 (add32 hs v 8))) (results_cell_row (by rfl) _ _ (w.heap.size + 1 + 1) 106 (cells32 (add32 hs v 8)) (0, 0) _ (by rfl) (setRow_heap _ _ _ _ _ _ P8.out.2.2.1) Tryd.underlying106 rfl (by rw [HL8.out]; exact HI8.out)) rfl ⟨?_, ?_⟩
        · unfold mix32
          rw [HV2.out, HWe.out, HH.out]
        exact below_setRow P8.out.2.2.2.2.2 (by omega) _
      have hi0 : (0 : Int) ≤ (i : Int) := by omega
      have hi1 : (i : Int) < 8 := by omega
      have cv : wr.cell? ⟨gv, i, none⟩ = some (.int .u32 (v.getD i 0)) := (blk_cell P.out.2.2.2.2.1 i).trans (cells32_get _ _ (by omega))
      have ch : wr.cell? ⟨w.heap.size + 1, i, none⟩ = some (.int .u32 ((add32 hs v i).getD i 0)) := (blk_cell P.out.2.1 i).trans (cells32_get _ _ (by rw [add32_length]; omega))
      have fh : wr.frozen? ⟨w.heap.size + 1, i, none⟩ = false := blk_frozen P.out.2.1 _
      generalize hA : (add32 hs v i).getD i 0 = A at ch
      generalize hC : v.getD i 0 = C at cv
      have HA := Lib.hid hA
      have HC := Lib.hid hC
      clear hA hC hhl hv8
      go_wp2
      go_region
      all_goals
        go_wp2
        go_roundg (gk - 1)
        case measure => have := HI2.out; omega
        case rel =>
          refine ⟨i + 1, by have := HI2.out; omega, by go_num, ⟨?_⟩⟩
          unfold add32
          rw [HA.out, HC.out]
          exact Mix32.putH hs1 h2s P.out.drew i _
/-- The first n words of the eight at first. -/
def fill32 (S : List Int) : Nat → List Int
  | 0 => List.replicate 8 0
  | n + 1 => (fill32 S n).set n (IntKind.u32.wrap (S.getD n 0 / 4294967296))
theorem fill32_length (S : List Int) : ∀ n, (fill32 S n).length = 8
  | 0 => rfl
  | n + 1 => by unfold fill32; rw [List.length_set]; exact fill32_length S n
def Beg32 (w : World) (h : List Int) (wr : World) : Prop :=
  wr.heap[w.heap.size]? = some (.cells narrowV 102 (0, 0)) ∧ wr.heap[w.heap.size + 1]? = some (.cells (cells32 (List.replicate 8 0)) 106 (0, 0)) ∧
  wr.heap[w.heap.size + 1 + 1]? = some (.cells (cells32 h) 106 (0, 0)) ∧ Below w.heap.size w wr
theorem Beg32.drew {w wr : World} {h : List Int} (p : Beg32 w h wr) : Beg32 w h wr.drew := ⟨p.1, p.2.1, p.2.2.1, below_drew1 p.2.2.2⟩
theorem Beg32.put {w wr : World} {h : List Int} (p : Beg32 w h wr) (n : Nat) (x : Int) : Beg32 w (h.set n x) (wr.setCell ⟨w.heap.size + 1 + 1, n, none⟩ (.int .u32 x)) :=
  ⟨blk_far p.1 (by simp; omega) _, blk_far p.2.1 (by simp) _, blk_put p.2.2.1 _ _ (cells32_set _ _ _), below_set p.2.2.2 (by omega)⟩
set_option maxRecDepth 100000 in
set_option maxHeartbeats 1000000 in
theorem begin32_c (w : World) (S : List Int) (hS : ∀ i, i < 8 → w.cell? ⟨0, i, none⟩ = some (.int .u64 (S.getD i 0))) :
    Calls Tryd.prog 101 #[.agg narrowV] w fun e w' => e = .returned (.agg (cells32 (fill32 S 8))) ∧ Below w.heap.size w w' := by
  have HS := Lib.hid hS
  clear hS
  unfold narrowV
  go_enter Tryd.func101, Tryd.ntmps101
  go_wp2
  go_loopg [5] 8 (fun m t wr => ∃ n : Nat, n + m = 8 ∧ t = .int .i64 (n : Int) ∧ Aside0 (Beg32 w (fill32 S n) wr))
  case atStart => exact ⟨0, by omega, rfl, ⟨blk_alloc (blk_alloc (new1 _ _) _) _, blk_alloc (new2 _ _ _) _, new3 _ _ _ _, below_alloc (below_alloc (below_alloc (Below.refl _ _) _) _) _⟩⟩
  case round =>
    obtain ⟨n, hn', rfl, P⟩ := hrel
    have hn : n ≤ 8 := by omega
    have HN := Lib.hid hn'
    clear hn'
    by_cases hlt : n < 8
    rotate_left
    · have hn8 : n = 8 := by omega
      have hl8 : (cells32 (fill32 S 8)).size = 8 := by have := fill32_length S 8; simp [cells32]; omega
      have P8 : Aside0 (Beg32 w (fill32 S 8) wr) := ⟨by rw [← hn8]; exact P.out⟩
      have hi8' : (Tryd.prog.info? 106).map (·.size) = some 8 := by kernel_rfl
      have HL8 := Lib.hid hl8
      have HI8 := Lib.hid hi8'
      clear P hl8 hi8'
      go_wp2_with (first
        | (refine wpList_load_row rfl 106 (.tmp 3) rfl (w.heap.size + 1 + 1) (by rfl) 106 (cells32 (fill32 S 8)) (0, 0) _ P8.out.2.2.1 Tryd.underlying106 rfl (by rw [HL8.out]; exact HI8.out) ?_)
        | (refine wpList_store_row rfl 106 (.tmp 2) (.tmp 19) rfl (w.heap.size + 1) (cells32 (fill32 S 8)) (by rfl) (by rfl) 106 (cells32 (List.replicate 8 0)) P8.out.2.1 (by rw [HL8.out]; exact HI8.out) (by rw [HL8.out]; simp [cells32]) (by simp [cells32, Value.oneCell']) ?_))
      refine bodyPost_ret (v := .agg (cells32 (fill32 S 8))) (results_cell_row (by rfl) _ _ (w.heap.size + 1) 106 (cells32 (fill32 S 8)) (0, 0) _ (by rfl) (setRow_heap _ _ _ _ _ _ P8.out.2.1) Tryd.underlying106 rfl (by rw [HL8.out]; exact HI8.out)) rfl ⟨rfl, ?_⟩
      exact below_setRow P8.out.2.2.2 (by omega) _
    have hn0 : (0 : Int) ≤ (n : Int) := by omega
    have hn1 : (n : Int) < 8 := by omega
    have c1 : wr.cell? ⟨w.heap.size, 1, none⟩ = some (.int .i64 32) := (blk_cell P.out.1 1).trans rfl
    have c2 : wr.cell? ⟨w.heap.size + 1 + 1, n, none⟩ = some (.int .u32 ((fill32 S n).getD n 0)) := (blk_cell P.out.2.2.1 n).trans (cells32_get _ _ (by rw [fill32_length]; omega))
    have f2 : wr.frozen? ⟨w.heap.size + 1 + 1, n, none⟩ = false := blk_frozen P.out.2.2.1 _
    have c3 : wr.cell? ⟨0, n, none⟩ = some (.int .u64 (S.getD n 0)) := (P.out.2.2.2.cell (p := ⟨0, n, none⟩) (World.block_lt_of_cell? w _ (HS.out n hlt))).trans (HS.out n hlt)
    generalize hA : (fill32 S n).getD n 0 = A at c2
    clear hA
    generalize hB : S.getD n 0 = B at c3
    have HB := Lib.hid hB
    clear hB
    go_wp2
    go_region
    all_goals
      go_wp2
      go_roundg (gk - 1)
      case measure => have := HN.out; omega
      case rel =>
        refine ⟨n + 1, by have := HN.out; omega, by go_num, ⟨?_⟩⟩
        unfold fill32
        rw [HB.out]
        exact Beg32.put P.out.drew n _
/-- The first n words of the eight at first. -/
def fill64 (S : List Int) : Nat → List Int
  | 0 => List.replicate 8 0
  | n + 1 => (fill64 S n).set n (S.getD n 0)
theorem fill64_length (S : List Int) : ∀ n, (fill64 S n).length = 8
  | 0 => rfl
  | n + 1 => by unfold fill64; rw [List.length_set]; exact fill64_length S n
def Beg64 (w : World) (h : List Int) (wr : World) : Prop :=
  wr.heap[w.heap.size]? = some (.cells wideV 102 (0, 0)) ∧ wr.heap[w.heap.size + 1]? = some (.cells (cells64 (List.replicate 8 0)) 107 (0, 0)) ∧
  wr.heap[w.heap.size + 1 + 1]? = some (.cells (cells64 h) 107 (0, 0)) ∧ Below w.heap.size w wr
theorem Beg64.drew {w wr : World} {h : List Int} (p : Beg64 w h wr) : Beg64 w h wr.drew := ⟨p.1, p.2.1, p.2.2.1, below_drew1 p.2.2.2⟩
theorem Beg64.put {w wr : World} {h : List Int} (p : Beg64 w h wr) (n : Nat) (x : Int) : Beg64 w (h.set n x) (wr.setCell ⟨w.heap.size + 1 + 1, n, none⟩ (.int .u64 x)) :=
  ⟨blk_far p.1 (by simp; omega) _, blk_far p.2.1 (by simp) _, blk_put p.2.2.1 _ _ (cells64_set _ _ _), below_set p.2.2.2 (by omega)⟩
set_option maxRecDepth 100000 in
set_option maxHeartbeats 1000000 in
theorem begin64_c (w : World) (S : List Int) (hS : ∀ i, i < 8 → w.cell? ⟨0, i, none⟩ = some (.int .u64 (S.getD i 0))) :
    Calls Tryd.prog 102 #[.agg wideV] w fun e w' => e = .returned (.agg (cells64 (fill64 S 8))) ∧ Below w.heap.size w w' := by
  have HS := Lib.hid hS
  clear hS
  unfold wideV
  go_enter Tryd.func102, Tryd.ntmps102
  go_wp2
  go_loopg [5] 8 (fun m t wr => ∃ n : Nat, n + m = 8 ∧ t = .int .i64 (n : Int) ∧ Aside0 (Beg64 w (fill64 S n) wr))
  case atStart => exact ⟨0, by omega, rfl, ⟨blk_alloc (blk_alloc (new1 _ _) _) _, blk_alloc (new2 _ _ _) _, new3 _ _ _ _, below_alloc (below_alloc (below_alloc (Below.refl _ _) _) _) _⟩⟩
  case round =>
    obtain ⟨n, hn', rfl, P⟩ := hrel
    have hn : n ≤ 8 := by omega
    have HN := Lib.hid hn'
    clear hn'
    by_cases hlt : n < 8
    rotate_left
    · have hn8 : n = 8 := by omega
      have hl8 : (cells64 (fill64 S 8)).size = 8 := by have := fill64_length S 8; simp [cells64]; omega
      have P8 : Aside0 (Beg64 w (fill64 S 8) wr) := ⟨by rw [← hn8]; exact P.out⟩
      have hi8' : (Tryd.prog.info? 107).map (·.size) = some 8 := by kernel_rfl
      have HL8 := Lib.hid hl8
      have HI8 := Lib.hid hi8'
      clear P hl8 hi8'
      go_wp2_with (first
        | (refine wpList_load_row rfl 107 (.tmp 3) rfl (w.heap.size + 1 + 1) (by rfl) 107 (cells64 (fill64 S 8)) (0, 0) _ P8.out.2.2.1 Tryd.underlying107 rfl (by rw [HL8.out]; exact HI8.out) ?_)
        | (refine wpList_store_row rfl 107 (.tmp 2) (.tmp 18) rfl (w.heap.size + 1) (cells64 (fill64 S 8)) (by rfl) (by rfl) 107 (cells64 (List.replicate 8 0)) P8.out.2.1 (by rw [HL8.out]; exact HI8.out) (by rw [HL8.out]; simp [cells64]) (by simp [cells64, Value.oneCell']) ?_))
      refine bodyPost_ret (v := .agg (cells64 (fill64 S 8))) (results_cell_row (by rfl) _ _ (w.heap.size + 1) 107 (cells64 (fill64 S 8)) (0, 0) _ (by rfl) (setRow_heap _ _ _ _ _ _ P8.out.2.1) Tryd.underlying107 rfl (by rw [HL8.out]; exact HI8.out)) rfl ⟨rfl, ?_⟩
      exact below_setRow P8.out.2.2.2 (by omega) _
    have hn0 : (0 : Int) ≤ (n : Int) := by omega
    have hn1 : (n : Int) < 8 := by omega
    have c1 : wr.cell? ⟨w.heap.size, 1, none⟩ = some (.int .i64 64) := (blk_cell P.out.1 1).trans rfl
    have c2 : wr.cell? ⟨w.heap.size + 1 + 1, n, none⟩ = some (.int .u64 ((fill64 S n).getD n 0)) := (blk_cell P.out.2.2.1 n).trans (cells64_get _ _ (by rw [fill64_length]; omega))
    have f2 : wr.frozen? ⟨w.heap.size + 1 + 1, n, none⟩ = false := blk_frozen P.out.2.2.1 _
    have c3 : wr.cell? ⟨0, n, none⟩ = some (.int .u64 (S.getD n 0)) := (P.out.2.2.2.cell (p := ⟨0, n, none⟩) (World.block_lt_of_cell? w _ (HS.out n hlt))).trans (HS.out n hlt)
    generalize hA : (fill64 S n).getD n 0 = A at c2
    clear hA
    generalize hB : S.getD n 0 = B at c3
    have HB := Lib.hid hB
    clear hB
    go_wp2
    go_region
    all_goals
      go_wp2
      go_roundg (gk - 1)
      case measure => have := HN.out; omega
      case rel =>
        refine ⟨n + 1, by have := HN.out; omega, by go_num, ⟨?_⟩⟩
        unfold fill64
        rw [HB.out]
        exact Beg64.put P.out.drew n _
def shape0 : Array Value := #[.int .i64 0, .int .i64 0, .int .i64 0, .int .i64 0, .int .i64 0, .int .i64 0, .int .i64 0, .int .i64 0, .int .i64 0, .int .i64 0, .int .i64 0, .int .i64 0, .int .i64 0, .int .i64 0, .int .i64 0]
set_option maxRecDepth 100000 in
set_option maxHeartbeats 1000000 in
theorem narrow_c (w : World) : Calls Tryd.prog 99 #[] w fun e w' => e = .returned (.agg narrowV) ∧ Below w.heap.size w w' := by
  go_enter Tryd.func99, Tryd.ntmps99
  go_wp2_with (refine wpList_store_row rfl 102 (.tmp 0) (.tmp 5) rfl w.heap.size narrowV (by rfl) (by rfl) 102 shape0 (new1 _ _) (by kernel_rfl) (by rfl) (by rfl) ?_; rw [World.setRow_alloc_new])
  refine bodyPost_ret (v := .agg narrowV) (results_cell_row (by rfl) _ _ w.heap.size 102 narrowV (0, 0) _ (by rfl) (new1 _ _) Tryd.underlying102 rfl (by kernel_rfl)) rfl ⟨rfl, below_alloc (Below.refl _ _) _⟩
set_option maxRecDepth 100000 in
set_option maxHeartbeats 1000000 in
theorem wide_c (w : World) : Calls Tryd.prog 100 #[] w fun e w' => e = .returned (.agg wideV) ∧ Below w.heap.size w w' := by
  go_enter Tryd.func100, Tryd.ntmps100
  go_wp2_with (refine wpList_store_row rfl 102 (.tmp 0) (.tmp 5) rfl w.heap.size wideV (by rfl) (by rfl) 102 shape0 (new1 _ _) (by kernel_rfl) (by rfl) (by rfl) ?_; rw [World.setRow_alloc_new])
  refine bodyPost_ret (v := .agg wideV) (results_cell_row (by rfl) _ _ w.heap.size 102 wideV (0, 0) _ (by rfl) (new1 _ _) Tryd.underlying102 rfl (by kernel_rfl)) rfl ⟨rfl, below_alloc (Below.refl _ _) _⟩
theorem block32_c (w : World) : Calls Tryd.prog 103 #[.agg narrowV] w fun e w' => e = .returned (.int .i64 64) ∧ Below w.heap.size w w' := by
  unfold narrowV
  go_enter Tryd.func103, Tryd.ntmps103
  go_wp2
  go_ret
  exact ⟨rfl, below_alloc (Below.refl _ _) _⟩
theorem results_row_tmp {P : Program} {fn : Func} {p u : Tmp} {ty : TypeId} (h : fn.results = #[.cell p ty, .tmp u]) (tmps : Array Value) (w : World) (g : Nat) (t : TypeId) (cs : Array Value) (fr : Nat × Nat) (d : TypeDesc) (y : Value)
    (hp : tmps.getD p undef = .pointer (some ⟨g, 0, none⟩)) (hq : tmps.getD u undef = y) (hg : w.heap[g]? = some (.cells cs t fr))
    (hu : P.underlying ty = some d) (hd : (match d with | .struct _ | .array _ _ => true | _ => false) = true) (hi : (P.info? ty).map (·.size) = some cs.size) :
    (results fn tmps).run P w = .ok (.tuple #[.agg cs, y]) w := by
  rw [results_cell_tmp h, hp, hq]
  have hl := run_loadVar_row w g t ty cs fr d hg hu hd hi
  have ha : (asAddr (.pointer (some ⟨g, 0, none⟩))).run P w = .ok ⟨g, 0, none⟩ w := rfl
  rw [ha]
  simp only [Result.andThen, hl]
theorem narrowV_one : narrowV.all (·.oneCell') = true := by simp [narrowV, Value.oneCell']
set_option maxRecDepth 100000 in
set_option maxHeartbeats 1000000 in
theorem of256_c (w : World) : Calls Tryd.prog 84 #[.int .i64 256] w fun e w' => e = .returned (.tuple #[.agg narrowV, .bool true]) ∧ Below w.heap.size w w' := by
  go_enter Tryd.func84, Tryd.ntmps84
  go_wp2_with (first
    | (go_at_call 99; refine (narrow_c _).mono ?_; rintro e w1 ⟨rfl, hb⟩; have B0 : Aside0 (w1.heap[w.heap.size]? = some (.cells shape0 102 (0, 0))) := ⟨blk_below (new1 _ _) hb⟩; have HB := Aside0.mk (below_step (below_alloc (Below.refl _ _) _) hb); clear hb)
    | (refine wpList_store_row rfl 102 (.tmp 2) (.tmp 7) rfl w.heap.size narrowV (by rfl) (by rfl) 102 shape0 B0.out (by kernel_rfl) (by rfl) narrowV_one ?_))
  refine bodyPost_ret (v := .tuple #[.agg narrowV, .bool true]) (results_row_tmp (by rfl) _ _ w.heap.size 102 narrowV (0, 0) _ _ (by rfl) (by rfl) (setRow_heap _ _ _ _ _ _ B0.out) Tryd.underlying102 rfl (by kernel_rfl)) rfl ⟨rfl, below_setRow HB.out (Nat.le_refl _) _⟩
/-- The first j bytes of a word, the greatest first. -/
def em32 (x : Int) : Nat → List Int
  | 0 => []
  | j + 1 => em32 x j ++ [IntKind.u8.wrap (x / 2 ^ (8 * (3 - j)))]
theorem em32_succ (x : Int) (j : Nat) : em32 x (j + 1) = em32 x j ++ [IntKind.u8.wrap (x / 2 ^ (8 * (3 - j)))] := rfl
def tell32 (h : List Int) : Nat → List Int
  | 0 => []
  | n + 1 => tell32 h n ++ em32 (h.getD n 0) 4
theorem em32_length (x : Int) : ∀ j, (em32 x j).length = j
  | 0 => rfl
  | j + 1 => by unfold em32; rw [List.length_append, em32_length x j]; rfl
theorem tell32_length (h : List Int) : ∀ n, (tell32 h n).length = 4 * n
  | 0 => rfl
  | n + 1 => by unfold tell32; rw [List.length_append, em32_length, tell32_length h n]; omega
theorem own_made_cap (W : World) (base : Nat) (e : TypeId) (n : Nat) (cs : Array Value) (hb : base ≤ W.heap.size) (hc : cs.size = n) (hm : n ≤ maxLen) : (W.alloc (.cells cs e)).ownsRow base e 1 (.slice (some ⟨W.heap.size, 0, none⟩) 0 n) 0 [] :=
  ⟨rfl, .inr ⟨W.heap.size, n, cs, rfl, hb, new1 _ _, Nat.zero_le _, hm, by omega, by simp⟩⟩
set_option maxRecDepth 100000 in
theorem index32 (h : List Int) (hl : h.length = 8) (n : Nat) (hn : n < 8) : ∀ w : World, (Instr.index 106 (.agg (cells32 h)) (.int .i64 (n : Int))).run Tryd.prog w = .ok (.int .u32 (h.getD n 0)) w := by
  obtain ⟨h0, h1, h2, h3, h4, h5, h6, h7, rfl⟩ := eight_of hl
  intro w
  match n, hn with
  | 0, _ => (show _ = _; kernel_rfl)
  | 1, _ => (show _ = _; kernel_rfl)
  | 2, _ => (show _ = _; kernel_rfl)
  | 3, _ => (show _ = _; kernel_rfl)
  | 4, _ => (show _ = _; kernel_rfl)
  | 5, _ => (show _ = _; kernel_rfl)
  | 6, _ => (show _ = _; kernel_rfl)
  | 7, _ => (show _ = _; kernel_rfl)
theorem info_u8 : (Tryd.prog.info? 5).map (fun i => (i.zero, i.size, i.bytes)) = some (some (.int .u8 0), 1, 1) := by kernel_rfl
end Go.Proofs.YtdpdmmbdoeefbaaDoor.H
