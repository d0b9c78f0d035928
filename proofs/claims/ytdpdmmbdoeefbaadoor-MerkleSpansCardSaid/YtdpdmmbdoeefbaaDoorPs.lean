/- A climber in memory: its block, and rows that lie elsewhere. -/
import Derived.Test.YtdpdmmbdoeefbaaDoorX
import Derived.Test.YtdpdmmbdoeefbaaDoorWT
namespace Go.Proofs.YtdpdmmbdoeefbaaDoor.X
open Go.RowKit H YtdpdmmbdoeefbaaDoorW.PrintWords YtdpdmmbdoeefbaaDoorW.PrintLast YtdpdmmbdoeefbaaDoorW.PrintMore
set_option linter.unusedVariables false
abbrev dB : Kd (List Int) := Kd.slice 5 (Kd.int .u8)
/-- A row of bytes, of rows of bytes, none of it in block p. -/
def Bp (w : World) (p : Nat) (v : Value) (x : List Int) : Prop := Kd.V (Kd.int .u8) 5 w 0 (fun k => k ≠ p) v x
def Np (w : World) (p : Nat) (v : Value) (xs : List (List Int)) : Prop := Kd.V dB 22 w 0 (fun k => k ≠ p) v xs
/-- The climber: from, to, the leaves, the proof's rest, whether it was too short. -/
structure ClAt (w : World) (p : Nat) (f t : Int) (LV PV : Value) (sh : Bool) : Prop where
  blk : w.heap[p]? = some (.cells #[.int .i64 f, .int .i64 t, LV, PV, .bool sh] 85 (0, 0))
section
variable {w w1 : World} {p : Nat} {v LV PV : Value} {x : List Int} {xs : List (List Int)} {f t : Int} {sh : Bool}
theorem Bp.grown (h : Bp w p v x) (hg : w.grownBy w1 (some p)) : Bp w1 p v x := Kd.V_map h (fun _ hf => Kd.F_step hf (fun k hk hlt => hg.block k hlt (fun e => hk (by injection e))))
theorem Np.grown (h : Np w p v xs) (hg : w.grownBy w1 (some p)) : Np w1 p v xs := Kd.V_map h (fun _ hf => Kd.F_step hf (fun k hk hlt => hg.block k hlt (fun e => hk (by injection e))))
theorem Bp.below (h : Bp w p v x) (hb : Below w.heap.size w w1) : Bp w1 p v x := Kd.V_below h hb
theorem Np.below (h : Np w p v xs) (hb : Below w.heap.size w w1) : Np w1 p v xs := Kd.V_below h hb
theorem Bp.slice (h : Bp w p v x) : ∃ A c, v = .slice A x.length c := by
  obtain ⟨A, c, e, _⟩ := h
  exact ⟨A, c, e⟩
theorem ClAt.below (h : ClAt w p f t LV PV sh) (hb : Below w.heap.size w w1) : ClAt w1 p f t LV PV sh := ⟨blk_below h.blk hb⟩
theorem ClAt.lt (h : ClAt w p f t LV PV sh) : p < w.heap.size := blk_lt h.blk
theorem ClAt.c0 (h : ClAt w p f t LV PV sh) : w.cell? ⟨p, 0, none⟩ = some (.int .i64 f) := (blk_cell h.blk 0).trans rfl
theorem ClAt.c1 (h : ClAt w p f t LV PV sh) : w.cell? ⟨p, 1, none⟩ = some (.int .i64 t) := (blk_cell h.blk 1).trans rfl
theorem ClAt.c2 (h : ClAt w p f t LV PV sh) : w.cell? ⟨p, 2, none⟩ = some LV := (blk_cell h.blk 2).trans rfl
theorem ClAt.c3 (h : ClAt w p f t LV PV sh) : w.cell? ⟨p, 3, none⟩ = some PV := (blk_cell h.blk 3).trans rfl
theorem ClAt.c4 (h : ClAt w p f t LV PV sh) : w.cell? ⟨p, 4, none⟩ = some (.bool sh) := (blk_cell h.blk 4).trans rfl
theorem ClAt.frozen (h : ClAt w p f t LV PV sh) (i : Nat) : w.frozen? ⟨p, i, none⟩ = false := blk_frozen h.blk i
theorem ClAt.setShort (h : ClAt w p f t LV PV sh) : ClAt (w.setCell ⟨p, 4, none⟩ (.bool true)) p f t LV PV true := ⟨blk_put h.blk 4 _ (by simp)⟩
theorem ClAt.setProof (h : ClAt w p f t LV PV sh) (u : Value) : ClAt (w.setCell ⟨p, 3, none⟩ u) p f t LV u sh := ⟨blk_put h.blk 3 _ (by simp)⟩
theorem grown_set (w : World) (p i : Nat) (u : Value) : w.grownBy (w.setCell ⟨p, i, none⟩ u) (some p) :=
  ⟨rfl, rfl, rfl, by simp [World.setCell], fun k _ hk => Below.heap_setCell _ _ _ _ (fun e => hk (by simp [e]))⟩
theorem grown_below (hb : Below w.heap.size w w1) (p : Nat) : w.grownBy w1 (some p) := ⟨hb.os, hb.tape, hb.output, hb.size, fun k hk _ => hb.block k hk⟩
theorem grown_trans {w2 : World} (h : w.grownBy w1 (some p)) (k : w1.grownBy w2 (some p)) : w.grownBy w2 (some p) := ⟨k.os.trans h.os, k.tape.trans h.tape, k.output.trans h.output, Nat.le_trans h.size k.size, fun j hj hn => (k.block j (Nat.lt_of_lt_of_le hj h.size) hn).trans (h.block j hj hn)⟩
/-- From what a climber's block alone may differ in to what lies below the climber. -/
theorem below_of_grown {s : Nat} (hg : w.grownBy w1 (some p)) (hs : s ≤ p) (hw : s ≤ w.heap.size) : Below s w w1 := ⟨hg.os, hg.tape, hg.output, hg.size, fun k hk => hg.block k (Nat.lt_of_lt_of_le hk hw) (fun e => by injection e with e; omega)⟩
theorem Glb.grown (h : Glb w) (hg : w.grownBy w1 (some p)) (hp : 1 < p) : Glb w1 := by
  refine ⟨⟨fun i hi => ?_, fun i hi => ?_⟩, Nat.lt_of_lt_of_le h.g0 hg.size, Nat.lt_of_lt_of_le h.g1 hg.size⟩
  · exact hg.cell (h.laid.k i hi) (fun e => by injection e with e; simp at e; omega)
  · exact hg.cell (h.laid.s i hi) (fun e => by injection e with e; simp at e; omega)
/-- One of the rows, where it lies. -/
theorem Np.get (h : Np w p v xs) {i : Nat} (hi : i < xs.length) : ∃ ad c A' c', v = .slice (some ad) xs.length c ∧ xs.length ≤ c ∧ w.cell? (ad.add i) = some (.slice A' (xs.getD i []).length c') ∧ (xs.getD i []).length ≤ c' ∧ Bp w p (.slice A' (xs.getD i []).length c') (xs.getD i []) := by
  obtain ⟨A, c, rfl, h1, h2⟩ := h
  obtain ⟨ad, cs, rfl, hcl, hK, hcc, _⟩ := Kd.F_get h2 [] (i : Int) (by omega) (by omega)
  rw [Int.toNat_natCast] at hK hcc
  obtain ⟨A', c', rfl, hl, hF⟩ := Kd.FK_slice_open hK
  exact ⟨ad, c, A', c', rfl, h1, by have h9 := hcc 0 _ rfl; rwa [show i * dB.sz + 0 = i from Nat.mul_one i] at h9, hl, ⟨A', c', rfl, hl, hF⟩⟩
/-- The rows but the first. -/
theorem Np.cut1 {A : Option Addr} {n c : Nat} (h : Np w p (.slice A n c) xs) (h1 : 1 ≤ xs.length) : Np w p (.slice (if c = 1 then A else A.map (·.add 1)) (n - 1) (c - 1)) (xs.drop 1) := by
  obtain ⟨A', c', e, h2, h3⟩ := h
  injection e with e1 e2 e3
  subst e1 e2 e3
  have hd : (xs.drop 1).length = xs.length - 1 := List.length_drop
  exact ⟨_, c - 1, by rw [hd]; rfl, by rw [hd]; omega, Kd.F_cut h3 h1 h2⟩
end
end Go.Proofs.YtdpdmmbdoeefbaaDoor.X
