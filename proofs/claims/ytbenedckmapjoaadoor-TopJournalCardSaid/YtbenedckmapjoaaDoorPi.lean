/- Points and elements in memory. -/
import Derived.Test.YtbenedckmapjoaaDoorPh
import Derived.Deep.MidRow
namespace Go.Proofs.YtbenedckmapjoaaDoor.F
open Go.RowKit Go.Proofs.YtbenedckmapjoaaDoor.H Go.Proofs.YtbenedckmapjoaaDoorW.PrintWords Go.Proofs.YtbenedckmapjoaaDoorW.PrintLast Go.Proofs.YtbenedckmapjoaaDoorW.PrintMore
set_option linter.unusedVariables false
set_option linter.unusedSimpArgs false
/-- Elements in blocks of their own, all above block B. -/
structure Mem (B : Nat) (gs : List Nat) (vs : List (List Int)) (w : World) : Prop where
  len : gs.length = vs.length
  el : ∀ i, i < gs.length → Arr (gs.getD i 0) (vs.getD i []) w
  ne : ∀ i j, i ≠ j → i < gs.length → j < gs.length → gs.getD i 0 ≠ gs.getD j 0
  lo : ∀ i, i < gs.length → B < gs.getD i 0
theorem getD_set_gen {α : Type} (l : List α) (d : α) (i j : Nat) (v : α) (hi : i < l.length) : (l.set i v).getD j d = if i = j then v else l.getD j d := by
  rw [List.getD_eq_getElem?_getD, List.getD_eq_getElem?_getD, List.getElem?_set]
  by_cases h : i = j
  · subst h; simp [hi]
  · simp [h]
theorem Mem.below {B : Nat} {gs : List Nat} {vs : List (List Int)} {w w1 : World} (h : Mem B gs vs w) (hb : Below w.heap.size w w1) : Mem B gs vs w1 := ⟨h.len, fun i hi => (h.el i hi).below hb, h.ne, h.lo⟩
theorem Mem.nil (B : Nat) (w : World) : Mem B [] [] w := ⟨rfl, fun i hi => absurd hi (Nat.not_lt_zero _), fun i j _ hi => absurd hi (Nat.not_lt_zero _), fun i hi => absurd hi (Nat.not_lt_zero _)⟩
theorem Mem.put {B : Nat} {gs : List Nat} {vs : List (List Int)} {w : World} (h : Mem B gs vs w) (i : Nat) (x : List Int) (hi : i < gs.length) : Mem B gs (vs.set i x) (w.setRow (gs.getD i 0) (cells64 x)) := by
  refine ⟨by rw [List.length_set]; exact h.len, fun j hj => ?_, h.ne, h.lo⟩
  rw [getD_set_gen vs [] i j x (by rw [← h.len]; exact hi)]
  split
  · rename_i e
    subst e
    exact setRow_heap _ _ _ _ _ _ (h.el i hi)
  · rename_i e
    exact (setRow_other _ _ _ _ (h.ne j i (fun e' => e e'.symm) hj hi)).trans (h.el j hj)
theorem getD_app1 {α : Type} (a b : List α) (d : α) (i : Nat) (hi : i < a.length) : (a ++ b).getD i d = a.getD i d := by
  rw [List.getD_eq_getElem?_getD, List.getD_eq_getElem?_getD, List.getElem?_append_left hi]
theorem getD_app2 {α : Type} (a b : List α) (d : α) (i : Nat) (hi : a.length ≤ i) : (a ++ b).getD i d = b.getD (i - a.length) d := by
  rw [List.getD_eq_getElem?_getD, List.getD_eq_getElem?_getD, List.getElem?_append_right hi]
theorem getD_rep {α : Type} (n : Nat) (z d : α) (i : Nat) (hi : i < n) : (List.replicate n z).getD i d = z := by
  rw [List.getD_eq_getElem?_getD, List.getElem?_replicate, if_pos hi]; rfl
/-- New blocks beside those that were. -/
theorem Mem.app {B : Nat} {gs ns : List Nat} {vs : List (List Int)} {w0 w : World} {z : List Int} (h : Mem B gs vs w0) (hb : Below w0.heap.size w0 w) (hB : B < w0.heap.size) (hn : ∀ j, j < ns.length → w0.heap.size ≤ ns.getD j 0 ∧ w.heap[ns.getD j 0]? = some (.cells (cells64 z) 50 (0, 0)))
    (hne : ∀ i j, i ≠ j → i < ns.length → j < ns.length → ns.getD i 0 ≠ ns.getD j 0) : Mem B (gs ++ ns) (vs ++ List.replicate ns.length z) w := by
  have g1 : ∀ i, i < gs.length → (gs ++ ns).getD i 0 = gs.getD i 0 := fun i hi => getD_app1 _ _ _ _ hi
  have g2 : ∀ i, gs.length ≤ i → (gs ++ ns).getD i 0 = ns.getD (i - gs.length) 0 := fun i hi => getD_app2 _ _ _ _ hi
  have hl := h.len
  refine ⟨by simp [h.len], fun i hi => ?_, fun i j hij hi hj => ?_, fun i hi => ?_⟩
  · rw [List.length_append] at hi
    by_cases h1 : i < gs.length
    · rw [g1 i h1, getD_app1 _ _ _ _ (by omega)]
      exact (h.el i h1).below hb
    · rw [g2 i (by omega), getD_app2 _ _ _ _ (by omega), getD_rep _ _ _ _ (by omega)]
      exact (hn (i - gs.length) (by omega)).2
  · rw [List.length_append] at hi hj
    by_cases h1 : i < gs.length
    · by_cases h2 : j < gs.length
      · rw [g1 i h1, g1 j h2]; exact h.ne i j hij h1 h2
      · rw [g1 i h1, g2 j (by omega)]
        exact Nat.ne_of_lt (Nat.lt_of_lt_of_le (h.el i h1).lt (hn (j - gs.length) (by omega)).1)
    · by_cases h2 : j < gs.length
      · rw [g1 j h2, g2 i (by omega)]
        exact Nat.ne_of_gt (Nat.lt_of_lt_of_le (h.el j h2).lt (hn (i - gs.length) (by omega)).1)
      · rw [g2 i (by omega), g2 j (by omega)]
        exact hne _ _ (by omega) (by omega) (by omega)
  · rw [List.length_append] at hi
    by_cases h1 : i < gs.length
    · rw [g1 i h1]; exact h.lo i h1
    · rw [g2 i (by omega)]; exact Nat.lt_of_lt_of_le hB (hn (i - gs.length) (by omega)).1
/-- A point, in its block. -/
def ptL (x y z t : Int) : List Int := enc x ++ enc y ++ enc z ++ enc t
def PtAt (g : Nat) (l : List Int) (w : World) : Prop := w.heap[g]? = some (.cells (cells64 l) 52 (0, 0))
theorem PtAt.below {g : Nat} {l : List Int} {w w1 : World} (h : PtAt g l w) (hb : Below w.heap.size w w1) : PtAt g l w1 := blk_below h hb
theorem PtAt.other {g g' : Nat} {l : List Int} {w : World} (h : PtAt g l w) (hne : g ≠ g') (cs : Array Value) : PtAt g l (w.setRow g' cs) := (setRow_other _ _ _ _ hne).trans h
theorem PtAt.row {g : Nat} {x y z t : Int} {w : World} (h : PtAt g (ptL x y z t) w) : w.rangeAt g 0 (cells64 (enc x)).toList ∧ w.rangeAt g 5 (cells64 (enc y)).toList ∧ w.rangeAt g 10 (cells64 (enc z)).toList ∧ w.rangeAt g 15 (cells64 (enc t)).toList :=
  ⟨World.rangeAt_of_block h 0 5, World.rangeAt_of_block h 5 5, World.rangeAt_of_block h 10 5, World.rangeAt_of_block h 15 5⟩
theorem Arr.row {g : Nat} {x : Int} {w : World} (h : Arr g (enc x) w) : w.rangeAt g 0 (cells64 (enc x)).toList := World.rangeAt_of_block h 0 5
theorem rangeAt_below {w w1 : World} {g o : Nat} {cs : List Value} (h : w.rangeAt g o cs) (hb : Below w.heap.size w w1) : w1.rangeAt g o cs := fun j v hv => by
  have h1 := h j v hv
  exact (hb.cell (World.block_lt_of_cell? _ _ h1)).trans h1
theorem run_at {P : Program} {a : Act} {oi : Oper} (w : World) (ty : TypeId) (x : Operand) (ho : oi.op = .load ty x) (b o : Nat) (hx : a.eval x = .pointer (some ⟨b, o, none⟩)) (n : Int) (d : TypeDesc) (hc : w.rangeAt b o (cells64 (enc n)).toList)
    (hu : P.underlying ty = some d) (hd : d.isRow = true) (hi : (P.info? ty).map (·.size) = some 5) : (execOp a.eval oi).run P w = .ok (.value (Nm n)) w := by
  have h := run_loadAt_mid (P := P) w b o ty (cells64 (enc n)).toList d hc hu hd (by rw [hi]; rfl)
  unfold execOp
  simp only [ho, hx, Sem.run_bind]
  rw [h]
  rfl
end Go.Proofs.YtbenedckmapjoaaDoor.F
