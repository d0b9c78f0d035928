/- How a trail lies in memory; a new one. -/
import Derived.Test.YtcnpdapampclpaaDoorB
import Derived.Test.YtcnpdapampclpaaDoorWC
import Derived.Test.YtcnpdapampclpaaDoorWT
namespace Go.Proofs.YtcnpdapampclpaaDoor.X
open Go.RowKit Go.Proofs.YtcnpdapampclpaaDoor.H Go.Proofs.YtcnpdapampclpaaDoorW.PrintWords Go.Proofs.YtcnpdapampclpaaDoorW.PrintLast Go.Proofs.YtcnpdapampclpaaDoorW.PrintMore
abbrev dB : Kd (List Int) := Kd.slice 5 (Kd.int .u8)
def nilV : Value := .slice none 0 0
/-- What the row of level k, and what it leads to, are not. -/
def okL (p : Nat) (vs : List Value) (k b : Nat) : Prop := b ≠ p ∧ ∀ j, j ≠ k → some b ≠ (vs.getD j nilV).ownBlock
/-- The blocks that a trail writes. -/
def ownT (p : Nat) (vs : List Value) (b : Nat) : Prop := b = p ∨ ∃ j, (vs.getD j nilV).ownBlock = some b
structure TrailR (base p : Nat) (n : Int) (vs : List Value) (L : Nat → List (List Int)) (w : World) : Prop where
  blk : w.heap[p]? = some (.cells (Value.int .i64 n :: vs).toArray 64 (0, 0))
  hb : base ≤ p
  lv : vs.length = 13
  row : ∀ k, k < 13 → Kd.N dB 23 w base (okL p vs k) (vs.getD k nilV) (L k)
section
variable {base p : Nat} {n : Int} {vs : List Value} {L : Nat → List (List Int)} {w w1 : World}
theorem TrailR.below (h : TrailR base p n vs L w) (hb : Below w.heap.size w w1) : TrailR base p n vs L w1 :=
  ⟨blk_below h.blk hb, h.hb, h.lv, fun k hk => Kd.N_below (h.row k hk) hb⟩
theorem TrailR.lt (h : TrailR base p n vs L w) : p < w.heap.size := blk_lt h.blk
theorem TrailR.cellN (h : TrailR base p n vs L w) : w.cell? ⟨p, 0, none⟩ = some (.int .i64 n) := (blk_cell h.blk 0).trans rfl
theorem TrailR.cell (h : TrailR base p n vs L w) {k : Nat} (hk : k < 13) : w.cell? ⟨p, 1 + k, none⟩ = some (vs.getD k nilV) := by
  refine (blk_cell h.blk (1 + k)).trans ?_
  have := h.lv
  rw [show 1 + k = k + 1 by omega]
  simp [List.getD_eq_getElem?_getD, List.getElem?_eq_getElem (show k < vs.length by omega)]
theorem TrailR.frozen (h : TrailR base p n vs L w) (i : Nat) : w.frozen? ⟨p, i, none⟩ = false := blk_frozen h.blk i
theorem TrailR.own_lt (h : TrailR base p n vs L w) {j b : Nat} (hj : (vs.getD j nilV).ownBlock = some b) : b < w.heap.size := by
  by_cases h13 : j < 13
  · exact Kd.N_lt (h.row j h13) b hj
  · rw [List.getD_eq_getElem?_getD, List.getElem?_eq_none (by rw [h.lv]; omega)] at hj
    simp [nilV, Value.ownBlock] at hj
theorem TrailR.own_base (h : TrailR base p n vs L w) {j b : Nat} (hj : (vs.getD j nilV).ownBlock = some b) : base ≤ b := by
  by_cases h13 : j < 13
  · exact Kd.N_base (h.row j h13) b hj
  · rw [List.getD_eq_getElem?_getD, List.getElem?_eq_none (by rw [h.lv]; omega)] at hj
    simp [nilV, Value.ownBlock] at hj
theorem TrailR.ownT_lt (h : TrailR base p n vs L w) {b : Nat} (hb : ownT p vs b) : b < w.heap.size := by
  rcases hb with rfl | ⟨j, hj⟩
  · exact h.lt
  · exact h.own_lt hj
theorem TrailR.ownT_base (h : TrailR base p n vs L w) {b : Nat} (hb : ownT p vs b) : base ≤ b := by
  rcases hb with rfl | ⟨j, hj⟩
  · exact h.hb
  · exact h.own_base hj
theorem TrailR.fresh (h : TrailR base p n vs L w) (k : Nat) : ∀ b, w.heap.size ≤ b → okL p vs k b := fun b hb =>
  ⟨fun e => by have := h.lt; omega, fun j _ e => by have := h.own_lt e.symm; omega⟩
/-- The number of entries anew. -/
theorem TrailR.setN (h : TrailR base p n vs L w) (m : Int) : TrailR base p m vs L (w.setCell ⟨p, 0, none⟩ (.int .i64 m)) :=
  ⟨blk_put h.blk 0 _ (by simp), h.hb, h.lv, fun k hk => Kd.N_far (h.row k hk) (fun b hb => hb.1) _⟩
theorem getD_set_self {α : Type} (l : List α) (k : Nat) (v d : α) (h : k < l.length) : (l.set k v).getD k d = v := by
  rw [List.getD_eq_getElem?_getD, List.getElem?_set_self h]; rfl
theorem getD_set_ne {α : Type} (l : List α) (k j : Nat) (v d : α) (h : j ≠ k) : (l.set k v).getD j d = l.getD j d := by
  rw [List.getD_eq_getElem?_getD, List.getElem?_set_ne (fun e => h e.symm), ← List.getD_eq_getElem?_getD]
/-- The row of one level anew: behind an append to it. -/
theorem TrailR.put {k : Nat} (h : TrailR base p n vs L w) (hk : k < 13) {v1 : Value} {xs : List (List Int)} (hN : Kd.N dB 23 w1 base (okL p vs k) v1 xs) (hg : w.grownBy w1 (vs.getD k nilV).ownBlock)
    (hat : v1.ownBlock = (vs.getD k nilV).ownBlock ∨ ∃ b, v1.ownBlock = some b ∧ w.heap.size ≤ b) :
    TrailR base p n (vs.set k v1) (fun j => if j = k then xs else L j) (w1.setCell ⟨p, 1 + k, none⟩ v1) := by
  have hlv := h.lv
  have hpk : some p ≠ (vs.getD k nilV).ownBlock := fun e => ((h.row k hk).1 p e.symm).1 rfl
  have hpv : some p ≠ v1.ownBlock := by
    rcases hat with hat | ⟨b, hb1, hb2⟩
    · rw [hat]; exact hpk
    · rw [hb1]; intro e; injection e with e; have := h.lt; omega
  refine ⟨blk_put (blk_grown h.blk hg hpk) (1 + k) v1 ?_, h.hb, by rw [List.length_set]; exact hlv, fun j hj => ?_⟩
  · rw [show 1 + k = k + 1 by omega]; simp
  · by_cases hjk : j = k
    · subst hjk
      rw [if_pos rfl, getD_set_self _ _ _ _ (by omega)]
      refine Kd.N_far (Kd.N_mono hN (ok' := okL p (vs.set j v1) j) (fun b hb => ⟨hb.1, fun i hi => ?_⟩)) (fun b hb => hb.1) _
      rw [getD_set_ne _ _ _ _ _ hi]
      exact hb.2 i hi
    · rw [if_neg hjk, getD_set_ne _ _ _ _ _ hjk]
      have h1 := Kd.N_grown (Kd.N_bound (h.row j hj)) hg (fun b hb => hb.1.2 k (fun e => hjk e.symm))
      refine Kd.N_far (Kd.N_mono h1 (ok' := okL p (vs.set k v1) j) (fun b hb => ⟨hb.1.1, fun i hi => ?_⟩)) (fun b hb => hb.1) _
      by_cases hik : i = k
      · subst hik
        rw [getD_set_self _ _ _ _ (by omega)]
        rcases hat with hat | ⟨c, hc1, hc2⟩
        · rw [hat]; exact hb.1.2 i (fun e => hjk e.symm)
        · rw [hc1]; intro e; injection e with e; have := hb.2; omega
      · rw [getD_set_ne _ _ _ _ _ hik]; exact hb.1.2 i hi
theorem TrailR.congrL {L' : Nat → List (List Int)} (h : TrailR base p n vs L w) (hL : ∀ k, k < 13 → L k = L' k) : TrailR base p n vs L' w :=
  ⟨h.blk, h.hb, h.lv, fun k hk => by rw [← hL k hk]; exact h.row k hk⟩
/-- What is not the trail's may change. -/
theorem TrailR.fr {S : Nat → Prop} (h : TrailR base p n vs L w) (hf : Fr S w w1) (hp : ¬ S p) (hs : ∀ k, k < 13 → ∀ b, okL p vs k b → b < w.heap.size → ¬ S b) : TrailR base p n vs L w1 :=
  ⟨hf.blk h.blk hp, h.hb, h.lv, fun k hk => Kd.N_step (h.row k hk) (fun b hb hlt => hf.block b hlt (hs k hk b hb hlt))⟩
end
def vs0 : List Value := List.replicate 13 nilV
theorem new_c (w : World) : Calls Tryd.prog 24 #[] w fun e w' => e = .returned (.pointer (some ⟨w.heap.size, 0, none⟩)) ∧ TrailR w.heap.size w.heap.size 0 vs0 (fun _ => []) w' ∧ Below w.heap.size w w' := by
  go_enter Tryd.func24, Tryd.ntmps24
  go_wp2
  go_ret
  exact ⟨rfl, ⟨blk_new w _, Nat.le_refl _, rfl, fun k hk => by rw [show vs0.getD k nilV = nilV by unfold vs0; rw [List.getD_eq_getElem?_getD, List.getElem?_replicate, if_pos hk]; rfl]; exact Kd.N_nil _ _ _ _ _⟩, below_alloc (Below.refl _ _) _⟩
end Go.Proofs.YtcnpdapampclpaaDoor.X
