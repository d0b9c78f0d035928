/- Several texts as one. -/
import Derived.Test.YtbenedckmapjoaaDoorPt
namespace Go.Proofs.YtbenedckmapjoaaDoor.D
open Go.RowKit Go.Proofs.YtbenedckmapjoaaDoor.H Go.Proofs.YtbenedckmapjoaaDoor.F Go.Proofs.YtbenedckmapjoaaDoorW.PrintWords Go.Proofs.YtbenedckmapjoaaDoorW.PrintLast Go.Proofs.YtbenedckmapjoaaDoorW.PrintMore
set_option linter.unusedVariables false
set_option linter.unusedSimpArgs false
/-- What a disk holds. -/
structure DSt where
  S : List (List Int)
  H : List (Int × List Int)
  down : Bool
  st : Int
  left : Int
  set : Bool
  ch : List Bool
def heldV (x : Int × List Int) : List Value := .int .i64 x.1 :: x.2.map (Value.int .u8)
def heldC (l : List (Int × List Int)) : List Value := l.flatMap heldV
def dkV (gs n : Nat) (hv cv : Value) (d : DSt) : Array Value := #[.slice (some ⟨gs, 0, none⟩) n n, hv, .bool d.down, .int .i64 d.st, .int .i64 d.left, .bool d.set, cv]
/-- The sectors. -/
structure Sec (gs : Nat) (S : List (List Int)) (w : World) : Prop where
  p : ∀ i, i < S.length → w.rangeAt gs (i * 64) (cells8 (S.getD i [])).toList
  t : w.there gs 0 (S.length * 64)
  l : ∀ i, i < S.length → (S.getD i []).length = 64
  ty : ∃ cells, w.heap[gs]? = some (.cells cells 117 (0, 0))
/-- Truths in a block of their own, or none. -/
def Trs (base : Nat) (w : World) (v : Value) (l : List Bool) : Prop := ∃ A c, v = .slice A l.length c ∧ l.length ≤ c ∧ (0 < l.length → ∃ g cs, A = some ⟨g, 0, none⟩ ∧ base ≤ g ∧ w.heap[g]? = some (.cells cs 4 (0, 0)) ∧ ∀ i, i < l.length → cs[i]? = some (.bool (l.getD i false)))
structure Dk (base p gs : Nat) (hv cv : Value) (d : DSt) (w : World) : Prop where
  o : w.heap[p]? = some (.cells (dkV gs d.S.length hv cv d) 115 (0, 0))
  s : Sec gs d.S w
  h : w.ownsRow base 173 65 hv d.H.length (heldC d.H)
  c : Trs base w cv d.ch
  h64 : ∀ x ∈ d.H, x.2.length = 64 ∧ 0 ≤ x.1 ∧ x.1 < d.S.length
  bp : base ≤ p
  bs : base ≤ gs
  n1 : d.S.length ≤ 16384
  m1 : d.H.length ≤ 100000
  k1 : d.ch.length ≤ 4096
/-- What is left as it was: all but a disk's own blocks. -/
structure Mv (w wr : World) : Prop where
  os : wr.os = w.os
  tape : wr.tape = w.tape
  output : wr.output = w.output
  size : w.heap.size ≤ wr.heap.size
  block : ∀ k, k < w.heap.size → (∀ cs t fr, w.heap[k]? = some (.cells cs t fr) → t ≠ 115 ∧ t ≠ 117 ∧ t ≠ 173) → wr.heap[k]? = w.heap[k]?
theorem Mv.refl (w : World) : Mv w w := ⟨rfl, rfl, rfl, Nat.le_refl _, fun _ _ _ => rfl⟩
theorem Mv.trans {a b c : World} (h : Mv a b) (k : Mv b c) : Mv a c :=
  ⟨k.os.trans h.os, k.tape.trans h.tape, k.output.trans h.output, Nat.le_trans h.size k.size, fun i hi ht => (k.block i (Nat.lt_of_lt_of_le hi h.size) (by rw [h.block i hi ht]; exact ht)).trans (h.block i hi ht)⟩
theorem Mv.below {a b c : World} (h : Mv a b) (k : Below b.heap.size b c) : Mv a c :=
  ⟨k.os.trans h.os, k.tape.trans h.tape, k.output.trans h.output, Nat.le_trans h.size k.size, fun i hi ht => (k.block i (Nat.lt_of_lt_of_le hi h.size)).trans (h.block i hi ht)⟩
theorem Mv.of {w w1 : World} (k : Below w.heap.size w w1) : Mv w w1 := (Mv.refl w).below k
theorem ne_types {w : World} {g g' : Nat} {c c' : Array Value} {t t' : TypeId} {fr fr' : Nat × Nat} (h : w.heap[g]? = some (.cells c t fr)) (h' : w.heap[g']? = some (.cells c' t' fr')) (ht : t ≠ t') : g ≠ g' := fun e => by
  subst e
  rw [h] at h'
  injection h' with h'
  injection h' with _ h' _
  exact ht h'
theorem below_setCell0 (w : World) (p i : Nat) (v : Value) : Below 0 w (w.setCell ⟨p, i, none⟩ v) := (Below.refl 0 w).setCell (Nat.zero_le _) _
abbrev DkT (t : TypeId) : Prop := t = 115 ∨ t = 117 ∨ t = 173
theorem Mv.blk {w w1 : World} (hb : Below 0 w w1) {p : Nat} {cs : Array Value} {t : TypeId} {fr : Nat × Nat} (hp : w.heap[p]? = some (.cells cs t fr)) (ht : DkT t) (ho : ∀ k, k ≠ p → w1.heap[k]? = w.heap[k]?) : Mv w w1 := by
  refine ⟨hb.os, hb.tape, hb.output, hb.size, fun k hk hty => ?_⟩
  by_cases e : k = p
  · subst e
    have := hty _ _ _ hp
    rcases ht with rfl | rfl | rfl
    · exact absurd rfl this.1
    · exact absurd rfl this.2.1
    · exact absurd rfl this.2.2
  · exact ho k e
theorem Mv.set {w : World} {p : Nat} {cs : Array Value} {t : TypeId} {fr : Nat × Nat} (hp : w.heap[p]? = some (.cells cs t fr)) (ht : DkT t) (i : Nat) (v : Value) : Mv w (w.setCell ⟨p, i, none⟩ v) :=
  Mv.blk (below_setCell0 w p i v) hp ht (fun k e => Below.heap_setCell w _ v k e)
theorem Mv.sets {w : World} {p : Nat} {cs : Array Value} {t : TypeId} {fr : Nat × Nat} (hp : w.heap[p]? = some (.cells cs t fr)) (ht : DkT t) (i : Nat) (vs : List Value) : Mv w (w.setCells p i vs) :=
  Mv.blk (below_setCells (Nat.zero_le _) vs i w (Below.refl _ _)) hp ht (fun k e => heap_setCells e vs i w)
theorem Sec.move {gs : Nat} {S : List (List Int)} {w w1 : World} (h : Sec gs S w) (e : w1.heap[gs]? = w.heap[gs]?) : Sec gs S w1 := by
  have hc : ∀ i, w1.cell? ⟨gs, i, none⟩ = w.cell? ⟨gs, i, none⟩ := fun i => by unfold World.cell?; rw [e]
  have hf : ∀ i, w1.frozen? ⟨gs, i, none⟩ = w.frozen? ⟨gs, i, none⟩ := fun i => by unfold World.frozen?; rw [e]
  refine ⟨fun i hi j v hv => (hc _).trans (h.p i hi j v hv), fun j hj => ?_, h.l, by rw [e]; exact h.ty⟩
  rw [hc, hf]
  exact h.t j hj
theorem Trs.move {base : Nat} {w w1 : World} {v : Value} {l : List Bool} (h : Trs base w v l) (e : ∀ k cs, base ≤ k → w.heap[k]? = some (.cells cs 4 (0, 0)) → w1.heap[k]? = w.heap[k]?) : Trs base w1 v l := by
  obtain ⟨A, c, h1, h2, h3⟩ := h
  refine ⟨A, c, h1, h2, fun hn => ?_⟩
  obtain ⟨g, cs, e1, e2, e3, e4⟩ := h3 hn
  exact ⟨g, cs, e1, e2, (e g cs e2 e3).trans e3, e4⟩
theorem Trs.mv {base : Nat} {w w1 : World} {v : Value} {l : List Bool} (h : Trs base w v l) (m : Mv w w1) : Trs base w1 v l :=
  h.move (fun k cs _ hk => m.block k (blk_lt hk) (fun cs' t fr h' => by rw [hk] at h'; injection h' with h'; injection h' with _ h' _; subst h'; decide))
theorem own_types {base : Nat} {w : World} {hv : Value} {n : Nat} {cs : List Value} {t : TypeId} (h : w.ownsRow base t 65 hv n cs) {p : Nat} {c' : Array Value} {t' : TypeId} {fr : Nat × Nat} (hp : w.heap[p]? = some (.cells c' t' fr)) (ht : t ≠ t') : ∀ k, hv.ownBlock = some k → k ≠ p := fun k hk => by
  obtain ⟨cells, hc⟩ := own_typed h k hk
  exact ne_types hc hp ht
/-- A cell of the disk's own block is written. -/
theorem Dk.step {base p gs : Nat} {hv cv : Value} {d d' : DSt} {w : World} (h : Dk base p gs hv cv d w) (i : Nat) (v : Value) (hS : d'.S = d.S) (hH : d'.H = d.H) (hch : d'.ch = d.ch) (e : (dkV gs d.S.length hv cv d).setIfInBounds i v = dkV gs d.S.length hv cv d') :
    Dk base p gs hv cv d' (w.setCell ⟨p, i, none⟩ v) ∧ Mv w (w.setCell ⟨p, i, none⟩ v) ∧ Below base w (w.setCell ⟨p, i, none⟩ v) := by
  obtain ⟨cells, hty⟩ := h.s.ty
  have hm := Mv.set h.o (.inl rfl) i v
  refine ⟨⟨by rw [hS]; exact blk_put h.o i v e, by rw [hS]; exact h.s.move (Below.heap_setCell w _ v gs (ne_types hty h.o (by decide))), ?_, by rw [hch]; exact h.c.mv hm, by rw [hS, hH]; exact h.h64, h.bp, h.bs, by rw [hS]; exact h.n1, by rw [hH]; exact h.m1, by rw [hch]; exact h.k1⟩, hm, (Below.refl base w).setCell h.bp _⟩
  rw [hH]
  exact own_move h.h (fun k hk => Below.heap_setCell w _ v k (own_types h.h h.o (by decide) k hk))
theorem Dk.below {base p gs : Nat} {hv cv : Value} {d : DSt} {w w1 : World} (h : Dk base p gs hv cv d w) (hb : Below w.heap.size w w1) : Dk base p gs hv cv d w1 := by
  obtain ⟨cells, hty⟩ := h.s.ty
  exact ⟨blk_below h.o hb, h.s.move (hb.block gs (blk_lt hty)), own_move h.h (fun k hk => hb.block k (own_lt h.h k hk)), h.c.mv (Mv.of hb), h.h64, h.bp, h.bs, h.n1, h.m1, h.k1⟩
theorem Dk.cells {base p gs : Nat} {hv cv : Value} {d : DSt} {w : World} (h : Dk base p gs hv cv d w) : w.cell? ⟨p, 0, none⟩ = some (.slice (some ⟨gs, 0, none⟩) d.S.length d.S.length) ∧ w.cell? ⟨p, 1, none⟩ = some hv ∧ w.cell? ⟨p, 2, none⟩ = some (.bool d.down) ∧ w.cell? ⟨p, 3, none⟩ = some (.int .i64 d.st) ∧ w.cell? ⟨p, 4, none⟩ = some (.int .i64 d.left) ∧ w.cell? ⟨p, 5, none⟩ = some (.bool d.set) ∧ w.cell? ⟨p, 6, none⟩ = some cv :=
  ⟨(blk_cell h.o 0).trans rfl, (blk_cell h.o 1).trans rfl, (blk_cell h.o 2).trans rfl, (blk_cell h.o 3).trans rfl, (blk_cell h.o 4).trans rfl, (blk_cell h.o 5).trans rfl, (blk_cell h.o 6).trans rfl⟩
end Go.Proofs.YtbenedckmapjoaaDoor.D
namespace Go.Proofs.YtbenedckmapjoaaDoor.D
open Go.RowKit Go.Proofs.YtbenedckmapjoaaDoor.H Go.Proofs.YtbenedckmapjoaaDoor.F Go.Proofs.YtbenedckmapjoaaDoorW.PrintWords Go.Proofs.YtbenedckmapjoaaDoorW.PrintLast Go.Proofs.YtbenedckmapjoaaDoorW.PrintMore
set_option linter.unusedVariables false
set_option linter.unusedSimpArgs false
def DSt.ready (d : DSt) : Int := if d.down then 60 else 0
set_option maxRecDepth 100000 in
set_option maxHeartbeats 4000000 in
theorem ready_c {base p gs : Nat} {hv cv : Value} {d : DSt} {w : World} (h : Dk base p gs hv cv d w) : Calls Tryd.prog 82 #[.pointer (some ⟨p, 0, none⟩)] w fun e w' => e = .returned (.int .i64 d.ready) ∧ Below w.heap.size w w' := by
  have c2 := h.cells.2.2.1
  clear h
  obtain ⟨S, H, down, st, left, set, ch⟩ := d
  simp only [DSt.ready] at c2 ⊢
  cases down <;>
  · go_enter Tryd.func82, Tryd.ntmps82
    go_wp2
    go_ret
    exact ⟨rfl, Below.refl _ _⟩
def DSt.atE (d : DSt) (k : Int) : Int := if d.down then 60 else if k < 0 ∨ (d.S.length : Int) ≤ k then 61 else 0
set_option maxRecDepth 100000 in
set_option maxHeartbeats 4000000 in
theorem at_c {base p gs : Nat} {hv cv : Value} {d : DSt} {w : World} (h : Dk base p gs hv cv d w) (k : Int) : Calls Tryd.prog 118 #[.pointer (some ⟨p, 0, none⟩), .int .i64 k] w fun e w' => e = .returned (.int .i64 (d.atE k)) ∧ Below w.heap.size w w' := by
  have K := Aside0.mk (ready_c h)
  have H := Aside0.mk h
  clear h
  obtain ⟨n, hn⟩ : ∃ n, n = d.S.length := ⟨_, rfl⟩
  unfold DSt.atE
  rw [← hn]
  have HN := Lib.hid hn
  clear hn
  unfold DSt.ready at K
  cases hd : d.down with
  | true =>
    rw [hd] at K
    go_enter Tryd.func118, Tryd.ntmps118
    go_wp2_with (first
      | (go_at_call 82; refine K.out.mono ?_; rintro e w1 ⟨rfl, hB⟩; have B1 := Aside0.mk hB; clear hB))
    go_ret
    exact ⟨rfl, B1.out⟩
  | false =>
    rw [hd] at K
    by_cases h0 : k < 0
    · go_enter Tryd.func118, Tryd.ntmps118
      go_wp2_with (first
        | (go_at_call 82; refine K.out.mono ?_; rintro e w1 ⟨rfl, hB⟩; have B1 := Aside0.mk hB; clear hB))
      go_ret
      exact ⟨by simp [h0], B1.out⟩
    · by_cases h1 : (n : Int) ≤ k
      · go_enter Tryd.func118, Tryd.ntmps118
        go_wp2_with (first
          | (go_at_call 82; refine K.out.mono ?_; rintro e w1 ⟨rfl, hB⟩; have B1 := Aside0.mk hB; have c0 := (H.out.below hB).cells.1; rw [← HN.out] at c0; clear hB))
        go_ret
        exact ⟨by simp [h1], B1.out⟩
      · go_enter Tryd.func118, Tryd.ntmps118
        go_wp2_with (first
          | (go_at_call 82; refine K.out.mono ?_; rintro e w1 ⟨rfl, hB⟩; have B1 := Aside0.mk hB; have c0 := (H.out.below hB).cells.1; rw [← HN.out] at c0; clear hB))
        go_ret
        exact ⟨by simp [h1, h0], B1.out⟩
/-- A stroke: what it leaves, and whether the power goes at it. -/
def DSt.stroke (d : DSt) : DSt := if d.set = true ∧ 0 < d.left then { d with st := wrap64 (d.st + 1), left := wrap64 (d.left - 1) } else { d with st := wrap64 (d.st + 1) }
def DSt.off (d : DSt) : Bool := d.set && !decide (0 < d.left)
set_option maxRecDepth 100000 in
set_option maxHeartbeats 4000000 in
theorem goes_c {base p gs : Nat} {hv cv : Value} {d : DSt} {w : World} (h : Dk base p gs hv cv d w) : Calls Tryd.prog 83 #[.pointer (some ⟨p, 0, none⟩)] w fun e w' => e = .returned (.bool d.off) ∧ Dk base p gs hv cv d.stroke w' ∧ Mv w w' ∧ Below base w w' := by
  have H := Aside0.mk h
  have c3 := h.cells.2.2.2.1
  have f3 := blk_frozen h.o 3
  clear h
  go_enter Tryd.func83, Tryd.ntmps83
  go_upto_region 2 with (fail)
  have P1 := Aside0.mk (H.out.step (d' := { d with st := wrap64 (d.st + 1) }) 3 (.int .i64 (wrap64 (d.st + 1))) rfl rfl rfl rfl)
  clear c3 f3
  generalize (w.setCell ⟨p, 3, none⟩ (.int .i64 (wrap64 (d.st + 1)))) = w1 at P1 ⊢
  have c5 := P1.out.1.cells.2.2.2.2.2.1
  have c4 := P1.out.1.cells.2.2.2.2.1
  have f4 := blk_frozen P1.out.1.o 4
  simp only at c5 c4
  cases hs : d.set with
  | false =>
    rw [hs] at c5
    go_wp2
    go_ret
    exact ⟨by unfold DSt.off; rw [hs]; rfl, by unfold DSt.stroke; rw [hs, if_neg (by simp)]; rw [← hs]; exact P1.out.1, P1.out.2⟩
  | true =>
    rw [hs] at c5
    by_cases hl : 0 < d.left
    · go_wp2
      have P2 := Aside0.mk (P1.out.1.step (d' := { d with st := wrap64 (d.st + 1), left := wrap64 (d.left - 1) }) 4 (.int .i64 (wrap64 (d.left - 1))) rfl rfl rfl rfl)
      go_ret
      exact ⟨by unfold DSt.off; rw [hs]; simp [hl], by unfold DSt.stroke; rw [if_pos ⟨hs, hl⟩]; exact P2.out.1, P1.out.2.1.trans P2.out.2.1, P1.out.2.2.trans P2.out.2.2⟩
    · go_wp2
      go_ret
      exact ⟨by unfold DSt.off; rw [hs]; simp [hl], by unfold DSt.stroke; rw [if_neg (by simp [hl])]; exact P1.out.1, P1.out.2⟩
/-- How many sectors bytes take. -/
def needN (n : Nat) : Nat := (n + 63) / 64
set_option maxRecDepth 100000 in
set_option maxHeartbeats 4000000 in
theorem need_c (n : Nat) (hn : n ≤ 1000000000) (w : World) : Calls Tryd.prog 80 #[.int .i64 n] w fun e w' => e = .returned (.int .i64 (needN n)) ∧ w' = w := by
  obtain ⟨q, r, hqr, hr⟩ : ∃ q r, n = 64 * q + r ∧ r < 64 := ⟨n / 64, n % 64, by omega, by omega⟩
  have hnI : (n : Int) ≤ 1000000000 := by omega
  have hq : Int.tdiv (n : Int) 64 = (q : Int) := by rw [Int.tdiv_eq_ediv_of_nonneg (by omega)]; omega
  have hq2 : (n : Int) / 64 = (q : Int) := by omega
  have hm : Int.tmod (n : Int) 64 = (r : Int) := by rw [Int.tmod_eq_emod_of_nonneg (by omega)]; omega
  have hm2 : (n : Int) % 64 = (r : Int) := by omega
  have hqI : (q : Int) ≤ 1000000000 := by omega
  by_cases h0 : r = 0
  · have hN : needN n = q := by unfold needN; omega
    rw [hN]
    subst h0
    clear hqr hr hN
    go_enter Tryd.func80, Tryd.ntmps80
    go_wp2
    go_ret
    exact ⟨rfl, rfl⟩
  · have hN : needN n = q + 1 := by unfold needN; omega
    rw [hN]
    have hr0 : (0 : Int) < r := by omega
    clear hqr hr hN h0
    go_enter Tryd.func80, Tryd.ntmps80
    go_wp2
    go_ret
    exact ⟨by go_num, rfl⟩
end Go.Proofs.YtbenedckmapjoaaDoor.D
namespace Go.Proofs.YtbenedckmapjoaaDoor.D
open Go.RowKit Go.Proofs.YtbenedckmapjoaaDoor.H Go.Proofs.YtbenedckmapjoaaDoor.F Go.Proofs.YtbenedckmapjoaaDoorW.PrintWords Go.Proofs.YtbenedckmapjoaaDoorW.PrintLast Go.Proofs.YtbenedckmapjoaaDoorW.PrintMore
set_option linter.unusedVariables false
set_option linter.unusedSimpArgs false
set_option maxRecDepth 100000 in
set_option maxHeartbeats 4000000 in
theorem span_c {base p gs : Nat} {hv cv : Value} {d : DSt} {w : World} (h : Dk base p gs hv cv d w) (k n : Nat) (hk : k + needN n ≤ d.S.length) : Calls Tryd.prog 79 #[.pointer (some ⟨p, 0, none⟩), .int .i64 k, .int .i64 n] w fun e w' => e = .returned (.int .i64 d.ready) ∧ Below w.heap.size w w' := by
  have K := Aside0.mk (ready_c h)
  have hn1 := h.n1
  have hnn : n ≤ 1000000000 := by unfold needN at hk; omega
  obtain ⟨l, hl⟩ : ∃ l, l = d.S.length := ⟨_, rfl⟩
  rw [← hl] at hk hn1
  obtain ⟨q, hq⟩ : ∃ q, q = needN n := ⟨_, rfl⟩
  have KN := Aside0.mk (need_c n hnn)
  rw [← hq] at hk KN
  have H := Aside0.mk (And.intro h hl)
  have hkI : (k : Int) ≤ 16384 := by omega
  have hd1 : decide ((k : Int) < 0) = false := decide_eq_false (by omega)
  have hd2 : decide (l < k) = false := decide_eq_false (by omega)
  have hsb : wrap64 ((l : Int) - (k : Int)) = (l : Int) - (k : Int) := by unfold wrap64; omega
  have hd3 : decide ((l : Int) - (k : Int) < (q : Int)) = false := decide_eq_false (by omega)
  have hlI : (l : Int) ≤ 16384 := by omega
  have hqI : (q : Int) ≤ 16384 := by omega
  clear h hl hk hn1 hnn hq
  unfold DSt.ready at K ⊢
  cases hd : d.down with
  | true =>
    rw [hd] at K
    go_enter Tryd.func79, Tryd.ntmps79
    go_wp2_with (first
      | (go_at_call 82; refine K.out.mono ?_; rintro e w1 ⟨rfl, hB⟩; have B1 := Aside0.mk hB; clear hB))
    go_ret
    exact ⟨rfl, B1.out⟩
  | false =>
    rw [hd] at K
    go_enter Tryd.func79, Tryd.ntmps79
    go_upto_region 4 with (first
      | (go_at_call 82; refine K.out.mono ?_; rintro e w1 ⟨rfl, hB⟩; have B1 := Aside0.mk hB; have c0 := (H.out.1.below hB).cells.1; rw [← H.out.2] at c0; clear hB))
    go_quiet (first | (go_at_call 80; exact Calls.quiet_of_same (KN.out _)))
    go_wp2
    go_ret
    exact ⟨rfl, pw_below_drewN B1.out _⟩
theorem heldV_length {x : Int × List Int} (h : x.2.length = 64) : (heldV x).length = 65 := by unfold heldV; rw [List.length_cons, List.length_map, h]
theorem heldC_length : ∀ {l : List (Int × List Int)}, (∀ x ∈ l, x.2.length = 64) → (heldC l).length = l.length * 65
  | [], _ => rfl
  | x :: l, h => by
    unfold heldC
    rw [List.flatMap_cons, List.length_append, heldV_length (h x (by simp)), show (l.flatMap heldV).length = l.length * 65 from heldC_length (fun y hy => h y (by simp [hy])), List.length_cons]
    omega
theorem heldC_split (l : List (Int × List Int)) (h : ∀ x ∈ l, x.2.length = 64) (i : Nat) (hi : i < l.length) : ∃ r, heldC l = heldC (l.take i) ++ (heldV l[i] ++ r) ∧ (heldC (l.take i)).length = i * 65 := by
  refine ⟨heldC (l.drop (i + 1)), ?_, ?_⟩
  · unfold heldC
    rw [← List.flatMap_cons, ← List.flatMap_append]
    congr 1
    simp
  · rw [heldC_length (fun x hx => h x (List.mem_of_mem_take hx)), List.length_take]
    omega
theorem held_at {base : Nat} {w : World} {hv : Value} {l : List (Int × List Int)} (ho : w.ownsRow base 173 65 hv l.length (heldC l)) (h : ∀ x ∈ l, x.2.length = 64) (hl : 0 < l.length) :
    ∃ g cap, hv = .slice (some ⟨g, 0, none⟩) l.length cap ∧ g < w.heap.size ∧ ∀ i (hi : i < l.length), w.rangeAt g (i * 65) (heldV l[i]) := by
  obtain ⟨h1, h2⟩ := ho
  rcases h2 with ⟨_, h2⟩ | ⟨g, cap, cur, rfl, hg, hh, hc, hm, hs, ht⟩
  · omega
  · refine ⟨g, cap, rfl, blk_lt hh, fun i hi => ?_⟩
    obtain ⟨r, hr, hrl⟩ := heldC_split l h i hi
    have hb := World.rangeAt_of_block hh 0 (l.length * 65)
    rw [show (cur.extract 0 (0 + l.length * 65)).toList = heldC l by rw [← ht]; simp] at hb
    rw [hr] at hb
    have := rangeAt_part hb
    rw [hrl, Nat.zero_add] at this
    exact this
/-- What is read of a sector. -/
def seeL (H : List (Int × List Int)) (k : Int) (b : List Int) : List Int := H.foldl (fun b x => if x.1 = k then x.2 else b) b
def DSt.see (d : DSt) (k : Nat) : List Int := seeL d.H k (d.S.getD k [])
theorem see_succ (H : List (Int × List Int)) (k : Int) (b : List Int) (i : Nat) (hi : i < H.length) : seeL (H.take (i + 1)) k b = if H[i].1 = k then H[i].2 else seeL (H.take i) k b := by
  unfold seeL
  rw [List.take_add_one, List.getElem?_eq_getElem hi, Option.toList_some, List.foldl_append]
  rfl
theorem info64 : (Tryd.prog.info? 117).map (·.size) = some 64 := by kernel_rfl
theorem info65 : (Tryd.prog.info? 173).map (·.size) = some 65 := by kernel_rfl
theorem zsize65 : Tryd.zeroCells173.size = 65 := by kernel_rfl
theorem size8 {l : List Int} {n : Nat} (h : l.length = n) : (cells8 l).size = n := by simp [cells8, h]
theorem ones8 (l : List Int) : (cells8 l).all (·.oneCell') = true := by simp [cells8, Value.oneCell']
theorem onesH (x : Int × List Int) : (heldV x).toArray.all (·.oneCell') = true := all_oneCell_toArray (fun v hv => by unfold heldV at hv; rcases List.mem_cons.1 hv with rfl | h; rfl; obtain ⟨y, _, rfl⟩ := List.mem_map.1 h; rfl)
theorem seeL_length {H : List (Int × List Int)} {k : Int} {b : List Int} (hH : ∀ x ∈ H, x.2.length = 64) (hb : b.length = 64) : (seeL H k b).length = 64 := by
  unfold seeL
  induction H generalizing b with
  | nil => exact hb
  | cons x l ih =>
    rw [List.foldl_cons]
    refine ih (fun y hy => hH y (by simp [hy])) ?_
    split
    · exact hH x (by simp)
    · exact hb
set_option maxRecDepth 100000 in
set_option maxHeartbeats 4000000 in
theorem read_c {base p gs : Nat} {hv cv : Value} {d : DSt} {w : World} (h : Dk base p gs hv cv d w) (hd : d.down = false) (k : Nat) (hk : k < d.S.length) :
    Calls Tryd.prog 87 #[.pointer (some ⟨p, 0, none⟩), .int .i64 k] w fun e w' => ∃ g, e = .returned (.tuple #[.slice (some ⟨g, 0, none⟩) 64 64, .int .i64 0]) ∧ w'.heap[g]? = some (.cells (cells8 (d.see k)) 117 (0, 0)) ∧ w.heap.size ≤ g ∧ Below w.heap.size w w' := by
  obtain ⟨A, c, rfl⟩ := own_slice h.h
  have K := at_c h k
  rw [show d.atE k = 0 by unfold DSt.atE; rw [hd]; simp; omega] at K
  have K := Aside0.mk K
  have hn1 := h.n1
  obtain ⟨n, hn⟩ : ∃ n, n = d.S.length := ⟨_, rfl⟩
  obtain ⟨m, hm⟩ : ∃ m, m = d.H.length := ⟨_, rfl⟩
  obtain ⟨b0, hb0⟩ : ∃ b, b = d.S.getD k [] := ⟨_, rfl⟩
  have hb64 := h.s.l k hk
  rw [← hn] at hk hn1
  rw [← hb0] at hb64
  have hH64 : ∀ x ∈ d.H, x.2.length = 64 := fun x hx => (h.h64 x hx).1
  have hrow := h.s.p k (by rw [← hn]; exact hk)
  rw [← hb0] at hrow
  have hml := h.m1
  rw [← hm] at hml
  have HD := Aside0.mk (And.intro h (And.intro hn (And.intro hm (And.intro hb0 (And.intro hb64 (And.intro hH64 hrow))))))
  have hkI : (k : Int) < (n : Int) := by omega
  have hnI : (n : Int) ≤ 16384 := by omega
  have hmI : (m : Int) ≤ 100000 := by omega
  rw [show d.see k = seeL (d.H.take m) k b0 by unfold DSt.see; rw [hm, hb0, List.take_length]]
  clear h hd hk hn1 hn hm hb0 hb64 hH64 hrow hml
  go_enter Tryd.func87, Tryd.ntmps87
  go_upto_region 4 with (first
    | (go_at_call 118; refine K.out.mono ?_; rintro e w1 ⟨rfl, hB⟩; have P1 := Aside0.mk (And.intro (HD.out.1.below hB) (And.intro (rangeAt_below HD.out.2.2.2.2.2.2 hB) hB)); clear hB))
  have c0 := P1.out.1.cells.1
  rw [← HD.out.2.1] at c0
  go_upto_region 5 with (first
    | (refine wpList_load_mid rfl 117 (.tmp 21) rfl gs (k * 64) (by rfl) (cells8 b0).toList _ P1.out.2.1 Tryd.underlying117 (by rfl) (by rw [Array.length_toList, size8 HD.out.2.2.2.2.1]; exact info64) ?_)
    | (refine wpList_store_row rfl 117 (.tmp 7) (.tmp 22) rfl w1.heap.size (cells8 b0) (by rfl) (by rfl) 117 (cells8 (List.replicate 64 0)) (blk_new w1 _) (by rw [size8 HD.out.2.2.2.2.1]; exact info64) (by rw [size8 HD.out.2.2.2.2.1]; rfl) (ones8 _) ?_; rw [World.setRow_alloc_new]))
  have P2 : Aside0 ((w1.alloc (.cells (cells8 b0) 117)).heap[w1.heap.size]? = some (.cells (cells8 (seeL (d.H.take 0) k b0)) 117 (0, 0)) ∧ Dk base p gs (.slice A d.H.length c) cv d (w1.alloc (.cells (cells8 b0) 117)) ∧ Below w.heap.size w (w1.alloc (.cells (cells8 b0) 117)) ∧ w.heap.size ≤ w1.heap.size) := ⟨new1 _ _, P1.out.1.below (below_alloc (Below.refl _ _) _), below_step P1.out.2.2 (below_alloc (Below.refl _ _) _), P1.out.2.2.size⟩
  clear P1 c0
  generalize (w1.alloc (.cells (cells8 b0) 117)) = w2 at P2 ⊢
  generalize w1.heap.size = g7 at P2 ⊢
  have c1 := P2.out.2.1.cells.2.1
  rw [← HD.out.2.2.1] at c1
  go_upto_region 6 with (fail)
  clear c1
  go_loopg [28] m (fun j t wr => ∃ i : Nat, i + j = m ∧ t = .int .i64 (i : Int) ∧ Aside0 (wr.heap[g7]? = some (.cells (cells8 (seeL (d.H.take i) k b0)) 117 (0, 0)) ∧ Dk base p gs (.slice A d.H.length c) cv d wr ∧ Below w.heap.size w wr ∧ w.heap.size ≤ g7))
  case atStart => exact ⟨0, by omega, rfl, P2⟩
  case round =>
    clear P2
    obtain ⟨i, him, rfl, P⟩ := hrel
    by_cases hi : i < m
    · have hiI : (i : Int) < (m : Int) := by omega
      obtain ⟨gh, cap, he, hgh, hat⟩ := held_at P.out.2.1.h HD.out.2.2.2.2.2.1 (by rw [← HD.out.2.2.1]; omega)
      injection he with hA _ hc'
      subst hA
      have hi2 : i < d.H.length := by rw [← HD.out.2.2.1]; exact hi
      have hx := hat i hi2
      have hsee := see_succ d.H k b0 i hi2
      obtain ⟨x, hxe⟩ : ∃ x, x = d.H[i] := ⟨_, rfl⟩
      rw [← hxe] at hx hsee
      have hx64 : x.2.length = 64 := HD.out.2.2.2.2.2.1 x (by rw [hxe]; exact List.getElem_mem hi2)
      have hs64 : (seeL (d.H.take i) k b0).length = 64 := seeL_length (fun y hy => HD.out.2.2.2.2.2.1 y (List.mem_of_mem_take hy)) HD.out.2.2.2.2.1
      obtain ⟨b, hb⟩ : ∃ b, b = seeL (d.H.take i) k b0 := ⟨_, rfl⟩
      rw [← hb] at P hsee hs64
      obtain ⟨xa, xb⟩ := x
      simp only at hsee hx64
      have HX := Aside0.mk (And.intro hx (And.intro hsee (And.intro hx64 (And.intro hs64 him))))
      clear hx hsee hxe hx64 hs64 hb him hat hgh hi2 hc' cap hi
      go_upto_region 8 with (first
        | (refine wpList_load_mid rfl 173 (.tmp 30) rfl gh (i * 65) (by rfl) (heldV (xa, xb)) _ HX.out.1 Tryd.underlying173 (by rfl) (by rw [heldV_length HX.out.2.2.1]; exact info65) ?_)
        | (refine wpList_store_row rfl 173 (.tmp 9) (.tmp 31) rfl wr.heap.size (heldV (xa, xb)).toArray (by rfl) (by rfl) 173 Tryd.zeroCells173 (blk_new wr _) (by rw [List.size_toArray, heldV_length HX.out.2.2.1]; exact info65) (by rw [zsize65, List.size_toArray, heldV_length HX.out.2.2.1]) (onesH _) ?_; rw [World.setRow_alloc_new]))
      have P3 := Aside0.mk (And.intro (blk_alloc P.out.1 (.cells (heldV (xa, xb)).toArray 173)) (And.intro (P.out.2.1.below (below_alloc (Below.refl _ _) (.cells (heldV (xa, xb)).toArray 173))) (And.intro (below_step P.out.2.2.1 (below_alloc (Below.refl wr.heap.size wr) (.cells (heldV (xa, xb)).toArray 173))) (And.intro P.out.2.2.2 (new1 wr (.cells (heldV (xa, xb)).toArray 173))))))
      have hne : wr.heap.size ≠ g7 := Nat.ne_of_gt (blk_lt P.out.1)
      have HNE := Lib.hid hne
      clear hne P
      generalize (wr.alloc (.cells (heldV (xa, xb)).toArray 173)) = w3 at P3 ⊢
      generalize wr.heap.size = g9 at P3 HNE ⊢
      have c90 : w3.cell? ⟨g9, 0, none⟩ = some (.int .i64 xa) := (blk_cell P3.out.2.2.2.2 0).trans rfl
      have hr9 : w3.rangeAt g9 1 (cells8 xb).toList := by
        have := World.rangeAt_of_block P3.out.2.2.2.2 1 64
        rw [show ((heldV (xa, xb)).toArray.extract 1 (1 + 64)).toList = (cells8 xb).toList by unfold heldV cells8; simp; exact List.take_of_length_le (by rw [List.length_map, HX.out.2.2.1]; exact Nat.le_refl _)] at this
        exact this
      have HR9 := Aside0.mk hr9
      clear hr9
      by_cases hxk : xa = (k : Int)
      · subst hxk
        have hs2 := HX.out.2.1
        rw [if_pos rfl] at hs2
        have HS2 := Lib.hid hs2
        clear hs2
        go_wp2_with (first
          | (refine wpList_load_mid rfl 117 (.tmp 36) rfl g9 1 (by rfl) (cells8 xb).toList _ HR9.out Tryd.underlying117 (by rfl) (by rw [Array.length_toList, size8 HX.out.2.2.1]; exact info64) ?_)
          | (refine wpList_store_row rfl 117 (.tmp 7) (.tmp 37) rfl g7 (cells8 xb) (by rfl) (by rfl) 117 (cells8 b) P3.out.1 (by rw [size8 HX.out.2.2.1]; exact info64) (by rw [size8 HX.out.2.2.1, size8 HX.out.2.2.2.1]) (ones8 _) ?_))
        go_roundg (gk - 1)
        all_goals first
          | omega
          | exact ⟨i + 1, by have := HX.out.2.2.2.2; omega, by go_num, ⟨by rw [HS2.out]; exact setRow_heap _ _ _ _ _ _ P3.out.1, HD.out.1.below (below_setRow P3.out.2.2.1 P3.out.2.2.2.1 _), below_setRow P3.out.2.2.1 P3.out.2.2.2.1 _, P3.out.2.2.2.1⟩⟩
          | (have := HX.out.2.2.2.2; omega)
      · have hs2 := HX.out.2.1
        rw [if_neg hxk] at hs2
        have HS2 := Lib.hid hs2
        clear hs2
        go_wp2
        go_roundg (gk - 1)
        all_goals first
          | omega
          | exact ⟨i + 1, by have := HX.out.2.2.2.2; omega, by go_num, ⟨by rw [HS2.out]; exact P3.out.1, P3.out.2.1, P3.out.2.2.1, P3.out.2.2.2.1⟩⟩
          | (have := HX.out.2.2.2.2; omega)
    · have hiI : ¬ (i : Int) < (m : Int) := by omega
      obtain rfl : i = m := by omega
      go_wp2
      go_ret2
      exact ⟨g7, rfl, P.out.1, P.out.2.2.2, P.out.2.2.1⟩
end Go.Proofs.YtbenedckmapjoaaDoor.D
namespace Go.Proofs.YtbenedckmapjoaaDoor.D
open Go.RowKit Go.Proofs.YtbenedckmapjoaaDoor.H Go.Proofs.YtbenedckmapjoaaDoor.F Go.Proofs.YtbenedckmapjoaaDoorW.PrintWords Go.Proofs.YtbenedckmapjoaaDoorW.PrintLast Go.Proofs.YtbenedckmapjoaaDoorW.PrintMore
set_option linter.unusedVariables false
set_option linter.unusedSimpArgs false
theorem info_byte : (Tryd.prog.info? 5).map (fun i => (i.zero, i.size, i.bytes)) = some (some (.int .u8 0), 1, 1) := by kernel_rfl
theorem R_C0 {e base : Nat} {ok : Nat → Prop} {A : Option Addr} {m c : Nat} {xs : List Int} {w : World} (h : Kd.R (Kd.int .u8) e w base ok (.slice A m c) xs) : Kd.C (Kd.int .u8) w A m xs := by
  obtain ⟨h1, _, h3⟩ := Kd.R_reads' h
  rw [← h1] at h3
  exact h3
/-- What is read of sectors, one behind the other. -/
def DSt.sees (d : DSt) (k : Nat) : Nat → List Int
  | 0 => []
  | i + 1 => d.sees k i ++ d.see (k + i)
theorem sees_length {d : DSt} {k : Nat} : ∀ {q : Nat}, (∀ i, i < q → (d.see (k + i)).length = 64) → (d.sees k q).length = 64 * q
  | 0, _ => rfl
  | q + 1, h => by rw [DSt.sees, List.length_append, sees_length (fun i hi => h i (by omega)), h q (by omega)]; omega
theorem Dk.see64 {base p gs : Nat} {hv cv : Value} {d : DSt} {w : World} (h : Dk base p gs hv cv d w) {k : Nat} (hk : k < d.S.length) : (d.see k).length = 64 := seeL_length (fun x hx => (h.h64 x hx).1) (h.s.l k hk)
theorem blk_C {w : World} {g : Nat} {l : List Int} {t : TypeId} (h : w.heap[g]? = some (.cells (cells8 l) t (0, 0))) (hl : l.length ≤ 100000) : Kd.C (Kd.int .u8) w (some ⟨g, 0, none⟩) l.length l := by
  refine ⟨rfl, by show l.length ≤ 9223372036854775807; omega, fun _ => ⟨_, rfl, fun j x hj => ⟨[.int .u8 x], rfl, rfl, fun i u hu => ?_⟩⟩⟩
  have hi0 : i = 0 := by have := (List.getElem?_eq_some_iff.1 hu).1; simpa using this
  subst hi0
  obtain rfl : Value.int .u8 x = u := by simpa using hu
  have hj2 := (List.getElem?_eq_some_iff.1 hj).1
  have := (blk_cell h j).trans (cells8_get l j hj2)
  rw [show l.getD j 0 = x by rw [List.getD_eq_getElem?_getD, hj]; rfl] at this
  rw [Addr.add_mid]
  rw [show 0 + (j * (Kd.int .u8).sz + 0) = j by show 0 + (j * 1 + 0) = j; omega]
  exact this
set_option maxRecDepth 100000 in
set_option maxHeartbeats 4000000 in
theorem load_c {base p gs : Nat} {hv cv : Value} {d : DSt} {w : World} (h : Dk base p gs hv cv d w) (hd : d.down = false) (k n : Nat) (hk : k + needN n ≤ d.S.length) :
    Calls Tryd.prog 36 #[.pointer (some ⟨p, 0, none⟩), .int .i64 k, .int .i64 n] w fun e w' => ∃ v, e = .returned (.tuple #[v, .int .i64 0]) ∧ (∃ A, v = .slice A n n ∧ (0 < n → ∃ g, A = some ⟨g, 0, none⟩ ∧ w.heap.size ≤ g ∧ ∃ cells, w'.heap[g]? = some (.cells cells 5 (0, 0))) ∧ Kd.C (Kd.int .u8) w' A n ((d.sees k (needN n)).take n)) ∧ Below w.heap.size w w' := by
  have K1 := ready_c h
  have K2 := span_c h k n hk
  rw [show d.ready = 0 by unfold DSt.ready; rw [hd]; rfl] at K1 K2
  have hn1 := h.n1
  have hnn : n ≤ 1000000000 := by unfold needN at hk; omega
  obtain ⟨q, hq⟩ : ∃ q, q = needN n := ⟨_, rfl⟩
  have K3 := need_c n hnn
  rw [← hq] at K3 hk ⊢
  have hnq : n ≤ 64 * q := by rw [hq]; unfold needN; omega
  have HK := Aside0.mk (And.intro (fun w1 (hb : Below w.heap.size w w1) => span_c (h.below hb) k n (by rw [← hq]; exact hk)) (fun w1 (hb : Below w.heap.size w w1) (i : Nat) (hi : i < q) => read_c (h.below hb) hd (k + i) (by omega)))
  have HK1 := Aside0.mk K1
  have HK3 := Aside0.mk K3
  have hsee : ∀ i, i < q → (d.see (k + i)).length = 64 := fun i hi => h.see64 (by omega)
  have hr0 : d.ready = 0 := by unfold DSt.ready; rw [hd]; rfl
  have hq0 : n = 0 → q = 0 := fun e => by rw [hq, e]; rfl
  have hq1 : 0 < n → 0 < q := fun e => by rw [hq]; unfold needN; omega
  have HD := Aside0.mk (And.intro hsee (And.intro hnq (And.intro hr0 (And.intro hk (And.intro hq0 hq1)))))
  have hkI : (k : Int) ≤ 16384 := by omega
  have hqI : (q : Int) ≤ 16384 := by omega
  have hnI : (n : Int) ≤ 1000000000 := by omega
  clear K1 K2 K3 h hd hn1 hnn hq hsee hr0 hnq hk hq0 hq1
  go_enter Tryd.func36, Tryd.ntmps36
  go_upto_region 11 with (first
    | (go_at_call 82; refine HK1.out.mono ?_; rintro e w1 ⟨rfl, hB⟩; have B1 := Aside0.mk hB; clear hB)
    | (go_at_call 79; refine (HK.out.1 _ B1.out).mono ?_; rintro e w2 ⟨rfl, hB⟩; rw [HD.out.2.2.1]; have B2 := Aside0.mk (below_step B1.out hB); clear hB)
    | (go_at_call 80; refine (HK3.out _).mono ?_; rintro e w3 ⟨rfl, rfl⟩))
  go_loopg [10, 30] q (fun j v t wr => ∃ (i : Nat) (vv : Value), vv = v ∧ i + j = q ∧ t = .int .i64 (i : Int) ∧ Aside0 ((i = 0 → vv = .slice none 0 0) ∧ (Kd.int .u8).R 5 wr w.heap.size (fun k => w.heap.size ≤ k) vv (d.sees k i) ∧ Below w.heap.size w wr))
  case atStart => exact ⟨0, _, rfl, by omega, rfl, ⟨fun _ => rfl, Kd.R_nil _ _ _ _ _, B2.out⟩⟩
  case round =>
    clear B1 B2
    obtain ⟨i, v, rfl, hiq, rfl, P⟩ := hrel
    by_cases hi : i < q
    · have hiI : (i : Int) < (q : Int) := by omega
      have hK := HK.out.2 _ P.out.2.2 i hi
      rw [show ((k + i : Nat) : Int) = (k : Int) + (i : Int) by omega] at hK
      have hs64 := HD.out.1 i hi
      have hln : (d.sees k i).length = 64 * i := sees_length (fun j hj => HD.out.1 j (by omega))
      have hss : d.sees k (i + 1) = d.sees k i ++ d.see (k + i) := rfl
      obtain ⟨b, hb⟩ : ∃ b, b = d.see (k + i) := ⟨_, rfl⟩
      rw [← hb] at hK hs64 hss
      obtain ⟨y, hy⟩ : ∃ y, y = d.sees k i := ⟨_, rfl⟩
      rw [← hy] at P hln hss
      have HX := Aside0.mk (And.intro hK (And.intro hs64 (And.intro hln (And.intro hss (And.intro hiq hi)))))
      clear hK hs64 hln hss hb hy hiq hi
      go_wp2_with (first
        | (go_at_call 87; refine HX.out.1.mono ?_; rintro e w5 ⟨g5, rfl, hc5, hg5, hB⟩
           have P5 := Aside0.mk (And.intro (Kd.R_below P.out.2.1 hB) (And.intro (below_step P.out.2.2 hB) (blk_C hc5 (by rw [HX.out.2.1]; decide))))
           rw [HX.out.2.1] at P5
           clear hc5 hg5 hB)
        | ((with_reducible refine gate_builtin (b := .append) (xs := #[.tmp 41, .tmp 42]) rfl ?_); at_builtin; (refine Kd.R_append_rows (Kd.int .u8) (w0 := w) w.heap.size rfl (.tmp 41) (.tmp 42) 30 5 (.int .u8 0) 1 rfl Tryd.underlying30 info_byte rfl (by decide) (by omega) v y b _ _ _ (fun k => w.heap.size ≤ k) (fun _ => False) rfl rfl P5.out.1 P5.out.2.2 (fun _ _ h => h) (fun _ h => h.elim) (fun k hk => Nat.le_trans P5.out.2.1.size hk) P5.out.2.1 P5.out.2.1.size (by rw [HX.out.2.2.1]; have := HX.out.2.2.2.2.2; show (64 * i + 64) * 1 ≤ _; omega) ?_); intro v6 w6 ho6 hb6 hg6 hat6; have P6 := Aside0.mk (And.intro ho6 hb6); clear ho6 hb6 hg6 hat6))
      go_roundg (gk - 1)
      all_goals first
        | omega
        | exact ⟨i + 1, _, rfl, by have := HX.out.2.2.2.2.1; omega, by go_num, ⟨fun e => absurd e (Nat.succ_ne_zero i), by rw [HX.out.2.2.2.1]; exact P6.out.1, P6.out.2⟩⟩
        | (have := HX.out.2.2.2.2.1; omega)
    · have hiI : ¬ (i : Int) < (q : Int) := by omega
      obtain rfl : i = q := by omega
      have hln : (d.sees k i).length = 64 * i := sees_length (fun j hj => HD.out.1 j (by omega))
      rcases Nat.eq_zero_or_pos n with hn0 | hn0
      · have hi0 := HD.out.2.2.2.2.1 hn0
        subst hn0
        have hv := P.out.1 hi0
        subst hv
        go_wp2
        go_ret2
        exact ⟨_, rfl, ⟨none, rfl, Kd.C_nil _ _⟩, P.out.2.2⟩
      · obtain ⟨g, cap, hv, hg, hgs, _⟩ := Kd.R_form P.out.2.1 (by rw [hln]; have := HD.out.2.2.2.2.2 hn0; omega)
        subst hv
        obtain ⟨_, hcap, hC⟩ := Kd.R_reads' P.out.2.1
        have hnc : (n : Int) ≤ (cap : Int) := by have := HD.out.2.1; rw [hln] at hcap; omega
        have hR := Kd.R_take P.out.2.1 (m := n) (by rw [hln]; exact HD.out.2.1)
        have HF := Aside0.mk (And.intro hR (And.intro hg P.out.2.2))
        clear hC hcap hR hg hgs P hiq hln hi hiI
        go_wp2
        go_ret2
        exact ⟨_, rfl, ⟨_, rfl, ⟨g, rfl, HF.out.2.1, Kd.R_typed HF.out.1 g rfl⟩, R_C0 HF.out.1⟩, HF.out.2.2⟩
end Go.Proofs.YtbenedckmapjoaaDoor.D
