/- Several texts as one. -/
import Derived.Test.YtbenedckmapjoaaDoorY1
namespace Go.Proofs.YtbenedckmapjoaaDoor.D
open Go.RowKit Go.Proofs.YtbenedckmapjoaaDoor.H Go.Proofs.YtbenedckmapjoaaDoor.F Go.Proofs.YtbenedckmapjoaaDoorW.PrintWords Go.Proofs.YtbenedckmapjoaaDoorW.PrintLast Go.Proofs.YtbenedckmapjoaaDoorW.PrintMore
set_option linter.unusedVariables false
set_option linter.unusedSimpArgs false
set_option maxRecDepth 100000 in
set_option maxHeartbeats 4000000 in
theorem all_c (w : World) (i : Int) : Calls Tryd.prog 86 #[.int .i64 i] w fun e w' => e = .returned (.bool true) ∧ w' = w := by
  go_enter Tryd.func86, Tryd.ntmps86
  go_wp2
  go_ret
  exact ⟨rfl, rfl⟩
/-- What the sectors are when those held writes are put that k tells. -/
def putsL (kp : Nat → Bool) (H : List (Int × List Int)) (S : List (List Int)) : Nat → List (List Int)
  | 0 => S
  | i + 1 => if kp i then (putsL kp H S i).set (H.getD i (0, [])).1.toNat (H.getD i (0, [])).2 else putsL kp H S i
theorem putsL_length (kp : Nat → Bool) (H : List (Int × List Int)) (S : List (List Int)) : ∀ i, (putsL kp H S i).length = S.length
  | 0 => rfl
  | i + 1 => by
    rw [putsL]
    split
    · rw [List.length_set]; exact putsL_length kp H S i
    · exact putsL_length kp H S i
theorem blk_setCells {g : Nat} {t : TypeId} : ∀ (vs : List Value) (o : Nat) (w : World) (cs : Array Value), w.heap[g]? = some (.cells cs t (0, 0)) → ∃ cs', (w.setCells g o vs).heap[g]? = some (.cells cs' t (0, 0)) ∧ cs'.size = cs.size
  | [], _, w, cs, h => ⟨cs, h, rfl⟩
  | v :: r, o, w, cs, h => by
    obtain ⟨cs', h1, h2⟩ := blk_setCells r (o + 1) (w.setCell ⟨g, o, none⟩ v) _ (blk_put h o v rfl)
    exact ⟨cs', h1, by rw [h2, Array.size_setIfInBounds]⟩
theorem Sec.put {gs : Nat} {S : List (List Int)} {w : World} (h : Sec gs S w) (a : Nat) (b : List Int) (ha : a < S.length) (hb : b.length = 64) : Sec gs (S.set a b) (w.setCells gs (a * 64) (cells8 b).toList) := by
  have l8 : (cells8 b).toList.length = 64 := by rw [Array.length_toList]; exact size8 hb
  have hg : ∀ i, (S.set a b).getD i [] = if a = i then b else S.getD i [] := fun i => getD_set_gen S [] a i b ha
  obtain ⟨cells, hty⟩ := h.ty
  obtain ⟨cs', h1, _⟩ := blk_setCells (cells8 b).toList (a * 64) w cells hty
  refine ⟨fun i hi => ?_, by rw [List.length_set]; exact World.there_setCells h.t _ _ _, fun i hi => ?_, ⟨cs', h1⟩⟩
  · rw [List.length_set] at hi
    rw [hg]
    split
    · rename_i e
      subst e
      exact World.rangeAt_setCells_same _ _ _ _ (there_part h.t (by rw [l8]; omega))
    · rename_i e
      refine World.rangeAt_setCells_apart (h.p i hi) _ _ _ (.inr ?_)
      have : (cells8 (S.getD i [])).toList.length = 64 := by rw [Array.length_toList]; exact size8 (h.l i hi)
      rw [this, l8]
      omega
  · rw [List.length_set] at hi
    rw [hg]
    split
    · exact hb
    · exact h.l i hi
theorem Dk.lt {base p gs : Nat} {hv cv : Value} {d : DSt} {w : World} (h : Dk base p gs hv cv d w) : base ≤ w.heap.size := Nat.le_trans h.bp (Nat.le_of_lt (blk_lt h.o))
/-- Other writes wait. -/
theorem Dk.held {base p gs : Nat} {hv cv : Value} {d : DSt} {w : World} (h : Dk base p gs hv cv d w) (hv' : Value) (H' : List (Int × List Int)) (ho : w.ownsRow base 173 65 hv' H'.length (heldC H')) (h64 : ∀ x ∈ H', x.2.length = 64 ∧ 0 ≤ x.1 ∧ x.1 < d.S.length) (hm : H'.length ≤ 100000) :
    Dk base p gs hv' cv { d with H := H' } (w.setCell ⟨p, 1, none⟩ hv') ∧ Mv w (w.setCell ⟨p, 1, none⟩ hv') ∧ Below base w (w.setCell ⟨p, 1, none⟩ hv') := by
  obtain ⟨cells, hty⟩ := h.s.ty
  have hmv := Mv.set h.o (.inl rfl) 1 hv'
  exact ⟨⟨blk_put h.o 1 hv' rfl, h.s.move (Below.heap_setCell w _ hv' gs (ne_types hty h.o (by decide))), own_move ho (fun k hk => Below.heap_setCell w _ hv' k (own_types ho h.o (by decide) k hk)), h.c.mv hmv, h64, h.bp, h.bs, h.n1, hm, h.k1⟩, hmv, (Below.refl base w).setCell h.bp _⟩
/-- A sector is written. -/
theorem Dk.sector {base p gs : Nat} {hv cv : Value} {d : DSt} {w : World} (h : Dk base p gs hv cv d w) (a : Nat) (b : List Int) (ha : a < d.S.length) (hb : b.length = 64) :
    Dk base p gs hv cv { d with S := d.S.set a b } (w.setCells gs (a * 64) (cells8 b).toList) ∧ Mv w (w.setCells gs (a * 64) (cells8 b).toList) ∧ Below base w (w.setCells gs (a * 64) (cells8 b).toList) := by
  obtain ⟨cells, hty⟩ := h.s.ty
  have hm := Mv.sets hty (.inr (.inl rfl)) (a * 64) (cells8 b).toList
  refine ⟨⟨?_, h.s.put a b ha hb, own_move h.h (fun k hk => heap_setCells (own_types h.h hty (by decide) k hk) _ _ _), h.c.mv hm, by simp only [List.length_set]; exact h.h64, h.bp, h.bs, by simp only [List.length_set]; exact h.n1, h.m1, h.k1⟩, hm, below_setCells h.bs _ _ _ (Below.refl _ _)⟩
  simp only [List.length_set]
  exact (heap_setCells (ne_types h.o hty (by decide)) _ _ _).trans h.o
theorem zeroCells_length (z : Array Value) (n : Nat) : (Builtin.zeroCells z n).toList.length = n * z.size := by unfold Builtin.zeroCells; simp
theorem zeroCells_one (z : Array Value) (h1 : z.all (·.oneCell') = true) (n : Nat) : ∀ v ∈ (Builtin.zeroCells z n).toList, v.oneCell' = true := fun v hv => by
  unfold Builtin.zeroCells at hv
  simp only [Array.toList_map, Array.toList_range, List.mem_map, List.mem_range] at hv
  obtain ⟨i, hi, rfl⟩ := hv
  have h0 : 0 < z.size := by rcases Nat.eq_zero_or_pos z.size with h | h; rw [h, Nat.mul_zero] at hi; omega; exact h
  have h2 : i % z.size < z.size := Nat.mod_lt _ h0
  rw [show z[i % z.size]! = z[i % z.size]'h2 from getElem!_pos z (i % z.size) h2]
  exact Array.all_eq_true.1 h1 _ h2
theorem run_clear_any {P : Program} (w : World) (t e ty : TypeId) (z : Value) (ht : P.underlying t = some (.slice e)) (hv : ∀ w, (zeroValue e).run P w = .ok z w) (h1 : z.cells.all (·.oneCell') = true) (b o n c : Nat) (hn : 0 < n)
    (hc : w.there b o (n * z.cells.size)) : (Builtin.clear_ #[t] ty #[.slice (some ⟨b, o, none⟩) n c]).run P w = .ok (.tuple #[]) (w.setCells b o (Builtin.zeroCells z.cells n).toList) := by
  have hst := run_storeCells_cells (P := P) b o (Builtin.zeroCells z.cells n).toList 0 w (by intro j hj; rw [zeroCells_length] at hj; simpa using (hc j hj).1) (by intro j hj; rw [zeroCells_length] at hj; simpa using (hc j hj).2) (zeroCells_one _ h1 n)
  simp only [Nat.add_zero] at hst
  obtain ⟨m, rfl⟩ : ∃ m, n = m + 1 := ⟨n - 1, by omega⟩
  simp [Builtin.clear_, run_underlying ht, hv, hst]
theorem zero_held (w : World) : (zeroValue 173).run Tryd.prog w = .ok (.agg Tryd.zeroCells173) w := by kernel_rfl
theorem clear_held (w : World) (g n c : Nat) (hn : 0 < n) (ht : w.there g 0 (n * 65)) : ∃ Z : List Value, ∀ ty, (Builtin.clear_ #[113] ty #[.slice (some ⟨g, 0, none⟩) n c]).run Tryd.prog w = .ok (.tuple #[]) (w.setCells g 0 Z) :=
  ⟨_, fun ty => run_clear_any w 113 173 ty (.agg Tryd.zeroCells173) Tryd.underlying113 zero_held (by kernel_rfl) g 0 n c hn (by rw [show (Value.agg Tryd.zeroCells173).cells.size = 65 from zsize65]; exact ht)⟩
theorem clear_none (w : World) (ty : TypeId) : (Builtin.clear_ #[113] ty #[.slice none 0 0]).run Tryd.prog w = .ok (.tuple #[]) w := by
  simp [Builtin.clear_, run_underlying Tryd.underlying113]
theorem clear_zero (w : World) (a : Addr) (c : Nat) (ty : TypeId) : (Builtin.clear_ #[113] ty #[.slice (some a) 0 c]).run Tryd.prog w = .ok (.tuple #[]) w := by
  simp [Builtin.clear_, run_underlying Tryd.underlying113]
/-- The held writes' block is wiped: the disk, none of its writes left, once its own cell says so. -/
theorem Dk.wiped {base p gs : Nat} {cv : Value} {d : DSt} {w : World} {g n c : Nat} {cur : Array Value} (h : Dk base p gs (.slice (some ⟨g, 0, none⟩) n c) cv d w) (hg : base ≤ g) (hh : w.heap[g]? = some (.cells cur 173 (0, 0))) (hmx : c ≤ maxLen) (hsz : cur.size = c * 65) (Z : List Value) :
    Dk base p gs (.slice (some ⟨g, 0, none⟩) 0 c) cv { d with H := [] } ((w.setCells g 0 Z).setCell ⟨p, 1, none⟩ (.slice (some ⟨g, 0, none⟩) 0 c)) ∧ Mv w ((w.setCells g 0 Z).setCell ⟨p, 1, none⟩ (.slice (some ⟨g, 0, none⟩) 0 c)) ∧ Below base w ((w.setCells g 0 Z).setCell ⟨p, 1, none⟩ (.slice (some ⟨g, 0, none⟩) 0 c)) ∧ (w.setCells g 0 Z).cell? ⟨p, 1, none⟩ = some (.slice (some ⟨g, 0, none⟩) n c) ∧ (w.setCells g 0 Z).frozen? ⟨p, 1, none⟩ = false := by
  obtain ⟨cells, hty⟩ := h.s.ty
  obtain ⟨cur', h1, h2⟩ := blk_setCells Z 0 w cur hh
  have hm1 := Mv.sets hh (.inr (.inr rfl)) 0 Z
  have hpg : p ≠ g := ne_types h.o hh (by decide)
  have ho : (w.setCells g 0 Z).heap[p]? = some (.cells (dkV gs d.S.length (.slice (some ⟨g, 0, none⟩) n c) cv d) 115 (0, 0)) := (heap_setCells hpg _ _ _).trans h.o
  have hm2 := Mv.set ho (.inl rfl) 1 (.slice (some ⟨g, 0, none⟩) 0 c)
  have hgp : ∀ k, k ≠ p → ((w.setCells g 0 Z).setCell ⟨p, 1, none⟩ (.slice (some ⟨g, 0, none⟩) 0 c)).heap[k]? = (w.setCells g 0 Z).heap[k]? := fun k hk => Below.heap_setCell _ _ _ k hk
  refine ⟨⟨blk_put ho 1 _ rfl, h.s.move ((hgp gs (ne_types hty h.o (by decide))).trans (heap_setCells (ne_types hty hh (by decide)) _ _ _)), ⟨rfl, .inr ⟨g, c, cur', rfl, hg, (hgp g (fun e => hpg e.symm)).trans h1, Nat.zero_le _, hmx, by rw [h2, hsz], rfl⟩⟩, h.c.mv (hm1.trans hm2), (fun x hx => by cases hx), h.bp, h.bs, h.n1, Nat.zero_le _, h.k1⟩, hm1.trans hm2, (below_setCells hg Z 0 w (Below.refl _ _)).setCell h.bp _, (blk_cell ho 1).trans rfl, blk_frozen ho 1⟩
theorem run_atA {P : Program} {a : Act} {oi : Oper} (w : World) (ty : TypeId) (x : Operand) (ho : oi.op = .load ty x) (b o : Nat) (hx : a.eval x = .pointer (some ⟨b, o, none⟩)) (l : Array Value) (d : TypeDesc) (hc : w.rangeAt b o l.toList)
    (hu : P.underlying ty = some d) (hd : d.isRow = true) (hi : (P.info? ty).map (·.size) = some l.size) : (execOp a.eval oi).run P w = .ok (.value (.agg l)) w := by
  have h := run_loadAt_mid (P := P) w b o ty l.toList d hc hu hd (by rw [hi]; simp)
  unfold execOp
  simp only [ho, hx, Sem.run_bind]
  rw [h]
  rfl
theorem below_step' {B : Nat} {w w1 w2 : World} (h : Below B w w1) (hb : Below w1.heap.size w1 w2) (hB : B ≤ w1.heap.size := by omega) : Below B w w2 := ⟨hb.os.trans h.os, hb.tape.trans h.tape, hb.output.trans h.output, Nat.le_trans h.size hb.size, fun k hk => (hb.block k (Nat.lt_of_lt_of_le hk hB)).trans (h.block k hk)⟩
def putsAR.T4 : Bool × List (List Nat × List Nat) := (true, [([], []), ([0], [0]), ([1], [1]), ([2], [2]), ([], []), ([4], [4]), ([5], [5]), ([6], [6]), ([], []), ([7, 8], [7, 8]), ([9], [9]), ([10], [10]), ([], []), ([12], [12]), ([13], [13]), ([14], [14]), ([], []), ([15, 16], [15, 16]), ([17], [17]), ([18], [18]), ([3, 11, 0, 1, 2, 3, 4, 5, 6, 7, 8, 9, 10, 11, 12, 13, 14, 15, 16, 17, 18, 19], [3, 11]), ([20, 19, 0, 1, 2, 3, 4, 5, 6, 7, 8, 9, 10, 11, 12, 13, 14, 15, 16, 17, 18, 19], [19, 20])])
def putsAR.B4 : List Nat := [0, 1, 3, 7, 0, 16, 48, 112, 0, 496, 1008, 2032, 0, 4096, 12288, 28672, 0, 126976, 258048, 520192, 1048575, 2097151]
theorem putsAR.tab4 : rtab .any (opsOf Tryd.f85 4) = putsAR.T4 := by kernel_rfl
theorem putsAR.bits4 : waitsOk putsAR.T4.2 putsAR.B4 = true := by kernel_rfl
set_option maxRecDepth 100000 in
set_option maxHeartbeats 8000000 in
theorem putsA_c {base p gs : Nat} {hv cv : Value} {d : DSt} {w : World} (h : Dk base p gs hv cv d w) (kp : Nat → Bool) (hkp : ∀ i, i < d.H.length → ∀ w1, Mv w w1 → Calls Tryd.prog 86 #[.int .i64 (i : Int)] w1 fun e w' => e = .returned (.bool (kp i)) ∧ Below w1.heap.size w1 w') :
    Calls Tryd.prog 85 #[.pointer (some ⟨p, 0, none⟩), .func (.func 86) #[] #[]] w fun e w' => e = .returned (.tuple #[]) ∧ (∃ hv', Dk base p gs hv' cv { d with S := putsL kp d.H d.S d.H.length, H := [] } w') ∧ Mv w w' ∧ Below base w w' := by
  obtain ⟨A, c, rfl⟩ := own_slice h.h
  have hm1 := h.m1
  obtain ⟨m, hm⟩ : ∃ m, m = d.H.length := ⟨_, rfl⟩
  obtain ⟨n, hn⟩ : ∃ n, n = d.S.length := ⟨_, rfl⟩
  have hn1 := h.n1
  rw [← hn] at hn1
  rw [← hm] at hm1 ⊢
  have c1 := h.cells.2.1
  rw [← hm] at c1
  have hmI : (m : Int) ≤ 100000 := by omega
  have hnI : (n : Int) ≤ 16384 := by omega
  have H := Aside0.mk (And.intro h (And.intro hm (And.intro hn hkp)))
  clear h hm1 hn1 hm hn hkp
  go_enter Tryd.func85, Tryd.ntmps85
  go_upto_region 1 with (fail)
  clear c1
  go_loopg [10] m (fun j t wr => ∃ (i : Nat), i + j = m ∧ t = .int .i64 (i : Int) ∧ Aside0 (Dk base p gs (.slice A d.H.length c) cv { d with S := putsL kp d.H d.S i } wr ∧ Mv w wr ∧ Below base w wr))
  case atStart => exact ⟨0, by omega, rfl, ⟨H.out.1, Mv.refl _, Below.refl _ _⟩⟩
  case round =>
    obtain ⟨i, him, rfl, P⟩ := hrel
    have HI := Lib.hid him
    clear him
    by_cases hi : i < m
    · have hiI : (i : Int) < (m : Int) := by omega
      obtain ⟨gh, cap, he, hgh, hat⟩ := held_at P.out.1.h (fun x hx => (P.out.1.h64 x hx).1) (by rw [← H.out.2.1]; omega)
      injection he with hA _ hc'
      subst hA
      have hi2 : i < d.H.length := by rw [← H.out.2.1]; exact hi
      have hx := hat i hi2
      have hps : putsL kp d.H d.S (i + 1) = if kp i = true then (putsL kp d.H d.S i).set (d.H[i]).1.toNat (d.H[i]).2 else putsL kp d.H d.S i := by
        rw [putsL, List.getD_eq_getElem?_getD, List.getElem?_eq_getElem hi2]
        rfl
      have hx64 := P.out.1.h64 d.H[i] (List.getElem_mem hi2)
      obtain ⟨x, hxe⟩ : ∃ x, x = d.H[i] := ⟨_, rfl⟩
      rw [← hxe] at hx hps hx64
      obtain ⟨xa, xb⟩ := x
      obtain ⟨a, rfl⟩ : ∃ a : Nat, xa = (a : Int) := ⟨xa.toNat, by have := hx64.2.1; simp only at this; omega⟩
      simp only at hps hx64
      rw [putsL_length, ← H.out.2.2.1] at hx64
      have haI : (a : Int) < (n : Int) := hx64.2.2
      have hps' : putsL kp d.H d.S (i + 1) = if kp i = true then (putsL kp d.H d.S i).set a xb else putsL kp d.H d.S i := by rw [hps, show ((a : Int)).toNat = a from rfl]
      have c0 := P.out.1.cells.1
      have c1 := P.out.1.cells.2.1
      simp only [putsL_length] at c0
      rw [← H.out.2.2.1] at c0
      rw [← H.out.2.1] at c1
      have c25 : wr.cell? ⟨gh, i * 65, none⟩ = some (.int .i64 (a : Int)) := by
        have := hx 0 (.int .i64 (a : Int)) rfl
        rwa [Nat.add_zero] at this
      have hxr : wr.rangeAt gh (i * 65 + 1) (cells8 xb).toList := fun j v hv => by
        have := hx (j + 1) v (by unfold heldV; simpa [cells8] using hv)
        rw [Nat.add_assoc, Nat.add_comm 1 j]
        exact this
      have hps0 := hps'
      have HX := Aside0.mk (And.intro hxr (And.intro hps' (And.intro hx64.1 (And.intro c0 (And.intro c1 c25)))))
      clear hx hps hps' hx64 hxr hgh hat hxe hi2 hc' cap
      clear c0 c1 c25
      cases hkb : kp i with
      | false =>
        rw [hkb, if_neg (by decide)] at hps0
        go_wp2_with (first
          | (go_at_call 86; refine (H.out.2.2.2 i (by rw [← H.out.2.1]; exact hi) wr (P.out.2.1)).mono ?_; rintro e w5 ⟨rfl, hb5⟩; rw [hkb]; have HB5 := Aside0.mk hb5; clear hb5))
        have P7 := Aside0.mk (P.out.1.below HB5.out)
        have PF := Aside0.mk (And.intro (P.out.2.1.below HB5.out) (below_step' P.out.2.2 HB5.out P.out.1.lt))
        go_roundg (gk - 1)
        all_goals first
          | omega
          | exact ⟨i + 1, by have := HI.out; omega, by go_num, ⟨by rw [hps0]; exact P7.out, PF.out.1, PF.out.2⟩⟩
          | (have := HI.out; omega)
      | true =>
      rw [hkb, if_pos rfl] at hps0
      go_upto_region 4 with (first
        | (go_at_call 86; refine (H.out.2.2.2 i (by rw [← H.out.2.1]; exact hi) wr (P.out.2.1)).mono ?_; rintro e w5 ⟨rfl, hb5⟩; rw [hkb]; have HB5 := Aside0.mk hb5; clear hb5))
      have c05 := (HB5.out.cell (World.block_lt_of_cell? _ _ HX.out.2.2.2.1)).trans HX.out.2.2.2.1
      have c15 := (HB5.out.cell (World.block_lt_of_cell? _ _ HX.out.2.2.2.2.1)).trans HX.out.2.2.2.2.1
      have c255 := (HB5.out.cell (World.block_lt_of_cell? _ _ HX.out.2.2.2.2.2)).trans HX.out.2.2.2.2.2
      have P4 := Aside0.mk (P.out.1.below HB5.out)
      have PF4 := Aside0.mk (And.intro (P.out.2.1.below HB5.out) (below_step' P.out.2.2 HB5.out P.out.1.lt))
      have HR5 := Aside0.mk (rangeAt_below HX.out.1 HB5.out)
      refine start_ (n := 22) (S := fun w' => (w'.cell? ⟨p, 0, none⟩ = some (.slice (some ⟨gs, 0, none⟩) n n) ∧ w'.cell? ⟨p, 1, none⟩ = some (.slice (some ⟨gh, 0, none⟩) m c) ∧ w'.cell? ⟨gh, i * 65, none⟩ = some (.int .i64 (a : Int))) ∧ Below w5.heap.size w5 w') (ds := [21]) (fl 22 0) (by kernel_rfl) rfl rfl ⟨⟨c05, c15, c255⟩, below_drew1 (Below.refl _ _)⟩ (fun hHeld => ?_)
      refine with_tabW putsAR.tab4 putsAR.bits4 (fun HT_ HW_ => ?_)
      refine pB 0 16 22 1 ?_
      refine pB 1 17 22 3 ?_
      refine pB 2 18 22 7 ?_
      refine tB 3 19 22 15 hHeld ?_
      refine pB 4 20 22 31 ?_
      refine pB 5 21 22 63 ?_
      refine pB 6 22 22 127 ?_
      refine tB 7 23 22 255 hHeld ?_
      refine pB 8 24 22 511 ?_
      refine pB 9 25 22 1023 ?_
      refine pB 10 26 22 2047 ?_
      refine tB 11 27 22 4095 hHeld ?_
      refine pB 12 28 22 8191 ?_
      refine pB 13 29 22 16383 ?_
      refine pB 14 30 22 32767 ?_
      refine tB 15 31 22 65535 hHeld ?_
      refine pB 16 32 22 131071 ?_
      refine pB 17 33 22 262143 ?_
      refine pB 18 34 22 524287 ?_
      refine takeA (i := 19) (N := some 35) (v := .agg (cells8 xb)) (fl 22 1048575) (take_ofW HT_.out HW_.out (by kernel_rfl)) hHeld ?_ (hy := fun w' s0 => run_atA w' 117 (.tmp 34) rfl gh (i * 65 + 1) (by rfl) (cells8 xb) _ (rangeAt_below HR5.out s0.2) Tryd.underlying117 (by rfl) (by rw [size8 HX.out.2.2.1]; exact info64))
      refine pB 20 36 22 2097151 ?_
      have P5 := Aside0.mk (P4.out.below hHeld.2)
      have PF := Aside0.mk (And.intro (PF4.out.1.below hHeld.2) (below_step' PF4.out.2 hHeld.2 P4.out.lt))
      clear c05 c15 c255
      refine last_ (i := 21) (N := none) (fl 22 4194303) rfl rfl (one_of HT_.out (by kernel_rfl)) (by decide) (fun K_ hK => ?_)
      refine skip_ (w1 := w5.drew.setCells gs (a * 64) (cells8 xb).toList) (by rfl) rfl (run_put_mid w5.drew 117 (.tmp 36) (.tmp 35) rfl gs (a * 64) (cells8 xb) (by rfl) (by rfl) (there_part P5.out.s.t (by rw [size8 HX.out.2.2.1]; simp only [putsL_length]; rw [← H.out.2.2.1]; omega)) (by rw [size8 HX.out.2.2.1]; exact info64) (ones8 _)) ?_
      refine hK.out _ _ ?_
      clear hK K_ hHeld
      refine done_ (done_of HT_.out (by kernel_rfl)) ?_
      clear HT_ HW_
      have P6 := Aside0.mk (P5.out.sector a xb (by simp only [putsL_length]; rw [← H.out.2.2.1]; omega) HX.out.2.2.1)
      go_wp2
      go_roundg (gk - 1)
      all_goals first
        | omega
        | exact ⟨i + 1, by have := HI.out; omega, by go_num, ⟨by rw [hps0]; exact P6.out.1, PF.out.1.trans P6.out.2.1, PF.out.2.trans P6.out.2.2⟩⟩
        | (have := HI.out; omega)

    · have hiI : ¬ (i : Int) < (m : Int) := by omega
      obtain rfl : i = m := by have := HI.out; omega
      have HN := Aside0.mk hi
      clear hi
      have hform := P.out.1.h.2
      rcases hform with ⟨hv, h0⟩ | ⟨g, cap, cur, hv, hg, hh, hcl, hmx, hsz, htk⟩
      · injection hv with hA h00 hc
        subst hA hc
        have hm0 : i = 0 := by rw [H.out.2.1]; exact h0
        subst hm0
        have c1 := P.out.1.cells.2.1
        rw [h00] at c1
        have f1 := blk_frozen P.out.1.o 1
        have hcl0 := clear_none wr
        have P9 := Aside0.mk (P.out.1.held (.slice none 0 0) [] (own_nil _ _ _ _) (fun x hx => by cases hx) (by decide))
        clear h00 h0
        go_wp2
        (try simp only [Exit.inBlock, Exit.then]); first | refine bodyPost_end (results_none rfl _ _ _) rfl ?_ | refine bodyPost_ret (results_none rfl _ _ _) rfl ?_
        exact ⟨rfl, ⟨_, P9.out.1⟩, P.out.2.1.trans P9.out.2.1, P.out.2.2.trans P9.out.2.2⟩
      · injection hv with hA h00 hc
        subst hA hc
        have c1 := P.out.1.cells.2.1
        rw [← H.out.2.1] at c1
        by_cases hm0 : i = 0
        · subst hm0
          have f1 := blk_frozen P.out.1.o 1
          have P9 := Aside0.mk (P.out.1.held (.slice (some ⟨g, 0, none⟩) 0 c) [] ⟨rfl, .inr ⟨g, c, cur, rfl, hg, hh, Nat.zero_le _, hmx, hsz, rfl⟩⟩ (fun x hx => by cases hx) (by decide))
          have hcl0 := clear_zero wr ⟨g, 0, none⟩ c
          clear h00 hg hh hcl hmx hsz htk
          go_wp2
          (try simp only [Exit.inBlock, Exit.then]); first | refine bodyPost_end (results_none rfl _ _ _) rfl ?_ | refine bodyPost_ret (results_none rfl _ _ _) rfl ?_
          exact ⟨rfl, ⟨_, P9.out.1⟩, P.out.2.1.trans P9.out.2.1, P.out.2.2.trans P9.out.2.2⟩
        · obtain ⟨Z, hZ⟩ := clear_held wr g i c (by omega) ((there_of hh (i * 65) (by rw [hsz]; rw [← H.out.2.1] at hcl; exact Nat.mul_le_mul_right _ hcl)))
          have P9 := Aside0.mk (P.out.1.wiped hg hh hmx hsz Z)
          have c9 := P9.out.2.2.2.1
          have f9 := P9.out.2.2.2.2
          rw [← H.out.2.1] at c9
          clear h00 hg hh hcl hmx hsz htk hm0
          go_wp2
          (try simp only [Exit.inBlock, Exit.then]); first | refine bodyPost_end (results_none rfl _ _ _) rfl ?_ | refine bodyPost_ret (results_none rfl _ _ _) rfl ?_
          exact ⟨rfl, ⟨_, P9.out.1⟩, P.out.2.1.trans P9.out.2.1, P.out.2.2.trans P9.out.2.2.1⟩
end Go.Proofs.YtbenedckmapjoaaDoor.D
namespace Go.Proofs.YtbenedckmapjoaaDoor.D
open Go.RowKit Go.Proofs.YtbenedckmapjoaaDoor.H Go.Proofs.YtbenedckmapjoaaDoor.F Go.Proofs.YtbenedckmapjoaaDoorW.PrintWords Go.Proofs.YtbenedckmapjoaaDoorW.PrintLast Go.Proofs.YtbenedckmapjoaaDoorW.PrintMore
set_option linter.unusedVariables false
set_option linter.unusedSimpArgs false
def putsBR.T4 : Bool × List (List Nat × List Nat) := (true, [([], []), ([0], [0]), ([1], [1]), ([2], [2]), ([], []), ([4], [4]), ([5], [5]), ([6], [6]), ([], []), ([7, 8], [7, 8]), ([9], [9]), ([10], [10]), ([], []), ([12], [12]), ([13], [13]), ([14], [14]), ([], []), ([15, 16], [15, 16]), ([17], [17]), ([18], [18]), ([3, 11, 0, 1, 2, 3, 4, 5, 6, 7, 8, 9, 10, 11, 12, 13, 14, 15, 16, 17, 18, 19], [3, 11]), ([20, 19, 0, 1, 2, 3, 4, 5, 6, 7, 8, 9, 10, 11, 12, 13, 14, 15, 16, 17, 18, 19], [19, 20])])
def putsBR.B4 : List Nat := [0, 1, 3, 7, 0, 16, 48, 112, 0, 496, 1008, 2032, 0, 4096, 12288, 28672, 0, 126976, 258048, 520192, 1048575, 2097151]
theorem putsBR.tab4 : rtab .any (opsOf Tryd.f85 4) = putsBR.T4 := by kernel_rfl
theorem putsBR.bits4 : waitsOk putsBR.T4.2 putsBR.B4 = true := by kernel_rfl
set_option maxRecDepth 100000 in
set_option maxHeartbeats 8000000 in
theorem putsB_c {base p gs : Nat} {hv cv : Value} {d : DSt} {w : World} (h : Dk base p gs hv cv d w) (gb : Nat) (kp : Nat → Bool) (hkp : ∀ i, i < d.H.length → ∀ w1, Mv w w1 → Calls Tryd.prog 119 #[.int .i64 (i : Int), .pointer (some ⟨gb, 0, none⟩)] w1 fun e w' => e = .returned (.bool (kp i)) ∧ Below w1.heap.size w1 w') :
    Calls Tryd.prog 85 #[.pointer (some ⟨p, 0, none⟩), .func (.func 119) #[] #[.pointer (some ⟨gb, 0, none⟩)]] w fun e w' => e = .returned (.tuple #[]) ∧ (∃ hv', Dk base p gs hv' cv { d with S := putsL kp d.H d.S d.H.length, H := [] } w') ∧ Mv w w' ∧ Below base w w' := by
  obtain ⟨A, c, rfl⟩ := own_slice h.h
  have hm1 := h.m1
  obtain ⟨m, hm⟩ : ∃ m, m = d.H.length := ⟨_, rfl⟩
  obtain ⟨n, hn⟩ : ∃ n, n = d.S.length := ⟨_, rfl⟩
  have hn1 := h.n1
  rw [← hn] at hn1
  rw [← hm] at hm1 ⊢
  have c1 := h.cells.2.1
  rw [← hm] at c1
  have hmI : (m : Int) ≤ 100000 := by omega
  have hnI : (n : Int) ≤ 16384 := by omega
  have H := Aside0.mk (And.intro h (And.intro hm (And.intro hn hkp)))
  clear h hm1 hn1 hm hn hkp
  go_enter Tryd.func85, Tryd.ntmps85
  go_upto_region 1 with (fail)
  clear c1
  go_loopg [10] m (fun j t wr => ∃ (i : Nat), i + j = m ∧ t = .int .i64 (i : Int) ∧ Aside0 (Dk base p gs (.slice A d.H.length c) cv { d with S := putsL kp d.H d.S i } wr ∧ Mv w wr ∧ Below base w wr))
  case atStart => exact ⟨0, by omega, rfl, ⟨H.out.1, Mv.refl _, Below.refl _ _⟩⟩
  case round =>
    obtain ⟨i, him, rfl, P⟩ := hrel
    have HI := Lib.hid him
    clear him
    by_cases hi : i < m
    · have hiI : (i : Int) < (m : Int) := by omega
      obtain ⟨gh, cap, he, hgh, hat⟩ := held_at P.out.1.h (fun x hx => (P.out.1.h64 x hx).1) (by rw [← H.out.2.1]; omega)
      injection he with hA _ hc'
      subst hA
      have hi2 : i < d.H.length := by rw [← H.out.2.1]; exact hi
      have hx := hat i hi2
      have hps : putsL kp d.H d.S (i + 1) = if kp i = true then (putsL kp d.H d.S i).set (d.H[i]).1.toNat (d.H[i]).2 else putsL kp d.H d.S i := by
        rw [putsL, List.getD_eq_getElem?_getD, List.getElem?_eq_getElem hi2]
        rfl
      have hx64 := P.out.1.h64 d.H[i] (List.getElem_mem hi2)
      obtain ⟨x, hxe⟩ : ∃ x, x = d.H[i] := ⟨_, rfl⟩
      rw [← hxe] at hx hps hx64
      obtain ⟨xa, xb⟩ := x
      obtain ⟨a, rfl⟩ : ∃ a : Nat, xa = (a : Int) := ⟨xa.toNat, by have := hx64.2.1; simp only at this; omega⟩
      simp only at hps hx64
      rw [putsL_length, ← H.out.2.2.1] at hx64
      have haI : (a : Int) < (n : Int) := hx64.2.2
      have hps' : putsL kp d.H d.S (i + 1) = if kp i = true then (putsL kp d.H d.S i).set a xb else putsL kp d.H d.S i := by rw [hps, show ((a : Int)).toNat = a from rfl]
      have c0 := P.out.1.cells.1
      have c1 := P.out.1.cells.2.1
      simp only [putsL_length] at c0
      rw [← H.out.2.2.1] at c0
      rw [← H.out.2.1] at c1
      have c25 : wr.cell? ⟨gh, i * 65, none⟩ = some (.int .i64 (a : Int)) := by
        have := hx 0 (.int .i64 (a : Int)) rfl
        rwa [Nat.add_zero] at this
      have hxr : wr.rangeAt gh (i * 65 + 1) (cells8 xb).toList := fun j v hv => by
        have := hx (j + 1) v (by unfold heldV; simpa [cells8] using hv)
        rw [Nat.add_assoc, Nat.add_comm 1 j]
        exact this
      have hps0 := hps'
      have HX := Aside0.mk (And.intro hxr (And.intro hps' (And.intro hx64.1 (And.intro c0 (And.intro c1 c25)))))
      clear hx hps hps' hx64 hxr hgh hat hxe hi2 hc' cap
      clear c0 c1 c25
      cases hkb : kp i with
      | false =>
        rw [hkb, if_neg (by decide)] at hps0
        go_wp2_with (first
          | (go_at_call 119; refine (H.out.2.2.2 i (by rw [← H.out.2.1]; exact hi) wr (P.out.2.1)).mono ?_; rintro e w5 ⟨rfl, hb5⟩; rw [hkb]; have HB5 := Aside0.mk hb5; clear hb5))
        have P7 := Aside0.mk (P.out.1.below HB5.out)
        have PF := Aside0.mk (And.intro (P.out.2.1.below HB5.out) (below_step' P.out.2.2 HB5.out P.out.1.lt))
        go_roundg (gk - 1)
        all_goals first
          | omega
          | exact ⟨i + 1, by have := HI.out; omega, by go_num, ⟨by rw [hps0]; exact P7.out, PF.out.1, PF.out.2⟩⟩
          | (have := HI.out; omega)
      | true =>
      rw [hkb, if_pos rfl] at hps0
      go_upto_region 4 with (first
        | (go_at_call 119; refine (H.out.2.2.2 i (by rw [← H.out.2.1]; exact hi) wr (P.out.2.1)).mono ?_; rintro e w5 ⟨rfl, hb5⟩; rw [hkb]; have HB5 := Aside0.mk hb5; clear hb5))
      have c05 := (HB5.out.cell (World.block_lt_of_cell? _ _ HX.out.2.2.2.1)).trans HX.out.2.2.2.1
      have c15 := (HB5.out.cell (World.block_lt_of_cell? _ _ HX.out.2.2.2.2.1)).trans HX.out.2.2.2.2.1
      have c255 := (HB5.out.cell (World.block_lt_of_cell? _ _ HX.out.2.2.2.2.2)).trans HX.out.2.2.2.2.2
      have P4 := Aside0.mk (P.out.1.below HB5.out)
      have PF4 := Aside0.mk (And.intro (P.out.2.1.below HB5.out) (below_step' P.out.2.2 HB5.out P.out.1.lt))
      have HR5 := Aside0.mk (rangeAt_below HX.out.1 HB5.out)
      refine start_ (n := 22) (S := fun w' => (w'.cell? ⟨p, 0, none⟩ = some (.slice (some ⟨gs, 0, none⟩) n n) ∧ w'.cell? ⟨p, 1, none⟩ = some (.slice (some ⟨gh, 0, none⟩) m c) ∧ w'.cell? ⟨gh, i * 65, none⟩ = some (.int .i64 (a : Int))) ∧ Below w5.heap.size w5 w') (ds := [21]) (fl 22 0) (by kernel_rfl) rfl rfl ⟨⟨c05, c15, c255⟩, below_drew1 (Below.refl _ _)⟩ (fun hHeld => ?_)
      refine with_tabW putsBR.tab4 putsBR.bits4 (fun HT_ HW_ => ?_)
      refine pB 0 16 22 1 ?_
      refine pB 1 17 22 3 ?_
      refine pB 2 18 22 7 ?_
      refine tB 3 19 22 15 hHeld ?_
      refine pB 4 20 22 31 ?_
      refine pB 5 21 22 63 ?_
      refine pB 6 22 22 127 ?_
      refine tB 7 23 22 255 hHeld ?_
      refine pB 8 24 22 511 ?_
      refine pB 9 25 22 1023 ?_
      refine pB 10 26 22 2047 ?_
      refine tB 11 27 22 4095 hHeld ?_
      refine pB 12 28 22 8191 ?_
      refine pB 13 29 22 16383 ?_
      refine pB 14 30 22 32767 ?_
      refine tB 15 31 22 65535 hHeld ?_
      refine pB 16 32 22 131071 ?_
      refine pB 17 33 22 262143 ?_
      refine pB 18 34 22 524287 ?_
      refine takeA (i := 19) (N := some 35) (v := .agg (cells8 xb)) (fl 22 1048575) (take_ofW HT_.out HW_.out (by kernel_rfl)) hHeld ?_ (hy := fun w' s0 => run_atA w' 117 (.tmp 34) rfl gh (i * 65 + 1) (by rfl) (cells8 xb) _ (rangeAt_below HR5.out s0.2) Tryd.underlying117 (by rfl) (by rw [size8 HX.out.2.2.1]; exact info64))
      refine pB 20 36 22 2097151 ?_
      have P5 := Aside0.mk (P4.out.below hHeld.2)
      have PF := Aside0.mk (And.intro (PF4.out.1.below hHeld.2) (below_step' PF4.out.2 hHeld.2 P4.out.lt))
      clear c05 c15 c255
      refine last_ (i := 21) (N := none) (fl 22 4194303) rfl rfl (one_of HT_.out (by kernel_rfl)) (by decide) (fun K_ hK => ?_)
      refine skip_ (w1 := w5.drew.setCells gs (a * 64) (cells8 xb).toList) (by rfl) rfl (run_put_mid w5.drew 117 (.tmp 36) (.tmp 35) rfl gs (a * 64) (cells8 xb) (by rfl) (by rfl) (there_part P5.out.s.t (by rw [size8 HX.out.2.2.1]; simp only [putsL_length]; rw [← H.out.2.2.1]; omega)) (by rw [size8 HX.out.2.2.1]; exact info64) (ones8 _)) ?_
      refine hK.out _ _ ?_
      clear hK K_ hHeld
      refine done_ (done_of HT_.out (by kernel_rfl)) ?_
      clear HT_ HW_
      have P6 := Aside0.mk (P5.out.sector a xb (by simp only [putsL_length]; rw [← H.out.2.2.1]; omega) HX.out.2.2.1)
      go_wp2
      go_roundg (gk - 1)
      all_goals first
        | omega
        | exact ⟨i + 1, by have := HI.out; omega, by go_num, ⟨by rw [hps0]; exact P6.out.1, PF.out.1.trans P6.out.2.1, PF.out.2.trans P6.out.2.2⟩⟩
        | (have := HI.out; omega)

    · have hiI : ¬ (i : Int) < (m : Int) := by omega
      obtain rfl : i = m := by have := HI.out; omega
      have HN := Aside0.mk hi
      clear hi
      have hform := P.out.1.h.2
      rcases hform with ⟨hv, h0⟩ | ⟨g, cap, cur, hv, hg, hh, hcl, hmx, hsz, htk⟩
      · injection hv with hA h00 hc
        subst hA hc
        have hm0 : i = 0 := by rw [H.out.2.1]; exact h0
        subst hm0
        have c1 := P.out.1.cells.2.1
        rw [h00] at c1
        have f1 := blk_frozen P.out.1.o 1
        have hcl0 := clear_none wr
        have P9 := Aside0.mk (P.out.1.held (.slice none 0 0) [] (own_nil _ _ _ _) (fun x hx => by cases hx) (by decide))
        clear h00 h0
        go_wp2
        (try simp only [Exit.inBlock, Exit.then]); first | refine bodyPost_end (results_none rfl _ _ _) rfl ?_ | refine bodyPost_ret (results_none rfl _ _ _) rfl ?_
        exact ⟨rfl, ⟨_, P9.out.1⟩, P.out.2.1.trans P9.out.2.1, P.out.2.2.trans P9.out.2.2⟩
      · injection hv with hA h00 hc
        subst hA hc
        have c1 := P.out.1.cells.2.1
        rw [← H.out.2.1] at c1
        by_cases hm0 : i = 0
        · subst hm0
          have f1 := blk_frozen P.out.1.o 1
          have P9 := Aside0.mk (P.out.1.held (.slice (some ⟨g, 0, none⟩) 0 c) [] ⟨rfl, .inr ⟨g, c, cur, rfl, hg, hh, Nat.zero_le _, hmx, hsz, rfl⟩⟩ (fun x hx => by cases hx) (by decide))
          have hcl0 := clear_zero wr ⟨g, 0, none⟩ c
          clear h00 hg hh hcl hmx hsz htk
          go_wp2
          (try simp only [Exit.inBlock, Exit.then]); first | refine bodyPost_end (results_none rfl _ _ _) rfl ?_ | refine bodyPost_ret (results_none rfl _ _ _) rfl ?_
          exact ⟨rfl, ⟨_, P9.out.1⟩, P.out.2.1.trans P9.out.2.1, P.out.2.2.trans P9.out.2.2⟩
        · obtain ⟨Z, hZ⟩ := clear_held wr g i c (by omega) ((there_of hh (i * 65) (by rw [hsz]; rw [← H.out.2.1] at hcl; exact Nat.mul_le_mul_right _ hcl)))
          have P9 := Aside0.mk (P.out.1.wiped hg hh hmx hsz Z)
          have c9 := P9.out.2.2.2.1
          have f9 := P9.out.2.2.2.2
          rw [← H.out.2.1] at c9
          clear h00 hg hh hcl hmx hsz htk hm0
          go_wp2
          (try simp only [Exit.inBlock, Exit.then]); first | refine bodyPost_end (results_none rfl _ _ _) rfl ?_ | refine bodyPost_ret (results_none rfl _ _ _) rfl ?_
          exact ⟨rfl, ⟨_, P9.out.1⟩, P.out.2.1.trans P9.out.2.1, P.out.2.2.trans P9.out.2.2.1⟩
/-- Which writes a choice keeps. -/
def keepL (l : List Bool) (i : Nat) : Bool := decide (i < l.length) && l.getD i false
set_option maxRecDepth 100000 in
set_option maxHeartbeats 4000000 in
theorem keep_c (base gb : Nat) (cv : Value) (l : List Bool) (hl : l.length ≤ 4096) (i : Nat) (hi : i ≤ 100000) (w : World) (hb : w.cell? ⟨gb, 0, none⟩ = some cv) (hT : Trs base w cv l) :
    Calls Tryd.prog 119 #[.int .i64 (i : Int), .pointer (some ⟨gb, 0, none⟩)] w fun e w' => e = .returned (.bool (keepL l i)) ∧ w' = w := by
  obtain ⟨A, c, rfl, hc, hcells⟩ := hT
  obtain ⟨n, hn⟩ : ∃ n, n = l.length := ⟨_, rfl⟩
  unfold keepL
  rw [← hn] at hb hc hcells hl ⊢
  have hnI : (n : Int) ≤ 4096 := by omega
  have hiI : (i : Int) ≤ 100000 := by omega
  by_cases h : i < n
  · obtain ⟨g, cs, rfl, _, hh, hcs⟩ := hcells (by omega)
    have ci : w.cell? ⟨g, i, none⟩ = some (.bool (l.getD i false)) := (blk_cell hh i).trans (hcs i h)
    obtain ⟨b, hbb⟩ : ∃ b, b = l.getD i false := ⟨_, rfl⟩
    rw [← hbb] at ci ⊢
    have hlt : (i : Int) < (n : Int) := by omega
    have hd : decide (i < n) = true := decide_eq_true h
    rw [hd]
    clear hcells hcs hh hbb hn hc hl
    go_enter Tryd.func119, Tryd.ntmps119
    go_wp2
    go_ret
    exact ⟨by simp, rfl⟩
  · have hd : decide (i < n) = false := decide_eq_false h
    have hlt : ¬ (i : Int) < (n : Int) := by omega
    rw [hd]
    clear hcells hn hc hl
    go_enter Tryd.func119, Tryd.ntmps119
    go_wp2
    go_ret
    exact ⟨by simp, rfl⟩
/-- What the loss of the power leaves. -/
def DSt.lost (d : DSt) : DSt := { d with S := putsL (keepL d.ch) d.H d.S d.H.length, H := [], down := true }
set_option maxRecDepth 100000 in
set_option maxHeartbeats 4000000 in
theorem up_c {base p gs : Nat} {hv cv : Value} {d : DSt} {w : World} (h : Dk base p gs hv cv d w) : Calls Tryd.prog 114 #[.pointer (some ⟨p, 0, none⟩)] w fun e w' => e = .returned (.bool (!d.down)) ∧ w' = w := by
  have c2 := h.cells.2.2.1
  clear h
  obtain ⟨S, H, down, st, left, set, ch⟩ := d
  simp only at c2 ⊢
  cases down <;>
  · go_enter Tryd.func114, Tryd.ntmps114
    go_wp2
    go_ret
    exact ⟨rfl, rfl⟩
set_option maxRecDepth 100000 in
set_option maxHeartbeats 4000000 in
theorem lose_c {base p gs : Nat} {hv cv : Value} {d : DSt} {w : World} (h : Dk base p gs hv cv d w) (hup : d.down = false) :
    Calls Tryd.prog 84 #[.pointer (some ⟨p, 0, none⟩), cv] w fun e w' => e = .returned (.tuple #[]) ∧ (∃ hv', Dk base p gs hv' cv d.lost w') ∧ Mv w w' ∧ Below base w w' := by
  have hc := h.c
  obtain ⟨A, c, rfl, hle, _⟩ := hc
  obtain ⟨n, hn⟩ : ∃ n, n = d.ch.length := ⟨_, rfl⟩
  have hk1 := h.k1
  rw [← hn] at hle hk1
  have hnI : (n : Int) ≤ 4096 := by omega
  have hcI : (n : Int) ≤ (c : Int) := by omega
  have H := Aside0.mk (And.intro h (And.intro hup hn))
  rw [← hn] at h ⊢
  clear h hup hle hk1 hn
  go_enter Tryd.func84, Tryd.ntmps84
  go_upto_region 2 with (first
    | (go_at_call 114; refine (up_c (H.out.1.below (below_alloc (Below.refl _ _) _))).mono ?_; rintro e w5 ⟨rfl, rfl⟩; rw [H.out.2.1]))
  have cb := (blk_cell (new1 w (.cells #[.slice A n c] 62)) 0).trans rfl
  have fb := blk_frozen (new1 w (.cells #[.slice A n c] 62)) 0
  go_upto_region 3 with (fail)
  clear cb fb
  have H0 := Aside0.mk (And.intro (H.out.1.below (below_alloc (Below.refl w.heap.size w) (.cells #[.slice A n c] 62))) (new1 w (.cells #[.slice A n c] 62)))
  have hb0 := below_alloc (Below.refl w.heap.size w) (.cells #[.slice A n c] 62)
  have HB0 := Aside0.mk hb0
  clear hb0
  generalize (w.alloc (.cells #[.slice A n c] 62)) = w0 at H0 HB0 ⊢
  go_upto_region 4 with (first
    | (go_at_call 85
       have hp := putsB_c H0.out.1 w.heap.size (keepL d.ch) (fun i hi w1 hm => by
         have hb := (hm.block w.heap.size (blk_lt H0.out.2) (fun cs t fr h' => by rw [H0.out.2] at h'; injection h' with h'; injection h' with _ h' _; subst h'; decide)).trans H0.out.2
         have hT := H0.out.1.c.mv hm
         exact (keep_c base w.heap.size _ d.ch H.out.1.k1 i (by have := H.out.1.m1; omega) w1 ((blk_cell hb 0).trans rfl) (by rw [H.out.2.2]; exact hT)).mono (by rintro e w' ⟨rfl, rfl⟩; exact ⟨rfl, Below.refl _ _⟩))
       rw [← H.out.2.2] at hp
       refine hp.mono ?_; clear hp; rintro e w2 ⟨rfl, ⟨hv', hD⟩, hM, hB⟩
       have P2 := Aside0.mk (And.intro hD (And.intro hM hB)); clear hD hM hB))
  have f2 := blk_frozen P2.out.1.o 2
  have c2 := P2.out.1.cells.2.2.1
  simp only [H.out.2.1] at c2
  have P3 := Aside0.mk (P2.out.1.step (d' := d.lost) 2 (.bool true) rfl rfl rfl rfl)
  go_wp2
  (try simp only [Exit.inBlock, Exit.then]); first | refine bodyPost_end (results_none rfl _ _ _) rfl ?_ | refine bodyPost_ret (results_none rfl _ _ _) rfl ?_
  exact ⟨rfl, ⟨hv', P3.out.1⟩, (Mv.of HB0.out).trans (P2.out.2.1.trans P3.out.2.1), (below_step' (Below.refl base w) HB0.out H.out.1.lt).trans (P2.out.2.2.trans P3.out.2.2)⟩
end Go.Proofs.YtbenedckmapjoaaDoor.D
