/- The law TopJournal: rows that no step changes; what the records are. -/
import Derived.Test.YtbenedckmapjoaaDoorSf
import Derived.Test.YtbenedckmapjoaaDoorPSbx1
namespace Go.Proofs.YtbenedckmapjoaaDoor.D
open Go.RowKit Go.Proofs.YtbenedckmapjoaaDoor.H Go.Proofs.YtbenedckmapjoaaDoor.X Go.Proofs.YtbenedckmapjoaaDoorW.PrintWords Go.Proofs.YtbenedckmapjoaaDoorW.PrintLast Go.Proofs.YtbenedckmapjoaaDoorW.PrintMore Go.Proofs.YtbenedckmapjoaaDoor.PSb
open Go.Proofs.YtbenedckmapjoaaDoor.F (cells8 cells8_get)
set_option linter.unusedVariables false
set_option linter.unusedSimpArgs false
def BytesB (l : List Int) : Prop := ∀ y ∈ l, 0 ≤ y ∧ y < 256
theorem u8_inj {a b : Int} (ha : 0 ≤ a ∧ a < 256) (hb : 0 ≤ b ∧ b < 256) (h : UInt8.ofNat a.toNat = UInt8.ofNat b.toNat) : a = b := by
  have h1 := congrArg UInt8.toNat h
  simp only [UInt8.toNat_ofNat'] at h1
  omega
theorem strs_inj : ∀ {a b : List Int}, BytesB a → BytesB b → (a.map fun n => UInt8.ofNat n.toNat) = (b.map fun n => UInt8.ofNat n.toNat) → a = b
  | [], [], _, _, _ => rfl
  | [], _ :: _, _, _, h => by simp at h
  | _ :: _, [], _, _, h => by simp at h
  | x :: a, y :: b, ha, hb, h => by
    simp only [List.map_cons, List.cons.injEq] at h
    rw [u8_inj (ha x (by simp)) (hb y (by simp)) h.1, strs_inj (fun z hz => ha z (by simp [hz])) (fun z hz => hb z (by simp [hz])) h.2]
theorem bytesToList_inj {a b : ByteArray} (h : a.toList = b.toList) : a.data.toList = b.data.toList := by
  rwa [ByteArray.toList_eq, ByteArray.toList_eq] at h
theorem strs_eq {a b : List Int} (ha : BytesB a) (hb : BytesB b) : ((strOfNums a).toList = (strOfNums b).toList) ↔ a = b :=
  ⟨fun h => strs_inj ha hb (bytesToList_inj h), fun h => by rw [h]⟩
theorem strs_beq {a b : List Int} (ha : BytesB a) (hb : BytesB b) : ((strOfNums a).toList == (strOfNums b).toList) = decide (a = b) := by
  rw [Bool.eq_iff_iff, beq_iff_eq, decide_eq_true_iff]
  exact strs_eq ha hb
/-- No block of a disk's. -/
def NT (w : World) (k : Nat) : Prop := ∀ cs t fr, w.heap[k]? = some (.cells cs t fr) → t ≠ 115 ∧ t ≠ 117 ∧ t ≠ 173
theorem NT.mv {w w1 : World} {k : Nat} (h : NT w k) (hk : k < w.heap.size) (m : Mv w w1) : NT w1 k := fun cs t fr e => h cs t fr (by rw [← m.block k hk h]; exact e)
theorem NT.of {w : World} {k : Nat} {cs : Array Value} {t : TypeId} {fr : Nat × Nat} (h : w.heap[k]? = some (.cells cs t fr)) (ht : t ≠ 115 ∧ t ≠ 117 ∧ t ≠ 173) : NT w k := fun cs' t' fr' e => by
  rw [h] at e
  injection e with e
  injection e with _ e _
  subst e
  exact ht
/-- A block of bytes. -/
def B5 (w : World) (k : Nat) : Prop := ∃ cells, w.heap[k]? = some (.cells cells 5 (0, 0))
theorem B5.nt {w : World} {k : Nat} (h : B5 w k) : NT w k := by obtain ⟨cells, h⟩ := h; exact NT.of h (by decide)
theorem B5.mv {w w1 : World} {k : Nat} (h : B5 w k) (m : Mv w w1) : B5 w1 k := by
  have hn := h.nt
  obtain ⟨cells, h⟩ := h
  exact ⟨cells, (m.block k (blk_lt h) hn).trans h⟩
theorem info_row : (Tryd.prog.info? 30).map (fun i => (i.zero, i.size, i.bytes)) = some (some (.slice none 0 0), 1, 24) := by kernel_rfl
theorem few_c (A : Option Addr) (n c m : Nat) (hm : m ≤ 100000) (hc : n ≤ c) (hn : n ≤ 9223372036854775807) (w : World) : Calls Tryd.prog 12 #[.slice A n c, .int .i64 m] w fun e w' => e = .returned (.slice A (min n m) c) ∧ w' = w := by
  have hmI : (m : Int) ≤ 100000 := by omega
  have hnI : (n : Int) ≤ 9223372036854775807 := by omega
  by_cases h : m < n
  · have h1 : (m : Int) < (n : Int) := by omega
    have h2 : (m : Int) ≤ (c : Int) := by omega
    have hmn : min n m = m := by omega
    rw [hmn]
    clear h hmn
    obtain ⟨ad, rfl⟩ | rfl : (∃ ad, A = some ad) ∨ A = none := by cases A; exact .inr rfl; exact .inl ⟨_, rfl⟩
    · go_enter Tryd.func12, Tryd.ntmps12
      go_wp2
      go_ret
      exact ⟨rfl, rfl⟩
    · go_enter Tryd.func12, Tryd.ntmps12
      go_wp2
      go_ret
      exact ⟨rfl, rfl⟩
  · have h1 : ¬ (m : Int) < (n : Int) := by omega
    have hmn : min n m = n := by omega
    rw [hmn]
    clear h hmn
    go_enter Tryd.func12, Tryd.ntmps12
    go_wp2
    go_ret
    exact ⟨rfl, rfl⟩
set_option maxRecDepth 100000 in
set_option maxHeartbeats 4000000 in
theorem open_c {base p gs : Nat} {hv cv : Value} {d : DSt} {w : World} (h : Dk base p gs hv cv d w) (hS : d.S.length = 30) : Calls Tryd.prog 26 #[.pointer (some ⟨p, 0, none⟩), .int .i64 2, .int .i64 10] w fun e w' => ∃ s, e = .returned (.tuple #[.pointer (some ⟨s, 0, none⟩), .int .i64 0]) ∧ Sto s p w' ∧ Below w.heap.size w w' := by
  have hz := size_c h 30 hS.symm
  have hbd : ∀ w' : World, (Instr.build 120 #[(0, .pointer (some ⟨p, 0, none⟩)), (1, .int .i64 2), (2, .int .i64 10)]).run Tryd.prog w' = .ok (.agg #[.pointer (some ⟨p, 0, none⟩), .int .i64 2, .int .i64 10]) w' := fun w' => by kernel_rfl
  have HZ := Aside0.mk hz
  clear hz h hS
  go_enter Tryd.func26, Tryd.ntmps26
  go_wp2_with (first
    | (go_at_call 68; refine HZ.out.mono ?_; rintro e w1 ⟨rfl, hw⟩; have hw := hw.symm; subst hw))
  go_ret2
  exact ⟨_, rfl, new1 _ _, below_alloc (Below.refl _ _) _⟩
theorem CB_take {α : Type} {d : Kd α} {w : World} {A : Option Addr} {n : Nat} {l : List α} (h : Kd.C d w A n l) (k : Nat) (hk : k ≤ n) : Kd.C d w A k (l.take k) := by
  obtain ⟨h1, h2, h3⟩ := h
  refine ⟨by rw [List.length_take]; omega, by omega, fun hn => ?_⟩
  obtain ⟨ad, he, hc⟩ := h3 (by omega)
  refine ⟨ad, he, fun j p hj => hc j p ?_⟩
  rw [List.getElem?_take] at hj
  split at hj
  · exact hj
  · cases hj
theorem C_cell {w : World} {A : Option Addr} {n : Nat} {l : List Int} (h : Kd.C (Kd.int .u8) w A n l) (i : Nat) (hi : i < n) : ∃ ad, A = some ad ∧ w.cell? (ad.add i) = some (.int .u8 (l.getD i 0)) := by
  have hl := h.1
  obtain ⟨ad, e, hc⟩ := C_addr h (by omega)
  exact ⟨ad, e, hc i _ (by rw [Array.getElem?_toList]; exact cells8_get l i (by omega))⟩
/-- Bytes in a row that neither a disk nor an append changes. -/
def Qb (base : Nat) (w : World) (k : Nat) : Prop := k < base ∨ B5 w k
def Rb (base : Nat) (w : World) (A : Option Addr) (l : List Int) : Prop := Kd.C (Kd.int .u8) w A l.length l ∧ ∀ ad, A = some ad → 0 < l.length → Qb base w ad.block
theorem Qb.move {base : Nat} {w w1 : World} {k : Nat} (h : Qb base w k) (m : Mv w w1) (b : Below base w w1) : w1.heap[k]? = w.heap[k]? := by
  rcases h with h | h
  · exact b.block k h
  · have hn := h.nt
    obtain ⟨cells, h⟩ := h
    exact m.block k (blk_lt h) hn
theorem Qb.of {base : Nat} {w w1 : World} {k : Nat} (h : Qb base w k) (e : w1.heap[k]? = w.heap[k]?) : Qb base w1 k := by
  rcases h with h | ⟨cells, h⟩
  · exact .inl h
  · exact .inr ⟨cells, e.trans h⟩
theorem Rb.mv {base : Nat} {w w1 : World} {A : Option Addr} {l : List Int} (h : Rb base w A l) (m : Mv w w1) (b : Below base w w1) : Rb base w1 A l :=
  ⟨C_keep h.1 (fun ad e hn => (h.2 ad e hn).move m b), fun ad e hn => (h.2 ad e hn).of ((h.2 ad e hn).move m b)⟩
theorem Rb.grown {base : Nat} {w w1 : World} {A : Option Addr} {l : List Int} {row : Option Nat} (h : Rb base w A l) (hbl : ∀ ad, A = some ad → 0 < l.length → ad.block < w.heap.size) (hg : w.grownBy w1 row) (hr : ∀ k, row = some k → base ≤ k ∧ ∃ cs, w.heap[k]? = some (.cells cs 30 (0, 0))) : Rb base w1 A l := by
  have hs : ∀ ad, A = some ad → 0 < l.length → w1.heap[ad.block]? = w.heap[ad.block]? := fun ad e hn => hg.block _ (hbl ad e hn) (fun e2 => by
    obtain ⟨h1, cs, h2⟩ := hr _ e2.symm
    rcases h.2 ad e hn with h3 | ⟨cells, h3⟩
    · omega
    · rw [h2] at h3
      injection h3 with h3
      injection h3 with _ h3 _
      exact absurd h3 (by decide))
  exact ⟨C_keep h.1 hs, fun ad e hn => (h.2 ad e hn).of (hs ad e hn)⟩
theorem Rb.lt {base : Nat} {w : World} {A : Option Addr} {l : List Int} (h : Rb base w A l) : ∀ ad, A = some ad → 0 < l.length → ad.block < w.heap.size := fun ad e hn => by subst e; exact C_block h.1 hn
theorem Rb.ofRec {base b : Nat} {w : World} {A : Option Addr} {l : List Int} (h : RecC b w A l) : Rb base w A l := ⟨h.1, fun ad e hn => by
  obtain ⟨g, e1, _, cells, e2⟩ := h.2 hn
  rw [e] at e1
  obtain rfl := Option.some.inj e1
  exact .inr ⟨cells, e2⟩⟩
/-- Records in a row of one's own. -/
def Mf (base : Nat) (w : World) (v : Value) (ML : List (List Int)) : Prop := ∃ cs : List Value, w.ownsRow base 30 1 v ML.length cs ∧ ∀ j, j < ML.length → ∃ A c, cs[j]? = some (.slice A (ML.getD j []).length c) ∧ (ML.getD j []).length ≤ c ∧ Rb base w A (ML.getD j [])
theorem Mf.nil (base : Nat) (w : World) : Mf base w (.slice none 0 0) [] := ⟨[], own_nil _ _ _ _, fun j hj => absurd hj (Nat.not_lt_zero j)⟩
theorem Mf.mv {base : Nat} {w w1 : World} {v : Value} {ML : List (List Int)} (h : Mf base w v ML) (m : Mv w w1) (b : Below base w w1) : Mf base w1 v ML := by
  obtain ⟨cs, h1, h2⟩ := h
  refine ⟨cs, own_move h1 (fun k hk => ?_), fun j hj => ?_⟩
  · obtain ⟨cells, hc⟩ := own_typed h1 k hk
    exact m.block k (blk_lt hc) (NT.of hc (by decide))
  · obtain ⟨A, c, e1, e2, e3⟩ := h2 j hj
    exact ⟨A, c, e1, e2, e3.mv m b⟩
theorem Mf.snoc {base : Nat} {w w1 : World} {v v1 : Value} {ML : List (List Int)} {x : List Int} {cs : List Value} {A : Option Addr} {c : Nat} (h1 : w.ownsRow base 30 1 v ML.length cs) (h2 : ∀ j, j < ML.length → ∃ A c, cs[j]? = some (.slice A (ML.getD j []).length c) ∧ (ML.getD j []).length ≤ c ∧ Rb base w A (ML.getD j []))
    (hc : x.length ≤ c) (hF : Rb base w A x) (ho : w1.ownsRow base 30 1 v1 (ML.length + 1) (cs ++ [.slice A x.length c])) (hg : w.grownBy w1 v.ownBlock) : Mf base w1 v1 (ML ++ [x]) := by
  have hr : ∀ k, v.ownBlock = some k → base ≤ k ∧ ∃ cs, w.heap[k]? = some (.cells cs 30 (0, 0)) := fun k hk => ⟨own_base h1 k hk, own_typed h1 k hk⟩
  have hl : cs.length = ML.length := by have := h1.1; omega
  have hln : (ML ++ [x]).length = ML.length + 1 := by rw [List.length_append]; rfl
  refine ⟨_, by rw [hln]; exact ho, fun j hj => ?_⟩
  rw [hln] at hj
  by_cases e : j = ML.length
  · subst e
    rw [show (ML ++ [x]).getD ML.length [] = x by rw [List.getD_eq_getElem?_getD, List.getElem?_append_right (Nat.le_refl _), Nat.sub_self]; rfl]
    exact ⟨A, c, by rw [List.getElem?_append_right (by omega), hl, Nat.sub_self]; rfl, hc, hF.grown hF.lt hg hr⟩
  · rw [show (ML ++ [x]).getD j [] = ML.getD j [] by rw [List.getD_eq_getElem?_getD, List.getElem?_append_left (by omega), ← List.getD_eq_getElem?_getD]]
    obtain ⟨A', c', e1, e2, e3⟩ := h2 j (by omega)
    exact ⟨A', c', by rw [List.getElem?_append_left (by omega)]; exact e1, e2, e3.grown e3.lt hg hr⟩
theorem Mf.one {base : Nat} {w : World} {A : Option Addr} {x : List Int} {n c : Nat} (hn : n = x.length) (hc : x.length ≤ c) (hF : Rb base w A x) (hb : base ≤ w.heap.size) : Mf base (w.alloc (.cells #[.slice A n c] 30)) (.slice (some ⟨w.heap.size, 0, none⟩) 1 1) [x] := by
  subst hn
  have hal := below_alloc (Below.refl w.heap.size w) (.cells #[.slice A x.length c] 30)
  refine ⟨[.slice A x.length c], ⟨rfl, .inr ⟨_, 1, _, rfl, hb, new1 _ _, Nat.le_refl _, by decide, rfl, rfl⟩⟩, fun j hj => ?_⟩
  obtain rfl : j = 0 := by simp at hj; omega
  exact ⟨A, c, rfl, hc, hF.mv (Mv.of hal) (below_le hal hb)⟩
theorem Mf.get {base : Nat} {w : World} {A : Option Addr} {n c : Nat} {ML : List (List Int)} (h : Mf base w (.slice A n c) ML) (j : Nat) (hj : j < ML.length) : ∃ ad Ai ci, A = some ad ∧ w.cell? (ad.add j) = some (.slice Ai (ML.getD j []).length ci) ∧ (ML.getD j []).length ≤ ci ∧ Rb base w Ai (ML.getD j []) := by
  obtain ⟨cs, h1, h2⟩ := h
  obtain ⟨Ai, ci, e1, e2, e3⟩ := h2 j hj
  have h3 := h1.2
  rcases h3 with ⟨_, h0⟩ | ⟨g, cap, cur, e, hg, hh, hc, hmx, hs, ht⟩
  · omega
  · injection e with ea en ec
    subst ea
    refine ⟨_, Ai, ci, rfl, ?_, e2, e3⟩
    have := World.ownsRow.cells h1 (g := g) rfl j _ e1
    exact this
/-- A row of rows that came in: one of them. -/
theorem row_at {w0 w : World} {A0 : Option Addr} {n0 : Nat} {l0 : List (List Int)} (hC : Kd.C (Kd.slice 5 (Kd.int .u8)) w0 A0 n0 l0) (hb : Below w0.heap.size w0 w) (i : Nat) (hi : i < l0.length) : ∃ ad Ai ci, A0 = some ad ∧ w.cell? (ad.add i) = some (.slice Ai (l0.getD i []).length ci) ∧ (l0.getD i []).length ≤ ci ∧ Kd.C (Kd.int .u8) w0 Ai (l0.getD i []).length (l0.getD i []) := by
  obtain ⟨h1, _, h3⟩ := Kd.C_below hC hb
  obtain ⟨ad, rfl, hc⟩ := h3 (by omega)
  obtain ⟨h1', _, h3'⟩ := hC
  obtain ⟨ad', e', hc'⟩ := h3' (by omega)
  obtain rfl := Option.some.inj e'
  obtain ⟨cs, _, ⟨Ai, ci, rfl, e2, e3⟩, e4⟩ := hc' i (l0.getD i []) (by rw [List.getD_eq_getElem?_getD, List.getElem?_eq_getElem hi]; rfl)
  have hcell := e4 0 _ rfl
  rw [show i * (Kd.slice 5 (Kd.int .u8)).sz + 0 = i by show i * 1 + 0 = i; omega] at hcell
  exact ⟨ad, Ai, ci, rfl, Kd.cell_heap (fun k hk => hb.block k hk) hcell, e2, e3⟩
/-- What is known of the records that may be there: i rounds behind. -/
def JI (S : List (List Int)) (f : Bool) (ML : List (List Int)) (i : Nat) : Prop := genN (newS S) ≤ (i : Int) ∧ ML.length ≤ i ∧ ((f = true ∧ newS S = none) ∨ (f = false ∧ newS S ≠ none ∧ ML = [recN (newS S)]))
theorem recN_some {k : Nat} {g : Int} {x : List Int} : recN (some (k, g, x)) = x := rfl
theorem ji_next (d : DSt) (x : List Int) (f : Bool) (ML : List (List Int)) (i : Nat) (hJ : JI d.S f ML i) (S' : List (List Int)) (e : Int)
    (H : (e = 0 ∧ newS S' = some (toN (newS d.S), genN (newS d.S) + 1, x)) ∨ (e = 60 ∧ (newS S' = newS d.S ∨ newS S' = some (toN (newS d.S), genN (newS d.S) + 1, x)))) :
    genN (newS S') ≤ ((i + 1 : Nat) : Int) ∧ ((e = 60 ∧ f = true ∧ newS S' = none) ∨ (e = 60 ∧ newS S' ≠ none ∧ recN (newS S') ∈ ML ++ [x]) ∨ (e = 0 ∧ newS S' ≠ none ∧ recN (newS S') ∈ [] ++ [x])) := by
  obtain ⟨h1, _, h3⟩ := hJ
  rcases H with ⟨rfl, H⟩ | ⟨rfl, H | H⟩
  · rw [H]
    refine ⟨by show genN (newS d.S) + 1 ≤ _; omega, .inr (.inr ⟨rfl, by simp, by rw [recN_some]; simp⟩)⟩
  · rw [H]
    refine ⟨by omega, ?_⟩
    rcases h3 with ⟨h4, h5⟩ | ⟨h4, h5, h6⟩
    · exact .inl ⟨rfl, h4, h5⟩
    · exact .inr (.inl ⟨rfl, h5, by rw [h6]; simp⟩)
  · rw [H]
    refine ⟨by show genN (newS d.S) + 1 ≤ _; omega, .inr (.inl ⟨rfl, by simp, by rw [recN_some]; simp⟩)⟩
theorem errN_some {o : Option (Nat × Int × List Int)} (h : o ≠ none) : errN o = 0 := by
  cases o with
  | none => exact absurd rfl h
  | some _ => rfl
theorem take_mem_succ (ML : List (List Int)) (k : Nat) (hk : k < ML.length) (x : List Int) : decide (x ∈ ML.take (k + 1)) = (decide (x ∈ ML.take k) || decide (x = ML.getD k [])) := by
  rw [Bool.eq_iff_iff]
  simp only [Bool.or_eq_true, decide_eq_true_eq]
  rw [List.take_add_one, List.getElem?_eq_getElem hk, List.getD_eq_getElem?_getD, List.getElem?_eq_getElem hk]
  simp only [List.mem_append, Option.toList_some, List.mem_singleton, Option.getD_some]
theorem Dk.grown1 {base p gs : Nat} {hv cv : Value} {d : DSt} {w w1 : World} {row : Option Nat} (h : Dk base p gs hv cv d w) (hg : w.grownBy w1 row) (hr : ∀ k, row = some k → ∃ cs, w.heap[k]? = some (.cells cs 30 (0, 0))) : Dk base p gs hv cv d w1 := by
  obtain ⟨cells, hty⟩ := h.s.ty
  have hb : ∀ (k : Nat) (cs : Array Value) (t : TypeId), w.heap[k]? = some (Obj.cells cs t (0, 0)) → t ≠ 30 → w1.heap[k]? = w.heap[k]? := fun k cs t hk ht => hg.block k (blk_lt hk) (fun e => by
    obtain ⟨cs', h'⟩ := hr k e.symm
    exact ne_types hk h' ht rfl)
  exact ⟨(hb p _ _ h.o (by decide)).trans h.o, h.s.move (hb gs _ _ hty (by decide)), own_move h.h (fun k hk => by obtain ⟨cs, hc⟩ := own_typed h.h k hk; exact hb k _ _ hc (by decide)), h.c.move (fun k cs _ hk => hb k _ _ hk (by decide)), h.h64, h.bp, h.bs, h.n1, h.m1, h.k1⟩
theorem Sto.grown1 {s p : Nat} {w w1 : World} {row : Option Nat} (h : Sto s p w) (hg : w.grownBy w1 row) (hr : ∀ k, row = some k → ∃ cs, w.heap[k]? = some (.cells cs 30 (0, 0))) : Sto s p w1 := (hg.block s (blk_lt h) (fun e => by
    obtain ⟨cs', h'⟩ := hr s e.symm
    exact ne_types h h' (by decide) rfl)).trans h
end Go.Proofs.YtbenedckmapjoaaDoor.D
