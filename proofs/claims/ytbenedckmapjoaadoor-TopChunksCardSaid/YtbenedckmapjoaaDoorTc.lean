/- Rows that no disk holds; the law TopChunks: the walk. -/
import Derived.Test.YtbenedckmapjoaaDoorMc
import Derived.Test.YtbenedckmapjoaaDoorY3
import Derived.Test.YtbenedckmapjoaaDoorY7
namespace Go.Proofs.YtbenedckmapjoaaDoor.D
open Go.RowKit Go.Proofs.YtbenedckmapjoaaDoor.H Go.Proofs.YtbenedckmapjoaaDoor.X Go.Proofs.YtbenedckmapjoaaDoorW.PrintWords Go.Proofs.YtbenedckmapjoaaDoorW.PrintLast Go.Proofs.YtbenedckmapjoaaDoorW.PrintMore Go.Proofs.YtbenedckmapjoaaDoor.PCut Go.Proofs.YtbenedckmapjoaaDoor.PCa Go.Proofs.YtbenedckmapjoaaDoor.PCs Go.Proofs.YtbenedckmapjoaaDoor.PPw Go.Proofs.YtbenedckmapjoaaDoor.PPv
set_option linter.unusedVariables false
set_option linter.unusedSimpArgs false
/-- No block of a disk's. -/
def NT (w : World) (k : Nat) : Prop := ∀ cs t fr, w.heap[k]? = some (.cells cs t fr) → t ≠ 115 ∧ t ≠ 117 ∧ t ≠ 173
theorem NT.mv {w w1 : World} {k : Nat} (h : NT w k) (hk : k < w.heap.size) (m : Mv w w1) : NT w1 k := fun cs t fr e => h cs t fr (by rw [← m.block k hk h]; exact e)
theorem NT.of {w : World} {k : Nat} {cs : Array Value} {t : TypeId} {fr : Nat × Nat} (h : w.heap[k]? = some (.cells cs t fr)) (ht : t ≠ 115 ∧ t ≠ 117 ∧ t ≠ 173) : NT w k := fun cs' t' fr' e => by
  rw [h] at e
  injection e with e
  injection e with _ e _
  subst e
  exact ht
section
variable {α : Type} {d : Kd α}
theorem F_mv {w w1 : World} {A : Option Addr} {n : Nat} {xs : List α} (h : Kd.F d w (NT w) A n xs) (m : Mv w w1) : Kd.F d w1 (NT w1) A n xs :=
  Kd.F_mono (Kd.F_bound (Kd.F_step (Kd.F_bound h) (fun k hk hlt => m.block k hk.2 hk.1))) (fun k hk => hk.1.1.mv hk.1.2 m)
end
abbrev dS : Kd (List Int) := Kd.slice 5 (Kd.int .u8)
/-- Bytes in a row that no disk holds. -/
def Bn (w : World) (v : Value) (l : List Int) : Prop := ∃ A c, v = .slice A l.length c ∧ l.length ≤ c ∧ Kd.F (Kd.int .u8) w (NT w) A l.length l
theorem Bn.mv {w w1 : World} {v : Value} {l : List Int} (h : Bn w v l) (m : Mv w w1) : Bn w1 v l := by
  obtain ⟨A, c, e, hc, hf⟩ := h
  exact ⟨A, c, e, hc, F_mv hf m⟩
theorem Bn.ofR {w : World} {base : Nat} {ok : Nat → Prop} {v : Value} {l : List Int} (h : Kd.R (Kd.int .u8) 5 w base ok v l) : Bn w v l := by
  obtain ⟨A, c, e, hc, hf⟩ := Kd.R_V (base' := 0) (Kd.R_bound h)
  refine ⟨A, c, e, hc, Kd.F_mono hf (fun k hk => ?_)⟩
  obtain ⟨_, _, _, q, hq, cells, hcell⟩ := hk
  obtain rfl : q = 5 := by simpa [Kd.int, Kd.scalar] using hq
  exact NT.of hcell (by decide)
theorem Bn.C {w : World} {A : Option Addr} {n c : Nat} {l : List Int} (h : Bn w (.slice A n c) l) : n = l.length ∧ l.length ≤ c ∧ Kd.F (Kd.int .u8) w (NT w) A l.length l := by
  obtain ⟨A', c', e, hc, hf⟩ := h
  injection e with e1 e2 e3
  subst e1 e2 e3
  exact ⟨rfl, hc, hf⟩
/-- Texts in a row that no disk holds. -/
def Nn (w : World) (v : Value) (l : List (List Int)) : Prop := ∃ A c, v = .slice A l.length c ∧ l.length ≤ c ∧ Kd.F dS w (NT w) A l.length l
theorem Nn.mv {w w1 : World} {v : Value} {l : List (List Int)} (h : Nn w v l) (m : Mv w w1) : Nn w1 v l := by
  obtain ⟨A, c, e, hc, hf⟩ := h
  exact ⟨A, c, e, hc, F_mv hf m⟩
theorem Nn.ofS {w : World} {base : Nat} {ok : Nat → Prop} {v : Value} {l : List (List Int)} (h : Kd.S dS 30 w base ok v l) : Nn w v l := by
  obtain ⟨A, c, e, hc, hf⟩ := Kd.R_V (base' := 0) (Kd.R_bound (Kd.S_R h))
  refine ⟨A, c, e, hc, Kd.F_mono hf (fun k hk => ?_)⟩
  obtain ⟨_, _, _, q, hq, cells, hcell⟩ := hk
  have : q = 30 ∨ q = 5 := by simpa [dS, Kd.slice, Kd.int, Kd.scalar] using hq
  rcases this with rfl | rfl
  · exact NT.of hcell (by decide)
  · exact NT.of hcell (by decide)
theorem Nn.get {w : World} {A : Option Addr} {n c : Nat} {l : List (List Int)} (h : Nn w (.slice A n c) l) (i : Nat) (hi : i < l.length) : ∃ ad Ai ci, A = some ad ∧ w.cell? (ad.add i) = some (.slice Ai (l.getD i []).length ci) ∧ (l.getD i []).length ≤ ci ∧ Kd.F (Kd.int .u8) w (NT w) Ai (l.getD i []).length (l.getD i []) := by
  obtain ⟨A', c', e, hc, hf⟩ := h
  injection e with e1 e2 e3
  subst e1 e2 e3
  obtain ⟨ad, cs, rfl, h2, h3, h4, h5⟩ := Kd.F_get hf [] (i : Int) (by omega) (by omega)
  obtain ⟨Ai, ci, rfl, h6, h7⟩ := Kd.FK_slice_open h3
  rw [Int.toNat_natCast] at h4 h6 h7
  have := h4 0 _ rfl
  rw [show i * (Kd.slice 5 (Kd.int .u8)).sz + 0 = i by show i * 1 + 0 = i; omega] at this
  exact ⟨ad, Ai, ci, rfl, this, h6, h7⟩
/-- A block of bytes. -/
def B5 (w : World) (k : Nat) : Prop := ∃ cells, w.heap[k]? = some (.cells cells 5 (0, 0))
theorem B5.nt {w : World} {k : Nat} (h : B5 w k) : NT w k := by obtain ⟨cells, h⟩ := h; exact NT.of h (by decide)
theorem B5.mv {w w1 : World} {k : Nat} (h : B5 w k) (m : Mv w w1) : B5 w1 k := by
  have hn := h.nt
  obtain ⟨cells, h⟩ := h
  exact ⟨cells, (m.block k (blk_lt h) hn).trans h⟩
theorem F5_mv {α : Type} {d : Kd α} {w w1 : World} {A : Option Addr} {n : Nat} {xs : List α} (h : Kd.F d w (B5 w) A n xs) (m : Mv w w1) : Kd.F d w1 (B5 w1) A n xs :=
  Kd.F_mono (Kd.F_step h (fun k hk hlt => m.block k hlt hk.nt)) (fun k hk => hk.mv m)
theorem F5_grown {α : Type} {d : Kd α} {w w1 : World} {row : Option Nat} {A : Option Addr} {n : Nat} {xs : List α} (h : Kd.F d w (B5 w) A n xs) (hg : w.grownBy w1 row) (hr : ∀ k, row = some k → ∃ cs, w.heap[k]? = some (.cells cs 30 (0, 0))) : Kd.F d w1 (B5 w1) A n xs := by
  have hs : ∀ k, B5 w k → k < w.heap.size → w1.heap[k]? = w.heap[k]? := fun k hk hlt => hg.block k hlt (fun e => by
    obtain ⟨cs, h1⟩ := hr k e.symm
    obtain ⟨cells, h2⟩ := hk
    rw [h1] at h2
    injection h2 with h2
    injection h2 with _ h2 _
    exact absurd h2 (by decide))
  exact Kd.F_mono (Kd.F_step h hs) (fun k hk => by
    obtain ⟨cells, h2⟩ := hk
    exact ⟨cells, (hs k ⟨cells, h2⟩ (blk_lt h2)).trans h2⟩)
theorem F5_ofR {w : World} {base : Nat} {ok : Nat → Prop} {v : Value} {l : List Int} (h : Kd.R (Kd.int .u8) 5 w base ok v l) : ∃ A c, v = .slice A l.length c ∧ l.length ≤ c ∧ Kd.F (Kd.int .u8) w (B5 w) A l.length l := by
  obtain ⟨A, c, e, hc, hf⟩ := Kd.R_V (base' := 0) (Kd.R_bound h)
  refine ⟨A, c, e, hc, Kd.F_mono hf (fun k hk => ?_)⟩
  obtain ⟨_, _, _, q, hq, cells, hcell⟩ := hk
  obtain rfl : q = 5 := by simpa [Kd.int, Kd.scalar] using hq
  exact ⟨cells, hcell⟩
/-- The first leaves, as they are gathered. -/
def Lf (w : World) (base : Nat) (v : Value) (L : List (List Int)) (i : Nat) : Prop := ∃ cs : List Value, w.ownsRow base 30 1 v i cs ∧ ∀ j, j < i → ∃ A c, cs[j]? = some (.slice A (L.getD j []).length c) ∧ (L.getD j []).length ≤ c ∧ Kd.F (Kd.int .u8) w (B5 w) A (L.getD j []).length (L.getD j [])
theorem Lf.mv {w w1 : World} {base : Nat} {v : Value} {L : List (List Int)} {i : Nat} (h : Lf w base v L i) (m : Mv w w1) : Lf w1 base v L i := by
  obtain ⟨cs, h1, h2⟩ := h
  refine ⟨cs, own_move h1 (fun k hk => ?_), fun j hj => ?_⟩
  · obtain ⟨cells, hc⟩ := own_typed h1 k hk
    exact m.block k (blk_lt hc) (NT.of hc (by decide))
  · obtain ⟨A, c, e1, e2, e3⟩ := h2 j hj
    exact ⟨A, c, e1, e2, F5_mv e3 m⟩
theorem Lf.nil (w : World) (base : Nat) (L : List (List Int)) : Lf w base (.slice none 0 0) L 0 := ⟨[], own_nil _ _ _ _, fun j hj => absurd hj (Nat.not_lt_zero j)⟩
theorem Lf.snoc {w w1 : World} {base : Nat} {v v1 : Value} {L : List (List Int)} {i : Nat} {cs : List Value} {A : Option Addr} {c : Nat} (h1 : w.ownsRow base 30 1 v i cs) (h2 : ∀ j, j < i → ∃ A c, cs[j]? = some (.slice A (L.getD j []).length c) ∧ (L.getD j []).length ≤ c ∧ Kd.F (Kd.int .u8) w (B5 w) A (L.getD j []).length (L.getD j []))
    (hc : (L.getD i []).length ≤ c) (hF : Kd.F (Kd.int .u8) w (B5 w) A (L.getD i []).length (L.getD i [])) (ho : w1.ownsRow base 30 1 v1 (i + 1) (cs ++ [.slice A (L.getD i []).length c])) (hg : w.grownBy w1 v.ownBlock) : Lf w1 base v1 L (i + 1) := by
  have hr : ∀ k, v.ownBlock = some k → ∃ cs, w.heap[k]? = some (.cells cs 30 (0, 0)) := fun k hk => own_typed h1 k hk
  have hl : cs.length = i := by have := h1.1; omega
  refine ⟨_, ho, fun j hj => ?_⟩
  by_cases e : j = i
  · subst e
    exact ⟨A, c, by rw [List.getElem?_append_right (by omega), hl, Nat.sub_self]; rfl, hc, F5_grown hF hg hr⟩
  · obtain ⟨A', c', e1, e2, e3⟩ := h2 j (by omega)
    exact ⟨A', c', by rw [List.getElem?_append_left (by omega)]; exact e1, e2, F5_grown e3 hg hr⟩
theorem Lf.C {w : World} {base : Nat} {v : Value} {L : List (List Int)} {n : Nat} (h : Lf w base v L n) (hn : n = L.length) (hm : n ≤ 100000) : ∃ A c, v = .slice A L.length c ∧ L.length ≤ c ∧ Kd.C dS w A L.length L := by
  obtain ⟨cs, h1, h2⟩ := h
  subst hn
  have h3 := h1.2
  rcases h3 with ⟨rfl, h0⟩ | ⟨g, cap, cur, rfl, hg, hh, hc, hmx, hs, ht⟩
  · have : L = [] := List.length_eq_zero_iff.1 h0
    subst this
    exact ⟨none, 0, rfl, Nat.le_refl _, Kd.C_nil _ _⟩
  · refine ⟨_, cap, rfl, hc, rfl, by show L.length ≤ 9223372036854775807; omega, fun _ => ⟨_, rfl, fun j x hj => ?_⟩⟩
    have hjl := (List.getElem?_eq_some_iff.1 hj).1
    obtain ⟨A, c, e1, e2, e3⟩ := h2 j hjl
    rw [show L.getD j [] = x by rw [List.getD_eq_getElem?_getD, hj]; rfl] at e1 e2 e3
    refine ⟨[.slice A x.length c], rfl, ⟨A, c, rfl, e2, Kd.F_now e3⟩, fun i u hu => ?_⟩
    have hi0 : i = 0 := by have := (List.getElem?_eq_some_iff.1 hu).1; simpa using this
    subst hi0
    obtain rfl : Value.slice A x.length c = u := by simpa using hu
    have := World.ownsRow.cells h1 (g := g) rfl j _ e1
    rw [show j * dS.sz + 0 = j by show j * 1 + 0 = j; omega]
    exact this
theorem R_mv {w w1 : World} {base : Nat} {v : Value} {l : List Int} (h : Kd.R (Kd.int .u8) 5 w base (fun k => base ≤ k) v l) (m : Mv w w1) : Kd.R (Kd.int .u8) 5 w1 base (fun k => base ≤ k) v l :=
  Kd.R_mono (Kd.R_step (Kd.R_bound h) (fun k hk hlt => by
    obtain ⟨_, _, _, q, hq, cells, hcell⟩ := hk
    obtain rfl : q = 5 := by simpa [Kd.int, Kd.scalar] using hq
    exact m.block k hlt (NT.of hcell (by decide)))) (fun k hk => hk.1)
theorem Mv.grown2 {w w1 w2 : World} {row : Option Nat} (m : Mv w w1) (hg : w1.grownBy w2 row) (hr : ∀ k, row = some k → w.heap.size ≤ k) : Mv w w2 :=
  ⟨hg.os.trans m.os, hg.tape.trans m.tape, hg.output.trans m.output, Nat.le_trans m.size hg.size, fun k hk ht => (hg.block k (Nat.lt_of_lt_of_le hk m.size) (fun e => by have := hr k e.symm; omega)).trans (m.block k hk ht)⟩
theorem Dk.grown {base p gs : Nat} {hv cv : Value} {d : DSt} {w w1 : World} {row : Option Nat} (h : Dk base p gs hv cv d w) (hg : w.grownBy w1 row) (hr : ∀ k, row = some k → ∃ cs, w.heap[k]? = some (.cells cs 5 (0, 0))) : Dk base p gs hv cv d w1 := by
  obtain ⟨cells, hty⟩ := h.s.ty
  have hb : ∀ (k : Nat) (cs : Array Value) (t : TypeId), w.heap[k]? = some (Obj.cells cs t (0, 0)) → t ≠ 5 → w1.heap[k]? = w.heap[k]? := fun k cs t hk ht => hg.block k (blk_lt hk) (fun e => by
    obtain ⟨cs', h'⟩ := hr k e.symm
    exact ne_types hk h' ht rfl)
  exact ⟨(hb p _ _ h.o (by decide)).trans h.o, h.s.move (hb gs _ _ hty (by decide)), own_move h.h (fun k hk => by obtain ⟨cs, hc⟩ := own_typed h.h k hk; exact hb k _ _ hc (by decide)), h.c.move (fun k cs _ hk => hb k _ _ hk (by decide)), h.h64, h.bp, h.bs, h.n1, h.m1, h.k1⟩
theorem below_mono {a b : Nat} {w w1 : World} (h : Below b w w1) (hab : a ≤ b) : Below a w w1 := ⟨h.os, h.tape, h.output, h.size, fun k hk => h.block k (Nat.lt_of_lt_of_le hk hab)⟩
theorem R_typed5 {w : World} {base : Nat} {ok : Nat → Prop} {v : Value} {l : List Int} (h : Kd.R (Kd.int .u8) 5 w base ok v l) : ∀ k, v.ownBlock = some k → ∃ cs, w.heap[k]? = some (.cells cs 5 (0, 0)) := fun k hk => Kd.R_typed h k hk
/-- The first pieces, one behind the other. -/
def cats (ps : List (List Int)) (k : Nat) : List Int := (ps.take k).flatten
theorem cats_succ (ps : List (List Int)) (k : Nat) (h : k < ps.length) : cats ps (k + 1) = cats ps k ++ ps.getD k [] := by
  unfold cats
  have e1 : ps.take (k + 1) = ps.take k ++ [ps.getD k []] := by
    rw [List.take_add_one, List.getElem?_eq_getElem h, List.getD_eq_getElem?_getD, List.getElem?_eq_getElem h]
    rfl
  rw [e1, List.flatten_append, List.flatten_cons, List.flatten_nil, List.append_nil]
theorem cats_le (ps : List (List Int)) (k : Nat) : (cats ps k).length ≤ ps.flatten.length := by
  unfold cats
  have : ps.flatten = (ps.take k).flatten ++ (ps.drop k).flatten := by rw [← List.flatten_append, List.take_append_drop]
  rw [this, List.length_append]
  omega
theorem info_row : (Tryd.prog.info? 30).map (fun i => (i.zero, i.size, i.bytes)) = some (some (.slice none 0 0), 1, 24) := by kernel_rfl
theorem few_c (A : Option Addr) (n c m : Nat) (hm : m ≤ 100000) (hc : n ≤ c) (hn : n ≤ 9223372036854775807) (w : World) : Calls Tryd.prog 12 #[.slice A n c, .int .i64 m] w fun e w' => e = .returned (.slice A (min n m) c) ∧ w' = w := by
  have hmI : (m : Int) ≤ 100000 := by omega
  have hnI : (n : Int) ≤ 9223372036854775807 := by omega
  by_cases h : m < n
  · have h1 : (m : Int) < (n : Int) := by omega
    have h2 : (m : Int) ≤ (c : Int) := by omega
    have hmn : min n m = m := by omega
    rw [hmn]
    clear h hmn
    obtain ⟨ad, rfl⟩ | rfl : (∃ ad, A = some ad) ∨ A = none := by cases A; exact .inr rfl; exact .inl ⟨_, rfl⟩
    · go_enter Tryd.func12, Tryd.ntmps12
      go_wp2
      go_ret
      exact ⟨rfl, rfl⟩
    · go_enter Tryd.func12, Tryd.ntmps12
      go_wp2
      go_ret
      exact ⟨rfl, rfl⟩
  · have h1 : ¬ (m : Int) < (n : Int) := by omega
    have hmn : min n m = n := by omega
    rw [hmn]
    clear h hmn
    go_enter Tryd.func12, Tryd.ntmps12
    go_wp2
    go_ret
    exact ⟨rfl, rfl⟩
end Go.Proofs.YtbenedckmapjoaaDoor.D
