/- The gathering of texts. -/
import Derived.Test.YtcnpdapampclpaaDoorTm
import Derived.Test.YtcnpdapampclpaaDoorJ3
namespace Go.Proofs.YtcnpdapampclpaaDoor.X
open Go.RowKit Go.Proofs.YtcnpdapampclpaaDoor.H Go.Proofs.YtcnpdapampclpaaDoorW.PrintWords Go.Proofs.YtcnpdapampclpaaDoorW.PrintLast Go.Proofs.YtcnpdapampclpaaDoorW.PrintMore Go.Proofs.YtcnpdapampclpaaDoor.PPl Go.Proofs.YtcnpdapampclpaaDoor.PPm Go.Proofs.YtcnpdapampclpaaDoor.PPn Go.Proofs.YtcnpdapampclpaaDoor.PTp Go.Proofs.YtcnpdapampclpaaDoor.PRa Go.Proofs.YtcnpdapampclpaaDoor.PRb Go.Proofs.YtcnpdapampclpaaDoor.PRd
set_option linter.unusedVariables false
/-- A row of bytes made since. -/
def Bq (w : World) (s : Nat) (v : Value) (x : List Int) : Prop := Bs w s v x
/-- A row of rows made since, whose elements are new or older than B. -/
def Nq (w : World) (B s : Nat) (v : Value) (xs : List (List Int)) : Prop := ∃ base, Kd.N dB 23 w base (fun k => k < B ∨ s ≤ k) v xs
/-- The texts that are gathered (v), beside the marks (vk), which lie below B. -/
structure Dg (w0 w : World) (B : Nat) (vk : Value) (M : List (List Int)) (v : Value) (xs : List (List Int)) : Prop where
  b : Below w0.heap.size w0 w
  le0 : w0.heap.size ≤ B
  le : B ≤ w.heap.size
  k : Kd.V dB 23 w 0 (fun k => k < B) vk M
  n : Kd.N dB 23 w w0.heap.size (fun _ => True) v xs
  own : ∀ b, v.ownBlock = some b → B ≤ b
section
variable {w0 w w1 : World} {B s : Nat} {vk v v1 : Value} {M xs ys : List (List Int)}
theorem Bq.below {x : List Int} (h : Bq w s v x) (hb : Below w.heap.size w w1) : Bq w1 s v x := Kd.R_below h hb
theorem Bq.b {x : List Int} (h : Bq w s v x) : IsB w v x := IsB.of_R h
theorem Nq.below (h : Nq w B s v xs) (hb : Below w.heap.size w w1) : Nq w1 B s v xs := by
  obtain ⟨base, h⟩ := h
  exact ⟨base, Kd.N_below h hb⟩
theorem Dg.below (h : Dg w0 w B vk M v xs) (hb : Below w.heap.size w w1) : Dg w0 w1 B vk M v xs :=
  ⟨below_step h.b hb, h.le0, Nat.le_trans h.le hb.size, Kd.V_below h.k hb, Kd.N_below h.n hb, h.own⟩
theorem Dg.isN (h : Dg w0 w B vk M v xs) : IsN w vk M := by
  obtain ⟨A, c, rfl, h1, h2⟩ := h.k
  exact ⟨A, c, rfl, h1, Kd.F_now h2⟩
theorem Dg.all (h : Dg w0 w B vk M v xs) : IsN w v xs := IsN.of_N h.n
theorem Dg.mk' (hb : Below w0.heap.size w0 w) (hle0 : w0.heap.size ≤ B) (hle : B ≤ w.heap.size) (hk : IsN w vk M) (hk0 : Kd.V dB 23 w 0 (fun k => k < B) vk M) {base : Nat} (hB : B ≤ base) {ok : Nat → Prop} (hn : Kd.N dB 23 w base ok v xs) : Dg w0 w B vk M v xs :=
  ⟨hb, hle0, hle, hk0, Kd.N_mono (Kd.N_lower hn (Nat.le_trans hle0 hB)) (fun _ _ => trivial), fun b hb => Nat.le_trans hB (Kd.N_base hn b hb)⟩
/-- Behind an append to what is gathered. -/
theorem Dg.app (h : Dg w0 w B vk M v xs) (hN : Kd.N dB 23 w1 w0.heap.size (fun _ => True) v1 (xs ++ ys)) (hB : Below w0.heap.size w0 w1) (hg : w.grownBy w1 v.ownBlock) (hat : v1.ownBlock = v.ownBlock ∨ ∃ b, v1.ownBlock = some b ∧ w.heap.size ≤ b) : Dg w0 w1 B vk M v1 (xs ++ ys) :=
  ⟨hB, h.le0, Nat.le_trans h.le hg.size, Kd.V_map h.k (fun _ hf => Kd.F_step hf (fun k hk hlt => hg.block k hlt (fun e => by have := h.own k e.symm; omega))), hN, fun b hb => by
    rcases hat with hat | ⟨c, hc, hle⟩
    · exact h.own b (by rw [← hat]; exact hb)
    · rw [hc] at hb; injection hb with hb; have := h.le; omega⟩
/-- What an append of rows made since asks for. -/
theorem Dg.apart (h : Dg w0 w B vk M v xs) (hs : ∀ b, v.ownBlock = some b → b < s) (u : Value) : ∀ k, (k < B ∨ s ≤ k) → some k ≠ u.ownBlock → True ∧ some k ≠ v.ownBlock := fun k hk _ => ⟨trivial, fun e => by
  have h1 := h.own k e.symm
  have h2 := hs k e.symm
  omega⟩
theorem Dg.lt (h : Dg w0 w B vk M v xs) : ∃ s, s ≤ w.heap.size ∧ ∀ b, v.ownBlock = some b → b < s := ⟨w.heap.size, Nat.le_refl _, fun b hb => Kd.N_lt h.n b hb⟩
theorem headtext_q {n : Int} {t : List Int} (h : IsB w v t) (ht : t.length ≤ 200000) (hs : s ≤ w.heap.size) : Calls Tryd.prog 37 #[.int .i64 n, v] w fun e w' => ∃ v', e = .returned v' ∧ Bq w' s v' (18 :: (e8 n ++ t)) ∧ Below w.heap.size w w' := by
  refine (headtext_v h ht).mono ?_
  rintro e w' ⟨v', rfl, hR, hB⟩
  exact ⟨v', rfl, Kd.R_mono (Kd.R_lower hR hs) (fun k hk => Nat.le_trans hs hk), hB⟩
theorem texts_q (h : Kd.V dB 23 w 0 (fun k => k < B) vk M) (hv : Lv M) (hM : M.length ≤ 4096) (hs : s ≤ w.heap.size) :
    Calls Tryd.prog 38 #[vk] w fun e w' => ∃ v', e = .returned v' ∧ Nq w' B s v' (textsL M) ∧ Below w.heap.size w w' := by
  refine (texts_v h hv hM).mono ?_
  rintro e w' ⟨v', rfl, hN, hB⟩
  exact ⟨v', rfl, ⟨_, Kd.N_mono hN (fun k hk => hk.imp id (fun h => Nat.le_trans hs h))⟩, hB⟩
theorem marktexts_q {l : List (List Int)} (B : Nat) (VL : IsN w v l) (hb : ∀ x ∈ l, x.length ≤ 8192) (hl : l.length ≤ 4096) (hs : s ≤ w.heap.size) :
    Calls Tryd.prog 39 #[v] w fun e w' => ∃ v', e = .returned v' ∧ Nq w' B s v' (mtexts l) ∧ Below w.heap.size w w' := by
  refine (marktexts_c v l w VL hb hl).mono ?_
  rintro e w' ⟨v', rfl, hN, hB⟩
  exact ⟨v', rfl, ⟨_, Kd.N_mono hN (fun k hk => .inr (Nat.le_trans hs hk))⟩, hB⟩
/-- Two texts, in a row newly made. -/
theorem two_q {A1 A2 : Option Addr} {n1 n2 c1 c2 : Nat} {x1 x2 : List Int} (h1 : Bq w s (.slice A1 n1 c1) x1) (h2 : Bq w s (.slice A2 n2 c2) x2) : Reps (Kd.FK dB w (fun k => k < B ∨ s ≤ k)) dB.sz [x1, x2] [.slice A1 n1 c1, .slice A2 n2 c2] :=
  Reps.one (fk_of h1 (fun k hk => .inr hk)).2 (Reps.one (fk_of h2 (fun k hk => .inr hk)).2 (Reps.none _ _))
theorem three_q {A1 A2 A3 : Option Addr} {n1 n2 n3 c1 c2 c3 : Nat} {x1 x2 x3 : List Int} (h1 : Bq w s (.slice A1 n1 c1) x1) (h2 : Bq w s (.slice A2 n2 c2) x2) (h3 : Bq w s (.slice A3 n3 c3) x3) : Reps (Kd.FK dB w (fun k => k < B ∨ s ≤ k)) dB.sz [x1, x2, x3] [.slice A1 n1 c1, .slice A2 n2 c2, .slice A3 n3 c3] :=
  Reps.one (fk_of h1 (fun k hk => .inr hk)).2 (Reps.one (fk_of h2 (fun k hk => .inr hk)).2 (Reps.one (fk_of h3 (fun k hk => .inr hk)).2 (Reps.none _ _)))
theorem Nq.of {base : Nat} (h : Kd.N dB 23 w base (fun k => k < B ∨ s ≤ k) v xs) : Nq w B s v xs := ⟨base, h⟩
/-- The marks, with what lies below now. -/
theorem marks_q {l : List (List Int)} (h : IsN w v l) (hb : ∀ x ∈ l, (∀ y ∈ x, 0 ≤ y ∧ y < 256) ∧ x.length ≤ 8192) (hl : l.length ≤ 4096) :
    Calls Tryd.prog 17 #[v] w fun e w' => ∃ v', e = .returned v' ∧ IsN w' v' (marks l) ∧ Below w.heap.size w w' := marks_v h hb hl
theorem IsN.V0 {xs : List (List Int)} (h : IsN w v xs) : Kd.V dB 23 w 0 (fun k => k < w.heap.size) v xs := by
  obtain ⟨A, c, rfl, hV⟩ := h.V
  exact hV
end
/-- The marks while they stay below B. -/
def Vq (w : World) (B : Nat) (v : Value) (M : List (List Int)) : Prop := Kd.V dB 23 w 0 (fun k => k < B) v M ∧ B ≤ w.heap.size
theorem Vq.below {w w1 : World} {B : Nat} {v : Value} {M : List (List Int)} (h : Vq w B v M) (hb : Below w.heap.size w w1) : Vq w1 B v M := ⟨Kd.V_below h.1 hb, Nat.le_trans h.2 hb.size⟩
theorem Vq.isN {w : World} {B : Nat} {v : Value} {M : List (List Int)} (h : Vq w B v M) : IsN w v M := by
  obtain ⟨A, c, rfl, h1, h2⟩ := h.1
  exact ⟨A, c, rfl, h1, Kd.F_now h2⟩
theorem Vq.of {w : World} {v : Value} {M : List (List Int)} (h : IsN w v M) : ∃ B, w.heap.size ≤ B ∧ Vq w B v M := ⟨w.heap.size, Nat.le_refl _, h.V0, Nat.le_refl _⟩
end Go.Proofs.YtcnpdapampclpaaDoor.X
