/- What stays while a trail grows. -/
import Derived.Test.YtcnpdapampclpaaDoorTc
import Derived.Test.YtcnpdapampclpaaDoorTf
namespace Go.Proofs.YtcnpdapampclpaaDoor.X
open Go.RowKit Go.Proofs.YtcnpdapampclpaaDoor.H Go.Proofs.YtcnpdapampclpaaDoorW.PrintWords Go.Proofs.YtcnpdapampclpaaDoorW.PrintLast Go.Proofs.YtcnpdapampclpaaDoorW.PrintMore Go.Proofs.YtcnpdapampclpaaDoor.PPl Go.Proofs.YtcnpdapampclpaaDoor.PPm Go.Proofs.YtcnpdapampclpaaDoor.PPn Go.Proofs.YtcnpdapampclpaaDoor.PPo Go.Proofs.YtcnpdapampclpaaDoor.PTp Go.Proofs.YtcnpdapampclpaaDoor.PRa Go.Proofs.YtcnpdapampclpaaDoor.PRb
set_option linter.unusedVariables false
/-- A row of bytes made since, by itself. -/
def BsD (w' : World) (base : Nat) (v : Value) (x : List Int) : Prop := Bs w' base v x
def NsD (w' : World) (base : Nat) (v : Value) (x : List (List Int)) : Prop := Ns w' base v x
section
variable {w w1 : World} {base p : Nat} {v : Value} {S : Nat → Prop} {X : Nat → Prop} {M : List (List Int)} {vs : List Value}
theorem BsD.below {x : List Int} (h : BsD w base v x) (hb : Below w.heap.size w w1) : BsD w1 base v x := Kd.R_below h hb
theorem NsD.below {x : List (List Int)} (h : NsD w base v x) (hb : Below w.heap.size w w1) : NsD w1 base v x := Kd.N_below h hb
theorem BsD.fr {x : List Int} (h : BsD w base v x) (hf : Fr S w w1) (hS : ∀ k, base ≤ k → ¬ S k) : IsB w1 v x := IsB.of_R (R_fr h hf (fun k hk _ => hS k hk))
theorem NsD.fr {x : List (List Int)} (h : NsD w base v x) (hf : Fr S w w1) (hS : ∀ k, base ≤ k → ¬ S k) : IsN w1 v x := IsN.of_N (N_fr h hf (fun k hk _ => hS k hk))
theorem LT.of (hg : Glb w) (hb : 1 < base) (hT : TrailR base p M.length vs (levL M) w) (hv : Lv M) (hM : M.length ≤ 4096) : LT p M w := ⟨hg, ⟨base, vs, hb, hT⟩, hv, hM⟩
end
theorem marks_app (l k : List (List Int)) : marks (l ++ k) = marks l ++ marks k := List.map_append
theorem marks_take (l k : List (List Int)) (n : Nat) (h : n ≤ l.length) : (marks (l ++ k)).take n = (marks l).take n := by
  rw [marks_app, List.take_append_of_le_length (by rw [marks_length]; exact h)]
theorem hdL_app (l k : List (List Int)) (n : Nat) (h : n ≤ l.length) : hdL (marks (l ++ k)) n = hdL (marks l) n := by
  unfold hdL
  rw [marks_take l k n h]
/-- A trail while entries are put behind it: what it was is told by w0. -/
structure Grow (w0 : World) (base p : Nat) (vs : List Value) (l k : List (List Int)) (i : Nat) (vs' : List Value) (wr : World) : Prop where
  T : TrailR base p (marks (l ++ k.take i)).length vs' (levL (marks (l ++ k.take i))) wr
  F : Fr (ownT p vs) w0 wr
  O : ∀ b, ownT p vs' b → ownT p vs b ∨ w0.heap.size ≤ b
theorem Grow.zero {w0 : World} {base p : Nat} {vs : List Value} {l k : List (List Int)} (h : TrailR base p (marks l).length vs (levL (marks l)) w0) : Grow w0 base p vs l k 0 vs w0 :=
  ⟨by rw [List.take_zero, List.append_nil]; exact h, Fr.refl _ _, fun b hb => .inl hb⟩
theorem Grow.glb {w0 wr : World} {base p : Nat} {vs vs' : List Value} {l k : List (List Int)} {i : Nat} (h : Grow w0 base p vs l k i vs' wr) (hg : Glb w0) (h0 : TrailR base p (marks l).length vs (levL (marks l)) w0) (hb : 1 < base) : Glb wr :=
  hg.fr h.F (fun x => by have := h0.ownT_base x; omega) (fun x => by have := h0.ownT_base x; omega)
/-- One entry more. -/
theorem Grow.step {w0 wr : World} {base p : Nat} {vs vs' : List Value} {l k : List (List Int)} {i : Nat} {A : Option Addr} {c : Nat} (h : Grow w0 base p vs l k i vs' wr) (hg : Glb w0) (h0 : TrailR base p (marks l).length vs (levL (marks l)) w0) (hb : 1 < base) (hi : i < k.length) (hn : (l ++ k).length ≤ 4096)
    (hC : Kd.C (Kd.int .u8) wr A (k.getD i []).length (k.getD i [])) (hc : (k.getD i []).length ≤ c) (hbb : (∀ y ∈ k.getD i [], 0 ≤ y ∧ y < 256) ∧ (k.getD i []).length ≤ 8192) :
    Calls Tryd.prog 25 #[.pointer (some ⟨p, 0, none⟩), .slice A (k.getD i []).length c] wr fun e w' => e = .returned (.int .i64 0) ∧ ∃ vs2, Grow w0 base p vs l k (i + 1) vs2 w' := by
  have hl : (marks (l ++ k.take i)).length < 4096 := by rw [marks_length, List.length_append, List.length_take]; rw [List.length_append] at hn; omega
  refine (add_ok base p vs' (marks (l ++ k.take i)) A c (k.getD i []) wr (h.glb hg h0 hb) h.T (marks_lv _) hl hC hc hbb.1 hbb.2 hb).mono ?_
  rintro e w' ⟨rfl, vs2, hT, hF, hO⟩
  have e : marks (l ++ k.take i) ++ [dig (16 :: k.getD i [])] = marks (l ++ k.take (i + 1)) := by
    rw [take_next k [] i hi, ← List.append_assoc, marks_app (l ++ k.take i)]
    rfl
  rw [e] at hT
  refine ⟨rfl, vs2, ⟨hT, h.F.trans hF h.O, fun b hb => ?_⟩⟩
  rcases hb with rfl | ⟨j, hj⟩
  · exact .inl (.inl rfl)
  · rcases hO j b hj with h1 | h1
    · exact h.O b h1
    · exact .inr (Nat.le_trans h.F.size h1)
/-- A trail and its copy, before entries are put behind the trail. -/
structure St (l : List (List Int)) (base p p2 lim : Nat) (vs : List Value) (w : World) : Prop where
  glb : Glb w
  hb : 1 < base
  T : TrailR base p (marks l).length vs (levL (marks l)) w
  X : ∃ b2 vs2, 1 < b2 ∧ TrailX (fun b => ¬ ownT p vs b) b2 p2 (marks l).length vs2 (levL (marks l)) w
  np : ¬ ownT p vs p2
  own : ∀ b, ownT p vs b → b < lim
  le : lim ≤ w.heap.size
  n : (marks l).length ≤ 4096
section
variable {l k : List (List Int)} {base p p2 lim : Nat} {vs vs' : List Value} {w w1 : World} {v : Value}
theorem St.below (h : St l base p p2 lim vs w) (hb : Below w.heap.size w w1) : St l base p p2 lim vs w1 := by
  obtain ⟨b2, vs2, h1, h2⟩ := h.X
  exact ⟨h.glb.of hb, h.hb, h.T.below hb, ⟨b2, vs2, h1, h2.below hb⟩, h.np, h.own, Nat.le_trans h.le hb.size, h.n⟩
theorem St.lt (h : St l base p p2 lim vs w) : LT p (marks l) w := LT.of h.glb h.hb h.T (marks_lv l) h.n
theorem St.bs (h : St l base p p2 lim vs w) {x : List Int} (hr : Bs w1 w.heap.size v x) : BsD w1 lim v x := Kd.R_mono (Kd.R_lower hr h.le) (fun k hk => Nat.le_trans h.le hk)
theorem St.ns (h : St l base p p2 lim vs w) {x : List (List Int)} (hr : Ns w1 w.heap.size v x) : NsD w1 lim v x := Kd.N_mono (Kd.N_lower hr h.le) (fun k hk => Nat.le_trans h.le hk)
theorem St.far (h : St l base p p2 lim vs w) : ∀ b, lim ≤ b → ¬ ownT p vs b := fun b hb ho => by have := h.own b ho; omega
/-- Behind all entries. -/
theorem St.after (h : St l base p p2 lim vs w) (g : Grow w base p vs l k k.length vs' w1) (hn : (l ++ k).length ≤ 4096) : LT p (marks (l ++ k)) w1 ∧ LT p2 (marks l) w1 := by
  have hg := g.glb h.glb h.T h.hb
  obtain ⟨b2, vs2, h1, h2⟩ := h.X
  have hT := g.T
  rw [List.take_length] at hT
  exact ⟨LT.of hg h.hb hT (marks_lv _) (by rw [marks_length]; exact hn), LT.of hg h1 (h2.fr g.F h.np (fun _ _ b _ hx _ => hx)).toR (marks_lv l) h.n⟩
theorem row_s (HG : Glb w) (h : IsN w v l) (hb : ∀ x ∈ l, (∀ y ∈ x, 0 ≤ y ∧ y < 256) ∧ x.length ≤ 8192) (hl : l.length ≤ 4096) :
    Calls Tryd.prog 15 #[v] w fun e w' => ∃ base p vs, e = .returned (.pointer (some ⟨p, 0, none⟩)) ∧ (TrailR base p (marks l).length vs (levL (marks l)) w' ∧ w.heap.size ≤ base) ∧ 1 < base ∧ Below w.heap.size w w' := by
  obtain ⟨A, c, rfl, h1, h2⟩ := h
  refine (row_c A c l w HG h2 hb hl).mono ?_
  rintro e w' ⟨vs, rfl, hT, hB⟩
  exact ⟨w.heap.size, w.heap.size, vs, rfl, ⟨hT, Nat.le_refl _⟩, by have := HG.g0; have := HG.g1; omega, hB⟩
theorem copy_s (HG : Glb w) (hb : 1 < base) (hT : TrailR base p (marks l).length vs (levL (marks l)) w) (hn : (marks l).length ≤ 4096) :
    Calls Tryd.prog 32 #[.pointer (some ⟨p, 0, none⟩)] w fun e w' => ∃ p2, e = .returned (.pointer (some ⟨p2, 0, none⟩)) ∧ St l base p p2 w.heap.size vs w' ∧ Below w.heap.size w w' := by
  refine (copy_c base p (marks l).length vs (levL (marks l)) w hT (fun k => by rw [levL_length]; exact Nat.le_trans (Nat.div_le_self _ _) hn)).mono ?_
  rintro e w' ⟨rfl, ⟨vs2, hX⟩, hB⟩
  exact ⟨w.heap.size, rfl, ⟨HG.of hB, hb, hT.below hB, ⟨w.heap.size, vs2, by have := HG.g0; have := HG.g1; omega, hX⟩, (fun ho => by have := hT.ownT_lt ho; omega), fun b ho => hT.ownT_lt ho, hB.size, hn⟩, hB⟩
end
end Go.Proofs.YtcnpdapampclpaaDoor.X
