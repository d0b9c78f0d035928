/- A point's bytes, in numbers; the window of a point. -/
import Derived.Test.YtbenedckmapjoaaDoorPr
namespace Go.Proofs.YtbenedckmapjoaaDoor.F
open Go.RowKit Go.Proofs.YtbenedckmapjoaaDoor.H Go.Proofs.YtbenedckmapjoaaDoorW.PrintWords Go.Proofs.YtbenedckmapjoaaDoorW.PrintLast Go.Proofs.YtbenedckmapjoaaDoorW.PrintMore
set_option linter.unusedVariables false
set_option linter.unusedSimpArgs false
theorem pstep_rg (b : Int) (l : List Int) (i : Nat) (acc : Int) : Rg (pstep b l i acc) := by
  unfold pstep
  split <;> exact rg_mod _
theorem pwm_rg (b : Int) (l : List Int) : ∀ (i : Nat) (acc : Int), Rg acc → Rg (pwm b l i acc)
  | 0, acc, h => h
  | i + 1, acc, h => by rw [pwm]; exact pwm_rg b l i _ (pstep_rg b l i acc)
theorem inv_rg (a : Int) : Rg (inv a) := pwm_rg _ _ _ _ (by unfold Rg; decide)
/-- A point's bytes. -/
def Pnt.bytes (p : Pnt) : List Int := if fm p.x (inv p.z) % 2 == 1 then (stB (fm p.y (inv p.z)).toNat 255).set 31 (bits .or .u8 ((stB (fm p.y (inv p.z)).toNat 255).getD 31 0) 128) else stB (fm p.y (inv p.z)).toNat 255
theorem PEncode (p : Pnt) (hp : p.ok) (w : World) : Calls Tryd.prog 23 #[Vp p] w fun e w' => ∃ g, e = .returned (.slice (some ⟨g, 0, none⟩) 32 32) ∧ Byt g p.bytes w' ∧ w.heap.size ≤ g ∧ Below w.heap.size w w' :=
  Enc_w (enc p.x) (enc p.y) (enc p.z) (enc p.t) (enc (inv p.z)) (enc (fm p.y (inv p.z))) (enc (fm p.x (inv p.z))) (stB (fm p.y (inv p.z)).toNat 255) p.L (fm p.x (inv p.z) % 2 == 1) _ rfl rfl rfl rfl rfl rfl rfl rfl (stB_length _ _) rfl w
    (fun w => FInv _ hp.2.2.1 w) (fun w => FMul _ _ hp.2.1 (inv_rg _) w) (fun w => FEncode _ (rg_fm _ _) w) (fun w => FMul _ _ hp.1 (inv_rg _) w) (fun w => FOdd _ (rg_fm _ _) w)
/-- A point so many times, as the window holds it. -/
def Pnt.mul (p : Pnt) : Nat → Pnt
  | 0 => p0
  | n + 1 => if (n + 1) % 2 = 0 then (p.mul ((n + 1) / 2)).dbl else (p.mul n).sum p
termination_by n => n
decreasing_by all_goals omega
theorem mul_even (p : Pnt) (n : Nat) (h : 0 < n) (h2 : n % 2 = 0) : p.mul n = (p.mul (n / 2)).dbl := by
  match n, h with
  | n + 1, _ => rw [Pnt.mul, if_pos h2]
theorem mul_odd (p : Pnt) (n : Nat) (h : 0 < n) (h2 : n % 2 = 1) : p.mul n = (p.mul (n - 1)).sum p := by
  match n, h with
  | n + 1, _ => rw [Pnt.mul, if_neg (by omega)]; rfl
theorem mul_ok (p : Pnt) : ∀ n, (p.mul n).ok
  | 0 => by rw [Pnt.mul]; exact p0_ok
  | n + 1 => by
    rw [Pnt.mul]
    split
    · exact dbl_ok _
    · exact sum_ok _ _
/-- The cells of points, one behind the other. -/
def flatP (l : List Pnt) : List Int := l.flatMap Pnt.L
theorem L_length (p : Pnt) : p.L.length = 20 := rfl
theorem flatP_length : ∀ l : List Pnt, (flatP l).length = 20 * l.length
  | [] => rfl
  | p :: l => by
    have := flatP_length l
    unfold flatP at this ⊢
    rw [List.flatMap_cons, List.length_append, this, L_length, List.length_cons]
    omega
/-- Points in a block that holds many. -/
structure Win (g n : Nat) (f : Nat → Pnt) (w : World) : Prop where
  p : ∀ i, i < n → w.rangeAt g (20 * i) (cells64 (f i).L).toList
  t : w.there g 0 320
theorem Win.below {g n : Nat} {f : Nat → Pnt} {w w1 : World} (h : Win g n f w) (hb : Below w.heap.size w w1) (hg : g < w.heap.size) : Win g n f w1 :=
  ⟨fun i hi => rangeAt_below (h.p i hi) hb, fun j hj => by
    have h1 := h.t j hj
    obtain ⟨v, hv⟩ := Option.isSome_iff_exists.1 h1.1
    refine ⟨by rw [(hb.cell (World.block_lt_of_cell? _ _ hv)), hv]; rfl, ?_⟩
    rw [hb.frozen (World.block_lt_of_cell? _ _ hv)]
    exact h1.2⟩
theorem there_part {w : World} {g n o m : Nat} (h : w.there g 0 n) (ho : o + m ≤ n) : w.there g o m := fun j hj => by
  have := h (o + j) (by omega)
  simpa using this
theorem Win.put {g n : Nat} {f : Nat → Pnt} {w : World} (h : Win g n f w) (hn : n < 16) : Win g (n + 1) f (w.setCells g (20 * n) (cells64 (f n).L).toList) := by
  have hl : ∀ p : Pnt, (cells64 p.L).toList.length = 20 := fun p => rfl
  refine ⟨fun i hi => ?_, World.there_setCells h.t _ _ _⟩
  by_cases e : i = n
  · subst e
    exact World.rangeAt_setCells_same _ _ _ _ (there_part h.t (by rw [hl]; omega))
  · exact World.rangeAt_setCells_apart (h.p i (by omega)) _ _ _ (.inr (.inl (by rw [hl]; omega)))
end Go.Proofs.YtbenedckmapjoaaDoor.F
