/- What laws ask of the reference, by the values that stand for rows. -/
import Derived.Test.YtcnpdapampclpaaDoorJ4
import Derived.Test.YtcnpdapampclpaaDoorP4
namespace Go.Proofs.YtcnpdapampclpaaDoor.X
open Go.RowKit Go.Proofs.YtcnpdapampclpaaDoor.H Go.Proofs.YtcnpdapampclpaaDoorW.PrintWords Go.Proofs.YtcnpdapampclpaaDoorW.PrintLast Go.Proofs.YtcnpdapampclpaaDoorW.PrintMore Go.Proofs.YtcnpdapampclpaaDoor.PPl Go.Proofs.YtcnpdapampclpaaDoor.PPm Go.Proofs.YtcnpdapampclpaaDoor.PPn Go.Proofs.YtcnpdapampclpaaDoor.PTp Go.Proofs.YtcnpdapampclpaaDoor.PRa Go.Proofs.YtcnpdapampclpaaDoor.PRb
set_option linter.unusedVariables false
set_option linter.unusedSimpArgs false
section
variable {w w1 : World} {v : Value} {A : Option Addr} {n c : Nat}
theorem marks_v {l : List (List Int)} (h : IsN w v l) (hb : ∀ x ∈ l, (∀ y ∈ x, 0 ≤ y ∧ y < 256) ∧ x.length ≤ 8192) (hl : l.length ≤ 4096) :
    Calls Tryd.prog 17 #[v] w fun e w' => ∃ v', e = .returned v' ∧ IsN w' v' (marks l) ∧ Below w.heap.size w w' := by
  obtain ⟨A, c, rfl, h1, h2⟩ := h
  refine (imprimaturref20_Marks.calls 5000 A c l (marks l) w h2 h1 (marks_f l (fun x hx => ⟨(hb x hx).1, by have := (hb x hx).2; omega⟩) (by omega) 5000 (by omega))).mono ?_
  rintro e w' ⟨v', rfl, hS, hB⟩
  exact ⟨v', rfl, IsN.of_N (Kd.S_N hS), hB⟩
theorem refTop_v {l : List (List Int)} (h : IsN w v l) (hv : Lv l) (h1 : 1 ≤ l.length) (hl : l.length ≤ 4096) :
    Calls Tryd.prog 23 #[v] w fun e w' => ∃ v', e = .returned v' ∧ IsB w' v' (topL l) ∧ Below w.heap.size w w' := by
  obtain ⟨A, c, rfl, hV⟩ := h.V
  refine (imprimaturref20_Top.calls 5000 _ A c l (topL l) w hV (top_f l.length l 5000 rfl hv h1 (by omega) (by omega))).mono ?_
  rintro e w' ⟨v', rfl, hV, hB⟩
  obtain ⟨A', c', rfl, h1', h2'⟩ := hV
  exact ⟨_, rfl, ⟨A', c', rfl, h1', Kd.F_now h2'⟩, hB⟩
theorem refHead_v {l : List (List Int)} (h : IsN w v l) (hv : Lv l) (hl : l.length ≤ 4096) :
    Calls Tryd.prog 22 #[v] w fun e w' => ∃ v', e = .returned v' ∧ IsB w' v' (hdL l l.length) ∧ Below w.heap.size w w' := by
  obtain ⟨A, c, rfl, h1, h2⟩ := h
  have hf : imprimaturref20_Head.f 5000 l = some (hdL l l.length) := by
    by_cases h0 : l.length = 0
    · obtain rfl := List.length_eq_zero_iff.1 h0
      exact headnil_f 5000 (by decide)
    · rw [head_f l 5000 hv (by omega) (by omega) (by omega)]
      unfold hdL
      rw [if_neg h0, List.take_length]
      rfl
  refine (imprimaturref20_Head.calls 5000 A c l _ w h2 h1 hf).mono ?_
  rintro e w' ⟨v', rfl, hR, hB⟩
  exact ⟨v', rfl, IsB.of_R hR, hB⟩
theorem headof_no {k : Nat} {n : Int} {t : List Int} (h : n < 0 ∨ 4096 < n ∨ 0 < n ∧ t.length ≠ 32) : trail_HeadOf.f (k + 1) n t = some ([], 1) := by
  unfold trail_HeadOf.f
  by_cases h1 : n < 0
  · rw [if_pos h1, trail_HeadOf.j0, if_pos rfl]
  · rw [if_neg h1]
    by_cases h2 : n > 4096
    · rw [if_pos h2, trail_HeadOf.j0, if_pos rfl]
    · have h3 : 0 < n ∧ t.length ≠ 32 := by rcases h with h | h | h <;> first | exact h | omega
      rw [if_neg h2, if_pos h3.1, show ((t.length : Int) != 32) = true from bne_iff_ne.2 (by omega), trail_HeadOf.j0, if_pos rfl]
theorem headof_yes {n : Nat} {t : List Int} (h0 : 0 < n) (h1 : n ≤ 4096) (h2 : t.length = 32) (hb : ∀ y ∈ t, 0 ≤ y ∧ y < 256) : trail_HeadOf.f 10 n t = some (headL n t, 0) := by
  unfold trail_HeadOf.f
  rw [if_neg (by omega), if_neg (by omega), if_pos (by omega), show ((t.length : Int) != 32) = false by rw [h2]; rfl, trail_HeadOf.j0, if_neg (by decide), if_neg (by omega), head_eq 9 (n : Int) t (Nat.le_refl _) hb (by omega), Option.bind_some]
theorem headof_zero {t : List Int} : trail_HeadOf.f 10 0 t = some (headL 0 [], 0) := by
  have h := head_eq 9 0 [] (Nat.le_refl _) (by simp) (by simp)
  unfold trail_HeadOf.f
  rw [if_neg (by decide), if_neg (by decide), if_neg (by decide), trail_HeadOf.j0, if_neg (by decide), if_pos rfl, h, Option.bind_some]
theorem headof_v {t r : List Int} {n e : Int} {k : Nat} (HG : Glb w) (h : IsB w v t) (hf : trail_HeadOf.f k n t = some (r, e)) :
    Calls Tryd.prog 20 #[.int .i64 n, v] w fun e_ w' => ∃ v', e_ = .returned (.tuple #[v', .int .i64 e]) ∧ IsB w' v' r ∧ Below w.heap.size w w' := by
  obtain ⟨A, c, rfl, h1, h2⟩ := h
  refine (trail_HeadOf.calls k n A c t r e w HG h2 h1 hf).mono ?_
  rintro e_ w' ⟨v', rfl, hR, hB⟩
  exact ⟨v', rfl, IsB.of_R hR, hB⟩
end
end Go.Proofs.YtcnpdapampclpaaDoor.X
