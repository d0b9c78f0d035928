/- What laws call, by the values that stand for rows. -/
import Derived.Test.YtcnpdapampclpaaDoorTe
import Derived.Test.YtcnpdapampclpaaDoorP4
namespace Go.Proofs.YtcnpdapampclpaaDoor.X
open Go.RowKit Go.Proofs.YtcnpdapampclpaaDoor.H Go.Proofs.YtcnpdapampclpaaDoorW.PrintWords Go.Proofs.YtcnpdapampclpaaDoorW.PrintLast Go.Proofs.YtcnpdapampclpaaDoorW.PrintMore Go.Proofs.YtcnpdapampclpaaDoor.PPl Go.Proofs.YtcnpdapampclpaaDoor.PPm Go.Proofs.YtcnpdapampclpaaDoor.PPn Go.Proofs.YtcnpdapampclpaaDoor.PPo Go.Proofs.YtcnpdapampclpaaDoor.PTp Go.Proofs.YtcnpdapampclpaaDoor.PRa Go.Proofs.YtcnpdapampclpaaDoor.PRb Go.Proofs.YtcnpdapampclpaaDoor.PRc
set_option linter.unusedVariables false
set_option linter.unusedSimpArgs false
section
variable {w w1 : World} {v : Value} {A : Option Addr} {n c : Nat}
theorem IsN.C {l : List (List Int)} (h : IsN w (.slice A n c) l) : n = l.length ∧ l.length ≤ c ∧ Kd.C dB w A l.length l := by
  obtain ⟨A', c', e, h1, h2⟩ := h
  injection e with e1 e2 e3
  subst e1 e2 e3
  exact ⟨rfl, h1, h2⟩
theorem IsB.C {l : List Int} (h : IsB w (.slice A n c) l) : n = l.length ∧ l.length ≤ c ∧ Kd.C (Kd.int .u8) w A l.length l := by
  obtain ⟨A', c', e, h1, h2⟩ := h
  injection e with e1 e2 e3
  subst e1 e2 e3
  exact ⟨rfl, h1, h2⟩
theorem IsN.slice {l : List (List Int)} (h : IsN w v l) : ∃ A c, v = .slice A l.length c := by
  obtain ⟨A', c', e, h1, h2⟩ := h
  exact ⟨A', c', e⟩
theorem IsB.slice {l : List Int} (h : IsB w v l) : ∃ A c, v = .slice A l.length c := by
  obtain ⟨A', c', e, h1, h2⟩ := h
  exact ⟨A', c', e⟩
theorem IsN.V {l : List (List Int)} (h : IsN w v l) : ∃ A c, v = .slice A l.length c ∧ Kd.V dB 23 w w.heap.size (fun k => k < w.heap.size) v l := by
  obtain ⟨A', c', rfl, h1, h2⟩ := h
  exact ⟨A', c', rfl, Kd.V_mk h1 (Kd.C_F (Kd.heap_slice 5 (Kd.heap_int .u8)) h2)⟩
theorem IsB.V {l : List Int} (h : IsB w v l) : ∃ A c, v = .slice A l.length c ∧ Kd.V (Kd.int .u8) 5 w w.heap.size (fun k => k < w.heap.size) v l := by
  obtain ⟨A', c', rfl, h1, h2⟩ := h
  exact ⟨A', c', rfl, Kd.V_mk h1 (Kd.C_F (Kd.heap_int .u8) h2)⟩
theorem IsN.take {l : List (List Int)} (h : IsN w (.slice A n c) l) {m : Nat} (hm : m ≤ n) : IsN w (.slice A m c) (l.take m) := by
  obtain ⟨rfl, h1, h2⟩ := h.C
  have h3 := Kd.C_take (m := m) h2 hm
  have hl : (l.take m).length = m := by rw [List.length_take]; omega
  exact ⟨A, c, by rw [hl], by rw [hl]; omega, h3⟩
/-- The first elements, as the walk meets them. -/
theorem cut_row (A : Option Addr) (n c m : Nat) (hm : m ≤ n) (hc : n ≤ c) : ∀ W : World, (Instr.slice 22 (.slice A n c) none (some (.int .i64 (m : Int))) none).run Tryd.prog W = .ok (.slice A m c) W := by
  obtain ⟨i0, hi0, _, hsz, _⟩ := info_parts info_row
  have h := Go.Proofs.YtcnpdapampclpaaDoorW.PrintWords.cut_to (P := Tryd.prog) 22 23 .i64 Tryd.underlying22 hi0 A n c (m : Int) (by omega) (by omega) hc
  simpa using h
theorem marks_v {l : List (List Int)} (h : IsN w v l) (hb : ∀ x ∈ l, (∀ y ∈ x, 0 ≤ y ∧ y < 256) ∧ x.length ≤ 8192) (hl : l.length ≤ 4096) :
    Calls Tryd.prog 17 #[v] w fun e w' => ∃ v', e = .returned v' ∧ IsN w' v' (marks l) ∧ Below w.heap.size w w' := by
  obtain ⟨A, c, rfl, h1, h2⟩ := h
  refine (imprimaturref20_Marks.calls 5000 A c l (marks l) w h2 h1 (marks_f l (fun x hx => ⟨(hb x hx).1, by have := (hb x hx).2; omega⟩) (by omega) 5000 (by omega))).mono ?_
  rintro e w' ⟨v', rfl, hS, hB⟩
  exact ⟨v', rfl, IsN.of_N (Kd.S_N hS), hB⟩
theorem refTop_v {l : List (List Int)} (h : IsN w v l) (hv : Lv l) (h1 : 1 ≤ l.length) (hl : l.length ≤ 4096) :
    Calls Tryd.prog 23 #[v] w fun e w' => ∃ v', e = .returned v' ∧ IsB w' v' (topL l) ∧ Below w.heap.size w w' := by
  obtain ⟨A, c, rfl, hV⟩ := h.V
  refine (imprimaturref20_Top.calls 5000 _ A c l (topL l) w hV (top_f l.length l 5000 rfl hv h1 (by omega) (by omega))).mono ?_
  rintro e w' ⟨v', rfl, hV, hB⟩
  obtain ⟨A', c', rfl, h1', h2'⟩ := hV
  exact ⟨_, rfl, ⟨A', c', rfl, h1', Kd.F_now h2'⟩, hB⟩
theorem refHead_v {l : List (List Int)} (h : IsN w v l) (hv : Lv l) (hl : l.length ≤ 4096) :
    Calls Tryd.prog 22 #[v] w fun e w' => ∃ v', e = .returned v' ∧ IsB w' v' (hdL l l.length) ∧ Below w.heap.size w w' := by
  obtain ⟨A, c, rfl, h1, h2⟩ := h
  have hf : imprimaturref20_Head.f 5000 l = some (hdL l l.length) := by
    by_cases h0 : l.length = 0
    · obtain rfl := List.length_eq_zero_iff.1 h0
      exact headnil_f 5000 (by decide)
    · rw [head_f l 5000 hv (by omega) (by omega) (by omega)]
      unfold hdL
      rw [if_neg h0, List.take_length]
      rfl
  refine (imprimaturref20_Head.calls 5000 A c l _ w h2 h1 hf).mono ?_
  rintro e w' ⟨v', rfl, hR, hB⟩
  exact ⟨v', rfl, IsB.of_R hR, hB⟩
theorem refWay_v {l : List (List Int)} (h : IsN w v l) (hv : Lv l) (hl : l.length ≤ 4096) (q : Nat) (hq : q < l.length) :
    Calls Tryd.prog 30 #[v, .int .i64 q] w fun e w' => ∃ v', e = .returned v' ∧ IsN w' v' (walkL l q) ∧ Below w.heap.size w w' := by
  obtain ⟨A, c, rfl, hV⟩ := h.V
  refine (imprimaturref20_Way.calls 5000 _ A c l q (walkL l q) w hV (way_f l.length l q 5000 rfl hv hq (by omega) (by omega))).mono ?_
  rintro e w' ⟨v', rfl, hN, hB⟩
  exact ⟨v', rfl, IsN.of_N hN, hB⟩
theorem refBridge_v {l : List (List Int)} (h : IsN w v l) (hv : Lv l) (hl : l.length ≤ 4096) (m : Nat) (b : Bool) (h1 : 1 ≤ m) (hm : m ≤ l.length) :
    Calls Tryd.prog 31 #[v, .int .i64 m, .bool b] w fun e w' => ∃ v', e = .returned v' ∧ IsN w' v' (bridgeL l m b) ∧ Below w.heap.size w w' := by
  obtain ⟨A, c, rfl, hV⟩ := h.V
  refine (imprimaturref20_Bridge.calls 5000 _ A c l m b (bridgeL l m b) w hV (bridge_f l.length l m b 5000 rfl hv h1 hm (by omega) (by omega))).mono ?_
  rintro e w' ⟨v', rfl, hN, hB⟩
  exact ⟨v', rfl, IsN.of_N hN, hB⟩
theorem row_v {l : List (List Int)} (HG : Glb w) (h : IsN w v l) (hb : ∀ x ∈ l, (∀ y ∈ x, 0 ≤ y ∧ y < 256) ∧ x.length ≤ 8192) (hl : l.length ≤ 4096) :
    Calls Tryd.prog 15 #[v] w fun e w' => e = .returned (.pointer (some ⟨w.heap.size, 0, none⟩)) ∧ LT w.heap.size (marks l) w' ∧ Below w.heap.size w w' := by
  obtain ⟨A, c, rfl, h1, h2⟩ := h
  exact row_lt A c l w HG h2 hb hl
theorem many_v {l : List (List Int)} (h : IsN w v l) {r : Int} (hr : ∃ k, imprimaturref06_Size.f k l 900 = some r) {b : Bool} (hb : (decide (900 < r) || decide (40 < (l.length : Int))) = b) :
    Calls Tryd.prog 13 #[v] w fun e w' => e = .returned (.bool b) ∧ Below w.heap.size w w' := by
  obtain ⟨A, c, rfl, h1, h2⟩ := h
  rw [← hb]
  exact many_c A c l w h2 h1 hr
theorem headof_no {k : Nat} {n : Int} {t : List Int} (h : n < 0 ∨ 4096 < n ∨ 0 < n ∧ t.length ≠ 32) : trail_HeadOf.f (k + 1) n t = some ([], 1) := by
  unfold trail_HeadOf.f
  by_cases h1 : n < 0
  · rw [if_pos h1, trail_HeadOf.j0, if_pos rfl]
  · rw [if_neg h1]
    by_cases h2 : n > 4096
    · rw [if_pos h2, trail_HeadOf.j0, if_pos rfl]
    · have h3 : 0 < n ∧ t.length ≠ 32 := by rcases h with h | h | h <;> first | exact h | omega
      rw [if_neg h2, if_pos h3.1, show ((t.length : Int) != 32) = true from bne_iff_ne.2 (by omega), trail_HeadOf.j0, if_pos rfl]
theorem headof_yes {n : Nat} {t : List Int} (h0 : 0 < n) (h1 : n ≤ 4096) (h2 : t.length = 32) (hb : ∀ y ∈ t, 0 ≤ y ∧ y < 256) : trail_HeadOf.f 10 n t = some (headL n t, 0) := by
  unfold trail_HeadOf.f
  rw [if_neg (by omega), if_neg (by omega), if_pos (by omega), show ((t.length : Int) != 32) = false by rw [h2]; rfl, trail_HeadOf.j0, if_neg (by decide), if_neg (by omega), head_eq 9 (n : Int) t (Nat.le_refl _) hb (by omega), Option.bind_some]
theorem headof_zero {t : List Int} : trail_HeadOf.f 10 0 t = some (headL 0 [], 0) := by
  have h := head_eq 9 0 [] (Nat.le_refl _) (by simp) (by simp)
  unfold trail_HeadOf.f
  rw [if_neg (by decide), if_neg (by decide), if_neg (by decide), trail_HeadOf.j0, if_neg (by decide), if_pos rfl, h, Option.bind_some]
theorem headof_v {t r : List Int} {n e : Int} {k : Nat} (HG : Glb w) (h : IsB w v t) (hf : trail_HeadOf.f k n t = some (r, e)) :
    Calls Tryd.prog 20 #[.int .i64 n, v] w fun e_ w' => ∃ v', e_ = .returned (.tuple #[v', .int .i64 e]) ∧ IsB w' v' r ∧ Below w.heap.size w w' := by
  obtain ⟨A, c, rfl, h1, h2⟩ := h
  refine (trail_HeadOf.calls k n A c t r e w HG h2 h1 hf).mono ?_
  rintro e_ w' ⟨v', rfl, hR, hB⟩
  exact ⟨v', rfl, IsB.of_R hR, hB⟩
end
theorem len_le_sum {l : List (List Int)} {x : List Int} (h : x ∈ l) : x.length + 1 ≤ (l.map (fun x => x.length + 1)).sum := by
  induction l with
  | nil => cases h
  | cons y l ih =>
    rw [List.map_cons, List.sum_cons]
    rcases List.mem_cons.1 h with rfl | h
    · omega
    · have := ih h; omega
/-- What many lets through. -/
theorem small_of (l : List (List Int)) (hb : ∀ x ∈ l, x.length ≤ 140737488355328) (hl : l.length ≤ 5864062014805) : ∃ r : Int, (∃ k, imprimaturref06_Size.f k l 900 = some r) ∧ ((decide (900 < r) || decide (40 < (l.length : Int))) = false → l.length ≤ 40 ∧ ∀ x ∈ l, x.length ≤ 900) := by
  obtain ⟨r, hr, hs⟩ := size_eq l 900 (by decide) hb hl (l.length + 1) (by omega)
  refine ⟨r, ⟨l.length + 1, hr⟩, fun h => ?_⟩
  rw [Bool.or_eq_false_iff, decide_eq_false_iff_not, decide_eq_false_iff_not] at h
  have h2 := hs (by omega)
  exact ⟨by omega, fun x hx => by have := len_le_sum hx; omega⟩
end Go.Proofs.YtcnpdapampclpaaDoor.X
