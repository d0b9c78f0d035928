/- Rows by the values that stand for them; what a law looks at; rows of rows compared. -/
import Derived.Test.YtcnpdapampclpaaDoorT8
import Derived.Test.YtcnpdapampclpaaDoorP8
namespace Go.Proofs.YtcnpdapampclpaaDoor.X
open Go.RowKit Go.Proofs.YtcnpdapampclpaaDoor.H Go.Proofs.YtcnpdapampclpaaDoorW.PrintWords Go.Proofs.YtcnpdapampclpaaDoorW.PrintLast Go.Proofs.YtcnpdapampclpaaDoorW.PrintMore Go.Proofs.YtcnpdapampclpaaDoor.PPl Go.Proofs.YtcnpdapampclpaaDoor.PPm Go.Proofs.YtcnpdapampclpaaDoor.PPn Go.Proofs.YtcnpdapampclpaaDoor.PTp Go.Proofs.YtcnpdapampclpaaDoor.PRa
set_option linter.unusedVariables false
set_option linter.unusedSimpArgs false
section
variable {w w1 : World} {v : Value} {A : Option Addr} {n c : Nat}
theorem IsN.C {l : List (List Int)} (h : IsN w (.slice A n c) l) : n = l.length ∧ l.length ≤ c ∧ Kd.C dB w A l.length l := by
  obtain ⟨A', c', e, h1, h2⟩ := h
  injection e with e1 e2 e3
  subst e1 e2 e3
  exact ⟨rfl, h1, h2⟩
theorem IsB.C {l : List Int} (h : IsB w (.slice A n c) l) : n = l.length ∧ l.length ≤ c ∧ Kd.C (Kd.int .u8) w A l.length l := by
  obtain ⟨A', c', e, h1, h2⟩ := h
  injection e with e1 e2 e3
  subst e1 e2 e3
  exact ⟨rfl, h1, h2⟩
theorem IsN.slice {l : List (List Int)} (h : IsN w v l) : ∃ A c, v = .slice A l.length c := by
  obtain ⟨A', c', e, h1, h2⟩ := h
  exact ⟨A', c', e⟩
theorem IsB.slice {l : List Int} (h : IsB w v l) : ∃ A c, v = .slice A l.length c := by
  obtain ⟨A', c', e, h1, h2⟩ := h
  exact ⟨A', c', e⟩
theorem IsN.V {l : List (List Int)} (h : IsN w v l) : ∃ A c, v = .slice A l.length c ∧ Kd.V dB 23 w w.heap.size (fun k => k < w.heap.size) v l := by
  obtain ⟨A', c', rfl, h1, h2⟩ := h
  exact ⟨A', c', rfl, Kd.V_mk h1 (Kd.C_F (Kd.heap_slice 5 (Kd.heap_int .u8)) h2)⟩
theorem IsB.V {l : List Int} (h : IsB w v l) : ∃ A c, v = .slice A l.length c ∧ Kd.V (Kd.int .u8) 5 w w.heap.size (fun k => k < w.heap.size) v l := by
  obtain ⟨A', c', rfl, h1, h2⟩ := h
  exact ⟨A', c', rfl, Kd.V_mk h1 (Kd.C_F (Kd.heap_int .u8) h2)⟩
theorem IsN.take {l : List (List Int)} (h : IsN w (.slice A n c) l) {m : Nat} (hm : m ≤ n) : IsN w (.slice A m c) (l.take m) := by
  obtain ⟨rfl, h1, h2⟩ := h.C
  have h3 := Kd.C_take (m := m) h2 hm
  have hl : (l.take m).length = m := by rw [List.length_take]; omega
  exact ⟨A, c, by rw [hl], by rw [hl]; omega, h3⟩
/-- The first elements, as the walk meets them. -/
theorem cut_row (A : Option Addr) (n c m : Nat) (hm : m ≤ n) (hc : n ≤ c) : ∀ W : World, (Instr.slice 22 (.slice A n c) none (some (.int .i64 (m : Int))) none).run Tryd.prog W = .ok (.slice A m c) W := by
  obtain ⟨i0, hi0, _, hsz, _⟩ := info_parts info_row
  have h := Go.Proofs.YtcnpdapampclpaaDoorW.PrintWords.cut_to (P := Tryd.prog) 22 23 .i64 Tryd.underlying22 hi0 A n c (m : Int) (by omega) (by omega) hc
  simpa using h
end
/-- many: what it lets through is small. -/
theorem many_c (A : Option Addr) (c : Nat) (l : List (List Int)) (w : World) (hC : Kd.C dB w A l.length l) (hc : l.length ≤ c) {r : Int} (hr : ∃ k, imprimaturref06_Size.f k l 900 = some r) :
    Calls Tryd.prog 13 #[.slice A l.length c] w fun e w' => e = .returned (.bool (decide (900 < r) || decide (40 < (l.length : Int)))) ∧ Below w.heap.size w w' := by
  obtain ⟨k, hk⟩ := hr
  have H0 := Aside0.mk (And.intro hC (And.intro hc hk))
  clear hC hc hk
  go_enter Tryd.func13, Tryd.ntmps13
  go_wp2_with (first
    | (go_at_call 33; with_reducible refine (imprimaturref06_Size.calls k A c l 900 r _ H0.out.1 H0.out.2.1 H0.out.2.2).mono ?_; rintro e w1 ⟨rfl, hD⟩; have hB := hD.below; clear hD))
  all_goals (go_ret; exact ⟨by simp_all, hB⟩)
section
variable {w w1 : World} {v : Value} {A : Option Addr} {n c : Nat}
theorem many_v {l : List (List Int)} (h : IsN w v l) {r : Int} (hr : ∃ k, imprimaturref06_Size.f k l 900 = some r) {b : Bool} (hb : (decide (900 < r) || decide (40 < (l.length : Int))) = b) :
    Calls Tryd.prog 13 #[v] w fun e w' => e = .returned (.bool b) ∧ Below w.heap.size w w' := by
  obtain ⟨A, c, rfl, h1, h2⟩ := h
  rw [← hb]
  exact many_c A c l w h2 h1 hr
theorem size_v {v : Value} {l : List (List Int)} {m : Int} (h : IsN w v l) {r : Int} (hr : ∃ k, imprimaturref06_Size.f k l m = some r) :
    Calls Tryd.prog 33 #[v, .int .i64 m] w fun e w' => e = .returned (.int .i64 r) ∧ Below w.heap.size w w' := by
  obtain ⟨A, c, rfl, h1, h2⟩ := h
  obtain ⟨k, hk⟩ := hr
  refine (imprimaturref06_Size.calls k A c l m r w h2 h1 hk).mono ?_
  rintro e w' ⟨rfl, hd⟩
  exact ⟨rfl, hd.below⟩
theorem mark_v {w : World} {v : Value} {b r : List Int} {e : Int} (HG : Glb w) (h : IsB w v b) (hf : trail_Mark.f b = some (r, e)) :
    Calls Tryd.prog 26 #[v] w fun e_ w' => ∃ v', e_ = .returned (.tuple #[v', .int .i64 e]) ∧ IsB w' v' r ∧ Below w.heap.size w w' := by
  obtain ⟨A, c, rfl, h1, h2⟩ := h
  refine (trail_Mark.calls (fun k => k < w.heap.size) A c b r e w HG ⟨A, c, rfl, h1, Kd.C_F (Kd.heap_int _) h2⟩ hf).mono ?_
  rintro e_ w' ⟨v', rfl, hR, hB⟩
  exact ⟨v', rfl, IsB.of_R hR, hB⟩
end
theorem sameN_c {w : World} {va vb : Value} {a b : List (List Int)} (ha : IsN w va a) (hb : IsN w vb b) (xa : Lv a) (xb : ∀ x ∈ b, ∀ y ∈ x, 0 ≤ y ∧ y < 256) (hl : a.length ≤ 4096) :
    Calls Tryd.prog 29 #[va, vb] w fun e w' => e = .returned (.bool (decide (a = b))) ∧ Below w.heap.size w w' := by
  obtain ⟨A, c, rfl, h1, h2⟩ := ha
  obtain ⟨A', c', rfl, h3, h4⟩ := hb
  refine (imprimaturref06_Same.calls 5000 A c a A' c' b (decide (a = b)) w h2 h1 h4 h3 (same_dec a b (fun x hx => (xa x hx).2) xb (by omega) 5000 (by omega))).mono ?_
  rintro e w' ⟨rfl, hd⟩
  exact ⟨rfl, hd.below⟩
theorem sameN_yes {w : World} {va vb : Value} {a : List (List Int)} (ha : IsN w va a) (hb : IsN w vb a) (xa : Lv a) (hl : a.length ≤ 4096) :
    Calls Tryd.prog 29 #[va, vb] w fun e w' => e = .returned (.bool true) ∧ Below w.heap.size w w' := by
  have h := sameN_c ha hb xa (fun x hx => (xa x hx).2) hl
  rwa [decide_eq_true rfl] at h
theorem len_le_sum {l : List (List Int)} {x : List Int} (h : x ∈ l) : x.length + 1 ≤ (l.map (fun x => x.length + 1)).sum := by
  induction l with
  | nil => cases h
  | cons y l ih =>
    rw [List.map_cons, List.sum_cons]
    rcases List.mem_cons.1 h with rfl | h
    · omega
    · have := ih h; omega
/-- What many lets through. -/
theorem small_of (l : List (List Int)) (hb : ∀ x ∈ l, x.length ≤ 140737488355328) (hl : l.length ≤ 5864062014805) : ∃ r : Int, (∃ k, imprimaturref06_Size.f k l 900 = some r) ∧ ((decide (900 < r) || decide (40 < (l.length : Int))) = false → l.length ≤ 40 ∧ ∀ x ∈ l, x.length ≤ 900) := by
  obtain ⟨r, hr, hs⟩ := size_eq l 900 (by decide) hb hl (l.length + 1) (by omega)
  refine ⟨r, ⟨l.length + 1, hr⟩, fun h => ?_⟩
  rw [Bool.or_eq_false_iff, decide_eq_false_iff_not, decide_eq_false_iff_not] at h
  have h2 := hs (by omega)
  exact ⟨by omega, fun x hx => by have := len_le_sum hx; omega⟩
end Go.Proofs.YtcnpdapampclpaaDoor.X
