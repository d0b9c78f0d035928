/- Plain lemmas for one law. -/
import Derived.Test.YtmdindopkcmloaaPBegx1
import Derived.Test.YtmdindopkcmloaaPBegx2
import Derived.Test.YtmdindopkcmloaaPBegx3
import Derived.Test.YtmdindopkcmloaaPBegx4
import Derived.OpenShut
namespace Go.Proofs.Ytmdindopkcmloaa.PBeg
open Go.RowKit Go.Proofs.YtmdindopkcmloaaW.PrintWords Go.Proofs.YtmdindopkcmloaaW.PrintLast Go.Proofs.YtmdindopkcmloaaW.PrintMore
set_option linter.unusedVariables false
theorem some_dec {b : Bool} {P : Prop} [Decidable P] (h : b = true ↔ P) : some b = some (decide P) := congrArg some (Bool.eq_iff_iff.2 (by rw [h, decide_eq_true_eq]))
/-- Rules are right. -/
def RightP (L M C F A B : Int) : Prop := 1 ≤ L ∧ L ≤ 1073741824 ∧ L ≤ M ∧ M ≤ 1073741824 ∧ 1 ≤ C ∧ C ≤ 1073741824 ∧ 1 ≤ F ∧ F ≤ 16 ∧ 0 ≤ A ∧ A < 86400 ∧ 0 ≤ B ∧ B < 86400
instance (L M C F A B : Int) : Decidable (RightP L M C F A B) := by unfold RightP; infer_instance
/-- A second of a day is open. -/
def OpenP (A B s : Int) : Prop := A = B ∨ (A < B ∧ A ≤ s ∧ s < B) ∨ (B < A ∧ (A ≤ s ∨ s < B))
instance (A B s : Int) : Decidable (OpenP A B s) := by unfold OpenP; infer_instance
/-- The next opening. -/
def nextV (A B t : Int) : Int := if OpenP A B (t % 86400) then t else if t % 86400 < A then t + A - t % 86400 else t + 86400 - t % 86400 + A
theorem plan_right (L M C F A B : Int) : plan_Right.f L M C F A B = some (decide (RightP L M C F A B)) := by
  unfold plan_Right.f
  repeat' split
  all_goals (refine some_dec ?_; unfold RightP; simp only [decide_eq_true_eq, Bool.false_eq_true]; refine ⟨fun h => ?_, fun h => ?_⟩ <;> first | exact h.elim | omega)
theorem plan_within (L M C F A B s : Int) : plan_Rules_within.f L M C F A B s = some (decide (OpenP A B s)) := by
  unfold plan_Rules_within.f
  repeat' split
  all_goals (refine some_dec ?_; unfold OpenP; simp only [decide_eq_true_eq, Bool.false_eq_true]; refine ⟨fun h => ?_, fun h => ?_⟩ <;> first | exact h.elim | trivial | omega)
theorem tmod_day {t : Int} (h : 0 ≤ t) : Int.tmod t 86400 = t % 86400 := Int.tmod_eq_emod_of_nonneg h
theorem wrap_in {x : Int} (h : -9223372036854775808 ≤ x) (h' : x ≤ 9223372036854775807) : wrap64 x = x := by unfold wrap64; omega
theorem plan_opening (L M C F A B t : Int) (hA : 0 ≤ A) (hA' : A < 86400) (h : 0 ≤ t) (h' : t ≤ 4611686018427387904) : plan_Rules_opening.f L M C F A B t = some (nextV A B t) := by
  unfold plan_Rules_opening.f nextV
  rw [plan_within, tmod_day h]
  simp only [Option.bind_some, decide_eq_true_eq]
  rw [wrap_in (x := t + A) (by omega) (by omega), wrap_in (x := t + A - t % 86400) (by omega) (by omega), wrap_in (x := t + 86400) (by omega) (by omega), wrap_in (x := t + 86400 - t % 86400) (by omega) (by omega), wrap_in (x := t + 86400 - t % 86400 + A) (by omega) (by omega)]
  split
  · rfl
  · split <;> rfl
theorem plan_open (L M C F A B t : Int) : plan_Open.f L M C F A B t = some (decide (RightP L M C F A B ∧ 0 ≤ t ∧ OpenP A B (t % 86400))) := by
  unfold plan_Open.f
  rw [plan_right]; simp only [Option.bind_some, decide_eq_true_eq]
  by_cases hr : RightP L M C F A B
  · rw [if_pos hr]
    by_cases ht : 0 ≤ t
    · rw [if_pos ht, plan_within, tmod_day ht]; simp [hr, ht]
    · rw [if_neg ht]; simp [ht]
  · rw [if_neg hr]; simp [hr]
/-- Opening, told: its number and its error. -/
def openingV (L M C F A B t : Int) : Int × Int := if RightP L M C F A B ∧ 0 ≤ t ∧ t ≤ 1099511627776 then (nextV A B t, 0) else (0, 1)
theorem plan_Opening_f (L M C F A B t : Int) : plan_Opening.f L M C F A B t = some (openingV L M C F A B t) := by
  unfold plan_Opening.f openingV
  rw [plan_right]; simp only [Option.bind_some, decide_eq_true_eq]
  by_cases hr : RightP L M C F A B
  · rw [if_pos hr]
    by_cases h0 : t < 0
    · rw [if_pos h0, if_neg (by omega)]
    · rw [if_neg h0]
      by_cases h1 : t > 1099511627776
      · rw [if_pos h1, if_neg (by omega)]
      · rw [if_neg h1, if_pos ⟨hr, by omega, by omega⟩]
        unfold RightP at hr
        rw [plan_opening L M C F A B t (by omega) (by omega) (by omega) (by omega)]; rfl
  · rw [if_neg hr, if_neg (fun h => hr h.1)]
/-- A wait that has grown so many times. -/
def grow (F M : Int) : Nat → Int → Int
  | 0, w => w
  | n + 1, w => grow F M n (if w * F > M then M else w * F)
theorem grow_top (F M : Int) (hF : 1 ≤ F) (hM : 1 ≤ M) : ∀ n, grow F M n M = M
  | 0 => rfl
  | n + 1 => by
    have : M ≤ M * F := by have := Int.mul_le_mul_of_nonneg_left hF (by omega : 0 ≤ M); omega
    unfold grow
    split
    · exact grow_top F M hF hM n
    · rw [show M * F = M by omega]; exact grow_top F M hF hM n
theorem grow_one (M : Int) : ∀ n w, w ≤ M → grow 1 M n w = w
  | 0, _, _ => rfl
  | n + 1, w, h => by unfold grow; rw [if_neg (by omega), show w * 1 = w by omega]; exact grow_one M n w h
theorem grow_step_in {F M w : Int} (hF : 1 ≤ F) (hw : 1 ≤ w) (h : w ≤ M) : w ≤ (if w * F > M then M else w * F) ∧ (if w * F > M then M else w * F) ≤ M := by
  have : w ≤ w * F := by have := Int.mul_le_mul_of_nonneg_left hF (by omega : 0 ≤ w); omega
  split <;> omega
theorem grow_in (F M : Int) (hF : 1 ≤ F) : ∀ n w, 1 ≤ w → w ≤ M → w ≤ grow F M n w ∧ grow F M n w ≤ M
  | 0, w, _, h => ⟨Int.le_refl _, h⟩
  | n + 1, w, hw, h => by
    have s := grow_step_in hF hw h
    have := grow_in F M hF n _ (Int.le_trans hw s.1) s.2
    unfold grow
    omega
/-- Behind thirty and one growths nothing grows any more. -/
theorem grow_full (F M : Int) (hF : 2 ≤ F) (hM : M ≤ 1073741824) : ∀ (j n : Nat) (w : Int), 1 ≤ w → w ≤ M → M ≤ w * 2 ^ j → j ≤ n → grow F M n w = M
  | 0, n, w, hw, h, hj, _ => by
    obtain rfl : w = M := by simp at hj; omega
    exact grow_top F w (by omega) hw n
  | j + 1, 0, _, _, _, _, hl => by omega
  | j + 1, n + 1, w, hw, h, hj, hl => by
    have : w * 2 ≤ w * F := Int.mul_le_mul_of_nonneg_left hF (by omega)
    unfold grow
    split
    · exact grow_top F M (by omega) (by omega) n
    · refine grow_full F M hF hM j n _ (by omega) (by omega) ?_ (by omega)
      have e : w * 2 ^ (j + 1) = (w * 2) * 2 ^ j := by rw [Int.pow_succ]; rw [Int.mul_assoc, Int.mul_comm 2]
      rw [e] at hj
      exact Int.le_trans hj (Int.mul_le_mul_of_nonneg_right this (by have : (0 : Int) ≤ 2 ^ j := Int.pow_nonneg (by omega); exact this))
theorem grow_cap (F M w : Int) (hF : 1 ≤ F) (hM : M ≤ 1073741824) (hw : 1 ≤ w) (h : w ≤ M) (n : Nat) (hn : 30 ≤ n) : grow F M n w = grow F M 30 w := by
  by_cases e : F = 1
  · subst e; rw [grow_one _ _ _ h, grow_one _ _ _ h]
  · have b : M ≤ w * 2 ^ 30 := by omega
    rw [grow_full F M (by omega) hM 30 n w hw h b (by omega), grow_full F M (by omega) hM 30 30 w hw h b (by omega)]
theorem mul_small {w F M : Int} (hF : 1 ≤ F) (hF' : F ≤ 16) (hw : 1 ≤ w) (h : w ≤ M) (hM : M ≤ 1073741824) : 1 ≤ w * F ∧ w * F ≤ 17179869184 := by
  have a : w ≤ w * F := by have := Int.mul_le_mul_of_nonneg_left hF (by omega : 0 ≤ w); omega
  have b : w * F ≤ w * 16 := Int.mul_le_mul_of_nonneg_left hF' (by omega)
  omega
theorem plan_wait_l (L M C F A B : Int) (hr : RightP L M C F A B) : ∀ (n : Nat) (k : Nat) (w : Int), n < k → n ≤ 4611686018427387904 → 1 ≤ w → w ≤ M → plan_Rules_wait.l0 k w n L M C F A B = some (grow F M n w) := by
  intro n
  have hr' := hr
  unfold RightP at hr'
  induction n with
  | zero =>
    intro k w hk _ hw h
    obtain ⟨k, rfl⟩ : ∃ m, k = m + 1 := ⟨k - 1, by omega⟩
    simp only [plan_Rules_wait.l0]; rw [if_neg (by omega)]; rfl
  | succ n ih =>
    intro k w hk hn hw h
    obtain ⟨k, rfl⟩ : ∃ m, k = m + 1 := ⟨k - 1, by omega⟩
    have hm := mul_small (F := F) (by omega) (by omega) hw h (by omega)
    have s := grow_step_in (F := F) (by omega) hw h
    simp only [plan_Rules_wait.l0]; rw [if_pos (by omega), wrap_in (x := w * F) (by omega) (by omega)]
    have e : wrap64 (((n + 1 : Nat) : Int) - 1) = (n : Int) := by rw [wrap_in (by omega) (by omega)]; omega
    rw [e]
    unfold grow
    split
    · rw [grow_top F M (by omega) (by omega)]
    · split
      · rename_i h1; rw [h1, grow_top F M (by omega) (by omega)]
      · split
        · rename_i h2; subst h2; rw [grow_one _ _ _ (by omega)]
        · exact ih k _ (by omega) (by omega) (by omega) (by omega)
theorem plan_wait (L M C F A B f b : Int) (hr : RightP L M C F A B) (h1 : 1 ≤ f) (h2 : f ≤ 1099511627776) (h3 : 0 ≤ b) (h4 : b ≤ 1099511627776) (k : Nat) (hk : 4398046511104 ≤ k) : plan_Rules_wait.f k L M C F A B f b = some (grow F M (f - 1 + b).toNat L) := by
  have hr' := hr
  unfold RightP at hr'
  unfold plan_Rules_wait.f
  rw [wrap_in (x := f - 1) (by omega) (by omega), wrap_in (x := f - 1 + b) (by omega) (by omega)]
  have := plan_wait_l L M C F A B hr (f - 1 + b).toNat k L (by omega) (by omega) (by omega) (by omega)
  rw [Int.toNat_of_nonneg (by omega)] at this
  exact this
/-- Wait, told. -/
def waitV (L M C F A B f b : Int) : Int × Int := if RightP L M C F A B ∧ 1 ≤ f ∧ 0 ≤ b ∧ b ≤ f then (grow F M (min 30 (f - 1 + b).toNat) L, 0) else (0, 1)
theorem mn_le (a b : Int) : mn a b ≤ b ∧ mn a b ≤ a := by unfold mn; split <;> omega
theorem grow_min (F M w : Int) (hF : 1 ≤ F) (hM : M ≤ 1073741824) (hw : 1 ≤ w) (h : w ≤ M) (n : Nat) : grow F M n w = grow F M (min 30 n) w := by
  by_cases e : n ≤ 30
  · rw [Nat.min_eq_right e]
  · rw [Nat.min_eq_left (by omega)]; exact grow_cap F M w hF hM hw h n (by omega)
theorem plan_Wait_f (L M C F A B f b : Int) (k : Nat) (hk : 4398046511104 ≤ k) : plan_Wait.f k L M C F A B f b = some (waitV L M C F A B f b) := by
  by_cases hr : RightP L M C F A B ∧ 1 ≤ f ∧ 0 ≤ b ∧ b ≤ f
  · have m1 := mn_le f 1099511627776
    have m2 := mn_le b 1099511627776
    have m3 : 1 ≤ mn f 1099511627776 := by unfold mn; split <;> omega
    have m4 : 0 ≤ mn b 1099511627776 := by unfold mn; split <;> omega
    have hK := plan_wait L M C F A B _ _ hr.1 m3 m1.1 m4 m2.1 k hk
    unfold plan_Wait.f waitV
    rw [plan_right, if_pos hr]; simp only [Option.bind_some, decide_eq_true_eq]
    rw [if_pos hr.1, if_neg (by omega), if_neg (by omega), if_neg (by omega), hK]; simp only [Option.bind_some]
    have hr' := hr.1
    unfold RightP at hr'
    rw [grow_min F M L (by omega) (by omega) (by omega) (by omega)]
    congr 3
    unfold mn; split <;> split <;> omega
  · unfold plan_Wait.f waitV
    rw [plan_right, if_neg hr]; simp only [Option.bind_some, decide_eq_true_eq]
    by_cases h : RightP L M C F A B
    · rw [if_pos h]
      by_cases h1 : f < 1
      · rw [if_pos h1]
      · rw [if_neg h1]
        by_cases h2 : b < 0
        · rw [if_pos h2]
        · rw [if_neg h2, if_pos]
          apply Classical.byContradiction
          intro h3
          exact hr ⟨h, by omega, by omega, by omega⟩
    · rw [if_neg h]
/-- Kind, told. -/
def kindV (e : Int) : Int := if e = 0 then 0 else if e = 60 ∨ e = 20 ∨ e = 85 ∨ e = 2 ∨ e = 86 then 1 else if e = 81 ∨ e = 82 ∨ e = 84 ∨ e = 50 ∨ e = 80 then 3 else 2
theorem plan_Kind_f (e : Int) (k : Nat) : plan_Kind.f (k + 1) e = some (kindV e) := by
  unfold plan_Kind.f kindV
  simp only [plan_Kind.j0]
  by_cases h0 : e = 0
  · rw [if_pos h0, if_pos h0]
  · rw [if_neg h0, if_neg h0]
    by_cases h1 : e = 60 ∨ e = 20 ∨ e = 85 ∨ e = 2 ∨ e = 86
    · rw [if_pos h1]
      rcases h1 with rfl | rfl | rfl | rfl | rfl <;> rfl
    · rw [if_neg h1, if_neg (by omega), if_neg (by omega), if_neg (by omega), if_neg (by omega), if_neg (by rw [beq_iff_eq]; omega)]
      by_cases h2 : e = 81 ∨ e = 82 ∨ e = 84 ∨ e = 50 ∨ e = 80
      · rw [if_pos h2]
        rcases h2 with rfl | rfl | rfl | rfl | rfl <;> rfl
      · rw [if_neg h2, if_neg (by omega), if_neg (by omega), if_neg (by omega), if_neg (by omega), if_neg (by omega)]
theorem known_f (k : Nat) (hk : 4398046511104 ≤ k) : imprimaturlaw23_known.f k = some true := by
  unfold imprimaturlaw23_known.f
  rw [plan_Wait_f _ _ _ _ _ _ _ _ _ hk, plan_Wait_f _ _ _ _ _ _ _ _ _ hk]
  obtain ⟨k', rfl⟩ : ∃ m, k = m + 1 := ⟨k - 1, by omega⟩
  rw [plan_Opening_f, plan_open, plan_open, plan_Kind_f]
  rfl
theorem waitV_in {L M C F A B f b : Int} (h : RightP L M C F A B ∧ 1 ≤ f ∧ 0 ≤ b ∧ b ≤ f) : L ≤ (waitV L M C F A B f b).1 ∧ (waitV L M C F A B f b).1 ≤ M := by
  have hr := h.1
  unfold RightP at hr
  unfold waitV
  rw [if_pos h]
  exact grow_in F M (by omega) _ L (by omega) (by omega)
/-- A plan that there may be. -/
def PlanP (f g n l : Int) : Prop := 0 ≤ f ∧ f < 1099511627776 ∧ 0 ≤ g ∧ g ≤ f ∧ 0 ≤ n ∧ -1 ≤ l
instance (f g n l : Int) : Decidable (PlanP f g n l) := by unfold PlanP; infer_instance
/-- How long to wait behind a failure of a kind. -/
def stepV (L M C F A B f g e : Int) : Int := if kindV e = 1 then L else (waitV L M C F A B (f + 1) (if kindV e = 3 then g + 1 else g)).1
/-- After, told. -/
def afterV (L M C F A B f g n l t e : Int) : Int × Int × Int × Int × Int :=
  if (RightP L M C F A B ∧ 0 ≤ t ∧ t ≤ 1099511627776) ∧ PlanP f g n l then
    if e = 0 then (0, 0, nextV A B (t + C), t, 0)
    else (f + 1, (if kindV e = 3 then g + 1 else g), nextV A B (t + stepV L M C F A B f g e), l, 0)
  else (0, 0, 0, 0, 1)
theorem openingV_ok {L M C F A B t : Int} : (openingV L M C F A B t).2 = 0 ↔ (RightP L M C F A B ∧ 0 ≤ t ∧ t ≤ 1099511627776) := by
  unfold openingV; split <;> simp_all
theorem kindV_zero {e : Int} : kindV e = 0 ↔ e = 0 := by
  unfold kindV
  split
  · simp_all
  · split
    · simp_all
    · split <;> simp_all
theorem waitV_le (L M C F A B f b : Int) (hr : RightP L M C F A B) : 0 ≤ (waitV L M C F A B f b).1 ∧ (waitV L M C F A B f b).1 ≤ 1073741824 := by
  by_cases h : RightP L M C F A B ∧ 1 ≤ f ∧ 0 ≤ b ∧ b ≤ f
  · have := waitV_in h
    unfold RightP at hr; omega
  · unfold waitV; rw [if_neg h]; simp
theorem plan_planright (f g n l : Int) : plan_Plan_right.f f g n l = some (decide (PlanP f g n l)) := by
  unfold plan_Plan_right.f
  repeat' split
  all_goals (refine some_dec ?_; unfold PlanP; simp only [decide_eq_true_eq, Bool.false_eq_true]; refine ⟨fun h => ?_, fun h => ?_⟩ <;> first | exact h.elim | omega)
theorem plan_After_f (L M C F A B f g n l t e : Int) (k : Nat) (hk : 4398046511110 ≤ k) : plan_After.f k L M C F A B f g n l t e = some (afterV L M C F A B f g n l t e) := by
  obtain ⟨k, rfl⟩ : ∃ m, k = m + 3 := ⟨k - 3, by omega⟩
  unfold plan_After.f afterV
  rw [plan_Opening_f]; simp only [Option.bind_some]
  by_cases h1 : RightP L M C F A B ∧ 0 ≤ t ∧ t ≤ 1099511627776
  · have hr := h1.1
    unfold RightP at hr
    rw [if_pos (openingV_ok.2 h1), plan_planright]; simp only [Option.bind_some]
    by_cases h2 : PlanP f g n l
    · have h2' := h2
      unfold PlanP at h2'
      rw [if_pos ⟨h1, h2⟩, decide_eq_true h2]
      simp only [plan_After.j0, Bool.not_true, Bool.false_eq_true, if_false, plan_Kind_f, Option.bind_some]
      by_cases h0 : e = 0
      · rw [if_pos h0, if_pos (kindV_zero.2 h0), wrap_in (x := t + C) (by omega) (by omega), plan_opening L M C F A B _ (by omega) (by omega) (by omega) (by omega)]; rfl
      · rw [if_neg h0, if_neg (fun x => h0 (kindV_zero.1 x)), wrap_in (x := f + 1) (by omega) (by omega), wrap_in (x := g + 1) (by omega) (by omega)]
        have one : ∀ g', (g' = g ∨ g' = g + 1) → (g' = if kindV e = 3 then g + 1 else g) → plan_After.j1 (k + 2) t (kindV e) L M C F A B (f + 1) g' n l = some (f + 1, g', nextV A B (t + stepV L M C F A B f g e), l, 0) := by
          intro g' hg' hge
          simp only [plan_After.j1]
          unfold stepV
          by_cases h3 : kindV e = 1
          · rw [if_pos h3, if_pos h3, wrap_in (x := t + L) (by omega) (by omega), plan_opening L M C F A B _ (by omega) (by omega) (by omega) (by omega)]; rfl
          · have hw := plan_wait L M C F A B (f + 1) g' h1.1 (by omega) (by omega) (by omega) (by omega) (k + 1) (by omega)
            have hv : grow F M (f + 1 - 1 + g').toNat L = (waitV L M C F A B (f + 1) g').1 := by
              unfold waitV
              rw [if_pos ⟨h1.1, by omega, by omega, by omega⟩, grow_min F M L (by omega) (by omega) (by omega) (by omega)]
            have hl := waitV_le L M C F A B (f + 1) g' h1.1
            rw [if_neg h3, if_neg h3, hw, hv]; simp only [Option.bind_some]
            rw [wrap_in (x := t + (waitV L M C F A B (f + 1) g').1) (by omega) (by omega), plan_opening L M C F A B _ (by omega) (by omega) (by omega) (by omega), ← hge]; rfl
        by_cases h3 : kindV e = 3
        · rw [if_pos h3, one (g + 1) (Or.inr rfl) (by rw [if_pos h3]), if_pos h3]
        · rw [if_neg h3, one g (Or.inl rfl) (by rw [if_neg h3]), if_neg h3]
    · rw [if_neg (fun x => h2 x.2), decide_eq_false h2]; rfl
  · rw [if_neg (fun x => h1 (openingV_ok.1 x)), if_neg (fun x => h1 x.1)]; rfl
/-- Begin, told. -/
def beginV (L M C F A B t : Int) : Int × Int × Int × Int × Int := if RightP L M C F A B ∧ 0 ≤ t ∧ t ≤ 1099511627776 then (0, 0, nextV A B t, -1, 0) else (0, 0, 0, 0, 1)
theorem plan_Begin_f (L M C F A B t : Int) : plan_Begin.f L M C F A B t = some (beginV L M C F A B t) := by
  unfold plan_Begin.f beginV
  rw [plan_Opening_f]; simp only [Option.bind_some]
  unfold openingV
  split <;> rfl
/-- The times of tries, from a plan on. -/
def triesG (L M C F A B : Int) : List Int → Int → Int → Int → Int → List Int
  | [], _, _, _, _ => []
  | e :: es, f, g, n, l => if n ≤ 1099511627776 then
      let p := afterV L M C F A B f g n l n e
      n :: triesG L M C F A B es p.1 p.2.1 p.2.2.1 p.2.2.2.1
    else []
theorem triesG_length (L M C F A B : Int) : ∀ es f g n l, (triesG L M C F A B es f g n l).length ≤ es.length
  | [], _, _, _, _ => Nat.le_refl _
  | e :: es, f, g, n, l => by
    unfold triesG
    split
    · exact Nat.succ_le_succ (triesG_length L M C F A B es _ _ _ _)
    · simp
theorem rd_get (l : List Int) (i : Nat) (h : i < l.length) : rd l (i : Int) = l[i] := by unfold rd; simp [h]
theorem plan_Tries_l (L M C F A B : Int) (x : List Int) (hx : x.length ≤ 1000) : ∀ (d : Nat) (k : Nat) (out : List Int) (i : Nat) (f g n l : Int), x.length - i = d → i ≤ x.length → out.length ≤ i → d + 4398046511110 < k → plan_Tries.l0 k out x x.length i L M C F A B f g n l = some (out ++ triesG L M C F A B (x.drop i) f g n l, 0) := by
  intro d
  induction d with
  | zero =>
    intro k out i f g n l hd hi ho hk
    obtain ⟨k, rfl⟩ : ∃ m, k = m + 1 := ⟨k - 1, by omega⟩
    simp only [plan_Tries.l0]
    rw [if_neg (by omega), List.drop_of_length_le (by omega)]; simp [triesG]
  | succ d ih =>
    intro k out i f g n l hd hi ho hk
    obtain ⟨k, rfl⟩ : ∃ m, k = m + 1 := ⟨k - 1, by omega⟩
    have hlt : i < x.length := by omega
    simp only [plan_Tries.l0]
    rw [if_pos (by omega), if_pos (by omega), if_pos (by omega), List.drop_eq_getElem_cons hlt]
    unfold triesG
    by_cases hn : n ≤ 1099511627776
    · rw [if_neg (by omega), if_pos (by omega), if_pos hn, plan_After_f _ _ _ _ _ _ _ _ _ _ _ _ _ (by omega), rd_get x i hlt]; simp only [Option.bind_some]
      rw [wrap_in (x := (i : Int) + 1) (by omega) (by omega), show ((i : Int) + 1) = ((i + 1 : Nat) : Int) by omega, ih k (out ++ [n]) (i + 1) _ _ _ _ (by omega) (by omega) (by simp; omega) (by omega)]
      simp
    · rw [if_pos (by omega), if_neg hn]; simp
/-- Tries, told. -/
def triesV (L M C F A B t : Int) (x : List Int) : List Int × Int :=
  if (RightP L M C F A B ∧ 0 ≤ t ∧ t ≤ 1099511627776) ∧ x.length ≤ 1000 then (triesG L M C F A B x 0 0 (nextV A B t) (-1), 0) else ([], 1)
theorem plan_Tries_f (L M C F A B t : Int) (x : List Int) (k : Nat) (hk : 4398046512200 ≤ k) : plan_Tries.f k L M C F A B t x = some (triesV L M C F A B t x) := by
  obtain ⟨k, rfl⟩ : ∃ m, k = m + 1 := ⟨k - 1, by omega⟩
  unfold plan_Tries.f triesV
  rw [plan_Begin_f]; simp only [Option.bind_some]
  unfold beginV
  by_cases h1 : RightP L M C F A B ∧ 0 ≤ t ∧ t ≤ 1099511627776
  · rw [if_pos h1, if_pos rfl]
    by_cases h2 : x.length ≤ 1000
    · rw [if_pos ⟨h1, h2⟩, decide_eq_false (by omega)]
      simp only [plan_Tries.j0, Bool.false_eq_true, if_false]
      have := plan_Tries_l L M C F A B x h2 x.length k [] 0 0 0 (nextV A B t) (-1) (by omega) (by omega) (by simp) (by omega)
      simpa using this
    · rw [if_neg (fun x => h2 x.2), decide_eq_true (by omega)]; rfl
  · rw [if_neg h1, if_neg (by decide), if_neg (show ¬ ((RightP L M C F A B ∧ 0 ≤ t ∧ t ≤ 1099511627776) ∧ x.length ≤ 1000) from fun x => h1 x.1)]; rfl
theorem triesV_length (L M C F A B t : Int) (x : List Int) : (triesV L M C F A B t x).1.length ≤ 1000 ∧ (triesV L M C F A B t x).1.length ≤ x.length := by
  unfold triesV
  split
  · have := triesG_length L M C F A B x 0 0 (nextV A B t) (-1)
    simp only; omega
  · simp
theorem same_l (x : List Int) (hx : x.length ≤ 1000) : ∀ (d : Nat) (k : Nat) (i : Nat), x.length - i = d → i ≤ x.length → d < k → imprimaturref12_Same.l0 k x x i = some true := by
  intro d
  induction d with
  | zero =>
    intro k i hd hi hk
    obtain ⟨k, rfl⟩ : ∃ m, k = m + 1 := ⟨k - 1, by omega⟩
    simp only [imprimaturref12_Same.l0]
    rw [if_neg (by omega)]
  | succ d ih =>
    intro k i hd hi hk
    obtain ⟨k, rfl⟩ : ∃ m, k = m + 1 := ⟨k - 1, by omega⟩
    simp only [imprimaturref12_Same.l0, if_true]
    rw [if_pos (by omega), if_pos (by omega), wrap_in (x := (i : Int) + 1) (by omega) (by omega), show ((i : Int) + 1) = ((i + 1 : Nat) : Int) by omega, ih k (i + 1) (by omega) (by omega) (by omega), if_pos (by omega)]
theorem same_f (x : List Int) (hx : x.length ≤ 1000) (k : Nat) (hk : 1000 < k) : imprimaturref12_Same.f k x x = some true := by
  unfold imprimaturref12_Same.f
  rw [if_pos rfl]
  exact same_l x hx x.length k 0 (by omega) (by omega) (by omega)
theorem among_f (n m : Int) (h : 1 ≤ m) (h' : m ≤ 1000) : ∃ r, imprimaturref01_Among.f n m = some r ∧ 0 ≤ r ∧ r < m := by
  unfold imprimaturref01_Among.f
  have hb := Int.tmod_lt_of_pos n (b := m) (by omega)
  have hc : -m < Int.tmod n m := by
    have := Int.tmod_lt_of_pos (-n) (b := m) (by omega)
    rw [Int.neg_tmod] at this
    omega
  rw [if_neg (by omega), if_neg (by omega)]
  split
  · exact ⟨_, rfl, by rw [wrap_in (by omega) (by omega)]; omega, by rw [wrap_in (by omega) (by omega)]; omega⟩
  · exact ⟨_, rfl, by omega, by omega⟩
theorem triesG_take (L M C F A B : Int) : ∀ (es : List Int) (j : Nat) (f g n l : Int), triesG L M C F A B (es.take j) f g n l <+: triesG L M C F A B es f g n l
  | [], j, _, _, _, _ => by simp [triesG]
  | e :: es, 0, _, _, _, _ => by simp [triesG]
  | e :: es, j + 1, f, g, n, l => by
    rw [List.take_succ_cons]
    unfold triesG
    split
    · exact List.cons_prefix_cons.2 ⟨rfl, triesG_take L M C F A B es j _ _ _ _⟩
    · exact List.prefix_refl _
theorem PlanBegins_f (L M C F A B t : Int) (x : List Int) (n : Int) : ∃ k, imprimaturlaw23_PlanBegins.f k L M C F A B t x n = some true := by
  refine ⟨4398046514300, ?_⟩
  unfold imprimaturlaw23_PlanBegins.f
  by_cases hx : (x.length : Int) > 300
  · rw [if_pos hx, known_f _ (by omega)]; rfl
  · rw [if_neg hx, wrap_in (x := (x.length : Int) + 1) (by omega) (by omega)]
    obtain ⟨r, hr, hr0, hr1⟩ := among_f n ((x.length : Int) + 1) (by omega) (by omega)
    rw [hr]; simp only [imprimaturlaw23_own.f, Option.bind_some]
    rw [if_pos hr0, if_pos (by omega), plan_Tries_f _ _ _ _ _ _ _ _ _ (by omega), plan_Tries_f _ _ _ _ _ _ _ _ _ (by omega)]; simp only [Option.bind_some]
    have hpre : (triesV L M C F A B t (x.take r.toNat)).1 <+: (triesV L M C F A B t x).1 ∧ (triesV L M C F A B t (x.take r.toNat)).2 = (triesV L M C F A B t x).2 := by
      unfold triesV
      have hl : (x.take r.toNat).length ≤ 1000 := by rw [List.length_take]; omega
      by_cases h1 : RightP L M C F A B ∧ 0 ≤ t ∧ t ≤ 1099511627776
      · rw [if_pos ⟨h1, hl⟩, if_pos ⟨h1, by omega⟩]
        exact ⟨triesG_take L M C F A B x _ _ _ _ _, rfl⟩
      · rw [if_neg (fun z => h1 z.1), if_neg (fun z => h1 z.1)]
        exact ⟨List.prefix_refl _, rfl⟩
    have hle := hpre.1.length_le
    have hb := (triesV_length L M C F A B t (x.take r.toNat)).1
    have ht : (triesV L M C F A B t x).1.take (triesV L M C F A B t (x.take r.toNat)).1.length = (triesV L M C F A B t (x.take r.toNat)).1 := (List.prefix_iff_eq_take.1 hpre.1).symm
    rw [if_pos hpre.2, if_pos (by omega), if_pos (by omega), Int.toNat_natCast, ht, same_f _ hb _ (by omega), known_f _ (by omega)]
    rfl

/-- A slice of whole numbers that came in, as a row hands it over. -/
def IsRow (k : IntKind) (w : World) (a : Option Addr) (len cap : Nat) (zs : List Int) : Prop :=
  (a = none ∧ len = 0 ∧ cap = 0 ∧ zs = []) ∨
  ∃ x, a = some x ∧ len ≤ cap ∧ cap ≤ maxLen ∧ zs.length = cap ∧ (∀ i, i < zs.length → w.cell? (x.add i) = some (.int k (zs.getD i 0))) ∧ ∀ n ∈ zs, (Lit.int k n).wf = true
theorem PlanBegins_walk (L M C F A B t : Int) (a : Option Addr) (len cap : Nat) (zs : List Int) (n : Int) (w : World) (_ : (Lit.int .i64 L).wf = true) (_ : (Lit.int .i64 M).wf = true) (_ : (Lit.int .i64 C).wf = true) (_ : (Lit.int .i64 F).wf = true) (_ : (Lit.int .i64 A).wf = true) (_ : (Lit.int .i64 B).wf = true) (_ : (Lit.int .i64 t).wf = true) (hz : IsRow .i64 w a len cap zs) (_ : len * 8 ≤ 140737488351232) (_ : (Lit.int .i64 n).wf = true) :
    Calls Try.prog 10 #[.agg #[.int .i64 L, .int .i64 M, .int .i64 C, .int .i64 F, .int .i64 A, .int .i64 B], .int .i64 t, .slice a len cap, .int .i64 n] w fun e w' => e = .returned (.bool true) ∧ Below w.heap.size w w' := by
  obtain ⟨x, rfl, hr, _, _, hc⟩ := ReadsInt.ofRowC hz
  obtain ⟨k, hk⟩ := PlanBegins_f L M C F A B t x n
  exact imprimaturlaw23_PlanBegins.calls k L M C F A B t a cap x n true w (Kd.C_of_reads (d := (0 : Int)) (h1 := fun _ => rfl) hr) hc hk

end Go.Proofs.Ytmdindopkcmloaa.PBeg
