/- Plain lemmas for one law. -/
import Derived.Test.YtmdindopkcmloaaPAllx1
import Derived.Test.YtmdindopkcmloaaPAllx2
import Derived.Test.YtmdindopkcmloaaPAllx6
import Derived.OpenShut
namespace Go.Proofs.Ytmdindopkcmloaa.PAll
open Go.RowKit Go.Proofs.YtmdindopkcmloaaW.PrintWords Go.Proofs.YtmdindopkcmloaaW.PrintLast Go.Proofs.YtmdindopkcmloaaW.PrintMore
set_option linter.unusedVariables false
theorem some_dec {b : Bool} {P : Prop} [Decidable P] (h : b = true ↔ P) : some b = some (decide P) := congrArg some (Bool.eq_iff_iff.2 (by rw [h, decide_eq_true_eq]))
/-- Rules are right. -/
def RightP (L M C F A B : Int) : Prop := 1 ≤ L ∧ L ≤ 1073741824 ∧ L ≤ M ∧ M ≤ 1073741824 ∧ 1 ≤ C ∧ C ≤ 1073741824 ∧ 1 ≤ F ∧ F ≤ 16 ∧ 0 ≤ A ∧ A < 86400 ∧ 0 ≤ B ∧ B < 86400
instance (L M C F A B : Int) : Decidable (RightP L M C F A B) := by unfold RightP; infer_instance
/-- A second of a day is open. -/
def OpenP (A B s : Int) : Prop := A = B ∨ (A < B ∧ A ≤ s ∧ s < B) ∨ (B < A ∧ (A ≤ s ∨ s < B))
instance (A B s : Int) : Decidable (OpenP A B s) := by unfold OpenP; infer_instance
/-- The next opening. -/
def nextV (A B t : Int) : Int := if OpenP A B (t % 86400) then t else if t % 86400 < A then t + A - t % 86400 else t + 86400 - t % 86400 + A
theorem plan_right (L M C F A B : Int) : plan_Right.f L M C F A B = some (decide (RightP L M C F A B)) := by
  unfold plan_Right.f
  repeat' split
  all_goals (refine some_dec ?_; unfold RightP; simp only [decide_eq_true_eq, Bool.false_eq_true]; refine ⟨fun h => ?_, fun h => ?_⟩ <;> first | exact h.elim | omega)
theorem plan_within (L M C F A B s : Int) : plan_Rules_within.f L M C F A B s = some (decide (OpenP A B s)) := by
  unfold plan_Rules_within.f
  repeat' split
  all_goals (refine some_dec ?_; unfold OpenP; simp only [decide_eq_true_eq, Bool.false_eq_true]; refine ⟨fun h => ?_, fun h => ?_⟩ <;> first | exact h.elim | trivial | omega)
theorem tmod_day {t : Int} (h : 0 ≤ t) : Int.tmod t 86400 = t % 86400 := Int.tmod_eq_emod_of_nonneg h
theorem wrap_in {x : Int} (h : -9223372036854775808 ≤ x) (h' : x ≤ 9223372036854775807) : wrap64 x = x := by unfold wrap64; omega
theorem plan_opening (L M C F A B t : Int) (hA : 0 ≤ A) (hA' : A < 86400) (h : 0 ≤ t) (h' : t ≤ 4611686018427387904) : plan_Rules_opening.f L M C F A B t = some (nextV A B t) := by
  unfold plan_Rules_opening.f nextV
  rw [plan_within, tmod_day h]
  simp only [Option.bind_some, decide_eq_true_eq]
  rw [wrap_in (x := t + A) (by omega) (by omega), wrap_in (x := t + A - t % 86400) (by omega) (by omega), wrap_in (x := t + 86400) (by omega) (by omega), wrap_in (x := t + 86400 - t % 86400) (by omega) (by omega), wrap_in (x := t + 86400 - t % 86400 + A) (by omega) (by omega)]
  split
  · rfl
  · split <;> rfl
theorem plan_open (L M C F A B t : Int) : plan_Open.f L M C F A B t = some (decide (RightP L M C F A B ∧ 0 ≤ t ∧ OpenP A B (t % 86400))) := by
  unfold plan_Open.f
  rw [plan_right]; simp only [Option.bind_some, decide_eq_true_eq]
  by_cases hr : RightP L M C F A B
  · rw [if_pos hr]
    by_cases ht : 0 ≤ t
    · rw [if_pos ht, plan_within, tmod_day ht]; simp [hr, ht]
    · rw [if_neg ht]; simp [ht]
  · rw [if_neg hr]; simp [hr]
/-- Opening, told: its number and its error. -/
def openingV (L M C F A B t : Int) : Int × Int := if RightP L M C F A B ∧ 0 ≤ t ∧ t ≤ 1099511627776 then (nextV A B t, 0) else (0, 1)
theorem plan_Opening_f (L M C F A B t : Int) : plan_Opening.f L M C F A B t = some (openingV L M C F A B t) := by
  unfold plan_Opening.f openingV
  rw [plan_right]; simp only [Option.bind_some, decide_eq_true_eq]
  by_cases hr : RightP L M C F A B
  · rw [if_pos hr]
    by_cases h0 : t < 0
    · rw [if_pos h0, if_neg (by omega)]
    · rw [if_neg h0]
      by_cases h1 : t > 1099511627776
      · rw [if_pos h1, if_neg (by omega)]
      · rw [if_neg h1, if_pos ⟨hr, by omega, by omega⟩]
        unfold RightP at hr
        rw [plan_opening L M C F A B t (by omega) (by omega) (by omega) (by omega)]; rfl
  · rw [if_neg hr, if_neg (fun h => hr h.1)]
/-- A wait that has grown so many times. -/
def grow (F M : Int) : Nat → Int → Int
  | 0, w => w
  | n + 1, w => grow F M n (if w * F > M then M else w * F)
theorem grow_top (F M : Int) (hF : 1 ≤ F) (hM : 1 ≤ M) : ∀ n, grow F M n M = M
  | 0 => rfl
  | n + 1 => by
    have : M ≤ M * F := by have := Int.mul_le_mul_of_nonneg_left hF (by omega : 0 ≤ M); omega
    unfold grow
    split
    · exact grow_top F M hF hM n
    · rw [show M * F = M by omega]; exact grow_top F M hF hM n
theorem grow_one (M : Int) : ∀ n w, w ≤ M → grow 1 M n w = w
  | 0, _, _ => rfl
  | n + 1, w, h => by unfold grow; rw [if_neg (by omega), show w * 1 = w by omega]; exact grow_one M n w h
theorem grow_step_in {F M w : Int} (hF : 1 ≤ F) (hw : 1 ≤ w) (h : w ≤ M) : w ≤ (if w * F > M then M else w * F) ∧ (if w * F > M then M else w * F) ≤ M := by
  have : w ≤ w * F := by have := Int.mul_le_mul_of_nonneg_left hF (by omega : 0 ≤ w); omega
  split <;> omega
theorem grow_in (F M : Int) (hF : 1 ≤ F) : ∀ n w, 1 ≤ w → w ≤ M → w ≤ grow F M n w ∧ grow F M n w ≤ M
  | 0, w, _, h => ⟨Int.le_refl _, h⟩
  | n + 1, w, hw, h => by
    have s := grow_step_in hF hw h
    have := grow_in F M hF n _ (Int.le_trans hw s.1) s.2
    unfold grow
    omega
theorem grow_mono (F M : Int) (hF : 1 ≤ F) : ∀ m n w, 1 ≤ w → w ≤ M → m ≤ n → grow F M m w ≤ grow F M n w
  | 0, n, w, hw, h, _ => (grow_in F M hF n w hw h).1
  | m + 1, 0, _, _, _, hl => by omega
  | m + 1, n + 1, w, hw, h, hl => by
    have s := grow_step_in hF hw h
    exact grow_mono F M hF m n _ (Int.le_trans hw s.1) s.2 (by omega)
/-- Behind thirty and one growths nothing grows any more. -/
theorem grow_full (F M : Int) (hF : 2 ≤ F) (hM : M ≤ 1073741824) : ∀ (j n : Nat) (w : Int), 1 ≤ w → w ≤ M → M ≤ w * 2 ^ j → j ≤ n → grow F M n w = M
  | 0, n, w, hw, h, hj, _ => by
    obtain rfl : w = M := by simp at hj; omega
    exact grow_top F w (by omega) hw n
  | j + 1, 0, _, _, _, _, hl => by omega
  | j + 1, n + 1, w, hw, h, hj, hl => by
    have : w * 2 ≤ w * F := Int.mul_le_mul_of_nonneg_left hF (by omega)
    unfold grow
    split
    · exact grow_top F M (by omega) (by omega) n
    · refine grow_full F M hF hM j n _ (by omega) (by omega) ?_ (by omega)
      have e : w * 2 ^ (j + 1) = (w * 2) * 2 ^ j := by rw [Int.pow_succ]; rw [Int.mul_assoc, Int.mul_comm 2]
      rw [e] at hj
      exact Int.le_trans hj (Int.mul_le_mul_of_nonneg_right this (by have : (0 : Int) ≤ 2 ^ j := Int.pow_nonneg (by omega); exact this))
theorem grow_cap (F M w : Int) (hF : 1 ≤ F) (hM : M ≤ 1073741824) (hw : 1 ≤ w) (h : w ≤ M) (n : Nat) (hn : 30 ≤ n) : grow F M n w = grow F M 30 w := by
  by_cases e : F = 1
  · subst e; rw [grow_one _ _ _ h, grow_one _ _ _ h]
  · have b : M ≤ w * 2 ^ 30 := by omega
    rw [grow_full F M (by omega) hM 30 n w hw h b (by omega), grow_full F M (by omega) hM 30 30 w hw h b (by omega)]
theorem mul_small {w F M : Int} (hF : 1 ≤ F) (hF' : F ≤ 16) (hw : 1 ≤ w) (h : w ≤ M) (hM : M ≤ 1073741824) : 1 ≤ w * F ∧ w * F ≤ 17179869184 := by
  have a : w ≤ w * F := by have := Int.mul_le_mul_of_nonneg_left hF (by omega : 0 ≤ w); omega
  have b : w * F ≤ w * 16 := Int.mul_le_mul_of_nonneg_left hF' (by omega)
  omega
theorem plan_wait_l (L M C F A B : Int) (hr : RightP L M C F A B) : ∀ (n : Nat) (k : Nat) (w : Int), n < k → n ≤ 4611686018427387904 → 1 ≤ w → w ≤ M → plan_Rules_wait.l0 k w n L M C F A B = some (grow F M n w) := by
  intro n
  have hr' := hr
  unfold RightP at hr'
  induction n with
  | zero =>
    intro k w hk _ hw h
    obtain ⟨k, rfl⟩ : ∃ m, k = m + 1 := ⟨k - 1, by omega⟩
    simp only [plan_Rules_wait.l0]; rw [if_neg (by omega)]; rfl
  | succ n ih =>
    intro k w hk hn hw h
    obtain ⟨k, rfl⟩ : ∃ m, k = m + 1 := ⟨k - 1, by omega⟩
    have hm := mul_small (F := F) (by omega) (by omega) hw h (by omega)
    have s := grow_step_in (F := F) (by omega) hw h
    simp only [plan_Rules_wait.l0]; rw [if_pos (by omega), wrap_in (x := w * F) (by omega) (by omega)]
    have e : wrap64 (((n + 1 : Nat) : Int) - 1) = (n : Int) := by rw [wrap_in (by omega) (by omega)]; omega
    rw [e]
    unfold grow
    split
    · rw [grow_top F M (by omega) (by omega)]
    · split
      · rename_i h1; rw [h1, grow_top F M (by omega) (by omega)]
      · split
        · rename_i h2; subst h2; rw [grow_one _ _ _ (by omega)]
        · exact ih k _ (by omega) (by omega) (by omega) (by omega)
theorem plan_wait (L M C F A B f b : Int) (hr : RightP L M C F A B) (h1 : 1 ≤ f) (h2 : f ≤ 1099511627776) (h3 : 0 ≤ b) (h4 : b ≤ 1099511627776) (k : Nat) (hk : 4398046511104 ≤ k) : plan_Rules_wait.f k L M C F A B f b = some (grow F M (f - 1 + b).toNat L) := by
  have hr' := hr
  unfold RightP at hr'
  unfold plan_Rules_wait.f
  rw [wrap_in (x := f - 1) (by omega) (by omega), wrap_in (x := f - 1 + b) (by omega) (by omega)]
  have := plan_wait_l L M C F A B hr (f - 1 + b).toNat k L (by omega) (by omega) (by omega) (by omega)
  rw [Int.toNat_of_nonneg (by omega)] at this
  exact this
/-- Wait, told. -/
def waitV (L M C F A B f b : Int) : Int × Int := if RightP L M C F A B ∧ 1 ≤ f ∧ 0 ≤ b ∧ b ≤ f then (grow F M (min 30 (f - 1 + b).toNat) L, 0) else (0, 1)
theorem mn_le (a b : Int) : mn a b ≤ b ∧ mn a b ≤ a := by unfold mn; split <;> omega
theorem grow_min (F M w : Int) (hF : 1 ≤ F) (hM : M ≤ 1073741824) (hw : 1 ≤ w) (h : w ≤ M) (n : Nat) : grow F M n w = grow F M (min 30 n) w := by
  by_cases e : n ≤ 30
  · rw [Nat.min_eq_right e]
  · rw [Nat.min_eq_left (by omega)]; exact grow_cap F M w hF hM hw h n (by omega)
theorem plan_Wait_f (L M C F A B f b : Int) (k : Nat) (hk : 4398046511104 ≤ k) : plan_Wait.f k L M C F A B f b = some (waitV L M C F A B f b) := by
  by_cases hr : RightP L M C F A B ∧ 1 ≤ f ∧ 0 ≤ b ∧ b ≤ f
  · have m1 := mn_le f 1099511627776
    have m2 := mn_le b 1099511627776
    have m3 : 1 ≤ mn f 1099511627776 := by unfold mn; split <;> omega
    have m4 : 0 ≤ mn b 1099511627776 := by unfold mn; split <;> omega
    have hK := plan_wait L M C F A B _ _ hr.1 m3 m1.1 m4 m2.1 k hk
    unfold plan_Wait.f waitV
    rw [plan_right, if_pos hr]; simp only [Option.bind_some, decide_eq_true_eq]
    rw [if_pos hr.1, if_neg (by omega), if_neg (by omega), if_neg (by omega), hK]; simp only [Option.bind_some]
    have hr' := hr.1
    unfold RightP at hr'
    rw [grow_min F M L (by omega) (by omega) (by omega) (by omega)]
    congr 3
    unfold mn; split <;> split <;> omega
  · unfold plan_Wait.f waitV
    rw [plan_right, if_neg hr]; simp only [Option.bind_some, decide_eq_true_eq]
    by_cases h : RightP L M C F A B
    · rw [if_pos h]
      by_cases h1 : f < 1
      · rw [if_pos h1]
      · rw [if_neg h1]
        by_cases h2 : b < 0
        · rw [if_pos h2]
        · rw [if_neg h2, if_pos]
          apply Classical.byContradiction
          intro h3
          exact hr ⟨h, by omega, by omega, by omega⟩
    · rw [if_neg h]
/-- Kind, told. -/
def kindV (e : Int) : Int := if e = 0 then 0 else if e = 60 ∨ e = 20 ∨ e = 85 ∨ e = 2 ∨ e = 86 then 1 else if e = 81 ∨ e = 82 ∨ e = 84 ∨ e = 50 ∨ e = 80 then 3 else 2
theorem plan_Kind_f (e : Int) (k : Nat) : plan_Kind.f (k + 1) e = some (kindV e) := by
  unfold plan_Kind.f kindV
  simp only [plan_Kind.j0]
  by_cases h0 : e = 0
  · rw [if_pos h0, if_pos h0]
  · rw [if_neg h0, if_neg h0]
    by_cases h1 : e = 60 ∨ e = 20 ∨ e = 85 ∨ e = 2 ∨ e = 86
    · rw [if_pos h1]
      rcases h1 with rfl | rfl | rfl | rfl | rfl <;> rfl
    · rw [if_neg h1, if_neg (by omega), if_neg (by omega), if_neg (by omega), if_neg (by omega), if_neg (by rw [beq_iff_eq]; omega)]
      by_cases h2 : e = 81 ∨ e = 82 ∨ e = 84 ∨ e = 50 ∨ e = 80
      · rw [if_pos h2]
        rcases h2 with rfl | rfl | rfl | rfl | rfl <;> rfl
      · rw [if_neg h2, if_neg (by omega), if_neg (by omega), if_neg (by omega), if_neg (by omega), if_neg (by omega)]
theorem known_f (k : Nat) (hk : 4398046511104 ≤ k) : imprimaturlaw23_known.f k = some true := by
  unfold imprimaturlaw23_known.f
  rw [plan_Wait_f _ _ _ _ _ _ _ _ _ hk, plan_Wait_f _ _ _ _ _ _ _ _ _ hk]
  obtain ⟨k', rfl⟩ : ∃ m, k = m + 1 := ⟨k - 1, by omega⟩
  rw [plan_Opening_f, plan_open, plan_open, plan_Kind_f]
  rfl
theorem waitV_ok {L M C F A B f b : Int} (h : (waitV L M C F A B f b).2 = 0) : RightP L M C F A B ∧ 1 ≤ f ∧ 0 ≤ b ∧ b ≤ f := by
  unfold waitV at h
  split at h
  · assumption
  · simp at h
theorem waitV_no {L M C F A B f b : Int} (h : ¬ (waitV L M C F A B f b).2 = 0) : (waitV L M C F A B f b).1 = 0 := by
  unfold waitV at *
  split
  · rename_i h1; rw [if_pos h1] at h; exact absurd rfl h
  · rfl
theorem waitV_in {L M C F A B f b : Int} (h : RightP L M C F A B ∧ 1 ≤ f ∧ 0 ≤ b ∧ b ≤ f) : L ≤ (waitV L M C F A B f b).1 ∧ (waitV L M C F A B f b).1 ≤ M := by
  have hr := h.1
  unfold RightP at hr
  unfold waitV
  rw [if_pos h]
  exact grow_in F M (by omega) _ L (by omega) (by omega)
theorem PlanGrows_f (L M C F A B f b m v : Int) : ∃ k, imprimaturlaw23_PlanGrows.f k L M C F A B f b m v = some true := by
  obtain ⟨K, hK⟩ : ∃ K, ∀ k, K ≤ k → imprimaturlaw23_known.f k = some true := ⟨_, known_f⟩
  obtain ⟨K1, h1⟩ : ∃ K, ∀ k, K ≤ k → plan_Wait.f k L M C F A B f b = some (waitV L M C F A B f b) := ⟨_, plan_Wait_f L M C F A B f b⟩
  obtain ⟨K2, h2⟩ : ∃ K, ∀ k, K ≤ k → plan_Wait.f k L M C F A B (wrap64 (f + m)) (wrap64 (b + v)) = some (waitV L M C F A B (wrap64 (f + m)) (wrap64 (b + v))) := ⟨_, plan_Wait_f L M C F A B (wrap64 (f + m)) (wrap64 (b + v))⟩
  refine ⟨K + K1 + K2 + 1, ?_⟩
  unfold imprimaturlaw23_PlanGrows.f
  simp only [imprimaturlaw23_own.f, Option.bind_some, h1 (K + K1 + K2 + 1) (by omega), hK (K + K1 + K2 + 1) (by omega)]
  by_cases hr : (waitV L M C F A B f b).2 = 0
  · have hr1 := waitV_ok hr
    have hi := waitV_in hr1
    have hr' := hr1.1
    unfold RightP at hr'
    have yes : imprimaturlaw23_PlanGrows.j0 (K + K1 + K2 + 1) f b m v (waitV L M C F A B f b).1 true L M C F A B = some true := by
      simp only [imprimaturlaw23_PlanGrows.j0, hK (K + K1 + K2) (by omega), if_true, Option.bind_some]
      rw [if_pos hi.1, if_pos hi.2]
    rw [if_pos hr, if_neg (by omega), if_neg (by omega)]
    split
    · exact yes
    · split
      · exact yes
      · split
        · exact yes
        · split
          · exact yes
          · by_cases hv : v > m
            · rw [decide_eq_true hv]; exact yes
            · rw [decide_eq_false hv]
              simp only [imprimaturlaw23_PlanGrows.j0, hK (K + K1 + K2) (by omega), imprimaturlaw23_own.f, Option.bind_some, h2 (K + K1 + K2) (by omega)]
              rw [if_neg (by decide), wrap_in (x := f + m) (by omega) (by omega), wrap_in (x := b + v) (by omega) (by omega)]
              have hr2 : RightP L M C F A B ∧ 1 ≤ f + m ∧ 0 ≤ b + v ∧ b + v ≤ f + m := ⟨hr1.1, by omega, by omega, by omega⟩
              unfold waitV
              rw [if_pos hr1, if_pos hr2]
              rw [if_pos rfl, if_pos]
              exact grow_mono F M (by omega) _ _ L (by omega) (by omega) (by omega)
  · rw [if_neg hr, if_pos (waitV_no hr)]

theorem PlanGrows_walk (L M C F A B f b m v : Int) (w : World) (_ : (Lit.int .i64 L).wf = true) (_ : (Lit.int .i64 M).wf = true) (_ : (Lit.int .i64 C).wf = true) (_ : (Lit.int .i64 F).wf = true) (_ : (Lit.int .i64 A).wf = true) (_ : (Lit.int .i64 B).wf = true) (_ : (Lit.int .i64 f).wf = true) (_ : (Lit.int .i64 b).wf = true) (_ : (Lit.int .i64 m).wf = true) (_ : (Lit.int .i64 v).wf = true) :
    Calls Try.prog 6 #[.agg #[.int .i64 L, .int .i64 M, .int .i64 C, .int .i64 F, .int .i64 A, .int .i64 B], .int .i64 f, .int .i64 b, .int .i64 m, .int .i64 v] w fun e w' => e = .returned (.bool true) ∧ Below w.heap.size w w' := by
  obtain ⟨k, hk⟩ := PlanGrows_f L M C F A B f b m v
  exact imprimaturlaw23_PlanGrows.calls k L M C F A B f b m v true w hk
end Go.Proofs.Ytmdindopkcmloaa.PAll
