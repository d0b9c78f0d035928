/- The law PlanGoes, in plain terms, and its call. -/
import Derived.Test.YtmdindopkcmloaaPGox2
import Derived.Test.YtmdindopkcmloaaPGox3
import Derived.Test.YtmdindopkcmloaaPGox4
import Derived.Test.YtmdindopkcmloaaPGox5
import Derived.Test.YtmdindopkcmloaaPGox6
import Derived.Test.YtmdindopkcmloaaPGox7
import Derived.OpenShut
namespace Go.Proofs.Ytmdindopkcmloaa.PGo
open Go.RowKit Go.Proofs.YtmdindopkcmloaaW.PrintWords Go.Proofs.YtmdindopkcmloaaW.PrintLast Go.Proofs.YtmdindopkcmloaaW.PrintMore
set_option linter.unusedVariables false
theorem some_dec {b : Bool} {P : Prop} [Decidable P] (h : b = true ↔ P) : some b = some (decide P) := congrArg some (Bool.eq_iff_iff.2 (by rw [h, decide_eq_true_eq]))
/-- Rules are right. -/
def RightP (L M C F A B : Int) : Prop := 1 ≤ L ∧ L ≤ 1073741824 ∧ L ≤ M ∧ M ≤ 1073741824 ∧ 1 ≤ C ∧ C ≤ 1073741824 ∧ 1 ≤ F ∧ F ≤ 16 ∧ 0 ≤ A ∧ A < 86400 ∧ 0 ≤ B ∧ B < 86400
instance (L M C F A B : Int) : Decidable (RightP L M C F A B) := by unfold RightP; infer_instance
/-- A second of a day is open. -/
def OpenP (A B s : Int) : Prop := A = B ∨ (A < B ∧ A ≤ s ∧ s < B) ∨ (B < A ∧ (A ≤ s ∨ s < B))
instance (A B s : Int) : Decidable (OpenP A B s) := by unfold OpenP; infer_instance
/-- The next opening. -/
def nextV (A B t : Int) : Int := if OpenP A B (t % 86400) then t else if t % 86400 < A then t + A - t % 86400 else t + 86400 - t % 86400 + A
theorem plan_right (L M C F A B : Int) : plan_Right.f L M C F A B = some (decide (RightP L M C F A B)) := by
  unfold plan_Right.f
  repeat' split
  all_goals (refine some_dec ?_; unfold RightP; simp only [decide_eq_true_eq, Bool.false_eq_true]; refine ⟨fun h => ?_, fun h => ?_⟩ <;> first | exact h.elim | omega)
theorem ref_in (a b c : Int) : imprimaturref23_in.f a b c = some (decide (b ≤ a ∧ a ≤ c)) := by
  unfold imprimaturref23_in.f
  split
  all_goals (refine some_dec ?_; simp only [decide_eq_true_eq, Bool.false_eq_true]; refine ⟨fun h => ?_, fun h => ?_⟩ <;> first | exact h.elim | omega)
theorem ref_right (L M C F A B : Int) : imprimaturref23_Right.f L M C F A B = some (decide (RightP L M C F A B)) := by
  unfold imprimaturref23_Right.f
  simp only [ref_in, Option.bind_some, decide_eq_true_eq]
  repeat' split
  all_goals (refine some_dec ?_; unfold RightP; simp only [decide_eq_true_eq, Bool.false_eq_true]; refine ⟨fun h => ?_, fun h => ?_⟩ <;> first | exact h.elim | omega)
theorem plan_within (L M C F A B s : Int) : plan_Rules_within.f L M C F A B s = some (decide (OpenP A B s)) := by
  unfold plan_Rules_within.f
  repeat' split
  all_goals (refine some_dec ?_; unfold OpenP; simp only [decide_eq_true_eq, Bool.false_eq_true]; refine ⟨fun h => ?_, fun h => ?_⟩ <;> first | exact h.elim | trivial | omega)
theorem tmod_day {t : Int} (h : 0 ≤ t) : Int.tmod t 86400 = t % 86400 := Int.tmod_eq_emod_of_nonneg h
theorem tdiv_day {t : Int} (h : 0 ≤ t) : Int.tdiv t 86400 = t / 86400 := Int.tdiv_eq_ediv_of_nonneg h
theorem wrap_in {x : Int} (h : -9223372036854775808 ≤ x) (h' : x ≤ 9223372036854775807) : wrap64 x = x := by unfold wrap64; omega
theorem plan_opening (L M C F A B t : Int) (hA : 0 ≤ A) (hA' : A < 86400) (h : 0 ≤ t) (h' : t ≤ 4611686018427387904) : plan_Rules_opening.f L M C F A B t = some (nextV A B t) := by
  unfold plan_Rules_opening.f nextV
  rw [plan_within, tmod_day h]
  simp only [Option.bind_some, decide_eq_true_eq]
  rw [wrap_in (x := t + A) (by omega) (by omega), wrap_in (x := t + A - t % 86400) (by omega) (by omega), wrap_in (x := t + 86400) (by omega) (by omega), wrap_in (x := t + 86400 - t % 86400) (by omega) (by omega), wrap_in (x := t + 86400 - t % 86400 + A) (by omega) (by omega)]
  split
  · rfl
  · split <;> rfl
theorem plan_open (L M C F A B t : Int) : plan_Open.f L M C F A B t = some (decide (RightP L M C F A B ∧ 0 ≤ t ∧ OpenP A B (t % 86400))) := by
  unfold plan_Open.f
  rw [plan_right]; simp only [Option.bind_some, decide_eq_true_eq]
  by_cases hr : RightP L M C F A B
  · rw [if_pos hr]
    by_cases ht : 0 ≤ t
    · rw [if_pos ht, plan_within, tmod_day ht]; simp [hr, ht]
    · rw [if_neg ht]; simp [ht]
  · rw [if_neg hr]; simp [hr]
/-- Opening, told: its number and its error. -/
def openingV (L M C F A B t : Int) : Int × Int := if RightP L M C F A B ∧ 0 ≤ t ∧ t ≤ 1099511627776 then (nextV A B t, 0) else (0, 1)
theorem plan_Opening_f (L M C F A B t : Int) : plan_Opening.f L M C F A B t = some (openingV L M C F A B t) := by
  unfold plan_Opening.f openingV
  rw [plan_right]; simp only [Option.bind_some, decide_eq_true_eq]
  by_cases hr : RightP L M C F A B
  · rw [if_pos hr]
    by_cases h0 : t < 0
    · rw [if_pos h0, if_neg (by omega)]
    · rw [if_neg h0]
      by_cases h1 : t > 1099511627776
      · rw [if_pos h1, if_neg (by omega)]
      · rw [if_neg h1, if_pos ⟨hr, by omega, by omega⟩]
        unfold RightP at hr
        rw [plan_opening L M C F A B t (by omega) (by omega) (by omega) (by omega)]; rfl
  · rw [if_neg hr, if_neg (fun h => hr h.1)]
theorem ref_open (k : Nat) (L M C F A B t : Int) (h : t ≤ 9223372036854775807) : imprimaturref23_Open.f (k + 1) L M C F A B t = some (decide (RightP L M C F A B ∧ 0 ≤ t ∧ OpenP A B (t % 86400))) := by
  unfold imprimaturref23_Open.f
  rw [ref_right]; simp only [Option.bind_some, decide_eq_true_eq]
  by_cases hr : RightP L M C F A B
  · rw [if_pos hr]; simp only [imprimaturref23_Open.j0]
    by_cases ht : t < 0
    · rw [if_pos (by simpa using ht)]; simp; omega
    · have hr' := hr
      unfold RightP at hr'
      rw [if_neg (by simpa using ht), tdiv_day (by omega), wrap_in (x := t / 86400) (by omega) (by omega), wrap_in (x := t / 86400 * 86400) (by omega) (by omega), wrap_in (x := t - t / 86400 * 86400) (by omega) (by omega), wrap_in (x := A - 1) (by omega) (by omega), wrap_in (x := B - 1) (by omega) (by omega)]
      simp only [ref_in, Option.bind_some]
      have e : t - t / 86400 * 86400 = t % 86400 := by omega
      rw [e]
      split
      · refine some_dec ?_; unfold OpenP; simp only [Bool.not_eq_true', decide_eq_false_iff_not, hr, true_and]; omega
      · split
        · refine some_dec ?_; unfold OpenP; simp only [hr, true_and, true_iff]; omega
        · refine some_dec ?_; unfold OpenP; simp only [decide_eq_true_eq, hr, true_and]; omega
  · rw [if_neg hr]; simp only [imprimaturref23_Open.j0]; simp [hr]
theorem ref_next (k : Nat) (L M C F A B t : Int) (hr : RightP L M C F A B) (h0 : 0 ≤ t) (h : t ≤ 4611686018427387904) : imprimaturref23_next.f (k + 1) L M C F A B t = some (nextV A B t) := by
  unfold imprimaturref23_next.f nextV
  rw [ref_open _ _ _ _ _ _ _ _ (by omega)]; simp only [Option.bind_some, decide_eq_true_eq]
  have hr' := hr
  unfold RightP at hr'
  by_cases ho : OpenP A B (t % 86400)
  · rw [if_pos ⟨hr, h0, ho⟩, if_pos ho]
  · rw [if_neg (fun x => ho x.2.2), if_neg ho, tdiv_day h0, wrap_in (x := t / 86400) (by omega) (by omega), wrap_in (x := t / 86400 * 86400) (by omega) (by omega), wrap_in (x := t / 86400 * 86400 + A) (by omega) (by omega), wrap_in (x := t / 86400 * 86400 + A + 86400) (by omega) (by omega)]
    have hs : t % 86400 ≠ A := fun e => ho (by unfold OpenP; omega)
    split <;> split <;> congr 1 <;> omega
theorem ref_Opening_f (k : Nat) (L M C F A B t : Int) : imprimaturref23_Opening.f (k + 1) L M C F A B t = some (openingV L M C F A B t) := by
  unfold imprimaturref23_Opening.f openingV
  rw [ref_right]; simp only [Option.bind_some, decide_eq_true_eq, ref_in]
  by_cases hr : RightP L M C F A B
  · rw [if_pos hr]
    by_cases h0 : 0 ≤ t ∧ t ≤ 1099511627776
    · rw [if_pos h0, if_pos ⟨hr, h0⟩, ref_next _ _ _ _ _ _ _ _ hr h0.1 (by omega)]; rfl
    · rw [if_neg h0, if_neg (fun x => h0 x.2)]
  · rw [if_neg hr, if_neg (fun h => hr h.1)]
/-- A wait that has grown so many times. -/
def grow (F M : Int) : Nat → Int → Int
  | 0, w => w
  | n + 1, w => grow F M n (if w * F > M then M else w * F)
theorem grow_top (F M : Int) (hF : 1 ≤ F) (hM : 1 ≤ M) : ∀ n, grow F M n M = M
  | 0 => rfl
  | n + 1 => by
    have : M ≤ M * F := by have := Int.mul_le_mul_of_nonneg_left hF (by omega : 0 ≤ M); omega
    unfold grow
    split
    · exact grow_top F M hF hM n
    · rw [show M * F = M by omega]; exact grow_top F M hF hM n
theorem grow_one (M : Int) : ∀ n w, w ≤ M → grow 1 M n w = w
  | 0, _, _ => rfl
  | n + 1, w, h => by unfold grow; rw [if_neg (by omega), show w * 1 = w by omega]; exact grow_one M n w h
theorem grow_step_in {F M w : Int} (hF : 1 ≤ F) (hw : 1 ≤ w) (h : w ≤ M) : w ≤ (if w * F > M then M else w * F) ∧ (if w * F > M then M else w * F) ≤ M := by
  have : w ≤ w * F := by have := Int.mul_le_mul_of_nonneg_left hF (by omega : 0 ≤ w); omega
  split <;> omega
theorem grow_in (F M : Int) (hF : 1 ≤ F) : ∀ n w, 1 ≤ w → w ≤ M → w ≤ grow F M n w ∧ grow F M n w ≤ M
  | 0, w, _, h => ⟨Int.le_refl _, h⟩
  | n + 1, w, hw, h => by
    have s := grow_step_in hF hw h
    have := grow_in F M hF n _ (Int.le_trans hw s.1) s.2
    unfold grow
    omega
/-- Behind thirty and one growths nothing grows any more. -/
theorem grow_full (F M : Int) (hF : 2 ≤ F) (hM : M ≤ 1073741824) : ∀ (j n : Nat) (w : Int), 1 ≤ w → w ≤ M → M ≤ w * 2 ^ j → j ≤ n → grow F M n w = M
  | 0, n, w, hw, h, hj, _ => by
    obtain rfl : w = M := by simp at hj; omega
    exact grow_top F w (by omega) hw n
  | j + 1, 0, _, _, _, _, hl => by omega
  | j + 1, n + 1, w, hw, h, hj, hl => by
    have : w * 2 ≤ w * F := Int.mul_le_mul_of_nonneg_left hF (by omega)
    unfold grow
    split
    · exact grow_top F M (by omega) (by omega) n
    · refine grow_full F M hF hM j n _ (by omega) (by omega) ?_ (by omega)
      have e : w * 2 ^ (j + 1) = (w * 2) * 2 ^ j := by rw [Int.pow_succ]; rw [Int.mul_assoc, Int.mul_comm 2]
      rw [e] at hj
      exact Int.le_trans hj (Int.mul_le_mul_of_nonneg_right this (by have : (0 : Int) ≤ 2 ^ j := Int.pow_nonneg (by omega); exact this))
theorem grow_cap (F M w : Int) (hF : 1 ≤ F) (hM : M ≤ 1073741824) (hw : 1 ≤ w) (h : w ≤ M) (n : Nat) (hn : 30 ≤ n) : grow F M n w = grow F M 30 w := by
  by_cases e : F = 1
  · subst e; rw [grow_one _ _ _ h, grow_one _ _ _ h]
  · have b : M ≤ w * 2 ^ 30 := by omega
    rw [grow_full F M (by omega) hM 30 n w hw h b (by omega), grow_full F M (by omega) hM 30 30 w hw h b (by omega)]
theorem mul_small {w F M : Int} (hF : 1 ≤ F) (hF' : F ≤ 16) (hw : 1 ≤ w) (h : w ≤ M) (hM : M ≤ 1073741824) : 1 ≤ w * F ∧ w * F ≤ 17179869184 := by
  have a : w ≤ w * F := by have := Int.mul_le_mul_of_nonneg_left hF (by omega : 0 ≤ w); omega
  have b : w * F ≤ w * 16 := Int.mul_le_mul_of_nonneg_left hF' (by omega)
  omega
theorem plan_wait_l (L M C F A B : Int) (hr : RightP L M C F A B) : ∀ (n : Nat) (k : Nat) (w : Int), n < k → n ≤ 4611686018427387904 → 1 ≤ w → w ≤ M → plan_Rules_wait.l0 k w n L M C F A B = some (grow F M n w) := by
  intro n
  have hr' := hr
  unfold RightP at hr'
  induction n with
  | zero =>
    intro k w hk _ hw h
    obtain ⟨k, rfl⟩ : ∃ m, k = m + 1 := ⟨k - 1, by omega⟩
    simp only [plan_Rules_wait.l0]; rw [if_neg (by omega)]; rfl
  | succ n ih =>
    intro k w hk hn hw h
    obtain ⟨k, rfl⟩ : ∃ m, k = m + 1 := ⟨k - 1, by omega⟩
    have hm := mul_small (F := F) (by omega) (by omega) hw h (by omega)
    have s := grow_step_in (F := F) (by omega) hw h
    simp only [plan_Rules_wait.l0]; rw [if_pos (by omega), wrap_in (x := w * F) (by omega) (by omega)]
    have e : wrap64 (((n + 1 : Nat) : Int) - 1) = (n : Int) := by rw [wrap_in (by omega) (by omega)]; omega
    rw [e]
    unfold grow
    split
    · rw [grow_top F M (by omega) (by omega)]
    · split
      · rename_i h1; rw [h1, grow_top F M (by omega) (by omega)]
      · split
        · rename_i h2; subst h2; rw [grow_one _ _ _ (by omega)]
        · exact ih k _ (by omega) (by omega) (by omega) (by omega)
theorem plan_wait (L M C F A B f b : Int) (hr : RightP L M C F A B) (h1 : 1 ≤ f) (h2 : f ≤ 1099511627776) (h3 : 0 ≤ b) (h4 : b ≤ 1099511627776) (k : Nat) (hk : 4398046511104 ≤ k) : plan_Rules_wait.f k L M C F A B f b = some (grow F M (f - 1 + b).toNat L) := by
  have hr' := hr
  unfold RightP at hr'
  unfold plan_Rules_wait.f
  rw [wrap_in (x := f - 1) (by omega) (by omega), wrap_in (x := f - 1 + b) (by omega) (by omega)]
  have := plan_wait_l L M C F A B hr (f - 1 + b).toNat k L (by omega) (by omega) (by omega) (by omega)
  rw [Int.toNat_of_nonneg (by omega)] at this
  exact this
/-- Wait, told. -/
def waitV (L M C F A B f b : Int) : Int × Int := if RightP L M C F A B ∧ 1 ≤ f ∧ 0 ≤ b ∧ b ≤ f then (grow F M (min 30 (f - 1 + b).toNat) L, 0) else (0, 1)
theorem mn_le (a b : Int) : mn a b ≤ b ∧ mn a b ≤ a := by unfold mn; split <;> omega
theorem grow_min (F M w : Int) (hF : 1 ≤ F) (hM : M ≤ 1073741824) (hw : 1 ≤ w) (h : w ≤ M) (n : Nat) : grow F M n w = grow F M (min 30 n) w := by
  by_cases e : n ≤ 30
  · rw [Nat.min_eq_right e]
  · rw [Nat.min_eq_left (by omega)]; exact grow_cap F M w hF hM hw h n (by omega)
theorem plan_Wait_f (L M C F A B f b : Int) (k : Nat) (hk : 4398046511104 ≤ k) : plan_Wait.f k L M C F A B f b = some (waitV L M C F A B f b) := by
  by_cases hr : RightP L M C F A B ∧ 1 ≤ f ∧ 0 ≤ b ∧ b ≤ f
  · have m1 := mn_le f 1099511627776
    have m2 := mn_le b 1099511627776
    have m3 : 1 ≤ mn f 1099511627776 := by unfold mn; split <;> omega
    have m4 : 0 ≤ mn b 1099511627776 := by unfold mn; split <;> omega
    have hK := plan_wait L M C F A B _ _ hr.1 m3 m1.1 m4 m2.1 k hk
    unfold plan_Wait.f waitV
    rw [plan_right, if_pos hr]; simp only [Option.bind_some, decide_eq_true_eq]
    rw [if_pos hr.1, if_neg (by omega), if_neg (by omega), if_neg (by omega), hK]; simp only [Option.bind_some]
    have hr' := hr.1
    unfold RightP at hr'
    rw [grow_min F M L (by omega) (by omega) (by omega) (by omega)]
    congr 3
    unfold mn; split <;> split <;> omega
  · unfold plan_Wait.f waitV
    rw [plan_right, if_neg hr]; simp only [Option.bind_some, decide_eq_true_eq]
    by_cases h : RightP L M C F A B
    · rw [if_pos h]
      by_cases h1 : f < 1
      · rw [if_pos h1]
      · rw [if_neg h1]
        by_cases h2 : b < 0
        · rw [if_pos h2]
        · rw [if_neg h2, if_pos]
          apply Classical.byContradiction
          intro h3
          exact hr ⟨h, by omega, by omega, by omega⟩
    · rw [if_neg h]
theorem ref_grown_l (L M C F A B : Int) (hr : RightP L M C F A B) (N : Int) : ∀ (d : Nat) (k : Nat) (w i : Int), 0 ≤ i → i ≤ 31 → (min 31 N - i).toNat = d → 2 * d + 1 < k → 1 ≤ w → w ≤ M → imprimaturref23_grown.l0 k w N i L M C F A B = some (grow F M d w) := by
  intro d
  have hr' := hr
  unfold RightP at hr'
  induction d with
  | zero =>
    intro k w i h0 h1 hd hk hw h
    obtain ⟨k, rfl⟩ : ∃ m, k = m + 2 := ⟨k - 2, by omega⟩
    simp only [imprimaturref23_grown.l0, imprimaturref23_grown.j1]
    by_cases e : i < N
    · rw [if_pos e, if_neg (by simp; omega)]; rfl
    · rw [if_neg e, if_neg (by simp)]; rfl
  | succ d ih =>
    intro k w i h0 h1 hd hk hw h
    obtain ⟨k, rfl⟩ : ∃ m, k = m + 2 := ⟨k - 2, by omega⟩
    have hm := mul_small (F := F) (by omega) (by omega) hw h (by omega)
    have s := grow_step_in (F := F) (by omega) hw h
    simp only [imprimaturref23_grown.l0, imprimaturref23_grown.j1]
    rw [if_pos (by omega), if_pos (by simp; omega), wrap_in (x := w * F) (by omega) (by omega), wrap_in (x := i + 1) (by omega) (by omega)]
    unfold grow
    split
    · exact ih k _ _ (by omega) (by omega) (by omega) (by omega) (by omega) (by omega)
    · exact ih k _ _ (by omega) (by omega) (by omega) (by omega) (by omega) (by omega)
theorem ref_grown (L M C F A B : Int) (hr : RightP L M C F A B) (N : Int) (k : Nat) (hk : 64 < k) (hN : 0 ≤ N) : imprimaturref23_grown.f k L M C F A B L N = some (grow F M (min 30 N.toNat) L) := by
  have hr' := hr
  unfold RightP at hr'
  unfold imprimaturref23_grown.f
  rw [ref_grown_l L M C F A B hr N (min 31 N.toNat) k L 0 (by omega) (by omega) (by omega) (by omega) (by omega) (by omega), grow_min F M L (by omega) (by omega) (by omega) (by omega)]
  congr 2
  omega
theorem ref_Wait_f (L M C F A B f b : Int) (k : Nat) (hk : 65 < k) : imprimaturref23_Wait.f k L M C F A B f b = some (waitV L M C F A B f b) := by
  obtain ⟨k, rfl⟩ : ∃ m, k = m + 1 := ⟨k - 1, by omega⟩
  unfold imprimaturref23_Wait.f waitV
  rw [ref_right]; simp only [Option.bind_some, decide_eq_true_eq, imprimaturref23_Wait.j0, if_true]
  by_cases hr : RightP L M C F A B
  · rw [if_pos hr]
    by_cases h1 : f < 1
    · rw [if_pos h1, if_neg (by omega)]
    · rw [if_neg h1]
      by_cases h2 : b < 0
      · rw [if_pos h2, if_neg (by omega)]
      · rw [if_neg h2]
        by_cases h3 : b > f
        · rw [if_pos h3, if_neg (by omega)]
        · rw [if_neg h3, if_pos (show RightP L M C F A B ∧ 1 ≤ f ∧ 0 ≤ b ∧ b ≤ f from ⟨hr, by omega, by omega, by omega⟩)]
          split
          · rw [wrap_in (x := f - 1) (by omega) (by omega), wrap_in (x := f - 1 + b) (by omega) (by omega), ref_grown L M C F A B hr _ k (by omega) (by omega)]; rfl
          · rw [ref_grown L M C F A B hr _ k (by omega) (by omega)]; simp only [Option.bind_some]
            congr 3
            omega
  · rw [if_neg hr, if_neg (fun h => hr h.1)]
/-- Kind, told. -/
def kindV (e : Int) : Int := if e = 0 then 0 else if e = 60 ∨ e = 20 ∨ e = 85 ∨ e = 2 ∨ e = 86 then 1 else if e = 81 ∨ e = 82 ∨ e = 84 ∨ e = 50 ∨ e = 80 then 3 else 2
theorem ref_among_l (e : Int) (l : List Int) (hl : l.length ≤ 1000) : ∀ (d : Nat) (k : Nat) (i : Nat), l.length - i = d → i ≤ l.length → d < k → imprimaturref23_among.l0 k e l i = some (decide (e ∈ l.drop i)) := by
  intro d
  induction d with
  | zero =>
    intro k i hd hi hk
    obtain ⟨k, rfl⟩ : ∃ m, k = m + 1 := ⟨k - 1, by omega⟩
    simp only [imprimaturref23_among.l0]
    rw [if_neg (by omega), List.drop_of_length_le (by omega)]; simp
  | succ d ih =>
    intro k i hd hi hk
    obtain ⟨k, rfl⟩ : ∃ m, k = m + 1 := ⟨k - 1, by omega⟩
    have hlt : i < l.length := by omega
    simp only [imprimaturref23_among.l0]
    rw [if_pos (by omega), if_pos (by omega), wrap_in (by omega) (by omega), show ((i : Int) + 1) = ((i + 1 : Nat) : Int) by omega, ih k (i + 1) (by omega) (by omega) (by omega), List.drop_eq_getElem_cons hlt]
    have er : rd l (i : Int) = l[i] := by unfold rd; simp [hlt]
    rw [er]
    by_cases h : l[i] = e
    · rw [if_pos h]; simp [h]
    · rw [if_neg h]
      have h' : ¬ e = l[i] := fun x => h x.symm
      refine congrArg some (decide_eq_decide.2 ?_)
      rw [List.mem_cons]
      exact ⟨Or.inr, fun x => x.resolve_left h'⟩
theorem ref_among (e a b c d g : Int) (k : Nat) (hk : 6 < k) : imprimaturref23_among.f k e [a, b, c, d, g] = some (decide (e = a ∨ e = b ∨ e = c ∨ e = d ∨ e = g)) := by
  unfold imprimaturref23_among.f
  have := ref_among_l e [a, b, c, d, g] (by simp) 5 k 0 (by simp) (by simp) (by omega)
  simpa using this
theorem ref_Kind_f (e : Int) (k : Nat) (hk : 6 < k) : imprimaturref23_Kind.f k e = some (kindV e) := by
  unfold imprimaturref23_Kind.f kindV
  rw [ref_among _ _ _ _ _ _ k hk, ref_among _ _ _ _ _ _ k hk]
  simp only [Option.bind_some, decide_eq_true_eq]
  repeat' split
  all_goals rfl

theorem plan_Kind_f (e : Int) (k : Nat) : plan_Kind.f (k + 1) e = some (kindV e) := by
  unfold plan_Kind.f kindV
  simp only [plan_Kind.j0]
  by_cases h0 : e = 0
  · rw [if_pos h0, if_pos h0]
  · rw [if_neg h0, if_neg h0]
    by_cases h1 : e = 60 ∨ e = 20 ∨ e = 85 ∨ e = 2 ∨ e = 86
    · rw [if_pos h1]
      rcases h1 with rfl | rfl | rfl | rfl | rfl <;> rfl
    · rw [if_neg h1, if_neg (by omega), if_neg (by omega), if_neg (by omega), if_neg (by omega), if_neg (by rw [beq_iff_eq]; omega)]
      by_cases h2 : e = 81 ∨ e = 82 ∨ e = 84 ∨ e = 50 ∨ e = 80
      · rw [if_pos h2]
        rcases h2 with rfl | rfl | rfl | rfl | rfl <;> rfl
      · rw [if_neg h2, if_neg (by omega), if_neg (by omega), if_neg (by omega), if_neg (by omega), if_neg (by omega)]
theorem known_f (k : Nat) (hk : 4398046511104 ≤ k) : imprimaturlaw23_known.f k = some true := by
  unfold imprimaturlaw23_known.f
  rw [plan_Wait_f _ _ _ _ _ _ _ _ _ hk, plan_Wait_f _ _ _ _ _ _ _ _ _ hk]
  obtain ⟨k', rfl⟩ : ∃ m, k = m + 1 := ⟨k - 1, by omega⟩
  rw [plan_Opening_f, plan_open, plan_open, plan_Kind_f]
  rfl
theorem waitV_in {L M C F A B f b : Int} (h : RightP L M C F A B ∧ 1 ≤ f ∧ 0 ≤ b ∧ b ≤ f) : L ≤ (waitV L M C F A B f b).1 ∧ (waitV L M C F A B f b).1 ≤ M := by
  have hr := h.1
  unfold RightP at hr
  unfold waitV
  rw [if_pos h]
  exact grow_in F M (by omega) _ L (by omega) (by omega)
/-- A plan that there may be. -/
def PlanP (f g n l : Int) : Prop := 0 ≤ f ∧ f < 1099511627776 ∧ 0 ≤ g ∧ g ≤ f ∧ 0 ≤ n ∧ -1 ≤ l
instance (f g n l : Int) : Decidable (PlanP f g n l) := by unfold PlanP; infer_instance
/-- How long to wait behind a failure of a kind. -/
def stepV (L M C F A B f g e : Int) : Int := if kindV e = 1 then L else (waitV L M C F A B (f + 1) (if kindV e = 3 then g + 1 else g)).1
/-- After, told. -/
def afterV (L M C F A B f g n l t e : Int) : Int × Int × Int × Int × Int :=
  if (RightP L M C F A B ∧ 0 ≤ t ∧ t ≤ 1099511627776) ∧ PlanP f g n l then
    if e = 0 then (0, 0, nextV A B (t + C), t, 0)
    else (f + 1, (if kindV e = 3 then g + 1 else g), nextV A B (t + stepV L M C F A B f g e), l, 0)
  else (0, 0, 0, 0, 1)
theorem openingV_ok {L M C F A B t : Int} : (openingV L M C F A B t).2 = 0 ↔ (RightP L M C F A B ∧ 0 ≤ t ∧ t ≤ 1099511627776) := by
  unfold openingV; split <;> simp_all
theorem kindV_zero {e : Int} : kindV e = 0 ↔ e = 0 := by
  unfold kindV
  split
  · simp_all
  · split
    · simp_all
    · split <;> simp_all
theorem waitV_le (L M C F A B f b : Int) (hr : RightP L M C F A B) : 0 ≤ (waitV L M C F A B f b).1 ∧ (waitV L M C F A B f b).1 ≤ 1073741824 := by
  by_cases h : RightP L M C F A B ∧ 1 ≤ f ∧ 0 ≤ b ∧ b ≤ f
  · have := waitV_in h
    unfold RightP at hr; omega
  · unfold waitV; rw [if_neg h]; simp
theorem plan_planright (f g n l : Int) : plan_Plan_right.f f g n l = some (decide (PlanP f g n l)) := by
  unfold plan_Plan_right.f
  repeat' split
  all_goals (refine some_dec ?_; unfold PlanP; simp only [decide_eq_true_eq, Bool.false_eq_true]; refine ⟨fun h => ?_, fun h => ?_⟩ <;> first | exact h.elim | omega)
theorem plan_After_f (L M C F A B f g n l t e : Int) (k : Nat) (hk : 4398046511110 ≤ k) : plan_After.f k L M C F A B f g n l t e = some (afterV L M C F A B f g n l t e) := by
  obtain ⟨k, rfl⟩ : ∃ m, k = m + 3 := ⟨k - 3, by omega⟩
  unfold plan_After.f afterV
  rw [plan_Opening_f]; simp only [Option.bind_some]
  by_cases h1 : RightP L M C F A B ∧ 0 ≤ t ∧ t ≤ 1099511627776
  · have hr := h1.1
    unfold RightP at hr
    rw [if_pos (openingV_ok.2 h1), plan_planright]; simp only [Option.bind_some]
    by_cases h2 : PlanP f g n l
    · have h2' := h2
      unfold PlanP at h2'
      rw [if_pos ⟨h1, h2⟩, decide_eq_true h2]
      simp only [plan_After.j0, Bool.not_true, Bool.false_eq_true, if_false, plan_Kind_f, Option.bind_some]
      by_cases h0 : e = 0
      · rw [if_pos h0, if_pos (kindV_zero.2 h0), wrap_in (x := t + C) (by omega) (by omega), plan_opening L M C F A B _ (by omega) (by omega) (by omega) (by omega)]; rfl
      · rw [if_neg h0, if_neg (fun x => h0 (kindV_zero.1 x)), wrap_in (x := f + 1) (by omega) (by omega), wrap_in (x := g + 1) (by omega) (by omega)]
        have one : ∀ g', (g' = g ∨ g' = g + 1) → (g' = if kindV e = 3 then g + 1 else g) → plan_After.j1 (k + 2) t (kindV e) L M C F A B (f + 1) g' n l = some (f + 1, g', nextV A B (t + stepV L M C F A B f g e), l, 0) := by
          intro g' hg' hge
          simp only [plan_After.j1]
          unfold stepV
          by_cases h3 : kindV e = 1
          · rw [if_pos h3, if_pos h3, wrap_in (x := t + L) (by omega) (by omega), plan_opening L M C F A B _ (by omega) (by omega) (by omega) (by omega)]; rfl
          · have hw := plan_wait L M C F A B (f + 1) g' h1.1 (by omega) (by omega) (by omega) (by omega) (k + 1) (by omega)
            have hv : grow F M (f + 1 - 1 + g').toNat L = (waitV L M C F A B (f + 1) g').1 := by
              unfold waitV
              rw [if_pos ⟨h1.1, by omega, by omega, by omega⟩, grow_min F M L (by omega) (by omega) (by omega) (by omega)]
            have hl := waitV_le L M C F A B (f + 1) g' h1.1
            rw [if_neg h3, if_neg h3, hw, hv]; simp only [Option.bind_some]
            rw [wrap_in (x := t + (waitV L M C F A B (f + 1) g').1) (by omega) (by omega), plan_opening L M C F A B _ (by omega) (by omega) (by omega) (by omega), ← hge]; rfl
        by_cases h3 : kindV e = 3
        · rw [if_pos h3, one (g + 1) (Or.inr rfl) (by rw [if_pos h3]), if_pos h3]
        · rw [if_neg h3, one g (Or.inl rfl) (by rw [if_neg h3]), if_neg h3]
    · rw [if_neg (fun x => h2 x.2), decide_eq_false h2]; rfl
  · rw [if_neg (fun x => h1 (openingV_ok.1 x)), if_neg (fun x => h1 x.1)]; rfl
theorem ref_After_f (L M C F A B f g n l t e : Int) (k : Nat) (hk : 4398046511110 ≤ k) : imprimaturref23_After.f k L M C F A B f g n l t e = some (afterV L M C F A B f g n l t e) := by
  obtain ⟨k, rfl⟩ : ∃ m, k = m + 3 := ⟨k - 3, by omega⟩
  unfold imprimaturref23_After.f afterV
  rw [ref_Opening_f]; simp only [Option.bind_some]
  by_cases h1 : RightP L M C F A B ∧ 0 ≤ t ∧ t ≤ 1099511627776
  · have hr := h1.1
    unfold RightP at hr
    rw [if_pos (openingV_ok.2 h1)]
    by_cases h2 : PlanP f g n l
    · have h2' := h2
      unfold PlanP at h2'
      rw [if_pos (show (RightP L M C F A B ∧ 0 ≤ t ∧ t ≤ 1099511627776) ∧ PlanP f g n l from ⟨h1, h2⟩), if_neg (by omega), if_neg (by omega), if_neg (by omega), if_neg (by omega), if_neg (by omega), decide_eq_false (by omega)]
      simp only [imprimaturref23_After.j0, Bool.false_eq_true, if_false]
      by_cases h0 : e = 0
      · rw [if_pos h0, if_pos h0, wrap_in (x := t + C) (by omega) (by omega), ref_next _ L M C F A B _ h1.1 (by omega) (by omega)]; rfl
      · rw [if_neg h0, if_neg h0, wrap_in (x := f + 1) (by omega) (by omega), wrap_in (x := g + 1) (by omega) (by omega), ref_Kind_f _ _ (by omega)]; simp only [Option.bind_some]
        have one : ∀ g', (g' = if kindV e = 3 then g + 1 else g) → imprimaturref23_After.j1 (k + 2) t e L M C F A B (f + 1) g' n l = some (f + 1, g', nextV A B (t + stepV L M C F A B f g e), l, 0) := by
          intro g' hge
          simp only [imprimaturref23_After.j1]
          rw [ref_Wait_f L M C F A B (f + 1) g' _ (by omega), ref_Kind_f _ _ (by omega)]; simp only [Option.bind_some]
          unfold stepV
          by_cases h3 : kindV e = 1
          · rw [if_pos h3, if_pos h3, wrap_in (x := t + L) (by omega) (by omega), ref_next _ L M C F A B _ h1.1 (by omega) (by omega)]; rfl
          · have hl := waitV_le L M C F A B (f + 1) g' h1.1
            rw [if_neg h3, if_neg h3, wrap_in (x := t + (waitV L M C F A B (f + 1) g').1) (by omega) (by omega), ref_next _ L M C F A B _ h1.1 (by omega) (by omega), ← hge]; rfl
        by_cases h3 : kindV e = 3
        · rw [if_pos h3, one (g + 1) (by rw [if_pos h3]), if_pos h3]
        · rw [if_neg h3, one g (by rw [if_neg h3]), if_neg h3]
    · have yes : imprimaturref23_After.j0 (k + 3) t e true L M C F A B f g n l = some (0, 0, 0, 0, 1) := rfl
      rw [if_neg (show ¬ ((RightP L M C F A B ∧ 0 ≤ t ∧ t ≤ 1099511627776) ∧ PlanP f g n l) from fun x => h2 x.2), yes]
      repeat' split
      all_goals first | rfl | (rw [decide_eq_true, yes]; unfold PlanP at h2; omega)
  · rw [if_neg (fun x => h1 (openingV_ok.1 x)), if_neg (fun x => h1 x.1)]; rfl
/-- Begin, told. -/
def beginV (L M C F A B t : Int) : Int × Int × Int × Int × Int := if RightP L M C F A B ∧ 0 ≤ t ∧ t ≤ 1099511627776 then (0, 0, nextV A B t, -1, 0) else (0, 0, 0, 0, 1)
theorem plan_Begin_f (L M C F A B t : Int) : plan_Begin.f L M C F A B t = some (beginV L M C F A B t) := by
  unfold plan_Begin.f beginV
  rw [plan_Opening_f]; simp only [Option.bind_some]
  unfold openingV
  split <;> rfl
theorem ref_Begin_f (L M C F A B t : Int) (k : Nat) : imprimaturref23_Begin.f (k + 1) L M C F A B t = some (beginV L M C F A B t) := by
  unfold imprimaturref23_Begin.f beginV
  rw [ref_Opening_f]; simp only [Option.bind_some]
  unfold openingV
  split <;> rfl
theorem PlanGoes_f (L M C F A B f g n l t e : Int) : ∃ k, imprimaturlaw23_PlanGoes.f k L M C F A B f g n l t e = some true := by
  refine ⟨4398046511111, ?_⟩
  have hb := ref_Begin_f L M C F A B t 4398046511110
  unfold imprimaturlaw23_PlanGoes.f
  simp only [imprimaturlaw23_own.f, imprimaturlaw23_of.f, Option.bind_some, plan_Begin_f, hb, plan_After_f L M C F A B f g n l t e 4398046511111 (by omega), ref_After_f L M C F A B f g n l t e 4398046511111 (by omega), plan_Due.f, known_f 4398046511111 (by omega)]
  simp
theorem PlanGoes_walk (L M C F A B f g n l t e : Int) (w : World) (_ : (Lit.int .i64 L).wf = true) (_ : (Lit.int .i64 M).wf = true) (_ : (Lit.int .i64 C).wf = true) (_ : (Lit.int .i64 F).wf = true) (_ : (Lit.int .i64 A).wf = true) (_ : (Lit.int .i64 B).wf = true) (_ : (Lit.int .i64 f).wf = true) (_ : (Lit.int .i64 g).wf = true) (_ : (Lit.int .i64 n).wf = true) (_ : (Lit.int .i64 l).wf = true) (_ : (Lit.int .i64 t).wf = true) (_ : (Lit.int .i64 e).wf = true) :
    Calls Try.prog 7 #[.agg #[.int .i64 L, .int .i64 M, .int .i64 C, .int .i64 F, .int .i64 A, .int .i64 B], .agg #[.int .i64 f, .int .i64 g, .int .i64 n, .int .i64 l], .int .i64 t, .int .i64 e] w fun e w' => e = .returned (.bool true) ∧ Below w.heap.size w w' := by
  obtain ⟨k, hk⟩ := PlanGoes_f L M C F A B f g n l t e
  exact imprimaturlaw23_PlanGoes.calls k L M C F A B f g n l t e true rfl w hk

end Go.Proofs.Ytmdindopkcmloaa.PGo
