/- Plain lemmas for one law. -/
import Derived.Test.YtdpdmmbdoeefbaaDoorPCutx1
import Derived.Test.YtdpdmmbdoeefbaaDoorPCutx4
import Derived.Test.YtdpdmmbdoeefbaaDoorPCux1
set_option linter.unusedVariables false
namespace Go.Proofs.YtdpdmmbdoeefbaaDoor.PCut
open Go.RowKit Go.Proofs.YtdpdmmbdoeefbaaDoorW.PrintWords Go.Proofs.YtdpdmmbdoeefbaaDoorW.PrintLast Go.Proofs.YtdpdmmbdoeefbaaDoorW.PrintMore Go.Proofs.YtdpdmmbdoeefbaaDoor.X
theorem w64 {x : Int} (h : -9223372036854775808 ≤ x) (h' : x ≤ 9223372036854775807) : wrap64 x = x := by unfold wrap64; omega
theorem div_next (n : Int) {c : Int} (hc : 0 < c) : (n - c - 1) / c + 1 = (n - 1) / c := by
  have := Int.add_mul_ediv_right (n - c - 1) 1 (show c ≠ 0 by omega)
  rw [Int.one_mul, show n - c - 1 + c = n - 1 by omega] at this
  omega
theorem div_up (n : Int) {c : Int} (hc : 0 < c) : (n + c - 1) / c = (n - 1) / c + 1 := by
  have := Int.add_mul_ediv_right (n - 1) 1 (show c ≠ 0 by omega)
  rw [Int.one_mul, show n - 1 + c = n + c - 1 by omega] at this
  exact this
/-- How many chunks there are. -/
def cntE (n c : Int) : Int × Int := if n < 0 ∨ c < 64 ∨ c > 1024 then (0, 1) else if n > 131072 then (0, 2) else ((n - 1) / c + 1, 0)
theorem count_eq (k : Nat) (n c : Int) : merkle_Count.f (k + 1) n c = some (cntE n c) := by
  unfold merkle_Count.f cntE
  by_cases h1 : n < 0
  · rw [if_pos h1, if_pos (.inl h1), merkle_Count.j0, if_pos rfl]
  by_cases h2 : c < 64
  · rw [if_neg h1, if_pos h2, if_pos (.inr (.inl h2)), merkle_Count.j0, if_pos rfl]
  by_cases h3 : c > 1024
  · rw [if_neg h1, if_neg h2, if_pos (.inr (.inr h3)), merkle_Count.j0, if_pos (decide_eq_true h3)]
  rw [if_neg h1, if_neg h2, if_neg (show ¬ (n < 0 ∨ c < 64 ∨ c > 1024) by omega), merkle_Count.j0, if_neg (by simpa using h3)]
  by_cases h4 : n > 131072
  · rw [if_pos h4, if_pos h4]
  rw [if_neg h4, if_neg h4, if_neg (by omega), w64 (x := n + c) (by omega) (by omega), w64 (x := n + c - 1) (by omega) (by omega), Int.tdiv_eq_ediv_of_nonneg (by omega), div_up n (by omega)]
  have h5 : 0 ≤ (n - 1) / c + 1 := by have := Int.ediv_nonneg (a := n + c - 1) (b := c) (by omega) (by omega); rwa [div_up n (by omega)] at this
  have h6 : (n - 1) / c + 1 ≤ 131073 := by have h7 : (n - 1) / c ≤ 131072 := Int.le_of_lt_add_one (Int.ediv_lt_of_lt_mul (by omega) (by rw [show (131072 + 1 : Int) * c = c * 131073 by rw [Int.mul_comm]; rfl]; omega)); omega
  rw [w64 (by omega) (by omega)]
theorem refcount_l (c : Int) (hc : 64 ≤ c) (hc' : c ≤ 1024) : ∀ (d k : Nat) (n m : Int), n ≤ 64 * d → -c < n → n ≤ 131072 → 0 ≤ m → m + d ≤ 10000000 → imprimaturref06_Count.l0 (k + d + 1) n c m = some (m + ((n - 1) / c + 1), 0) := by
  intro d
  induction d with
  | zero =>
    intro k n m h1 h2 h3 h4 h5
    rw [imprimaturref06_Count.l0, if_neg (by omega)]
    have : (n - 1) / c = -1 := by
      have := div_next n (c := c) (by omega)
      have h6 := Int.ediv_eq_zero_of_lt (a := n + c - 1) (b := c) (by omega) (by omega)
      rw [div_up n (by omega)] at h6
      omega
    rw [this]
    simp
  | succ d ih =>
    intro k n m h1 h2 h3 h4 h5
    rw [show k + (d + 1) + 1 = (k + d + 1) + 1 by omega, imprimaturref06_Count.l0]
    by_cases h : n > 0
    · rw [if_pos h, w64 (x := n - c) (by omega) (by omega), w64 (x := m + 1) (by omega) (by omega), ih k (n - c) (m + 1) (by omega) (by omega) (by omega) (by omega) (by omega)]
      have := div_next n (c := c) (by omega)
      congr 2
      omega
    · rw [if_neg h]
      have : (n - 1) / c = -1 := by
        have h6 := Int.ediv_eq_zero_of_lt (a := n + c - 1) (b := c) (by omega) (by omega)
        rw [div_up n (by omega)] at h6
        omega
      rw [this]
      simp
theorem refcount_eq (k : Nat) (hk : 3000 ≤ k) (n c : Int) : imprimaturref06_Count.f k n c = some (cntE n c) := by
  obtain ⟨k, rfl⟩ : ∃ j, k = (j + 2048 + 1) + 1 := ⟨k - 2050, by omega⟩
  unfold imprimaturref06_Count.f cntE
  by_cases h1 : n < 0
  · rw [if_pos h1, if_pos (.inl h1), imprimaturref06_Count.j0, if_pos rfl]
  by_cases h2 : c < 64
  · rw [if_neg h1, if_pos h2, if_pos (.inr (.inl h2)), imprimaturref06_Count.j0, if_pos rfl]
  by_cases h3 : c > 1024
  · rw [if_neg h1, if_neg h2, if_pos (.inr (.inr h3)), imprimaturref06_Count.j0, if_pos (decide_eq_true h3)]
  rw [if_neg h1, if_neg h2, if_neg (show ¬ (n < 0 ∨ c < 64 ∨ c > 1024) by omega), imprimaturref06_Count.j0, if_neg (by simpa using h3)]
  by_cases h4 : n > 131072
  · rw [if_pos h4, if_pos h4]
  rw [if_neg h4, if_neg h4, refcount_l c (by omega) (by omega) 2048 k n 0 (by omega) (by omega) (by omega) (by omega) (by omega), Int.zero_add]
/-- A text's pieces. -/
def pcs (c : Nat) : Nat → List Int → List (List Int)
  | 0, _ => []
  | m + 1, b => b.take c :: pcs c m (b.drop c)
/-- How many pieces there are. -/
theorem cnt_nat (L c : Nat) (hc : 0 < c) : ((L : Int) - 1) / (c : Int) + 1 = (((L + c - 1) / c : Nat) : Int) := by
  rw [← div_up (L : Int) (by omega)]
  rw [show (L : Int) + c - 1 = ((L + c - 1 : Nat) : Int) by omega]
  rfl
theorem cnt_step (L c : Nat) (hc : 0 < c) (hL : c ≤ L) : (L + c - 1) / c = (L - c + c - 1) / c + 1 := by
  rw [show L + c - 1 = (L - c + c - 1) + c by omega, Nat.add_div_right _ hc]
theorem cnt_small (L c : Nat) (hc : 0 < c) (h0 : 0 < L) (hL : L ≤ c) : (L + c - 1) / c = 1 := by
  rw [show L + c - 1 = (L - 1) + c by omega, Nat.add_div_right _ hc, Nat.div_eq_of_lt (by omega)]
theorem cnt_zero (c : Nat) (hc : 0 < c) : (0 + c - 1) / c = 0 := Nat.div_eq_of_lt (by omega)
theorem cut_l (b : List Int) (c : Nat) (hc : 64 ≤ c) (hc' : c ≤ 1024) (hb : b.length ≤ 5000) (N : Nat) (hN : N = (b.length + c - 1) / c) : ∀ (d k i : Nat) (acc : List (List Int)), i + d = N → acc.length = i →
    merkle_Cut.l0 (k + d + 1) b c acc N i = some (acc ++ pcs c d (b.drop (i * c)), 0) := by
  have hNb : N * c ≤ b.length + c - 1 := by rw [hN]; exact Nat.div_mul_le_self _ _
  intro d
  induction d with
  | zero =>
    intro k i acc hi ha
    rw [merkle_Cut.l0, if_neg (by omega)]
    simp [pcs]
  | succ d ih =>
    intro k i acc hi ha
    have h1 : (i + 1) * c ≤ N * c := Nat.mul_le_mul_right _ (by omega)
    rw [Nat.add_mul, Nat.one_mul] at h1
    obtain ⟨j, hj⟩ : ∃ j, j = i * c := ⟨_, rfl⟩
    rw [← hj] at h1
    have hij : i ≤ j := by rw [hj]; exact Nat.le_mul_of_pos_right _ (by omega)
    have hji : (i : Int) * (c : Int) = (j : Int) := by rw [hj]; simp
    rw [show k + (d + 1) + 1 = (k + d + 1) + 1 by omega, merkle_Cut.l0, hji]
    rw [w64 (x := (j : Int)) (by omega) (by omega), w64 (x := (j : Int) + c) (by omega) (by omega), w64 (x := (i : Int) + 1) (by omega) (by omega)]
    obtain ⟨e, he, he1, he2⟩ : ∃ e : Nat, mn (b.length : Int) ((j : Int) + c) = e ∧ e = min b.length (j + c) ∧ j ≤ e := ⟨min b.length (j + c), by unfold mn; split <;> omega, rfl, by omega⟩
    have hd : ((b.take e).drop j).length ≤ 5000 := by simp; omega
    have hx : (b.take e).drop j = (b.drop j).take c := by
      rw [List.drop_take, he1]
      by_cases h : b.length ≤ j + c
      · rw [Nat.min_eq_left h, List.take_of_length_le (by simp), List.take_of_length_le (by simp; omega)]
      · rw [Nat.min_eq_right (by omega), Nat.add_sub_cancel_left]
    rw [he, if_pos (by omega), if_pos (by omega), if_pos (by omega), if_pos (by omega)]
    simp only [Int.toNat_natCast]
    rw [if_pos (by rw [List.length_nil]; omega), if_pos (by omega), List.nil_append, hx, show ((i : Int) + 1) = ((i + 1 : Nat) : Int) by omega, ih k (i + 1) _ (by omega) (by simp [ha])]
    rw [pcs, hj, List.append_assoc, List.singleton_append, List.drop_drop, Nat.add_mul, Nat.one_mul]
theorem cut_eq (k : Nat) (hk : 200 ≤ k) (b : List Int) (c : Int) (hb : b.length ≤ 5000) : merkle_Cut.f k b c = some (if (cntE b.length c).2 = 0 then (pcs c.toNat ((b.length + c.toNat - 1) / c.toNat) b, 0) else ([], (cntE b.length c).2)) := by
  obtain ⟨k, rfl⟩ : ∃ j, k = j + 1 := ⟨k - 1, by omega⟩
  unfold merkle_Cut.f
  rw [count_eq]
  simp only [Option.bind_some]
  by_cases h : (cntE b.length c).2 = 0
  · rw [if_pos h, if_pos h]
    have hr : 64 ≤ c ∧ c ≤ 1024 := by
      unfold cntE at h
      split at h
      · cases h
      · omega
    obtain ⟨c, rfl⟩ := Int.eq_ofNat_of_zero_le (show 0 ≤ c by omega)
    have e1 : (cntE b.length c).1 = (((b.length + c - 1) / c : Nat) : Int) := by
      unfold cntE
      rw [if_neg (by omega), if_neg (by omega)]
      exact cnt_nat _ _ (by omega)
    rw [e1, Int.toNat_natCast]
    have hN : (b.length + c - 1) / c ≤ 100 := Nat.le_of_lt_succ (Nat.div_lt_of_lt_mul (by omega))
    have := cut_l b c (by omega) (by omega) hb _ rfl ((b.length + c - 1) / c) (k - (b.length + c - 1) / c) 0 [] (by omega) rfl
    rw [show k - (b.length + c - 1) / c + (b.length + c - 1) / c + 1 = k + 1 by omega] at this
    rw [show (0 : Int) = ((0 : Nat) : Int) from rfl, this]
    simp
  · rw [if_neg h, if_neg h]
theorem refcut_l (c : Nat) (hc : 64 ≤ c) (hc' : c ≤ 1024) : ∀ (d k : Nat) (b : List Int) (acc : List (List Int)), b.length ≤ 64 * d + 64 → acc.length + d ≤ 1000 →
    imprimaturref06_Cut.l0 (k + d + 1) b c acc = some (acc ++ pcs c ((b.length + c - 1) / c) b, 0) := by
  intro d
  induction d with
  | zero =>
    intro k b acc h1 h2
    rw [imprimaturref06_Cut.l0, if_neg (by omega)]
    by_cases h : b.length = 0
    · obtain rfl := List.length_eq_zero_iff.1 h
      rw [if_neg (by simp), List.length_nil, cnt_zero c (by omega)]
      simp [pcs]
    · rw [if_pos (by omega), if_pos (by omega), cnt_small _ c (by omega) (by omega) (by omega)]
      simp only [pcs]
      rw [List.take_of_length_le (by omega)]
  | succ d ih =>
    intro k b acc h1 h2
    rw [show k + (d + 1) + 1 = (k + d + 1) + 1 by omega, imprimaturref06_Cut.l0]
    by_cases h3 : (b.length : Int) > c
    · rw [if_pos h3, if_pos (by omega), if_pos (by omega), if_pos (by omega), Int.toNat_natCast, ih k (b.drop c) _ (by simp; omega) (by simp; omega), cnt_step b.length c (by omega) (by omega), pcs, List.append_assoc, List.singleton_append, List.length_drop]
    · rw [if_neg h3]
      by_cases h : b.length = 0
      · obtain rfl := List.length_eq_zero_iff.1 h
        rw [if_neg (by simp), List.length_nil, cnt_zero c (by omega)]
        simp [pcs]
      · rw [if_pos (by omega), if_pos (by omega), cnt_small _ c (by omega) (by omega) (by omega)]
        simp only [pcs]
        rw [List.take_of_length_le (by omega)]
theorem refcut_eq (k : Nat) (hk : 3000 ≤ k) (b : List Int) (c : Int) (hb : b.length ≤ 5000) : imprimaturref06_Cut.f k b c = some (if (cntE b.length c).2 = 0 then (pcs c.toNat ((b.length + c.toNat - 1) / c.toNat) b, 0) else ([], (cntE b.length c).2)) := by
  obtain ⟨k, rfl⟩ : ∃ j, k = j + 100 + 1 := ⟨k - 101, by omega⟩
  unfold imprimaturref06_Cut.f
  rw [refcount_eq _ (by omega)]
  simp only [Option.bind_some]
  by_cases h : (cntE b.length c).2 = 0
  · rw [if_pos h, if_pos h]
    have hr : 64 ≤ c ∧ c ≤ 1024 := by
      unfold cntE at h
      split at h
      · cases h
      · omega
    obtain ⟨c, rfl⟩ := Int.eq_ofNat_of_zero_le (show 0 ≤ c by omega)
    rw [refcut_l c (by omega) (by omega) 100 k b [] (by omega) (by simp), Int.toNat_natCast]
    simp
  · rw [if_neg h, if_neg h]
theorem same_l (x : List (List Int)) : ∀ (d k i : Nat), i + d = x.length → x.length ≤ 100000 → imprimaturref06_Same.l0 (k + d + 1) x x i = some true := by
  intro d
  induction d with
  | zero =>
    intro k i h h2
    rw [imprimaturref06_Same.l0, if_neg (by omega)]
  | succ d ih =>
    intro k i h h2
    rw [show k + (d + 1) + 1 = (k + d + 1) + 1 by omega, imprimaturref06_Same.l0, if_pos (by omega), if_pos (by omega), if_pos (by omega), if_pos rfl, w64 (by omega) (by omega), show (i : Int) + 1 = ((i + 1 : Nat) : Int) by omega]
    exact ih k (i + 1) (by omega) h2
theorem same_self (k : Nat) (x : List (List Int)) (h : x.length ≤ 100000) (hk : x.length < k) : imprimaturref06_Same.f k x x = some true := by
  unfold imprimaturref06_Same.f
  rw [if_pos rfl]
  have := same_l x x.length (k - x.length - 1) 0 (by omega) h
  rwa [show k - x.length - 1 + x.length + 1 = k by omega] at this
theorem pcs_length (c : Nat) : ∀ (m : Nat) (b : List Int), (pcs c m b).length = m
  | 0, _ => rfl
  | m + 1, b => by rw [pcs, List.length_cons, pcs_length c m]
end Go.Proofs.YtdpdmmbdoeefbaaDoor.PCut
namespace Go.Proofs.YtdpdmmbdoeefbaaDoor.PCu
open Go.RowKit Go.Proofs.YtdpdmmbdoeefbaaDoorW.PrintWords Go.Proofs.YtdpdmmbdoeefbaaDoorW.PrintLast Go.Proofs.YtdpdmmbdoeefbaaDoorW.PrintMore Go.Proofs.YtdpdmmbdoeefbaaDoor.X Go.Proofs.YtdpdmmbdoeefbaaDoor.PCut
theorem cuts_law (hkn : imprimaturlaw06_known.f = some true) (a0 a1 : Int) (b : List Int) : ∃ k, imprimaturlaw06_MerkleCuts.f k a0 a1 b = some true := by
  refine ⟨5000, ?_⟩
  unfold imprimaturlaw06_MerkleCuts.f
  rw [hkn]
  simp only [Option.bind_some]
  by_cases hb : (b.length : Int) > 5000
  · rw [if_pos hb]
  have hb' : b.length ≤ 5000 := by omega
  rw [if_neg hb, count_eq 4999, refcount_eq _ (by omega), cut_eq _ (by omega) b a1 hb', refcut_eq _ (by omega) b a1 hb']
  simp only [Option.bind_some]
  rw [if_pos trivial, if_pos trivial, same_self]
  · simp only [Option.bind_some]
    rw [if_pos trivial, if_pos trivial]
  · split
    · have : (b.length + a1.toNat - 1) / a1.toNat ≤ b.length + a1.toNat - 1 := Nat.div_le_self _ _
      rename_i h
      unfold cntE at h
      split at h
      · cases h
      · rw [pcs_length]; omega
    · simp
  · split
    · have : (b.length + a1.toNat - 1) / a1.toNat ≤ 100 := by
        rename_i h
        unfold cntE at h
        split at h
        · cases h
        · exact Nat.le_of_lt_succ (Nat.div_lt_of_lt_mul (by omega))
      rw [pcs_length]; omega
    · simp
theorem MerkleCuts_walk (a0 : Int) (a1 : Int) (a2 : Option Addr) (len2 cap2 : Nat) (z2 : List Int) (w : World) (HG : Glb w) (w0 : (Lit.int .i64 a0).wf = true) (w1 : (Lit.int .i64 a1).wf = true) (w2 : (a2 = none ∧ len2 = 0 ∧ cap2 = 0 ∧ z2 = []) ∨ ∃ x, a2 = some x ∧ len2 ≤ cap2 ∧ cap2 ≤ maxLen ∧ z2.length = cap2 ∧ (∀ i, i < z2.length → w.cell? (x.add i) = some (.int .u8 (z2.getD i 0))) ∧ ∀ n ∈ z2, (Lit.int .u8 n).wf = true) (y2 : len2 * 1 ≤ 140737488351232) :
    Calls Tryd.prog 7 #[.int .i64 a0, .int .i64 a1, .slice a2 len2 cap2] w fun e w' => e = .returned (.bool true) ∧ Below w.heap.size w w' :=
  imprimaturlaw06_MerkleCuts.walk (fun a0 a1 l2 _ _ _ _ _ => cuts_law rfl a0 a1 l2) a0 a1 a2 len2 cap2 z2 w HG w0 w1 w2 y2
end Go.Proofs.YtdpdmmbdoeefbaaDoor.PCu
