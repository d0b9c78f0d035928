/- Plain lemmas for one law. -/
import Derived.Test.YtdpdmmbdoeefbaaDoorPCutx1
import Derived.Test.YtdpdmmbdoeefbaaDoorPCutx4
import Derived.Test.YtdpdmmbdoeefbaaDoorPWhx1
set_option linter.unusedVariables false
namespace Go.Proofs.YtdpdmmbdoeefbaaDoor.PCut
open Go.RowKit Go.Proofs.YtdpdmmbdoeefbaaDoorW.PrintWords Go.Proofs.YtdpdmmbdoeefbaaDoorW.PrintLast Go.Proofs.YtdpdmmbdoeefbaaDoorW.PrintMore Go.Proofs.YtdpdmmbdoeefbaaDoor.X
theorem w64 {x : Int} (h : -9223372036854775808 ≤ x) (h' : x ≤ 9223372036854775807) : wrap64 x = x := by unfold wrap64; omega
theorem div_up (n : Int) {c : Int} (hc : 0 < c) : (n + c - 1) / c = (n - 1) / c + 1 := by
  have := Int.add_mul_ediv_right (n - 1) 1 (show c ≠ 0 by omega)
  rw [Int.one_mul, show n - 1 + c = n + c - 1 by omega] at this
  exact this
/-- How many chunks there are. -/
def cntE (n c : Int) : Int × Int := if n < 0 ∨ c < 64 ∨ c > 1024 then (0, 1) else if n > 131072 then (0, 2) else ((n - 1) / c + 1, 0)
theorem count_eq (k : Nat) (n c : Int) : merkle_Count.f (k + 1) n c = some (cntE n c) := by
  unfold merkle_Count.f cntE
  by_cases h1 : n < 0
  · rw [if_pos h1, if_pos (.inl h1), merkle_Count.j0, if_pos rfl]
  by_cases h2 : c < 64
  · rw [if_neg h1, if_pos h2, if_pos (.inr (.inl h2)), merkle_Count.j0, if_pos rfl]
  by_cases h3 : c > 1024
  · rw [if_neg h1, if_neg h2, if_pos (.inr (.inr h3)), merkle_Count.j0, if_pos (decide_eq_true h3)]
  rw [if_neg h1, if_neg h2, if_neg (show ¬ (n < 0 ∨ c < 64 ∨ c > 1024) by omega), merkle_Count.j0, if_neg (by simpa using h3)]
  by_cases h4 : n > 131072
  · rw [if_pos h4, if_pos h4]
  rw [if_neg h4, if_neg h4, if_neg (by omega), w64 (x := n + c) (by omega) (by omega), w64 (x := n + c - 1) (by omega) (by omega), Int.tdiv_eq_ediv_of_nonneg (by omega), div_up n (by omega)]
  have h5 : 0 ≤ (n - 1) / c + 1 := by have := Int.ediv_nonneg (a := n + c - 1) (b := c) (by omega) (by omega); rwa [div_up n (by omega)] at this
  have h6 : (n - 1) / c + 1 ≤ 131073 := by have h7 : (n - 1) / c ≤ 131072 := Int.le_of_lt_add_one (Int.ediv_lt_of_lt_mul (by omega) (by rw [show (131072 + 1 : Int) * c = c * 131073 by rw [Int.mul_comm]; rfl]; omega)); omega
  rw [w64 (by omega) (by omega)]
/-- A text's pieces. -/
def pcs (c : Nat) : Nat → List Int → List (List Int)
  | 0, _ => []
  | m + 1, b => b.take c :: pcs c m (b.drop c)
/-- How many pieces there are. -/
theorem cnt_nat (L c : Nat) (hc : 0 < c) : ((L : Int) - 1) / (c : Int) + 1 = (((L + c - 1) / c : Nat) : Int) := by
  rw [← div_up (L : Int) (by omega)]
  rw [show (L : Int) + c - 1 = ((L + c - 1 : Nat) : Int) by omega]
  rfl
theorem cut_l (b : List Int) (c : Nat) (hc : 64 ≤ c) (hc' : c ≤ 1024) (hb : b.length ≤ 5000) (N : Nat) (hN : N = (b.length + c - 1) / c) : ∀ (d k i : Nat) (acc : List (List Int)), i + d = N → acc.length = i →
    merkle_Cut.l0 (k + d + 1) b c acc N i = some (acc ++ pcs c d (b.drop (i * c)), 0) := by
  have hNb : N * c ≤ b.length + c - 1 := by rw [hN]; exact Nat.div_mul_le_self _ _
  intro d
  induction d with
  | zero =>
    intro k i acc hi ha
    rw [merkle_Cut.l0, if_neg (by omega)]
    simp [pcs]
  | succ d ih =>
    intro k i acc hi ha
    have h1 : (i + 1) * c ≤ N * c := Nat.mul_le_mul_right _ (by omega)
    rw [Nat.add_mul, Nat.one_mul] at h1
    obtain ⟨j, hj⟩ : ∃ j, j = i * c := ⟨_, rfl⟩
    rw [← hj] at h1
    have hij : i ≤ j := by rw [hj]; exact Nat.le_mul_of_pos_right _ (by omega)
    have hji : (i : Int) * (c : Int) = (j : Int) := by rw [hj]; simp
    rw [show k + (d + 1) + 1 = (k + d + 1) + 1 by omega, merkle_Cut.l0, hji]
    rw [w64 (x := (j : Int)) (by omega) (by omega), w64 (x := (j : Int) + c) (by omega) (by omega), w64 (x := (i : Int) + 1) (by omega) (by omega)]
    obtain ⟨e, he, he1, he2⟩ : ∃ e : Nat, mn (b.length : Int) ((j : Int) + c) = e ∧ e = min b.length (j + c) ∧ j ≤ e := ⟨min b.length (j + c), by unfold mn; split <;> omega, rfl, by omega⟩
    have hd : ((b.take e).drop j).length ≤ 5000 := by simp; omega
    have hx : (b.take e).drop j = (b.drop j).take c := by
      rw [List.drop_take, he1]
      by_cases h : b.length ≤ j + c
      · rw [Nat.min_eq_left h, List.take_of_length_le (by simp), List.take_of_length_le (by simp; omega)]
      · rw [Nat.min_eq_right (by omega), Nat.add_sub_cancel_left]
    rw [he, if_pos (by omega), if_pos (by omega), if_pos (by omega), if_pos (by omega)]
    simp only [Int.toNat_natCast]
    rw [if_pos (by rw [List.length_nil]; omega), if_pos (by omega), List.nil_append, hx, show ((i : Int) + 1) = ((i + 1 : Nat) : Int) by omega, ih k (i + 1) _ (by omega) (by simp [ha])]
    rw [pcs, hj, List.append_assoc, List.singleton_append, List.drop_drop, Nat.add_mul, Nat.one_mul]
theorem cut_eq (k : Nat) (hk : 200 ≤ k) (b : List Int) (c : Int) (hb : b.length ≤ 5000) : merkle_Cut.f k b c = some (if (cntE b.length c).2 = 0 then (pcs c.toNat ((b.length + c.toNat - 1) / c.toNat) b, 0) else ([], (cntE b.length c).2)) := by
  obtain ⟨k, rfl⟩ : ∃ j, k = j + 1 := ⟨k - 1, by omega⟩
  unfold merkle_Cut.f
  rw [count_eq]
  simp only [Option.bind_some]
  by_cases h : (cntE b.length c).2 = 0
  · rw [if_pos h, if_pos h]
    have hr : 64 ≤ c ∧ c ≤ 1024 := by
      unfold cntE at h
      split at h
      · cases h
      · omega
    obtain ⟨c, rfl⟩ := Int.eq_ofNat_of_zero_le (show 0 ≤ c by omega)
    have e1 : (cntE b.length c).1 = (((b.length + c - 1) / c : Nat) : Int) := by
      unfold cntE
      rw [if_neg (by omega), if_neg (by omega)]
      exact cnt_nat _ _ (by omega)
    rw [e1, Int.toNat_natCast]
    have hN : (b.length + c - 1) / c ≤ 100 := Nat.le_of_lt_succ (Nat.div_lt_of_lt_mul (by omega))
    have := cut_l b c (by omega) (by omega) hb _ rfl ((b.length + c - 1) / c) (k - (b.length + c - 1) / c) 0 [] (by omega) rfl
    rw [show k - (b.length + c - 1) / c + (b.length + c - 1) / c + 1 = k + 1 by omega] at this
    rw [show (0 : Int) = ((0 : Nat) : Int) from rfl, this]
    simp
  · rw [if_neg h, if_neg h]
theorem pcs_length (c : Nat) : ∀ (m : Nat) (b : List Int), (pcs c m b).length = m
  | 0, _ => rfl
  | m + 1, b => by rw [pcs, List.length_cons, pcs_length c m]
theorem pcs_get (c : Nat) : ∀ (m i : Nat) (b : List Int), i < m → (pcs c m b).getD i [] = (b.drop (i * c)).take c := by
  intro m
  induction m with
  | zero => intro i b h; omega
  | succ m ih =>
    intro i b h
    cases i with
    | zero => simp [pcs]
    | succ i =>
      rw [pcs, List.getD_cons_succ, ih i _ (by omega), List.drop_drop, Nat.add_mul, Nat.one_mul, Nat.add_comm]
theorem same_bytes (x : List Int) : imprimaturref01_SameBytes.f x x = some true := by unfold imprimaturref01_SameBytes.f; simp
end Go.Proofs.YtdpdmmbdoeefbaaDoor.PCut
namespace Go.Proofs.YtdpdmmbdoeefbaaDoor.PWh
open Go.RowKit Go.Proofs.YtdpdmmbdoeefbaaDoorW.PrintWords Go.Proofs.YtdpdmmbdoeefbaaDoorW.PrintLast Go.Proofs.YtdpdmmbdoeefbaaDoorW.PrintMore Go.Proofs.YtdpdmmbdoeefbaaDoor.X Go.Proofs.YtdpdmmbdoeefbaaDoor.PCut
theorem whole_l (hkn : imprimaturlaw06_known.f = some true) (b : List Int) (c : Nat) (hc : 64 ≤ c) (hc' : c ≤ 1024) (hb : b.length ≤ 5000) (N : Nat) (hN : N = (b.length + c - 1) / c) (l : List (List Int)) (hl : l.length = N) (hg : ∀ i, i < N → l.getD i [] = (b.drop (i * c)).take c) : ∀ (d k i : Nat), i + d = N →
    imprimaturlaw06_MerkleWhole.l0 (k + d + 2) b c l (b.take (i * c)) i = some true := by
  have hNb : N * c ≤ b.length + c - 1 := by rw [hN]; exact Nat.div_mul_le_self _ _
  have hNt : b.length ≤ N * c := by
    have h1 := Nat.lt_div_mul_add (a := b.length + c - 1) (b := c) (by omega)
    rw [← hN] at h1
    omega
  have hN100 : N ≤ 100 := by rw [hN]; exact Nat.le_of_lt_succ (Nat.div_lt_of_lt_mul (by omega))
  intro d
  induction d with
  | zero =>
    intro k i hi
    obtain rfl : i = N := by omega
    rw [imprimaturlaw06_MerkleWhole.l0, if_neg (by omega), Nat.add_zero, count_eq]
    simp only [Option.bind_some]
    rw [List.take_of_length_le hNt, same_bytes]
    simp only [Option.bind_some]
    have e1 : (cntE b.length c).1 = (((b.length + c - 1) / c : Nat) : Int) := by
      unfold cntE
      rw [if_neg (by omega), if_neg (by omega)]
      exact cnt_nat _ _ (by omega)
    rw [if_pos trivial, e1, if_pos (by omega), hkn]
    simp
  | succ d ih =>
    intro k i hi
    have h1 : (i + 1) * c ≤ N * c := Nat.mul_le_mul_right _ (by omega)
    rw [Nat.add_mul, Nat.one_mul] at h1
    have hget : rd_L1 l (i : Int) = (b.drop (i * c)).take c := by unfold rd_L1; rw [Int.toNat_natCast]; exact hg i (by omega)
    have ihn := ih k (i + 1) (by omega)
    rw [Nat.add_mul, Nat.one_mul] at ihn
    have hmore : i + 1 < N → i * c + c + c ≤ N * c := fun h => by
      have h2 : (i + 2) * c ≤ N * c := Nat.mul_le_mul_right _ (by omega)
      rw [Nat.add_mul] at h2
      omega
    generalize i * c = j at *
    have hlen : ((b.drop j).take c).length = min c (b.length - j) := by simp
    have hnext : b.take j ++ (b.drop j).take c = b.take (j + c) := by
      rw [List.take_add]
    rw [show k + (d + 1) + 2 = (k + d + 2) + 1 by omega, imprimaturlaw06_MerkleWhole.l0, hget, if_pos (by omega), if_pos (by omega), if_neg (by rw [hlen]; omega), w64 (x := (l.length : Int) - 1) (by omega) (by omega), w64 (x := (i : Int) + 1) (by omega) (by omega), hnext, show (i : Int) + 1 = ((i + 1 : Nat) : Int) by omega, ihn]
    have hcond : (b.take j).length + ((b.drop j).take c).length < 140737488355328 := by simp; omega
    by_cases h : i + 1 < N
    · have := hmore h
      rw [if_pos (by omega), if_pos (by rw [hlen]; omega), if_neg (by rw [hlen]; omega), if_pos hcond]
    · rw [if_neg (by omega), if_neg (by rw [hlen]; omega), if_pos hcond]
theorem whole_law (hkn : imprimaturlaw06_known.f = some true) (b : List Int) (c : Int) : ∃ k, imprimaturlaw06_MerkleWhole.f k b c = some true := by
  refine ⟨5000, ?_⟩
  unfold imprimaturlaw06_MerkleWhole.f
  rw [hkn]
  simp only [Option.bind_some]
  by_cases hb : (b.length : Int) > 5000
  · rw [if_pos hb]
  have hb' : b.length ≤ 5000 := by omega
  rw [if_neg hb, cut_eq _ (by omega) b c hb']
  simp only [Option.bind_some]
  by_cases h : (cntE b.length c).2 = 0
  · rw [if_pos h]
    have hr : 64 ≤ c ∧ c ≤ 1024 := by
      unfold cntE at h
      split at h
      · cases h
      · omega
    obtain ⟨c, rfl⟩ := Int.eq_ofNat_of_zero_le (show 0 ≤ c by omega)
    rw [if_pos rfl, Int.toNat_natCast]
    have hN : (b.length + c - 1) / c ≤ 100 := Nat.le_of_lt_succ (Nat.div_lt_of_lt_mul (by omega))
    have := whole_l hkn b c (by omega) (by omega) hb' _ rfl _ (pcs_length c _ b) (fun i hi => pcs_get c _ i b hi) ((b.length + c - 1) / c) (5000 - 2 - (b.length + c - 1) / c) 0 (by omega)
    rw [show 5000 - 2 - (b.length + c - 1) / c + (b.length + c - 1) / c + 2 = 5000 by omega, Nat.zero_mul, List.take_zero] at this
    exact this
  · rw [if_neg h]
    simp only
    rw [if_neg h, if_pos (by simp)]
theorem MerkleWhole_walk (a0 : Option Addr) (len0 cap0 : Nat) (z0 : List Int) (a1 : Int) (w : World) (HG : Glb w) (w0 : (a0 = none ∧ len0 = 0 ∧ cap0 = 0 ∧ z0 = []) ∨ ∃ x, a0 = some x ∧ len0 ≤ cap0 ∧ cap0 ≤ maxLen ∧ z0.length = cap0 ∧ (∀ i, i < z0.length → w.cell? (x.add i) = some (.int .u8 (z0.getD i 0))) ∧ ∀ n ∈ z0, (Lit.int .u8 n).wf = true) (y0 : len0 * 1 ≤ 140737488351232) (w1 : (Lit.int .i64 a1).wf = true) :
    Calls Tryd.prog 8 #[.slice a0 len0 cap0, .int .i64 a1] w fun e w' => e = .returned (.bool true) ∧ Below w.heap.size w w' :=
  imprimaturlaw06_MerkleWhole.walk (fun l0 a1 _ _ _ _ => whole_law rfl l0 a1) a0 len0 cap0 z0 a1 w HG w0 y0 w1
end Go.Proofs.YtdpdmmbdoeefbaaDoor.PWh
