/- Paddings: the program's and the document's; what fills a block. -/
import Derived.Test.YtckjgipkdknmgaaDoorPAllx1
import Derived.Test.YtckjgipkdknmgaaDoorPAllx2
import Derived.Test.YtckjgipkdknmgaaDoorLk
namespace Go.Proofs.YtckjgipkdknmgaaDoor.PAll
open Go.RowKit Go.Proofs.YtckjgipkdknmgaaDoorW.PrintWords Go.Proofs.YtckjgipkdknmgaaDoorW.PrintMore Go.Proofs.YtckjgipkdknmgaaDoor.X Go.Proofs.YtckjgipkdknmgaaDoor.H
theorem w64 (n : Int) : IntKind.u64.wrap n = n % 18446744073709551616 := by simp [IntKind.wrap, IntKind.bits, IntKind.signed]
/-- The last d bytes of x, the first the greatest. -/
def tailB (x : Int) : Nat → List Int
  | 0 => []
  | d + 1 => tailB (x / 256) d ++ [x % 256]
theorem tailB_length (d : Nat) : ∀ x, (tailB x d).length = d := by
  induction d with
  | zero => intro x; rfl
  | succ d ih => intro x; simp [tailB, ih]
theorem ref_l1 (x8 : List Int) (h8 : x8.length < 1000) : ∀ (d : Nat) (k : Nat) (i : Int) (x9 : List Int) (x10 : Int), d < k → 0 ≤ i → i + d < 100 → x9.length < 1000 - d → 0 ≤ x10 → x10 < 18446744073709551616 →
    imprimaturref02_Pad.l1 k (i + d) x8 x9 x10 i = some (x8 ++ (tailB x10 d ++ x9), 0) := by
  intro d
  induction d with
  | zero =>
    intro k i x9 x10 hk hi hs h9 h0 h1
    obtain ⟨k, rfl⟩ : ∃ m, k = m + 1 := ⟨k - 1, by omega⟩
    simp only [imprimaturref02_Pad.l1]
    rw [if_neg (by simp), if_pos (by omega)]
    simp [tailB]
  | succ d ih =>
    intro k i x9 x10 hk hi hs h9 h0 h1
    obtain ⟨k, rfl⟩ : ∃ m, k = m + 1 := ⟨k - 1, by omega⟩
    simp only [imprimaturref02_Pad.l1]
    rw [if_pos (by push_cast; omega)]
    simp only [Option.bind_some]
    rw [if_pos (by simp; omega)]
    have e1 : Int.tmod x10 256 % 256 = x10 % 256 := by rw [Int.tmod_eq_emod_of_nonneg h0]; omega
    have e2 : IntKind.u64.wrap (Int.tdiv x10 256) = x10 / 256 := by rw [Int.tdiv_eq_ediv_of_nonneg h0, w64]; omega
    have e3 : wrap64 (i + 1) = i + 1 := by unfold wrap64; push_cast at hs; omega
    rw [e1, e2, e3, show (i + ((d + 1 : Nat) : Int)) = (i + 1) + (d : Int) by push_cast; omega]
    rw [ih k (i + 1) _ (x10 / 256) (by omega) (by omega) (by push_cast at hs; omega) (by simp; omega) (by omega) (by omega)]
    simp [tailB]
/-- m zeros more until the block is full. -/
theorem ref_l0 (n size : Int) (hn : 0 ≤ n) (hn2 : n ≤ 1048576) (hs0 : 0 ≤ size) (hs1 : size ≤ 16) (block : Int) (hb0 : 0 < block) (hb1 : block ≤ 128) : ∀ (m k : Nat) (x8 : List Int), x8.length + m < 1000 → (∀ j : Nat, j < m → (n + x8.length + j + size) % block ≠ 0) → (n + x8.length + m + size) % block = 0 →
    imprimaturref02_Pad.l0 (k + m + 1) n block size x8 = imprimaturref02_Pad.l1 k size (x8 ++ List.replicate m 0) [] (8 * n) 0 := by
  have e0 : IntKind.u64.wrap ((IntKind.u64.wrap (n)) * 8) = 8 * n := by rw [w64, w64]; omega
  intro m
  induction m with
  | zero =>
    intro k x8 hl _ h1
    simp only [imprimaturref02_Pad.l0]
    have e1 : wrap64 (wrap64 (n + (x8.length : Int)) + size) = n + x8.length + size := by unfold wrap64; omega
    rw [if_neg (by omega), e1, Int.tmod_eq_emod_of_nonneg (by omega), if_pos (by simpa using h1), e0]
    simp
  | succ m ih =>
    intro k x8 hl h0 h1
    have e1 : wrap64 (wrap64 (n + (x8.length : Int)) + size) = n + x8.length + size := by unfold wrap64; omega
    have h2 := h0 0 (by omega)
    obtain ⟨K, hK⟩ : ∃ K, K = k + m + 1 := ⟨_, rfl⟩
    rw [show k + (m + 1) + 1 = K + 1 by omega]
    simp only [imprimaturref02_Pad.l0]
    rw [if_neg (by omega), e1, Int.tmod_eq_emod_of_nonneg (by omega), if_neg (by simpa using h2), if_pos (by omega), hK, ih k (x8 ++ [0]) (by simp; omega)]
    · rw [List.replicate_succ]; simp
    · intro j hj
      have := h0 (j + 1) (by omega)
      simp only [List.length_append, List.length_singleton] at *
      push_cast at *
      rwa [show n + (↑x8.length + 1) + ↑j + size = n + ↑x8.length + (↑j + 1) + size by omega]
    · simp only [List.length_append, List.length_singleton]
      push_cast at *
      rwa [show n + (↑x8.length + 1) + ↑m + size = n + ↑x8.length + (↑m + 1) + size by omega]
/-- A padding: 128, m zeros, the length in s bytes. -/
def padB (n : Int) (m s : Nat) : List Int := 128 :: (List.replicate m 0 ++ tailB (8 * n) s)
def zeros (wide : Bool) (n : Int) : Nat := if wide then ((128 - (n + 17) % 128) % 128).toNat else ((64 - (n + 9) % 64) % 64).toNat
theorem ref_pad (wide : Bool) (n : Int) (hn : 0 ≤ n) (hn2 : n ≤ 1048576) (k : Nat) (hk : 400 ≤ k) : imprimaturref02_Pad.f k n (if wide then 512 else 256) = some (padB n (zeros wide n) (if wide then 16 else 8), 0) := by
  obtain ⟨k, rfl⟩ : ∃ m, k = m + 1 := ⟨k - 1, by omega⟩
  have hd : decide (n < 0) = false := decide_eq_false (by omega)
  cases wide
  · simp only [imprimaturref02_Pad.f, zeros, Bool.false_eq_true, if_false, if_true]
    simp only [imprimaturref02_Pad.j0, hd, Bool.false_eq_true, if_false]
    rw [if_neg (by omega)]
    have e1 : wrap64 (Int.tdiv 256 4) = 64 := by decide +kernel
    have e2 : wrap64 (Int.tdiv 256 32) = 8 := by decide +kernel
    rw [e1, e2]
    have hz : (((64 - (n + 9) % 64) % 64).toNat : Int) = (64 - (n + 9) % 64) % 64 := by omega
    obtain ⟨q, rfl⟩ : ∃ q, k = q + ((64 - (n + 9) % 64) % 64).toNat + 1 := ⟨k - ((64 - (n + 9) % 64) % 64).toNat - 1, by omega⟩
    rw [ref_l0 n 8 hn hn2 (by omega) (by omega) 64 (by omega) (by omega) _ q [128] (by simp; omega) (by intro j hj; simp; omega) (by simp only [List.length_singleton, hz]; omega)]
    have := ref_l1 ([128] ++ List.replicate ((64 - (n + 9) % 64) % 64).toNat 0) (by simp; omega) 8 q 0 [] (8 * n) (by omega) (by omega) (by omega) (by simp) (by omega) (by omega)
    simpa [padB] using this
  · simp only [imprimaturref02_Pad.f, zeros, if_true]
    rw [if_neg (by omega)]
    simp only [imprimaturref02_Pad.j0, hd, Bool.false_eq_true, if_false]
    rw [if_neg (by omega)]
    have e1 : wrap64 (Int.tdiv 512 4) = 128 := by decide +kernel
    have e2 : wrap64 (Int.tdiv 512 32) = 16 := by decide +kernel
    rw [e1, e2]
    have hz : (((128 - (n + 17) % 128) % 128).toNat : Int) = (128 - (n + 17) % 128) % 128 := by omega
    obtain ⟨q, rfl⟩ : ∃ q, k = q + ((128 - (n + 17) % 128) % 128).toNat + 1 := ⟨k - ((128 - (n + 17) % 128) % 128).toNat - 1, by omega⟩
    rw [ref_l0 n 16 hn hn2 (by omega) (by omega) 128 (by omega) (by omega) _ q [128] (by simp; omega) (by intro j hj; simp; omega) (by simp only [List.length_singleton, hz]; omega)]
    have := ref_l1 ([128] ++ List.replicate ((128 - (n + 17) % 128) % 128).toNat 0) (by simp; omega) 16 q 0 [] (8 * n) (by omega) (by omega) (by omega) (by simp) (by omega) (by omega)
    simpa [padB] using this
theorem tailB8 (x : Int) : tailB x 8 = [x / 72057594037927936 % 256, x / 281474976710656 % 256, x / 1099511627776 % 256, x / 4294967296 % 256, x / 16777216 % 256, x / 65536 % 256, x / 256 % 256, x % 256] := by
  simp [tailB, Int.ediv_ediv_of_nonneg]
theorem tailB16 (x : Int) (h0 : 0 ≤ x) (h1 : x < 18446744073709551616) : tailB x 16 = List.replicate 8 0 ++ tailB x 8 := by
  have : tailB x 16 = tailB (x / 18446744073709551616) 8 ++ tailB x 8 := by simp [tailB, Int.ediv_ediv_of_nonneg]
  rw [this, show x / 18446744073709551616 = 0 by omega]
  rfl
theorem padS_eq (n : Int) (len m : Nat) (h : len = m + 9) : padS n len 8 = padB n m 8 := by
  subst h
  have e : List.replicate (m + 9) (0 : Int) = 0 :: (List.replicate m 0 ++ List.replicate 8 0) := by
    rw [show m + 9 = (m + 8) + 1 by omega, List.replicate_succ, ← List.replicate_append_replicate]
  unfold padB
  rw [tailB8]
  simp only [padS, e]
  rw [List.set_cons_zero]
  simp only [show ∀ i, i < 8 → m + 9 - 1 - i = (m + (7 - i)) + 1 from fun i hi => by omega, Nat.reduceLT, List.set_cons_succ]
  simp only [List.set_append_right _ _ (show (List.replicate m (0 : Int)).length ≤ m + _ by simp), List.length_replicate, Nat.add_sub_cancel_left]
  rw [List.set_append_right _ _ (by simp), List.length_replicate, Nat.sub_self]
  simp [List.replicate]
theorem strOf_same (l : List Int) : ((strOfNums l).toList == (strOfNums l).toList) = true := beq_self_eq_true _
theorem padLen32_eq (n : Int) : padLen32 n = zeros false n + 9 := by simp only [padLen32, zeros, Bool.false_eq_true, if_false]; omega
theorem padLen64_eq (n : Int) : padLen64 n = (zeros true n + 8) + 9 := by simp only [padLen64, zeros, if_true]; omega
theorem padB16 (n : Int) (m : Nat) (h0 : 0 ≤ n) (h1 : n ≤ 1048576) : padB n m 16 = padB n (m + 8) 8 := by
  unfold padB
  rw [tailB16 _ (by omega) (by omega), ← List.append_assoc, List.replicate_append_replicate]
theorem rd_nat (l : List Int) (i : Nat) : rd l (i : Int) = l.getD i 0 := by simp [rd]
theorem pad_len (n : Int) (m s : Nat) : (padB n m s).length = m + s + 1 := by simp [padB, tailB_length]
theorem fills_l0 (n : Int) (x1 : Bool) (p : List Int) (hp : p.length < 1000) : ∀ (bs pre : List Int) (k : Nat) (told : Int), p = pre ++ bs → 0 ≤ told → told < 18446744073709551616 → (∀ b ∈ bs, 0 ≤ b ∧ b < 256) →
    imprimaturlaw02_Sha2Fills.l0 (k + bs.length + 1) n x1 p told pre.length = (if bs.foldl (fun t b => (t * 256 + b) % 18446744073709551616) told = (IntKind.u64.wrap ((IntKind.u64.wrap (n)) * 8)) then (imprimaturlaw02_Sha2Fills.l1 k x1 p 1) else (some false)) := by
  intro bs
  induction bs with
  | nil =>
    intro pre k told h _ _ _
    simp only [List.append_nil] at h
    subst h
    simp only [List.length_nil, Nat.add_zero, imprimaturlaw02_Sha2Fills.l0, List.foldl_nil]
    rw [if_neg (by omega)]
    rfl
  | cons b bs ih =>
    intro pre k told h h0 h1 hb
    obtain ⟨K, hK⟩ : ∃ K, K = k + bs.length + 1 := ⟨_, rfl⟩
    rw [List.length_cons, show k + (bs.length + 1) + 1 = K + 1 by omega]
    simp only [imprimaturlaw02_Sha2Fills.l0, List.foldl_cons]
    have hl : p.length = pre.length + (bs.length + 1) := by rw [h]; simp
    have hr : rd p (pre.length : Int) = b := by rw [rd_nat, h]; simp
    have hb0 := hb b (by simp)
    have e1 : IntKind.u64.wrap ((IntKind.u64.wrap (told * 256)) + (IntKind.u64.wrap b)) = (told * 256 + b) % 18446744073709551616 := by rw [w64, w64, w64]; omega
    have e2 : wrap64 ((pre.length : Int) + 1) = ((pre ++ [b]).length : Int) := by unfold wrap64; simp; omega
    rw [if_pos (by omega), if_pos (by omega), hr, e1, e2, hK]
    exact ih (pre ++ [b]) k _ (by rw [h]; simp) (by omega) (by omega) (fun c hc => hb c (by simp [hc]))
theorem fills_l1 (x1 : Bool) (p : List Int) (hp : p.length < 1000) (tl : List Int) (ht : tl.length = 8) : ∀ (m : Nat) (pre : List Int) (k : Nat), p = pre ++ (List.replicate m 0 ++ tl) →
    imprimaturlaw02_Sha2Fills.l1 (k + m + 1) x1 p pre.length = imprimaturlaw02_Sha2Fills.l1 (k + 1) x1 p (pre.length + m : Nat) := by
  intro m
  induction m with
  | zero => intro pre k h; simp
  | succ m ih =>
    intro pre k h
    obtain ⟨K, hK⟩ : ∃ K, K = k + m + 1 := ⟨_, rfl⟩
    rw [show k + (m + 1) + 1 = K + 1 by omega]
    rw [imprimaturlaw02_Sha2Fills.l1]
    have hl : p.length = pre.length + (m + 1 + 8) := by rw [h]; simp [ht]
    have hr : rd p (pre.length : Int) = 0 := by rw [rd_nat, h]; simp [List.replicate_succ]
    have e1 : wrap64 ((p.length : Int) - 8) = p.length - 8 := by unfold wrap64; omega
    have e2 : wrap64 ((pre.length : Int) + 1) = ((pre ++ [0]).length : Int) := by unfold wrap64; simp; omega
    rw [e1, if_pos (by omega), if_pos (by omega), if_pos (by omega), hr, if_pos rfl, e2, hK]
    rw [ih (pre ++ [0]) k (by rw [h]; simp [List.replicate_succ])]
    simp only [List.length_append, List.length_singleton, Nat.add_assoc, Nat.add_comm 1 m]
theorem fold8 (x : Int) (h0 : 0 ≤ x) (h1 : x ≤ 8388608) : (tailB x 8).foldl (fun t b => (t * 256 + b) % 18446744073709551616) 0 = x := by
  rw [tailB8]
  simp only [List.foldl_cons, List.foldl_nil]
  rw [show x / 72057594037927936 = 0 by omega, show x / 281474976710656 = 0 by omega, show x / 1099511627776 = 0 by omega, show x / 4294967296 = 0 by omega, show x / 16777216 = 0 by omega]
  omega
theorem fills_loops (n : Int) (hn : 0 ≤ n) (hn2 : n ≤ 1048576) (x1 : Bool) (m : Nat) (hm : m < 500) (k : Nat) :
    imprimaturlaw02_Sha2Fills.l0 (k + m + 1 + 8 + 1) n x1 (padB n m 8) 0 (wrap64 (((padB n m 8).length : Int) - 8)) = imprimaturlaw02_Sha2Fills.l1 (k + 1) x1 (padB n m 8) (1 + m : Nat) := by
  have hl := pad_len n m 8
  have e : wrap64 (((padB n m 8).length : Int) - 8) = ((128 :: List.replicate m (0 : Int)).length : Int) := by unfold wrap64; simp; omega
  have hb : ∀ b ∈ tailB (8 * n) 8, 0 ≤ b ∧ b < 256 := by
    intro b hb
    rw [tailB8] at hb
    simp only [List.mem_cons, List.not_mem_nil, or_false] at hb
    omega
  have h := fills_l0 n x1 (padB n m 8) (by omega) (tailB (8 * n) 8) (128 :: List.replicate m 0) (k + m + 1) 0 (by simp [padB]) (by omega) (by omega) hb
  rw [tailB_length] at h
  rw [e, h, fold8 _ (by omega) (by omega), if_pos (by rw [w64, w64]; omega)]
  exact fills_l1 x1 (padB n m 8) (by omega) (tailB (8 * n) 8) (tailB_length _ _) m [128] k (by simp [padB])
theorem fills_end (x1 : Bool) (n : Int) (m : Nat) (hm : m + 9 ≤ (if x1 then 144 else 72)) (k : Nat) (hkn : imprimaturlaw02_known.f = some true) : imprimaturlaw02_Sha2Fills.l1 (k + 1) x1 (padB n m 8) (1 + m : Nat) = some true := by
  have hl := pad_len n m 8
  have e1 : wrap64 (((padB n m 8).length : Int) - 8) = (padB n m 8).length - 8 := by unfold wrap64; cases x1 <;> simp at hm <;> omega
  rw [imprimaturlaw02_Sha2Fills.l1, e1, if_neg (by push_cast; omega)]
  cases x1
  · simp only [imprimaturlaw02_which.f, Option.bind_some, hkn, Bool.false_eq_true, if_false]
    rw [if_pos]
    rw [show wrap64 (wrap64 (Int.tdiv 256 4) + wrap64 (Int.tdiv 256 32)) = 72 by decide +kernel, hl]
    simp at hm; omega
  · simp only [imprimaturlaw02_which.f, Option.bind_some, hkn, if_true]
    rw [if_pos]
    rw [show wrap64 (wrap64 (Int.tdiv 512 4) + wrap64 (Int.tdiv 512 32)) = 144 by decide +kernel, hl]
    simp at hm; omega
/-- The padding of the program: of either width. -/
theorem pad_wide (wide : Bool) (n : Int) (h0 : 0 ≤ n) (h1 : n ≤ 1048576) : sha2_Pad.f n (if wide then 512 else 256) = some (padB n (zeros wide n + (if wide then 8 else 0)) 8, 0) := by
  cases wide
  · simp only [sha2_Pad.f, Bool.false_eq_true, if_false, if_true]
    rw [if_neg (by omega), if_neg (by omega), padS_eq n _ (zeros false n) (padLen32_eq n)]
    rfl
  · simp only [sha2_Pad.f, if_true]
    rw [if_neg (by omega), if_neg (by omega), if_neg (by omega), padS_eq n _ (zeros true n + 8) (padLen64_eq n)]
theorem fills_law (hkn : imprimaturlaw02_known.f = some true) (n : Int) (x1 : Bool) : ∃ k, imprimaturlaw02_Sha2Fills.f k n x1 = some true := by
  refine ⟨2000 + 1, ?_⟩
  by_cases hn : n < 0
  · simp only [imprimaturlaw02_Sha2Fills.f, if_pos hn, imprimaturlaw02_Sha2Fills.j0, if_true, hkn, Option.bind_some]
  by_cases hn2 : n > 1048576
  · simp only [imprimaturlaw02_Sha2Fills.f, if_neg hn, imprimaturlaw02_Sha2Fills.j0, hn2, decide_true, if_true, hkn, Option.bind_some]
  have hz : zeros x1 n + (if x1 then 8 else 0) + 9 ≤ (if x1 then 144 else 72) := by cases x1 <;> simp [zeros] <;> omega
  have hz2 : zeros x1 n + (if x1 then 8 else 0) + 9 ≤ 144 := by revert hz; cases x1 <;> simp <;> omega
  have hzz : zeros x1 n ≤ 127 := by cases x1 <;> simp [zeros] <;> omega
  have hmod : (n + (zeros x1 n : Int) + (if x1 then 8 else 0) + 9) % (if x1 then 128 else 64) = 0 := by cases x1 <;> simp [zeros] <;> omega
  have hm8 : (if x1 then 8 else 0 : Nat) ≤ 8 := by cases x1 <;> simp
  have hm8' : ((if x1 then 8 else 0 : Nat) : Int) = (if x1 then 8 else 0 : Int) := by cases x1 <;> simp
  have hW : imprimaturlaw02_which.f x1 = some (if x1 then 512 else 256) := by cases x1 <;> rfl
  have hW4 : wrap64 (Int.tdiv (if x1 then 512 else 256) 4) = (if x1 then 128 else 64) := by cases x1 <;> decide +kernel
  have hlen := pad_len n (zeros x1 n + (if x1 then 8 else 0)) 8
  have hr0 : rd (padB n (zeros x1 n + (if x1 then 8 else 0)) 8) 0 = 128 := rfl
  have hP := pad_wide x1 n (by omega) (by omega)
  generalize hM : zeros x1 n + (if x1 then 8 else 0) = M at *
  have hMl : M < 500 := by omega
  have hMi : (M : Int) = zeros x1 n + (if x1 then 8 else 0 : Int) := by rw [← hm8']; omega
  simp only [imprimaturlaw02_Sha2Fills.f, if_neg hn, imprimaturlaw02_Sha2Fills.j0, hn2, decide_false, Bool.false_eq_true, if_false, hW, Option.bind_some, hP, if_true, hW4, hr0]
  rw [if_neg (by omega)]
  have hb0 : ¬ ((if x1 then 128 else 64 : Int) = 0) := by cases x1 <;> simp
  have e1 : wrap64 (n + ((padB n M 8).length : Int)) = n + M + 9 := by unfold wrap64; omega
  have e2 : Int.tmod (n + M + 9) (if x1 then 128 else 64) = 0 := by rw [Int.tmod_eq_emod_of_nonneg (by omega), hMi, ← Int.add_assoc]; exact hmod
  rw [if_neg hb0, e1, e2, if_pos rfl, if_pos (by omega), show ((128 : Int) != 128) = false from rfl]
  obtain ⟨k, hk⟩ : ∃ k, 2000 = k + M + 1 + 8 + 1 + 1 := ⟨2000 - M - 11, by omega⟩
  rw [hk]
  simp only [imprimaturlaw02_Sha2Fills.j1, Bool.false_eq_true, if_false]
  rw [fills_loops n (by omega) (by omega) x1 M hMl k]
  exact fills_end x1 n M hz k hkn
theorem pads_same (wide : Bool) (n : Int) (h0 : 0 ≤ n) (h1 : n ≤ 1048576) : padB n (zeros wide n + (if wide then 8 else 0)) 8 = padB n (zeros wide n) (if wide then 16 else 8) := by
  cases wide
  · rfl
  · exact (padB16 n _ h0 h1).symm
theorem pads_both (n bits : Int) (k : Nat) : ∃ r, sha2_Pad.f n bits = some r ∧ imprimaturref02_Pad.f (k + 401) n bits = some r := by
  by_cases hb : bits = 256 ∨ bits = 512
  · by_cases h0 : n < 0
    · refine ⟨([], 1), ?_, ?_⟩
      · unfold sha2_Pad.f; rw [if_pos (.inr h0)]
      · rcases hb with rfl | rfl <;> simp [imprimaturref02_Pad.f, imprimaturref02_Pad.j0, h0]
    by_cases h1 : n > 1048576
    · refine ⟨([], 2), ?_, ?_⟩
      · unfold sha2_Pad.f; rw [if_neg (by omega), if_pos h1]
      · rcases hb with rfl | rfl <;> simp [imprimaturref02_Pad.f, imprimaturref02_Pad.j0, h0, h1]
    rcases hb with rfl | rfl
    · exact ⟨_, pad_wide false n (by omega) (by omega), by rw [pads_same false n (by omega) (by omega)]; exact ref_pad false n (by omega) (by omega) (k + 401) (by omega)⟩
    · exact ⟨_, pad_wide true n (by omega) (by omega), by rw [pads_same true n (by omega) (by omega)]; exact ref_pad true n (by omega) (by omega) (k + 401) (by omega)⟩
  · refine ⟨([], 1), ?_, ?_⟩
    · unfold sha2_Pad.f; rw [if_pos (by omega)]
    · simp only [imprimaturref02_Pad.f]
      rw [if_neg (by omega), if_neg (by omega)]
      simp [imprimaturref02_Pad.j0]
theorem pads_law (hkn : imprimaturlaw02_known.f = some true) (n bits : Int) : ∃ k, imprimaturlaw02_Sha2Pads.f k n bits = some true := by
  refine ⟨0 + 401 + 1, ?_⟩
  obtain ⟨r, h1, h2⟩ := pads_both n bits 0
  have hj : ∀ x, imprimaturlaw02_Sha2Pads.j0 (0 + 401 + 1) n bits x = some true := by
    intro x
    cases x
    · simp only [imprimaturlaw02_Sha2Pads.j0, Bool.false_eq_true, if_false, h1, h2, Option.bind_some, imprimaturref01_SameBytes.f, strOf_same, if_true, hkn]
    · simp only [imprimaturlaw02_Sha2Pads.j0, if_true, hkn, Option.bind_some]
  unfold imprimaturlaw02_Sha2Pads.f
  split <;> exact hj _
theorem Sha2Pads_walk (a0 a1 : Int) (W : World) (HG : Glb W) (_w0 : (Lit.int .i64 a0).wf = true) (_w1 : (Lit.int .i64 a1).wf = true) :
    Calls Tryd.prog 3 #[.int .i64 a0, .int .i64 a1] W fun e w' => e = .returned (.bool true) ∧ Below W.heap.size W w' := by
  obtain ⟨k, h⟩ := pads_law known_true a0 a1
  exact imprimaturlaw02_Sha2Pads.calls k a0 a1 true W HG h
theorem Sha2Fills_walk (a0 : Int) (a1 : Bool) (W : World) (HG : Glb W) (_w0 : (Lit.int .i64 a0).wf = true) :
    Calls Tryd.prog 5 #[.int .i64 a0, .bool a1] W fun e w' => e = .returned (.bool true) ∧ Below W.heap.size W w' := by
  obtain ⟨k, h⟩ := fills_law known_true a0 a1
  exact imprimaturlaw02_Sha2Fills.calls k a0 a1 true W HG h
end Go.Proofs.YtckjgipkdknmgaaDoor.PAll
