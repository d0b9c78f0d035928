/- Paddings as the document has them; the known answers. -/
import Derived.Test.YtckjgipkdknmgaaDoorPSumx1
import Derived.Test.YtckjgipkdknmgaaDoorPSumx2
namespace Go.Proofs.YtckjgipkdknmgaaDoor.PSum
open Go.RowKit Go.Proofs.YtckjgipkdknmgaaDoorW.PrintWords Go.Proofs.YtckjgipkdknmgaaDoorW.PrintMore Go.Proofs.YtckjgipkdknmgaaDoor.X Go.Proofs.YtckjgipkdknmgaaDoor.H
theorem known_true : imprimaturlaw02_known.f = some true := by decide +kernel
theorem w64 (n : Int) : IntKind.u64.wrap n = n % 18446744073709551616 := by simp [IntKind.wrap, IntKind.bits, IntKind.signed]
/-- The last d bytes of x, the first the greatest. -/
def tailB (x : Int) : Nat → List Int
  | 0 => []
  | d + 1 => tailB (x / 256) d ++ [x % 256]
theorem tailB_length (d : Nat) : ∀ x, (tailB x d).length = d := by
  induction d with
  | zero => intro x; rfl
  | succ d ih => intro x; simp [tailB, ih]
theorem ref_l1 (x8 : List Int) (h8 : x8.length < 1000) : ∀ (d : Nat) (k : Nat) (i : Int) (x9 : List Int) (x10 : Int), d < k → 0 ≤ i → i + d < 100 → x9.length < 1000 - d → 0 ≤ x10 → x10 < 18446744073709551616 →
    imprimaturref02_Pad.l1 k (i + d) x8 x9 x10 i = some (x8 ++ (tailB x10 d ++ x9), 0) := by
  intro d
  induction d with
  | zero =>
    intro k i x9 x10 hk hi hs h9 h0 h1
    obtain ⟨k, rfl⟩ : ∃ m, k = m + 1 := ⟨k - 1, by omega⟩
    simp only [imprimaturref02_Pad.l1]
    rw [if_neg (by simp), if_pos (by omega)]
    simp [tailB]
  | succ d ih =>
    intro k i x9 x10 hk hi hs h9 h0 h1
    obtain ⟨k, rfl⟩ : ∃ m, k = m + 1 := ⟨k - 1, by omega⟩
    simp only [imprimaturref02_Pad.l1]
    rw [if_pos (by push_cast; omega)]
    simp only [Option.bind_some]
    rw [if_pos (by simp; omega)]
    have e1 : Int.tmod x10 256 % 256 = x10 % 256 := by rw [Int.tmod_eq_emod_of_nonneg h0]; omega
    have e2 : IntKind.u64.wrap (Int.tdiv x10 256) = x10 / 256 := by rw [Int.tdiv_eq_ediv_of_nonneg h0, w64]; omega
    have e3 : wrap64 (i + 1) = i + 1 := by unfold wrap64; push_cast at hs; omega
    rw [e1, e2, e3, show (i + ((d + 1 : Nat) : Int)) = (i + 1) + (d : Int) by push_cast; omega]
    rw [ih k (i + 1) _ (x10 / 256) (by omega) (by omega) (by push_cast at hs; omega) (by simp; omega) (by omega) (by omega)]
    simp [tailB]
/-- m zeros more until the block is full. -/
theorem ref_l0 (n size : Int) (hn : 0 ≤ n) (hn2 : n ≤ 1048576) (hs0 : 0 ≤ size) (hs1 : size ≤ 16) (block : Int) (hb0 : 0 < block) (hb1 : block ≤ 128) : ∀ (m k : Nat) (x8 : List Int), x8.length + m < 1000 → (∀ j : Nat, j < m → (n + x8.length + j + size) % block ≠ 0) → (n + x8.length + m + size) % block = 0 →
    imprimaturref02_Pad.l0 (k + m + 1) n block size x8 = imprimaturref02_Pad.l1 k size (x8 ++ List.replicate m 0) [] (8 * n) 0 := by
  have e0 : IntKind.u64.wrap ((IntKind.u64.wrap (n)) * 8) = 8 * n := by rw [w64, w64]; omega
  intro m
  induction m with
  | zero =>
    intro k x8 hl _ h1
    simp only [imprimaturref02_Pad.l0]
    have e1 : wrap64 (wrap64 (n + (x8.length : Int)) + size) = n + x8.length + size := by unfold wrap64; omega
    rw [if_neg (by omega), e1, Int.tmod_eq_emod_of_nonneg (by omega), if_pos (by simpa using h1), e0]
    simp
  | succ m ih =>
    intro k x8 hl h0 h1
    have e1 : wrap64 (wrap64 (n + (x8.length : Int)) + size) = n + x8.length + size := by unfold wrap64; omega
    have h2 := h0 0 (by omega)
    obtain ⟨K, hK⟩ : ∃ K, K = k + m + 1 := ⟨_, rfl⟩
    rw [show k + (m + 1) + 1 = K + 1 by omega]
    simp only [imprimaturref02_Pad.l0]
    rw [if_neg (by omega), e1, Int.tmod_eq_emod_of_nonneg (by omega), if_neg (by simpa using h2), if_pos (by omega), hK, ih k (x8 ++ [0]) (by simp; omega)]
    · rw [List.replicate_succ]; simp
    · intro j hj
      have := h0 (j + 1) (by omega)
      simp only [List.length_append, List.length_singleton] at *
      push_cast at *
      rwa [show n + (↑x8.length + 1) + ↑j + size = n + ↑x8.length + (↑j + 1) + size by omega]
    · simp only [List.length_append, List.length_singleton]
      push_cast at *
      rwa [show n + (↑x8.length + 1) + ↑m + size = n + ↑x8.length + (↑m + 1) + size by omega]
/-- A padding: 128, m zeros, the length in s bytes. -/
def padB (n : Int) (m s : Nat) : List Int := 128 :: (List.replicate m 0 ++ tailB (8 * n) s)
def zeros (wide : Bool) (n : Int) : Nat := if wide then ((128 - (n + 17) % 128) % 128).toNat else ((64 - (n + 9) % 64) % 64).toNat
theorem ref_pad (wide : Bool) (n : Int) (hn : 0 ≤ n) (hn2 : n ≤ 1048576) (k : Nat) (hk : 400 ≤ k) : imprimaturref02_Pad.f k n (if wide then 512 else 256) = some (padB n (zeros wide n) (if wide then 16 else 8), 0) := by
  obtain ⟨k, rfl⟩ : ∃ m, k = m + 1 := ⟨k - 1, by omega⟩
  have hd : decide (n < 0) = false := decide_eq_false (by omega)
  cases wide
  · simp only [imprimaturref02_Pad.f, zeros, Bool.false_eq_true, if_false, if_true]
    simp only [imprimaturref02_Pad.j0, hd, Bool.false_eq_true, if_false]
    rw [if_neg (by omega)]
    have e1 : wrap64 (Int.tdiv 256 4) = 64 := by decide +kernel
    have e2 : wrap64 (Int.tdiv 256 32) = 8 := by decide +kernel
    rw [e1, e2]
    have hz : (((64 - (n + 9) % 64) % 64).toNat : Int) = (64 - (n + 9) % 64) % 64 := by omega
    obtain ⟨q, rfl⟩ : ∃ q, k = q + ((64 - (n + 9) % 64) % 64).toNat + 1 := ⟨k - ((64 - (n + 9) % 64) % 64).toNat - 1, by omega⟩
    rw [ref_l0 n 8 hn hn2 (by omega) (by omega) 64 (by omega) (by omega) _ q [128] (by simp; omega) (by intro j hj; simp; omega) (by simp only [List.length_singleton, hz]; omega)]
    have := ref_l1 ([128] ++ List.replicate ((64 - (n + 9) % 64) % 64).toNat 0) (by simp; omega) 8 q 0 [] (8 * n) (by omega) (by omega) (by omega) (by simp) (by omega) (by omega)
    simpa [padB] using this
  · simp only [imprimaturref02_Pad.f, zeros, if_true]
    rw [if_neg (by omega)]
    simp only [imprimaturref02_Pad.j0, hd, Bool.false_eq_true, if_false]
    rw [if_neg (by omega)]
    have e1 : wrap64 (Int.tdiv 512 4) = 128 := by decide +kernel
    have e2 : wrap64 (Int.tdiv 512 32) = 16 := by decide +kernel
    rw [e1, e2]
    have hz : (((128 - (n + 17) % 128) % 128).toNat : Int) = (128 - (n + 17) % 128) % 128 := by omega
    obtain ⟨q, rfl⟩ : ∃ q, k = q + ((128 - (n + 17) % 128) % 128).toNat + 1 := ⟨k - ((128 - (n + 17) % 128) % 128).toNat - 1, by omega⟩
    rw [ref_l0 n 16 hn hn2 (by omega) (by omega) 128 (by omega) (by omega) _ q [128] (by simp; omega) (by intro j hj; simp; omega) (by simp only [List.length_singleton, hz]; omega)]
    have := ref_l1 ([128] ++ List.replicate ((128 - (n + 17) % 128) % 128).toNat 0) (by simp; omega) 16 q 0 [] (8 * n) (by omega) (by omega) (by omega) (by simp) (by omega) (by omega)
    simpa [padB] using this
theorem tailB8 (x : Int) : tailB x 8 = [x / 72057594037927936 % 256, x / 281474976710656 % 256, x / 1099511627776 % 256, x / 4294967296 % 256, x / 16777216 % 256, x / 65536 % 256, x / 256 % 256, x % 256] := by
  simp [tailB, Int.ediv_ediv_of_nonneg]
theorem tailB16 (x : Int) (h0 : 0 ≤ x) (h1 : x < 18446744073709551616) : tailB x 16 = List.replicate 8 0 ++ tailB x 8 := by
  have : tailB x 16 = tailB (x / 18446744073709551616) 8 ++ tailB x 8 := by simp [tailB, Int.ediv_ediv_of_nonneg]
  rw [this, show x / 18446744073709551616 = 0 by omega]
  rfl
theorem padS_eq (n : Int) (len m : Nat) (h : len = m + 9) : padS n len 8 = padB n m 8 := by
  subst h
  have e : List.replicate (m + 9) (0 : Int) = 0 :: (List.replicate m 0 ++ List.replicate 8 0) := by
    rw [show m + 9 = (m + 8) + 1 by omega, List.replicate_succ, ← List.replicate_append_replicate]
  unfold padB
  rw [tailB8]
  simp only [padS, e]
  rw [List.set_cons_zero]
  simp only [show ∀ i, i < 8 → m + 9 - 1 - i = (m + (7 - i)) + 1 from fun i hi => by omega, Nat.reduceLT, List.set_cons_succ]
  simp only [List.set_append_right _ _ (show (List.replicate m (0 : Int)).length ≤ m + _ by simp), List.length_replicate, Nat.add_sub_cancel_left]
  rw [List.set_append_right _ _ (by simp), List.length_replicate, Nat.sub_self]
  simp [List.replicate]
theorem strOf_same (l : List Int) : ((strOfNums l).toList == (strOfNums l).toList) = true := beq_self_eq_true _
theorem padLen32_eq (n : Int) : padLen32 n = zeros false n + 9 := by simp only [padLen32, zeros, Bool.false_eq_true, if_false]; omega
theorem padLen64_eq (n : Int) : padLen64 n = (zeros true n + 8) + 9 := by simp only [padLen64, zeros, if_true]; omega
theorem padB16 (n : Int) (m : Nat) (h0 : 0 ≤ n) (h1 : n ≤ 1048576) : padB n m 16 = padB n (m + 8) 8 := by
  unfold padB
  rw [tailB16 _ (by omega) (by omega), ← List.append_assoc, List.replicate_append_replicate]
theorem rd_nat (l : List Int) (i : Nat) : rd l (i : Int) = l.getD i 0 := by simp [rd]
theorem pad_len (n : Int) (m s : Nat) : (padB n m s).length = m + s + 1 := by simp [padB, tailB_length]
end Go.Proofs.YtckjgipkdknmgaaDoor.PSum
