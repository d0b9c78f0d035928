/- Plain lemmas for one law. -/
import Derived.Test.YtdpdmmbdoeefbaaDoorPRfx1
import Derived.Test.YtdpdmmbdoeefbaaDoorPRfx2
import Derived.Test.YtdpdmmbdoeefbaaDoorPRfx3
import Derived.Test.YtdpdmmbdoeefbaaDoorX
import Derived.Laws.BitsLemmas
set_option linter.unusedVariables false
namespace Go.Proofs.YtdpdmmbdoeefbaaDoor.PRf
open Go.RowKit YtdpdmmbdoeefbaaDoorW.PrintWords YtdpdmmbdoeefbaaDoorW.PrintLast YtdpdmmbdoeefbaaDoorW.PrintMore X H
theorem w64 (n : Int) : IntKind.u64.wrap n = n % 18446744073709551616 := by simp [IntKind.wrap, IntKind.bits, IntKind.signed]
/-- The last d bytes of x, the first the greatest. -/
def tailB (x : Int) : Nat → List Int
  | 0 => []
  | d + 1 => tailB (x / 256) d ++ [x % 256]
theorem tailB_length (d : Nat) : ∀ x, (tailB x d).length = d := by
  induction d with
  | zero => intro x; rfl
  | succ d ih => intro x; simp [tailB, ih]
theorem ref_l1 (x8 : List Int) (h8 : x8.length < 1000) : ∀ (d : Nat) (k : Nat) (i : Int) (x9 : List Int) (x10 : Int), d < k → 0 ≤ i → i + d < 100 → x9.length < 1000 - d → 0 ≤ x10 → x10 < 18446744073709551616 →
    imprimaturref02_Pad.l1 k (i + d) x8 x9 x10 i = some (x8 ++ (tailB x10 d ++ x9), 0) := by
  intro d
  induction d with
  | zero =>
    intro k i x9 x10 hk hi hs h9 h0 h1
    obtain ⟨k, rfl⟩ : ∃ m, k = m + 1 := ⟨k - 1, by omega⟩
    simp only [imprimaturref02_Pad.l1]
    rw [if_neg (by simp), if_pos (by omega)]
    simp [tailB]
  | succ d ih =>
    intro k i x9 x10 hk hi hs h9 h0 h1
    obtain ⟨k, rfl⟩ : ∃ m, k = m + 1 := ⟨k - 1, by omega⟩
    simp only [imprimaturref02_Pad.l1]
    rw [if_pos (by push_cast; omega)]
    simp only [Option.bind_some]
    rw [if_pos (by simp; omega)]
    have e1 : Int.tmod x10 256 % 256 = x10 % 256 := by rw [Int.tmod_eq_emod_of_nonneg h0]; omega
    have e2 : IntKind.u64.wrap (Int.tdiv x10 256) = x10 / 256 := by rw [Int.tdiv_eq_ediv_of_nonneg h0, w64]; omega
    have e3 : wrap64 (i + 1) = i + 1 := by unfold wrap64; push_cast at hs; omega
    rw [e1, e2, e3, show (i + ((d + 1 : Nat) : Int)) = (i + 1) + (d : Int) by push_cast; omega]
    rw [ih k (i + 1) _ (x10 / 256) (by omega) (by omega) (by push_cast at hs; omega) (by simp; omega) (by omega) (by omega)]
    simp [tailB]
/-- m zeros more until the block is full. -/
theorem ref_l0 (n size : Int) (hn : 0 ≤ n) (hn2 : n ≤ 1048576) (hs0 : 0 ≤ size) (hs1 : size ≤ 16) (block : Int) (hb0 : 0 < block) (hb1 : block ≤ 128) : ∀ (m k : Nat) (x8 : List Int), x8.length + m < 1000 → (∀ j : Nat, j < m → (n + x8.length + j + size) % block ≠ 0) → (n + x8.length + m + size) % block = 0 →
    imprimaturref02_Pad.l0 (k + m + 1) n block size x8 = imprimaturref02_Pad.l1 k size (x8 ++ List.replicate m 0) [] (8 * n) 0 := by
  have e0 : IntKind.u64.wrap ((IntKind.u64.wrap (n)) * 8) = 8 * n := by rw [w64, w64]; omega
  intro m
  induction m with
  | zero =>
    intro k x8 hl _ h1
    simp only [imprimaturref02_Pad.l0]
    have e1 : wrap64 (wrap64 (n + (x8.length : Int)) + size) = n + x8.length + size := by unfold wrap64; omega
    rw [if_neg (by omega), e1, Int.tmod_eq_emod_of_nonneg (by omega), if_pos (by simpa using h1), e0]
    simp
  | succ m ih =>
    intro k x8 hl h0 h1
    have e1 : wrap64 (wrap64 (n + (x8.length : Int)) + size) = n + x8.length + size := by unfold wrap64; omega
    have h2 := h0 0 (by omega)
    obtain ⟨K, hK⟩ : ∃ K, K = k + m + 1 := ⟨_, rfl⟩
    rw [show k + (m + 1) + 1 = K + 1 by omega]
    simp only [imprimaturref02_Pad.l0]
    rw [if_neg (by omega), e1, Int.tmod_eq_emod_of_nonneg (by omega), if_neg (by simpa using h2), if_pos (by omega), hK, ih k (x8 ++ [0]) (by simp; omega)]
    · rw [List.replicate_succ]; simp
    · intro j hj
      have := h0 (j + 1) (by omega)
      simp only [List.length_append, List.length_singleton] at *
      push_cast at *
      rwa [show n + (↑x8.length + 1) + ↑j + size = n + ↑x8.length + (↑j + 1) + size by omega]
    simp only [List.length_append, List.length_singleton]
    push_cast at *
    rwa [show n + (↑x8.length + 1) + ↑m + size = n + ↑x8.length + (↑m + 1) + size by omega]
/-- A padding: 128, m zeros, the length in s bytes. -/
def padB (n : Int) (m s : Nat) : List Int := 128 :: (List.replicate m 0 ++ tailB (8 * n) s)
def zeros (wide : Bool) (n : Int) : Nat := if wide then ((128 - (n + 17) % 128) % 128).toNat else ((64 - (n + 9) % 64) % 64).toNat
theorem ref_pad (wide : Bool) (n : Int) (hn : 0 ≤ n) (hn2 : n ≤ 1048576) (k : Nat) (hk : 400 ≤ k) : imprimaturref02_Pad.f k n (if wide then 512 else 256) = some (padB n (zeros wide n) (if wide then 16 else 8), 0) := by
  obtain ⟨k, rfl⟩ : ∃ m, k = m + 1 := ⟨k - 1, by omega⟩
  have hd : decide (n < 0) = false := decide_eq_false (by omega)
  cases wide
  · simp only [imprimaturref02_Pad.f, zeros, Bool.false_eq_true, if_false, if_true]
    simp only [imprimaturref02_Pad.j0, hd, Bool.false_eq_true, if_false]
    rw [if_neg (by omega)]
    have e1 : wrap64 (Int.tdiv 256 4) = 64 := by decide +kernel
    have e2 : wrap64 (Int.tdiv 256 32) = 8 := by decide +kernel
    rw [e1, e2]
    have hz : (((64 - (n + 9) % 64) % 64).toNat : Int) = (64 - (n + 9) % 64) % 64 := by omega
    obtain ⟨q, rfl⟩ : ∃ q, k = q + ((64 - (n + 9) % 64) % 64).toNat + 1 := ⟨k - ((64 - (n + 9) % 64) % 64).toNat - 1, by omega⟩
    rw [ref_l0 n 8 hn hn2 (by omega) (by omega) 64 (by omega) (by omega) _ q [128] (by simp; omega) (by intro j hj; simp; omega) (by simp only [List.length_singleton, hz]; omega)]
    have := ref_l1 ([128] ++ List.replicate ((64 - (n + 9) % 64) % 64).toNat 0) (by simp; omega) 8 q 0 [] (8 * n) (by omega) (by omega) (by omega) (by simp) (by omega) (by omega)
    simpa [padB] using this
  simp only [imprimaturref02_Pad.f, zeros, if_true]
  rw [if_neg (by omega)]
  simp only [imprimaturref02_Pad.j0, hd, Bool.false_eq_true, if_false]
  rw [if_neg (by omega)]
  have e1 : wrap64 (Int.tdiv 512 4) = 128 := by decide +kernel
  have e2 : wrap64 (Int.tdiv 512 32) = 16 := by decide +kernel
  rw [e1, e2]
  have hz : (((128 - (n + 17) % 128) % 128).toNat : Int) = (128 - (n + 17) % 128) % 128 := by omega
  obtain ⟨q, rfl⟩ : ∃ q, k = q + ((128 - (n + 17) % 128) % 128).toNat + 1 := ⟨k - ((128 - (n + 17) % 128) % 128).toNat - 1, by omega⟩
  rw [ref_l0 n 16 hn hn2 (by omega) (by omega) 128 (by omega) (by omega) _ q [128] (by simp; omega) (by intro j hj; simp; omega) (by simp only [List.length_singleton, hz]; omega)]
  have := ref_l1 ([128] ++ List.replicate ((128 - (n + 17) % 128) % 128).toNat 0) (by simp; omega) 16 q 0 [] (8 * n) (by omega) (by omega) (by omega) (by simp) (by omega) (by omega)
  simpa [padB] using this
theorem tailB8 (x : Int) : tailB x 8 = [x / 72057594037927936 % 256, x / 281474976710656 % 256, x / 1099511627776 % 256, x / 4294967296 % 256, x / 16777216 % 256, x / 65536 % 256, x / 256 % 256, x % 256] := by
  simp [tailB, Int.ediv_ediv_of_nonneg]
theorem padS_eq (n : Int) (len m : Nat) (h : len = m + 9) : padS n len 8 = padB n m 8 := by
  subst h
  have e : List.replicate (m + 9) (0 : Int) = 0 :: (List.replicate m 0 ++ List.replicate 8 0) := by
    rw [show m + 9 = (m + 8) + 1 by omega, List.replicate_succ, ← List.replicate_append_replicate]
  unfold padB
  rw [tailB8]
  simp only [padS, e]
  rw [List.set_cons_zero]
  simp only [show ∀ i, i < 8 → m + 9 - 1 - i = (m + (7 - i)) + 1 from fun i hi => by omega, Nat.reduceLT, List.set_cons_succ]
  simp only [List.set_append_right _ _ (show (List.replicate m (0 : Int)).length ≤ m + _ by simp), List.length_replicate, Nat.add_sub_cancel_left]
  rw [List.set_append_right _ _ (by simp), List.length_replicate, Nat.sub_self]
  simp [List.replicate]
theorem padLen32_eq (n : Int) : padLen32 n = zeros false n + 9 := by simp only [padLen32, zeros, Bool.false_eq_true, if_false]; omega
theorem rd_nat (l : List Int) (i : Nat) : rd l (i : Int) = l.getD i 0 := by simp [rd]
theorem pad_len (n : Int) (m s : Nat) : (padB n m s).length = m + s + 1 := by simp [padB, tailB_length]
theorem bits_u32 (a b : Nat) (ha : a < 4294967296) (hb : b < 4294967296) : bits .and .u32 a b = ((a &&& b : Nat) : Int) ∧ bits .or .u32 a b = ((a ||| b : Nat) : Int) ∧ bits .xor .u32 a b = ((a ^^^ b : Nat) : Int) := by
  have hp : IntKind.u32.bits = 32 := rfl
  have ha' : a % 2 ^ 32 = a := Nat.mod_eq_of_lt ha
  have hb' : b % 2 ^ 32 = b := Nat.mod_eq_of_lt hb
  have h1 : a &&& b < 2 ^ 32 := Nat.and_lt_two_pow _ hb
  have h2 : a ||| b < 2 ^ 32 := Nat.or_lt_two_pow ha hb
  have h3 : a ^^^ b < 2 ^ 32 := Nat.xor_lt_two_pow ha hb
  refine ⟨?_, ?_, ?_⟩
  · simp only [bits, hp, BitVec.ofInt_natCast, BitVec.toNat_and, BitVec.toNat_ofNat, ha', hb', IntKind.wrap_u32]; omega
  · simp only [bits, hp, BitVec.ofInt_natCast, BitVec.toNat_or, BitVec.toNat_ofNat, ha', hb', IntKind.wrap_u32]; omega
  simp only [bits, hp, BitVec.ofInt_natCast, BitVec.toNat_xor, BitVec.toNat_ofNat, ha', hb', IntKind.wrap_u32]; omega
theorem bits_u64 (a b : Nat) (ha : a < 18446744073709551616) (hb : b < 18446744073709551616) : bits .and .u64 a b = ((a &&& b : Nat) : Int) ∧ bits .or .u64 a b = ((a ||| b : Nat) : Int) ∧ bits .xor .u64 a b = ((a ^^^ b : Nat) : Int) := by
  have hp : IntKind.u64.bits = 64 := rfl
  have ha' : a % 2 ^ 64 = a := Nat.mod_eq_of_lt ha
  have hb' : b % 2 ^ 64 = b := Nat.mod_eq_of_lt hb
  have h1 : a &&& b < 2 ^ 64 := Nat.and_lt_two_pow _ hb
  have h2 : a ||| b < 2 ^ 64 := Nat.or_lt_two_pow ha hb
  have h3 : a ^^^ b < 2 ^ 64 := Nat.xor_lt_two_pow ha hb
  refine ⟨?_, ?_, ?_⟩
  · simp only [bits, hp, BitVec.ofInt_natCast, BitVec.toNat_and, BitVec.toNat_ofNat, ha', hb', w64]; omega
  · simp only [bits, hp, BitVec.ofInt_natCast, BitVec.toNat_or, BitVec.toNat_ofNat, ha', hb', w64]; omega
  simp only [bits, hp, BitVec.ofInt_natCast, BitVec.toNat_xor, BitVec.toNat_ofNat, ha', hb', w64]; omega
theorem range_u32 (op : BinOp) (a b : Int) : 0 ≤ bits op .u32 a b ∧ bits op .u32 a b < 4294967296 := by
  unfold bits
  simp only [IntKind.wrap_u32]
  omega
/-- Numbers of 32 digits are joined alike as numbers of 64. -/
theorem join32 {a b : Int} (ha : 0 ≤ a ∧ a < 4294967296) (hb : 0 ≤ b ∧ b < 4294967296) : bits .and .u64 a b = bits .and .u32 a b ∧ bits .or .u64 a b = bits .or .u32 a b ∧ bits .xor .u64 a b = bits .xor .u32 a b := by
  obtain ⟨a, rfl⟩ := Int.eq_ofNat_of_zero_le ha.1
  obtain ⟨b, rfl⟩ := Int.eq_ofNat_of_zero_le hb.1
  obtain ⟨h1, h2, h3⟩ := bits_u32 a b (by omega) (by omega)
  obtain ⟨g1, g2, g3⟩ := bits_u64 a b (by omega) (by omega)
  rw [h1, h2, h3, g1, g2, g3]
  exact ⟨rfl, rfl, rfl⟩
theorem cast_pow2 (r : Nat) : ((2 ^ r : Nat) : Int) = 2 ^ r := by push_cast; rfl
theorem rot32_range (x r : Int) : 0 ≤ rot32 x r ∧ rot32 x r < 4294967296 := range_u32 _ _ _
theorem shr64 (x r : Nat) (hr : r ≤ 64) : shr .u64 (x : Int) (r : Int) = ((x / 2 ^ r : Nat) : Int) := by
  unfold shr
  rw [Int.toNat_natCast, Nat.min_eq_left (by exact hr)]
  push_cast
  rfl
theorem shl64 (x r : Nat) (hr : r ≤ 64) : shl .u64 (x : Int) (r : Int) = ((x * 2 ^ r % 18446744073709551616 : Nat) : Int) := by
  unfold shl
  rw [Int.toNat_natCast, Nat.min_eq_left (by exact hr), w64, ← cast_pow2, ← Int.natCast_mul]
  omega
theorem rot32_nat (x r : Nat) (hx : x < 4294967296) (_hr : r ≤ 32) : rot32 (x : Int) (r : Int) = (((x / 2 ^ r) ||| (x * 2 ^ (32 - r) % 4294967296) : Nat) : Int) := by
  unfold rot32
  rw [Int.toNat_natCast, show ((32 : Int) - (r : Int)).toNat = 32 - r by omega, ← cast_pow2, ← cast_pow2, ← Int.natCast_ediv, ← Int.natCast_mul]
  rw [show (((x * 2 ^ (32 - r) : Nat) : Int) % 4294967296) = ((x * 2 ^ (32 - r) % 4294967296 : Nat) : Int) by omega]
  exact (bits_u32 _ _ (Nat.lt_of_le_of_lt (Nat.div_le_self _ _) hx) (Nat.mod_lt _ (by omega))).2.1
theorem turn32_eq {x r : Int} (hx : 0 ≤ x ∧ x < 4294967296) (hr : 0 ≤ r ∧ r ≤ 32) : imprimaturref02_Words_turn.f 4294967296 32 x r = some (rot32 x r) := by
  obtain ⟨x, rfl⟩ := Int.eq_ofNat_of_zero_le hx.1
  obtain ⟨r, rfl⟩ := Int.eq_ofNat_of_zero_le hr.1
  have hx2 : x < 4294967296 := by omega
  have e1 : IntKind.u64.wrap (32 - (r : Int)) = ((32 - r : Nat) : Int) := by rw [w64]; omega
  unfold imprimaturref02_Words_turn.f imprimaturref02_Words_cut.f
  rw [if_pos hr.1, e1, if_pos (by omega), if_neg (by decide)]
  simp only [Option.bind_some]
  rw [shr64 x r (by omega), shl64 x (32 - r) (by omega), rot32_nat x r hx2 (by omega)]
  have hA : x / 2 ^ r < 4294967296 := Nat.lt_of_le_of_lt (Nat.div_le_self _ _) hx2
  have hp : 2 ^ (32 - r) ≤ 2 ^ 32 := Nat.pow_le_pow_right (by decide) (by omega)
  have hB : x * 2 ^ (32 - r) < 18446744073709551616 := by
    have := Nat.mul_lt_mul_of_lt_of_le hx2 hp (by decide)
    exact this
  rw [Nat.mod_eq_of_lt hB, (bits_u64 _ _ (by omega) hB).2.1, Int.tmod_eq_emod_of_nonneg (by omega)]
  congr 1
  have := Nat.or_mod_two_pow (a := x / 2 ^ r) (b := x * 2 ^ (32 - r)) (n := 32)
  rw [show (2 : Nat) ^ 32 = 4294967296 from rfl, Nat.mod_eq_of_lt hA] at this
  rw [← this]
  omega
theorem shr_range {x c : Int} {m : Int} (hx : 0 ≤ x ∧ x < m) (hc : 0 ≤ c ∧ c ≤ 64) : shr .u64 x c = x / 2 ^ c.toNat ∧ 0 ≤ x / 2 ^ c.toNat ∧ x / 2 ^ c.toNat < m := by
  have hp : (0 : Int) < 2 ^ c.toNat := Int.pow_pos (by decide)
  refine ⟨?_, Int.ediv_nonneg hx.1 (Int.le_of_lt hp), Int.lt_of_le_of_lt (Int.ediv_le_self _ hx.1) hx.2⟩
  unfold shr
  rw [Nat.min_eq_left (show c.toNat ≤ IntKind.u64.bits by show c.toNat ≤ 64; omega)]
theorem small32_eq {x a b c : Int} (hx : 0 ≤ x ∧ x < 4294967296) (ha : 0 ≤ a ∧ a ≤ 32) (hb : 0 ≤ b ∧ b ≤ 32) (hc : 0 ≤ c ∧ c ≤ 32) : imprimaturref02_Words_small.f 4294967296 32 x a b c = some (small32 x a b c) := by
  have hs := shr_range hx (c := c) (by omega)
  unfold imprimaturref02_Words_small.f small32
  simp only [turn32_eq hx ha, turn32_eq hx hb, Option.bind_some]
  rw [if_pos hc.1, hs.1, (join32 (rot32_range _ _) (rot32_range _ _)).2.2, (join32 (range_u32 _ _ _) hs.2).2.2]
theorem big32_eq {x a b c : Int} (hx : 0 ≤ x ∧ x < 4294967296) (ha : 0 ≤ a ∧ a ≤ 32) (hb : 0 ≤ b ∧ b ≤ 32) (hc : 0 ≤ c ∧ c ≤ 32) : imprimaturref02_Words_big.f 4294967296 32 x a b c = some (big32 x a b c) := by
  unfold imprimaturref02_Words_big.f big32
  simp only [turn32_eq hx ha, turn32_eq hx hb, turn32_eq hx hc, Option.bind_some]
  rw [(join32 (rot32_range _ _) (rot32_range _ _)).2.2, (join32 (range_u32 _ _ _) (rot32_range _ _)).2.2]
theorem or_add64 (x c : Nat) (hc : c < 256) : (x * 256) ||| c = x * 256 + c := by
  have h := Nat.two_pow_add_eq_or_of_lt (i := 8) (b := c) hc x
  rw [show 2 ^ 8 * x = x * 256 by omega] at h
  exact h.symm
/-- The number of j bytes from place o on. -/
def num (b : List Int) (o : Nat) : Nat → Int
  | 0 => 0
  | j + 1 => num b o j * 256 + b.getD (o + j) 0
theorem num_range {b : List Int} (hb : ∀ i, 0 ≤ b.getD i 0 ∧ b.getD i 0 < 256) (o : Nat) : ∀ j, 0 ≤ num b o j ∧ num b o j < 256 ^ j
  | 0 => by simp [num]
  | j + 1 => by
    have h := num_range hb o j
    have h2 := hb (o + j)
    simp only [num, Int.pow_succ]
    omega
theorem pow_le (j m : Nat) (h : j ≤ m) : (256 : Int) ^ j ≤ 256 ^ m := by
  induction m with
  | zero => obtain rfl : j = 0 := by omega
            exact Int.le_refl _
  | succ m ih =>
    rcases Nat.lt_or_ge j (m + 1) with h1 | h1
    · have h2 := ih (by omega)
      have h3 : (0 : Int) < 256 ^ m := Int.pow_pos (by decide)
      rw [Int.pow_succ]
      omega
    obtain rfl : j = m + 1 := by omega
    exact Int.le_refl _
theorem pow_le3 (j : Nat) (h : j ≤ 3) : (256 : Int) ^ j ≤ 16777216 := pow_le j 3 h
theorem pow_le7 (j : Nat) (h : j ≤ 7) : (256 : Int) ^ j ≤ 72057594037927936 := pow_le j 7 h
theorem be32_num {b : List Int} (hb : ∀ i, 0 ≤ b.getD i 0 ∧ b.getD i 0 < 256) (t : Nat) : ∀ j, j ≤ 4 → be32 b t j = num b (4 * t) j
  | 0, _ => rfl
  | j + 1, h => by
    rw [be32_succ, be32_num hb t j (by omega)]
    have h1 := num_range hb (4 * t) j
    have h2 := hb (4 * t + j)
    have h3 : num b (4 * t) j < 16777216 := by
      have := pow_le3 j (by omega)
      omega
    simp only [num]
    generalize num b (4 * t) j = x at *
    generalize b.getD (4 * t + j) 0 = c at *
    obtain ⟨x, rfl⟩ := Int.eq_ofNat_of_zero_le h1.1
    obtain ⟨c, rfl⟩ := Int.eq_ofNat_of_zero_le h2.1
    rw [show (x : Int) * 256 % 4294967296 = ((x * 256 : Nat) : Int) by omega, (bits_u32 _ _ (by omega) (by omega)).2.1, or_add64 _ _ (by omega)]
    omega
theorem wrap_id (x : Int) (h1 : -9223372036854775808 ≤ x) (h2 : x < 9223372036854775808) : wrap64 x = x := by unfold wrap64; omega
/-- The inner loop: a word of s bytes. -/
theorem exp_l1 {b : List Int} (hb : ∀ i, 0 ≤ b.getD i 0 ∧ b.getD i 0 < 256) (s : Nat) (hs : s ≤ 8) (t : Nat) (ht : t < 16) (hl : 16 * s ≤ b.length) (out : List Int) (ho : out.length < 1000) (x y : Int) : ∀ (d k j : Nat), j + d = s →
    imprimaturref02_Words_expand.l1 (k + d + 1) b s out t (num b (s * t) j) j x y = imprimaturref02_Words_expand.l0 k b s (out ++ [num b (s * t) s]) (t + 1 : Nat) x y := by
  intro d
  induction d with
  | zero =>
    intro k j hj
    obtain rfl : j = s := by omega
    simp only [imprimaturref02_Words_expand.l1]
    rw [if_neg (by omega), if_pos (by omega), show wrap64 ((t : Int) + 1) = ((t + 1 : Nat) : Int) by rw [wrap_id _ (by omega) (by omega)]; omega]
  | succ d ih =>
    intro k j hj
    obtain ⟨K, hK⟩ : ∃ K, K = k + d + 1 := ⟨_, rfl⟩
    rw [show k + (d + 1) + 1 = K + 1 by omega, imprimaturref02_Words_expand.l1]
    have hst : t * s ≤ 15 * s := Nat.mul_le_mul_right s (by omega)
    have e0 : ((t : Int) * (s : Int)) = ((s * t : Nat) : Int) := by rw [Nat.mul_comm]; push_cast; rfl
    have hst2 : s * t = t * s := Nat.mul_comm _ _
    have hst3 : s * t ≤ 120 := by rw [hst2]; have := Nat.mul_le_mul (show t ≤ 15 by omega) hs; omega
    have hst4 : s * t + s ≤ 16 * s := by rw [hst2]; omega
    have e1 : wrap64 (wrap64 ((t : Int) * (s : Int)) + (j : Int)) = ((s * t + j : Nat) : Int) := by
      rw [e0]
      generalize s * t = m at hst3
      rw [wrap_id (m : Int) (by omega) (by omega), wrap_id _ (by omega) (by omega)]
      omega
    clear hst hst2 e0
    have h1 := num_range hb (s * t) j
    have h2 := hb (s * t + j)
    have h3 : num b (s * t) j < 72057594037927936 := by
      have := pow_le7 j (by omega)
      omega
    rw [if_pos (by omega), e1, if_pos (by omega), if_pos (by omega), rd_nat, show wrap64 ((j : Int) + 1) = ((j + 1 : Nat) : Int) by rw [wrap_id _ (by omega) (by omega)]; omega, hK]
    rw [show IntKind.u64.wrap (IntKind.u64.wrap (num b (s * t) j * 256) + IntKind.u64.wrap (b.getD (s * t + j) 0)) = num b (s * t) (j + 1) by
      rw [w64, w64, w64]
      simp only [num]
      generalize num b (s * t) j = u at *
      generalize b.getD (s * t + j) 0 = v at *
      omega]
    exact ih k (j + 1) (by omega)
theorem exp_l1' {b : List Int} (hb : ∀ i, 0 ≤ b.getD i 0 ∧ b.getD i 0 < 256) (s : Nat) (hs : s ≤ 8) (t : Nat) (ht : t < 16) (hl : 16 * s ≤ b.length) (out : List Int) (ho : out.length < 1000) (x y : Int) (s' k : Nat) (h : s' = s := by rfl) :
    imprimaturref02_Words_expand.l1 (k + s' + 1) b s out t (num b (s * t) 0) (num b (s * t) 0) x y = imprimaturref02_Words_expand.l0 k b s (out ++ [num b (s * t) s]) (t + 1 : Nat) x y := by
  subst h
  exact exp_l1 hb s' hs t ht hl out ho x y s' k 0 (by omega)
theorem getD_take (l : List Int) (m i : Nat) (h : i < m) : (l.take m).getD i 0 = l.getD i 0 := by
  rw [List.getD_eq_getElem?_getD, List.getD_eq_getElem?_getD, List.getElem?_take, if_pos h]
/-- The first words of a block. -/
def firsts (b : List Int) (s t : Nat) : List Int := (List.range t).map (fun i => num b (s * i) s)
theorem firsts_succ (b : List Int) (s t : Nat) : firsts b s (t + 1) = firsts b s t ++ [num b (s * t) s] := by simp [firsts, List.range_succ]
theorem firsts_length (b : List Int) (s t : Nat) : (firsts b s t).length = t := by simp [firsts]
theorem exp_l0 {b : List Int} (hb : ∀ i, 0 ≤ b.getD i 0 ∧ b.getD i 0 < 256) (s : Nat) (hs : s ≤ 8) (hl : 16 * s ≤ b.length) (x y : Int) : ∀ (d k t : Nat), t + d = 16 →
    imprimaturref02_Words_expand.l0 (k + d * (s + 2)) b s (firsts b s t) t x y = imprimaturref02_Words_expand.l0 k b s (firsts b s 16) (16 : Nat) x y := by
  intro d
  induction d with
  | zero => intro k t ht; obtain rfl : t = 16 := by omega
            rw [Nat.zero_mul, Nat.add_zero]
  | succ d ih =>
    intro k t ht
    obtain ⟨K, hK⟩ : ∃ K, K = (k + d * (s + 2)) + s + 1 := ⟨_, rfl⟩
    rw [show k + (d + 1) * (s + 2) = K + 1 by rw [hK, Nat.succ_mul]; omega, imprimaturref02_Words_expand.l0, if_pos (by omega), hK]
    rw [show (0 : Int) = ((0 : Nat) : Int) from rfl, show (((0 : Nat) : Int)) = num b (s * t) 0 from rfl]
    rw [exp_l1' hb s hs t (by omega) hl (firsts b s t) (by rw [firsts_length]; omega) x y s (k + d * (s + 2))]
    rw [← firsts_succ]
    exact ih k (t + 1) (by omega)
theorem first32_firsts {b : List Int} (hb : ∀ i, 0 ≤ b.getD i 0 ∧ b.getD i 0 < 256) : (first32 b 16).take 16 = firsts b 4 16 := by
  unfold first32 firsts
  rw [List.take_append_of_le_length (by simp), List.take_of_length_le (by simp)]
  exact List.map_congr_left (fun i hi => be32_num hb i 4 (Nat.le_refl _))
theorem getD_mem {l : List Int} {m : Int} (hm : 0 < m) (h : ∀ x ∈ l, 0 ≤ x ∧ x < m) (i : Nat) : 0 ≤ l.getD i 0 ∧ l.getD i 0 < m := by
  rw [List.getD_eq_getElem?_getD]
  cases hx : l[i]? with
  | none => exact ⟨Int.le_refl _, hm⟩
  | some x => exact h x (List.mem_of_getElem? hx)
theorem mem_set {l : List Int} {m : Int} (h : ∀ x ∈ l, 0 ≤ x ∧ x < m) (i : Nat) (v : Int) (hv : 0 ≤ v ∧ v < m) : ∀ x ∈ l.set i v, 0 ≤ x ∧ x < m := fun x hx => by
  rcases List.mem_or_eq_of_mem_set hx with h1 | h1
  · exact h x h1
  rw [h1]; exact hv
theorem expand32_range {b : List Int} (hb : ∀ i, 0 ≤ b.getD i 0 ∧ b.getD i 0 < 256) : ∀ n, ∀ x ∈ expand32 b n, 0 ≤ x ∧ x < 4294967296
  | 0 => fun x hx => by
    simp only [expand32, first32, List.mem_append, List.mem_map, List.mem_replicate] at hx
    rcases hx with ⟨i, _, rfl⟩ | ⟨_, rfl⟩
    · rw [be32_num hb i 4 (Nat.le_refl _)]
      have := num_range hb (4 * i) 4
      have h2 : (256 : Int) ^ 4 = 4294967296 := by decide
      omega
    omega
  | n + 1 => mem_set (expand32_range hb n) _ _ (by omega)
theorem take_set (l : List Int) (m : Nat) (v : Int) (h : m < l.length) : (l.set m v).take (m + 1) = l.take m ++ [v] := by
  rw [List.take_add_one, List.take_set, List.set_eq_of_length_le (by rw [List.length_take]; omega)]
  simp [h]
theorem small32_range (x a b c : Int) : 0 ≤ small32 x a b c ∧ small32 x a b c < 4294967296 := range_u32 _ _ _
theorem exp32_l2 {b : List Int} (hb : ∀ i, 0 ≤ b.getD i 0 ∧ b.getD i 0 < 256) : ∀ (d k n : Nat), n + d = 48 →
    imprimaturref02_Words_expand.l2 (k + d + 1) ((expand32 b n).take (16 + n)) 64 (16 + n : Nat) 4294967296 32 = some ((expand32 b 48).take 64) := by
  intro d
  induction d with
  | zero =>
    intro k n hn
    obtain rfl : n = 48 := by omega
    rw [imprimaturref02_Words_expand.l2, if_neg (by decide)]
  | succ d ih =>
    intro k n hn
    obtain ⟨K, hK⟩ : ∃ K, K = k + d + 1 := ⟨_, rfl⟩
    rw [show k + (d + 1) + 1 = K + 1 by omega, imprimaturref02_Words_expand.l2]
    have hlen := expand32_length b n
    have hl : ((expand32 b n).take (16 + n)).length = 16 + n := by rw [List.length_take]; omega
    have hR := expand32_range hb n
    have e : ∀ j : Nat, j ≤ 16 → wrap64 (((16 + n : Nat) : Int) - j) = ((16 + n - j : Nat) : Int) := fun j hj => by rw [wrap_id _ (by omega) (by omega)]; omega
    have e16 : wrap64 (((16 + n : Nat) : Int) - 16) = ((16 + n - 16 : Nat) : Int) := e 16 (by omega)
    have e15 : wrap64 (((16 + n : Nat) : Int) - 15) = ((16 + n - 15 : Nat) : Int) := e 15 (by omega)
    have e7 : wrap64 (((16 + n : Nat) : Int) - 7) = ((16 + n - 7 : Nat) : Int) := e 7 (by omega)
    have e2 : wrap64 (((16 + n : Nat) : Int) - 2) = ((16 + n - 2 : Nat) : Int) := e 2 (by omega)
    have r : ∀ j : Nat, j < 16 + n → rd ((expand32 b n).take (16 + n)) (j : Int) = (expand32 b n).getD j 0 := fun j hj => by rw [rd_nat, getD_take _ _ _ hj]
    rw [if_pos (by omega)]
    simp only [e16, e15, e7, e2, hl]
    rw [if_pos (by omega), if_pos (by omega), if_pos (by omega), if_pos (by omega), if_neg (by decide), if_pos (by omega), if_pos (by omega)]
    rw [r _ (by omega), r _ (by omega), r _ (by omega), r _ (by omega), small32_eq (getD_mem (by decide) hR _) (by decide) (by decide) (by decide)]
    simp only [Option.bind_some]
    rw [if_pos (by omega), if_pos (by omega), small32_eq (getD_mem (by decide) hR _) (by decide) (by decide) (by decide)]
    simp only [Option.bind_some, imprimaturref02_Words_cut.f]
    rw [if_neg (by decide)]
    simp only [Option.bind_some]
    rw [if_pos (by omega), show wrap64 (((16 + n : Nat) : Int) + 1) = ((16 + (n + 1) : Nat) : Int) by rw [wrap_id _ (by omega) (by omega)]; omega, hK]
    have hv : Int.tmod (IntKind.u64.wrap (IntKind.u64.wrap (IntKind.u64.wrap ((expand32 b n).getD (16 + n - 16) 0 + (expand32 b n).getD (16 + n - 7) 0) + small32 ((expand32 b n).getD (16 + n - 15) 0) 7 18 3) + small32 ((expand32 b n).getD (16 + n - 2) 0) 17 19 10)) 4294967296 =
        ((((expand32 b n).getD (16 + n - 16) 0 + small32 ((expand32 b n).getD (16 + n - 15) 0) 7 18 3) % 4294967296 + (expand32 b n).getD (16 + n - 7) 0) % 4294967296 + small32 ((expand32 b n).getD (16 + n - 2) 0) 17 19 10) % 4294967296 := by
      have h1 := getD_mem (by decide) hR (16 + n - 16)
      have h2 := getD_mem (by decide) hR (16 + n - 7)
      have h3 := small32_range ((expand32 b n).getD (16 + n - 15) 0) 7 18 3
      have h4 := small32_range ((expand32 b n).getD (16 + n - 2) 0) 17 19 10
      generalize (expand32 b n).getD (16 + n - 16) 0 = p at *
      generalize (expand32 b n).getD (16 + n - 7) 0 = q at *
      generalize small32 ((expand32 b n).getD (16 + n - 15) 0) 7 18 3 = u at *
      generalize small32 ((expand32 b n).getD (16 + n - 2) 0) 17 19 10 = v at *
      clear ih e e16 e15 e7 e2 r hR hb
      rw [Int.tmod_eq_emod_of_nonneg (by rw [w64]; omega), w64, w64, w64]
      omega
    rw [hv, ← take_set _ _ _ (by omega)]
    exact ih k (n + 1) (by omega)
theorem expand32_eq {b : List Int} (hb : ∀ i, 0 ≤ b.getD i 0 ∧ b.getD i 0 < 256) (hl : b.length = 64) (k : Nat) : imprimaturref02_Words_expand.f (k + 147) 4294967296 32 b = some ((expand32 b 48).take 64) := by
  have e : wrap64 (IntKind.u64.wrap (Int.tdiv 32 8)) = ((4 : Nat) : Int) := by decide +kernel
  unfold imprimaturref02_Words_expand.f
  rw [e, show (([] : List Int)) = firsts b 4 0 from rfl, show k + 147 = (k + 51) + 16 * (4 + 2) by omega]
  have h := exp_l0 hb 4 (by omega) (by omega) 4294967296 32 16 (k + 51) 0 (by omega)
  rw [show (((0 : Nat) : Int)) = 0 from rfl] at h
  rw [h, show k + 51 = (k + 50) + 1 by omega, imprimaturref02_Words_expand.l0, if_neg (by decide), if_neg (by decide), show k + 50 = (k + 49) + 1 by omega, imprimaturref02_Words_expand.j2, ← first32_firsts hb]
  exact exp32_l2 hb 48 k 0 (by omega)
theorem not_nat (x N f : Nat) (hN : N = 2 ^ f) (hx : x < N) (i : Nat) : ((N - 1) ^^^ x).testBit i = (decide (i < f) && !x.testBit i) := by
  rw [Nat.testBit_xor, hN, Nat.testBit_two_pow_sub_one]
  by_cases h : i < f
  · simp [h]
  have : x.testBit i = false := Nat.testBit_lt_two_pow (Nat.lt_of_lt_of_le (hN ▸ hx) (Nat.pow_le_pow_right (by decide) (by omega)))
  simp [h, this]
theorem choice_nat (e g f N w : Nat) (hN : N = 2 ^ w) (he : e < N) : (e &&& f) ||| (((N - 1) ^^^ e) &&& g) = (e &&& f) ^^^ (((N - 1) ^^^ e) &&& g) := by
  apply Nat.eq_of_testBit_eq
  intro i
  rw [Nat.testBit_or, Nat.testBit_xor, Nat.testBit_and, Nat.testBit_and, not_nat e N w hN he]
  cases e.testBit i <;> cases f.testBit i <;> cases g.testBit i <;> simp
theorem most_nat (a b c : Nat) : ((a &&& b) ||| (a &&& c)) ||| (b &&& c) = ((a &&& b) ^^^ (a &&& c)) ^^^ (b &&& c) := by
  apply Nat.eq_of_testBit_eq
  intro i
  rw [Nat.testBit_or, Nat.testBit_or, Nat.testBit_xor, Nat.testBit_xor, Nat.testBit_and, Nat.testBit_and, Nat.testBit_and]
  cases a.testBit i <;> cases b.testBit i <;> cases c.testBit i <;> rfl
theorem choice32 {e f g : Int} (he : 0 ≤ e ∧ e < 4294967296) (hf : 0 ≤ f ∧ f < 4294967296) (hg : 0 ≤ g ∧ g < 4294967296) :
    Go.bits .or .u64 (Go.bits .and .u64 e f) (Go.bits .and .u64 (Int.tmod (Go.bits .xor .u64 Go.IntKind.u64.max e) 4294967296) g) = bits .xor .u32 (bits .and .u32 e f) (bits .and .u32 (bits .xor .u32 IntKind.u32.max e) g) := by
  obtain ⟨e, rfl⟩ := Int.eq_ofNat_of_zero_le he.1
  obtain ⟨f, rfl⟩ := Int.eq_ofNat_of_zero_le hf.1
  obtain ⟨g, rfl⟩ := Int.eq_ofNat_of_zero_le hg.1
  have he2 : e < 4294967296 := by omega
  have hf2 : f < 4294967296 := by omega
  have hg2 : g < 4294967296 := by omega
  have m64 : IntKind.u64.max = ((18446744073709551616 - 1 : Nat) : Int) := by decide +kernel
  have m32 : IntKind.u32.max = ((4294967296 - 1 : Nat) : Int) := by decide +kernel
  have hx : (4294967296 - 1) ^^^ e < 4294967296 := Nat.xor_lt_two_pow (n := 32) (by decide) he2
  have hx64 : (18446744073709551616 - 1) ^^^ e < 18446744073709551616 := Nat.xor_lt_two_pow (n := 64) (by decide) (by omega)
  have hm : ((18446744073709551616 - 1) ^^^ e) % 4294967296 = (4294967296 - 1) ^^^ e := by
    have h := Nat.xor_mod_two_pow (a := 18446744073709551616 - 1) (b := e) (n := 32)
    rw [show (2 : Nat) ^ 32 = 4294967296 from rfl, Nat.mod_eq_of_lt he2] at h
    exact h
  rw [m64, (bits_u64 _ _ (by omega) (by omega)).2.2, m32, (bits_u32 _ _ (by omega) he2).2.2]
  rw [Int.tmod_eq_emod_of_nonneg (by omega), show ((((18446744073709551616 - 1) ^^^ e : Nat) : Int) % 4294967296) = (((4294967296 - 1) ^^^ e : Nat) : Int) by rw [← hm]; omega]
  have a1 : e &&& f < 4294967296 := Nat.and_lt_two_pow (n := 32) _ hf2
  have a2 : ((4294967296 - 1) ^^^ e) &&& g < 4294967296 := Nat.and_lt_two_pow (n := 32) _ hg2
  generalize hy : (4294967296 - 1) ^^^ e = y at *
  rw [(bits_u64 e f (by omega) (by omega)).1, (bits_u64 y g (by omega) (by omega)).1, (bits_u64 _ _ (by omega) (by omega)).2.1, (bits_u32 e f he2 hf2).1, (bits_u32 y g hx hg2).1, (bits_u32 _ _ a1 a2).2.2, ← hy, choice_nat e g f 4294967296 32 (by decide) he2]
theorem most32 {a b c : Int} (ha : 0 ≤ a ∧ a < 4294967296) (hb : 0 ≤ b ∧ b < 4294967296) (hc : 0 ≤ c ∧ c < 4294967296) :
    Go.bits .or .u64 (Go.bits .or .u64 (Go.bits .and .u64 a b) (Go.bits .and .u64 a c)) (Go.bits .and .u64 b c) = bits .xor .u32 (bits .xor .u32 (bits .and .u32 a b) (bits .and .u32 a c)) (bits .and .u32 b c) := by
  obtain ⟨a, rfl⟩ := Int.eq_ofNat_of_zero_le ha.1
  obtain ⟨b, rfl⟩ := Int.eq_ofNat_of_zero_le hb.1
  obtain ⟨c, rfl⟩ := Int.eq_ofNat_of_zero_le hc.1
  have h1 : a &&& b < 4294967296 := Nat.and_lt_two_pow (n := 32) _ (by omega)
  have h2 : a &&& c < 4294967296 := Nat.and_lt_two_pow (n := 32) _ (by omega)
  have h3 : b &&& c < 4294967296 := Nat.and_lt_two_pow (n := 32) _ (by omega)
  have h4 : (a &&& b) ||| (a &&& c) < 4294967296 := Nat.or_lt_two_pow (n := 32) h1 h2
  have h5 : (a &&& b) ^^^ (a &&& c) < 4294967296 := Nat.xor_lt_two_pow (n := 32) h1 h2
  rw [(bits_u64 a b (by omega) (by omega)).1, (bits_u64 a c (by omega) (by omega)).1, (bits_u64 b c (by omega) (by omega)).1, (bits_u64 _ _ (by omega) (by omega)).2.1, (bits_u64 _ _ (by omega) (by omega)).2.1]
  rw [(bits_u32 a b (by omega) (by omega)).1, (bits_u32 a c (by omega) (by omega)).1, (bits_u32 b c (by omega) (by omega)).1, (bits_u32 _ _ h1 h2).2.2, (bits_u32 _ _ h5 h3).2.2, most_nat]
theorem round32_eq (v0 v1 v2 v3 v4 v5 v6 v7 k x : Int) (h : ∀ y ∈ [v0, v1, v2, v3, v4, v5, v6, v7], 0 ≤ y ∧ y < 4294967296) (hk : 0 ≤ k ∧ k < 18446744073709551616) (hx : 0 ≤ x ∧ x < 4294967296) :
    imprimaturref02_Words_round.f 4294967296 32 [v0, v1, v2, v3, v4, v5, v6, v7] k x = some (step32 [v0, v1, v2, v3, v4, v5, v6, v7] k x) := by
  have h0 := h v0 (by simp)
  have h1 := h v1 (by simp)
  have h2 := h v2 (by simp)
  have h3 := h v3 (by simp)
  have h4 := h v4 (by simp)
  have h5 := h v5 (by simp)
  have h6 := h v6 (by simp)
  have h7 := h v7 (by simp)
  have hl : (([v0, v1, v2, v3, v4, v5, v6, v7] : List Int).length : Int) = 8 := rfl
  unfold imprimaturref02_Words_round.f
  rw [hl, if_pos (by decide), if_pos (by decide), if_pos (by decide), if_pos (by decide), if_pos (by decide), if_pos (by decide), if_neg (by decide)]
  rw [show rd [v0, v1, v2, v3, v4, v5, v6, v7] 0 = v0 from rfl, show rd [v0, v1, v2, v3, v4, v5, v6, v7] 1 = v1 from rfl, show rd [v0, v1, v2, v3, v4, v5, v6, v7] 2 = v2 from rfl, show rd [v0, v1, v2, v3, v4, v5, v6, v7] 3 = v3 from rfl, show rd [v0, v1, v2, v3, v4, v5, v6, v7] 4 = v4 from rfl, show rd [v0, v1, v2, v3, v4, v5, v6, v7] 5 = v5 from rfl, show rd [v0, v1, v2, v3, v4, v5, v6, v7] 6 = v6 from rfl, show rd [v0, v1, v2, v3, v4, v5, v6, v7] 7 = v7 from rfl]
  rw [big32_eq h4 (by decide) (by decide) (by decide), big32_eq h0 (by decide) (by decide) (by decide)]
  simp only [Option.bind_some, imprimaturref02_Words_cut.f]
  rw [if_neg (by decide)]
  simp only [Option.bind_some]
  rw [if_pos (by decide), choice32 h4 h5 h6, most32 h0 h1 h2, if_neg (by decide)]
  simp only [Option.bind_some]
  rw [if_pos (by decide), if_neg (by decide)]
  simp only [Option.bind_some, step32, sumX32, sumY32]
  have c1 := range_u32 .xor (bits .and .u32 v4 v5) (bits .and .u32 (bits .xor .u32 IntKind.u32.max v4) v6)
  have c2 := range_u32 .xor (bits .xor .u32 (bits .and .u32 v0 v1) (bits .and .u32 v0 v2)) (bits .and .u32 v1 v2)
  have c3 : 0 ≤ big32 v4 6 11 25 ∧ big32 v4 6 11 25 < 4294967296 := range_u32 _ _ _
  have c4 : 0 ≤ big32 v0 2 13 22 ∧ big32 v0 2 13 22 < 4294967296 := range_u32 _ _ _
  generalize bits .xor .u32 (bits .and .u32 v4 v5) (bits .and .u32 (bits .xor .u32 IntKind.u32.max v4) v6) = ch at *
  generalize bits .xor .u32 (bits .xor .u32 (bits .and .u32 v0 v1) (bits .and .u32 v0 v2)) (bits .and .u32 v1 v2) = mo at *
  generalize big32 v4 6 11 25 = s1 at *
  generalize big32 v0 2 13 22 = s0 at *
  rw [Int.tdiv_eq_ediv_of_nonneg hk.1]
  have hk2 : 0 ≤ k / 4294967296 ∧ k / 4294967296 < 4294967296 := by omega
  generalize k / 4294967296 = k2 at *
  clear h hl hk
  simp only [w64, IntKind.wrap_u32]
  have ek : k2 % 18446744073709551616 = k2 := by omega
  have t1 : (v7 + s1) % 18446744073709551616 = v7 + s1 := by omega
  have t2 : (v7 + s1 + ch) % 18446744073709551616 = v7 + s1 + ch := by omega
  have t3 : (v7 + s1 + ch + k2) % 18446744073709551616 = v7 + s1 + ch + k2 := by omega
  have t4 : (v7 + s1 + ch + k2 + x) % 18446744073709551616 = v7 + s1 + ch + k2 + x := by omega
  have t5 : (v7 + s1 + ch + k2 + x + s0) % 18446744073709551616 = v7 + s1 + ch + k2 + x + s0 := by omega
  have t6 : (v7 + s1 + ch + k2 + x + s0 + mo) % 18446744073709551616 = v7 + s1 + ch + k2 + x + s0 + mo := by omega
  have t7 : (v3 + (v7 + s1 + ch + k2 + x)) % 18446744073709551616 = v3 + (v7 + s1 + ch + k2 + x) := by omega
  rw [ek, t1, t2, t3, t4, t5, t6, t7, Int.tmod_eq_emod_of_nonneg (by omega), Int.tmod_eq_emod_of_nonneg (by omega)]
  have u1 : ((((v7 + s1) % 4294967296 + ch) % 4294967296 + k2 % 4294967296) % 4294967296 + x) % 4294967296 = (v7 + s1 + ch + k2 + x) % 4294967296 := by omega
  rw [u1]
  congr 2
  · omega
  congr 3
  congr 1
  omega
theorem KS_range (i : Nat) : 0 ≤ KS.getD i 0 ∧ KS.getD i 0 < 18446744073709551616 := getD_mem (by decide) (fun x hx => by
  have h : KS.all (fun x => decide (0 ≤ x ∧ x < 18446744073709551616)) = true := by decide +kernel
  simpa using List.all_eq_true.1 h x hx) i
theorem step32_range (v : List Int) (k x : Int) (h : ∀ y ∈ v, 0 ≤ y ∧ y < 4294967296) : ∀ y ∈ step32 v k x, 0 ≤ y ∧ y < 4294967296 := by
  unfold step32
  split
  rotate_left
  · exact h
  intro y hy
  simp only [List.mem_cons, List.not_mem_nil, or_false] at hy
  simp only [List.mem_cons, List.not_mem_nil, or_false, forall_eq_or_imp, forall_eq] at h
  obtain ⟨h0, h1, h2, h3, h4, h5, h6, h7⟩ := h
  rcases hy with rfl | rfl | rfl | rfl | rfl | rfl | rfl | rfl
  · omega
  · exact h0
  · exact h1
  · exact h2
  · omega
  · exact h4
  · exact h5
  exact h6
theorem rounds32_range (K W hs : List Int) (h : ∀ y ∈ hs, 0 ≤ y ∧ y < 4294967296) : ∀ n, ∀ y ∈ rounds32 K W hs n, 0 ≤ y ∧ y < 4294967296
  | 0 => h
  | n + 1 => step32_range _ _ _ (rounds32_range K W hs h n)
theorem step32_length (v : List Int) (k x : Int) (h : v.length = 8) : (step32 v k x).length = 8 := by
  obtain ⟨a, b, c, d, e, f, g, i, rfl⟩ := eight_of h
  rfl
theorem rounds32_length' (K W hs : List Int) (h : hs.length = 8) : ∀ n, (rounds32 K W hs n).length = 8
  | 0 => h
  | n + 1 => step32_length _ _ _ (rounds32_length' K W hs h n)
theorem round32_eq' (v : List Int) (k x : Int) (hv : v.length = 8) (h : ∀ y ∈ v, 0 ≤ y ∧ y < 4294967296) (hk : 0 ≤ k ∧ k < 18446744073709551616) (hx : 0 ≤ x ∧ x < 4294967296) :
    imprimaturref02_Words_round.f 4294967296 32 v k x = some (step32 v k x) := by
  obtain ⟨a, b, c, d, e, f, g, i, rfl⟩ := eight_of hv
  exact round32_eq a b c d e f g i k x h hk hx
theorem sum32_l2 (x1 : Int) (all h : List Int) (x13 : Int) (W hs : List Int) (hW : W.length = 80) (hWr : ∀ y ∈ W, 0 ≤ y ∧ y < 4294967296) (h8 : hs.length = 8) (hr : ∀ y ∈ hs, 0 ≤ y ∧ y < 4294967296) : ∀ (d k n : Nat), n + d = 64 →
    imprimaturref02_Sum.l2 (k + d + 1) x1 all KS h x13 (W.take 64) (rounds32 KS W hs n) n 4294967296 32 = imprimaturref02_Sum.l3 k x1 all KS h x13 (rounds32 KS W hs 64) [] 0 4294967296 32 := by
  have hl : ((W.take 64).length : Int) = 64 := by rw [List.length_take, hW]; rfl
  have hKl : (KS.length : Int) = 80 := rfl
  intro d
  induction d with
  | zero =>
    intro k n hn
    obtain rfl : n = 64 := by omega
    rw [imprimaturref02_Sum.l2, hl, if_neg (by decide)]
  | succ d ih =>
    intro k n hn
    obtain ⟨K, hK⟩ : ∃ K, K = k + d + 1 := ⟨_, rfl⟩
    rw [show k + (d + 1) + 1 = K + 1 by omega, imprimaturref02_Sum.l2, hl, hKl, if_pos (by omega), if_pos (by omega), if_pos (by omega), rd_nat, rd_nat, getD_take _ _ _ (by omega)]
    rw [round32_eq' _ _ _ (rounds32_length' KS W hs h8 n) (rounds32_range KS W hs hr n) (KS_range n) (getD_mem (by decide) hWr n)]
    simp only [Option.bind_some]
    rw [show wrap64 ((n : Int) + 1) = ((n + 1 : Nat) : Int) by rw [wrap_id _ (by omega) (by omega)]; omega, hK]
    exact ih k (n + 1) (by omega)
/-- The first i of the next words. -/
def next32 (h v : List Int) (i : Nat) : List Int := (List.range i).map (fun j => (h.getD j 0 + v.getD j 0) % 4294967296)
theorem next32_add (h v : List Int) (hh : h.length = 8) (hv : v.length = 8) : next32 h v 8 = add32 h v 8 := by
  obtain ⟨a0, a1, a2, a3, a4, a5, a6, a7, rfl⟩ := eight_of hh
  obtain ⟨b0, b1, b2, b3, b4, b5, b6, b7, rfl⟩ := eight_of hv
  rfl
theorem sum32_l3 (x1 : Int) (all h : List Int) (x13 : Int) (v : List Int) (hh : h.length = 8) (hv : v.length = 8) (hr : ∀ y ∈ h, 0 ≤ y ∧ y < 4294967296) (vr : ∀ y ∈ v, 0 ≤ y ∧ y < 4294967296) : ∀ (d k i : Nat), i + d = 8 →
    imprimaturref02_Sum.l3 (k + d + 1) x1 all KS h x13 v (next32 h v i) i 4294967296 32 = imprimaturref02_Sum.l1 k x1 all KS (next32 h v 8) (wrap64 (x13 + (wrap64 (Int.tdiv x1 4)))) 4294967296 32 := by
  intro d
  induction d with
  | zero =>
    intro k i hi
    obtain rfl : i = 8 := by omega
    rw [imprimaturref02_Sum.l3, if_neg (by decide)]
  | succ d ih =>
    intro k i hi
    obtain ⟨K, hK⟩ : ∃ K, K = k + d + 1 := ⟨_, rfl⟩
    have hn : (next32 h v i).length = i := by simp [next32]
    rw [show k + (d + 1) + 1 = K + 1 by omega, imprimaturref02_Sum.l3, if_pos (by omega), if_pos (by omega), if_pos (by omega), if_pos (by omega), rd_nat, rd_nat]
    simp only [imprimaturref02_Words_cut.f]
    rw [if_neg (by decide)]
    simp only [Option.bind_some]
    rw [if_pos (by omega), show wrap64 ((i : Int) + 1) = ((i + 1 : Nat) : Int) by rw [wrap_id _ (by omega) (by omega)]; omega, hK]
    have h1 := getD_mem (m := 4294967296) (by decide) hr i
    have h2 := getD_mem (m := 4294967296) (by decide) vr i
    rw [show Int.tmod (IntKind.u64.wrap (h.getD i 0 + v.getD i 0)) 4294967296 = (h.getD i 0 + v.getD i 0) % 4294967296 by rw [Int.tmod_eq_emod_of_nonneg (by rw [w64]; omega), w64]; omega]
    rw [show next32 h v i ++ [(h.getD i 0 + v.getD i 0) % 4294967296] = next32 h v (i + 1) by simp [next32, List.range_succ]]
    exact ih k (i + 1) (by omega)
theorem add32_range (h v : List Int) (hh : h.length = 8) (hv : v.length = 8) : ∀ y ∈ add32 h v 8, 0 ≤ y ∧ y < 4294967296 := by
  rw [← next32_add h v hh hv]
  intro y hy
  simp only [next32, List.mem_map] at hy
  obtain ⟨j, _, rfl⟩ := hy
  omega
theorem blocks32_range (hs b : List Int) (h8 : hs.length = 8) (hr : ∀ y ∈ hs, 0 ≤ y ∧ y < 4294967296) : ∀ j, ∀ y ∈ blocks32 KS hs b j, 0 ≤ y ∧ y < 4294967296
  | 0 => hr
  | j + 1 => add32_range _ _ (by rw [blocks32_length]; exact h8) (rounds32_length' _ _ _ (by rw [blocks32_length]; exact h8) _)
theorem sum32_l1 {all : List Int} (hall : ∀ i, 0 ≤ all.getD i 0 ∧ all.getD i 0 < 256) (hlen : all.length < 2000000) (hs : List Int) (h8 : hs.length = 8) (hr : ∀ y ∈ hs, 0 ≤ y ∧ y < 4294967296) : ∀ (d k j : Nat), 64 * (j + d) = all.length →
    imprimaturref02_Sum.l1 (k + 75 * d + 300) 256 all KS (blocks32 KS hs all j) (64 * j : Nat) 4294967296 32 = imprimaturref02_Sum.l4 (k + 299) (blocks32 KS hs all (j + d)) [] 0 4294967296 32 := by
  have e4 : wrap64 (Int.tdiv 256 4) = 64 := by decide +kernel
  intro d
  induction d with
  | zero =>
    intro k j hj
    rw [show k + 75 * 0 + 300 = (k + 299) + 1 by omega, imprimaturref02_Sum.l1, if_neg (by omega)]
    rfl
  | succ d ih =>
    intro k j hj
    obtain ⟨K, hK⟩ : ∃ K, K = k + 75 * d + 300 + 74 := ⟨_, rfl⟩
    rw [show k + 75 * (d + 1) + 300 = K + 1 by omega, imprimaturref02_Sum.l1, e4]
    have e1 : wrap64 (((64 * j : Nat) : Int) + 64) = ((64 * (j + 1) : Nat) : Int) := by rw [wrap_id _ (by omega) (by omega)]; omega
    rw [e1, if_pos (by omega), if_pos (by omega), if_pos (by omega), if_pos (by omega), Int.toNat_natCast, Int.toNat_natCast, List.drop_take, show 64 * (j + 1) - 64 * j = 64 by omega]
    have hb : ∀ i, 0 ≤ ((all.drop (64 * j)).take 64).getD i 0 ∧ ((all.drop (64 * j)).take 64).getD i 0 < 256 := fun i => by
      rw [List.getD_eq_getElem?_getD, List.getElem?_take]
      split
      · rw [List.getElem?_drop, ← List.getD_eq_getElem?_getD]; exact hall _
      simp
    have hbl : ((all.drop (64 * j)).take 64).length = 64 := by rw [List.length_take, List.length_drop]; omega
    have hB8 : (blocks32 KS hs all j).length = 8 := by rw [blocks32_length]; exact h8
    have hBr := blocks32_range hs all h8 hr j
    obtain ⟨z, hz⟩ : ∃ z, K = z + 147 := ⟨K - 147, by omega⟩
    have hE := expand32_eq hb hbl z
    rw [← hz] at hE
    rw [hE]
    simp only [Option.bind_some]
    rw [show K = ((k + 75 * d + 300) + 8 + 1) + 64 + 1 by omega]
    have h2 := sum32_l2 256 all (blocks32 KS hs all j) (64 * j : Nat) (expand32 ((all.drop (64 * j)).take 64) 48) (blocks32 KS hs all j) (expand32_length _ _) (expand32_range hb _) hB8 hBr 64 ((k + 75 * d + 300) + 8 + 1) 0 (by omega)
    rw [show (((0 : Nat) : Int)) = 0 from rfl] at h2
    rw [show rounds32 KS (expand32 ((all.drop (64 * j)).take 64) 48) (blocks32 KS hs all j) 0 = blocks32 KS hs all j from rfl] at h2
    rw [h2]
    have h3 := sum32_l3 256 all (blocks32 KS hs all j) (64 * j : Nat) (rounds32 KS (expand32 ((all.drop (64 * j)).take 64) 48) (blocks32 KS hs all j) 64) hB8 (rounds32_length' _ _ _ hB8 _) hBr (rounds32_range _ _ _ hBr _) 8 (k + 75 * d + 300) 0 (by omega)
    rw [show (((0 : Nat) : Int)) = 0 from rfl] at h3
    rw [show next32 (blocks32 KS hs all j) (rounds32 KS (expand32 ((all.drop (64 * j)).take 64) 48) (blocks32 KS hs all j) 64) 0 = [] from rfl, e4, e1, next32_add _ _ hB8 (rounds32_length' _ _ _ hB8 _)] at h3
    rw [h3]
    have h4 := ih k (j + 1) (by omega)
    rw [show j + 1 + d = j + (d + 1) by omega] at h4
    exact h4
/-- The last e bytes of x, the greatest first. -/
def tb (x : Int) : Nat → List Int
  | 0 => []
  | e + 1 => (x / 2 ^ (8 * e) % 256) :: tb x e
theorem tell_l5 (h : List Int) (hh : h.length = 8) (hr : ∀ y ∈ h, 0 ≤ y ∧ y < 18446744073709551616) (i : Nat) (hi : i < 8) (X Y : Int) : ∀ (e k : Nat) (out : List Int), e ≤ 8 → out.length + e < 1000 →
    imprimaturref02_Sum.l5 (k + e + 1) h out i (8 * (e : Int) - 8) X Y = imprimaturref02_Sum.l4 k h (out ++ tb (h.getD i 0) e) (i + 1 : Nat) X Y := by
  intro e
  induction e with
  | zero =>
    intro k out _ _
    rw [imprimaturref02_Sum.l5, if_neg (by omega), show wrap64 ((i : Int) + 1) = ((i + 1 : Nat) : Int) by rw [wrap_id _ (by omega) (by omega)]; omega]
    simp [tb]
  | succ e ih =>
    intro k out he ho
    obtain ⟨K, hK⟩ : ∃ K, K = k + e + 1 := ⟨_, rfl⟩
    have e1 : 8 * ((e + 1 : Nat) : Int) - 8 = ((8 * e : Nat) : Int) := by omega
    have e2 : IntKind.u64.wrap ((8 * e : Nat) : Int) = ((8 * e : Nat) : Int) := by rw [w64]; omega
    have hx := getD_mem (by decide) hr i
    rw [show k + (e + 1) + 1 = K + 1 by omega, e1, imprimaturref02_Sum.l5, if_pos (by omega), if_pos (by omega), if_pos (by omega), e2, if_pos (by omega), if_pos (by omega), rd_nat]
    rw [(shr_range hx (c := ((8 * e : Nat) : Int)) (by omega)).1, Int.toNat_natCast, show wrap64 (((8 * e : Nat) : Int) - 8) = 8 * (e : Int) - 8 by rw [wrap_id _ (by omega) (by omega)]; omega, hK]
    rw [ih k (out ++ [h.getD i 0 / 2 ^ (8 * e) % 256]) (by omega) (by rw [List.length_append, List.length_singleton]; omega)]
    simp [tb]
theorem em32_tb (x : Int) : em32 x 4 = tb x 4 := by
  simp [em32, tb, IntKind.wrap_u8]
theorem tell32_l4 (h : List Int) (hh : h.length = 8) (hr : ∀ y ∈ h, 0 ≤ y ∧ y < 18446744073709551616) : ∀ (d k i : Nat), i + d = 8 →
    imprimaturref02_Sum.l4 (k + d * 6 + 1) h (tell32 h i) i 4294967296 32 = some (tell32 h 8, 0) := by
  intro d
  induction d with
  | zero =>
    intro k i hi
    obtain rfl : i = 8 := by omega
    rw [imprimaturref02_Sum.l4, if_neg (by decide)]
  | succ d ih =>
    intro k i hi
    have hl := tell32_length h i
    have e1 : wrap64 (wrap64 32 - 8) = 8 * ((4 : Nat) : Int) - 8 := by decide +kernel
    rw [imprimaturref02_Sum.l4, if_pos (by omega), e1, show k + (d + 1) * 6 = (k + d * 6 + 1) + 4 + 1 by omega, tell_l5 h hh hr i (by omega) 4294967296 32 4 (k + d * 6 + 1) (tell32 h i) (by omega) (by omega), ← em32_tb]
    exact ih k (i + 1) (by omega)
theorem sum32_l0 (k : Nat) (all : List Int) : imprimaturref02_Sum.l0 (k + 9) 256 all KS SS 0 4294967296 32 = imprimaturref02_Sum.j2 k 256 all KS (fill32 SS 8) 4294967296 32 := by kernel_rfl
theorem fill32_range : ∀ y ∈ fill32 SS 8, 0 ≤ y ∧ y < 4294967296 := fun x hx => by
  have h : (fill32 SS 8).all (fun x => decide (0 ≤ x ∧ x < 4294967296)) = true := by decide +kernel
  simpa using List.all_eq_true.1 h x hx
theorem sum32_f (b : List Int) (hb : ∀ i, 0 ≤ b.getD i 0 ∧ b.getD i 0 < 256) (hl : b.length ≤ 1048576) (q : Nat) :
    imprimaturref02_Sum.f (q + 75 * ((b ++ padOf false b.length).length / 64) + 500) b 256 = some (digest false KS SS b, 0) := by
  have hpo : padOf false b.length = padB b.length (zeros false b.length) 8 := by
    unfold padOf; rw [padS_eq _ _ (zeros false b.length) (padLen32_eq _)]
  have hz : ((zeros false b.length : Nat) : Int) = (64 - ((b.length : Int) + 9) % 64) % 64 := by simp only [zeros, Bool.false_eq_true, if_false]; omega
  have hpl : (padOf false b.length).length = zeros false b.length + 9 := by rw [hpo, pad_len]
  have hal : (b ++ padOf false b.length).length = b.length + (zeros false b.length + 9) := by rw [List.length_append, hpl]
  have hmod : 64 * ((b ++ padOf false b.length).length / 64) = (b ++ padOf false b.length).length := by rw [hal]; omega
  have hall : ∀ i, 0 ≤ (b ++ padOf false b.length).getD i 0 ∧ (b ++ padOf false b.length).getD i 0 < 256 := bytes_append hb (getD_bytes (padS_bytes _ _ _))
  have hlen : (b ++ padOf false b.length).length < 2000000 := by rw [hal]; omega
  unfold imprimaturref02_Sum.f
  rw [if_neg (by omega), if_pos rfl]
  generalize hd : (b ++ padOf false b.length).length / 64 = d at *
  rw [show q + 75 * d + 500 = (q + 75 * d + 499) + 1 by omega, imprimaturref02_Sum.j0]
  have hp := ref_pad false b.length (by omega) (by omega) (q + 75 * d + 499) (by omega)
  simp only [Bool.false_eq_true, if_false] at hp
  rw [hp]
  simp only [Option.bind_some, List.nil_append, List.length_nil]
  have hpl2 : (padB b.length (zeros false b.length) 8).length = zeros false b.length + 9 := by rw [← hpo]; exact hpl
  rw [if_pos (by omega), if_pos (by omega), show imprimaturref02_constants.f = some KS from rfl, show imprimaturref02_starts.f = some SS from rfl]
  simp only [Option.bind_some]
  rw [← hpo, show q + 75 * d + 499 = (q + 75 * d + (499 - 9)) + 9 by omega, sum32_l0, show q + 75 * d + (499 - 9) = (q + 75 * d + (498 - 9)) + 1 by omega, imprimaturref02_Sum.j2]
  have h1 := sum32_l1 hall hlen (fill32 SS 8) (fill32_length SS 8) fill32_range d (q + (198 - 9)) 0 (by omega)
  rw [show q + (198 - 9) + 75 * d + 300 = q + 75 * d + (498 - 9) by omega] at h1
  rw [show ((64 * 0 : Nat) : Int) = 0 from rfl, show blocks32 KS (fill32 SS 8) (b ++ padOf false b.length) 0 = fill32 SS 8 from rfl, Nat.zero_add] at h1
  rw [h1]
  have h8 : (blocks32 KS (fill32 SS 8) (b ++ padOf false b.length) d).length = 8 := by rw [blocks32_length]; exact fill32_length SS 8
  have hr := blocks32_range (fill32 SS 8) (b ++ padOf false b.length) (fill32_length SS 8) fill32_range d
  have h2 := tell32_l4 (blocks32 KS (fill32 SS 8) (b ++ padOf false b.length) d) h8 (fun y hy => by have := hr y hy; omega) 8 (q + (198 - 9) + 299 - 8 * 6 - 1) 0 (by omega)
  rw [show q + (198 - 9) + 299 - 8 * 6 - 1 + 8 * 6 + 1 = q + (198 - 9) + 299 by omega] at h2
  rw [show (((0 : Nat) : Int)) = 0 from rfl, show tell32 (blocks32 KS (fill32 SS 8) (b ++ padOf false b.length) d) 0 = [] from rfl] at h2
  rw [h2]
  unfold digest
  simp only [bl, W32, hd]
theorem hash256_f (b : List Int) (hb : ∀ x ∈ b, 0 ≤ x ∧ x < 256) (hl : b.length ≤ 1048576) : ∃ k, imprimaturref02_Hash256.f k b = some (dig b) := by
  refine ⟨0 + 75 * ((b ++ padOf false b.length).length / 64) + 500, ?_⟩
  unfold imprimaturref02_Hash256.f
  rw [sum32_f b (getD_bytes hb) hl 0]
  rfl
end Go.Proofs.YtdpdmmbdoeefbaaDoor.PRf
