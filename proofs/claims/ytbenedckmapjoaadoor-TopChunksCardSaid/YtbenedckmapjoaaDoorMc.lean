/- Plain lemmas for one law. -/
import Derived.Test.YtbenedckmapjoaaDoorPCax1
import Derived.Test.YtbenedckmapjoaaDoorPCsx1
import Derived.Test.YtbenedckmapjoaaDoorPCutx1
import Derived.Test.YtbenedckmapjoaaDoorPCutx2
import Derived.Test.YtbenedckmapjoaaDoorPCutx3
import Derived.Test.YtbenedckmapjoaaDoorPPvx1
import Derived.Test.YtbenedckmapjoaaDoorPPwx1
import Derived.Test.YtbenedckmapjoaaDoorB
set_option linter.unusedVariables false
namespace Go.Proofs.YtbenedckmapjoaaDoor.PCut
open Go.RowKit Go.Proofs.YtbenedckmapjoaaDoorW.PrintWords Go.Proofs.YtbenedckmapjoaaDoorW.PrintLast Go.Proofs.YtbenedckmapjoaaDoorW.PrintMore Go.Proofs.YtbenedckmapjoaaDoor.X
theorem w64 {x : Int} (h : -9223372036854775808 ≤ x) (h' : x ≤ 9223372036854775807) : wrap64 x = x := by unfold wrap64; omega
theorem div_up (n : Int) {c : Int} (hc : 0 < c) : (n + c - 1) / c = (n - 1) / c + 1 := by
 have := Int.add_mul_ediv_right (n - 1) 1 (show c ≠ 0 by omega)
 rw [Int.one_mul, show n - 1 + c = n + c - 1 by omega] at this
 exact this
/-- How many chunks there are. -/
def cntE (n c : Int) : Int × Int := if n < 0 ∨ c < 64 ∨ c > 1024 then (0, 1) else if n > 131072 then (0, 2) else ((n - 1) / c + 1, 0)
theorem count_eq (k : Nat) (n c : Int) : merkle_Count.f (k + 1) n c = some (cntE n c) := by
 unfold merkle_Count.f cntE
 by_cases h1 : n < 0
 ·rw [if_pos h1, if_pos (.inl h1), merkle_Count.j0, if_pos rfl]
 by_cases h2 : c < 64
 ·rw [if_neg h1, if_pos h2, if_pos (.inr (.inl h2)), merkle_Count.j0, if_pos rfl]
 by_cases h3 : c > 1024
 ·rw [if_neg h1, if_neg h2, if_pos (.inr (.inr h3)), merkle_Count.j0, if_pos (decide_eq_true h3)]
 rw [if_neg h1, if_neg h2, if_neg (show ¬ (n < 0 ∨ c < 64 ∨ c > 1024) by omega), merkle_Count.j0, if_neg (by simpa using h3)]
 by_cases h4 : n > 131072
 ·rw [if_pos h4, if_pos h4]
 rw [if_neg h4, if_neg h4, if_neg (by omega), w64 (x := n + c) (by omega) (by omega), w64 (x := n + c - 1) (by omega) (by omega), Int.tdiv_eq_ediv_of_nonneg (by omega), div_up n (by omega)]
 have h5 : 0 ≤ (n - 1) / c + 1 := by have := Int.ediv_nonneg (a := n + c - 1) (b := c) (by omega) (by omega); rwa [div_up n (by omega)] at this
 have h6 : (n - 1) / c + 1 ≤ 131073 := by have h7 : (n - 1) / c ≤ 131072 := Int.le_of_lt_add_one (Int.ediv_lt_of_lt_mul (by omega) (by rw [show (131072 + 1 : Int) * c = c * 131073 by rw [Int.mul_comm]; rfl]; omega)); omega
 rw [w64 (by omega) (by omega)]
/-- The greatest power of 2 below a number above 1. -/
def hf (n : Nat) : Nat := 2 ^ Nat.log2 (n - 1)
theorem hf_pos (n : Nat) : 1 ≤ hf n := Nat.one_le_two_pow
theorem hf_lt {n : Nat} (h : 2 ≤ n) : hf n < n := by
 have := Nat.log2_self_le (n := n - 1) (by omega)
 unfold hf
 omega
theorem bitLenAux_eq : ∀ (f x : Nat), 0 < x → x < 2 ^ f → Lib.bitLenAux f x = Nat.log2 x + 1 := by
 intro f
 induction f with
 | zero => intro x h1 h2; simp at h2; omega
 | succ f ih =>
  intro x h1 h2
  rw [Lib.bitLenAux, if_neg (by omega), Nat.log2_def]
  by_cases h : x ≥ 2
  ·rw [if_pos h, ih (x / 2) (by omega) (by rw [Nat.pow_succ] at h2; omega)]; omega
  ·obtain rfl : x = 1 := by omega
   cases f <;> rfl
theorem half_eq (n : Nat) (h : 2 ≤ n) (h' : n ≤ 1000000) : merkle_half.f (n : Int) = some (hf n : Int) := by
 have e1 : wrap64 ((n : Int) - 1) = ((n - 1 : Nat) : Int) := by rw [w64 (by omega) (by omega)]; omega
 have e2 : IntKind.u64.wrap ((n - 1 : Nat) : Int) = ((n - 1 : Nat) : Int) := by show ((n - 1 : Nat) : Int) % 18446744073709551616 = _; omega
 have e64 : n - 1 < 2 ^ 64 := Nat.lt_trans (show n - 1 < 1048576 by omega) (by decide)
 have hb : Lib.bitLen (n - 1) = Nat.log2 (n - 1) + 1 := bitLenAux_eq 64 _ (by omega) e64
 have hl : Nat.log2 (n - 1) < 20 := by
  rw [Nat.log2_lt (by omega)]
  have : (2:Nat) ^ 20 = 1048576 := by decide
  omega
 unfold merkle_half.f bits_Len.f
 rw [e1, e2, if_pos (by omega)]
 simp only [Option.bind_some]
 rw [Int.toNat_natCast, hb, show wrap64 (((Nat.log2 (n - 1) + 1 : Nat) : Int) - 1) = (Nat.log2 (n - 1) : Int) by rw [w64 (by omega) (by omega)]; omega, if_pos (by omega)]
 unfold shl
 rw [show min (Nat.log2 (n - 1) : Int).toNat IntKind.i64.bits = Nat.log2 (n - 1) by rw [Int.toNat_natCast]; exact Nat.min_eq_left (by show _ ≤ 64; omega), Int.one_mul]
 have e3 : ((2 : Int) ^ Nat.log2 (n - 1)) = (hf n : Int) := by unfold hf; rw [Int.natCast_pow]; rfl
 rw [e3]
 congr 1
 have h5 := hf_lt h
 exact IntWalk.i64_in (hf n : Int) (by omega)
/-- Leaves: 32 bytes each. -/
def Lv (l : List (List Int)) : Prop := ∀ x ∈ l, x.length = 32 ∧ ∀ y ∈ x, 0 ≤ y ∧ y < 256
theorem Lv.take {l : List (List Int)} (h : Lv l) (k : Nat) : Lv (l.take k) := fun x hx => h x (List.mem_of_mem_take hx)
theorem Lv.drop {l : List (List Int)} (h : Lv l) (k : Nat) : Lv (l.drop k) := fun x hx => h x (List.mem_of_mem_drop hx)
/-- The top of leaves. -/
def topL (l : List (List Int)) : List Int :=
 if _h : l.length ≤ 1 then l.getD 0 [] else dig (1 :: (topL (l.take (hf l.length)) ++ topL (l.drop (hf l.length))))
termination_by l.length
decreasing_by
 ·simp only [List.length_take]; have := hf_lt (n := l.length) (by omega); omega
 ·simp only [List.length_drop]; have := hf_pos l.length; omega
theorem topL_one {l : List (List Int)} (h : l.length = 1) : topL l = l.getD 0 [] := by rw [topL, dif_pos (by omega)]
theorem topL_node {l : List (List Int)} (h : 2 ≤ l.length) : topL l = dig (1 :: (topL (l.take (hf l.length)) ++ topL (l.drop (hf l.length)))) := by rw [topL, dif_neg (by omega)]
theorem topL_32 {l : List (List Int)} (h : Lv l) (hn : 1 ≤ l.length) : (topL l).length = 32 ∧ ∀ y ∈ topL l, 0 ≤ y ∧ y < 256 := by
 by_cases h1 : l.length = 1
 ·rw [topL_one h1, List.getD_eq_getElem?_getD, List.getElem?_eq_getElem (by omega)]
  exact h _ (List.getElem_mem _)
 ·rw [topL_node (by omega)]
  exact ⟨dig_length _, dig_bytes _⟩
theorem isBytes_app {a b : List Int} (ha : ∀ y ∈ a, 0 ≤ y ∧ y < 256) (hb : ∀ y ∈ b, 0 ≤ y ∧ y < 256) : ∀ y ∈ a ++ b, 0 ≤ y ∧ y < 256 := fun y hy => by
 rcases List.mem_append.1 hy with h | h
 ·exact ha y h
 ·exact hb y h
theorem isBytes_cons {x : Int} {b : List Int} (hx : 0 ≤ x ∧ x < 256) (hb : ∀ y ∈ b, 0 ≤ y ∧ y < 256) : ∀ y ∈ x :: b, 0 ≤ y ∧ y < 256 := fun y hy => by
 rcases List.mem_cons.1 hy with h | h
 ·exact h ▸ hx
 ·exact hb y h
theorem digest2 {m : Int} {a b : List Int} (hm : 0 ≤ m ∧ m < 256) (ha : ∀ y ∈ a, 0 ≤ y ∧ y < 256) (hb : ∀ y ∈ b, 0 ≤ y ∧ y < 256) (hl : a.length + b.length ≤ 100000) : merkle_digest.f m [a, b] = some (dig (m :: (a ++ b))) := by
 have e : ([a, b] : List (List Int)).flatten = a ++ b := by simp
 rw [digest_some (by rw [e]; exact isBytes_of (isBytes_cons hm (isBytes_app ha hb))) (by rw [e]; simp; omega), e]
theorem digest1 {m : Int} {a : List Int} (hm : 0 ≤ m ∧ m < 256) (ha : ∀ y ∈ a, 0 ≤ y ∧ y < 256) (hl : a.length ≤ 100000) : merkle_digest.f m [a] = some (dig (m :: a)) := by
 have e : ([a] : List (List Int)).flatten = a := by simp
 rw [digest_some (by rw [e]; exact isBytes_of (isBytes_cons hm ha)) (by rw [e]; simp; omega), e]
theorem top_eq : ∀ (n : Nat) (l : List (List Int)) (k : Nat), l.length = n → 1 ≤ n → n ≤ 100000 → Lv l → n ≤ k → merkle_top.f k l = some (topL l) := by
 intro n
 induction n using Nat.strongRecOn with
 | _ n ih =>
  intro l k hl h1 h2 hv hk
  obtain ⟨k, rfl⟩ : ∃ j, k = j + 1 := ⟨k - 1, by omega⟩
  rw [merkle_top.f]
  by_cases h : n = 1
  ·rw [if_pos (by omega), if_pos (by omega), topL_one (by omega)]
   rfl
  ·have h3 := hf_pos n
   have h4 := hf_lt (n := n) (by omega)
   have t1 : (l.take (hf n)).length = hf n := by rw [List.length_take]; omega
   have t2 : (l.drop (hf n)).length = n - hf n := by rw [List.length_drop]; omega
   rw [if_neg (by omega), hl, half_eq n (by omega) (by omega)]
   simp only [Option.bind_some, Int.toNat_natCast]
   rw [if_pos (by omega), if_pos (by omega), ih (hf n) (by omega) _ k t1 h3 (by omega) (hv.take _) (by omega)]
   simp only [Option.bind_some]
   rw [ih (n - hf n) (by omega) _ k t2 (by omega) (by omega) (hv.drop _) (by omega)]
   simp only [Option.bind_some]
   have ha := topL_32 (hv.take (hf n)) (by omega)
   have hb := topL_32 (hv.drop (hf n)) (by omega)
   rw [digest2 (by decide) ha.2 hb.2 (by omega), topL_node (l := l) (by omega), hl]
   rfl
/-- The error of leaves. -/
def lvE (l : List (List Int)) : Int := if l.length > 4096 then 2 else if l.all (fun x => decide (x.length = 32)) = true then 0 else 1
theorem all_drop {α : Type} (l : List α) (p : α → Bool) (d : α) (i : Nat) (h : i < l.length) : (l.drop i).all p = (p (l.getD i d) && (l.drop (i + 1)).all p) := by
 rw [List.drop_eq_getElem_cons h, List.all_cons, List.getD_eq_getElem?_getD, List.getElem?_eq_getElem h]
 rfl
theorem leaves_l (l : List (List Int)) (hl : l.length ≤ 100000) : ∀ (d k i : Nat), i + d = l.length → merkle_leaves.l0 (k + d + 1) l l.length i = some (if (l.drop i).all (fun x => decide (x.length = 32)) = true then 0 else 1) := by
 intro d
 induction d with
 | zero =>
  intro k i hi
  rw [merkle_leaves.l0, if_neg (by omega), List.drop_of_length_le (by omega)]
  rfl
 | succ d ih =>
  intro k i hi
  rw [show k + (d + 1) + 1 = (k + d + 1) + 1 by omega, merkle_leaves.l0, if_pos (by omega), if_pos (by omega), if_pos (by omega), all_drop l _ [] i (by omega), show rd_L1 l (i : Int) = l.getD i [] by unfold rd_L1; rw [Int.toNat_natCast], w64 (by omega) (by omega), show (i : Int) + 1 = ((i + 1 : Nat) : Int) by omega, ih k (i + 1) (by omega)]
  by_cases h : (l.getD i []).length = 32
  ·rw [if_pos (by omega), decide_eq_true h, Bool.true_and]
  ·rw [if_neg (by omega), decide_eq_false h, Bool.false_and]
   rfl
theorem leaves_eq (l : List (List Int)) (k : Nat) (hk : l.length < k) (hl : l.length ≤ 100000) : merkle_leaves.f k l = some (lvE l) := by
 unfold merkle_leaves.f lvE
 by_cases h : l.length > 4096
 ·rw [if_pos (by omega), if_pos h]
 ·rw [if_neg (by omega), if_neg h]
  have := leaves_l l hl l.length (k - l.length - 1) 0 (by omega)
  rw [show k - l.length - 1 + l.length + 1 = k by omega] at this
  exact this
theorem lvE_zero {l : List (List Int)} (hb : ∀ x ∈ l, ∀ y ∈ x, 0 ≤ y ∧ y < 256) : lvE l = 0 ↔ l.length ≤ 4096 ∧ Lv l := by
 unfold lvE
 constructor
 ·intro h
  split at h
  ·cases h
  ·split at h
   ·rename_i h1 h2
    refine ⟨by omega, fun x hx => ⟨?_, hb x hx⟩⟩
    have := List.all_eq_true.1 h2 x hx
    simpa using this
   ·cases h
 ·rintro ⟨h1, h2⟩
  rw [if_neg (by omega), if_pos (List.all_eq_true.2 fun x hx => decide_eq_true (h2 x hx).1)]
/-- A number in eight bytes. -/
def e8 (n : Int) : List Int := [n % 18446744073709551616 / 72057594037927936 % 256, n % 18446744073709551616 / 281474976710656 % 256, n % 18446744073709551616 / 1099511627776 % 256, n % 18446744073709551616 / 4294967296 % 256, n % 18446744073709551616 / 16777216 % 256, n % 18446744073709551616 / 65536 % 256, n % 18446744073709551616 / 256 % 256, n % 18446744073709551616 % 256]
theorem e8_bytes (n : Int) : ∀ y ∈ e8 n, 0 ≤ y ∧ y < 256 := by
 intro y hy
 simp only [e8, List.mem_cons, List.not_mem_nil, or_false] at hy
 rcases hy with h | h | h | h | h | h | h | h <;> omega
theorem e8_length (n : Int) : (e8 n).length = 8 := rfl
theorem shr64 (x : Int) (j : Nat) (hj : j < 64) : shr .u64 x (j : Int) = x / 2 ^ j := by
 unfold shr
 rw [show min (j : Int).toNat IntKind.u64.bits = j by rw [Int.toNat_natCast]; exact Nat.min_eq_left (by show j ≤ 64; omega)]
theorem eight_raw (k : Nat) (n : Int) : merkle_eight.f (k + 9) n = some [shr .u64 (IntKind.u64.wrap n) ((56 : Nat) : Int) % 256, shr .u64 (IntKind.u64.wrap n) ((48 : Nat) : Int) % 256, shr .u64 (IntKind.u64.wrap n) ((40 : Nat) : Int) % 256, shr .u64 (IntKind.u64.wrap n) ((32 : Nat) : Int) % 256, shr .u64 (IntKind.u64.wrap n) ((24 : Nat) : Int) % 256, shr .u64 (IntKind.u64.wrap n) ((16 : Nat) : Int) % 256, shr .u64 (IntKind.u64.wrap n) ((8 : Nat) : Int) % 256, shr .u64 (IntKind.u64.wrap n) ((0 : Nat) : Int) % 256] := by kernel_rfl
theorem eight_eq (k : Nat) (n : Int) (hk : 9 ≤ k) : merkle_eight.f k n = some (e8 n) := by
 obtain ⟨k, rfl⟩ : ∃ j, k = j + 9 := ⟨k - 9, by omega⟩
 rw [eight_raw]
 simp only [shr64 _ _ (show (56 : Nat) < 64 by decide), shr64 _ _ (show (48 : Nat) < 64 by decide), shr64 _ _ (show (40 : Nat) < 64 by decide), shr64 _ _ (show (32 : Nat) < 64 by decide), shr64 _ _ (show (24 : Nat) < 64 by decide), shr64 _ _ (show (16 : Nat) < 64 by decide), shr64 _ _ (show (8 : Nat) < 64 by decide), shr64 _ _ (show (0 : Nat) < 64 by decide)]
 unfold e8
 rw [show IntKind.u64.wrap n = n % 18446744073709551616 from rfl]
 simp
theorem leaf_eq (k : Nat) (hk : 9 ≤ k) (p : Int) (c : List Int) (hb : ∀ y ∈ c, 0 ≤ y ∧ y < 256) : merkle_Leaf.f k p c = some (if p < 0 then ([], 1) else if c.length > 1024 then ([], 2) else (dig (0 :: (e8 p ++ c)), 0)) := by
 unfold merkle_Leaf.f
 by_cases h1 : p < 0
 ·rw [if_pos h1, if_pos h1]
 by_cases h2 : c.length > 1024
 ·rw [if_neg h1, if_neg h1, if_pos (by omega), if_pos h2]
 rw [if_neg h1, if_neg h1, if_neg (by omega), if_neg h2, eight_eq k p hk]
 simp only [Option.bind_some]
 rw [digest2 (by decide) (e8_bytes p) hb (by rw [e8_length]; omega)]
 rfl
/-- The root of leaves. -/
def rootL (l : List (List Int)) : List Int := dig (2 :: (e8 l.length ++ (if l.length = 0 then [] else topL l)))
theorem root_eq (k : Nat) (l : List (List Int)) (hl : l.length ≤ 100000) (hk : l.length + 9 ≤ k) (hb : ∀ x ∈ l, ∀ y ∈ x, 0 ≤ y ∧ y < 256) : merkle_Root.f k l = some (if lvE l = 0 then (rootL l, 0) else ([], lvE l)) := by
 unfold merkle_Root.f
 rw [leaves_eq l k (by omega) hl]
 simp only [Option.bind_some]
 by_cases h : lvE l = 0
 ·rw [if_pos h, if_pos h]
  have hv := (lvE_zero hb).1 h
  unfold rootL
  by_cases h0 : l.length = 0
  ·rw [if_pos (by omega), if_pos h0, eight_eq k 0 (by omega)]
   simp only [Option.bind_some]
   rw [digest1 (by decide) (e8_bytes 0) (by rw [e8_length]; omega), h0]
   simp
  ·rw [if_neg (by omega), if_neg h0, eight_eq k _ (by omega)]
   simp only [Option.bind_some]
   have ht := topL_32 hv.2 (by omega)
   rw [top_eq l.length l k rfl (by omega) hl hv.2 (by omega)]
   simp only [Option.bind_some]
   rw [digest2 (by decide) (e8_bytes _) ht.2 (by rw [e8_length]; omega)]
   rfl
 ·rw [if_neg h, if_neg h]
def BytesB (l : List Int) : Prop := ∀ y ∈ l, 0 ≤ y ∧ y < 256
theorem u8_inj {a b : Int} (ha : 0 ≤ a ∧ a < 256) (hb : 0 ≤ b ∧ b < 256) (h : UInt8.ofNat a.toNat = UInt8.ofNat b.toNat) : a = b := by
 have h1 := congrArg UInt8.toNat h
 simp only [UInt8.toNat_ofNat'] at h1
 omega
theorem strs_inj : ∀ {a b : List Int}, BytesB a → BytesB b → (a.map fun n => UInt8.ofNat n.toNat) = (b.map fun n => UInt8.ofNat n.toNat) → a = b
 | [], [], _, _, _ => rfl
 | [], _ :: _, _, _, h => by simp at h
 | _ :: _, [], _, _, h => by simp at h
 | x :: a, y :: b, ha, hb, h => by
  simp only [List.map_cons, List.cons.injEq] at h
  rw [u8_inj (ha x (by simp)) (hb y (by simp)) h.1, strs_inj (fun z hz => ha z (by simp [hz])) (fun z hz => hb z (by simp [hz])) h.2]
theorem bytesToList_inj {a b : ByteArray} (h : a.toList = b.toList) : a.data.toList = b.data.toList := by
 rwa [ByteArray.toList_eq, ByteArray.toList_eq] at h
theorem strs_eq {a b : List Int} (ha : BytesB a) (hb : BytesB b) : ((strOfNums a).toList = (strOfNums b).toList) ↔ a = b :=
 ⟨fun h => strs_inj ha hb (bytesToList_inj h), fun h => by rw [h]⟩
theorem strs_beq {a b : List Int} (ha : BytesB a) (hb : BytesB b) : ((strOfNums a).toList == (strOfNums b).toList) = decide (a = b) := by
 rw [Bool.eq_iff_iff, beq_iff_eq, decide_eq_true_iff]
 exact strs_eq ha hb
/-- For each step from the top down to a place: whether it goes into the second half. -/
def pathL (n p : Nat) : List Bool :=
 if _h : n ≤ 1 then [] else decide (hf n ≤ p) :: (if hf n ≤ p then pathL (n - hf n) (p - hf n) else pathL (hf n) p)
termination_by n
decreasing_by
 ·have := hf_pos n; omega
 ·have := hf_lt (n := n) (by omega); omega
theorem pathL_one {n : Nat} (h : n ≤ 1) (p : Nat) : pathL n p = [] := by rw [pathL, dif_pos h]
theorem pathL_left {n p : Nat} (h : 2 ≤ n) (hp : p < hf n) : pathL n p = false :: pathL (hf n) p := by rw [pathL, dif_neg (by omega), decide_eq_false (by omega), if_neg (by omega)]
theorem pathL_right {n p : Nat} (h : 2 ≤ n) (hp : hf n ≤ p) : pathL n p = true :: pathL (n - hf n) (p - hf n) := by rw [pathL, dif_neg (by omega), decide_eq_true hp, if_pos hp]
theorem pathL_length : ∀ (n p : Nat), (pathL n p).length ≤ n := by
 intro n
 induction n using Nat.strongRecOn with
 | _ n ih =>
  intro p
  by_cases h : n ≤ 1
  ·rw [pathL_one h]; simp
  ·have h1 := hf_pos n
   have h2 := hf_lt (n := n) (by omega)
   by_cases hp : p < hf n
   ·rw [pathL_left (by omega) hp, List.length_cons]; have := ih (hf n) h2 p; omega
   ·rw [pathL_right (by omega) (by omega), List.length_cons]; have := ih (n - hf n) (by omega) (p - hf n); omega
theorem path_l : ∀ (n p k : Nat) (acc : List Bool), n ≤ 100000 → acc.length + n ≤ 1000000 → p < 1000000 → n < k → merkle_path.l0 k n p acc = some (acc ++ pathL n p) := by
 intro n
 induction n using Nat.strongRecOn with
 | _ n ih =>
  intro p k acc h1 h2 hp hk
  obtain ⟨k, rfl⟩ : ∃ j, k = j + 1 := ⟨k - 1, by omega⟩
  rw [merkle_path.l0]
  by_cases h : n ≤ 1
  ·rw [if_neg (by omega), pathL_one h, List.append_nil]
  ·have h3 := hf_pos n
   have h4 := hf_lt (n := n) (by omega)
   rw [if_pos (by omega), half_eq n (by omega) (by omega)]
   simp only [Option.bind_some]
   rw [if_pos (by omega)]
   by_cases hq : p < hf n
   ·rw [if_neg (by omega), decide_eq_false (by omega), ih (hf n) h4 p k _ (by omega) (by simp; omega) hp (by omega), pathL_left (n := n) (p := p) (by omega) hq, List.append_assoc, List.singleton_append]
   ·rw [if_pos (by omega), decide_eq_true (by omega), w64 (x := (n : Int) - hf n) (by omega) (by omega), w64 (x := (p : Int) - hf n) (by omega) (by omega), show (n : Int) - hf n = ((n - hf n : Nat) : Int) by omega, show (p : Int) - hf n = ((p - hf n : Nat) : Int) by omega, ih (n - hf n) (by omega) (p - hf n) k _ (by omega) (by simp; omega) (by omega) (by omega), pathL_right (n := n) (p := p) (by omega) (by omega), List.append_assoc, List.singleton_append]
/-- One step up. -/
def stepU (x : List Int) (b : Bool × List Int) : List Int := if b.1 = true then dig (1 :: (b.2 ++ x)) else dig (1 :: (x ++ b.2))
/-- The top that comes of a leaf, its way and a proof. -/
def climbL (way : List Bool) (proof : List (List Int)) (x : List Int) : List Int := (way.reverse.zip proof).foldl stepU x
theorem climbL_snoc (r : Bool) (way : List Bool) (proof : List (List Int)) (y x : List Int) (h : proof.length = way.length) : climbL (r :: way) (proof ++ [y]) x = stepU (climbL way proof x) (r, y) := by
 unfold climbL
 rw [List.reverse_cons, List.zip_append (by simp [h]), List.foldl_append]
 rfl
theorem stepU_32 (x : List Int) (b : Bool × List Int) : (stepU x b).length = 32 ∧ BytesB (stepU x b) := by
 unfold stepU
 split
 ·exact ⟨dig_length _, dig_bytes _⟩
 ·exact ⟨dig_length _, dig_bytes _⟩
theorem check_l0 (root : List Int) (n p : Int) (leaf : List Int) (pr : List (List Int)) (hl : pr.length ≤ 1000000) (q : List (List Int)) (hq : q.length ≤ 1000000) : ∀ (d k i : Nat), i + d = q.length →
  merkle_Check.l0 (k + d + 1) root n p leaf pr false q q.length i = if (q.drop i).all (fun x => decide (x.length = 32)) = true then merkle_Check.j2 k root n p leaf pr false else merkle_Check.l0 (k + d + 1) root n p leaf pr false q q.length i := by
 intro d
 induction d with
 | zero =>
  intro k i hi
  rw [if_pos (by rw [List.drop_of_length_le (by omega)]; rfl)]
  rw [merkle_Check.l0, if_neg (by omega)]
 | succ d ih =>
  intro k i hi
  by_cases ha : (q.drop i).all (fun x => decide (x.length = 32)) = true
  ·rw [if_pos ha]
   rw [all_drop q _ [] i (by omega), Bool.and_eq_true] at ha
   have h1 : (q.getD i []).length = 32 := of_decide_eq_true ha.1
   rw [show k + (d + 1) + 1 = (k + d + 1) + 1 by omega, merkle_Check.l0, if_pos (by omega), if_pos (by omega), if_pos (by omega), show rd_L1 q (i : Int) = q.getD i [] by unfold rd_L1; rw [Int.toNat_natCast], if_pos (by omega), w64 (by omega) (by omega), show (i : Int) + 1 = ((i + 1 : Nat) : Int) by omega, ih k (i + 1) (by omega), if_pos ha.2]
  ·rw [if_neg ha]
theorem check_l0_bad (root : List Int) (n p : Int) (leaf : List Int) (pr : List (List Int)) (q : List (List Int)) (hq : q.length ≤ 1000000) : ∀ (d k i : Nat), i + d = q.length → ¬ (q.drop i).all (fun x => decide (x.length = 32)) = true →
  merkle_Check.l0 (k + d + 2) root n p leaf pr false q q.length i = some 1 := by
 intro d
 induction d with
 | zero =>
  intro k i hi ha
  rw [List.drop_of_length_le (by omega)] at ha
  exact absurd rfl ha
 | succ d ih =>
  intro k i hi ha
  rw [all_drop q _ [] i (by omega), Bool.and_eq_true] at ha
  rw [show k + (d + 1) + 2 = (k + d + 1) + 1 + 1 by omega, merkle_Check.l0, if_pos (by omega), if_pos (by omega), if_pos (by omega), show rd_L1 q (i : Int) = q.getD i [] by unfold rd_L1; rw [Int.toNat_natCast]]
  by_cases h1 : (q.getD i []).length = 32
  ·rw [if_pos (by omega), w64 (by omega) (by omega), show (i : Int) + 1 = ((i + 1 : Nat) : Int) by omega]
   exact ih k (i + 1) (by omega) (fun h => ha ⟨decide_eq_true h1, h⟩)
  ·rw [if_neg (by omega), merkle_Check.j2, if_pos rfl]
theorem check_l1 (root : List Int) (n : Nat) (way : List Bool) (pr : List (List Int)) (hw : pr.length = way.length) (hl : pr.length ≤ 100000) (hv : ∀ x ∈ pr, x.length = 32 ∧ BytesB x) (hrb : BytesB root) (leaf : List Int) (hlf : leaf.length = 32 ∧ BytesB leaf) : ∀ (d k i : Nat), i + d = pr.length → 10 ≤ k →
  merkle_Check.l1 (k + d + 1) root n way (((way.reverse.zip pr).take i).foldl stepU leaf) pr pr.length i = some (if dig (2 :: (e8 n ++ climbL way pr leaf)) = root then 0 else 50) := by
 have h32 : ∀ i, (((way.reverse.zip pr).take i).foldl stepU leaf).length = 32 ∧ BytesB (((way.reverse.zip pr).take i).foldl stepU leaf) := by
  intro i
  induction i with
  | zero => exact hlf
  | succ i ih =>
   rw [List.take_add_one, List.foldl_append]
   cases (way.reverse.zip pr)[i]? with
   | none => exact ih
   | some b => exact stepU_32 _ _
 have hzl : (way.reverse.zip pr).length = pr.length := by rw [List.length_zip, List.length_reverse]; omega
 intro d
 induction d with
 | zero =>
  intro k i hi hk
  have h1 := h32 i
  have e1 : ((way.reverse.zip pr).take i).foldl stepU leaf = climbL way pr leaf := by rw [List.take_of_length_le (by omega)]; rfl
  rw [e1] at h1 ⊢
  rw [merkle_Check.l1, if_neg (by omega), eight_eq k n (by omega)]
  simp only [Option.bind_some]
  rw [digest2 (by decide) (e8_bytes n) h1.2 (by rw [e8_length]; omega)]
  simp only [Option.bind_some, bytes_Equal.f]
  rw [strs_beq (dig_bytes _) hrb]
  by_cases h : dig (2 :: (e8 n ++ climbL way pr leaf)) = root
  ·rw [if_pos (decide_eq_true h), if_pos h]
  ·rw [decide_eq_false h, if_neg (by simp), if_neg h]
 | succ d ih =>
  intro k i hi hk
  have h1 := h32 i
  have hx : pr.getD i [] ∈ pr := by rw [List.getD_eq_getElem?_getD, List.getElem?_eq_getElem (by omega)]; exact List.getElem_mem _
  have hb := hv _ hx
  have eb : rd_L1 pr (i : Int) = pr.getD i [] := by unfold rd_L1; rw [Int.toNat_natCast]
  have ew : rdOf false way (wrap64 (wrap64 ((way.length : Int) - 1) - i)) = way.getD (way.length - 1 - i) false := by
   rw [w64 (x := (way.length : Int) - 1) (by omega) (by omega), w64 (by omega) (by omega), show (way.length : Int) - 1 - i = ((way.length - 1 - i : Nat) : Int) by omega]
   unfold rdOf
   rw [Int.toNat_natCast]
  have es : ((way.reverse.zip pr).take (i + 1)).foldl stepU leaf = stepU (((way.reverse.zip pr).take i).foldl stepU leaf) (way.getD (way.length - 1 - i) false, pr.getD i []) := by
   have eg : (way.reverse.zip pr)[i]? = some (way.getD (way.length - 1 - i) false, pr.getD i []) := by
    rw [List.getElem?_eq_getElem (by omega), List.getElem_zip, List.getElem_reverse, List.getD_eq_getElem?_getD, List.getD_eq_getElem?_getD, List.getElem?_eq_getElem (by omega), List.getElem?_eq_getElem (by omega)]
    rfl
   rw [List.take_add_one, eg, List.foldl_append]
   rfl
  have hn := ih k (i + 1) (by omega) hk
  rw [es] at hn
  generalize ((way.reverse.zip pr).take i).foldl stepU leaf = x at *
  have c1 : wrap64 (wrap64 ((way.length : Int) - 1) - i) = (way.length : Int) - 1 - i := by rw [w64 (x := (way.length : Int) - 1) (by omega) (by omega), w64 (by omega) (by omega)]
  rw [show k + (d + 1) + 1 = (k + d + 1) + 1 by omega, merkle_Check.l1, if_pos (by omega), if_pos (by omega), if_pos (by omega), if_pos (by omega), if_pos (by omega), ew, eb, w64 (x := (i : Int) + 1) (by omega) (by omega), show (i : Int) + 1 = ((i + 1 : Nat) : Int) by omega]
  unfold stepU at hn
  by_cases hw1 : way.getD (way.length - 1 - i) false = true
  ·rw [if_pos hw1, digest2 (by decide) hb.2 h1.2 (by omega)]
   simp only [Option.bind_some]
   rw [if_pos hw1] at hn
   exact hn
  ·rw [if_neg hw1, digest2 (by decide) h1.2 hb.2 (by omega)]
   simp only [Option.bind_some]
   rw [if_neg hw1] at hn
   exact hn
/-- Whether a proof is right. -/
def chkE (root : List Int) (n p : Int) (leaf : List Int) (pr : List (List Int)) : Int :=
 if n < 1 ∨ n > 4096 ∨ p < 0 ∨ p ≥ n ∨ root.length ≠ 32 ∨ leaf.length ≠ 32 ∨ ¬ pr.all (fun x => decide (x.length = 32)) = true then 1
 else if pr.length ≠ (pathL n.toNat p.toNat).length then 50
 else if dig (2 :: (e8 n ++ climbL (pathL n.toNat p.toNat) pr leaf)) = root then 0 else 50
theorem check_eq (root : List Int) (n p : Int) (leaf : List Int) (pr : List (List Int)) (hpl : pr.length ≤ 100000) (hr : BytesB root) (hlb : BytesB leaf) (hpb : ∀ x ∈ pr, BytesB x) (k : Nat) (hk : pr.length + 5000 ≤ k) :
  merkle_Check.f k root n p leaf pr = some (chkE root n p leaf pr) := by
 obtain ⟨k, rfl⟩ : ∃ j, k = j + 1 := ⟨k - 1, by omega⟩
 unfold merkle_Check.f chkE
 by_cases h1 : n < 1
 ·rw [if_pos h1, if_pos (.inl h1), merkle_Check.j0, if_pos rfl]
 by_cases h2 : n > 4096
 ·rw [if_neg h1, if_pos h2, if_pos (.inr (.inl h2)), merkle_Check.j0, if_pos rfl]
 by_cases h3 : p < 0
 ·rw [if_neg h1, if_neg h2, if_pos h3, if_pos (.inr (.inr (.inl h3))), merkle_Check.j0, if_pos rfl]
 by_cases h4 : p ≥ n
 ·rw [if_neg h1, if_neg h2, if_neg h3, if_pos h4, if_pos (.inr (.inr (.inr (.inl h4)))), merkle_Check.j0, if_pos rfl]
 by_cases h5 : root.length = 32
 case neg => rw [if_neg h1, if_neg h2, if_neg h3, if_neg h4, if_neg (by omega), if_pos (.inr (.inr (.inr (.inr (.inl h5))))), merkle_Check.j0, if_pos rfl]
 by_cases h6 : leaf.length = 32
 case neg =>
  have e : ((leaf.length : Int) != 32) = true := bne_iff_ne.2 (by omega)
  rw [if_neg h1, if_neg h2, if_neg h3, if_neg h4, if_pos (by omega), if_pos (.inr (.inr (.inr (.inr (.inr (.inl h6)))))), merkle_Check.j0, if_pos e]
 have e : ((leaf.length : Int) != 32) = false := bne_eq_false_iff_eq.2 (by omega)
 rw [if_neg h1, if_neg h2, if_neg h3, if_neg h4, if_pos (by omega), e, merkle_Check.j0, if_neg (by decide)]
 obtain ⟨n, rfl⟩ := Int.eq_ofNat_of_zero_le (show 0 ≤ n by omega)
 obtain ⟨p, rfl⟩ := Int.eq_ofNat_of_zero_le (show 0 ≤ p by omega)
 by_cases h7 : pr.all (fun x => decide (x.length = 32)) = true
 case neg =>
  rw [if_pos (.inr (.inr (.inr (.inr (.inr (.inr h7))))))]
  have := check_l0_bad root n p leaf pr pr (by omega) pr.length (k - pr.length - 2) 0 (by omega) h7
  rw [show k - pr.length - 2 + pr.length + 2 = k by omega] at this
  exact this
 have h0 := check_l0 root n p leaf pr (by omega) pr (by omega) pr.length (k - pr.length - 1) 0 (by omega)
 rw [show k - pr.length - 1 + pr.length + 1 = k by omega, List.drop_zero, if_pos h7] at h0
 rw [show (0 : Int) = ((0 : Nat) : Int) from rfl, h0]
 have hcond : ¬ ((n : Int) < 1 ∨ (n : Int) > 4096 ∨ (p : Int) < ((0 : Nat) : Int) ∨ (p : Int) ≥ n ∨ root.length ≠ 32 ∨ leaf.length ≠ 32 ∨ ¬ pr.all (fun x => decide (x.length = 32)) = true) := by
  rintro (h | h | h | h | h | h | h)
  ·exact h1 h
  ·exact h2 h
  ·exact h3 h
  ·exact h4 h
  ·exact h h5
  ·exact h h6
  ·exact h h7
 rw [if_neg hcond, Int.toNat_natCast, Int.toNat_natCast]
 obtain ⟨K, hK⟩ : ∃ K, k - pr.length - 1 = K + 1 := ⟨k - pr.length - 2, by omega⟩
 rw [hK, merkle_Check.j2, if_neg (by decide)]
 unfold merkle_path.f
 rw [path_l n p K [] (by omega) (by simp; omega) (by omega) (by omega)]
 simp only [Option.bind_some, List.nil_append]
 by_cases h8 : pr.length = (pathL n p).length
 ·rw [if_pos (by omega), if_neg (by omega)]
  have hvv : ∀ x ∈ pr, x.length = 32 ∧ BytesB x := fun x hx => ⟨by simpa using List.all_eq_true.1 h7 x hx, hpb x hx⟩
  have hpn := pathL_length n p
  have h9 := check_l1 root n (pathL n p) pr h8 (by omega) hvv hr leaf ⟨h6, hlb⟩ pr.length (K - pr.length - 1) 0 (by omega) (by omega)
  rw [show K - pr.length - 1 + pr.length + 1 = K by omega] at h9
  exact h9
 ·rw [if_neg (by omega), if_pos h8]
/-- The tops beside a place, the nearest first. -/
def walkL (l : List (List Int)) (p : Nat) : List (List Int) :=
 if _h : l.length ≤ 1 then [] else if hf l.length ≤ p then walkL (l.drop (hf l.length)) (p - hf l.length) ++ [topL (l.take (hf l.length))] else walkL (l.take (hf l.length)) p ++ [topL (l.drop (hf l.length))]
termination_by l.length
decreasing_by
 ·simp only [List.length_drop]; have := hf_pos l.length; omega
 ·simp only [List.length_take]; have := hf_lt (n := l.length) (by omega); omega
theorem walkL_one {l : List (List Int)} (h : l.length ≤ 1) (p : Nat) : walkL l p = [] := by rw [walkL, dif_pos h]
theorem walkL_left {l : List (List Int)} {p : Nat} (h : 2 ≤ l.length) (hp : p < hf l.length) : walkL l p = walkL (l.take (hf l.length)) p ++ [topL (l.drop (hf l.length))] := by rw [walkL, dif_neg (by omega), if_neg (by omega)]
theorem walkL_right {l : List (List Int)} {p : Nat} (h : 2 ≤ l.length) (hp : hf l.length ≤ p) : walkL l p = walkL (l.drop (hf l.length)) (p - hf l.length) ++ [topL (l.take (hf l.length))] := by rw [walkL, dif_neg (by omega), if_pos hp]
theorem walkL_length : ∀ (n : Nat) (l : List (List Int)) (p : Nat), l.length = n → (walkL l p).length = (pathL n p).length := by
 intro n
 induction n using Nat.strongRecOn with
 | _ n ih =>
  intro l p hl
  by_cases h : n ≤ 1
  ·rw [walkL_one (by omega), pathL_one h]; rfl
  ·have h3 := hf_pos n
   have h4 := hf_lt (n := n) (by omega)
   by_cases hp : p < hf n
   ·rw [walkL_left (by omega) (by rw [hl]; exact hp), pathL_left (by omega) hp, List.length_append, List.length_cons, hl, ih (hf n) h4 _ p (by rw [List.length_take]; omega)]; simp
   ·rw [walkL_right (by omega) (by rw [hl]; omega), pathL_right (by omega) (by omega), List.length_append, List.length_cons, hl, ih (n - hf n) (by omega) _ (p - hf n) (by rw [List.length_drop]; omega)]; simp
theorem walkL_32 : ∀ (n : Nat) (l : List (List Int)) (p : Nat), l.length = n → Lv l → Lv (walkL l p) := by
 intro n
 induction n using Nat.strongRecOn with
 | _ n ih =>
  intro l p hl hv
  by_cases h : n ≤ 1
  ·rw [walkL_one (by omega)]; intro x hx; cases hx
  ·have h3 := hf_pos n
   have h4 := hf_lt (n := n) (by omega)
   have t1 : (l.take (hf n)).length = hf n := by rw [List.length_take]; omega
   have t2 : (l.drop (hf n)).length = n - hf n := by rw [List.length_drop]; omega
   intro x hx
   by_cases hp : p < hf n
   ·rw [walkL_left (by omega) (by rw [hl]; exact hp), hl, List.mem_append, List.mem_singleton] at hx
    rcases hx with hx | rfl
    ·exact ih (hf n) h4 _ p t1 (hv.take _) x hx
    ·exact topL_32 (hv.drop _) (by omega)
   ·rw [walkL_right (by omega) (by rw [hl]; omega), hl, List.mem_append, List.mem_singleton] at hx
    rcases hx with hx | rfl
    ·exact ih (n - hf n) (by omega) _ _ t2 (hv.drop _) x hx
    ·exact topL_32 (hv.take _) (by omega)
/-- The proof that is made leads to the top. -/
theorem walkL_climb : ∀ (n : Nat) (l : List (List Int)) (p : Nat), l.length = n → p < n → climbL (pathL n p) (walkL l p) (l.getD p []) = topL l := by
 intro n
 induction n using Nat.strongRecOn with
 | _ n ih =>
  intro l p hl hp
  by_cases h : n ≤ 1
  ·rw [walkL_one (by omega), pathL_one h, topL_one (by omega), show p = 0 by omega]
   rfl
  ·have h3 := hf_pos n
   have h4 := hf_lt (n := n) (by omega)
   have t1 : (l.take (hf n)).length = hf n := by rw [List.length_take]; omega
   have t2 : (l.drop (hf n)).length = n - hf n := by rw [List.length_drop]; omega
   by_cases hq : p < hf n
   ·rw [walkL_left (by omega) (by rw [hl]; exact hq), pathL_left (by omega) hq, hl, climbL_snoc _ _ _ _ _ (walkL_length _ _ _ t1)]
    have e : l.getD p [] = (l.take (hf n)).getD p [] := by rw [List.getD_eq_getElem?_getD, List.getD_eq_getElem?_getD, List.getElem?_take, if_pos hq]
    rw [e, ih (hf n) h4 _ p t1 hq, topL_node (l := l) (by omega), hl]
    unfold stepU
    simp only [Bool.false_eq_true, if_false]
   ·rw [walkL_right (by omega) (by rw [hl]; omega), pathL_right (by omega) (by omega), hl, climbL_snoc _ _ _ _ _ (walkL_length _ _ _ t2)]
    have e : l.getD p [] = (l.drop (hf n)).getD (p - hf n) [] := by rw [List.getD_eq_getElem?_getD, List.getD_eq_getElem?_getD, List.getElem?_drop, show hf n + (p - hf n) = p by omega]
    rw [e, ih (n - hf n) (by omega) _ (p - hf n) t2 (by omega), topL_node (l := l) (by omega), hl]
    unfold stepU
    simp only [if_true]
/-- A text's pieces. -/
def pcs (c : Nat) : Nat → List Int → List (List Int)
 | 0, _ => []
 | m + 1, b => b.take c :: pcs c m (b.drop c)
/-- How many pieces there are. -/
theorem cnt_nat (L c : Nat) (hc : 0 < c) : ((L : Int) - 1) / (c : Int) + 1 = (((L + c - 1) / c : Nat) : Int) := by
 rw [← div_up (L : Int) (by omega)]
 rw [show (L : Int) + c - 1 = ((L + c - 1 : Nat) : Int) by omega]
 rfl
/-- A chunk's leaf. -/
def lfE (p : Int) (c : List Int) : List Int × Int := if p < 0 then ([], 1) else if c.length > 1024 then ([], 2) else (dig (0 :: (e8 p ++ c)), 0)
/-- The leaves of chunks, from a place on. -/
def lfs : Nat → List (List Int) → List (List Int)
 | _, [] => []
 | i, c :: ps => (lfE i c).1 :: lfs (i + 1) ps
theorem pcs_len (c : Nat) : ∀ (m : Nat) (b : List Int), (pcs c m b).length = m
 | 0, _ => rfl
 | m + 1, b => by rw [pcs, List.length_cons, pcs_len c m]
theorem pcs_bytes (c : Nat) : ∀ (m : Nat) (b : List Int), BytesB b → ∀ x ∈ pcs c m b, BytesB x
 | 0, _, _, x, hx => by cases hx
 | m + 1, b, hb, x, hx => by
  rw [pcs, List.mem_cons] at hx
  rcases hx with rfl | hx
  ·exact fun y hy => hb y (List.mem_of_mem_take hy)
  ·exact pcs_bytes c m _ (fun y hy => hb y (List.mem_of_mem_drop hy)) x hx
theorem lfs_ok : ∀ (ps : List (List Int)) (i : Nat), (lfs i ps).length = ps.length ∧ ∀ x ∈ lfs i ps, BytesB x
 | [], i => ⟨rfl, fun x hx => by cases hx⟩
 | c :: ps, i => by
  have h := lfs_ok ps (i + 1)
  refine ⟨by rw [lfs, List.length_cons, h.1, List.length_cons], fun x hx => ?_⟩
  rw [lfs, List.mem_cons] at hx
  rcases hx with rfl | hx
  ·unfold lfE
   split
   ·intro y hy; cases hy
   ·split
    ·intro y hy; cases hy
    ·exact dig_bytes _
  ·exact h.2 x hx
theorem lf_get : ∀ (ps : List (List Int)) (j i : Nat), i < ps.length → (lfs j ps).getD i [] = (lfE ((j + i : Nat) : Int) (ps.getD i [])).1
 | [], j, i, h => absurd h (Nat.not_lt_zero i)
 | c :: ps, j, 0, _ => rfl
 | c :: ps, j, i + 1, h => by
  have := lf_get ps (j + 1) i (by simpa using h)
  rw [lfs, List.getD_cons_succ, this, List.getD_cons_succ, show j + 1 + i = j + (i + 1) by omega]
theorem lf_dig {p : Nat} {c : List Int} (h : c.length ≤ 1024) : lfE (p : Int) c = (dig (0 :: (e8 p ++ c)), 0) := by
 unfold lfE
 rw [if_neg (by omega), if_neg (by omega)]
theorem lf32 (ps : List (List Int)) (h : ∀ x ∈ ps, x.length ≤ 1024) : ∀ x ∈ lfs 0 ps, x.length = 32 := by
 intro x hx
 obtain ⟨i, hi, rfl⟩ := List.mem_iff_getElem.1 hx
 have hl := (lfs_ok ps 0).1
 have h1 := lf_get ps 0 i (by omega)
 rw [List.getD_eq_getElem?_getD, List.getElem?_eq_getElem hi] at h1
 rw [show (lfs 0 ps)[i] = (some (lfs 0 ps)[i]).getD [] from rfl, h1, lf_dig]
 ·exact dig_length _
 ·rw [List.getD_eq_getElem?_getD, List.getElem?_eq_getElem (by omega)]
  exact h _ (List.getElem_mem _)
theorem pcs_le (c : Nat) : ∀ (m : Nat) (b : List Int), ∀ x ∈ pcs c m b, x.length ≤ c
 | 0, _, x, hx => by cases hx
 | m + 1, b, x, hx => by
  rw [pcs, List.mem_cons] at hx
  rcases hx with rfl | hx
  ·rw [List.length_take]; omega
  ·exact pcs_le c m _ x hx
theorem pcs_flat (c : Nat) : ∀ (m : Nat) (b : List Int), b.length ≤ m * c → (pcs c m b).flatten = b
 | 0, b, h => by
  rw [Nat.zero_mul] at h
  rw [show b = [] from List.length_eq_zero_iff.1 (by omega)]
  rfl
 | m + 1, b, h => by
  rw [pcs, List.flatten_cons, pcs_flat c m (b.drop c) (by rw [List.length_drop]; rw [Nat.add_mul, Nat.one_mul] at h; omega), List.take_append_drop]
theorem cnt_ok {L c : Nat} (hc : 64 ≤ c) (hc' : c ≤ 1024) (hL : L ≤ 5000) : (cntE (L : Int) (c : Int)).2 = 0 := by
 unfold cntE
 rw [if_neg (by omega), if_neg (by omega)]
theorem chk_own (l : List (List Int)) (p : Nat) (hl : l.length ≤ 4096) (hp : p < l.length) (h32 : ∀ x ∈ l, x.length = 32) (hb : ∀ x ∈ l, ∀ y ∈ x, 0 ≤ y ∧ y < 256) : lvE l = 0 ∧ chkE (rootL l) l.length p (l.getD p []) (walkL l p) = 0 ∧ (walkL l p).length ≤ 5000 ∧ ∀ x ∈ walkL l p, BytesB x := by
 have h0 : lvE l = 0 := by
  unfold lvE
  rw [if_neg (by omega), if_pos (List.all_eq_true.2 fun x hx => decide_eq_true (h32 x hx))]
 have hv := (lvE_zero hb).1 h0
 have hwl := walkL_length l.length l p rfl
 have hpl := pathL_length l.length p
 have hw := walkL_32 l.length l p rfl hv.2
 have hlm : l.getD p [] ∈ l := by rw [List.getD_eq_getElem?_getD, List.getElem?_eq_getElem (by omega)]; exact List.getElem_mem _
 have hroot : rootL l = dig (2 :: (e8 l.length ++ topL l)) := by unfold rootL; rw [if_neg (by omega)]
 refine ⟨h0, ?_, by omega, fun x hx => (hw x hx).2⟩
 unfold chkE
 rw [if_neg, Int.toNat_natCast, Int.toNat_natCast, if_neg (by omega), walkL_climb l.length l p rfl (by omega), if_pos hroot.symm]
 rintro (h | h | h | h | h | h | h)
 ·omega
 ·omega
 ·omega
 ·omega
 ·exact h (by rw [hroot]; exact dig_length _)
 ·exact h (hv.2 _ hlm).1
 ·exact h (List.all_eq_true.2 fun x hx => decide_eq_true (hw x hx).1)
end Go.Proofs.YtbenedckmapjoaaDoor.PCut
namespace Go.Proofs.YtbenedckmapjoaaDoor.PCa
open Go.RowKit Go.Proofs.YtbenedckmapjoaaDoorW.PrintWords Go.Proofs.YtbenedckmapjoaaDoorW.PrintLast Go.Proofs.YtbenedckmapjoaaDoorW.PrintMore Go.Proofs.YtbenedckmapjoaaDoor.X Go.Proofs.YtbenedckmapjoaaDoor.PCut
theorem cut_l (b : List Int) (c : Nat) (hc : 64 ≤ c) (hc' : c ≤ 1024) (hb : b.length ≤ 5000) (N : Nat) (hN : N = (b.length + c - 1) / c) : ∀ (d k i : Nat) (acc : List (List Int)), i + d = N → acc.length = i →
  merkle_Cut.l0 (k + d + 1) b c acc N i = some (acc ++ pcs c d (b.drop (i * c)), 0) := by
 have hNb : N * c ≤ b.length + c - 1 := by rw [hN]; exact Nat.div_mul_le_self _ _
 intro d
 induction d with
 | zero =>
  intro k i acc hi ha
  rw [merkle_Cut.l0, if_neg (by omega)]
  simp [pcs]
 | succ d ih =>
  intro k i acc hi ha
  have h1 : (i + 1) * c ≤ N * c := Nat.mul_le_mul_right _ (by omega)
  rw [Nat.add_mul, Nat.one_mul] at h1
  obtain ⟨j, hj⟩ : ∃ j, j = i * c := ⟨_, rfl⟩
  rw [← hj] at h1
  have hij : i ≤ j := by rw [hj]; exact Nat.le_mul_of_pos_right _ (by omega)
  have hji : (i : Int) * (c : Int) = (j : Int) := by rw [hj]; simp
  rw [show k + (d + 1) + 1 = (k + d + 1) + 1 by omega, merkle_Cut.l0, hji]
  rw [w64 (x := (j : Int)) (by omega) (by omega), w64 (x := (j : Int) + c) (by omega) (by omega), w64 (x := (i : Int) + 1) (by omega) (by omega)]
  obtain ⟨e, he, he1, he2⟩ : ∃ e : Nat, mn (b.length : Int) ((j : Int) + c) = e ∧ e = min b.length (j + c) ∧ j ≤ e := ⟨min b.length (j + c), by unfold mn; split <;> omega, rfl, by omega⟩
  have hd : ((b.take e).drop j).length ≤ 5000 := by simp; omega
  have hx : (b.take e).drop j = (b.drop j).take c := by
   rw [List.drop_take, he1]
   by_cases h : b.length ≤ j + c
   ·rw [Nat.min_eq_left h, List.take_of_length_le (by simp), List.take_of_length_le (by simp; omega)]
   ·rw [Nat.min_eq_right (by omega), Nat.add_sub_cancel_left]
  rw [he, if_pos (by omega), if_pos (by omega), if_pos (by omega), if_pos (by omega)]
  simp only [Int.toNat_natCast]
  rw [if_pos (by rw [List.length_nil]; omega), if_pos (by omega), List.nil_append, hx, show ((i : Int) + 1) = ((i + 1 : Nat) : Int) by omega, ih k (i + 1) _ (by omega) (by simp [ha])]
  rw [pcs, hj, List.append_assoc, List.singleton_append, List.drop_drop, Nat.add_mul, Nat.one_mul]
theorem cut_eq (k : Nat) (hk : 200 ≤ k) (b : List Int) (c : Int) (hb : b.length ≤ 5000) : merkle_Cut.f k b c = some (if (cntE b.length c).2 = 0 then (pcs c.toNat ((b.length + c.toNat - 1) / c.toNat) b, 0) else ([], (cntE b.length c).2)) := by
 obtain ⟨k, rfl⟩ : ∃ j, k = j + 1 := ⟨k - 1, by omega⟩
 unfold merkle_Cut.f
 rw [count_eq]
 simp only [Option.bind_some]
 by_cases h : (cntE b.length c).2 = 0
 ·rw [if_pos h, if_pos h]
  have hr : 64 ≤ c ∧ c ≤ 1024 := by
   unfold cntE at h
   split at h
   ·cases h
   ·omega
  obtain ⟨c, rfl⟩ := Int.eq_ofNat_of_zero_le (show 0 ≤ c by omega)
  have e1 : (cntE b.length c).1 = (((b.length + c - 1) / c : Nat) : Int) := by
   unfold cntE
   rw [if_neg (by omega), if_neg (by omega)]
   exact cnt_nat _ _ (by omega)
  rw [e1, Int.toNat_natCast]
  have hN : (b.length + c - 1) / c ≤ 100 := Nat.le_of_lt_succ (Nat.div_lt_of_lt_mul (by omega))
  have := cut_l b c (by omega) (by omega) hb _ rfl ((b.length + c - 1) / c) (k - (b.length + c - 1) / c) 0 [] (by omega) rfl
  rw [show k - (b.length + c - 1) / c + (b.length + c - 1) / c + 1 = k + 1 by omega] at this
  rw [show (0 : Int) = ((0 : Nat) : Int) from rfl, this]
  simp
 ·rw [if_neg h, if_neg h]
theorem of_l (ps : List (List Int)) (hp : ps.length ≤ 100000) (hb : ∀ x ∈ ps, BytesB x) : ∀ (d k i : Nat) (acc : List (List Int)), i + d = ps.length → ps.length + 10 ≤ k → acc.length = i →
  merkle_Of.l0 (k + d + 1) acc ps ps.length i = merkle_Root.f k (acc ++ lfs i (ps.drop i)) := by
 intro d
 induction d with
 | zero =>
  intro k i acc hi hk ha
  rw [merkle_Of.l0, if_neg (by omega), List.drop_of_length_le (by omega), lfs, List.append_nil]
  cases merkle_Root.f (k + 0) acc <;> rfl
 | succ d ih =>
  intro k i acc hi hk ha
  have hx := hb (ps.getD i []) (by rw [List.getD_eq_getElem?_getD, List.getElem?_eq_getElem (by omega)]; exact List.getElem_mem _)
  rw [show k + (d + 1) + 1 = (k + d + 1) + 1 by omega, merkle_Of.l0, if_pos (by omega), if_pos (by omega), if_pos (by omega), show rd_L1 ps (i : Int) = ps.getD i [] by unfold rd_L1; rw [Int.toNat_natCast], leaf_eq (k + d + 1) (by omega) i _ hx]
  simp only [Option.bind_some]
  rw [if_pos (by omega), w64 (by omega) (by omega), show (i : Int) + 1 = ((i + 1 : Nat) : Int) by omega, ih k (i + 1) _ (by omega) hk (by simp [ha])]
  have e1 : ps.drop i = ps.getD i [] :: ps.drop (i + 1) := by
   rw [List.drop_eq_getElem_cons (show i < ps.length by omega), List.getD_eq_getElem?_getD, List.getElem?_eq_getElem (by omega)]
   rfl
  rw [e1, lfs, List.append_assoc, List.singleton_append]
  rfl
theorem of_eq (b : List Int) (c : Nat) (hc : 64 ≤ c) (hc' : c ≤ 1024) (hb : BytesB b) (hl : b.length ≤ 3000) (k : Nat) (hk : 20000 ≤ k) : merkle_Of.f k b c = some (rootL (lfs 0 (pcs c ((b.length + c - 1) / c) b)), 0) := by
 unfold merkle_Of.f
 rw [cut_eq k (by omega) b c (by omega)]
 simp only [Option.bind_some]
 rw [if_pos (cnt_ok hc hc' (by omega))]
 have hN : (b.length + c - 1) / c ≤ 100 := Nat.le_of_lt_succ (Nat.div_lt_of_lt_mul (by omega))
 simp only
 rw [Int.toNat_natCast]
 have h1 := pcs_len c ((b.length + c - 1) / c) b
 have h2 := pcs_bytes c ((b.length + c - 1) / c) b hb
 have h4 := pcs_le c ((b.length + c - 1) / c) b
 generalize pcs c ((b.length + c - 1) / c) b = ps at *
 have h3 := lfs_ok ps 0
 have e1 := of_l ps (by omega) h2 ps.length (k - ps.length - 1) 0 [] (by omega) (by omega) rfl
 rw [show k - ps.length - 1 + ps.length + 1 = k by omega, List.drop_zero, List.nil_append] at e1
 rw [if_pos trivial, show merkle_Of.l0 k [] ps ps.length 0 = _ from e1, root_eq _ (lfs 0 ps) (by omega) (by omega) h3.2, if_pos]
 unfold lvE
 rw [if_neg (by omega), if_pos (List.all_eq_true.2 fun x hx => decide_eq_true (lf32 ps (fun y hy => Nat.le_trans (h4 y hy) hc') x hx))]
end Go.Proofs.YtbenedckmapjoaaDoor.PCa
namespace Go.Proofs.YtbenedckmapjoaaDoor.PCs
open Go.RowKit Go.Proofs.YtbenedckmapjoaaDoorW.PrintWords Go.Proofs.YtbenedckmapjoaaDoorW.PrintLast Go.Proofs.YtbenedckmapjoaaDoorW.PrintMore Go.Proofs.YtbenedckmapjoaaDoor.X Go.Proofs.YtbenedckmapjoaaDoor.PCut Go.Proofs.YtbenedckmapjoaaDoor.PCa
theorem same_own (x : List Int) : imprimaturref01_SameBytes.f x x = some true := by unfold imprimaturref01_SameBytes.f; simp
end Go.Proofs.YtbenedckmapjoaaDoor.PCs
namespace Go.Proofs.YtbenedckmapjoaaDoor.PPw
open Go.RowKit Go.Proofs.YtbenedckmapjoaaDoorW.PrintWords Go.Proofs.YtbenedckmapjoaaDoorW.PrintLast Go.Proofs.YtbenedckmapjoaaDoorW.PrintMore Go.Proofs.YtbenedckmapjoaaDoor.X Go.Proofs.YtbenedckmapjoaaDoor.PCut Go.Proofs.YtbenedckmapjoaaDoor.PCa Go.Proofs.YtbenedckmapjoaaDoor.PCs
theorem prove_w : ∀ (n : Nat) (l : List (List Int)) (p k : Nat), l.length = n → p < n → n ≤ 100000 → Lv l → n ≤ k → merkle_ProveW.f k l p = some (walkL l p) := by
 intro n
 induction n using Nat.strongRecOn with
 | _ n ih =>
  intro l p k hl hp hn hv hk
  obtain ⟨k, rfl⟩ : ∃ j, k = j + 1 := ⟨k - 1, by omega⟩
  rw [merkle_ProveW.f]
  by_cases h : n = 1
  ·rw [if_pos (by omega), walkL_one (by omega)]
  ·have h3 := hf_pos n
   have h4 := hf_lt (n := n) (by omega)
   have t1 : (l.take (hf n)).length = hf n := by rw [List.length_take]; omega
   have t2 : (l.drop (hf n)).length = n - hf n := by rw [List.length_drop]; omega
   rw [if_neg (by omega), hl, half_eq n (by omega) (by omega)]
   simp only [Option.bind_some, Int.toNat_natCast]
   by_cases hq : p < hf n
   ·rw [if_pos (by omega), if_pos (by omega), if_pos (by omega), ih (hf n) h4 _ p k t1 hq (by omega) (hv.take _) (by omega)]
    simp only [Option.bind_some]
    rw [top_eq (n - hf n) _ k t2 (by omega) (by omega) (hv.drop _) (by omega)]
    simp only [Option.bind_some]
    have h5 := topL_32 (hv.drop (hf n)) (by omega)
    have h6 := walkL_length (hf n) (l.take (hf n)) p t1
    have h7 := pathL_length (hf n) p
    rw [if_pos (by rw [List.length_nil]; omega), if_pos (by omega), List.nil_append, walkL_left (l := l) (p := p) (by omega) (by rw [hl]; exact hq), hl]
   ·rw [if_neg (by omega), if_pos (by omega), if_pos (by omega), w64 (x := (p : Int) - hf n) (by omega) (by omega), show (p : Int) - hf n = ((p - hf n : Nat) : Int) by omega, ih (n - hf n) (by omega) _ (p - hf n) k t2 (by omega) (by omega) (hv.drop _) (by omega)]
    simp only [Option.bind_some]
    rw [top_eq (hf n) _ k t1 (by omega) (by omega) (hv.take _) (by omega)]
    simp only [Option.bind_some]
    have h5 := topL_32 (hv.take (hf n)) (by omega)
    have h6 := walkL_length (n - hf n) (l.drop (hf n)) (p - hf n) t2
    have h7 := pathL_length (n - hf n) (p - hf n)
    rw [if_pos (by rw [List.length_nil]; omega), if_pos (by omega), List.nil_append, walkL_right (l := l) (p := p) (by omega) (by rw [hl]; omega), hl]
end Go.Proofs.YtbenedckmapjoaaDoor.PPw
namespace Go.Proofs.YtbenedckmapjoaaDoor.PPv
open Go.RowKit Go.Proofs.YtbenedckmapjoaaDoorW.PrintWords Go.Proofs.YtbenedckmapjoaaDoorW.PrintLast Go.Proofs.YtbenedckmapjoaaDoorW.PrintMore Go.Proofs.YtbenedckmapjoaaDoor.X Go.Proofs.YtbenedckmapjoaaDoor.PCut Go.Proofs.YtbenedckmapjoaaDoor.PCa Go.Proofs.YtbenedckmapjoaaDoor.PCs Go.Proofs.YtbenedckmapjoaaDoor.PPw
theorem prove_eq (l : List (List Int)) (p : Int) (k : Nat) (hl : l.length ≤ 100000) (hk : l.length < k) (hb : ∀ x ∈ l, ∀ y ∈ x, 0 ≤ y ∧ y < 256) :
  merkle_Prove.f k l p = some (if lvE l = 0 then (if p < 0 ∨ p ≥ l.length then ([], 1) else (walkL l p.toNat, 0)) else ([], lvE l)) := by
 unfold merkle_Prove.f
 rw [leaves_eq l k hk hl]
 simp only [Option.bind_some]
 by_cases h : lvE l = 0
 ·rw [if_pos h, if_pos h]
  have hv := (lvE_zero hb).1 h
  by_cases h1 : p < 0
  ·rw [if_pos h1, if_pos (.inl h1)]
  by_cases h2 : p ≥ l.length
  ·rw [if_neg h1, if_pos h2, if_pos (.inr h2)]
  obtain ⟨p, rfl⟩ := Int.eq_ofNat_of_zero_le (show 0 ≤ p by omega)
  rw [if_neg h1, if_neg h2, if_neg (by omega), prove_w l.length l p k rfl (by omega) hl hv.2 (by omega), Int.toNat_natCast]
  rfl
 ·rw [if_neg h, if_neg h]
theorem chunk_facts (b : List Int) (c : Nat) (hc : 64 ≤ c) (hc' : c ≤ 1024) (hb : BytesB b) (hl : b.length ≤ 3000) : ∃ ps L : List (List Int),
  merkle_Cut.f 30000 b c = some (ps, 0) ∧ merkle_Of.f 30000 b c = some (rootL L, 0) ∧ L.length = ps.length ∧ ps.length ≤ 100 ∧ ps.flatten = b ∧ (∀ x ∈ ps, x.length ≤ 1024 ∧ BytesB x) ∧ (∀ x ∈ L, x.length = 32 ∧ BytesB x) ∧
  (∀ i, i < ps.length → merkle_Leaf.f 30000 i (ps.getD i []) = some (L.getD i [], 0) ∧ merkle_Prove.f 30000 L i = some (walkL L i, 0) ∧ merkle_Check.f 30000 (rootL L) ps.length i (L.getD i []) (walkL L i) = some 0) := by
 have hN : (b.length + c - 1) / c ≤ 100 := Nat.le_of_lt_succ (Nat.div_lt_of_lt_mul (by omega))
 have hNt : b.length ≤ (b.length + c - 1) / c * c := by
  have h1 := Nat.lt_div_mul_add (a := b.length + c - 1) (b := c) (by omega)
  omega
 have h1 := pcs_len c ((b.length + c - 1) / c) b
 have h2 := pcs_bytes c ((b.length + c - 1) / c) b hb
 have h4 := pcs_le c ((b.length + c - 1) / c) b
 have h5 := pcs_flat c ((b.length + c - 1) / c) b hNt
 have hof := of_eq b c hc hc' hb hl 30000 (by omega)
 have hcut := cut_eq 30000 (by omega) b c (by omega)
 rw [if_pos (cnt_ok hc hc' (by omega)), Int.toNat_natCast] at hcut
 generalize pcs c ((b.length + c - 1) / c) b = ps at *
 have h3 := lfs_ok ps 0
 have h32 := lf32 ps (fun y hy => Nat.le_trans (h4 y hy) hc')
 refine ⟨ps, lfs 0 ps, hcut, hof, h3.1, by omega, h5, fun x hx => ⟨Nat.le_trans (h4 x hx) hc', h2 x hx⟩, fun x hx => ⟨h32 x hx, h3.2 x hx⟩, fun i hi => ?_⟩
 have hm : ps.getD i [] ∈ ps := by rw [List.getD_eq_getElem?_getD, List.getElem?_eq_getElem hi]; exact List.getElem_mem _
 have hmL : (lfs 0 ps).getD i [] ∈ lfs 0 ps := by rw [List.getD_eq_getElem?_getD, List.getElem?_eq_getElem (by omega)]; exact List.getElem_mem _
 have hg := lf_get ps 0 i hi
 rw [Nat.zero_add] at hg
 obtain ⟨k0, k1, k2, k3⟩ := chk_own (lfs 0 ps) i (by omega) (by omega) h32 h3.2
 refine ⟨?_, ?_, ?_⟩
 ·rw [leaf_eq 30000 (by omega) i _ (h2 _ hm), hg, lf_dig (Nat.le_trans (h4 _ hm) hc'), if_neg (by omega), if_neg (by have := h4 _ hm; omega)]
 ·rw [prove_eq (lfs 0 ps) i 30000 (by omega) (by omega) h3.2, if_pos k0, if_neg (by omega), Int.toNat_natCast]
 ·rw [check_eq (rootL (lfs 0 ps)) ps.length i _ (walkL (lfs 0 ps) i) (by omega) (dig_bytes _) (h3.2 _ hmL) k3 30000 (by omega)]
  rw [h3.1] at k1
  rw [k1]
end Go.Proofs.YtbenedckmapjoaaDoor.PPv
