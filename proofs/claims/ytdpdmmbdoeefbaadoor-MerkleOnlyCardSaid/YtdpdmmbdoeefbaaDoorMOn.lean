/- Plain lemmas for one law. -/
import Derived.Test.YtdpdmmbdoeefbaaDoorPCox1
import Derived.Test.YtdpdmmbdoeefbaaDoorPCsx1
import Derived.Test.YtdpdmmbdoeefbaaDoorPCutx1
import Derived.Test.YtdpdmmbdoeefbaaDoorPCutx2
import Derived.Test.YtdpdmmbdoeefbaaDoorPCutx3
import Derived.Test.YtdpdmmbdoeefbaaDoorPOnx1
import Derived.Test.YtdpdmmbdoeefbaaDoorPRax1
import Derived.Test.YtdpdmmbdoeefbaaDoorPRcx1
import Derived.Test.YtdpdmmbdoeefbaaDoorPRdx1
import Derived.Test.YtdpdmmbdoeefbaaDoorPUpx1
import Derived.Test.YtdpdmmbdoeefbaaDoorK
import Derived.Test.YtdpdmmbdoeefbaaDoorWU
set_option linter.unusedVariables false
namespace Go.Proofs.YtdpdmmbdoeefbaaDoor.PCut
open Go.RowKit Go.Proofs.YtdpdmmbdoeefbaaDoorW.PrintWords Go.Proofs.YtdpdmmbdoeefbaaDoorW.PrintLast Go.Proofs.YtdpdmmbdoeefbaaDoorW.PrintMore Go.Proofs.YtdpdmmbdoeefbaaDoor.X
theorem w64 {x : Int} (h : -9223372036854775808 ≤ x) (h' : x ≤ 9223372036854775807) : wrap64 x = x := by unfold wrap64; omega
/-- The greatest power of 2 below a number above 1. -/
def hf (n : Nat) : Nat := 2 ^ Nat.log2 (n - 1)
theorem hf_pos (n : Nat) : 1 ≤ hf n := Nat.one_le_two_pow
theorem hf_lt {n : Nat} (h : 2 ≤ n) : hf n < n := by
 have := Nat.log2_self_le (n := n - 1) (by omega)
 unfold hf
 omega
theorem hf_le {n : Nat} (h : 2 ≤ n) : n ≤ 2 * hf n := by
 have := Nat.lt_log2_self (n := n - 1)
 unfold hf
 rw [Nat.pow_succ] at this
 omega
theorem bitLenAux_eq : ∀ (f x : Nat), 0 < x → x < 2 ^ f → Lib.bitLenAux f x = Nat.log2 x + 1 := by
 intro f
 induction f with
 | zero => intro x h1 h2; simp at h2; omega
 | succ f ih =>
  intro x h1 h2
  rw [Lib.bitLenAux, if_neg (by omega), Nat.log2_def]
  by_cases h : x ≥ 2
  ·rw [if_pos h, ih (x / 2) (by omega) (by rw [Nat.pow_succ] at h2; omega)]; omega
  ·obtain rfl : x = 1 := by omega
   cases f <;> rfl
theorem half_eq (n : Nat) (h : 2 ≤ n) (h' : n ≤ 1000000) : merkle_half.f (n : Int) = some (hf n : Int) := by
 have e1 : wrap64 ((n : Int) - 1) = ((n - 1 : Nat) : Int) := by rw [w64 (by omega) (by omega)]; omega
 have e2 : IntKind.u64.wrap ((n - 1 : Nat) : Int) = ((n - 1 : Nat) : Int) := by show ((n - 1 : Nat) : Int) % 18446744073709551616 = _; omega
 have e64 : n - 1 < 2 ^ 64 := Nat.lt_trans (show n - 1 < 1048576 by omega) (by decide)
 have hb : Lib.bitLen (n - 1) = Nat.log2 (n - 1) + 1 := bitLenAux_eq 64 _ (by omega) e64
 have hl : Nat.log2 (n - 1) < 20 := by
  rw [Nat.log2_lt (by omega)]
  have : (2:Nat) ^ 20 = 1048576 := by decide
  omega
 unfold merkle_half.f bits_Len.f
 rw [e1, e2, if_pos (by omega)]
 simp only [Option.bind_some]
 rw [Int.toNat_natCast, hb, show wrap64 (((Nat.log2 (n - 1) + 1 : Nat) : Int) - 1) = (Nat.log2 (n - 1) : Int) by rw [w64 (by omega) (by omega)]; omega, if_pos (by omega)]
 unfold shl
 rw [show min (Nat.log2 (n - 1) : Int).toNat IntKind.i64.bits = Nat.log2 (n - 1) by rw [Int.toNat_natCast]; exact Nat.min_eq_left (by show _ ≤ 64; omega), Int.one_mul]
 have e3 : ((2 : Int) ^ Nat.log2 (n - 1)) = (hf n : Int) := by unfold hf; rw [Int.natCast_pow]; rfl
 rw [e3]
 congr 1
 have h5 := hf_lt h
 exact IntWalk.i64_in (hf n : Int) (by omega)
/-- Leaves: 32 bytes each. -/
def Lv (l : List (List Int)) : Prop := ∀ x ∈ l, x.length = 32 ∧ ∀ y ∈ x, 0 ≤ y ∧ y < 256
theorem Lv.take {l : List (List Int)} (h : Lv l) (k : Nat) : Lv (l.take k) := fun x hx => h x (List.mem_of_mem_take hx)
theorem Lv.drop {l : List (List Int)} (h : Lv l) (k : Nat) : Lv (l.drop k) := fun x hx => h x (List.mem_of_mem_drop hx)
/-- The top of leaves. -/
def topL (l : List (List Int)) : List Int :=
 if _h : l.length ≤ 1 then l.getD 0 [] else dig (1 :: (topL (l.take (hf l.length)) ++ topL (l.drop (hf l.length))))
termination_by l.length
decreasing_by
 ·simp only [List.length_take]; have := hf_lt (n := l.length) (by omega); omega
 ·simp only [List.length_drop]; have := hf_pos l.length; omega
theorem topL_one {l : List (List Int)} (h : l.length = 1) : topL l = l.getD 0 [] := by rw [topL, dif_pos (by omega)]
theorem topL_node {l : List (List Int)} (h : 2 ≤ l.length) : topL l = dig (1 :: (topL (l.take (hf l.length)) ++ topL (l.drop (hf l.length)))) := by rw [topL, dif_neg (by omega)]
theorem topL_32 {l : List (List Int)} (h : Lv l) (hn : 1 ≤ l.length) : (topL l).length = 32 ∧ ∀ y ∈ topL l, 0 ≤ y ∧ y < 256 := by
 by_cases h1 : l.length = 1
 ·rw [topL_one h1, List.getD_eq_getElem?_getD, List.getElem?_eq_getElem (by omega)]
  exact h _ (List.getElem_mem _)
 ·rw [topL_node (by omega)]
  exact ⟨dig_length _, dig_bytes _⟩
theorem isBytes_app {a b : List Int} (ha : ∀ y ∈ a, 0 ≤ y ∧ y < 256) (hb : ∀ y ∈ b, 0 ≤ y ∧ y < 256) : ∀ y ∈ a ++ b, 0 ≤ y ∧ y < 256 := fun y hy => by
 rcases List.mem_append.1 hy with h | h
 ·exact ha y h
 ·exact hb y h
theorem isBytes_cons {x : Int} {b : List Int} (hx : 0 ≤ x ∧ x < 256) (hb : ∀ y ∈ b, 0 ≤ y ∧ y < 256) : ∀ y ∈ x :: b, 0 ≤ y ∧ y < 256 := fun y hy => by
 rcases List.mem_cons.1 hy with h | h
 ·exact h ▸ hx
 ·exact hb y h
theorem digest2 {m : Int} {a b : List Int} (hm : 0 ≤ m ∧ m < 256) (ha : ∀ y ∈ a, 0 ≤ y ∧ y < 256) (hb : ∀ y ∈ b, 0 ≤ y ∧ y < 256) (hl : a.length + b.length ≤ 100000) : merkle_digest.f m [a, b] = some (dig (m :: (a ++ b))) := by
 have e : ([a, b] : List (List Int)).flatten = a ++ b := by simp
 rw [digest_some (by rw [e]; exact isBytes_of (isBytes_cons hm (isBytes_app ha hb))) (by rw [e]; simp; omega), e]
theorem digest1 {m : Int} {a : List Int} (hm : 0 ≤ m ∧ m < 256) (ha : ∀ y ∈ a, 0 ≤ y ∧ y < 256) (hl : a.length ≤ 100000) : merkle_digest.f m [a] = some (dig (m :: a)) := by
 have e : ([a] : List (List Int)).flatten = a := by simp
 rw [digest_some (by rw [e]; exact isBytes_of (isBytes_cons hm ha)) (by rw [e]; simp; omega), e]
theorem top_eq : ∀ (n : Nat) (l : List (List Int)) (k : Nat), l.length = n → 1 ≤ n → n ≤ 100000 → Lv l → n ≤ k → merkle_top.f k l = some (topL l) := by
 intro n
 induction n using Nat.strongRecOn with
 | _ n ih =>
  intro l k hl h1 h2 hv hk
  obtain ⟨k, rfl⟩ : ∃ j, k = j + 1 := ⟨k - 1, by omega⟩
  rw [merkle_top.f]
  by_cases h : n = 1
  ·rw [if_pos (by omega), if_pos (by omega), topL_one (by omega)]
   rfl
  ·have h3 := hf_pos n
   have h4 := hf_lt (n := n) (by omega)
   have t1 : (l.take (hf n)).length = hf n := by rw [List.length_take]; omega
   have t2 : (l.drop (hf n)).length = n - hf n := by rw [List.length_drop]; omega
   rw [if_neg (by omega), hl, half_eq n (by omega) (by omega)]
   simp only [Option.bind_some, Int.toNat_natCast]
   rw [if_pos (by omega), if_pos (by omega), ih (hf n) (by omega) _ k t1 h3 (by omega) (hv.take _) (by omega)]
   simp only [Option.bind_some]
   rw [ih (n - hf n) (by omega) _ k t2 (by omega) (by omega) (hv.drop _) (by omega)]
   simp only [Option.bind_some]
   have ha := topL_32 (hv.take (hf n)) (by omega)
   have hb := topL_32 (hv.drop (hf n)) (by omega)
   rw [digest2 (by decide) ha.2 hb.2 (by omega), topL_node (l := l) (by omega), hl]
   rfl
/-- The error of leaves. -/
def lvE (l : List (List Int)) : Int := if l.length > 4096 then 2 else if l.all (fun x => decide (x.length = 32)) = true then 0 else 1
theorem all_drop {α : Type} (l : List α) (p : α → Bool) (d : α) (i : Nat) (h : i < l.length) : (l.drop i).all p = (p (l.getD i d) && (l.drop (i + 1)).all p) := by
 rw [List.drop_eq_getElem_cons h, List.all_cons, List.getD_eq_getElem?_getD, List.getElem?_eq_getElem h]
 rfl
theorem leaves_l (l : List (List Int)) (hl : l.length ≤ 100000) : ∀ (d k i : Nat), i + d = l.length → merkle_leaves.l0 (k + d + 1) l l.length i = some (if (l.drop i).all (fun x => decide (x.length = 32)) = true then 0 else 1) := by
 intro d
 induction d with
 | zero =>
  intro k i hi
  rw [merkle_leaves.l0, if_neg (by omega), List.drop_of_length_le (by omega)]
  rfl
 | succ d ih =>
  intro k i hi
  rw [show k + (d + 1) + 1 = (k + d + 1) + 1 by omega, merkle_leaves.l0, if_pos (by omega), if_pos (by omega), if_pos (by omega), all_drop l _ [] i (by omega), show rd_L1 l (i : Int) = l.getD i [] by unfold rd_L1; rw [Int.toNat_natCast], w64 (by omega) (by omega), show (i : Int) + 1 = ((i + 1 : Nat) : Int) by omega, ih k (i + 1) (by omega)]
  by_cases h : (l.getD i []).length = 32
  ·rw [if_pos (by omega), decide_eq_true h, Bool.true_and]
  ·rw [if_neg (by omega), decide_eq_false h, Bool.false_and]
   rfl
theorem leaves_eq (l : List (List Int)) (k : Nat) (hk : l.length < k) (hl : l.length ≤ 100000) : merkle_leaves.f k l = some (lvE l) := by
 unfold merkle_leaves.f lvE
 by_cases h : l.length > 4096
 ·rw [if_pos (by omega), if_pos h]
 ·rw [if_neg (by omega), if_neg h]
  have := leaves_l l hl l.length (k - l.length - 1) 0 (by omega)
  rw [show k - l.length - 1 + l.length + 1 = k by omega] at this
  exact this
theorem lvE_zero {l : List (List Int)} (hb : ∀ x ∈ l, ∀ y ∈ x, 0 ≤ y ∧ y < 256) : lvE l = 0 ↔ l.length ≤ 4096 ∧ Lv l := by
 unfold lvE
 constructor
 ·intro h
  split at h
  ·cases h
  ·split at h
   ·rename_i h1 h2
    refine ⟨by omega, fun x hx => ⟨?_, hb x hx⟩⟩
    have := List.all_eq_true.1 h2 x hx
    simpa using this
   ·cases h
 ·rintro ⟨h1, h2⟩
  rw [if_neg (by omega), if_pos (List.all_eq_true.2 fun x hx => decide_eq_true (h2 x hx).1)]
/-- A number in eight bytes. -/
def e8 (n : Int) : List Int := [n % 18446744073709551616 / 72057594037927936 % 256, n % 18446744073709551616 / 281474976710656 % 256, n % 18446744073709551616 / 1099511627776 % 256, n % 18446744073709551616 / 4294967296 % 256, n % 18446744073709551616 / 16777216 % 256, n % 18446744073709551616 / 65536 % 256, n % 18446744073709551616 / 256 % 256, n % 18446744073709551616 % 256]
theorem e8_bytes (n : Int) : ∀ y ∈ e8 n, 0 ≤ y ∧ y < 256 := by
 intro y hy
 simp only [e8, List.mem_cons, List.not_mem_nil, or_false] at hy
 rcases hy with h | h | h | h | h | h | h | h <;> omega
theorem e8_length (n : Int) : (e8 n).length = 8 := rfl
theorem shr64 (x : Int) (j : Nat) (hj : j < 64) : shr .u64 x (j : Int) = x / 2 ^ j := by
 unfold shr
 rw [show min (j : Int).toNat IntKind.u64.bits = j by rw [Int.toNat_natCast]; exact Nat.min_eq_left (by show j ≤ 64; omega)]
theorem eight_raw (k : Nat) (n : Int) : merkle_eight.f (k + 9) n = some [shr .u64 (IntKind.u64.wrap n) ((56 : Nat) : Int) % 256, shr .u64 (IntKind.u64.wrap n) ((48 : Nat) : Int) % 256, shr .u64 (IntKind.u64.wrap n) ((40 : Nat) : Int) % 256, shr .u64 (IntKind.u64.wrap n) ((32 : Nat) : Int) % 256, shr .u64 (IntKind.u64.wrap n) ((24 : Nat) : Int) % 256, shr .u64 (IntKind.u64.wrap n) ((16 : Nat) : Int) % 256, shr .u64 (IntKind.u64.wrap n) ((8 : Nat) : Int) % 256, shr .u64 (IntKind.u64.wrap n) ((0 : Nat) : Int) % 256] := by kernel_rfl
theorem eight_eq (k : Nat) (n : Int) (hk : 9 ≤ k) : merkle_eight.f k n = some (e8 n) := by
 obtain ⟨k, rfl⟩ : ∃ j, k = j + 9 := ⟨k - 9, by omega⟩
 rw [eight_raw]
 simp only [shr64 _ _ (show (56 : Nat) < 64 by decide), shr64 _ _ (show (48 : Nat) < 64 by decide), shr64 _ _ (show (40 : Nat) < 64 by decide), shr64 _ _ (show (32 : Nat) < 64 by decide), shr64 _ _ (show (24 : Nat) < 64 by decide), shr64 _ _ (show (16 : Nat) < 64 by decide), shr64 _ _ (show (8 : Nat) < 64 by decide), shr64 _ _ (show (0 : Nat) < 64 by decide)]
 unfold e8
 rw [show IntKind.u64.wrap n = n % 18446744073709551616 from rfl]
 simp
def tq (x : Int) : Int := IntKind.u64.wrap (Int.tdiv x 256)
theorem tq_eq {x : Int} (h : 0 ≤ x) (h' : x < 18446744073709551616) : tq x = x / 256 := by
 unfold tq
 rw [Int.tdiv_eq_ediv_of_nonneg h]
 show x / 256 % 18446744073709551616 = _
 omega
theorem tm_eq {x : Int} (h : 0 ≤ x) : Int.tmod x 256 % 256 = x % 256 := by rw [Int.tmod_eq_emod_of_nonneg h]; omega
/-- The root of leaves. -/
def rootL (l : List (List Int)) : List Int := dig (2 :: (e8 l.length ++ (if l.length = 0 then [] else topL l)))
theorem root_eq (k : Nat) (l : List (List Int)) (hl : l.length ≤ 100000) (hk : l.length + 9 ≤ k) (hb : ∀ x ∈ l, ∀ y ∈ x, 0 ≤ y ∧ y < 256) : merkle_Root.f k l = some (if lvE l = 0 then (rootL l, 0) else ([], lvE l)) := by
 unfold merkle_Root.f
 rw [leaves_eq l k (by omega) hl]
 simp only [Option.bind_some]
 by_cases h : lvE l = 0
 ·rw [if_pos h, if_pos h]
  have hv := (lvE_zero hb).1 h
  unfold rootL
  by_cases h0 : l.length = 0
  ·rw [if_pos (by omega), if_pos h0, eight_eq k 0 (by omega)]
   simp only [Option.bind_some]
   rw [digest1 (by decide) (e8_bytes 0) (by rw [e8_length]; omega), h0]
   simp
  ·rw [if_neg (by omega), if_neg h0, eight_eq k _ (by omega)]
   simp only [Option.bind_some]
   have ht := topL_32 hv.2 (by omega)
   rw [top_eq l.length l k rfl (by omega) hl hv.2 (by omega)]
   simp only [Option.bind_some]
   rw [digest2 (by decide) (e8_bytes _) ht.2 (by rw [e8_length]; omega)]
   rfl
 ·rw [if_neg h, if_neg h]
def BytesB (l : List Int) : Prop := ∀ y ∈ l, 0 ≤ y ∧ y < 256
theorem u8_inj {a b : Int} (ha : 0 ≤ a ∧ a < 256) (hb : 0 ≤ b ∧ b < 256) (h : UInt8.ofNat a.toNat = UInt8.ofNat b.toNat) : a = b := by
 have h1 := congrArg UInt8.toNat h
 simp only [UInt8.toNat_ofNat'] at h1
 omega
theorem strs_inj : ∀ {a b : List Int}, BytesB a → BytesB b → (a.map fun n => UInt8.ofNat n.toNat) = (b.map fun n => UInt8.ofNat n.toNat) → a = b
 | [], [], _, _, _ => rfl
 | [], _ :: _, _, _, h => by simp at h
 | _ :: _, [], _, _, h => by simp at h
 | x :: a, y :: b, ha, hb, h => by
  simp only [List.map_cons, List.cons.injEq] at h
  rw [u8_inj (ha x (by simp)) (hb y (by simp)) h.1, strs_inj (fun z hz => ha z (by simp [hz])) (fun z hz => hb z (by simp [hz])) h.2]
theorem bytesToList_inj {a b : ByteArray} (h : a.toList = b.toList) : a.data.toList = b.data.toList := by
 rwa [ByteArray.toList_eq, ByteArray.toList_eq] at h
theorem strs_eq {a b : List Int} (ha : BytesB a) (hb : BytesB b) : ((strOfNums a).toList = (strOfNums b).toList) ↔ a = b :=
 ⟨fun h => strs_inj ha hb (bytesToList_inj h), fun h => by rw [h]⟩
theorem strs_beq {a b : List Int} (ha : BytesB a) (hb : BytesB b) : ((strOfNums a).toList == (strOfNums b).toList) = decide (a = b) := by
 rw [Bool.eq_iff_iff, beq_iff_eq, decide_eq_true_iff]
 exact strs_eq ha hb
/-- For each step from the top down to a place: whether it goes into the second half. -/
def pathL (n p : Nat) : List Bool :=
 if _h : n ≤ 1 then [] else decide (hf n ≤ p) :: (if hf n ≤ p then pathL (n - hf n) (p - hf n) else pathL (hf n) p)
termination_by n
decreasing_by
 ·have := hf_pos n; omega
 ·have := hf_lt (n := n) (by omega); omega
theorem pathL_one {n : Nat} (h : n ≤ 1) (p : Nat) : pathL n p = [] := by rw [pathL, dif_pos h]
theorem pathL_left {n p : Nat} (h : 2 ≤ n) (hp : p < hf n) : pathL n p = false :: pathL (hf n) p := by rw [pathL, dif_neg (by omega), decide_eq_false (by omega), if_neg (by omega)]
theorem pathL_right {n p : Nat} (h : 2 ≤ n) (hp : hf n ≤ p) : pathL n p = true :: pathL (n - hf n) (p - hf n) := by rw [pathL, dif_neg (by omega), decide_eq_true hp, if_pos hp]
theorem pathL_length : ∀ (n p : Nat), (pathL n p).length ≤ n := by
 intro n
 induction n using Nat.strongRecOn with
 | _ n ih =>
  intro p
  by_cases h : n ≤ 1
  ·rw [pathL_one h]; simp
  ·have h1 := hf_pos n
   have h2 := hf_lt (n := n) (by omega)
   by_cases hp : p < hf n
   ·rw [pathL_left (by omega) hp, List.length_cons]; have := ih (hf n) h2 p; omega
   ·rw [pathL_right (by omega) (by omega), List.length_cons]; have := ih (n - hf n) (by omega) (p - hf n); omega
theorem path_l : ∀ (n p k : Nat) (acc : List Bool), n ≤ 100000 → acc.length + n ≤ 1000000 → p < 1000000 → n < k → merkle_path.l0 k n p acc = some (acc ++ pathL n p) := by
 intro n
 induction n using Nat.strongRecOn with
 | _ n ih =>
  intro p k acc h1 h2 hp hk
  obtain ⟨k, rfl⟩ : ∃ j, k = j + 1 := ⟨k - 1, by omega⟩
  rw [merkle_path.l0]
  by_cases h : n ≤ 1
  ·rw [if_neg (by omega), pathL_one h, List.append_nil]
  ·have h3 := hf_pos n
   have h4 := hf_lt (n := n) (by omega)
   rw [if_pos (by omega), half_eq n (by omega) (by omega)]
   simp only [Option.bind_some]
   rw [if_pos (by omega)]
   by_cases hq : p < hf n
   ·rw [if_neg (by omega), decide_eq_false (by omega), ih (hf n) h4 p k _ (by omega) (by simp; omega) hp (by omega), pathL_left (n := n) (p := p) (by omega) hq, List.append_assoc, List.singleton_append]
   ·rw [if_pos (by omega), decide_eq_true (by omega), w64 (x := (n : Int) - hf n) (by omega) (by omega), w64 (x := (p : Int) - hf n) (by omega) (by omega), show (n : Int) - hf n = ((n - hf n : Nat) : Int) by omega, show (p : Int) - hf n = ((p - hf n : Nat) : Int) by omega, ih (n - hf n) (by omega) (p - hf n) k _ (by omega) (by simp; omega) (by omega) (by omega), pathL_right (n := n) (p := p) (by omega) (by omega), List.append_assoc, List.singleton_append]
/-- One step up. -/
def stepU (x : List Int) (b : Bool × List Int) : List Int := if b.1 = true then dig (1 :: (b.2 ++ x)) else dig (1 :: (x ++ b.2))
/-- The top that comes of a leaf, its way and a proof. -/
def climbL (way : List Bool) (proof : List (List Int)) (x : List Int) : List Int := (way.reverse.zip proof).foldl stepU x
theorem climbL_snoc (r : Bool) (way : List Bool) (proof : List (List Int)) (y x : List Int) (h : proof.length = way.length) : climbL (r :: way) (proof ++ [y]) x = stepU (climbL way proof x) (r, y) := by
 unfold climbL
 rw [List.reverse_cons, List.zip_append (by simp [h]), List.foldl_append]
 rfl
theorem stepU_32 (x : List Int) (b : Bool × List Int) : (stepU x b).length = 32 ∧ BytesB (stepU x b) := by
 unfold stepU
 split
 ·exact ⟨dig_length _, dig_bytes _⟩
 ·exact ⟨dig_length _, dig_bytes _⟩
theorem check_l0 (root : List Int) (n p : Int) (leaf : List Int) (pr : List (List Int)) (hl : pr.length ≤ 1000000) (q : List (List Int)) (hq : q.length ≤ 1000000) : ∀ (d k i : Nat), i + d = q.length →
  merkle_Check.l0 (k + d + 1) root n p leaf pr false q q.length i = if (q.drop i).all (fun x => decide (x.length = 32)) = true then merkle_Check.j2 k root n p leaf pr false else merkle_Check.l0 (k + d + 1) root n p leaf pr false q q.length i := by
 intro d
 induction d with
 | zero =>
  intro k i hi
  rw [if_pos (by rw [List.drop_of_length_le (by omega)]; rfl)]
  rw [merkle_Check.l0, if_neg (by omega)]
 | succ d ih =>
  intro k i hi
  by_cases ha : (q.drop i).all (fun x => decide (x.length = 32)) = true
  ·rw [if_pos ha]
   rw [all_drop q _ [] i (by omega), Bool.and_eq_true] at ha
   have h1 : (q.getD i []).length = 32 := of_decide_eq_true ha.1
   rw [show k + (d + 1) + 1 = (k + d + 1) + 1 by omega, merkle_Check.l0, if_pos (by omega), if_pos (by omega), if_pos (by omega), show rd_L1 q (i : Int) = q.getD i [] by unfold rd_L1; rw [Int.toNat_natCast], if_pos (by omega), w64 (by omega) (by omega), show (i : Int) + 1 = ((i + 1 : Nat) : Int) by omega, ih k (i + 1) (by omega), if_pos ha.2]
  ·rw [if_neg ha]
theorem check_l0_bad (root : List Int) (n p : Int) (leaf : List Int) (pr : List (List Int)) (q : List (List Int)) (hq : q.length ≤ 1000000) : ∀ (d k i : Nat), i + d = q.length → ¬ (q.drop i).all (fun x => decide (x.length = 32)) = true →
  merkle_Check.l0 (k + d + 2) root n p leaf pr false q q.length i = some 1 := by
 intro d
 induction d with
 | zero =>
  intro k i hi ha
  rw [List.drop_of_length_le (by omega)] at ha
  exact absurd rfl ha
 | succ d ih =>
  intro k i hi ha
  rw [all_drop q _ [] i (by omega), Bool.and_eq_true] at ha
  rw [show k + (d + 1) + 2 = (k + d + 1) + 1 + 1 by omega, merkle_Check.l0, if_pos (by omega), if_pos (by omega), if_pos (by omega), show rd_L1 q (i : Int) = q.getD i [] by unfold rd_L1; rw [Int.toNat_natCast]]
  by_cases h1 : (q.getD i []).length = 32
  ·rw [if_pos (by omega), w64 (by omega) (by omega), show (i : Int) + 1 = ((i + 1 : Nat) : Int) by omega]
   exact ih k (i + 1) (by omega) (fun h => ha ⟨decide_eq_true h1, h⟩)
  ·rw [if_neg (by omega), merkle_Check.j2, if_pos rfl]
theorem check_l1 (root : List Int) (n : Nat) (way : List Bool) (pr : List (List Int)) (hw : pr.length = way.length) (hl : pr.length ≤ 100000) (hv : ∀ x ∈ pr, x.length = 32 ∧ BytesB x) (hrb : BytesB root) (leaf : List Int) (hlf : leaf.length = 32 ∧ BytesB leaf) : ∀ (d k i : Nat), i + d = pr.length → 10 ≤ k →
  merkle_Check.l1 (k + d + 1) root n way (((way.reverse.zip pr).take i).foldl stepU leaf) pr pr.length i = some (if dig (2 :: (e8 n ++ climbL way pr leaf)) = root then 0 else 50) := by
 have h32 : ∀ i, (((way.reverse.zip pr).take i).foldl stepU leaf).length = 32 ∧ BytesB (((way.reverse.zip pr).take i).foldl stepU leaf) := by
  intro i
  induction i with
  | zero => exact hlf
  | succ i ih =>
   rw [List.take_add_one, List.foldl_append]
   cases (way.reverse.zip pr)[i]? with
   | none => exact ih
   | some b => exact stepU_32 _ _
 have hzl : (way.reverse.zip pr).length = pr.length := by rw [List.length_zip, List.length_reverse]; omega
 intro d
 induction d with
 | zero =>
  intro k i hi hk
  have h1 := h32 i
  have e1 : ((way.reverse.zip pr).take i).foldl stepU leaf = climbL way pr leaf := by rw [List.take_of_length_le (by omega)]; rfl
  rw [e1] at h1 ⊢
  rw [merkle_Check.l1, if_neg (by omega), eight_eq k n (by omega)]
  simp only [Option.bind_some]
  rw [digest2 (by decide) (e8_bytes n) h1.2 (by rw [e8_length]; omega)]
  simp only [Option.bind_some, bytes_Equal.f]
  rw [strs_beq (dig_bytes _) hrb]
  by_cases h : dig (2 :: (e8 n ++ climbL way pr leaf)) = root
  ·rw [if_pos (decide_eq_true h), if_pos h]
  ·rw [decide_eq_false h, if_neg (by simp), if_neg h]
 | succ d ih =>
  intro k i hi hk
  have h1 := h32 i
  have hx : pr.getD i [] ∈ pr := by rw [List.getD_eq_getElem?_getD, List.getElem?_eq_getElem (by omega)]; exact List.getElem_mem _
  have hb := hv _ hx
  have eb : rd_L1 pr (i : Int) = pr.getD i [] := by unfold rd_L1; rw [Int.toNat_natCast]
  have ew : rdOf false way (wrap64 (wrap64 ((way.length : Int) - 1) - i)) = way.getD (way.length - 1 - i) false := by
   rw [w64 (x := (way.length : Int) - 1) (by omega) (by omega), w64 (by omega) (by omega), show (way.length : Int) - 1 - i = ((way.length - 1 - i : Nat) : Int) by omega]
   unfold rdOf
   rw [Int.toNat_natCast]
  have es : ((way.reverse.zip pr).take (i + 1)).foldl stepU leaf = stepU (((way.reverse.zip pr).take i).foldl stepU leaf) (way.getD (way.length - 1 - i) false, pr.getD i []) := by
   have eg : (way.reverse.zip pr)[i]? = some (way.getD (way.length - 1 - i) false, pr.getD i []) := by
    rw [List.getElem?_eq_getElem (by omega), List.getElem_zip, List.getElem_reverse, List.getD_eq_getElem?_getD, List.getD_eq_getElem?_getD, List.getElem?_eq_getElem (by omega), List.getElem?_eq_getElem (by omega)]
    rfl
   rw [List.take_add_one, eg, List.foldl_append]
   rfl
  have hn := ih k (i + 1) (by omega) hk
  rw [es] at hn
  generalize ((way.reverse.zip pr).take i).foldl stepU leaf = x at *
  have c1 : wrap64 (wrap64 ((way.length : Int) - 1) - i) = (way.length : Int) - 1 - i := by rw [w64 (x := (way.length : Int) - 1) (by omega) (by omega), w64 (by omega) (by omega)]
  rw [show k + (d + 1) + 1 = (k + d + 1) + 1 by omega, merkle_Check.l1, if_pos (by omega), if_pos (by omega), if_pos (by omega), if_pos (by omega), if_pos (by omega), ew, eb, w64 (x := (i : Int) + 1) (by omega) (by omega), show (i : Int) + 1 = ((i + 1 : Nat) : Int) by omega]
  unfold stepU at hn
  by_cases hw1 : way.getD (way.length - 1 - i) false = true
  ·rw [if_pos hw1, digest2 (by decide) hb.2 h1.2 (by omega)]
   simp only [Option.bind_some]
   rw [if_pos hw1] at hn
   exact hn
  ·rw [if_neg hw1, digest2 (by decide) h1.2 hb.2 (by omega)]
   simp only [Option.bind_some]
   rw [if_neg hw1] at hn
   exact hn
/-- Whether a proof is right. -/
def chkE (root : List Int) (n p : Int) (leaf : List Int) (pr : List (List Int)) : Int :=
 if n < 1 ∨ n > 4096 ∨ p < 0 ∨ p ≥ n ∨ root.length ≠ 32 ∨ leaf.length ≠ 32 ∨ ¬ pr.all (fun x => decide (x.length = 32)) = true then 1
 else if pr.length ≠ (pathL n.toNat p.toNat).length then 50
 else if dig (2 :: (e8 n ++ climbL (pathL n.toNat p.toNat) pr leaf)) = root then 0 else 50
theorem check_eq (root : List Int) (n p : Int) (leaf : List Int) (pr : List (List Int)) (hpl : pr.length ≤ 100000) (hr : BytesB root) (hlb : BytesB leaf) (hpb : ∀ x ∈ pr, BytesB x) (k : Nat) (hk : pr.length + 5000 ≤ k) :
  merkle_Check.f k root n p leaf pr = some (chkE root n p leaf pr) := by
 obtain ⟨k, rfl⟩ : ∃ j, k = j + 1 := ⟨k - 1, by omega⟩
 unfold merkle_Check.f chkE
 by_cases h1 : n < 1
 ·rw [if_pos h1, if_pos (.inl h1), merkle_Check.j0, if_pos rfl]
 by_cases h2 : n > 4096
 ·rw [if_neg h1, if_pos h2, if_pos (.inr (.inl h2)), merkle_Check.j0, if_pos rfl]
 by_cases h3 : p < 0
 ·rw [if_neg h1, if_neg h2, if_pos h3, if_pos (.inr (.inr (.inl h3))), merkle_Check.j0, if_pos rfl]
 by_cases h4 : p ≥ n
 ·rw [if_neg h1, if_neg h2, if_neg h3, if_pos h4, if_pos (.inr (.inr (.inr (.inl h4)))), merkle_Check.j0, if_pos rfl]
 by_cases h5 : root.length = 32
 case neg => rw [if_neg h1, if_neg h2, if_neg h3, if_neg h4, if_neg (by omega), if_pos (.inr (.inr (.inr (.inr (.inl h5))))), merkle_Check.j0, if_pos rfl]
 by_cases h6 : leaf.length = 32
 case neg =>
  have e : ((leaf.length : Int) != 32) = true := bne_iff_ne.2 (by omega)
  rw [if_neg h1, if_neg h2, if_neg h3, if_neg h4, if_pos (by omega), if_pos (.inr (.inr (.inr (.inr (.inr (.inl h6)))))), merkle_Check.j0, if_pos e]
 have e : ((leaf.length : Int) != 32) = false := bne_eq_false_iff_eq.2 (by omega)
 rw [if_neg h1, if_neg h2, if_neg h3, if_neg h4, if_pos (by omega), e, merkle_Check.j0, if_neg (by decide)]
 obtain ⟨n, rfl⟩ := Int.eq_ofNat_of_zero_le (show 0 ≤ n by omega)
 obtain ⟨p, rfl⟩ := Int.eq_ofNat_of_zero_le (show 0 ≤ p by omega)
 by_cases h7 : pr.all (fun x => decide (x.length = 32)) = true
 case neg =>
  rw [if_pos (.inr (.inr (.inr (.inr (.inr (.inr h7))))))]
  have := check_l0_bad root n p leaf pr pr (by omega) pr.length (k - pr.length - 2) 0 (by omega) h7
  rw [show k - pr.length - 2 + pr.length + 2 = k by omega] at this
  exact this
 have h0 := check_l0 root n p leaf pr (by omega) pr (by omega) pr.length (k - pr.length - 1) 0 (by omega)
 rw [show k - pr.length - 1 + pr.length + 1 = k by omega, List.drop_zero, if_pos h7] at h0
 rw [show (0 : Int) = ((0 : Nat) : Int) from rfl, h0]
 have hcond : ¬ ((n : Int) < 1 ∨ (n : Int) > 4096 ∨ (p : Int) < ((0 : Nat) : Int) ∨ (p : Int) ≥ n ∨ root.length ≠ 32 ∨ leaf.length ≠ 32 ∨ ¬ pr.all (fun x => decide (x.length = 32)) = true) := by
  rintro (h | h | h | h | h | h | h)
  ·exact h1 h
  ·exact h2 h
  ·exact h3 h
  ·exact h4 h
  ·exact h h5
  ·exact h h6
  ·exact h h7
 rw [if_neg hcond, Int.toNat_natCast, Int.toNat_natCast]
 obtain ⟨K, hK⟩ : ∃ K, k - pr.length - 1 = K + 1 := ⟨k - pr.length - 2, by omega⟩
 rw [hK, merkle_Check.j2, if_neg (by decide)]
 unfold merkle_path.f
 rw [path_l n p K [] (by omega) (by simp; omega) (by omega) (by omega)]
 simp only [Option.bind_some, List.nil_append]
 by_cases h8 : pr.length = (pathL n p).length
 ·rw [if_pos (by omega), if_neg (by omega)]
  have hvv : ∀ x ∈ pr, x.length = 32 ∧ BytesB x := fun x hx => ⟨by simpa using List.all_eq_true.1 h7 x hx, hpb x hx⟩
  have hpn := pathL_length n p
  have h9 := check_l1 root n (pathL n p) pr h8 (by omega) hvv hr leaf ⟨h6, hlb⟩ pr.length (K - pr.length - 1) 0 (by omega) (by omega)
  rw [show K - pr.length - 1 + pr.length + 1 = K by omega] at h9
  exact h9
 ·rw [if_neg (by omega), if_pos h8]
/-- The tops beside a place, the nearest first. -/
def walkL (l : List (List Int)) (p : Nat) : List (List Int) :=
 if _h : l.length ≤ 1 then [] else if hf l.length ≤ p then walkL (l.drop (hf l.length)) (p - hf l.length) ++ [topL (l.take (hf l.length))] else walkL (l.take (hf l.length)) p ++ [topL (l.drop (hf l.length))]
termination_by l.length
decreasing_by
 ·simp only [List.length_drop]; have := hf_pos l.length; omega
 ·simp only [List.length_take]; have := hf_lt (n := l.length) (by omega); omega
theorem walkL_one {l : List (List Int)} (h : l.length ≤ 1) (p : Nat) : walkL l p = [] := by rw [walkL, dif_pos h]
theorem walkL_left {l : List (List Int)} {p : Nat} (h : 2 ≤ l.length) (hp : p < hf l.length) : walkL l p = walkL (l.take (hf l.length)) p ++ [topL (l.drop (hf l.length))] := by rw [walkL, dif_neg (by omega), if_neg (by omega)]
theorem walkL_right {l : List (List Int)} {p : Nat} (h : 2 ≤ l.length) (hp : hf l.length ≤ p) : walkL l p = walkL (l.drop (hf l.length)) (p - hf l.length) ++ [topL (l.take (hf l.length))] := by rw [walkL, dif_neg (by omega), if_pos hp]
theorem walkL_length : ∀ (n : Nat) (l : List (List Int)) (p : Nat), l.length = n → (walkL l p).length = (pathL n p).length := by
 intro n
 induction n using Nat.strongRecOn with
 | _ n ih =>
  intro l p hl
  by_cases h : n ≤ 1
  ·rw [walkL_one (by omega), pathL_one h]; rfl
  ·have h3 := hf_pos n
   have h4 := hf_lt (n := n) (by omega)
   by_cases hp : p < hf n
   ·rw [walkL_left (by omega) (by rw [hl]; exact hp), pathL_left (by omega) hp, List.length_append, List.length_cons, hl, ih (hf n) h4 _ p (by rw [List.length_take]; omega)]; simp
   ·rw [walkL_right (by omega) (by rw [hl]; omega), pathL_right (by omega) (by omega), List.length_append, List.length_cons, hl, ih (n - hf n) (by omega) _ (p - hf n) (by rw [List.length_drop]; omega)]; simp
theorem walkL_32 : ∀ (n : Nat) (l : List (List Int)) (p : Nat), l.length = n → Lv l → Lv (walkL l p) := by
 intro n
 induction n using Nat.strongRecOn with
 | _ n ih =>
  intro l p hl hv
  by_cases h : n ≤ 1
  ·rw [walkL_one (by omega)]; intro x hx; cases hx
  ·have h3 := hf_pos n
   have h4 := hf_lt (n := n) (by omega)
   have t1 : (l.take (hf n)).length = hf n := by rw [List.length_take]; omega
   have t2 : (l.drop (hf n)).length = n - hf n := by rw [List.length_drop]; omega
   intro x hx
   by_cases hp : p < hf n
   ·rw [walkL_left (by omega) (by rw [hl]; exact hp), hl, List.mem_append, List.mem_singleton] at hx
    rcases hx with hx | rfl
    ·exact ih (hf n) h4 _ p t1 (hv.take _) x hx
    ·exact topL_32 (hv.drop _) (by omega)
   ·rw [walkL_right (by omega) (by rw [hl]; omega), hl, List.mem_append, List.mem_singleton] at hx
    rcases hx with hx | rfl
    ·exact ih (n - hf n) (by omega) _ _ t2 (hv.drop _) x hx
    ·exact topL_32 (hv.take _) (by omega)
theorem sum_ge (l : List (List Int)) : l.length ≤ (l.map (fun x => x.length + 1)).sum := by
 induction l with
 | nil => simp
 | cons x l ih => simp only [List.map_cons, List.sum_cons, List.length_cons]; omega
theorem byte_of {x : Int} (h : (Lit.int .u8 x).wf = true) : 0 ≤ x ∧ x < 256 := by
 simp [Lit.wf, IntKind.min, IntKind.max, IntKind.bits, IntKind.signed] at h
 omega
theorem row_bytes {l : List (List Int)} (g : ∀ x ∈ l, (∀ y ∈ x, (Lit.int .u8 y).wf = true) ∧ x.length * 1 ≤ 140737488351232) : ∀ x ∈ l, ∀ y ∈ x, 0 ≤ y ∧ y < 256 := fun x hx y hy => byte_of ((g x hx).1 y hy)
theorem row_len {l : List (List Int)} (g : ∀ x ∈ l, (∀ y ∈ x, (Lit.int .u8 y).wf = true) ∧ x.length * 1 ≤ 140737488351232) : ∀ x ∈ l, x.length ≤ 140737488355328 := fun x hx => by have := (g x hx).2; omega
theorem hash_eq {t : List Int} (hb : BytesB t) (hl : t.length ≤ 1048576) : imprimaturref02_Hash256.f t = some (dig t) := by
 unfold imprimaturref02_Hash256.f
 rw [if_pos ⟨isBytes_of hb, hl⟩]
/-- All texts that are digested for the top of leaves. -/
def textsL (l : List (List Int)) : List (List Int) :=
 if _h : l.length ≤ 1 then [] else textsL (l.take (hf l.length)) ++ textsL (l.drop (hf l.length)) ++ [1 :: (topL (l.take (hf l.length)) ++ topL (l.drop (hf l.length)))]
termination_by l.length
decreasing_by
 ·simp only [List.length_take]; have := hf_lt (n := l.length) (by omega); omega
 ·simp only [List.length_drop]; have := hf_pos l.length; omega
theorem textsL_one {l : List (List Int)} (h : l.length ≤ 1) : textsL l = [] := by rw [textsL, dif_pos h]
theorem textsL_node {l : List (List Int)} (h : 2 ≤ l.length) : textsL l = textsL (l.take (hf l.length)) ++ textsL (l.drop (hf l.length)) ++ [1 :: (topL (l.take (hf l.length)) ++ topL (l.drop (hf l.length)))] := by rw [textsL, dif_neg (by omega)]
theorem textsL_ok : ∀ (n : Nat) (l : List (List Int)), l.length = n → Lv l → (textsL l).length ≤ n - 1 ∧ ∀ t ∈ textsL l, BytesB t ∧ t.length = 65 := by
 intro n
 induction n using Nat.strongRecOn with
 | _ n ih =>
  intro l hl hv
  by_cases h : n ≤ 1
  ·rw [textsL_one (by omega)]; exact ⟨by simp, fun t ht => by cases ht⟩
  ·have h3 := hf_pos n
   have h4 := hf_lt (n := n) (by omega)
   have t1 : (l.take (hf n)).length = hf n := by rw [List.length_take]; omega
   have t2 : (l.drop (hf n)).length = n - hf n := by rw [List.length_drop]; omega
   have h5 := topL_32 (hv.take (hf n)) (by omega)
   have h6 := topL_32 (hv.drop (hf n)) (by omega)
   have a1 := ih (hf n) h4 _ t1 (hv.take _)
   have a2 := ih (n - hf n) (by omega) _ t2 (hv.drop _)
   rw [textsL_node (by omega), hl]
   refine ⟨?_, fun t ht => ?_⟩
   ·simp only [List.length_append, List.length_singleton]; omega
   ·rw [List.mem_append, List.mem_append, List.mem_singleton] at ht
    rcases ht with (ht | ht) | rfl
    ·exact a1.2 t ht
    ·exact a2.2 t ht
    ·exact ⟨isBytes_cons (by decide) (isBytes_app h5.2 h6.2), by simp [h5.1, h6.1]⟩
/-- What the document climbs: the top, the texts, whether the proof has as many as it must. -/
def upT (n p : Nat) (leaf : List Int) (pr : List (List Int)) : List Int × List (List Int) × Bool :=
 if _h : n ≤ 1 then (leaf, [], decide (pr.length = 0)) else if pr.length = 0 then ([], [], false)
 else if hf n ≤ p then (let u := upT (n - hf n) (p - hf n) leaf (pr.take (pr.length - 1)); (dig (1 :: (pr.getD (pr.length - 1) [] ++ u.1)), u.2.1 ++ [1 :: (pr.getD (pr.length - 1) [] ++ u.1)], u.2.2))
 else (let u := upT (hf n) p leaf (pr.take (pr.length - 1)); (dig (1 :: (u.1 ++ pr.getD (pr.length - 1) [])), u.2.1 ++ [1 :: (u.1 ++ pr.getD (pr.length - 1) [])], u.2.2))
termination_by n
decreasing_by
 ·have := hf_pos n; omega
 ·have := hf_lt (n := n) (by omega); omega
theorem upT_one {n : Nat} (h : n ≤ 1) (p : Nat) (leaf : List Int) (pr : List (List Int)) : upT n p leaf pr = (leaf, [], decide (pr.length = 0)) := by rw [upT, dif_pos h]
theorem upT_none {n : Nat} (h : 2 ≤ n) (p : Nat) (leaf : List Int) (pr : List (List Int)) (h0 : pr.length = 0) : upT n p leaf pr = ([], [], false) := by rw [upT, dif_neg (by omega), if_pos h0]
theorem upT_right {n p : Nat} (h : 2 ≤ n) (hp : hf n ≤ p) (leaf : List Int) (pr : List (List Int)) (h0 : pr.length ≠ 0) : upT n p leaf pr = (dig (1 :: (pr.getD (pr.length - 1) [] ++ (upT (n - hf n) (p - hf n) leaf (pr.take (pr.length - 1))).1)), (upT (n - hf n) (p - hf n) leaf (pr.take (pr.length - 1))).2.1 ++ [1 :: (pr.getD (pr.length - 1) [] ++ (upT (n - hf n) (p - hf n) leaf (pr.take (pr.length - 1))).1)], (upT (n - hf n) (p - hf n) leaf (pr.take (pr.length - 1))).2.2) := by
 rw [upT, dif_neg (by omega), if_neg h0, if_pos hp]
theorem upT_left {n p : Nat} (h : 2 ≤ n) (hp : p < hf n) (leaf : List Int) (pr : List (List Int)) (h0 : pr.length ≠ 0) : upT n p leaf pr = (dig (1 :: ((upT (hf n) p leaf (pr.take (pr.length - 1))).1 ++ pr.getD (pr.length - 1) [])), (upT (hf n) p leaf (pr.take (pr.length - 1))).2.1 ++ [1 :: ((upT (hf n) p leaf (pr.take (pr.length - 1))).1 ++ pr.getD (pr.length - 1) [])], (upT (hf n) p leaf (pr.take (pr.length - 1))).2.2) := by
 rw [upT, dif_neg (by omega), if_neg h0, if_neg (by omega)]
theorem getD_mem' {l : List (List Int)} {i : Nat} (h : i < l.length) : l.getD i [] ∈ l := by rw [List.getD_eq_getElem?_getD, List.getElem?_eq_getElem h]; exact List.getElem_mem _
theorem upT_ok : ∀ (n p : Nat) (leaf : List Int) (pr : List (List Int)), leaf.length = 32 ∧ BytesB leaf → Lv pr → ((upT n p leaf pr).1.length ≤ 32 ∧ BytesB (upT n p leaf pr).1) ∧ (upT n p leaf pr).2.1.length ≤ pr.length ∧ (∀ t ∈ (upT n p leaf pr).2.1, BytesB t ∧ t.length ≤ 65) ∧ (upT n p leaf pr).2.2 = decide (pr.length = (pathL n p).length) ∧ ((upT n p leaf pr).2.2 = true → (upT n p leaf pr).1 = climbL (pathL n p) pr leaf ∧ (upT n p leaf pr).1.length = 32) := by
 intro n
 induction n using Nat.strongRecOn with
 | _ n ih =>
  intro p leaf pr hl hv
  by_cases h : n ≤ 1
  ·rw [upT_one h, pathL_one h]
   refine ⟨⟨by show leaf.length ≤ 32; omega, hl.2⟩, Nat.zero_le _, (fun t ht => by cases ht), rfl, fun hd => ?_⟩
   have h0 : pr.length = 0 := of_decide_eq_true hd
   obtain rfl := List.length_eq_zero_iff.1 h0
   exact ⟨rfl, hl.1⟩
  ·have h3 := hf_pos n
   have h4 := hf_lt (n := n) (by omega)
   by_cases h0 : pr.length = 0
   ·rw [upT_none (by omega) p leaf pr h0]
    refine ⟨⟨Nat.zero_le _, fun y hy => by cases hy⟩, Nat.zero_le _, (fun t ht => by cases ht), ?_, fun hd => by cases hd⟩
    by_cases hp : p < hf n
    ·rw [pathL_left (by omega) hp, List.length_cons, decide_eq_false (by omega)]
    ·rw [pathL_right (by omega) (by omega), List.length_cons, decide_eq_false (by omega)]
   have hlast := hv _ (getD_mem' (l := pr) (i := pr.length - 1) (by omega))
   have htl : (pr.take (pr.length - 1)).length = pr.length - 1 := by rw [List.length_take]; omega
   have hsnoc : pr = pr.take (pr.length - 1) ++ [pr.getD (pr.length - 1) []] := by
    have h1 := take_next pr [] (pr.length - 1) (by omega)
    rw [show pr.length - 1 + 1 = pr.length by omega, List.take_length] at h1
    exact h1
   by_cases hp : p < hf n
   ·have u := ih (hf n) h4 p leaf (pr.take (pr.length - 1)) hl (hv.take _)
    rw [upT_left (by omega) hp leaf pr h0, pathL_left (by omega) hp]
    obtain ⟨⟨u1, u2⟩, u3, u4, u5, u6⟩ := u
    refine ⟨⟨by show (dig _).length ≤ 32; rw [dig_length]; omega, dig_bytes _⟩, ?_, fun t ht => ?_, ?_, fun hd => ?_⟩
    ·show (_ ++ _ : List (List Int)).length ≤ _
     rw [List.length_append, List.length_singleton]; omega
    ·simp only [List.mem_append, List.mem_singleton] at ht
     rcases ht with ht | rfl
     ·exact u4 t ht
     ·exact ⟨isBytes_cons (by decide) (isBytes_app u2 hlast.2), by simp only [List.length_cons, List.length_append]; omega⟩
    ·show (upT (hf n) p leaf (pr.take (pr.length - 1))).2.2 = _
     rw [u5, htl, List.length_cons, decide_eq_decide]; omega
    ·have hd2 : (upT (hf n) p leaf (pr.take (pr.length - 1))).2.2 = true := hd
     have u7 := u6 hd2
     rw [u5] at hd2
     have hd3 := of_decide_eq_true hd2
     refine ⟨?_, dig_length _⟩
     show dig (1 :: ((upT (hf n) p leaf (pr.take (pr.length - 1))).1 ++ pr.getD (pr.length - 1) [])) = _
     rw [u7.1]
     have h9 := climbL_snoc false (pathL (hf n) p) (pr.take (pr.length - 1)) (pr.getD (pr.length - 1) []) leaf hd3
     rw [← hsnoc] at h9
     rw [h9]
     rfl
   ·have u := ih (n - hf n) (by omega) (p - hf n) leaf (pr.take (pr.length - 1)) hl (hv.take _)
    rw [upT_right (by omega) (by omega) leaf pr h0, pathL_right (by omega) (by omega)]
    obtain ⟨⟨u1, u2⟩, u3, u4, u5, u6⟩ := u
    refine ⟨⟨by show (dig _).length ≤ 32; rw [dig_length]; omega, dig_bytes _⟩, ?_, fun t ht => ?_, ?_, fun hd => ?_⟩
    ·show (_ ++ _ : List (List Int)).length ≤ _
     rw [List.length_append, List.length_singleton]; omega
    ·simp only [List.mem_append, List.mem_singleton] at ht
     rcases ht with ht | rfl
     ·exact u4 t ht
     ·exact ⟨isBytes_cons (by decide) (isBytes_app hlast.2 u2), by simp only [List.length_cons, List.length_append]; omega⟩
    ·show (upT (n - hf n) (p - hf n) leaf (pr.take (pr.length - 1))).2.2 = _
     rw [u5, htl, List.length_cons, decide_eq_decide]; omega
    ·have hd2 : (upT (n - hf n) (p - hf n) leaf (pr.take (pr.length - 1))).2.2 = true := hd
     have u7 := u6 hd2
     rw [u5] at hd2
     have hd3 := of_decide_eq_true hd2
     refine ⟨?_, dig_length _⟩
     show dig (1 :: (pr.getD (pr.length - 1) [] ++ (upT (n - hf n) (p - hf n) leaf (pr.take (pr.length - 1))).1)) = _
     rw [u7.1]
     have h9 := climbL_snoc true (pathL (n - hf n) (p - hf n)) (pr.take (pr.length - 1)) (pr.getD (pr.length - 1) []) leaf hd3
     rw [← hsnoc] at h9
     rw [h9]
     rfl
/-- No two texts that are unlike have one digest. -/
def Inj (S : List (List Int)) : Prop := ∀ x ∈ S, ∀ y ∈ S, dig x = dig y → x = y
theorem Inj.sub {S T : List (List Int)} (h : Inj S) (hT : ∀ x ∈ T, x ∈ S) : Inj T := fun x hx y hy e => h x (hT x hx) y (hT y hy) e
theorem topL_nil {l : List (List Int)} (h : l.length = 0) : topL l = [] := by rw [topL, dif_pos (by omega), List.length_eq_zero_iff.1 h]; rfl
theorem rootL_eq (l : List (List Int)) : rootL l = dig (2 :: (e8 l.length ++ topL l)) := by
 unfold rootL
 by_cases h : l.length = 0
 ·rw [if_pos h, topL_nil h]
 ·rw [if_neg h]
theorem topL_le {l : List (List Int)} (h : Lv l) : (topL l).length ≤ 32 ∧ BytesB (topL l) := by
 by_cases h0 : l.length = 0
 ·rw [topL_nil h0]; exact ⟨by simp, fun y hy => by cases hy⟩
 ·have := topL_32 h (by omega); exact ⟨by omega, this.2⟩
/-- The texts of the fixed calls. -/
def fixT : List (List Int) := [0 :: (e8 0 ++ [5]), 2 :: (e8 1 ++ dig (0 :: (e8 0 ++ [5])))]
theorem e8_inj {a b : Int} (ha : 0 ≤ a ∧ a ≤ 60000) (hb : 0 ≤ b ∧ b ≤ 60000) (h : e8 a = e8 b) : a = b := by
 simp only [e8, List.cons.injEq, and_true] at h
 obtain ⟨_, _, _, _, _, _, h7, h8⟩ := h
 omega
theorem only_climb : ∀ (n : Nat) (l : List (List Int)) (p : Nat) (leaf : List Int) (pr : List (List Int)), l.length = n → p < n → Lv l → Lv pr → (leaf.length = 32 ∧ BytesB leaf) → pr.length = (pathL n p).length → (upT n p leaf pr).1 = topL l → Inj ((upT n p leaf pr).2.1 ++ textsL l) → leaf = l.getD p [] ∧ pr = walkL l p := by
 intro n
 induction n using Nat.strongRecOn with
 | _ n ih =>
  intro l p leaf pr hl hp hv hpv hlf hlen he hI
  by_cases h : n ≤ 1
  ·rw [upT_one h, topL_one (by omega)] at he
   rw [pathL_one h] at hlen
   rw [walkL_one (by omega), show p = 0 by omega]
   exact ⟨he, List.length_eq_zero_iff.1 hlen⟩
  ·have h3 := hf_pos n
   have h4 := hf_lt (n := n) (by omega)
   have t1 : (l.take (hf n)).length = hf n := by rw [List.length_take]; omega
   have t2 : (l.drop (hf n)).length = n - hf n := by rw [List.length_drop]; omega
   have ha := topL_32 (hv.take (hf n)) (by omega)
   have hb := topL_32 (hv.drop (hf n)) (by omega)
   have htn := topL_node (l := l) (by omega)
   have htx := textsL_node (l := l) (by omega)
   rw [hl] at htn htx
   by_cases hq : p < hf n
   ·rw [pathL_left (by omega) hq, List.length_cons] at hlen
    have h0 : pr.length ≠ 0 := by omega
    have htl : (pr.take (pr.length - 1)).length = (pathL (hf n) p).length := by rw [List.length_take]; omega
    have hlast := hpv _ (getD_mem' (l := pr) (i := pr.length - 1) (by omega))
    have hsnoc : pr = pr.take (pr.length - 1) ++ [pr.getD (pr.length - 1) []] := by
     have h1 := take_next pr [] (pr.length - 1) (by omega)
     rw [show pr.length - 1 + 1 = pr.length by omega, List.take_length] at h1
     exact h1
    have u := upT_ok (hf n) p leaf (pr.take (pr.length - 1)) hlf (hpv.take _)
    have u5 := u.2.2.2.1
    rw [htl, decide_eq_true rfl] at u5
    have u6 := (u.2.2.2.2 u5).2
    rw [upT_left (by omega) hq leaf pr h0] at he hI
    simp only at he hI
    rw [htn] at he
    rw [htx] at hI
    have hE := hI _ (by simp) _ (by simp) he
    have hE2 := (List.cons.inj hE).2
    obtain ⟨hE3, hE4⟩ := List.append_inj hE2 (by rw [u6, ha.1])
    have hr := ih (hf n) h4 (l.take (hf n)) p leaf (pr.take (pr.length - 1)) t1 hq (hv.take _) (hpv.take _) hlf htl hE3 (hI.sub fun x hx => by
     simp only [List.mem_append] at hx ⊢
     rcases hx with hx | hx
     ·exact .inl (.inl hx)
     ·exact .inr (.inl (.inl hx)))
    refine ⟨?_, ?_⟩
    ·rw [hr.1, List.getD_eq_getElem?_getD, List.getD_eq_getElem?_getD, List.getElem?_take, if_pos hq]
    ·rw [walkL_left (l := l) (p := p) (by omega) (by rw [hl]; exact hq), hl, ← hr.2, ← hE4]
     exact hsnoc
   ·rw [pathL_right (by omega) (by omega), List.length_cons] at hlen
    have h0 : pr.length ≠ 0 := by omega
    have htl : (pr.take (pr.length - 1)).length = (pathL (n - hf n) (p - hf n)).length := by rw [List.length_take]; omega
    have hlast := hpv _ (getD_mem' (l := pr) (i := pr.length - 1) (by omega))
    have hsnoc : pr = pr.take (pr.length - 1) ++ [pr.getD (pr.length - 1) []] := by
     have h1 := take_next pr [] (pr.length - 1) (by omega)
     rw [show pr.length - 1 + 1 = pr.length by omega, List.take_length] at h1
     exact h1
    rw [upT_right (by omega) (by omega) leaf pr h0] at he hI
    simp only at he hI
    rw [htn] at he
    rw [htx] at hI
    have hE := hI _ (by simp) _ (by simp) he
    have hE2 := (List.cons.inj hE).2
    obtain ⟨hE3, hE4⟩ := List.append_inj hE2 (by rw [hlast.1, ha.1])
    have hr := ih (n - hf n) (by omega) (l.drop (hf n)) (p - hf n) leaf (pr.take (pr.length - 1)) t2 (by omega) (hv.drop _) (hpv.take _) hlf htl hE4 (hI.sub fun x hx => by
     simp only [List.mem_append] at hx ⊢
     rcases hx with hx | hx
     ·exact .inl (.inl hx)
     ·exact .inr (.inl (.inr hx)))
    refine ⟨?_, ?_⟩
    ·rw [hr.1, List.getD_eq_getElem?_getD, List.getD_eq_getElem?_getD, List.getElem?_drop, show hf n + (p - hf n) = p by omega]
    ·rw [walkL_right (l := l) (p := p) (by omega) (by rw [hl]; omega), hl, ← hr.2, ← hE3]
     exact hsnoc
end Go.Proofs.YtdpdmmbdoeefbaaDoor.PCut
namespace Go.Proofs.YtdpdmmbdoeefbaaDoor.PCs
open Go.RowKit Go.Proofs.YtdpdmmbdoeefbaaDoorW.PrintWords Go.Proofs.YtdpdmmbdoeefbaaDoorW.PrintLast Go.Proofs.YtdpdmmbdoeefbaaDoorW.PrintMore Go.Proofs.YtdpdmmbdoeefbaaDoor.X Go.Proofs.YtdpdmmbdoeefbaaDoor.PCut
/-- How many bytes texts have, as far as most. -/
theorem size_l (l : List (List Int)) (m : Nat) (hm : m ≤ 10000) (hb : ∀ x ∈ l, x.length ≤ 140737488355328) : ∀ (d k i : Nat) (n : Int), i + d = l.length → 0 ≤ n → n ≤ m + 140737488355329 → i ≤ n →
  ∃ r, imprimaturref06_Size.l0 (k + d + 1) l m n i = some r ∧ (r ≤ m → n + (((l.drop i).map (fun x => x.length + 1)).sum : Nat) ≤ m ∧ r = n + (((l.drop i).map (fun x => x.length + 1)).sum : Nat)) := by
 intro d
 induction d with
 | zero =>
  intro k i n hi h0 h1 h2
  rw [imprimaturref06_Size.l0, if_neg (by omega)]
  exact ⟨n, rfl, fun h => by rw [List.drop_of_length_le (by omega)]; simpa using h⟩
 | succ d ih =>
  intro k i n hi h0 h1 h2
  rw [show k + (d + 1) + 1 = (k + d + 1) + 1 by omega, imprimaturref06_Size.l0, if_pos (by omega)]
  by_cases h : n ≤ m
  ·have hx := hb (l.getD i []) (by rw [List.getD_eq_getElem?_getD, List.getElem?_eq_getElem (by omega)]; exact List.getElem_mem _)
   rw [if_pos h, if_pos (by omega), show rd_L1 l (i : Int) = l.getD i [] by unfold rd_L1; rw [Int.toNat_natCast], w64 (x := n + 1) (by omega) (by omega), w64 (x := n + 1 + ((l.getD i []).length : Int)) (by omega) (by omega), w64 (x := (i : Int) + 1) (by omega) (by omega), show (i : Int) + 1 = ((i + 1 : Nat) : Int) by omega]
   obtain ⟨r, hr, hs⟩ := ih k (i + 1) (n + 1 + ((l.getD i []).length : Int)) (by omega) (by omega) (by omega) (by omega)
   refine ⟨r, hr, fun hrm => ?_⟩
   have := hs hrm
   rw [List.drop_eq_getElem_cons (show i < l.length by omega), List.map_cons, List.sum_cons]
   have e : l[i] = l.getD i [] := by rw [List.getD_eq_getElem?_getD, List.getElem?_eq_getElem (by omega)]; rfl
   rw [e]
   omega
  ·rw [if_neg h]
   exact ⟨n, rfl, fun h' => absurd h' h⟩
theorem size_eq (l : List (List Int)) (m : Nat) (hm : m ≤ 10000) (hb : ∀ x ∈ l, x.length ≤ 140737488355328) (hl : l.length ≤ 5864062014805) (k : Nat) (hk : l.length < k) :
  ∃ r, imprimaturref06_Size.f k l m = some r ∧ (r ≤ m → l.length ≤ m ∧ (l.map (fun x => x.length + 1)).sum ≤ m) := by
 unfold imprimaturref06_Size.f
 obtain ⟨r, hr, hs⟩ := size_l l m hm hb l.length (k - l.length - 1) 0 0 (by omega) (by omega) (by omega) (by omega)
 rw [show k - l.length - 1 + l.length + 1 = k by omega] at hr
 refine ⟨r, hr, fun h => ?_⟩
 have := hs h
 have h2 := sum_ge l
 rw [List.drop_zero] at this
 omega
theorem same_dl (a b : List (List Int)) (ha : ∀ x ∈ a, BytesB x) (hb : ∀ x ∈ b, BytesB x) (hl : a.length = b.length) (hal : a.length ≤ 100000) : ∀ (d k i : Nat), i + d = a.length → imprimaturref06_Same.l0 (k + d + 1) a b i = some (decide (a.drop i = b.drop i)) := by
 intro d
 induction d with
 | zero =>
  intro k i hi
  rw [imprimaturref06_Same.l0, if_neg (by omega), List.drop_of_length_le (by omega), List.drop_of_length_le (by omega), decide_eq_true rfl]
 | succ d ih =>
  intro k i hi
  rw [show k + (d + 1) + 1 = (k + d + 1) + 1 by omega, imprimaturref06_Same.l0, if_pos (by omega), if_pos (by omega), if_pos (by omega), show rd_L1 a (i : Int) = a.getD i [] by unfold rd_L1; rw [Int.toNat_natCast], show rd_L1 b (i : Int) = b.getD i [] by unfold rd_L1; rw [Int.toNat_natCast]]
  have ea : a.drop i = a.getD i [] :: a.drop (i + 1) := by
   rw [List.drop_eq_getElem_cons (show i < a.length by omega), List.getD_eq_getElem?_getD, List.getElem?_eq_getElem (by omega)]; rfl
  have eb : b.drop i = b.getD i [] :: b.drop (i + 1) := by
   rw [List.drop_eq_getElem_cons (show i < b.length by omega), List.getD_eq_getElem?_getD, List.getElem?_eq_getElem (by omega)]; rfl
  rw [ea, eb]
  by_cases h : a.getD i [] = b.getD i []
  ·rw [if_pos ((strs_eq (ha _ (getD_mem' (by omega))) (hb _ (getD_mem' (by omega)))).2 h), w64 (by omega) (by omega), show (i : Int) + 1 = ((i + 1 : Nat) : Int) by omega, ih k (i + 1) (by omega), h]
   congr 1
   rw [decide_eq_decide, List.cons.injEq]
   simp
  ·rw [if_neg (fun e => h ((strs_eq (ha _ (getD_mem' (by omega))) (hb _ (getD_mem' (by omega)))).1 e)), decide_eq_false (fun e => h (List.cons.inj e).1)]
theorem same_dec (a b : List (List Int)) (ha : ∀ x ∈ a, BytesB x) (hb : ∀ x ∈ b, BytesB x) (hal : a.length ≤ 100000) (k : Nat) (hk : a.length < k) : imprimaturref06_Same.f k a b = some (decide (a = b)) := by
 unfold imprimaturref06_Same.f
 by_cases h : a.length = b.length
 ·rw [if_pos (by omega)]
  have := same_dl a b ha hb h hal a.length (k - a.length - 1) 0 (by omega)
  rw [show k - a.length - 1 + a.length + 1 = k by omega] at this
  exact this
 ·rw [if_neg (by omega), decide_eq_false (fun e => h (by rw [e]))]
end Go.Proofs.YtdpdmmbdoeefbaaDoor.PCs
namespace Go.Proofs.YtdpdmmbdoeefbaaDoor.PCo
open Go.RowKit Go.Proofs.YtdpdmmbdoeefbaaDoorW.PrintWords Go.Proofs.YtdpdmmbdoeefbaaDoorW.PrintLast Go.Proofs.YtdpdmmbdoeefbaaDoorW.PrintMore Go.Proofs.YtdpdmmbdoeefbaaDoor.X Go.Proofs.YtdpdmmbdoeefbaaDoor.PCut Go.Proofs.YtdpdmmbdoeefbaaDoor.PCs
theorem refhalf_l (n : Nat) (h : 2 ≤ n) (h' : n ≤ 1000000) : ∀ (d j k : Nat), j + d = Nat.log2 (n - 1) → imprimaturref06_Half.l0 (k + d + 1) n ((2 ^ j : Nat) : Int) = some (hf n : Int) := by
 intro d
 induction d with
 | zero =>
  intro j k hj
  have h5 := hf_lt h
  have h6 := hf_le h
  obtain rfl : j = Nat.log2 (n - 1) := by omega
  rw [show (2 ^ Nat.log2 (n - 1) : Nat) = hf n from rfl, imprimaturref06_Half.l0, w64 (x := (hf n : Int) * 2) (by omega) (by omega), if_neg (by omega)]
 | succ d ih =>
  intro j k hj
  have h7 : 2 ^ (j + 1) ≤ n - 1 := (Nat.le_log2 (by omega)).1 (by omega)
  have h8 : (((2 ^ j : Nat) : Int) * 2) = ((2 ^ (j + 1) : Nat) : Int) := by rw [Nat.pow_succ]; simp
  have h9 := ih (j + 1) k (by omega)
  rw [show k + (d + 1) + 1 = (k + d + 1) + 1 by omega, imprimaturref06_Half.l0, h8]
  generalize 2 ^ (j + 1) = P at *
  rw [w64 (x := (P : Int)) (by omega) (by omega), if_pos (by omega)]
  exact h9
theorem refhalf_eq (n : Nat) (h : 2 ≤ n) (h' : n ≤ 1000000) (k : Nat) (hk : 30 ≤ k) : imprimaturref06_Half.f k (n : Int) = some (hf n : Int) := by
 have hl : Nat.log2 (n - 1) < 20 := by
  rw [Nat.log2_lt (by omega)]
  have : (2:Nat) ^ 20 = 1048576 := by decide
  omega
 have := refhalf_l n h h' (Nat.log2 (n - 1)) 0 (k - Nat.log2 (n - 1) - 1) (by omega)
 rw [show k - Nat.log2 (n - 1) - 1 + Nat.log2 (n - 1) + 1 = k by omega] at this
 exact this
theorem refok_l (l : List (List Int)) (hl : l.length ≤ 100000) : ∀ (d k i : Nat), i + d = l.length → imprimaturref06_ok.l0 (k + d + 1) l i = some (if (l.drop i).all (fun x => decide (x.length = 32)) = true then 0 else 1) := by
 intro d
 induction d with
 | zero =>
  intro k i hi
  rw [imprimaturref06_ok.l0, if_neg (by omega), List.drop_of_length_le (by omega)]
  rfl
 | succ d ih =>
  intro k i hi
  rw [show k + (d + 1) + 1 = (k + d + 1) + 1 by omega, imprimaturref06_ok.l0, if_pos (by omega), if_pos (by omega), all_drop l _ [] i (by omega), show rd_L1 l (i : Int) = l.getD i [] by unfold rd_L1; rw [Int.toNat_natCast], w64 (by omega) (by omega), show (i : Int) + 1 = ((i + 1 : Nat) : Int) by omega, ih k (i + 1) (by omega)]
  by_cases h : (l.getD i []).length = 32
  ·rw [if_pos (by omega), decide_eq_true h, Bool.true_and]
  ·rw [if_neg (by omega), decide_eq_false h, Bool.false_and]
   rfl
theorem refok_eq (l : List (List Int)) (k : Nat) (hk : l.length < k) (hl : l.length ≤ 100000) : imprimaturref06_ok.f k l = some (lvE l) := by
 unfold imprimaturref06_ok.f lvE
 by_cases h : l.length > 4096
 ·rw [if_pos (by omega), if_pos h]
 ·rw [if_neg (by omega), if_neg h]
  have := refok_l l hl l.length (k - l.length - 1) 0 (by omega)
  rw [show k - l.length - 1 + l.length + 1 = k by omega] at this
  exact this
theorem refeight_raw (k : Nat) (n : Int) : imprimaturref06_Eight.f (k + 9) n = some [Int.tmod (tq (tq (tq (tq (tq (tq (tq (IntKind.u64.wrap n)))))))) 256 % 256, Int.tmod (tq (tq (tq (tq (tq (tq (IntKind.u64.wrap n))))))) 256 % 256, Int.tmod (tq (tq (tq (tq (tq (IntKind.u64.wrap n)))))) 256 % 256, Int.tmod (tq (tq (tq (tq (IntKind.u64.wrap n))))) 256 % 256, Int.tmod (tq (tq (tq (IntKind.u64.wrap n)))) 256 % 256, Int.tmod (tq (tq (IntKind.u64.wrap n))) 256 % 256, Int.tmod (tq (IntKind.u64.wrap n)) 256 % 256, Int.tmod (IntKind.u64.wrap n) 256 % 256] := by kernel_rfl
theorem refeight_eq (k : Nat) (n : Int) (hk : 9 ≤ k) : imprimaturref06_Eight.f k n = some (e8 n) := by
 obtain ⟨k, rfl⟩ : ∃ j, k = j + 9 := ⟨k - 9, by omega⟩
 rw [refeight_raw]
 obtain ⟨u, hu⟩ : ∃ u, u = IntKind.u64.wrap n := ⟨_, rfl⟩
 have hu2 : u = n % 18446744073709551616 := hu
 rw [← hu]
 unfold e8
 rw [← hu2]
 have h0 : 0 ≤ u := by omega
 have h1 : u < 18446744073709551616 := by omega
 clear hu hu2
 rw [tq_eq h0 h1, tq_eq (x := u / 256) (by omega) (by omega), tq_eq (x := u / 256 / 256) (by omega) (by omega), tq_eq (x := u / 256 / 256 / 256) (by omega) (by omega), tq_eq (x := u / 256 / 256 / 256 / 256) (by omega) (by omega), tq_eq (x := u / 256 / 256 / 256 / 256 / 256) (by omega) (by omega), tq_eq (x := u / 256 / 256 / 256 / 256 / 256 / 256) (by omega) (by omega)]
 rw [tm_eq h0, tm_eq (x := u / 256) (by omega), tm_eq (x := u / 256 / 256) (by omega), tm_eq (x := u / 256 / 256 / 256) (by omega), tm_eq (x := u / 256 / 256 / 256 / 256) (by omega), tm_eq (x := u / 256 / 256 / 256 / 256 / 256) (by omega), tm_eq (x := u / 256 / 256 / 256 / 256 / 256 / 256) (by omega), tm_eq (x := u / 256 / 256 / 256 / 256 / 256 / 256 / 256) (by omega)]
 have e1 : u / 256 / 256 = u / 65536 := by omega
 have e2 : u / 256 / 256 / 256 = u / 16777216 := by omega
 have e3 : u / 256 / 256 / 256 / 256 = u / 4294967296 := by omega
 have e4 : u / 256 / 256 / 256 / 256 / 256 = u / 1099511627776 := by omega
 have e5 : u / 256 / 256 / 256 / 256 / 256 / 256 = u / 281474976710656 := by omega
 have e6 : u / 256 / 256 / 256 / 256 / 256 / 256 / 256 = u / 72057594037927936 := by omega
 rw [e6, e5, e4, e3, e2, e1]
end Go.Proofs.YtdpdmmbdoeefbaaDoor.PCo
namespace Go.Proofs.YtdpdmmbdoeefbaaDoor.PRa
open Go.RowKit Go.Proofs.YtdpdmmbdoeefbaaDoorW.PrintWords Go.Proofs.YtdpdmmbdoeefbaaDoorW.PrintLast Go.Proofs.YtdpdmmbdoeefbaaDoorW.PrintMore Go.Proofs.YtdpdmmbdoeefbaaDoor.X Go.Proofs.YtdpdmmbdoeefbaaDoor.PCut Go.Proofs.YtdpdmmbdoeefbaaDoor.PCs Go.Proofs.YtdpdmmbdoeefbaaDoor.PCo
theorem join_eq (a b c : List Int) (ha : a.length ≤ 1000000) (hb : b.length ≤ 1000000) (hc : c.length ≤ 1000000) : imprimaturref06_join.f a b c = some (a ++ b ++ c) := by
 unfold imprimaturref06_join.f
 rw [if_pos (by rw [List.length_nil]; omega)]
 simp only [Option.bind_some, List.nil_append]
 rw [if_pos (by omega), if_pos (by rw [List.length_append]; omega)]
theorem node_eq (a b : List Int) (ha : a.length ≤ 1000000) (hb : b.length ≤ 1000000) : imprimaturref06_NodeText.f a b = some (1 :: (a ++ b)) := by
 unfold imprimaturref06_NodeText.f
 rw [join_eq [1] a b (by decide) ha hb]
 rfl
theorem roottext_eq (k : Nat) (hk : 9 ≤ k) (n : Int) (t : List Int) (ht : t.length ≤ 1000000) : imprimaturref06_RootText.f k n t = some (2 :: (e8 n ++ t)) := by
 unfold imprimaturref06_RootText.f
 rw [refeight_eq k n hk]
 simp only [Option.bind_some]
 rw [join_eq [2] (e8 n) t (by decide) (by rw [e8_length]; decide) ht]
 rfl
theorem leaftext_eq (k : Nat) (hk : 9 ≤ k) (n : Int) (t : List Int) (ht : t.length ≤ 1000000) : imprimaturref06_LeafText.f k n t = some (0 :: (e8 n ++ t)) := by
 unfold imprimaturref06_LeafText.f
 rw [refeight_eq k n hk]
 simp only [Option.bind_some]
 rw [join_eq [0] (e8 n) t (by decide) (by rw [e8_length]; decide) ht]
 rfl
theorem reftop_eq : ∀ (n : Nat) (l : List (List Int)) (k : Nat), l.length = n → n ≤ 100000 → Lv l → n + 40 ≤ k → imprimaturref06_Top.f k l = some (topL l, textsL l) := by
 intro n
 induction n using Nat.strongRecOn with
 | _ n ih =>
  intro l k hl h2 hv hk
  obtain ⟨k, rfl⟩ : ∃ j, k = j + 1 := ⟨k - 1, by omega⟩
  rw [imprimaturref06_Top.f]
  by_cases h0 : n = 0
  ·rw [if_pos (by omega), textsL_one (by omega), topL, dif_pos (by omega), List.length_eq_zero_iff.1 (hl.trans h0)]
   rfl
  by_cases h : n = 1
  ·rw [if_neg (by omega), if_pos (by omega), if_pos (by omega), topL_one (by omega), textsL_one (by omega)]
   rfl
  ·have h3 := hf_pos n
   have h4 := hf_lt (n := n) (by omega)
   have t1 : (l.take (hf n)).length = hf n := by rw [List.length_take]; omega
   have t2 : (l.drop (hf n)).length = n - hf n := by rw [List.length_drop]; omega
   have ha := topL_32 (hv.take (hf n)) (by omega)
   have hb := topL_32 (hv.drop (hf n)) (by omega)
   have a1 := textsL_ok (hf n) _ t1 (hv.take _)
   have a2 := textsL_ok (n - hf n) _ t2 (hv.drop _)
   rw [if_neg (by omega), if_neg (by omega), hl, refhalf_eq n (by omega) (by omega) k (by omega)]
   simp only [Option.bind_some, Int.toNat_natCast]
   rw [if_pos (by omega), if_pos (by omega), ih (hf n) (by omega) _ k t1 (by omega) (hv.take _) (by omega)]
   simp only [Option.bind_some]
   rw [ih (n - hf n) (by omega) _ k t2 (by omega) (hv.drop _) (by omega)]
   simp only [Option.bind_some]
   rw [node_eq _ _ (by omega) (by omega)]
   simp only [Option.bind_some]
   rw [if_pos (by rw [List.length_nil]; omega)]
   simp only [List.nil_append]
   rw [if_pos (by omega), if_pos (by rw [List.length_append]; omega), hash_eq (isBytes_cons (by decide) (isBytes_app ha.2 hb.2)) (by simp [ha.1, hb.1])]
   simp only [Option.bind_some]
   rw [topL_node (l := l) (by omega), textsL_node (l := l) (by omega), hl]
end Go.Proofs.YtdpdmmbdoeefbaaDoor.PRa
namespace Go.Proofs.YtdpdmmbdoeefbaaDoor.PRc
open Go.RowKit Go.Proofs.YtdpdmmbdoeefbaaDoorW.PrintWords Go.Proofs.YtdpdmmbdoeefbaaDoorW.PrintLast Go.Proofs.YtdpdmmbdoeefbaaDoorW.PrintMore Go.Proofs.YtdpdmmbdoeefbaaDoor.X Go.Proofs.YtdpdmmbdoeefbaaDoor.PCut Go.Proofs.YtdpdmmbdoeefbaaDoor.PCs Go.Proofs.YtdpdmmbdoeefbaaDoor.PCo Go.Proofs.YtdpdmmbdoeefbaaDoor.PRa
theorem refwalk_eq : ∀ (n : Nat) (l : List (List Int)) (p k : Nat), l.length = n → p < n → n ≤ 100000 → Lv l → n + 50 ≤ k → imprimaturref06_walk.f k l p = some (walkL l p) := by
 intro n
 induction n using Nat.strongRecOn with
 | _ n ih =>
  intro l p k hl hp hn hv hk
  obtain ⟨k, rfl⟩ : ∃ j, k = j + 1 := ⟨k - 1, by omega⟩
  rw [imprimaturref06_walk.f]
  by_cases h : n = 1
  ·rw [if_pos (by omega), walkL_one (by omega)]
  ·have h3 := hf_pos n
   have h4 := hf_lt (n := n) (by omega)
   have t1 : (l.take (hf n)).length = hf n := by rw [List.length_take]; omega
   have t2 : (l.drop (hf n)).length = n - hf n := by rw [List.length_drop]; omega
   rw [if_neg (by omega), hl, refhalf_eq n (by omega) (by omega) k (by omega)]
   simp only [Option.bind_some, Int.toNat_natCast]
   by_cases hq : p < hf n
   ·rw [if_pos (by omega), if_pos (by omega), if_pos (by omega), reftop_eq (n - hf n) _ k t2 (by omega) (hv.drop _) (by omega)]
    simp only [Option.bind_some]
    rw [ih (hf n) h4 _ p k t1 hq (by omega) (hv.take _) (by omega)]
    simp only [Option.bind_some]
    have h6 := walkL_length (hf n) (l.take (hf n)) p t1
    have h7 := pathL_length (hf n) p
    rw [if_pos (by omega), walkL_left (l := l) (p := p) (by omega) (by rw [hl]; exact hq), hl]
   ·rw [if_neg (by omega), if_pos (by omega), if_pos (by omega), reftop_eq (hf n) _ k t1 (by omega) (hv.take _) (by omega)]
    simp only [Option.bind_some]
    rw [w64 (x := (p : Int) - hf n) (by omega) (by omega), show (p : Int) - hf n = ((p - hf n : Nat) : Int) by omega, ih (n - hf n) (by omega) _ (p - hf n) k t2 (by omega) (by omega) (hv.drop _) (by omega)]
    simp only [Option.bind_some]
    have h6 := walkL_length (n - hf n) (l.drop (hf n)) (p - hf n) t2
    have h7 := pathL_length (n - hf n) (p - hf n)
    rw [if_pos (by omega), walkL_right (l := l) (p := p) (by omega) (by rw [hl]; omega), hl]
theorem refprove_eq (l : List (List Int)) (p : Int) (k : Nat) (hl : l.length ≤ 100000) (hk : l.length + 50 ≤ k) (hb : ∀ x ∈ l, ∀ y ∈ x, 0 ≤ y ∧ y < 256) :
  imprimaturref06_Prove.f k l p = some (if lvE l = 0 then (if p < 0 ∨ p ≥ l.length then ([], 1) else (walkL l p.toNat, 0)) else ([], lvE l)) := by
 unfold imprimaturref06_Prove.f
 rw [refok_eq l k (by omega) hl]
 simp only [Option.bind_some]
 by_cases h : lvE l = 0
 ·rw [if_pos h, if_pos h]
  have hv := (lvE_zero hb).1 h
  by_cases h1 : p < 0
  ·rw [if_pos h1, if_pos (.inl h1)]
  by_cases h2 : p ≥ l.length
  ·rw [if_neg h1, if_pos h2, if_pos (.inr h2)]
  obtain ⟨p, rfl⟩ := Int.eq_ofNat_of_zero_le (show 0 ≤ p by omega)
  rw [if_neg h1, if_neg h2, if_neg (by omega), refwalk_eq l.length l p k rfl (by omega) hl hv.2 (by omega), Int.toNat_natCast]
  rfl
 ·rw [if_neg h, if_neg h]
end Go.Proofs.YtdpdmmbdoeefbaaDoor.PRc
namespace Go.Proofs.YtdpdmmbdoeefbaaDoor.PRd
open Go.RowKit Go.Proofs.YtdpdmmbdoeefbaaDoorW.PrintWords Go.Proofs.YtdpdmmbdoeefbaaDoorW.PrintLast Go.Proofs.YtdpdmmbdoeefbaaDoorW.PrintMore Go.Proofs.YtdpdmmbdoeefbaaDoor.X Go.Proofs.YtdpdmmbdoeefbaaDoor.PCut Go.Proofs.YtdpdmmbdoeefbaaDoor.PCs Go.Proofs.YtdpdmmbdoeefbaaDoor.PCo Go.Proofs.YtdpdmmbdoeefbaaDoor.PRa Go.Proofs.YtdpdmmbdoeefbaaDoor.PRc
theorem clash_l0 (l : List (List Int)) (hl : l.length ≤ 100000) (hb : ∀ x ∈ l, BytesB x ∧ x.length ≤ 1000000) : ∀ (d k i : Nat), i + d = l.length → imprimaturref06_Clash.l0 (k + d + 1) l ((l.take i).map dig) i = imprimaturref06_Clash.l1 k l (l.map dig) 0 := by
 intro d
 induction d with
 | zero =>
  intro k i hi
  rw [imprimaturref06_Clash.l0, if_neg (by omega), List.take_of_length_le (by omega)]
 | succ d ih =>
  intro k i hi
  have hx := hb _ (getD_mem' (l := l) (i := i) (by omega))
  rw [show k + (d + 1) + 1 = (k + d + 1) + 1 by omega, imprimaturref06_Clash.l0, if_pos (by omega), if_pos (by omega), show rd_L1 l (i : Int) = l.getD i [] by unfold rd_L1; rw [Int.toNat_natCast], hash_eq hx.1 (by omega)]
  simp only [Option.bind_some]
  have e : (l.take i).map dig ++ [dig (l.getD i [])] = (l.take (i + 1)).map dig := by rw [take_next l [] i (by omega), List.map_append]; rfl
  rw [if_pos (by rw [List.length_map, List.length_take]; omega), e, w64 (by omega) (by omega), show (i : Int) + 1 = ((i + 1 : Nat) : Int) by omega, ih k (i + 1) (by omega)]
theorem clash_l2 (l : List (List Int)) (hl : l.length ≤ 10000) (hb : ∀ x ∈ l, BytesB x ∧ x.length ≤ 1000000) (k i : Nat) (hi : i < l.length) (hn : ∃ b, imprimaturref06_Clash.l1 k l (l.map dig) (i + 1 : Nat) = some b) : ∀ (d j : Nat), j + d = i →
  ∃ b, imprimaturref06_Clash.l2 (k + d + 1) l (l.map dig) i j = some b ∧ (b = false → imprimaturref06_Clash.l1 k l (l.map dig) (i + 1 : Nat) = some false ∧ ∀ q, j ≤ q → q < i → dig (l.getD i []) = dig (l.getD q []) → l.getD i [] = l.getD q []) := by
 have hg : ∀ q, q < l.length → rd_L1 (l.map dig) (q : Int) = dig (l.getD q []) := fun q hq => by
  unfold rd_L1
  rw [Int.toNat_natCast, List.getD_eq_getElem?_getD, List.getElem?_map, List.getElem?_eq_getElem hq, List.getD_eq_getElem?_getD, List.getElem?_eq_getElem hq]
  rfl
 have hr : ∀ q : Nat, rd_L1 l (q : Int) = l.getD q [] := fun q => by unfold rd_L1; rw [Int.toNat_natCast]
 have hml : (l.map dig).length = l.length := List.length_map ..
 intro d
 induction d with
 | zero =>
  intro j hj
  obtain ⟨b, hb1⟩ := hn
  refine ⟨b, ?_, fun e => ⟨by rw [hb1, e], fun q h1 h2 => by omega⟩⟩
  rw [imprimaturref06_Clash.l2, if_neg (by omega), w64 (by omega) (by omega), show (i : Int) + 1 = ((i + 1 : Nat) : Int) by omega]
  exact hb1
 | succ d ih =>
  intro j hj
  obtain ⟨b, hb1, hb2⟩ := ih (j + 1) (by omega)
  rw [show k + (d + 1) + 1 = (k + d + 1) + 1 by omega, imprimaturref06_Clash.l2, if_pos (by omega), if_pos (by omega), if_pos (by omega), if_pos (by omega), if_pos (by omega), hg i hi, hg j (by omega)]
  have hx := hb _ (getD_mem' (l := l) (i := i) hi)
  have hy := hb _ (getD_mem' (l := l) (i := j) (by omega))
  have e1 : wrap64 ((j : Int) + 1) = ((j + 1 : Nat) : Int) := by rw [w64 (by omega) (by omega)]; omega
  by_cases h : dig (l.getD i []) = dig (l.getD j [])
  ·rw [if_pos ((strs_eq (dig_bytes _) (dig_bytes _)).2 h), if_pos (by omega), if_pos (by omega), hr, hr]
   by_cases h2 : l.getD i [] = l.getD j []
   ·rw [if_pos ((strs_eq hx.1 hy.1).2 h2), e1]
    refine ⟨b, hb1, fun e => ⟨(hb2 e).1, fun q q1 q2 => ?_⟩⟩
    by_cases hq : q = j
    ·rw [hq]; exact fun _ => h2
    ·exact (hb2 e).2 q (by omega) q2
   ·rw [if_neg (fun e => h2 ((strs_eq hx.1 hy.1).1 e))]
    exact ⟨true, rfl, fun e => by cases e⟩
  ·rw [if_neg (fun e => h ((strs_eq (dig_bytes _) (dig_bytes _)).1 e)), e1]
   refine ⟨b, hb1, fun e => ⟨(hb2 e).1, fun q q1 q2 => ?_⟩⟩
   by_cases hq : q = j
   ·rw [hq]; exact fun h3 => absurd h3 h
   ·exact (hb2 e).2 q (by omega) q2
theorem clash_l1 (l : List (List Int)) (hl : l.length ≤ 10000) (hb : ∀ x ∈ l, BytesB x ∧ x.length ≤ 1000000) : ∀ (d k i : Nat), i + d = l.length → ∃ b, imprimaturref06_Clash.l1 (k + d * (l.length + 2) + 1) l (l.map dig) i = some b ∧ (b = false → ∀ p q, i ≤ p → p < l.length → q < p → dig (l.getD p []) = dig (l.getD q []) → l.getD p [] = l.getD q []) := by
 intro d
 induction d with
 | zero =>
  intro k i hi
  rw [imprimaturref06_Clash.l1, if_neg (by omega)]
  exact ⟨false, rfl, fun _ p q h1 h2 => by omega⟩
 | succ d ih =>
  intro k i hi
  obtain ⟨b, hb1, hb2⟩ := ih (k + (l.length - i)) (i + 1) (by omega)
  obtain ⟨c, hc1, hc2⟩ := clash_l2 l hl hb (k + (l.length - i) + d * (l.length + 2) + 1) i (by omega) ⟨b, hb1⟩ i 0 (by omega)
  refine ⟨c, ?_, fun e p q h1 h2 h3 => ?_⟩
  ·rw [Nat.add_mul, Nat.one_mul, imprimaturref06_Clash.l1, if_pos (by omega)]
   rw [show k + (d * (l.length + 2) + (l.length + 2)) = k + (l.length - i) + d * (l.length + 2) + 1 + i + 1 by omega]
   exact hc1
  ·have h4 := hc2 e
   by_cases hp : p = i
   ·rw [hp]; exact h4.2 q (by omega) (by omega)
   ·have : b = false := Option.some.inj (hb1.symm.trans h4.1)
    exact hb2 this p q (by omega) h2 h3
theorem clash_eq (l : List (List Int)) (hl : l.length ≤ 10000) (hb : ∀ x ∈ l, BytesB x ∧ x.length ≤ 1000000) (k : Nat) (hk : 200000000 ≤ k) : ∃ b, imprimaturref06_Clash.f k l = some b ∧ (b = false → Inj l) := by
 have hm : l.length * (l.length + 2) ≤ 10000 * 10002 := Nat.mul_le_mul hl (by omega)
 obtain ⟨b, h1, h2⟩ := clash_l1 l hl hb l.length (k - l.length - 1 - l.length * (l.length + 2) - 1) 0 (by omega)
 refine ⟨b, ?_, fun e => ?_⟩
 ·unfold imprimaturref06_Clash.f
  have h3 := clash_l0 l (by omega) hb l.length (k - l.length - 1) 0 (by omega)
  rw [show k - l.length - 1 + l.length + 1 = k by omega] at h3
  rw [show k - l.length - 1 - l.length * (l.length + 2) - 1 + l.length * (l.length + 2) + 1 = k - l.length - 1 by omega] at h1
  exact h3.trans h1
 ·have h3 := h2 e
  intro x hx y hy he
  obtain ⟨i, hi, rfl⟩ := List.getElem_of_mem hx
  obtain ⟨j, hj, rfl⟩ := List.getElem_of_mem hy
  have gi : l.getD i [] = l[i] := by rw [List.getD_eq_getElem?_getD, List.getElem?_eq_getElem hi]; rfl
  have gj : l.getD j [] = l[j] := by rw [List.getD_eq_getElem?_getD, List.getElem?_eq_getElem hj]; rfl
  rcases Nat.lt_trichotomy i j with h | h | h
  ·have := h3 j i (by omega) hj h; rw [gi, gj] at this; exact (this he.symm).symm
  ·subst h; rfl
  ·have := h3 i j (by omega) hi h; rw [gi, gj] at this; exact this he
theorem texts_eq (l : List (List Int)) (k : Nat) (hl : l.length ≤ 100000) (hv : Lv l) (hk : l.length + 50 ≤ k) : imprimaturref06_Texts.f k l = some (textsL l ++ [2 :: (e8 l.length ++ topL l)]) := by
 have h1 := topL_le hv
 have h2 := textsL_ok l.length l rfl hv
 unfold imprimaturref06_Texts.f
 rw [reftop_eq l.length l k rfl hl hv (by omega)]
 simp only [Option.bind_some]
 rw [roottext_eq k (by omega) _ _ (by omega)]
 simp only [Option.bind_some]
 rw [if_pos (by omega)]
theorem fixed_eq (k : Nat) (hk : 9 ≤ k) : imprimaturref06_Fixed.f k = some fixT := by
 unfold imprimaturref06_Fixed.f
 rw [leaftext_eq k hk 0 [5] (by decide)]
 simp only [Option.bind_some]
 rw [hash_eq (isBytes_cons (by decide) (isBytes_app (e8_bytes 0) (fun y hy => by simp at hy; omega))) (by decide)]
 simp only [Option.bind_some]
 rw [roottext_eq k hk 1 _ (by rw [dig_length]; decide)]
 rfl
end Go.Proofs.YtdpdmmbdoeefbaaDoor.PRd
namespace Go.Proofs.YtdpdmmbdoeefbaaDoor.PUp
open Go.RowKit Go.Proofs.YtdpdmmbdoeefbaaDoorW.PrintWords Go.Proofs.YtdpdmmbdoeefbaaDoorW.PrintLast Go.Proofs.YtdpdmmbdoeefbaaDoorW.PrintMore Go.Proofs.YtdpdmmbdoeefbaaDoor.X Go.Proofs.YtdpdmmbdoeefbaaDoor.PCut Go.Proofs.YtdpdmmbdoeefbaaDoor.PCs Go.Proofs.YtdpdmmbdoeefbaaDoor.PCo Go.Proofs.YtdpdmmbdoeefbaaDoor.PRa Go.Proofs.YtdpdmmbdoeefbaaDoor.PRc Go.Proofs.YtdpdmmbdoeefbaaDoor.PRd
theorem up_eq : ∀ (n p : Nat) (leaf : List Int) (pr : List (List Int)) (k : Nat), 1 ≤ n → n ≤ 100000 → p < n → leaf.length = 32 ∧ BytesB leaf → Lv pr → pr.length ≤ 100000 → n + 40 ≤ k → imprimaturref06_up.f k n p leaf pr = some (upT n p leaf pr) := by
 intro n
 induction n using Nat.strongRecOn with
 | _ n ih =>
  intro p leaf pr k h1 hn hp hl hv hpl hk
  obtain ⟨k, rfl⟩ : ∃ j, k = j + 1 := ⟨k - 1, by omega⟩
  rw [imprimaturref06_up.f]
  by_cases h : n = 1
  ·rw [if_pos (by omega), upT_one (by omega)]
   congr 3
   rw [Bool.eq_iff_iff, beq_iff_eq, decide_eq_true_iff]
   omega
  have h3 := hf_pos n
  have h4 := hf_lt (n := n) (by omega)
  by_cases h0 : pr.length = 0
  ·rw [if_neg (by omega), if_pos (by omega), upT_none (by omega) p leaf pr h0]
  have hlast := hv _ (getD_mem' (l := pr) (i := pr.length - 1) (by omega))
  have e1 : wrap64 ((pr.length : Int) - 1) = ((pr.length - 1 : Nat) : Int) := by rw [w64 (by omega) (by omega)]; omega
  have htl : (pr.take (pr.length - 1)).length = pr.length - 1 := by rw [List.length_take]; omega
  rw [if_neg (by omega), if_neg (by omega), refhalf_eq n (by omega) (by omega) k (by omega), e1]
  simp only [Option.bind_some]
  rw [if_pos (by omega), if_pos (by omega), if_pos (by omega), show rd_L1 pr ((pr.length - 1 : Nat) : Int) = pr.getD (pr.length - 1) [] by unfold rd_L1; rw [Int.toNat_natCast], Int.toNat_natCast]
  by_cases hq : p < hf n
  ·have u := upT_ok (hf n) p leaf (pr.take (pr.length - 1)) hl (hv.take _)
   rw [if_pos (by omega), ih (hf n) h4 p leaf _ k h3 (by omega) hq hl (hv.take _) (by omega) (by omega)]
   simp only [Option.bind_some]
   rw [upT_left (by omega) hq leaf pr h0]
   generalize upT (hf n) p leaf (pr.take (pr.length - 1)) = q at *
   rw [node_eq _ _ (by omega) (by omega)]
   simp only [Option.bind_some]
   rw [hash_eq (isBytes_cons (by decide) (isBytes_app u.1.2 hlast.2)) (by simp only [List.length_cons, List.length_append]; omega)]
   simp only [Option.bind_some]
   rw [if_pos (by omega)]
  ·have u := upT_ok (n - hf n) (p - hf n) leaf (pr.take (pr.length - 1)) hl (hv.take _)
   rw [if_neg (by omega), w64 (x := (n : Int) - hf n) (by omega) (by omega), w64 (x := (p : Int) - hf n) (by omega) (by omega), show (n : Int) - hf n = ((n - hf n : Nat) : Int) by omega, show (p : Int) - hf n = ((p - hf n : Nat) : Int) by omega, ih (n - hf n) (by omega) (p - hf n) leaf _ k (by omega) (by omega) (by omega) hl (hv.take _) (by omega) (by omega)]
   simp only [Option.bind_some]
   rw [upT_right (by omega) (by omega) leaf pr h0]
   generalize upT (n - hf n) (p - hf n) leaf (pr.take (pr.length - 1)) = q at *
   rw [node_eq _ _ (by omega) (by omega)]
   simp only [Option.bind_some]
   rw [hash_eq (isBytes_cons (by decide) (isBytes_app hlast.2 u.1.2)) (by simp only [List.length_cons, List.length_append]; omega)]
   simp only [Option.bind_some]
   rw [if_pos (by omega)]
theorem way_eq (n p : Nat) (leaf : List Int) (pr : List (List Int)) (k : Nat) (h1 : 1 ≤ n) (hn : n ≤ 100000) (hp : p < n) (hl : leaf.length = 32 ∧ BytesB leaf) (hv : Lv pr) (hpl : pr.length ≤ 100000) (hk : n + 40 ≤ k) :
  imprimaturref06_Way.f k n p leaf pr = some ((upT n p leaf pr).2.1 ++ [2 :: (e8 n ++ (upT n p leaf pr).1)], (upT n p leaf pr).2.2) := by
 unfold imprimaturref06_Way.f
 have u := upT_ok n p leaf pr hl hv
 rw [up_eq n p leaf pr k h1 hn hp hl hv hpl hk]
 simp only [Option.bind_some]
 generalize upT n p leaf pr = q at *
 rw [roottext_eq k (by omega) n _ (by omega)]
 simp only [Option.bind_some]
 rw [if_pos (by omega)]
end Go.Proofs.YtdpdmmbdoeefbaaDoor.PUp
namespace Go.Proofs.YtdpdmmbdoeefbaaDoor.POn
open Go.RowKit Go.Proofs.YtdpdmmbdoeefbaaDoorW.PrintWords Go.Proofs.YtdpdmmbdoeefbaaDoorW.PrintLast Go.Proofs.YtdpdmmbdoeefbaaDoorW.PrintMore Go.Proofs.YtdpdmmbdoeefbaaDoor.X Go.Proofs.YtdpdmmbdoeefbaaDoor.PCut Go.Proofs.YtdpdmmbdoeefbaaDoor.PCs Go.Proofs.YtdpdmmbdoeefbaaDoor.PCo Go.Proofs.YtdpdmmbdoeefbaaDoor.PRa Go.Proofs.YtdpdmmbdoeefbaaDoor.PRc Go.Proofs.YtdpdmmbdoeefbaaDoor.PRd Go.Proofs.YtdpdmmbdoeefbaaDoor.PUp
theorem only_law (hkn : imprimaturlaw06_known.f = some true) (l : List (List Int)) (n p : Int) (leaf : List Int) (pr : List (List Int)) (hb : ∀ x ∈ l, BytesB x) (hlb : BytesB leaf) (hpb : ∀ x ∈ pr, BytesB x) (hx : ∀ x ∈ l, x.length ≤ 140737488355328) (hx2 : ∀ x ∈ pr, x.length ≤ 140737488355328) (hl : l.length ≤ 5864062014805) (hl2 : pr.length ≤ 5864062014805) : ∃ k, imprimaturlaw06_MerkleOnly.f k l n p leaf pr = some true := by
 refine ⟨l.length + pr.length + 300000000, ?_⟩
 obtain ⟨K, hK⟩ : ∃ K, K = l.length + pr.length + 300000000 := ⟨_, rfl⟩
 rw [← hK]
 obtain ⟨k, rfl⟩ : ∃ k, K = k + 4 := ⟨K - 4, by omega⟩
 have hj : imprimaturlaw06_MerkleOnly.j0 (k + 4) l n p leaf pr true = some true := by rw [imprimaturlaw06_MerkleOnly.j0, if_pos rfl, hkn, Option.bind_some]
 have hj1 : imprimaturlaw06_MerkleOnly.j1 (k + 3) l n p leaf pr true = some true := by rw [imprimaturlaw06_MerkleOnly.j1, if_pos rfl, hkn, Option.bind_some]
 obtain ⟨r, hr2, hs⟩ := size_eq l 700 (by omega) hx hl (k + 4) (by omega)
 obtain ⟨r', hr2', hs'⟩ := size_eq pr 700 (by omega) hx2 hl2 (k + 4) (by omega)
 unfold imprimaturlaw06_MerkleOnly.f
 rw [show (700 : Int) = ((700 : Nat) : Int) from rfl, hr2, hr2']
 simp only [Option.bind_some]
 by_cases h1 : r > ((700 : Nat) : Int)
 ·rw [if_pos h1, hj]
 by_cases h2 : r' > ((700 : Nat) : Int)
 ·rw [if_neg h1, if_pos h2, hj]
 rw [if_neg h1, if_neg h2]
 have q1 := (hs (by omega)).1
 have q2 := (hs' (by omega)).1
 by_cases h3 : leaf.length = 32
 case neg => rw [show ((leaf.length : Int) != 32) = true from bne_iff_ne.2 (by omega), hj]
 rw [show ((leaf.length : Int) != 32) = false from bne_eq_false_iff_eq.2 (by omega), imprimaturlaw06_MerkleOnly.j0, if_neg (by decide), root_eq (k + 3) l (by omega) (by omega) hb]
 simp only [Option.bind_some]
 by_cases h4 : lvE l = 0
 case neg => rw [if_neg h4, if_neg h4, hj1]
 have hv := ((lvE_zero hb).1 h4).2
 have hn4 := ((lvE_zero hb).1 h4).1
 rw [if_pos h4, if_pos rfl, check_eq (rootL l) n p leaf pr (by omega) (by rw [rootL_eq]; exact dig_bytes _) hlb hpb (k + 3) (by omega)]
 simp only [Option.bind_some]
 by_cases h5 : chkE (rootL l) n p leaf pr = 0
 case neg => rw [show (chkE (rootL l) n p leaf pr != 0) = true from bne_iff_ne.2 h5, hj1]
 rw [show (chkE (rootL l) n p leaf pr != 0) = false from bne_eq_false_iff_eq.2 h5, imprimaturlaw06_MerkleOnly.j1, if_neg (by decide)]
 unfold chkE at h5
 by_cases h6 : n < 1 ∨ n > 4096 ∨ p < 0 ∨ p ≥ n ∨ (rootL l).length ≠ 32 ∨ leaf.length ≠ 32 ∨ ¬ pr.all (fun x => decide (x.length = 32)) = true
 ·rw [if_pos h6] at h5; cases h5
 rw [if_neg h6] at h5
 have hA : pr.all (fun x => decide (x.length = 32)) = true := Classical.byContradiction fun h => h6 (.inr (.inr (.inr (.inr (.inr (.inr h))))))
 obtain ⟨n, rfl⟩ := Int.eq_ofNat_of_zero_le (show 0 ≤ n by omega)
 obtain ⟨p, rfl⟩ := Int.eq_ofNat_of_zero_le (show 0 ≤ p by omega)
 rw [Int.toNat_natCast, Int.toNat_natCast] at h5
 by_cases h7 : pr.length = (pathL n p).length
 case neg => rw [if_pos h7] at h5; cases h5
 rw [if_neg (by omega)] at h5
 by_cases h8 : dig (2 :: (e8 n ++ climbL (pathL n p) pr leaf)) = rootL l
 case neg => rw [if_neg h8] at h5; cases h5
 have hpv : Lv pr := fun x hx => ⟨by simpa using List.all_eq_true.1 hA x hx, hpb x hx⟩
 have hlf : leaf.length = 32 ∧ BytesB leaf := ⟨h3, hlb⟩
 have u := upT_ok n p leaf pr hlf hpv
 have u5 := u.2.2.2.1
 rw [decide_eq_true h7] at u5
 have u6 := u.2.2.2.2 u5
 have tx := textsL_ok l.length l rfl hv
 have tl := topL_le hv
 obtain ⟨all, hall⟩ : ∃ all, all = (textsL l ++ [2 :: (e8 l.length ++ topL l)]) ++ ((upT n p leaf pr).2.1 ++ [2 :: (e8 n ++ (upT n p leaf pr).1)]) ++ fixT := ⟨_, rfl⟩
 have hallb : ∀ x ∈ all, BytesB x ∧ x.length ≤ 1000000 := by
  intro x hx
  rw [hall] at hx
  simp only [List.mem_append, List.mem_singleton] at hx
  rcases hx with ((hx | rfl) | (hx | rfl)) | hx
  ·have := tx.2 x hx; exact ⟨this.1, by omega⟩
  ·exact ⟨isBytes_cons (by decide) (isBytes_app (e8_bytes _) tl.2), by simp only [List.length_cons, List.length_append, e8_length]; omega⟩
  ·have := u.2.2.1 x hx; exact ⟨this.1, by omega⟩
  ·exact ⟨isBytes_cons (by decide) (isBytes_app (e8_bytes _) u.1.2), by simp only [List.length_cons, List.length_append, e8_length]; omega⟩
  ·simp only [fixT, List.mem_cons, List.not_mem_nil, or_false] at hx
   rcases hx with rfl | rfl
   ·exact ⟨isBytes_cons (by decide) (isBytes_app (e8_bytes 0) (fun y hy => by simp at hy; omega)), by decide⟩
   ·exact ⟨isBytes_cons (by decide) (isBytes_app (e8_bytes 1) (dig_bytes _)), by simp only [List.length_cons, List.length_append, e8_length, dig_length]; omega⟩
 have hall_len : all.length ≤ 10000 := by
  rw [hall]
  have h1 := tx.1
  have h2 := u.2.1
  simp only [List.length_append, fixT, List.length_cons, List.length_nil]
  omega
 have hend : ∀ b : Bool, (b = false → ¬ Inj all) → imprimaturlaw06_MerkleOnly.j3 (k + 1) l n p leaf pr b = some true := by
  intro b hbI
  have h1 := tx.1
  have h2 := u.2.1
  rw [imprimaturlaw06_MerkleOnly.j3, way_eq n p leaf pr k (by omega) (by omega) (by omega) hlf hpv (by omega) (by omega)]
  simp only [Option.bind_some]
  rw [texts_eq l k (by omega) hv (by omega)]
  simp only [Option.bind_some]
  rw [if_pos (by simp only [List.length_append, List.length_singleton]; omega)]
  rw [fixed_eq k (by omega)]
  simp only [Option.bind_some]
  rw [if_pos (by simp only [List.length_append, fixT, List.length_cons, List.length_nil]; omega), hkn]
  simp only [Option.bind_some, if_true]
  cases b with
  | true => rfl
  | false =>
   obtain ⟨c, hc1, hc2⟩ := clash_eq all hall_len hallb k (by omega)
   rw [hall] at hc1
   rw [if_neg (by decide), hc1, Option.bind_some]
   cases c with
   | true => rfl
   | false => exact absurd (hc2 rfl) (hbI rfl)
 -- by no clash the numbers, the leaf and the proof are right
 have hright : Inj all → n = l.length ∧ leaf = l.getD p [] ∧ pr = walkL l p := by
  intro hI
  rw [← u6.1, rootL_eq] at h8
  have hE := hI _ (by rw [hall]; simp) _ (by rw [hall]; simp) h8
  have hE2 := (List.cons.inj hE).2
  obtain ⟨hE3, hE4⟩ := List.append_inj hE2 rfl
  have hn := e8_inj (a := (n : Int)) (b := (l.length : Int)) (by omega) (by omega) hE3
  have hn2 : n = l.length := by omega
  refine ⟨hn2, ?_⟩
  exact only_climb n l p leaf pr hn2.symm (by omega) hv hpv hlf h7 hE4 (hI.sub fun x hx => by
   rw [hall]
   simp only [List.mem_append] at hx ⊢
   rcases hx with hx | hx
   ·exact .inl (.inr (.inl hx))
   ·exact .inl (.inl (.inl hx)))
 by_cases h9 : n = l.length
 case neg =>
  rw [if_neg (by omega), imprimaturlaw06_MerkleOnly.j2, if_neg (by decide)]
  exact hend false (fun _ hI => h9 (hright hI).1)
 rw [if_pos (by omega), decide_eq_true (by omega), imprimaturlaw06_MerkleOnly.j2, if_pos rfl, refprove_eq l p (k + 1) (by omega) (by omega) hb, if_pos h4, if_neg (by omega), Int.toNat_natCast]
 simp only [Option.bind_some]
 have hwl := walkL_32 l.length l p rfl hv
 rw [if_pos (by omega), if_pos (by omega), show rd_L1 l (p : Int) = l.getD p [] by unfold rd_L1; rw [Int.toNat_natCast]]
 unfold imprimaturref01_SameBytes.f
 rw [strs_beq hlb (hb _ (getD_mem' (by omega)))]
 simp only [Option.bind_some]
 by_cases h10 : leaf = l.getD p []
 case neg =>
  rw [decide_eq_false h10, if_neg (by decide)]
  exact hend false (fun _ hI => h10 (hright hI).2.1)
 rw [decide_eq_true h10, if_pos rfl, same_dec pr (walkL l p) hpb (fun x hx => (hwl x hx).2) (by omega) (k + 1) (by omega)]
 simp only [Option.bind_some]
 refine hend _ (fun hf hI => ?_)
 have := (hright hI).2.2
 rw [decide_eq_true this] at hf
 cases hf
theorem MerkleOnly_walk (A0 : Option Addr) (c0 : Nat) (l0 : List (List Int)) (a1 : Int) (a2 : Int) (A3 : Option Addr) (n3 c3 : Nat) (z3 : List Int) (A4 : Option Addr) (c4 : Nat) (l4 : List (List Int)) (w : World) (HG : Glb w) (w0 : Kd.C (Kd.slice 5 (Kd.int .u8)) w A0 l0.length l0) (hc0 : l0.length ≤ c0) (o0 : l0.length * 24 ≤ 140737488351232) (g0 : ∀ l ∈ l0, (∀ x ∈ l, (Lit.int .u8 x).wf = true) ∧ l.length * 1 ≤ 140737488351232) (w1 : (Lit.int .i64 a1).wf = true) (w2 : (Lit.int .i64 a2).wf = true) (h3 : (A3 = none ∧ n3 = 0 ∧ c3 = 0 ∧ z3 = []) ∨ ∃ x, A3 = some x ∧ n3 ≤ c3 ∧ c3 ≤ maxLen ∧ z3.length = c3 ∧ (∀ i, i < z3.length → w.cell? (x.add i) = some (.int .u8 (z3.getD i 0))) ∧ ∀ n ∈ z3, (Lit.int .u8 n).wf = true) (y3 : n3 * 1 ≤ 140737488351232) (w4 : Kd.C (Kd.slice 5 (Kd.int .u8)) w A4 l4.length l4) (hc4 : l4.length ≤ c4) (o4 : l4.length * 24 ≤ 140737488351232) (g4 : ∀ l ∈ l4, (∀ x ∈ l, (Lit.int .u8 x).wf = true) ∧ l.length * 1 ≤ 140737488351232) :
 Calls Tryd.prog 5 #[.slice A0 l0.length c0, .int .i64 a1, .int .i64 a2, .slice A3 n3 c3, .slice A4 l4.length c4] w fun e w' => e = .returned (.bool true) ∧ Below w.heap.size w w' := by
 obtain ⟨l3, rfl, hr3, hm3, hb3, hc3⟩ := ReadsInt.ofRowC h3
 obtain ⟨k, h⟩ := only_law rfl l0 a1 a2 l3 l4 (row_bytes g0) (fun x hx => byte_of (hb3 x hx)) (row_bytes g4) (row_len g0) (row_len g4) (by omega) (by omega)
 exact imprimaturlaw06_MerkleOnly.calls k _ _ l0 a1 a2 _ _ l3 _ _ l4 true w HG w0 hc0 (Kd.C_of_reads (d := (0 : Int)) (h1 := fun _ => rfl) hr3) hc3 w4 hc4 h
end Go.Proofs.YtdpdmmbdoeefbaaDoor.POn
