/- Plain lemmas for one law. -/
import Derived.Test.YtdpdmmbdoeefbaaDoorPCrx1
import Derived.Test.YtdpdmmbdoeefbaaDoorPCutx1
import Derived.Test.YtdpdmmbdoeefbaaDoorK
import Derived.Test.YtdpdmmbdoeefbaaDoorWT
set_option linter.unusedVariables false
namespace Go.Proofs.YtdpdmmbdoeefbaaDoor.PCut
open Go.RowKit YtdpdmmbdoeefbaaDoorW.PrintWords YtdpdmmbdoeefbaaDoorW.PrintLast YtdpdmmbdoeefbaaDoorW.PrintMore X
theorem w64 {x : Int} (h : -9223372036854775808 ≤ x) (h' : x ≤ 9223372036854775807) : wrap64 x = x := by unfold wrap64; omega
/-- The greatest power of 2 below a number above 1. -/
def hf (n : Nat) : Nat := 2 ^ Nat.log2 (n - 1)
theorem hf_pos (n : Nat) : 1 ≤ hf n := Nat.one_le_two_pow
theorem hf_lt {n : Nat} (h : 2 ≤ n) : hf n < n := by
 have := Nat.log2_self_le (n := n - 1) (by omega)
 unfold hf
 omega
theorem bitLenAux_eq : ∀ (f x : Nat), 0 < x → x < 2 ^ f → Lib.bitLenAux f x = Nat.log2 x + 1 := by
 intro f
 induction f with
 | zero => intro x h1 h2; simp at h2; omega
 | succ f ih =>
  intro x h1 h2
  rw [Lib.bitLenAux, if_neg (by omega), Nat.log2_def]
  by_cases h : x ≥ 2
  ·rw [if_pos h, ih (x / 2) (by omega) (by rw [Nat.pow_succ] at h2; omega)]; omega
  obtain rfl : x = 1 := by omega
  cases f <;> rfl
theorem half_eq (n : Nat) (h : 2 ≤ n) (h' : n ≤ 1000000) : merkle_half.f (n : Int) = some (hf n : Int) := by
 have e1 : wrap64 ((n : Int) - 1) = ((n - 1 : Nat) : Int) := by rw [w64 (by omega) (by omega)]; omega
 have e2 : IntKind.u64.wrap ((n - 1 : Nat) : Int) = ((n - 1 : Nat) : Int) := by show ((n - 1 : Nat) : Int) % 18446744073709551616 = _; omega
 have e64 : n - 1 < 2 ^ 64 := Nat.lt_trans (show n - 1 < 1048576 by omega) (by decide)
 have hb : Lib.bitLen (n - 1) = Nat.log2 (n - 1) + 1 := bitLenAux_eq 64 _ (by omega) e64
 have hl : Nat.log2 (n - 1) < 20 := by
  rw [Nat.log2_lt (by omega)]
  have : (2:Nat) ^ 20 = 1048576 := by decide
  omega
 unfold merkle_half.f bits_Len.f
 rw [e1, e2, if_pos (by omega)]
 simp only [Option.bind_some]
 rw [Int.toNat_natCast, hb, show wrap64 (((Nat.log2 (n - 1) + 1 : Nat) : Int) - 1) = (Nat.log2 (n - 1) : Int) by rw [w64 (by omega) (by omega)]; omega, if_pos (by omega)]
 unfold shl
 rw [show min (Nat.log2 (n - 1) : Int).toNat IntKind.i64.bits = Nat.log2 (n - 1) by rw [Int.toNat_natCast]; exact Nat.min_eq_left (by show _ ≤ 64; omega), Int.one_mul]
 have e3 : ((2 : Int) ^ Nat.log2 (n - 1)) = (hf n : Int) := by unfold hf; rw [Int.natCast_pow]; rfl
 rw [e3]
 congr 1
 have h5 := hf_lt h
 exact IntWalk.i64_in (hf n : Int) (by omega)
/-- Leaves: 32 bytes each. -/
def Lv (l : List (List Int)) : Prop := ∀ x ∈ l, x.length = 32 ∧ ∀ y ∈ x, 0 ≤ y ∧ y < 256
theorem Lv.take {l : List (List Int)} (h : Lv l) (k : Nat) : Lv (l.take k) := fun x hx => h x (List.mem_of_mem_take hx)
theorem Lv.drop {l : List (List Int)} (h : Lv l) (k : Nat) : Lv (l.drop k) := fun x hx => h x (List.mem_of_mem_drop hx)
theorem isBytes_app {a b : List Int} (ha : ∀ y ∈ a, 0 ≤ y ∧ y < 256) (hb : ∀ y ∈ b, 0 ≤ y ∧ y < 256) : ∀ y ∈ a ++ b, 0 ≤ y ∧ y < 256 := fun y hy => by
 rcases List.mem_append.1 hy with h | h
 ·exact ha y h
 exact hb y h
theorem isBytes_cons {x : Int} {b : List Int} (hx : 0 ≤ x ∧ x < 256) (hb : ∀ y ∈ b, 0 ≤ y ∧ y < 256) : ∀ y ∈ x :: b, 0 ≤ y ∧ y < 256 := fun y hy => by
 rcases List.mem_cons.1 hy with h | h
 ·exact h ▸ hx
 exact hb y h
theorem all_drop {α : Type} (l : List α) (p : α → Bool) (d : α) (i : Nat) (h : i < l.length) : (l.drop i).all p = (p (l.getD i d) && (l.drop (i + 1)).all p) := by
 rw [List.drop_eq_getElem_cons h, List.all_cons, List.getD_eq_getElem?_getD, List.getElem?_eq_getElem h]
 rfl
/-- A number in eight bytes. -/
def e8 (n : Int) : List Int := [n % 18446744073709551616 / 72057594037927936 % 256, n % 18446744073709551616 / 281474976710656 % 256, n % 18446744073709551616 / 1099511627776 % 256, n % 18446744073709551616 / 4294967296 % 256, n % 18446744073709551616 / 16777216 % 256, n % 18446744073709551616 / 65536 % 256, n % 18446744073709551616 / 256 % 256, n % 18446744073709551616 % 256]
theorem e8_bytes (n : Int) : ∀ y ∈ e8 n, 0 ≤ y ∧ y < 256 := by
 intro y hy
 simp only [e8, List.mem_cons, List.not_mem_nil, or_false] at hy
 rcases hy with h | h | h | h | h | h | h | h <;> omega
theorem e8_length (n : Int) : (e8 n).length = 8 := rfl
theorem shr64 (x : Int) (j : Nat) (hj : j < 64) : shr .u64 x (j : Int) = x / 2 ^ j := by
 unfold shr
 rw [show min (j : Int).toNat IntKind.u64.bits = j by rw [Int.toNat_natCast]; exact Nat.min_eq_left (by show j ≤ 64; omega)]
theorem eight_raw (k : Nat) (n : Int) : merkle_eight.f (k + 9) n = some [shr .u64 (IntKind.u64.wrap n) ((56 : Nat) : Int) % 256, shr .u64 (IntKind.u64.wrap n) ((48 : Nat) : Int) % 256, shr .u64 (IntKind.u64.wrap n) ((40 : Nat) : Int) % 256, shr .u64 (IntKind.u64.wrap n) ((32 : Nat) : Int) % 256, shr .u64 (IntKind.u64.wrap n) ((24 : Nat) : Int) % 256, shr .u64 (IntKind.u64.wrap n) ((16 : Nat) : Int) % 256, shr .u64 (IntKind.u64.wrap n) ((8 : Nat) : Int) % 256, shr .u64 (IntKind.u64.wrap n) ((0 : Nat) : Int) % 256] := by kernel_rfl
theorem eight_eq (k : Nat) (n : Int) (hk : 9 ≤ k) : merkle_eight.f k n = some (e8 n) := by
 obtain ⟨k, rfl⟩ : ∃ j, k = j + 9 := ⟨k - 9, by omega⟩
 rw [eight_raw]
 simp only [shr64 _ _ (show (56 : Nat) < 64 by decide), shr64 _ _ (show (48 : Nat) < 64 by decide), shr64 _ _ (show (40 : Nat) < 64 by decide), shr64 _ _ (show (32 : Nat) < 64 by decide), shr64 _ _ (show (24 : Nat) < 64 by decide), shr64 _ _ (show (16 : Nat) < 64 by decide), shr64 _ _ (show (8 : Nat) < 64 by decide), shr64 _ _ (show (0 : Nat) < 64 by decide)]
 unfold e8
 rw [show IntKind.u64.wrap n = n % 18446744073709551616 from rfl]
 simp
def BytesB (l : List Int) : Prop := ∀ y ∈ l, 0 ≤ y ∧ y < 256
theorem u8_inj {a b : Int} (ha : 0 ≤ a ∧ a < 256) (hb : 0 ≤ b ∧ b < 256) (h : UInt8.ofNat a.toNat = UInt8.ofNat b.toNat) : a = b := by
 have h1 := congrArg UInt8.toNat h
 simp only [UInt8.toNat_ofNat'] at h1
 omega
theorem strs_inj : ∀ {a b : List Int}, BytesB a → BytesB b → (a.map fun n => UInt8.ofNat n.toNat) = (b.map fun n => UInt8.ofNat n.toNat) → a = b
 | [], [], _, _, _ => rfl
 | [], _ :: _, _, _, h => by simp at h
 | _ :: _, [], _, _, h => by simp at h
 | x :: a, y :: b, ha, hb, h => by
  simp only [List.map_cons, List.cons.injEq] at h
  rw [u8_inj (ha x (by simp)) (hb y (by simp)) h.1, strs_inj (fun z hz => ha z (by simp [hz])) (fun z hz => hb z (by simp [hz])) h.2]
theorem bytesToList_inj {a b : ByteArray} (h : a.toList = b.toList) : a.data.toList = b.data.toList := by
 rwa [ByteArray.toList_eq, ByteArray.toList_eq] at h
theorem strs_eq {a b : List Int} (ha : BytesB a) (hb : BytesB b) : ((strOfNums a).toList = (strOfNums b).toList) ↔ a = b :=
 ⟨fun h => strs_inj ha hb (bytesToList_inj h), fun h => by rw [h]⟩
/-- What a climb from a range's leaves and a proof comes to: the top, the rest of the proof, the texts that are digested; false: the proof has too few. -/
def climbT (a n f : Nat) (lv pr : List (List Int)) : List Int × List (List Int) × List (List Int) × Bool :=
 if a + n ≤ f ∨ f + lv.length ≤ a then (if pr.length = 0 then ([], [], [], false) else (pr.getD 0 [], pr.drop 1, [], true))
 else if _h : n ≤ 1 then (lv.getD (a - f) [], pr, [], true)
 else (let u := climbT a (hf n) f lv pr; let v := climbT (a + hf n) (n - hf n) f lv u.2.1
  (dig (1 :: (u.1 ++ v.1)), v.2.1, u.2.2.1 ++ v.2.2.1 ++ [1 :: (u.1 ++ v.1)], u.2.2.2 && v.2.2.2))
termination_by n
decreasing_by
 ·have := hf_lt (n := n) (by omega); omega
 have := hf_pos n; omega
theorem climbT_none {a n f : Nat} {lv pr : List (List Int)} (h : a + n ≤ f ∨ f + lv.length ≤ a) (h0 : pr.length = 0) : climbT a n f lv pr = ([], [], [], false) := by rw [climbT, if_pos h, if_pos h0]
theorem climbT_out {a n f : Nat} {lv pr : List (List Int)} (h : a + n ≤ f ∨ f + lv.length ≤ a) (h0 : pr.length ≠ 0) : climbT a n f lv pr = (pr.getD 0 [], pr.drop 1, [], true) := by rw [climbT, if_pos h, if_neg h0]
theorem climbT_leaf {a n f : Nat} {lv pr : List (List Int)} (h : ¬ (a + n ≤ f ∨ f + lv.length ≤ a)) (h1 : n ≤ 1) : climbT a n f lv pr = (lv.getD (a - f) [], pr, [], true) := by rw [climbT, if_neg h, dif_pos h1]
theorem climbT_node {a n f : Nat} {lv pr : List (List Int)} (h : ¬ (a + n ≤ f ∨ f + lv.length ≤ a)) (h2 : 2 ≤ n) : climbT a n f lv pr =
  (dig (1 :: ((climbT a (hf n) f lv pr).1 ++ (climbT (a + hf n) (n - hf n) f lv (climbT a (hf n) f lv pr).2.1).1)), (climbT (a + hf n) (n - hf n) f lv (climbT a (hf n) f lv pr).2.1).2.1,
   (climbT a (hf n) f lv pr).2.2.1 ++ (climbT (a + hf n) (n - hf n) f lv (climbT a (hf n) f lv pr).2.1).2.2.1 ++ [1 :: ((climbT a (hf n) f lv pr).1 ++ (climbT (a + hf n) (n - hf n) f lv (climbT a (hf n) f lv pr).2.1).1)],
   (climbT a (hf n) f lv pr).2.2.2 && (climbT (a + hf n) (n - hf n) f lv (climbT a (hf n) f lv pr).2.1).2.2.2) := by rw [climbT, if_neg h, dif_neg (by omega)]
theorem rg_mem {l : List (List Int)} {i : Nat} (h : i < l.length) : l.getD i [] ∈ l := by rw [List.getD_eq_getElem?_getD, List.getElem?_eq_getElem h]; exact List.getElem_mem _
/-- What a climb comes to: sizes. -/
theorem climbT_ok : ∀ (n a f : Nat) (lv pr : List (List Int)), 1 ≤ n → Lv lv → Lv pr → ((climbT a n f lv pr).1.length ≤ 32 ∧ BytesB (climbT a n f lv pr).1) ∧ (Lv (climbT a n f lv pr).2.1 ∧ (climbT a n f lv pr).2.1.length ≤ pr.length) ∧
  ((climbT a n f lv pr).2.2.1.length ≤ n - 1 ∧ ∀ t ∈ (climbT a n f lv pr).2.2.1, BytesB t ∧ t.length ≤ 65) ∧ ((climbT a n f lv pr).2.2.2 = true → (climbT a n f lv pr).1.length = 32) := by
 intro n
 induction n using Nat.strongRecOn with
 | _ n ih =>
  intro a f lv pr h1 hv hp
  by_cases ho : a + n ≤ f ∨ f + lv.length ≤ a
  ·by_cases h0 : pr.length = 0
   ·rw [climbT_none ho h0]
    exact ⟨⟨Nat.zero_le _, fun y hy => by cases hy⟩, ⟨fun x hx => (by cases hx), Nat.zero_le _⟩, ⟨Nat.zero_le _, fun t ht => by cases ht⟩, fun h => by cases h⟩
   have hx := hp _ (rg_mem (l := pr) (i := 0) (by omega))
   rw [climbT_out ho h0]
   exact ⟨⟨by show (pr.getD 0 []).length ≤ 32; omega, hx.2⟩, ⟨hp.drop 1, by show (pr.drop 1).length ≤ _; rw [List.length_drop]; omega⟩, ⟨Nat.zero_le _, fun t ht => by cases ht⟩, fun _ => hx.1⟩
  by_cases h2 : n ≤ 1
  ·have hx := hv _ (rg_mem (l := lv) (i := a - f) (by omega))
   rw [climbT_leaf ho h2]
   exact ⟨⟨by show (lv.getD (a - f) []).length ≤ 32; omega, hx.2⟩, ⟨hp, Nat.le_refl _⟩, ⟨Nat.zero_le _, fun t ht => by cases ht⟩, fun _ => hx.1⟩
  have h3 := hf_pos n
  have h4 := hf_lt (n := n) (by omega)
  have u := ih (hf n) h4 a f lv pr h3 hv hp
  have v := ih (n - hf n) (by omega) (a + hf n) f lv (climbT a (hf n) f lv pr).2.1 (by omega) hv u.2.1.1
  rw [climbT_node ho (by omega)]
  refine ⟨⟨by show (dig _).length ≤ 32; rw [dig_length]; omega, dig_bytes _⟩, ⟨v.2.1.1, Nat.le_trans v.2.1.2 u.2.1.2⟩, ⟨?_, fun t ht => ?_⟩, fun _ => dig_length _⟩
  ·show (_ ++ _ ++ _ : List (List Int)).length ≤ n - 1
   have hu := u.2.2.1.1
   have hw := v.2.2.1.1
   rw [List.length_append, List.length_append, List.length_singleton]
   omega
  have ht' : t ∈ (climbT a (hf n) f lv pr).2.2.1 ++ (climbT (a + hf n) (n - hf n) f lv (climbT a (hf n) f lv pr).2.1).2.2.1 ++ [1 :: ((climbT a (hf n) f lv pr).1 ++ (climbT (a + hf n) (n - hf n) f lv (climbT a (hf n) f lv pr).2.1).1)] := ht
  rw [List.mem_append, List.mem_append, List.mem_singleton] at ht'
  rcases ht' with (ht | ht) | rfl
  ·exact u.2.2.1.2 t ht
  ·exact v.2.2.1.2 t ht
  refine ⟨isBytes_cons (by decide) (isBytes_app u.1.2 v.1.2), ?_⟩
  have := u.1.1
  have := v.1.1
  simp only [List.length_cons, List.length_append]; omega
/-- What a range's proof must be for its root. -/
def rangeB (root : List Int) (n f : Nat) (lv pr : List (List Int)) : Bool := (climbT 0 n f lv pr).2.2.2 && decide ((climbT 0 n f lv pr).2.1.length = 0) && decide (dig (2 :: (e8 n ++ (climbT 0 n f lv pr).1)) = root)
def rgAll (l : List (List Int)) : Bool := l.all (fun x => decide (x.length = 32))
theorem rgAll_lv {l : List (List Int)} (h : rgAll l = true) (hb : ∀ x ∈ l, BytesB x) : Lv l := fun x hx => ⟨by have := List.all_eq_true.1 h x hx; simpa using this, hb x hx⟩
/-- What a range's proof is answered with. -/
def rangeC (root : List Int) (n f : Int) (lv pr : List (List Int)) : Int := if n < 1 ∨ 4096 < n ∨ lv.length = 0 ∨ f < 0 ∨ n < f + lv.length ∨ root.length ≠ 32 ∨ rgAll lv = false ∨ rgAll pr = false then 1 else if rangeB root n.toNat f.toNat lv pr = true then 0 else 50
end Go.Proofs.YtdpdmmbdoeefbaaDoor.PCut
namespace Go.Proofs.YtdpdmmbdoeefbaaDoor.PCr
open Go.RowKit YtdpdmmbdoeefbaaDoorW.PrintWords YtdpdmmbdoeefbaaDoorW.PrintLast YtdpdmmbdoeefbaaDoorW.PrintMore X PCut
theorem outside_eq {a n f t : Nat} (h : a + n ≤ 1000000) : merkle_span_outside.f a n f t = some (decide (a + n ≤ f ∨ t ≤ a)) := by
 unfold merkle_span_outside.f
 rw [w64 (x := (a : Int) + (n : Int)) (by omega) (by omega)]
 by_cases h1 : (a : Int) + (n : Int) ≤ (f : Int)
 ·rw [if_pos h1, decide_eq_true (by omega)]
 rw [if_neg h1]
 by_cases h2 : t ≤ a
 ·rw [decide_eq_true (by omega), decide_eq_true (by omega)]
 rw [decide_eq_false (by omega), decide_eq_false (by omega)]
theorem halves_eq {a n : Nat} (h2 : 2 ≤ n) (h : a + n ≤ 1000000) : merkle_span_halves.f a n = some ((a : Int), (hf n : Int), ((a + hf n : Nat) : Int), ((n - hf n : Nat) : Int)) := by
 have h4 := hf_lt h2
 unfold merkle_span_halves.f
 rw [half_eq n h2 (by omega), Option.bind_some, w64 (x := (a : Int) + (hf n : Int)) (by omega) (by omega), w64 (x := (n : Int) - (hf n : Int)) (by omega) (by omega), show (a : Int) + (hf n : Int) = ((a + hf n : Nat) : Int) by omega, show (n : Int) - (hf n : Int) = ((n - hf n : Nat) : Int) by omega]
theorem sized_l (l : List (List Int)) (hl : l.length ≤ 100000) : ∀ (d k i : Nat), i + d = l.length → merkle_sized.l0 (k + d + 1) l l.length i = some ((l.drop i).all (fun x => decide (x.length = 32))) := by
 intro d
 induction d with
 | zero =>
  intro k i hi
  rw [merkle_sized.l0, if_neg (by omega), List.drop_of_length_le (by omega)]
  rfl
 | succ d ih =>
  intro k i hi
  rw [show k + (d + 1) + 1 = (k + d + 1) + 1 by omega, merkle_sized.l0, if_pos (by omega), if_pos (by omega), if_pos (by omega), all_drop l _ [] i (by omega), show rd_L1 l (i : Int) = l.getD i [] by unfold rd_L1; rw [Int.toNat_natCast], w64 (by omega) (by omega), show (i : Int) + 1 = ((i + 1 : Nat) : Int) by omega, ih k (i + 1) (by omega)]
  by_cases h : (l.getD i []).length = 32
  ·rw [if_pos (by omega), decide_eq_true h, Bool.true_and]
  rw [if_neg (by omega), decide_eq_false h, Bool.false_and]
theorem sized_eq (l : List (List Int)) (k : Nat) (hk : l.length < k) (hl : l.length ≤ 100000) : merkle_sized.f k l = some (rgAll l) := by
 unfold merkle_sized.f
 have := sized_l l hl l.length (k - l.length - 1) 0 (by omega)
 rw [show k - l.length - 1 + l.length + 1 = k by omega] at this
 exact this
end Go.Proofs.YtdpdmmbdoeefbaaDoor.PCr
