/- Several texts as one. -/
import Derived.Test.YtcnpdapampclpaaDoorX
import Derived.Test.YtcnpdapampclpaaDoorWT
import Derived.Test.YtcnpdapampclpaaDoorB
import Derived.Test.YtcnpdapampclpaaDoorWC
set_option linter.unusedVariables false
namespace Go.Proofs.YtcnpdapampclpaaDoor.PPl
open Go.RowKit Go.Proofs.YtcnpdapampclpaaDoorW.PrintWords Go.Proofs.YtcnpdapampclpaaDoorW.PrintLast Go.Proofs.YtcnpdapampclpaaDoorW.PrintMore Go.Proofs.YtcnpdapampclpaaDoor.X Go.Proofs.YtcnpdapampclpaaDoor.H
theorem dig_length (t : List Int) : (dig t).length = 32 := tell32_length _ _
theorem em32_bytes (x : Int) : ∀ j, ∀ y ∈ em32 x j, 0 ≤ y ∧ y < 256
 | 0, y, hy => by cases hy
 | j + 1, y, hy => by
  rw [em32, List.mem_append] at hy
  rcases hy with hy | hy
  ·exact em32_bytes x j y hy
  ·rw [List.mem_singleton] at hy
   subst hy
   simp only [IntKind.wrap_u8]
   omega
theorem tell32_bytes (h : List Int) : ∀ n, ∀ y ∈ tell32 h n, 0 ≤ y ∧ y < 256
 | 0, y, hy => by cases hy
 | n + 1, y, hy => by
  rw [tell32, List.mem_append] at hy
  rcases hy with hy | hy
  ·exact tell32_bytes h n y hy
  ·exact em32_bytes _ _ y hy
theorem dig_bytes (t : List Int) : ∀ x ∈ dig t, 0 ≤ x ∧ x < 256 := tell32_bytes _ _
theorem isBytes_of {l : List Int} (h : ∀ x ∈ l, 0 ≤ x ∧ x < 256) : isBytes l = true := List.all_eq_true.2 fun x hx => decide_eq_true (h x hx)
theorem digest_some {a : Int} {l : List (List Int)} (hb : isBytes (a :: l.flatten) = true) (hl : (a :: l.flatten).length ≤ 1048576) : trail_digest.f a l = some (dig (a :: l.flatten)) := by unfold trail_digest.f; rw [if_pos ⟨hb, hl⟩]
/-- The greatest power of 2 below a number above 1. -/
def hf (n : Nat) : Nat := 2 ^ Nat.log2 (n - 1)
theorem hf_pos (n : Nat) : 1 ≤ hf n := Nat.one_le_two_pow
theorem hf_lt {n : Nat} (h : 2 ≤ n) : hf n < n := by
 have := Nat.log2_self_le (n := n - 1) (by omega)
 unfold hf
 omega
theorem hf_le {n : Nat} (h : 2 ≤ n) : n ≤ 2 * hf n := by
 have := Nat.lt_log2_self (n := n - 1)
 unfold hf
 rw [Nat.pow_succ] at this
 omega
/-- Leaves: 32 bytes each. -/
def Lv (l : List (List Int)) : Prop := ∀ x ∈ l, x.length = 32 ∧ ∀ y ∈ x, 0 ≤ y ∧ y < 256
theorem Lv.take {l : List (List Int)} (h : Lv l) (k : Nat) : Lv (l.take k) := fun x hx => h x (List.mem_of_mem_take hx)
theorem Lv.drop {l : List (List Int)} (h : Lv l) (k : Nat) : Lv (l.drop k) := fun x hx => h x (List.mem_of_mem_drop hx)
/-- The top of leaves. -/
def topL (l : List (List Int)) : List Int :=
 if _h : l.length ≤ 1 then l.getD 0 [] else dig (17 :: (topL (l.take (hf l.length)) ++ topL (l.drop (hf l.length))))
termination_by l.length
decreasing_by
 ·simp only [List.length_take]; have := hf_lt (n := l.length) (by omega); omega
 ·simp only [List.length_drop]; have := hf_pos l.length; omega
theorem topL_one {l : List (List Int)} (h : l.length = 1) : topL l = l.getD 0 [] := by rw [topL, dif_pos (by omega)]
theorem topL_node {l : List (List Int)} (h : 2 ≤ l.length) : topL l = dig (17 :: (topL (l.take (hf l.length)) ++ topL (l.drop (hf l.length)))) := by rw [topL, dif_neg (by omega)]
theorem topL_32 {l : List (List Int)} (h : Lv l) (hn : 1 ≤ l.length) : (topL l).length = 32 ∧ ∀ y ∈ topL l, 0 ≤ y ∧ y < 256 := by
 by_cases h1 : l.length = 1
 ·rw [topL_one h1, List.getD_eq_getElem?_getD, List.getElem?_eq_getElem (by omega)]
  exact h _ (List.getElem_mem _)
 ·rw [topL_node (by omega)]
  exact ⟨dig_length _, dig_bytes _⟩
theorem isBytes_app {a b : List Int} (ha : ∀ y ∈ a, 0 ≤ y ∧ y < 256) (hb : ∀ y ∈ b, 0 ≤ y ∧ y < 256) : ∀ y ∈ a ++ b, 0 ≤ y ∧ y < 256 := fun y hy => by
 rcases List.mem_append.1 hy with h | h
 ·exact ha y h
 ·exact hb y h
theorem isBytes_cons {x : Int} {b : List Int} (hx : 0 ≤ x ∧ x < 256) (hb : ∀ y ∈ b, 0 ≤ y ∧ y < 256) : ∀ y ∈ x :: b, 0 ≤ y ∧ y < 256 := fun y hy => by
 rcases List.mem_cons.1 hy with h | h
 ·exact h ▸ hx
 ·exact hb y h
theorem digest2 {m : Int} {a b : List Int} (hm : 0 ≤ m ∧ m < 256) (ha : ∀ y ∈ a, 0 ≤ y ∧ y < 256) (hb : ∀ y ∈ b, 0 ≤ y ∧ y < 256) (hl : a.length + b.length ≤ 100000) : trail_digest.f m [a, b] = some (dig (m :: (a ++ b))) := by
 have e : ([a, b] : List (List Int)).flatten = a ++ b := by simp
 rw [digest_some (by rw [e]; exact isBytes_of (isBytes_cons hm (isBytes_app ha hb))) (by rw [e]; simp; omega), e]
theorem digest1 {m : Int} {a : List Int} (hm : 0 ≤ m ∧ m < 256) (ha : ∀ y ∈ a, 0 ≤ y ∧ y < 256) (hl : a.length ≤ 100000) : trail_digest.f m [a] = some (dig (m :: a)) := by
 have e : ([a] : List (List Int)).flatten = a := by simp
 rw [digest_some (by rw [e]; exact isBytes_of (isBytes_cons hm ha)) (by rw [e]; simp; omega), e]
/-- A number in eight bytes. -/
def e8 (n : Int) : List Int := [n % 18446744073709551616 / 72057594037927936 % 256, n % 18446744073709551616 / 281474976710656 % 256, n % 18446744073709551616 / 1099511627776 % 256, n % 18446744073709551616 / 4294967296 % 256, n % 18446744073709551616 / 16777216 % 256, n % 18446744073709551616 / 65536 % 256, n % 18446744073709551616 / 256 % 256, n % 18446744073709551616 % 256]
theorem e8_bytes (n : Int) : ∀ y ∈ e8 n, 0 ≤ y ∧ y < 256 := by
 intro y hy
 simp only [e8, List.mem_cons, List.not_mem_nil, or_false] at hy
 rcases hy with h | h | h | h | h | h | h | h <;> omega
theorem e8_length (n : Int) : (e8 n).length = 8 := rfl
theorem shr64 (x : Int) (j : Nat) (hj : j < 64) : shr .u64 x (j : Int) = x / 2 ^ j := by
 unfold shr
 rw [show min (j : Int).toNat IntKind.u64.bits = j by rw [Int.toNat_natCast]; exact Nat.min_eq_left (by show j ≤ 64; omega)]
def BytesB (l : List Int) : Prop := ∀ y ∈ l, 0 ≤ y ∧ y < 256
theorem u8_inj {a b : Int} (ha : 0 ≤ a ∧ a < 256) (hb : 0 ≤ b ∧ b < 256) (h : UInt8.ofNat a.toNat = UInt8.ofNat b.toNat) : a = b := by
 have h1 := congrArg UInt8.toNat h
 simp only [UInt8.toNat_ofNat'] at h1
 omega
theorem strs_inj : ∀ {a b : List Int}, BytesB a → BytesB b → (a.map fun n => UInt8.ofNat n.toNat) = (b.map fun n => UInt8.ofNat n.toNat) → a = b
 | [], [], _, _, _ => rfl
 | [], _ :: _, _, _, h => by simp at h
 | _ :: _, [], _, _, h => by simp at h
 | x :: a, y :: b, ha, hb, h => by
  simp only [List.map_cons, List.cons.injEq] at h
  rw [u8_inj (ha x (by simp)) (hb y (by simp)) h.1, strs_inj (fun z hz => ha z (by simp [hz])) (fun z hz => hb z (by simp [hz])) h.2]
theorem bytesToList_inj {a b : ByteArray} (h : a.toList = b.toList) : a.data.toList = b.data.toList := by
 rwa [ByteArray.toList_eq, ByteArray.toList_eq] at h
theorem strs_eq {a b : List Int} (ha : BytesB a) (hb : BytesB b) : ((strOfNums a).toList = (strOfNums b).toList) ↔ a = b :=
 ⟨fun h => strs_inj ha hb (bytesToList_inj h), fun h => by rw [h]⟩
theorem strs_beq {a b : List Int} (ha : BytesB a) (hb : BytesB b) : ((strOfNums a).toList == (strOfNums b).toList) = decide (a = b) := by
 rw [Bool.eq_iff_iff, beq_iff_eq, decide_eq_true_iff]
 exact strs_eq ha hb
/-- The tops of the whole parts of 2 to the k marks. -/
def levL (M : List (List Int)) (k : Nat) : List (List Int) := (List.range (M.length / 2 ^ k)).map fun j => topL ((M.drop (j * 2 ^ k)).take (2 ^ k))
theorem levL_length (M : List (List Int)) (k : Nat) : (levL M k).length = M.length / 2 ^ k := by simp [levL]
theorem levL_get (M : List (List Int)) (k j : Nat) (h : j < M.length / 2 ^ k) : (levL M k).getD j [] = topL ((M.drop (j * 2 ^ k)).take (2 ^ k)) := by
 unfold levL
 rw [List.getD_eq_getElem?_getD, List.getElem?_map, List.getElem?_range h]
 rfl
theorem levL_zero (M : List (List Int)) : levL M 0 = M := by
 apply List.ext_getElem?
 intro i
 by_cases h : i < M.length
 ·rw [List.getElem?_eq_getElem (by rw [levL_length]; simpa using h)]
  have := levL_get M 0 i (by simpa using h)
  rw [List.getD_eq_getElem?_getD, List.getElem?_eq_getElem (by rw [levL_length]; simpa using h), Option.getD_some] at this
  rw [this, List.getElem?_eq_getElem h, topL_one (by simp; omega)]
  congr 1
  rw [List.getD_eq_getElem?_getD, List.getElem?_take, if_pos (by simp), List.getElem?_drop, List.getElem?_eq_getElem (by simpa using h)]
  simp
 ·rw [List.getElem?_eq_none (by rw [levL_length]; simp; omega), List.getElem?_eq_none (by omega)]
theorem hf_pow (k : Nat) : hf (2 ^ (k + 1)) = 2 ^ k := by
 have h1 : 2 ^ (k + 1) = 2 * 2 ^ k := by rw [Nat.pow_succ]; omega
 have h2 : 0 < 2 ^ k := Nat.two_pow_pos k
 have h3 : Nat.log2 (2 ^ (k + 1) - 1) < k + 1 := (Nat.log2_lt (by omega)).2 (by omega)
 have h4 : k ≤ Nat.log2 (2 ^ (k + 1) - 1) := (Nat.le_log2 (by omega)).2 (by omega)
 unfold hf
 rw [show Nat.log2 (2 ^ (k + 1) - 1) = k by omega]
/-- The last part of 2 to the k marks. -/
def lastP (M : List (List Int)) (k : Nat) : List Int := topL (M.drop (M.length - 2 ^ k))
theorem lastP_zero (M : List (List Int)) (m : List Int) : lastP (M ++ [m]) 0 = m := by
 unfold lastP
 rw [topL_one (by simp), List.length_append, List.length_singleton, Nat.pow_zero, Nat.add_sub_cancel, List.drop_append, List.drop_of_length_le (Nat.le_refl _), Nat.sub_self]
 rfl
theorem levL_same (M : List (List Int)) (m : List Int) (k : Nat) (h : (M.length + 1) % 2 ^ k ≠ 0) : levL (M ++ [m]) k = levL M k := by
 have h2 : 0 < 2 ^ k := Nat.two_pow_pos k
 have e : (M.length + 1) / 2 ^ k = M.length / 2 ^ k := by
  have := Nat.succ_div (a := M.length) (b := 2 ^ k)
  rw [show M.length + 1 = M.length.succ from rfl, this, if_neg (fun hd => h (Nat.mod_eq_zero_of_dvd hd))]; rfl
 unfold levL
 rw [List.length_append, List.length_singleton, e]
 apply List.map_congr_left
 intro j hj
 have hj' := List.mem_range.1 hj
 have h3 : (j + 1) * 2 ^ k ≤ M.length := Nat.le_trans (Nat.mul_le_mul_right _ hj') (Nat.div_mul_le_self _ _)
 rw [Nat.add_mul, Nat.one_mul] at h3
 congr 1
 rw [List.drop_append_of_le_length (by omega), List.take_append_of_le_length (by rw [List.length_drop]; omega)]
theorem levL_more (M : List (List Int)) (m : List Int) (k : Nat) (h : (M.length + 1) % 2 ^ k = 0) : levL (M ++ [m]) k = levL M k ++ [lastP (M ++ [m]) k] := by
 have h2 : 0 < 2 ^ k := Nat.two_pow_pos k
 obtain ⟨q, hq⟩ := Nat.dvd_of_mod_eq_zero h
 have hq0 : 0 < q := by
  rcases Nat.eq_zero_or_pos q with h0 | h0
  ·rw [h0] at hq; omega
  ·exact h0
 obtain ⟨r, rfl⟩ : ∃ r, q = r + 1 := ⟨q - 1, by omega⟩
 rw [Nat.mul_add, Nat.mul_one, Nat.mul_comm] at hq
 have e1 : (M.length + 1) / 2 ^ k = r + 1 := by rw [hq, Nat.add_div_right _ h2, Nat.mul_div_cancel _ h2]
 have e2 : M.length / 2 ^ k = r := by
  have : M.length = r * 2 ^ k + (2 ^ k - 1) := by omega
  rw [this, Nat.mul_comm, Nat.mul_add_div h2, Nat.div_eq_of_lt (by omega)]; omega
 unfold levL
 rw [List.length_append, List.length_singleton, e1, e2, List.range_succ, List.map_append]
 congr 1
 ·apply List.map_congr_left
  intro j hj
  have hj' := List.mem_range.1 hj
  have h3 : (j + 1) * 2 ^ k ≤ r * 2 ^ k := Nat.mul_le_mul_right _ hj'
  rw [Nat.add_mul, Nat.one_mul] at h3
  congr 1
  rw [List.drop_append_of_le_length (by omega), List.take_append_of_le_length (by rw [List.length_drop]; omega)]
 ·show [topL _] = [lastP _ k]
  unfold lastP
  rw [List.length_append, List.length_singleton, hq, Nat.add_sub_cancel, List.take_of_length_le (by rw [List.length_drop, List.length_append, List.length_singleton]; omega)]
theorem lastP_succ (M : List (List Int)) (k : Nat) (h : M.length % 2 ^ (k + 1) = 0) (h0 : 0 < M.length) : lastP M (k + 1) = dig (17 :: ((levL M k).getD (M.length / 2 ^ k - 2) [] ++ lastP M k)) := by
 have h2 : 0 < 2 ^ k := Nat.two_pow_pos k
 have hs : 2 ^ (k + 1) = 2 * 2 ^ k := by rw [Nat.pow_succ]; omega
 obtain ⟨q, hq⟩ := Nat.dvd_of_mod_eq_zero h
 have hq0 : 0 < q := by
  rcases Nat.eq_zero_or_pos q with h0' | h0'
  ·rw [h0'] at hq; omega
  ·exact h0'
 obtain ⟨r, rfl⟩ : ∃ r, q = r + 1 := ⟨q - 1, by omega⟩
 have hM : M.length = (2 * r + 2) * 2 ^ k := by rw [hq, hs, Nat.mul_comm 2 (2 ^ k), Nat.mul_assoc, Nat.mul_comm (2 ^ k)]; congr 1
 have hd : M.length / 2 ^ k = 2 * r + 2 := by rw [hM, Nat.mul_div_cancel _ h2]
 rw [Nat.add_mul] at hM
 rw [levL_get M k _ (by omega), hd, show 2 * r + 2 - 2 = 2 * r by omega]
 unfold lastP
 have hl : (M.drop (M.length - 2 ^ (k + 1))).length = 2 ^ (k + 1) := by rw [List.length_drop]; omega
 rw [topL_node (l := M.drop (M.length - 2 ^ (k + 1))) (by omega), hl, hf_pow, List.drop_drop]
 rw [show M.length - 2 ^ (k + 1) = 2 * r * 2 ^ k by omega, show 2 * r * 2 ^ k + 2 ^ k = M.length - 2 ^ k by omega]
/-- A part that whole parts make up. -/
def Valid (f n : Nat) : Prop := ∃ j, n ≤ 2 ^ j ∧ f % 2 ^ j = 0
theorem Valid.zero (n : Nat) : Valid 0 n := ⟨n, Nat.le_of_lt Nat.lt_two_pow_self, Nat.zero_mod _⟩
theorem Valid.pow {f k : Nat} (h : Valid f (2 ^ k)) : f % 2 ^ k = 0 := by
 obtain ⟨j, h1, h2⟩ := h
 have hkj : k ≤ j := (Nat.pow_le_pow_iff_right (by decide)).1 h1
 exact Nat.mod_eq_zero_of_dvd (Nat.dvd_trans (Nat.pow_dvd_pow 2 hkj) (Nat.dvd_of_mod_eq_zero h2))
theorem Valid.left {f n : Nat} (h : Valid f n) (hn : 2 ≤ n) : Valid f (hf n) := by
 obtain ⟨j, h1, h2⟩ := h
 refine ⟨Nat.log2 (n - 1), Nat.le_refl _, ?_⟩
 have h3 := hf_lt hn
 have : Nat.log2 (n - 1) ≤ j := (Nat.pow_le_pow_iff_right (a := 2) (by decide)).1 (Nat.le_trans (Nat.le_of_lt h3) h1)
 exact Nat.mod_eq_zero_of_dvd (Nat.dvd_trans (Nat.pow_dvd_pow 2 this) (Nat.dvd_of_mod_eq_zero h2))
theorem Valid.right {f n : Nat} (h : Valid f n) (hn : 2 ≤ n) : Valid (f + hf n) (n - hf n) := by
 have h1 := (h.left hn).pow (k := Nat.log2 (n - 1))
 have h2 := hf_le hn
 refine ⟨Nat.log2 (n - 1), by show n - hf n ≤ hf n; omega, ?_⟩
 show (f + 2 ^ Nat.log2 (n - 1)) % 2 ^ Nat.log2 (n - 1) = 0
 rw [Nat.add_mod_right]; exact h1
theorem lev_top (M : List (List Int)) (f k : Nat) (h : f % 2 ^ k = 0) (hM : f + 2 ^ k ≤ M.length) : (levL M k).getD (f / 2 ^ k) [] = topL ((M.drop f).take (2 ^ k)) := by
 have h2 : 0 < 2 ^ k := Nat.two_pow_pos k
 have h3 : f / 2 ^ k * 2 ^ k = f := Nat.div_mul_cancel (Nat.dvd_of_mod_eq_zero h)
 rw [levL_get, h3]
 exact (Nat.lt_div_iff_mul_lt h2).2 (by omega)
theorem part_node (M : List (List Int)) (f n : Nat) (hn : 2 ≤ n) (hM : f + n ≤ M.length) : topL ((M.drop f).take n) = dig (17 :: (topL ((M.drop f).take (hf n)) ++ topL ((M.drop (f + hf n)).take (n - hf n)))) := by
 have h3 := hf_lt hn
 have hl : ((M.drop f).take n).length = n := by rw [List.length_take, List.length_drop]; omega
 rw [topL_node (l := (M.drop f).take n) (by omega), hl, List.take_take, Nat.min_eq_left (by omega), List.drop_take, List.drop_drop]
end Go.Proofs.YtcnpdapampclpaaDoor.PPl
namespace Go.Proofs.YtcnpdapampclpaaDoor.X
open Go.RowKit Go.Proofs.YtcnpdapampclpaaDoor.H Go.Proofs.YtcnpdapampclpaaDoorW.PrintWords Go.Proofs.YtcnpdapampclpaaDoorW.PrintLast Go.Proofs.YtcnpdapampclpaaDoorW.PrintMore
abbrev dB : Kd (List Int) := Kd.slice 5 (Kd.int .u8)
def nilV : Value := .slice none 0 0
/-- What the row of level k, and what it leads to, are not. -/
def okL (p : Nat) (vs : List Value) (k b : Nat) : Prop := b ≠ p ∧ ∀ j, j ≠ k → some b ≠ (vs.getD j nilV).ownBlock
/-- The blocks that a trail writes. -/
def ownT (p : Nat) (vs : List Value) (b : Nat) : Prop := b = p ∨ ∃ j, (vs.getD j nilV).ownBlock = some b
structure TrailR (base p : Nat) (n : Int) (vs : List Value) (L : Nat → List (List Int)) (w : World) : Prop where
  blk : w.heap[p]? = some (.cells (Value.int .i64 n :: vs).toArray 64 (0, 0))
  hb : base ≤ p
  lv : vs.length = 13
  row : ∀ k, k < 13 → Kd.N dB 23 w base (okL p vs k) (vs.getD k nilV) (L k)
section
variable {base p : Nat} {n : Int} {vs : List Value} {L : Nat → List (List Int)} {w w1 : World}
theorem TrailR.below (h : TrailR base p n vs L w) (hb : Below w.heap.size w w1) : TrailR base p n vs L w1 :=
  ⟨blk_below h.blk hb, h.hb, h.lv, fun k hk => Kd.N_below (h.row k hk) hb⟩
theorem TrailR.lt (h : TrailR base p n vs L w) : p < w.heap.size := blk_lt h.blk
theorem TrailR.cellN (h : TrailR base p n vs L w) : w.cell? ⟨p, 0, none⟩ = some (.int .i64 n) := (blk_cell h.blk 0).trans rfl
theorem TrailR.cell (h : TrailR base p n vs L w) {k : Nat} (hk : k < 13) : w.cell? ⟨p, 1 + k, none⟩ = some (vs.getD k nilV) := by
  refine (blk_cell h.blk (1 + k)).trans ?_
  have := h.lv
  rw [show 1 + k = k + 1 by omega]
  simp [List.getD_eq_getElem?_getD, List.getElem?_eq_getElem (show k < vs.length by omega)]
theorem TrailR.frozen (h : TrailR base p n vs L w) (i : Nat) : w.frozen? ⟨p, i, none⟩ = false := blk_frozen h.blk i
theorem TrailR.own_lt (h : TrailR base p n vs L w) {j b : Nat} (hj : (vs.getD j nilV).ownBlock = some b) : b < w.heap.size := by
  by_cases h13 : j < 13
  · exact Kd.N_lt (h.row j h13) b hj
  · rw [List.getD_eq_getElem?_getD, List.getElem?_eq_none (by rw [h.lv]; omega)] at hj
    simp [nilV, Value.ownBlock] at hj
theorem TrailR.own_base (h : TrailR base p n vs L w) {j b : Nat} (hj : (vs.getD j nilV).ownBlock = some b) : base ≤ b := by
  by_cases h13 : j < 13
  · exact Kd.N_base (h.row j h13) b hj
  · rw [List.getD_eq_getElem?_getD, List.getElem?_eq_none (by rw [h.lv]; omega)] at hj
    simp [nilV, Value.ownBlock] at hj
theorem TrailR.ownT_lt (h : TrailR base p n vs L w) {b : Nat} (hb : ownT p vs b) : b < w.heap.size := by
  rcases hb with rfl | ⟨j, hj⟩
  · exact h.lt
  · exact h.own_lt hj
theorem TrailR.ownT_base (h : TrailR base p n vs L w) {b : Nat} (hb : ownT p vs b) : base ≤ b := by
  rcases hb with rfl | ⟨j, hj⟩
  · exact h.hb
  · exact h.own_base hj
theorem TrailR.fresh (h : TrailR base p n vs L w) (k : Nat) : ∀ b, w.heap.size ≤ b → okL p vs k b := fun b hb =>
  ⟨fun e => by have := h.lt; omega, fun j _ e => by have := h.own_lt e.symm; omega⟩
/-- The number of entries anew. -/
theorem TrailR.setN (h : TrailR base p n vs L w) (m : Int) : TrailR base p m vs L (w.setCell ⟨p, 0, none⟩ (.int .i64 m)) :=
  ⟨blk_put h.blk 0 _ (by simp), h.hb, h.lv, fun k hk => Kd.N_far (h.row k hk) (fun b hb => hb.1) _⟩
theorem getD_set_self {α : Type} (l : List α) (k : Nat) (v d : α) (h : k < l.length) : (l.set k v).getD k d = v := by
  rw [List.getD_eq_getElem?_getD, List.getElem?_set_self h]; rfl
theorem getD_set_ne {α : Type} (l : List α) (k j : Nat) (v d : α) (h : j ≠ k) : (l.set k v).getD j d = l.getD j d := by
  rw [List.getD_eq_getElem?_getD, List.getElem?_set_ne (fun e => h e.symm), ← List.getD_eq_getElem?_getD]
/-- The row of one level anew: behind an append to it. -/
theorem TrailR.put {k : Nat} (h : TrailR base p n vs L w) (hk : k < 13) {v1 : Value} {xs : List (List Int)} (hN : Kd.N dB 23 w1 base (okL p vs k) v1 xs) (hg : w.grownBy w1 (vs.getD k nilV).ownBlock)
    (hat : v1.ownBlock = (vs.getD k nilV).ownBlock ∨ ∃ b, v1.ownBlock = some b ∧ w.heap.size ≤ b) :
    TrailR base p n (vs.set k v1) (fun j => if j = k then xs else L j) (w1.setCell ⟨p, 1 + k, none⟩ v1) := by
  have hlv := h.lv
  have hpk : some p ≠ (vs.getD k nilV).ownBlock := fun e => ((h.row k hk).1 p e.symm).1 rfl
  have hpv : some p ≠ v1.ownBlock := by
    rcases hat with hat | ⟨b, hb1, hb2⟩
    · rw [hat]; exact hpk
    · rw [hb1]; intro e; injection e with e; have := h.lt; omega
  refine ⟨blk_put (blk_grown h.blk hg hpk) (1 + k) v1 ?_, h.hb, by rw [List.length_set]; exact hlv, fun j hj => ?_⟩
  · rw [show 1 + k = k + 1 by omega]; simp
  · by_cases hjk : j = k
    · subst hjk
      rw [if_pos rfl, getD_set_self _ _ _ _ (by omega)]
      refine Kd.N_far (Kd.N_mono hN (ok' := okL p (vs.set j v1) j) (fun b hb => ⟨hb.1, fun i hi => ?_⟩)) (fun b hb => hb.1) _
      rw [getD_set_ne _ _ _ _ _ hi]
      exact hb.2 i hi
    · rw [if_neg hjk, getD_set_ne _ _ _ _ _ hjk]
      have h1 := Kd.N_grown (Kd.N_bound (h.row j hj)) hg (fun b hb => hb.1.2 k (fun e => hjk e.symm))
      refine Kd.N_far (Kd.N_mono h1 (ok' := okL p (vs.set k v1) j) (fun b hb => ⟨hb.1.1, fun i hi => ?_⟩)) (fun b hb => hb.1) _
      by_cases hik : i = k
      · subst hik
        rw [getD_set_self _ _ _ _ (by omega)]
        rcases hat with hat | ⟨c, hc1, hc2⟩
        · rw [hat]; exact hb.1.2 i (fun e => hjk e.symm)
        · rw [hc1]; intro e; injection e with e; have := hb.2; omega
      · rw [getD_set_ne _ _ _ _ _ hik]; exact hb.1.2 i hi
theorem TrailR.congrL {L' : Nat → List (List Int)} (h : TrailR base p n vs L w) (hL : ∀ k, k < 13 → L k = L' k) : TrailR base p n vs L' w :=
  ⟨h.blk, h.hb, h.lv, fun k hk => by rw [← hL k hk]; exact h.row k hk⟩
/-- What is not the trail's may change. -/
theorem TrailR.fr {S : Nat → Prop} (h : TrailR base p n vs L w) (hf : Fr S w w1) (hp : ¬ S p) (hs : ∀ k, k < 13 → ∀ b, okL p vs k b → b < w.heap.size → ¬ S b) : TrailR base p n vs L w1 :=
  ⟨hf.blk h.blk hp, h.hb, h.lv, fun k hk => Kd.N_step (h.row k hk) (fun b hb hlt => hf.block b hlt (hs k hk b hb hlt))⟩
end
def vs0 : List Value := List.replicate 13 nilV
theorem new_c (w : World) : Calls Tryd.prog 24 #[] w fun e w' => e = .returned (.pointer (some ⟨w.heap.size, 0, none⟩)) ∧ TrailR w.heap.size w.heap.size 0 vs0 (fun _ => []) w' ∧ Below w.heap.size w w' := by
  go_enter Tryd.func24, Tryd.ntmps24
  go_wp2
  go_ret
  exact ⟨rfl, ⟨blk_new w _, Nat.le_refl _, rfl, fun k hk => by rw [show vs0.getD k nilV = nilV by unfold vs0; rw [List.getD_eq_getElem?_getD, List.getElem?_replicate, if_pos hk]; rfl]; exact Kd.N_nil _ _ _ _ _⟩, below_alloc (Below.refl _ _) _⟩
end Go.Proofs.YtcnpdapampclpaaDoor.X
