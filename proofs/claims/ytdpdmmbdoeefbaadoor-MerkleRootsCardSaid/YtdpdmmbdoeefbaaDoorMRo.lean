/- Plain lemmas for one law. -/
import Derived.Test.YtdpdmmbdoeefbaaDoorPCax1
import Derived.Test.YtdpdmmbdoeefbaaDoorPCox1
import Derived.Test.YtdpdmmbdoeefbaaDoorPCsx1
import Derived.Test.YtdpdmmbdoeefbaaDoorPCutx1
import Derived.Test.YtdpdmmbdoeefbaaDoorPCutx2
import Derived.Test.YtdpdmmbdoeefbaaDoorPRax1
import Derived.Test.YtdpdmmbdoeefbaaDoorPRbx1
import Derived.Test.YtdpdmmbdoeefbaaDoorPRox1
import Derived.Test.YtdpdmmbdoeefbaaDoorK
import Derived.Test.YtdpdmmbdoeefbaaDoorWU
set_option linter.unusedVariables false
namespace Go.Proofs.YtdpdmmbdoeefbaaDoor.PCut
open Go.RowKit Go.Proofs.YtdpdmmbdoeefbaaDoorW.PrintWords Go.Proofs.YtdpdmmbdoeefbaaDoorW.PrintLast Go.Proofs.YtdpdmmbdoeefbaaDoorW.PrintMore Go.Proofs.YtdpdmmbdoeefbaaDoor.X
theorem w64 {x : Int} (h : -9223372036854775808 ≤ x) (h' : x ≤ 9223372036854775807) : wrap64 x = x := by unfold wrap64; omega
theorem div_next (n : Int) {c : Int} (hc : 0 < c) : (n - c - 1) / c + 1 = (n - 1) / c := by
  have := Int.add_mul_ediv_right (n - c - 1) 1 (show c ≠ 0 by omega)
  rw [Int.one_mul, show n - c - 1 + c = n - 1 by omega] at this
  omega
theorem div_up (n : Int) {c : Int} (hc : 0 < c) : (n + c - 1) / c = (n - 1) / c + 1 := by
  have := Int.add_mul_ediv_right (n - 1) 1 (show c ≠ 0 by omega)
  rw [Int.one_mul, show n - 1 + c = n + c - 1 by omega] at this
  exact this
/-- How many chunks there are. -/
def cntE (n c : Int) : Int × Int := if n < 0 ∨ c < 64 ∨ c > 1024 then (0, 1) else if n > 131072 then (0, 2) else ((n - 1) / c + 1, 0)
theorem count_eq (k : Nat) (n c : Int) : merkle_Count.f (k + 1) n c = some (cntE n c) := by
  unfold merkle_Count.f cntE
  by_cases h1 : n < 0
  · rw [if_pos h1, if_pos (.inl h1), merkle_Count.j0, if_pos rfl]
  by_cases h2 : c < 64
  · rw [if_neg h1, if_pos h2, if_pos (.inr (.inl h2)), merkle_Count.j0, if_pos rfl]
  by_cases h3 : c > 1024
  · rw [if_neg h1, if_neg h2, if_pos (.inr (.inr h3)), merkle_Count.j0, if_pos (decide_eq_true h3)]
  rw [if_neg h1, if_neg h2, if_neg (show ¬ (n < 0 ∨ c < 64 ∨ c > 1024) by omega), merkle_Count.j0, if_neg (by simpa using h3)]
  by_cases h4 : n > 131072
  · rw [if_pos h4, if_pos h4]
  rw [if_neg h4, if_neg h4, if_neg (by omega), w64 (x := n + c) (by omega) (by omega), w64 (x := n + c - 1) (by omega) (by omega), Int.tdiv_eq_ediv_of_nonneg (by omega), div_up n (by omega)]
  have h5 : 0 ≤ (n - 1) / c + 1 := by have := Int.ediv_nonneg (a := n + c - 1) (b := c) (by omega) (by omega); rwa [div_up n (by omega)] at this
  have h6 : (n - 1) / c + 1 ≤ 131073 := by have h7 : (n - 1) / c ≤ 131072 := Int.le_of_lt_add_one (Int.ediv_lt_of_lt_mul (by omega) (by rw [show (131072 + 1 : Int) * c = c * 131073 by rw [Int.mul_comm]; rfl]; omega)); omega
  rw [w64 (by omega) (by omega)]
/-- The greatest power of 2 below a number above 1. -/
def hf (n : Nat) : Nat := 2 ^ Nat.log2 (n - 1)
theorem hf_pos (n : Nat) : 1 ≤ hf n := Nat.one_le_two_pow
theorem hf_lt {n : Nat} (h : 2 ≤ n) : hf n < n := by
  have := Nat.log2_self_le (n := n - 1) (by omega)
  unfold hf
  omega
theorem hf_le {n : Nat} (h : 2 ≤ n) : n ≤ 2 * hf n := by
  have := Nat.lt_log2_self (n := n - 1)
  unfold hf
  rw [Nat.pow_succ] at this
  omega
theorem bitLenAux_eq : ∀ (f x : Nat), 0 < x → x < 2 ^ f → Lib.bitLenAux f x = Nat.log2 x + 1 := by
  intro f
  induction f with
  | zero => intro x h1 h2; simp at h2; omega
  | succ f ih =>
    intro x h1 h2
    rw [Lib.bitLenAux, if_neg (by omega), Nat.log2_def]
    by_cases h : x ≥ 2
    · rw [if_pos h, ih (x / 2) (by omega) (by rw [Nat.pow_succ] at h2; omega)]; omega
    · obtain rfl : x = 1 := by omega
      cases f <;> rfl
theorem half_eq (n : Nat) (h : 2 ≤ n) (h' : n ≤ 1000000) : merkle_half.f (n : Int) = some (hf n : Int) := by
  have e1 : wrap64 ((n : Int) - 1) = ((n - 1 : Nat) : Int) := by rw [w64 (by omega) (by omega)]; omega
  have e2 : IntKind.u64.wrap ((n - 1 : Nat) : Int) = ((n - 1 : Nat) : Int) := by show ((n - 1 : Nat) : Int) % 18446744073709551616 = _; omega
  have e64 : n - 1 < 2 ^ 64 := Nat.lt_trans (show n - 1 < 1048576 by omega) (by decide)
  have hb : Lib.bitLen (n - 1) = Nat.log2 (n - 1) + 1 := bitLenAux_eq 64 _ (by omega) e64
  have hl : Nat.log2 (n - 1) < 20 := by
    rw [Nat.log2_lt (by omega)]
    have : (2:Nat) ^ 20 = 1048576 := by decide
    omega
  unfold merkle_half.f bits_Len.f
  rw [e1, e2, if_pos (by omega)]
  simp only [Option.bind_some]
  rw [Int.toNat_natCast, hb, show wrap64 (((Nat.log2 (n - 1) + 1 : Nat) : Int) - 1) = (Nat.log2 (n - 1) : Int) by rw [w64 (by omega) (by omega)]; omega, if_pos (by omega)]
  unfold shl
  rw [show min (Nat.log2 (n - 1) : Int).toNat IntKind.i64.bits = Nat.log2 (n - 1) by rw [Int.toNat_natCast]; exact Nat.min_eq_left (by show _ ≤ 64; omega), Int.one_mul]
  have e3 : ((2 : Int) ^ Nat.log2 (n - 1)) = (hf n : Int) := by unfold hf; rw [Int.natCast_pow]; rfl
  rw [e3]
  congr 1
  have h5 := hf_lt h
  exact IntWalk.i64_in (hf n : Int) (by omega)
/-- Leaves: 32 bytes each. -/
def Lv (l : List (List Int)) : Prop := ∀ x ∈ l, x.length = 32 ∧ ∀ y ∈ x, 0 ≤ y ∧ y < 256
theorem Lv.take {l : List (List Int)} (h : Lv l) (k : Nat) : Lv (l.take k) := fun x hx => h x (List.mem_of_mem_take hx)
theorem Lv.drop {l : List (List Int)} (h : Lv l) (k : Nat) : Lv (l.drop k) := fun x hx => h x (List.mem_of_mem_drop hx)
/-- The top of leaves. -/
def topL (l : List (List Int)) : List Int :=
  if _h : l.length ≤ 1 then l.getD 0 [] else dig (1 :: (topL (l.take (hf l.length)) ++ topL (l.drop (hf l.length))))
termination_by l.length
decreasing_by
  · simp only [List.length_take]; have := hf_lt (n := l.length) (by omega); omega
  · simp only [List.length_drop]; have := hf_pos l.length; omega
theorem topL_one {l : List (List Int)} (h : l.length = 1) : topL l = l.getD 0 [] := by rw [topL, dif_pos (by omega)]
theorem topL_node {l : List (List Int)} (h : 2 ≤ l.length) : topL l = dig (1 :: (topL (l.take (hf l.length)) ++ topL (l.drop (hf l.length)))) := by rw [topL, dif_neg (by omega)]
theorem topL_32 {l : List (List Int)} (h : Lv l) (hn : 1 ≤ l.length) : (topL l).length = 32 ∧ ∀ y ∈ topL l, 0 ≤ y ∧ y < 256 := by
  by_cases h1 : l.length = 1
  · rw [topL_one h1, List.getD_eq_getElem?_getD, List.getElem?_eq_getElem (by omega)]
    exact h _ (List.getElem_mem _)
  · rw [topL_node (by omega)]
    exact ⟨dig_length _, dig_bytes _⟩
theorem isBytes_app {a b : List Int} (ha : ∀ y ∈ a, 0 ≤ y ∧ y < 256) (hb : ∀ y ∈ b, 0 ≤ y ∧ y < 256) : ∀ y ∈ a ++ b, 0 ≤ y ∧ y < 256 := fun y hy => by
  rcases List.mem_append.1 hy with h | h
  · exact ha y h
  · exact hb y h
theorem isBytes_cons {x : Int} {b : List Int} (hx : 0 ≤ x ∧ x < 256) (hb : ∀ y ∈ b, 0 ≤ y ∧ y < 256) : ∀ y ∈ x :: b, 0 ≤ y ∧ y < 256 := fun y hy => by
  rcases List.mem_cons.1 hy with h | h
  · exact h ▸ hx
  · exact hb y h
theorem digest2 {m : Int} {a b : List Int} (hm : 0 ≤ m ∧ m < 256) (ha : ∀ y ∈ a, 0 ≤ y ∧ y < 256) (hb : ∀ y ∈ b, 0 ≤ y ∧ y < 256) (hl : a.length + b.length ≤ 100000) : merkle_digest.f m [a, b] = some (dig (m :: (a ++ b))) := by
  have e : ([a, b] : List (List Int)).flatten = a ++ b := by simp
  rw [digest_some (by rw [e]; exact isBytes_of (isBytes_cons hm (isBytes_app ha hb))) (by rw [e]; simp; omega), e]
theorem digest1 {m : Int} {a : List Int} (hm : 0 ≤ m ∧ m < 256) (ha : ∀ y ∈ a, 0 ≤ y ∧ y < 256) (hl : a.length ≤ 100000) : merkle_digest.f m [a] = some (dig (m :: a)) := by
  have e : ([a] : List (List Int)).flatten = a := by simp
  rw [digest_some (by rw [e]; exact isBytes_of (isBytes_cons hm ha)) (by rw [e]; simp; omega), e]
theorem top_eq : ∀ (n : Nat) (l : List (List Int)) (k : Nat), l.length = n → 1 ≤ n → n ≤ 100000 → Lv l → n ≤ k → merkle_top.f k l = some (topL l) := by
  intro n
  induction n using Nat.strongRecOn with
  | _ n ih =>
    intro l k hl h1 h2 hv hk
    obtain ⟨k, rfl⟩ : ∃ j, k = j + 1 := ⟨k - 1, by omega⟩
    rw [merkle_top.f]
    by_cases h : n = 1
    · rw [if_pos (by omega), if_pos (by omega), topL_one (by omega)]
      rfl
    · have h3 := hf_pos n
      have h4 := hf_lt (n := n) (by omega)
      have t1 : (l.take (hf n)).length = hf n := by rw [List.length_take]; omega
      have t2 : (l.drop (hf n)).length = n - hf n := by rw [List.length_drop]; omega
      rw [if_neg (by omega), hl, half_eq n (by omega) (by omega)]
      simp only [Option.bind_some, Int.toNat_natCast]
      rw [if_pos (by omega), if_pos (by omega), ih (hf n) (by omega) _ k t1 h3 (by omega) (hv.take _) (by omega)]
      simp only [Option.bind_some]
      rw [ih (n - hf n) (by omega) _ k t2 (by omega) (by omega) (hv.drop _) (by omega)]
      simp only [Option.bind_some]
      have ha := topL_32 (hv.take (hf n)) (by omega)
      have hb := topL_32 (hv.drop (hf n)) (by omega)
      rw [digest2 (by decide) ha.2 hb.2 (by omega), topL_node (l := l) (by omega), hl]
      rfl
/-- The error of leaves. -/
def lvE (l : List (List Int)) : Int := if l.length > 4096 then 2 else if l.all (fun x => decide (x.length = 32)) = true then 0 else 1
theorem all_drop {α : Type} (l : List α) (p : α → Bool) (d : α) (i : Nat) (h : i < l.length) : (l.drop i).all p = (p (l.getD i d) && (l.drop (i + 1)).all p) := by
  rw [List.drop_eq_getElem_cons h, List.all_cons, List.getD_eq_getElem?_getD, List.getElem?_eq_getElem h]
  rfl
theorem leaves_l (l : List (List Int)) (hl : l.length ≤ 100000) : ∀ (d k i : Nat), i + d = l.length → merkle_leaves.l0 (k + d + 1) l l.length i = some (if (l.drop i).all (fun x => decide (x.length = 32)) = true then 0 else 1) := by
  intro d
  induction d with
  | zero =>
    intro k i hi
    rw [merkle_leaves.l0, if_neg (by omega), List.drop_of_length_le (by omega)]
    rfl
  | succ d ih =>
    intro k i hi
    rw [show k + (d + 1) + 1 = (k + d + 1) + 1 by omega, merkle_leaves.l0, if_pos (by omega), if_pos (by omega), if_pos (by omega), all_drop l _ [] i (by omega), show rd_L1 l (i : Int) = l.getD i [] by unfold rd_L1; rw [Int.toNat_natCast], w64 (by omega) (by omega), show (i : Int) + 1 = ((i + 1 : Nat) : Int) by omega, ih k (i + 1) (by omega)]
    by_cases h : (l.getD i []).length = 32
    · rw [if_pos (by omega), decide_eq_true h, Bool.true_and]
    · rw [if_neg (by omega), decide_eq_false h, Bool.false_and]
      rfl
theorem leaves_eq (l : List (List Int)) (k : Nat) (hk : l.length < k) (hl : l.length ≤ 100000) : merkle_leaves.f k l = some (lvE l) := by
  unfold merkle_leaves.f lvE
  by_cases h : l.length > 4096
  · rw [if_pos (by omega), if_pos h]
  · rw [if_neg (by omega), if_neg h]
    have := leaves_l l hl l.length (k - l.length - 1) 0 (by omega)
    rw [show k - l.length - 1 + l.length + 1 = k by omega] at this
    exact this
theorem lvE_zero {l : List (List Int)} (hb : ∀ x ∈ l, ∀ y ∈ x, 0 ≤ y ∧ y < 256) : lvE l = 0 ↔ l.length ≤ 4096 ∧ Lv l := by
  unfold lvE
  constructor
  · intro h
    split at h
    · cases h
    · split at h
      · rename_i h1 h2
        refine ⟨by omega, fun x hx => ⟨?_, hb x hx⟩⟩
        have := List.all_eq_true.1 h2 x hx
        simpa using this
      · cases h
  · rintro ⟨h1, h2⟩
    rw [if_neg (by omega), if_pos (List.all_eq_true.2 fun x hx => decide_eq_true (h2 x hx).1)]
/-- A number in eight bytes. -/
def e8 (n : Int) : List Int := [n % 18446744073709551616 / 72057594037927936 % 256, n % 18446744073709551616 / 281474976710656 % 256, n % 18446744073709551616 / 1099511627776 % 256, n % 18446744073709551616 / 4294967296 % 256, n % 18446744073709551616 / 16777216 % 256, n % 18446744073709551616 / 65536 % 256, n % 18446744073709551616 / 256 % 256, n % 18446744073709551616 % 256]
theorem e8_bytes (n : Int) : ∀ y ∈ e8 n, 0 ≤ y ∧ y < 256 := by
  intro y hy
  simp only [e8, List.mem_cons, List.not_mem_nil, or_false] at hy
  rcases hy with h | h | h | h | h | h | h | h <;> omega
theorem e8_length (n : Int) : (e8 n).length = 8 := rfl
theorem shr64 (x : Int) (j : Nat) (hj : j < 64) : shr .u64 x (j : Int) = x / 2 ^ j := by
  unfold shr
  rw [show min (j : Int).toNat IntKind.u64.bits = j by rw [Int.toNat_natCast]; exact Nat.min_eq_left (by show j ≤ 64; omega)]
theorem eight_raw (k : Nat) (n : Int) : merkle_eight.f (k + 9) n = some [shr .u64 (IntKind.u64.wrap n) ((56 : Nat) : Int) % 256, shr .u64 (IntKind.u64.wrap n) ((48 : Nat) : Int) % 256, shr .u64 (IntKind.u64.wrap n) ((40 : Nat) : Int) % 256, shr .u64 (IntKind.u64.wrap n) ((32 : Nat) : Int) % 256, shr .u64 (IntKind.u64.wrap n) ((24 : Nat) : Int) % 256, shr .u64 (IntKind.u64.wrap n) ((16 : Nat) : Int) % 256, shr .u64 (IntKind.u64.wrap n) ((8 : Nat) : Int) % 256, shr .u64 (IntKind.u64.wrap n) ((0 : Nat) : Int) % 256] := by kernel_rfl
theorem eight_eq (k : Nat) (n : Int) (hk : 9 ≤ k) : merkle_eight.f k n = some (e8 n) := by
  obtain ⟨k, rfl⟩ : ∃ j, k = j + 9 := ⟨k - 9, by omega⟩
  rw [eight_raw]
  simp only [shr64 _ _ (show (56 : Nat) < 64 by decide), shr64 _ _ (show (48 : Nat) < 64 by decide), shr64 _ _ (show (40 : Nat) < 64 by decide), shr64 _ _ (show (32 : Nat) < 64 by decide), shr64 _ _ (show (24 : Nat) < 64 by decide), shr64 _ _ (show (16 : Nat) < 64 by decide), shr64 _ _ (show (8 : Nat) < 64 by decide), shr64 _ _ (show (0 : Nat) < 64 by decide)]
  unfold e8
  rw [show IntKind.u64.wrap n = n % 18446744073709551616 from rfl]
  simp
def tq (x : Int) : Int := IntKind.u64.wrap (Int.tdiv x 256)
theorem tq_eq {x : Int} (h : 0 ≤ x) (h' : x < 18446744073709551616) : tq x = x / 256 := by
  unfold tq
  rw [Int.tdiv_eq_ediv_of_nonneg h]
  show x / 256 % 18446744073709551616 = _
  omega
theorem tm_eq {x : Int} (h : 0 ≤ x) : Int.tmod x 256 % 256 = x % 256 := by rw [Int.tmod_eq_emod_of_nonneg h]; omega
theorem leaf_eq (k : Nat) (hk : 9 ≤ k) (p : Int) (c : List Int) (hb : ∀ y ∈ c, 0 ≤ y ∧ y < 256) : merkle_Leaf.f k p c = some (if p < 0 then ([], 1) else if c.length > 1024 then ([], 2) else (dig (0 :: (e8 p ++ c)), 0)) := by
  unfold merkle_Leaf.f
  by_cases h1 : p < 0
  · rw [if_pos h1, if_pos h1]
  by_cases h2 : c.length > 1024
  · rw [if_neg h1, if_neg h1, if_pos (by omega), if_pos h2]
  rw [if_neg h1, if_neg h1, if_neg (by omega), if_neg h2, eight_eq k p hk]
  simp only [Option.bind_some]
  rw [digest2 (by decide) (e8_bytes p) hb (by rw [e8_length]; omega)]
  rfl
/-- The root of leaves. -/
def rootL (l : List (List Int)) : List Int := dig (2 :: (e8 l.length ++ (if l.length = 0 then [] else topL l)))
theorem root_eq (k : Nat) (l : List (List Int)) (hl : l.length ≤ 100000) (hk : l.length + 9 ≤ k) (hb : ∀ x ∈ l, ∀ y ∈ x, 0 ≤ y ∧ y < 256) : merkle_Root.f k l = some (if lvE l = 0 then (rootL l, 0) else ([], lvE l)) := by
  unfold merkle_Root.f
  rw [leaves_eq l k (by omega) hl]
  simp only [Option.bind_some]
  by_cases h : lvE l = 0
  · rw [if_pos h, if_pos h]
    have hv := (lvE_zero hb).1 h
    unfold rootL
    by_cases h0 : l.length = 0
    · rw [if_pos (by omega), if_pos h0, eight_eq k 0 (by omega)]
      simp only [Option.bind_some]
      rw [digest1 (by decide) (e8_bytes 0) (by rw [e8_length]; omega), h0]
      simp
    · rw [if_neg (by omega), if_neg h0, eight_eq k _ (by omega)]
      simp only [Option.bind_some]
      have ht := topL_32 hv.2 (by omega)
      rw [top_eq l.length l k rfl (by omega) hl hv.2 (by omega)]
      simp only [Option.bind_some]
      rw [digest2 (by decide) (e8_bytes _) ht.2 (by rw [e8_length]; omega)]
      rfl
  · rw [if_neg h, if_neg h]
def BytesB (l : List Int) : Prop := ∀ y ∈ l, 0 ≤ y ∧ y < 256
theorem sum_ge (l : List (List Int)) : l.length ≤ (l.map (fun x => x.length + 1)).sum := by
  induction l with
  | nil => simp
  | cons x l ih => simp only [List.map_cons, List.sum_cons, List.length_cons]; omega
theorem byte_of {x : Int} (h : (Lit.int .u8 x).wf = true) : 0 ≤ x ∧ x < 256 := by
  simp [Lit.wf, IntKind.min, IntKind.max, IntKind.bits, IntKind.signed] at h
  omega
theorem row_bytes {l : List (List Int)} (g : ∀ x ∈ l, (∀ y ∈ x, (Lit.int .u8 y).wf = true) ∧ x.length * 1 ≤ 140737488351232) : ∀ x ∈ l, ∀ y ∈ x, 0 ≤ y ∧ y < 256 := fun x hx y hy => byte_of ((g x hx).1 y hy)
theorem row_len {l : List (List Int)} (g : ∀ x ∈ l, (∀ y ∈ x, (Lit.int .u8 y).wf = true) ∧ x.length * 1 ≤ 140737488351232) : ∀ x ∈ l, x.length ≤ 140737488355328 := fun x hx => by have := (g x hx).2; omega
theorem hash_eq {t : List Int} (hb : BytesB t) (hl : t.length ≤ 1048576) : imprimaturref02_Hash256.f t = some (dig t) := by
  unfold imprimaturref02_Hash256.f
  rw [if_pos ⟨isBytes_of hb, hl⟩]
/-- All texts that are digested for the top of leaves. -/
def textsL (l : List (List Int)) : List (List Int) :=
  if _h : l.length ≤ 1 then [] else textsL (l.take (hf l.length)) ++ textsL (l.drop (hf l.length)) ++ [1 :: (topL (l.take (hf l.length)) ++ topL (l.drop (hf l.length)))]
termination_by l.length
decreasing_by
  · simp only [List.length_take]; have := hf_lt (n := l.length) (by omega); omega
  · simp only [List.length_drop]; have := hf_pos l.length; omega
theorem textsL_one {l : List (List Int)} (h : l.length ≤ 1) : textsL l = [] := by rw [textsL, dif_pos h]
theorem textsL_node {l : List (List Int)} (h : 2 ≤ l.length) : textsL l = textsL (l.take (hf l.length)) ++ textsL (l.drop (hf l.length)) ++ [1 :: (topL (l.take (hf l.length)) ++ topL (l.drop (hf l.length)))] := by rw [textsL, dif_neg (by omega)]
theorem textsL_ok : ∀ (n : Nat) (l : List (List Int)), l.length = n → Lv l → (textsL l).length ≤ n - 1 ∧ ∀ t ∈ textsL l, BytesB t ∧ t.length = 65 := by
  intro n
  induction n using Nat.strongRecOn with
  | _ n ih =>
    intro l hl hv
    by_cases h : n ≤ 1
    · rw [textsL_one (by omega)]; exact ⟨by simp, fun t ht => by cases ht⟩
    · have h3 := hf_pos n
      have h4 := hf_lt (n := n) (by omega)
      have t1 : (l.take (hf n)).length = hf n := by rw [List.length_take]; omega
      have t2 : (l.drop (hf n)).length = n - hf n := by rw [List.length_drop]; omega
      have h5 := topL_32 (hv.take (hf n)) (by omega)
      have h6 := topL_32 (hv.drop (hf n)) (by omega)
      have a1 := ih (hf n) h4 _ t1 (hv.take _)
      have a2 := ih (n - hf n) (by omega) _ t2 (hv.drop _)
      rw [textsL_node (by omega), hl]
      refine ⟨?_, fun t ht => ?_⟩
      · simp only [List.length_append, List.length_singleton]; omega
      · rw [List.mem_append, List.mem_append, List.mem_singleton] at ht
        rcases ht with (ht | ht) | rfl
        · exact a1.2 t ht
        · exact a2.2 t ht
        · exact ⟨isBytes_cons (by decide) (isBytes_app h5.2 h6.2), by simp [h5.1, h6.1]⟩
/-- A text's pieces. -/
def pcs (c : Nat) : Nat → List Int → List (List Int)
  | 0, _ => []
  | m + 1, b => b.take c :: pcs c m (b.drop c)
/-- How many pieces there are. -/
theorem cnt_nat (L c : Nat) (hc : 0 < c) : ((L : Int) - 1) / (c : Int) + 1 = (((L + c - 1) / c : Nat) : Int) := by
  rw [← div_up (L : Int) (by omega)]
  rw [show (L : Int) + c - 1 = ((L + c - 1 : Nat) : Int) by omega]
  rfl
theorem cnt_step (L c : Nat) (hc : 0 < c) (hL : c ≤ L) : (L + c - 1) / c = (L - c + c - 1) / c + 1 := by
  rw [show L + c - 1 = (L - c + c - 1) + c by omega, Nat.add_div_right _ hc]
theorem cnt_small (L c : Nat) (hc : 0 < c) (h0 : 0 < L) (hL : L ≤ c) : (L + c - 1) / c = 1 := by
  rw [show L + c - 1 = (L - 1) + c by omega, Nat.add_div_right _ hc, Nat.div_eq_of_lt (by omega)]
theorem cnt_zero (c : Nat) (hc : 0 < c) : (0 + c - 1) / c = 0 := Nat.div_eq_of_lt (by omega)
/-- A chunk's leaf. -/
def lfE (p : Int) (c : List Int) : List Int × Int := if p < 0 then ([], 1) else if c.length > 1024 then ([], 2) else (dig (0 :: (e8 p ++ c)), 0)
/-- The leaves of chunks, from a place on. -/
def lfs : Nat → List (List Int) → List (List Int)
  | _, [] => []
  | i, c :: ps => (lfE i c).1 :: lfs (i + 1) ps
theorem pcs_len (c : Nat) : ∀ (m : Nat) (b : List Int), (pcs c m b).length = m
  | 0, _ => rfl
  | m + 1, b => by rw [pcs, List.length_cons, pcs_len c m]
theorem pcs_bytes (c : Nat) : ∀ (m : Nat) (b : List Int), BytesB b → ∀ x ∈ pcs c m b, BytesB x
  | 0, _, _, x, hx => by cases hx
  | m + 1, b, hb, x, hx => by
    rw [pcs, List.mem_cons] at hx
    rcases hx with rfl | hx
    · exact fun y hy => hb y (List.mem_of_mem_take hy)
    · exact pcs_bytes c m _ (fun y hy => hb y (List.mem_of_mem_drop hy)) x hx
theorem lfs_ok : ∀ (ps : List (List Int)) (i : Nat), (lfs i ps).length = ps.length ∧ ∀ x ∈ lfs i ps, BytesB x
  | [], i => ⟨rfl, fun x hx => by cases hx⟩
  | c :: ps, i => by
    have h := lfs_ok ps (i + 1)
    refine ⟨by rw [lfs, List.length_cons, h.1, List.length_cons], fun x hx => ?_⟩
    rw [lfs, List.mem_cons] at hx
    rcases hx with rfl | hx
    · unfold lfE
      split
      · intro y hy; cases hy
      · split
        · intro y hy; cases hy
        · exact dig_bytes _
    · exact h.2 x hx
end Go.Proofs.YtdpdmmbdoeefbaaDoor.PCut
namespace Go.Proofs.YtdpdmmbdoeefbaaDoor.PCa
open Go.RowKit Go.Proofs.YtdpdmmbdoeefbaaDoorW.PrintWords Go.Proofs.YtdpdmmbdoeefbaaDoorW.PrintLast Go.Proofs.YtdpdmmbdoeefbaaDoorW.PrintMore Go.Proofs.YtdpdmmbdoeefbaaDoor.X Go.Proofs.YtdpdmmbdoeefbaaDoor.PCut
theorem refcount_l (c : Int) (hc : 64 ≤ c) (hc' : c ≤ 1024) : ∀ (d k : Nat) (n m : Int), n ≤ 64 * d → -c < n → n ≤ 131072 → 0 ≤ m → m + d ≤ 10000000 → imprimaturref06_Count.l0 (k + d + 1) n c m = some (m + ((n - 1) / c + 1), 0) := by
  intro d
  induction d with
  | zero =>
    intro k n m h1 h2 h3 h4 h5
    rw [imprimaturref06_Count.l0, if_neg (by omega)]
    have : (n - 1) / c = -1 := by
      have := div_next n (c := c) (by omega)
      have h6 := Int.ediv_eq_zero_of_lt (a := n + c - 1) (b := c) (by omega) (by omega)
      rw [div_up n (by omega)] at h6
      omega
    rw [this]
    simp
  | succ d ih =>
    intro k n m h1 h2 h3 h4 h5
    rw [show k + (d + 1) + 1 = (k + d + 1) + 1 by omega, imprimaturref06_Count.l0]
    by_cases h : n > 0
    · rw [if_pos h, w64 (x := n - c) (by omega) (by omega), w64 (x := m + 1) (by omega) (by omega), ih k (n - c) (m + 1) (by omega) (by omega) (by omega) (by omega) (by omega)]
      have := div_next n (c := c) (by omega)
      congr 2
      omega
    · rw [if_neg h]
      have : (n - 1) / c = -1 := by
        have h6 := Int.ediv_eq_zero_of_lt (a := n + c - 1) (b := c) (by omega) (by omega)
        rw [div_up n (by omega)] at h6
        omega
      rw [this]
      simp
theorem refcount_eq (k : Nat) (hk : 3000 ≤ k) (n c : Int) : imprimaturref06_Count.f k n c = some (cntE n c) := by
  obtain ⟨k, rfl⟩ : ∃ j, k = (j + 2048 + 1) + 1 := ⟨k - 2050, by omega⟩
  unfold imprimaturref06_Count.f cntE
  by_cases h1 : n < 0
  · rw [if_pos h1, if_pos (.inl h1), imprimaturref06_Count.j0, if_pos rfl]
  by_cases h2 : c < 64
  · rw [if_neg h1, if_pos h2, if_pos (.inr (.inl h2)), imprimaturref06_Count.j0, if_pos rfl]
  by_cases h3 : c > 1024
  · rw [if_neg h1, if_neg h2, if_pos (.inr (.inr h3)), imprimaturref06_Count.j0, if_pos (decide_eq_true h3)]
  rw [if_neg h1, if_neg h2, if_neg (show ¬ (n < 0 ∨ c < 64 ∨ c > 1024) by omega), imprimaturref06_Count.j0, if_neg (by simpa using h3)]
  by_cases h4 : n > 131072
  · rw [if_pos h4, if_pos h4]
  rw [if_neg h4, if_neg h4, refcount_l c (by omega) (by omega) 2048 k n 0 (by omega) (by omega) (by omega) (by omega) (by omega), Int.zero_add]
theorem cut_l (b : List Int) (c : Nat) (hc : 64 ≤ c) (hc' : c ≤ 1024) (hb : b.length ≤ 5000) (N : Nat) (hN : N = (b.length + c - 1) / c) : ∀ (d k i : Nat) (acc : List (List Int)), i + d = N → acc.length = i →
    merkle_Cut.l0 (k + d + 1) b c acc N i = some (acc ++ pcs c d (b.drop (i * c)), 0) := by
  have hNb : N * c ≤ b.length + c - 1 := by rw [hN]; exact Nat.div_mul_le_self _ _
  intro d
  induction d with
  | zero =>
    intro k i acc hi ha
    rw [merkle_Cut.l0, if_neg (by omega)]
    simp [pcs]
  | succ d ih =>
    intro k i acc hi ha
    have h1 : (i + 1) * c ≤ N * c := Nat.mul_le_mul_right _ (by omega)
    rw [Nat.add_mul, Nat.one_mul] at h1
    obtain ⟨j, hj⟩ : ∃ j, j = i * c := ⟨_, rfl⟩
    rw [← hj] at h1
    have hij : i ≤ j := by rw [hj]; exact Nat.le_mul_of_pos_right _ (by omega)
    have hji : (i : Int) * (c : Int) = (j : Int) := by rw [hj]; simp
    rw [show k + (d + 1) + 1 = (k + d + 1) + 1 by omega, merkle_Cut.l0, hji]
    rw [w64 (x := (j : Int)) (by omega) (by omega), w64 (x := (j : Int) + c) (by omega) (by omega), w64 (x := (i : Int) + 1) (by omega) (by omega)]
    obtain ⟨e, he, he1, he2⟩ : ∃ e : Nat, mn (b.length : Int) ((j : Int) + c) = e ∧ e = min b.length (j + c) ∧ j ≤ e := ⟨min b.length (j + c), by unfold mn; split <;> omega, rfl, by omega⟩
    have hd : ((b.take e).drop j).length ≤ 5000 := by simp; omega
    have hx : (b.take e).drop j = (b.drop j).take c := by
      rw [List.drop_take, he1]
      by_cases h : b.length ≤ j + c
      · rw [Nat.min_eq_left h, List.take_of_length_le (by simp), List.take_of_length_le (by simp; omega)]
      · rw [Nat.min_eq_right (by omega), Nat.add_sub_cancel_left]
    rw [he, if_pos (by omega), if_pos (by omega), if_pos (by omega), if_pos (by omega)]
    simp only [Int.toNat_natCast]
    rw [if_pos (by rw [List.length_nil]; omega), if_pos (by omega), List.nil_append, hx, show ((i : Int) + 1) = ((i + 1 : Nat) : Int) by omega, ih k (i + 1) _ (by omega) (by simp [ha])]
    rw [pcs, hj, List.append_assoc, List.singleton_append, List.drop_drop, Nat.add_mul, Nat.one_mul]
theorem cut_eq (k : Nat) (hk : 200 ≤ k) (b : List Int) (c : Int) (hb : b.length ≤ 5000) : merkle_Cut.f k b c = some (if (cntE b.length c).2 = 0 then (pcs c.toNat ((b.length + c.toNat - 1) / c.toNat) b, 0) else ([], (cntE b.length c).2)) := by
  obtain ⟨k, rfl⟩ : ∃ j, k = j + 1 := ⟨k - 1, by omega⟩
  unfold merkle_Cut.f
  rw [count_eq]
  simp only [Option.bind_some]
  by_cases h : (cntE b.length c).2 = 0
  · rw [if_pos h, if_pos h]
    have hr : 64 ≤ c ∧ c ≤ 1024 := by
      unfold cntE at h
      split at h
      · cases h
      · omega
    obtain ⟨c, rfl⟩ := Int.eq_ofNat_of_zero_le (show 0 ≤ c by omega)
    have e1 : (cntE b.length c).1 = (((b.length + c - 1) / c : Nat) : Int) := by
      unfold cntE
      rw [if_neg (by omega), if_neg (by omega)]
      exact cnt_nat _ _ (by omega)
    rw [e1, Int.toNat_natCast]
    have hN : (b.length + c - 1) / c ≤ 100 := Nat.le_of_lt_succ (Nat.div_lt_of_lt_mul (by omega))
    have := cut_l b c (by omega) (by omega) hb _ rfl ((b.length + c - 1) / c) (k - (b.length + c - 1) / c) 0 [] (by omega) rfl
    rw [show k - (b.length + c - 1) / c + (b.length + c - 1) / c + 1 = k + 1 by omega] at this
    rw [show (0 : Int) = ((0 : Nat) : Int) from rfl, this]
    simp
  · rw [if_neg h, if_neg h]
theorem refcut_l (c : Nat) (hc : 64 ≤ c) (hc' : c ≤ 1024) : ∀ (d k : Nat) (b : List Int) (acc : List (List Int)), b.length ≤ 64 * d + 64 → acc.length + d ≤ 1000 →
    imprimaturref06_Cut.l0 (k + d + 1) b c acc = some (acc ++ pcs c ((b.length + c - 1) / c) b, 0) := by
  intro d
  induction d with
  | zero =>
    intro k b acc h1 h2
    rw [imprimaturref06_Cut.l0, if_neg (by omega)]
    by_cases h : b.length = 0
    · obtain rfl := List.length_eq_zero_iff.1 h
      rw [if_neg (by simp), List.length_nil, cnt_zero c (by omega)]
      simp [pcs]
    · rw [if_pos (by omega), if_pos (by omega), cnt_small _ c (by omega) (by omega) (by omega)]
      simp only [pcs]
      rw [List.take_of_length_le (by omega)]
  | succ d ih =>
    intro k b acc h1 h2
    rw [show k + (d + 1) + 1 = (k + d + 1) + 1 by omega, imprimaturref06_Cut.l0]
    by_cases h3 : (b.length : Int) > c
    · rw [if_pos h3, if_pos (by omega), if_pos (by omega), if_pos (by omega), Int.toNat_natCast, ih k (b.drop c) _ (by simp; omega) (by simp; omega), cnt_step b.length c (by omega) (by omega), pcs, List.append_assoc, List.singleton_append, List.length_drop]
    · rw [if_neg h3]
      by_cases h : b.length = 0
      · obtain rfl := List.length_eq_zero_iff.1 h
        rw [if_neg (by simp), List.length_nil, cnt_zero c (by omega)]
        simp [pcs]
      · rw [if_pos (by omega), if_pos (by omega), cnt_small _ c (by omega) (by omega) (by omega)]
        simp only [pcs]
        rw [List.take_of_length_le (by omega)]
theorem refcut_eq (k : Nat) (hk : 3000 ≤ k) (b : List Int) (c : Int) (hb : b.length ≤ 5000) : imprimaturref06_Cut.f k b c = some (if (cntE b.length c).2 = 0 then (pcs c.toNat ((b.length + c.toNat - 1) / c.toNat) b, 0) else ([], (cntE b.length c).2)) := by
  obtain ⟨k, rfl⟩ : ∃ j, k = j + 100 + 1 := ⟨k - 101, by omega⟩
  unfold imprimaturref06_Cut.f
  rw [refcount_eq _ (by omega)]
  simp only [Option.bind_some]
  by_cases h : (cntE b.length c).2 = 0
  · rw [if_pos h, if_pos h]
    have hr : 64 ≤ c ∧ c ≤ 1024 := by
      unfold cntE at h
      split at h
      · cases h
      · omega
    obtain ⟨c, rfl⟩ := Int.eq_ofNat_of_zero_le (show 0 ≤ c by omega)
    rw [refcut_l c (by omega) (by omega) 100 k b [] (by omega) (by simp), Int.toNat_natCast]
    simp
  · rw [if_neg h, if_neg h]
theorem of_l (ps : List (List Int)) (hp : ps.length ≤ 100000) (hb : ∀ x ∈ ps, BytesB x) : ∀ (d k i : Nat) (acc : List (List Int)), i + d = ps.length → ps.length + 10 ≤ k → acc.length = i →
    merkle_Of.l0 (k + d + 1) acc ps ps.length i = merkle_Root.f k (acc ++ lfs i (ps.drop i)) := by
  intro d
  induction d with
  | zero =>
    intro k i acc hi hk ha
    rw [merkle_Of.l0, if_neg (by omega), List.drop_of_length_le (by omega), lfs, List.append_nil]
    cases merkle_Root.f (k + 0) acc <;> rfl
  | succ d ih =>
    intro k i acc hi hk ha
    have hx := hb (ps.getD i []) (by rw [List.getD_eq_getElem?_getD, List.getElem?_eq_getElem (by omega)]; exact List.getElem_mem _)
    rw [show k + (d + 1) + 1 = (k + d + 1) + 1 by omega, merkle_Of.l0, if_pos (by omega), if_pos (by omega), if_pos (by omega), show rd_L1 ps (i : Int) = ps.getD i [] by unfold rd_L1; rw [Int.toNat_natCast], leaf_eq (k + d + 1) (by omega) i _ hx]
    simp only [Option.bind_some]
    rw [if_pos (by omega), w64 (by omega) (by omega), show (i : Int) + 1 = ((i + 1 : Nat) : Int) by omega, ih k (i + 1) _ (by omega) hk (by simp [ha])]
    have e1 : ps.drop i = ps.getD i [] :: ps.drop (i + 1) := by
      rw [List.drop_eq_getElem_cons (show i < ps.length by omega), List.getD_eq_getElem?_getD, List.getElem?_eq_getElem (by omega)]
      rfl
    rw [e1, lfs, List.append_assoc, List.singleton_append]
    rfl
end Go.Proofs.YtdpdmmbdoeefbaaDoor.PCa
namespace Go.Proofs.YtdpdmmbdoeefbaaDoor.PCs
open Go.RowKit Go.Proofs.YtdpdmmbdoeefbaaDoorW.PrintWords Go.Proofs.YtdpdmmbdoeefbaaDoorW.PrintLast Go.Proofs.YtdpdmmbdoeefbaaDoorW.PrintMore Go.Proofs.YtdpdmmbdoeefbaaDoor.X Go.Proofs.YtdpdmmbdoeefbaaDoor.PCut Go.Proofs.YtdpdmmbdoeefbaaDoor.PCa
/-- How many bytes texts have, as far as most. -/
theorem size_l (l : List (List Int)) (m : Nat) (hm : m ≤ 10000) (hb : ∀ x ∈ l, x.length ≤ 140737488355328) : ∀ (d k i : Nat) (n : Int), i + d = l.length → 0 ≤ n → n ≤ m + 140737488355329 → i ≤ n →
    ∃ r, imprimaturref06_Size.l0 (k + d + 1) l m n i = some r ∧ (r ≤ m → n + (((l.drop i).map (fun x => x.length + 1)).sum : Nat) ≤ m ∧ r = n + (((l.drop i).map (fun x => x.length + 1)).sum : Nat)) := by
  intro d
  induction d with
  | zero =>
    intro k i n hi h0 h1 h2
    rw [imprimaturref06_Size.l0, if_neg (by omega)]
    exact ⟨n, rfl, fun h => by rw [List.drop_of_length_le (by omega)]; simpa using h⟩
  | succ d ih =>
    intro k i n hi h0 h1 h2
    rw [show k + (d + 1) + 1 = (k + d + 1) + 1 by omega, imprimaturref06_Size.l0, if_pos (by omega)]
    by_cases h : n ≤ m
    · have hx := hb (l.getD i []) (by rw [List.getD_eq_getElem?_getD, List.getElem?_eq_getElem (by omega)]; exact List.getElem_mem _)
      rw [if_pos h, if_pos (by omega), show rd_L1 l (i : Int) = l.getD i [] by unfold rd_L1; rw [Int.toNat_natCast], w64 (x := n + 1) (by omega) (by omega), w64 (x := n + 1 + ((l.getD i []).length : Int)) (by omega) (by omega), w64 (x := (i : Int) + 1) (by omega) (by omega), show (i : Int) + 1 = ((i + 1 : Nat) : Int) by omega]
      obtain ⟨r, hr, hs⟩ := ih k (i + 1) (n + 1 + ((l.getD i []).length : Int)) (by omega) (by omega) (by omega) (by omega)
      refine ⟨r, hr, fun hrm => ?_⟩
      have := hs hrm
      rw [List.drop_eq_getElem_cons (show i < l.length by omega), List.map_cons, List.sum_cons]
      have e : l[i] = l.getD i [] := by rw [List.getD_eq_getElem?_getD, List.getElem?_eq_getElem (by omega)]; rfl
      rw [e]
      omega
    · rw [if_neg h]
      exact ⟨n, rfl, fun h' => absurd h' h⟩
theorem size_eq (l : List (List Int)) (m : Nat) (hm : m ≤ 10000) (hb : ∀ x ∈ l, x.length ≤ 140737488355328) (hl : l.length ≤ 5864062014805) (k : Nat) (hk : l.length < k) :
    ∃ r, imprimaturref06_Size.f k l m = some r ∧ (r ≤ m → l.length ≤ m ∧ (l.map (fun x => x.length + 1)).sum ≤ m) := by
  unfold imprimaturref06_Size.f
  obtain ⟨r, hr, hs⟩ := size_l l m hm hb l.length (k - l.length - 1) 0 0 (by omega) (by omega) (by omega) (by omega)
  rw [show k - l.length - 1 + l.length + 1 = k by omega] at hr
  refine ⟨r, hr, fun h => ?_⟩
  have := hs h
  have h2 := sum_ge l
  rw [List.drop_zero] at this
  omega
theorem sameBytes_self (x : List Int) : imprimaturref01_SameBytes.f x x = some true := by unfold imprimaturref01_SameBytes.f; rw [beq_self_eq_true]
end Go.Proofs.YtdpdmmbdoeefbaaDoor.PCs
namespace Go.Proofs.YtdpdmmbdoeefbaaDoor.PCo
open Go.RowKit Go.Proofs.YtdpdmmbdoeefbaaDoorW.PrintWords Go.Proofs.YtdpdmmbdoeefbaaDoorW.PrintLast Go.Proofs.YtdpdmmbdoeefbaaDoorW.PrintMore Go.Proofs.YtdpdmmbdoeefbaaDoor.X Go.Proofs.YtdpdmmbdoeefbaaDoor.PCut Go.Proofs.YtdpdmmbdoeefbaaDoor.PCa Go.Proofs.YtdpdmmbdoeefbaaDoor.PCs
theorem refhalf_l (n : Nat) (h : 2 ≤ n) (h' : n ≤ 1000000) : ∀ (d j k : Nat), j + d = Nat.log2 (n - 1) → imprimaturref06_Half.l0 (k + d + 1) n ((2 ^ j : Nat) : Int) = some (hf n : Int) := by
  intro d
  induction d with
  | zero =>
    intro j k hj
    have h5 := hf_lt h
    have h6 := hf_le h
    obtain rfl : j = Nat.log2 (n - 1) := by omega
    rw [show (2 ^ Nat.log2 (n - 1) : Nat) = hf n from rfl, imprimaturref06_Half.l0, w64 (x := (hf n : Int) * 2) (by omega) (by omega), if_neg (by omega)]
  | succ d ih =>
    intro j k hj
    have h7 : 2 ^ (j + 1) ≤ n - 1 := (Nat.le_log2 (by omega)).1 (by omega)
    have h8 : (((2 ^ j : Nat) : Int) * 2) = ((2 ^ (j + 1) : Nat) : Int) := by rw [Nat.pow_succ]; simp
    have h9 := ih (j + 1) k (by omega)
    rw [show k + (d + 1) + 1 = (k + d + 1) + 1 by omega, imprimaturref06_Half.l0, h8]
    generalize 2 ^ (j + 1) = P at *
    rw [w64 (x := (P : Int)) (by omega) (by omega), if_pos (by omega)]
    exact h9
theorem refhalf_eq (n : Nat) (h : 2 ≤ n) (h' : n ≤ 1000000) (k : Nat) (hk : 30 ≤ k) : imprimaturref06_Half.f k (n : Int) = some (hf n : Int) := by
  have hl : Nat.log2 (n - 1) < 20 := by
    rw [Nat.log2_lt (by omega)]
    have : (2:Nat) ^ 20 = 1048576 := by decide
    omega
  have := refhalf_l n h h' (Nat.log2 (n - 1)) 0 (k - Nat.log2 (n - 1) - 1) (by omega)
  rw [show k - Nat.log2 (n - 1) - 1 + Nat.log2 (n - 1) + 1 = k by omega] at this
  exact this
theorem refok_l (l : List (List Int)) (hl : l.length ≤ 100000) : ∀ (d k i : Nat), i + d = l.length → imprimaturref06_ok.l0 (k + d + 1) l i = some (if (l.drop i).all (fun x => decide (x.length = 32)) = true then 0 else 1) := by
  intro d
  induction d with
  | zero =>
    intro k i hi
    rw [imprimaturref06_ok.l0, if_neg (by omega), List.drop_of_length_le (by omega)]
    rfl
  | succ d ih =>
    intro k i hi
    rw [show k + (d + 1) + 1 = (k + d + 1) + 1 by omega, imprimaturref06_ok.l0, if_pos (by omega), if_pos (by omega), all_drop l _ [] i (by omega), show rd_L1 l (i : Int) = l.getD i [] by unfold rd_L1; rw [Int.toNat_natCast], w64 (by omega) (by omega), show (i : Int) + 1 = ((i + 1 : Nat) : Int) by omega, ih k (i + 1) (by omega)]
    by_cases h : (l.getD i []).length = 32
    · rw [if_pos (by omega), decide_eq_true h, Bool.true_and]
    · rw [if_neg (by omega), decide_eq_false h, Bool.false_and]
      rfl
theorem refok_eq (l : List (List Int)) (k : Nat) (hk : l.length < k) (hl : l.length ≤ 100000) : imprimaturref06_ok.f k l = some (lvE l) := by
  unfold imprimaturref06_ok.f lvE
  by_cases h : l.length > 4096
  · rw [if_pos (by omega), if_pos h]
  · rw [if_neg (by omega), if_neg h]
    have := refok_l l hl l.length (k - l.length - 1) 0 (by omega)
    rw [show k - l.length - 1 + l.length + 1 = k by omega] at this
    exact this
theorem refeight_raw (k : Nat) (n : Int) : imprimaturref06_Eight.f (k + 9) n = some [Int.tmod (tq (tq (tq (tq (tq (tq (tq (IntKind.u64.wrap n)))))))) 256 % 256, Int.tmod (tq (tq (tq (tq (tq (tq (IntKind.u64.wrap n))))))) 256 % 256, Int.tmod (tq (tq (tq (tq (tq (IntKind.u64.wrap n)))))) 256 % 256, Int.tmod (tq (tq (tq (tq (IntKind.u64.wrap n))))) 256 % 256, Int.tmod (tq (tq (tq (IntKind.u64.wrap n)))) 256 % 256, Int.tmod (tq (tq (IntKind.u64.wrap n))) 256 % 256, Int.tmod (tq (IntKind.u64.wrap n)) 256 % 256, Int.tmod (IntKind.u64.wrap n) 256 % 256] := by kernel_rfl
theorem refeight_eq (k : Nat) (n : Int) (hk : 9 ≤ k) : imprimaturref06_Eight.f k n = some (e8 n) := by
  obtain ⟨k, rfl⟩ : ∃ j, k = j + 9 := ⟨k - 9, by omega⟩
  rw [refeight_raw]
  obtain ⟨u, hu⟩ : ∃ u, u = IntKind.u64.wrap n := ⟨_, rfl⟩
  have hu2 : u = n % 18446744073709551616 := hu
  rw [← hu]
  unfold e8
  rw [← hu2]
  have h0 : 0 ≤ u := by omega
  have h1 : u < 18446744073709551616 := by omega
  clear hu hu2
  rw [tq_eq h0 h1, tq_eq (x := u / 256) (by omega) (by omega), tq_eq (x := u / 256 / 256) (by omega) (by omega), tq_eq (x := u / 256 / 256 / 256) (by omega) (by omega), tq_eq (x := u / 256 / 256 / 256 / 256) (by omega) (by omega), tq_eq (x := u / 256 / 256 / 256 / 256 / 256) (by omega) (by omega), tq_eq (x := u / 256 / 256 / 256 / 256 / 256 / 256) (by omega) (by omega)]
  rw [tm_eq h0, tm_eq (x := u / 256) (by omega), tm_eq (x := u / 256 / 256) (by omega), tm_eq (x := u / 256 / 256 / 256) (by omega), tm_eq (x := u / 256 / 256 / 256 / 256) (by omega), tm_eq (x := u / 256 / 256 / 256 / 256 / 256) (by omega), tm_eq (x := u / 256 / 256 / 256 / 256 / 256 / 256) (by omega), tm_eq (x := u / 256 / 256 / 256 / 256 / 256 / 256 / 256) (by omega)]
  have e1 : u / 256 / 256 = u / 65536 := by omega
  have e2 : u / 256 / 256 / 256 = u / 16777216 := by omega
  have e3 : u / 256 / 256 / 256 / 256 = u / 4294967296 := by omega
  have e4 : u / 256 / 256 / 256 / 256 / 256 = u / 1099511627776 := by omega
  have e5 : u / 256 / 256 / 256 / 256 / 256 / 256 = u / 281474976710656 := by omega
  have e6 : u / 256 / 256 / 256 / 256 / 256 / 256 / 256 = u / 72057594037927936 := by omega
  rw [e6, e5, e4, e3, e2, e1]
end Go.Proofs.YtdpdmmbdoeefbaaDoor.PCo
namespace Go.Proofs.YtdpdmmbdoeefbaaDoor.PRa
open Go.RowKit Go.Proofs.YtdpdmmbdoeefbaaDoorW.PrintWords Go.Proofs.YtdpdmmbdoeefbaaDoorW.PrintLast Go.Proofs.YtdpdmmbdoeefbaaDoorW.PrintMore Go.Proofs.YtdpdmmbdoeefbaaDoor.X Go.Proofs.YtdpdmmbdoeefbaaDoor.PCut Go.Proofs.YtdpdmmbdoeefbaaDoor.PCa Go.Proofs.YtdpdmmbdoeefbaaDoor.PCs Go.Proofs.YtdpdmmbdoeefbaaDoor.PCo
theorem join_eq (a b c : List Int) (ha : a.length ≤ 1000000) (hb : b.length ≤ 1000000) (hc : c.length ≤ 1000000) : imprimaturref06_join.f a b c = some (a ++ b ++ c) := by
  unfold imprimaturref06_join.f
  rw [if_pos (by rw [List.length_nil]; omega)]
  simp only [Option.bind_some, List.nil_append]
  rw [if_pos (by omega), if_pos (by rw [List.length_append]; omega)]
theorem node_eq (a b : List Int) (ha : a.length ≤ 1000000) (hb : b.length ≤ 1000000) : imprimaturref06_NodeText.f a b = some (1 :: (a ++ b)) := by
  unfold imprimaturref06_NodeText.f
  rw [join_eq [1] a b (by decide) ha hb]
  rfl
theorem roottext_eq (k : Nat) (hk : 9 ≤ k) (n : Int) (t : List Int) (ht : t.length ≤ 1000000) : imprimaturref06_RootText.f k n t = some (2 :: (e8 n ++ t)) := by
  unfold imprimaturref06_RootText.f
  rw [refeight_eq k n hk]
  simp only [Option.bind_some]
  rw [join_eq [2] (e8 n) t (by decide) (by rw [e8_length]; decide) ht]
  rfl
theorem leaftext_eq (k : Nat) (hk : 9 ≤ k) (n : Int) (t : List Int) (ht : t.length ≤ 1000000) : imprimaturref06_LeafText.f k n t = some (0 :: (e8 n ++ t)) := by
  unfold imprimaturref06_LeafText.f
  rw [refeight_eq k n hk]
  simp only [Option.bind_some]
  rw [join_eq [0] (e8 n) t (by decide) (by rw [e8_length]; decide) ht]
  rfl
theorem refleaf_eq (k : Nat) (hk : 9 ≤ k) (p : Int) (c : List Int) (hb : BytesB c) : imprimaturref06_Leaf.f k p c = some (if p < 0 then ([], 1) else if c.length > 1024 then ([], 2) else (dig (0 :: (e8 p ++ c)), 0)) := by
  unfold imprimaturref06_Leaf.f
  by_cases h1 : p < 0
  · rw [if_pos h1, if_pos h1]
  by_cases h2 : c.length > 1024
  · rw [if_neg h1, if_neg h1, if_pos (by omega), if_pos h2]
  rw [if_neg h1, if_neg h1, if_neg (by omega), if_neg h2, leaftext_eq k hk p c (by omega)]
  simp only [Option.bind_some]
  rw [hash_eq (isBytes_cons (by decide) (isBytes_app (e8_bytes p) hb)) (by simp [e8_length]; omega)]
  rfl
theorem reftop_eq : ∀ (n : Nat) (l : List (List Int)) (k : Nat), l.length = n → n ≤ 100000 → Lv l → n + 40 ≤ k → imprimaturref06_Top.f k l = some (topL l, textsL l) := by
  intro n
  induction n using Nat.strongRecOn with
  | _ n ih =>
    intro l k hl h2 hv hk
    obtain ⟨k, rfl⟩ : ∃ j, k = j + 1 := ⟨k - 1, by omega⟩
    rw [imprimaturref06_Top.f]
    by_cases h0 : n = 0
    · rw [if_pos (by omega), textsL_one (by omega), topL, dif_pos (by omega), List.length_eq_zero_iff.1 (hl.trans h0)]
      rfl
    by_cases h : n = 1
    · rw [if_neg (by omega), if_pos (by omega), if_pos (by omega), topL_one (by omega), textsL_one (by omega)]
      rfl
    · have h3 := hf_pos n
      have h4 := hf_lt (n := n) (by omega)
      have t1 : (l.take (hf n)).length = hf n := by rw [List.length_take]; omega
      have t2 : (l.drop (hf n)).length = n - hf n := by rw [List.length_drop]; omega
      have ha := topL_32 (hv.take (hf n)) (by omega)
      have hb := topL_32 (hv.drop (hf n)) (by omega)
      have a1 := textsL_ok (hf n) _ t1 (hv.take _)
      have a2 := textsL_ok (n - hf n) _ t2 (hv.drop _)
      rw [if_neg (by omega), if_neg (by omega), hl, refhalf_eq n (by omega) (by omega) k (by omega)]
      simp only [Option.bind_some, Int.toNat_natCast]
      rw [if_pos (by omega), if_pos (by omega), ih (hf n) (by omega) _ k t1 (by omega) (hv.take _) (by omega)]
      simp only [Option.bind_some]
      rw [ih (n - hf n) (by omega) _ k t2 (by omega) (hv.drop _) (by omega)]
      simp only [Option.bind_some]
      rw [node_eq _ _ (by omega) (by omega)]
      simp only [Option.bind_some]
      rw [if_pos (by rw [List.length_nil]; omega)]
      simp only [List.nil_append]
      rw [if_pos (by omega), if_pos (by rw [List.length_append]; omega), hash_eq (isBytes_cons (by decide) (isBytes_app ha.2 hb.2)) (by simp [ha.1, hb.1])]
      simp only [Option.bind_some]
      rw [topL_node (l := l) (by omega), textsL_node (l := l) (by omega), hl]
theorem refroot_eq (k : Nat) (l : List (List Int)) (hl : l.length ≤ 100000) (hk : l.length + 50 ≤ k) (hb : ∀ x ∈ l, ∀ y ∈ x, 0 ≤ y ∧ y < 256) : imprimaturref06_Root.f k l = some (if lvE l = 0 then (rootL l, 0) else ([], lvE l)) := by
  unfold imprimaturref06_Root.f
  rw [refok_eq l k (by omega) hl]
  simp only [Option.bind_some]
  by_cases h : lvE l = 0
  · have hv := (lvE_zero hb).1 h
    have ht : (topL l).length ≤ 32 ∧ BytesB (topL l) := by
      by_cases h0 : l.length = 0
      · rw [topL, dif_pos (by omega), List.length_eq_zero_iff.1 h0]; exact ⟨by simp, fun y hy => by simp at hy⟩
      · have := topL_32 hv.2 (by omega); exact ⟨by omega, this.2⟩
    rw [if_pos h, if_pos h, reftop_eq l.length l k rfl hl hv.2 (by omega)]
    simp only [Option.bind_some]
    rw [roottext_eq k (by omega) _ _ (by omega)]
    simp only [Option.bind_some]
    rw [hash_eq (isBytes_cons (by decide) (isBytes_app (e8_bytes _) ht.2)) (by simp [e8_length]; omega)]
    simp only [Option.bind_some]
    unfold rootL
    by_cases h0 : l.length = 0
    · rw [if_pos h0, topL, dif_pos (by omega), List.length_eq_zero_iff.1 h0]; rfl
    · rw [if_neg h0]
  · rw [if_neg h, if_neg h]
end Go.Proofs.YtdpdmmbdoeefbaaDoor.PRa
namespace Go.Proofs.YtdpdmmbdoeefbaaDoor.PRb
open Go.RowKit Go.Proofs.YtdpdmmbdoeefbaaDoorW.PrintWords Go.Proofs.YtdpdmmbdoeefbaaDoorW.PrintLast Go.Proofs.YtdpdmmbdoeefbaaDoorW.PrintMore Go.Proofs.YtdpdmmbdoeefbaaDoor.X Go.Proofs.YtdpdmmbdoeefbaaDoor.PCut Go.Proofs.YtdpdmmbdoeefbaaDoor.PCa Go.Proofs.YtdpdmmbdoeefbaaDoor.PCs Go.Proofs.YtdpdmmbdoeefbaaDoor.PCo Go.Proofs.YtdpdmmbdoeefbaaDoor.PRa
theorem refleaves_l (e : Int) (ps : List (List Int)) (hp : ps.length ≤ 1000000) (hb : ∀ x ∈ ps, BytesB x) : ∀ (d k i : Nat) (acc : List (List Int)), i + d = ps.length → 10 ≤ k → acc.length = i →
    imprimaturref06_Leaves.l0 (k + d + 1) ps e acc i = some (acc ++ lfs i (ps.drop i), e) := by
  intro d
  induction d with
  | zero => intro k i acc hi hk ha; rw [imprimaturref06_Leaves.l0, if_neg (by omega), List.drop_of_length_le (by omega), lfs, List.append_nil]
  | succ d ih =>
    intro k i acc hi hk ha
    have hx := hb (ps.getD i []) (by rw [List.getD_eq_getElem?_getD, List.getElem?_eq_getElem (by omega)]; exact List.getElem_mem _)
    rw [show k + (d + 1) + 1 = (k + d + 1) + 1 by omega, imprimaturref06_Leaves.l0, if_pos (by omega), if_pos (by omega), show rd_L1 ps (i : Int) = ps.getD i [] by unfold rd_L1; rw [Int.toNat_natCast], refleaf_eq (k + d + 1) (by omega) i _ hx]
    simp only [Option.bind_some]
    rw [if_pos (by omega), w64 (by omega) (by omega), show (i : Int) + 1 = ((i + 1 : Nat) : Int) by omega, ih k (i + 1) _ (by omega) hk (by simp [ha])]
    have e1 : ps.drop i = ps.getD i [] :: ps.drop (i + 1) := by
      rw [List.drop_eq_getElem_cons (show i < ps.length by omega), List.getD_eq_getElem?_getD, List.getElem?_eq_getElem (by omega)]
      rfl
    rw [e1, lfs, List.append_assoc, List.singleton_append]
    rfl
theorem of_both (b : List Int) (c : Int) (hb : BytesB b) (hl : b.length ≤ 2000) (k : Nat) (hk : 20000 ≤ k) : ∃ r, merkle_Of.f k b c = some r ∧ imprimaturref06_Of.f k b c = some r := by
  unfold merkle_Of.f imprimaturref06_Of.f imprimaturref06_Leaves.f
  rw [cut_eq k (by omega) b c (by omega), refcut_eq k (by omega) b c (by omega)]
  simp only [Option.bind_some]
  by_cases h : (cntE b.length c).2 = 0
  · rw [if_pos h]
    have hr : 64 ≤ c ∧ c ≤ 1024 := by
      unfold cntE at h
      split at h
      · cases h
      · omega
    obtain ⟨c, rfl⟩ := Int.eq_ofNat_of_zero_le (show 0 ≤ c by omega)
    have hN : (b.length + c - 1) / c ≤ 100 := Nat.le_of_lt_succ (Nat.div_lt_of_lt_mul (by omega))
    simp only
    rw [Int.toNat_natCast]
    have h1 := pcs_len c ((b.length + c - 1) / c) b
    have h2 := pcs_bytes c ((b.length + c - 1) / c) b hb
    generalize pcs c ((b.length + c - 1) / c) b = ps at *
    have h3 := lfs_ok ps 0
    have e1 := of_l ps (by omega) h2 ps.length (k - ps.length - 1) 0 [] (by omega) (by omega) rfl
    rw [show k - ps.length - 1 + ps.length + 1 = k by omega, List.drop_zero, List.nil_append] at e1
    have e2 := refleaves_l 0 ps (by omega) h2 ps.length (k - ps.length - 1) 0 [] (by omega) (by omega) rfl
    rw [show k - ps.length - 1 + ps.length + 1 = k by omega, List.drop_zero, List.nil_append] at e2
    rw [if_pos trivial, show merkle_Of.l0 k [] ps ps.length 0 = _ from e1, show imprimaturref06_Leaves.l0 k ps 0 [] 0 = _ from e2]
    simp only [Option.bind_some]
    rw [root_eq _ (lfs 0 ps) (by omega) (by omega) h3.2]
    refine ⟨_, rfl, ?_⟩
    rw [if_pos trivial, refroot_eq k (lfs 0 ps) (by omega) (by omega) h3.2]
    rfl
  · rw [if_neg h]
    simp only
    rw [if_neg h]
    have e2 := refleaves_l (cntE b.length c).2 [] (by simp) (fun x hx => by cases hx) 0 (k - 1) 0 [] rfl (by omega) rfl
    rw [show k - 1 + 0 + 1 = k by omega] at e2
    rw [show imprimaturref06_Leaves.l0 k [] (cntE b.length c).2 [] 0 = _ from e2]
    simp only [Option.bind_some]
    rw [if_neg h]
    exact ⟨_, rfl, rfl⟩
end Go.Proofs.YtdpdmmbdoeefbaaDoor.PRb
namespace Go.Proofs.YtdpdmmbdoeefbaaDoor.PRo
open Go.RowKit Go.Proofs.YtdpdmmbdoeefbaaDoorW.PrintWords Go.Proofs.YtdpdmmbdoeefbaaDoorW.PrintLast Go.Proofs.YtdpdmmbdoeefbaaDoorW.PrintMore Go.Proofs.YtdpdmmbdoeefbaaDoor.X Go.Proofs.YtdpdmmbdoeefbaaDoor.PCut Go.Proofs.YtdpdmmbdoeefbaaDoor.PCa Go.Proofs.YtdpdmmbdoeefbaaDoor.PCs Go.Proofs.YtdpdmmbdoeefbaaDoor.PCo Go.Proofs.YtdpdmmbdoeefbaaDoor.PRa Go.Proofs.YtdpdmmbdoeefbaaDoor.PRb
theorem roots_law (hkn : imprimaturlaw06_known.f = some true) (p : Int) (c : List Int) (l : List (List Int)) (b : List Int) (ch : Int) (hc : BytesB c) (hb : ∀ x ∈ l, ∀ y ∈ x, 0 ≤ y ∧ y < 256) (hbb : BytesB b) (hx : ∀ x ∈ l, x.length ≤ 140737488355328) (hl : l.length ≤ 5864062014805) : ∃ k, imprimaturlaw06_MerkleRoots.f k p c l b ch = some true := by
  refine ⟨l.length + 100000, ?_⟩
  obtain ⟨K, hK⟩ : ∃ K, K = l.length + 100000 := ⟨_, rfl⟩
  rw [← hK]
  obtain ⟨k, rfl⟩ : ∃ k, K = k + 1 := ⟨K - 1, by omega⟩
  have hj : imprimaturlaw06_MerkleRoots.j0 (k + 1) p c l b ch true = some true := by rw [imprimaturlaw06_MerkleRoots.j0, if_pos rfl, hkn, Option.bind_some]
  obtain ⟨r, hr, hs⟩ := size_eq l 1500 (by omega) hx hl (k + 1) (by omega)
  unfold imprimaturlaw06_MerkleRoots.f
  by_cases h0 : (c.length : Int) > 1100
  · rw [if_pos h0, hj]
  rw [if_neg h0, show (1500 : Int) = ((1500 : Nat) : Int) from rfl, hr]
  simp only [Option.bind_some]
  by_cases h1 : r > ((1500 : Nat) : Int)
  · rw [if_pos h1, hj]
  rw [if_neg h1]
  have hs1 := (hs (by omega)).1
  by_cases h2 : (b.length : Int) > 2000
  · rw [decide_eq_true h2, hj]
  rw [decide_eq_false h2, imprimaturlaw06_MerkleRoots.j0, if_neg (by decide)]
  obtain ⟨q, hq1, hq2⟩ := of_both b ch hbb (by omega) k (by omega)
  rw [leaf_eq k (by omega) p c hc, refleaf_eq k (by omega) p c hc, root_eq k l (by omega) (by omega) hb, refroot_eq k l (by omega) (by omega) hb, hq1, hq2]
  simp only [Option.bind_some, sameBytes_self]
  simp only [if_true, hkn, Option.bind_some]
theorem MerkleRoots_walk (a0 : Int) (A1 : Option Addr) (n1 c1 : Nat) (z1 : List Int) (A2 : Option Addr) (c2 : Nat) (l2 : List (List Int)) (A3 : Option Addr) (n3 c3 : Nat) (z3 : List Int) (a4 : Int) (w : World) (HG : Glb w) (w0 : (Lit.int .i64 a0).wf = true) (h1 : (A1 = none ∧ n1 = 0 ∧ c1 = 0 ∧ z1 = []) ∨ ∃ x, A1 = some x ∧ n1 ≤ c1 ∧ c1 ≤ maxLen ∧ z1.length = c1 ∧ (∀ i, i < z1.length → w.cell? (x.add i) = some (.int .u8 (z1.getD i 0))) ∧ ∀ n ∈ z1, (Lit.int .u8 n).wf = true) (y1 : n1 * 1 ≤ 140737488351232) (w2 : Kd.C (Kd.slice 5 (Kd.int .u8)) w A2 l2.length l2) (hc2 : l2.length ≤ c2) (o2 : l2.length * 24 ≤ 140737488351232) (g2 : ∀ l ∈ l2, (∀ x ∈ l, (Lit.int .u8 x).wf = true) ∧ l.length * 1 ≤ 140737488351232) (h3 : (A3 = none ∧ n3 = 0 ∧ c3 = 0 ∧ z3 = []) ∨ ∃ x, A3 = some x ∧ n3 ≤ c3 ∧ c3 ≤ maxLen ∧ z3.length = c3 ∧ (∀ i, i < z3.length → w.cell? (x.add i) = some (.int .u8 (z3.getD i 0))) ∧ ∀ n ∈ z3, (Lit.int .u8 n).wf = true) (y3 : n3 * 1 ≤ 140737488351232) (w4 : (Lit.int .i64 a4).wf = true) :
  Calls Tryd.prog 11 #[.int .i64 a0, .slice A1 n1 c1, .slice A2 l2.length c2, .slice A3 n3 c3, .int .i64 a4] w fun e w' => e = .returned (.bool true) ∧ Below w.heap.size w w' := by
  obtain ⟨l1, rfl, hr1, hm1, hb1, hc1⟩ := ReadsInt.ofRowC h1
  obtain ⟨l3, rfl, hr3, hm3, hb3, hc3⟩ := ReadsInt.ofRowC h3
  obtain ⟨k, h⟩ := roots_law rfl a0 l1 l2 l3 a4 (fun x hx => byte_of (hb1 x hx)) (row_bytes g2) (fun x hx => byte_of (hb3 x hx)) (row_len g2) (by omega)
  exact imprimaturlaw06_MerkleRoots.calls k a0 _ _ l1 _ _ l2 _ _ l3 a4 true w HG (Kd.C_of_reads (d := (0 : Int)) (h1 := fun _ => rfl) hr1) hc1 w2 hc2 (Kd.C_of_reads (d := (0 : Int)) (h1 := fun _ => rfl) hr3) hc3 h
end Go.Proofs.YtdpdmmbdoeefbaaDoor.PRo
