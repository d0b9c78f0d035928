/- Plain lemmas for one law. -/
import Derived.Test.YtdpdmmbdoeefbaaDoorPCox1
import Derived.Test.YtdpdmmbdoeefbaaDoorPCsx1
import Derived.Test.YtdpdmmbdoeefbaaDoorPCutx1
import Derived.Test.YtdpdmmbdoeefbaaDoorPCutx2
import Derived.Test.YtdpdmmbdoeefbaaDoorPPpx1
import Derived.Test.YtdpdmmbdoeefbaaDoorPPvx1
import Derived.Test.YtdpdmmbdoeefbaaDoorPPwx1
import Derived.Test.YtdpdmmbdoeefbaaDoorPRax1
import Derived.Test.YtdpdmmbdoeefbaaDoorPRcx1
import Derived.Test.YtdpdmmbdoeefbaaDoorK
import Derived.Test.YtdpdmmbdoeefbaaDoorWU
set_option linter.unusedVariables false
namespace Go.Proofs.YtdpdmmbdoeefbaaDoor.PCut
open Go.RowKit Go.Proofs.YtdpdmmbdoeefbaaDoorW.PrintWords Go.Proofs.YtdpdmmbdoeefbaaDoorW.PrintLast Go.Proofs.YtdpdmmbdoeefbaaDoorW.PrintMore Go.Proofs.YtdpdmmbdoeefbaaDoor.X
theorem w64 {x : Int} (h : -9223372036854775808 ≤ x) (h' : x ≤ 9223372036854775807) : wrap64 x = x := by unfold wrap64; omega
/-- The greatest power of 2 below a number above 1. -/
def hf (n : Nat) : Nat := 2 ^ Nat.log2 (n - 1)
theorem hf_pos (n : Nat) : 1 ≤ hf n := Nat.one_le_two_pow
theorem hf_lt {n : Nat} (h : 2 ≤ n) : hf n < n := by
  have := Nat.log2_self_le (n := n - 1) (by omega)
  unfold hf
  omega
theorem hf_le {n : Nat} (h : 2 ≤ n) : n ≤ 2 * hf n := by
  have := Nat.lt_log2_self (n := n - 1)
  unfold hf
  rw [Nat.pow_succ] at this
  omega
theorem bitLenAux_eq : ∀ (f x : Nat), 0 < x → x < 2 ^ f → Lib.bitLenAux f x = Nat.log2 x + 1 := by
  intro f
  induction f with
  | zero => intro x h1 h2; simp at h2; omega
  | succ f ih =>
    intro x h1 h2
    rw [Lib.bitLenAux, if_neg (by omega), Nat.log2_def]
    by_cases h : x ≥ 2
    · rw [if_pos h, ih (x / 2) (by omega) (by rw [Nat.pow_succ] at h2; omega)]; omega
    · obtain rfl : x = 1 := by omega
      cases f <;> rfl
theorem half_eq (n : Nat) (h : 2 ≤ n) (h' : n ≤ 1000000) : merkle_half.f (n : Int) = some (hf n : Int) := by
  have e1 : wrap64 ((n : Int) - 1) = ((n - 1 : Nat) : Int) := by rw [w64 (by omega) (by omega)]; omega
  have e2 : IntKind.u64.wrap ((n - 1 : Nat) : Int) = ((n - 1 : Nat) : Int) := by show ((n - 1 : Nat) : Int) % 18446744073709551616 = _; omega
  have e64 : n - 1 < 2 ^ 64 := Nat.lt_trans (show n - 1 < 1048576 by omega) (by decide)
  have hb : Lib.bitLen (n - 1) = Nat.log2 (n - 1) + 1 := bitLenAux_eq 64 _ (by omega) e64
  have hl : Nat.log2 (n - 1) < 20 := by
    rw [Nat.log2_lt (by omega)]
    have : (2:Nat) ^ 20 = 1048576 := by decide
    omega
  unfold merkle_half.f bits_Len.f
  rw [e1, e2, if_pos (by omega)]
  simp only [Option.bind_some]
  rw [Int.toNat_natCast, hb, show wrap64 (((Nat.log2 (n - 1) + 1 : Nat) : Int) - 1) = (Nat.log2 (n - 1) : Int) by rw [w64 (by omega) (by omega)]; omega, if_pos (by omega)]
  unfold shl
  rw [show min (Nat.log2 (n - 1) : Int).toNat IntKind.i64.bits = Nat.log2 (n - 1) by rw [Int.toNat_natCast]; exact Nat.min_eq_left (by show _ ≤ 64; omega), Int.one_mul]
  have e3 : ((2 : Int) ^ Nat.log2 (n - 1)) = (hf n : Int) := by unfold hf; rw [Int.natCast_pow]; rfl
  rw [e3]
  congr 1
  have h5 := hf_lt h
  exact IntWalk.i64_in (hf n : Int) (by omega)
/-- Leaves: 32 bytes each. -/
def Lv (l : List (List Int)) : Prop := ∀ x ∈ l, x.length = 32 ∧ ∀ y ∈ x, 0 ≤ y ∧ y < 256
theorem Lv.take {l : List (List Int)} (h : Lv l) (k : Nat) : Lv (l.take k) := fun x hx => h x (List.mem_of_mem_take hx)
theorem Lv.drop {l : List (List Int)} (h : Lv l) (k : Nat) : Lv (l.drop k) := fun x hx => h x (List.mem_of_mem_drop hx)
/-- The top of leaves. -/
def topL (l : List (List Int)) : List Int :=
  if _h : l.length ≤ 1 then l.getD 0 [] else dig (1 :: (topL (l.take (hf l.length)) ++ topL (l.drop (hf l.length))))
termination_by l.length
decreasing_by
  · simp only [List.length_take]; have := hf_lt (n := l.length) (by omega); omega
  · simp only [List.length_drop]; have := hf_pos l.length; omega
theorem topL_one {l : List (List Int)} (h : l.length = 1) : topL l = l.getD 0 [] := by rw [topL, dif_pos (by omega)]
theorem topL_node {l : List (List Int)} (h : 2 ≤ l.length) : topL l = dig (1 :: (topL (l.take (hf l.length)) ++ topL (l.drop (hf l.length)))) := by rw [topL, dif_neg (by omega)]
theorem topL_32 {l : List (List Int)} (h : Lv l) (hn : 1 ≤ l.length) : (topL l).length = 32 ∧ ∀ y ∈ topL l, 0 ≤ y ∧ y < 256 := by
  by_cases h1 : l.length = 1
  · rw [topL_one h1, List.getD_eq_getElem?_getD, List.getElem?_eq_getElem (by omega)]
    exact h _ (List.getElem_mem _)
  · rw [topL_node (by omega)]
    exact ⟨dig_length _, dig_bytes _⟩
theorem isBytes_app {a b : List Int} (ha : ∀ y ∈ a, 0 ≤ y ∧ y < 256) (hb : ∀ y ∈ b, 0 ≤ y ∧ y < 256) : ∀ y ∈ a ++ b, 0 ≤ y ∧ y < 256 := fun y hy => by
  rcases List.mem_append.1 hy with h | h
  · exact ha y h
  · exact hb y h
theorem isBytes_cons {x : Int} {b : List Int} (hx : 0 ≤ x ∧ x < 256) (hb : ∀ y ∈ b, 0 ≤ y ∧ y < 256) : ∀ y ∈ x :: b, 0 ≤ y ∧ y < 256 := fun y hy => by
  rcases List.mem_cons.1 hy with h | h
  · exact h ▸ hx
  · exact hb y h
theorem digest2 {m : Int} {a b : List Int} (hm : 0 ≤ m ∧ m < 256) (ha : ∀ y ∈ a, 0 ≤ y ∧ y < 256) (hb : ∀ y ∈ b, 0 ≤ y ∧ y < 256) (hl : a.length + b.length ≤ 100000) : merkle_digest.f m [a, b] = some (dig (m :: (a ++ b))) := by
  have e : ([a, b] : List (List Int)).flatten = a ++ b := by simp
  rw [digest_some (by rw [e]; exact isBytes_of (isBytes_cons hm (isBytes_app ha hb))) (by rw [e]; simp; omega), e]
theorem top_eq : ∀ (n : Nat) (l : List (List Int)) (k : Nat), l.length = n → 1 ≤ n → n ≤ 100000 → Lv l → n ≤ k → merkle_top.f k l = some (topL l) := by
  intro n
  induction n using Nat.strongRecOn with
  | _ n ih =>
    intro l k hl h1 h2 hv hk
    obtain ⟨k, rfl⟩ : ∃ j, k = j + 1 := ⟨k - 1, by omega⟩
    rw [merkle_top.f]
    by_cases h : n = 1
    · rw [if_pos (by omega), if_pos (by omega), topL_one (by omega)]
      rfl
    · have h3 := hf_pos n
      have h4 := hf_lt (n := n) (by omega)
      have t1 : (l.take (hf n)).length = hf n := by rw [List.length_take]; omega
      have t2 : (l.drop (hf n)).length = n - hf n := by rw [List.length_drop]; omega
      rw [if_neg (by omega), hl, half_eq n (by omega) (by omega)]
      simp only [Option.bind_some, Int.toNat_natCast]
      rw [if_pos (by omega), if_pos (by omega), ih (hf n) (by omega) _ k t1 h3 (by omega) (hv.take _) (by omega)]
      simp only [Option.bind_some]
      rw [ih (n - hf n) (by omega) _ k t2 (by omega) (by omega) (hv.drop _) (by omega)]
      simp only [Option.bind_some]
      have ha := topL_32 (hv.take (hf n)) (by omega)
      have hb := topL_32 (hv.drop (hf n)) (by omega)
      rw [digest2 (by decide) ha.2 hb.2 (by omega), topL_node (l := l) (by omega), hl]
      rfl
/-- The error of leaves. -/
def lvE (l : List (List Int)) : Int := if l.length > 4096 then 2 else if l.all (fun x => decide (x.length = 32)) = true then 0 else 1
theorem all_drop {α : Type} (l : List α) (p : α → Bool) (d : α) (i : Nat) (h : i < l.length) : (l.drop i).all p = (p (l.getD i d) && (l.drop (i + 1)).all p) := by
  rw [List.drop_eq_getElem_cons h, List.all_cons, List.getD_eq_getElem?_getD, List.getElem?_eq_getElem h]
  rfl
theorem leaves_l (l : List (List Int)) (hl : l.length ≤ 100000) : ∀ (d k i : Nat), i + d = l.length → merkle_leaves.l0 (k + d + 1) l l.length i = some (if (l.drop i).all (fun x => decide (x.length = 32)) = true then 0 else 1) := by
  intro d
  induction d with
  | zero =>
    intro k i hi
    rw [merkle_leaves.l0, if_neg (by omega), List.drop_of_length_le (by omega)]
    rfl
  | succ d ih =>
    intro k i hi
    rw [show k + (d + 1) + 1 = (k + d + 1) + 1 by omega, merkle_leaves.l0, if_pos (by omega), if_pos (by omega), if_pos (by omega), all_drop l _ [] i (by omega), show rd_L1 l (i : Int) = l.getD i [] by unfold rd_L1; rw [Int.toNat_natCast], w64 (by omega) (by omega), show (i : Int) + 1 = ((i + 1 : Nat) : Int) by omega, ih k (i + 1) (by omega)]
    by_cases h : (l.getD i []).length = 32
    · rw [if_pos (by omega), decide_eq_true h, Bool.true_and]
    · rw [if_neg (by omega), decide_eq_false h, Bool.false_and]
      rfl
theorem leaves_eq (l : List (List Int)) (k : Nat) (hk : l.length < k) (hl : l.length ≤ 100000) : merkle_leaves.f k l = some (lvE l) := by
  unfold merkle_leaves.f lvE
  by_cases h : l.length > 4096
  · rw [if_pos (by omega), if_pos h]
  · rw [if_neg (by omega), if_neg h]
    have := leaves_l l hl l.length (k - l.length - 1) 0 (by omega)
    rw [show k - l.length - 1 + l.length + 1 = k by omega] at this
    exact this
theorem lvE_zero {l : List (List Int)} (hb : ∀ x ∈ l, ∀ y ∈ x, 0 ≤ y ∧ y < 256) : lvE l = 0 ↔ l.length ≤ 4096 ∧ Lv l := by
  unfold lvE
  constructor
  · intro h
    split at h
    · cases h
    · split at h
      · rename_i h1 h2
        refine ⟨by omega, fun x hx => ⟨?_, hb x hx⟩⟩
        have := List.all_eq_true.1 h2 x hx
        simpa using this
      · cases h
  · rintro ⟨h1, h2⟩
    rw [if_neg (by omega), if_pos (List.all_eq_true.2 fun x hx => decide_eq_true (h2 x hx).1)]
def BytesB (l : List Int) : Prop := ∀ y ∈ l, 0 ≤ y ∧ y < 256
/-- For each step from the top down to a place: whether it goes into the second half. -/
def pathL (n p : Nat) : List Bool :=
  if _h : n ≤ 1 then [] else decide (hf n ≤ p) :: (if hf n ≤ p then pathL (n - hf n) (p - hf n) else pathL (hf n) p)
termination_by n
decreasing_by
  · have := hf_pos n; omega
  · have := hf_lt (n := n) (by omega); omega
theorem pathL_one {n : Nat} (h : n ≤ 1) (p : Nat) : pathL n p = [] := by rw [pathL, dif_pos h]
theorem pathL_left {n p : Nat} (h : 2 ≤ n) (hp : p < hf n) : pathL n p = false :: pathL (hf n) p := by rw [pathL, dif_neg (by omega), decide_eq_false (by omega), if_neg (by omega)]
theorem pathL_right {n p : Nat} (h : 2 ≤ n) (hp : hf n ≤ p) : pathL n p = true :: pathL (n - hf n) (p - hf n) := by rw [pathL, dif_neg (by omega), decide_eq_true hp, if_pos hp]
theorem pathL_length : ∀ (n p : Nat), (pathL n p).length ≤ n := by
  intro n
  induction n using Nat.strongRecOn with
  | _ n ih =>
    intro p
    by_cases h : n ≤ 1
    · rw [pathL_one h]; simp
    · have h1 := hf_pos n
      have h2 := hf_lt (n := n) (by omega)
      by_cases hp : p < hf n
      · rw [pathL_left (by omega) hp, List.length_cons]; have := ih (hf n) h2 p; omega
      · rw [pathL_right (by omega) (by omega), List.length_cons]; have := ih (n - hf n) (by omega) (p - hf n); omega
/-- The tops beside a place, the nearest first. -/
def walkL (l : List (List Int)) (p : Nat) : List (List Int) :=
  if _h : l.length ≤ 1 then [] else if hf l.length ≤ p then walkL (l.drop (hf l.length)) (p - hf l.length) ++ [topL (l.take (hf l.length))] else walkL (l.take (hf l.length)) p ++ [topL (l.drop (hf l.length))]
termination_by l.length
decreasing_by
  · simp only [List.length_drop]; have := hf_pos l.length; omega
  · simp only [List.length_take]; have := hf_lt (n := l.length) (by omega); omega
theorem walkL_one {l : List (List Int)} (h : l.length ≤ 1) (p : Nat) : walkL l p = [] := by rw [walkL, dif_pos h]
theorem walkL_left {l : List (List Int)} {p : Nat} (h : 2 ≤ l.length) (hp : p < hf l.length) : walkL l p = walkL (l.take (hf l.length)) p ++ [topL (l.drop (hf l.length))] := by rw [walkL, dif_neg (by omega), if_neg (by omega)]
theorem walkL_right {l : List (List Int)} {p : Nat} (h : 2 ≤ l.length) (hp : hf l.length ≤ p) : walkL l p = walkL (l.drop (hf l.length)) (p - hf l.length) ++ [topL (l.take (hf l.length))] := by rw [walkL, dif_neg (by omega), if_pos hp]
theorem walkL_length : ∀ (n : Nat) (l : List (List Int)) (p : Nat), l.length = n → (walkL l p).length = (pathL n p).length := by
  intro n
  induction n using Nat.strongRecOn with
  | _ n ih =>
    intro l p hl
    by_cases h : n ≤ 1
    · rw [walkL_one (by omega), pathL_one h]; rfl
    · have h3 := hf_pos n
      have h4 := hf_lt (n := n) (by omega)
      by_cases hp : p < hf n
      · rw [walkL_left (by omega) (by rw [hl]; exact hp), pathL_left (by omega) hp, List.length_append, List.length_cons, hl, ih (hf n) h4 _ p (by rw [List.length_take]; omega)]; simp
      · rw [walkL_right (by omega) (by rw [hl]; omega), pathL_right (by omega) (by omega), List.length_append, List.length_cons, hl, ih (n - hf n) (by omega) _ (p - hf n) (by rw [List.length_drop]; omega)]; simp
theorem sum_ge (l : List (List Int)) : l.length ≤ (l.map (fun x => x.length + 1)).sum := by
  induction l with
  | nil => simp
  | cons x l ih => simp only [List.map_cons, List.sum_cons, List.length_cons]; omega
theorem byte_of {x : Int} (h : (Lit.int .u8 x).wf = true) : 0 ≤ x ∧ x < 256 := by
  simp [Lit.wf, IntKind.min, IntKind.max, IntKind.bits, IntKind.signed] at h
  omega
theorem row_bytes {l : List (List Int)} (g : ∀ x ∈ l, (∀ y ∈ x, (Lit.int .u8 y).wf = true) ∧ x.length * 1 ≤ 140737488351232) : ∀ x ∈ l, ∀ y ∈ x, 0 ≤ y ∧ y < 256 := fun x hx y hy => byte_of ((g x hx).1 y hy)
theorem row_len {l : List (List Int)} (g : ∀ x ∈ l, (∀ y ∈ x, (Lit.int .u8 y).wf = true) ∧ x.length * 1 ≤ 140737488351232) : ∀ x ∈ l, x.length ≤ 140737488355328 := fun x hx => by have := (g x hx).2; omega
theorem hash_eq {t : List Int} (hb : BytesB t) (hl : t.length ≤ 1048576) : imprimaturref02_Hash256.f t = some (dig t) := by
  unfold imprimaturref02_Hash256.f
  rw [if_pos ⟨isBytes_of hb, hl⟩]
/-- All texts that are digested for the top of leaves. -/
def textsL (l : List (List Int)) : List (List Int) :=
  if _h : l.length ≤ 1 then [] else textsL (l.take (hf l.length)) ++ textsL (l.drop (hf l.length)) ++ [1 :: (topL (l.take (hf l.length)) ++ topL (l.drop (hf l.length)))]
termination_by l.length
decreasing_by
  · simp only [List.length_take]; have := hf_lt (n := l.length) (by omega); omega
  · simp only [List.length_drop]; have := hf_pos l.length; omega
theorem textsL_one {l : List (List Int)} (h : l.length ≤ 1) : textsL l = [] := by rw [textsL, dif_pos h]
theorem textsL_node {l : List (List Int)} (h : 2 ≤ l.length) : textsL l = textsL (l.take (hf l.length)) ++ textsL (l.drop (hf l.length)) ++ [1 :: (topL (l.take (hf l.length)) ++ topL (l.drop (hf l.length)))] := by rw [textsL, dif_neg (by omega)]
theorem textsL_ok : ∀ (n : Nat) (l : List (List Int)), l.length = n → Lv l → (textsL l).length ≤ n - 1 ∧ ∀ t ∈ textsL l, BytesB t ∧ t.length = 65 := by
  intro n
  induction n using Nat.strongRecOn with
  | _ n ih =>
    intro l hl hv
    by_cases h : n ≤ 1
    · rw [textsL_one (by omega)]; exact ⟨by simp, fun t ht => by cases ht⟩
    · have h3 := hf_pos n
      have h4 := hf_lt (n := n) (by omega)
      have t1 : (l.take (hf n)).length = hf n := by rw [List.length_take]; omega
      have t2 : (l.drop (hf n)).length = n - hf n := by rw [List.length_drop]; omega
      have h5 := topL_32 (hv.take (hf n)) (by omega)
      have h6 := topL_32 (hv.drop (hf n)) (by omega)
      have a1 := ih (hf n) h4 _ t1 (hv.take _)
      have a2 := ih (n - hf n) (by omega) _ t2 (hv.drop _)
      rw [textsL_node (by omega), hl]
      refine ⟨?_, fun t ht => ?_⟩
      · simp only [List.length_append, List.length_singleton]; omega
      · rw [List.mem_append, List.mem_append, List.mem_singleton] at ht
        rcases ht with (ht | ht) | rfl
        · exact a1.2 t ht
        · exact a2.2 t ht
        · exact ⟨isBytes_cons (by decide) (isBytes_app h5.2 h6.2), by simp [h5.1, h6.1]⟩
end Go.Proofs.YtdpdmmbdoeefbaaDoor.PCut
namespace Go.Proofs.YtdpdmmbdoeefbaaDoor.PCs
open Go.RowKit Go.Proofs.YtdpdmmbdoeefbaaDoorW.PrintWords Go.Proofs.YtdpdmmbdoeefbaaDoorW.PrintLast Go.Proofs.YtdpdmmbdoeefbaaDoorW.PrintMore Go.Proofs.YtdpdmmbdoeefbaaDoor.X Go.Proofs.YtdpdmmbdoeefbaaDoor.PCut
/-- How many bytes texts have, as far as most. -/
theorem size_l (l : List (List Int)) (m : Nat) (hm : m ≤ 10000) (hb : ∀ x ∈ l, x.length ≤ 140737488355328) : ∀ (d k i : Nat) (n : Int), i + d = l.length → 0 ≤ n → n ≤ m + 140737488355329 → i ≤ n →
    ∃ r, imprimaturref06_Size.l0 (k + d + 1) l m n i = some r ∧ (r ≤ m → n + (((l.drop i).map (fun x => x.length + 1)).sum : Nat) ≤ m ∧ r = n + (((l.drop i).map (fun x => x.length + 1)).sum : Nat)) := by
  intro d
  induction d with
  | zero =>
    intro k i n hi h0 h1 h2
    rw [imprimaturref06_Size.l0, if_neg (by omega)]
    exact ⟨n, rfl, fun h => by rw [List.drop_of_length_le (by omega)]; simpa using h⟩
  | succ d ih =>
    intro k i n hi h0 h1 h2
    rw [show k + (d + 1) + 1 = (k + d + 1) + 1 by omega, imprimaturref06_Size.l0, if_pos (by omega)]
    by_cases h : n ≤ m
    · have hx := hb (l.getD i []) (by rw [List.getD_eq_getElem?_getD, List.getElem?_eq_getElem (by omega)]; exact List.getElem_mem _)
      rw [if_pos h, if_pos (by omega), show rd_L1 l (i : Int) = l.getD i [] by unfold rd_L1; rw [Int.toNat_natCast], w64 (x := n + 1) (by omega) (by omega), w64 (x := n + 1 + ((l.getD i []).length : Int)) (by omega) (by omega), w64 (x := (i : Int) + 1) (by omega) (by omega), show (i : Int) + 1 = ((i + 1 : Nat) : Int) by omega]
      obtain ⟨r, hr, hs⟩ := ih k (i + 1) (n + 1 + ((l.getD i []).length : Int)) (by omega) (by omega) (by omega) (by omega)
      refine ⟨r, hr, fun hrm => ?_⟩
      have := hs hrm
      rw [List.drop_eq_getElem_cons (show i < l.length by omega), List.map_cons, List.sum_cons]
      have e : l[i] = l.getD i [] := by rw [List.getD_eq_getElem?_getD, List.getElem?_eq_getElem (by omega)]; rfl
      rw [e]
      omega
    · rw [if_neg h]
      exact ⟨n, rfl, fun h' => absurd h' h⟩
theorem size_eq (l : List (List Int)) (m : Nat) (hm : m ≤ 10000) (hb : ∀ x ∈ l, x.length ≤ 140737488355328) (hl : l.length ≤ 5864062014805) (k : Nat) (hk : l.length < k) :
    ∃ r, imprimaturref06_Size.f k l m = some r ∧ (r ≤ m → l.length ≤ m ∧ (l.map (fun x => x.length + 1)).sum ≤ m) := by
  unfold imprimaturref06_Size.f
  obtain ⟨r, hr, hs⟩ := size_l l m hm hb l.length (k - l.length - 1) 0 0 (by omega) (by omega) (by omega) (by omega)
  rw [show k - l.length - 1 + l.length + 1 = k by omega] at hr
  refine ⟨r, hr, fun h => ?_⟩
  have := hs h
  have h2 := sum_ge l
  rw [List.drop_zero] at this
  omega
theorem same_l (x : List (List Int)) : ∀ (d k i : Nat), i + d = x.length → x.length ≤ 100000 → imprimaturref06_Same.l0 (k + d + 1) x x i = some true := by
  intro d
  induction d with
  | zero =>
    intro k i h h2
    rw [imprimaturref06_Same.l0, if_neg (by omega)]
  | succ d ih =>
    intro k i h h2
    rw [show k + (d + 1) + 1 = (k + d + 1) + 1 by omega, imprimaturref06_Same.l0, if_pos (by omega), if_pos (by omega), if_pos (by omega), if_pos rfl, w64 (by omega) (by omega), show (i : Int) + 1 = ((i + 1 : Nat) : Int) by omega]
    exact ih k (i + 1) (by omega) h2
theorem same_self (k : Nat) (x : List (List Int)) (h : x.length ≤ 100000) (hk : x.length < k) : imprimaturref06_Same.f k x x = some true := by
  unfold imprimaturref06_Same.f
  rw [if_pos rfl]
  have := same_l x x.length (k - x.length - 1) 0 (by omega) h
  rwa [show k - x.length - 1 + x.length + 1 = k by omega] at this
end Go.Proofs.YtdpdmmbdoeefbaaDoor.PCs
namespace Go.Proofs.YtdpdmmbdoeefbaaDoor.PCo
open Go.RowKit Go.Proofs.YtdpdmmbdoeefbaaDoorW.PrintWords Go.Proofs.YtdpdmmbdoeefbaaDoorW.PrintLast Go.Proofs.YtdpdmmbdoeefbaaDoorW.PrintMore Go.Proofs.YtdpdmmbdoeefbaaDoor.X Go.Proofs.YtdpdmmbdoeefbaaDoor.PCut Go.Proofs.YtdpdmmbdoeefbaaDoor.PCs
theorem refhalf_l (n : Nat) (h : 2 ≤ n) (h' : n ≤ 1000000) : ∀ (d j k : Nat), j + d = Nat.log2 (n - 1) → imprimaturref06_Half.l0 (k + d + 1) n ((2 ^ j : Nat) : Int) = some (hf n : Int) := by
  intro d
  induction d with
  | zero =>
    intro j k hj
    have h5 := hf_lt h
    have h6 := hf_le h
    obtain rfl : j = Nat.log2 (n - 1) := by omega
    rw [show (2 ^ Nat.log2 (n - 1) : Nat) = hf n from rfl, imprimaturref06_Half.l0, w64 (x := (hf n : Int) * 2) (by omega) (by omega), if_neg (by omega)]
  | succ d ih =>
    intro j k hj
    have h7 : 2 ^ (j + 1) ≤ n - 1 := (Nat.le_log2 (by omega)).1 (by omega)
    have h8 : (((2 ^ j : Nat) : Int) * 2) = ((2 ^ (j + 1) : Nat) : Int) := by rw [Nat.pow_succ]; simp
    have h9 := ih (j + 1) k (by omega)
    rw [show k + (d + 1) + 1 = (k + d + 1) + 1 by omega, imprimaturref06_Half.l0, h8]
    generalize 2 ^ (j + 1) = P at *
    rw [w64 (x := (P : Int)) (by omega) (by omega), if_pos (by omega)]
    exact h9
theorem refhalf_eq (n : Nat) (h : 2 ≤ n) (h' : n ≤ 1000000) (k : Nat) (hk : 30 ≤ k) : imprimaturref06_Half.f k (n : Int) = some (hf n : Int) := by
  have hl : Nat.log2 (n - 1) < 20 := by
    rw [Nat.log2_lt (by omega)]
    have : (2:Nat) ^ 20 = 1048576 := by decide
    omega
  have := refhalf_l n h h' (Nat.log2 (n - 1)) 0 (k - Nat.log2 (n - 1) - 1) (by omega)
  rw [show k - Nat.log2 (n - 1) - 1 + Nat.log2 (n - 1) + 1 = k by omega] at this
  exact this
theorem refok_l (l : List (List Int)) (hl : l.length ≤ 100000) : ∀ (d k i : Nat), i + d = l.length → imprimaturref06_ok.l0 (k + d + 1) l i = some (if (l.drop i).all (fun x => decide (x.length = 32)) = true then 0 else 1) := by
  intro d
  induction d with
  | zero =>
    intro k i hi
    rw [imprimaturref06_ok.l0, if_neg (by omega), List.drop_of_length_le (by omega)]
    rfl
  | succ d ih =>
    intro k i hi
    rw [show k + (d + 1) + 1 = (k + d + 1) + 1 by omega, imprimaturref06_ok.l0, if_pos (by omega), if_pos (by omega), all_drop l _ [] i (by omega), show rd_L1 l (i : Int) = l.getD i [] by unfold rd_L1; rw [Int.toNat_natCast], w64 (by omega) (by omega), show (i : Int) + 1 = ((i + 1 : Nat) : Int) by omega, ih k (i + 1) (by omega)]
    by_cases h : (l.getD i []).length = 32
    · rw [if_pos (by omega), decide_eq_true h, Bool.true_and]
    · rw [if_neg (by omega), decide_eq_false h, Bool.false_and]
      rfl
theorem refok_eq (l : List (List Int)) (k : Nat) (hk : l.length < k) (hl : l.length ≤ 100000) : imprimaturref06_ok.f k l = some (lvE l) := by
  unfold imprimaturref06_ok.f lvE
  by_cases h : l.length > 4096
  · rw [if_pos (by omega), if_pos h]
  · rw [if_neg (by omega), if_neg h]
    have := refok_l l hl l.length (k - l.length - 1) 0 (by omega)
    rw [show k - l.length - 1 + l.length + 1 = k by omega] at this
    exact this
end Go.Proofs.YtdpdmmbdoeefbaaDoor.PCo
namespace Go.Proofs.YtdpdmmbdoeefbaaDoor.PPw
open Go.RowKit Go.Proofs.YtdpdmmbdoeefbaaDoorW.PrintWords Go.Proofs.YtdpdmmbdoeefbaaDoorW.PrintLast Go.Proofs.YtdpdmmbdoeefbaaDoorW.PrintMore Go.Proofs.YtdpdmmbdoeefbaaDoor.X Go.Proofs.YtdpdmmbdoeefbaaDoor.PCut Go.Proofs.YtdpdmmbdoeefbaaDoor.PCs Go.Proofs.YtdpdmmbdoeefbaaDoor.PCo
theorem prove_w : ∀ (n : Nat) (l : List (List Int)) (p k : Nat), l.length = n → p < n → n ≤ 100000 → Lv l → n ≤ k → merkle_ProveW.f k l p = some (walkL l p) := by
  intro n
  induction n using Nat.strongRecOn with
  | _ n ih =>
    intro l p k hl hp hn hv hk
    obtain ⟨k, rfl⟩ : ∃ j, k = j + 1 := ⟨k - 1, by omega⟩
    rw [merkle_ProveW.f]
    by_cases h : n = 1
    · rw [if_pos (by omega), walkL_one (by omega)]
    · have h3 := hf_pos n
      have h4 := hf_lt (n := n) (by omega)
      have t1 : (l.take (hf n)).length = hf n := by rw [List.length_take]; omega
      have t2 : (l.drop (hf n)).length = n - hf n := by rw [List.length_drop]; omega
      rw [if_neg (by omega), hl, half_eq n (by omega) (by omega)]
      simp only [Option.bind_some, Int.toNat_natCast]
      by_cases hq : p < hf n
      · rw [if_pos (by omega), if_pos (by omega), if_pos (by omega), ih (hf n) h4 _ p k t1 hq (by omega) (hv.take _) (by omega)]
        simp only [Option.bind_some]
        rw [top_eq (n - hf n) _ k t2 (by omega) (by omega) (hv.drop _) (by omega)]
        simp only [Option.bind_some]
        have h5 := topL_32 (hv.drop (hf n)) (by omega)
        have h6 := walkL_length (hf n) (l.take (hf n)) p t1
        have h7 := pathL_length (hf n) p
        rw [if_pos (by rw [List.length_nil]; omega), if_pos (by omega), List.nil_append, walkL_left (l := l) (p := p) (by omega) (by rw [hl]; exact hq), hl]
      · rw [if_neg (by omega), if_pos (by omega), if_pos (by omega), w64 (x := (p : Int) - hf n) (by omega) (by omega), show (p : Int) - hf n = ((p - hf n : Nat) : Int) by omega, ih (n - hf n) (by omega) _ (p - hf n) k t2 (by omega) (by omega) (hv.drop _) (by omega)]
        simp only [Option.bind_some]
        rw [top_eq (hf n) _ k t1 (by omega) (by omega) (hv.take _) (by omega)]
        simp only [Option.bind_some]
        have h5 := topL_32 (hv.take (hf n)) (by omega)
        have h6 := walkL_length (n - hf n) (l.drop (hf n)) (p - hf n) t2
        have h7 := pathL_length (n - hf n) (p - hf n)
        rw [if_pos (by rw [List.length_nil]; omega), if_pos (by omega), List.nil_append, walkL_right (l := l) (p := p) (by omega) (by rw [hl]; omega), hl]
end Go.Proofs.YtdpdmmbdoeefbaaDoor.PPw
namespace Go.Proofs.YtdpdmmbdoeefbaaDoor.PPv
open Go.RowKit Go.Proofs.YtdpdmmbdoeefbaaDoorW.PrintWords Go.Proofs.YtdpdmmbdoeefbaaDoorW.PrintLast Go.Proofs.YtdpdmmbdoeefbaaDoorW.PrintMore Go.Proofs.YtdpdmmbdoeefbaaDoor.X Go.Proofs.YtdpdmmbdoeefbaaDoor.PCut Go.Proofs.YtdpdmmbdoeefbaaDoor.PCs Go.Proofs.YtdpdmmbdoeefbaaDoor.PCo Go.Proofs.YtdpdmmbdoeefbaaDoor.PPw
theorem prove_eq (l : List (List Int)) (p : Int) (k : Nat) (hl : l.length ≤ 100000) (hk : l.length < k) (hb : ∀ x ∈ l, ∀ y ∈ x, 0 ≤ y ∧ y < 256) :
    merkle_Prove.f k l p = some (if lvE l = 0 then (if p < 0 ∨ p ≥ l.length then ([], 1) else (walkL l p.toNat, 0)) else ([], lvE l)) := by
  unfold merkle_Prove.f
  rw [leaves_eq l k hk hl]
  simp only [Option.bind_some]
  by_cases h : lvE l = 0
  · rw [if_pos h, if_pos h]
    have hv := (lvE_zero hb).1 h
    by_cases h1 : p < 0
    · rw [if_pos h1, if_pos (.inl h1)]
    by_cases h2 : p ≥ l.length
    · rw [if_neg h1, if_pos h2, if_pos (.inr h2)]
    obtain ⟨p, rfl⟩ := Int.eq_ofNat_of_zero_le (show 0 ≤ p by omega)
    rw [if_neg h1, if_neg h2, if_neg (by omega), prove_w l.length l p k rfl (by omega) hl hv.2 (by omega), Int.toNat_natCast]
    rfl
  · rw [if_neg h, if_neg h]
end Go.Proofs.YtdpdmmbdoeefbaaDoor.PPv
namespace Go.Proofs.YtdpdmmbdoeefbaaDoor.PRa
open Go.RowKit Go.Proofs.YtdpdmmbdoeefbaaDoorW.PrintWords Go.Proofs.YtdpdmmbdoeefbaaDoorW.PrintLast Go.Proofs.YtdpdmmbdoeefbaaDoorW.PrintMore Go.Proofs.YtdpdmmbdoeefbaaDoor.X Go.Proofs.YtdpdmmbdoeefbaaDoor.PCut Go.Proofs.YtdpdmmbdoeefbaaDoor.PCs Go.Proofs.YtdpdmmbdoeefbaaDoor.PCo Go.Proofs.YtdpdmmbdoeefbaaDoor.PPw Go.Proofs.YtdpdmmbdoeefbaaDoor.PPv
theorem join_eq (a b c : List Int) (ha : a.length ≤ 1000000) (hb : b.length ≤ 1000000) (hc : c.length ≤ 1000000) : imprimaturref06_join.f a b c = some (a ++ b ++ c) := by
  unfold imprimaturref06_join.f
  rw [if_pos (by rw [List.length_nil]; omega)]
  simp only [Option.bind_some, List.nil_append]
  rw [if_pos (by omega), if_pos (by rw [List.length_append]; omega)]
theorem node_eq (a b : List Int) (ha : a.length ≤ 1000000) (hb : b.length ≤ 1000000) : imprimaturref06_NodeText.f a b = some (1 :: (a ++ b)) := by
  unfold imprimaturref06_NodeText.f
  rw [join_eq [1] a b (by decide) ha hb]
  rfl
theorem reftop_eq : ∀ (n : Nat) (l : List (List Int)) (k : Nat), l.length = n → n ≤ 100000 → Lv l → n + 40 ≤ k → imprimaturref06_Top.f k l = some (topL l, textsL l) := by
  intro n
  induction n using Nat.strongRecOn with
  | _ n ih =>
    intro l k hl h2 hv hk
    obtain ⟨k, rfl⟩ : ∃ j, k = j + 1 := ⟨k - 1, by omega⟩
    rw [imprimaturref06_Top.f]
    by_cases h0 : n = 0
    · rw [if_pos (by omega), textsL_one (by omega), topL, dif_pos (by omega), List.length_eq_zero_iff.1 (hl.trans h0)]
      rfl
    by_cases h : n = 1
    · rw [if_neg (by omega), if_pos (by omega), if_pos (by omega), topL_one (by omega), textsL_one (by omega)]
      rfl
    · have h3 := hf_pos n
      have h4 := hf_lt (n := n) (by omega)
      have t1 : (l.take (hf n)).length = hf n := by rw [List.length_take]; omega
      have t2 : (l.drop (hf n)).length = n - hf n := by rw [List.length_drop]; omega
      have ha := topL_32 (hv.take (hf n)) (by omega)
      have hb := topL_32 (hv.drop (hf n)) (by omega)
      have a1 := textsL_ok (hf n) _ t1 (hv.take _)
      have a2 := textsL_ok (n - hf n) _ t2 (hv.drop _)
      rw [if_neg (by omega), if_neg (by omega), hl, refhalf_eq n (by omega) (by omega) k (by omega)]
      simp only [Option.bind_some, Int.toNat_natCast]
      rw [if_pos (by omega), if_pos (by omega), ih (hf n) (by omega) _ k t1 (by omega) (hv.take _) (by omega)]
      simp only [Option.bind_some]
      rw [ih (n - hf n) (by omega) _ k t2 (by omega) (hv.drop _) (by omega)]
      simp only [Option.bind_some]
      rw [node_eq _ _ (by omega) (by omega)]
      simp only [Option.bind_some]
      rw [if_pos (by rw [List.length_nil]; omega)]
      simp only [List.nil_append]
      rw [if_pos (by omega), if_pos (by rw [List.length_append]; omega), hash_eq (isBytes_cons (by decide) (isBytes_app ha.2 hb.2)) (by simp [ha.1, hb.1])]
      simp only [Option.bind_some]
      rw [topL_node (l := l) (by omega), textsL_node (l := l) (by omega), hl]
end Go.Proofs.YtdpdmmbdoeefbaaDoor.PRa
namespace Go.Proofs.YtdpdmmbdoeefbaaDoor.PRc
open Go.RowKit Go.Proofs.YtdpdmmbdoeefbaaDoorW.PrintWords Go.Proofs.YtdpdmmbdoeefbaaDoorW.PrintLast Go.Proofs.YtdpdmmbdoeefbaaDoorW.PrintMore Go.Proofs.YtdpdmmbdoeefbaaDoor.X Go.Proofs.YtdpdmmbdoeefbaaDoor.PCut Go.Proofs.YtdpdmmbdoeefbaaDoor.PCs Go.Proofs.YtdpdmmbdoeefbaaDoor.PCo Go.Proofs.YtdpdmmbdoeefbaaDoor.PPw Go.Proofs.YtdpdmmbdoeefbaaDoor.PPv Go.Proofs.YtdpdmmbdoeefbaaDoor.PRa
theorem refwalk_eq : ∀ (n : Nat) (l : List (List Int)) (p k : Nat), l.length = n → p < n → n ≤ 100000 → Lv l → n + 50 ≤ k → imprimaturref06_walk.f k l p = some (walkL l p) := by
  intro n
  induction n using Nat.strongRecOn with
  | _ n ih =>
    intro l p k hl hp hn hv hk
    obtain ⟨k, rfl⟩ : ∃ j, k = j + 1 := ⟨k - 1, by omega⟩
    rw [imprimaturref06_walk.f]
    by_cases h : n = 1
    · rw [if_pos (by omega), walkL_one (by omega)]
    · have h3 := hf_pos n
      have h4 := hf_lt (n := n) (by omega)
      have t1 : (l.take (hf n)).length = hf n := by rw [List.length_take]; omega
      have t2 : (l.drop (hf n)).length = n - hf n := by rw [List.length_drop]; omega
      rw [if_neg (by omega), hl, refhalf_eq n (by omega) (by omega) k (by omega)]
      simp only [Option.bind_some, Int.toNat_natCast]
      by_cases hq : p < hf n
      · rw [if_pos (by omega), if_pos (by omega), if_pos (by omega), reftop_eq (n - hf n) _ k t2 (by omega) (hv.drop _) (by omega)]
        simp only [Option.bind_some]
        rw [ih (hf n) h4 _ p k t1 hq (by omega) (hv.take _) (by omega)]
        simp only [Option.bind_some]
        have h6 := walkL_length (hf n) (l.take (hf n)) p t1
        have h7 := pathL_length (hf n) p
        rw [if_pos (by omega), walkL_left (l := l) (p := p) (by omega) (by rw [hl]; exact hq), hl]
      · rw [if_neg (by omega), if_pos (by omega), if_pos (by omega), reftop_eq (hf n) _ k t1 (by omega) (hv.take _) (by omega)]
        simp only [Option.bind_some]
        rw [w64 (x := (p : Int) - hf n) (by omega) (by omega), show (p : Int) - hf n = ((p - hf n : Nat) : Int) by omega, ih (n - hf n) (by omega) _ (p - hf n) k t2 (by omega) (by omega) (hv.drop _) (by omega)]
        simp only [Option.bind_some]
        have h6 := walkL_length (n - hf n) (l.drop (hf n)) (p - hf n) t2
        have h7 := pathL_length (n - hf n) (p - hf n)
        rw [if_pos (by omega), walkL_right (l := l) (p := p) (by omega) (by rw [hl]; omega), hl]
theorem refprove_eq (l : List (List Int)) (p : Int) (k : Nat) (hl : l.length ≤ 100000) (hk : l.length + 50 ≤ k) (hb : ∀ x ∈ l, ∀ y ∈ x, 0 ≤ y ∧ y < 256) :
    imprimaturref06_Prove.f k l p = some (if lvE l = 0 then (if p < 0 ∨ p ≥ l.length then ([], 1) else (walkL l p.toNat, 0)) else ([], lvE l)) := by
  unfold imprimaturref06_Prove.f
  rw [refok_eq l k (by omega) hl]
  simp only [Option.bind_some]
  by_cases h : lvE l = 0
  · rw [if_pos h, if_pos h]
    have hv := (lvE_zero hb).1 h
    by_cases h1 : p < 0
    · rw [if_pos h1, if_pos (.inl h1)]
    by_cases h2 : p ≥ l.length
    · rw [if_neg h1, if_pos h2, if_pos (.inr h2)]
    obtain ⟨p, rfl⟩ := Int.eq_ofNat_of_zero_le (show 0 ≤ p by omega)
    rw [if_neg h1, if_neg h2, if_neg (by omega), refwalk_eq l.length l p k rfl (by omega) hl hv.2 (by omega), Int.toNat_natCast]
    rfl
  · rw [if_neg h, if_neg h]
end Go.Proofs.YtdpdmmbdoeefbaaDoor.PRc
namespace Go.Proofs.YtdpdmmbdoeefbaaDoor.PPp
open Go.RowKit Go.Proofs.YtdpdmmbdoeefbaaDoorW.PrintWords Go.Proofs.YtdpdmmbdoeefbaaDoorW.PrintLast Go.Proofs.YtdpdmmbdoeefbaaDoorW.PrintMore Go.Proofs.YtdpdmmbdoeefbaaDoor.X Go.Proofs.YtdpdmmbdoeefbaaDoor.PCut Go.Proofs.YtdpdmmbdoeefbaaDoor.PCs Go.Proofs.YtdpdmmbdoeefbaaDoor.PCo Go.Proofs.YtdpdmmbdoeefbaaDoor.PPw Go.Proofs.YtdpdmmbdoeefbaaDoor.PPv Go.Proofs.YtdpdmmbdoeefbaaDoor.PRa Go.Proofs.YtdpdmmbdoeefbaaDoor.PRc
theorem proves_law (hkn : imprimaturlaw06_known.f = some true) (l : List (List Int)) (a : Int) (hb : ∀ x ∈ l, ∀ y ∈ x, 0 ≤ y ∧ y < 256) (hx : ∀ x ∈ l, x.length ≤ 140737488355328) (hl : l.length ≤ 5864062014805) : ∃ k, imprimaturlaw06_MerkleProves.f k l a = some true := by
  refine ⟨l.length + 200000, ?_⟩
  obtain ⟨k, hk⟩ : ∃ K, K = l.length + 200000 := ⟨_, rfl⟩
  rw [← hk]
  obtain ⟨r, hr, hs⟩ := size_eq l 1500 (by omega) hx hl k (by omega)
  unfold imprimaturlaw06_MerkleProves.f
  rw [show (1500 : Int) = ((1500 : Nat) : Int) from rfl, hr]
  simp only [Option.bind_some]
  by_cases h1 : r > ((1500 : Nat) : Int)
  · rw [if_pos h1, hkn, Option.bind_some]
  have hs1 := (hs (by omega)).1
  rw [if_neg h1, prove_eq l a k (by omega) (by omega) hb, refprove_eq l a k (by omega) (by omega) hb]
  simp only [Option.bind_some]
  have hw : (if lvE l = 0 then if a < 0 ∨ a ≥ ↑l.length then (([] : List (List Int)), (1 : Int)) else (walkL l a.toNat, 0) else ([], lvE l)).1.length ≤ 100000 := by
    split
    · split
      · simp
      · have := walkL_length l.length l a.toNat rfl
        have := pathL_length l.length a.toNat
        show (walkL l a.toNat).length ≤ _
        omega
    · simp
  generalize (if lvE l = 0 then if a < 0 ∨ a ≥ ↑l.length then (([] : List (List Int)), (1 : Int)) else (walkL l a.toNat, 0) else ([], lvE l)) = q at *
  rw [same_self k q.1 hw ?_]
  · simp only [Option.bind_some]
    rw [if_pos trivial, if_pos trivial, hkn, Option.bind_some]
  · omega
theorem MerkleProves_walk (A0 : Option Addr) (c0 : Nat) (l0 : List (List Int)) (a1 : Int) (w : World) (HG : Glb w) (w0 : Kd.C (Kd.slice 5 (Kd.int .u8)) w A0 l0.length l0) (hc0 : l0.length ≤ c0) (o0 : l0.length * 24 ≤ 140737488351232) (g0 : ∀ l ∈ l0, (∀ x ∈ l, (Lit.int .u8 x).wf = true) ∧ l.length * 1 ≤ 140737488351232) (w1 : (Lit.int .i64 a1).wf = true) :
  Calls Tryd.prog 9 #[.slice A0 l0.length c0, .int .i64 a1] w fun e w' => e = .returned (.bool true) ∧ Below w.heap.size w w' := by
  obtain ⟨k, h⟩ := proves_law rfl l0 a1 (row_bytes g0) (row_len g0) (by omega)
  exact imprimaturlaw06_MerkleProves.calls k _ _ l0 a1 true w HG w0 hc0 h
end Go.Proofs.YtdpdmmbdoeefbaaDoor.PPp
