/- Plain lemmas for one law. -/
import Derived.Test.YtdpdmmbdoeefbaaDoorPClx1
import Derived.Test.YtdpdmmbdoeefbaaDoorPCox1
import Derived.Test.YtdpdmmbdoeefbaaDoorPCrx1
import Derived.Test.YtdpdmmbdoeefbaaDoorPCrx2
import Derived.Test.YtdpdmmbdoeefbaaDoorPCsx1
import Derived.Test.YtdpdmmbdoeefbaaDoorPCutx1
import Derived.Test.YtdpdmmbdoeefbaaDoorPCutx2
import Derived.Test.YtdpdmmbdoeefbaaDoorPRax1
import Derived.Test.YtdpdmmbdoeefbaaDoorPRdx1
import Derived.Test.YtdpdmmbdoeefbaaDoorPRex1
import Derived.Test.YtdpdmmbdoeefbaaDoorPSpx1
import Derived.Test.YtdpdmmbdoeefbaaDoorMr
import Derived.Test.YtdpdmmbdoeefbaaDoorK
import Derived.Test.YtdpdmmbdoeefbaaDoorWT
import Derived.Test.YtdpdmmbdoeefbaaDoorCx
set_option linter.unusedVariables false
namespace Go.Proofs.YtdpdmmbdoeefbaaDoor.PCut
open Go.RowKit YtdpdmmbdoeefbaaDoorW.PrintWords YtdpdmmbdoeefbaaDoorW.PrintLast YtdpdmmbdoeefbaaDoorW.PrintMore X
theorem hf_le {n : Nat} (h : 2 ≤ n) : n ≤ 2 * hf n := by
 have := Nat.lt_log2_self (n := n - 1)
 unfold hf
 rw [Nat.pow_succ] at this
 omega
/-- The top of leaves. -/
def topL (l : List (List Int)) : List Int :=
 if _h : l.length ≤ 1 then l.getD 0 [] else dig (1 :: (topL (l.take (hf l.length)) ++ topL (l.drop (hf l.length))))
termination_by l.length
decreasing_by
 ·simp only [List.length_take]; have := hf_lt (n := l.length) (by omega); omega
 simp only [List.length_drop]; have := hf_pos l.length; omega
theorem topL_one {l : List (List Int)} (h : l.length = 1) : topL l = l.getD 0 [] := by rw [topL, dif_pos (by omega)]
theorem topL_node {l : List (List Int)} (h : 2 ≤ l.length) : topL l = dig (1 :: (topL (l.take (hf l.length)) ++ topL (l.drop (hf l.length)))) := by rw [topL, dif_neg (by omega)]
theorem topL_32 {l : List (List Int)} (h : Lv l) (hn : 1 ≤ l.length) : (topL l).length = 32 ∧ ∀ y ∈ topL l, 0 ≤ y ∧ y < 256 := by
 by_cases h1 : l.length = 1
 ·rw [topL_one h1, List.getD_eq_getElem?_getD, List.getElem?_eq_getElem (by omega)]
  exact h _ (List.getElem_mem _)
 rw [topL_node (by omega)]
 exact ⟨dig_length _, dig_bytes _⟩
theorem digest2 {m : Int} {a b : List Int} (hm : 0 ≤ m ∧ m < 256) (ha : ∀ y ∈ a, 0 ≤ y ∧ y < 256) (hb : ∀ y ∈ b, 0 ≤ y ∧ y < 256) (hl : a.length + b.length ≤ 100000) : merkle_digest.f m [a, b] = some (dig (m :: (a ++ b))) := by
 have e : ([a, b] : List (List Int)).flatten = a ++ b := by simp
 rw [digest_some (by rw [e]; exact isBytes_of (isBytes_cons hm (isBytes_app ha hb))) (by rw [e]; simp; omega), e]
theorem digest1 {m : Int} {a : List Int} (hm : 0 ≤ m ∧ m < 256) (ha : ∀ y ∈ a, 0 ≤ y ∧ y < 256) (hl : a.length ≤ 100000) : merkle_digest.f m [a] = some (dig (m :: a)) := by
 have e : ([a] : List (List Int)).flatten = a := by simp
 rw [digest_some (by rw [e]; exact isBytes_of (isBytes_cons hm ha)) (by rw [e]; simp; omega), e]
theorem top_eq : ∀ (n : Nat) (l : List (List Int)) (k : Nat), l.length = n → 1 ≤ n → n ≤ 100000 → Lv l → n ≤ k → merkle_top.f k l = some (topL l) := by
 intro n
 induction n using Nat.strongRecOn with
 | _ n ih =>
  intro l k hl h1 h2 hv hk
  obtain ⟨k, rfl⟩ : ∃ j, k = j + 1 := ⟨k - 1, by omega⟩
  rw [merkle_top.f]
  by_cases h : n = 1
  ·rw [if_pos (by omega), if_pos (by omega), topL_one (by omega)]
   rfl
  have h3 := hf_pos n
  have h4 := hf_lt (n := n) (by omega)
  have t1 : (l.take (hf n)).length = hf n := by rw [List.length_take]; omega
  have t2 : (l.drop (hf n)).length = n - hf n := by rw [List.length_drop]; omega
  rw [if_neg (by omega), hl, half_eq n (by omega) (by omega)]
  simp only [Option.bind_some, Int.toNat_natCast]
  rw [if_pos (by omega), if_pos (by omega), ih (hf n) (by omega) _ k t1 h3 (by omega) (hv.take _) (by omega)]
  simp only [Option.bind_some]
  rw [ih (n - hf n) (by omega) _ k t2 (by omega) (by omega) (hv.drop _) (by omega)]
  simp only [Option.bind_some]
  have ha := topL_32 (hv.take (hf n)) (by omega)
  have hb := topL_32 (hv.drop (hf n)) (by omega)
  rw [digest2 (by decide) ha.2 hb.2 (by omega), topL_node (l := l) (by omega), hl]
  rfl
/-- The error of leaves. -/
def lvE (l : List (List Int)) : Int := if l.length > 4096 then 2 else if l.all (fun x => decide (x.length = 32)) = true then 0 else 1
theorem leaves_l (l : List (List Int)) (hl : l.length ≤ 100000) : ∀ (d k i : Nat), i + d = l.length → merkle_leaves.l0 (k + d + 1) l l.length i = some (if (l.drop i).all (fun x => decide (x.length = 32)) = true then 0 else 1) := by
 intro d
 induction d with
 | zero =>
  intro k i hi
  rw [merkle_leaves.l0, if_neg (by omega), List.drop_of_length_le (by omega)]
  rfl
 | succ d ih =>
  intro k i hi
  rw [show k + (d + 1) + 1 = (k + d + 1) + 1 by omega, merkle_leaves.l0, if_pos (by omega), if_pos (by omega), if_pos (by omega), all_drop l _ [] i (by omega), show rd_L1 l (i : Int) = l.getD i [] by unfold rd_L1; rw [Int.toNat_natCast], w64 (by omega) (by omega), show (i : Int) + 1 = ((i + 1 : Nat) : Int) by omega, ih k (i + 1) (by omega)]
  by_cases h : (l.getD i []).length = 32
  ·rw [if_pos (by omega), decide_eq_true h, Bool.true_and]
  rw [if_neg (by omega), decide_eq_false h, Bool.false_and]
  rfl
theorem leaves_eq (l : List (List Int)) (k : Nat) (hk : l.length < k) (hl : l.length ≤ 100000) : merkle_leaves.f k l = some (lvE l) := by
 unfold merkle_leaves.f lvE
 by_cases h : l.length > 4096
 ·rw [if_pos (by omega), if_pos h]
 rw [if_neg (by omega), if_neg h]
 have := leaves_l l hl l.length (k - l.length - 1) 0 (by omega)
 rw [show k - l.length - 1 + l.length + 1 = k by omega] at this
 exact this
theorem lvE_zero {l : List (List Int)} (hb : ∀ x ∈ l, ∀ y ∈ x, 0 ≤ y ∧ y < 256) : lvE l = 0 ↔ l.length ≤ 4096 ∧ Lv l := by
 unfold lvE
 constructor
 rotate_left
 ·rintro ⟨h1, h2⟩
  rw [if_neg (by omega), if_pos (List.all_eq_true.2 fun x hx => decide_eq_true (h2 x hx).1)]
 intro h
 split at h
 ·cases h
 split at h
 ·rename_i h1 h2
  refine ⟨by omega, fun x hx => ⟨?_, hb x hx⟩⟩
  have := List.all_eq_true.1 h2 x hx
  simpa using this
 cases h
def tq (x : Int) : Int := IntKind.u64.wrap (Int.tdiv x 256)
theorem tq_eq {x : Int} (h : 0 ≤ x) (h' : x < 18446744073709551616) : tq x = x / 256 := by
 unfold tq
 rw [Int.tdiv_eq_ediv_of_nonneg h]
 show x / 256 % 18446744073709551616 = _
 omega
theorem tm_eq {x : Int} (h : 0 ≤ x) : Int.tmod x 256 % 256 = x % 256 := by rw [Int.tmod_eq_emod_of_nonneg h]; omega
/-- The root of leaves. -/
def rootL (l : List (List Int)) : List Int := dig (2 :: (e8 l.length ++ (if l.length = 0 then [] else topL l)))
theorem root_eq (k : Nat) (l : List (List Int)) (hl : l.length ≤ 100000) (hk : l.length + 9 ≤ k) (hb : ∀ x ∈ l, ∀ y ∈ x, 0 ≤ y ∧ y < 256) : merkle_Root.f k l = some (if lvE l = 0 then (rootL l, 0) else ([], lvE l)) := by
 unfold merkle_Root.f
 rw [leaves_eq l k (by omega) hl]
 simp only [Option.bind_some]
 by_cases h : lvE l = 0
 rotate_left
 ·rw [if_neg h, if_neg h]
 rw [if_pos h, if_pos h]
 have hv := (lvE_zero hb).1 h
 unfold rootL
 by_cases h0 : l.length = 0
 ·rw [if_pos (by omega), if_pos h0, eight_eq k 0 (by omega)]
  simp only [Option.bind_some]
  rw [digest1 (by decide) (e8_bytes 0) (by rw [e8_length]; omega), h0]
  simp
 rw [if_neg (by omega), if_neg h0, eight_eq k _ (by omega)]
 simp only [Option.bind_some]
 have ht := topL_32 hv.2 (by omega)
 rw [top_eq l.length l k rfl (by omega) hl hv.2 (by omega)]
 simp only [Option.bind_some]
 rw [digest2 (by decide) (e8_bytes _) ht.2 (by rw [e8_length]; omega)]
 rfl
theorem sum_ge (l : List (List Int)) : l.length ≤ (l.map (fun x => x.length + 1)).sum := by
 induction l with
 | nil => simp
 | cons x l ih => simp only [List.map_cons, List.sum_cons, List.length_cons]; omega
theorem byte_of {x : Int} (h : (Lit.int .u8 x).wf = true) : 0 ≤ x ∧ x < 256 := by
 simp [Lit.wf, IntKind.min, IntKind.max, IntKind.bits, IntKind.signed] at h
 omega
theorem row_bytes {l : List (List Int)} (g : ∀ x ∈ l, (∀ y ∈ x, (Lit.int .u8 y).wf = true) ∧ x.length * 1 ≤ 140737488351232) : ∀ x ∈ l, ∀ y ∈ x, 0 ≤ y ∧ y < 256 := fun x hx y hy => byte_of ((g x hx).1 y hy)
theorem row_len {l : List (List Int)} (g : ∀ x ∈ l, (∀ y ∈ x, (Lit.int .u8 y).wf = true) ∧ x.length * 1 ≤ 140737488351232) : ∀ x ∈ l, x.length ≤ 140737488355328 := fun x hx => by have := (g x hx).2; omega
theorem hash_eq {t : List Int} (hb : BytesB t) (hl : t.length ≤ 1048576) : imprimaturref02_Hash256.f t = some (dig t) := by
 unfold imprimaturref02_Hash256.f
 rw [if_pos ⟨isBytes_of hb, hl⟩]
/-- All texts that are digested for the top of leaves. -/
def textsL (l : List (List Int)) : List (List Int) :=
 if _h : l.length ≤ 1 then [] else textsL (l.take (hf l.length)) ++ textsL (l.drop (hf l.length)) ++ [1 :: (topL (l.take (hf l.length)) ++ topL (l.drop (hf l.length)))]
termination_by l.length
decreasing_by
 ·simp only [List.length_take]; have := hf_lt (n := l.length) (by omega); omega
 simp only [List.length_drop]; have := hf_pos l.length; omega
theorem textsL_one {l : List (List Int)} (h : l.length ≤ 1) : textsL l = [] := by rw [textsL, dif_pos h]
theorem textsL_node {l : List (List Int)} (h : 2 ≤ l.length) : textsL l = textsL (l.take (hf l.length)) ++ textsL (l.drop (hf l.length)) ++ [1 :: (topL (l.take (hf l.length)) ++ topL (l.drop (hf l.length)))] := by rw [textsL, dif_neg (by omega)]
theorem textsL_ok : ∀ (n : Nat) (l : List (List Int)), l.length = n → Lv l → (textsL l).length ≤ n - 1 ∧ ∀ t ∈ textsL l, BytesB t ∧ t.length = 65 := by
 intro n
 induction n using Nat.strongRecOn with
 | _ n ih =>
  intro l hl hv
  by_cases h : n ≤ 1
  ·rw [textsL_one (by omega)]; exact ⟨by simp, fun t ht => by cases ht⟩
  have h3 := hf_pos n
  have h4 := hf_lt (n := n) (by omega)
  have t1 : (l.take (hf n)).length = hf n := by rw [List.length_take]; omega
  have t2 : (l.drop (hf n)).length = n - hf n := by rw [List.length_drop]; omega
  have h5 := topL_32 (hv.take (hf n)) (by omega)
  have h6 := topL_32 (hv.drop (hf n)) (by omega)
  have a1 := ih (hf n) h4 _ t1 (hv.take _)
  have a2 := ih (n - hf n) (by omega) _ t2 (hv.drop _)
  rw [textsL_node (by omega), hl]
  refine ⟨?_, fun t ht => ?_⟩
  ·simp only [List.length_append, List.length_singleton]; omega
  rw [List.mem_append, List.mem_append, List.mem_singleton] at ht
  rcases ht with (ht | ht) | rfl
  ·exact a1.2 t ht
  ·exact a2.2 t ht
  exact ⟨isBytes_cons (by decide) (isBytes_app h5.2 h6.2), by simp [h5.1, h6.1]⟩
theorem getD_mem' {l : List (List Int)} {i : Nat} (h : i < l.length) : l.getD i [] ∈ l := by rw [List.getD_eq_getElem?_getD, List.getElem?_eq_getElem h]; exact List.getElem_mem _
/-- No two texts that are unlike have one digest. -/
def Inj (S : List (List Int)) : Prop := ∀ x ∈ S, ∀ y ∈ S, dig x = dig y → x = y
theorem Inj.sub {S T : List (List Int)} (h : Inj S) (hT : ∀ x ∈ T, x ∈ S) : Inj T := fun x hx y hy e => h x (hT x hx) y (hT y hy) e
theorem topL_nil {l : List (List Int)} (h : l.length = 0) : topL l = [] := by rw [topL, dif_pos (by omega), List.length_eq_zero_iff.1 h]; rfl
theorem rootL_eq (l : List (List Int)) : rootL l = dig (2 :: (e8 l.length ++ topL l)) := by
 unfold rootL
 by_cases h : l.length = 0
 ·rw [if_pos h, topL_nil h]
 rw [if_neg h]
theorem topL_le {l : List (List Int)} (h : Lv l) : (topL l).length ≤ 32 ∧ BytesB (topL l) := by
 by_cases h0 : l.length = 0
 ·rw [topL_nil h0]; exact ⟨by simp, fun y hy => by cases hy⟩
 have := topL_32 h (by omega); exact ⟨by omega, this.2⟩
/-- The texts of the fixed calls. -/
def fixT : List (List Int) := [0 :: (e8 0 ++ [5]), 2 :: (e8 1 ++ dig (0 :: (e8 0 ++ [5])))]
theorem e8_inj {a b : Int} (ha : 0 ≤ a ∧ a ≤ 60000) (hb : 0 ≤ b ∧ b ≤ 60000) (h : e8 a = e8 b) : a = b := by
 simp only [e8, List.cons.injEq, and_true] at h
 obtain ⟨_, _, _, _, _, _, h7, h8⟩ := h
 omega
/-- The tops of the parts in which none of some places is. -/
def outL (a f t : Nat) (l : List (List Int)) : List (List Int) :=
 if a + l.length ≤ f ∨ t ≤ a then [topL l] else if f ≤ a ∧ a + l.length ≤ t then [] else if _h : l.length ≤ 1 then []
 else outL a f t (l.take (hf l.length)) ++ outL (a + hf l.length) f t (l.drop (hf l.length))
termination_by l.length
decreasing_by
 ·simp only [List.length_take]; have := hf_lt (n := l.length) (by omega); omega
 simp only [List.length_drop]; have := hf_pos l.length; omega
theorem outL_out {a f t : Nat} {l : List (List Int)} (h : a + l.length ≤ f ∨ t ≤ a) : outL a f t l = [topL l] := by rw [outL, if_pos h]
theorem outL_in {a f t : Nat} {l : List (List Int)} (h1 : 1 ≤ l.length) (h : f ≤ a ∧ a + l.length ≤ t) : outL a f t l = [] := by rw [outL, if_neg (by omega), if_pos h]
theorem outL_node {a f t : Nat} {l : List (List Int)} (h2 : 2 ≤ l.length) (h : ¬ (a + l.length ≤ f ∨ t ≤ a)) : outL a f t l = outL a f t (l.take (hf l.length)) ++ outL (a + hf l.length) f t (l.drop (hf l.length)) := by
 have h3 := hf_pos l.length
 have h4 := hf_lt (n := l.length) h2
 by_cases hi : f ≤ a ∧ a + l.length ≤ t
 ·have t1 : (l.take (hf l.length)).length = hf l.length := by rw [List.length_take]; omega
  have t2 : (l.drop (hf l.length)).length = l.length - hf l.length := by rw [List.length_drop]
  rw [outL_in (by omega) hi, outL_in (l := l.take (hf l.length)) (by omega) (by omega), outL_in (l := l.drop (hf l.length)) (by omega) (by omega), List.append_nil]
 rw [outL, if_neg h, if_neg hi, dif_neg (by omega)]
/-- The own proof of a range climbs to the top. -/
theorem climb_own : ∀ (n a f : Nat) (l lv rest : List (List Int)), l.length = n → 1 ≤ n → (∀ i, a ≤ i → i < a + n → f ≤ i → i < f + lv.length → lv.getD (i - f) [] = l.getD (i - a) []) →
  ∃ tx, climbT a n f lv (outL a f (f + lv.length) l ++ rest) = (topL l, rest, tx, true) := by
 intro n
 induction n using Nat.strongRecOn with
 | _ n ih =>
  intro a f l lv rest hl h1 he
  by_cases ho : a + n ≤ f ∨ f + lv.length ≤ a
  ·rw [outL_out (by omega), climbT_out ho (by simp)]
   exact ⟨_, rfl⟩
  by_cases h2 : n ≤ 1
  ·rw [outL_in (by omega) (by omega), climbT_leaf ho h2, he a (Nat.le_refl _) (by omega) (by omega) (by omega), topL_one (by omega), Nat.sub_self]
   exact ⟨_, rfl⟩
  have h3 := hf_pos n
  have h4 := hf_lt (n := n) (by omega)
  have t1 : (l.take (hf n)).length = hf n := by rw [List.length_take]; omega
  have t2 : (l.drop (hf n)).length = n - hf n := by rw [List.length_drop]; omega
  obtain ⟨tx, hu⟩ := ih (hf n) h4 a f (l.take (hf n)) lv (outL (a + hf n) f (f + lv.length) (l.drop (hf n)) ++ rest) t1 h3 (fun i i1 i2 i3 i4 => by
   rw [he i i1 (by omega) i3 i4, List.getD_eq_getElem?_getD, List.getD_eq_getElem?_getD, List.getElem?_take, if_pos (by omega)])
  obtain ⟨ty, hv⟩ := ih (n - hf n) (by omega) (a + hf n) f (l.drop (hf n)) lv rest t2 (by omega) (fun i i1 i2 i3 i4 => by
   rw [he i (by omega) (by omega) i3 i4, List.getD_eq_getElem?_getD, List.getD_eq_getElem?_getD, List.getElem?_drop, show hf n + (i - (a + hf n)) = i - a by omega])
  rw [climbT_node ho (by omega), outL_node (l := l) (by omega) (by omega), hl, List.append_assoc, hu, hv, topL_node (l := l) (by omega), hl]
  exact ⟨_, rfl⟩
/-- Where a climb comes to the top and no two texts clash, the proof is the own one, and the leaves are those of the range. -/
theorem climb_only : ∀ (n a f : Nat) (l lv pr : List (List Int)), l.length = n → 1 ≤ n → Lv l → Lv lv → Lv pr → (climbT a n f lv pr).2.2.2 = true → (climbT a n f lv pr).1 = topL l → Inj ((climbT a n f lv pr).2.2.1 ++ textsL l) →
  pr = outL a f (f + lv.length) l ++ (climbT a n f lv pr).2.1 ∧ ∀ i, a ≤ i → i < a + n → f ≤ i → i < f + lv.length → lv.getD (i - f) [] = l.getD (i - a) [] := by
 intro n
 induction n using Nat.strongRecOn with
 | _ n ih =>
  intro a f l lv pr hl h1 hv hw hp hfit he hI
  by_cases ho : a + n ≤ f ∨ f + lv.length ≤ a
  ·refine ⟨?_, fun i i1 i2 i3 i4 => by omega⟩
   by_cases h0 : pr.length = 0
   ·rw [climbT_none ho h0] at hfit
    cases hfit
   rw [climbT_out ho h0] at he ⊢
   rw [outL_out (by omega)]
   have he' : pr.getD 0 [] = topL l := he
   rw [← he']
   cases pr with
   | nil => exact absurd rfl h0
   | cons x pr => rfl
  by_cases h2 : n ≤ 1
  ·rw [climbT_leaf ho h2] at he ⊢
   rw [outL_in (by omega) (by omega)]
   refine ⟨rfl, fun i i1 i2 i3 i4 => ?_⟩
   have he' : lv.getD (a - f) [] = topL l := he
   rw [show i = a by omega, he', topL_one (by omega), Nat.sub_self]
  have h3 := hf_pos n
  have h4 := hf_lt (n := n) (by omega)
  have t1 : (l.take (hf n)).length = hf n := by rw [List.length_take]; omega
  have t2 : (l.drop (hf n)).length = n - hf n := by rw [List.length_drop]; omega
  have ha := topL_32 (hv.take (hf n)) (by omega)
  have hb := topL_32 (hv.drop (hf n)) (by omega)
  have u := climbT_ok (hf n) a f lv pr h3 hw hp
  have v := climbT_ok (n - hf n) (a + hf n) f lv (climbT a (hf n) f lv pr).2.1 (by omega) hw u.2.1.1
  have iu := ih (hf n) h4 a f (l.take (hf n)) lv pr t1 h3 (hv.take _) hw hp
  have iv := ih (n - hf n) (by omega) (a + hf n) f (l.drop (hf n)) lv (climbT a (hf n) f lv pr).2.1 t2 (by omega) (hv.drop _) hw u.2.1.1
  have hn := climbT_node (pr := pr) ho (show 2 ≤ n by omega)
  rw [hn] at hfit he hI ⊢
  simp only at hfit he hI ⊢
  rw [Bool.and_eq_true] at hfit
  have htn := topL_node (l := l) (by omega)
  have htx := textsL_node (l := l) (by omega)
  rw [hl] at htn htx
  rw [htn] at he
  rw [htx] at hI
  have hE := hI _ (by simp) _ (by simp) he
  obtain ⟨hE3, hE4⟩ := List.append_inj (List.cons.inj hE).2 (by rw [u.2.2.2 hfit.1, ha.1])
  have ru := iu hfit.1 hE3 (hI.sub fun x hx => by
   simp only [List.mem_append] at hx ⊢
   rcases hx with hx | hx
   ·exact .inl (.inl (.inl hx))
   exact .inr (.inl (.inl hx)))
  have rv := iv hfit.2 hE4 (hI.sub fun x hx => by
   simp only [List.mem_append] at hx ⊢
   rcases hx with hx | hx
   ·exact .inl (.inl (.inr hx))
   exact .inr (.inl (.inr hx)))
  refine ⟨?_, fun i i1 i2 i3 i4 => ?_⟩
  ·rw [outL_node (l := l) (by omega) (by omega), hl, List.append_assoc, ← rv.1]
   exact ru.1
  by_cases hq : i < a + hf n
  ·rw [ru.2 i i1 hq i3 i4, List.getD_eq_getElem?_getD, List.getD_eq_getElem?_getD, List.getElem?_take, if_pos (by omega)]
  rw [rv.2 i (by omega) (by omega) i3 i4, List.getD_eq_getElem?_getD, List.getD_eq_getElem?_getD, List.getElem?_drop, show hf n + (i - (a + hf n)) = i - a by omega]
theorem range_own (l : List (List Int)) (f : Nat) (lv : List (List Int)) (h1 : 1 ≤ l.length) (he : ∀ i, f ≤ i → i < f + lv.length → lv.getD (i - f) [] = l.getD i []) : rangeB (dig (2 :: (e8 l.length ++ topL l))) l.length f lv (outL 0 f (f + lv.length) l) = true := by
 obtain ⟨tx, h⟩ := climb_own l.length 0 f l lv [] rfl h1 (fun i i1 i2 i3 i4 => by rw [Nat.sub_zero]; exact he i i3 i4)
 rw [List.append_nil] at h
 unfold rangeB
 rw [h]
 simp
theorem rg_slice {l lv : List (List Int)} {f : Nat} (hl : f + lv.length ≤ l.length) (he : ∀ i, f ≤ i → i < f + lv.length → lv.getD (i - f) [] = l.getD i []) : lv = (l.drop f).take lv.length := by
 apply List.ext_getElem
 ·rw [List.length_take, List.length_drop]; omega
 intro i i1 i2
 have h := he (f + i) (by omega) (by omega)
 rw [show f + i - f = i by omega, List.getD_eq_getElem?_getD, List.getD_eq_getElem?_getD, List.getElem?_eq_getElem i1, List.getElem?_eq_getElem (show f + i < l.length by omega)] at h
 rw [List.getElem_take, List.getElem_drop]
 exact h
theorem rg_slice' {l : List (List Int)} {f k : Nat} (hl : f + k ≤ l.length) : ∀ i, f ≤ i → i < f + ((l.drop f).take k).length → ((l.drop f).take k).getD (i - f) [] = l.getD i [] := by
 intro i h1 h2
 have h3 : ((l.drop f).take k).length = k := by rw [List.length_take, List.length_drop]; omega
 rw [h3] at h2
 rw [List.getD_eq_getElem?_getD, List.getD_eq_getElem?_getD, List.getElem?_take, if_pos (by omega), List.getElem?_drop, show f + (i - f) = i by omega]
/-- By the root of some leaves a range's proof is right only with their number, the leaves of that range, and the own proof. -/
theorem range_only (l : List (List Int)) (n f : Nat) (lv pr : List (List Int)) (h1 : 1 ≤ l.length) (h2 : l.length ≤ 4096) (hn : n ≤ 4096) (hv : Lv l) (hw : Lv lv) (hp : Lv pr) (hl1 : 1 ≤ lv.length) (hl : f + lv.length ≤ n)
  (h : rangeB (dig (2 :: (e8 l.length ++ topL l))) n f lv pr = true) (hI : Inj ((climbT 0 n f lv pr).2.2.1 ++ [2 :: (e8 n ++ (climbT 0 n f lv pr).1)] ++ (textsL l ++ [2 :: (e8 l.length ++ topL l)]))) :
  n = l.length ∧ lv = (l.drop f).take lv.length ∧ pr = outL 0 f (f + lv.length) l := by
 unfold rangeB at h
 rw [Bool.and_eq_true, Bool.and_eq_true, decide_eq_true_eq, decide_eq_true_eq] at h
 have u := climbT_ok n 0 f lv pr (by omega) hw hp
 have hE := hI _ (by simp) _ (by simp) h.2
 obtain ⟨hE3, hE4⟩ := List.append_inj (List.cons.inj hE).2 (by rw [e8_length, e8_length])
 have hnl : (n : Int) = (l.length : Int) := e8_inj (by omega) (by omega) hE3
 obtain rfl : n = l.length := by omega
 have r := climb_only l.length 0 f l lv pr rfl h1 hv hw hp h.1.1 hE4 (hI.sub fun x hx => by
  simp only [List.mem_append] at hx ⊢
  rcases hx with hx | hx
  ·exact .inl (.inl hx)
  exact .inr (.inl hx))
 refine ⟨rfl, rg_slice hl (fun i i1 i2 => by have := r.2 i (Nat.zero_le _) (by omega) i1 i2; rwa [Nat.sub_zero] at this), ?_⟩
 have e := r.1
 rw [List.length_eq_zero_iff.1 h.1.2, List.append_nil] at e
 exact e
theorem outL_len (f t : Nat) : ∀ (n a : Nat) (l : List (List Int)), l.length = n → 1 ≤ n → (outL a f t l).length ≤ n := by
 intro n
 induction n using Nat.strongRecOn with
 | _ n ih =>
  intro a l hl h1
  by_cases ho : a + l.length ≤ f ∨ t ≤ a
  ·rw [outL_out ho]; exact h1
  by_cases h2 : n ≤ 1
  ·rw [outL, if_neg ho]
   by_cases hi : f ≤ a ∧ a + l.length ≤ t
   ·rw [if_pos hi]; exact Nat.zero_le _
   rw [if_neg hi, dif_pos (by omega)]; exact Nat.zero_le _
  have h3 := hf_pos n
  have h4 := hf_lt (n := n) (by omega)
  have t1 : (l.take (hf n)).length = hf n := by rw [List.length_take]; omega
  have t2 : (l.drop (hf n)).length = n - hf n := by rw [List.length_drop]; omega
  have u := ih (hf n) h4 a _ t1 h3
  have v := ih (n - hf n) (by omega) (a + hf n) _ t2 (by omega)
  rw [outL_node (by omega) ho, hl, List.length_append]
  omega
/-- What a range is answered with when its proof is asked for. -/
def proveC (l : List (List Int)) (f t : Int) : List (List Int) × Int := if lvE l = 0 then (if f < 0 ∨ t ≤ f ∨ t > l.length then ([], 1) else (outL 0 f.toNat t.toNat l, 0)) else ([], lvE l)
theorem outL_lv (f t : Nat) : ∀ (n a : Nat) (l : List (List Int)), l.length = n → 1 ≤ n → Lv l → Lv (outL a f t l) := by
 intro n
 induction n using Nat.strongRecOn with
 | _ n ih =>
  intro a l hl h1 hv
  by_cases ho : a + l.length ≤ f ∨ t ≤ a
  ·rw [outL_out ho]
   intro x hx
   rw [List.mem_singleton] at hx
   subst hx
   exact topL_32 hv (by omega)
  by_cases hi : f ≤ a ∧ a + l.length ≤ t
  ·rw [outL_in (by omega) hi]
   intro x hx
   cases hx
  have h3 := hf_pos n
  have h4 := hf_lt (n := n) (by omega)
  have t1 : (l.take (hf n)).length = hf n := by rw [List.length_take]; omega
  have t2 : (l.drop (hf n)).length = n - hf n := by rw [List.length_drop]; omega
  rw [outL_node (l := l) (by omega) ho, hl]
  intro x hx
  rw [List.mem_append] at hx
  rcases hx with hx | hx
  ·exact ih (hf n) h4 a _ t1 h3 (hv.take _) x hx
  exact ih (n - hf n) (by omega) (a + hf n) _ t2 (by omega) (hv.drop _) x hx
theorem bytes_flat {l : List (List Int)} (h : ∀ x ∈ l, BytesB x) : isBytes l.flatten = true := List.all_eq_true.2 fun y hy => by
 obtain ⟨x, hx, hy⟩ := List.mem_flatten.1 hy
 exact decide_eq_true (h x hx y hy)
theorem checkrange_eq (root : List Int) (n f : Int) (lv pr : List (List Int)) (hr : BytesB root) (hw : ∀ x ∈ lv, BytesB x) (hp : ∀ x ∈ pr, BytesB x) (h1 : lv.length ≤ 20000) (h2 : pr.length ≤ 20000) : merkle_CheckRange.f root n f lv pr = some (rangeC root n f lv pr) := by
 unfold merkle_CheckRange.f
 rw [if_pos ⟨isBytes_of hr, bytes_flat hw, bytes_flat hp, h1, h2⟩]
theorem rangeC_zero {root : List Int} {n f : Int} {lv pr : List (List Int)} (h : rangeC root n f lv pr = 0) : ∃ (N F : Nat), n = N ∧ f = F ∧ 1 ≤ N ∧ N ≤ 4096 ∧ 1 ≤ lv.length ∧ F + lv.length ≤ N ∧ rgAll lv = true ∧ rgAll pr = true ∧ rangeB root N F lv pr = true := by
 unfold rangeC at h
 by_cases hb : n < 1 ∨ 4096 < n ∨ lv.length = 0 ∨ f < 0 ∨ n < f + lv.length ∨ root.length ≠ 32 ∨ rgAll lv = false ∨ rgAll pr = false
 ·rw [if_pos hb] at h
  cases h
 rw [if_neg hb] at h
 refine ⟨n.toNat, f.toNat, ?_⟩
 have b1 : ¬ n < 1 := fun h => hb (.inl h)
 have b2 : ¬ 4096 < n := fun h => hb (.inr (.inl h))
 have b3 : ¬ lv.length = 0 := fun h => hb (.inr (.inr (.inl h)))
 have b4 : ¬ f < 0 := fun h => hb (.inr (.inr (.inr (.inl h))))
 have b5 : ¬ n < f + lv.length := fun h => hb (.inr (.inr (.inr (.inr (.inl h)))))
 have b7 : rgAll lv = true := by cases e : rgAll lv; exact absurd (.inr (.inr (.inr (.inr (.inr (.inr (.inl e))))))) hb; rfl
 have b8 : rgAll pr = true := by cases e : rgAll pr; exact absurd (.inr (.inr (.inr (.inr (.inr (.inr (.inr e))))))) hb; rfl
 refine ⟨by omega, by omega, by omega, by omega, by omega, by omega, b7, b8, ?_⟩
 by_cases h9 : rangeB root n.toNat f.toNat lv pr = true
 ·exact h9
 rw [if_neg h9] at h
 cases h
theorem rgAll_of {l : List (List Int)} (h : Lv l) : rgAll l = true := List.all_eq_true.2 fun x hx => decide_eq_true (h x hx).1
theorem rangeC_one {root : List Int} {n f : Nat} {lv pr : List (List Int)} (h1 : 1 ≤ n) (h2 : n ≤ 4096) (h3 : 1 ≤ lv.length) (h4 : f + lv.length ≤ n) (h5 : root.length = 32) (hv : Lv lv) (hp : Lv pr) (h : rangeB root n f lv pr = true) : rangeC root n f lv pr = 0 := by
 unfold rangeC
 rw [if_neg, Int.toNat_natCast, Int.toNat_natCast, if_pos h]
 rintro (h | h | h | h | h | h | h | h)
 ·omega
 ·omega
 ·omega
 ·omega
 ·omega
 ·exact h h5
 ·rw [rgAll_of hv] at h; cases h
 rw [rgAll_of hp] at h; cases h
end Go.Proofs.YtdpdmmbdoeefbaaDoor.PCut
namespace Go.Proofs.YtdpdmmbdoeefbaaDoor.PCs
open Go.RowKit YtdpdmmbdoeefbaaDoorW.PrintWords YtdpdmmbdoeefbaaDoorW.PrintLast YtdpdmmbdoeefbaaDoorW.PrintMore X PCut
/-- How many bytes texts have, as far as most. -/
theorem size_l (l : List (List Int)) (m : Nat) (hm : m ≤ 10000) (hb : ∀ x ∈ l, x.length ≤ 140737488355328) : ∀ (d k i : Nat) (n : Int), i + d = l.length → 0 ≤ n → n ≤ m + 140737488355329 → i ≤ n →
  ∃ r, imprimaturref06_Size.l0 (k + d + 1) l m n i = some r ∧ (r ≤ m → n + (((l.drop i).map (fun x => x.length + 1)).sum : Nat) ≤ m ∧ r = n + (((l.drop i).map (fun x => x.length + 1)).sum : Nat)) := by
 intro d
 induction d with
 | zero =>
  intro k i n hi h0 h1 h2
  rw [imprimaturref06_Size.l0, if_neg (by omega)]
  exact ⟨n, rfl, fun h => by rw [List.drop_of_length_le (by omega)]; simpa using h⟩
 | succ d ih =>
  intro k i n hi h0 h1 h2
  rw [show k + (d + 1) + 1 = (k + d + 1) + 1 by omega, imprimaturref06_Size.l0, if_pos (by omega)]
  by_cases h : n ≤ m
  rotate_left
  ·rw [if_neg h]
   exact ⟨n, rfl, fun h' => absurd h' h⟩
  have hx := hb (l.getD i []) (by rw [List.getD_eq_getElem?_getD, List.getElem?_eq_getElem (by omega)]; exact List.getElem_mem _)
  rw [if_pos h, if_pos (by omega), show rd_L1 l (i : Int) = l.getD i [] by unfold rd_L1; rw [Int.toNat_natCast], w64 (x := n + 1) (by omega) (by omega), w64 (x := n + 1 + ((l.getD i []).length : Int)) (by omega) (by omega), w64 (x := (i : Int) + 1) (by omega) (by omega), show (i : Int) + 1 = ((i + 1 : Nat) : Int) by omega]
  obtain ⟨r, hr, hs⟩ := ih k (i + 1) (n + 1 + ((l.getD i []).length : Int)) (by omega) (by omega) (by omega) (by omega)
  refine ⟨r, hr, fun hrm => ?_⟩
  have := hs hrm
  rw [List.drop_eq_getElem_cons (show i < l.length by omega), List.map_cons, List.sum_cons]
  have e : l[i] = l.getD i [] := by rw [List.getD_eq_getElem?_getD, List.getElem?_eq_getElem (by omega)]; rfl
  rw [e]
  omega
theorem size_eq (l : List (List Int)) (m : Nat) (hm : m ≤ 10000) (hb : ∀ x ∈ l, x.length ≤ 140737488355328) (hl : l.length ≤ 5864062014805) (k : Nat) (hk : l.length < k) :
  ∃ r, imprimaturref06_Size.f k l m = some r ∧ (r ≤ m → l.length ≤ m ∧ (l.map (fun x => x.length + 1)).sum ≤ m) := by
 unfold imprimaturref06_Size.f
 obtain ⟨r, hr, hs⟩ := size_l l m hm hb l.length (k - l.length - 1) 0 0 (by omega) (by omega) (by omega) (by omega)
 rw [show k - l.length - 1 + l.length + 1 = k by omega] at hr
 refine ⟨r, hr, fun h => ?_⟩
 have := hs h
 have h2 := sum_ge l
 rw [List.drop_zero] at this
 omega
def am (a n : Int) : Int := (imprimaturref01_Among.f a n).getD 0
theorem am_eq (a : Int) (n : Nat) (h : 1 ≤ n) (h' : n ≤ 10000) : imprimaturref01_Among.f a n = some (am a n) ∧ 0 ≤ am a n ∧ am a n < n := by
 have hlt : Int.tmod a n < n := Int.tmod_lt_of_pos a (by omega)
 have hgt : -(n : Int) < Int.tmod a n := Int.lt_tmod_of_pos a (by omega)
 have he : imprimaturref01_Among.f a n = some (if Int.tmod a n < 0 then Int.tmod a n + n else Int.tmod a n) := by
  unfold imprimaturref01_Among.f
  rw [if_neg (by omega), if_neg (by omega)]
  split
  ·rw [w64 (by omega) (by omega)]
  rfl
 unfold am
 rw [he]
 refine ⟨rfl, ?_⟩
 simp only [Option.getD_some]
 split <;> omega
theorem same_dl (a b : List (List Int)) (ha : ∀ x ∈ a, BytesB x) (hb : ∀ x ∈ b, BytesB x) (hl : a.length = b.length) (hal : a.length ≤ 100000) : ∀ (d k i : Nat), i + d = a.length → imprimaturref06_Same.l0 (k + d + 1) a b i = some (decide (a.drop i = b.drop i)) := by
 intro d
 induction d with
 | zero =>
  intro k i hi
  rw [imprimaturref06_Same.l0, if_neg (by omega), List.drop_of_length_le (by omega), List.drop_of_length_le (by omega), decide_eq_true rfl]
 | succ d ih =>
  intro k i hi
  rw [show k + (d + 1) + 1 = (k + d + 1) + 1 by omega, imprimaturref06_Same.l0, if_pos (by omega), if_pos (by omega), if_pos (by omega), show rd_L1 a (i : Int) = a.getD i [] by unfold rd_L1; rw [Int.toNat_natCast], show rd_L1 b (i : Int) = b.getD i [] by unfold rd_L1; rw [Int.toNat_natCast]]
  have ea : a.drop i = a.getD i [] :: a.drop (i + 1) := by
   rw [List.drop_eq_getElem_cons (show i < a.length by omega), List.getD_eq_getElem?_getD, List.getElem?_eq_getElem (by omega)]; rfl
  have eb : b.drop i = b.getD i [] :: b.drop (i + 1) := by
   rw [List.drop_eq_getElem_cons (show i < b.length by omega), List.getD_eq_getElem?_getD, List.getElem?_eq_getElem (by omega)]; rfl
  rw [ea, eb]
  by_cases h : a.getD i [] = b.getD i []
  ·rw [if_pos ((strs_eq (ha _ (getD_mem' (by omega))) (hb _ (getD_mem' (by omega)))).2 h), w64 (by omega) (by omega), show (i : Int) + 1 = ((i + 1 : Nat) : Int) by omega, ih k (i + 1) (by omega), h]
   congr 1
   rw [decide_eq_decide, List.cons.injEq]
   simp
  rw [if_neg (fun e => h ((strs_eq (ha _ (getD_mem' (by omega))) (hb _ (getD_mem' (by omega)))).1 e)), decide_eq_false (fun e => h (List.cons.inj e).1)]
theorem same_dec (a b : List (List Int)) (ha : ∀ x ∈ a, BytesB x) (hb : ∀ x ∈ b, BytesB x) (hal : a.length ≤ 100000) (k : Nat) (hk : a.length < k) : imprimaturref06_Same.f k a b = some (decide (a = b)) := by
 unfold imprimaturref06_Same.f
 by_cases h : a.length = b.length
 ·rw [if_pos (by omega)]
  have := same_dl a b ha hb h hal a.length (k - a.length - 1) 0 (by omega)
  rw [show k - a.length - 1 + a.length + 1 = k by omega] at this
  exact this
 rw [if_neg (by omega), decide_eq_false (fun e => h (by rw [e]))]
end Go.Proofs.YtdpdmmbdoeefbaaDoor.PCs
namespace Go.Proofs.YtdpdmmbdoeefbaaDoor.PCo
open Go.RowKit YtdpdmmbdoeefbaaDoorW.PrintWords YtdpdmmbdoeefbaaDoorW.PrintLast YtdpdmmbdoeefbaaDoorW.PrintMore X PCut PCs
theorem refhalf_l (n : Nat) (h : 2 ≤ n) (h' : n ≤ 1000000) : ∀ (d j k : Nat), j + d = Nat.log2 (n - 1) → imprimaturref06_Half.l0 (k + d + 1) n ((2 ^ j : Nat) : Int) = some (hf n : Int) := by
 intro d
 induction d with
 | zero =>
  intro j k hj
  have h5 := hf_lt h
  have h6 := hf_le h
  obtain rfl : j = Nat.log2 (n - 1) := by omega
  rw [show (2 ^ Nat.log2 (n - 1) : Nat) = hf n from rfl, imprimaturref06_Half.l0, w64 (x := (hf n : Int) * 2) (by omega) (by omega), if_neg (by omega)]
 | succ d ih =>
  intro j k hj
  have h7 : 2 ^ (j + 1) ≤ n - 1 := (Nat.le_log2 (by omega)).1 (by omega)
  have h8 : (((2 ^ j : Nat) : Int) * 2) = ((2 ^ (j + 1) : Nat) : Int) := by rw [Nat.pow_succ]; simp
  have h9 := ih (j + 1) k (by omega)
  rw [show k + (d + 1) + 1 = (k + d + 1) + 1 by omega, imprimaturref06_Half.l0, h8]
  generalize 2 ^ (j + 1) = P at *
  rw [w64 (x := (P : Int)) (by omega) (by omega), if_pos (by omega)]
  exact h9
theorem refhalf_eq (n : Nat) (h : 2 ≤ n) (h' : n ≤ 1000000) (k : Nat) (hk : 30 ≤ k) : imprimaturref06_Half.f k (n : Int) = some (hf n : Int) := by
 have hl : Nat.log2 (n - 1) < 20 := by
  rw [Nat.log2_lt (by omega)]
  have : (2:Nat) ^ 20 = 1048576 := by decide
  omega
 have := refhalf_l n h h' (Nat.log2 (n - 1)) 0 (k - Nat.log2 (n - 1) - 1) (by omega)
 rw [show k - Nat.log2 (n - 1) - 1 + Nat.log2 (n - 1) + 1 = k by omega] at this
 exact this
theorem refok_l (l : List (List Int)) (hl : l.length ≤ 100000) : ∀ (d k i : Nat), i + d = l.length → imprimaturref06_ok.l0 (k + d + 1) l i = some (if (l.drop i).all (fun x => decide (x.length = 32)) = true then 0 else 1) := by
 intro d
 induction d with
 | zero =>
  intro k i hi
  rw [imprimaturref06_ok.l0, if_neg (by omega), List.drop_of_length_le (by omega)]
  rfl
 | succ d ih =>
  intro k i hi
  rw [show k + (d + 1) + 1 = (k + d + 1) + 1 by omega, imprimaturref06_ok.l0, if_pos (by omega), if_pos (by omega), all_drop l _ [] i (by omega), show rd_L1 l (i : Int) = l.getD i [] by unfold rd_L1; rw [Int.toNat_natCast], w64 (by omega) (by omega), show (i : Int) + 1 = ((i + 1 : Nat) : Int) by omega, ih k (i + 1) (by omega)]
  by_cases h : (l.getD i []).length = 32
  ·rw [if_pos (by omega), decide_eq_true h, Bool.true_and]
  rw [if_neg (by omega), decide_eq_false h, Bool.false_and]
  rfl
theorem refok_eq (l : List (List Int)) (k : Nat) (hk : l.length < k) (hl : l.length ≤ 100000) : imprimaturref06_ok.f k l = some (lvE l) := by
 unfold imprimaturref06_ok.f lvE
 by_cases h : l.length > 4096
 ·rw [if_pos (by omega), if_pos h]
 rw [if_neg (by omega), if_neg h]
 have := refok_l l hl l.length (k - l.length - 1) 0 (by omega)
 rw [show k - l.length - 1 + l.length + 1 = k by omega] at this
 exact this
theorem refeight_raw (k : Nat) (n : Int) : imprimaturref06_Eight.f (k + 9) n = some [Int.tmod (tq (tq (tq (tq (tq (tq (tq (IntKind.u64.wrap n)))))))) 256 % 256, Int.tmod (tq (tq (tq (tq (tq (tq (IntKind.u64.wrap n))))))) 256 % 256, Int.tmod (tq (tq (tq (tq (tq (IntKind.u64.wrap n)))))) 256 % 256, Int.tmod (tq (tq (tq (tq (IntKind.u64.wrap n))))) 256 % 256, Int.tmod (tq (tq (tq (IntKind.u64.wrap n)))) 256 % 256, Int.tmod (tq (tq (IntKind.u64.wrap n))) 256 % 256, Int.tmod (tq (IntKind.u64.wrap n)) 256 % 256, Int.tmod (IntKind.u64.wrap n) 256 % 256] := by kernel_rfl
theorem refeight_eq (k : Nat) (n : Int) (hk : 9 ≤ k) : imprimaturref06_Eight.f k n = some (e8 n) := by
 obtain ⟨k, rfl⟩ : ∃ j, k = j + 9 := ⟨k - 9, by omega⟩
 rw [refeight_raw]
 obtain ⟨u, hu⟩ : ∃ u, u = IntKind.u64.wrap n := ⟨_, rfl⟩
 have hu2 : u = n % 18446744073709551616 := hu
 rw [← hu]
 unfold e8
 rw [← hu2]
 have h0 : 0 ≤ u := by omega
 have h1 : u < 18446744073709551616 := by omega
 clear hu hu2
 rw [tq_eq h0 h1, tq_eq (x := u / 256) (by omega) (by omega), tq_eq (x := u / 256 / 256) (by omega) (by omega), tq_eq (x := u / 256 / 256 / 256) (by omega) (by omega), tq_eq (x := u / 256 / 256 / 256 / 256) (by omega) (by omega), tq_eq (x := u / 256 / 256 / 256 / 256 / 256) (by omega) (by omega), tq_eq (x := u / 256 / 256 / 256 / 256 / 256 / 256) (by omega) (by omega)]
 rw [tm_eq h0, tm_eq (x := u / 256) (by omega), tm_eq (x := u / 256 / 256) (by omega), tm_eq (x := u / 256 / 256 / 256) (by omega), tm_eq (x := u / 256 / 256 / 256 / 256) (by omega), tm_eq (x := u / 256 / 256 / 256 / 256 / 256) (by omega), tm_eq (x := u / 256 / 256 / 256 / 256 / 256 / 256) (by omega), tm_eq (x := u / 256 / 256 / 256 / 256 / 256 / 256 / 256) (by omega)]
 have e1 : u / 256 / 256 = u / 65536 := by omega
 have e2 : u / 256 / 256 / 256 = u / 16777216 := by omega
 have e3 : u / 256 / 256 / 256 / 256 = u / 4294967296 := by omega
 have e4 : u / 256 / 256 / 256 / 256 / 256 = u / 1099511627776 := by omega
 have e5 : u / 256 / 256 / 256 / 256 / 256 / 256 = u / 281474976710656 := by omega
 have e6 : u / 256 / 256 / 256 / 256 / 256 / 256 / 256 = u / 72057594037927936 := by omega
 rw [e6, e5, e4, e3, e2, e1]
end Go.Proofs.YtdpdmmbdoeefbaaDoor.PCo
namespace Go.Proofs.YtdpdmmbdoeefbaaDoor.PCr
open Go.RowKit YtdpdmmbdoeefbaaDoorW.PrintWords YtdpdmmbdoeefbaaDoorW.PrintLast YtdpdmmbdoeefbaaDoorW.PrintMore X PCut PCs PCo
theorem inside_eq {a n f t : Nat} (h : a + n ≤ 1000000) : merkle_span_inside.f a n f t = some (decide (f ≤ a ∧ a + n ≤ t)) := by
 unfold merkle_span_inside.f
 rw [w64 (x := (a : Int) + (n : Int)) (by omega) (by omega)]
 by_cases h1 : (f : Int) ≤ (a : Int)
 ·rw [if_pos h1]
  by_cases h2 : a + n ≤ t
  ·rw [decide_eq_true (by omega), decide_eq_true (by omega)]
  rw [decide_eq_false (by omega), decide_eq_false (by omega)]
 rw [if_neg h1, decide_eq_false (by omega)]
theorem outer_eq (M : List (List Int)) (hv : Lv M) (hM : M.length ≤ 100000) (f t : Nat) (hf1 : f ≤ 100000) (ht1 : t ≤ 100000) : ∀ (n a k : Nat), 1 ≤ n → a + n ≤ M.length → 2 * n + 10 ≤ k → merkle_outer.f k M a n f t = some (outL a f t ((M.drop a).take n)) := by
 intro n
 induction n using Nat.strongRecOn with
 | _ n ih =>
  intro a k h1 ha hk
  obtain ⟨k, rfl⟩ : ∃ j, k = j + 1 := ⟨k - 1, by omega⟩
  have hl : ((M.drop a).take n).length = n := by rw [List.length_take, List.length_drop]; omega
  rw [merkle_outer.f, outside_eq (by omega), Option.bind_some]
  by_cases ho : a + n ≤ f ∨ t ≤ a
  ·have ht := topL_32 ((hv.drop a).take n) (by omega)
   rw [decide_eq_true ho, if_pos rfl, w64 (x := (a : Int) + (n : Int)) (by omega) (by omega), if_pos (by omega), if_pos (by omega), if_pos (by omega), show ((a : Int) + (n : Int)).toNat = a + n by omega, Int.toNat_natCast, List.drop_take, show a + n - a = n by omega, top_eq n _ k hl h1 (by omega) ((hv.drop a).take n) (by omega), Option.bind_some, if_pos (by rw [List.length_nil]; omega), List.nil_append, outL_out (by omega)]
  rw [decide_eq_false ho, if_neg (by decide), inside_eq (by omega), Option.bind_some]
  by_cases hi : f ≤ a ∧ a + n ≤ t
  ·rw [decide_eq_true hi, if_pos rfl, outL_in (by omega) (by omega)]
  have h2 : 2 ≤ n := by omega
  have h3 := hf_pos n
  have h4 := hf_lt h2
  have e1 : ((M.drop a).take n).take (hf n) = (M.drop a).take (hf n) := by rw [List.take_take, Nat.min_eq_left (by omega)]
  have e2 : ((M.drop a).take n).drop (hf n) = (M.drop (a + hf n)).take (n - hf n) := by rw [List.drop_take, List.drop_drop]
  have t1 : ((M.drop a).take (hf n)).length = hf n := by rw [List.length_take, List.length_drop]; omega
  have t2 : ((M.drop (a + hf n)).take (n - hf n)).length = n - hf n := by rw [List.length_take, List.length_drop]; omega
  have u := outL_len f t (hf n) a _ t1 h3
  have v := outL_len f t (n - hf n) (a + hf n) _ t2 (by omega)
  rw [decide_eq_false hi, if_neg (by decide), halves_eq h2 (by omega), Option.bind_some]
  simp only
  rw [ih (hf n) h4 a k h3 (by omega) (by omega), Option.bind_some, ih (n - hf n) (by omega) (a + hf n) k (by omega) (by omega) (by omega), Option.bind_some, if_pos (by omega), outL_node (l := (M.drop a).take n) (by omega) (by omega), hl, e1, e2]
theorem proverange_eq (l : List (List Int)) (f t : Int) (hb : ∀ x ∈ l, BytesB x) (hl : l.length ≤ 100000) (k : Nat) (hk : 300000 ≤ k) : merkle_ProveRange.f k l f t = some (proveC l f t) := by
 unfold merkle_ProveRange.f proveC
 rw [leaves_eq l k (by omega) hl, Option.bind_some]
 by_cases h0 : lvE l = 0
 rotate_left
 ·rw [if_neg h0, if_neg h0]
 rw [if_pos h0, if_pos h0]
 by_cases h1 : f < 0
 ·rw [if_pos h1, if_pos (.inl h1)]
 rw [if_neg h1]
 by_cases h2 : f ≥ t
 ·rw [if_pos h2, if_pos (.inr (.inl h2))]
 rw [if_neg h2]
 by_cases h3 : t > l.length
 ·rw [if_pos h3, if_pos (.inr (.inr h3))]
 rw [if_neg h3, if_neg (by omega)]
 obtain ⟨f, rfl⟩ : ∃ j : Nat, f = (j : Int) := ⟨f.toNat, by omega⟩
 obtain ⟨t, rfl⟩ : ∃ j : Nat, t = (j : Int) := ⟨t.toNat, by omega⟩
 have hv := ((lvE_zero hb).1 h0).2
 have h := outer_eq l hv hl f t (by omega) (by omega) l.length 0 k (by omega) (by omega) (by omega)
 rw [show ((0 : Nat) : Int) = 0 from rfl, List.drop_zero, List.take_length] at h
 rw [h, Option.bind_some, Int.toNat_natCast, Int.toNat_natCast]
end Go.Proofs.YtdpdmmbdoeefbaaDoor.PCr
namespace Go.Proofs.YtdpdmmbdoeefbaaDoor.PRa
open Go.RowKit YtdpdmmbdoeefbaaDoorW.PrintWords YtdpdmmbdoeefbaaDoorW.PrintLast YtdpdmmbdoeefbaaDoorW.PrintMore X PCut PCs PCo PCr
theorem join_eq (a b c : List Int) (ha : a.length ≤ 1000000) (hb : b.length ≤ 1000000) (hc : c.length ≤ 1000000) : imprimaturref06_join.f a b c = some (a ++ b ++ c) := by
 unfold imprimaturref06_join.f
 rw [if_pos (by rw [List.length_nil]; omega)]
 simp only [Option.bind_some, List.nil_append]
 rw [if_pos (by omega), if_pos (by rw [List.length_append]; omega)]
theorem node_eq (a b : List Int) (ha : a.length ≤ 1000000) (hb : b.length ≤ 1000000) : imprimaturref06_NodeText.f a b = some (1 :: (a ++ b)) := by
 unfold imprimaturref06_NodeText.f
 rw [join_eq [1] a b (by decide) ha hb]
 rfl
theorem roottext_eq (k : Nat) (hk : 9 ≤ k) (n : Int) (t : List Int) (ht : t.length ≤ 1000000) : imprimaturref06_RootText.f k n t = some (2 :: (e8 n ++ t)) := by
 unfold imprimaturref06_RootText.f
 rw [refeight_eq k n hk]
 simp only [Option.bind_some]
 rw [join_eq [2] (e8 n) t (by decide) (by rw [e8_length]; decide) ht]
 rfl
theorem leaftext_eq (k : Nat) (hk : 9 ≤ k) (n : Int) (t : List Int) (ht : t.length ≤ 1000000) : imprimaturref06_LeafText.f k n t = some (0 :: (e8 n ++ t)) := by
 unfold imprimaturref06_LeafText.f
 rw [refeight_eq k n hk]
 simp only [Option.bind_some]
 rw [join_eq [0] (e8 n) t (by decide) (by rw [e8_length]; decide) ht]
 rfl
theorem reftop_eq : ∀ (n : Nat) (l : List (List Int)) (k : Nat), l.length = n → n ≤ 100000 → Lv l → n + 40 ≤ k → imprimaturref06_Top.f k l = some (topL l, textsL l) := by
 intro n
 induction n using Nat.strongRecOn with
 | _ n ih =>
  intro l k hl h2 hv hk
  obtain ⟨k, rfl⟩ : ∃ j, k = j + 1 := ⟨k - 1, by omega⟩
  rw [imprimaturref06_Top.f]
  by_cases h0 : n = 0
  ·rw [if_pos (by omega), textsL_one (by omega), topL, dif_pos (by omega), List.length_eq_zero_iff.1 (hl.trans h0)]
   rfl
  by_cases h : n = 1
  ·rw [if_neg (by omega), if_pos (by omega), if_pos (by omega), topL_one (by omega), textsL_one (by omega)]
   rfl
  have h3 := hf_pos n
  have h4 := hf_lt (n := n) (by omega)
  have t1 : (l.take (hf n)).length = hf n := by rw [List.length_take]; omega
  have t2 : (l.drop (hf n)).length = n - hf n := by rw [List.length_drop]; omega
  have ha := topL_32 (hv.take (hf n)) (by omega)
  have hb := topL_32 (hv.drop (hf n)) (by omega)
  have a1 := textsL_ok (hf n) _ t1 (hv.take _)
  have a2 := textsL_ok (n - hf n) _ t2 (hv.drop _)
  rw [if_neg (by omega), if_neg (by omega), hl, refhalf_eq n (by omega) (by omega) k (by omega)]
  simp only [Option.bind_some, Int.toNat_natCast]
  rw [if_pos (by omega), if_pos (by omega), ih (hf n) (by omega) _ k t1 (by omega) (hv.take _) (by omega)]
  simp only [Option.bind_some]
  rw [ih (n - hf n) (by omega) _ k t2 (by omega) (hv.drop _) (by omega)]
  simp only [Option.bind_some]
  rw [node_eq _ _ (by omega) (by omega)]
  simp only [Option.bind_some]
  rw [if_pos (by rw [List.length_nil]; omega)]
  simp only [List.nil_append]
  rw [if_pos (by omega), if_pos (by rw [List.length_append]; omega), hash_eq (isBytes_cons (by decide) (isBytes_app ha.2 hb.2)) (by simp [ha.1, hb.1])]
  simp only [Option.bind_some]
  rw [topL_node (l := l) (by omega), textsL_node (l := l) (by omega), hl]
end Go.Proofs.YtdpdmmbdoeefbaaDoor.PRa
namespace Go.Proofs.YtdpdmmbdoeefbaaDoor.PRd
open Go.RowKit YtdpdmmbdoeefbaaDoorW.PrintWords YtdpdmmbdoeefbaaDoorW.PrintLast YtdpdmmbdoeefbaaDoorW.PrintMore X PCut PCs PCo PCr PRa
theorem clash_l0 (l : List (List Int)) (hl : l.length ≤ 100000) (hb : ∀ x ∈ l, BytesB x ∧ x.length ≤ 1000000) : ∀ (d k i : Nat), i + d = l.length → imprimaturref06_Clash.l0 (k + d + 1) l ((l.take i).map dig) i = imprimaturref06_Clash.l1 k l (l.map dig) 0 := by
 intro d
 induction d with
 | zero =>
  intro k i hi
  rw [imprimaturref06_Clash.l0, if_neg (by omega), List.take_of_length_le (by omega)]
 | succ d ih =>
  intro k i hi
  have hx := hb _ (getD_mem' (l := l) (i := i) (by omega))
  rw [show k + (d + 1) + 1 = (k + d + 1) + 1 by omega, imprimaturref06_Clash.l0, if_pos (by omega), if_pos (by omega), show rd_L1 l (i : Int) = l.getD i [] by unfold rd_L1; rw [Int.toNat_natCast], hash_eq hx.1 (by omega)]
  simp only [Option.bind_some]
  have e : (l.take i).map dig ++ [dig (l.getD i [])] = (l.take (i + 1)).map dig := by rw [take_next l [] i (by omega), List.map_append]; rfl
  rw [if_pos (by rw [List.length_map, List.length_take]; omega), e, w64 (by omega) (by omega), show (i : Int) + 1 = ((i + 1 : Nat) : Int) by omega, ih k (i + 1) (by omega)]
theorem clash_l2 (l : List (List Int)) (hl : l.length ≤ 10000) (hb : ∀ x ∈ l, BytesB x ∧ x.length ≤ 1000000) (k i : Nat) (hi : i < l.length) (hn : ∃ b, imprimaturref06_Clash.l1 k l (l.map dig) (i + 1 : Nat) = some b) : ∀ (d j : Nat), j + d = i →
  ∃ b, imprimaturref06_Clash.l2 (k + d + 1) l (l.map dig) i j = some b ∧ (b = false → imprimaturref06_Clash.l1 k l (l.map dig) (i + 1 : Nat) = some false ∧ ∀ q, j ≤ q → q < i → dig (l.getD i []) = dig (l.getD q []) → l.getD i [] = l.getD q []) := by
 have hg : ∀ q, q < l.length → rd_L1 (l.map dig) (q : Int) = dig (l.getD q []) := fun q hq => by
  unfold rd_L1
  rw [Int.toNat_natCast, List.getD_eq_getElem?_getD, List.getElem?_map, List.getElem?_eq_getElem hq, List.getD_eq_getElem?_getD, List.getElem?_eq_getElem hq]
  rfl
 have hr : ∀ q : Nat, rd_L1 l (q : Int) = l.getD q [] := fun q => by unfold rd_L1; rw [Int.toNat_natCast]
 have hml : (l.map dig).length = l.length := List.length_map ..
 intro d
 induction d with
 | zero =>
  intro j hj
  obtain ⟨b, hb1⟩ := hn
  refine ⟨b, ?_, fun e => ⟨by rw [hb1, e], fun q h1 h2 => by omega⟩⟩
  rw [imprimaturref06_Clash.l2, if_neg (by omega), w64 (by omega) (by omega), show (i : Int) + 1 = ((i + 1 : Nat) : Int) by omega]
  exact hb1
 | succ d ih =>
  intro j hj
  obtain ⟨b, hb1, hb2⟩ := ih (j + 1) (by omega)
  rw [show k + (d + 1) + 1 = (k + d + 1) + 1 by omega, imprimaturref06_Clash.l2, if_pos (by omega), if_pos (by omega), if_pos (by omega), if_pos (by omega), if_pos (by omega), hg i hi, hg j (by omega)]
  have hx := hb _ (getD_mem' (l := l) (i := i) hi)
  have hy := hb _ (getD_mem' (l := l) (i := j) (by omega))
  have e1 : wrap64 ((j : Int) + 1) = ((j + 1 : Nat) : Int) := by rw [w64 (by omega) (by omega)]; omega
  by_cases h : dig (l.getD i []) = dig (l.getD j [])
  ·rw [if_pos ((strs_eq (dig_bytes _) (dig_bytes _)).2 h), if_pos (by omega), if_pos (by omega), hr, hr]
   by_cases h2 : l.getD i [] = l.getD j []
   ·rw [if_pos ((strs_eq hx.1 hy.1).2 h2), e1]
    refine ⟨b, hb1, fun e => ⟨(hb2 e).1, fun q q1 q2 => ?_⟩⟩
    by_cases hq : q = j
    ·rw [hq]; exact fun _ => h2
    exact (hb2 e).2 q (by omega) q2
   rw [if_neg (fun e => h2 ((strs_eq hx.1 hy.1).1 e))]
   exact ⟨true, rfl, fun e => by cases e⟩
  rw [if_neg (fun e => h ((strs_eq (dig_bytes _) (dig_bytes _)).1 e)), e1]
  refine ⟨b, hb1, fun e => ⟨(hb2 e).1, fun q q1 q2 => ?_⟩⟩
  by_cases hq : q = j
  ·rw [hq]; exact fun h3 => absurd h3 h
  exact (hb2 e).2 q (by omega) q2
theorem clash_l1 (l : List (List Int)) (hl : l.length ≤ 10000) (hb : ∀ x ∈ l, BytesB x ∧ x.length ≤ 1000000) : ∀ (d k i : Nat), i + d = l.length → ∃ b, imprimaturref06_Clash.l1 (k + d * (l.length + 2) + 1) l (l.map dig) i = some b ∧ (b = false → ∀ p q, i ≤ p → p < l.length → q < p → dig (l.getD p []) = dig (l.getD q []) → l.getD p [] = l.getD q []) := by
 intro d
 induction d with
 | zero =>
  intro k i hi
  rw [imprimaturref06_Clash.l1, if_neg (by omega)]
  exact ⟨false, rfl, fun _ p q h1 h2 => by omega⟩
 | succ d ih =>
  intro k i hi
  obtain ⟨b, hb1, hb2⟩ := ih (k + (l.length - i)) (i + 1) (by omega)
  obtain ⟨c, hc1, hc2⟩ := clash_l2 l hl hb (k + (l.length - i) + d * (l.length + 2) + 1) i (by omega) ⟨b, hb1⟩ i 0 (by omega)
  refine ⟨c, ?_, fun e p q h1 h2 h3 => ?_⟩
  ·rw [Nat.add_mul, Nat.one_mul, imprimaturref06_Clash.l1, if_pos (by omega)]
   rw [show k + (d * (l.length + 2) + (l.length + 2)) = k + (l.length - i) + d * (l.length + 2) + 1 + i + 1 by omega]
   exact hc1
  have h4 := hc2 e
  by_cases hp : p = i
  ·rw [hp]; exact h4.2 q (by omega) (by omega)
  have : b = false := Option.some.inj (hb1.symm.trans h4.1)
  exact hb2 this p q (by omega) h2 h3
theorem clash_eq (l : List (List Int)) (hl : l.length ≤ 10000) (hb : ∀ x ∈ l, BytesB x ∧ x.length ≤ 1000000) (k : Nat) (hk : 200000000 ≤ k) : ∃ b, imprimaturref06_Clash.f k l = some b ∧ (b = false → Inj l) := by
 have hm : l.length * (l.length + 2) ≤ 10000 * 10002 := Nat.mul_le_mul hl (by omega)
 obtain ⟨b, h1, h2⟩ := clash_l1 l hl hb l.length (k - l.length - 1 - l.length * (l.length + 2) - 1) 0 (by omega)
 refine ⟨b, ?_, fun e => ?_⟩
 ·unfold imprimaturref06_Clash.f
  have h3 := clash_l0 l (by omega) hb l.length (k - l.length - 1) 0 (by omega)
  rw [show k - l.length - 1 + l.length + 1 = k by omega] at h3
  rw [show k - l.length - 1 - l.length * (l.length + 2) - 1 + l.length * (l.length + 2) + 1 = k - l.length - 1 by omega] at h1
  exact h3.trans h1
 have h3 := h2 e
 intro x hx y hy he
 obtain ⟨i, hi, rfl⟩ := List.getElem_of_mem hx
 obtain ⟨j, hj, rfl⟩ := List.getElem_of_mem hy
 have gi : l.getD i [] = l[i] := by rw [List.getD_eq_getElem?_getD, List.getElem?_eq_getElem hi]; rfl
 have gj : l.getD j [] = l[j] := by rw [List.getD_eq_getElem?_getD, List.getElem?_eq_getElem hj]; rfl
 rcases Nat.lt_trichotomy i j with h | h | h
 ·have := h3 j i (by omega) hj h; rw [gi, gj] at this; exact (this he.symm).symm
 ·subst h; rfl
 have := h3 i j (by omega) hi h; rw [gi, gj] at this; exact this he
theorem texts_eq (l : List (List Int)) (k : Nat) (hl : l.length ≤ 100000) (hv : Lv l) (hk : l.length + 50 ≤ k) : imprimaturref06_Texts.f k l = some (textsL l ++ [2 :: (e8 l.length ++ topL l)]) := by
 have h1 := topL_le hv
 have h2 := textsL_ok l.length l rfl hv
 unfold imprimaturref06_Texts.f
 rw [reftop_eq l.length l k rfl hl hv (by omega)]
 simp only [Option.bind_some]
 rw [roottext_eq k (by omega) _ _ (by omega)]
 simp only [Option.bind_some]
 rw [if_pos (by omega)]
theorem fixed_eq (k : Nat) (hk : 9 ≤ k) : imprimaturref06_Fixed.f k = some fixT := by
 unfold imprimaturref06_Fixed.f
 rw [leaftext_eq k hk 0 [5] (by decide)]
 simp only [Option.bind_some]
 rw [hash_eq (isBytes_cons (by decide) (isBytes_app (e8_bytes 0) (fun y hy => by simp at hy; omega))) (by decide)]
 simp only [Option.bind_some]
 rw [roottext_eq k hk 1 _ (by rw [dig_length]; decide)]
 rfl
end Go.Proofs.YtdpdmmbdoeefbaaDoor.PRd
namespace Go.Proofs.YtdpdmmbdoeefbaaDoor.PRe
open Go.RowKit YtdpdmmbdoeefbaaDoorW.PrintWords YtdpdmmbdoeefbaaDoorW.PrintLast YtdpdmmbdoeefbaaDoorW.PrintMore X PCut PCs PCo PCr PRa PRd
theorem refouter_eq (f t : Nat) (hf1 : f ≤ 100000) (ht1 : t ≤ 100000) : ∀ (n : Nat) (l : List (List Int)) (a k : Nat), l.length = n → 1 ≤ n → a + n ≤ 100000 → Lv l → 4 * n + 60 ≤ k → imprimaturref06_Outer.f k l a f t = some (outL a f t l) := by
 intro n
 induction n using Nat.strongRecOn with
 | _ n ih =>
  intro l a k hl h1 ha hv hk
  obtain ⟨k, rfl⟩ : ∃ j, k = j + 3 := ⟨k - 3, by omega⟩
  rw [imprimaturref06_Outer.f, w64 (x := (a : Int) + (l.length : Int)) (by omega) (by omega)]
  by_cases ho : a + l.length ≤ f ∨ t ≤ a
  ·have e : (if (a : Int) + (l.length : Int) ≤ (f : Int) then imprimaturref06_Outer.j0 (k + 2) l a f t true else imprimaturref06_Outer.j0 (k + 2) l a f t (decide ((a : Int) ≥ (t : Int)))) = imprimaturref06_Outer.j0 (k + 2) l a f t true := by
    by_cases h : (a : Int) + (l.length : Int) ≤ (f : Int)
    ·rw [if_pos h]
    rw [if_neg h, decide_eq_true (by omega)]
   rw [e, imprimaturref06_Outer.j0, if_pos rfl, reftop_eq n l (k + 1) hl (by omega) hv (by omega), Option.bind_some, outL_out ho]
  rw [if_neg (by omega), decide_eq_false (by omega), imprimaturref06_Outer.j0, if_neg (by decide), w64 (x := (a : Int) + (l.length : Int)) (by omega) (by omega)]
  by_cases hi : f ≤ a ∧ a + l.length ≤ t
  ·rw [if_pos (by omega), decide_eq_true (by omega), imprimaturref06_Outer.j1, if_pos rfl, outL_in (by omega) hi]
  have e : (if (f : Int) ≤ (a : Int) then imprimaturref06_Outer.j1 (k + 1) l a f t (decide ((a : Int) + (l.length : Int) ≤ (t : Int))) else imprimaturref06_Outer.j1 (k + 1) l a f t false) = imprimaturref06_Outer.j1 (k + 1) l a f t false := by
   by_cases h : (f : Int) ≤ (a : Int)
   ·rw [if_pos h, decide_eq_false (by omega)]
   rw [if_neg h]
  have h2 : 2 ≤ n := by omega
  have h3 := hf_pos n
  have h4 := hf_lt h2
  have t1 : (l.take (hf n)).length = hf n := by rw [List.length_take]; omega
  have t2 : (l.drop (hf n)).length = n - hf n := by rw [List.length_drop]; omega
  have u := outL_len f t (hf n) a _ t1 h3
  have v := outL_len f t (n - hf n) (a + hf n) _ t2 (by omega)
  rw [e, imprimaturref06_Outer.j1, if_neg (by decide), hl, refhalf_eq n h2 (by omega) k (by omega), Option.bind_some, if_pos (by omega), if_pos (by omega), Int.toNat_natCast, ih (hf n) h4 _ a k t1 h3 (by omega) (hv.take _) (by omega), Option.bind_some, w64 (x := (a : Int) + (hf n : Int)) (by omega) (by omega), show (a : Int) + (hf n : Int) = ((a + hf n : Nat) : Int) by omega, ih (n - hf n) (by omega) _ (a + hf n) k t2 (by omega) (by omega) (hv.drop _) (by omega), Option.bind_some, if_pos (by omega), outL_node (l := l) (by omega) ho, hl]
theorem refproverange_eq (l : List (List Int)) (f t : Int) (hb : ∀ x ∈ l, BytesB x) (hl : l.length ≤ 100000) (k : Nat) (hk : 500000 ≤ k) : imprimaturref06_ProveRange.f k l f t = some (proveC l f t) := by
 unfold imprimaturref06_ProveRange.f proveC
 rw [refok_eq l k (by omega) hl, Option.bind_some]
 by_cases h0 : lvE l = 0
 rotate_left
 ·rw [if_neg h0, if_neg h0]
 rw [if_pos h0, if_pos h0]
 by_cases h1 : f < 0
 ·rw [if_pos h1, if_pos (.inl h1)]
 rw [if_neg h1]
 by_cases h2 : t ≤ f
 ·rw [if_pos h2, if_pos (.inr (.inl h2))]
 rw [if_neg h2]
 by_cases h3 : t > l.length
 ·rw [if_pos h3, if_pos (.inr (.inr h3))]
 rw [if_neg h3, if_neg (by omega)]
 obtain ⟨f, rfl⟩ : ∃ j : Nat, f = (j : Int) := ⟨f.toNat, by omega⟩
 obtain ⟨t, rfl⟩ : ∃ j : Nat, t = (j : Int) := ⟨t.toNat, by omega⟩
 have hv := ((lvE_zero hb).1 h0).2
 have h := refouter_eq f t (by omega) (by omega) l.length l 0 k rfl (by omega) (by omega) hv (by omega)
 rw [show ((0 : Nat) : Int) = 0 from rfl] at h
 rw [h, Option.bind_some, Int.toNat_natCast, Int.toNat_natCast]
end Go.Proofs.YtdpdmmbdoeefbaaDoor.PRe
namespace Go.Proofs.YtdpdmmbdoeefbaaDoor.PCl
open Go.RowKit YtdpdmmbdoeefbaaDoorW.PrintWords YtdpdmmbdoeefbaaDoorW.PrintLast YtdpdmmbdoeefbaaDoorW.PrintMore X PCut PCs PCo PCr PRa PRd PRe
theorem refclimb_eq (f : Nat) (lv : List (List Int)) (hw : Lv lv) (hfl : f + lv.length ≤ 100000) : ∀ (n a : Nat) (pr : List (List Int)) (k : Nat), 1 ≤ n → a + n ≤ 100000 → Lv pr → pr.length ≤ 100000 → 3 * n + 40 ≤ k → imprimaturref06_Climb.f k a n f lv pr = some (climbT a n f lv pr) := by
 intro n
 induction n using Nat.strongRecOn with
 | _ n ih =>
  intro a pr k h1 ha hp hpl hk
  obtain ⟨k, rfl⟩ : ∃ j, k = j + 2 := ⟨k - 2, by omega⟩
  rw [imprimaturref06_Climb.f, w64 (x := (a : Int) + (n : Int)) (by omega) (by omega), w64 (x := (f : Int) + (lv.length : Int)) (by omega) (by omega)]
  by_cases ho : a + n ≤ f ∨ f + lv.length ≤ a
  ·have e : (if (a : Int) + (n : Int) ≤ (f : Int) then imprimaturref06_Climb.j0 (k + 1) a n f lv pr true else imprimaturref06_Climb.j0 (k + 1) a n f lv pr (decide ((a : Int) ≥ (f : Int) + (lv.length : Int)))) = imprimaturref06_Climb.j0 (k + 1) a n f lv pr true := by
    by_cases h : (a : Int) + (n : Int) ≤ (f : Int)
    ·rw [if_pos h]
    rw [if_neg h, decide_eq_true (by omega)]
   rw [e, imprimaturref06_Climb.j0, if_pos rfl]
   by_cases h0 : pr.length = 0
   ·rw [if_pos (by omega), climbT_none ho h0]
   rw [if_neg (by omega), if_pos (by omega), if_pos (by omega), climbT_out ho h0]
   rfl
  rw [if_neg (by omega), decide_eq_false (by omega), imprimaturref06_Climb.j0, if_neg (by decide)]
  by_cases h2 : n = 1
  ·rw [if_pos (by omega), w64 (by omega) (by omega), if_pos (by omega), if_pos (by omega), climbT_leaf ho (by omega), show (a : Int) - (f : Int) = ((a - f : Nat) : Int) by omega]
   unfold rd_L1
   rw [Int.toNat_natCast]
  have h3 := hf_pos n
  have h4 := hf_lt (n := n) (by omega)
  have u := climbT_ok (hf n) a f lv pr h3 hw hp
  have v := climbT_ok (n - hf n) (a + hf n) f lv (climbT a (hf n) f lv pr).2.1 (by omega) hw u.2.1.1
  have u1 := u.1.1
  have v1 := v.1.1
  have u2 := u.2.2.1.1
  have v2 := v.2.2.1.1
  have u3 := u.2.1.2
  rw [if_neg (by omega), refhalf_eq n (by omega) (by omega) k (by omega), Option.bind_some, ih (hf n) h4 a pr k h3 (by omega) hp hpl (by omega), Option.bind_some, w64 (x := (a : Int) + (hf n : Int)) (by omega) (by omega), w64 (x := (n : Int) - (hf n : Int)) (by omega) (by omega), show (a : Int) + (hf n : Int) = ((a + hf n : Nat) : Int) by omega, show (n : Int) - (hf n : Int) = ((n - hf n : Nat) : Int) by omega,
   ih (n - hf n) (by omega) (a + hf n) _ k (by omega) (by omega) u.2.1.1 (by omega) (by omega), Option.bind_some, node_eq _ _ (by omega) (by omega), Option.bind_some, hash_eq (isBytes_cons (by decide) (isBytes_app u.1.2 v.1.2)) (by simp only [List.length_cons, List.length_append]; omega), Option.bind_some, if_pos (by omega), Option.bind_some, if_pos (by rw [List.length_append]; omega), Option.bind_some, climbT_node ho (by omega)]
  cases hb : (climbT a (hf n) f lv pr).2.2.2
  ·rw [if_neg (by decide), Bool.false_and]
  rw [if_pos rfl, Bool.true_and]
end Go.Proofs.YtdpdmmbdoeefbaaDoor.PCl
namespace Go.Proofs.YtdpdmmbdoeefbaaDoor.PSp
open Go.RowKit YtdpdmmbdoeefbaaDoorW.PrintWords YtdpdmmbdoeefbaaDoorW.PrintLast YtdpdmmbdoeefbaaDoorW.PrintMore X PCut PCs PCo PCr PRa PRd PRe PCl
theorem spans_law (hkn : imprimaturlaw06_known.f = some true) (l : List (List Int)) (a b n f : Int) (lv pr : List (List Int)) (hb : ∀ x ∈ l, BytesB x) (hw : ∀ x ∈ lv, BytesB x) (hp : ∀ x ∈ pr, BytesB x) (hx : ∀ x ∈ l, x.length ≤ 140737488355328) (hx2 : ∀ x ∈ lv, x.length ≤ 140737488355328) (hx3 : ∀ x ∈ pr, x.length ≤ 140737488355328) (hl : l.length ≤ 5864062014805) (hl2 : lv.length ≤ 5864062014805) (hl3 : pr.length ≤ 5864062014805) : ∃ k, imprimaturlaw06_MerkleSpans.f k l a b n f lv pr = some true := by
 refine ⟨l.length + lv.length + pr.length + 300000000, ?_⟩
 obtain ⟨K, hK⟩ : ∃ K, K = l.length + lv.length + pr.length + 300000000 := ⟨_, rfl⟩
 rw [← hK]
 obtain ⟨k, rfl⟩ : ∃ k, K = k + 4 := ⟨K - 4, by omega⟩
 have hj : imprimaturlaw06_MerkleSpans.j0 (k + 4) l a b n f lv pr true = some true := by rw [imprimaturlaw06_MerkleSpans.j0, if_pos rfl, hkn, Option.bind_some]
 obtain ⟨r, hr1, hs⟩ := size_eq l 500 (by omega) hx hl (k + 4) (by omega)
 obtain ⟨r2, hr2, hs2⟩ := size_eq lv 500 (by omega) hx2 hl2 (k + 4) (by omega)
 obtain ⟨r3, hr3, hs3⟩ := size_eq pr 500 (by omega) hx3 hl3 (k + 4) (by omega)
 unfold imprimaturlaw06_MerkleSpans.f
 rw [show (500 : Int) = ((500 : Nat) : Int) from rfl, hr1, hr2, hr3]
 simp only [Option.bind_some]
 by_cases h1 : r > ((500 : Nat) : Int)
 ·rw [if_pos h1, hj]
 rw [if_neg h1]
 by_cases h2 : r2 > ((500 : Nat) : Int)
 ·rw [if_pos h2, hj]
 rw [if_neg h2]
 by_cases h3 : r3 > ((500 : Nat) : Int)
 ·rw [if_pos h3, hj]
 rw [if_neg h3]
 have q1 := (hs (by omega)).1
 have q2 := (hs2 (by omega)).1
 have q3 := (hs3 (by omega)).1
 by_cases h0 : l.length = 0
 ·rw [show ((l.length : Int) == 0) = true from beq_iff_eq.2 (by omega), hj]
 rw [show ((l.length : Int) == 0) = false from beq_eq_false_iff_ne.2 (by omega), imprimaturlaw06_MerkleSpans.j0, if_neg (by decide), root_eq (k + 3) l (by omega) (by omega) hb]
 simp only [Option.bind_some]
 by_cases h4 : lvE l = 0
 case neg => rw [if_neg h4, if_neg h4, hkn, Option.bind_some]
 have hv := ((lvE_zero hb).1 h4).2
 have hn4 := ((lvE_zero hb).1 h4).1
 have hroot : rootL l = dig (2 :: (e8 l.length ++ topL l)) := rootL_eq l
 have hrootb : BytesB (rootL l) := by rw [hroot]; exact dig_bytes _
 have hroot32 : (rootL l).length = 32 := by rw [hroot]; exact dig_length _
 have ha := am_eq a l.length (by omega) (by omega)
 rw [if_pos h4, if_pos rfl, show imprimaturref01_Among.f a (l.length : Int) = _ from ha.1]
 simp only [Option.bind_some]
 obtain ⟨A, hA⟩ := Int.eq_ofNat_of_zero_le ha.2.1
 rw [hA] at ha ⊢
 have hb2 := am_eq b (l.length - A) (by omega) (by omega)
 rw [w64 (x := (l.length : Int) - (A : Int)) (by omega) (by omega), show (l.length : Int) - (A : Int) = ((l.length - A : Nat) : Int) by omega, show imprimaturref01_Among.f b ((l.length - A : Nat) : Int) = _ from hb2.1]
 simp only [Option.bind_some]
 obtain ⟨B, hB⟩ := Int.eq_ofNat_of_zero_le hb2.2.1
 rw [hB] at hb2 ⊢
 rw [w64 (x := (A : Int) + 1) (by omega) (by omega), w64 (x := (A : Int) + 1 + (B : Int)) (by omega) (by omega), show (A : Int) + 1 + (B : Int) = ((A + 1 + B : Nat) : Int) by omega]
 have hC : A + 1 + B ≤ l.length := by omega
 obtain ⟨C, hCe⟩ : ∃ C, C = A + 1 + B := ⟨_, rfl⟩
 rw [← hCe] at hC ⊢
 have hpc : proveC l (A : Int) (C : Int) = (outL 0 A C l, 0) := by
  unfold proveC
  rw [if_pos h4, if_neg (by omega), Int.toNat_natCast, Int.toNat_natCast]
 have hsl : ((l.drop A).take (C - A)).length = C - A := by rw [List.length_take, List.length_drop]; omega
 have hsv : Lv ((l.drop A).take (C - A)) := (hv.drop A).take (C - A)
 have hov := outL_lv A C l.length 0 l rfl (by omega) hv
 have hol := outL_len A C l.length 0 l rfl (by omega)
 have hown := range_own l A ((l.drop A).take (C - A)) (by omega) (rg_slice' (by omega))
 rw [hsl, show A + (C - A) = C by omega, ← hroot] at hown
 have hchk := rangeC_one (by omega) hn4 (by omega) (by omega) hroot32 hsv hov hown
 rw [proverange_eq l A C hb (by omega) (k + 3) (by omega), hpc]
 simp only [Option.bind_some]
 rw [if_pos trivial, if_pos (by omega), if_pos (by omega), if_pos (by omega), Int.toNat_natCast, Int.toNat_natCast, List.drop_take, checkrange_eq (rootL l) l.length A _ _ hrootb (fun x hx => (hsv x hx).2) (fun x hx => (hov x hx).2) (by omega) (by omega), hchk]
 simp only [Option.bind_some]
 rw [show ((0 : Int) != 0) = false from rfl, imprimaturlaw06_MerkleSpans.j1, if_neg (by decide), checkrange_eq (rootL l) n f lv pr hrootb hw hp (by omega) (by omega)]
 simp only [Option.bind_some]
 by_cases h5 : rangeC (rootL l) n f lv pr = 0
 case neg => rw [if_neg h5, hkn, Option.bind_some]
 rw [if_pos h5]
 obtain ⟨N, F, rfl, rfl, g1, g2, g3, g4, g5, g6, g7⟩ := rangeC_zero h5
 have hlv := rgAll_lv g5 hw
 have hpr := rgAll_lv g6 hp
 have u := climbT_ok N 0 F lv pr g1 hlv hpr
 have tx := textsL_ok l.length l rfl hv
 have tl := topL_le hv
 obtain ⟨all, hall⟩ : ∃ all, all = ((climbT 0 N F lv pr).2.2.1 ++ [2 :: (e8 N ++ (climbT 0 N F lv pr).1)]) ++ (textsL l ++ [2 :: (e8 l.length ++ topL l)]) ++ fixT := ⟨_, rfl⟩
 have hallb : ∀ x ∈ all, BytesB x ∧ x.length ≤ 1000000 := by
  intro x hx
  rw [hall] at hx
  simp only [List.mem_append, List.mem_singleton] at hx
  rcases hx with ((hx | rfl) | (hx | rfl)) | hx
  ·have := u.2.2.1.2 x hx; exact ⟨this.1, by omega⟩
  ·exact ⟨isBytes_cons (by decide) (isBytes_app (e8_bytes _) u.1.2), by simp only [List.length_cons, List.length_append, e8_length]; omega⟩
  ·have := tx.2 x hx; exact ⟨this.1, by omega⟩
  ·exact ⟨isBytes_cons (by decide) (isBytes_app (e8_bytes _) tl.2), by simp only [List.length_cons, List.length_append, e8_length]; omega⟩
  simp only [fixT, List.mem_cons, List.not_mem_nil, or_false] at hx
  rcases hx with rfl | rfl
  ·exact ⟨isBytes_cons (by decide) (isBytes_app (e8_bytes 0) (fun y hy => by simp at hy; omega)), by decide⟩
  exact ⟨isBytes_cons (by decide) (isBytes_app (e8_bytes 1) (dig_bytes _)), by simp only [List.length_cons, List.length_append, e8_length, dig_length]; omega⟩
 have hall_len : all.length ≤ 10000 := by
  rw [hall]
  have h1 := tx.1
  have h2 := u.2.2.1.1
  simp only [List.length_append, fixT, List.length_cons, List.length_nil]
  omega
 have hend : ∀ q, (¬ Inj all) → k ≤ q → q ≤ k + 1 → imprimaturlaw06_MerkleSpans.j3 (q + 1) l N F lv pr = some true := by
  intro q hbI hq1 hq2
  have h1 := tx.1
  have h2 := u.2.2.1.1
  have h3 := u.1.1
  have hc := refclimb_eq F lv hlv (by omega) N 0 pr q g1 (by omega) hpr (by omega) (by omega)
  rw [show ((0 : Nat) : Int) = 0 from rfl] at hc
  rw [imprimaturlaw06_MerkleSpans.j3, hc]
  simp only [Option.bind_some]
  rw [roottext_eq q (by omega) N _ (by omega)]
  simp only [Option.bind_some]
  rw [if_pos (by omega), texts_eq l q (by omega) hv (by omega)]
  simp only [Option.bind_some]
  rw [if_pos (by simp only [List.length_append, List.length_cons, List.length_nil]; omega), fixed_eq q (by omega)]
  simp only [Option.bind_some]
  rw [if_pos (by simp only [List.length_append, fixT, List.length_cons, List.length_nil]; omega), hkn]
  simp only [Option.bind_some]
  obtain ⟨c, hc1, hc2⟩ := clash_eq all hall_len hallb q (by omega)
  rw [hall] at hc1
  rw [if_pos trivial, hc1, Option.bind_some]
  cases c with
  | true => rfl
  | false => exact absurd (hc2 rfl) hbI
 have hright : Inj all → N = l.length ∧ lv = (l.drop F).take lv.length ∧ pr = outL 0 F (F + lv.length) l := by
  intro hI
  rw [hroot] at g7
  exact range_only l N F lv pr (by omega) hn4 g2 hv hlv hpr g3 g4 g7 (hI.sub fun x hx => by
   rw [hall]
   exact List.mem_append.2 (.inl hx))
 by_cases h9 : N = l.length
 case neg =>
  rw [if_neg (by omega), imprimaturlaw06_MerkleSpans.j2, if_neg (by decide)]
  exact hend k (fun hI => h9 (hright hI).1) (Nat.le_refl _) (by omega)
 rw [if_pos (by omega), if_pos (by omega), w64 (x := (F : Int) + (lv.length : Int)) (by omega) (by omega), show (F : Int) + (lv.length : Int) = ((F + lv.length : Nat) : Int) by omega, if_pos (by omega), if_pos (by omega), Int.toNat_natCast, Int.toNat_natCast, List.drop_take, show F + lv.length - F = lv.length by omega, same_dec lv ((l.drop F).take lv.length) hw (fun x hx => (((hv.drop F).take lv.length) x hx).2) (by omega) (k + 2) (by omega)]
 simp only [Option.bind_some]
 by_cases h10 : lv = (l.drop F).take lv.length
 case neg =>
  rw [decide_eq_false h10, imprimaturlaw06_MerkleSpans.j2, if_neg (by decide)]
  exact hend k (fun hI => h10 (hright hI).2.1) (Nat.le_refl _) (by omega)
 have hpc2 : proveC l (F : Int) ((F + lv.length : Nat) : Int) = (outL 0 F (F + lv.length) l, 0) := by
  unfold proveC
  rw [if_pos h4, if_neg (by omega), Int.toNat_natCast, Int.toNat_natCast]
 have hov2 := outL_lv F (F + lv.length) l.length 0 l rfl (by omega) hv
 have hol2 := outL_len F (F + lv.length) l.length 0 l rfl (by omega)
 rw [decide_eq_true h10, imprimaturlaw06_MerkleSpans.j2, if_pos rfl, w64 (x := (F : Int) + (lv.length : Int)) (by omega) (by omega), show (F : Int) + (lv.length : Int) = ((F + lv.length : Nat) : Int) by omega, refproverange_eq l F ((F + lv.length : Nat) : Int) hb (by omega) (k + 1) (by omega), hpc2]
 simp only [Option.bind_some]
 rw [same_dec (outL 0 F (F + lv.length) l) pr (fun x hx => (hov2 x hx).2) hp (by omega) (k + 1) (by omega)]
 simp only [Option.bind_some]
 by_cases h11 : outL 0 F (F + lv.length) l = pr
 ·rw [decide_eq_true h11, if_pos rfl, hkn, Option.bind_some]
 rw [decide_eq_false h11, if_neg (by decide)]
 exact hend k (fun hI => h11 (hright hI).2.2.symm) (Nat.le_refl _) (by omega)
theorem MerkleSpans_walk (A0 : Option Addr) (c0 : Nat) (l0 : List (List Int)) (a1 : Int) (a2 : Int) (a3 : Int) (a4 : Int) (A5 : Option Addr) (c5 : Nat) (l5 : List (List Int)) (A6 : Option Addr) (c6 : Nat) (l6 : List (List Int)) (w : World) (HG : Glb w) (w0 : Kd.C (Kd.slice 5 (Kd.int .u8)) w A0 l0.length l0) (hc0 : l0.length ≤ c0) (o0 : l0.length * 24 ≤ 140737488351232) (g0 : ∀ l ∈ l0, (∀ x ∈ l, (Lit.int .u8 x).wf = true) ∧ l.length * 1 ≤ 140737488351232) (w1 : (Lit.int .i64 a1).wf = true) (w2 : (Lit.int .i64 a2).wf = true) (w3 : (Lit.int .i64 a3).wf = true) (w4 : (Lit.int .i64 a4).wf = true) (w5 : Kd.C (Kd.slice 5 (Kd.int .u8)) w A5 l5.length l5) (hc5 : l5.length ≤ c5) (o5 : l5.length * 24 ≤ 140737488351232) (g5 : ∀ l ∈ l5, (∀ x ∈ l, (Lit.int .u8 x).wf = true) ∧ l.length * 1 ≤ 140737488351232) (w6 : Kd.C (Kd.slice 5 (Kd.int .u8)) w A6 l6.length l6) (hc6 : l6.length ≤ c6) (o6 : l6.length * 24 ≤ 140737488351232) (g6 : ∀ l ∈ l6, (∀ x ∈ l, (Lit.int .u8 x).wf = true) ∧ l.length * 1 ≤ 140737488351232) :
 Calls Tryd.prog 13 #[.slice A0 l0.length c0, .int .i64 a1, .int .i64 a2, .int .i64 a3, .int .i64 a4, .slice A5 l5.length c5, .slice A6 l6.length c6] w fun e w' => e = .returned (.bool true) ∧ Below w.heap.size w w' := by
 obtain ⟨k, h⟩ := spans_law rfl l0 a1 a2 a3 a4 l5 l6 (row_bytes g0) (row_bytes g5) (row_bytes g6) (row_len g0) (row_len g5) (row_len g6) (by omega) (by omega) (by omega)
 exact imprimaturlaw06_MerkleSpans.calls k _ _ l0 a1 a2 a3 a4 _ _ l5 _ _ l6 true w HG w0 hc0 w5 hc5 w6 hc6 h
end Go.Proofs.YtdpdmmbdoeefbaaDoor.PSp
