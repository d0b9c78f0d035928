/- Plain lemmas for one law. -/
import Derived.Test.YtdpdmmbdoeefbaaDoorPClx1
import Derived.Test.YtdpdmmbdoeefbaaDoorPCox1
import Derived.Test.YtdpdmmbdoeefbaaDoorPCrx1
import Derived.Test.YtdpdmmbdoeefbaaDoorPCrx2
import Derived.Test.YtdpdmmbdoeefbaaDoorPCsx1
import Derived.Test.YtdpdmmbdoeefbaaDoorPCutx1
import Derived.Test.YtdpdmmbdoeefbaaDoorPCutx2
import Derived.Test.YtdpdmmbdoeefbaaDoorPRax1
import Derived.Test.YtdpdmmbdoeefbaaDoorPRex1
import Derived.Test.YtdpdmmbdoeefbaaDoorPRgx1
import Derived.Test.YtdpdmmbdoeefbaaDoorMr
import Derived.Test.YtdpdmmbdoeefbaaDoorK
import Derived.Test.YtdpdmmbdoeefbaaDoorWT
import Derived.Test.YtdpdmmbdoeefbaaDoorCx
set_option linter.unusedVariables false
namespace Go.Proofs.YtdpdmmbdoeefbaaDoor.PCut
open Go.RowKit Go.Proofs.YtdpdmmbdoeefbaaDoorW.PrintWords Go.Proofs.YtdpdmmbdoeefbaaDoorW.PrintLast Go.Proofs.YtdpdmmbdoeefbaaDoorW.PrintMore Go.Proofs.YtdpdmmbdoeefbaaDoor.X
theorem hf_le {n : Nat} (h : 2 ≤ n) : n ≤ 2 * hf n := by
 have := Nat.lt_log2_self (n := n - 1)
 unfold hf
 rw [Nat.pow_succ] at this
 omega
/-- The top of leaves. -/
def topL (l : List (List Int)) : List Int :=
 if _h : l.length ≤ 1 then l.getD 0 [] else dig (1 :: (topL (l.take (hf l.length)) ++ topL (l.drop (hf l.length))))
termination_by l.length
decreasing_by
 ·simp only [List.length_take]; have := hf_lt (n := l.length) (by omega); omega
 ·simp only [List.length_drop]; have := hf_pos l.length; omega
theorem topL_one {l : List (List Int)} (h : l.length = 1) : topL l = l.getD 0 [] := by rw [topL, dif_pos (by omega)]
theorem topL_node {l : List (List Int)} (h : 2 ≤ l.length) : topL l = dig (1 :: (topL (l.take (hf l.length)) ++ topL (l.drop (hf l.length)))) := by rw [topL, dif_neg (by omega)]
theorem topL_32 {l : List (List Int)} (h : Lv l) (hn : 1 ≤ l.length) : (topL l).length = 32 ∧ ∀ y ∈ topL l, 0 ≤ y ∧ y < 256 := by
 by_cases h1 : l.length = 1
 ·rw [topL_one h1, List.getD_eq_getElem?_getD, List.getElem?_eq_getElem (by omega)]
  exact h _ (List.getElem_mem _)
 ·rw [topL_node (by omega)]
  exact ⟨dig_length _, dig_bytes _⟩
theorem digest2 {m : Int} {a b : List Int} (hm : 0 ≤ m ∧ m < 256) (ha : ∀ y ∈ a, 0 ≤ y ∧ y < 256) (hb : ∀ y ∈ b, 0 ≤ y ∧ y < 256) (hl : a.length + b.length ≤ 100000) : merkle_digest.f m [a, b] = some (dig (m :: (a ++ b))) := by
 have e : ([a, b] : List (List Int)).flatten = a ++ b := by simp
 rw [digest_some (by rw [e]; exact isBytes_of (isBytes_cons hm (isBytes_app ha hb))) (by rw [e]; simp; omega), e]
theorem top_eq : ∀ (n : Nat) (l : List (List Int)) (k : Nat), l.length = n → 1 ≤ n → n ≤ 100000 → Lv l → n ≤ k → merkle_top.f k l = some (topL l) := by
 intro n
 induction n using Nat.strongRecOn with
 | _ n ih =>
  intro l k hl h1 h2 hv hk
  obtain ⟨k, rfl⟩ : ∃ j, k = j + 1 := ⟨k - 1, by omega⟩
  rw [merkle_top.f]
  by_cases h : n = 1
  ·rw [if_pos (by omega), if_pos (by omega), topL_one (by omega)]
   rfl
  ·have h3 := hf_pos n
   have h4 := hf_lt (n := n) (by omega)
   have t1 : (l.take (hf n)).length = hf n := by rw [List.length_take]; omega
   have t2 : (l.drop (hf n)).length = n - hf n := by rw [List.length_drop]; omega
   rw [if_neg (by omega), hl, half_eq n (by omega) (by omega)]
   simp only [Option.bind_some, Int.toNat_natCast]
   rw [if_pos (by omega), if_pos (by omega), ih (hf n) (by omega) _ k t1 h3 (by omega) (hv.take _) (by omega)]
   simp only [Option.bind_some]
   rw [ih (n - hf n) (by omega) _ k t2 (by omega) (by omega) (hv.drop _) (by omega)]
   simp only [Option.bind_some]
   have ha := topL_32 (hv.take (hf n)) (by omega)
   have hb := topL_32 (hv.drop (hf n)) (by omega)
   rw [digest2 (by decide) ha.2 hb.2 (by omega), topL_node (l := l) (by omega), hl]
   rfl
/-- The error of leaves. -/
def lvE (l : List (List Int)) : Int := if l.length > 4096 then 2 else if l.all (fun x => decide (x.length = 32)) = true then 0 else 1
theorem leaves_l (l : List (List Int)) (hl : l.length ≤ 100000) : ∀ (d k i : Nat), i + d = l.length → merkle_leaves.l0 (k + d + 1) l l.length i = some (if (l.drop i).all (fun x => decide (x.length = 32)) = true then 0 else 1) := by
 intro d
 induction d with
 | zero =>
  intro k i hi
  rw [merkle_leaves.l0, if_neg (by omega), List.drop_of_length_le (by omega)]
  rfl
 | succ d ih =>
  intro k i hi
  rw [show k + (d + 1) + 1 = (k + d + 1) + 1 by omega, merkle_leaves.l0, if_pos (by omega), if_pos (by omega), if_pos (by omega), all_drop l _ [] i (by omega), show rd_L1 l (i : Int) = l.getD i [] by unfold rd_L1; rw [Int.toNat_natCast], w64 (by omega) (by omega), show (i : Int) + 1 = ((i + 1 : Nat) : Int) by omega, ih k (i + 1) (by omega)]
  by_cases h : (l.getD i []).length = 32
  ·rw [if_pos (by omega), decide_eq_true h, Bool.true_and]
  ·rw [if_neg (by omega), decide_eq_false h, Bool.false_and]
   rfl
theorem leaves_eq (l : List (List Int)) (k : Nat) (hk : l.length < k) (hl : l.length ≤ 100000) : merkle_leaves.f k l = some (lvE l) := by
 unfold merkle_leaves.f lvE
 by_cases h : l.length > 4096
 ·rw [if_pos (by omega), if_pos h]
 ·rw [if_neg (by omega), if_neg h]
  have := leaves_l l hl l.length (k - l.length - 1) 0 (by omega)
  rw [show k - l.length - 1 + l.length + 1 = k by omega] at this
  exact this
theorem lvE_zero {l : List (List Int)} (hb : ∀ x ∈ l, ∀ y ∈ x, 0 ≤ y ∧ y < 256) : lvE l = 0 ↔ l.length ≤ 4096 ∧ Lv l := by
 unfold lvE
 constructor
 ·intro h
  split at h
  ·cases h
  ·split at h
   ·rename_i h1 h2
    refine ⟨by omega, fun x hx => ⟨?_, hb x hx⟩⟩
    have := List.all_eq_true.1 h2 x hx
    simpa using this
   ·cases h
 ·rintro ⟨h1, h2⟩
  rw [if_neg (by omega), if_pos (List.all_eq_true.2 fun x hx => decide_eq_true (h2 x hx).1)]
def tq (x : Int) : Int := IntKind.u64.wrap (Int.tdiv x 256)
theorem tq_eq {x : Int} (h : 0 ≤ x) (h' : x < 18446744073709551616) : tq x = x / 256 := by
 unfold tq
 rw [Int.tdiv_eq_ediv_of_nonneg h]
 show x / 256 % 18446744073709551616 = _
 omega
theorem tm_eq {x : Int} (h : 0 ≤ x) : Int.tmod x 256 % 256 = x % 256 := by rw [Int.tmod_eq_emod_of_nonneg h]; omega
theorem sum_ge (l : List (List Int)) : l.length ≤ (l.map (fun x => x.length + 1)).sum := by
 induction l with
 | nil => simp
 | cons x l ih => simp only [List.map_cons, List.sum_cons, List.length_cons]; omega
theorem byte_of {x : Int} (h : (Lit.int .u8 x).wf = true) : 0 ≤ x ∧ x < 256 := by
 simp [Lit.wf, IntKind.min, IntKind.max, IntKind.bits, IntKind.signed] at h
 omega
theorem row_bytes {l : List (List Int)} (g : ∀ x ∈ l, (∀ y ∈ x, (Lit.int .u8 y).wf = true) ∧ x.length * 1 ≤ 140737488351232) : ∀ x ∈ l, ∀ y ∈ x, 0 ≤ y ∧ y < 256 := fun x hx y hy => byte_of ((g x hx).1 y hy)
theorem row_len {l : List (List Int)} (g : ∀ x ∈ l, (∀ y ∈ x, (Lit.int .u8 y).wf = true) ∧ x.length * 1 ≤ 140737488351232) : ∀ x ∈ l, x.length ≤ 140737488355328 := fun x hx => by have := (g x hx).2; omega
theorem hash_eq {t : List Int} (hb : BytesB t) (hl : t.length ≤ 1048576) : imprimaturref02_Hash256.f t = some (dig t) := by
 unfold imprimaturref02_Hash256.f
 rw [if_pos ⟨isBytes_of hb, hl⟩]
/-- All texts that are digested for the top of leaves. -/
def textsL (l : List (List Int)) : List (List Int) :=
 if _h : l.length ≤ 1 then [] else textsL (l.take (hf l.length)) ++ textsL (l.drop (hf l.length)) ++ [1 :: (topL (l.take (hf l.length)) ++ topL (l.drop (hf l.length)))]
termination_by l.length
decreasing_by
 ·simp only [List.length_take]; have := hf_lt (n := l.length) (by omega); omega
 ·simp only [List.length_drop]; have := hf_pos l.length; omega
theorem textsL_one {l : List (List Int)} (h : l.length ≤ 1) : textsL l = [] := by rw [textsL, dif_pos h]
theorem textsL_node {l : List (List Int)} (h : 2 ≤ l.length) : textsL l = textsL (l.take (hf l.length)) ++ textsL (l.drop (hf l.length)) ++ [1 :: (topL (l.take (hf l.length)) ++ topL (l.drop (hf l.length)))] := by rw [textsL, dif_neg (by omega)]
theorem textsL_ok : ∀ (n : Nat) (l : List (List Int)), l.length = n → Lv l → (textsL l).length ≤ n - 1 ∧ ∀ t ∈ textsL l, BytesB t ∧ t.length = 65 := by
 intro n
 induction n using Nat.strongRecOn with
 | _ n ih =>
  intro l hl hv
  by_cases h : n ≤ 1
  ·rw [textsL_one (by omega)]; exact ⟨by simp, fun t ht => by cases ht⟩
  ·have h3 := hf_pos n
   have h4 := hf_lt (n := n) (by omega)
   have t1 : (l.take (hf n)).length = hf n := by rw [List.length_take]; omega
   have t2 : (l.drop (hf n)).length = n - hf n := by rw [List.length_drop]; omega
   have h5 := topL_32 (hv.take (hf n)) (by omega)
   have h6 := topL_32 (hv.drop (hf n)) (by omega)
   have a1 := ih (hf n) h4 _ t1 (hv.take _)
   have a2 := ih (n - hf n) (by omega) _ t2 (hv.drop _)
   rw [textsL_node (by omega), hl]
   refine ⟨?_, fun t ht => ?_⟩
   ·simp only [List.length_append, List.length_singleton]; omega
   ·rw [List.mem_append, List.mem_append, List.mem_singleton] at ht
    rcases ht with (ht | ht) | rfl
    ·exact a1.2 t ht
    ·exact a2.2 t ht
    ·exact ⟨isBytes_cons (by decide) (isBytes_app h5.2 h6.2), by simp [h5.1, h6.1]⟩
/-- The tops of the parts in which none of some places is. -/
def outL (a f t : Nat) (l : List (List Int)) : List (List Int) :=
 if a + l.length ≤ f ∨ t ≤ a then [topL l] else if f ≤ a ∧ a + l.length ≤ t then [] else if _h : l.length ≤ 1 then []
 else outL a f t (l.take (hf l.length)) ++ outL (a + hf l.length) f t (l.drop (hf l.length))
termination_by l.length
decreasing_by
 ·simp only [List.length_take]; have := hf_lt (n := l.length) (by omega); omega
 ·simp only [List.length_drop]; have := hf_pos l.length; omega
theorem outL_out {a f t : Nat} {l : List (List Int)} (h : a + l.length ≤ f ∨ t ≤ a) : outL a f t l = [topL l] := by rw [outL, if_pos h]
theorem outL_in {a f t : Nat} {l : List (List Int)} (h1 : 1 ≤ l.length) (h : f ≤ a ∧ a + l.length ≤ t) : outL a f t l = [] := by rw [outL, if_neg (by omega), if_pos h]
theorem outL_node {a f t : Nat} {l : List (List Int)} (h2 : 2 ≤ l.length) (h : ¬ (a + l.length ≤ f ∨ t ≤ a)) : outL a f t l = outL a f t (l.take (hf l.length)) ++ outL (a + hf l.length) f t (l.drop (hf l.length)) := by
 have h3 := hf_pos l.length
 have h4 := hf_lt (n := l.length) h2
 by_cases hi : f ≤ a ∧ a + l.length ≤ t
 ·have t1 : (l.take (hf l.length)).length = hf l.length := by rw [List.length_take]; omega
  have t2 : (l.drop (hf l.length)).length = l.length - hf l.length := by rw [List.length_drop]
  rw [outL_in (by omega) hi, outL_in (l := l.take (hf l.length)) (by omega) (by omega), outL_in (l := l.drop (hf l.length)) (by omega) (by omega), List.append_nil]
 ·rw [outL, if_neg h, if_neg hi, dif_neg (by omega)]
theorem outL_len (f t : Nat) : ∀ (n a : Nat) (l : List (List Int)), l.length = n → 1 ≤ n → (outL a f t l).length ≤ n := by
 intro n
 induction n using Nat.strongRecOn with
 | _ n ih =>
  intro a l hl h1
  by_cases ho : a + l.length ≤ f ∨ t ≤ a
  ·rw [outL_out ho]; exact h1
  ·by_cases h2 : n ≤ 1
   ·rw [outL, if_neg ho]
    by_cases hi : f ≤ a ∧ a + l.length ≤ t
    ·rw [if_pos hi]; exact Nat.zero_le _
    ·rw [if_neg hi, dif_pos (by omega)]; exact Nat.zero_le _
   ·have h3 := hf_pos n
    have h4 := hf_lt (n := n) (by omega)
    have t1 : (l.take (hf n)).length = hf n := by rw [List.length_take]; omega
    have t2 : (l.drop (hf n)).length = n - hf n := by rw [List.length_drop]; omega
    have u := ih (hf n) h4 a _ t1 h3
    have v := ih (n - hf n) (by omega) (a + hf n) _ t2 (by omega)
    rw [outL_node (by omega) ho, hl, List.length_append]
    omega
/-- What a range is answered with when its proof is asked for. -/
def proveC (l : List (List Int)) (f t : Int) : List (List Int) × Int := if lvE l = 0 then (if f < 0 ∨ t ≤ f ∨ t > l.length then ([], 1) else (outL 0 f.toNat t.toNat l, 0)) else ([], lvE l)
theorem bytes_flat {l : List (List Int)} (h : ∀ x ∈ l, BytesB x) : isBytes l.flatten = true := List.all_eq_true.2 fun y hy => by
 obtain ⟨x, hx, hy⟩ := List.mem_flatten.1 hy
 exact decide_eq_true (h x hx y hy)
theorem checkrange_eq (root : List Int) (n f : Int) (lv pr : List (List Int)) (hr : BytesB root) (hw : ∀ x ∈ lv, BytesB x) (hp : ∀ x ∈ pr, BytesB x) (h1 : lv.length ≤ 20000) (h2 : pr.length ≤ 20000) : merkle_CheckRange.f root n f lv pr = some (rangeC root n f lv pr) := by
 unfold merkle_CheckRange.f
 rw [if_pos ⟨isBytes_of hr, bytes_flat hw, bytes_flat hp, h1, h2⟩]
theorem proveC_len (l : List (List Int)) (a b : Int) : (proveC l a b).1.length ≤ l.length := by
 unfold proveC
 split
 ·split
  ·exact Nat.zero_le _
  ·exact outL_len a.toNat b.toNat l.length 0 l rfl (by omega)
 ·exact Nat.zero_le _
end Go.Proofs.YtdpdmmbdoeefbaaDoor.PCut
namespace Go.Proofs.YtdpdmmbdoeefbaaDoor.PCs
open Go.RowKit Go.Proofs.YtdpdmmbdoeefbaaDoorW.PrintWords Go.Proofs.YtdpdmmbdoeefbaaDoorW.PrintLast Go.Proofs.YtdpdmmbdoeefbaaDoorW.PrintMore Go.Proofs.YtdpdmmbdoeefbaaDoor.X Go.Proofs.YtdpdmmbdoeefbaaDoor.PCut
/-- How many bytes texts have, as far as most. -/
theorem size_l (l : List (List Int)) (m : Nat) (hm : m ≤ 10000) (hb : ∀ x ∈ l, x.length ≤ 140737488355328) : ∀ (d k i : Nat) (n : Int), i + d = l.length → 0 ≤ n → n ≤ m + 140737488355329 → i ≤ n →
  ∃ r, imprimaturref06_Size.l0 (k + d + 1) l m n i = some r ∧ (r ≤ m → n + (((l.drop i).map (fun x => x.length + 1)).sum : Nat) ≤ m ∧ r = n + (((l.drop i).map (fun x => x.length + 1)).sum : Nat)) := by
 intro d
 induction d with
 | zero =>
  intro k i n hi h0 h1 h2
  rw [imprimaturref06_Size.l0, if_neg (by omega)]
  exact ⟨n, rfl, fun h => by rw [List.drop_of_length_le (by omega)]; simpa using h⟩
 | succ d ih =>
  intro k i n hi h0 h1 h2
  rw [show k + (d + 1) + 1 = (k + d + 1) + 1 by omega, imprimaturref06_Size.l0, if_pos (by omega)]
  by_cases h : n ≤ m
  ·have hx := hb (l.getD i []) (by rw [List.getD_eq_getElem?_getD, List.getElem?_eq_getElem (by omega)]; exact List.getElem_mem _)
   rw [if_pos h, if_pos (by omega), show rd_L1 l (i : Int) = l.getD i [] by unfold rd_L1; rw [Int.toNat_natCast], w64 (x := n + 1) (by omega) (by omega), w64 (x := n + 1 + ((l.getD i []).length : Int)) (by omega) (by omega), w64 (x := (i : Int) + 1) (by omega) (by omega), show (i : Int) + 1 = ((i + 1 : Nat) : Int) by omega]
   obtain ⟨r, hr, hs⟩ := ih k (i + 1) (n + 1 + ((l.getD i []).length : Int)) (by omega) (by omega) (by omega) (by omega)
   refine ⟨r, hr, fun hrm => ?_⟩
   have := hs hrm
   rw [List.drop_eq_getElem_cons (show i < l.length by omega), List.map_cons, List.sum_cons]
   have e : l[i] = l.getD i [] := by rw [List.getD_eq_getElem?_getD, List.getElem?_eq_getElem (by omega)]; rfl
   rw [e]
   omega
  ·rw [if_neg h]
   exact ⟨n, rfl, fun h' => absurd h' h⟩
theorem size_eq (l : List (List Int)) (m : Nat) (hm : m ≤ 10000) (hb : ∀ x ∈ l, x.length ≤ 140737488355328) (hl : l.length ≤ 5864062014805) (k : Nat) (hk : l.length < k) :
  ∃ r, imprimaturref06_Size.f k l m = some r ∧ (r ≤ m → l.length ≤ m ∧ (l.map (fun x => x.length + 1)).sum ≤ m) := by
 unfold imprimaturref06_Size.f
 obtain ⟨r, hr, hs⟩ := size_l l m hm hb l.length (k - l.length - 1) 0 0 (by omega) (by omega) (by omega) (by omega)
 rw [show k - l.length - 1 + l.length + 1 = k by omega] at hr
 refine ⟨r, hr, fun h => ?_⟩
 have := hs h
 have h2 := sum_ge l
 rw [List.drop_zero] at this
 omega
theorem same_l (x : List (List Int)) : ∀ (d k i : Nat), i + d = x.length → x.length ≤ 100000 → imprimaturref06_Same.l0 (k + d + 1) x x i = some true := by
 intro d
 induction d with
 | zero =>
  intro k i h h2
  rw [imprimaturref06_Same.l0, if_neg (by omega)]
 | succ d ih =>
  intro k i h h2
  rw [show k + (d + 1) + 1 = (k + d + 1) + 1 by omega, imprimaturref06_Same.l0, if_pos (by omega), if_pos (by omega), if_pos (by omega), if_pos rfl, w64 (by omega) (by omega), show (i : Int) + 1 = ((i + 1 : Nat) : Int) by omega]
  exact ih k (i + 1) (by omega) h2
theorem same_self (k : Nat) (x : List (List Int)) (h : x.length ≤ 100000) (hk : x.length < k) : imprimaturref06_Same.f k x x = some true := by
 unfold imprimaturref06_Same.f
 rw [if_pos rfl]
 have := same_l x x.length (k - x.length - 1) 0 (by omega) h
 rwa [show k - x.length - 1 + x.length + 1 = k by omega] at this
end Go.Proofs.YtdpdmmbdoeefbaaDoor.PCs
namespace Go.Proofs.YtdpdmmbdoeefbaaDoor.PCo
open Go.RowKit Go.Proofs.YtdpdmmbdoeefbaaDoorW.PrintWords Go.Proofs.YtdpdmmbdoeefbaaDoorW.PrintLast Go.Proofs.YtdpdmmbdoeefbaaDoorW.PrintMore Go.Proofs.YtdpdmmbdoeefbaaDoor.X Go.Proofs.YtdpdmmbdoeefbaaDoor.PCut Go.Proofs.YtdpdmmbdoeefbaaDoor.PCs
theorem refhalf_l (n : Nat) (h : 2 ≤ n) (h' : n ≤ 1000000) : ∀ (d j k : Nat), j + d = Nat.log2 (n - 1) → imprimaturref06_Half.l0 (k + d + 1) n ((2 ^ j : Nat) : Int) = some (hf n : Int) := by
 intro d
 induction d with
 | zero =>
  intro j k hj
  have h5 := hf_lt h
  have h6 := hf_le h
  obtain rfl : j = Nat.log2 (n - 1) := by omega
  rw [show (2 ^ Nat.log2 (n - 1) : Nat) = hf n from rfl, imprimaturref06_Half.l0, w64 (x := (hf n : Int) * 2) (by omega) (by omega), if_neg (by omega)]
 | succ d ih =>
  intro j k hj
  have h7 : 2 ^ (j + 1) ≤ n - 1 := (Nat.le_log2 (by omega)).1 (by omega)
  have h8 : (((2 ^ j : Nat) : Int) * 2) = ((2 ^ (j + 1) : Nat) : Int) := by rw [Nat.pow_succ]; simp
  have h9 := ih (j + 1) k (by omega)
  rw [show k + (d + 1) + 1 = (k + d + 1) + 1 by omega, imprimaturref06_Half.l0, h8]
  generalize 2 ^ (j + 1) = P at *
  rw [w64 (x := (P : Int)) (by omega) (by omega), if_pos (by omega)]
  exact h9
theorem refhalf_eq (n : Nat) (h : 2 ≤ n) (h' : n ≤ 1000000) (k : Nat) (hk : 30 ≤ k) : imprimaturref06_Half.f k (n : Int) = some (hf n : Int) := by
 have hl : Nat.log2 (n - 1) < 20 := by
  rw [Nat.log2_lt (by omega)]
  have : (2:Nat) ^ 20 = 1048576 := by decide
  omega
 have := refhalf_l n h h' (Nat.log2 (n - 1)) 0 (k - Nat.log2 (n - 1) - 1) (by omega)
 rw [show k - Nat.log2 (n - 1) - 1 + Nat.log2 (n - 1) + 1 = k by omega] at this
 exact this
theorem refok_l (l : List (List Int)) (hl : l.length ≤ 100000) : ∀ (d k i : Nat), i + d = l.length → imprimaturref06_ok.l0 (k + d + 1) l i = some (if (l.drop i).all (fun x => decide (x.length = 32)) = true then 0 else 1) := by
 intro d
 induction d with
 | zero =>
  intro k i hi
  rw [imprimaturref06_ok.l0, if_neg (by omega), List.drop_of_length_le (by omega)]
  rfl
 | succ d ih =>
  intro k i hi
  rw [show k + (d + 1) + 1 = (k + d + 1) + 1 by omega, imprimaturref06_ok.l0, if_pos (by omega), if_pos (by omega), all_drop l _ [] i (by omega), show rd_L1 l (i : Int) = l.getD i [] by unfold rd_L1; rw [Int.toNat_natCast], w64 (by omega) (by omega), show (i : Int) + 1 = ((i + 1 : Nat) : Int) by omega, ih k (i + 1) (by omega)]
  by_cases h : (l.getD i []).length = 32
  ·rw [if_pos (by omega), decide_eq_true h, Bool.true_and]
  ·rw [if_neg (by omega), decide_eq_false h, Bool.false_and]
   rfl
theorem refok_eq (l : List (List Int)) (k : Nat) (hk : l.length < k) (hl : l.length ≤ 100000) : imprimaturref06_ok.f k l = some (lvE l) := by
 unfold imprimaturref06_ok.f lvE
 by_cases h : l.length > 4096
 ·rw [if_pos (by omega), if_pos h]
 ·rw [if_neg (by omega), if_neg h]
  have := refok_l l hl l.length (k - l.length - 1) 0 (by omega)
  rw [show k - l.length - 1 + l.length + 1 = k by omega] at this
  exact this
theorem refeight_raw (k : Nat) (n : Int) : imprimaturref06_Eight.f (k + 9) n = some [Int.tmod (tq (tq (tq (tq (tq (tq (tq (IntKind.u64.wrap n)))))))) 256 % 256, Int.tmod (tq (tq (tq (tq (tq (tq (IntKind.u64.wrap n))))))) 256 % 256, Int.tmod (tq (tq (tq (tq (tq (IntKind.u64.wrap n)))))) 256 % 256, Int.tmod (tq (tq (tq (tq (IntKind.u64.wrap n))))) 256 % 256, Int.tmod (tq (tq (tq (IntKind.u64.wrap n)))) 256 % 256, Int.tmod (tq (tq (IntKind.u64.wrap n))) 256 % 256, Int.tmod (tq (IntKind.u64.wrap n)) 256 % 256, Int.tmod (IntKind.u64.wrap n) 256 % 256] := by kernel_rfl
theorem refeight_eq (k : Nat) (n : Int) (hk : 9 ≤ k) : imprimaturref06_Eight.f k n = some (e8 n) := by
 obtain ⟨k, rfl⟩ : ∃ j, k = j + 9 := ⟨k - 9, by omega⟩
 rw [refeight_raw]
 obtain ⟨u, hu⟩ : ∃ u, u = IntKind.u64.wrap n := ⟨_, rfl⟩
 have hu2 : u = n % 18446744073709551616 := hu
 rw [← hu]
 unfold e8
 rw [← hu2]
 have h0 : 0 ≤ u := by omega
 have h1 : u < 18446744073709551616 := by omega
 clear hu hu2
 rw [tq_eq h0 h1, tq_eq (x := u / 256) (by omega) (by omega), tq_eq (x := u / 256 / 256) (by omega) (by omega), tq_eq (x := u / 256 / 256 / 256) (by omega) (by omega), tq_eq (x := u / 256 / 256 / 256 / 256) (by omega) (by omega), tq_eq (x := u / 256 / 256 / 256 / 256 / 256) (by omega) (by omega), tq_eq (x := u / 256 / 256 / 256 / 256 / 256 / 256) (by omega) (by omega)]
 rw [tm_eq h0, tm_eq (x := u / 256) (by omega), tm_eq (x := u / 256 / 256) (by omega), tm_eq (x := u / 256 / 256 / 256) (by omega), tm_eq (x := u / 256 / 256 / 256 / 256) (by omega), tm_eq (x := u / 256 / 256 / 256 / 256 / 256) (by omega), tm_eq (x := u / 256 / 256 / 256 / 256 / 256 / 256) (by omega), tm_eq (x := u / 256 / 256 / 256 / 256 / 256 / 256 / 256) (by omega)]
 have e1 : u / 256 / 256 = u / 65536 := by omega
 have e2 : u / 256 / 256 / 256 = u / 16777216 := by omega
 have e3 : u / 256 / 256 / 256 / 256 = u / 4294967296 := by omega
 have e4 : u / 256 / 256 / 256 / 256 / 256 = u / 1099511627776 := by omega
 have e5 : u / 256 / 256 / 256 / 256 / 256 / 256 = u / 281474976710656 := by omega
 have e6 : u / 256 / 256 / 256 / 256 / 256 / 256 / 256 = u / 72057594037927936 := by omega
 rw [e6, e5, e4, e3, e2, e1]
end Go.Proofs.YtdpdmmbdoeefbaaDoor.PCo
namespace Go.Proofs.YtdpdmmbdoeefbaaDoor.PCr
open Go.RowKit Go.Proofs.YtdpdmmbdoeefbaaDoorW.PrintWords Go.Proofs.YtdpdmmbdoeefbaaDoorW.PrintLast Go.Proofs.YtdpdmmbdoeefbaaDoorW.PrintMore Go.Proofs.YtdpdmmbdoeefbaaDoor.X Go.Proofs.YtdpdmmbdoeefbaaDoor.PCut Go.Proofs.YtdpdmmbdoeefbaaDoor.PCs Go.Proofs.YtdpdmmbdoeefbaaDoor.PCo
theorem inside_eq {a n f t : Nat} (h : a + n ≤ 1000000) : merkle_span_inside.f a n f t = some (decide (f ≤ a ∧ a + n ≤ t)) := by
 unfold merkle_span_inside.f
 rw [w64 (x := (a : Int) + (n : Int)) (by omega) (by omega)]
 by_cases h1 : (f : Int) ≤ (a : Int)
 ·rw [if_pos h1]
  by_cases h2 : a + n ≤ t
  ·rw [decide_eq_true (by omega), decide_eq_true (by omega)]
  ·rw [decide_eq_false (by omega), decide_eq_false (by omega)]
 ·rw [if_neg h1, decide_eq_false (by omega)]
theorem outer_eq (M : List (List Int)) (hv : Lv M) (hM : M.length ≤ 100000) (f t : Nat) (hf1 : f ≤ 100000) (ht1 : t ≤ 100000) : ∀ (n a k : Nat), 1 ≤ n → a + n ≤ M.length → 2 * n + 10 ≤ k → merkle_outer.f k M a n f t = some (outL a f t ((M.drop a).take n)) := by
 intro n
 induction n using Nat.strongRecOn with
 | _ n ih =>
  intro a k h1 ha hk
  obtain ⟨k, rfl⟩ : ∃ j, k = j + 1 := ⟨k - 1, by omega⟩
  have hl : ((M.drop a).take n).length = n := by rw [List.length_take, List.length_drop]; omega
  rw [merkle_outer.f, outside_eq (by omega), Option.bind_some]
  by_cases ho : a + n ≤ f ∨ t ≤ a
  ·have ht := topL_32 ((hv.drop a).take n) (by omega)
   rw [decide_eq_true ho, if_pos rfl, w64 (x := (a : Int) + (n : Int)) (by omega) (by omega), if_pos (by omega), if_pos (by omega), if_pos (by omega), show ((a : Int) + (n : Int)).toNat = a + n by omega, Int.toNat_natCast, List.drop_take, show a + n - a = n by omega, top_eq n _ k hl h1 (by omega) ((hv.drop a).take n) (by omega), Option.bind_some, if_pos (by rw [List.length_nil]; omega), List.nil_append, outL_out (by omega)]
  ·rw [decide_eq_false ho, if_neg (by decide), inside_eq (by omega), Option.bind_some]
   by_cases hi : f ≤ a ∧ a + n ≤ t
   ·rw [decide_eq_true hi, if_pos rfl, outL_in (by omega) (by omega)]
   ·have h2 : 2 ≤ n := by omega
    have h3 := hf_pos n
    have h4 := hf_lt h2
    have e1 : ((M.drop a).take n).take (hf n) = (M.drop a).take (hf n) := by rw [List.take_take, Nat.min_eq_left (by omega)]
    have e2 : ((M.drop a).take n).drop (hf n) = (M.drop (a + hf n)).take (n - hf n) := by rw [List.drop_take, List.drop_drop]
    have t1 : ((M.drop a).take (hf n)).length = hf n := by rw [List.length_take, List.length_drop]; omega
    have t2 : ((M.drop (a + hf n)).take (n - hf n)).length = n - hf n := by rw [List.length_take, List.length_drop]; omega
    have u := outL_len f t (hf n) a _ t1 h3
    have v := outL_len f t (n - hf n) (a + hf n) _ t2 (by omega)
    rw [decide_eq_false hi, if_neg (by decide), halves_eq h2 (by omega), Option.bind_some]
    simp only
    rw [ih (hf n) h4 a k h3 (by omega) (by omega), Option.bind_some, ih (n - hf n) (by omega) (a + hf n) k (by omega) (by omega) (by omega), Option.bind_some, if_pos (by omega), outL_node (l := (M.drop a).take n) (by omega) (by omega), hl, e1, e2]
theorem refsized_l (l : List (List Int)) (hl : l.length ≤ 100000) : ∀ (d k i : Nat), i + d = l.length → imprimaturref06_sized.l0 (k + d + 1) l i = some ((l.drop i).all (fun x => decide (x.length = 32))) := by
 intro d
 induction d with
 | zero =>
  intro k i hi
  rw [imprimaturref06_sized.l0, if_neg (by omega), List.drop_of_length_le (by omega)]
  rfl
 | succ d ih =>
  intro k i hi
  rw [show k + (d + 1) + 1 = (k + d + 1) + 1 by omega, imprimaturref06_sized.l0, if_pos (by omega), if_pos (by omega), all_drop l _ [] i (by omega), show rd_L1 l (i : Int) = l.getD i [] by unfold rd_L1; rw [Int.toNat_natCast], w64 (by omega) (by omega), show (i : Int) + 1 = ((i + 1 : Nat) : Int) by omega, ih k (i + 1) (by omega)]
  by_cases h : (l.getD i []).length = 32
  ·rw [if_pos (by omega), decide_eq_true h, Bool.true_and]
  ·rw [if_neg (by omega), decide_eq_false h, Bool.false_and]
theorem refsized_eq (l : List (List Int)) (k : Nat) (hk : l.length < k) (hl : l.length ≤ 100000) : imprimaturref06_sized.f k l = some (rgAll l) := by
 unfold imprimaturref06_sized.f
 have := refsized_l l hl l.length (k - l.length - 1) 0 (by omega)
 rw [show k - l.length - 1 + l.length + 1 = k by omega] at this
 exact this
theorem proverange_eq (l : List (List Int)) (f t : Int) (hb : ∀ x ∈ l, BytesB x) (hl : l.length ≤ 100000) (k : Nat) (hk : 300000 ≤ k) : merkle_ProveRange.f k l f t = some (proveC l f t) := by
 unfold merkle_ProveRange.f proveC
 rw [leaves_eq l k (by omega) hl, Option.bind_some]
 by_cases h0 : lvE l = 0
 ·rw [if_pos h0, if_pos h0]
  by_cases h1 : f < 0
  ·rw [if_pos h1, if_pos (.inl h1)]
  rw [if_neg h1]
  by_cases h2 : f ≥ t
  ·rw [if_pos h2, if_pos (.inr (.inl h2))]
  rw [if_neg h2]
  by_cases h3 : t > l.length
  ·rw [if_pos h3, if_pos (.inr (.inr h3))]
  rw [if_neg h3, if_neg (by omega)]
  obtain ⟨f, rfl⟩ : ∃ j : Nat, f = (j : Int) := ⟨f.toNat, by omega⟩
  obtain ⟨t, rfl⟩ : ∃ j : Nat, t = (j : Int) := ⟨t.toNat, by omega⟩
  have hv := ((lvE_zero hb).1 h0).2
  have h := outer_eq l hv hl f t (by omega) (by omega) l.length 0 k (by omega) (by omega) (by omega)
  rw [show ((0 : Nat) : Int) = 0 from rfl, List.drop_zero, List.take_length] at h
  rw [h, Option.bind_some, Int.toNat_natCast, Int.toNat_natCast]
 ·rw [if_neg h0, if_neg h0]
end Go.Proofs.YtdpdmmbdoeefbaaDoor.PCr
namespace Go.Proofs.YtdpdmmbdoeefbaaDoor.PRa
open Go.RowKit Go.Proofs.YtdpdmmbdoeefbaaDoorW.PrintWords Go.Proofs.YtdpdmmbdoeefbaaDoorW.PrintLast Go.Proofs.YtdpdmmbdoeefbaaDoorW.PrintMore Go.Proofs.YtdpdmmbdoeefbaaDoor.X Go.Proofs.YtdpdmmbdoeefbaaDoor.PCut Go.Proofs.YtdpdmmbdoeefbaaDoor.PCs Go.Proofs.YtdpdmmbdoeefbaaDoor.PCo Go.Proofs.YtdpdmmbdoeefbaaDoor.PCr
theorem join_eq (a b c : List Int) (ha : a.length ≤ 1000000) (hb : b.length ≤ 1000000) (hc : c.length ≤ 1000000) : imprimaturref06_join.f a b c = some (a ++ b ++ c) := by
 unfold imprimaturref06_join.f
 rw [if_pos (by rw [List.length_nil]; omega)]
 simp only [Option.bind_some, List.nil_append]
 rw [if_pos (by omega), if_pos (by rw [List.length_append]; omega)]
theorem node_eq (a b : List Int) (ha : a.length ≤ 1000000) (hb : b.length ≤ 1000000) : imprimaturref06_NodeText.f a b = some (1 :: (a ++ b)) := by
 unfold imprimaturref06_NodeText.f
 rw [join_eq [1] a b (by decide) ha hb]
 rfl
theorem roottext_eq (k : Nat) (hk : 9 ≤ k) (n : Int) (t : List Int) (ht : t.length ≤ 1000000) : imprimaturref06_RootText.f k n t = some (2 :: (e8 n ++ t)) := by
 unfold imprimaturref06_RootText.f
 rw [refeight_eq k n hk]
 simp only [Option.bind_some]
 rw [join_eq [2] (e8 n) t (by decide) (by rw [e8_length]; decide) ht]
 rfl
theorem reftop_eq : ∀ (n : Nat) (l : List (List Int)) (k : Nat), l.length = n → n ≤ 100000 → Lv l → n + 40 ≤ k → imprimaturref06_Top.f k l = some (topL l, textsL l) := by
 intro n
 induction n using Nat.strongRecOn with
 | _ n ih =>
  intro l k hl h2 hv hk
  obtain ⟨k, rfl⟩ : ∃ j, k = j + 1 := ⟨k - 1, by omega⟩
  rw [imprimaturref06_Top.f]
  by_cases h0 : n = 0
  ·rw [if_pos (by omega), textsL_one (by omega), topL, dif_pos (by omega), List.length_eq_zero_iff.1 (hl.trans h0)]
   rfl
  by_cases h : n = 1
  ·rw [if_neg (by omega), if_pos (by omega), if_pos (by omega), topL_one (by omega), textsL_one (by omega)]
   rfl
  ·have h3 := hf_pos n
   have h4 := hf_lt (n := n) (by omega)
   have t1 : (l.take (hf n)).length = hf n := by rw [List.length_take]; omega
   have t2 : (l.drop (hf n)).length = n - hf n := by rw [List.length_drop]; omega
   have ha := topL_32 (hv.take (hf n)) (by omega)
   have hb := topL_32 (hv.drop (hf n)) (by omega)
   have a1 := textsL_ok (hf n) _ t1 (hv.take _)
   have a2 := textsL_ok (n - hf n) _ t2 (hv.drop _)
   rw [if_neg (by omega), if_neg (by omega), hl, refhalf_eq n (by omega) (by omega) k (by omega)]
   simp only [Option.bind_some, Int.toNat_natCast]
   rw [if_pos (by omega), if_pos (by omega), ih (hf n) (by omega) _ k t1 (by omega) (hv.take _) (by omega)]
   simp only [Option.bind_some]
   rw [ih (n - hf n) (by omega) _ k t2 (by omega) (hv.drop _) (by omega)]
   simp only [Option.bind_some]
   rw [node_eq _ _ (by omega) (by omega)]
   simp only [Option.bind_some]
   rw [if_pos (by rw [List.length_nil]; omega)]
   simp only [List.nil_append]
   rw [if_pos (by omega), if_pos (by rw [List.length_append]; omega), hash_eq (isBytes_cons (by decide) (isBytes_app ha.2 hb.2)) (by simp [ha.1, hb.1])]
   simp only [Option.bind_some]
   rw [topL_node (l := l) (by omega), textsL_node (l := l) (by omega), hl]
end Go.Proofs.YtdpdmmbdoeefbaaDoor.PRa
namespace Go.Proofs.YtdpdmmbdoeefbaaDoor.PRe
open Go.RowKit Go.Proofs.YtdpdmmbdoeefbaaDoorW.PrintWords Go.Proofs.YtdpdmmbdoeefbaaDoorW.PrintLast Go.Proofs.YtdpdmmbdoeefbaaDoorW.PrintMore Go.Proofs.YtdpdmmbdoeefbaaDoor.X Go.Proofs.YtdpdmmbdoeefbaaDoor.PCut Go.Proofs.YtdpdmmbdoeefbaaDoor.PCs Go.Proofs.YtdpdmmbdoeefbaaDoor.PCo Go.Proofs.YtdpdmmbdoeefbaaDoor.PCr Go.Proofs.YtdpdmmbdoeefbaaDoor.PRa
theorem refouter_eq (f t : Nat) (hf1 : f ≤ 100000) (ht1 : t ≤ 100000) : ∀ (n : Nat) (l : List (List Int)) (a k : Nat), l.length = n → 1 ≤ n → a + n ≤ 100000 → Lv l → 4 * n + 60 ≤ k → imprimaturref06_Outer.f k l a f t = some (outL a f t l) := by
 intro n
 induction n using Nat.strongRecOn with
 | _ n ih =>
  intro l a k hl h1 ha hv hk
  obtain ⟨k, rfl⟩ : ∃ j, k = j + 3 := ⟨k - 3, by omega⟩
  rw [imprimaturref06_Outer.f, w64 (x := (a : Int) + (l.length : Int)) (by omega) (by omega)]
  by_cases ho : a + l.length ≤ f ∨ t ≤ a
  ·have e : (if (a : Int) + (l.length : Int) ≤ (f : Int) then imprimaturref06_Outer.j0 (k + 2) l a f t true else imprimaturref06_Outer.j0 (k + 2) l a f t (decide ((a : Int) ≥ (t : Int)))) = imprimaturref06_Outer.j0 (k + 2) l a f t true := by
    by_cases h : (a : Int) + (l.length : Int) ≤ (f : Int)
    ·rw [if_pos h]
    ·rw [if_neg h, decide_eq_true (by omega)]
   rw [e, imprimaturref06_Outer.j0, if_pos rfl, reftop_eq n l (k + 1) hl (by omega) hv (by omega), Option.bind_some, outL_out ho]
  ·rw [if_neg (by omega), decide_eq_false (by omega), imprimaturref06_Outer.j0, if_neg (by decide), w64 (x := (a : Int) + (l.length : Int)) (by omega) (by omega)]
   by_cases hi : f ≤ a ∧ a + l.length ≤ t
   ·rw [if_pos (by omega), decide_eq_true (by omega), imprimaturref06_Outer.j1, if_pos rfl, outL_in (by omega) hi]
   ·have e : (if (f : Int) ≤ (a : Int) then imprimaturref06_Outer.j1 (k + 1) l a f t (decide ((a : Int) + (l.length : Int) ≤ (t : Int))) else imprimaturref06_Outer.j1 (k + 1) l a f t false) = imprimaturref06_Outer.j1 (k + 1) l a f t false := by
     by_cases h : (f : Int) ≤ (a : Int)
     ·rw [if_pos h, decide_eq_false (by omega)]
     ·rw [if_neg h]
    have h2 : 2 ≤ n := by omega
    have h3 := hf_pos n
    have h4 := hf_lt h2
    have t1 : (l.take (hf n)).length = hf n := by rw [List.length_take]; omega
    have t2 : (l.drop (hf n)).length = n - hf n := by rw [List.length_drop]; omega
    have u := outL_len f t (hf n) a _ t1 h3
    have v := outL_len f t (n - hf n) (a + hf n) _ t2 (by omega)
    rw [e, imprimaturref06_Outer.j1, if_neg (by decide), hl, refhalf_eq n h2 (by omega) k (by omega), Option.bind_some, if_pos (by omega), if_pos (by omega), Int.toNat_natCast, ih (hf n) h4 _ a k t1 h3 (by omega) (hv.take _) (by omega), Option.bind_some, w64 (x := (a : Int) + (hf n : Int)) (by omega) (by omega), show (a : Int) + (hf n : Int) = ((a + hf n : Nat) : Int) by omega, ih (n - hf n) (by omega) _ (a + hf n) k t2 (by omega) (by omega) (hv.drop _) (by omega), Option.bind_some, if_pos (by omega), outL_node (l := l) (by omega) ho, hl]
theorem refproverange_eq (l : List (List Int)) (f t : Int) (hb : ∀ x ∈ l, BytesB x) (hl : l.length ≤ 100000) (k : Nat) (hk : 500000 ≤ k) : imprimaturref06_ProveRange.f k l f t = some (proveC l f t) := by
 unfold imprimaturref06_ProveRange.f proveC
 rw [refok_eq l k (by omega) hl, Option.bind_some]
 by_cases h0 : lvE l = 0
 ·rw [if_pos h0, if_pos h0]
  by_cases h1 : f < 0
  ·rw [if_pos h1, if_pos (.inl h1)]
  rw [if_neg h1]
  by_cases h2 : t ≤ f
  ·rw [if_pos h2, if_pos (.inr (.inl h2))]
  rw [if_neg h2]
  by_cases h3 : t > l.length
  ·rw [if_pos h3, if_pos (.inr (.inr h3))]
  rw [if_neg h3, if_neg (by omega)]
  obtain ⟨f, rfl⟩ : ∃ j : Nat, f = (j : Int) := ⟨f.toNat, by omega⟩
  obtain ⟨t, rfl⟩ : ∃ j : Nat, t = (j : Int) := ⟨t.toNat, by omega⟩
  have hv := ((lvE_zero hb).1 h0).2
  have h := refouter_eq f t (by omega) (by omega) l.length l 0 k rfl (by omega) (by omega) hv (by omega)
  rw [show ((0 : Nat) : Int) = 0 from rfl] at h
  rw [h, Option.bind_some, Int.toNat_natCast, Int.toNat_natCast]
 ·rw [if_neg h0, if_neg h0]
end Go.Proofs.YtdpdmmbdoeefbaaDoor.PRe
namespace Go.Proofs.YtdpdmmbdoeefbaaDoor.PCl
open Go.RowKit Go.Proofs.YtdpdmmbdoeefbaaDoorW.PrintWords Go.Proofs.YtdpdmmbdoeefbaaDoorW.PrintLast Go.Proofs.YtdpdmmbdoeefbaaDoorW.PrintMore Go.Proofs.YtdpdmmbdoeefbaaDoor.X Go.Proofs.YtdpdmmbdoeefbaaDoor.PCut Go.Proofs.YtdpdmmbdoeefbaaDoor.PCs Go.Proofs.YtdpdmmbdoeefbaaDoor.PCo Go.Proofs.YtdpdmmbdoeefbaaDoor.PCr Go.Proofs.YtdpdmmbdoeefbaaDoor.PRa Go.Proofs.YtdpdmmbdoeefbaaDoor.PRe
theorem refclimb_eq (f : Nat) (lv : List (List Int)) (hw : Lv lv) (hfl : f + lv.length ≤ 100000) : ∀ (n a : Nat) (pr : List (List Int)) (k : Nat), 1 ≤ n → a + n ≤ 100000 → Lv pr → pr.length ≤ 100000 → 3 * n + 40 ≤ k → imprimaturref06_Climb.f k a n f lv pr = some (climbT a n f lv pr) := by
 intro n
 induction n using Nat.strongRecOn with
 | _ n ih =>
  intro a pr k h1 ha hp hpl hk
  obtain ⟨k, rfl⟩ : ∃ j, k = j + 2 := ⟨k - 2, by omega⟩
  rw [imprimaturref06_Climb.f, w64 (x := (a : Int) + (n : Int)) (by omega) (by omega), w64 (x := (f : Int) + (lv.length : Int)) (by omega) (by omega)]
  by_cases ho : a + n ≤ f ∨ f + lv.length ≤ a
  ·have e : (if (a : Int) + (n : Int) ≤ (f : Int) then imprimaturref06_Climb.j0 (k + 1) a n f lv pr true else imprimaturref06_Climb.j0 (k + 1) a n f lv pr (decide ((a : Int) ≥ (f : Int) + (lv.length : Int)))) = imprimaturref06_Climb.j0 (k + 1) a n f lv pr true := by
    by_cases h : (a : Int) + (n : Int) ≤ (f : Int)
    ·rw [if_pos h]
    ·rw [if_neg h, decide_eq_true (by omega)]
   rw [e, imprimaturref06_Climb.j0, if_pos rfl]
   by_cases h0 : pr.length = 0
   ·rw [if_pos (by omega), climbT_none ho h0]
   ·rw [if_neg (by omega), if_pos (by omega), if_pos (by omega), climbT_out ho h0]
    rfl
  ·rw [if_neg (by omega), decide_eq_false (by omega), imprimaturref06_Climb.j0, if_neg (by decide)]
   by_cases h2 : n = 1
   ·rw [if_pos (by omega), w64 (by omega) (by omega), if_pos (by omega), if_pos (by omega), climbT_leaf ho (by omega), show (a : Int) - (f : Int) = ((a - f : Nat) : Int) by omega]
    unfold rd_L1
    rw [Int.toNat_natCast]
   ·have h3 := hf_pos n
    have h4 := hf_lt (n := n) (by omega)
    have u := climbT_ok (hf n) a f lv pr h3 hw hp
    have v := climbT_ok (n - hf n) (a + hf n) f lv (climbT a (hf n) f lv pr).2.1 (by omega) hw u.2.1.1
    have u1 := u.1.1
    have v1 := v.1.1
    have u2 := u.2.2.1.1
    have v2 := v.2.2.1.1
    have u3 := u.2.1.2
    rw [if_neg (by omega), refhalf_eq n (by omega) (by omega) k (by omega), Option.bind_some, ih (hf n) h4 a pr k h3 (by omega) hp hpl (by omega), Option.bind_some, w64 (x := (a : Int) + (hf n : Int)) (by omega) (by omega), w64 (x := (n : Int) - (hf n : Int)) (by omega) (by omega), show (a : Int) + (hf n : Int) = ((a + hf n : Nat) : Int) by omega, show (n : Int) - (hf n : Int) = ((n - hf n : Nat) : Int) by omega,
     ih (n - hf n) (by omega) (a + hf n) _ k (by omega) (by omega) u.2.1.1 (by omega) (by omega), Option.bind_some, node_eq _ _ (by omega) (by omega), Option.bind_some, hash_eq (isBytes_cons (by decide) (isBytes_app u.1.2 v.1.2)) (by simp only [List.length_cons, List.length_append]; omega), Option.bind_some, if_pos (by omega), Option.bind_some, if_pos (by rw [List.length_append]; omega), Option.bind_some, climbT_node ho (by omega)]
    cases hb : (climbT a (hf n) f lv pr).2.2.2
    ·rw [if_neg (by decide), Bool.false_and]
    ·rw [if_pos rfl, Bool.true_and]
theorem refrange_eq (root : List Int) (n f : Int) (lv pr : List (List Int)) (hl : lv.length ≤ 20000) (hp : pr.length ≤ 20000) (hr : BytesB root) (hb : ∀ x ∈ lv, BytesB x) (hpb : ∀ x ∈ pr, BytesB x) (k : Nat) (hk : 40000 ≤ k) : imprimaturref06_CheckRange.f k root n f lv pr = some (rangeC root n f lv pr) := by
 obtain ⟨k, rfl⟩ : ∃ j, k = j + 1 := ⟨k - 1, by omega⟩
 have hj : imprimaturref06_CheckRange.j0 (k + 1) root n f lv pr true = some 1 := by rw [imprimaturref06_CheckRange.j0, if_pos rfl]
 unfold imprimaturref06_CheckRange.f rangeC
 rw [hj]
 by_cases h1 : n < 1
 ·rw [if_pos h1, if_pos (.inl h1)]
 rw [if_neg h1]
 by_cases h2 : n > 4096
 ·rw [if_pos h2, if_pos (.inr (.inl h2))]
 rw [if_neg h2]
 by_cases h3 : lv.length = 0
 ·rw [if_pos (by omega), if_pos (.inr (.inr (.inl h3)))]
 rw [if_neg (by omega)]
 by_cases h4 : f < 0
 ·rw [if_pos h4, if_pos (.inr (.inr (.inr (.inl h4))))]
 rw [if_neg h4]
 by_cases h5 : f > n
 ·rw [if_pos h5, if_pos (.inr (.inr (.inr (.inr (.inl (by omega))))))]
 rw [if_neg h5, w64 (by omega) (by omega)]
 by_cases h6 : (lv.length : Int) > n - f
 ·rw [if_pos h6, if_pos (.inr (.inr (.inr (.inr (.inl (by omega))))))]
 rw [if_neg h6]
 by_cases h7 : root.length = 32
 ·rw [if_pos (by omega), refsized_eq lv _ (by omega) (by omega), Option.bind_some]
  by_cases h8 : rgAll lv = true
  ·rw [if_pos h8, refsized_eq pr _ (by omega) (by omega), Option.bind_some]
   by_cases h9 : rgAll pr = true
   ·have hw := rgAll_lv h8 hb
    have hq := rgAll_lv h9 hpb
    obtain ⟨n, rfl⟩ : ∃ j : Nat, n = (j : Int) := ⟨n.toNat, by omega⟩
    obtain ⟨f, rfl⟩ : ∃ j : Nat, f = (j : Int) := ⟨f.toNat, by omega⟩
    have u := climbT_ok n 0 f lv pr (by omega) hw hq
    have u1 := u.1.1
    rw [h9, if_neg (show ¬ ((n : Int) < 1 ∨ 4096 < (n : Int) ∨ lv.length = 0 ∨ (f : Int) < 0 ∨ (n : Int) < (f : Int) + (lv.length : Int) ∨ root.length ≠ 32 ∨ rgAll lv = false ∨ true = false) from fun h => by
     rcases h with h | h | h | h | h | h | h | h
     ·exact h1 h
     ·exact h2 h
     ·exact h3 h
     ·exact h4 h
     ·omega
     ·exact h h7
     ·rw [h8] at h; cases h
     ·cases h), Int.toNat_natCast, Int.toNat_natCast]
    have hc := refclimb_eq f lv hw (by omega) n 0 pr k (by omega) (by omega) hq (by omega) (by omega)
    rw [show ((0 : Nat) : Int) = 0 from rfl] at hc
    rw [imprimaturref06_CheckRange.j0, if_neg (by decide), hc, Option.bind_some]
    unfold rangeB
    cases hfit : (climbT 0 n f lv pr).2.2.2
    ·rw [if_neg (by decide), Bool.false_and, Bool.false_and, if_neg (by decide)]
    ·rw [if_pos rfl, Bool.true_and]
     by_cases hz : (climbT 0 n f lv pr).2.1.length = 0
     ·rw [if_neg (by omega), roottext_eq k (by omega) n _ (by omega), Option.bind_some, hash_eq (isBytes_cons (by decide) (isBytes_app (e8_bytes _) u.1.2)) (by have := e8_length n; simp only [List.length_cons, List.length_append]; omega), Option.bind_some, decide_eq_true hz, Bool.true_and]
      by_cases he : dig (2 :: (e8 n ++ (climbT 0 n f lv pr).1)) = root
      ·rw [if_pos ((strs_eq (dig_bytes _) hr).2 he), decide_eq_true he, if_pos rfl]
      ·rw [if_neg (fun c => he ((strs_eq (dig_bytes _) hr).1 c)), decide_eq_false he, if_neg (by decide)]
     ·rw [if_pos (by omega), decide_eq_false hz, Bool.false_and, if_neg (by decide)]
   ·rw [Bool.not_eq_true] at h9
    rw [h9, show (!false) = true from rfl, hj, if_pos (.inr (.inr (.inr (.inr (.inr (.inr (.inr rfl)))))))]
  ·rw [if_neg h8, if_pos (.inr (.inr (.inr (.inr (.inr (.inr (.inl (by simpa using h8))))))))]
 ·rw [if_neg (by omega), if_pos (.inr (.inr (.inr (.inr (.inr (.inl h7))))))]
end Go.Proofs.YtdpdmmbdoeefbaaDoor.PCl
namespace Go.Proofs.YtdpdmmbdoeefbaaDoor.PRg
open Go.RowKit Go.Proofs.YtdpdmmbdoeefbaaDoorW.PrintWords Go.Proofs.YtdpdmmbdoeefbaaDoorW.PrintLast Go.Proofs.YtdpdmmbdoeefbaaDoorW.PrintMore Go.Proofs.YtdpdmmbdoeefbaaDoor.X Go.Proofs.YtdpdmmbdoeefbaaDoor.PCut Go.Proofs.YtdpdmmbdoeefbaaDoor.PCs Go.Proofs.YtdpdmmbdoeefbaaDoor.PCo Go.Proofs.YtdpdmmbdoeefbaaDoor.PCr Go.Proofs.YtdpdmmbdoeefbaaDoor.PRa Go.Proofs.YtdpdmmbdoeefbaaDoor.PRe Go.Proofs.YtdpdmmbdoeefbaaDoor.PCl
theorem ranges_law (hkn : imprimaturlaw06_known.f = some true) (l : List (List Int)) (a b : Int) (root : List Int) (n f : Int) (lv pr : List (List Int)) (hb : ∀ x ∈ l, BytesB x) (hr : BytesB root) (hw : ∀ x ∈ lv, BytesB x) (hp : ∀ x ∈ pr, BytesB x) (hx : ∀ x ∈ l, x.length ≤ 140737488355328) (hx2 : ∀ x ∈ lv, x.length ≤ 140737488355328) (hx3 : ∀ x ∈ pr, x.length ≤ 140737488355328) (hl : l.length ≤ 5864062014805) (hl2 : lv.length ≤ 5864062014805) (hl3 : pr.length ≤ 5864062014805) : ∃ k, imprimaturlaw06_MerkleRanges.f k l a b root n f lv pr = some true := by
 refine ⟨l.length + lv.length + pr.length + 1000000, ?_⟩
 obtain ⟨K, hK⟩ : ∃ K, K = l.length + lv.length + pr.length + 1000000 := ⟨_, rfl⟩
 rw [← hK]
 obtain ⟨k, rfl⟩ : ∃ k, K = k + 1 := ⟨K - 1, by omega⟩
 have hj : imprimaturlaw06_MerkleRanges.j0 (k + 1) l a b root n f lv pr true = some true := by rw [imprimaturlaw06_MerkleRanges.j0, if_pos rfl, hkn, Option.bind_some]
 obtain ⟨r, hr1, hs⟩ := size_eq l 900 (by omega) hx hl (k + 1) (by omega)
 obtain ⟨r2, hr2, hs2⟩ := size_eq lv 900 (by omega) hx2 hl2 (k + 1) (by omega)
 obtain ⟨r3, hr3, hs3⟩ := size_eq pr 900 (by omega) hx3 hl3 (k + 1) (by omega)
 unfold imprimaturlaw06_MerkleRanges.f
 rw [show (900 : Int) = ((900 : Nat) : Int) from rfl, hr1, hr2, hr3]
 simp only [Option.bind_some]
 by_cases h1 : r > ((900 : Nat) : Int)
 ·rw [if_pos h1, hj]
 rw [if_neg h1]
 by_cases h0 : (root.length : Int) > 100
 ·rw [if_pos h0, hj]
 rw [if_neg h0]
 by_cases h2 : r2 > ((900 : Nat) : Int)
 ·rw [if_pos h2, hj]
 rw [if_neg h2]
 by_cases h3 : r3 > ((900 : Nat) : Int)
 ·rw [decide_eq_true h3, hj]
 have q1 := (hs (by omega)).1
 have q2 := (hs2 (by omega)).1
 have q3 := (hs3 (by omega)).1
 have hlen := proveC_len l a b
 rw [decide_eq_false h3, imprimaturlaw06_MerkleRanges.j0, if_neg (by decide), proverange_eq l a b hb (by omega) k (by omega), Option.bind_some, refproverange_eq l a b hb (by omega) k (by omega), Option.bind_some, same_self k _ (by omega) (by omega), Option.bind_some, if_pos rfl, if_pos rfl, checkrange_eq root n f lv pr hr hw hp (by omega) (by omega), Option.bind_some, refrange_eq root n f lv pr (by omega) (by omega) hr hw hp k (by omega), Option.bind_some, if_pos rfl, hkn, Option.bind_some]
theorem MerkleRanges_walk (A0 : Option Addr) (c0 : Nat) (l0 : List (List Int)) (a1 : Int) (a2 : Int) (A3 : Option Addr) (n3 c3 : Nat) (z3 : List Int) (a4 : Int) (a5 : Int) (A6 : Option Addr) (c6 : Nat) (l6 : List (List Int)) (A7 : Option Addr) (c7 : Nat) (l7 : List (List Int)) (w : World) (HG : Glb w) (w0 : Kd.C (Kd.slice 5 (Kd.int .u8)) w A0 l0.length l0) (hc0 : l0.length ≤ c0) (o0 : l0.length * 24 ≤ 140737488351232) (g0 : ∀ l ∈ l0, (∀ x ∈ l, (Lit.int .u8 x).wf = true) ∧ l.length * 1 ≤ 140737488351232) (w1 : (Lit.int .i64 a1).wf = true) (w2 : (Lit.int .i64 a2).wf = true) (h3 : (A3 = none ∧ n3 = 0 ∧ c3 = 0 ∧ z3 = []) ∨ ∃ x, A3 = some x ∧ n3 ≤ c3 ∧ c3 ≤ maxLen ∧ z3.length = c3 ∧ (∀ i, i < z3.length → w.cell? (x.add i) = some (.int .u8 (z3.getD i 0))) ∧ ∀ n ∈ z3, (Lit.int .u8 n).wf = true) (y3 : n3 * 1 ≤ 140737488351232) (w4 : (Lit.int .i64 a4).wf = true) (w5 : (Lit.int .i64 a5).wf = true) (w6 : Kd.C (Kd.slice 5 (Kd.int .u8)) w A6 l6.length l6) (hc6 : l6.length ≤ c6) (o6 : l6.length * 24 ≤ 140737488351232) (g6 : ∀ l ∈ l6, (∀ x ∈ l, (Lit.int .u8 x).wf = true) ∧ l.length * 1 ≤ 140737488351232) (w7 : Kd.C (Kd.slice 5 (Kd.int .u8)) w A7 l7.length l7) (hc7 : l7.length ≤ c7) (o7 : l7.length * 24 ≤ 140737488351232) (g7 : ∀ l ∈ l7, (∀ x ∈ l, (Lit.int .u8 x).wf = true) ∧ l.length * 1 ≤ 140737488351232) :
 Calls Tryd.prog 12 #[.slice A0 l0.length c0, .int .i64 a1, .int .i64 a2, .slice A3 n3 c3, .int .i64 a4, .int .i64 a5, .slice A6 l6.length c6, .slice A7 l7.length c7] w fun e w' => e = .returned (.bool true) ∧ Below w.heap.size w w' := by
 obtain ⟨l3, rfl, hr3, hm3, hb3, hc3⟩ := ReadsInt.ofRowC h3
 obtain ⟨k, h⟩ := ranges_law rfl l0 a1 a2 l3 a4 a5 l6 l7 (row_bytes g0) (fun x hx => byte_of (hb3 x hx)) (row_bytes g6) (row_bytes g7) (row_len g0) (row_len g6) (row_len g7) (by omega) (by omega) (by omega)
 exact imprimaturlaw06_MerkleRanges.calls k _ _ l0 a1 a2 _ _ l3 a4 a5 _ _ l6 _ _ l7 true w HG w0 hc0 (Kd.C_of_reads (d := (0 : Int)) (h1 := fun _ => rfl) hr3) hc3 w6 hc6 w7 hc7 h
end Go.Proofs.YtdpdmmbdoeefbaaDoor.PRg
