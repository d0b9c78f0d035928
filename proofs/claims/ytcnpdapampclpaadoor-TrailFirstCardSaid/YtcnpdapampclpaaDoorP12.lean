/- Plain lemmas for one law. -/
import Derived.Test.YtcnpdapampclpaaDoorPRdx1
import Derived.Test.YtcnpdapampclpaaDoorJ2
import Derived.Test.YtcnpdapampclpaaDoorJ3
import Derived.Test.YtcnpdapampclpaaDoorJ4
import Derived.Test.YtcnpdapampclpaaDoorP4
set_option linter.unusedVariables false
namespace Go.Proofs.YtcnpdapampclpaaDoor.PRa
open Go.RowKit Go.Proofs.YtcnpdapampclpaaDoorW.PrintWords Go.Proofs.YtcnpdapampclpaaDoorW.PrintLast Go.Proofs.YtcnpdapampclpaaDoorW.PrintMore Go.Proofs.YtcnpdapampclpaaDoor.X Go.Proofs.YtcnpdapampclpaaDoor.H Go.Proofs.YtcnpdapampclpaaDoor.PPl Go.Proofs.YtcnpdapampclpaaDoor.PPm Go.Proofs.YtcnpdapampclpaaDoor.PPn Go.Proofs.YtcnpdapampclpaaDoor.PTp Go.Proofs.YtcnpdapampclpaaDoor.PRa Go.Proofs.YtcnpdapampclpaaDoor.PRb
/-- All texts that are digested for the top of leaves. -/
def textsL (l : List (List Int)) : List (List Int) :=
  if _h : l.length ≤ 1 then [] else textsL (l.take (hf l.length)) ++ textsL (l.drop (hf l.length)) ++ [17 :: (topL (l.take (hf l.length)) ++ topL (l.drop (hf l.length)))]
termination_by l.length
decreasing_by
  · simp only [List.length_take]; have := hf_lt (n := l.length) (by omega); omega
  · simp only [List.length_drop]; have := hf_pos l.length; omega
theorem textsL_one {l : List (List Int)} (h : l.length ≤ 1) : textsL l = [] := by rw [textsL, dif_pos h]
theorem textsL_node {l : List (List Int)} (h : 2 ≤ l.length) : textsL l = textsL (l.take (hf l.length)) ++ textsL (l.drop (hf l.length)) ++ [17 :: (topL (l.take (hf l.length)) ++ topL (l.drop (hf l.length)))] := by rw [textsL, dif_neg (by omega)]
theorem textsL_ok : ∀ (n : Nat) (l : List (List Int)), l.length = n → Lv l → (textsL l).length ≤ n - 1 ∧ ∀ t ∈ textsL l, BytesB t ∧ t.length = 65 := by
  intro n
  induction n using Nat.strongRecOn with
  | _ n ih =>
    intro l hl hv
    by_cases h : n ≤ 1
    · rw [textsL_one (by omega)]; exact ⟨by simp, fun t ht => by cases ht⟩
    · have h3 := hf_pos n
      have h4 := hf_lt (n := n) (by omega)
      have t1 : (l.take (hf n)).length = hf n := by rw [List.length_take]; omega
      have t2 : (l.drop (hf n)).length = n - hf n := by rw [List.length_drop]; omega
      have h5 := topL_32 (hv.take (hf n)) (by omega)
      have h6 := topL_32 (hv.drop (hf n)) (by omega)
      have a1 := ih (hf n) h4 _ t1 (hv.take _)
      have a2 := ih (n - hf n) (by omega) _ t2 (hv.drop _)
      rw [textsL_node (by omega), hl]
      refine ⟨?_, fun t ht => ?_⟩
      · simp only [List.length_append, List.length_singleton]; omega
      · rw [List.mem_append, List.mem_append, List.mem_singleton] at ht
        rcases ht with (ht | ht) | rfl
        · exact a1.2 t ht
        · exact a2.2 t ht
        · exact ⟨isBytes_cons (by decide) (isBytes_app h5.2 h6.2), by simp [h5.1, h6.1]⟩
/-- No two texts that are unlike have one digest. -/
def Inj (S : List (List Int)) : Prop := ∀ x ∈ S, ∀ y ∈ S, dig x = dig y → x = y
theorem Inj.sub {S T : List (List Int)} (h : Inj S) (hT : ∀ x ∈ T, x ∈ S) : Inj T := fun x hx y hy e => h x (hT x hx) y (hT y hy) e
end Go.Proofs.YtcnpdapampclpaaDoor.PRa
namespace Go.Proofs.YtcnpdapampclpaaDoor.PRd
open Go.RowKit Go.Proofs.YtcnpdapampclpaaDoorW.PrintWords Go.Proofs.YtcnpdapampclpaaDoorW.PrintLast Go.Proofs.YtcnpdapampclpaaDoorW.PrintMore Go.Proofs.YtcnpdapampclpaaDoor.X Go.Proofs.YtcnpdapampclpaaDoor.H Go.Proofs.YtcnpdapampclpaaDoor.PPl Go.Proofs.YtcnpdapampclpaaDoor.PPm Go.Proofs.YtcnpdapampclpaaDoor.PPn Go.Proofs.YtcnpdapampclpaaDoor.PTp Go.Proofs.YtcnpdapampclpaaDoor.PRa Go.Proofs.YtcnpdapampclpaaDoor.PRb Go.Proofs.YtcnpdapampclpaaDoor.PRa
theorem clash_l0 (l : List (List Int)) (hl : l.length ≤ 100000) (hb : ∀ x ∈ l, BytesB x ∧ x.length ≤ 1000000) : ∀ (d k i : Nat), i + d = l.length → imprimaturref06_Clash.l0 (k + d + 1) l ((l.take i).map dig) i = imprimaturref06_Clash.l1 k l (l.map dig) 0 := by
  intro d
  induction d with
  | zero =>
    intro k i hi
    rw [imprimaturref06_Clash.l0, if_neg (by omega), List.take_of_length_le (by omega)]
  | succ d ih =>
    intro k i hi
    have hx := hb _ (getD_mem' (l := l) (i := i) (by omega))
    rw [show k + (d + 1) + 1 = (k + d + 1) + 1 by omega, imprimaturref06_Clash.l0, if_pos (by omega), if_pos (by omega), show rd_L1 l (i : Int) = l.getD i [] by unfold rd_L1; rw [Int.toNat_natCast], hash_eq hx.1 (by omega)]
    simp only [Option.bind_some]
    have e : (l.take i).map dig ++ [dig (l.getD i [])] = (l.take (i + 1)).map dig := by rw [take_next l [] i (by omega), List.map_append]; rfl
    rw [if_pos (by rw [List.length_map, List.length_take]; omega), e, w64 (by omega) (by omega), show (i : Int) + 1 = ((i + 1 : Nat) : Int) by omega, ih k (i + 1) (by omega)]
theorem clash_l2 (l : List (List Int)) (hl : l.length ≤ 10000) (hb : ∀ x ∈ l, BytesB x ∧ x.length ≤ 1000000) (k i : Nat) (hi : i < l.length) (hn : ∃ b, imprimaturref06_Clash.l1 k l (l.map dig) (i + 1 : Nat) = some b) : ∀ (d j : Nat), j + d = i →
    ∃ b, imprimaturref06_Clash.l2 (k + d + 1) l (l.map dig) i j = some b ∧ (b = false → imprimaturref06_Clash.l1 k l (l.map dig) (i + 1 : Nat) = some false ∧ ∀ q, j ≤ q → q < i → dig (l.getD i []) = dig (l.getD q []) → l.getD i [] = l.getD q []) := by
  have hg : ∀ q, q < l.length → rd_L1 (l.map dig) (q : Int) = dig (l.getD q []) := fun q hq => by
    unfold rd_L1
    rw [Int.toNat_natCast, List.getD_eq_getElem?_getD, List.getElem?_map, List.getElem?_eq_getElem hq, List.getD_eq_getElem?_getD, List.getElem?_eq_getElem hq]
    rfl
  have hr : ∀ q : Nat, rd_L1 l (q : Int) = l.getD q [] := fun q => by unfold rd_L1; rw [Int.toNat_natCast]
  have hml : (l.map dig).length = l.length := List.length_map ..
  intro d
  induction d with
  | zero =>
    intro j hj
    obtain ⟨b, hb1⟩ := hn
    refine ⟨b, ?_, fun e => ⟨by rw [hb1, e], fun q h1 h2 => by omega⟩⟩
    rw [imprimaturref06_Clash.l2, if_neg (by omega), w64 (by omega) (by omega), show (i : Int) + 1 = ((i + 1 : Nat) : Int) by omega]
    exact hb1
  | succ d ih =>
    intro j hj
    obtain ⟨b, hb1, hb2⟩ := ih (j + 1) (by omega)
    rw [show k + (d + 1) + 1 = (k + d + 1) + 1 by omega, imprimaturref06_Clash.l2, if_pos (by omega), if_pos (by omega), if_pos (by omega), if_pos (by omega), if_pos (by omega), hg i hi, hg j (by omega)]
    have hx := hb _ (getD_mem' (l := l) (i := i) hi)
    have hy := hb _ (getD_mem' (l := l) (i := j) (by omega))
    have e1 : wrap64 ((j : Int) + 1) = ((j + 1 : Nat) : Int) := by rw [w64 (by omega) (by omega)]; omega
    by_cases h : dig (l.getD i []) = dig (l.getD j [])
    · rw [if_pos ((strs_eq (dig_bytes _) (dig_bytes _)).2 h), if_pos (by omega), if_pos (by omega), hr, hr]
      by_cases h2 : l.getD i [] = l.getD j []
      · rw [if_pos ((strs_eq hx.1 hy.1).2 h2), e1]
        refine ⟨b, hb1, fun e => ⟨(hb2 e).1, fun q q1 q2 => ?_⟩⟩
        by_cases hq : q = j
        · rw [hq]; exact fun _ => h2
        · exact (hb2 e).2 q (by omega) q2
      · rw [if_neg (fun e => h2 ((strs_eq hx.1 hy.1).1 e))]
        exact ⟨true, rfl, fun e => by cases e⟩
    · rw [if_neg (fun e => h ((strs_eq (dig_bytes _) (dig_bytes _)).1 e)), e1]
      refine ⟨b, hb1, fun e => ⟨(hb2 e).1, fun q q1 q2 => ?_⟩⟩
      by_cases hq : q = j
      · rw [hq]; exact fun h3 => absurd h3 h
      · exact (hb2 e).2 q (by omega) q2
theorem clash_l1 (l : List (List Int)) (hl : l.length ≤ 10000) (hb : ∀ x ∈ l, BytesB x ∧ x.length ≤ 1000000) : ∀ (d k i : Nat), i + d = l.length → ∃ b, imprimaturref06_Clash.l1 (k + d * (l.length + 2) + 1) l (l.map dig) i = some b ∧ (b = false → ∀ p q, i ≤ p → p < l.length → q < p → dig (l.getD p []) = dig (l.getD q []) → l.getD p [] = l.getD q []) := by
  intro d
  induction d with
  | zero =>
    intro k i hi
    rw [imprimaturref06_Clash.l1, if_neg (by omega)]
    exact ⟨false, rfl, fun _ p q h1 h2 => by omega⟩
  | succ d ih =>
    intro k i hi
    obtain ⟨b, hb1, hb2⟩ := ih (k + (l.length - i)) (i + 1) (by omega)
    obtain ⟨c, hc1, hc2⟩ := clash_l2 l hl hb (k + (l.length - i) + d * (l.length + 2) + 1) i (by omega) ⟨b, hb1⟩ i 0 (by omega)
    refine ⟨c, ?_, fun e p q h1 h2 h3 => ?_⟩
    · rw [Nat.add_mul, Nat.one_mul, imprimaturref06_Clash.l1, if_pos (by omega)]
      rw [show k + (d * (l.length + 2) + (l.length + 2)) = k + (l.length - i) + d * (l.length + 2) + 1 + i + 1 by omega]
      exact hc1
    · have h4 := hc2 e
      by_cases hp : p = i
      · rw [hp]; exact h4.2 q (by omega) (by omega)
      · have : b = false := Option.some.inj (hb1.symm.trans h4.1)
        exact hb2 this p q (by omega) h2 h3
theorem clash_eq (l : List (List Int)) (hl : l.length ≤ 10000) (hb : ∀ x ∈ l, BytesB x ∧ x.length ≤ 1000000) (k : Nat) (hk : 200000000 ≤ k) : ∃ b, imprimaturref06_Clash.f k l = some b ∧ (b = false → Inj l) := by
  have hm : l.length * (l.length + 2) ≤ 10000 * 10002 := Nat.mul_le_mul hl (by omega)
  obtain ⟨b, h1, h2⟩ := clash_l1 l hl hb l.length (k - l.length - 1 - l.length * (l.length + 2) - 1) 0 (by omega)
  refine ⟨b, ?_, fun e => ?_⟩
  · unfold imprimaturref06_Clash.f
    have h3 := clash_l0 l (by omega) hb l.length (k - l.length - 1) 0 (by omega)
    rw [show k - l.length - 1 + l.length + 1 = k by omega] at h3
    rw [show k - l.length - 1 - l.length * (l.length + 2) - 1 + l.length * (l.length + 2) + 1 = k - l.length - 1 by omega] at h1
    exact h3.trans h1
  · have h3 := h2 e
    intro x hx y hy he
    obtain ⟨i, hi, rfl⟩ := List.getElem_of_mem hx
    obtain ⟨j, hj, rfl⟩ := List.getElem_of_mem hy
    have gi : l.getD i [] = l[i] := by rw [List.getD_eq_getElem?_getD, List.getElem?_eq_getElem hi]; rfl
    have gj : l.getD j [] = l[j] := by rw [List.getD_eq_getElem?_getD, List.getElem?_eq_getElem hj]; rfl
    rcases Nat.lt_trichotomy i j with h | h | h
    · have := h3 j i (by omega) hj h; rw [gi, gj] at this; exact (this he.symm).symm
    · subst h; rfl
    · have := h3 i j (by omega) hi h; rw [gi, gj] at this; exact this he
theorem texts_f : ∀ (n : Nat) (l : List (List Int)) (k : Nat), l.length = n → Lv l → n ≤ 1000000 → n + 40 ≤ k → imprimaturref20_Texts.f k l = some (textsL l) := by
  intro n
  induction n using Nat.strongRecOn with
  | _ n ih =>
    intro l k hl hv h2 hk
    obtain ⟨k, rfl⟩ : ∃ j, k = j + 1 := ⟨k - 1, by omega⟩
    rw [imprimaturref20_Texts.f]
    by_cases h : n ≤ 1
    · rw [if_pos (by omega), textsL_one (by omega)]
    · have h3 := hf_pos n
      have h4 := hf_lt (n := n) (by omega)
      have t1 : (l.take (hf n)).length = hf n := by rw [List.length_take]; omega
      have t2 : (l.drop (hf n)).length = n - hf n := by rw [List.length_drop]; omega
      have x1 := topL_32 (hv.take (hf n)) (by omega)
      have x2 := topL_32 (hv.drop (hf n)) (by omega)
      have a1 := (textsL_ok (hf n) _ t1 (hv.take _)).1
      have a2 := (textsL_ok (n - hf n) _ t2 (hv.drop _)).1
      rw [if_neg (by omega), hl, refhalf_eq n (by omega) h2 k (by omega), Option.bind_some, if_pos (by omega), if_pos (by omega), Int.toNat_natCast, ih (hf n) h4 _ k t1 (hv.take _) (by omega) (by omega), Option.bind_some, ih (n - hf n) (by omega) _ k t2 (hv.drop _) (by omega) (by omega), Option.bind_some, if_pos (by omega), Option.bind_some, top_f (hf n) _ k t1 (hv.take _) (by omega) (by omega) (by omega), Option.bind_some, top_f (n - hf n) _ k t2 (hv.drop _) (by omega) (by omega) (by omega), Option.bind_some, text_f (by omega) (by omega), Option.bind_some, if_pos (by rw [List.length_append]; omega), textsL_node (l := l) (by omega), hl]
end Go.Proofs.YtcnpdapampclpaaDoor.PRd
