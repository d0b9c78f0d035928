/- Plain lemmas for one law. -/
import Derived.Test.YtcnpdapampclpaaDoorPRax1
import Derived.Test.YtcnpdapampclpaaDoorP0
import Derived.Test.YtcnpdapampclpaaDoorP1
import Derived.Test.YtcnpdapampclpaaDoorP2
set_option linter.unusedVariables false
namespace Go.Proofs.YtcnpdapampclpaaDoor.PRa
open Go.RowKit Go.Proofs.YtcnpdapampclpaaDoorW.PrintWords Go.Proofs.YtcnpdapampclpaaDoorW.PrintLast Go.Proofs.YtcnpdapampclpaaDoorW.PrintMore Go.Proofs.YtcnpdapampclpaaDoor.X Go.Proofs.YtcnpdapampclpaaDoor.H Go.Proofs.YtcnpdapampclpaaDoor.PPl Go.Proofs.YtcnpdapampclpaaDoor.PPm Go.Proofs.YtcnpdapampclpaaDoor.PPn
/-- How many bytes texts have, as far as most. -/
theorem size_l (l : List (List Int)) (m : Nat) (hm : m ≤ 10000) (hb : ∀ x ∈ l, x.length ≤ 140737488355328) : ∀ (d k i : Nat) (n : Int), i + d = l.length → 0 ≤ n → n ≤ m + 140737488355329 → i ≤ n →
    ∃ r, imprimaturref06_Size.l0 (k + d + 1) l m n i = some r ∧ (r ≤ m → n + (((l.drop i).map (fun x => x.length + 1)).sum : Nat) ≤ m ∧ r = n + (((l.drop i).map (fun x => x.length + 1)).sum : Nat)) := by
  intro d
  induction d with
  | zero =>
    intro k i n hi h0 h1 h2
    rw [imprimaturref06_Size.l0, if_neg (by omega)]
    exact ⟨n, rfl, fun h => by rw [List.drop_of_length_le (by omega)]; simpa using h⟩
  | succ d ih =>
    intro k i n hi h0 h1 h2
    rw [show k + (d + 1) + 1 = (k + d + 1) + 1 by omega, imprimaturref06_Size.l0, if_pos (by omega)]
    by_cases h : n ≤ m
    · have hx := hb (l.getD i []) (by rw [List.getD_eq_getElem?_getD, List.getElem?_eq_getElem (by omega)]; exact List.getElem_mem _)
      rw [if_pos h, if_pos (by omega), show rd_L1 l (i : Int) = l.getD i [] by unfold rd_L1; rw [Int.toNat_natCast], w64 (x := n + 1) (by omega) (by omega), w64 (x := n + 1 + ((l.getD i []).length : Int)) (by omega) (by omega), w64 (x := (i : Int) + 1) (by omega) (by omega), show (i : Int) + 1 = ((i + 1 : Nat) : Int) by omega]
      obtain ⟨r, hr, hs⟩ := ih k (i + 1) (n + 1 + ((l.getD i []).length : Int)) (by omega) (by omega) (by omega) (by omega)
      refine ⟨r, hr, fun hrm => ?_⟩
      have := hs hrm
      rw [List.drop_eq_getElem_cons (show i < l.length by omega), List.map_cons, List.sum_cons]
      have e : l[i] = l.getD i [] := by rw [List.getD_eq_getElem?_getD, List.getElem?_eq_getElem (by omega)]; rfl
      rw [e]
      omega
    · rw [if_neg h]
      exact ⟨n, rfl, fun h' => absurd h' h⟩
theorem sum_ge (l : List (List Int)) : l.length ≤ (l.map (fun x => x.length + 1)).sum := by
  induction l with
  | nil => simp
  | cons x l ih => simp only [List.map_cons, List.sum_cons, List.length_cons]; omega
theorem size_eq (l : List (List Int)) (m : Nat) (hm : m ≤ 10000) (hb : ∀ x ∈ l, x.length ≤ 140737488355328) (hl : l.length ≤ 5864062014805) (k : Nat) (hk : l.length < k) :
    ∃ r, imprimaturref06_Size.f k l m = some r ∧ (r ≤ m → l.length ≤ m ∧ (l.map (fun x => x.length + 1)).sum ≤ m) := by
  unfold imprimaturref06_Size.f
  obtain ⟨r, hr, hs⟩ := size_l l m hm hb l.length (k - l.length - 1) 0 0 (by omega) (by omega) (by omega) (by omega)
  rw [show k - l.length - 1 + l.length + 1 = k by omega] at hr
  refine ⟨r, hr, fun h => ?_⟩
  have := hs h
  have h2 := sum_ge l
  rw [List.drop_zero] at this
  omega
theorem same_dl (a b : List (List Int)) (ha : ∀ x ∈ a, BytesB x) (hb : ∀ x ∈ b, BytesB x) (hl : a.length = b.length) (hal : a.length ≤ 100000) : ∀ (d k i : Nat), i + d = a.length → imprimaturref06_Same.l0 (k + d + 1) a b i = some (decide (a.drop i = b.drop i)) := by
  intro d
  induction d with
  | zero =>
    intro k i hi
    rw [imprimaturref06_Same.l0, if_neg (by omega), List.drop_of_length_le (by omega), List.drop_of_length_le (by omega), decide_eq_true rfl]
  | succ d ih =>
    intro k i hi
    rw [show k + (d + 1) + 1 = (k + d + 1) + 1 by omega, imprimaturref06_Same.l0, if_pos (by omega), if_pos (by omega), if_pos (by omega), show rd_L1 a (i : Int) = a.getD i [] by unfold rd_L1; rw [Int.toNat_natCast], show rd_L1 b (i : Int) = b.getD i [] by unfold rd_L1; rw [Int.toNat_natCast]]
    have ea : a.drop i = a.getD i [] :: a.drop (i + 1) := by
      rw [List.drop_eq_getElem_cons (show i < a.length by omega), List.getD_eq_getElem?_getD, List.getElem?_eq_getElem (by omega)]; rfl
    have eb : b.drop i = b.getD i [] :: b.drop (i + 1) := by
      rw [List.drop_eq_getElem_cons (show i < b.length by omega), List.getD_eq_getElem?_getD, List.getElem?_eq_getElem (by omega)]; rfl
    rw [ea, eb]
    by_cases h : a.getD i [] = b.getD i []
    · rw [if_pos ((strs_eq (ha _ (getD_mem' (by omega))) (hb _ (getD_mem' (by omega)))).2 h), w64 (by omega) (by omega), show (i : Int) + 1 = ((i + 1 : Nat) : Int) by omega, ih k (i + 1) (by omega), h]
      congr 1
      rw [decide_eq_decide, List.cons.injEq]
      simp
    · rw [if_neg (fun e => h ((strs_eq (ha _ (getD_mem' (by omega))) (hb _ (getD_mem' (by omega)))).1 e)), decide_eq_false (fun e => h (List.cons.inj e).1)]
theorem same_dec (a b : List (List Int)) (ha : ∀ x ∈ a, BytesB x) (hb : ∀ x ∈ b, BytesB x) (hal : a.length ≤ 100000) (k : Nat) (hk : a.length < k) : imprimaturref06_Same.f k a b = some (decide (a = b)) := by
  unfold imprimaturref06_Same.f
  by_cases h : a.length = b.length
  · rw [if_pos (by omega)]
    have := same_dl a b ha hb h hal a.length (k - a.length - 1) 0 (by omega)
    rw [show k - a.length - 1 + a.length + 1 = k by omega] at this
    exact this
  · rw [if_neg (by omega), decide_eq_false (fun e => h (by rw [e]))]
theorem byte_of {x : Int} (h : (Lit.int .u8 x).wf = true) : 0 ≤ x ∧ x < 256 := by
  simp [Lit.wf, IntKind.min, IntKind.max, IntKind.bits, IntKind.signed] at h
  omega
def am (a n : Int) : Int := (imprimaturref01_Among.f a n).getD 0
theorem am_zero (a : Int) (n : Int) (h : n < 1) : imprimaturref01_Among.f a n = some 0 := by unfold imprimaturref01_Among.f; rw [if_pos h]
theorem am_eq (a : Int) (n : Nat) (h : 1 ≤ n) (h' : n ≤ 10000) : imprimaturref01_Among.f a n = some (am a n) ∧ 0 ≤ am a n ∧ am a n < n := by
  have hlt : Int.tmod a n < n := Int.tmod_lt_of_pos a (by omega)
  have hgt : -(n : Int) < Int.tmod a n := Int.lt_tmod_of_pos a (by omega)
  have he : imprimaturref01_Among.f a n = some (if Int.tmod a n < 0 then Int.tmod a n + n else Int.tmod a n) := by
    unfold imprimaturref01_Among.f
    rw [if_neg (by omega), if_neg (by omega)]
    split
    · rw [w64 (by omega) (by omega)]
    · rfl
  unfold am
  rw [he]
  refine ⟨rfl, ?_⟩
  simp only [Option.getD_some]
  split <;> omega
theorem row_bytes {l : List (List Int)} (g : ∀ x ∈ l, (∀ y ∈ x, (Lit.int .u8 y).wf = true) ∧ x.length * 1 ≤ 140737488351232) : ∀ x ∈ l, ∀ y ∈ x, 0 ≤ y ∧ y < 256 := fun x hx y hy => byte_of ((g x hx).1 y hy)
theorem row_len {l : List (List Int)} (g : ∀ x ∈ l, (∀ y ∈ x, (Lit.int .u8 y).wf = true) ∧ x.length * 1 ≤ 140737488351232) : ∀ x ∈ l, x.length ≤ 140737488355328 := fun x hx => by have := (g x hx).2; omega
end Go.Proofs.YtcnpdapampclpaaDoor.PRa
