/- Plain lemmas for one law. -/
import Derived.Test.YtdpdmmbdoeefbaaDoorPCutx1
import Derived.Test.YtdpdmmbdoeefbaaDoorPCutx2
import Derived.Test.YtdpdmmbdoeefbaaDoorPCutx4
import Derived.Test.YtdpdmmbdoeefbaaDoorPCutx5
import Derived.Test.YtdpdmmbdoeefbaaDoorPMax1
set_option linter.unusedVariables false
namespace Go.Proofs.YtdpdmmbdoeefbaaDoor.PCut
open Go.RowKit Go.Proofs.YtdpdmmbdoeefbaaDoorW.PrintWords Go.Proofs.YtdpdmmbdoeefbaaDoorW.PrintLast Go.Proofs.YtdpdmmbdoeefbaaDoorW.PrintMore Go.Proofs.YtdpdmmbdoeefbaaDoor.X
theorem w64 {x : Int} (h : -9223372036854775808 ≤ x) (h' : x ≤ 9223372036854775807) : wrap64 x = x := by unfold wrap64; omega
theorem u64w (x : Int) : IntKind.u64.wrap x = x % 18446744073709551616 := rfl
/-- A byte's bit. -/
def bt8 (x : Int) (r : Nat) : Bool := decide ((x / 2 ^ r) % 2 = 1)
theorem tabA : ∀ x : Fin 256, ∀ r : Fin 8, decide (((x.val : Int) / 2 ^ r.val) = 0) = (List.range (8 - r.val)).all (fun t => !bt8 (x.val : Int) (r.val + t)) := by decide +kernel
theorem tabB : ∀ x : Fin 256, ∀ r : Fin 8, (Go.bits .and .u8 ((x.val : Int) / 2 ^ r.val) 1 == 1) = bt8 (x.val : Int) r.val := by decide +kernel
theorem tabC : ∀ x : Fin 256, ∀ r : Fin 8, Go.bits .or .u8 (x.val : Int) (shl .u8 1 (r.val : Int)) = if bt8 (x.val : Int) r.val = true then (x.val : Int) else ((x.val : Int) + shl .u8 1 (r.val : Int)) % 256 := by decide +kernel
theorem byte_of {x : Int} (h : (Lit.int .u8 x).wf = true) : 0 ≤ x ∧ x < 256 := by
  simp [Lit.wf, IntKind.min, IntKind.max, IntKind.bits, IntKind.signed] at h
  omega
def BytesL (m : List Int) : Prop := ∀ x ∈ m, 0 ≤ x ∧ x < 256
theorem BytesL.get {m : List Int} (h : BytesL m) (i : Nat) : 0 ≤ m.getD i 0 ∧ m.getD i 0 < 256 := by
  rw [List.getD_eq_getElem?_getD]
  by_cases hi : i < m.length
  · rw [List.getElem?_eq_getElem hi]; exact h _ (List.getElem_mem hi)
  · rw [List.getElem?_eq_none (by omega)]; decide
theorem shr8 (x : Int) (r : Nat) (hr : r < 8) : shr .u8 x (r : Int) = x / 2 ^ r := by
  unfold shr
  rw [show min (r : Int).toNat IntKind.u8.bits = r by rw [Int.toNat_natCast]; exact Nat.min_eq_left (by show r ≤ 8; omega)]
theorem byteA {x : Int} (hx : 0 ≤ x ∧ x < 256) (r : Nat) (hr : r < 8) : decide (x / 2 ^ r = 0) = (List.range (8 - r)).all (fun t => !bt8 x (r + t)) := by
  have := tabA ⟨x.toNat, by omega⟩ ⟨r, hr⟩
  simp only at this
  rwa [Int.toNat_of_nonneg hx.1] at this
theorem byteB {x : Int} (hx : 0 ≤ x ∧ x < 256) (r : Nat) (hr : r < 8) : (Go.bits .and .u8 (x / 2 ^ r) 1 == 1) = bt8 x r := by
  have := tabB ⟨x.toNat, by omega⟩ ⟨r, hr⟩
  simp only at this
  rwa [Int.toNat_of_nonneg hx.1] at this
theorem byteC {x : Int} (hx : 0 ≤ x ∧ x < 256) (r : Nat) (hr : r < 8) : Go.bits .or .u8 x (shl .u8 1 (r : Int)) = if bt8 x r = true then x else (x + shl .u8 1 (r : Int)) % 256 := by
  have := tabC ⟨x.toNat, by omega⟩ ⟨r, hr⟩
  simp only at this
  rwa [Int.toNat_of_nonneg hx.1] at this
/-- A map's bit. -/
def bit (m : List Int) (i : Nat) : Bool := bt8 (m.getD (i / 8) 0) (i % 8)
/-- A map is right. -/
def rightB (m : List Int) (n : Int) : Bool := decide (0 ≤ n ∧ n ≤ 4096 ∧ m.length = (n.toNat + 7) / 8) && (List.range (8 * m.length - n.toNat)).all (fun t => !bit m (n.toNat + t))
theorem idx8 (i : Nat) (hi : i < 1000000) : wrap64 (Int.tdiv (i : Int) 8) = ((i / 8 : Nat) : Int) := by
  rw [Int.tdiv_eq_ediv_of_nonneg (by omega), w64 (by omega) (by omega)]; omega
theorem mod8 (i : Nat) : Int.tmod (i : Int) 8 = ((i % 8 : Nat) : Int) := by rw [Int.tmod_eq_emod_of_nonneg (by omega)]; omega
theorem umod8 (i : Nat) : IntKind.u64.wrap (Int.tmod (i : Int) 8) = ((i % 8 : Nat) : Int) := by rw [mod8, u64w]; omega
theorem rdn (m : List Int) (i : Nat) : rd m (i : Int) = m.getD i 0 := by unfold rd; rw [Int.toNat_natCast]
theorem bit_last (m : List Int) (n : Nat) (hl : m.length = (n + 7) / 8) (hn : n % 8 ≠ 0) (t : Nat) (ht : t < 8 * m.length - n) : bit m (n + t) = bt8 (m.getD (m.length - 1) 0) (n % 8 + t) := by
  unfold bit
  rw [show (n + t) / 8 = m.length - 1 by omega, show (n + t) % 8 = n % 8 + t by omega]
theorem right_eq (m : List Int) (n : Int) (hm : m.length ≤ 1000) (hb : BytesL m) : merkle_Right.f m n = some (rightB m n) := by
  unfold merkle_Right.f rightB
  by_cases h1 : n < 0
  · rw [if_pos h1, decide_eq_false (by omega), Bool.false_and]
  by_cases h2 : n > 4096
  · rw [if_neg h1, if_pos h2, decide_eq_false (by omega), Bool.false_and]
  obtain ⟨n, rfl⟩ := Int.eq_ofNat_of_zero_le (show 0 ≤ n by omega)
  rw [if_neg h1, if_neg h2, w64 (x := (n : Int) + 7) (by omega) (by omega), show (n : Int) + 7 = ((n + 7 : Nat) : Int) by omega, idx8 _ (by omega), Int.toNat_natCast]
  by_cases h3 : (m.length : Int) = (((n + 7) / 8 : Nat) : Int)
  · rw [if_pos h3, mod8, decide_eq_true (by omega), Bool.true_and]
    by_cases h4 : n % 8 = 0
    · rw [if_pos (by omega), show 8 * m.length - n = 0 by omega]
      rfl
    · rw [if_neg (by omega), w64 (x := (m.length : Int) - 1) (by omega) (by omega), if_pos (by omega), if_pos (by omega), if_pos (by omega), show (m.length : Int) - 1 = ((m.length - 1 : Nat) : Int) by omega, rdn, shr8 _ _ (by omega)]
      have h5 := byteA (hb.get (m.length - 1)) (n % 8) (by omega)
      have h6 : ((m.getD (m.length - 1) 0 / 2 ^ (n % 8)) == 0) = decide (m.getD (m.length - 1) 0 / 2 ^ (n % 8) = 0) := rfl
      rw [h6, h5, show 8 - n % 8 = 8 * m.length - n by omega]
      congr 1
      rw [Bool.eq_iff_iff, List.all_eq_true, List.all_eq_true]
      refine ⟨fun h t ht => ?_, fun h t ht => ?_⟩
      · rw [bit_last m n (by omega) h4 t (List.mem_range.1 ht)]; exact h t ht
      · rw [← bit_last m n (by omega) h4 t (List.mem_range.1 ht)]; exact h t ht
  · rw [if_neg h3, decide_eq_false (by omega), Bool.false_and]
theorem bit_tmod {m : List Int} (hb : BytesL m) (i : Nat) : Int.tmod (m.getD (i / 8) 0 / 2 ^ (i % 8)) 2 = (m.getD (i / 8) 0 / 2 ^ (i % 8)) % 2 := Int.tmod_eq_emod_of_nonneg (Int.ediv_nonneg (hb.get _).1 (Int.pow_nonneg (by decide)))
theorem refright_l (m : List Int) (hm : m.length ≤ 1000) (hb : BytesL m) : ∀ (d k i : Nat), i + d = 8 * m.length → imprimaturref06_Right.l0 (k + d + 1) m i = some ((List.range d).all (fun t => !bit m (i + t))) := by
  intro d
  induction d with
  | zero =>
    intro k i hi
    rw [imprimaturref06_Right.l0, w64 (by omega) (by omega), if_neg (by omega)]
    rfl
  | succ d ih =>
    intro k i hi
    rw [show k + (d + 1) + 1 = (k + d + 1) + 1 by omega, imprimaturref06_Right.l0, w64 (x := (m.length : Int) * 8) (by omega) (by omega), if_pos (by omega), idx8 _ (by omega), if_pos (by omega), if_pos (by omega), umod8, if_pos (by omega), rdn, shr8 _ _ (by omega), w64 (by omega) (by omega), show (i : Int) + 1 = ((i + 1 : Nat) : Int) by omega, ih k (i + 1) (by omega), List.range_succ_eq_map, List.all_cons, List.all_map, bit_tmod hb]
    simp only [Nat.add_zero]
    by_cases h : (m.getD (i / 8) 0 / 2 ^ (i % 8)) % 2 = 1
    · rw [if_pos h, show bit m i = true from decide_eq_true h]
      rfl
    · rw [if_neg h, show bit m i = false from decide_eq_false h]
      simp only [Bool.not_false, Bool.true_and]
      congr 2
      funext t
      simp only [Function.comp]
      rw [show i + 1 + t = i + (t + 1) by omega]
theorem refright_eq (k : Nat) (hk : 20 ≤ k) (m : List Int) (n : Int) (hm : m.length ≤ 1000) (hb : BytesL m) : imprimaturref06_Right.f k m n = some (rightB m n) := by
  obtain ⟨k, rfl⟩ : ∃ j, k = (j + 8) + 1 := ⟨k - 9, by omega⟩
  unfold imprimaturref06_Right.f rightB
  by_cases h1 : n < 0
  · rw [if_pos h1, imprimaturref06_Right.j0, if_pos rfl, decide_eq_false (by omega), Bool.false_and]
  by_cases h2 : n > 4096
  · rw [if_neg h1, if_pos h2, imprimaturref06_Right.j0, if_pos rfl, decide_eq_false (by omega), Bool.false_and]
  obtain ⟨n, rfl⟩ := Int.eq_ofNat_of_zero_le (show 0 ≤ n by omega)
  rw [if_neg h1, if_neg h2, w64 (x := (m.length : Int) * 8) (by omega) (by omega), Int.toNat_natCast]
  by_cases h3 : (m.length : Int) * 8 < n
  · rw [if_pos h3, imprimaturref06_Right.j0, if_pos rfl, decide_eq_false (by omega), Bool.false_and]
  rw [if_neg h3, w64 (x := (m.length : Int) * 8 - n) (by omega) (by omega), imprimaturref06_Right.j0]
  by_cases h4 : (m.length : Int) * 8 - n > 7
  · rw [if_pos (decide_eq_true h4), decide_eq_false (by omega), Bool.false_and]
  rw [if_neg (by simpa using h4), decide_eq_true (by omega), Bool.true_and]
  by_cases h5 : (m.length : Int) = 0
  · rw [if_pos h5, show 8 * m.length - n = 0 by omega]
    rfl
  · rw [if_neg h5]
    have := refright_l m hm hb (8 * m.length - n) (k + 7 - (8 * m.length - n)) n (by omega)
    rwa [show k + 7 - (8 * m.length - n) + (8 * m.length - n) + 1 = k + 8 by omega] at this
/-- A place is in a map. -/
def hasB (m : List Int) (n p : Int) : Bool := rightB m n && decide (0 ≤ p ∧ p < n) && bit m p.toNat
theorem right_len {m : List Int} {n : Int} (h : rightB m n = true) : 0 ≤ n ∧ n ≤ 4096 ∧ m.length = (n.toNat + 7) / 8 := by
  unfold rightB at h
  rw [Bool.and_eq_true] at h
  exact of_decide_eq_true h.1
theorem has_eq (m : List Int) (n p : Int) (hm : m.length ≤ 1000) (hb : BytesL m) : merkle_Has.f m n p = some (hasB m n p) := by
  unfold merkle_Has.f hasB
  rw [right_eq m n hm hb]
  simp only [Option.bind_some]
  by_cases h1 : rightB m n = true
  · rw [if_pos h1, h1, Bool.true_and]
    have h2 := right_len h1
    by_cases h3 : p ≥ 0
    · rw [if_pos h3]
      by_cases h4 : p < n
      · obtain ⟨p, rfl⟩ := Int.eq_ofNat_of_zero_le h3
        rw [if_pos h4, idx8 _ (by omega), if_pos (by omega), if_pos (by omega), mod8, if_pos (by omega), rdn, shr8 _ _ (by omega), byteB (hb.get _) _ (by omega), decide_eq_true (by omega), Bool.true_and, Int.toNat_natCast]
        rfl
      · rw [if_neg h4, decide_eq_false (by omega), Bool.false_and]
    · rw [if_neg h3, decide_eq_false (by omega), Bool.false_and]
  · rw [if_neg h1, Bool.eq_false_iff.2 h1, Bool.false_and, Bool.false_and]
theorem refhas_eq (k : Nat) (hk : 20 ≤ k) (m : List Int) (n p : Int) (hm : m.length ≤ 1000) (hb : BytesL m) : imprimaturref06_Has.f k m n p = some (hasB m n p) := by
  unfold imprimaturref06_Has.f hasB
  by_cases h0 : (m.length : Int) > 0
  · rw [if_pos h0, refright_eq k hk m n hm hb]
    simp only [Option.bind_some]
    by_cases h1 : rightB m n = true
    · rw [if_pos h1, h1, Bool.true_and]
      have h2 := right_len h1
      by_cases h3 : p ≥ 0
      · rw [if_pos h3]
        by_cases h4 : p < n
        · obtain ⟨p, rfl⟩ := Int.eq_ofNat_of_zero_le h3
          rw [if_pos h4, idx8 _ (by omega), if_pos (by omega), if_pos (by omega), umod8, if_pos (by omega), rdn, shr8 _ _ (by omega), bit_tmod hb, decide_eq_true (by omega), Bool.true_and, Int.toNat_natCast]
          rfl
        · rw [if_neg h4, decide_eq_false (by omega), Bool.false_and]
      · rw [if_neg h3, decide_eq_false (by omega), Bool.false_and]
    · rw [if_neg h1, Bool.eq_false_iff.2 h1, Bool.false_and, Bool.false_and]
  · rw [if_neg h0]
    congr 1
    symm
    by_cases h1 : rightB m n = true
    · have h2 := right_len h1
      rw [decide_eq_false (by omega), Bool.and_false, Bool.false_and]
    · rw [Bool.eq_false_iff.2 h1, Bool.false_and, Bool.false_and]
/-- A map with a place more. -/
def putL (m : List Int) (p : Nat) : List Int := m.set (p / 8) (if bit m p = true then m.getD (p / 8) 0 else (m.getD (p / 8) 0 + shl .u8 1 ((p % 8 : Nat) : Int)) % 256)
theorem put_eq (m : List Int) (n p : Int) (hm : m.length ≤ 1000) (hb : BytesL m) : merkle_Put.f m n p = some (if rightB m n = true ∧ 0 ≤ p ∧ p < n then (putL m p.toNat, 0) else ([], 1)) := by
  unfold merkle_Put.f
  rw [right_eq m n hm hb]
  simp only [Option.bind_some]
  by_cases h1 : rightB m n = true
  · rw [if_pos h1]
    have h2 := right_len h1
    by_cases h3 : p < 0
    · rw [if_pos h3, if_neg (by omega)]
    by_cases h4 : p ≥ n
    · rw [if_neg h3, if_pos h4, if_neg (by omega)]
    obtain ⟨p, rfl⟩ := Int.eq_ofNat_of_zero_le (show 0 ≤ p by omega)
    rw [if_neg h3, if_neg h4, if_pos (by rw [List.length_nil]; omega), idx8 _ (by omega), List.nil_append, if_pos (by omega), if_pos (by omega), mod8, if_pos (by omega), rdn, byteC (hb.get _) _ (by omega), Int.toNat_natCast, if_pos (c := rightB m n = true ∧ 0 ≤ (p : Int) ∧ (p : Int) < n) ⟨h1, by omega, by omega⟩, Int.toNat_natCast]
    rfl
  · rw [if_neg h1, if_neg (fun h => h1 h.1)]
theorem set_self (m : List Int) (i : Nat) : m.set i (m.getD i 0) = m := by
  apply List.ext_getElem?
  intro j
  rw [List.getElem?_set]
  split
  · rename_i h
    subst h
    split
    · rename_i h
      rw [List.getD_eq_getElem?_getD, List.getElem?_eq_getElem h]
      rfl
    · rename_i h
      rw [List.getElem?_eq_none (by omega)]
  · rfl
theorem refput_eq (k : Nat) (hk : 30 ≤ k) (m : List Int) (n p : Int) (hm : m.length ≤ 1000) (hb : BytesL m) : imprimaturref06_Put.f k m n p = some (if rightB m n = true ∧ 0 ≤ p ∧ p < n then (putL m p.toNat, 0) else ([], 1)) := by
  obtain ⟨k, rfl⟩ : ∃ j, k = j + 1 := ⟨k - 1, by omega⟩
  unfold imprimaturref06_Put.f
  rw [refright_eq _ (by omega) m n hm hb]
  simp only [Option.bind_some]
  by_cases h1 : rightB m n = true
  · rw [if_pos h1]
    have h2 := right_len h1
    by_cases h3 : p < 0
    · rw [if_pos h3, if_neg (by omega), imprimaturref06_Put.j0, if_pos rfl]
    rw [if_neg h3, imprimaturref06_Put.j0]
    by_cases h4 : p ≥ n
    · rw [if_pos (decide_eq_true h4), if_neg (by omega)]
    obtain ⟨p, rfl⟩ := Int.eq_ofNat_of_zero_le (show 0 ≤ p by omega)
    rw [if_neg (by simpa using h4), if_pos (by rw [List.length_nil]; omega), List.nil_append, refhas_eq k (by omega) m n p hm hb]
    simp only [Option.bind_some]
    have h5 : hasB m n p = bit m p := by unfold hasB; rw [h1, decide_eq_true (by omega), Int.toNat_natCast]; rfl
    rw [h5, if_pos (c := rightB m n = true ∧ 0 ≤ (p : Int) ∧ (p : Int) < n) ⟨h1, by omega, by omega⟩, Int.toNat_natCast, putL]
    by_cases h6 : bit m p = true
    · rw [if_pos h6, if_pos h6, set_self]
    · rw [if_neg h6, if_neg h6, idx8 _ (by omega), if_pos (by omega), if_pos (by omega), umod8, if_pos (by omega), rdn, Int.toNat_natCast]
  · rw [if_neg h1, imprimaturref06_Put.j0, if_pos rfl, if_neg (fun h => h1 h.1)]
/-- The first place that a map misses. -/
def firstNo (m : List Int) (n : Nat) : Nat → Nat → Nat
  | 0, i => i
  | d + 1, i => if bit m i = true then firstNo m n d (i + 1) else i
theorem missing_l (m : List Int) (n : Nat) (hm : m.length ≤ 1000) (hb : BytesL m) (hr : rightB m n = true) : ∀ (d k i : Nat), i + d = n → merkle_Missing.l0 (k + d + 1) m n n i = some (firstNo m n d i : Int) ∧ imprimaturref06_Missing.l0 (k + 20 + d + 1) m n i = some (firstNo m n d i : Int) := by
  have h2 := right_len hr
  intro d
  induction d with
  | zero =>
    intro k i hi
    constructor
    · rw [merkle_Missing.l0, if_neg (by omega), firstNo, ← hi]; rfl
    · rw [imprimaturref06_Missing.l0, if_neg (by omega), firstNo]
  | succ d ih =>
    intro k i hi
    have h5 : hasB m n i = bit m i := by unfold hasB; rw [hr, decide_eq_true (by omega), Int.toNat_natCast]; rfl
    obtain ⟨i1, i2⟩ := ih k (i + 1) (by omega)
    constructor
    · rw [show k + (d + 1) + 1 = (k + d + 1) + 1 by omega, merkle_Missing.l0, if_pos (by omega), has_eq m n i hm hb, h5, w64 (by omega) (by omega), show (i : Int) + 1 = ((i + 1 : Nat) : Int) by omega, i1, firstNo]
      simp only [Option.bind_some]
      split <;> rfl
    · rw [show k + 20 + (d + 1) + 1 = (k + 20 + d + 1) + 1 by omega, imprimaturref06_Missing.l0, if_pos (by omega), refhas_eq _ (by omega) m n i hm hb, h5, w64 (by omega) (by omega), show (i : Int) + 1 = ((i + 1 : Nat) : Int) by omega, i2, firstNo]
      simp only [Option.bind_some]
      split <;> rfl
theorem missing_eq (k : Nat) (hk : 5000 ≤ k) (m : List Int) (n : Int) (hm : m.length ≤ 1000) (hb : BytesL m) : merkle_Missing.f k m n = some (if rightB m n = true then (firstNo m n.toNat n.toNat 0 : Int) else -1) ∧ imprimaturref06_Missing.f k m n = some (if rightB m n = true then (firstNo m n.toNat n.toNat 0 : Int) else -1) := by
  unfold merkle_Missing.f imprimaturref06_Missing.f
  rw [right_eq m n hm hb, refright_eq k (by omega) m n hm hb]
  simp only [Option.bind_some]
  by_cases h1 : rightB m n = true
  · rw [if_pos h1, if_pos h1, if_pos h1]
    have h2 := right_len h1
    obtain ⟨n, rfl⟩ := Int.eq_ofNat_of_zero_le h2.1
    rw [Int.toNat_natCast]
    have h3 := (missing_l m n hm hb h1 n (k - n - 1) 0 (by omega)).1
    have h4 := (missing_l m n hm hb h1 n (k - 20 - n - 1) 0 (by omega)).2
    rw [show k - n - 1 + n + 1 = k by omega] at h3
    rw [show k - 20 - n - 1 + 20 + n + 1 = k by omega] at h4
    exact ⟨h3, h4⟩
  · rw [if_neg h1, if_neg h1, if_neg h1]
    exact ⟨rfl, rfl⟩
theorem zeros_bytes (c : Nat) : BytesL (List.replicate c 0) := fun x hx => by rw [List.mem_replicate] at hx; omega
theorem zeros_bit (c i : Nat) : bit (List.replicate c 0) i = false := by
  unfold bit
  have : (List.replicate c (0 : Int)).getD (i / 8) 0 = 0 := by
    rw [List.getD_eq_getElem?_getD, List.getElem?_replicate]
    split <;> rfl
  rw [this]
  unfold bt8
  simp
theorem zeros_right (n : Nat) (hn : n ≤ 4096) : rightB (List.replicate ((n + 7) / 8) 0) n = true := by
  unfold rightB
  rw [decide_eq_true (by rw [List.length_replicate, Int.toNat_natCast]; omega), Bool.true_and, List.all_eq_true]
  intro t _
  rw [zeros_bit]
  rfl
theorem empty_eq (n : Int) : merkle_Empty.f n = some (if 0 ≤ n ∧ n ≤ 4096 then (List.replicate ((n.toNat + 7) / 8) 0, 0) else ([], 1)) := by
  unfold merkle_Empty.f
  by_cases h1 : n < 0
  · rw [if_pos h1, if_neg (by omega)]
  by_cases h2 : n > 4096
  · rw [if_neg h1, if_pos h2, if_neg (by omega)]
  obtain ⟨n, rfl⟩ := Int.eq_ofNat_of_zero_le (show 0 ≤ n by omega)
  rw [if_neg h1, if_neg h2, w64 (x := (n : Int) + 7) (by omega) (by omega), show (n : Int) + 7 = ((n + 7 : Nat) : Int) by omega, idx8 _ (by omega), if_pos (by omega), Int.toNat_natCast, if_pos (by omega), if_pos (by omega), Int.toNat_natCast]
theorem same_bytes (x : List Int) : imprimaturref01_SameBytes.f x x = some true := by unfold imprimaturref01_SameBytes.f; simp
end Go.Proofs.YtdpdmmbdoeefbaaDoor.PCut
namespace Go.Proofs.YtdpdmmbdoeefbaaDoor.PMa
open Go.RowKit Go.Proofs.YtdpdmmbdoeefbaaDoorW.PrintWords Go.Proofs.YtdpdmmbdoeefbaaDoorW.PrintLast Go.Proofs.YtdpdmmbdoeefbaaDoorW.PrintMore Go.Proofs.YtdpdmmbdoeefbaaDoor.X Go.Proofs.YtdpdmmbdoeefbaaDoor.PCut
theorem maps_law (hkn : imprimaturlaw06_known.f = some true) (m : List Int) (n p : Int) (hb : BytesL m) : ∃ k, imprimaturlaw06_MerkleMaps.f k m n p = some true := by
  refine ⟨6000, ?_⟩
  unfold imprimaturlaw06_MerkleMaps.f
  rw [hkn]
  simp only [Option.bind_some]
  by_cases hm : (m.length : Int) > 1000
  · rw [if_pos hm]
  have hm' : m.length ≤ 1000 := by omega
  rw [if_neg hm, put_eq m n p hm' hb, refput_eq _ (by omega) m n p hm' hb, empty_eq]
  simp only [Option.bind_some]
  generalize (if rightB m n = true ∧ 0 ≤ p ∧ p < n then (putL m p.toNat, (0 : Int)) else ([], 1)) = z
  have hj : imprimaturlaw06_MerkleMaps.j0 6000 m n p z.1 z.2 z.1 z.2 false = some true := by
    rw [imprimaturlaw06_MerkleMaps.j0, if_neg (by decide), right_eq m n hm' hb, refright_eq _ (by omega) m n hm' hb]
    simp only [Option.bind_some, beq_self_eq_true]
    rw [if_pos trivial, same_bytes]
    simp only [Option.bind_some]
    rw [if_pos trivial, if_pos trivial, has_eq m n p hm' hb, refhas_eq _ (by omega) m n p hm' hb]
    simp only [Option.bind_some, beq_self_eq_true]
    rw [if_pos trivial, (missing_eq 5999 (by omega) m n hm' hb).1, (missing_eq 5999 (by omega) m n hm' hb).2]
    simp only [Option.bind_some]
    rw [if_pos trivial, hkn]
    rfl
  by_cases h1 : n ≥ 0
  · rw [if_pos h1]
    by_cases h2 : n ≤ 4096
    · obtain ⟨n, rfl⟩ := Int.eq_ofNat_of_zero_le h1
      have hz := zeros_right n (by omega)
      have hzl : (List.replicate (((n : Int).toNat + 7) / 8) (0 : Int)).length ≤ 1000 := by rw [List.length_replicate, Int.toNat_natCast]; omega
      rw [if_pos (c := 0 ≤ (n : Int) ∧ (n : Int) ≤ 4096) ⟨h1, h2⟩]
      simp only
      rw [show (((0 : Int) == 0) != decide ((n : Int) ≤ 4096)) = false by rw [decide_eq_true h2]; rfl, if_neg (by decide), if_pos trivial, refright_eq _ (by omega) _ _ hzl (zeros_bytes _), (missing_eq 6000 (by omega) _ _ hzl (zeros_bytes _)).2]
      rw [Int.toNat_natCast, hz]
      simp only [Option.bind_some]
      rw [if_pos trivial, if_pos trivial]
      have : firstNo (List.replicate ((n + 7) / 8) 0) n n 0 = 0 := by
        cases n with
        | zero => rfl
        | succ n => rw [firstNo, if_neg (by rw [zeros_bit]; decide)]
      rw [this]
      exact hj
    · rw [if_neg (c := 0 ≤ n ∧ n ≤ 4096) (by omega)]
      simp only
      rw [show (((1 : Int) == 0) != decide (n ≤ 4096)) = false by rw [decide_eq_false h2]; rfl, if_neg (by decide), if_neg (by decide)]
      exact hj
  · rw [if_neg h1, if_neg (c := 0 ≤ n ∧ n ≤ 4096) (by omega)]
    simp only
    rw [show (((1 : Int) == 0) != false) = false from rfl, if_neg (by decide), if_neg (by decide)]
    exact hj
theorem MerkleMaps_walk (a0 : Option Addr) (len0 cap0 : Nat) (z0 : List Int) (a1 : Int) (a2 : Int) (w : World) (HG : Glb w) (w0 : (a0 = none ∧ len0 = 0 ∧ cap0 = 0 ∧ z0 = []) ∨ ∃ x, a0 = some x ∧ len0 ≤ cap0 ∧ cap0 ≤ maxLen ∧ z0.length = cap0 ∧ (∀ i, i < z0.length → w.cell? (x.add i) = some (.int .u8 (z0.getD i 0))) ∧ ∀ n ∈ z0, (Lit.int .u8 n).wf = true) (y0 : len0 * 1 ≤ 140737488351232) (w1 : (Lit.int .i64 a1).wf = true) (w2 : (Lit.int .i64 a2).wf = true) :
    Calls Tryd.prog 4 #[.slice a0 len0 cap0, .int .i64 a1, .int .i64 a2] w fun e w' => e = .returned (.bool true) ∧ Below w.heap.size w w' :=
  imprimaturlaw06_MerkleMaps.walk (fun l0 a1 a2 _ _ hb _ _ => maps_law rfl l0 a1 a2 (fun x hx => byte_of (hb x hx))) a0 len0 cap0 z0 a1 a2 w HG w0 y0 w1 w2
end Go.Proofs.YtdpdmmbdoeefbaaDoor.PMa
