/- Plain lemmas for one law. -/
import Derived.Test.YtdpdmmbdoeefbaaDoorPCutx1
import Derived.Test.YtdpdmmbdoeefbaaDoorPCutx2
import Derived.Test.YtdpdmmbdoeefbaaDoorPCutx4
import Derived.Test.YtdpdmmbdoeefbaaDoorPCutx5
import Derived.Test.YtdpdmmbdoeefbaaDoorPPux1
set_option linter.unusedVariables false
namespace Go.Proofs.YtdpdmmbdoeefbaaDoor.PCut
open Go.RowKit Go.Proofs.YtdpdmmbdoeefbaaDoorW.PrintWords Go.Proofs.YtdpdmmbdoeefbaaDoorW.PrintLast Go.Proofs.YtdpdmmbdoeefbaaDoorW.PrintMore Go.Proofs.YtdpdmmbdoeefbaaDoor.X
theorem w64 {x : Int} (h : -9223372036854775808 ≤ x) (h' : x ≤ 9223372036854775807) : wrap64 x = x := by unfold wrap64; omega
theorem u64w (x : Int) : IntKind.u64.wrap x = x % 18446744073709551616 := rfl
/-- A byte's bit. -/
def bt8 (x : Int) (r : Nat) : Bool := decide ((x / 2 ^ r) % 2 = 1)
theorem tabA : ∀ x : Fin 256, ∀ r : Fin 8, decide (((x.val : Int) / 2 ^ r.val) = 0) = (List.range (8 - r.val)).all (fun t => !bt8 (x.val : Int) (r.val + t)) := by decide +kernel
theorem tabB : ∀ x : Fin 256, ∀ r : Fin 8, (Go.bits .and .u8 ((x.val : Int) / 2 ^ r.val) 1 == 1) = bt8 (x.val : Int) r.val := by decide +kernel
theorem tabC : ∀ x : Fin 256, ∀ r : Fin 8, Go.bits .or .u8 (x.val : Int) (shl .u8 1 (r.val : Int)) = if bt8 (x.val : Int) r.val = true then (x.val : Int) else ((x.val : Int) + shl .u8 1 (r.val : Int)) % 256 := by decide +kernel
def BytesL (m : List Int) : Prop := ∀ x ∈ m, 0 ≤ x ∧ x < 256
theorem BytesL.get {m : List Int} (h : BytesL m) (i : Nat) : 0 ≤ m.getD i 0 ∧ m.getD i 0 < 256 := by
  rw [List.getD_eq_getElem?_getD]
  by_cases hi : i < m.length
  · rw [List.getElem?_eq_getElem hi]; exact h _ (List.getElem_mem hi)
  · rw [List.getElem?_eq_none (by omega)]; decide
theorem shr8 (x : Int) (r : Nat) (hr : r < 8) : shr .u8 x (r : Int) = x / 2 ^ r := by
  unfold shr
  rw [show min (r : Int).toNat IntKind.u8.bits = r by rw [Int.toNat_natCast]; exact Nat.min_eq_left (by show r ≤ 8; omega)]
theorem byteA {x : Int} (hx : 0 ≤ x ∧ x < 256) (r : Nat) (hr : r < 8) : decide (x / 2 ^ r = 0) = (List.range (8 - r)).all (fun t => !bt8 x (r + t)) := by
  have := tabA ⟨x.toNat, by omega⟩ ⟨r, hr⟩
  simp only at this
  rwa [Int.toNat_of_nonneg hx.1] at this
theorem byteB {x : Int} (hx : 0 ≤ x ∧ x < 256) (r : Nat) (hr : r < 8) : (Go.bits .and .u8 (x / 2 ^ r) 1 == 1) = bt8 x r := by
  have := tabB ⟨x.toNat, by omega⟩ ⟨r, hr⟩
  simp only at this
  rwa [Int.toNat_of_nonneg hx.1] at this
theorem byteC {x : Int} (hx : 0 ≤ x ∧ x < 256) (r : Nat) (hr : r < 8) : Go.bits .or .u8 x (shl .u8 1 (r : Int)) = if bt8 x r = true then x else (x + shl .u8 1 (r : Int)) % 256 := by
  have := tabC ⟨x.toNat, by omega⟩ ⟨r, hr⟩
  simp only at this
  rwa [Int.toNat_of_nonneg hx.1] at this
/-- A map's bit. -/
def bit (m : List Int) (i : Nat) : Bool := bt8 (m.getD (i / 8) 0) (i % 8)
/-- A map is right. -/
def rightB (m : List Int) (n : Int) : Bool := decide (0 ≤ n ∧ n ≤ 4096 ∧ m.length = (n.toNat + 7) / 8) && (List.range (8 * m.length - n.toNat)).all (fun t => !bit m (n.toNat + t))
theorem idx8 (i : Nat) (hi : i < 1000000) : wrap64 (Int.tdiv (i : Int) 8) = ((i / 8 : Nat) : Int) := by
  rw [Int.tdiv_eq_ediv_of_nonneg (by omega), w64 (by omega) (by omega)]; omega
theorem mod8 (i : Nat) : Int.tmod (i : Int) 8 = ((i % 8 : Nat) : Int) := by rw [Int.tmod_eq_emod_of_nonneg (by omega)]; omega
theorem umod8 (i : Nat) : IntKind.u64.wrap (Int.tmod (i : Int) 8) = ((i % 8 : Nat) : Int) := by rw [mod8, u64w]; omega
theorem rdn (m : List Int) (i : Nat) : rd m (i : Int) = m.getD i 0 := by unfold rd; rw [Int.toNat_natCast]
theorem bit_last (m : List Int) (n : Nat) (hl : m.length = (n + 7) / 8) (hn : n % 8 ≠ 0) (t : Nat) (ht : t < 8 * m.length - n) : bit m (n + t) = bt8 (m.getD (m.length - 1) 0) (n % 8 + t) := by
  unfold bit
  rw [show (n + t) / 8 = m.length - 1 by omega, show (n + t) % 8 = n % 8 + t by omega]
theorem right_eq (m : List Int) (n : Int) (hm : m.length ≤ 1000) (hb : BytesL m) : merkle_Right.f m n = some (rightB m n) := by
  unfold merkle_Right.f rightB
  by_cases h1 : n < 0
  · rw [if_pos h1, decide_eq_false (by omega), Bool.false_and]
  by_cases h2 : n > 4096
  · rw [if_neg h1, if_pos h2, decide_eq_false (by omega), Bool.false_and]
  obtain ⟨n, rfl⟩ := Int.eq_ofNat_of_zero_le (show 0 ≤ n by omega)
  rw [if_neg h1, if_neg h2, w64 (x := (n : Int) + 7) (by omega) (by omega), show (n : Int) + 7 = ((n + 7 : Nat) : Int) by omega, idx8 _ (by omega), Int.toNat_natCast]
  by_cases h3 : (m.length : Int) = (((n + 7) / 8 : Nat) : Int)
  · rw [if_pos h3, mod8, decide_eq_true (by omega), Bool.true_and]
    by_cases h4 : n % 8 = 0
    · rw [if_pos (by omega), show 8 * m.length - n = 0 by omega]
      rfl
    · rw [if_neg (by omega), w64 (x := (m.length : Int) - 1) (by omega) (by omega), if_pos (by omega), if_pos (by omega), if_pos (by omega), show (m.length : Int) - 1 = ((m.length - 1 : Nat) : Int) by omega, rdn, shr8 _ _ (by omega)]
      have h5 := byteA (hb.get (m.length - 1)) (n % 8) (by omega)
      have h6 : ((m.getD (m.length - 1) 0 / 2 ^ (n % 8)) == 0) = decide (m.getD (m.length - 1) 0 / 2 ^ (n % 8) = 0) := rfl
      rw [h6, h5, show 8 - n % 8 = 8 * m.length - n by omega]
      congr 1
      rw [Bool.eq_iff_iff, List.all_eq_true, List.all_eq_true]
      refine ⟨fun h t ht => ?_, fun h t ht => ?_⟩
      · rw [bit_last m n (by omega) h4 t (List.mem_range.1 ht)]; exact h t ht
      · rw [← bit_last m n (by omega) h4 t (List.mem_range.1 ht)]; exact h t ht
  · rw [if_neg h3, decide_eq_false (by omega), Bool.false_and]
theorem bit_tmod {m : List Int} (hb : BytesL m) (i : Nat) : Int.tmod (m.getD (i / 8) 0 / 2 ^ (i % 8)) 2 = (m.getD (i / 8) 0 / 2 ^ (i % 8)) % 2 := Int.tmod_eq_emod_of_nonneg (Int.ediv_nonneg (hb.get _).1 (Int.pow_nonneg (by decide)))
theorem refright_l (m : List Int) (hm : m.length ≤ 1000) (hb : BytesL m) : ∀ (d k i : Nat), i + d = 8 * m.length → imprimaturref06_Right.l0 (k + d + 1) m i = some ((List.range d).all (fun t => !bit m (i + t))) := by
  intro d
  induction d with
  | zero =>
    intro k i hi
    rw [imprimaturref06_Right.l0, w64 (by omega) (by omega), if_neg (by omega)]
    rfl
  | succ d ih =>
    intro k i hi
    rw [show k + (d + 1) + 1 = (k + d + 1) + 1 by omega, imprimaturref06_Right.l0, w64 (x := (m.length : Int) * 8) (by omega) (by omega), if_pos (by omega), idx8 _ (by omega), if_pos (by omega), if_pos (by omega), umod8, if_pos (by omega), rdn, shr8 _ _ (by omega), w64 (by omega) (by omega), show (i : Int) + 1 = ((i + 1 : Nat) : Int) by omega, ih k (i + 1) (by omega), List.range_succ_eq_map, List.all_cons, List.all_map, bit_tmod hb]
    simp only [Nat.add_zero]
    by_cases h : (m.getD (i / 8) 0 / 2 ^ (i % 8)) % 2 = 1
    · rw [if_pos h, show bit m i = true from decide_eq_true h]
      rfl
    · rw [if_neg h, show bit m i = false from decide_eq_false h]
      simp only [Bool.not_false, Bool.true_and]
      congr 2
      funext t
      simp only [Function.comp]
      rw [show i + 1 + t = i + (t + 1) by omega]
theorem refright_eq (k : Nat) (hk : 20 ≤ k) (m : List Int) (n : Int) (hm : m.length ≤ 1000) (hb : BytesL m) : imprimaturref06_Right.f k m n = some (rightB m n) := by
  obtain ⟨k, rfl⟩ : ∃ j, k = (j + 8) + 1 := ⟨k - 9, by omega⟩
  unfold imprimaturref06_Right.f rightB
  by_cases h1 : n < 0
  · rw [if_pos h1, imprimaturref06_Right.j0, if_pos rfl, decide_eq_false (by omega), Bool.false_and]
  by_cases h2 : n > 4096
  · rw [if_neg h1, if_pos h2, imprimaturref06_Right.j0, if_pos rfl, decide_eq_false (by omega), Bool.false_and]
  obtain ⟨n, rfl⟩ := Int.eq_ofNat_of_zero_le (show 0 ≤ n by omega)
  rw [if_neg h1, if_neg h2, w64 (x := (m.length : Int) * 8) (by omega) (by omega), Int.toNat_natCast]
  by_cases h3 : (m.length : Int) * 8 < n
  · rw [if_pos h3, imprimaturref06_Right.j0, if_pos rfl, decide_eq_false (by omega), Bool.false_and]
  rw [if_neg h3, w64 (x := (m.length : Int) * 8 - n) (by omega) (by omega), imprimaturref06_Right.j0]
  by_cases h4 : (m.length : Int) * 8 - n > 7
  · rw [if_pos (decide_eq_true h4), decide_eq_false (by omega), Bool.false_and]
  rw [if_neg (by simpa using h4), decide_eq_true (by omega), Bool.true_and]
  by_cases h5 : (m.length : Int) = 0
  · rw [if_pos h5, show 8 * m.length - n = 0 by omega]
    rfl
  · rw [if_neg h5]
    have := refright_l m hm hb (8 * m.length - n) (k + 7 - (8 * m.length - n)) n (by omega)
    rwa [show k + 7 - (8 * m.length - n) + (8 * m.length - n) + 1 = k + 8 by omega] at this
/-- A place is in a map. -/
def hasB (m : List Int) (n p : Int) : Bool := rightB m n && decide (0 ≤ p ∧ p < n) && bit m p.toNat
theorem right_len {m : List Int} {n : Int} (h : rightB m n = true) : 0 ≤ n ∧ n ≤ 4096 ∧ m.length = (n.toNat + 7) / 8 := by
  unfold rightB at h
  rw [Bool.and_eq_true] at h
  exact of_decide_eq_true h.1
theorem has_eq (m : List Int) (n p : Int) (hm : m.length ≤ 1000) (hb : BytesL m) : merkle_Has.f m n p = some (hasB m n p) := by
  unfold merkle_Has.f hasB
  rw [right_eq m n hm hb]
  simp only [Option.bind_some]
  by_cases h1 : rightB m n = true
  · rw [if_pos h1, h1, Bool.true_and]
    have h2 := right_len h1
    by_cases h3 : p ≥ 0
    · rw [if_pos h3]
      by_cases h4 : p < n
      · obtain ⟨p, rfl⟩ := Int.eq_ofNat_of_zero_le h3
        rw [if_pos h4, idx8 _ (by omega), if_pos (by omega), if_pos (by omega), mod8, if_pos (by omega), rdn, shr8 _ _ (by omega), byteB (hb.get _) _ (by omega), decide_eq_true (by omega), Bool.true_and, Int.toNat_natCast]
        rfl
      · rw [if_neg h4, decide_eq_false (by omega), Bool.false_and]
    · rw [if_neg h3, decide_eq_false (by omega), Bool.false_and]
  · rw [if_neg h1, Bool.eq_false_iff.2 h1, Bool.false_and, Bool.false_and]
theorem refhas_eq (k : Nat) (hk : 20 ≤ k) (m : List Int) (n p : Int) (hm : m.length ≤ 1000) (hb : BytesL m) : imprimaturref06_Has.f k m n p = some (hasB m n p) := by
  unfold imprimaturref06_Has.f hasB
  by_cases h0 : (m.length : Int) > 0
  · rw [if_pos h0, refright_eq k hk m n hm hb]
    simp only [Option.bind_some]
    by_cases h1 : rightB m n = true
    · rw [if_pos h1, h1, Bool.true_and]
      have h2 := right_len h1
      by_cases h3 : p ≥ 0
      · rw [if_pos h3]
        by_cases h4 : p < n
        · obtain ⟨p, rfl⟩ := Int.eq_ofNat_of_zero_le h3
          rw [if_pos h4, idx8 _ (by omega), if_pos (by omega), if_pos (by omega), umod8, if_pos (by omega), rdn, shr8 _ _ (by omega), bit_tmod hb, decide_eq_true (by omega), Bool.true_and, Int.toNat_natCast]
          rfl
        · rw [if_neg h4, decide_eq_false (by omega), Bool.false_and]
      · rw [if_neg h3, decide_eq_false (by omega), Bool.false_and]
    · rw [if_neg h1, Bool.eq_false_iff.2 h1, Bool.false_and, Bool.false_and]
  · rw [if_neg h0]
    congr 1
    symm
    by_cases h1 : rightB m n = true
    · have h2 := right_len h1
      rw [decide_eq_false (by omega), Bool.and_false, Bool.false_and]
    · rw [Bool.eq_false_iff.2 h1, Bool.false_and, Bool.false_and]
/-- A map with a place more. -/
def putL (m : List Int) (p : Nat) : List Int := m.set (p / 8) (if bit m p = true then m.getD (p / 8) 0 else (m.getD (p / 8) 0 + shl .u8 1 ((p % 8 : Nat) : Int)) % 256)
theorem put_eq (m : List Int) (n p : Int) (hm : m.length ≤ 1000) (hb : BytesL m) : merkle_Put.f m n p = some (if rightB m n = true ∧ 0 ≤ p ∧ p < n then (putL m p.toNat, 0) else ([], 1)) := by
  unfold merkle_Put.f
  rw [right_eq m n hm hb]
  simp only [Option.bind_some]
  by_cases h1 : rightB m n = true
  · rw [if_pos h1]
    have h2 := right_len h1
    by_cases h3 : p < 0
    · rw [if_pos h3, if_neg (by omega)]
    by_cases h4 : p ≥ n
    · rw [if_neg h3, if_pos h4, if_neg (by omega)]
    obtain ⟨p, rfl⟩ := Int.eq_ofNat_of_zero_le (show 0 ≤ p by omega)
    rw [if_neg h3, if_neg h4, if_pos (by rw [List.length_nil]; omega), idx8 _ (by omega), List.nil_append, if_pos (by omega), if_pos (by omega), mod8, if_pos (by omega), rdn, byteC (hb.get _) _ (by omega), Int.toNat_natCast, if_pos (c := rightB m n = true ∧ 0 ≤ (p : Int) ∧ (p : Int) < n) ⟨h1, by omega, by omega⟩, Int.toNat_natCast]
    rfl
  · rw [if_neg h1, if_neg (fun h => h1 h.1)]
/-- The first place that a map misses. -/
def firstNo (m : List Int) (n : Nat) : Nat → Nat → Nat
  | 0, i => i
  | d + 1, i => if bit m i = true then firstNo m n d (i + 1) else i
theorem missing_l (m : List Int) (n : Nat) (hm : m.length ≤ 1000) (hb : BytesL m) (hr : rightB m n = true) : ∀ (d k i : Nat), i + d = n → merkle_Missing.l0 (k + d + 1) m n n i = some (firstNo m n d i : Int) ∧ imprimaturref06_Missing.l0 (k + 20 + d + 1) m n i = some (firstNo m n d i : Int) := by
  have h2 := right_len hr
  intro d
  induction d with
  | zero =>
    intro k i hi
    constructor
    · rw [merkle_Missing.l0, if_neg (by omega), firstNo, ← hi]; rfl
    · rw [imprimaturref06_Missing.l0, if_neg (by omega), firstNo]
  | succ d ih =>
    intro k i hi
    have h5 : hasB m n i = bit m i := by unfold hasB; rw [hr, decide_eq_true (by omega), Int.toNat_natCast]; rfl
    obtain ⟨i1, i2⟩ := ih k (i + 1) (by omega)
    constructor
    · rw [show k + (d + 1) + 1 = (k + d + 1) + 1 by omega, merkle_Missing.l0, if_pos (by omega), has_eq m n i hm hb, h5, w64 (by omega) (by omega), show (i : Int) + 1 = ((i + 1 : Nat) : Int) by omega, i1, firstNo]
      simp only [Option.bind_some]
      split <;> rfl
    · rw [show k + 20 + (d + 1) + 1 = (k + 20 + d + 1) + 1 by omega, imprimaturref06_Missing.l0, if_pos (by omega), refhas_eq _ (by omega) m n i hm hb, h5, w64 (by omega) (by omega), show (i : Int) + 1 = ((i + 1 : Nat) : Int) by omega, i2, firstNo]
      simp only [Option.bind_some]
      split <;> rfl
theorem missing_eq (k : Nat) (hk : 5000 ≤ k) (m : List Int) (n : Int) (hm : m.length ≤ 1000) (hb : BytesL m) : merkle_Missing.f k m n = some (if rightB m n = true then (firstNo m n.toNat n.toNat 0 : Int) else -1) ∧ imprimaturref06_Missing.f k m n = some (if rightB m n = true then (firstNo m n.toNat n.toNat 0 : Int) else -1) := by
  unfold merkle_Missing.f imprimaturref06_Missing.f
  rw [right_eq m n hm hb, refright_eq k (by omega) m n hm hb]
  simp only [Option.bind_some]
  by_cases h1 : rightB m n = true
  · rw [if_pos h1, if_pos h1, if_pos h1]
    have h2 := right_len h1
    obtain ⟨n, rfl⟩ := Int.eq_ofNat_of_zero_le h2.1
    rw [Int.toNat_natCast]
    have h3 := (missing_l m n hm hb h1 n (k - n - 1) 0 (by omega)).1
    have h4 := (missing_l m n hm hb h1 n (k - 20 - n - 1) 0 (by omega)).2
    rw [show k - n - 1 + n + 1 = k by omega] at h3
    rw [show k - 20 - n - 1 + 20 + n + 1 = k by omega] at h4
    exact ⟨h3, h4⟩
  · rw [if_neg h1, if_neg h1, if_neg h1]
    exact ⟨rfl, rfl⟩
theorem zeros_bytes (c : Nat) : BytesL (List.replicate c 0) := fun x hx => by rw [List.mem_replicate] at hx; omega
theorem zeros_bit (c i : Nat) : bit (List.replicate c 0) i = false := by
  unfold bit
  have : (List.replicate c (0 : Int)).getD (i / 8) 0 = 0 := by
    rw [List.getD_eq_getElem?_getD, List.getElem?_replicate]
    split <;> rfl
  rw [this]
  unfold bt8
  simp
theorem zeros_right (n : Nat) (hn : n ≤ 4096) : rightB (List.replicate ((n + 7) / 8) 0) n = true := by
  unfold rightB
  rw [decide_eq_true (by rw [List.length_replicate, Int.toNat_natCast]; omega), Bool.true_and, List.all_eq_true]
  intro t _
  rw [zeros_bit]
  rfl
theorem empty_eq (n : Int) : merkle_Empty.f n = some (if 0 ≤ n ∧ n ≤ 4096 then (List.replicate ((n.toNat + 7) / 8) 0, 0) else ([], 1)) := by
  unfold merkle_Empty.f
  by_cases h1 : n < 0
  · rw [if_pos h1, if_neg (by omega)]
  by_cases h2 : n > 4096
  · rw [if_neg h1, if_pos h2, if_neg (by omega)]
  obtain ⟨n, rfl⟩ := Int.eq_ofNat_of_zero_le (show 0 ≤ n by omega)
  rw [if_neg h1, if_neg h2, w64 (x := (n : Int) + 7) (by omega) (by omega), show (n : Int) + 7 = ((n + 7 : Nat) : Int) by omega, idx8 _ (by omega), if_pos (by omega), Int.toNat_natCast, if_pos (by omega), if_pos (by omega), Int.toNat_natCast]
def newB (x : Int) (r : Nat) : Int := if bt8 x r = true then x else (x + shl .u8 1 (r : Int)) % 256
theorem tabD : ∀ x : Fin 256, ∀ r : Fin 8, ∀ s : Fin 8, bt8 (newB (x.val : Int) r.val) s.val = (bt8 (x.val : Int) s.val || decide (s.val = r.val)) := by decide +kernel
theorem byteD {x : Int} (hx : 0 ≤ x ∧ x < 256) (r s : Nat) (hr : r < 8) (hs : s < 8) : bt8 (newB x r) s = (bt8 x s || decide (s = r)) := by
  have := tabD ⟨x.toNat, by omega⟩ ⟨r, hr⟩ ⟨s, hs⟩
  simp only at this
  rwa [Int.toNat_of_nonneg hx.1] at this
theorem newB_byte {x : Int} (hx : 0 ≤ x ∧ x < 256) (r : Nat) : 0 ≤ newB x r ∧ newB x r < 256 := by unfold newB; split <;> omega
theorem putL_eq (m : List Int) (p : Nat) : putL m p = m.set (p / 8) (newB (m.getD (p / 8) 0) (p % 8)) := rfl
theorem putL_bytes {m : List Int} (hb : BytesL m) (p : Nat) : BytesL (putL m p) := by
  intro x hx
  rw [putL_eq] at hx
  rcases List.mem_or_eq_of_mem_set hx with h | h
  · exact hb x h
  · rw [h]; exact newB_byte (hb.get _) _
theorem putL_length (m : List Int) (p : Nat) : (putL m p).length = m.length := by rw [putL_eq, List.length_set]
theorem putL_bit {m : List Int} (hb : BytesL m) (p q : Nat) (hp : p / 8 < m.length) : bit (putL m p) q = (bit m q || decide (q = p)) := by
  unfold bit
  rw [putL_eq]
  by_cases h : q / 8 = p / 8
  · rw [h, List.getD_eq_getElem?_getD, List.getElem?_set_self hp, Option.getD_some, byteD (hb.get _) _ _ (by omega) (by omega)]
    congr 1
    rw [decide_eq_decide]
    omega
  · rw [List.getD_eq_getElem?_getD, List.getElem?_set_ne (by omega), ← List.getD_eq_getElem?_getD, decide_eq_false (by omega), Bool.or_false]
/-- A map of n places holds what S tells. -/
structure Inv (m : List Int) (n : Nat) (S : Nat → Bool) : Prop where
  right : rightB m n = true
  bytes : BytesL m
  bits : ∀ p, p < n → bit m p = S p
theorem Inv.len {m : List Int} {n : Nat} {S : Nat → Bool} (h : Inv m n S) : n ≤ 4096 ∧ m.length = (n + 7) / 8 := by
  have := right_len h.right
  rw [Int.toNat_natCast] at this
  exact ⟨by omega, this.2.2⟩
theorem Inv.put {m : List Int} {n : Nat} {S : Nat → Bool} (h : Inv m n S) {p : Nat} (hp : p < n) : Inv (putL m p) n (fun q => S q || decide (q = p)) := by
  have hl := h.len
  refine ⟨?_, putL_bytes h.bytes p, fun q hq => by rw [putL_bit h.bytes p q (by omega), h.bits q hq]⟩
  have hr := h.right
  unfold rightB at hr ⊢
  rw [Bool.and_eq_true] at hr ⊢
  refine ⟨by rw [putL_length]; exact hr.1, ?_⟩
  rw [putL_length, List.all_eq_true]
  intro t ht
  have h1 := List.all_eq_true.1 hr.2 t ht
  rw [Int.toNat_natCast] at h1 ⊢
  rw [putL_bit h.bytes p _ (by omega), decide_eq_false (by omega), Bool.or_false]
  exact h1
theorem Inv.more {m : List Int} {n : Nat} {S T : Nat → Bool} (h : Inv m n S) (hT : ∀ p, p < n → S p = T p) : Inv m n T := ⟨h.right, h.bytes, fun p hp => (h.bits p hp).trans (hT p hp)⟩
theorem Inv.put_f {m : List Int} {n : Nat} {S : Nat → Bool} (h : Inv m n S) {p : Nat} (hp : p < n) : merkle_Put.f m n p = some (putL m p, 0) := by
  have hl := h.len
  rw [put_eq m n p (by omega) h.bytes, if_pos ⟨h.right, by omega, by omega⟩, Int.toNat_natCast]
def am (a n : Int) : Int := (imprimaturref01_Among.f a n).getD 0
theorem am_zero (a : Int) (n : Int) (h : n < 1) : imprimaturref01_Among.f a n = some 0 := by unfold imprimaturref01_Among.f; rw [if_pos h]
theorem am_eq (a : Int) (n : Nat) (h : 1 ≤ n) (h' : n ≤ 10000) : imprimaturref01_Among.f a n = some (am a n) ∧ 0 ≤ am a n ∧ am a n < n := by
  have hlt : Int.tmod a n < n := Int.tmod_lt_of_pos a (by omega)
  have hgt : -(n : Int) < Int.tmod a n := Int.lt_tmod_of_pos a (by omega)
  have he : imprimaturref01_Among.f a n = some (if Int.tmod a n < 0 then Int.tmod a n + n else Int.tmod a n) := by
    unfold imprimaturref01_Among.f
    rw [if_neg (by omega), if_neg (by omega)]
    split
    · rw [w64 (by omega) (by omega)]
    · rfl
  unfold am
  rw [he]
  refine ⟨rfl, ?_⟩
  simp only [Option.getD_some]
  split <;> omega
theorem firstNo_all (m : List Int) (n : Nat) (h : ∀ p, p < n → bit m p = true) : ∀ (d i : Nat), i + d = n → firstNo m n d i = n := by
  intro d
  induction d with
  | zero => intro i hi; rw [firstNo]; omega
  | succ d ih => intro i hi; rw [firstNo, if_pos (h i (by omega))]; exact ih (i + 1) (by omega)
/-- What the places of a row tell. -/
def anyBit (l : List Int) (n : Nat) (i : Nat) (q : Nat) : Bool := (List.range i).any (fun j => decide (am (l.getD j 0) n = (q : Int)))
theorem anyBit_succ (l : List Int) (n i q : Nat) : anyBit l n (i + 1) q = (anyBit l n i q || decide (am (l.getD i 0) n = (q : Int))) := by
  unfold anyBit
  rw [List.range_succ, List.any_append]
  simp
end Go.Proofs.YtdpdmmbdoeefbaaDoor.PCut
namespace Go.Proofs.YtdpdmmbdoeefbaaDoor.PPu
open Go.RowKit Go.Proofs.YtdpdmmbdoeefbaaDoorW.PrintWords Go.Proofs.YtdpdmmbdoeefbaaDoorW.PrintLast Go.Proofs.YtdpdmmbdoeefbaaDoorW.PrintMore Go.Proofs.YtdpdmmbdoeefbaaDoor.X Go.Proofs.YtdpdmmbdoeefbaaDoor.PCut
theorem puts_l2 (hkn : imprimaturlaw06_known.f = some true) (n : Nat) (hn : n ≤ 4096) : ∀ (d k i : Nat) (m : List Int) (S : Nat → Bool), i + d = n → 6000 ≤ k → Inv m n S → (∀ p, p < i → S p = true) → imprimaturlaw06_MerklePuts.l2 (k + d + 1) n m i = some true := by
  intro d
  induction d with
  | zero =>
    intro k i m S hi hk hI hS
    have hl := hI.len
    have hall : ∀ p, p < n → bit m p = true := fun p hp => by rw [hI.bits p hp]; exact hS p (by omega)
    rw [imprimaturlaw06_MerklePuts.l2, if_neg (by omega), (missing_eq k (by omega) m n (by omega) hI.bytes).1, if_pos hI.right, Option.bind_some, Int.toNat_natCast, firstNo_all m n hall n 0 (by omega), if_pos rfl, right_eq m n (by omega) hI.bytes, hI.right, Option.bind_some, if_pos rfl, hkn, Option.bind_some]
  | succ d ih =>
    intro k i m S hi hk hI hS
    rw [show k + (d + 1) + 1 = (k + d + 1) + 1 by omega, imprimaturlaw06_MerklePuts.l2, if_pos (by omega), hI.put_f (by omega), Option.bind_some, if_pos (by rfl), w64 (by omega) (by omega), show (i : Int) + 1 = ((i + 1 : Nat) : Int) by omega]
    refine ih k (i + 1) _ _ (by omega) hk (hI.put (p := i) (by omega)) (fun p hp => ?_)
    by_cases h : p = i
    · simp [h]
    · simp [hS p (by omega)]
theorem puts_l1 (hkn : imprimaturlaw06_known.f = some true) (n : Nat) (hn : n ≤ 300) (l : List Int) (hl : l.length ≤ 200) (m : List Int) (K : Nat) (hK : K < max n 1) (hI : Inv m n (anyBit l n l.length)) (hn0 : n = 0 → m = []) : ∀ (d k i : Nat), i + d = l.length → 7000 ≤ k → imprimaturlaw06_MerklePuts.l1 (k + d + 1) n l m K (decide (0 < n) && anyBit l n i K) i = some true := by
  have hlen := hI.len
  intro d
  induction d with
  | zero =>
    intro k i hi hk
    obtain rfl : i = l.length := by omega
    rw [imprimaturlaw06_MerklePuts.l1, if_neg (by omega), has_eq m n K (by omega) hI.bytes]
    simp only [Option.bind_some]
    have hb : hasB m n K = (decide (0 < n) && anyBit l n l.length K) := by
      unfold hasB
      rw [hI.right, Bool.true_and, Int.toNat_natCast]
      by_cases h0 : 0 < n
      · rw [decide_eq_true (by omega), hI.bits K (by omega), decide_eq_true h0]
      · rw [decide_eq_false (by omega), decide_eq_false h0, Bool.false_and, Bool.false_and]
    rw [hb, if_neg (by simp)]
    have := puts_l2 hkn n (by omega) n (k - n - 1) 0 m _ (by omega) (by omega) hI (fun p hp => by omega)
    rw [show k - n - 1 + n + 1 = k by omega] at this
    exact this
  | succ d ih =>
    intro k i hi hk
    rw [show k + (d + 1) + 1 = (k + d + 1) + 1 by omega, imprimaturlaw06_MerklePuts.l1, if_pos (by omega), w64 (by omega) (by omega), show (i : Int) + 1 = ((i + 1 : Nat) : Int) by omega]
    have ihn := ih k (i + 1) (by omega) hk
    rw [anyBit_succ] at ihn
    by_cases h : (decide (0 < n) && anyBit l n i K) = true
    · rw [if_pos h]
      rw [Bool.and_eq_true] at h
      rw [h.1, h.2, Bool.true_or, Bool.true_and] at ihn
      exact ihn
    · rw [if_neg h]
      by_cases h0 : 0 < n
      · have ha := am_eq (l.getD i 0) n (by omega) (by omega)
        rw [decide_eq_true h0, Bool.true_and] at h ihn
        rw [Bool.eq_false_iff.2 h, Bool.false_or] at ihn
        rw [if_pos (by omega), if_pos (by omega), rdn, ha.1]
        simp only [Option.bind_some]
        exact ihn
      · rw [if_neg (by omega)]
        rw [decide_eq_false h0, Bool.false_and] at ihn
        exact ihn
theorem puts_l0 (hkn : imprimaturlaw06_known.f = some true) (n : Nat) (hn : n ≤ 300) (l : List Int) (hl : l.length ≤ 200) (o : Int) : ∀ (d k i : Nat) (m : List Int), i + d = l.length → 8000 ≤ k → Inv m n (anyBit l n i) → (n = 0 → m = []) → imprimaturlaw06_MerklePuts.l0 (k + 2 * d + 2) n l o m i = some true := by
  have hend : ∀ (k i : Nat) (m : List Int), 8000 ≤ k → Inv m n (anyBit l n l.length) → (n = 0 → m = []) → imprimaturlaw06_MerklePuts.j1 (k + 1) n l o m i false = some true := by
    intro k i m hk hI hm
    rw [imprimaturlaw06_MerklePuts.j1, if_neg (by decide)]
    obtain ⟨K, hK, hKe⟩ : ∃ K : Nat, K < max n 1 ∧ imprimaturref01_Among.f o n = some (K : Int) := by
      by_cases h0 : 0 < n
      · have ha := am_eq o n (by omega) (by omega)
        exact ⟨(am o n).toNat, by omega, by rw [ha.1, Int.toNat_of_nonneg ha.2.1]⟩
      · exact ⟨0, by omega, am_zero _ _ (by omega)⟩
    rw [hKe]
    simp only [Option.bind_some]
    have := puts_l1 hkn n hn l hl m K hK hI hm l.length (k - l.length - 1) 0 (by omega) (by omega)
    rw [show k - l.length - 1 + l.length + 1 = k by omega, show (decide (0 < n) && anyBit l n 0 K) = false by simp [anyBit]] at this
    exact this
  intro d
  induction d with
  | zero =>
    intro k i m hi hk hI hm
    obtain rfl : i = l.length := by omega
    rw [imprimaturlaw06_MerklePuts.l0, if_neg (by omega)]
    exact hend _ _ _ (by omega) hI hm
  | succ d ih =>
    intro k i m hi hk hI hm
    rw [show k + 2 * (d + 1) + 2 = (k + 2 * d + 2) + 1 + 1 by omega, imprimaturlaw06_MerklePuts.l0, if_pos (by omega)]
    by_cases h0 : 0 < n
    · have ha := am_eq (l.getD i 0) n (by omega) (by omega)
      obtain ⟨p, hp⟩ := Int.eq_ofNat_of_zero_le ha.2.1
      rw [show decide ((n : Int) > 0) = true from decide_eq_true (by omega), imprimaturlaw06_MerklePuts.j1, if_pos rfl, if_pos (by omega), if_pos (by omega), rdn, ha.1, hp, Option.bind_some, hI.put_f (p := p) (by omega), Option.bind_some, if_pos (by rfl), w64 (by omega) (by omega), show (i : Int) + 1 = ((i + 1 : Nat) : Int) by omega]
      refine ih k (i + 1) _ (by omega) hk ((hI.put (p := p) (by omega)).more (fun q hq => ?_)) (fun h => by omega)
      rw [anyBit_succ, hp]
      congr 1
      rw [decide_eq_decide]
      omega
    · rw [show decide ((n : Int) > 0) = false from decide_eq_false (by omega)]
      refine hend _ _ _ (by omega) (hI.more (fun p hp => by omega)) hm
theorem puts_law (hkn : imprimaturlaw06_known.f = some true) (a0 : Int) (l : List Int) (o : Int) : ∃ k, imprimaturlaw06_MerklePuts.f k a0 l o = some true := by
  refine ⟨9000, ?_⟩
  unfold imprimaturlaw06_MerklePuts.f
  rw [hkn]
  simp only [Option.bind_some]
  by_cases hl : (l.length : Int) > 200
  · rw [if_pos hl]
  have ha := am_eq a0 300 (by omega) (by omega)
  rw [if_neg hl, show imprimaturref01_Among.f a0 300 = _ from ha.1]
  obtain ⟨n, hn⟩ := Int.eq_ofNat_of_zero_le ha.2.1
  rw [show am a0 (300 : Nat) = (n : Int) from hn] at ha ⊢
  simp only [Option.bind_some]
  rw [empty_eq, if_pos (by omega), Int.toNat_natCast]
  simp only [Option.bind_some]
  rw [if_pos trivial]
  have := puts_l0 hkn n (by omega) l (by omega) o l.length (9000 - 2 * l.length - 2) 0 (List.replicate ((n + 7) / 8) 0) (by omega) (by omega) ⟨zeros_right n (by omega), zeros_bytes _, fun p _ => by rw [zeros_bit]; rfl⟩ (fun h => by subst h; rfl)
  rw [show 9000 - 2 * l.length - 2 + 2 * l.length + 2 = 9000 by omega] at this
  exact this
theorem MerklePuts_walk (a0 : Int) (a1 : Option Addr) (len1 cap1 : Nat) (z1 : List Int) (a2 : Int) (w : World) (HG : Glb w) (w0 : (Lit.int .i64 a0).wf = true) (w1 : (a1 = none ∧ len1 = 0 ∧ cap1 = 0 ∧ z1 = []) ∨ ∃ x, a1 = some x ∧ len1 ≤ cap1 ∧ cap1 ≤ maxLen ∧ z1.length = cap1 ∧ (∀ i, i < z1.length → w.cell? (x.add i) = some (.int .i64 (z1.getD i 0))) ∧ ∀ n ∈ z1, (Lit.int .i64 n).wf = true) (y1 : len1 * 8 ≤ 140737488351232) (w2 : (Lit.int .i64 a2).wf = true) :
    Calls Tryd.prog 6 #[.int .i64 a0, .slice a1 len1 cap1, .int .i64 a2] w fun e w' => e = .returned (.bool true) ∧ Below w.heap.size w w' :=
  imprimaturlaw06_MerklePuts.walk (fun a0 l1 a2 _ _ _ _ _ => puts_law rfl a0 l1 a2) a0 a1 len1 cap1 z1 a2 w HG w0 w1 y1 w2
end Go.Proofs.YtdpdmmbdoeefbaaDoor.PPu
