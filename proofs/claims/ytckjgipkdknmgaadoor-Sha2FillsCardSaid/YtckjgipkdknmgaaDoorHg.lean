/- take for either width; a hash of a text. -/
import Derived.Test.YtckjgipkdknmgaaDoorHf
namespace Go.Proofs.YtckjgipkdknmgaaDoor.H
open Go.RowKit Go.Proofs.YtckjgipkdknmgaaDoorW.PrintWords
theorem blocks32_from (K hs t : List Int) (q : Nat) : ∀ j, blocks32 K (blocks32 K hs t q) (t.drop (64 * q)) j = blocks32 K hs t (q + j)
  | 0 => rfl
  | j + 1 => by
    rw [show q + (j + 1) = (q + j) + 1 by omega]
    unfold blocks32
    rw [blocks32_from K hs t q j, List.drop_drop, show 64 * q + 64 * j = 64 * (q + j) by omega]
theorem blocks64_from (K hs t : List Int) (q : Nat) : ∀ j, blocks64 K (blocks64 K hs t q) (t.drop (128 * q)) j = blocks64 K hs t (q + j)
  | 0 => rfl
  | j + 1 => by
    rw [show q + (j + 1) = (q + j) + 1 by omega]
    unfold blocks64
    rw [blocks64_from K hs t q j, List.drop_drop, show 128 * q + 128 * j = 128 * (q + j) by omega]
theorem blocks32_congr (K hs t b : List Int) : ∀ k, 64 * k ≤ t.length → blocks32 K hs (t ++ b) k = blocks32 K hs t k
  | 0, _ => rfl
  | k + 1, h => by
    unfold blocks32
    rw [blocks32_congr K hs t b k (by omega), List.drop_append_of_le_length (by omega), List.take_append_of_le_length (by rw [List.length_drop]; omega)]
theorem blocks64_congr (K hs t b : List Int) : ∀ k, 128 * k ≤ t.length → blocks64 K hs (t ++ b) k = blocks64 K hs t k
  | 0, _ => rfl
  | k + 1, h => by
    unfold blocks64
    rw [blocks64_congr K hs t b k (by omega), List.drop_append_of_le_length (by omega), List.take_append_of_le_length (by rw [List.length_drop]; omega)]
/-- How many bytes a block has. -/
def bl (wide : Bool) : Nat := if wide then 128 else 64
def shV (wide : Bool) : Array Value := if wide then wideV else narrowV
/-- The words of either width behind q blocks of a text. -/
def W32 (wide : Bool) (K S t : List Int) (q : Nat) : List Int := if wide then fill32 S 8 else blocks32 K (fill32 S 8) t q
def W64 (wide : Bool) (K S t : List Int) (q : Nat) : List Int := if wide then blocks64 K (fill64 S 8) t q else fill64 S 8
theorem shV_size (wide : Bool) : (shV wide).size = 15 := by cases wide <;> rfl
theorem W32_length (wide : Bool) (K S t : List Int) (q : Nat) : (W32 wide K S t q).length = 8 := by
  unfold W32
  split
  · exact fill32_length S 8
  · rw [blocks32_length]; exact fill32_length S 8
theorem W64_length (wide : Bool) (K S t : List Int) (q : Nat) : (W64 wide K S t q).length = 8 := by
  unfold W64
  split
  · rw [blocks64_length]; exact fill64_length S 8
  · exact fill64_length S 8
theorem W32_congr (wide : Bool) (K S t b : List Int) (k : Nat) (h : bl wide * k ≤ t.length) : W32 wide K S (t ++ b) k = W32 wide K S t k := by
  cases wide
  · have h' : 64 * k ≤ t.length := by simpa [bl] using h
    simp only [W32, Bool.false_eq_true, if_false]
    exact blocks32_congr K _ t b k h'
  · simp only [W32, if_true]
theorem W64_congr (wide : Bool) (K S t b : List Int) (k : Nat) (h : bl wide * k ≤ t.length) : W64 wide K S (t ++ b) k = W64 wide K S t k := by
  cases wide
  · simp only [W64, Bool.false_eq_true, if_false]
  · have h' : 128 * k ≤ t.length := by simpa [bl] using h
    simp only [W64, if_true]
    exact blocks64_congr K _ t b k h'
theorem W32_none (wide : Bool) (K S t : List Int) : W32 wide K S t 0 = fill32 S 8 := by cases wide <;> simp [W32, blocks32]
theorem W64_none (wide : Bool) (K S t : List Int) : W64 wide K S t 0 = fill64 S 8 := by cases wide <;> simp [W64, blocks64]
theorem bl_pos (wide : Bool) : 0 < bl wide := by cases wide <;> decide
theorem bl_le (wide : Bool) (n : Nat) : bl wide * (n / bl wide) ≤ n := Nat.mul_div_le n (bl wide)
theorem bl_rest (wide : Bool) (t : List Int) : (t.drop (bl wide * (t.length / bl wide))).length = t.length % bl wide := by rw [List.length_drop, Nat.mod_eq_sub]
theorem take_c (wide : Bool) (p q : Nat) (n : Int) (rest : Value) (A : Option Addr) (m c : Nat) (t K S : List Int) (w : World) (hq : bl wide * q ≤ t.length) (hm : m = t.length - bl wide * q)
    (hp : w.heap[p]? = some (.cells (hashV (shV wide) n rest (W32 wide K S t q) (W64 wide K S t q)) 65 (0, 0))) (hb : Kd.C (Kd.int .u8) w A m (t.drop (bl wide * q))) (hc : m ≤ c) (hcm : c ≤ 9223372036854775807) (ha : Away p A m) (hbd : ∀ i, 0 ≤ t.getD i 0 ∧ t.getD i 0 < 256)
    (hK : ∀ i, i < 80 → w.cell? ⟨0, i, none⟩ = some (.int .u64 (K.getD i 0))) (hpK : p ≠ 0) :
    Calls Tryd.prog 37 #[.pointer (some ⟨p, 0, none⟩), .slice A m c] w fun e w' => ∃ A' c', e = .returned (.slice A' (t.length % bl wide) c') ∧ t.length % bl wide ≤ c' ∧ Kd.C (Kd.int .u8) w' A' (t.length % bl wide) (t.drop (bl wide * (t.length / bl wide))) ∧ Away p A' (t.length % bl wide) ∧
      w'.heap[p]? = some (.cells (hashV (shV wide) n rest (W32 wide K S t (t.length / bl wide)) (W64 wide K S t (t.length / bl wide))) 65 (0, 0)) ∧ Fr (· = p) w w' := by
  have hbd' : ∀ k i, 0 ≤ (t.drop k).getD i 0 ∧ (t.drop k).getD i 0 < 256 := fun k i => by
    rw [List.getD_eq_getElem?_getD, List.getElem?_drop, ← List.getD_eq_getElem?_getD]
    exact hbd _
  have hl : m = (t.drop (bl wide * q)).length := by rw [List.length_drop]; exact hm
  cases wide
  · simp only [bl, shV, W32, W64, Bool.false_eq_true, if_false] at *
    have e1 : (t.drop (64 * q)).length % 64 = t.length % 64 := by rw [List.length_drop]; omega
    have e2 : q + (t.drop (64 * q)).length / 64 = t.length / 64 := by rw [List.length_drop]; omega
    have e3 : (t.drop (64 * q)).drop (64 * ((t.drop (64 * q)).length / 64)) = t.drop (64 * (t.length / 64)) := by rw [List.drop_drop, ← e2, Nat.mul_add]
    have h := take32_c p (blocks32 K (fill32 S 8) t q) (fill64 S 8) n rest A c (t.drop (64 * q)) K w (by rw [blocks32_length]; exact fill32_length S 8) (fill64_length S 8) hp (hl ▸ hb) (hl ▸ hc) hcm (hl ▸ ha) (hbd' _) hK hpK
    rw [blocks32_from, e1, e2, e3, ← hl] at h
    exact h
  · simp only [bl, shV, W32, W64, if_true] at *
    have e1 : (t.drop (128 * q)).length % 128 = t.length % 128 := by rw [List.length_drop]; omega
    have e2 : q + (t.drop (128 * q)).length / 128 = t.length / 128 := by rw [List.length_drop]; omega
    have e3 : (t.drop (128 * q)).drop (128 * ((t.drop (128 * q)).length / 128)) = t.drop (128 * (t.length / 128)) := by rw [List.drop_drop, ← e2, Nat.mul_add]
    have h := take64_c p (blocks64 K (fill64 S 8) t q) (fill32 S 8) n rest A c (t.drop (128 * q)) K w (by rw [blocks64_length]; exact fill64_length S 8) (fill32_length S 8) hp (hl ▸ hb) (hl ▸ hc) hcm (hl ▸ ha) (hbd' _) hK hpK
    rw [blocks64_from, e1, e2, e3, ← hl] at h
    exact h
/-- The two rows of numbers lie where the program laid them. -/
structure Laid (K S : List Int) (w : World) : Prop where
  k : ∀ i, i < 80 → w.cell? ⟨0, i, none⟩ = some (.int .u64 (K.getD i 0))
  s : ∀ i, i < 8 → w.cell? ⟨1, i, none⟩ = some (.int .u64 (S.getD i 0))
theorem Laid.fr {K S : List Int} {w w' : World} {T : Nat → Prop} (h : Laid K S w) (f : Fr T w w') (h0 : ¬ T 0) (h1 : ¬ T 1) : Laid K S w' := ⟨fun i hi => f.cell (h.k i hi) h0, fun i hi => f.cell (h.s i hi) h1⟩
theorem Laid.below {K S : List Int} {w w' : World} {base : Nat} (h : Laid K S w) (hb : Below base w w') (h0 : 0 < base) (h1 : 1 < base) : Laid K S w' := by
  refine ⟨fun i hi => ?_, fun i hi => ?_⟩
  · have := h.k i hi; unfold World.cell? at *; rw [hb.block _ h0]; exact this
  · have := h.s i hi; unfold World.cell? at *; rw [hb.block _ h1]; exact this
/-- At block p lies the hash of text t; its rest is the row v of its own. -/
structure HashAt (base : Nat) (wide : Bool) (K S t : List Int) (p : Nat) (v : Value) (w : World) : Prop where
  cells : w.heap[p]? = some (.cells (hashV (shV wide) t.length v (W32 wide K S t (t.length / bl wide)) (W64 wide K S t (t.length / bl wide))) 65 (0, 0))
  row : Kd.R (Kd.int .u8) 5 w base (fun k => k ≠ p) v (t.drop (bl wide * (t.length / bl wide)))
  hbase : base ≤ p
  g0 : 0 < base
  g1 : 1 < base
  most : t.length ≤ 1048576
  bytes : ∀ i, 0 ≤ t.getD i 0 ∧ t.getD i 0 < 256
end Go.Proofs.YtckjgipkdknmgaaDoor.H
