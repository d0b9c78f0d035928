/- The document's digest is the program's. -/
import Derived.Test.YtckjgipkdknmgaaDoorPSumx3
import Derived.Test.YtckjgipkdknmgaaDoorSq
import Derived.Test.YtckjgipkdknmgaaDoorSp
namespace Go.Proofs.YtckjgipkdknmgaaDoor.PSum
open Go.RowKit Go.Proofs.YtckjgipkdknmgaaDoorW.PrintWords Go.Proofs.YtckjgipkdknmgaaDoorW.PrintMore Go.Proofs.YtckjgipkdknmgaaDoor.X Go.Proofs.YtckjgipkdknmgaaDoor.H
theorem KS_range (i : Nat) : 0 ≤ KS.getD i 0 ∧ KS.getD i 0 < 18446744073709551616 := getD_mem (by decide) (fun x hx => by
  have h : KS.all (fun x => decide (0 ≤ x ∧ x < 18446744073709551616)) = true := by decide +kernel
  simpa using List.all_eq_true.1 h x hx) i

theorem step32_range (v : List Int) (k x : Int) (h : ∀ y ∈ v, 0 ≤ y ∧ y < 4294967296) : ∀ y ∈ step32 v k x, 0 ≤ y ∧ y < 4294967296 := by
  unfold step32
  split
  · intro y hy
    simp only [List.mem_cons, List.not_mem_nil, or_false] at hy
    simp only [List.mem_cons, List.not_mem_nil, or_false, forall_eq_or_imp, forall_eq] at h
    obtain ⟨h0, h1, h2, h3, h4, h5, h6, h7⟩ := h
    rcases hy with rfl | rfl | rfl | rfl | rfl | rfl | rfl | rfl
    · omega
    · exact h0
    · exact h1
    · exact h2
    · omega
    · exact h4
    · exact h5
    · exact h6
  · exact h
theorem rounds32_range (K W hs : List Int) (h : ∀ y ∈ hs, 0 ≤ y ∧ y < 4294967296) : ∀ n, ∀ y ∈ rounds32 K W hs n, 0 ≤ y ∧ y < 4294967296
  | 0 => h
  | n + 1 => step32_range _ _ _ (rounds32_range K W hs h n)
theorem step32_length (v : List Int) (k x : Int) (h : v.length = 8) : (step32 v k x).length = 8 := by
  obtain ⟨a, b, c, d, e, f, g, i, rfl⟩ := eight_of h
  rfl
theorem rounds32_length' (K W hs : List Int) (h : hs.length = 8) : ∀ n, (rounds32 K W hs n).length = 8
  | 0 => h
  | n + 1 => step32_length _ _ _ (rounds32_length' K W hs h n)
theorem round32_eq' (v : List Int) (k x : Int) (hv : v.length = 8) (h : ∀ y ∈ v, 0 ≤ y ∧ y < 4294967296) (hk : 0 ≤ k ∧ k < 18446744073709551616) (hx : 0 ≤ x ∧ x < 4294967296) :
    imprimaturref02_Words_round.f 4294967296 32 v k x = some (step32 v k x) := by
  obtain ⟨a, b, c, d, e, f, g, i, rfl⟩ := eight_of hv
  exact round32_eq a b c d e f g i k x h hk hx
theorem sum32_l2 (x1 : Int) (all h : List Int) (x13 : Int) (W hs : List Int) (hW : W.length = 80) (hWr : ∀ y ∈ W, 0 ≤ y ∧ y < 4294967296) (h8 : hs.length = 8) (hr : ∀ y ∈ hs, 0 ≤ y ∧ y < 4294967296) : ∀ (d k n : Nat), n + d = 64 →
    imprimaturref02_Sum.l2 (k + d + 1) x1 all KS h x13 (W.take 64) (rounds32 KS W hs n) n 4294967296 32 = imprimaturref02_Sum.l3 k x1 all KS h x13 (rounds32 KS W hs 64) [] 0 4294967296 32 := by
  have hl : ((W.take 64).length : Int) = 64 := by rw [List.length_take, hW]; rfl
  have hKl : (KS.length : Int) = 80 := rfl
  intro d
  induction d with
  | zero =>
    intro k n hn
    obtain rfl : n = 64 := by omega
    rw [imprimaturref02_Sum.l2, hl, if_neg (by decide)]
  | succ d ih =>
    intro k n hn
    obtain ⟨K, hK⟩ : ∃ K, K = k + d + 1 := ⟨_, rfl⟩
    rw [show k + (d + 1) + 1 = K + 1 by omega, imprimaturref02_Sum.l2, hl, hKl, if_pos (by omega), if_pos (by omega), if_pos (by omega), rd_nat, rd_nat, getD_take _ _ _ (by omega)]
    rw [round32_eq' _ _ _ (rounds32_length' KS W hs h8 n) (rounds32_range KS W hs hr n) (KS_range n) (getD_mem (by decide) hWr n)]
    simp only [Option.bind_some]
    rw [show wrap64 ((n : Int) + 1) = ((n + 1 : Nat) : Int) by rw [wrap_id _ (by omega) (by omega)]; omega, hK]
    exact ih k (n + 1) (by omega)
/-- The first i of the next words. -/
def next32 (h v : List Int) (i : Nat) : List Int := (List.range i).map (fun j => (h.getD j 0 + v.getD j 0) % 4294967296)
theorem next32_add (h v : List Int) (hh : h.length = 8) (hv : v.length = 8) : next32 h v 8 = add32 h v 8 := by
  obtain ⟨a0, a1, a2, a3, a4, a5, a6, a7, rfl⟩ := eight_of hh
  obtain ⟨b0, b1, b2, b3, b4, b5, b6, b7, rfl⟩ := eight_of hv
  rfl
theorem sum32_l3 (x1 : Int) (all h : List Int) (x13 : Int) (v : List Int) (hh : h.length = 8) (hv : v.length = 8) (hr : ∀ y ∈ h, 0 ≤ y ∧ y < 4294967296) (vr : ∀ y ∈ v, 0 ≤ y ∧ y < 4294967296) : ∀ (d k i : Nat), i + d = 8 →
    imprimaturref02_Sum.l3 (k + d + 1) x1 all KS h x13 v (next32 h v i) i 4294967296 32 = imprimaturref02_Sum.l1 k x1 all KS (next32 h v 8) (wrap64 (x13 + (wrap64 (Int.tdiv x1 4)))) 4294967296 32 := by
  intro d
  induction d with
  | zero =>
    intro k i hi
    obtain rfl : i = 8 := by omega
    rw [imprimaturref02_Sum.l3, if_neg (by decide)]
  | succ d ih =>
    intro k i hi
    obtain ⟨K, hK⟩ : ∃ K, K = k + d + 1 := ⟨_, rfl⟩
    have hn : (next32 h v i).length = i := by simp [next32]
    rw [show k + (d + 1) + 1 = K + 1 by omega, imprimaturref02_Sum.l3, if_pos (by omega), if_pos (by omega), if_pos (by omega), if_pos (by omega), rd_nat, rd_nat]
    simp only [imprimaturref02_Words_cut.f]
    rw [if_neg (by decide)]
    simp only [Option.bind_some]
    rw [if_pos (by omega), show wrap64 ((i : Int) + 1) = ((i + 1 : Nat) : Int) by rw [wrap_id _ (by omega) (by omega)]; omega, hK]
    have h1 := getD_mem (m := 4294967296) (by decide) hr i
    have h2 := getD_mem (m := 4294967296) (by decide) vr i
    rw [show Int.tmod (IntKind.u64.wrap (h.getD i 0 + v.getD i 0)) 4294967296 = (h.getD i 0 + v.getD i 0) % 4294967296 by rw [Int.tmod_eq_emod_of_nonneg (by rw [w64]; omega), w64]; omega]
    rw [show next32 h v i ++ [(h.getD i 0 + v.getD i 0) % 4294967296] = next32 h v (i + 1) by simp [next32, List.range_succ]]
    exact ih k (i + 1) (by omega)
theorem add32_range (h v : List Int) (hh : h.length = 8) (hv : v.length = 8) : ∀ y ∈ add32 h v 8, 0 ≤ y ∧ y < 4294967296 := by
  rw [← next32_add h v hh hv]
  intro y hy
  simp only [next32, List.mem_map] at hy
  obtain ⟨j, _, rfl⟩ := hy
  omega
theorem blocks32_range (hs b : List Int) (h8 : hs.length = 8) (hr : ∀ y ∈ hs, 0 ≤ y ∧ y < 4294967296) : ∀ j, ∀ y ∈ blocks32 KS hs b j, 0 ≤ y ∧ y < 4294967296
  | 0 => hr
  | j + 1 => add32_range _ _ (by rw [blocks32_length]; exact h8) (rounds32_length' _ _ _ (by rw [blocks32_length]; exact h8) _)
theorem sum32_l1 {all : List Int} (hall : ∀ i, 0 ≤ all.getD i 0 ∧ all.getD i 0 < 256) (hlen : all.length < 2000000) (hs : List Int) (h8 : hs.length = 8) (hr : ∀ y ∈ hs, 0 ≤ y ∧ y < 4294967296) : ∀ (d k j : Nat), 64 * (j + d) = all.length →
    imprimaturref02_Sum.l1 (k + 75 * d + 300) 256 all KS (blocks32 KS hs all j) (64 * j : Nat) 4294967296 32 = imprimaturref02_Sum.l4 (k + 299) (blocks32 KS hs all (j + d)) [] 0 4294967296 32 := by
  have e4 : wrap64 (Int.tdiv 256 4) = 64 := by decide +kernel
  intro d
  induction d with
  | zero =>
    intro k j hj
    rw [show k + 75 * 0 + 300 = (k + 299) + 1 by omega, imprimaturref02_Sum.l1, if_neg (by omega)]
    rfl
  | succ d ih =>
    intro k j hj
    obtain ⟨K, hK⟩ : ∃ K, K = k + 75 * d + 300 + 74 := ⟨_, rfl⟩
    rw [show k + 75 * (d + 1) + 300 = K + 1 by omega, imprimaturref02_Sum.l1, e4]
    have e1 : wrap64 (((64 * j : Nat) : Int) + 64) = ((64 * (j + 1) : Nat) : Int) := by rw [wrap_id _ (by omega) (by omega)]; omega
    rw [e1, if_pos (by omega), if_pos (by omega), if_pos (by omega), if_pos (by omega), Int.toNat_natCast, Int.toNat_natCast, List.drop_take, show 64 * (j + 1) - 64 * j = 64 by omega]
    have hb : ∀ i, 0 ≤ ((all.drop (64 * j)).take 64).getD i 0 ∧ ((all.drop (64 * j)).take 64).getD i 0 < 256 := fun i => by
      rw [List.getD_eq_getElem?_getD, List.getElem?_take]
      split
      · rw [List.getElem?_drop, ← List.getD_eq_getElem?_getD]; exact hall _
      · simp
    have hbl : ((all.drop (64 * j)).take 64).length = 64 := by rw [List.length_take, List.length_drop]; omega
    have hB8 : (blocks32 KS hs all j).length = 8 := by rw [blocks32_length]; exact h8
    have hBr := blocks32_range hs all h8 hr j
    obtain ⟨z, hz⟩ : ∃ z, K = z + 147 := ⟨K - 147, by omega⟩
    have hE := expand32_eq hb hbl z
    rw [← hz] at hE
    rw [hE]
    simp only [Option.bind_some]
    rw [show K = ((k + 75 * d + 300) + 8 + 1) + 64 + 1 by omega]
    have h2 := sum32_l2 256 all (blocks32 KS hs all j) (64 * j : Nat) (expand32 ((all.drop (64 * j)).take 64) 48) (blocks32 KS hs all j) (expand32_length _ _) (expand32_range hb _) hB8 hBr 64 ((k + 75 * d + 300) + 8 + 1) 0 (by omega)
    rw [show (((0 : Nat) : Int)) = 0 from rfl] at h2
    rw [show rounds32 KS (expand32 ((all.drop (64 * j)).take 64) 48) (blocks32 KS hs all j) 0 = blocks32 KS hs all j from rfl] at h2
    rw [h2]
    have h3 := sum32_l3 256 all (blocks32 KS hs all j) (64 * j : Nat) (rounds32 KS (expand32 ((all.drop (64 * j)).take 64) 48) (blocks32 KS hs all j) 64) hB8 (rounds32_length' _ _ _ hB8 _) hBr (rounds32_range _ _ _ hBr _) 8 (k + 75 * d + 300) 0 (by omega)
    rw [show (((0 : Nat) : Int)) = 0 from rfl] at h3
    rw [show next32 (blocks32 KS hs all j) (rounds32 KS (expand32 ((all.drop (64 * j)).take 64) 48) (blocks32 KS hs all j) 64) 0 = [] from rfl, e4, e1, next32_add _ _ hB8 (rounds32_length' _ _ _ hB8 _)] at h3
    rw [h3]
    have h4 := ih k (j + 1) (by omega)
    rw [show j + 1 + d = j + (d + 1) by omega] at h4
    exact h4

theorem step64_range (v : List Int) (k x : Int) (h : ∀ y ∈ v, 0 ≤ y ∧ y < 18446744073709551616) : ∀ y ∈ step64 v k x, 0 ≤ y ∧ y < 18446744073709551616 := by
  unfold step64
  split
  · intro y hy
    simp only [List.mem_cons, List.not_mem_nil, or_false] at hy
    simp only [List.mem_cons, List.not_mem_nil, or_false, forall_eq_or_imp, forall_eq] at h
    obtain ⟨h0, h1, h2, h3, h4, h5, h6, h7⟩ := h
    rcases hy with rfl | rfl | rfl | rfl | rfl | rfl | rfl | rfl
    · rw [w64]; omega
    · exact h0
    · exact h1
    · exact h2
    · rw [w64]; omega
    · exact h4
    · exact h5
    · exact h6
  · exact h
theorem rounds64_range (K W hs : List Int) (h : ∀ y ∈ hs, 0 ≤ y ∧ y < 18446744073709551616) : ∀ n, ∀ y ∈ rounds64 K W hs n, 0 ≤ y ∧ y < 18446744073709551616
  | 0 => h
  | n + 1 => step64_range _ _ _ (rounds64_range K W hs h n)
theorem step64_length (v : List Int) (k x : Int) (h : v.length = 8) : (step64 v k x).length = 8 := by
  obtain ⟨a, b, c, d, e, f, g, i, rfl⟩ := eight_of h
  rfl
theorem rounds64_length' (K W hs : List Int) (h : hs.length = 8) : ∀ n, (rounds64 K W hs n).length = 8
  | 0 => h
  | n + 1 => step64_length _ _ _ (rounds64_length' K W hs h n)
theorem round64_eq' (v : List Int) (k x : Int) (hv : v.length = 8) (h : ∀ y ∈ v, 0 ≤ y ∧ y < 18446744073709551616) (hk : 0 ≤ k ∧ k < 18446744073709551616) (hx : 0 ≤ x ∧ x < 18446744073709551616) :
    imprimaturref02_Words_round.f 0 64 v k x = some (step64 v k x) := by
  obtain ⟨a, b, c, d, e, f, g, i, rfl⟩ := eight_of hv
  exact round64_eq a b c d e f g i k x h hk hx
theorem sum64_l2 (x1 : Int) (all h : List Int) (x13 : Int) (W hs : List Int) (hW : W.length = 80) (hWr : ∀ y ∈ W, 0 ≤ y ∧ y < 18446744073709551616) (h8 : hs.length = 8) (hr : ∀ y ∈ hs, 0 ≤ y ∧ y < 18446744073709551616) : ∀ (d k n : Nat), n + d = 80 →
    imprimaturref02_Sum.l2 (k + d + 1) x1 all KS h x13 (W.take 80) (rounds64 KS W hs n) n 0 64 = imprimaturref02_Sum.l3 k x1 all KS h x13 (rounds64 KS W hs 80) [] 0 0 64 := by
  have hl : ((W.take 80).length : Int) = 80 := by rw [List.length_take, hW]; rfl
  have hKl : (KS.length : Int) = 80 := rfl
  intro d
  induction d with
  | zero =>
    intro k n hn
    obtain rfl : n = 80 := by omega
    rw [imprimaturref02_Sum.l2, hl, if_neg (by decide)]
  | succ d ih =>
    intro k n hn
    obtain ⟨K, hK⟩ : ∃ K, K = k + d + 1 := ⟨_, rfl⟩
    rw [show k + (d + 1) + 1 = K + 1 by omega, imprimaturref02_Sum.l2, hl, hKl, if_pos (by omega), if_pos (by omega), if_pos (by omega), rd_nat, rd_nat, getD_take _ _ _ (by omega)]
    rw [round64_eq' _ _ _ (rounds64_length' KS W hs h8 n) (rounds64_range KS W hs hr n) (KS_range n) (getD_mem (by decide) hWr n)]
    simp only [Option.bind_some]
    rw [show wrap64 ((n : Int) + 1) = ((n + 1 : Nat) : Int) by rw [wrap_id _ (by omega) (by omega)]; omega, hK]
    exact ih k (n + 1) (by omega)
/-- The first i of the next words. -/
def next64 (h v : List Int) (i : Nat) : List Int := (List.range i).map (fun j => IntKind.u64.wrap (h.getD j 0 + v.getD j 0))
theorem next64_add (h v : List Int) (hh : h.length = 8) (hv : v.length = 8) : next64 h v 8 = add64 h v 8 := by
  obtain ⟨a0, a1, a2, a3, a4, a5, a6, a7, rfl⟩ := eight_of hh
  obtain ⟨b0, b1, b2, b3, b4, b5, b6, b7, rfl⟩ := eight_of hv
  rfl
theorem sum64_l3 (x1 : Int) (all h : List Int) (x13 : Int) (v : List Int) (hh : h.length = 8) (hv : v.length = 8) (hr : ∀ y ∈ h, 0 ≤ y ∧ y < 18446744073709551616) (vr : ∀ y ∈ v, 0 ≤ y ∧ y < 18446744073709551616) : ∀ (d k i : Nat), i + d = 8 →
    imprimaturref02_Sum.l3 (k + d + 1) x1 all KS h x13 v (next64 h v i) i 0 64 = imprimaturref02_Sum.l1 k x1 all KS (next64 h v 8) (wrap64 (x13 + (wrap64 (Int.tdiv x1 4)))) 0 64 := by
  intro d
  induction d with
  | zero =>
    intro k i hi
    obtain rfl : i = 8 := by omega
    rw [imprimaturref02_Sum.l3, if_neg (by decide)]
  | succ d ih =>
    intro k i hi
    obtain ⟨K, hK⟩ : ∃ K, K = k + d + 1 := ⟨_, rfl⟩
    have hn : (next64 h v i).length = i := by simp [next64]
    rw [show k + (d + 1) + 1 = K + 1 by omega, imprimaturref02_Sum.l3, if_pos (by omega), if_pos (by omega), if_pos (by omega), if_pos (by omega), rd_nat, rd_nat]
    simp only [imprimaturref02_Words_cut.f]
    rw [if_pos trivial]
    simp only [Option.bind_some]
    rw [if_pos (by omega), show wrap64 ((i : Int) + 1) = ((i + 1 : Nat) : Int) by rw [wrap_id _ (by omega) (by omega)]; omega, hK]
    have h1 := getD_mem (m := 18446744073709551616) (by decide) hr i
    have h2 := getD_mem (m := 18446744073709551616) (by decide) vr i
    rw [show next64 h v i ++ [IntKind.u64.wrap (h.getD i 0 + v.getD i 0)] = next64 h v (i + 1) by simp [next64, List.range_succ]]
    exact ih k (i + 1) (by omega)
theorem add64_range (h v : List Int) (hh : h.length = 8) (hv : v.length = 8) : ∀ y ∈ add64 h v 8, 0 ≤ y ∧ y < 18446744073709551616 := by
  rw [← next64_add h v hh hv]
  intro y hy
  simp only [next64, List.mem_map] at hy
  obtain ⟨j, _, rfl⟩ := hy
  rw [w64]; omega
theorem blocks64_range (hs b : List Int) (h8 : hs.length = 8) (hr : ∀ y ∈ hs, 0 ≤ y ∧ y < 18446744073709551616) : ∀ j, ∀ y ∈ blocks64 KS hs b j, 0 ≤ y ∧ y < 18446744073709551616
  | 0 => hr
  | j + 1 => add64_range _ _ (by rw [blocks64_length]; exact h8) (rounds64_length' _ _ _ (by rw [blocks64_length]; exact h8) _)
theorem sum64_l1 {all : List Int} (hall : ∀ i, 0 ≤ all.getD i 0 ∧ all.getD i 0 < 256) (hlen : all.length < 2000000) (hs : List Int) (h8 : hs.length = 8) (hr : ∀ y ∈ hs, 0 ≤ y ∧ y < 18446744073709551616) : ∀ (d k j : Nat), 128 * (j + d) = all.length →
    imprimaturref02_Sum.l1 (k + 91 * d + 300) 512 all KS (blocks64 KS hs all j) (128 * j : Nat) 0 64 = imprimaturref02_Sum.l4 (k + 299) (blocks64 KS hs all (j + d)) [] 0 0 64 := by
  have e4 : wrap64 (Int.tdiv 512 4) = 128 := by decide +kernel
  intro d
  induction d with
  | zero =>
    intro k j hj
    rw [show k + 91 * 0 + 300 = (k + 299) + 1 by omega, imprimaturref02_Sum.l1, if_neg (by omega)]
    rfl
  | succ d ih =>
    intro k j hj
    obtain ⟨K, hK⟩ : ∃ K, K = k + 91 * d + 300 + 90 := ⟨_, rfl⟩
    rw [show k + 91 * (d + 1) + 300 = K + 1 by omega, imprimaturref02_Sum.l1, e4]
    have e1 : wrap64 (((128 * j : Nat) : Int) + 128) = ((128 * (j + 1) : Nat) : Int) := by rw [wrap_id _ (by omega) (by omega)]; omega
    rw [e1, if_pos (by omega), if_pos (by omega), if_pos (by omega), if_pos (by omega), Int.toNat_natCast, Int.toNat_natCast, List.drop_take, show 128 * (j + 1) - 128 * j = 128 by omega]
    have hb : ∀ i, 0 ≤ ((all.drop (128 * j)).take 128).getD i 0 ∧ ((all.drop (128 * j)).take 128).getD i 0 < 256 := fun i => by
      rw [List.getD_eq_getElem?_getD, List.getElem?_take]
      split
      · rw [List.getElem?_drop, ← List.getD_eq_getElem?_getD]; exact hall _
      · simp
    have hbl : ((all.drop (128 * j)).take 128).length = 128 := by rw [List.length_take, List.length_drop]; omega
    have hB8 : (blocks64 KS hs all j).length = 8 := by rw [blocks64_length]; exact h8
    have hBr := blocks64_range hs all h8 hr j
    obtain ⟨z, hz⟩ : ∃ z, K = z + 227 := ⟨K - 227, by omega⟩
    have hE := expand64_eq hb hbl z
    rw [← hz] at hE
    rw [hE]
    simp only [Option.bind_some]
    rw [show K = ((k + 91 * d + 300) + 8 + 1) + 80 + 1 by omega]
    have h2 := sum64_l2 512 all (blocks64 KS hs all j) (128 * j : Nat) (expand64 ((all.drop (128 * j)).take 128) 64) (blocks64 KS hs all j) (expand64_length _ _) (expand64_range hb _) hB8 hBr 80 ((k + 91 * d + 300) + 8 + 1) 0 (by omega)
    rw [show (((0 : Nat) : Int)) = 0 from rfl] at h2
    rw [show rounds64 KS (expand64 ((all.drop (128 * j)).take 128) 64) (blocks64 KS hs all j) 0 = blocks64 KS hs all j from rfl] at h2
    rw [h2]
    have h3 := sum64_l3 512 all (blocks64 KS hs all j) (128 * j : Nat) (rounds64 KS (expand64 ((all.drop (128 * j)).take 128) 64) (blocks64 KS hs all j) 80) hB8 (rounds64_length' _ _ _ hB8 _) hBr (rounds64_range _ _ _ hBr _) 8 (k + 91 * d + 300) 0 (by omega)
    rw [show (((0 : Nat) : Int)) = 0 from rfl] at h3
    rw [show next64 (blocks64 KS hs all j) (rounds64 KS (expand64 ((all.drop (128 * j)).take 128) 64) (blocks64 KS hs all j) 80) 0 = [] from rfl, e4, e1, next64_add _ _ hB8 (rounds64_length' _ _ _ hB8 _)] at h3
    rw [h3]
    have h4 := ih k (j + 1) (by omega)
    rw [show j + 1 + d = j + (d + 1) by omega] at h4
    exact h4
end Go.Proofs.YtckjgipkdknmgaaDoor.PSum
