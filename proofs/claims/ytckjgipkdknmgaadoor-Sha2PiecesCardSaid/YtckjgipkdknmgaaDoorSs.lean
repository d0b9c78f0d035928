/- Laws of digests. -/
import Derived.Test.YtckjgipkdknmgaaDoorSr
namespace Go.Proofs.YtckjgipkdknmgaaDoor.PSum
open Go.RowKit Go.Proofs.YtckjgipkdknmgaaDoorW.PrintWords Go.Proofs.YtckjgipkdknmgaaDoorW.PrintMore Go.Proofs.YtckjgipkdknmgaaDoor.X Go.Proofs.YtckjgipkdknmgaaDoor.H

/-- The last e bytes of x, the greatest first. -/
def tb (x : Int) : Nat → List Int
  | 0 => []
  | e + 1 => (x / 2 ^ (8 * e) % 256) :: tb x e
theorem tell_l5 (h : List Int) (hh : h.length = 8) (hr : ∀ y ∈ h, 0 ≤ y ∧ y < 18446744073709551616) (i : Nat) (hi : i < 8) (X Y : Int) : ∀ (e k : Nat) (out : List Int), e ≤ 8 → out.length + e < 1000 →
    imprimaturref02_Sum.l5 (k + e + 1) h out i (8 * (e : Int) - 8) X Y = imprimaturref02_Sum.l4 k h (out ++ tb (h.getD i 0) e) (i + 1 : Nat) X Y := by
  intro e
  induction e with
  | zero =>
    intro k out _ _
    rw [imprimaturref02_Sum.l5, if_neg (by omega), show wrap64 ((i : Int) + 1) = ((i + 1 : Nat) : Int) by rw [wrap_id _ (by omega) (by omega)]; omega]
    simp [tb]
  | succ e ih =>
    intro k out he ho
    obtain ⟨K, hK⟩ : ∃ K, K = k + e + 1 := ⟨_, rfl⟩
    have e1 : 8 * ((e + 1 : Nat) : Int) - 8 = ((8 * e : Nat) : Int) := by omega
    have e2 : IntKind.u64.wrap ((8 * e : Nat) : Int) = ((8 * e : Nat) : Int) := by rw [w64]; omega
    have hx := getD_mem (by decide) hr i
    rw [show k + (e + 1) + 1 = K + 1 by omega, e1, imprimaturref02_Sum.l5, if_pos (by omega), if_pos (by omega), if_pos (by omega), e2, if_pos (by omega), if_pos (by omega), rd_nat]
    rw [(shr_range hx (c := ((8 * e : Nat) : Int)) (by omega)).1, Int.toNat_natCast, show wrap64 (((8 * e : Nat) : Int) - 8) = 8 * (e : Int) - 8 by rw [wrap_id _ (by omega) (by omega)]; omega, hK]
    rw [ih k (out ++ [h.getD i 0 / 2 ^ (8 * e) % 256]) (by omega) (by rw [List.length_append, List.length_singleton]; omega)]
    simp [tb]

theorem em32_tb (x : Int) : em32 x 4 = tb x 4 := by
  simp [em32, tb, IntKind.wrap_u8]
theorem tell32_l4 (h : List Int) (hh : h.length = 8) (hr : ∀ y ∈ h, 0 ≤ y ∧ y < 18446744073709551616) : ∀ (d k i : Nat), i + d = 8 →
    imprimaturref02_Sum.l4 (k + d * 6 + 1) h (tell32 h i) i 4294967296 32 = some (tell32 h 8, 0) := by
  intro d
  induction d with
  | zero =>
    intro k i hi
    obtain rfl : i = 8 := by omega
    rw [imprimaturref02_Sum.l4, if_neg (by decide)]
  | succ d ih =>
    intro k i hi
    have hl := tell32_length h i
    have e1 : wrap64 (wrap64 32 - 8) = 8 * ((4 : Nat) : Int) - 8 := by decide +kernel
    rw [imprimaturref02_Sum.l4, if_pos (by omega), e1, show k + (d + 1) * 6 = (k + d * 6 + 1) + 4 + 1 by omega, tell_l5 h hh hr i (by omega) 4294967296 32 4 (k + d * 6 + 1) (tell32 h i) (by omega) (by omega), ← em32_tb]
    exact ih k (i + 1) (by omega)
theorem sum32_l0 (k : Nat) (all : List Int) : imprimaturref02_Sum.l0 (k + 9) 256 all KS SS 0 4294967296 32 = imprimaturref02_Sum.j2 k 256 all KS (fill32 SS 8) 4294967296 32 := by kernel_rfl
theorem fill32_range : ∀ y ∈ fill32 SS 8, 0 ≤ y ∧ y < 4294967296 := fun x hx => by
  have h : (fill32 SS 8).all (fun x => decide (0 ≤ x ∧ x < 4294967296)) = true := by decide +kernel
  simpa using List.all_eq_true.1 h x hx
theorem sum32_f (b : List Int) (hb : ∀ i, 0 ≤ b.getD i 0 ∧ b.getD i 0 < 256) (hl : b.length ≤ 1048576) (q : Nat) :
    imprimaturref02_Sum.f (q + 75 * ((b ++ padOf false b.length).length / 64) + 500) b 256 = some (digest false KS SS b, 0) := by
  have hpo : padOf false b.length = padB b.length (zeros false b.length) 8 := by
    unfold padOf; rw [if_neg (by decide), padS_eq _ _ (zeros false b.length) (padLen32_eq _)]
  have hz : ((zeros false b.length : Nat) : Int) = (64 - ((b.length : Int) + 9) % 64) % 64 := by simp only [zeros, Bool.false_eq_true, if_false]; omega
  have hpl : (padOf false b.length).length = zeros false b.length + 9 := by rw [hpo, pad_len]
  have hal : (b ++ padOf false b.length).length = b.length + (zeros false b.length + 9) := by rw [List.length_append, hpl]
  have hmod : 64 * ((b ++ padOf false b.length).length / 64) = (b ++ padOf false b.length).length := by rw [hal]; omega
  have hall : ∀ i, 0 ≤ (b ++ padOf false b.length).getD i 0 ∧ (b ++ padOf false b.length).getD i 0 < 256 := bytes_append hb (getD_bytes (padS_bytes _ _ _))
  have hlen : (b ++ padOf false b.length).length < 2000000 := by rw [hal]; omega
  unfold imprimaturref02_Sum.f
  rw [if_neg (by omega), if_pos rfl]
  generalize hd : (b ++ padOf false b.length).length / 64 = d at *
  rw [show q + 75 * d + 500 = (q + 75 * d + 499) + 1 by omega, imprimaturref02_Sum.j0]
  have hp := ref_pad false b.length (by omega) (by omega) (q + 75 * d + 499) (by omega)
  simp only [Bool.false_eq_true, if_false] at hp
  rw [hp]
  simp only [Option.bind_some, List.nil_append, List.length_nil]
  have hpl2 : (padB b.length (zeros false b.length) 8).length = zeros false b.length + 9 := by rw [← hpo]; exact hpl
  rw [if_pos (by omega), if_pos (by omega), show imprimaturref02_constants.f = some KS from rfl, show imprimaturref02_starts.f = some SS from rfl]
  simp only [Option.bind_some]
  rw [← hpo, show q + 75 * d + 499 = (q + 75 * d + (499 - 9)) + 9 by omega, sum32_l0, show q + 75 * d + (499 - 9) = (q + 75 * d + (498 - 9)) + 1 by omega, imprimaturref02_Sum.j2]
  have h1 := sum32_l1 hall hlen (fill32 SS 8) (fill32_length SS 8) fill32_range d (q + (198 - 9)) 0 (by omega)
  rw [show q + (198 - 9) + 75 * d + 300 = q + 75 * d + (498 - 9) by omega] at h1
  rw [show ((64 * 0 : Nat) : Int) = 0 from rfl, show blocks32 KS (fill32 SS 8) (b ++ padOf false b.length) 0 = fill32 SS 8 from rfl, Nat.zero_add] at h1
  rw [h1]
  have h8 : (blocks32 KS (fill32 SS 8) (b ++ padOf false b.length) d).length = 8 := by rw [blocks32_length]; exact fill32_length SS 8
  have hr := blocks32_range (fill32 SS 8) (b ++ padOf false b.length) (fill32_length SS 8) fill32_range d
  have h2 := tell32_l4 (blocks32 KS (fill32 SS 8) (b ++ padOf false b.length) d) h8 (fun y hy => by have := hr y hy; omega) 8 (q + (198 - 9) + 299 - 8 * 6 - 1) 0 (by omega)
  rw [show q + (198 - 9) + 299 - 8 * 6 - 1 + 8 * 6 + 1 = q + (198 - 9) + 299 by omega] at h2
  rw [show (((0 : Nat) : Int)) = 0 from rfl, show tell32 (blocks32 KS (fill32 SS 8) (b ++ padOf false b.length) d) 0 = [] from rfl] at h2
  rw [h2]
  unfold digest
  simp only [Bool.false_eq_true, if_false, bl, W32, W64, hd]

theorem em64_tb (x : Int) : em64 x 8 = tb x 8 := by
  simp [em64, tb, IntKind.wrap_u8]
theorem tell64_l4 (h : List Int) (hh : h.length = 8) (hr : ∀ y ∈ h, 0 ≤ y ∧ y < 18446744073709551616) : ∀ (d k i : Nat), i + d = 8 →
    imprimaturref02_Sum.l4 (k + d * 10 + 1) h (tell64 h i) i 0 64 = some (tell64 h 8, 0) := by
  intro d
  induction d with
  | zero =>
    intro k i hi
    obtain rfl : i = 8 := by omega
    rw [imprimaturref02_Sum.l4, if_neg (by decide)]
  | succ d ih =>
    intro k i hi
    have hl := tell64_length h i
    have e1 : wrap64 (wrap64 64 - 8) = 8 * ((8 : Nat) : Int) - 8 := by decide +kernel
    rw [imprimaturref02_Sum.l4, if_pos (by omega), e1, show k + (d + 1) * 10 = (k + d * 10 + 1) + 8 + 1 by omega, tell_l5 h hh hr i (by omega) 0 64 8 (k + d * 10 + 1) (tell64 h i) (by omega) (by omega), ← em64_tb]
    exact ih k (i + 1) (by omega)
theorem sum64_l0 (k : Nat) (all : List Int) : imprimaturref02_Sum.l0 (k + 1) 512 all KS SS 0 0 64 = imprimaturref02_Sum.j2 k 512 all KS (fill64 SS 8) 0 64 := by kernel_rfl
theorem fill64_range : ∀ y ∈ fill64 SS 8, 0 ≤ y ∧ y < 18446744073709551616 := fun x hx => by
  have h : (fill64 SS 8).all (fun x => decide (0 ≤ x ∧ x < 18446744073709551616)) = true := by decide +kernel
  simpa using List.all_eq_true.1 h x hx
theorem sum64_f (b : List Int) (hb : ∀ i, 0 ≤ b.getD i 0 ∧ b.getD i 0 < 256) (hl : b.length ≤ 1048576) (q : Nat) :
    imprimaturref02_Sum.f (q + 91 * ((b ++ padOf true b.length).length / 128) + 500) b 512 = some (digest true KS SS b, 0) := by
  have hpo : padOf true b.length = padB b.length (zeros true b.length) 16 := by
    unfold padOf; rw [if_pos rfl, padS_eq _ _ (zeros true b.length + 8) (padLen64_eq _), padB16 _ _ (by omega) (by omega)]
  have hz : ((zeros true b.length : Nat) : Int) = (128 - ((b.length : Int) + 17) % 128) % 128 := by simp only [zeros, if_true]; omega
  have hpl : (padOf true b.length).length = zeros true b.length + 17 := by rw [hpo, pad_len]
  have hal : (b ++ padOf true b.length).length = b.length + (zeros true b.length + 17) := by rw [List.length_append, hpl]
  have hmod : 128 * ((b ++ padOf true b.length).length / 128) = (b ++ padOf true b.length).length := by rw [hal]; omega
  have hall : ∀ i, 0 ≤ (b ++ padOf true b.length).getD i 0 ∧ (b ++ padOf true b.length).getD i 0 < 256 := bytes_append hb (getD_bytes (padS_bytes _ _ _))
  have hlen : (b ++ padOf true b.length).length < 2000000 := by rw [hal]; omega
  unfold imprimaturref02_Sum.f
  rw [if_neg (by omega), if_neg (by decide)]
  generalize hd : (b ++ padOf true b.length).length / 128 = d at *
  rw [show q + 91 * d + 500 = (q + 91 * d + 499) + 1 by omega, imprimaturref02_Sum.j0]
  have hp := ref_pad true b.length (by omega) (by omega) (q + 91 * d + 499) (by omega)
  simp only [if_true] at hp
  rw [hp]
  simp only [Option.bind_some, List.nil_append, List.length_nil]
  have hpl2 : (padB b.length (zeros true b.length) 16).length = zeros true b.length + 17 := by rw [← hpo]; exact hpl
  rw [if_pos (by omega), if_pos (by omega), show imprimaturref02_constants.f = some KS from rfl, show imprimaturref02_starts.f = some SS from rfl]
  simp only [Option.bind_some]
  rw [← hpo, show q + 91 * d + 499 = (q + 91 * d + (499 - 1)) + 1 by omega, sum64_l0, show q + 91 * d + (499 - 1) = (q + 91 * d + (498 - 1)) + 1 by omega, imprimaturref02_Sum.j2]
  have h1 := sum64_l1 hall hlen (fill64 SS 8) (fill64_length SS 8) fill64_range d (q + (198 - 1)) 0 (by omega)
  rw [show q + (198 - 1) + 91 * d + 300 = q + 91 * d + (498 - 1) by omega] at h1
  rw [show ((128 * 0 : Nat) : Int) = 0 from rfl, show blocks64 KS (fill64 SS 8) (b ++ padOf true b.length) 0 = fill64 SS 8 from rfl, Nat.zero_add] at h1
  rw [h1]
  have h8 : (blocks64 KS (fill64 SS 8) (b ++ padOf true b.length) d).length = 8 := by rw [blocks64_length]; exact fill64_length SS 8
  have hr := blocks64_range (fill64 SS 8) (b ++ padOf true b.length) (fill64_length SS 8) fill64_range d
  have h2 := tell64_l4 (blocks64 KS (fill64 SS 8) (b ++ padOf true b.length) d) h8 (fun y hy => by have := hr y hy; omega) 8 (q + (198 - 1) + 299 - 8 * 10 - 1) 0 (by omega)
  rw [show q + (198 - 1) + 299 - 8 * 10 - 1 + 8 * 10 + 1 = q + (198 - 1) + 299 by omega] at h2
  rw [show (((0 : Nat) : Int)) = 0 from rfl, show tell64 (blocks64 KS (fill64 SS 8) (b ++ padOf true b.length) d) 0 = [] from rfl] at h2
  rw [h2]
  unfold digest
  simp only [if_true, bl, W32, W64, hd]

/-- The document's digest is the program's. -/
theorem ref_sum (wide : Bool) (b : List Int) (hb : ∀ i, 0 ≤ b.getD i 0 ∧ b.getD i 0 < 256) (hl : b.length ≤ 1048576) : ∃ N, ∀ q, imprimaturref02_Sum.f (q + N) b (if wide then 512 else 256) = some (digest wide KS SS b, 0) := by
  cases wide
  · exact ⟨75 * ((b ++ padOf false b.length).length / 64) + 500, fun q => by rw [← Nat.add_assoc]; exact sum32_f b hb hl q⟩
  · exact ⟨91 * ((b ++ padOf true b.length).length / 128) + 500, fun q => by rw [← Nat.add_assoc]; exact sum64_f b hb hl q⟩
theorem isBytes_of {l : List Int} (h : ∀ x ∈ l, 0 ≤ x ∧ x < 256) : isBytes l = true := List.all_eq_true.2 (fun x hx => by simpa using h x hx)
theorem law_sum (wide : Bool) (b : List Int) (hb : ∀ x ∈ b, 0 ≤ x ∧ x < 256) (hl : b.length ≤ 1048576) : imprimaturlaw02_sum.f b wide = some (digest wide KS SS b, 0) := by
  unfold imprimaturlaw02_sum.f sha2_Sum256.f sha2_Sum512.f sumOf
  rw [isBytes_of hb]
  cases wide <;> simp [hl]
theorem law_which (wide : Bool) : imprimaturlaw02_which.f wide = some (if wide then 512 else 256) := by cases wide <;> rfl
theorem sums_law (b : List Int) (wide : Bool) (hb : ∀ x ∈ b, 0 ≤ x ∧ x < 256) : ∃ k, imprimaturlaw02_Sha2Sums.f k b wide = some true := by
  by_cases h6 : (b.length : Int) > 600
  · refine ⟨0, ?_⟩
    unfold imprimaturlaw02_Sha2Sums.f imprimaturlaw02_long.f
    simp only [h6, decide_true, Option.bind_some, if_true, known_true]
  · obtain ⟨N, hN⟩ := ref_sum wide b (getD_bytes hb) (by omega)
    refine ⟨0 + N, ?_⟩
    unfold imprimaturlaw02_Sha2Sums.f imprimaturlaw02_long.f
    simp only [h6, decide_false, Option.bind_some, Bool.false_eq_true, if_false, law_sum wide b hb (by omega), law_which, hN, imprimaturref01_SameBytes.f, strOf_same, if_true, known_true]
theorem lengths_l0 (c : Int) (wide : Bool) (n : Nat) (hn : n < 1000) (hc : 0 ≤ c ∧ c < 256) : ∃ N, ∀ q (d i : Nat), i + d = n →
    imprimaturlaw02_Sha2Lengths.l0 (q + N + d + 1) c wide (List.replicate i c ++ List.replicate d 0) i = some true := by
  have hb : ∀ x ∈ List.replicate n c, 0 ≤ x ∧ x < 256 := fun x hx => by rw [List.mem_replicate] at hx; rw [hx.2]; exact hc
  obtain ⟨N, hN⟩ := ref_sum wide (List.replicate n c) (getD_bytes hb) (by simp; omega)
  refine ⟨N, fun q d => ?_⟩
  induction d with
  | zero =>
    intro i hi
    obtain rfl : i = n := by omega
    rw [imprimaturlaw02_Sha2Lengths.l0, if_neg (by simp), show List.replicate 0 (0 : Int) = [] from rfl, List.append_nil, law_sum wide _ hb (by simp; omega), law_which]
    simp only [Option.bind_some, hN, imprimaturref01_SameBytes.f, strOf_same, if_true, known_true]
  | succ d ih =>
    intro i hi
    obtain ⟨K, hK⟩ : ∃ K, K = q + N + d + 1 := ⟨_, rfl⟩
    rw [show q + N + (d + 1) + 1 = K + 1 by omega, imprimaturlaw02_Sha2Lengths.l0, if_pos (by simp; omega), if_pos (by omega), Int.toNat_natCast, show wrap64 ((i : Int) + 1) = ((i + 1 : Nat) : Int) by rw [wrap_id _ (by omega) (by omega)]; omega, hK]
    have hs : (List.replicate i c ++ List.replicate (d + 1) 0).set i c = List.replicate (i + 1) c ++ List.replicate d 0 := by
      rw [List.set_append_right _ _ (by simp), List.length_replicate, Nat.sub_self, List.replicate_succ, List.set_cons_zero, List.replicate_succ']
      simp
    rw [hs]
    exact ih (i + 1) (by omega)
theorem lengths_law (n c : Int) (wide : Bool) (hn : 0 ≤ n ∧ n < 256) (hc : 0 ≤ c ∧ c < 256) : ∃ k, imprimaturlaw02_Sha2Lengths.f k n c wide = some true := by
  have e2 : imprimaturlaw02_n2.f wide = some (if wide then 40 else 0) := by cases wide <;> rfl
  obtain ⟨m, hm, hm2⟩ : ∃ m : Nat, wrap64 (wrap64 n + (if wide then 40 else 0)) = (m : Int) ∧ m < 1000 := by
    refine ⟨(n + (if wide then 40 else 0)).toNat, ?_, ?_⟩
    · rw [wrap_id n (by omega) (by omega), wrap_id _ (by split <;> omega) (by split <;> omega)]; split <;> omega
    · split <;> omega
  obtain ⟨N, hN⟩ := lengths_l0 c wide m hm2 hc
  refine ⟨0 + N + m + 1, ?_⟩
  unfold imprimaturlaw02_Sha2Lengths.f
  simp only [e2, Option.bind_some]
  rw [hm, if_pos (by omega), Int.toNat_natCast, if_pos (by omega)]
  exact hN 0 m 0 (by omega)
theorem byte_of {x : Int} (h : (Lit.int .u8 x).wf = true) : 0 ≤ x ∧ x < 256 := by
  simp [Lit.wf, IntKind.min, IntKind.max, IntKind.bits, IntKind.signed] at h
  omega
theorem Sha2Sums_walk (a : Option Addr) (n c : Nat) (z : List Int) (wide : Bool) (W : World) (HG : Glb W) (h : (a = none ∧ n = 0 ∧ c = 0 ∧ z = []) ∨ ∃ x, a = some x ∧ n ≤ c ∧ c ≤ maxLen ∧ z.length = c ∧ (∀ i, i < z.length → W.cell? (x.add i) = some (.int .u8 (z.getD i 0))) ∧ ∀ n ∈ z, (Lit.int .u8 n).wf = true) (_y : n * 1 ≤ 140737488351232) :
    Calls Tryd.prog 6 #[.slice a n c, .bool wide] W fun e w' => e = .returned (.bool true) ∧ Below W.heap.size W w' := by
  obtain ⟨l, rfl, hr, hm, hw, hc⟩ := ReadsInt.ofRowC h
  obtain ⟨k, hk⟩ := sums_law l wide (fun x hx => byte_of (hw x hx))
  exact imprimaturlaw02_Sha2Sums.calls k _ _ l wide true W HG (Kd.C_of_reads (d := (0 : Int)) (h1 := fun _ => rfl) hr) hc hk
theorem Sha2Lengths_walk (a0 a1 : Int) (a2 : Bool) (W : World) (HG : Glb W) (w0 : (Lit.int .u8 a0).wf = true) (w1 : (Lit.int .u8 a1).wf = true) :
    Calls Tryd.prog 7 #[.int .u8 a0, .int .u8 a1, .bool a2] W fun e w' => e = .returned (.bool true) ∧ Below W.heap.size W w' := by
  obtain ⟨k, h⟩ := lengths_law a0 a1 a2 (byte_of w0) (byte_of w1)
  exact imprimaturlaw02_Sha2Lengths.calls k a0 a1 a2 true W HG h
end Go.Proofs.YtckjgipkdknmgaaDoor.PSum
