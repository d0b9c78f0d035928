/- The top of a part. -/
import Derived.Test.YtcnpdapampclpaaDoorT3
import Derived.Test.YtcnpdapampclpaaDoorP1
namespace Go.Proofs.YtcnpdapampclpaaDoor.X
open Go.RowKit Go.Proofs.YtcnpdapampclpaaDoor.H Go.Proofs.YtcnpdapampclpaaDoorW.PrintWords Go.Proofs.YtcnpdapampclpaaDoorW.PrintLast Go.Proofs.YtcnpdapampclpaaDoorW.PrintMore Go.Proofs.YtcnpdapampclpaaDoor.PPl Go.Proofs.YtcnpdapampclpaaDoor.PTp
set_option linter.unusedVariables false
set_option linter.unusedSimpArgs false
def andOk (n : Nat) : Bool := n == 0 || ((Go.bits .and .i64 (n : Int) ((n : Int) - 1) == 0) == (n == 2 ^ Nat.log2 n))
theorem and_tab : ∀ a : Fin 65, ∀ b : Fin 64, andOk (64 * a.val + b.val) = true := by decide +kernel
theorem and_pow {n : Nat} (h0 : 1 ≤ n) (h : n ≤ 4096) : (Go.bits .and .i64 (n : Int) ((n : Int) - 1) == 0) = (n == 2 ^ Nat.log2 n) := by
  have := and_tab ⟨n / 64, by omega⟩ ⟨n % 64, by omega⟩
  simp only at this
  rw [show 64 * (n / 64) + n % 64 = n by omega] at this
  unfold andOk at this
  rw [show (n == 0) = false from beq_eq_false_iff_ne.2 (by omega), Bool.false_or, beq_iff_eq] at this
  exact this
def topR.T3 : Bool × List (List Nat × List Nat) := (true, [([], []), ([], []), ([0], [0]), ([2], [2]), ([3, 1], [1, 3]), ([4], [4]), ([], []), ([], []), ([6, 7], [6, 7]), ([5, 8], [5, 8]), ([9], [9]), ([10, 0, 1, 2, 3, 4, 5, 6, 7, 8, 9, 10], [10])])
def topR.B3 : List Nat := [0, 0, 1, 5, 15, 31, 0, 0, 192, 511, 1023, 2047]
theorem topR.tab3 : rtab .any (opsOf Tryd.f48 3) = topR.T3 := by kernel_rfl
theorem topR.bits3 : waitsOk topR.T3.2 topR.B3 = true := by kernel_rfl
theorem len_pow {n k : Nat} (h : n = 2 ^ k) (hk : k < 13) : wrap64 ((Lib.bitLen ((n : Int)).toNat : Int) - 1) = (k : Int) := by
  have h1 : Lib.bitLen n = k + 1 := by
    have h2 := Go.Proofs.YtcnpdapampclpaaDoor.PPm.bitLenAux_eq 64 n (by rw [h]; exact Nat.two_pow_pos k) (by rw [h]; exact Nat.pow_lt_pow_right (by decide) (by omega))
    rw [h, Nat.log2_two_pow, ← h] at h2
    exact h2
  rw [Int.toNat_natCast, h1]
  unfold wrap64; omega
set_option maxRecDepth 100000 in
set_option maxHeartbeats 4000000 in
theorem part_c (base p : Nat) (vs : List Value) (M : List (List Int)) (hv : Lv M) (hM : M.length ≤ 4096) (h1b : 1 < base) (n : Nat) : ∀ (f : Nat) (w : World), Glb w → TrailR base p M.length vs (levL M) w → 1 ≤ n → f + n ≤ M.length → Valid f n →
    Calls Tryd.prog 48 #[.pointer (some ⟨p, 0, none⟩), .int .i64 f, .int .i64 n] w fun e w' => ∃ A c, e = .returned (.slice A 32 c) ∧ 32 ≤ c ∧ Kd.C (Kd.int .u8) w' A 32 (topL ((M.drop f).take n)) ∧ Below w.heap.size w w' := by
  induction n using Nat.strongRecOn with
  | _ n ih =>
  intro f w HG T h1 hfn hV
  have hand := and_pow h1 (show n ≤ 4096 by omega)
  have hnI : (n : Int) ≤ 4096 := by omega
  have hn0 : (1 : Int) ≤ (n : Int) := by omega
  have H0 := Aside0.mk (And.intro HG (And.intro T (And.intro h1 (And.intro hfn hV))))
  clear HG T
  obtain ⟨x, hx⟩ : ∃ x : Int, x = (n : Int) := ⟨_, rfl⟩
  obtain ⟨y, hy⟩ : ∃ y : Int, y = (f : Int) := ⟨_, rfl⟩
  rw [← hx] at hand hnI hn0
  rw [← hx, ← hy]
  have Hx := Aside0.mk (And.intro hx hy)
  clear hx hy
  obtain ⟨z, hz⟩ : ∃ z : Int, x - 1 = z := ⟨_, rfl⟩
  rw [hz] at hand
  by_cases hpow : n = 2 ^ Nat.log2 n
  · rw [show (n == 2 ^ Nat.log2 n) = true from beq_iff_eq.2 hpow] at hand
    have hp := Aside0.mk hpow
    have hand' := Aside0.mk hand
    clear hpow ih hand
    go_enter Tryd.func48, Tryd.ntmps48
    go_upto_region 1 with (fail)
    go_step
    go_step
    go_step
    go_step
    go_step
    go_step
    go_step
    go_step
    go_step
    go_step
    go_step
    go_step
    have hand := hand'.out
    generalize Go.bits .and .i64 x z = u at hand ⊢
    rw [beq_iff_eq] at hand
    subst hand
    clear hand'
    go_upto_region 3 with (first | (go_at_call 65; refine (Len_c _ _ (by omega) (by omega)).mono ?_; rintro e w1 ⟨rfl, rfl⟩))
    obtain ⟨k, hk⟩ : ∃ k, k = Nat.log2 n := ⟨_, rfl⟩
    have hnk := hp.out
    rw [← hk] at hnk
    obtain ⟨HG, T, h1, hfn, hV⟩ := H0.out
    have hk13 : k < 13 := by
      rcases Nat.lt_or_ge k 13 with h | h
      · exact h
      · have h2 : 2 ^ 13 ≤ 2 ^ k := Nat.pow_le_pow_right (by decide) h
        have : (2 : Nat) ^ 13 = 8192 := by decide
        omega
    have hlen := len_pow hnk hk13
    rw [← Hx.out.1] at hlen
    rw [hlen]
    have hfk : f % 2 ^ k = 0 := (by rw [hnk] at hV; exact hV.pow)
    have hlt : f / 2 ^ k < (levL M k).length := by rw [levL_length]; exact (Nat.lt_div_iff_mul_lt (Nat.two_pow_pos k)).2 (by have := Nat.div_mul_cancel (Nat.dvd_of_mod_eq_zero hfk); omega)
    obtain ⟨g, cl, hvk, hcl, -, hglt, hel⟩ := row_get (T.row k hk13) (Nat.lt_of_le_of_lt (Nat.zero_le _) hlt)
    obtain ⟨A, c, hx, hc, hF⟩ := hel _ hlt
    have hcell := T.cell hk13
    rw [hvk] at hcell
    have htop := lev_top M f k hfk (by omega)
    have h32 := levL_32 hv k _ (by rw [← levL_length]; exact hlt)
    rw [h32.1] at hx hc hF
    rw [htop] at hF
    rw [← hnk] at hF
    obtain ⟨i, hi⟩ : ∃ i, i = f / 2 ^ k := ⟨_, rfl⟩
    obtain ⟨q, hq⟩ : ∃ q, q = (levL M k).length := ⟨_, rfl⟩
    rw [← hq, ← hi] at hlt
    rw [← hi] at hx
    rw [← hq] at hcell hcl
    have hq4 : q ≤ 4096 := by rw [hq, levL_length]; exact Nat.le_trans (Nat.div_le_self _ _) hM
    have hyi : y / 2 ^ k = (i : Int) := by rw [Hx.out.2, hi]; norm_cast
    have H9 := Aside0.mk (And.intro hF (And.intro hyi hc))
    clear hyi
    clear hlen htop h32 hvk hel hF hi hq hnk hk hp hfk hV T HG H0 hfn h1 hcl hc
    have p1 : (0 ≤ (k : Int)) = True := eq_true (by omega)
    have q1 : ((k : Int) < 13) = True := eq_true (by omega)
    have p2 : (0 ≤ (i : Int)) = True := eq_true (by omega)
    have q2 : ((i : Int) < (q : Int)) = True := eq_true (by omega)
    clear hlt hq4
    refine start_ (n := 12) (S := fun w' => w'.cell? ⟨p, 1 + k, none⟩ = some (.slice (some ⟨g, 0, none⟩) q cl) ∧ w'.cell? ⟨g, i, none⟩ = some (.slice A 32 c)) (ds := []) (fl 12 0) (by kernel_rfl) rfl rfl ⟨hcell, hx⟩ (fun hHeld => ?_)
    refine with_tabW topR.tab3 topR.bits3 (fun HT_ HW_ => ?_)
    refine pureA (i := 0) (N := some 18) (fl 12 1) (any_of HT_.out (by kernel_rfl)) ?_
    refine pureA (i := 1) (N := some 19) (fl 12 3) (any_of HT_.out (by kernel_rfl)) ?_
    refine pureA (i := 2) (N := some 20) (fl 12 7) (any_of HT_.out (by kernel_rfl)) ?_
    refine pureA (i := 3) (N := some 21) (fl 12 15) (any_of HT_.out (by kernel_rfl)) ?_
    refine pureA (i := 4) (N := some 22) (fl 12 31) (any_of HT_.out (by kernel_rfl)) ?_
    refine takeA (i := 5) (N := some 23) (fl 12 63) (take_ofW HT_.out HW_.out (by kernel_rfl)) hHeld ?_
    refine pureA (i := 6) (N := some 24) (fl 12 127) (any_of HT_.out (by kernel_rfl)) ?_
    refine pureA (i := 7) (N := some 25) (fl 12 255) (any_of HT_.out (by kernel_rfl)) ?_
    refine pureA (i := 8) (N := some 26) (fl 12 511) (any_of HT_.out (by kernel_rfl)) ?_
    rw [H9.out.2.1]
    refine pureA (i := 9) (N := some 27) (fl 12 1023) (any_of HT_.out (by kernel_rfl)) ?_
    refine takeA (i := 10) (N := some 28) (fl 12 2047) (take_ofW HT_.out HW_.out (by kernel_rfl)) hHeld ?_
    refine pureA (i := 11) (N := some 6) (fl 12 4095) (any_of HT_.out (by kernel_rfl)) ?_
    refine done_ (done_of HT_.out (by kernel_rfl)) ?_
    go_wp2
    go_ret
    exact ⟨A, c, rfl, H9.out.2.2, Kd.F_now (Kd.F_drew H9.out.1), below_drew1 (Below.refl _ _)⟩
  · rw [show (n == 2 ^ Nat.log2 n) = false from beq_eq_false_iff_ne.2 hpow] at hand
    have hand' := Aside0.mk hand
    clear hand
    obtain ⟨HG, T, h1, hfn, hV⟩ := H0.out
    have hn2 : 2 ≤ n := by
      rcases Nat.lt_or_ge n 2 with h | h
      · exfalso
        obtain rfl : n = 1 := by omega
        exact hpow (by decide)
      · exact h
    have hlt := hf_lt hn2
    have hle := hf_le hn2
    have hhalf := Go.Proofs.YtcnpdapampclpaaDoor.PPm.half_eq n hn2 (by omega)
    rw [← Hx.out.1] at hhalf
    obtain ⟨h, hh⟩ : ∃ h, h = hf n := ⟨_, rfl⟩
    rw [← hh] at hhalf hlt hle
    have ih1 : ∀ w1, Below w.heap.size w w1 → Calls Tryd.prog 48 #[.pointer (some ⟨p, 0, none⟩), .int .i64 y, .int .i64 h] w1 fun e w' => ∃ A c, e = .returned (.slice A 32 c) ∧ 32 ≤ c ∧ Kd.C (Kd.int .u8) w' A 32 (topL ((M.drop f).take h)) ∧ Below w1.heap.size w1 w' := fun w1 hb => by
      rw [Hx.out.2]
      exact ih h hlt f w1 (HG.of hb) (T.below hb) (by omega) (by omega) (by rw [hh]; exact hV.left hn2)
    have ih2 : ∀ w1, Below w.heap.size w w1 → Calls Tryd.prog 48 #[.pointer (some ⟨p, 0, none⟩), .int .i64 (y + h), .int .i64 (x - h)] w1 fun e w' => ∃ A c, e = .returned (.slice A 32 c) ∧ 32 ≤ c ∧ Kd.C (Kd.int .u8) w' A 32 (topL ((M.drop (f + h)).take (n - h))) ∧ Below w1.heap.size w1 w' := fun w1 hb => by
      rw [Hx.out.2, Hx.out.1, show (f : Int) + (h : Int) = ((f + h : Nat) : Int) by omega, show (n : Int) - (h : Int) = ((n - h : Nat) : Int) by omega]
      exact ih (n - h) (by omega) (f + h) w1 (HG.of hb) (T.below hb) (by omega) (by omega) (by rw [hh]; exact hV.right hn2)
    have hnode := part_node M f n hn2 hfn
    rw [← hh] at hnode
    have ht1 := topL_32 ((hv.drop f).take h) (by rw [List.length_take, List.length_drop]; omega)
    have ht2 := topL_32 ((hv.drop (f + h)).take (n - h)) (by rw [List.length_take, List.length_drop]; omega)
    obtain ⟨t1, e1⟩ : ∃ t, t = topL ((M.drop f).take h) := ⟨_, rfl⟩
    obtain ⟨t2, e2⟩ : ∃ t, t = topL ((M.drop (f + h)).take (n - h)) := ⟨_, rfl⟩
    rw [← e1] at ht1 ih1 hnode
    rw [← e2] at ht2 ih2 hnode
    have hx1 := Hx.out.1
    have hy1 := Hx.out.2
    have hI0 : (0 : Int) ≤ (h : Int) := by omega
    have hI1 : (h : Int) < x := by omega
    have hI2 : 0 ≤ y := by omega
    have hI3 : y ≤ 4096 := by omega
    have H9 := Aside0.mk (And.intro ih1 (And.intro ih2 (And.intro ht1 (And.intro ht2 (And.intro hnode hhalf)))))
    clear ih ih1 ih2 ht1 ht2 hnode e1 e2 hlt hle hh hn2 h1 hfn hV HG T hx1 hy1 hhalf hpow
    go_enter Tryd.func48, Tryd.ntmps48
    go_upto_region 1 with (fail)
    go_step
    go_step
    go_step
    go_step
    go_step
    go_step
    go_step
    go_step
    go_step
    go_step
    go_step
    go_step
    have hand := hand'.out
    generalize Go.bits .and .i64 x z = u at hand ⊢
    clear hand'
    have H0' := Aside0.mk H0.out.1
    clear H0 h1 hfn hV
    go_step
    go_step
    go_step
    go_step
    go_step
    go_step
    clear hand
    go_upto_region 5 with (first
      | (go_at_call 54; refine (trail_half.calls x h _ H9.out.2.2.2.2.2).mono ?_; rintro e w1 ⟨rfl, hB1⟩))
    clear hz
    go_wp2_with (first
      | (go_at_call 54; refine (trail_half.calls x h _ H9.out.2.2.2.2.2).mono ?_; rintro e w1 ⟨rfl, hB1⟩)
      | (go_at_call 48; with_reducible refine (H9.out.1 _ hB1).mono ?_; rintro e w2 ⟨A1, c1, rfl, hc1, hC1, hB2⟩)
      | (go_at_call 48; with_reducible refine (H9.out.2.1 _ (below_step hB1 hB2)).mono ?_; rintro e w3 ⟨A2, c2, rfl, hc2, hC2, hB3⟩)
      | (go_at_call 53; refine (trail_digest.calls 17 (some ⟨w3.heap.size, 0, none⟩) 2 [t1, t2] (dig (17 :: (t1 ++ t2))) _ ((H0'.out.of (below_step (below_step hB1 hB2) hB3)).of (below_alloc (Below.refl _ _) _)) (row_C w3 [.slice A1 32 c1, .slice A2 32 c2] [t1, t2] 23 (fun i x hi => by
          rcases i with _ | _ | i
          · obtain rfl : t1 = x := by simpa using hi
            rw [H9.out.2.2.1.1]; exact ⟨A1, c1, rfl, hc1, Kd.C_below hC1 hB3⟩
          · obtain rfl : t2 = x := by simpa using hi
            rw [H9.out.2.2.2.1.1]; exact ⟨A2, c2, rfl, hc2, hC2⟩
          · simp at hi) (by show 2 ≤ 140737488351232; omega)) (Nat.le_refl 2) (digest2 (by decide) H9.out.2.2.1.2 H9.out.2.2.2.1.2 (by rw [H9.out.2.2.1.1, H9.out.2.2.2.1.1]; decide))).mono ?_; rintro e w4 ⟨v4, rfl, hR4, hB4⟩))
    go_ret
    obtain ⟨A4, c4, rfl, hc4, hC4⟩ := Kd.R_reads hR4
    have hl := dig_length (17 :: (t1 ++ t2))
    rw [hl] at hc4 hC4
    rw [hl, H9.out.2.2.2.2.1]
    exact ⟨A4, c4, rfl, hc4, hC4, below_step (below_step (below_step (below_step hB1 hB2) hB3) (below_alloc (Below.refl _ _) _)) hB4⟩
end Go.Proofs.YtcnpdapampclpaaDoor.X
