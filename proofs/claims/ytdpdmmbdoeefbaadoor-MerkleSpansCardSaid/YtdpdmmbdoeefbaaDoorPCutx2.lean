-- Written by a program of this session, after the print of the kit.
import Derived.Test.YtdpdmmbdoeefbaaDoorWC
import Derived.Test.YtdpdmmbdoeefbaaDoorPCutx0
import Derived.Test.YtdpdmmbdoeefbaaDoorPCutx1
namespace Go.Proofs.YtdpdmmbdoeefbaaDoor.PCut
open Go.RowKit X YtdpdmmbdoeefbaaDoorW.PrintWords YtdpdmmbdoeefbaaDoorW.PrintLast YtdpdmmbdoeefbaaDoorW.PrintMore
attribute [local go_sem] max2_int min2_int max_two min_two max_three min_three max_four min_four   -- for this text's walks alone
set_option linter.unusedVariables false
set_option linter.unusedSimpArgs false

/-! ### merkle_top: function 58 -/
def merkle_top.f : Nat → List (List Int) → Option (List Int)
 | 0, _ => none
 | k + 1, l0 => if (l0.length : Int) = 1 then (if 0 < (l0.length : Int) then (some (rd_L1 l0 0)) else (none)) else ((merkle_half.f (l0.length : Int)).bind fun t127 => (if 0 ≤ t127 then (if t127 ≤ (l0.length : Int) then ((merkle_top.f k (l0.take (t127 : Int).toNat)).bind fun t133 => ((merkle_top.f k (l0.drop (t127 : Int).toNat)).bind fun t141 => ((merkle_digest.f 1 (([t133, t141] : List (List Int)))).bind fun t147 => (some t147)))) else (none)) else (none)))
theorem merkle_top.mono_l : ∀ k, (∀ y0, LeO (merkle_top.f k y0) (merkle_top.f (k + 1) y0))
 | 0 => fun _ r h => by simp [merkle_top.f] at h
 | k + 1 => by
  have ih0 := merkle_top.mono_l k
  intro y0
  unfold merkle_top.f
  repeat' first
  | (with_reducible exact ih0 _)
  | (with_reducible exact LeO.refl _)
  | (with_reducible exact LeO.none _)
  | (with_reducible refine LeO.ite ?_ ?_)
  | (with_reducible refine LeO.bind ?_ (fun _ => ?_))
theorem merkle_top.mono : ∀ a0 k, LeO (merkle_top.f k a0) (merkle_top.f (k + 1) a0) := by
 intro a0 k
 have ih0 := merkle_top.mono_l k
 exact ih0 a0
def merkle_top.T4 : Bool × List (List Nat × List Nat) := (true, [([], []), ([], []), ([0, 1], [0, 1]), ([2], [2]), ([], []), ([], []), ([4, 5], [4, 5]), ([6, 3], [6]), ([3, 7], [3, 7]), ([8, 7], [8]), ([9, 9, 0, 1, 2, 3, 4, 5, 6, 7, 8, 9], [9])])
def merkle_top.B4 : List Nat := [0, 0, 3, 7, 0, 0, 48, 127, 255, 511, 1023]
theorem merkle_top.tab4 : rtab .any (opsOf Tryd.f58 4) = merkle_top.T4 := by kernel_rfl
theorem merkle_top.bits4 : waitsOk merkle_top.T4.2 merkle_top.B4 = true := by kernel_rfl
set_option maxHeartbeats 8000000 in
set_option maxRecDepth 100000 in
theorem merkle_top.calls (k : Nat) : ∀ (P0_ : Nat → Prop) (A0 : Option Addr) (c0 : Nat) (l0 : List (List Int)) (r : List Int) (w : World) (HG : Glb w) (hs0 : Kd.V (Kd.slice 5 (Kd.int .u8)) 22 w w.heap.size (fun k_ => P0_ k_) (.slice A0 l0.length c0) l0) (h : merkle_top.f k l0 = some r),
  Calls Tryd.prog 58 #[.slice A0 l0.length c0] w fun e w' => ∃ v0_ : Value, e = .returned (v0_) ∧ Kd.V (Kd.int .u8) 5 w' w.heap.size (fun k_ => (P0_ k_ ∨ w.heap.size ≤ k_)) v0_ r ∧ Below w.heap.size w w' := by
 induction k using Nat.strongRecOn with
 | _ k ih =>
 intro P0_ A0 c0 l0 r w HG hs0 h
 cases k with
 | zero => exact absurd h (by simp [merkle_top.f])
 | succ k =>
 simp only [merkle_top.f] at h
 have HO0 := aM (show Kd.V (Kd.slice 5 (Kd.int .u8)) 22 w w.heap.size (fun k_ => (P0_ k_ ∨ w.heap.size ≤ k_)) (.slice A0 l0.length c0) l0 from Kd.V_mono hs0 (fun k_ hk => .inl hk))
 have HB := aM (Below.refl w.heap.size w)
 have H : (if (l0.length : Int) = 1 then (if 0 < (l0.length : Int) then (some (rd_L1 l0 0)) else (none)) else ((merkle_half.f (l0.length : Int)).bind fun t127 => (if 0 ≤ t127 then (if t127 ≤ (l0.length : Int) then ((merkle_top.f k (l0.take (t127 : Int).toNat)).bind fun t133 => ((merkle_top.f k (l0.drop (t127 : Int).toNat)).bind fun t141 => ((merkle_digest.f 1 (([t133, t141] : List (List Int)))).bind fun t147 => (some t147)))) else (none)) else (none)))) = some r := h
 clear h
 by_cases c2 : (l0.length : Int) = 1
 ·rw [if_pos c2] at H
  have c2b0 : ((l0.length : Int) == 1) = true := beq_iff_eq.mpr c2
  have c2b1 : ((l0.length : Int) != 1) = false := bne_eq_false_iff_eq.mpr c2
  clear c2
  by_cases c3 : 0 < (l0.length : Int)
  rotate_left
  ·rw [if_neg c3] at H
   exact absurd H (by simp)
  rw [if_pos c3] at H
  have c3b0 : decide (0 < (l0.length : Int)) = true := decide_eq_true c3
  have c3b1 : decide (0 < l0.length) = true := decide_eq_true (by omega)
  clear c3
  obtain rfl := Option.some.inj H
  have p126 : 0 ≤ (0 : Int) := (by omega)
  have q126 : 0 < (l0.length : Int) := of_decide_eq_true asm_
  obtain ⟨ad126, A126_0, c126_0, e126, hx126_0, hl126_0, hi126_0⟩ := at_L1 (Kd.V_reads' HO0.out).2.2 0 p126 q126
  cases e126
  obtain ⟨ce126, hce126, hMe126, hcc126⟩ := Kd.V_get HO0.out [] 0 p126 (by first | exact q126 | exact of_decide_eq_true asm_ | (have e_ := (Kd.V_reads' HO0.out).1; omega))
  obtain ⟨ua126_0, uc126_0, rfl, ul126_0, ge126_0⟩ := Kd.FK_slice_open hMe126
  have hv126_0 := hcc126 0 _ rfl
  rw [Nat.add_zero, show ((Kd.slice 5 (Kd.int .u8))).sz = 1 from rfl, Nat.mul_one] at hv126_0
  replace hv126_0 := Option.some.inj (hv126_0.symm.trans hx126_0)
  injection hv126_0 with hva_ hvn_ hvc_
  rw [hva_] at ge126_0
  rw [hvc_] at ul126_0
  have HL126_0 := aM (show Kd.V (Kd.int .u8) 5 _ w.heap.size _ _ (rd_L1 l0 0) from Kd.V_mk ul126_0 ge126_0)
  clear hva_ hvn_ hvc_ ge126_0 ul126_0
  clear hcc126 hce126
  have qi126 : (0 < l0.length) = True := eq_true (by omega)
  (try rw [show ((0 : Int)).toNat = 0 from rfl] at hx126_0)
  (try rw [Addr.add_zero'] at hx126_0)
  have HR126_0 := aM hi126_0
  have HC126_0 := aM hl126_0
  clear hi126_0 hl126_0
  replace p126 := eq_true p126
  replace q126 := eq_true q126
  go_enter Tryd.func58, Tryd.ntmps58
  go_wp2
  go_ret
  exact ⟨_, erR, by (with_reducible repeat (first | apply Kd.V_alloc | apply Kd.V_drewN | apply Kd.V_drew)); exact HL126_0.out, bel⟩
 rw [if_neg c2] at H
 have c2b0 : ((l0.length : Int) == 1) = false := beq_eq_false_iff_ne.mpr c2
 have c2b1 : ((l0.length : Int) != 1) = true := bne_iff_ne.mpr c2
 replace H := Option.bind_eq_some_iff.mp H
 obtain ⟨t127, A40, H⟩ := H
 replace H : (if 0 ≤ t127 then (if t127 ≤ (l0.length : Int) then ((merkle_top.f k (l0.take (t127 : Int).toNat)).bind fun t133 => ((merkle_top.f k (l0.drop (t127 : Int).toNat)).bind fun t141 => ((merkle_digest.f 1 (([t133, t141] : List (List Int)))).bind fun t147 => (some t147)))) else (none)) else (none)) = some r := H
 have A4 := aM A40
 clear A40
 by_cases c5 : 0 ≤ t127
 rotate_left
 ·rw [if_neg c5] at H
  exact absurd H (by simp)

 rw [if_pos c5] at H
 have c5b0 := eq_true c5
 have c5b1 : decide (0 ≤ t127) = true := decide_eq_true c5
 clear c5
 by_cases c6 : t127 ≤ (l0.length : Int)
 rotate_left
 ·rw [if_neg c6] at H
  exact absurd H (by simp)
 rw [if_pos c6] at H
 have c6b0 := eq_true c6
 have c6b1 : decide (t127 ≤ (l0.length : Int)) = true := decide_eq_true c6
 clear c6
 obtain ⟨y128, hy128⟩ : ∃ y_ : List (List Int), y_ = (l0.take (t127 : Int).toNat) := ⟨_, rfl⟩
 replace H : ((merkle_top.f k y128).bind fun t133 => ((merkle_top.f k (l0.drop (t127 : Int).toNat)).bind fun t141 => ((merkle_digest.f 1 (([t133, t141] : List (List Int)))).bind fun t147 => (some t147)))) = some r := hyA hy128 H
 have Ny128 := aM hy128
 clear hy128
 replace H := Option.bind_eq_some_iff.mp H
 obtain ⟨t133, A70, H⟩ := H
 replace H : ((merkle_top.f k (l0.drop (t127 : Int).toNat)).bind fun t141 => ((merkle_digest.f 1 (([t133, t141] : List (List Int)))).bind fun t147 => (some t147))) = some r := H
 have A7 := aM A70
 clear A70
 have c8b0 := eq_true (of_decide_eq_true asm_ : 0 ≤ t127)
 have c9b0 := eq_true (of_decide_eq_true asm_ : t127 ≤ (l0.length : Int))
 obtain ⟨y136, hy136⟩ : ∃ y_ : List (List Int), y_ = (l0.drop (t127 : Int).toNat) := ⟨_, rfl⟩
 replace H : ((merkle_top.f k y136).bind fun t141 => ((merkle_digest.f 1 (([t133, t141] : List (List Int)))).bind fun t147 => (some t147))) = some r := hyA hy136 H
 have Ny136 := aM hy136
 clear hy136
 replace H := Option.bind_eq_some_iff.mp H
 obtain ⟨t141, A100, H⟩ := H
 replace H : ((merkle_digest.f 1 (([t133, t141] : List (List Int)))).bind fun t147 => (some t147)) = some r := H
 have A10 := aM A100
 clear A100
 obtain ⟨y144, hy144⟩ : ∃ y_ : List (List Int), y_ = (([t133, t141] : List (List Int))) := ⟨_, rfl⟩
 replace H : ((merkle_digest.f 1 y144).bind fun t147 => (some t147)) = some r := hyA hy144 H
 have Ny144 := aM hy144
 clear hy144
 replace H := Option.bind_eq_some_iff.mp H
 obtain ⟨t147, A110, H⟩ := H
 replace H : (some t147) = some r := H
 have A11 := aM A110
 clear A110
 obtain rfl := Option.some.inj H
 go_enter Tryd.func58, Tryd.ntmps58
 try go_wp2_with (first | ((with_reducible refine gate_callee (f := 65) rfl ?_); refine goesL_ (some 12) rfl rfl Tryd.func65 (by kernel_rfl) rfl #[.int .i64 (l0.length : Int)] rfl eqA ?_; (with_reducible refine (merkle_half.calls (l0.length : Int) t127 _ A4.out).mono ?_); rintro e w12 ⟨rfl, hb⟩; refine ⟨_, rfl, ?_⟩; replace HO0 := aM (Kd.V_below (vL HO0.out) hb); replace HB := aM (below_step bel hb); clear hb))
 replace HO0 := aM (Kd.V_drew HO0.out)
 replace HB := aM (below_drew1 HB.out)
 have q14 : (t127 : Int) ≤ ((l0.length : Int) : Int) := of_decide_eq_true asm_
 obtain ⟨i014, hi014, _, hsz14, _⟩ := info_parts info22
 have hroom14 : l0.length ≤ c0 := (Kd.V_reads' HO0.out).2.1
 have hC14 : Kd.F (Kd.slice 5 (Kd.int .u8)) _ _ A0 l0.length l0 := (Kd.V_at (base := w.heap.size) HO0.out).2.2
 have hcut14 := cut_to (P := Tryd.prog) 23 22 .i64 Tryd.underlying23 hi014 A0 l0.length c0 t127 (of_decide_eq_true asm_) q14 hroom14
 have hr14 := Kd.F_take (m := (t127 : Int).toNat) hC14 (by omega)
 have hy14 : y128.length = (t127 : Int).toNat := (by rw [Ny128.out, List.length_take]; omega)
 rw [← Ny128.out] at hr14
 rw [← hy14] at hcut14
 have HO132 := aM (show Kd.V (Kd.slice 5 (Kd.int .u8)) 22 _ w.heap.size _ (.slice A0 y128.length c0) y128 from Kd.V_mk (by omega) hr14)
 have HC132 := aM (show y128.length ≤ c0 from by omega)
 clear hr14 hC14 hroom14 hi014 hsz14
 have KY14 := aM hy14
 clear hy14
 replace q14 := eq_true q14
 have q15 : (t127 : Int) ≤ ((l0.length : Int) : Int) := of_decide_eq_true asm_
 obtain ⟨i015, hi015, _, hsz15, _⟩ := info_parts info22
 have hroom15 : l0.length ≤ c0 := (Kd.V_reads' HO0.out).2.1
 have hC15 : Kd.F (Kd.slice 5 (Kd.int .u8)) _ _ A0 l0.length l0 := (Kd.V_at (base := w.heap.size) HO0.out).2.2
 have q015 : (0 : Int) ≤ (t127 : Int) := of_decide_eq_true asm_
 have hcut15 := cut_from (P := Tryd.prog) 23 22 .i64 Tryd.underlying23 hi015 1 hsz15 A0 l0.length c0 t127 q015 q15
 have hr15 := Kd.F_cut (m := (t127 : Int).toNat) (c := c0) hC15 (by omega) hroom15
 obtain ⟨A15, hA15⟩ : ∃ A1, A1 = (if c0 = (t127 : Int).toNat then A0 else (A0 : Option Addr).map (·.add ((t127 : Int).toNat * 1))) := ⟨_, rfl⟩
 obtain ⟨c15, hc15⟩ : ∃ c1, c1 = c0 - (t127 : Int).toNat := ⟨_, rfl⟩
 have hy15 : y136.length = l0.length - (t127 : Int).toNat := (by rw [Ny136.out, List.length_drop] <;> omega)
 rw [show (l0).drop (t127 : Int).toNat = y136 from Ny136.out.symm] at hr15
 replace hr15 : Kd.F (Kd.slice 5 (Kd.int .u8)) _ _ A15 y136.length y136 := (by rw [hA15]; exact hr15)
 rw [← hy15, ← hA15, ← hc15] at hcut15
 have HO140 := aM (show Kd.V (Kd.slice 5 (Kd.int .u8)) 22 _ w.heap.size _ (.slice A15 y136.length c15) y136 from Kd.V_mk (by rw [hy15, hc15]; exact Nat.sub_le_sub_right hroom15 _) hr15)
 have HC140 := aM (show y136.length ≤ c15 from by rw [hy15, hc15]; exact Nat.sub_le_sub_right hroom15 _)
 clear hr15 hC15 hroom15 hi015 hsz15 hc15
 have KY15 := aM hy15
 have KA15 := aM hA15
 clear hy15 hA15
 replace q15 := eq_true q15
 refine start_ (n := 11) (S := fun w' => True) (ds := []) (fl 11 0) (by kernel_rfl) rfl rfl trivial (fun hHeld => ?_); refine with_tabW merkle_top.tab4 merkle_top.bits4 (fun HT_ HW_ => ?_)
 generalize w12.drew = w13 at HO0 HB HO132 HO140 hHeld ⊢
 refine pB 0 13 11 1 ?_
 refine pB 1 14 11 3 ?_
 refine pB 2 15 11 7 ?_
 refine pB 4 17 11 23 ?_
 refine pB 5 18 11 55 ?_
 refine pB 6 19 11 119 ?_
 refine one_ (i := 3) (N := some 16) (fl 11 127) rfl rfl (one_of HT_.out (by kernel_rfl)) (by decide) (fun K hK => ?_)
 refine goes_ Tryd.func58 (by kernel_rfl) rfl #[.slice A0 y128.length c0] (by rfl) rfl rfl eqA ?_
 with_reducible refine (ih k (by omega) (fun k_ => (P0_ k_ ∨ w.heap.size ≤ k_)) _ _ y128 t133 _ (Glb.of HG bel) ?side1 A7.out).mono ?_
 (case side1 => exact HO132.out)
 rintro e w16 ⟨v134, rfl, ho0, hb⟩
 refine ⟨_, rfl, ?_⟩
 replace HO0 := aM (Kd.V_below (vL HO0.out) hb)
 replace HO132 := aM (Kd.V_below (vL HO132.out) hb)
 replace HO140 := aM (Kd.V_below (vL HO140.out) hb)
 have HO135 := aM (Kd.V_lower (Kd.V_mono (ok' := fun k_ => (P0_ k_ ∨ w.heap.size ≤ k_)) ho0 (fun k_ hk_ => Or.elim hk_ (fun hs_ => hs_) (fun hn_ => (.inr (Nat.le_trans (below_size bel) hn_))))) (below_size bel))
 replace HB := aM (below_step bel hb)
 (try clear hb)
 (try clear hb2)
 (try clear hk)
 (try clear hi)
 (try clear ho0)
 refine hK.out _ _ trivial (fun hHeld => ?_)
 clear hK K
 refine normA (some 16) ?_
 refine one_ (i := 7) (N := some 20) (fl 11 255) rfl rfl (one_of HT_.out (by kernel_rfl)) (by decide) (fun K hK => ?_)
 refine goes_ Tryd.func58 (by kernel_rfl) rfl #[.slice A15 y136.length c15] (by rfl) rfl rfl eqA ?_
 with_reducible refine (ih k (by omega) (fun k_ => (P0_ k_ ∨ w.heap.size ≤ k_)) _ _ y136 t141 _ (Glb.of HG bel) ?side1 A10.out).mono ?_
 (case side1 => exact HO140.out)
 rintro e w17 ⟨v142, rfl, ho0, hb⟩
 refine ⟨_, rfl, ?_⟩
 replace HO0 := aM (Kd.V_below (vL HO0.out) hb)
 replace HO132 := aM (Kd.V_below (vL HO132.out) hb)
 replace HO140 := aM (Kd.V_below (vL HO140.out) hb)
 replace HO135 := aM (Kd.V_below (vL HO135.out) hb)
 have HO143 := aM (Kd.V_lower (Kd.V_mono (ok' := fun k_ => (P0_ k_ ∨ w.heap.size ≤ k_)) ho0 (fun k_ hk_ => Or.elim hk_ (fun hs_ => hs_) (fun hn_ => (.inr (Nat.le_trans (below_size bel) hn_))))) (below_size bel))
 replace HB := aM (below_step bel hb)
 (try clear hb)
 (try clear hb2)
 (try clear hk)
 (try clear hi)
 (try clear ho0)
 obtain ⟨Ao18, co18, eo18⟩ := Kd.V_slice HO135.out
 (first | subst eo18 | (injection eo18 with f1_ f2_ f3_; have f4_ := f1_.symm; have f5_ := f3_.symm; clear f1_ f2_ f3_; subst f4_; subst f5_))
 obtain ⟨Ao19, co19, eo19⟩ := Kd.V_slice HO143.out
 (first | subst eo19 | (injection eo19 with f1_ f2_ f3_; have f4_ := f1_.symm; have f5_ := f3_.symm; clear f1_ f2_ f3_; subst f4_; subst f5_))
 refine hK.out _ _ trivial (fun hHeld => ?_)
 clear hK K
 refine normA (some 20) ?_
 refine one_ (i := 8) (N := some 21) (fl 11 511) rfl rfl (one_of HT_.out (by kernel_rfl)) (by decide) (fun K hK => ?_)
 refine Kd.N_lit_step (Kd.slice 5 (Kd.int .u8)) _ 22 ?hg (N' := 21) ?hd (xs := ([t133, t141] : List (List Int))) (inner := [.slice Ao18 t133.length co18, .slice Ao19 t141.length co19]) (ok := (fun k_ => (P0_ k_ ∨ w.heap.size ≤ k_))) (okp := (fun k_ => (P0_ k_ ∨ w.heap.size ≤ k_))) ?hr ?hp (fun _ hk => hk) ((show ∀ k_, w17.heap.size ≤ k_ → (fun k_ => (P0_ k_ ∨ w.heap.size ≤ k_)) k_ from fun k_ hk => (.inr (Nat.le_trans (below_size bel) hk))) _ (Nat.le_refl _)) (Below.refl _ _) (Nat.le_refl _) (by simp) ?_; (case hd => rfl); (case hg => rfl); (case hr => first | (go_simp; done) | (go_simp; rfl)); (case hp => exact (Reps.one (show Kd.FK (Kd.slice 5 (Kd.int .u8)) _ _ t133 [.slice Ao18 t133.length co18] from (Kd.FK_slice_mk (Kd.V_reads' (Kd.V_mono (ok' := (fun k_ => (P0_ k_ ∨ w.heap.size ≤ k_))) (HO135.out) (fun k_ hk => hk))).2.1 (Kd.V_F (Kd.V_mono (ok' := (fun k_ => (P0_ k_ ∨ w.heap.size ≤ k_))) (HO135.out) (fun k_ hk => hk))))) (Reps.one (show Kd.FK (Kd.slice 5 (Kd.int .u8)) _ _ t141 [.slice Ao19 t141.length co19] from (Kd.FK_slice_mk (Kd.V_reads' (Kd.V_mono (ok' := (fun k_ => (P0_ k_ ∨ w.heap.size ≤ k_))) (HO143.out) (fun k_ hk => hk))).2.1 (Kd.V_F (Kd.V_mono (ok' := (fun k_ => (P0_ k_ ∨ w.heap.size ≤ k_))) (HO143.out) (fun k_ hk => hk))))) (Reps.none _ _))))
 intro v145 w20 ho21 hb hg_ hnew_
 clear hg_ hnew_
 (first | rw [← Ny144.out] at ho21 | (simp only [Int.reduceToNat] at ho21; rw [← Ny144.out] at ho21))
 replace HO0 := aM (Kd.V_elder' (vL HO0.out) (Kd.N_base ho21) hb)
 replace HO132 := aM (Kd.V_elder' (vL HO132.out) (Kd.N_base ho21) hb)
 replace HO140 := aM (Kd.V_elder' (vL HO140.out) (Kd.N_base ho21) hb)
 replace HO135 := aM (Kd.V_elder' (vL HO135.out) (Kd.N_base ho21) hb)
 replace HO143 := aM (Kd.V_elder' (vL HO143.out) (Kd.N_base ho21) hb)
 have HO146 := aM (Kd.N_lower ho21 (below_size bel))
 replace HB := aM (below_step bel hb)
 clear hb ho21
 obtain ⟨Ao22, co22, eo22⟩ := Kd.N_slice HO146.out
 (first | subst eo22 | (injection eo22 with f1_ f2_ f3_; have f4_ := f1_.symm; have f5_ := f3_.symm; clear f1_ f2_ f3_; subst f4_; subst f5_))
 refine hK.out _ _ trivial (fun hHeld => ?_)
 clear hK K
 refine normA (some 21) ?_
 refine one_ (i := 9) (N := some 22) (fl 11 1023) rfl rfl (one_of HT_.out (by kernel_rfl)) (by decide) (fun K hK => ?_)
 refine goes_ Tryd.func53 (by kernel_rfl) rfl #[.int .u8 1, .slice Ao22 y144.length co22] (by rfl) rfl rfl eqA ?_
 with_reducible refine (merkle_digest.calls 1 _ _ y144 t147 _ (Glb.of HG bel) ?side1 ?side2 A11.out).mono ?_
 (case side1 => exact cL (Kd.N_reads' HO146.out).2.2)
 (case side2 => exact (Kd.N_reads' HO146.out).2.1)
 rintro e w23 ⟨v148, rfl, ho0, hb⟩
 refine ⟨_, rfl, ?_⟩
 replace HO0 := aM (Kd.V_elder' (vL HO0.out) (Kd.R_base ho0) hb)
 replace HO132 := aM (Kd.V_elder' (vL HO132.out) (Kd.R_base ho0) hb)
 replace HO140 := aM (Kd.V_elder' (vL HO140.out) (Kd.R_base ho0) hb)
 replace HO135 := aM (Kd.V_elder' (vL HO135.out) (Kd.R_base ho0) hb)
 replace HO143 := aM (Kd.V_elder' (vL HO143.out) (Kd.R_base ho0) hb)
 replace HO146 := aM (Kd.N_elder' (nL HO146.out) (Kd.R_base ho0) hb)
 have HO149 := aM (Kd.R_lower (Kd.R_newM (M := fun k_ => (w.heap.size ≤ k_)) ho0 (below_size bel) (fun k_ h_ => h_)) (below_size bel))
 replace HB := aM (below_step bel hb)
 (try clear hb)
 (try clear hb2)
 (try clear hk)
 (try clear hi)
 (try clear ho0)
 refine hK.out _ _ trivial (fun hHeld => ?_)
 clear hK K
 refine normA (some 22) ?_
 refine pB 10 2 11 2047 ?_
 refine done_ (done_of HT_.out (by kernel_rfl)) ?_
 try go_wp2
 go_ret
 exact ⟨_, erR, Kd.V_mono (Kd.R_V (by (with_reducible repeat (first | apply Kd.R_alloc | apply Kd.R_drewN | apply Kd.R_drew)); exact Kd.R_mono HO149.out (fun _ hk => hk.1))) (fun k_ hk => by first | exact ⟨(.inr (hk.1)), hk.2⟩ | exact (.inr (hk))), bel⟩
/-! ### merkle_Root: function 28 -/
def merkle_Root.f (k : Nat) (l0 : List (List Int)) : Option (List Int × Int) := (merkle_leaves.f k l0).bind fun t150 => (if t150 = 0 then (if (l0.length : Int) = 0 then ((merkle_eight.f k 0).bind fun t151 => ((merkle_digest.f 2 (([t151] : List (List Int)))).bind fun t157 => (some (t157, 0)))) else ((merkle_eight.f k (l0.length : Int)).bind fun t160 => ((merkle_top.f k l0).bind fun t163 => ((merkle_digest.f 2 (([t160, t163] : List (List Int)))).bind fun t169 => (some (t169, 0)))))) else (some (([] : List Int), t150)))
theorem merkle_Root.mono : ∀ a0 k, LeO (merkle_Root.f k a0) (merkle_Root.f (k + 1) a0) := by
 intro a0 k
 unfold merkle_Root.f
 repeat' first
   | (with_reducible exact merkle_eight.mono _ _)
   | (with_reducible exact merkle_leaves.mono _ _)
   | (with_reducible exact merkle_top.mono _ _)
   | (with_reducible exact LeO.refl _)
   | (with_reducible exact LeO.none _)
   | (with_reducible refine LeO.ite ?_ ?_)
   | (with_reducible refine LeO.bind ?_ (fun _ => ?_))
set_option maxHeartbeats 8000000 in
set_option maxRecDepth 100000 in
theorem merkle_Root.calls (k : Nat) (A0 : Option Addr) (c0 : Nat) (l0 : List (List Int)) (r1 : List Int) (r2 : Int) (w : World) (HG : Glb w) (hr0 : Kd.C (Kd.slice 5 (Kd.int .u8)) w A0 l0.length l0) (hc0 : l0.length ≤ c0) (h : merkle_Root.f k l0 = some (r1, r2)) :
  Calls Tryd.prog 28 #[.slice A0 l0.length c0] w fun e w' => ∃ v0_ : Value, e = .returned (.tuple #[v0_, .int .i64 r2]) ∧ Kd.R (Kd.int .u8) 5 w' w.heap.size (fun _ => True) v0_ r1 ∧ Below w.heap.size w w' := by
 have HR0 := aM hr0
 have HC0 := aM hc0
 clear hr0 hc0
 have HB := aM (Below.refl w.heap.size w)
 have H : ((merkle_leaves.f k l0).bind fun t150 => (if t150 = 0 then (if (l0.length : Int) = 0 then ((merkle_eight.f k 0).bind fun t151 => ((merkle_digest.f 2 (([t151] : List (List Int)))).bind fun t157 => (some (t157, 0)))) else ((merkle_eight.f k (l0.length : Int)).bind fun t160 => ((merkle_top.f k l0).bind fun t163 => ((merkle_digest.f 2 (([t160, t163] : List (List Int)))).bind fun t169 => (some (t169, 0)))))) else (some (([] : List Int), t150)))) = some (r1, r2) := h
 clear h
 replace H := Option.bind_eq_some_iff.mp H
 obtain ⟨t150, A20, H⟩ := H
 replace H : (if t150 = 0 then (if (l0.length : Int) = 0 then ((merkle_eight.f k 0).bind fun t151 => ((merkle_digest.f 2 (([t151] : List (List Int)))).bind fun t157 => (some (t157, 0)))) else ((merkle_eight.f k (l0.length : Int)).bind fun t160 => ((merkle_top.f k l0).bind fun t163 => ((merkle_digest.f 2 (([t160, t163] : List (List Int)))).bind fun t169 => (some (t169, 0)))))) else (some (([] : List Int), t150))) = some (r1, r2) := H
 have A2 := aM A20
 clear A20
 by_cases c3 : t150 = 0
 rotate_left
 ·rw [if_neg c3] at H
  have c3b0 : (t150 == 0) = false := beq_eq_false_iff_ne.mpr c3
  have c3b1 : (t150 != 0) = true := bne_iff_ne.mpr c3
  simp only [Option.some.injEq, Prod.mk.injEq] at H
  obtain ⟨rfl, rfl⟩ := H
  go_enter Tryd.func28, Tryd.ntmps28
  go_wp2_with (first | ((with_reducible refine gate_callee (f := 57) rfl ?_); refine goesL_ (some 6) rfl rfl Tryd.func57 (by kernel_rfl) rfl #[.slice A0 l0.length c0] rfl eqA ?_; (with_reducible refine (merkle_leaves.calls k _ _ l0 t150 _ ?side1 ?side2 A2.out).mono ?_); (case side1 => exact cL HR0.out); (case side2 => exact HC0.out); rintro e w' ⟨rfl, ⟨nd, rfl⟩⟩; refine ⟨_, rfl, ?_⟩))
  go_ret2
  exact ⟨_, erR, by first | exact Kd.R_nil _ _ _ _ _ | exact Kd.N_nil _ _ _ _ _ | exact Kd.V_nil _ _ _ _ _ | exact Kd.Q_nil _ _ _ _ _ | exact Kd.S_nil _ _ _ _ _, bel⟩

 rw [if_pos c3] at H
 have c3b0 : (t150 == 0) = true := beq_iff_eq.mpr c3
 have c3b1 : (t150 != 0) = false := bne_eq_false_iff_eq.mpr c3
 clear c3
 by_cases c4 : (l0.length : Int) = 0
 ·rw [if_pos c4] at H
  have c4b0 : ((l0.length : Int) == 0) = true := beq_iff_eq.mpr c4
  have c4b1 : ((l0.length : Int) != 0) = false := bne_eq_false_iff_eq.mpr c4
  clear c4
  replace H := Option.bind_eq_some_iff.mp H
  obtain ⟨t151, A50, H⟩ := H
  replace H : ((merkle_digest.f 2 (([t151] : List (List Int)))).bind fun t157 => (some (t157, 0))) = some (r1, r2) := H
  have A5 := aM A50
  clear A50
  obtain ⟨y154, hy154⟩ : ∃ y_ : List (List Int), y_ = (([t151] : List (List Int))) := ⟨_, rfl⟩
  replace H : ((merkle_digest.f 2 y154).bind fun t157 => (some (t157, 0))) = some (r1, r2) := hyA hy154 H
  have Ny154 := aM hy154
  clear hy154
  replace H := Option.bind_eq_some_iff.mp H
  obtain ⟨t157, A60, H⟩ := H
  replace H : (some (t157, 0)) = some (r1, r2) := H
  have A6 := aM A60
  clear A60
  simp only [Option.some.injEq, Prod.mk.injEq] at H
  obtain ⟨rfl, rfl⟩ := H
  go_enter Tryd.func28, Tryd.ntmps28
  go_wp2_with (first | ((with_reducible refine gate_callee (f := 57) rfl ?_); refine goesL_ (some 6) rfl rfl Tryd.func57 (by kernel_rfl) rfl #[.slice A0 l0.length c0] rfl eqA ?_; (with_reducible refine (merkle_leaves.calls k _ _ l0 t150 _ ?side1 ?side2 A2.out).mono ?_); (case side1 => exact cL HR0.out); (case side2 => exact HC0.out); rintro e w' ⟨rfl, ⟨nd, rfl⟩⟩; refine ⟨_, rfl, ?_⟩) | ((with_reducible refine gate_callee (f := 55) rfl ?_); refine goesL_ (some 13) rfl rfl Tryd.func55 (by kernel_rfl) rfl #[.int .i64 0] rfl eqA ?_; (with_reducible refine (merkle_eight.calls k 0 t151 _ A5.out).mono ?_); rintro e w7 ⟨v152, rfl, ho0, hb⟩; refine ⟨_, rfl, ?_⟩; have HO153 := aM (Kd.R_lower ho0 (below_size bel)); replace HB := aM (below_step bel hb); clear hb ho0; obtain ⟨Ao8, co8, eo8⟩ := Kd.R_slice HO153.out; subst eo8) | ((with_reducible refine gate_dst (N := 14) rfl ?_); refine Kd.N_lit (Kd.slice 5 (Kd.int .u8)) _ 22 ?hg (N' := 14) ?hd (xs := ([t151] : List (List Int))) (inner := [.slice Ao8 t151.length co8]) (ok := (fun _ => True)) (okp := (fun _ => True)) ?hr ?hp (fun _ hk => hk) ((show ∀ k_, w7.heap.size ≤ k_ → (fun _ => True) k_ from fun k_ hk => trivial) _ (Nat.le_refl _)) (Below.refl _ _) (Nat.le_refl _) (by simp) ?_; (case hd => rfl); (case hg => rfl); (case hr => first | (go_simp; done) | (go_simp; rfl)); (case hp => exact (Reps.one (show Kd.FK (Kd.slice 5 (Kd.int .u8)) _ _ t151 [.slice Ao8 t151.length co8] from (Kd.FK_slice_mk (Kd.R_reads' (Kd.R_mono (ok' := (fun _ => True)) (HO153.out) (fun k_ hk => trivial))).2.1 (Kd.R_F (Kd.R_mono (ok' := (fun _ => True)) (HO153.out) (fun k_ hk => trivial))))) (Reps.none _ _))); intro v155 w9 ho10 hb hg_ hnew_; clear hg_ hnew_; (first | rw [← Ny154.out] at ho10 | (simp only [Int.reduceToNat] at ho10; rw [← Ny154.out] at ho10)); have HO156 := aM (Kd.N_lower ho10 (below_size bel)); replace HB := aM (below_step bel hb); clear HO153; clear hb ho10; obtain ⟨Ao11, co11, eo11⟩ := Kd.N_slice HO156.out; subst eo11) | ((with_reducible refine gate_callee (f := 53) rfl ?_); refine goesL_ (some 15) rfl rfl Tryd.func53 (by kernel_rfl) rfl #[.int .u8 2, .slice Ao11 y154.length co11] rfl eqA ?_; (with_reducible refine (merkle_digest.calls 2 _ _ y154 t157 _ (Glb.of HG bel) ?side1 ?side2 A6.out).mono ?_); (case side1 => exact cL (Kd.N_reads' HO156.out).2.2); (case side2 => exact (Kd.N_reads' HO156.out).2.1); rintro e w12 ⟨v158, rfl, ho0, hb⟩; refine ⟨_, rfl, ?_⟩; replace HO156 := aM (Kd.N_elder' (nL HO156.out) (Kd.R_base ho0) hb); have HO159 := aM (Kd.R_lower ho0 (below_size bel)); replace HB := aM (below_step bel hb); clear hb ho0))
  go_ret2
  exact ⟨_, erR, by (with_reducible repeat (first | apply Kd.R_alloc | apply Kd.R_drewN | apply Kd.R_drew)); exact HO159.out, bel⟩
 rw [if_neg c4] at H
 have c4b0 : ((l0.length : Int) == 0) = false := beq_eq_false_iff_ne.mpr c4
 have c4b1 : ((l0.length : Int) != 0) = true := bne_iff_ne.mpr c4
 have c4b2 : ¬ (l0 = []) := fun h_ => c4 (by rw [h_]; rfl)
 replace H := Option.bind_eq_some_iff.mp H
 obtain ⟨t160, A130, H⟩ := H
 replace H : ((merkle_top.f k l0).bind fun t163 => ((merkle_digest.f 2 (([t160, t163] : List (List Int)))).bind fun t169 => (some (t169, 0)))) = some (r1, r2) := H
 have A13 := aM A130
 clear A130
 replace H := Option.bind_eq_some_iff.mp H
 obtain ⟨t163, A140, H⟩ := H
 replace H : ((merkle_digest.f 2 (([t160, t163] : List (List Int)))).bind fun t169 => (some (t169, 0))) = some (r1, r2) := H
 have A14 := aM A140
 clear A140
 obtain ⟨y166, hy166⟩ : ∃ y_ : List (List Int), y_ = (([t160, t163] : List (List Int))) := ⟨_, rfl⟩
 replace H : ((merkle_digest.f 2 y166).bind fun t169 => (some (t169, 0))) = some (r1, r2) := hyA hy166 H
 have Ny166 := aM hy166
 clear hy166
 replace H := Option.bind_eq_some_iff.mp H
 obtain ⟨t169, A150, H⟩ := H
 replace H : (some (t169, 0)) = some (r1, r2) := H
 have A15 := aM A150
 clear A150
 simp only [Option.some.injEq, Prod.mk.injEq] at H
 obtain ⟨rfl, rfl⟩ := H
 go_enter Tryd.func28, Tryd.ntmps28
 go_wp2_with (first | ((with_reducible refine gate_callee (f := 57) rfl ?_); refine goesL_ (some 6) rfl rfl Tryd.func57 (by kernel_rfl) rfl #[.slice A0 l0.length c0] rfl eqA ?_; (with_reducible refine (merkle_leaves.calls k _ _ l0 t150 _ ?side1 ?side2 A2.out).mono ?_); (case side1 => exact cL HR0.out); (case side2 => exact HC0.out); rintro e w' ⟨rfl, ⟨nd, rfl⟩⟩; refine ⟨_, rfl, ?_⟩) | ((with_reducible refine gate_callee (f := 55) rfl ?_); refine goesL_ (some 18) rfl rfl Tryd.func55 (by kernel_rfl) rfl #[.int .i64 (l0.length : Int)] rfl eqA ?_; (with_reducible refine (merkle_eight.calls k (l0.length : Int) t160 _ A13.out).mono ?_); rintro e w16 ⟨v161, rfl, ho0, hb⟩; refine ⟨_, rfl, ?_⟩; have HO162 := aM (Kd.R_lower ho0 (below_size bel)); replace HB := aM (below_step bel hb); clear hb ho0) | ((with_reducible refine gate_callee (f := 58) rfl ?_); refine goesL_ (some 20) rfl rfl Tryd.func58 (by kernel_rfl) rfl #[.slice A0 l0.length c0] rfl eqA ?_; (with_reducible refine (merkle_top.calls k (fun k_ => k_ < w.heap.size) _ _ l0 t163 _ (Glb.of HG bel) ?side1 A14.out).mono ?_); (case side1 => exact Kd.V_mk HC0.out (Kd.F_below (Kd.C_F (Kd.heap_slice 5 (Kd.heap_int .u8)) HR0.out) bel)); rintro e w17 ⟨v164, rfl, ho0, hb⟩; refine ⟨_, rfl, ?_⟩; have HO165 := aM (Kd.V_lower (Kd.V_mono (ok' := fun k_ => some k_ ≠ (v161 : Value).ownBlock) ho0 (fun k_ hk_ => Or.elim hk_ (fun hs_ => fun e_ => Nat.not_le.2 hs_ (Kd.R_base HO162.out k_ e_.symm)) (fun hn_ => (Kd.fresh' (Kd.R_lt (rL HO162.out)) k_ hn_)))) (below_size bel)); replace HO162 := aM (Kd.R_below (rL HO162.out) hb); replace HB := aM (below_step bel hb); clear hb ho0; obtain ⟨Ao18, co18, eo18⟩ := Kd.R_slice HO162.out; subst eo18; obtain ⟨Ao19, co19, eo19⟩ := Kd.V_slice HO165.out; subst eo19) | ((with_reducible refine gate_dst (N := 21) rfl ?_); refine Kd.N_lit (Kd.slice 5 (Kd.int .u8)) _ 22 ?hg (N' := 21) ?hd (xs := ([t160, t163] : List (List Int))) (inner := [.slice Ao18 t160.length co18, .slice Ao19 t163.length co19]) (ok := (fun _ => True)) (okp := (fun _ => True)) ?hr ?hp (fun _ hk => hk) ((show ∀ k_, w17.heap.size ≤ k_ → (fun _ => True) k_ from fun k_ hk => trivial) _ (Nat.le_refl _)) (Below.refl _ _) (Nat.le_refl _) (by simp) ?_; (case hd => rfl); (case hg => rfl); (case hr => first | (go_simp; done) | (go_simp; rfl)); (case hp => exact (Reps.one (show Kd.FK (Kd.slice 5 (Kd.int .u8)) _ _ t160 [.slice Ao18 t160.length co18] from (Kd.FK_slice_mk (Kd.R_reads' (Kd.R_mono (ok' := (fun _ => True)) (HO162.out) (fun k_ hk => trivial))).2.1 (Kd.R_F (Kd.R_mono (ok' := (fun _ => True)) (HO162.out) (fun k_ hk => trivial))))) (Reps.one (show Kd.FK (Kd.slice 5 (Kd.int .u8)) _ _ t163 [.slice Ao19 t163.length co19] from (Kd.FK_slice_mk (Kd.V_reads' (Kd.V_mono (ok' := (fun _ => True)) (HO165.out) (fun k_ hk => trivial))).2.1 (Kd.V_F (Kd.V_mono (ok' := (fun _ => True)) (HO165.out) (fun k_ hk => trivial))))) (Reps.none _ _)))); intro v167 w20 ho21 hb hg_ hnew_; clear hg_ hnew_; (first | rw [← Ny166.out] at ho21 | (simp only [Int.reduceToNat] at ho21; rw [← Ny166.out] at ho21)); replace HO165 := aM (Kd.V_elder' (vL HO165.out) (Kd.N_base ho21) hb); have HO168 := aM (Kd.N_lower ho21 (below_size bel)); replace HB := aM (below_step bel hb); clear HO162; clear hb ho21; obtain ⟨Ao22, co22, eo22⟩ := Kd.N_slice HO168.out; subst eo22) | ((with_reducible refine gate_callee (f := 53) rfl ?_); refine goesL_ (some 22) rfl rfl Tryd.func53 (by kernel_rfl) rfl #[.int .u8 2, .slice Ao22 y166.length co22] rfl eqA ?_; (with_reducible refine (merkle_digest.calls 2 _ _ y166 t169 _ (Glb.of HG bel) ?side1 ?side2 A15.out).mono ?_); (case side1 => exact cL (Kd.N_reads' HO168.out).2.2); (case side2 => exact (Kd.N_reads' HO168.out).2.1); rintro e w23 ⟨v170, rfl, ho0, hb⟩; refine ⟨_, rfl, ?_⟩; replace HO165 := aM (Kd.V_elder' (vL HO165.out) (Kd.R_base ho0) hb); replace HO168 := aM (Kd.N_elder' (nL HO168.out) (Kd.R_base ho0) hb); have HO171 := aM (Kd.R_lower ho0 (below_size bel)); replace HB := aM (below_step bel hb); clear hb ho0))
 go_ret2
 exact ⟨_, erR, by (with_reducible repeat (first | apply Kd.R_alloc | apply Kd.R_drewN | apply Kd.R_drew)); exact HO171.out, bel⟩
/-! ### merkle_Has: function 25 -/
def merkle_Has.f (l0 : List Int) (a1 : Int) (a2 : Int) : Option (Bool) := (merkle_Right.f l0 a1).bind fun t172 => (if t172 = true then (if a2 ≥ 0 then (if a2 < a1 then (if 0 ≤ (wrap64 (Int.tdiv a2 8)) then (if (wrap64 (Int.tdiv a2 8)) < (l0.length : Int) then (if 0 ≤ (Int.tmod a2 8) then (some ((Go.bits .and .u8 (shr .u8 (rd l0 (wrap64 (Int.tdiv a2 8))) (Int.tmod a2 8)) 1) == 1)) else (none)) else (none)) else (none)) else (some false)) else (some false)) else (some false))
set_option maxHeartbeats 8000000 in
set_option maxRecDepth 100000 in
theorem merkle_Has.calls (A0 : Option Addr) (c0 : Nat) (l0 : List Int) (a1 : Int) (a2 : Int) (r : Bool) (w : World) (hr0 : Kd.C (Kd.int .u8) w A0 l0.length l0) (hc0 : l0.length ≤ c0) (h : merkle_Has.f l0 a1 a2 = some r) :
  Calls Tryd.prog 25 #[.slice A0 l0.length c0, .int .i64 a1, .int .i64 a2] w fun e w' => e = .returned (.bool r) ∧ Drawn0 w w' := by
 have HR0 := aM hr0
 have HC0 := aM hc0
 clear hr0 hc0
 have H : ((merkle_Right.f l0 a1).bind fun t172 => (if t172 = true then (if a2 ≥ 0 then (if a2 < a1 then (if 0 ≤ (wrap64 (Int.tdiv a2 8)) then (if (wrap64 (Int.tdiv a2 8)) < (l0.length : Int) then (if 0 ≤ (Int.tmod a2 8) then (some ((Go.bits .and .u8 (shr .u8 (rd l0 (wrap64 (Int.tdiv a2 8))) (Int.tmod a2 8)) 1) == 1)) else (none)) else (none)) else (none)) else (some false)) else (some false)) else (some false))) = some r := h
 clear h
 replace H := Option.bind_eq_some_iff.mp H
 obtain ⟨t172, A40, H⟩ := H
 replace H : (if t172 = true then (if a2 ≥ 0 then (if a2 < a1 then (if 0 ≤ (wrap64 (Int.tdiv a2 8)) then (if (wrap64 (Int.tdiv a2 8)) < (l0.length : Int) then (if 0 ≤ (Int.tmod a2 8) then (some ((Go.bits .and .u8 (shr .u8 (rd l0 (wrap64 (Int.tdiv a2 8))) (Int.tmod a2 8)) 1) == 1)) else (none)) else (none)) else (none)) else (some false)) else (some false)) else (some false)) = some r := H
 have A4 := aM A40
 clear A40
 by_cases c5 : t172 = true
 rotate_left
 ·replace c5 := Bool.eq_false_iff.mpr c5
  subst c5
  have H1 : (some false) = some r := by rw [if_neg (show ¬ (false = true) by decide)] at H; exact H
  clear H
  have H := H1
  clear H1
  obtain rfl := Option.some.inj H
  go_enter Tryd.func25, Tryd.ntmps25
  go_wp2_with (first | ((with_reducible refine gate_callee (f := 23) rfl ?_); refine goesL_ (some 9) rfl rfl Tryd.func23 (by kernel_rfl) rfl #[.slice A0 l0.length c0, .int .i64 a1] rfl eqA ?_; (with_reducible refine (merkle_Right.calls _ _ l0 a1 false _ ?side1 ?side2 A4.out).mono ?_); (case side1 => exact cL HR0.out); (case side2 => exact HC0.out); rintro e w' ⟨rfl, ⟨nd, rfl⟩⟩; refine ⟨_, rfl, ?_⟩))
  go_ret
  exact ⟨by first | rfl | (simp; done) | (simp [*]; done), by repeat (first | exact Drawn0.refl _ | apply Drawn0.step)⟩

 subst c5
 have H1 : (if a2 ≥ 0 then (if a2 < a1 then (if 0 ≤ (wrap64 (Int.tdiv a2 8)) then (if (wrap64 (Int.tdiv a2 8)) < (l0.length : Int) then (if 0 ≤ (Int.tmod a2 8) then (some ((Go.bits .and .u8 (shr .u8 (rd l0 (wrap64 (Int.tdiv a2 8))) (Int.tmod a2 8)) 1) == 1)) else (none)) else (none)) else (none)) else (some false)) else (some false)) = some r := by rw [if_pos rfl] at H; exact H
 clear H
 have H := H1
 clear H1
 by_cases c6 : a2 ≥ 0
 rotate_left
 ·rw [if_neg c6] at H
  have c6b0 : decide (0 ≤ a2) = false := decide_eq_false c6
  clear c6
  obtain rfl := Option.some.inj H
  go_enter Tryd.func25, Tryd.ntmps25
  go_wp2_with (first | ((with_reducible refine gate_callee (f := 23) rfl ?_); refine goesL_ (some 9) rfl rfl Tryd.func23 (by kernel_rfl) rfl #[.slice A0 l0.length c0, .int .i64 a1] rfl eqA ?_; (with_reducible refine (merkle_Right.calls _ _ l0 a1 true _ ?side1 ?side2 A4.out).mono ?_); (case side1 => exact cL HR0.out); (case side2 => exact HC0.out); rintro e w' ⟨rfl, ⟨nd, rfl⟩⟩; refine ⟨_, rfl, ?_⟩))
  go_ret
  exact ⟨by first | rfl | (simp; done) | (simp [*]; done), by repeat (first | exact Drawn0.refl _ | apply Drawn0.step)⟩
 rw [if_pos c6] at H
 have c6b0 : decide (0 ≤ a2) = true := decide_eq_true c6
 clear c6
 by_cases c7 : a2 < a1
 rotate_left
 ·rw [if_neg c7] at H
  have c7b0 : decide (a2 < a1) = false := decide_eq_false c7
  clear c7
  obtain rfl := Option.some.inj H
  go_enter Tryd.func25, Tryd.ntmps25
  go_wp2_with (first | ((with_reducible refine gate_callee (f := 23) rfl ?_); refine goesL_ (some 9) rfl rfl Tryd.func23 (by kernel_rfl) rfl #[.slice A0 l0.length c0, .int .i64 a1] rfl eqA ?_; (with_reducible refine (merkle_Right.calls _ _ l0 a1 true _ ?side1 ?side2 A4.out).mono ?_); (case side1 => exact cL HR0.out); (case side2 => exact HC0.out); rintro e w' ⟨rfl, ⟨nd, rfl⟩⟩; refine ⟨_, rfl, ?_⟩))
  go_ret
  exact ⟨by first | rfl | (simp; done) | (simp [*]; done), by repeat (first | exact Drawn0.refl _ | apply Drawn0.step)⟩
 rw [if_pos c7] at H
 have c7b0 : decide (a2 < a1) = true := decide_eq_true c7
 clear c7
 obtain ⟨ji8, hji8⟩ : ∃ j_ : Int, (wrap64 (Int.tdiv a2 8)) = j_ := ⟨_, rfl⟩
 replace H : (if 0 ≤ (ji8) then (if (ji8) < (l0.length : Int) then (if 0 ≤ (Int.tmod a2 8) then (some ((Go.bits .and .u8 (shr .u8 (rd l0 (ji8)) (Int.tmod a2 8)) 1) == 1)) else (none)) else (none)) else (none)) = some r := by first | (rw [hji8] at H; exact H) | (simp only [hji8] at H ⊢; exact H)
 (try rw [hji8] at A4)
 have hji8w : (IntKind.i64.wrap (Int.tdiv a2 8)) = ji8 := (i64_w _).trans hji8
 by_cases c9 : 0 ≤ (ji8)
 rotate_left
 ·rw [if_neg c9] at H
  exact absurd H (by simp)
 rw [if_pos c9] at H
 have c9b0 : decide (0 ≤ (ji8)) = true := decide_eq_true c9
 clear c9
 by_cases c10 : (ji8) < (l0.length : Int)
 rotate_left
 ·rw [if_neg c10] at H
  exact absurd H (by simp)
 rw [if_pos c10] at H
 have c10b0 : decide ((ji8) < (l0.length : Int)) = true := decide_eq_true c10
 clear c10
 obtain ⟨ji11, hji11⟩ : ∃ j_ : Int, (Int.tmod a2 8) = j_ := ⟨_, rfl⟩
 replace H : (if 0 ≤ (ji11) then (some ((Go.bits .and .u8 (shr .u8 (rd l0 (ji8)) (ji11)) 1) == 1)) else (none)) = some r := by first | (rw [hji11] at H; exact H) | (simp only [hji11] at H ⊢; exact H)
 (try rw [hji11] at A4)
 by_cases c12 : 0 ≤ (ji11)
 rotate_left
 ·rw [if_neg c12] at H
  exact absurd H (by simp)
 rw [if_pos c12] at H
 have c12b0 := eq_true c12
 have c12b1 : decide (0 ≤ (ji11)) = true := decide_eq_true c12
 clear c12
 obtain ⟨ji13, hji13⟩ : ∃ j_ : Int, (shr .u8 (rd l0 (ji8)) (ji11)) = j_ := ⟨_, rfl⟩
 replace H : (some ((Go.bits .and .u8 (ji13) 1) == 1)) = some r := by first | (rw [hji13] at H; exact H) | (simp only [hji13] at H ⊢; exact H)
 (try rw [hji13] at A4)
 have hji13_ : ((rd l0 (ji8)) / 2 ^ min (ji11).toNat 8) = ji13 := hji13
 have hji13z : (ji11) ≤ 8 → ((rd l0 (ji8)) / 2 ^ (ji11).toNat) = ji13 := shr_small hji13
 obtain rfl := Option.some.inj H
 go_enter Tryd.func25, Tryd.ntmps25
 go_wp2_with (first | ((with_reducible refine gate_callee (f := 23) rfl ?_); refine goesL_ (some 9) rfl rfl Tryd.func23 (by kernel_rfl) rfl #[.slice A0 l0.length c0, .int .i64 a1] rfl eqA ?_; (with_reducible refine (merkle_Right.calls _ _ l0 a1 true _ ?side1 ?side2 A4.out).mono ?_); (case side1 => exact cL HR0.out); (case side2 => exact HC0.out); rintro e w' ⟨rfl, ⟨nd, rfl⟩⟩; refine ⟨_, rfl, ?_⟩; have p173 : 0 ≤ ((ji8) : Int) := of_decide_eq_true asm_; have q173 : (ji8) < (l0.length : Int) := of_decide_eq_true asm_; obtain ⟨ad173, e173, hx173_0⟩ := Kd.at_int HR0.out (ji8) p173 q173; cases e173; replace p173 := eq_true p173; replace q173 := eq_true q173))
 go_ret
 exact ⟨by first | rfl | (simp; done) | (simp only [← hji8, ← hji11, ← hji13] <;> (first | rfl | simp)) | (simp [*]; done), by repeat (first | exact Drawn0.refl _ | apply Drawn0.step)⟩
/-! ### merkle_Missing: function 27 -/
def merkle_Missing.l0 : Nat → List Int → Int → Int → Int → Option (Int)
 | 0, _, _, _, _ => none
 | k + 1, x0, x1, x10, x11 => if x11 < x10 then ((merkle_Has.f x0 x1 x11).bind fun t175 => (if t175 = true then (merkle_Missing.l0 k x0 x1 x10 (wrap64 (x11 + 1))) else (some x11))) else (some x1)
def merkle_Missing.f (k : Nat) (l0 : List Int) (a1 : Int) : Option (Int) := (merkle_Right.f l0 a1).bind fun t174 => (if t174 = true then (merkle_Missing.l0 k l0 a1 a1 0) else (some (-1)))
theorem merkle_Missing.mono_l : ∀ k, (∀ y0 y1 y2 y3, LeO (merkle_Missing.l0 k y0 y1 y2 y3) (merkle_Missing.l0 (k + 1) y0 y1 y2 y3))
 | 0 => fun _ _ _ _ r h => by simp [merkle_Missing.l0] at h
 | k + 1 => by
  have ih0 := merkle_Missing.mono_l k
  intro y0 y1 y2 y3
  unfold merkle_Missing.l0
  repeat' first
  | (with_reducible exact ih0 _ _ _ _)
  | (with_reducible exact LeO.refl _)
  | (with_reducible exact LeO.none _)
  | (with_reducible refine LeO.ite ?_ ?_)
  | (with_reducible refine LeO.bind ?_ (fun _ => ?_))
theorem merkle_Missing.mono : ∀ a0 a1 k, LeO (merkle_Missing.f k a0 a1) (merkle_Missing.f (k + 1) a0 a1) := by
 intro a0 a1 k
 have ih0 := merkle_Missing.mono_l k
 unfold merkle_Missing.f
 repeat' first
   | (with_reducible exact ih0 _ _ _ _)
   | (with_reducible exact LeO.refl _)
   | (with_reducible exact LeO.none _)
   | (with_reducible refine LeO.ite ?_ ?_)
   | (with_reducible refine LeO.bind ?_ (fun _ => ?_))
set_option maxHeartbeats 8000000 in
set_option maxRecDepth 100000 in
theorem merkle_Missing.calls (k : Nat) (A0 : Option Addr) (c0 : Nat) (l0 : List Int) (a1 : Int) (r : Int) (w : World) (hr0 : Kd.C (Kd.int .u8) w A0 l0.length l0) (hc0 : l0.length ≤ c0) (h : merkle_Missing.f k l0 a1 = some r) :
  Calls Tryd.prog 27 #[.slice A0 l0.length c0, .int .i64 a1] w fun e w' => e = .returned (.int .i64 r) ∧ Drawn0 w w' := by
 have HR0 := aM hr0
 have HC0 := aM hc0
 clear hr0 hc0
 have H : ((merkle_Right.f l0 a1).bind fun t174 => (if t174 = true then (merkle_Missing.l0 k l0 a1 a1 0) else (some (-1)))) = some r := h
 clear h
 replace H := Option.bind_eq_some_iff.mp H
 obtain ⟨t174, A30, H⟩ := H
 replace H : (if t174 = true then (merkle_Missing.l0 k l0 a1 a1 0) else (some (-1))) = some r := H
 have A3 := aM A30
 clear A30
 by_cases c4 : t174 = true
 rotate_left
 ·replace c4 := Bool.eq_false_iff.mpr c4
  subst c4
  have H1 : (some (-1)) = some r := by rw [if_neg (show ¬ (false = true) by decide)] at H; exact H
  clear H
  have H := H1
  clear H1
  obtain rfl := Option.some.inj H
  go_enter Tryd.func27, Tryd.ntmps27
  go_wp2_with (first | ((with_reducible refine gate_callee (f := 23) rfl ?_); refine goesL_ (some 8) rfl rfl Tryd.func23 (by kernel_rfl) rfl #[.slice A0 l0.length c0, .int .i64 a1] rfl eqA ?_; (with_reducible refine (merkle_Right.calls _ _ l0 a1 false _ ?side1 ?side2 A3.out).mono ?_); (case side1 => exact cL HR0.out); (case side2 => exact HC0.out); rintro e w' ⟨rfl, ⟨nd, rfl⟩⟩; refine ⟨_, rfl, ?_⟩))
  go_ret
  exact ⟨by first | rfl | (simp; done) | (simp [*]; done), by repeat (first | exact Drawn0.refl _ | apply Drawn0.step)⟩

 subst c4
 have H1 : (merkle_Missing.l0 k l0 a1 a1 0) = some r := by rw [if_pos rfl] at H; exact H
 clear H
 have H := H1
 clear H1
 have H' := aM H
 clear H
 go_enter Tryd.func27, Tryd.ntmps27
 go_wp2_with (first | ((with_reducible refine gate_callee (f := 23) rfl ?_); refine goesL_ (some 8) rfl rfl Tryd.func23 (by kernel_rfl) rfl #[.slice A0 l0.length c0, .int .i64 a1] rfl eqA ?_; (with_reducible refine (merkle_Right.calls _ _ l0 a1 true _ ?side1 ?side2 A3.out).mono ?_); (case side1 => exact cL HR0.out); (case side2 => exact HC0.out); rintro e w' ⟨rfl, ⟨nd, rfl⟩⟩; refine ⟨_, rfl, ?_⟩))
 go_loopg [11] k (fun kq v11 w' => ∃ (x11_1 : Int), v11 = .int .i64 x11_1 ∧ Aside0 (merkle_Missing.l0 kq l0 a1 a1 x11_1 = some r) ∧ Aside0 (kq ≤ k) ∧ Drawn0 w w')
 case atStart => exact ⟨(0), rfS, H', ⟨Nat.le_refl _⟩, by repeat (first | exact Drawn0.refl _ | apply Drawn0.step)⟩
 case round =>
  clear H'
  try clear c4
  obtain ⟨x11_1, rfl, HA, HK1, ⟨m1, rfl⟩⟩ := hrel
  cases gk with
  | zero => exact absurd HA.out (by simp [merkle_Missing.l0])
  | succ k1 =>
   have H := HA.out
   clear HA
   simp only [merkle_Missing.l0] at H
   by_cases c5 : x11_1 < a1
   rotate_left
   ·rw [if_neg c5] at H
    have c5b0 : decide (x11_1 < a1) = false := decide_eq_false c5
    clear c5
    obtain rfl := Option.some.inj H
    go_wp2
    go_ret
    exact ⟨by first | rfl | (simp; done) | (simp [*]; done), by repeat (first | exact Drawn0.refl _ | apply Drawn0.step)⟩
   rw [if_pos c5] at H
   have c5b0 : decide (x11_1 < a1) = true := decide_eq_true c5
   clear c5
   replace H := Option.bind_eq_some_iff.mp H
   obtain ⟨t175, A60, H⟩ := H
   replace H : (if t175 = true then (merkle_Missing.l0 k1 l0 a1 a1 (wrap64 (x11_1 + 1))) else (some x11_1)) = some r := H
   have A6 := aM A60
   clear A60
   by_cases c7 : t175 = true
   ·subst c7
    have H1 : (merkle_Missing.l0 k1 l0 a1 a1 (wrap64 (x11_1 + 1))) = some r := by rw [if_pos rfl] at H; exact H
    clear H
    have H := H1
    clear H1
    have H' := aM H
    clear H
    go_wp2_with (first | ((with_reducible refine gate_callee (f := 25) rfl ?_); refine goesL_ (some 17) rfl rfl Tryd.func25 (by kernel_rfl) rfl #[.slice A0 l0.length c0, .int .i64 a1, .int .i64 x11_1] rfl eqA ?_; (with_reducible refine (merkle_Has.calls _ _ l0 a1 x11_1 true _ ?side1 ?side2 A6.out).mono ?_); (case side1 => exact cL HR0.out); (case side2 => exact HC0.out); rintro e w' ⟨rfl, ⟨nd, rfl⟩⟩; refine ⟨_, rfl, ?_⟩))
    go_roundg k1
    case measure => have := HK1.out; omega
    case rel => exact ⟨(wrap64 (x11_1 + 1)), rfS, H', ⟨by have := HK1.out; omega⟩, by repeat (first | exact Drawn0.refl _ | apply Drawn0.step)⟩
   replace c7 := Bool.eq_false_iff.mpr c7
   subst c7
   have H1 : (some x11_1) = some r := by rw [if_neg (show ¬ (false = true) by decide)] at H; exact H
   clear H
   have H := H1
   clear H1
   obtain rfl := Option.some.inj H
   go_wp2_with (first | ((with_reducible refine gate_callee (f := 25) rfl ?_); refine goesL_ (some 17) rfl rfl Tryd.func25 (by kernel_rfl) rfl #[.slice A0 l0.length c0, .int .i64 a1, .int .i64 x11_1] rfl eqA ?_; (with_reducible refine (merkle_Has.calls _ _ l0 a1 x11_1 false _ ?side1 ?side2 A6.out).mono ?_); (case side1 => exact cL HR0.out); (case side2 => exact HC0.out); rintro e w' ⟨rfl, ⟨nd, rfl⟩⟩; refine ⟨_, rfl, ?_⟩))
   go_ret
   exact ⟨by first | rfl | (simp; done) | (simp [*]; done), by repeat (first | exact Drawn0.refl _ | apply Drawn0.step)⟩
/-! ### merkle_path: function 52 -/
def merkle_path.l0 : Nat → Int → Int → List Bool → Option (List Bool)
 | 0, _, _, _ => none
 | k + 1, x0, x1, x5 => if x0 > 1 then ((merkle_half.f x0).bind fun t176 => (if x5.length < 140737488355328 then ((some (x5 ++ [decide (x1 ≥ t176)] : List Bool)).bind fun y177 => (if x1 ≥ t176 then (merkle_path.l0 k (wrap64 (x0 - t176)) (wrap64 (x1 - t176)) y177) else (merkle_path.l0 k t176 x1 y177))) else (none))) else (some x5)
def merkle_path.f (k : Nat) (a0 : Int) (a1 : Int) : Option (List Bool) := merkle_path.l0 k a0 a1 ([] : List Bool)
theorem merkle_path.mono_l : ∀ k, (∀ y0 y1 y2, LeO (merkle_path.l0 k y0 y1 y2) (merkle_path.l0 (k + 1) y0 y1 y2))
 | 0 => fun _ _ _ r h => by simp [merkle_path.l0] at h
 | k + 1 => by
  have ih0 := merkle_path.mono_l k
  intro y0 y1 y2
  unfold merkle_path.l0
  repeat' first
  | (with_reducible exact ih0 _ _ _)
  | (with_reducible exact LeO.refl _)
  | (with_reducible exact LeO.none _)
  | (with_reducible refine LeO.ite ?_ ?_)
  | (with_reducible refine LeO.bind ?_ (fun _ => ?_))
theorem merkle_path.mono : ∀ a0 a1 k, LeO (merkle_path.f k a0 a1) (merkle_path.f (k + 1) a0 a1) := by
 intro a0 a1 k
 have ih0 := merkle_path.mono_l k
 unfold merkle_path.f
 repeat' first
   | (with_reducible exact ih0 _ _ _)
   | (with_reducible exact LeO.refl _)
   | (with_reducible exact LeO.none _)
   | (with_reducible refine LeO.ite ?_ ?_)
   | (with_reducible refine LeO.bind ?_ (fun _ => ?_))
set_option maxHeartbeats 8000000 in
set_option maxRecDepth 100000 in
theorem merkle_path.calls (k : Nat) (a0 : Int) (a1 : Int) (r : List Bool) (w : World) (h : merkle_path.f k a0 a1 = some r) :
  Calls Tryd.prog 52 #[.int .i64 a0, .int .i64 a1] w fun e w' => ∃ v0_ : Value, e = .returned (v0_) ∧ Kd.R Kd.bool 4 w' w.heap.size (fun _ => True) v0_ r ∧ Below w.heap.size w w' := by
 have HB := aM (Below.refl w.heap.size w)
 have H : (merkle_path.l0 k a0 a1 ([] : List Bool)) = some r := h
 clear h
 have H' := aM H
 clear H
 go_enter Tryd.func52, Tryd.ntmps52
 go_wp2
 go_loopg [0, 1, 5] k (fun kq v0 v1 v5 w' => ∃ (x0_1 : Int) (x1_1 : Int) (x5_1 : List Bool), v0 = .int .i64 x0_1 ∧ v1 = .int .i64 x1_1 ∧ Aside0 (merkle_path.l0 kq x0_1 x1_1 x5_1 = some r) ∧ Aside0 (kq ≤ k) ∧ Aside0 (Kd.R Kd.bool 4 w' w.heap.size (fun _ => True) v5 x5_1) ∧ Aside0 (Below w.heap.size w w'))
 case atStart => exact ⟨(a0), (a1), (([] : List Bool)), rfS, rfS, H', ⟨Nat.le_refl _⟩, ⟨by first | exact Kd.R_nil _ _ _ _ _ | exact Kd.N_nil _ _ _ _ _ | exact Kd.V_nil _ _ _ _ _ | exact Kd.Q_nil _ _ _ _ _ | exact Kd.S_nil _ _ _ _ _⟩, ⟨bel⟩⟩
 case round =>
  clear H'
  obtain ⟨x0_1, x1_1, x5_1, rfl, rfl, HA, HK1, HO_5, HB⟩ := hrel
  cases gk with
  | zero => exact absurd HA.out (by simp [merkle_path.l0])
  | succ k1 =>
   have H := HA.out
   clear HA
   simp only [merkle_path.l0] at H
   by_cases c3 : x0_1 > 1
   rotate_left
   ·rw [if_neg c3] at H
    have c3b0 : decide (1 < x0_1) = false := decide_eq_false c3
    clear c3
    obtain rfl := Option.some.inj H
    go_wp2
    go_ret
    exact ⟨_, erR, by (with_reducible repeat (first | apply Kd.R_alloc | apply Kd.R_drewN | apply Kd.R_drew)); exact HO_5.out, bel⟩

   rw [if_pos c3] at H
   have c3b0 : decide (1 < x0_1) = true := decide_eq_true c3
   clear c3
   replace H := Option.bind_eq_some_iff.mp H
   obtain ⟨t176, A40, H⟩ := H
   replace H : (if x5_1.length < 140737488355328 then ((some (x5_1 ++ [decide (x1_1 ≥ t176)] : List Bool)).bind fun y177 => (if x1_1 ≥ t176 then (merkle_path.l0 k1 (wrap64 (x0_1 - t176)) (wrap64 (x1_1 - t176)) y177) else (merkle_path.l0 k1 t176 x1_1 y177))) else (none)) = some r := H
   have A4 := aM A40
   clear A40
   by_cases c5 : x5_1.length < 140737488355328
   rotate_left
   ·rw [if_neg c5] at H
    exact absurd H (by simp)
   rw [if_pos c5] at H
   have LMc5 := aM c5
   clear c5
   obtain ⟨y177, hy177⟩ : ∃ y_ : List Bool, y_ = (x5_1 ++ [decide (x1_1 ≥ t176)]) := ⟨_, rfl⟩
   replace H : (if x1_1 ≥ t176 then (merkle_path.l0 k1 (wrap64 (x0_1 - t176)) (wrap64 (x1_1 - t176)) y177) else (merkle_path.l0 k1 t176 x1_1 y177)) = some r := hyA hy177 H
   have Ny177 := aM hy177
   clear hy177
   by_cases c6 : x1_1 ≥ t176
   ·rw [if_pos c6] at H
    have c6b0 : decide (t176 ≤ x1_1) = true := decide_eq_true c6
    clear c6
    have H' := aM H
    clear H
    go_wp2_with (first | ((with_reducible refine gate_callee (f := 65) rfl ?_); refine goesL_ (some 11) rfl rfl Tryd.func65 (by kernel_rfl) rfl #[.int .i64 x0_1] rfl eqA ?_; (with_reducible refine (merkle_half.calls x0_1 t176 _ A4.out).mono ?_); rintro e w7 ⟨rfl, hb⟩; refine ⟨_, rfl, ?_⟩; replace HO_5 := aM (Kd.R_below (rL HO_5.out) hb); replace HB := aM (below_step bel hb); clear hb) | ((with_reducible refine gate_builtin (b := .append) (xs := #[.tmp 15, .tmp 17]) rfl ?_); at_builtin; refine Kd.R_append Kd.bool (w0 := w) w.heap.size rfl (.tmp 15) (.tmp 17) 65 4 (.bool false) 1 rfl Tryd.underlying65 info4 rfl (by decide) (by omega) u5 x5_1 true [.bool true] (fun _ => True) (fun _ => False) rfl rfl ?aP (fun _ hk => hk.elim) ?aF ?aO ?aB ?aS ?aL ?_; (case aP => exact rfl); (case aB => exact bel); (case aF => exact (fun _ _ => trivial)); (case aO => exact (rL HO_5.out)); (case aS => exact (below_size bel)); (case aL => have := LMc5.out; omega); intro v178 w8 ho hb hg hat; rw [show x5_1 ++ [true] = y177 from by rw [Ny177.out, show decide (x1_1 ≥ t176) = true from c6b0]] at ho; replace HB := aM (hb); have HO179 := aM (ho); clear HO_5; clear ho hb hg hat))
    go_roundg k1
    case measure => have := HK1.out; omega
    case rel => exact ⟨(wrap64 (x0_1 - t176)), (wrap64 (x1_1 - t176)), (y177), rfS, rfS, H', ⟨by have := HK1.out; omega⟩, ⟨by (with_reducible repeat (first | apply Kd.R_alloc | apply Kd.R_drewN | apply Kd.R_drew)); exact HO179.out⟩, ⟨bel⟩⟩
   rw [if_neg c6] at H
   have c6b0 : decide (t176 ≤ x1_1) = false := decide_eq_false c6
   clear c6
   have H' := aM H
   clear H
   go_wp2_with (first | ((with_reducible refine gate_callee (f := 65) rfl ?_); refine goesL_ (some 11) rfl rfl Tryd.func65 (by kernel_rfl) rfl #[.int .i64 x0_1] rfl eqA ?_; (with_reducible refine (merkle_half.calls x0_1 t176 _ A4.out).mono ?_); rintro e w9 ⟨rfl, hb⟩; refine ⟨_, rfl, ?_⟩; replace HO_5 := aM (Kd.R_below (rL HO_5.out) hb); replace HB := aM (below_step bel hb); clear hb) | ((with_reducible refine gate_builtin (b := .append) (xs := #[.tmp 15, .tmp 17]) rfl ?_); at_builtin; refine Kd.R_append Kd.bool (w0 := w) w.heap.size rfl (.tmp 15) (.tmp 17) 65 4 (.bool false) 1 rfl Tryd.underlying65 info4 rfl (by decide) (by omega) u5 x5_1 false [.bool false] (fun _ => True) (fun _ => False) rfl rfl ?aP (fun _ hk => hk.elim) ?aF ?aO ?aB ?aS ?aL ?_; (case aP => exact rfl); (case aB => exact bel); (case aF => exact (fun _ _ => trivial)); (case aO => exact (rL HO_5.out)); (case aS => exact (below_size bel)); (case aL => have := LMc5.out; omega); intro v178 w10 ho hb hg hat; rw [show x5_1 ++ [false] = y177 from by rw [Ny177.out, show decide (x1_1 ≥ t176) = false from c6b0]] at ho; replace HB := aM (hb); have HO179 := aM (ho); clear HO_5; clear ho hb hg hat))
   go_roundg k1
   case measure => have := HK1.out; omega
   case rel => exact ⟨(t176), (x1_1), (y177), rfS, rfS, H', ⟨by have := HK1.out; omega⟩, ⟨by (with_reducible repeat (first | apply Kd.R_alloc | apply Kd.R_drewN | apply Kd.R_drew)); exact HO179.out⟩, ⟨bel⟩⟩
/-! ### bytes_Equal: function 54 -/
def bytes_Equal.f (l0 : List Int) (l1 : List Int) : Option (Bool) := some ((strOfNums l0).toList == (strOfNums l1).toList)
set_option maxHeartbeats 8000000 in
set_option maxRecDepth 100000 in
theorem bytes_Equal.calls (A0 : Option Addr) (c0 : Nat) (l0 : List Int) (A1 : Option Addr) (c1 : Nat) (l1 : List Int) (r : Bool) (w : World) (hr0 : Kd.C (Kd.int .u8) w A0 l0.length l0) (hc0 : l0.length ≤ c0) (hr1 : Kd.C (Kd.int .u8) w A1 l1.length l1) (hc1 : l1.length ≤ c1) (h : bytes_Equal.f l0 l1 = some r) :
  Calls Tryd.prog 54 #[.slice A0 l0.length c0, .slice A1 l1.length c1] w fun e w' => e = .returned (.bool r) ∧ Drawn0 w w' := by
 have HR0 := aM hr0
 have HC0 := aM hc0
 clear hr0 hc0
 have HR1 := aM hr1
 have HC1 := aM hc1
 clear hr1 hc1
 have H : (some ((strOfNums l0).toList == (strOfNums l1).toList)) = some r := h
 clear h
 obtain rfl := Option.some.inj H
 have hcv3 := Kd.C_string (P := Tryd.prog) (A := A0) (c := c0) Tryd.underlying22 Tryd.underlying5 Tryd.underlying9 HR0.out
 have hcv4 := Kd.C_string (P := Tryd.prog) (A := A1) (c := c1) Tryd.underlying22 Tryd.underlying5 Tryd.underlying9 HR1.out
 go_enter Tryd.func54, Tryd.ntmps54
 go_wp2
 go_ret
 exact ⟨by first | rfl | (simp; done) | (simp [*]; done), by repeat (first | exact Drawn0.refl _ | apply Drawn0.step)⟩

end Go.Proofs.YtdpdmmbdoeefbaaDoor.PCut
