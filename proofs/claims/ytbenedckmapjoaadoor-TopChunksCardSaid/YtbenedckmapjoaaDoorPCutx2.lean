-- Written by a program of this session, after the print of the kit.
import Derived.Test.YtbenedckmapjoaaDoorWC
import Derived.Test.YtbenedckmapjoaaDoorPCutx0
import Derived.Test.YtbenedckmapjoaaDoorPCutx1
namespace Go.Proofs.YtbenedckmapjoaaDoor.PCut
open Go.RowKit Go.Proofs.YtbenedckmapjoaaDoor.X Go.Proofs.YtbenedckmapjoaaDoorW.PrintWords Go.Proofs.YtbenedckmapjoaaDoorW.PrintLast Go.Proofs.YtbenedckmapjoaaDoorW.PrintMore
attribute [local go_sem] max2_int min2_int max_two min_two max_three min_three max_four min_four   -- for this text's walks alone
set_option linter.unusedVariables false
set_option linter.unusedSimpArgs false

/-! ### merkle_Root: function 76 -/
def merkle_Root.f (k : Nat) (l0 : List (List Int)) : Option (List Int × Int) := (merkle_leaves.f k l0).bind fun t140 => (if t140 = 0 then (if (l0.length : Int) = 0 then ((merkle_eight.f k 0).bind fun t141 => ((merkle_digest.f 2 (([t141] : List (List Int)))).bind fun t147 => (some (t147, 0)))) else ((merkle_eight.f k (l0.length : Int)).bind fun t150 => ((merkle_top.f k l0).bind fun t153 => ((merkle_digest.f 2 (([t150, t153] : List (List Int)))).bind fun t159 => (some (t159, 0)))))) else (some (([] : List Int), t140)))
theorem merkle_Root.mono : ∀ a0 k, LeO (merkle_Root.f k a0) (merkle_Root.f (k + 1) a0) := by
 intro a0 k
 unfold merkle_Root.f
 repeat' first
   | (with_reducible exact merkle_eight.mono _ _)
   | (with_reducible exact merkle_leaves.mono _ _)
   | (with_reducible exact merkle_top.mono _ _)
   | (with_reducible exact LeO.refl _)
   | (with_reducible exact LeO.none _)
   | (with_reducible refine LeO.ite ?_ ?_)
   | (with_reducible refine LeO.bind ?_ (fun _ => ?_))
set_option maxHeartbeats 8000000 in
set_option maxRecDepth 100000 in
theorem merkle_Root.calls (k : Nat) (A0 : Option Addr) (c0 : Nat) (l0 : List (List Int)) (r1 : List Int) (r2 : Int) (w : World) (HG : Glb w) (hr0 : Kd.C (Kd.slice 5 (Kd.int .u8)) w A0 l0.length l0) (hc0 : l0.length ≤ c0) (h : merkle_Root.f k l0 = some (r1, r2)) :
  Calls Tryd.prog 76 #[.slice A0 l0.length c0] w fun e w' => ∃ v0_ : Value, e = .returned (.tuple #[v0_, .int .i64 r2]) ∧ Kd.R (Kd.int .u8) 5 w' w.heap.size (fun _ => True) v0_ r1 ∧ Below w.heap.size w w' := by
 have HR0 := aM hr0
 have HC0 := aM hc0
 clear hr0 hc0
 have HB := aM (Below.refl w.heap.size w)
 have H : ((merkle_leaves.f k l0).bind fun t140 => (if t140 = 0 then (if (l0.length : Int) = 0 then ((merkle_eight.f k 0).bind fun t141 => ((merkle_digest.f 2 (([t141] : List (List Int)))).bind fun t147 => (some (t147, 0)))) else ((merkle_eight.f k (l0.length : Int)).bind fun t150 => ((merkle_top.f k l0).bind fun t153 => ((merkle_digest.f 2 (([t150, t153] : List (List Int)))).bind fun t159 => (some (t159, 0)))))) else (some (([] : List Int), t140)))) = some (r1, r2) := h
 clear h
 replace H := Option.bind_eq_some_iff.mp H
 obtain ⟨t140, A20, H⟩ := H
 replace H : (if t140 = 0 then (if (l0.length : Int) = 0 then ((merkle_eight.f k 0).bind fun t141 => ((merkle_digest.f 2 (([t141] : List (List Int)))).bind fun t147 => (some (t147, 0)))) else ((merkle_eight.f k (l0.length : Int)).bind fun t150 => ((merkle_top.f k l0).bind fun t153 => ((merkle_digest.f 2 (([t150, t153] : List (List Int)))).bind fun t159 => (some (t159, 0)))))) else (some (([] : List Int), t140))) = some (r1, r2) := H
 have A2 := aM A20
 clear A20
 by_cases c3 : t140 = 0
 rotate_left
 ·rw [if_neg c3] at H
  have c3b0 : (t140 == 0) = false := beq_eq_false_iff_ne.mpr c3
  have c3b1 : (t140 != 0) = true := bne_iff_ne.mpr c3
  simp only [Option.some.injEq, Prod.mk.injEq] at H
  obtain ⟨rfl, rfl⟩ := H
  go_enter Tryd.func76, Tryd.ntmps76
  go_wp2_with (first | ((with_reducible refine gate_callee (f := 88) rfl ?_); refine goesL_ (some 6) rfl rfl Tryd.func88 (by kernel_rfl) rfl #[.slice A0 l0.length c0] rfl eqA ?_; (with_reducible refine (merkle_leaves.calls k _ _ l0 t140 _ ?side1 ?side2 A2.out).mono ?_); (case side1 => exact cL HR0.out); (case side2 => exact HC0.out); rintro e w' ⟨rfl, ⟨nd, rfl⟩⟩; refine ⟨_, rfl, ?_⟩))
  go_ret2
  exact ⟨_, erR, by first | exact Kd.R_nil _ _ _ _ _ | exact Kd.N_nil _ _ _ _ _ | exact Kd.V_nil _ _ _ _ _ | exact Kd.Q_nil _ _ _ _ _ | exact Kd.S_nil _ _ _ _ _, bel⟩

 rw [if_pos c3] at H
 have c3b0 : (t140 == 0) = true := beq_iff_eq.mpr c3
 have c3b1 : (t140 != 0) = false := bne_eq_false_iff_eq.mpr c3
 clear c3
 by_cases c4 : (l0.length : Int) = 0
 ·rw [if_pos c4] at H
  have c4b0 : ((l0.length : Int) == 0) = true := beq_iff_eq.mpr c4
  have c4b1 : ((l0.length : Int) != 0) = false := bne_eq_false_iff_eq.mpr c4
  clear c4
  replace H := Option.bind_eq_some_iff.mp H
  obtain ⟨t141, A50, H⟩ := H
  replace H : ((merkle_digest.f 2 (([t141] : List (List Int)))).bind fun t147 => (some (t147, 0))) = some (r1, r2) := H
  have A5 := aM A50
  clear A50
  obtain ⟨y144, hy144⟩ : ∃ y_ : List (List Int), y_ = (([t141] : List (List Int))) := ⟨_, rfl⟩
  replace H : ((merkle_digest.f 2 y144).bind fun t147 => (some (t147, 0))) = some (r1, r2) := hyA hy144 H
  have Ny144 := aM hy144
  clear hy144
  replace H := Option.bind_eq_some_iff.mp H
  obtain ⟨t147, A60, H⟩ := H
  replace H : (some (t147, 0)) = some (r1, r2) := H
  have A6 := aM A60
  clear A60
  simp only [Option.some.injEq, Prod.mk.injEq] at H
  obtain ⟨rfl, rfl⟩ := H
  go_enter Tryd.func76, Tryd.ntmps76
  go_wp2_with (first | ((with_reducible refine gate_callee (f := 88) rfl ?_); refine goesL_ (some 6) rfl rfl Tryd.func88 (by kernel_rfl) rfl #[.slice A0 l0.length c0] rfl eqA ?_; (with_reducible refine (merkle_leaves.calls k _ _ l0 t140 _ ?side1 ?side2 A2.out).mono ?_); (case side1 => exact cL HR0.out); (case side2 => exact HC0.out); rintro e w' ⟨rfl, ⟨nd, rfl⟩⟩; refine ⟨_, rfl, ?_⟩) | ((with_reducible refine gate_callee (f := 78) rfl ?_); refine goesL_ (some 13) rfl rfl Tryd.func78 (by kernel_rfl) rfl #[.int .i64 0] rfl eqA ?_; (with_reducible refine (merkle_eight.calls k 0 t141 _ A5.out).mono ?_); rintro e w7 ⟨v142, rfl, ho0, hb⟩; refine ⟨_, rfl, ?_⟩; have HO143 := aM (Kd.R_lower ho0 (below_size bel)); replace HB := aM (below_step bel hb); clear hb ho0; obtain ⟨Ao8, co8, eo8⟩ := Kd.R_slice HO143.out; subst eo8) | ((with_reducible refine gate_dst (N := 14) rfl ?_); refine Kd.N_lit (Kd.slice 5 (Kd.int .u8)) _ 30 ?hg (N' := 14) ?hd (xs := ([t141] : List (List Int))) (inner := [.slice Ao8 t141.length co8]) (ok := (fun _ => True)) (okp := (fun _ => True)) ?hr ?hp (fun _ hk => hk) ((show ∀ k_, w7.heap.size ≤ k_ → (fun _ => True) k_ from fun k_ hk => trivial) _ (Nat.le_refl _)) (Below.refl _ _) (Nat.le_refl _) (by simp) ?_; (case hd => rfl); (case hg => rfl); (case hr => first | (go_simp; done) | (go_simp; rfl)); (case hp => exact (Reps.one (show Kd.FK (Kd.slice 5 (Kd.int .u8)) _ _ t141 [.slice Ao8 t141.length co8] from (Kd.FK_slice_mk (Kd.R_reads' (Kd.R_mono (ok' := (fun _ => True)) (HO143.out) (fun k_ hk => trivial))).2.1 (Kd.R_F (Kd.R_mono (ok' := (fun _ => True)) (HO143.out) (fun k_ hk => trivial))))) (Reps.none _ _))); intro v145 w9 ho10 hb hg_ hnew_; clear hg_ hnew_; (first | rw [← Ny144.out] at ho10 | (simp only [Int.reduceToNat] at ho10; rw [← Ny144.out] at ho10)); have HO146 := aM (Kd.N_lower ho10 (below_size bel)); replace HB := aM (below_step bel hb); clear HO143; clear hb ho10; obtain ⟨Ao11, co11, eo11⟩ := Kd.N_slice HO146.out; subst eo11) | ((with_reducible refine gate_callee (f := 77) rfl ?_); refine goesL_ (some 15) rfl rfl Tryd.func77 (by kernel_rfl) rfl #[.int .u8 2, .slice Ao11 y144.length co11] rfl eqA ?_; (with_reducible refine (merkle_digest.calls 2 _ _ y144 t147 _ (Glb.of HG bel) ?side1 ?side2 A6.out).mono ?_); (case side1 => exact cL (Kd.N_reads' HO146.out).2.2); (case side2 => exact (Kd.N_reads' HO146.out).2.1); rintro e w12 ⟨v148, rfl, ho0, hb⟩; refine ⟨_, rfl, ?_⟩; replace HO146 := aM (Kd.N_elder' (nL HO146.out) (Kd.R_base ho0) hb); have HO149 := aM (Kd.R_lower ho0 (below_size bel)); replace HB := aM (below_step bel hb); clear hb ho0))
  go_ret2
  exact ⟨_, erR, by (with_reducible repeat (first | apply Kd.R_alloc | apply Kd.R_drewN | apply Kd.R_drew)); exact HO149.out, bel⟩
 rw [if_neg c4] at H
 have c4b0 : ((l0.length : Int) == 0) = false := beq_eq_false_iff_ne.mpr c4
 have c4b1 : ((l0.length : Int) != 0) = true := bne_iff_ne.mpr c4
 have c4b2 : ¬ (l0 = []) := fun h_ => c4 (by rw [h_]; rfl)
 replace H := Option.bind_eq_some_iff.mp H
 obtain ⟨t150, A130, H⟩ := H
 replace H : ((merkle_top.f k l0).bind fun t153 => ((merkle_digest.f 2 (([t150, t153] : List (List Int)))).bind fun t159 => (some (t159, 0)))) = some (r1, r2) := H
 have A13 := aM A130
 clear A130
 replace H := Option.bind_eq_some_iff.mp H
 obtain ⟨t153, A140, H⟩ := H
 replace H : ((merkle_digest.f 2 (([t150, t153] : List (List Int)))).bind fun t159 => (some (t159, 0))) = some (r1, r2) := H
 have A14 := aM A140
 clear A140
 obtain ⟨y156, hy156⟩ : ∃ y_ : List (List Int), y_ = (([t150, t153] : List (List Int))) := ⟨_, rfl⟩
 replace H : ((merkle_digest.f 2 y156).bind fun t159 => (some (t159, 0))) = some (r1, r2) := hyA hy156 H
 have Ny156 := aM hy156
 clear hy156
 replace H := Option.bind_eq_some_iff.mp H
 obtain ⟨t159, A150, H⟩ := H
 replace H : (some (t159, 0)) = some (r1, r2) := H
 have A15 := aM A150
 clear A150
 simp only [Option.some.injEq, Prod.mk.injEq] at H
 obtain ⟨rfl, rfl⟩ := H
 go_enter Tryd.func76, Tryd.ntmps76
 go_wp2_with (first | ((with_reducible refine gate_callee (f := 88) rfl ?_); refine goesL_ (some 6) rfl rfl Tryd.func88 (by kernel_rfl) rfl #[.slice A0 l0.length c0] rfl eqA ?_; (with_reducible refine (merkle_leaves.calls k _ _ l0 t140 _ ?side1 ?side2 A2.out).mono ?_); (case side1 => exact cL HR0.out); (case side2 => exact HC0.out); rintro e w' ⟨rfl, ⟨nd, rfl⟩⟩; refine ⟨_, rfl, ?_⟩) | ((with_reducible refine gate_callee (f := 78) rfl ?_); refine goesL_ (some 18) rfl rfl Tryd.func78 (by kernel_rfl) rfl #[.int .i64 (l0.length : Int)] rfl eqA ?_; (with_reducible refine (merkle_eight.calls k (l0.length : Int) t150 _ A13.out).mono ?_); rintro e w16 ⟨v151, rfl, ho0, hb⟩; refine ⟨_, rfl, ?_⟩; have HO152 := aM (Kd.R_lower ho0 (below_size bel)); replace HB := aM (below_step bel hb); clear hb ho0) | ((with_reducible refine gate_callee (f := 91) rfl ?_); refine goesL_ (some 20) rfl rfl Tryd.func91 (by kernel_rfl) rfl #[.slice A0 l0.length c0] rfl eqA ?_; (with_reducible refine (merkle_top.calls k (fun k_ => k_ < w.heap.size) _ _ l0 t153 _ (Glb.of HG bel) ?side1 A14.out).mono ?_); (case side1 => exact Kd.V_mk HC0.out (Kd.F_below (Kd.C_F (Kd.heap_slice 5 (Kd.heap_int .u8)) HR0.out) bel)); rintro e w17 ⟨v154, rfl, ho0, hb⟩; refine ⟨_, rfl, ?_⟩; have HO155 := aM (Kd.V_lower (Kd.V_mono (ok' := fun k_ => some k_ ≠ (v151 : Value).ownBlock) ho0 (fun k_ hk_ => Or.elim hk_ (fun hs_ => fun e_ => Nat.not_le.2 hs_ (Kd.R_base HO152.out k_ e_.symm)) (fun hn_ => (Kd.fresh' (Kd.R_lt (rL HO152.out)) k_ hn_)))) (below_size bel)); replace HO152 := aM (Kd.R_below (rL HO152.out) hb); replace HB := aM (below_step bel hb); clear hb ho0; obtain ⟨Ao18, co18, eo18⟩ := Kd.R_slice HO152.out; subst eo18; obtain ⟨Ao19, co19, eo19⟩ := Kd.V_slice HO155.out; subst eo19) | ((with_reducible refine gate_dst (N := 21) rfl ?_); refine Kd.N_lit (Kd.slice 5 (Kd.int .u8)) _ 30 ?hg (N' := 21) ?hd (xs := ([t150, t153] : List (List Int))) (inner := [.slice Ao18 t150.length co18, .slice Ao19 t153.length co19]) (ok := (fun _ => True)) (okp := (fun _ => True)) ?hr ?hp (fun _ hk => hk) ((show ∀ k_, w17.heap.size ≤ k_ → (fun _ => True) k_ from fun k_ hk => trivial) _ (Nat.le_refl _)) (Below.refl _ _) (Nat.le_refl _) (by simp) ?_; (case hd => rfl); (case hg => rfl); (case hr => first | (go_simp; done) | (go_simp; rfl)); (case hp => exact (Reps.one (show Kd.FK (Kd.slice 5 (Kd.int .u8)) _ _ t150 [.slice Ao18 t150.length co18] from (Kd.FK_slice_mk (Kd.R_reads' (Kd.R_mono (ok' := (fun _ => True)) (HO152.out) (fun k_ hk => trivial))).2.1 (Kd.R_F (Kd.R_mono (ok' := (fun _ => True)) (HO152.out) (fun k_ hk => trivial))))) (Reps.one (show Kd.FK (Kd.slice 5 (Kd.int .u8)) _ _ t153 [.slice Ao19 t153.length co19] from (Kd.FK_slice_mk (Kd.V_reads' (Kd.V_mono (ok' := (fun _ => True)) (HO155.out) (fun k_ hk => trivial))).2.1 (Kd.V_F (Kd.V_mono (ok' := (fun _ => True)) (HO155.out) (fun k_ hk => trivial))))) (Reps.none _ _)))); intro v157 w20 ho21 hb hg_ hnew_; clear hg_ hnew_; (first | rw [← Ny156.out] at ho21 | (simp only [Int.reduceToNat] at ho21; rw [← Ny156.out] at ho21)); replace HO155 := aM (Kd.V_elder' (vL HO155.out) (Kd.N_base ho21) hb); have HO158 := aM (Kd.N_lower ho21 (below_size bel)); replace HB := aM (below_step bel hb); clear HO152; clear hb ho21; obtain ⟨Ao22, co22, eo22⟩ := Kd.N_slice HO158.out; subst eo22) | ((with_reducible refine gate_callee (f := 77) rfl ?_); refine goesL_ (some 22) rfl rfl Tryd.func77 (by kernel_rfl) rfl #[.int .u8 2, .slice Ao22 y156.length co22] rfl eqA ?_; (with_reducible refine (merkle_digest.calls 2 _ _ y156 t159 _ (Glb.of HG bel) ?side1 ?side2 A15.out).mono ?_); (case side1 => exact cL (Kd.N_reads' HO158.out).2.2); (case side2 => exact (Kd.N_reads' HO158.out).2.1); rintro e w23 ⟨v160, rfl, ho0, hb⟩; refine ⟨_, rfl, ?_⟩; replace HO155 := aM (Kd.V_elder' (vL HO155.out) (Kd.R_base ho0) hb); replace HO158 := aM (Kd.N_elder' (nL HO158.out) (Kd.R_base ho0) hb); have HO161 := aM (Kd.R_lower ho0 (below_size bel)); replace HB := aM (below_step bel hb); clear hb ho0))
 go_ret2
 exact ⟨_, erR, by (with_reducible repeat (first | apply Kd.R_alloc | apply Kd.R_drewN | apply Kd.R_drew)); exact HO161.out, bel⟩
/-! ### bytes_Equal: function 66 -/
def bytes_Equal.f (l0 : List Int) (l1 : List Int) : Option (Bool) := some ((strOfNums l0).toList == (strOfNums l1).toList)
set_option maxHeartbeats 8000000 in
set_option maxRecDepth 100000 in
theorem bytes_Equal.calls (A0 : Option Addr) (c0 : Nat) (l0 : List Int) (A1 : Option Addr) (c1 : Nat) (l1 : List Int) (r : Bool) (w : World) (hr0 : Kd.C (Kd.int .u8) w A0 l0.length l0) (hc0 : l0.length ≤ c0) (hr1 : Kd.C (Kd.int .u8) w A1 l1.length l1) (hc1 : l1.length ≤ c1) (h : bytes_Equal.f l0 l1 = some r) :
  Calls Tryd.prog 66 #[.slice A0 l0.length c0, .slice A1 l1.length c1] w fun e w' => e = .returned (.bool r) ∧ Drawn0 w w' := by
 have HR0 := aM hr0
 have HC0 := aM hc0
 clear hr0 hc0
 have HR1 := aM hr1
 have HC1 := aM hc1
 clear hr1 hc1
 have H : (some ((strOfNums l0).toList == (strOfNums l1).toList)) = some r := h
 clear h
 obtain rfl := Option.some.inj H
 have hcv3 := Kd.C_string (P := Tryd.prog) (A := A0) (c := c0) Tryd.underlying30 Tryd.underlying5 Tryd.underlying9 HR0.out
 have hcv4 := Kd.C_string (P := Tryd.prog) (A := A1) (c := c1) Tryd.underlying30 Tryd.underlying5 Tryd.underlying9 HR1.out
 go_enter Tryd.func66, Tryd.ntmps66
 go_wp2
 go_ret
 exact ⟨by first | rfl | (simp; done) | (simp [*]; done), by repeat (first | exact Drawn0.refl _ | apply Drawn0.step)⟩

/-! ### merkle_path: function 92 -/
def merkle_path.l0 : Nat → Int → Int → List Bool → Option (List Bool)
 | 0, _, _, _ => none
 | k + 1, x0, x1, x5 => if x0 > 1 then ((merkle_half.f x0).bind fun t162 => (if x5.length < 140737488355328 then ((some (x5 ++ [decide (x1 ≥ t162)] : List Bool)).bind fun y163 => (if x1 ≥ t162 then (merkle_path.l0 k (wrap64 (x0 - t162)) (wrap64 (x1 - t162)) y163) else (merkle_path.l0 k t162 x1 y163))) else (none))) else (some x5)
def merkle_path.f (k : Nat) (a0 : Int) (a1 : Int) : Option (List Bool) := merkle_path.l0 k a0 a1 ([] : List Bool)
theorem merkle_path.mono_l : ∀ k, (∀ y0 y1 y2, LeO (merkle_path.l0 k y0 y1 y2) (merkle_path.l0 (k + 1) y0 y1 y2))
 | 0 => fun _ _ _ r h => by simp [merkle_path.l0] at h
 | k + 1 => by
  have ih0 := merkle_path.mono_l k
  intro y0 y1 y2
  unfold merkle_path.l0
  repeat' first
  | (with_reducible exact ih0 _ _ _)
  | (with_reducible exact LeO.refl _)
  | (with_reducible exact LeO.none _)
  | (with_reducible refine LeO.ite ?_ ?_)
  | (with_reducible refine LeO.bind ?_ (fun _ => ?_))
theorem merkle_path.mono : ∀ a0 a1 k, LeO (merkle_path.f k a0 a1) (merkle_path.f (k + 1) a0 a1) := by
 intro a0 a1 k
 have ih0 := merkle_path.mono_l k
 unfold merkle_path.f
 repeat' first
   | (with_reducible exact ih0 _ _ _)
   | (with_reducible exact LeO.refl _)
   | (with_reducible exact LeO.none _)
   | (with_reducible refine LeO.ite ?_ ?_)
   | (with_reducible refine LeO.bind ?_ (fun _ => ?_))
set_option maxHeartbeats 8000000 in
set_option maxRecDepth 100000 in
theorem merkle_path.calls (k : Nat) (a0 : Int) (a1 : Int) (r : List Bool) (w : World) (h : merkle_path.f k a0 a1 = some r) :
  Calls Tryd.prog 92 #[.int .i64 a0, .int .i64 a1] w fun e w' => ∃ v0_ : Value, e = .returned (v0_) ∧ Kd.R Kd.bool 4 w' w.heap.size (fun _ => True) v0_ r ∧ Below w.heap.size w w' := by
 have HB := aM (Below.refl w.heap.size w)
 have H : (merkle_path.l0 k a0 a1 ([] : List Bool)) = some r := h
 clear h
 have H' := aM H
 clear H
 go_enter Tryd.func92, Tryd.ntmps92
 go_wp2
 go_loopg [0, 1, 5] k (fun kq v0 v1 v5 w' => ∃ (x0_1 : Int) (x1_1 : Int) (x5_1 : List Bool), v0 = .int .i64 x0_1 ∧ v1 = .int .i64 x1_1 ∧ Aside0 (merkle_path.l0 kq x0_1 x1_1 x5_1 = some r) ∧ Aside0 (kq ≤ k) ∧ Aside0 (Kd.R Kd.bool 4 w' w.heap.size (fun _ => True) v5 x5_1) ∧ Aside0 (Below w.heap.size w w'))
 case atStart => exact ⟨(a0), (a1), (([] : List Bool)), rfS, rfS, H', ⟨Nat.le_refl _⟩, ⟨by first | exact Kd.R_nil _ _ _ _ _ | exact Kd.N_nil _ _ _ _ _ | exact Kd.V_nil _ _ _ _ _ | exact Kd.Q_nil _ _ _ _ _ | exact Kd.S_nil _ _ _ _ _⟩, ⟨bel⟩⟩
 case round =>
  clear H'
  obtain ⟨x0_1, x1_1, x5_1, rfl, rfl, HA, HK1, HO_5, HB⟩ := hrel
  cases gk with
  | zero => exact absurd HA.out (by simp [merkle_path.l0])
  | succ k1 =>
   have H := HA.out
   clear HA
   simp only [merkle_path.l0] at H
   by_cases c3 : x0_1 > 1
   rotate_left
   ·rw [if_neg c3] at H
    have c3b0 : decide (1 < x0_1) = false := decide_eq_false c3
    clear c3
    obtain rfl := Option.some.inj H
    go_wp2
    go_ret
    exact ⟨_, erR, by (with_reducible repeat (first | apply Kd.R_alloc | apply Kd.R_drewN | apply Kd.R_drew)); exact HO_5.out, bel⟩

   rw [if_pos c3] at H
   have c3b0 : decide (1 < x0_1) = true := decide_eq_true c3
   clear c3
   replace H := Option.bind_eq_some_iff.mp H
   obtain ⟨t162, A40, H⟩ := H
   replace H : (if x5_1.length < 140737488355328 then ((some (x5_1 ++ [decide (x1_1 ≥ t162)] : List Bool)).bind fun y163 => (if x1_1 ≥ t162 then (merkle_path.l0 k1 (wrap64 (x0_1 - t162)) (wrap64 (x1_1 - t162)) y163) else (merkle_path.l0 k1 t162 x1_1 y163))) else (none)) = some r := H
   have A4 := aM A40
   clear A40
   by_cases c5 : x5_1.length < 140737488355328
   rotate_left
   ·rw [if_neg c5] at H
    exact absurd H (by simp)
   rw [if_pos c5] at H
   have LMc5 := aM c5
   clear c5
   obtain ⟨y163, hy163⟩ : ∃ y_ : List Bool, y_ = (x5_1 ++ [decide (x1_1 ≥ t162)]) := ⟨_, rfl⟩
   replace H : (if x1_1 ≥ t162 then (merkle_path.l0 k1 (wrap64 (x0_1 - t162)) (wrap64 (x1_1 - t162)) y163) else (merkle_path.l0 k1 t162 x1_1 y163)) = some r := hyA hy163 H
   have Ny163 := aM hy163
   clear hy163
   by_cases c6 : x1_1 ≥ t162
   ·rw [if_pos c6] at H
    have c6b0 : decide (t162 ≤ x1_1) = true := decide_eq_true c6
    clear c6
    have H' := aM H
    clear H
    go_wp2_with (first | ((with_reducible refine gate_callee (f := 90) rfl ?_); refine goesL_ (some 11) rfl rfl Tryd.func90 (by kernel_rfl) rfl #[.int .i64 x0_1] rfl eqA ?_; (with_reducible refine (merkle_half.calls x0_1 t162 _ A4.out).mono ?_); rintro e w7 ⟨rfl, hb⟩; refine ⟨_, rfl, ?_⟩; replace HO_5 := aM (Kd.R_below (rL HO_5.out) hb); replace HB := aM (below_step bel hb); clear hb) | ((with_reducible refine gate_builtin (b := .append) (xs := #[.tmp 15, .tmp 17]) rfl ?_); at_builtin; refine Kd.R_append Kd.bool (w0 := w) w.heap.size rfl (.tmp 15) (.tmp 17) 62 4 (.bool false) 1 rfl Tryd.underlying62 info4 rfl (by decide) (by omega) u5 x5_1 true [.bool true] (fun _ => True) (fun _ => False) rfl rfl ?aP (fun _ hk => hk.elim) ?aF ?aO ?aB ?aS ?aL ?_; (case aP => exact rfl); (case aB => exact bel); (case aF => exact (fun _ _ => trivial)); (case aO => exact (rL HO_5.out)); (case aS => exact (below_size bel)); (case aL => have := LMc5.out; omega); intro v164 w8 ho hb hg hat; rw [show x5_1 ++ [true] = y163 from by rw [Ny163.out, show decide (x1_1 ≥ t162) = true from c6b0]] at ho; replace HB := aM (hb); have HO165 := aM (ho); clear HO_5; clear ho hb hg hat))
    go_roundg k1
    case measure => have := HK1.out; omega
    case rel => exact ⟨(wrap64 (x0_1 - t162)), (wrap64 (x1_1 - t162)), (y163), rfS, rfS, H', ⟨by have := HK1.out; omega⟩, ⟨by (with_reducible repeat (first | apply Kd.R_alloc | apply Kd.R_drewN | apply Kd.R_drew)); exact HO165.out⟩, ⟨bel⟩⟩
   rw [if_neg c6] at H
   have c6b0 : decide (t162 ≤ x1_1) = false := decide_eq_false c6
   clear c6
   have H' := aM H
   clear H
   go_wp2_with (first | ((with_reducible refine gate_callee (f := 90) rfl ?_); refine goesL_ (some 11) rfl rfl Tryd.func90 (by kernel_rfl) rfl #[.int .i64 x0_1] rfl eqA ?_; (with_reducible refine (merkle_half.calls x0_1 t162 _ A4.out).mono ?_); rintro e w9 ⟨rfl, hb⟩; refine ⟨_, rfl, ?_⟩; replace HO_5 := aM (Kd.R_below (rL HO_5.out) hb); replace HB := aM (below_step bel hb); clear hb) | ((with_reducible refine gate_builtin (b := .append) (xs := #[.tmp 15, .tmp 17]) rfl ?_); at_builtin; refine Kd.R_append Kd.bool (w0 := w) w.heap.size rfl (.tmp 15) (.tmp 17) 62 4 (.bool false) 1 rfl Tryd.underlying62 info4 rfl (by decide) (by omega) u5 x5_1 false [.bool false] (fun _ => True) (fun _ => False) rfl rfl ?aP (fun _ hk => hk.elim) ?aF ?aO ?aB ?aS ?aL ?_; (case aP => exact rfl); (case aB => exact bel); (case aF => exact (fun _ _ => trivial)); (case aO => exact (rL HO_5.out)); (case aS => exact (below_size bel)); (case aL => have := LMc5.out; omega); intro v164 w10 ho hb hg hat; rw [show x5_1 ++ [false] = y163 from by rw [Ny163.out, show decide (x1_1 ≥ t162) = false from c6b0]] at ho; replace HB := aM (hb); have HO165 := aM (ho); clear HO_5; clear ho hb hg hat))
   go_roundg k1
   case measure => have := HK1.out; omega
   case rel => exact ⟨(t162), (x1_1), (y163), rfS, rfS, H', ⟨by have := HK1.out; omega⟩, ⟨by (with_reducible repeat (first | apply Kd.R_alloc | apply Kd.R_drewN | apply Kd.R_drew)); exact HO165.out⟩, ⟨bel⟩⟩
end Go.Proofs.YtbenedckmapjoaaDoor.PCut
