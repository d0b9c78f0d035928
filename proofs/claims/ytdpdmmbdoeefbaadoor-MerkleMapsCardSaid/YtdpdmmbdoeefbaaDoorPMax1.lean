-- Written by a program of this session, after the print of the kit.
import Derived.Test.YtdpdmmbdoeefbaaDoorPMax0
namespace Go.Proofs.YtdpdmmbdoeefbaaDoor.PMa
open Go.RowKit Go.Proofs.YtdpdmmbdoeefbaaDoor.X Go.Proofs.YtdpdmmbdoeefbaaDoor.PCut Go.Proofs.YtdpdmmbdoeefbaaDoorW.PrintWords Go.Proofs.YtdpdmmbdoeefbaaDoorW.PrintLast Go.Proofs.YtdpdmmbdoeefbaaDoorW.PrintMore
attribute [local go_sem] max2_int min2_int max_two min_two max_three min_three max_four min_four   -- for this text's walks alone
set_option linter.unusedVariables false
set_option linter.unusedSimpArgs false

/-! ### imprimaturlaw06_MerkleMaps: function 4 -/
def imprimaturlaw06_MerkleMaps.j0 : Nat → List Int → Int → Int → List Int → Int → List Int → Int → Bool → Option (Bool)
  | 0, _, _, _, _, _, _, _, _ => none
  | k + 1, x0, x1, x2, x7, x8, x9, x10, x60 => if x60 = true then (some false) else ((merkle_Right.f x0 x1).bind fun t118 => ((imprimaturref06_Right.f k x0 x1).bind fun t119 => (if (t118 == t119) = true then ((imprimaturref01_SameBytes.f x7 x9).bind fun t120 => (if t120 = true then (if x8 = x10 then ((merkle_Has.f x0 x1 x2).bind fun t121 => ((imprimaturref06_Has.f k x0 x1 x2).bind fun t122 => (if (t121 == t122) = true then ((merkle_Missing.f k x0 x1).bind fun t123 => ((imprimaturref06_Missing.f k x0 x1).bind fun t124 => (if t123 = t124 then ((imprimaturlaw06_known.f).bind fun t125 => (some t125)) else (some false)))) else (some false)))) else (some false)) else (some false))) else (some false))))
def imprimaturlaw06_MerkleMaps.f (k : Nat) (l0 : List Int) (a1 : Int) (a2 : Int) : Option (Bool) := if (l0.length : Int) > 1000 then ((imprimaturlaw06_known.f).bind fun t101 => (some t101)) else ((merkle_Put.f l0 a1 a2).bind fun bt102 => ((imprimaturref06_Put.f k l0 a1 a2).bind fun bt106 => ((merkle_Empty.f a1).bind fun bt110 => (if a1 ≥ 0 then (if ((bt110.2 == 0) != (decide (a1 ≤ 4096))) = true then (imprimaturlaw06_MerkleMaps.j0 k l0 a1 a2 bt102.1 bt102.2 bt106.1 bt106.2 true) else (if bt110.2 = 0 then ((imprimaturref06_Right.f k bt110.1 a1).bind fun t114 => (if t114 = true then ((imprimaturref06_Missing.f k bt110.1 a1).bind fun t115 => (imprimaturlaw06_MerkleMaps.j0 k l0 a1 a2 bt102.1 bt102.2 bt106.1 bt106.2 (t115 != 0))) else (imprimaturlaw06_MerkleMaps.j0 k l0 a1 a2 bt102.1 bt102.2 bt106.1 bt106.2 true))) else (imprimaturlaw06_MerkleMaps.j0 k l0 a1 a2 bt102.1 bt102.2 bt106.1 bt106.2 false))) else (if ((bt110.2 == 0) != false) = true then (imprimaturlaw06_MerkleMaps.j0 k l0 a1 a2 bt102.1 bt102.2 bt106.1 bt106.2 true) else (if bt110.2 = 0 then ((imprimaturref06_Right.f k bt110.1 a1).bind fun t116 => (if t116 = true then ((imprimaturref06_Missing.f k bt110.1 a1).bind fun t117 => (imprimaturlaw06_MerkleMaps.j0 k l0 a1 a2 bt102.1 bt102.2 bt106.1 bt106.2 (t117 != 0))) else (imprimaturlaw06_MerkleMaps.j0 k l0 a1 a2 bt102.1 bt102.2 bt106.1 bt106.2 true))) else (imprimaturlaw06_MerkleMaps.j0 k l0 a1 a2 bt102.1 bt102.2 bt106.1 bt106.2 false)))))))
theorem imprimaturlaw06_MerkleMaps.mono_l : ∀ k, (∀ y0 y1 y2 y3 y4 y5 y6 y7, LeO (imprimaturlaw06_MerkleMaps.j0 k y0 y1 y2 y3 y4 y5 y6 y7) (imprimaturlaw06_MerkleMaps.j0 (k + 1) y0 y1 y2 y3 y4 y5 y6 y7))
  | 0 => fun _ _ _ _ _ _ _ _ r h => by simp [imprimaturlaw06_MerkleMaps.j0] at h
  | k + 1 => by
    have ih0 := imprimaturlaw06_MerkleMaps.mono_l k
    · intro y0 y1 y2 y3 y4 y5 y6 y7
      unfold imprimaturlaw06_MerkleMaps.j0
      repeat' first
      | (with_reducible exact ih0 _ _ _ _ _ _ _ _)
      | (with_reducible exact imprimaturref06_Has.mono _ _ _ _)
      | (with_reducible exact imprimaturref06_Missing.mono _ _ _)
      | (with_reducible exact imprimaturref06_Put.mono _ _ _ _)
      | (with_reducible exact imprimaturref06_Right.mono _ _ _)
      | (with_reducible exact merkle_Missing.mono _ _ _)
      | (with_reducible exact LeO.refl _)
      | (with_reducible exact LeO.none _)
      | (with_reducible refine LeO.ite ?_ ?_)
      | (with_reducible refine LeO.bind ?_ (fun _ => ?_))
      | exact ih0 _ _ _ _ _ _ _ _
      | exact imprimaturref06_Has.mono _ _ _ _
      | exact imprimaturref06_Missing.mono _ _ _
      | exact imprimaturref06_Put.mono _ _ _ _
      | exact imprimaturref06_Right.mono _ _ _
      | exact merkle_Missing.mono _ _ _
      | exact LeO.none _
      | refine LeO.ite ?_ ?_
      | refine LeO.bind ?_ (fun _ => ?_)
theorem imprimaturlaw06_MerkleMaps.mono : ∀ a0 a1 a2 k, LeO (imprimaturlaw06_MerkleMaps.f k a0 a1 a2) (imprimaturlaw06_MerkleMaps.f (k + 1) a0 a1 a2) := by
  intro a0 a1 a2 k
  have ih0 := imprimaturlaw06_MerkleMaps.mono_l k
  unfold imprimaturlaw06_MerkleMaps.f
  repeat' first
      | (with_reducible exact ih0 _ _ _ _ _ _ _ _)
      | (with_reducible exact imprimaturref06_Has.mono _ _ _ _)
      | (with_reducible exact imprimaturref06_Missing.mono _ _ _)
      | (with_reducible exact imprimaturref06_Put.mono _ _ _ _)
      | (with_reducible exact imprimaturref06_Right.mono _ _ _)
      | (with_reducible exact merkle_Missing.mono _ _ _)
      | (with_reducible exact LeO.refl _)
      | (with_reducible exact LeO.none _)
      | (with_reducible refine LeO.ite ?_ ?_)
      | (with_reducible refine LeO.bind ?_ (fun _ => ?_))
      | exact ih0 _ _ _ _ _ _ _ _
      | exact imprimaturref06_Has.mono _ _ _ _
      | exact imprimaturref06_Missing.mono _ _ _
      | exact imprimaturref06_Put.mono _ _ _ _
      | exact imprimaturref06_Right.mono _ _ _
      | exact merkle_Missing.mono _ _ _
      | exact LeO.none _
      | refine LeO.ite ?_ ?_
      | refine LeO.bind ?_ (fun _ => ?_)
set_option maxHeartbeats 8000000 in
set_option maxRecDepth 100000 in
theorem imprimaturlaw06_MerkleMaps.calls (k : Nat) (A0 : Option Addr) (c0 : Nat) (l0 : List Int) (a1 : Int) (a2 : Int) (r : Bool) (w : World) (HG : Glb w) (hr0 : Kd.C (Kd.int .u8) w A0 l0.length l0) (hc0 : l0.length ≤ c0) (h : imprimaturlaw06_MerkleMaps.f k l0 a1 a2 = some r) :
    Calls Tryd.prog 4 #[.slice A0 l0.length c0, .int .i64 a1, .int .i64 a2] w fun e w' => e = .returned (.bool r) ∧ Below w.heap.size w w' := by
  have HR0 := Aside0.mk hr0
  have HC0 := Aside0.mk hc0
  clear hr0 hc0
  have HB := Aside0.mk (Below.refl w.heap.size w)
  have H : (if (l0.length : Int) > 1000 then ((imprimaturlaw06_known.f).bind fun t101 => (some t101)) else ((merkle_Put.f l0 a1 a2).bind fun bt102 => ((imprimaturref06_Put.f k l0 a1 a2).bind fun bt106 => ((merkle_Empty.f a1).bind fun bt110 => (if a1 ≥ 0 then (if ((bt110.2 == 0) != (decide (a1 ≤ 4096))) = true then (imprimaturlaw06_MerkleMaps.j0 k l0 a1 a2 bt102.1 bt102.2 bt106.1 bt106.2 true) else (if bt110.2 = 0 then ((imprimaturref06_Right.f k bt110.1 a1).bind fun t114 => (if t114 = true then ((imprimaturref06_Missing.f k bt110.1 a1).bind fun t115 => (imprimaturlaw06_MerkleMaps.j0 k l0 a1 a2 bt102.1 bt102.2 bt106.1 bt106.2 (t115 != 0))) else (imprimaturlaw06_MerkleMaps.j0 k l0 a1 a2 bt102.1 bt102.2 bt106.1 bt106.2 true))) else (imprimaturlaw06_MerkleMaps.j0 k l0 a1 a2 bt102.1 bt102.2 bt106.1 bt106.2 false))) else (if ((bt110.2 == 0) != false) = true then (imprimaturlaw06_MerkleMaps.j0 k l0 a1 a2 bt102.1 bt102.2 bt106.1 bt106.2 true) else (if bt110.2 = 0 then ((imprimaturref06_Right.f k bt110.1 a1).bind fun t116 => (if t116 = true then ((imprimaturref06_Missing.f k bt110.1 a1).bind fun t117 => (imprimaturlaw06_MerkleMaps.j0 k l0 a1 a2 bt102.1 bt102.2 bt106.1 bt106.2 (t117 != 0))) else (imprimaturlaw06_MerkleMaps.j0 k l0 a1 a2 bt102.1 bt102.2 bt106.1 bt106.2 true))) else (imprimaturlaw06_MerkleMaps.j0 k l0 a1 a2 bt102.1 bt102.2 bt106.1 bt106.2 false)))))))) = some r := h
  clear h
  by_cases c4 : (l0.length : Int) > 1000
  · rw [if_pos c4] at H
    have c4b0 : decide (1000 < (l0.length : Int)) = true := decide_eq_true c4
    have c4b1 : decide (1000 < l0.length) = true := decide_eq_true (by omega)
    clear c4
    replace H := Option.bind_eq_some_iff.mp H
    obtain ⟨t101, A50, H⟩ := H
    replace H : (some t101) = some r := H
    have A5 := Aside0.mk A50
    clear A50
    obtain rfl := Option.some.inj H
    go_enter Tryd.func4, Tryd.ntmps4
    go_wp2_with (first | ((with_reducible refine gate_callee (f := 15) rfl ?_); refine goesL_ (some 16) rfl rfl Tryd.func15 (by kernel_rfl) rfl #[] rfl (by (try simp only [List.map_toArray, List.map_cons, List.map_nil]); first | done | rfl | (simp only [List.length_drop, List.length_take]; rfl)) ?_; (with_reducible refine (imprimaturlaw06_known.calls  t101 _ (Glb.of HG (by repeat (first | (with_reducible first | exact HB.out | apply below_alloc | apply pw_below_drewN | apply below_drew1) | exact HB.out))) A5.out).mono ?_); rintro e w6 ⟨rfl, hb⟩; refine ⟨_, rfl, ?_⟩; have n0_ := Aside0.mk (below_step (by repeat (first | (with_reducible first | exact HB.out | apply below_alloc | apply pw_below_drewN | apply below_drew1) | exact HB.out)) hb); clear HB; have HB := n0_; clear n0_; (try clear hb); (try clear hb2); (try clear hk); (try clear hi)))
    go_ret
    exact ⟨by first | rfl | (simp [errW_none, errW_some] <;> rfl) | (simp [*, errW_none, errW_some] <;> rfl), by repeat (first | (with_reducible first | exact HB.out | apply below_alloc | apply pw_below_drewN | apply below_drew1) | exact HB.out)⟩
  · rw [if_neg c4] at H
    have c4b0 : decide (1000 < (l0.length : Int)) = false := decide_eq_false c4
    have c4b1 : decide (1000 < l0.length) = false := decide_eq_false (by omega)
    clear c4
    replace H := Option.bind_eq_some_iff.mp H
    obtain ⟨⟨t102, t103⟩, A70, H⟩ := H
    replace H : ((imprimaturref06_Put.f k l0 a1 a2).bind fun bt106 => ((merkle_Empty.f a1).bind fun bt110 => (if a1 ≥ 0 then (if ((bt110.2 == 0) != (decide (a1 ≤ 4096))) = true then (imprimaturlaw06_MerkleMaps.j0 k l0 a1 a2 t102 t103 bt106.1 bt106.2 true) else (if bt110.2 = 0 then ((imprimaturref06_Right.f k bt110.1 a1).bind fun t114 => (if t114 = true then ((imprimaturref06_Missing.f k bt110.1 a1).bind fun t115 => (imprimaturlaw06_MerkleMaps.j0 k l0 a1 a2 t102 t103 bt106.1 bt106.2 (t115 != 0))) else (imprimaturlaw06_MerkleMaps.j0 k l0 a1 a2 t102 t103 bt106.1 bt106.2 true))) else (imprimaturlaw06_MerkleMaps.j0 k l0 a1 a2 t102 t103 bt106.1 bt106.2 false))) else (if ((bt110.2 == 0) != false) = true then (imprimaturlaw06_MerkleMaps.j0 k l0 a1 a2 t102 t103 bt106.1 bt106.2 true) else (if bt110.2 = 0 then ((imprimaturref06_Right.f k bt110.1 a1).bind fun t116 => (if t116 = true then ((imprimaturref06_Missing.f k bt110.1 a1).bind fun t117 => (imprimaturlaw06_MerkleMaps.j0 k l0 a1 a2 t102 t103 bt106.1 bt106.2 (t117 != 0))) else (imprimaturlaw06_MerkleMaps.j0 k l0 a1 a2 t102 t103 bt106.1 bt106.2 true))) else (imprimaturlaw06_MerkleMaps.j0 k l0 a1 a2 t102 t103 bt106.1 bt106.2 false)))))) = some r := H
    have A7 := Aside0.mk A70
    clear A70
    replace H := Option.bind_eq_some_iff.mp H
    obtain ⟨⟨t106, t107⟩, A80, H⟩ := H
    replace H : ((merkle_Empty.f a1).bind fun bt110 => (if a1 ≥ 0 then (if ((bt110.2 == 0) != (decide (a1 ≤ 4096))) = true then (imprimaturlaw06_MerkleMaps.j0 k l0 a1 a2 t102 t103 t106 t107 true) else (if bt110.2 = 0 then ((imprimaturref06_Right.f k bt110.1 a1).bind fun t114 => (if t114 = true then ((imprimaturref06_Missing.f k bt110.1 a1).bind fun t115 => (imprimaturlaw06_MerkleMaps.j0 k l0 a1 a2 t102 t103 t106 t107 (t115 != 0))) else (imprimaturlaw06_MerkleMaps.j0 k l0 a1 a2 t102 t103 t106 t107 true))) else (imprimaturlaw06_MerkleMaps.j0 k l0 a1 a2 t102 t103 t106 t107 false))) else (if ((bt110.2 == 0) != false) = true then (imprimaturlaw06_MerkleMaps.j0 k l0 a1 a2 t102 t103 t106 t107 true) else (if bt110.2 = 0 then ((imprimaturref06_Right.f k bt110.1 a1).bind fun t116 => (if t116 = true then ((imprimaturref06_Missing.f k bt110.1 a1).bind fun t117 => (imprimaturlaw06_MerkleMaps.j0 k l0 a1 a2 t102 t103 t106 t107 (t117 != 0))) else (imprimaturlaw06_MerkleMaps.j0 k l0 a1 a2 t102 t103 t106 t107 true))) else (imprimaturlaw06_MerkleMaps.j0 k l0 a1 a2 t102 t103 t106 t107 false))))) = some r := H
    have A8 := Aside0.mk A80
    clear A80
    replace H := Option.bind_eq_some_iff.mp H
    obtain ⟨⟨t110, t111⟩, A90, H⟩ := H
    replace H : (if a1 ≥ 0 then (if ((t111 == 0) != (decide (a1 ≤ 4096))) = true then (imprimaturlaw06_MerkleMaps.j0 k l0 a1 a2 t102 t103 t106 t107 true) else (if t111 = 0 then ((imprimaturref06_Right.f k t110 a1).bind fun t114 => (if t114 = true then ((imprimaturref06_Missing.f k t110 a1).bind fun t115 => (imprimaturlaw06_MerkleMaps.j0 k l0 a1 a2 t102 t103 t106 t107 (t115 != 0))) else (imprimaturlaw06_MerkleMaps.j0 k l0 a1 a2 t102 t103 t106 t107 true))) else (imprimaturlaw06_MerkleMaps.j0 k l0 a1 a2 t102 t103 t106 t107 false))) else (if ((t111 == 0) != false) = true then (imprimaturlaw06_MerkleMaps.j0 k l0 a1 a2 t102 t103 t106 t107 true) else (if t111 = 0 then ((imprimaturref06_Right.f k t110 a1).bind fun t116 => (if t116 = true then ((imprimaturref06_Missing.f k t110 a1).bind fun t117 => (imprimaturlaw06_MerkleMaps.j0 k l0 a1 a2 t102 t103 t106 t107 (t117 != 0))) else (imprimaturlaw06_MerkleMaps.j0 k l0 a1 a2 t102 t103 t106 t107 true))) else (imprimaturlaw06_MerkleMaps.j0 k l0 a1 a2 t102 t103 t106 t107 false)))) = some r := H
    have A9 := Aside0.mk A90
    clear A90
    have HC10 := Aside0.mk H
    clear H
    go_enter Tryd.func4, Tryd.ntmps4
    go_upto_region 6 with (first | ((with_reducible refine gate_callee (f := 18) rfl ?_); refine goesL_ (some 21) rfl rfl Tryd.func18 (by kernel_rfl) rfl #[.slice A0 l0.length c0, .int .i64 a1, .int .i64 a2] rfl (by (try simp only [List.map_toArray, List.map_cons, List.map_nil]); first | done | rfl | (simp only [List.length_drop, List.length_take]; rfl)) ?_; (with_reducible refine (merkle_Put.calls _ _ l0 a1 a2 t102 t103 _ ?side1 ?side2 A7.out).mono ?_); (case side1 => repeat (first | exact HR0.out | (with_reducible refine Kd.C_alloc ?_ _) | (with_reducible refine Kd.C_drewN ?_ _) | (with_reducible refine Kd.C_drew ?_))); (case side2 => exact HC0.out); rintro e w11 ⟨v104, rfl, ho0, hb⟩; refine ⟨_, rfl, ?_⟩; have n0_ := Aside0.mk (Kd.R_lower ho0 (below_size (by repeat (first | (with_reducible first | exact HB.out | apply below_alloc | apply pw_below_drewN | apply below_drew1) | exact HB.out)))); have n1_ := Aside0.mk (below_step (by repeat (first | (with_reducible first | exact HB.out | apply below_alloc | apply pw_below_drewN | apply below_drew1) | exact HB.out)) hb); clear HB; have HO105 := n0_; have HB := n1_; clear n0_ n1_; (try clear hb); (try clear hb2); (try clear hk); (try clear hi); (try clear ho0)) | ((with_reducible refine gate_callee (f := 19) rfl ?_); refine goesL_ (some 28) rfl rfl Tryd.func19 (by kernel_rfl) rfl #[.slice A0 l0.length c0, .int .i64 a1, .int .i64 a2] rfl (by (try simp only [List.map_toArray, List.map_cons, List.map_nil]); first | done | rfl | (simp only [List.length_drop, List.length_take]; rfl)) ?_; (with_reducible refine (imprimaturref06_Put.calls k _ _ l0 a1 a2 t106 t107 _ ?side1 ?side2 A8.out).mono ?_); (case side1 => repeat (first | exact (Kd.C_below HR0.out HB.out) | (with_reducible refine Kd.C_alloc ?_ _) | (with_reducible refine Kd.C_drewN ?_ _) | (with_reducible refine Kd.C_drew ?_))); (case side2 => exact HC0.out); rintro e w12 ⟨v108, rfl, ho0, hb⟩; refine ⟨_, rfl, ?_⟩; have n0_ := Aside0.mk (Kd.R_elder' (by (with_reducible repeat (first | apply Kd.R_alloc | apply Kd.R_drewN | apply Kd.R_drew)); exact HO105.out) (Kd.R_base ho0) hb); have n1_ := Aside0.mk (Kd.R_lower (Kd.R_new' ho0 (Kd.R_lt (by (with_reducible repeat (first | apply Kd.R_alloc | apply Kd.R_drewN | apply Kd.R_drew)); exact HO105.out))) (below_size (by repeat (first | (with_reducible first | exact HB.out | apply below_alloc | apply pw_below_drewN | apply below_drew1) | exact HB.out)))); have n2_ := Aside0.mk (below_step (by repeat (first | (with_reducible first | exact HB.out | apply below_alloc | apply pw_below_drewN | apply below_drew1) | exact HB.out)) hb); clear HO105; clear HB; have HO105 := n0_; have HO109 := n1_; have HB := n2_; clear n0_ n1_ n2_; (try clear hb); (try clear hb2); (try clear hk); (try clear hi); (try clear ho0)) | ((with_reducible refine gate_callee (f := 20) rfl ?_); refine goesL_ (some 33) rfl rfl Tryd.func20 (by kernel_rfl) rfl #[.int .i64 a1] rfl (by (try simp only [List.map_toArray, List.map_cons, List.map_nil]); first | done | rfl | (simp only [List.length_drop, List.length_take]; rfl)) ?_; (with_reducible refine (merkle_Empty.calls a1 t110 t111 _ A9.out).mono ?_); rintro e w13 ⟨v112, rfl, ho0, hb⟩; refine ⟨_, rfl, ?_⟩; have n0_ := Aside0.mk (Kd.R_elder' (by (with_reducible repeat (first | apply Kd.R_alloc | apply Kd.R_drewN | apply Kd.R_drew)); exact HO105.out) (Kd.R_base ho0) hb); have n1_ := Aside0.mk (Kd.R_elder' (by (with_reducible repeat (first | apply Kd.R_alloc | apply Kd.R_drewN | apply Kd.R_drew)); exact HO109.out) (Kd.R_base ho0) hb); have n2_ := Aside0.mk (Kd.R_lower (Kd.R_new' (Kd.R_new' ho0 (Kd.R_lt (by (with_reducible repeat (first | apply Kd.R_alloc | apply Kd.R_drewN | apply Kd.R_drew)); exact HO105.out))) (Kd.R_lt (by (with_reducible repeat (first | apply Kd.R_alloc | apply Kd.R_drewN | apply Kd.R_drew)); exact HO109.out))) (below_size (by repeat (first | (with_reducible first | exact HB.out | apply below_alloc | apply pw_below_drewN | apply below_drew1) | exact HB.out)))); have n3_ := Aside0.mk (below_step (by repeat (first | (with_reducible first | exact HB.out | apply below_alloc | apply pw_below_drewN | apply below_drew1) | exact HB.out)) hb); clear HO105; clear HO109; clear HB; have HO105 := n0_; have HO109 := n1_; have HO113 := n2_; have HB := n3_; clear n0_ n1_ n2_ n3_; (try clear hb); (try clear hb2); (try clear hk); (try clear hi); (try clear ho0)))
    (try simp only [Act.put, List.setIfInBounds_toArray, List.set_cons_zero, List.set_cons_succ])
    go_cut [60] (fun v60 wc => ∃ (kq : Nat) (x60_9 : Bool), v60 = .bool x60_9 ∧ Aside0 (imprimaturlaw06_MerkleMaps.j0 kq l0 a1 a2 t102 t103 t106 t107 x60_9 = some r) ∧ Aside0 (kq ≤ k) ∧ Aside0 (Kd.R (Kd.int .u8) 5 wc w.heap.size (fun k_ => some k_ ≠ (v108 : Value).ownBlock) v104 t102) ∧ Aside0 (Kd.R (Kd.int .u8) 5 wc w.heap.size (fun k_ => some k_ ≠ (v104 : Value).ownBlock) v108 t106) ∧ Aside0 (Below w.heap.size w wc))
    case first =>
      have H := HC10.out
      clear HC10
      by_cases c14 : a1 ≥ 0
      · rw [if_pos c14] at H
        have c14b0 : decide (0 ≤ a1) = true := decide_eq_true c14
        clear c14
        (first | rw [c14b0] | (simp only [i64_w, i32_w]; rw [c14b0]) | skip)
        by_cases c15 : ((t111 == 0) != (decide (a1 ≤ 4096))) = true
        · rw [if_pos c15] at H
          have c15b0 : ((t111 == 0) != (decide (a1 ≤ 4096))) = true := c15
          (try (have c15b1 : decide ((t111 == 0) = (decide (a1 ≤ 4096))) = false := by simpa using c15))
          (try (have c15b2 : ((t111 == 0) == (decide (a1 ≤ 4096))) = false := by simpa using c15))
          (try (have c15b3 : ¬ ((t111 == 0) = (decide (a1 ≤ 4096))) := by simpa using c15))
          clear c15
          have H' := Aside0.mk H
          clear H
          go_wp2
          go_meet
          case rel => exact ⟨_, (true), (by first | rfl | (simp; done) | (simp [*]; done) | (exfalso; simp_all)), H', ⟨by first | omega | exact Nat.le_refl _⟩, ⟨by (with_reducible repeat (first | apply Kd.R_alloc | apply Kd.R_drewN | apply Kd.R_drew)); exact Kd.R_mono HO105.out (fun _ hk => hk.1.2)⟩, ⟨by (with_reducible repeat (first | apply Kd.R_alloc | apply Kd.R_drewN | apply Kd.R_drew)); exact Kd.R_mono HO109.out (fun _ hk => hk.1.2)⟩, ⟨by repeat (first | (with_reducible first | exact HB.out | apply below_alloc | apply pw_below_drewN | apply below_drew1) | exact HB.out)⟩⟩
        · rw [if_neg c15] at H
          have c15b0 : ((t111 == 0) != (decide (a1 ≤ 4096))) = false := by simpa using c15
          (try (have c15b1 : decide ((t111 == 0) = (decide (a1 ≤ 4096))) = true := by simpa using c15))
          (try (have c15b2 : ((t111 == 0) == (decide (a1 ≤ 4096))) = true := by simpa using c15))
          clear c15
          by_cases c16 : t111 = 0
          · rw [if_pos c16] at H
            have c16b0 : (t111 == 0) = true := beq_iff_eq.mpr c16
            (try (have c16x : decide (a1 ≤ 4096) = true := by have e := c15b0; rw [c16b0] at e; simpa using e))
            have c16b1 : (t111 != 0) = false := bne_eq_false_iff_eq.mpr c16
            clear c16
            replace H := Option.bind_eq_some_iff.mp H
            obtain ⟨t114, A170, H⟩ := H
            replace H : (if t114 = true then ((imprimaturref06_Missing.f k t110 a1).bind fun t115 => (imprimaturlaw06_MerkleMaps.j0 k l0 a1 a2 t102 t103 t106 t107 (t115 != 0))) else (imprimaturlaw06_MerkleMaps.j0 k l0 a1 a2 t102 t103 t106 t107 true)) = some r := H
            have A17 := Aside0.mk A170
            clear A170
            by_cases c18 : t114 = true
            · subst c18
              have H1 : ((imprimaturref06_Missing.f k t110 a1).bind fun t115 => (imprimaturlaw06_MerkleMaps.j0 k l0 a1 a2 t102 t103 t106 t107 (t115 != 0))) = some r := by rw [if_pos rfl] at H; exact H
              clear H
              have H := H1
              clear H1
              replace H := Option.bind_eq_some_iff.mp H
              obtain ⟨t115, A190, H⟩ := H
              replace H : (imprimaturlaw06_MerkleMaps.j0 k l0 a1 a2 t102 t103 t106 t107 (t115 != 0)) = some r := H
              have A19 := Aside0.mk A190
              clear A190
              have H' := Aside0.mk H
              clear H
              obtain ⟨Ao20, co20, eo20⟩ := Kd.R_slice HO113.out
              subst eo20
              go_wp2_with (first | (go_at_call 21; (with_reducible refine (imprimaturref06_Right.calls k _ _ t110 a1 true _ ?side1 ?side2 A17.out).mono ?_); (case side1 => repeat (first | exact (Kd.R_reads' HO113.out).2.2 | (with_reducible refine Kd.C_alloc ?_ _) | (with_reducible refine Kd.C_drewN ?_ _) | (with_reducible refine Kd.C_drew ?_))); (case side2 => exact (Kd.R_reads' HO113.out).2.1); rintro e w' ⟨rfl, ⟨nd, rfl⟩⟩) | (go_at_call 22; (with_reducible refine (imprimaturref06_Missing.calls k _ _ t110 a1 t115 _ ?side1 ?side2 A19.out).mono ?_); (case side1 => repeat (first | exact (Kd.R_reads' HO113.out).2.2 | (with_reducible refine Kd.C_alloc ?_ _) | (with_reducible refine Kd.C_drewN ?_ _) | (with_reducible refine Kd.C_drew ?_))); (case side2 => exact (Kd.R_reads' HO113.out).2.1); rintro e w' ⟨rfl, ⟨nd, rfl⟩⟩))
              go_meet
              case rel => exact ⟨_, ((t115 != 0)), (by first | rfl | (simp; done) | (simp [*]; done) | (exfalso; simp_all)), H', ⟨by first | omega | exact Nat.le_refl _⟩, ⟨by (with_reducible repeat (first | apply Kd.R_alloc | apply Kd.R_drewN | apply Kd.R_drew)); exact Kd.R_mono HO105.out (fun _ hk => hk.1.2)⟩, ⟨by (with_reducible repeat (first | apply Kd.R_alloc | apply Kd.R_drewN | apply Kd.R_drew)); exact Kd.R_mono HO109.out (fun _ hk => hk.1.2)⟩, ⟨by repeat (first | (with_reducible first | exact HB.out | apply below_alloc | apply pw_below_drewN | apply below_drew1) | exact HB.out)⟩⟩
            · replace c18 := Bool.eq_false_iff.mpr c18
              subst c18
              have H1 : (imprimaturlaw06_MerkleMaps.j0 k l0 a1 a2 t102 t103 t106 t107 true) = some r := by rw [if_neg (show ¬ (false = true) by decide)] at H; exact H
              clear H
              have H := H1
              clear H1
              have H' := Aside0.mk H
              clear H
              obtain ⟨Ao21, co21, eo21⟩ := Kd.R_slice HO113.out
              subst eo21
              go_wp2_with (first | (go_at_call 21; (with_reducible refine (imprimaturref06_Right.calls k _ _ t110 a1 false _ ?side1 ?side2 A17.out).mono ?_); (case side1 => repeat (first | exact (Kd.R_reads' HO113.out).2.2 | (with_reducible refine Kd.C_alloc ?_ _) | (with_reducible refine Kd.C_drewN ?_ _) | (with_reducible refine Kd.C_drew ?_))); (case side2 => exact (Kd.R_reads' HO113.out).2.1); rintro e w' ⟨rfl, ⟨nd, rfl⟩⟩))
              go_meet
              case rel => exact ⟨_, (true), (by first | rfl | (simp; done) | (simp [*]; done) | (exfalso; simp_all)), H', ⟨by first | omega | exact Nat.le_refl _⟩, ⟨by (with_reducible repeat (first | apply Kd.R_alloc | apply Kd.R_drewN | apply Kd.R_drew)); exact Kd.R_mono HO105.out (fun _ hk => hk.1.2)⟩, ⟨by (with_reducible repeat (first | apply Kd.R_alloc | apply Kd.R_drewN | apply Kd.R_drew)); exact Kd.R_mono HO109.out (fun _ hk => hk.1.2)⟩, ⟨by repeat (first | (with_reducible first | exact HB.out | apply below_alloc | apply pw_below_drewN | apply below_drew1) | exact HB.out)⟩⟩
          · rw [if_neg c16] at H
            have c16b0 : (t111 == 0) = false := beq_eq_false_iff_ne.mpr c16
            (try (have c16x : decide (a1 ≤ 4096) = false := by have e := c15b0; rw [c16b0] at e; simpa using e))
            have c16b1 : (t111 != 0) = true := bne_iff_ne.mpr c16
            have H' := Aside0.mk H
            clear H
            go_wp2
            go_meet
            case rel => exact ⟨_, (false), (by first | rfl | (simp; done) | (simp [*]; done) | (exfalso; simp_all)), H', ⟨by first | omega | exact Nat.le_refl _⟩, ⟨by (with_reducible repeat (first | apply Kd.R_alloc | apply Kd.R_drewN | apply Kd.R_drew)); exact Kd.R_mono HO105.out (fun _ hk => hk.1.2)⟩, ⟨by (with_reducible repeat (first | apply Kd.R_alloc | apply Kd.R_drewN | apply Kd.R_drew)); exact Kd.R_mono HO109.out (fun _ hk => hk.1.2)⟩, ⟨by repeat (first | (with_reducible first | exact HB.out | apply below_alloc | apply pw_below_drewN | apply below_drew1) | exact HB.out)⟩⟩
      · rw [if_neg c14] at H
        have c14b0 : decide (0 ≤ a1) = false := decide_eq_false c14
        clear c14
        (first | rw [c14b0] | (simp only [i64_w, i32_w]; rw [c14b0]) | skip)
        by_cases c22 : ((t111 == 0) != false) = true
        · rw [if_pos c22] at H
          have c22b0 : ((t111 == 0) != false) = true := c22
          (try (have c22b1 : decide ((t111 == 0) = false) = false := by simpa using c22))
          (try (have c22b2 : ((t111 == 0) == false) = false := by simpa using c22))
          (try (have c22b3 : ¬ ((t111 == 0) = false) := by simpa using c22))
          clear c22
          have H' := Aside0.mk H
          clear H
          go_wp2
          go_meet
          case rel => exact ⟨_, (true), (by first | rfl | (simp; done) | (simp [*]; done) | (exfalso; simp_all)), H', ⟨by first | omega | exact Nat.le_refl _⟩, ⟨by (with_reducible repeat (first | apply Kd.R_alloc | apply Kd.R_drewN | apply Kd.R_drew)); exact Kd.R_mono HO105.out (fun _ hk => hk.1.2)⟩, ⟨by (with_reducible repeat (first | apply Kd.R_alloc | apply Kd.R_drewN | apply Kd.R_drew)); exact Kd.R_mono HO109.out (fun _ hk => hk.1.2)⟩, ⟨by repeat (first | (with_reducible first | exact HB.out | apply below_alloc | apply pw_below_drewN | apply below_drew1) | exact HB.out)⟩⟩
        · rw [if_neg c22] at H
          have c22b0 : ((t111 == 0) != false) = false := by simpa using c22
          (try (have c22b1 : decide ((t111 == 0) = false) = true := by simpa using c22))
          (try (have c22b2 : ((t111 == 0) == false) = true := by simpa using c22))
          clear c22
          by_cases c23 : t111 = 0
          · rw [if_pos c23] at H
            have c23b0 : (t111 == 0) = true := beq_iff_eq.mpr c23
            (try (have c23x : decide (a1 ≤ 4096) = true := by have e := c15b0; rw [c23b0] at e; simpa using e))
            have c23b1 : (t111 != 0) = false := bne_eq_false_iff_eq.mpr c23
            clear c23
            replace H := Option.bind_eq_some_iff.mp H
            obtain ⟨t116, A240, H⟩ := H
            replace H : (if t116 = true then ((imprimaturref06_Missing.f k t110 a1).bind fun t117 => (imprimaturlaw06_MerkleMaps.j0 k l0 a1 a2 t102 t103 t106 t107 (t117 != 0))) else (imprimaturlaw06_MerkleMaps.j0 k l0 a1 a2 t102 t103 t106 t107 true)) = some r := H
            have A24 := Aside0.mk A240
            clear A240
            by_cases c25 : t116 = true
            · subst c25
              have H1 : ((imprimaturref06_Missing.f k t110 a1).bind fun t117 => (imprimaturlaw06_MerkleMaps.j0 k l0 a1 a2 t102 t103 t106 t107 (t117 != 0))) = some r := by rw [if_pos rfl] at H; exact H
              clear H
              have H := H1
              clear H1
              replace H := Option.bind_eq_some_iff.mp H
              obtain ⟨t117, A260, H⟩ := H
              replace H : (imprimaturlaw06_MerkleMaps.j0 k l0 a1 a2 t102 t103 t106 t107 (t117 != 0)) = some r := H
              have A26 := Aside0.mk A260
              clear A260
              have H' := Aside0.mk H
              clear H
              obtain ⟨Ao27, co27, eo27⟩ := Kd.R_slice HO113.out
              subst eo27
              go_wp2_with (first | (go_at_call 21; (with_reducible refine (imprimaturref06_Right.calls k _ _ t110 a1 true _ ?side1 ?side2 A24.out).mono ?_); (case side1 => repeat (first | exact (Kd.R_reads' HO113.out).2.2 | (with_reducible refine Kd.C_alloc ?_ _) | (with_reducible refine Kd.C_drewN ?_ _) | (with_reducible refine Kd.C_drew ?_))); (case side2 => exact (Kd.R_reads' HO113.out).2.1); rintro e w' ⟨rfl, ⟨nd, rfl⟩⟩) | (go_at_call 22; (with_reducible refine (imprimaturref06_Missing.calls k _ _ t110 a1 t117 _ ?side1 ?side2 A26.out).mono ?_); (case side1 => repeat (first | exact (Kd.R_reads' HO113.out).2.2 | (with_reducible refine Kd.C_alloc ?_ _) | (with_reducible refine Kd.C_drewN ?_ _) | (with_reducible refine Kd.C_drew ?_))); (case side2 => exact (Kd.R_reads' HO113.out).2.1); rintro e w' ⟨rfl, ⟨nd, rfl⟩⟩))
              go_meet
              case rel => exact ⟨_, ((t117 != 0)), (by first | rfl | (simp; done) | (simp [*]; done) | (exfalso; simp_all)), H', ⟨by first | omega | exact Nat.le_refl _⟩, ⟨by (with_reducible repeat (first | apply Kd.R_alloc | apply Kd.R_drewN | apply Kd.R_drew)); exact Kd.R_mono HO105.out (fun _ hk => hk.1.2)⟩, ⟨by (with_reducible repeat (first | apply Kd.R_alloc | apply Kd.R_drewN | apply Kd.R_drew)); exact Kd.R_mono HO109.out (fun _ hk => hk.1.2)⟩, ⟨by repeat (first | (with_reducible first | exact HB.out | apply below_alloc | apply pw_below_drewN | apply below_drew1) | exact HB.out)⟩⟩
            · replace c25 := Bool.eq_false_iff.mpr c25
              subst c25
              have H1 : (imprimaturlaw06_MerkleMaps.j0 k l0 a1 a2 t102 t103 t106 t107 true) = some r := by rw [if_neg (show ¬ (false = true) by decide)] at H; exact H
              clear H
              have H := H1
              clear H1
              have H' := Aside0.mk H
              clear H
              obtain ⟨Ao28, co28, eo28⟩ := Kd.R_slice HO113.out
              subst eo28
              go_wp2_with (first | (go_at_call 21; (with_reducible refine (imprimaturref06_Right.calls k _ _ t110 a1 false _ ?side1 ?side2 A24.out).mono ?_); (case side1 => repeat (first | exact (Kd.R_reads' HO113.out).2.2 | (with_reducible refine Kd.C_alloc ?_ _) | (with_reducible refine Kd.C_drewN ?_ _) | (with_reducible refine Kd.C_drew ?_))); (case side2 => exact (Kd.R_reads' HO113.out).2.1); rintro e w' ⟨rfl, ⟨nd, rfl⟩⟩))
              go_meet
              case rel => exact ⟨_, (true), (by first | rfl | (simp; done) | (simp [*]; done) | (exfalso; simp_all)), H', ⟨by first | omega | exact Nat.le_refl _⟩, ⟨by (with_reducible repeat (first | apply Kd.R_alloc | apply Kd.R_drewN | apply Kd.R_drew)); exact Kd.R_mono HO105.out (fun _ hk => hk.1.2)⟩, ⟨by (with_reducible repeat (first | apply Kd.R_alloc | apply Kd.R_drewN | apply Kd.R_drew)); exact Kd.R_mono HO109.out (fun _ hk => hk.1.2)⟩, ⟨by repeat (first | (with_reducible first | exact HB.out | apply below_alloc | apply pw_below_drewN | apply below_drew1) | exact HB.out)⟩⟩
          · rw [if_neg c23] at H
            have c23b0 : (t111 == 0) = false := beq_eq_false_iff_ne.mpr c23
            (try (have c23x : decide (a1 ≤ 4096) = false := by have e := c15b0; rw [c23b0] at e; simpa using e))
            have c23b1 : (t111 != 0) = true := bne_iff_ne.mpr c23
            have H' := Aside0.mk H
            clear H
            go_wp2
            go_meet
            case rel => exact ⟨_, (false), (by first | rfl | (simp; done) | (simp [*]; done) | (exfalso; simp_all)), H', ⟨by first | omega | exact Nat.le_refl _⟩, ⟨by (with_reducible repeat (first | apply Kd.R_alloc | apply Kd.R_drewN | apply Kd.R_drew)); exact Kd.R_mono HO105.out (fun _ hk => hk.1.2)⟩, ⟨by (with_reducible repeat (first | apply Kd.R_alloc | apply Kd.R_drewN | apply Kd.R_drew)); exact Kd.R_mono HO109.out (fun _ hk => hk.1.2)⟩, ⟨by repeat (first | (with_reducible first | exact HB.out | apply below_alloc | apply pw_below_drewN | apply below_drew1) | exact HB.out)⟩⟩
    case rest =>
      clear HC10
      try clear c1
      try clear c2
      try clear p2
      try clear c4
      try clear c4b0
      try clear c4b1
      try clear c14
      try clear c14b0
      try clear c15
      try clear c15b0
      try clear c15b1
      try clear c15b2
      try clear c16
      try clear c16b0
      try clear c16b1
      try clear c18
      try clear c19
      try clear c20
      try clear c22
      try clear c22b0
      try clear c22b1
      try clear c22b2
      try clear c23
      try clear c23b0
      try clear c23b1
      try clear c25
      obtain ⟨kq, x60_9, rfl, HA, HJ9, HO_7, HO_9, HB⟩ := hcut
      cases kq with
      | zero => exact absurd HA.out (by simp [imprimaturlaw06_MerkleMaps.j0])
      | succ kj9 =>
        have H := HA.out
        clear HA
        simp only [imprimaturlaw06_MerkleMaps.j0] at H
        by_cases c29 : x60_9 = true
        · subst c29
          have H1 : (some false) = some r := by rw [if_pos rfl] at H; exact H
          clear H
          have H := H1
          clear H1
          obtain rfl := Option.some.inj H
          go_wp2
          go_ret
          exact ⟨by first | rfl | (simp [errW_none, errW_some] <;> rfl) | (simp [*, errW_none, errW_some] <;> rfl), by repeat (first | (with_reducible first | exact HB.out | apply below_alloc | apply pw_below_drewN | apply below_drew1) | exact HB.out)⟩
        · replace c29 := Bool.eq_false_iff.mpr c29
          subst c29
          have H1 : ((merkle_Right.f l0 a1).bind fun t118 => ((imprimaturref06_Right.f kj9 l0 a1).bind fun t119 => (if (t118 == t119) = true then ((imprimaturref01_SameBytes.f t102 t106).bind fun t120 => (if t120 = true then (if t103 = t107 then ((merkle_Has.f l0 a1 a2).bind fun t121 => ((imprimaturref06_Has.f kj9 l0 a1 a2).bind fun t122 => (if (t121 == t122) = true then ((merkle_Missing.f kj9 l0 a1).bind fun t123 => ((imprimaturref06_Missing.f kj9 l0 a1).bind fun t124 => (if t123 = t124 then ((imprimaturlaw06_known.f).bind fun t125 => (some t125)) else (some false)))) else (some false)))) else (some false)) else (some false))) else (some false)))) = some r := by rw [if_neg (show ¬ (false = true) by decide)] at H; exact H
          clear H
          have H := H1
          clear H1
          replace H := Option.bind_eq_some_iff.mp H
          obtain ⟨t118, A300, H⟩ := H
          replace H : ((imprimaturref06_Right.f kj9 l0 a1).bind fun t119 => (if (t118 == t119) = true then ((imprimaturref01_SameBytes.f t102 t106).bind fun t120 => (if t120 = true then (if t103 = t107 then ((merkle_Has.f l0 a1 a2).bind fun t121 => ((imprimaturref06_Has.f kj9 l0 a1 a2).bind fun t122 => (if (t121 == t122) = true then ((merkle_Missing.f kj9 l0 a1).bind fun t123 => ((imprimaturref06_Missing.f kj9 l0 a1).bind fun t124 => (if t123 = t124 then ((imprimaturlaw06_known.f).bind fun t125 => (some t125)) else (some false)))) else (some false)))) else (some false)) else (some false))) else (some false))) = some r := H
          have A30 := Aside0.mk A300
          clear A300
          replace H := Option.bind_eq_some_iff.mp H
          obtain ⟨t119, A310, H⟩ := H
          replace H : (if (t118 == t119) = true then ((imprimaturref01_SameBytes.f t102 t106).bind fun t120 => (if t120 = true then (if t103 = t107 then ((merkle_Has.f l0 a1 a2).bind fun t121 => ((imprimaturref06_Has.f kj9 l0 a1 a2).bind fun t122 => (if (t121 == t122) = true then ((merkle_Missing.f kj9 l0 a1).bind fun t123 => ((imprimaturref06_Missing.f kj9 l0 a1).bind fun t124 => (if t123 = t124 then ((imprimaturlaw06_known.f).bind fun t125 => (some t125)) else (some false)))) else (some false)))) else (some false)) else (some false))) else (some false)) = some r := H
          have A31 := Aside0.mk A310
          clear A310
          by_cases c32 : (t118 == t119) = true
          · rw [if_pos c32] at H
            have c32b0 : (t118 == t119) = true := c32
            (try (have c32b1 : decide (t118 = t119) = true := by simpa using c32))
            (try (have c32b2 : (t118 == t119) = true := by simpa using c32))
            clear c32
            replace H := Option.bind_eq_some_iff.mp H
            obtain ⟨t120, A330, H⟩ := H
            replace H : (if t120 = true then (if t103 = t107 then ((merkle_Has.f l0 a1 a2).bind fun t121 => ((imprimaturref06_Has.f kj9 l0 a1 a2).bind fun t122 => (if (t121 == t122) = true then ((merkle_Missing.f kj9 l0 a1).bind fun t123 => ((imprimaturref06_Missing.f kj9 l0 a1).bind fun t124 => (if t123 = t124 then ((imprimaturlaw06_known.f).bind fun t125 => (some t125)) else (some false)))) else (some false)))) else (some false)) else (some false)) = some r := H
            have A33 := Aside0.mk A330
            clear A330
            by_cases c34 : t120 = true
            · subst c34
              have H1 : (if t103 = t107 then ((merkle_Has.f l0 a1 a2).bind fun t121 => ((imprimaturref06_Has.f kj9 l0 a1 a2).bind fun t122 => (if (t121 == t122) = true then ((merkle_Missing.f kj9 l0 a1).bind fun t123 => ((imprimaturref06_Missing.f kj9 l0 a1).bind fun t124 => (if t123 = t124 then ((imprimaturlaw06_known.f).bind fun t125 => (some t125)) else (some false)))) else (some false)))) else (some false)) = some r := by rw [if_pos rfl] at H; exact H
              clear H
              have H := H1
              clear H1
              by_cases c35 : t103 = t107
              · rw [if_pos c35] at H
                have c35b0 : (t103 == t107) = true := beq_iff_eq.mpr c35
                have c35b1 : (t103 != t107) = false := bne_eq_false_iff_eq.mpr c35
                clear c35
                replace H := Option.bind_eq_some_iff.mp H
                obtain ⟨t121, A360, H⟩ := H
                replace H : ((imprimaturref06_Has.f kj9 l0 a1 a2).bind fun t122 => (if (t121 == t122) = true then ((merkle_Missing.f kj9 l0 a1).bind fun t123 => ((imprimaturref06_Missing.f kj9 l0 a1).bind fun t124 => (if t123 = t124 then ((imprimaturlaw06_known.f).bind fun t125 => (some t125)) else (some false)))) else (some false))) = some r := H
                have A36 := Aside0.mk A360
                clear A360
                replace H := Option.bind_eq_some_iff.mp H
                obtain ⟨t122, A370, H⟩ := H
                replace H : (if (t121 == t122) = true then ((merkle_Missing.f kj9 l0 a1).bind fun t123 => ((imprimaturref06_Missing.f kj9 l0 a1).bind fun t124 => (if t123 = t124 then ((imprimaturlaw06_known.f).bind fun t125 => (some t125)) else (some false)))) else (some false)) = some r := H
                have A37 := Aside0.mk A370
                clear A370
                by_cases c38 : (t121 == t122) = true
                · rw [if_pos c38] at H
                  have c38b0 : (t121 == t122) = true := c38
                  (try (have c38b1 : decide (t121 = t122) = true := by simpa using c38))
                  (try (have c38b2 : (t121 == t122) = true := by simpa using c38))
                  clear c38
                  replace H := Option.bind_eq_some_iff.mp H
                  obtain ⟨t123, A390, H⟩ := H
                  replace H : ((imprimaturref06_Missing.f kj9 l0 a1).bind fun t124 => (if t123 = t124 then ((imprimaturlaw06_known.f).bind fun t125 => (some t125)) else (some false))) = some r := H
                  have A39 := Aside0.mk A390
                  clear A390
                  replace H := Option.bind_eq_some_iff.mp H
                  obtain ⟨t124, A400, H⟩ := H
                  replace H : (if t123 = t124 then ((imprimaturlaw06_known.f).bind fun t125 => (some t125)) else (some false)) = some r := H
                  have A40 := Aside0.mk A400
                  clear A400
                  by_cases c41 : t123 = t124
                  · rw [if_pos c41] at H
                    have c41b0 : (t123 == t124) = true := beq_iff_eq.mpr c41
                    have c41b1 : (t123 != t124) = false := bne_eq_false_iff_eq.mpr c41
                    clear c41
                    replace H := Option.bind_eq_some_iff.mp H
                    obtain ⟨t125, A420, H⟩ := H
                    replace H : (some t125) = some r := H
                    have A42 := Aside0.mk A420
                    clear A420
                    obtain rfl := Option.some.inj H
                    go_wp2_with (first | ((with_reducible refine gate_callee (f := 23) rfl ?_); refine goesL_ (some 63) rfl rfl Tryd.func23 (by kernel_rfl) rfl #[.slice A0 l0.length c0, .int .i64 a1] rfl (by (try simp only [List.map_toArray, List.map_cons, List.map_nil]); first | done | rfl | (simp only [List.length_drop, List.length_take]; rfl)) ?_; (with_reducible refine (merkle_Right.calls _ _ l0 a1 t118 _ ?side1 ?side2 A30.out).mono ?_); (case side1 => repeat (first | exact (Kd.C_below HR0.out HB.out) | (with_reducible refine Kd.C_alloc ?_ _) | (with_reducible refine Kd.C_drewN ?_ _) | (with_reducible refine Kd.C_drew ?_))); (case side2 => exact HC0.out); rintro e w' ⟨rfl, ⟨nd, rfl⟩⟩; refine ⟨_, rfl, ?_⟩) | ((with_reducible refine gate_callee (f := 21) rfl ?_); refine goesL_ (some 66) rfl rfl Tryd.func21 (by kernel_rfl) rfl #[.slice A0 l0.length c0, .int .i64 a1] rfl (by (try simp only [List.map_toArray, List.map_cons, List.map_nil]); first | done | rfl | (simp only [List.length_drop, List.length_take]; rfl)) ?_; (with_reducible refine (imprimaturref06_Right.calls kj9 _ _ l0 a1 t119 _ ?side1 ?side2 A31.out).mono ?_); (case side1 => repeat (first | exact (Kd.C_below HR0.out (by repeat (first | (with_reducible first | exact HB.out | apply below_alloc | apply pw_below_drewN | apply below_drew1) | exact HB.out))) | (with_reducible refine Kd.C_alloc ?_ _) | (with_reducible refine Kd.C_drewN ?_ _) | (with_reducible refine Kd.C_drew ?_))); (case side2 => exact HC0.out); rintro e w' ⟨rfl, ⟨nd, rfl⟩⟩; refine ⟨_, rfl, ?_⟩; obtain ⟨Ao43, co43, eo43⟩ := Kd.R_slice HO_7.out; subst eo43; obtain ⟨Ao44, co44, eo44⟩ := Kd.R_slice HO_9.out; subst eo44) | (go_at_call 24; (with_reducible refine (imprimaturref01_SameBytes.calls _ _ t102 _ _ t106 true _ ?side1 ?side2 ?side3 ?side4 A33.out).mono ?_); (case side1 => repeat (first | exact (Kd.R_reads' HO_7.out).2.2 | (with_reducible refine Kd.C_alloc ?_ _) | (with_reducible refine Kd.C_drewN ?_ _) | (with_reducible refine Kd.C_drew ?_))); (case side2 => exact (Kd.R_reads' HO_7.out).2.1); (case side3 => repeat (first | exact (Kd.R_reads' HO_9.out).2.2 | (with_reducible refine Kd.C_alloc ?_ _) | (with_reducible refine Kd.C_drewN ?_ _) | (with_reducible refine Kd.C_drew ?_))); (case side4 => exact (Kd.R_reads' HO_9.out).2.1); rintro e w' ⟨rfl, ⟨nd, rfl⟩⟩) | (go_at_call 25; (with_reducible refine (merkle_Has.calls _ _ l0 a1 a2 t121 _ ?side1 ?side2 A36.out).mono ?_); (case side1 => repeat (first | exact (Kd.C_below HR0.out (by repeat (first | (with_reducible first | exact HB.out | apply below_alloc | apply pw_below_drewN | apply below_drew1) | exact HB.out))) | (with_reducible refine Kd.C_alloc ?_ _) | (with_reducible refine Kd.C_drewN ?_ _) | (with_reducible refine Kd.C_drew ?_))); (case side2 => exact HC0.out); rintro e w' ⟨rfl, ⟨nd, rfl⟩⟩) | (go_at_call 26; (with_reducible refine (imprimaturref06_Has.calls kj9 _ _ l0 a1 a2 t122 _ ?side1 ?side2 A37.out).mono ?_); (case side1 => repeat (first | exact (Kd.C_below HR0.out (by repeat (first | (with_reducible first | exact HB.out | apply below_alloc | apply pw_below_drewN | apply below_drew1) | exact HB.out))) | (with_reducible refine Kd.C_alloc ?_ _) | (with_reducible refine Kd.C_drewN ?_ _) | (with_reducible refine Kd.C_drew ?_))); (case side2 => exact HC0.out); rintro e w' ⟨rfl, ⟨nd, rfl⟩⟩) | (go_at_call 27; (with_reducible refine (merkle_Missing.calls kj9 _ _ l0 a1 t123 _ ?side1 ?side2 A39.out).mono ?_); (case side1 => repeat (first | exact (Kd.C_below HR0.out (by repeat (first | (with_reducible first | exact HB.out | apply below_alloc | apply pw_below_drewN | apply below_drew1) | exact HB.out))) | (with_reducible refine Kd.C_alloc ?_ _) | (with_reducible refine Kd.C_drewN ?_ _) | (with_reducible refine Kd.C_drew ?_))); (case side2 => exact HC0.out); rintro e w' ⟨rfl, ⟨nd, rfl⟩⟩) | (go_at_call 22; (with_reducible refine (imprimaturref06_Missing.calls kj9 _ _ l0 a1 t124 _ ?side1 ?side2 A40.out).mono ?_); (case side1 => repeat (first | exact (Kd.C_below HR0.out (by repeat (first | (with_reducible first | exact HB.out | apply below_alloc | apply pw_below_drewN | apply below_drew1) | exact HB.out))) | (with_reducible refine Kd.C_alloc ?_ _) | (with_reducible refine Kd.C_drewN ?_ _) | (with_reducible refine Kd.C_drew ?_))); (case side2 => exact HC0.out); rintro e w' ⟨rfl, ⟨nd, rfl⟩⟩) | (go_at_call 15; (with_reducible refine (imprimaturlaw06_known.calls  t125 _ (Glb.of HG (by repeat (first | (with_reducible first | exact HB.out | apply below_alloc | apply pw_below_drewN | apply below_drew1) | exact HB.out))) A42.out).mono ?_); rintro e w45 ⟨rfl, hb⟩; have n0_ := Aside0.mk (Kd.R_below (by (with_reducible repeat (first | apply Kd.R_alloc | apply Kd.R_drewN | apply Kd.R_drew)); exact HO_7.out) hb); have n1_ := Aside0.mk (Kd.R_below (by (with_reducible repeat (first | apply Kd.R_alloc | apply Kd.R_drewN | apply Kd.R_drew)); exact HO_9.out) hb); have n2_ := Aside0.mk (below_step (by repeat (first | (with_reducible first | exact HB.out | apply below_alloc | apply pw_below_drewN | apply below_drew1) | exact HB.out)) hb); clear HO_7; clear HO_9; clear HB; have HO_7 := n0_; have HO_9 := n1_; have HB := n2_; clear n0_ n1_ n2_; (try clear hb); (try clear hb2); (try clear hk); (try clear hi)))
                    go_ret
                    exact ⟨by first | rfl | (simp [errW_none, errW_some] <;> rfl) | (simp [*, errW_none, errW_some] <;> rfl), by repeat (first | (with_reducible first | exact HB.out | apply below_alloc | apply pw_below_drewN | apply below_drew1) | exact HB.out)⟩
                  · rw [if_neg c41] at H
                    have c41b0 : (t123 == t124) = false := beq_eq_false_iff_ne.mpr c41
                    have c41b1 : (t123 != t124) = true := bne_iff_ne.mpr c41
                    obtain rfl := Option.some.inj H
                    go_wp2_with (first | ((with_reducible refine gate_callee (f := 23) rfl ?_); refine goesL_ (some 63) rfl rfl Tryd.func23 (by kernel_rfl) rfl #[.slice A0 l0.length c0, .int .i64 a1] rfl (by (try simp only [List.map_toArray, List.map_cons, List.map_nil]); first | done | rfl | (simp only [List.length_drop, List.length_take]; rfl)) ?_; (with_reducible refine (merkle_Right.calls _ _ l0 a1 t118 _ ?side1 ?side2 A30.out).mono ?_); (case side1 => repeat (first | exact (Kd.C_below HR0.out HB.out) | (with_reducible refine Kd.C_alloc ?_ _) | (with_reducible refine Kd.C_drewN ?_ _) | (with_reducible refine Kd.C_drew ?_))); (case side2 => exact HC0.out); rintro e w' ⟨rfl, ⟨nd, rfl⟩⟩; refine ⟨_, rfl, ?_⟩) | ((with_reducible refine gate_callee (f := 21) rfl ?_); refine goesL_ (some 66) rfl rfl Tryd.func21 (by kernel_rfl) rfl #[.slice A0 l0.length c0, .int .i64 a1] rfl (by (try simp only [List.map_toArray, List.map_cons, List.map_nil]); first | done | rfl | (simp only [List.length_drop, List.length_take]; rfl)) ?_; (with_reducible refine (imprimaturref06_Right.calls kj9 _ _ l0 a1 t119 _ ?side1 ?side2 A31.out).mono ?_); (case side1 => repeat (first | exact (Kd.C_below HR0.out (by repeat (first | (with_reducible first | exact HB.out | apply below_alloc | apply pw_below_drewN | apply below_drew1) | exact HB.out))) | (with_reducible refine Kd.C_alloc ?_ _) | (with_reducible refine Kd.C_drewN ?_ _) | (with_reducible refine Kd.C_drew ?_))); (case side2 => exact HC0.out); rintro e w' ⟨rfl, ⟨nd, rfl⟩⟩; refine ⟨_, rfl, ?_⟩; obtain ⟨Ao46, co46, eo46⟩ := Kd.R_slice HO_7.out; subst eo46; obtain ⟨Ao47, co47, eo47⟩ := Kd.R_slice HO_9.out; subst eo47) | (go_at_call 24; (with_reducible refine (imprimaturref01_SameBytes.calls _ _ t102 _ _ t106 true _ ?side1 ?side2 ?side3 ?side4 A33.out).mono ?_); (case side1 => repeat (first | exact (Kd.R_reads' HO_7.out).2.2 | (with_reducible refine Kd.C_alloc ?_ _) | (with_reducible refine Kd.C_drewN ?_ _) | (with_reducible refine Kd.C_drew ?_))); (case side2 => exact (Kd.R_reads' HO_7.out).2.1); (case side3 => repeat (first | exact (Kd.R_reads' HO_9.out).2.2 | (with_reducible refine Kd.C_alloc ?_ _) | (with_reducible refine Kd.C_drewN ?_ _) | (with_reducible refine Kd.C_drew ?_))); (case side4 => exact (Kd.R_reads' HO_9.out).2.1); rintro e w' ⟨rfl, ⟨nd, rfl⟩⟩) | (go_at_call 25; (with_reducible refine (merkle_Has.calls _ _ l0 a1 a2 t121 _ ?side1 ?side2 A36.out).mono ?_); (case side1 => repeat (first | exact (Kd.C_below HR0.out (by repeat (first | (with_reducible first | exact HB.out | apply below_alloc | apply pw_below_drewN | apply below_drew1) | exact HB.out))) | (with_reducible refine Kd.C_alloc ?_ _) | (with_reducible refine Kd.C_drewN ?_ _) | (with_reducible refine Kd.C_drew ?_))); (case side2 => exact HC0.out); rintro e w' ⟨rfl, ⟨nd, rfl⟩⟩) | (go_at_call 26; (with_reducible refine (imprimaturref06_Has.calls kj9 _ _ l0 a1 a2 t122 _ ?side1 ?side2 A37.out).mono ?_); (case side1 => repeat (first | exact (Kd.C_below HR0.out (by repeat (first | (with_reducible first | exact HB.out | apply below_alloc | apply pw_below_drewN | apply below_drew1) | exact HB.out))) | (with_reducible refine Kd.C_alloc ?_ _) | (with_reducible refine Kd.C_drewN ?_ _) | (with_reducible refine Kd.C_drew ?_))); (case side2 => exact HC0.out); rintro e w' ⟨rfl, ⟨nd, rfl⟩⟩) | (go_at_call 27; (with_reducible refine (merkle_Missing.calls kj9 _ _ l0 a1 t123 _ ?side1 ?side2 A39.out).mono ?_); (case side1 => repeat (first | exact (Kd.C_below HR0.out (by repeat (first | (with_reducible first | exact HB.out | apply below_alloc | apply pw_below_drewN | apply below_drew1) | exact HB.out))) | (with_reducible refine Kd.C_alloc ?_ _) | (with_reducible refine Kd.C_drewN ?_ _) | (with_reducible refine Kd.C_drew ?_))); (case side2 => exact HC0.out); rintro e w' ⟨rfl, ⟨nd, rfl⟩⟩) | (go_at_call 22; (with_reducible refine (imprimaturref06_Missing.calls kj9 _ _ l0 a1 t124 _ ?side1 ?side2 A40.out).mono ?_); (case side1 => repeat (first | exact (Kd.C_below HR0.out (by repeat (first | (with_reducible first | exact HB.out | apply below_alloc | apply pw_below_drewN | apply below_drew1) | exact HB.out))) | (with_reducible refine Kd.C_alloc ?_ _) | (with_reducible refine Kd.C_drewN ?_ _) | (with_reducible refine Kd.C_drew ?_))); (case side2 => exact HC0.out); rintro e w' ⟨rfl, ⟨nd, rfl⟩⟩))
                    go_ret
                    exact ⟨by first | rfl | (simp [errW_none, errW_some] <;> rfl) | (simp [*, errW_none, errW_some] <;> rfl), by repeat (first | (with_reducible first | exact HB.out | apply below_alloc | apply pw_below_drewN | apply below_drew1) | exact HB.out)⟩
                · rw [if_neg c38] at H
                  have c38b0 : (t121 == t122) = false := by simpa using c38
                  (try (have c38b1 : decide (t121 = t122) = false := by simpa using c38))
                  (try (have c38b2 : (t121 == t122) = false := by simpa using c38))
                  (try (have c38b3 : ¬ (t121 = t122) := by simpa using c38))
                  clear c38
                  obtain rfl := Option.some.inj H
                  go_wp2_with (first | ((with_reducible refine gate_callee (f := 23) rfl ?_); refine goesL_ (some 63) rfl rfl Tryd.func23 (by kernel_rfl) rfl #[.slice A0 l0.length c0, .int .i64 a1] rfl (by (try simp only [List.map_toArray, List.map_cons, List.map_nil]); first | done | rfl | (simp only [List.length_drop, List.length_take]; rfl)) ?_; (with_reducible refine (merkle_Right.calls _ _ l0 a1 t118 _ ?side1 ?side2 A30.out).mono ?_); (case side1 => repeat (first | exact (Kd.C_below HR0.out HB.out) | (with_reducible refine Kd.C_alloc ?_ _) | (with_reducible refine Kd.C_drewN ?_ _) | (with_reducible refine Kd.C_drew ?_))); (case side2 => exact HC0.out); rintro e w' ⟨rfl, ⟨nd, rfl⟩⟩; refine ⟨_, rfl, ?_⟩) | ((with_reducible refine gate_callee (f := 21) rfl ?_); refine goesL_ (some 66) rfl rfl Tryd.func21 (by kernel_rfl) rfl #[.slice A0 l0.length c0, .int .i64 a1] rfl (by (try simp only [List.map_toArray, List.map_cons, List.map_nil]); first | done | rfl | (simp only [List.length_drop, List.length_take]; rfl)) ?_; (with_reducible refine (imprimaturref06_Right.calls kj9 _ _ l0 a1 t119 _ ?side1 ?side2 A31.out).mono ?_); (case side1 => repeat (first | exact (Kd.C_below HR0.out (by repeat (first | (with_reducible first | exact HB.out | apply below_alloc | apply pw_below_drewN | apply below_drew1) | exact HB.out))) | (with_reducible refine Kd.C_alloc ?_ _) | (with_reducible refine Kd.C_drewN ?_ _) | (with_reducible refine Kd.C_drew ?_))); (case side2 => exact HC0.out); rintro e w' ⟨rfl, ⟨nd, rfl⟩⟩; refine ⟨_, rfl, ?_⟩; obtain ⟨Ao48, co48, eo48⟩ := Kd.R_slice HO_7.out; subst eo48; obtain ⟨Ao49, co49, eo49⟩ := Kd.R_slice HO_9.out; subst eo49) | (go_at_call 24; (with_reducible refine (imprimaturref01_SameBytes.calls _ _ t102 _ _ t106 true _ ?side1 ?side2 ?side3 ?side4 A33.out).mono ?_); (case side1 => repeat (first | exact (Kd.R_reads' HO_7.out).2.2 | (with_reducible refine Kd.C_alloc ?_ _) | (with_reducible refine Kd.C_drewN ?_ _) | (with_reducible refine Kd.C_drew ?_))); (case side2 => exact (Kd.R_reads' HO_7.out).2.1); (case side3 => repeat (first | exact (Kd.R_reads' HO_9.out).2.2 | (with_reducible refine Kd.C_alloc ?_ _) | (with_reducible refine Kd.C_drewN ?_ _) | (with_reducible refine Kd.C_drew ?_))); (case side4 => exact (Kd.R_reads' HO_9.out).2.1); rintro e w' ⟨rfl, ⟨nd, rfl⟩⟩) | (go_at_call 25; (with_reducible refine (merkle_Has.calls _ _ l0 a1 a2 t121 _ ?side1 ?side2 A36.out).mono ?_); (case side1 => repeat (first | exact (Kd.C_below HR0.out (by repeat (first | (with_reducible first | exact HB.out | apply below_alloc | apply pw_below_drewN | apply below_drew1) | exact HB.out))) | (with_reducible refine Kd.C_alloc ?_ _) | (with_reducible refine Kd.C_drewN ?_ _) | (with_reducible refine Kd.C_drew ?_))); (case side2 => exact HC0.out); rintro e w' ⟨rfl, ⟨nd, rfl⟩⟩) | (go_at_call 26; (with_reducible refine (imprimaturref06_Has.calls kj9 _ _ l0 a1 a2 t122 _ ?side1 ?side2 A37.out).mono ?_); (case side1 => repeat (first | exact (Kd.C_below HR0.out (by repeat (first | (with_reducible first | exact HB.out | apply below_alloc | apply pw_below_drewN | apply below_drew1) | exact HB.out))) | (with_reducible refine Kd.C_alloc ?_ _) | (with_reducible refine Kd.C_drewN ?_ _) | (with_reducible refine Kd.C_drew ?_))); (case side2 => exact HC0.out); rintro e w' ⟨rfl, ⟨nd, rfl⟩⟩))
                  go_ret
                  exact ⟨by first | rfl | (simp [errW_none, errW_some] <;> rfl) | (simp [*, errW_none, errW_some] <;> rfl), by repeat (first | (with_reducible first | exact HB.out | apply below_alloc | apply pw_below_drewN | apply below_drew1) | exact HB.out)⟩
              · rw [if_neg c35] at H
                have c35b0 : (t103 == t107) = false := beq_eq_false_iff_ne.mpr c35
                have c35b1 : (t103 != t107) = true := bne_iff_ne.mpr c35
                obtain rfl := Option.some.inj H
                go_wp2_with (first | ((with_reducible refine gate_callee (f := 23) rfl ?_); refine goesL_ (some 63) rfl rfl Tryd.func23 (by kernel_rfl) rfl #[.slice A0 l0.length c0, .int .i64 a1] rfl (by (try simp only [List.map_toArray, List.map_cons, List.map_nil]); first | done | rfl | (simp only [List.length_drop, List.length_take]; rfl)) ?_; (with_reducible refine (merkle_Right.calls _ _ l0 a1 t118 _ ?side1 ?side2 A30.out).mono ?_); (case side1 => repeat (first | exact (Kd.C_below HR0.out HB.out) | (with_reducible refine Kd.C_alloc ?_ _) | (with_reducible refine Kd.C_drewN ?_ _) | (with_reducible refine Kd.C_drew ?_))); (case side2 => exact HC0.out); rintro e w' ⟨rfl, ⟨nd, rfl⟩⟩; refine ⟨_, rfl, ?_⟩) | ((with_reducible refine gate_callee (f := 21) rfl ?_); refine goesL_ (some 66) rfl rfl Tryd.func21 (by kernel_rfl) rfl #[.slice A0 l0.length c0, .int .i64 a1] rfl (by (try simp only [List.map_toArray, List.map_cons, List.map_nil]); first | done | rfl | (simp only [List.length_drop, List.length_take]; rfl)) ?_; (with_reducible refine (imprimaturref06_Right.calls kj9 _ _ l0 a1 t119 _ ?side1 ?side2 A31.out).mono ?_); (case side1 => repeat (first | exact (Kd.C_below HR0.out (by repeat (first | (with_reducible first | exact HB.out | apply below_alloc | apply pw_below_drewN | apply below_drew1) | exact HB.out))) | (with_reducible refine Kd.C_alloc ?_ _) | (with_reducible refine Kd.C_drewN ?_ _) | (with_reducible refine Kd.C_drew ?_))); (case side2 => exact HC0.out); rintro e w' ⟨rfl, ⟨nd, rfl⟩⟩; refine ⟨_, rfl, ?_⟩; obtain ⟨Ao50, co50, eo50⟩ := Kd.R_slice HO_7.out; subst eo50; obtain ⟨Ao51, co51, eo51⟩ := Kd.R_slice HO_9.out; subst eo51) | (go_at_call 24; (with_reducible refine (imprimaturref01_SameBytes.calls _ _ t102 _ _ t106 true _ ?side1 ?side2 ?side3 ?side4 A33.out).mono ?_); (case side1 => repeat (first | exact (Kd.R_reads' HO_7.out).2.2 | (with_reducible refine Kd.C_alloc ?_ _) | (with_reducible refine Kd.C_drewN ?_ _) | (with_reducible refine Kd.C_drew ?_))); (case side2 => exact (Kd.R_reads' HO_7.out).2.1); (case side3 => repeat (first | exact (Kd.R_reads' HO_9.out).2.2 | (with_reducible refine Kd.C_alloc ?_ _) | (with_reducible refine Kd.C_drewN ?_ _) | (with_reducible refine Kd.C_drew ?_))); (case side4 => exact (Kd.R_reads' HO_9.out).2.1); rintro e w' ⟨rfl, ⟨nd, rfl⟩⟩))
                go_ret
                exact ⟨by first | rfl | (simp [errW_none, errW_some] <;> rfl) | (simp [*, errW_none, errW_some] <;> rfl), by repeat (first | (with_reducible first | exact HB.out | apply below_alloc | apply pw_below_drewN | apply below_drew1) | exact HB.out)⟩
            · replace c34 := Bool.eq_false_iff.mpr c34
              subst c34
              have H1 : (some false) = some r := by rw [if_neg (show ¬ (false = true) by decide)] at H; exact H
              clear H
              have H := H1
              clear H1
              obtain rfl := Option.some.inj H
              go_wp2_with (first | ((with_reducible refine gate_callee (f := 23) rfl ?_); refine goesL_ (some 63) rfl rfl Tryd.func23 (by kernel_rfl) rfl #[.slice A0 l0.length c0, .int .i64 a1] rfl (by (try simp only [List.map_toArray, List.map_cons, List.map_nil]); first | done | rfl | (simp only [List.length_drop, List.length_take]; rfl)) ?_; (with_reducible refine (merkle_Right.calls _ _ l0 a1 t118 _ ?side1 ?side2 A30.out).mono ?_); (case side1 => repeat (first | exact (Kd.C_below HR0.out HB.out) | (with_reducible refine Kd.C_alloc ?_ _) | (with_reducible refine Kd.C_drewN ?_ _) | (with_reducible refine Kd.C_drew ?_))); (case side2 => exact HC0.out); rintro e w' ⟨rfl, ⟨nd, rfl⟩⟩; refine ⟨_, rfl, ?_⟩) | ((with_reducible refine gate_callee (f := 21) rfl ?_); refine goesL_ (some 66) rfl rfl Tryd.func21 (by kernel_rfl) rfl #[.slice A0 l0.length c0, .int .i64 a1] rfl (by (try simp only [List.map_toArray, List.map_cons, List.map_nil]); first | done | rfl | (simp only [List.length_drop, List.length_take]; rfl)) ?_; (with_reducible refine (imprimaturref06_Right.calls kj9 _ _ l0 a1 t119 _ ?side1 ?side2 A31.out).mono ?_); (case side1 => repeat (first | exact (Kd.C_below HR0.out (by repeat (first | (with_reducible first | exact HB.out | apply below_alloc | apply pw_below_drewN | apply below_drew1) | exact HB.out))) | (with_reducible refine Kd.C_alloc ?_ _) | (with_reducible refine Kd.C_drewN ?_ _) | (with_reducible refine Kd.C_drew ?_))); (case side2 => exact HC0.out); rintro e w' ⟨rfl, ⟨nd, rfl⟩⟩; refine ⟨_, rfl, ?_⟩; obtain ⟨Ao52, co52, eo52⟩ := Kd.R_slice HO_7.out; subst eo52; obtain ⟨Ao53, co53, eo53⟩ := Kd.R_slice HO_9.out; subst eo53) | (go_at_call 24; (with_reducible refine (imprimaturref01_SameBytes.calls _ _ t102 _ _ t106 false _ ?side1 ?side2 ?side3 ?side4 A33.out).mono ?_); (case side1 => repeat (first | exact (Kd.R_reads' HO_7.out).2.2 | (with_reducible refine Kd.C_alloc ?_ _) | (with_reducible refine Kd.C_drewN ?_ _) | (with_reducible refine Kd.C_drew ?_))); (case side2 => exact (Kd.R_reads' HO_7.out).2.1); (case side3 => repeat (first | exact (Kd.R_reads' HO_9.out).2.2 | (with_reducible refine Kd.C_alloc ?_ _) | (with_reducible refine Kd.C_drewN ?_ _) | (with_reducible refine Kd.C_drew ?_))); (case side4 => exact (Kd.R_reads' HO_9.out).2.1); rintro e w' ⟨rfl, ⟨nd, rfl⟩⟩))
              go_ret
              exact ⟨by first | rfl | (simp [errW_none, errW_some] <;> rfl) | (simp [*, errW_none, errW_some] <;> rfl), by repeat (first | (with_reducible first | exact HB.out | apply below_alloc | apply pw_below_drewN | apply below_drew1) | exact HB.out)⟩
          · rw [if_neg c32] at H
            have c32b0 : (t118 == t119) = false := by simpa using c32
            (try (have c32b1 : decide (t118 = t119) = false := by simpa using c32))
            (try (have c32b2 : (t118 == t119) = false := by simpa using c32))
            (try (have c32b3 : ¬ (t118 = t119) := by simpa using c32))
            clear c32
            obtain rfl := Option.some.inj H
            go_wp2_with (first | ((with_reducible refine gate_callee (f := 23) rfl ?_); refine goesL_ (some 63) rfl rfl Tryd.func23 (by kernel_rfl) rfl #[.slice A0 l0.length c0, .int .i64 a1] rfl (by (try simp only [List.map_toArray, List.map_cons, List.map_nil]); first | done | rfl | (simp only [List.length_drop, List.length_take]; rfl)) ?_; (with_reducible refine (merkle_Right.calls _ _ l0 a1 t118 _ ?side1 ?side2 A30.out).mono ?_); (case side1 => repeat (first | exact (Kd.C_below HR0.out HB.out) | (with_reducible refine Kd.C_alloc ?_ _) | (with_reducible refine Kd.C_drewN ?_ _) | (with_reducible refine Kd.C_drew ?_))); (case side2 => exact HC0.out); rintro e w' ⟨rfl, ⟨nd, rfl⟩⟩; refine ⟨_, rfl, ?_⟩) | ((with_reducible refine gate_callee (f := 21) rfl ?_); refine goesL_ (some 66) rfl rfl Tryd.func21 (by kernel_rfl) rfl #[.slice A0 l0.length c0, .int .i64 a1] rfl (by (try simp only [List.map_toArray, List.map_cons, List.map_nil]); first | done | rfl | (simp only [List.length_drop, List.length_take]; rfl)) ?_; (with_reducible refine (imprimaturref06_Right.calls kj9 _ _ l0 a1 t119 _ ?side1 ?side2 A31.out).mono ?_); (case side1 => repeat (first | exact (Kd.C_below HR0.out (by repeat (first | (with_reducible first | exact HB.out | apply below_alloc | apply pw_below_drewN | apply below_drew1) | exact HB.out))) | (with_reducible refine Kd.C_alloc ?_ _) | (with_reducible refine Kd.C_drewN ?_ _) | (with_reducible refine Kd.C_drew ?_))); (case side2 => exact HC0.out); rintro e w' ⟨rfl, ⟨nd, rfl⟩⟩; refine ⟨_, rfl, ?_⟩))
            go_ret
            exact ⟨by first | rfl | (simp [errW_none, errW_some] <;> rfl) | (simp [*, errW_none, errW_some] <;> rfl), by repeat (first | (with_reducible first | exact HB.out | apply below_alloc | apply pw_below_drewN | apply below_drew1) | exact HB.out)⟩

/-- THE ONE PURE STATEMENT of imprimaturlaw06_MerkleMaps: yours. -/
def imprimaturlaw06_MerkleMaps.Pure : Prop := ∀ (l0 : List Int) (a1 : Int) (a2 : Int), l0.length ≤ maxLen → l0.length * 1 ≤ 140737488351232 → (∀ x ∈ l0, (Lit.int .u8 x).wf = true) → (Lit.int .i64 a1).wf = true → (Lit.int .i64 a2).wf = true → ∃ k, imprimaturlaw06_MerkleMaps.f k l0 a1 a2 = some true
theorem imprimaturlaw06_MerkleMaps.walk (P : imprimaturlaw06_MerkleMaps.Pure) (a0 : Option Addr) (len0 cap0 : Nat) (z0 : List Int) (a1 : Int) (a2 : Int) (w : World) (HG : Glb w) (w0 : (a0 = none ∧ len0 = 0 ∧ cap0 = 0 ∧ z0 = []) ∨ ∃ x, a0 = some x ∧ len0 ≤ cap0 ∧ cap0 ≤ maxLen ∧ z0.length = cap0 ∧ (∀ i, i < z0.length → w.cell? (x.add i) = some (.int .u8 (z0.getD i 0))) ∧ ∀ n ∈ z0, (Lit.int .u8 n).wf = true) (y0 : len0 * 1 ≤ 140737488351232) (w1 : (Lit.int .i64 a1).wf = true) (w2 : (Lit.int .i64 a2).wf = true) :
    Calls Tryd.prog 4 #[.slice a0 len0 cap0, .int .i64 a1, .int .i64 a2] w fun e w' => e = .returned (.bool true) ∧ Below w.heap.size w w' := by
  obtain ⟨l0, rfl, hr0, hm0, hw0, hc0⟩ := ReadsInt.ofRowC w0
  obtain ⟨k, h⟩ := P l0 a1 a2 hm0 y0 hw0 w1 w2
  refine (imprimaturlaw06_MerkleMaps.calls k _ _ l0 a1 a2 true w HG (Kd.C_of_reads (d := (0 : Int)) (h1 := fun _ => rfl) hr0) hc0 h).mono ?_
  rintro e w' ⟨rfl, hd⟩
  exact ⟨rfl, hd⟩

end Go.Proofs.YtdpdmmbdoeefbaaDoor.PMa
