-- Written by a program of this session, after the print of the kit.
import Derived.Test.YtcnpdapampclpaaDoorWC
import Derived.Test.YtcnpdapampclpaaDoorPTqx0
namespace Go.Proofs.YtcnpdapampclpaaDoor.PTq
open Go.RowKit Go.Proofs.YtcnpdapampclpaaDoor.X Go.Proofs.YtcnpdapampclpaaDoor.PTp Go.Proofs.YtcnpdapampclpaaDoorW.PrintWords Go.Proofs.YtcnpdapampclpaaDoorW.PrintLast Go.Proofs.YtcnpdapampclpaaDoorW.PrintMore
attribute [local go_sem] max2_int min2_int max_two min_two max_three min_three max_four min_four   -- for this text's walks alone
set_option linter.unusedVariables false
set_option linter.unusedSimpArgs false

/-! ### trail_up: function 59 -/
def trail_up.f : Nat → Int → Int → List Int → List (List Int) → Option (List Int × Bool)
 | 0, _, _, _, _ => none
 | k + 1, a0, a1, l2, l3 => if a0 = 1 then (some (l2, ((l3.length : Int) == 0))) else (if (l3.length : Int) = 0 then (some (([] : List Int), false)) else ((trail_half.f a0).bind fun t101 => (if a1 < t101 then (if 0 ≤ (wrap64 ((l3.length : Int) - 1)) then (if (wrap64 ((l3.length : Int) - 1)) ≤ (l3.length : Int) then ((trail_up.f k t101 a1 l2 (l3.take ((wrap64 ((l3.length : Int) - 1)) : Int).toNat)).bind fun bt107 => (if (wrap64 ((l3.length : Int) - 1)) < (l3.length : Int) then ((trail_digest.f 17 (([bt107.1, rd_L1 l3 (wrap64 ((l3.length : Int) - 1))] : List (List Int)))).bind fun t115 => (some (t115, bt107.2))) else (none))) else (none)) else (none)) else (if 0 ≤ (wrap64 ((l3.length : Int) - 1)) then (if (wrap64 ((l3.length : Int) - 1)) ≤ (l3.length : Int) then ((trail_up.f k (wrap64 (a0 - t101)) (wrap64 (a1 - t101)) l2 (l3.take ((wrap64 ((l3.length : Int) - 1)) : Int).toNat)).bind fun bt123 => (if (wrap64 ((l3.length : Int) - 1)) < (l3.length : Int) then ((trail_digest.f 17 (([rd_L1 l3 (wrap64 ((l3.length : Int) - 1)), bt123.1] : List (List Int)))).bind fun t131 => (some (t131, bt123.2))) else (none))) else (none)) else (none)))))
theorem trail_up.mono_l : ∀ k, (∀ y0 y1 y2 y3, LeO (trail_up.f k y0 y1 y2 y3) (trail_up.f (k + 1) y0 y1 y2 y3))
 | 0 => fun _ _ _ _ r h => by simp [trail_up.f] at h
 | k + 1 => by
  have ih0 := trail_up.mono_l k
  ·intro y0 y1 y2 y3
   unfold trail_up.f
   repeat' first
   | (with_reducible exact ih0 _ _ _ _)
   | (with_reducible exact LeO.refl _)
   | (with_reducible exact LeO.none _)
   | (with_reducible refine LeO.ite ?_ ?_)
   | (with_reducible refine LeO.bind ?_ (fun _ => ?_))
   | exact ih0 _ _ _ _
   | exact LeO.none _
   | refine LeO.ite ?_ ?_
   | refine LeO.bind ?_ (fun _ => ?_)
theorem trail_up.mono : ∀ a0 a1 a2 a3 k, LeO (trail_up.f k a0 a1 a2 a3) (trail_up.f (k + 1) a0 a1 a2 a3) := by
 intro a0 a1 a2 a3 k
 have ih0 := trail_up.mono_l k
 exact ih0 a0 a1 a2 a3
set_option maxHeartbeats 8000000 in
set_option maxRecDepth 100000 in
theorem trail_up.calls (k : Nat) : ∀ (a0 : Int) (a1 : Int) (P2_ : Nat → Prop) (A2 : Option Addr) (c2 : Nat) (l2 : List Int) (P3_ : Nat → Prop) (A3 : Option Addr) (c3 : Nat) (l3 : List (List Int)) (r1 : List Int) (r2 : Bool) (w : World) (HG : Glb w) (hs2 : Kd.V (Kd.int .u8) 5 w w.heap.size (fun k_ => P2_ k_) (.slice A2 l2.length c2) l2) (hs3 : Kd.V (Kd.slice 5 (Kd.int .u8)) 23 w w.heap.size (fun k_ => P3_ k_) (.slice A3 l3.length c3) l3) (h : trail_up.f k a0 a1 l2 l3 = some (r1, r2)),
  Calls Tryd.prog 59 #[.int .i64 a0, .int .i64 a1, .slice A2 l2.length c2, .slice A3 l3.length c3] w fun e w' => ∃ v0_ : Value, e = .returned (.tuple #[v0_, .bool r2]) ∧ Kd.V (Kd.int .u8) 5 w' w.heap.size (fun k_ => ((P2_ k_ ∨ P3_ k_) ∨ w.heap.size ≤ k_)) v0_ r1 ∧ Below w.heap.size w w' := by
 induction k using Nat.strongRecOn with
 | _ k ih =>
 intro a0 a1 P2_ A2 c2 l2 P3_ A3 c3 l3 r1 r2 w HG hs2 hs3 h
 cases k with
 | zero => exact absurd h (by simp [trail_up.f])
 | succ k =>
 simp only [trail_up.f] at h
 have HO2 := Aside0.mk (show Kd.V (Kd.int .u8) 5 w w.heap.size (fun k_ => ((P2_ k_ ∨ P3_ k_) ∨ w.heap.size ≤ k_)) (.slice A2 l2.length c2) l2 from Kd.V_mono hs2 (fun k_ hk => .inl (.inl hk)))
 have HO3 := Aside0.mk (show Kd.V (Kd.slice 5 (Kd.int .u8)) 23 w w.heap.size (fun k_ => ((P2_ k_ ∨ P3_ k_) ∨ w.heap.size ≤ k_)) (.slice A3 l3.length c3) l3 from Kd.V_mono hs3 (fun k_ hk => .inl (.inr hk)))
 have HB := Aside0.mk (Below.refl w.heap.size w)
 have H : (if a0 = 1 then (some (l2, ((l3.length : Int) == 0))) else (if (l3.length : Int) = 0 then (some (([] : List Int), false)) else ((trail_half.f a0).bind fun t101 => (if a1 < t101 then (if 0 ≤ (wrap64 ((l3.length : Int) - 1)) then (if (wrap64 ((l3.length : Int) - 1)) ≤ (l3.length : Int) then ((trail_up.f k t101 a1 l2 (l3.take ((wrap64 ((l3.length : Int) - 1)) : Int).toNat)).bind fun bt107 => (if (wrap64 ((l3.length : Int) - 1)) < (l3.length : Int) then ((trail_digest.f 17 (([bt107.1, rd_L1 l3 (wrap64 ((l3.length : Int) - 1))] : List (List Int)))).bind fun t115 => (some (t115, bt107.2))) else (none))) else (none)) else (none)) else (if 0 ≤ (wrap64 ((l3.length : Int) - 1)) then (if (wrap64 ((l3.length : Int) - 1)) ≤ (l3.length : Int) then ((trail_up.f k (wrap64 (a0 - t101)) (wrap64 (a1 - t101)) l2 (l3.take ((wrap64 ((l3.length : Int) - 1)) : Int).toNat)).bind fun bt123 => (if (wrap64 ((l3.length : Int) - 1)) < (l3.length : Int) then ((trail_digest.f 17 (([rd_L1 l3 (wrap64 ((l3.length : Int) - 1)), bt123.1] : List (List Int)))).bind fun t131 => (some (t131, bt123.2))) else (none))) else (none)) else (none)))))) = some (r1, r2) := h
 clear h
 by_cases c5 : a0 = 1
 ·rw [if_pos c5] at H
  have c5b0 : (a0 == 1) = true := beq_iff_eq.mpr c5
  have c5b1 : (a0 != 1) = false := bne_eq_false_iff_eq.mpr c5
  clear c5
  simp only [Option.some.injEq, Prod.mk.injEq] at H
  obtain ⟨rfl, rfl⟩ := H
  go_enter Tryd.func59, Tryd.ntmps59
  go_wp2
  go_ret2
  exact ⟨_, by first | rfl | (simp [errW_none, errW_some] <;> rfl) | (simp [*, errW_none, errW_some] <;> rfl), by (with_reducible repeat (first | apply Kd.V_alloc | apply Kd.V_drewN | apply Kd.V_drew)); exact HO2.out, by repeat (first | (with_reducible first | exact HB.out | apply below_alloc | apply pw_below_drewN | apply below_drew1) | exact HB.out)⟩
 ·rw [if_neg c5] at H
  have c5b0 : (a0 == 1) = false := beq_eq_false_iff_ne.mpr c5
  have c5b1 : (a0 != 1) = true := bne_iff_ne.mpr c5
  by_cases c6 : (l3.length : Int) = 0
  ·rw [if_pos c6] at H
   have c6b0 : ((l3.length : Int) == 0) = true := beq_iff_eq.mpr c6
   have c6b1 : ((l3.length : Int) != 0) = false := bne_eq_false_iff_eq.mpr c6
   clear c6
   simp only [Option.some.injEq, Prod.mk.injEq] at H
   obtain ⟨rfl, rfl⟩ := H
   go_enter Tryd.func59, Tryd.ntmps59
   go_wp2
   go_ret2
   exact ⟨_, by first | rfl | (simp [errW_none, errW_some] <;> rfl) | (simp [*, errW_none, errW_some] <;> rfl), Kd.V_nil _ _ _ _ _, by repeat (first | (with_reducible first | exact HB.out | apply below_alloc | apply pw_below_drewN | apply below_drew1) | exact HB.out)⟩
  ·rw [if_neg c6] at H
   have c6b0 : ((l3.length : Int) == 0) = false := beq_eq_false_iff_ne.mpr c6
   have c6b1 : ((l3.length : Int) != 0) = true := bne_iff_ne.mpr c6
   have c6b2 : ¬ (l3 = []) := fun h_ => c6 (by rw [h_]; rfl)
   replace H := Option.bind_eq_some_iff.mp H
   obtain ⟨t101, A70, H⟩ := H
   replace H : (if a1 < t101 then (if 0 ≤ (wrap64 ((l3.length : Int) - 1)) then (if (wrap64 ((l3.length : Int) - 1)) ≤ (l3.length : Int) then ((trail_up.f k t101 a1 l2 (l3.take ((wrap64 ((l3.length : Int) - 1)) : Int).toNat)).bind fun bt107 => (if (wrap64 ((l3.length : Int) - 1)) < (l3.length : Int) then ((trail_digest.f 17 (([bt107.1, rd_L1 l3 (wrap64 ((l3.length : Int) - 1))] : List (List Int)))).bind fun t115 => (some (t115, bt107.2))) else (none))) else (none)) else (none)) else (if 0 ≤ (wrap64 ((l3.length : Int) - 1)) then (if (wrap64 ((l3.length : Int) - 1)) ≤ (l3.length : Int) then ((trail_up.f k (wrap64 (a0 - t101)) (wrap64 (a1 - t101)) l2 (l3.take ((wrap64 ((l3.length : Int) - 1)) : Int).toNat)).bind fun bt123 => (if (wrap64 ((l3.length : Int) - 1)) < (l3.length : Int) then ((trail_digest.f 17 (([rd_L1 l3 (wrap64 ((l3.length : Int) - 1)), bt123.1] : List (List Int)))).bind fun t131 => (some (t131, bt123.2))) else (none))) else (none)) else (none))) = some (r1, r2) := H
   have A7 := Aside0.mk A70
   clear A70
   by_cases c8 : a1 < t101
   ·rw [if_pos c8] at H
    have c8b0 : decide (a1 < t101) = true := decide_eq_true c8
    clear c8
    obtain ⟨ji9, hji9⟩ : ∃ j_ : Int, (wrap64 ((l3.length : Int) - 1)) = j_ := ⟨_, rfl⟩
    replace H : (if 0 ≤ (ji9) then (if (ji9) ≤ (l3.length : Int) then ((trail_up.f k t101 a1 l2 (l3.take ((ji9) : Int).toNat)).bind fun bt107 => (if (ji9) < (l3.length : Int) then ((trail_digest.f 17 (([bt107.1, rd_L1 l3 (ji9)] : List (List Int)))).bind fun t115 => (some (t115, bt107.2))) else (none))) else (none)) else (none)) = some (r1, r2) := by first | (rw [hji9] at H; exact H) | (simp only [hji9] at H ⊢; exact H)
    (try rw [hji9] at A7)
    have hji9w : (IntKind.i64.wrap ((l3.length : Int) - 1)) = ji9 := (i64_w _).trans hji9
    by_cases c10 : 0 ≤ (ji9)
    ·rw [if_pos c10] at H
     have c10b0 := eq_true c10
     have c10b1 : decide (0 ≤ (ji9)) = true := decide_eq_true c10
     clear c10
     by_cases c11 : (ji9) ≤ (l3.length : Int)
     ·rw [if_pos c11] at H
      have c11b0 := eq_true c11
      have c11b1 : decide ((ji9) ≤ (l3.length : Int)) = true := decide_eq_true c11
      clear c11
      obtain ⟨y102, hy102⟩ : ∃ y_ : List (List Int), y_ = (l3.take ((ji9) : Int).toNat) := ⟨_, rfl⟩
      replace H : ((trail_up.f k t101 a1 l2 y102).bind fun bt107 => (if (ji9) < (l3.length : Int) then ((trail_digest.f 17 (([bt107.1, rd_L1 l3 (ji9)] : List (List Int)))).bind fun t115 => (some (t115, bt107.2))) else (none))) = some (r1, r2) := hyA hy102 H
      have Ny102 := Aside0.mk hy102
      clear hy102
      replace H := Option.bind_eq_some_iff.mp H
      obtain ⟨⟨t107, t110⟩, A120, H⟩ := H
      replace H : (if (ji9) < (l3.length : Int) then ((trail_digest.f 17 (([t107, rd_L1 l3 (ji9)] : List (List Int)))).bind fun t115 => (some (t115, t110))) else (none)) = some (r1, r2) := H
      have A12 := Aside0.mk A120
      clear A120
      by_cases c13 : (ji9) < (l3.length : Int)
      ·rw [if_pos c13] at H
       have c13b0 : decide ((ji9) < (l3.length : Int)) = true := decide_eq_true c13
       clear c13
       obtain ⟨y112, hy112⟩ : ∃ y_ : List (List Int), y_ = (([t107, rd_L1 l3 (ji9)] : List (List Int))) := ⟨_, rfl⟩
       replace H : ((trail_digest.f 17 y112).bind fun t115 => (some (t115, t110))) = some (r1, r2) := hyA hy112 H
       have Ny112 := Aside0.mk hy112
       clear hy112
       replace H := Option.bind_eq_some_iff.mp H
       obtain ⟨t115, A140, H⟩ := H
       replace H : (some (t115, t110)) = some (r1, r2) := H
       have A14 := Aside0.mk A140
       clear A140
       simp only [Option.some.injEq, Prod.mk.injEq] at H
       obtain ⟨rfl, rfl⟩ := H
       go_enter Tryd.func59, Tryd.ntmps59
       go_wp2_with (first | ((with_reducible refine gate_callee (f := 54) rfl ?_); refine goesL_ (some 26) rfl rfl Tryd.func54 (by kernel_rfl) rfl #[.int .i64 a0] rfl eqA ?_; (with_reducible refine (trail_half.calls a0 t101 _ A7.out).mono ?_); rintro e w15 ⟨rfl, hb⟩; refine ⟨_, rfl, ?_⟩; have n0_ := Aside0.mk (Kd.V_below (vL HO2.out) hb); have n1_ := Aside0.mk (Kd.V_below (vL HO3.out) hb); have n2_ := Aside0.mk (below_step bel hb); clear HO2; clear HO3; clear HB; have HO2 := n0_; have HO3 := n1_; have HB := n2_; clear n0_ n1_ n2_; (try clear hb); (try clear hb2); (try clear hk); (try clear hi); have q16 : ((ji9) : Int) ≤ ((l3.length : Int) : Int) := of_decide_eq_true asm_; obtain ⟨i016, hi016, _, hsz16, _⟩ := info_parts info23; have hroom16 : l3.length ≤ c3 := (Kd.V_reads' HO3.out).2.1; have hC16 : Kd.F (Kd.slice 5 (Kd.int .u8)) _ _ A3 l3.length l3 := (Kd.V_at (base := w.heap.size) HO3.out).2.2; have hcut16 := cut_to3 (P := Tryd.prog) 22 23 .i64 Tryd.underlying22 hi016 A3 l3.length c3 (ji9) (of_decide_eq_true asm_) q16 hroom16; have hr16 := Kd.F_take (m := ((ji9) : Int).toNat) hC16 (by omega); have hy16 : y102.length = ((ji9) : Int).toNat := (by rw [Ny102.out, List.length_take]; omega); rw [← Ny102.out] at hr16; rw [← hy16] at hcut16; have HO106 := Aside0.mk (show Kd.V (Kd.slice 5 (Kd.int .u8)) 23 _ w.heap.size _ (.slice A3 y102.length y102.length) y102 from Kd.V_mk (by omega) hr16); have HC106 := Aside0.mk (show y102.length ≤ y102.length from by omega); clear hr16 hC16 hroom16 hi016 hsz16; have KY16 := Aside0.mk hy16; clear hy16; replace q16 := eq_true q16) | ((with_reducible refine gate_callee (f := 59) rfl ?_); refine goesL_ (some 41) rfl rfl Tryd.func59 (by kernel_rfl) rfl #[.int .i64 t101, .int .i64 a1, .slice A2 l2.length c2, .slice A3 y102.length y102.length] rfl eqA ?_; (with_reducible refine (ih k (by omega) t101 a1 (fun k_ => ((P2_ k_ ∨ P3_ k_) ∨ w.heap.size ≤ k_)) _ _ l2 (fun k_ => ((P2_ k_ ∨ P3_ k_) ∨ w.heap.size ≤ k_)) _ _ y102 t107 t110 _ (Glb.of HG bel) ?side1 ?side2 A12.out).mono ?_); (case side1 => exact HO2.out); (case side2 => exact HO106.out); rintro e w17 ⟨v108, rfl, ho0, hb⟩; refine ⟨_, rfl, ?_⟩; have n0_ := Aside0.mk (Kd.V_below (vL HO2.out) hb); have n1_ := Aside0.mk (Kd.V_below (vL HO3.out) hb); have n2_ := Aside0.mk (Kd.V_below (vL HO106.out) hb); have n3_ := Aside0.mk (Kd.V_lower (Kd.V_mono (ok' := fun k_ => ((P2_ k_ ∨ P3_ k_) ∨ w.heap.size ≤ k_)) ho0 (fun k_ hk_ => Or.elim hk_ (fun hs_ => Or.elim hs_ (fun hs_ => hs_) (fun hs_ => hs_)) (fun hn_ => (.inr (Nat.le_trans (below_size bel) hn_))))) (below_size bel)); have n4_ := Aside0.mk (below_step bel hb); clear HO2; clear HO3; clear HO106; clear HB; have HO2 := n0_; have HO3 := n1_; have HO106 := n2_; have HO109 := n3_; have HB := n4_; clear n0_ n1_ n2_ n3_ n4_; (try clear hb); (try clear hb2); (try clear hk); (try clear hi); (try clear ho0); have p111 : 0 ≤ ((ji9) : Int) := of_decide_eq_true asm_; have q111 : (ji9) < (l3.length : Int) := of_decide_eq_true asm_; obtain ⟨ad111, A111_0, c111_0, e111, hx111_0, hl111_0, hi111_0⟩ := at_L1 (Kd.V_reads' HO3.out).2.2 (ji9) p111 q111; cases e111; obtain ⟨ce111, hce111, hMe111, hcc111⟩ := Kd.V_get HO3.out [] (ji9) p111 (by first | exact q111 | exact of_decide_eq_true asm_ | (have e_ := (Kd.V_reads' HO3.out).1; omega)); obtain ⟨ua111_0, uc111_0, rfl, ul111_0, ge111_0⟩ := Kd.FK_slice_open hMe111; have hv111_0 := hcc111 0 _ rfl; rw [Nat.add_zero, show ((Kd.slice 5 (Kd.int .u8))).sz = 1 from rfl, Nat.mul_one] at hv111_0; replace hv111_0 := Option.some.inj (hv111_0.symm.trans hx111_0); injection hv111_0 with hva_ hvn_ hvc_; rw [hva_] at ge111_0; rw [hvc_] at ul111_0; have HL111_0 := Aside0.mk (show Kd.V (Kd.int .u8) 5 _ w.heap.size _ _ (rd_L1 l3 (ji9)) from Kd.V_mk ul111_0 ge111_0); clear hva_ hvn_ hvc_ ge111_0 ul111_0; clear hcc111 hce111; have HR111_0 := Aside0.mk hi111_0; have HC111_0 := Aside0.mk hl111_0; clear hi111_0 hl111_0; replace p111 := eq_true p111; replace q111 := eq_true q111; obtain ⟨Ao18, co18, eo18⟩ := Kd.V_slice HO109.out; subst eo18) | ((with_reducible refine gate_dst (N := 49) rfl ?_); refine Kd.N_lit (Kd.slice 5 (Kd.int .u8)) _ 23 ?hg (N' := 49) ?hd (xs := ([t107, rd_L1 l3 (ji9)] : List (List Int))) (inner := [.slice Ao18 t107.length co18, .slice A111_0 (rd_L1 l3 (ji9)).length c111_0]) (ok := (fun k_ => ((P2_ k_ ∨ P3_ k_) ∨ w.heap.size ≤ k_))) (okp := (fun k_ => ((P2_ k_ ∨ P3_ k_) ∨ w.heap.size ≤ k_))) ?hr ?hp (fun _ hk => hk) ((show ∀ k_, w17.heap.size ≤ k_ → (fun k_ => ((P2_ k_ ∨ P3_ k_) ∨ w.heap.size ≤ k_)) k_ from fun k_ hk => (.inr (Nat.le_trans (below_size bel) hk))) _ (Nat.le_refl _)) (Below.refl _ _) (Nat.le_refl _) (by simp) ?_; (case hd => rfl); (case hg => rfl); (case hr => first | (go_simp; done) | (go_simp; rfl)); (case hp => exact (Reps.one (show Kd.FK (Kd.slice 5 (Kd.int .u8)) _ _ t107 [.slice Ao18 t107.length co18] from (Kd.FK_slice_mk (Kd.V_reads' (Kd.V_mono (ok' := (fun k_ => ((P2_ k_ ∨ P3_ k_) ∨ w.heap.size ≤ k_))) (HO109.out) (fun k_ hk => hk))).2.1 (Kd.V_F (Kd.V_mono (ok' := (fun k_ => ((P2_ k_ ∨ P3_ k_) ∨ w.heap.size ≤ k_))) (HO109.out) (fun k_ hk => hk))))) (Reps.one (show Kd.FK (Kd.slice 5 (Kd.int .u8)) _ _ (rd_L1 l3 (ji9)) [.slice A111_0 (rd_L1 l3 (ji9)).length c111_0] from (Kd.FK_slice_mk (Kd.V_reads' (Kd.V_mono (ok' := (fun k_ => ((P2_ k_ ∨ P3_ k_) ∨ w.heap.size ≤ k_))) (HL111_0.out) (fun k_ hk => hk))).2.1 (Kd.V_F (Kd.V_mono (ok' := (fun k_ => ((P2_ k_ ∨ P3_ k_) ∨ w.heap.size ≤ k_))) (HL111_0.out) (fun k_ hk => hk))))) (Reps.none _ _)))); intro v113 w19 ho20 hb hg_ hnew_; clear hg_ hnew_; (first | rw [← Ny112.out] at ho20 | (simp only [Int.reduceToNat] at ho20; rw [← Ny112.out] at ho20)); have n0_ := Aside0.mk (Kd.V_elder' (vL HO2.out) (Kd.N_base ho20) hb); have n1_ := Aside0.mk (Kd.V_elder' (vL HO3.out) (Kd.N_base ho20) hb); have n2_ := Aside0.mk (Kd.V_elder' (vL HO106.out) (Kd.N_base ho20) hb); have n3_ := Aside0.mk (Kd.V_elder' (vL HO109.out) (Kd.N_base ho20) hb); have n4_ := Aside0.mk (Kd.V_elder' (vL HL111_0.out) (Kd.N_base ho20) hb); have n5_ := Aside0.mk (Kd.N_lower ho20 (below_size bel)); have n6_ := Aside0.mk (Kd.C_below (by repeat (first | (with_reducible exact HR111_0.out) | (with_reducible refine Kd.C_alloc ?_ _) | (with_reducible refine Kd.C_drewN ?_ _) | (with_reducible refine Kd.C_drew ?_) | exact HR111_0.out)) hb); have n7_ := Aside0.mk (below_step bel hb); clear HO2; clear HO3; clear HO106; clear HO109; clear HL111_0; clear HR111_0; clear HB; have HO2 := n0_; have HO3 := n1_; have HO106 := n2_; have HO109 := n3_; have HL111_0 := n4_; have HO114 := n5_; have HR111_0 := n6_; have HB := n7_; clear n0_ n1_ n2_ n3_ n4_ n5_ n6_ n7_; clear hb ho20; obtain ⟨Ao21, co21, eo21⟩ := Kd.N_slice HO114.out; subst eo21) | ((with_reducible refine gate_callee (f := 53) rfl ?_); refine goesL_ (some 50) rfl rfl Tryd.func53 (by kernel_rfl) rfl #[.int .u8 17, .slice Ao21 y112.length co21] rfl eqA ?_; (with_reducible refine (trail_digest.calls 17 _ _ y112 t115 _ (Glb.of HG bel) ?side1 ?side2 A14.out).mono ?_); (case side1 => exact cL (Kd.N_reads' HO114.out).2.2); (case side2 => exact (Kd.N_reads' HO114.out).2.1); rintro e w22 ⟨v116, rfl, ho0, hb⟩; refine ⟨_, rfl, ?_⟩; have n0_ := Aside0.mk (Kd.V_elder' (vL HO2.out) (Kd.R_base ho0) hb); have n1_ := Aside0.mk (Kd.V_elder' (vL HO3.out) (Kd.R_base ho0) hb); have n2_ := Aside0.mk (Kd.V_elder' (vL HO106.out) (Kd.R_base ho0) hb); have n3_ := Aside0.mk (Kd.V_elder' (vL HO109.out) (Kd.R_base ho0) hb); have n4_ := Aside0.mk (Kd.V_elder' (vL HL111_0.out) (Kd.R_base ho0) hb); have n5_ := Aside0.mk (Kd.N_elder' (nL HO114.out) (Kd.R_base ho0) hb); have n6_ := Aside0.mk (Kd.R_lower (Kd.R_newM (M := fun k_ => (w.heap.size ≤ k_)) ho0 (below_size bel) (fun k_ h_ => h_)) (below_size bel)); have n7_ := Aside0.mk (Kd.C_below (by repeat (first | (with_reducible exact HR111_0.out) | (with_reducible refine Kd.C_alloc ?_ _) | (with_reducible refine Kd.C_drewN ?_ _) | (with_reducible refine Kd.C_drew ?_) | exact HR111_0.out)) hb); have n8_ := Aside0.mk (below_step bel hb); clear HO2; clear HO3; clear HO106; clear HO109; clear HL111_0; clear HO114; clear HR111_0; clear HB; have HO2 := n0_; have HO3 := n1_; have HO106 := n2_; have HO109 := n3_; have HL111_0 := n4_; have HO114 := n5_; have HO117 := n6_; have HR111_0 := n7_; have HB := n8_; clear n0_ n1_ n2_ n3_ n4_ n5_ n6_ n7_ n8_; (try clear hb); (try clear hb2); (try clear hk); (try clear hi); (try clear ho0)))
       go_ret2
       exact ⟨_, by first | rfl | (simp [errW_none, errW_some] <;> rfl) | (simp only [← hji9]; first | rfl | (simp [errW_none, errW_some] <;> rfl)) | (simp [*, errW_none, errW_some] <;> rfl), Kd.V_mono (Kd.R_V (by (with_reducible repeat (first | apply Kd.R_alloc | apply Kd.R_drewN | apply Kd.R_drew)); exact Kd.R_mono HO117.out (fun _ hk => hk.1))) (fun k_ hk => by first | exact ⟨(.inr (hk.1)), hk.2⟩ | exact (.inr (hk))), by repeat (first | (with_reducible first | exact HB.out | apply below_alloc | apply pw_below_drewN | apply below_drew1) | exact HB.out)⟩
      ·rw [if_neg c13] at H
       exact absurd H (by simp)
     ·rw [if_neg c11] at H
      exact absurd H (by simp)
    ·rw [if_neg c10] at H
     exact absurd H (by simp)
   ·rw [if_neg c8] at H
    have c8b0 : decide (a1 < t101) = false := decide_eq_false c8
    clear c8
    obtain ⟨ji23, hji23⟩ : ∃ j_ : Int, (wrap64 ((l3.length : Int) - 1)) = j_ := ⟨_, rfl⟩
    replace H : (if 0 ≤ (ji23) then (if (ji23) ≤ (l3.length : Int) then ((trail_up.f k (wrap64 (a0 - t101)) (wrap64 (a1 - t101)) l2 (l3.take ((ji23) : Int).toNat)).bind fun bt123 => (if (ji23) < (l3.length : Int) then ((trail_digest.f 17 (([rd_L1 l3 (ji23), bt123.1] : List (List Int)))).bind fun t131 => (some (t131, bt123.2))) else (none))) else (none)) else (none)) = some (r1, r2) := by first | (rw [hji23] at H; exact H) | (simp only [hji23] at H ⊢; exact H)
    (try rw [hji23] at A7)
    have hji23w : (IntKind.i64.wrap ((l3.length : Int) - 1)) = ji23 := (i64_w _).trans hji23
    by_cases c24 : 0 ≤ (ji23)
    ·rw [if_pos c24] at H
     have c24b0 := eq_true c24
     have c24b1 : decide (0 ≤ (ji23)) = true := decide_eq_true c24
     clear c24
     by_cases c25 : (ji23) ≤ (l3.length : Int)
     ·rw [if_pos c25] at H
      have c25b0 := eq_true c25
      have c25b1 : decide ((ji23) ≤ (l3.length : Int)) = true := decide_eq_true c25
      clear c25
      obtain ⟨y118, hy118⟩ : ∃ y_ : List (List Int), y_ = (l3.take ((ji23) : Int).toNat) := ⟨_, rfl⟩
      replace H : ((trail_up.f k (wrap64 (a0 - t101)) (wrap64 (a1 - t101)) l2 y118).bind fun bt123 => (if (ji23) < (l3.length : Int) then ((trail_digest.f 17 (([rd_L1 l3 (ji23), bt123.1] : List (List Int)))).bind fun t131 => (some (t131, bt123.2))) else (none))) = some (r1, r2) := hyA hy118 H
      have Ny118 := Aside0.mk hy118
      clear hy118
      replace H := Option.bind_eq_some_iff.mp H
      obtain ⟨⟨t123, t126⟩, A260, H⟩ := H
      replace H : (if (ji23) < (l3.length : Int) then ((trail_digest.f 17 (([rd_L1 l3 (ji23), t123] : List (List Int)))).bind fun t131 => (some (t131, t126))) else (none)) = some (r1, r2) := H
      have A26 := Aside0.mk A260
      clear A260
      by_cases c27 : (ji23) < (l3.length : Int)
      ·rw [if_pos c27] at H
       have c27b0 : decide ((ji23) < (l3.length : Int)) = true := decide_eq_true c27
       clear c27
       obtain ⟨y128, hy128⟩ : ∃ y_ : List (List Int), y_ = (([rd_L1 l3 (ji23), t123] : List (List Int))) := ⟨_, rfl⟩
       replace H : ((trail_digest.f 17 y128).bind fun t131 => (some (t131, t126))) = some (r1, r2) := hyA hy128 H
       have Ny128 := Aside0.mk hy128
       clear hy128
       replace H := Option.bind_eq_some_iff.mp H
       obtain ⟨t131, A280, H⟩ := H
       replace H : (some (t131, t126)) = some (r1, r2) := H
       have A28 := Aside0.mk A280
       clear A280
       simp only [Option.some.injEq, Prod.mk.injEq] at H
       obtain ⟨rfl, rfl⟩ := H
       go_enter Tryd.func59, Tryd.ntmps59
       go_wp2_with (first | ((with_reducible refine gate_callee (f := 54) rfl ?_); refine goesL_ (some 26) rfl rfl Tryd.func54 (by kernel_rfl) rfl #[.int .i64 a0] rfl eqA ?_; (with_reducible refine (trail_half.calls a0 t101 _ A7.out).mono ?_); rintro e w29 ⟨rfl, hb⟩; refine ⟨_, rfl, ?_⟩; have n0_ := Aside0.mk (Kd.V_below (vL HO2.out) hb); have n1_ := Aside0.mk (Kd.V_below (vL HO3.out) hb); have n2_ := Aside0.mk (below_step bel hb); clear HO2; clear HO3; clear HB; have HO2 := n0_; have HO3 := n1_; have HB := n2_; clear n0_ n1_ n2_; (try clear hb); (try clear hb2); (try clear hk); (try clear hi); have q30 : ((ji23) : Int) ≤ ((l3.length : Int) : Int) := of_decide_eq_true asm_; obtain ⟨i030, hi030, _, hsz30, _⟩ := info_parts info23; have hroom30 : l3.length ≤ c3 := (Kd.V_reads' HO3.out).2.1; have hC30 : Kd.F (Kd.slice 5 (Kd.int .u8)) _ _ A3 l3.length l3 := (Kd.V_at (base := w.heap.size) HO3.out).2.2; have hcut30 := cut_to3 (P := Tryd.prog) 22 23 .i64 Tryd.underlying22 hi030 A3 l3.length c3 (ji23) (of_decide_eq_true asm_) q30 hroom30; have hr30 := Kd.F_take (m := ((ji23) : Int).toNat) hC30 (by omega); have hy30 : y118.length = ((ji23) : Int).toNat := (by rw [Ny118.out, List.length_take]; omega); rw [← Ny118.out] at hr30; rw [← hy30] at hcut30; have HO122 := Aside0.mk (show Kd.V (Kd.slice 5 (Kd.int .u8)) 23 _ w.heap.size _ (.slice A3 y118.length y118.length) y118 from Kd.V_mk (by omega) hr30); have HC122 := Aside0.mk (show y118.length ≤ y118.length from by omega); clear hr30 hC30 hroom30 hi030 hsz30; have KY30 := Aside0.mk hy30; clear hy30; replace q30 := eq_true q30) | ((with_reducible refine gate_callee (f := 59) rfl ?_); refine goesL_ (some 64) rfl rfl Tryd.func59 (by kernel_rfl) rfl #[.int .i64 (wrap64 (a0 - t101)), .int .i64 (wrap64 (a1 - t101)), .slice A2 l2.length c2, .slice A3 y118.length y118.length] rfl eqA ?_; (with_reducible refine (ih k (by omega) (wrap64 (a0 - t101)) (wrap64 (a1 - t101)) (fun k_ => ((P2_ k_ ∨ P3_ k_) ∨ w.heap.size ≤ k_)) _ _ l2 (fun k_ => ((P2_ k_ ∨ P3_ k_) ∨ w.heap.size ≤ k_)) _ _ y118 t123 t126 _ (Glb.of HG bel) ?side1 ?side2 A26.out).mono ?_); (case side1 => exact HO2.out); (case side2 => exact HO122.out); rintro e w31 ⟨v124, rfl, ho0, hb⟩; refine ⟨_, rfl, ?_⟩; have n0_ := Aside0.mk (Kd.V_below (vL HO2.out) hb); have n1_ := Aside0.mk (Kd.V_below (vL HO3.out) hb); have n2_ := Aside0.mk (Kd.V_below (vL HO122.out) hb); have n3_ := Aside0.mk (Kd.V_lower (Kd.V_mono (ok' := fun k_ => ((P2_ k_ ∨ P3_ k_) ∨ w.heap.size ≤ k_)) ho0 (fun k_ hk_ => Or.elim hk_ (fun hs_ => Or.elim hs_ (fun hs_ => hs_) (fun hs_ => hs_)) (fun hn_ => (.inr (Nat.le_trans (below_size bel) hn_))))) (below_size bel)); have n4_ := Aside0.mk (below_step bel hb); clear HO2; clear HO3; clear HO122; clear HB; have HO2 := n0_; have HO3 := n1_; have HO122 := n2_; have HO125 := n3_; have HB := n4_; clear n0_ n1_ n2_ n3_ n4_; (try clear hb); (try clear hb2); (try clear hk); (try clear hi); (try clear ho0); have p127 : 0 ≤ ((ji23) : Int) := of_decide_eq_true asm_; have q127 : (ji23) < (l3.length : Int) := of_decide_eq_true asm_; obtain ⟨ad127, A127_0, c127_0, e127, hx127_0, hl127_0, hi127_0⟩ := at_L1 (Kd.V_reads' HO3.out).2.2 (ji23) p127 q127; cases e127; obtain ⟨ce127, hce127, hMe127, hcc127⟩ := Kd.V_get HO3.out [] (ji23) p127 (by first | exact q127 | exact of_decide_eq_true asm_ | (have e_ := (Kd.V_reads' HO3.out).1; omega)); obtain ⟨ua127_0, uc127_0, rfl, ul127_0, ge127_0⟩ := Kd.FK_slice_open hMe127; have hv127_0 := hcc127 0 _ rfl; rw [Nat.add_zero, show ((Kd.slice 5 (Kd.int .u8))).sz = 1 from rfl, Nat.mul_one] at hv127_0; replace hv127_0 := Option.some.inj (hv127_0.symm.trans hx127_0); injection hv127_0 with hva_ hvn_ hvc_; rw [hva_] at ge127_0; rw [hvc_] at ul127_0; have HL127_0 := Aside0.mk (show Kd.V (Kd.int .u8) 5 _ w.heap.size _ _ (rd_L1 l3 (ji23)) from Kd.V_mk ul127_0 ge127_0); clear hva_ hvn_ hvc_ ge127_0 ul127_0; clear hcc127 hce127; have HR127_0 := Aside0.mk hi127_0; have HC127_0 := Aside0.mk hl127_0; clear hi127_0 hl127_0; replace p127 := eq_true p127; replace q127 := eq_true q127; obtain ⟨Ao32, co32, eo32⟩ := Kd.V_slice HO125.out; subst eo32) | ((with_reducible refine gate_dst (N := 72) rfl ?_); refine Kd.N_lit (Kd.slice 5 (Kd.int .u8)) _ 23 ?hg (N' := 72) ?hd (xs := ([rd_L1 l3 (ji23), t123] : List (List Int))) (inner := [.slice A127_0 (rd_L1 l3 (ji23)).length c127_0, .slice Ao32 t123.length co32]) (ok := (fun k_ => ((P2_ k_ ∨ P3_ k_) ∨ w.heap.size ≤ k_))) (okp := (fun k_ => ((P2_ k_ ∨ P3_ k_) ∨ w.heap.size ≤ k_))) ?hr ?hp (fun _ hk => hk) ((show ∀ k_, w31.heap.size ≤ k_ → (fun k_ => ((P2_ k_ ∨ P3_ k_) ∨ w.heap.size ≤ k_)) k_ from fun k_ hk => (.inr (Nat.le_trans (below_size bel) hk))) _ (Nat.le_refl _)) (Below.refl _ _) (Nat.le_refl _) (by simp) ?_; (case hd => rfl); (case hg => rfl); (case hr => first | (go_simp; done) | (go_simp; rfl)); (case hp => exact (Reps.one (show Kd.FK (Kd.slice 5 (Kd.int .u8)) _ _ (rd_L1 l3 (ji23)) [.slice A127_0 (rd_L1 l3 (ji23)).length c127_0] from (Kd.FK_slice_mk (Kd.V_reads' (Kd.V_mono (ok' := (fun k_ => ((P2_ k_ ∨ P3_ k_) ∨ w.heap.size ≤ k_))) (HL127_0.out) (fun k_ hk => hk))).2.1 (Kd.V_F (Kd.V_mono (ok' := (fun k_ => ((P2_ k_ ∨ P3_ k_) ∨ w.heap.size ≤ k_))) (HL127_0.out) (fun k_ hk => hk))))) (Reps.one (show Kd.FK (Kd.slice 5 (Kd.int .u8)) _ _ t123 [.slice Ao32 t123.length co32] from (Kd.FK_slice_mk (Kd.V_reads' (Kd.V_mono (ok' := (fun k_ => ((P2_ k_ ∨ P3_ k_) ∨ w.heap.size ≤ k_))) (HO125.out) (fun k_ hk => hk))).2.1 (Kd.V_F (Kd.V_mono (ok' := (fun k_ => ((P2_ k_ ∨ P3_ k_) ∨ w.heap.size ≤ k_))) (HO125.out) (fun k_ hk => hk))))) (Reps.none _ _)))); intro v129 w33 ho34 hb hg_ hnew_; clear hg_ hnew_; (first | rw [← Ny128.out] at ho34 | (simp only [Int.reduceToNat] at ho34; rw [← Ny128.out] at ho34)); have n0_ := Aside0.mk (Kd.V_elder' (vL HO2.out) (Kd.N_base ho34) hb); have n1_ := Aside0.mk (Kd.V_elder' (vL HO3.out) (Kd.N_base ho34) hb); have n2_ := Aside0.mk (Kd.V_elder' (vL HO122.out) (Kd.N_base ho34) hb); have n3_ := Aside0.mk (Kd.V_elder' (vL HO125.out) (Kd.N_base ho34) hb); have n4_ := Aside0.mk (Kd.V_elder' (vL HL127_0.out) (Kd.N_base ho34) hb); have n5_ := Aside0.mk (Kd.N_lower ho34 (below_size bel)); have n6_ := Aside0.mk (Kd.C_below (by repeat (first | (with_reducible exact HR127_0.out) | (with_reducible refine Kd.C_alloc ?_ _) | (with_reducible refine Kd.C_drewN ?_ _) | (with_reducible refine Kd.C_drew ?_) | exact HR127_0.out)) hb); have n7_ := Aside0.mk (below_step bel hb); clear HO2; clear HO3; clear HO122; clear HO125; clear HL127_0; clear HR127_0; clear HB; have HO2 := n0_; have HO3 := n1_; have HO122 := n2_; have HO125 := n3_; have HL127_0 := n4_; have HO130 := n5_; have HR127_0 := n6_; have HB := n7_; clear n0_ n1_ n2_ n3_ n4_ n5_ n6_ n7_; clear hb ho34; obtain ⟨Ao35, co35, eo35⟩ := Kd.N_slice HO130.out; subst eo35) | ((with_reducible refine gate_callee (f := 53) rfl ?_); refine goesL_ (some 73) rfl rfl Tryd.func53 (by kernel_rfl) rfl #[.int .u8 17, .slice Ao35 y128.length co35] rfl eqA ?_; (with_reducible refine (trail_digest.calls 17 _ _ y128 t131 _ (Glb.of HG bel) ?side1 ?side2 A28.out).mono ?_); (case side1 => exact cL (Kd.N_reads' HO130.out).2.2); (case side2 => exact (Kd.N_reads' HO130.out).2.1); rintro e w36 ⟨v132, rfl, ho0, hb⟩; refine ⟨_, rfl, ?_⟩; have n0_ := Aside0.mk (Kd.V_elder' (vL HO2.out) (Kd.R_base ho0) hb); have n1_ := Aside0.mk (Kd.V_elder' (vL HO3.out) (Kd.R_base ho0) hb); have n2_ := Aside0.mk (Kd.V_elder' (vL HO122.out) (Kd.R_base ho0) hb); have n3_ := Aside0.mk (Kd.V_elder' (vL HO125.out) (Kd.R_base ho0) hb); have n4_ := Aside0.mk (Kd.V_elder' (vL HL127_0.out) (Kd.R_base ho0) hb); have n5_ := Aside0.mk (Kd.N_elder' (nL HO130.out) (Kd.R_base ho0) hb); have n6_ := Aside0.mk (Kd.R_lower (Kd.R_newM (M := fun k_ => (w.heap.size ≤ k_)) ho0 (below_size bel) (fun k_ h_ => h_)) (below_size bel)); have n7_ := Aside0.mk (Kd.C_below (by repeat (first | (with_reducible exact HR127_0.out) | (with_reducible refine Kd.C_alloc ?_ _) | (with_reducible refine Kd.C_drewN ?_ _) | (with_reducible refine Kd.C_drew ?_) | exact HR127_0.out)) hb); have n8_ := Aside0.mk (below_step bel hb); clear HO2; clear HO3; clear HO122; clear HO125; clear HL127_0; clear HO130; clear HR127_0; clear HB; have HO2 := n0_; have HO3 := n1_; have HO122 := n2_; have HO125 := n3_; have HL127_0 := n4_; have HO130 := n5_; have HO133 := n6_; have HR127_0 := n7_; have HB := n8_; clear n0_ n1_ n2_ n3_ n4_ n5_ n6_ n7_ n8_; (try clear hb); (try clear hb2); (try clear hk); (try clear hi); (try clear ho0)))
       go_ret2
       exact ⟨_, by first | rfl | (simp [errW_none, errW_some] <;> rfl) | (simp only [← hji23]; first | rfl | (simp [errW_none, errW_some] <;> rfl)) | (simp [*, errW_none, errW_some] <;> rfl), Kd.V_mono (Kd.R_V (by (with_reducible repeat (first | apply Kd.R_alloc | apply Kd.R_drewN | apply Kd.R_drew)); exact Kd.R_mono HO133.out (fun _ hk => hk.1))) (fun k_ hk => by first | exact ⟨(.inr (hk.1)), hk.2⟩ | exact (.inr (hk))), by repeat (first | (with_reducible first | exact HB.out | apply below_alloc | apply pw_below_drewN | apply below_drew1) | exact HB.out)⟩
      ·rw [if_neg c27] at H
       exact absurd H (by simp)
     ·rw [if_neg c25] at H
      exact absurd H (by simp)
    ·rw [if_neg c24] at H
     exact absurd H (by simp)

/-! ### bytes_Equal: function 60 -/
def bytes_Equal.f (l0 : List Int) (l1 : List Int) : Option (Bool) := some ((strOfNums l0).toList == (strOfNums l1).toList)
set_option maxHeartbeats 8000000 in
set_option maxRecDepth 100000 in
theorem bytes_Equal.calls (A0 : Option Addr) (c0 : Nat) (l0 : List Int) (A1 : Option Addr) (c1 : Nat) (l1 : List Int) (r : Bool) (w : World) (hr0 : Kd.C (Kd.int .u8) w A0 l0.length l0) (hc0 : l0.length ≤ c0) (hr1 : Kd.C (Kd.int .u8) w A1 l1.length l1) (hc1 : l1.length ≤ c1) (h : bytes_Equal.f l0 l1 = some r) :
  Calls Tryd.prog 60 #[.slice A0 l0.length c0, .slice A1 l1.length c1] w fun e w' => e = .returned (.bool r) ∧ Drawn0 w w' := by
 have HR0 := Aside0.mk hr0
 have HC0 := Aside0.mk hc0
 clear hr0 hc0
 have HR1 := Aside0.mk hr1
 have HC1 := Aside0.mk hc1
 clear hr1 hc1
 have H : (some ((strOfNums l0).toList == (strOfNums l1).toList)) = some r := h
 clear h
 obtain rfl := Option.some.inj H
 have hcv3 := Kd.C_string (P := Tryd.prog) (A := A0) (c := c0) Tryd.underlying23 Tryd.underlying5 Tryd.underlying9 HR0.out
 have hcv4 := Kd.C_string (P := Tryd.prog) (A := A1) (c := c1) Tryd.underlying23 Tryd.underlying5 Tryd.underlying9 HR1.out
 go_enter Tryd.func60, Tryd.ntmps60
 go_wp2
 go_ret
 exact ⟨by first | rfl | (simp; done) | (simp [*]; done), by repeat (first | exact Drawn0.refl _ | apply Drawn0.step)⟩

/-! ### trail_In: function 34 -/
def trail_In.j0 : Nat → List Int → Int → Int → List Int → List (List Int) → Bool → Option (Int)
 | 0, _, _, _, _, _, _ => none
 | k + 1, x0, x1, x2, x3, x4, x39 => if x39 = true then (some 1) else ((trail_up.f k x1 x2 x3 x4).bind fun bt139 => (if bt139.2 = true then ((trail_head.f k x1 bt139.1).bind fun t143 => ((bytes_Equal.f t143 x0).bind fun t146 => (if t146 = true then (some 0) else (some 50)))) else (some 50)))
def trail_In.f (k : Nat) (l0 : List Int) (a1 : Int) (a2 : Int) (l3 : List Int) (l4 : List (List Int)) : Option (Int) := if a1 < 1 then (trail_In.j0 k l0 a1 a2 l3 l4 true) else (if a1 > 4096 then (trail_In.j0 k l0 a1 a2 l3 l4 true) else (if a2 < 0 then (trail_In.j0 k l0 a1 a2 l3 l4 true) else (if a2 ≥ a1 then (trail_In.j0 k l0 a1 a2 l3 l4 true) else ((trail_digests.f (([l0, l3] : List (List Int)))).bind fun t137 => (if t137 = true then ((trail_digests.f l4).bind fun t138 => (trail_In.j0 k l0 a1 a2 l3 l4 (!t138))) else (trail_In.j0 k l0 a1 a2 l3 l4 true))))))
theorem trail_In.mono_l : ∀ k, (∀ y0 y1 y2 y3 y4 y5, LeO (trail_In.j0 k y0 y1 y2 y3 y4 y5) (trail_In.j0 (k + 1) y0 y1 y2 y3 y4 y5))
 | 0 => fun _ _ _ _ _ _ r h => by simp [trail_In.j0] at h
 | k + 1 => by
  have ih0 := trail_In.mono_l k
  ·intro y0 y1 y2 y3 y4 y5
   unfold trail_In.j0
   repeat' first
   | (with_reducible exact ih0 _ _ _ _ _ _)
   | (with_reducible exact trail_head.mono _ _ _)
   | (with_reducible exact trail_up.mono _ _ _ _ _)
   | (with_reducible exact LeO.refl _)
   | (with_reducible exact LeO.none _)
   | (with_reducible refine LeO.ite ?_ ?_)
   | (with_reducible refine LeO.bind ?_ (fun _ => ?_))
   | exact ih0 _ _ _ _ _ _
   | exact trail_head.mono _ _ _
   | exact trail_up.mono _ _ _ _ _
   | exact LeO.none _
   | refine LeO.ite ?_ ?_
   | refine LeO.bind ?_ (fun _ => ?_)
theorem trail_In.mono : ∀ a0 a1 a2 a3 a4 k, LeO (trail_In.f k a0 a1 a2 a3 a4) (trail_In.f (k + 1) a0 a1 a2 a3 a4) := by
 intro a0 a1 a2 a3 a4 k
 have ih0 := trail_In.mono_l k
 unfold trail_In.f
 repeat' first
   | (with_reducible exact ih0 _ _ _ _ _ _)
   | (with_reducible exact trail_head.mono _ _ _)
   | (with_reducible exact trail_up.mono _ _ _ _ _)
   | (with_reducible exact LeO.refl _)
   | (with_reducible exact LeO.none _)
   | (with_reducible refine LeO.ite ?_ ?_)
   | (with_reducible refine LeO.bind ?_ (fun _ => ?_))
   | exact ih0 _ _ _ _ _ _
   | exact trail_head.mono _ _ _
   | exact trail_up.mono _ _ _ _ _
   | exact LeO.none _
   | refine LeO.ite ?_ ?_
   | refine LeO.bind ?_ (fun _ => ?_)
set_option maxHeartbeats 8000000 in
set_option maxRecDepth 100000 in
theorem trail_In.calls (k : Nat) (P0_ : Nat → Prop) (A0 : Option Addr) (c0 : Nat) (l0 : List Int) (a1 : Int) (a2 : Int) (P3_ : Nat → Prop) (A3 : Option Addr) (c3 : Nat) (l3 : List Int) (P4_ : Nat → Prop) (A4 : Option Addr) (c4 : Nat) (l4 : List (List Int)) (r : Int) (w : World) (HG : Glb w) (hs0 : Kd.V (Kd.int .u8) 5 w w.heap.size (fun k_ => P0_ k_) (.slice A0 l0.length c0) l0) (hs3 : Kd.V (Kd.int .u8) 5 w w.heap.size (fun k_ => P3_ k_) (.slice A3 l3.length c3) l3) (hs4 : Kd.V (Kd.slice 5 (Kd.int .u8)) 23 w w.heap.size (fun k_ => P4_ k_) (.slice A4 l4.length c4) l4) (h : trail_In.f k l0 a1 a2 l3 l4 = some r) :
  Calls Tryd.prog 34 #[.slice A0 l0.length c0, .int .i64 a1, .int .i64 a2, .slice A3 l3.length c3, .slice A4 l4.length c4] w fun e w' => e = .returned (.int .i64 r) ∧ Below w.heap.size w w' := by
 have HO0 := Aside0.mk (show Kd.V (Kd.int .u8) 5 w w.heap.size (fun k_ => ((P0_ k_ ∨ P3_ k_ ∨ P4_ k_) ∨ w.heap.size ≤ k_)) (.slice A0 l0.length c0) l0 from Kd.V_mono hs0 (fun k_ hk => .inl (.inl hk)))
 have HO3 := Aside0.mk (show Kd.V (Kd.int .u8) 5 w w.heap.size (fun k_ => ((P0_ k_ ∨ P3_ k_ ∨ P4_ k_) ∨ w.heap.size ≤ k_)) (.slice A3 l3.length c3) l3 from Kd.V_mono hs3 (fun k_ hk => .inl (.inr (.inl hk))))
 have HO4 := Aside0.mk (show Kd.V (Kd.slice 5 (Kd.int .u8)) 23 w w.heap.size (fun k_ => ((P0_ k_ ∨ P3_ k_ ∨ P4_ k_) ∨ w.heap.size ≤ k_)) (.slice A4 l4.length c4) l4 from Kd.V_mono hs4 (fun k_ hk => .inl (.inr (.inr hk))))
 have HB := Aside0.mk (Below.refl w.heap.size w)
 have H : (if a1 < 1 then (trail_In.j0 k l0 a1 a2 l3 l4 true) else (if a1 > 4096 then (trail_In.j0 k l0 a1 a2 l3 l4 true) else (if a2 < 0 then (trail_In.j0 k l0 a1 a2 l3 l4 true) else (if a2 ≥ a1 then (trail_In.j0 k l0 a1 a2 l3 l4 true) else ((trail_digests.f (([l0, l3] : List (List Int)))).bind fun t137 => (if t137 = true then ((trail_digests.f l4).bind fun t138 => (trail_In.j0 k l0 a1 a2 l3 l4 (!t138))) else (trail_In.j0 k l0 a1 a2 l3 l4 true))))))) = some r := h
 clear h
 have HC6 := Aside0.mk H
 clear H
 go_enter Tryd.func34, Tryd.ntmps34
 go_upto_region 1 with (fail)
 go_cut [39] (fun v39 wc => ∃ (kq : Nat) (x39_5 : Bool), v39 = .bool x39_5 ∧ Aside0 (trail_In.j0 kq l0 a1 a2 l3 l4 x39_5 = some r) ∧ Aside0 (kq ≤ k) ∧ Aside0 (Kd.V (Kd.int .u8) 5 wc w.heap.size (fun k_ => ((P0_ k_ ∨ P3_ k_ ∨ P4_ k_) ∨ w.heap.size ≤ k_)) (.slice A0 l0.length c0) l0) ∧ Aside0 (Kd.V (Kd.int .u8) 5 wc w.heap.size (fun k_ => ((P0_ k_ ∨ P3_ k_ ∨ P4_ k_) ∨ w.heap.size ≤ k_)) (.slice A3 l3.length c3) l3) ∧ Aside0 (Kd.V (Kd.slice 5 (Kd.int .u8)) 23 wc w.heap.size (fun k_ => ((P0_ k_ ∨ P3_ k_ ∨ P4_ k_) ∨ w.heap.size ≤ k_)) (.slice A4 l4.length c4) l4) ∧ Aside0 (Below w.heap.size w wc))
 case first =>
  have H := HC6.out
  clear HC6
  by_cases c7 : a1 < 1
  ·rw [if_pos c7] at H
   have c7b0 : decide (a1 < 1) = true := decide_eq_true c7
   clear c7
   (first | rw [c7b0] | (simp only [i64_w, i32_w]; rw [c7b0]) | skip)
   have H' := Aside0.mk H
   clear H
   go_wp2
   go_meet
   case rel => exact ⟨_, (true), (by first | rfl | (simp; done) | (simp [*]; done)), H', ⟨by first | omega | exact Nat.le_refl _⟩, ⟨by (with_reducible repeat (first | apply Kd.V_alloc | apply Kd.V_drewN | apply Kd.V_drew)); exact HO0.out⟩, ⟨by (with_reducible repeat (first | apply Kd.V_alloc | apply Kd.V_drewN | apply Kd.V_drew)); exact HO3.out⟩, ⟨by (with_reducible repeat (first | apply Kd.V_alloc | apply Kd.V_drewN | apply Kd.V_drew)); exact HO4.out⟩, ⟨by repeat (first | (with_reducible first | exact HB.out | apply below_alloc | apply pw_below_drewN | apply below_drew1) | exact HB.out)⟩⟩
  ·rw [if_neg c7] at H
   have c7b0 : decide (a1 < 1) = false := decide_eq_false c7
   clear c7
   (first | rw [c7b0] | (simp only [i64_w, i32_w]; rw [c7b0]) | skip)
   by_cases c8 : a1 > 4096
   ·rw [if_pos c8] at H
    have c8b0 : decide (4096 < a1) = true := decide_eq_true c8
    clear c8
    have H' := Aside0.mk H
    clear H
    go_wp2
    go_meet
    case rel => exact ⟨_, (true), (by first | rfl | (simp; done) | (simp [*]; done)), H', ⟨by first | omega | exact Nat.le_refl _⟩, ⟨by (with_reducible repeat (first | apply Kd.V_alloc | apply Kd.V_drewN | apply Kd.V_drew)); exact HO0.out⟩, ⟨by (with_reducible repeat (first | apply Kd.V_alloc | apply Kd.V_drewN | apply Kd.V_drew)); exact HO3.out⟩, ⟨by (with_reducible repeat (first | apply Kd.V_alloc | apply Kd.V_drewN | apply Kd.V_drew)); exact HO4.out⟩, ⟨by repeat (first | (with_reducible first | exact HB.out | apply below_alloc | apply pw_below_drewN | apply below_drew1) | exact HB.out)⟩⟩
   ·rw [if_neg c8] at H
    have c8b0 : decide (4096 < a1) = false := decide_eq_false c8
    clear c8
    by_cases c9 : a2 < 0
    ·rw [if_pos c9] at H
     have c9b0 : decide (a2 < 0) = true := decide_eq_true c9
     clear c9
     have H' := Aside0.mk H
     clear H
     go_wp2
     go_meet
     case rel => exact ⟨_, (true), (by first | rfl | (simp; done) | (simp [*]; done)), H', ⟨by first | omega | exact Nat.le_refl _⟩, ⟨by (with_reducible repeat (first | apply Kd.V_alloc | apply Kd.V_drewN | apply Kd.V_drew)); exact HO0.out⟩, ⟨by (with_reducible repeat (first | apply Kd.V_alloc | apply Kd.V_drewN | apply Kd.V_drew)); exact HO3.out⟩, ⟨by (with_reducible repeat (first | apply Kd.V_alloc | apply Kd.V_drewN | apply Kd.V_drew)); exact HO4.out⟩, ⟨by repeat (first | (with_reducible first | exact HB.out | apply below_alloc | apply pw_below_drewN | apply below_drew1) | exact HB.out)⟩⟩
    ·rw [if_neg c9] at H
     have c9b0 : decide (a2 < 0) = false := decide_eq_false c9
     clear c9
     by_cases c10 : a2 ≥ a1
     ·rw [if_pos c10] at H
      have c10b0 : decide (a1 ≤ a2) = true := decide_eq_true c10
      clear c10
      have H' := Aside0.mk H
      clear H
      go_wp2
      go_meet
      case rel => exact ⟨_, (true), (by first | rfl | (simp; done) | (simp [*]; done)), H', ⟨by first | omega | exact Nat.le_refl _⟩, ⟨by (with_reducible repeat (first | apply Kd.V_alloc | apply Kd.V_drewN | apply Kd.V_drew)); exact HO0.out⟩, ⟨by (with_reducible repeat (first | apply Kd.V_alloc | apply Kd.V_drewN | apply Kd.V_drew)); exact HO3.out⟩, ⟨by (with_reducible repeat (first | apply Kd.V_alloc | apply Kd.V_drewN | apply Kd.V_drew)); exact HO4.out⟩, ⟨by repeat (first | (with_reducible first | exact HB.out | apply below_alloc | apply pw_below_drewN | apply below_drew1) | exact HB.out)⟩⟩
     ·rw [if_neg c10] at H
      have c10b0 : decide (a1 ≤ a2) = false := decide_eq_false c10
      clear c10
      obtain ⟨y134, hy134⟩ : ∃ y_ : List (List Int), y_ = (([l0, l3] : List (List Int))) := ⟨_, rfl⟩
      replace H : ((trail_digests.f y134).bind fun t137 => (if t137 = true then ((trail_digests.f l4).bind fun t138 => (trail_In.j0 k l0 a1 a2 l3 l4 (!t138))) else (trail_In.j0 k l0 a1 a2 l3 l4 true))) = some r := hyA hy134 H
      have Ny134 := Aside0.mk hy134
      clear hy134
      replace H := Option.bind_eq_some_iff.mp H
      obtain ⟨t137, A110, H⟩ := H
      replace H : (if t137 = true then ((trail_digests.f l4).bind fun t138 => (trail_In.j0 k l0 a1 a2 l3 l4 (!t138))) else (trail_In.j0 k l0 a1 a2 l3 l4 true)) = some r := H
      have A11 := Aside0.mk A110
      clear A110
      by_cases c12 : t137 = true
      ·subst c12
       have H1 : ((trail_digests.f l4).bind fun t138 => (trail_In.j0 k l0 a1 a2 l3 l4 (!t138))) = some r := by rw [if_pos rfl] at H; exact H
       clear H
       have H := H1
       clear H1
       replace H := Option.bind_eq_some_iff.mp H
       obtain ⟨t138, A130, H⟩ := H
       replace H : (trail_In.j0 k l0 a1 a2 l3 l4 (!t138)) = some r := H
       have A13 := Aside0.mk A130
       clear A130
       have H' := Aside0.mk H
       clear H
       go_wp2_with (first | ((with_reducible refine gate_dst (N := 31) rfl ?_); (try (refine gate_guard (by rfl) ?_; dsimp only)); refine Kd.N_lit (Kd.slice 5 (Kd.int .u8)) _ 23 ?hg (N' := 31) ?hd (xs := ([l0, l3] : List (List Int))) (inner := [.slice A0 l0.length c0, .slice A3 l3.length c3]) (ok := (fun k_ => ((P0_ k_ ∨ P3_ k_ ∨ P4_ k_) ∨ w.heap.size ≤ k_))) (okp := (fun k_ => ((P0_ k_ ∨ P3_ k_ ∨ P4_ k_) ∨ w.heap.size ≤ k_))) ?hr ?hp (fun _ hk => hk) ((show ∀ k_, w.heap.size ≤ k_ → (fun k_ => ((P0_ k_ ∨ P3_ k_ ∨ P4_ k_) ∨ w.heap.size ≤ k_)) k_ from fun k_ hk => (.inr (Nat.le_trans (below_size bel) hk))) _ (Nat.le_refl _)) (Below.refl _ _) (Nat.le_refl _) (by simp) ?_; (case hd => rfl); (case hg => rfl); (case hr => first | (go_simp; done) | (go_simp; rfl)); (case hp => exact (Reps.one (show Kd.FK (Kd.slice 5 (Kd.int .u8)) _ _ l0 [.slice A0 l0.length c0] from (Kd.FK_slice_mk (Kd.V_reads' (Kd.V_mono (ok' := (fun k_ => ((P0_ k_ ∨ P3_ k_ ∨ P4_ k_) ∨ w.heap.size ≤ k_))) (HO0.out) (fun k_ hk => hk))).2.1 (Kd.V_F (Kd.V_mono (ok' := (fun k_ => ((P0_ k_ ∨ P3_ k_ ∨ P4_ k_) ∨ w.heap.size ≤ k_))) (HO0.out) (fun k_ hk => hk))))) (Reps.one (show Kd.FK (Kd.slice 5 (Kd.int .u8)) _ _ l3 [.slice A3 l3.length c3] from (Kd.FK_slice_mk (Kd.V_reads' (Kd.V_mono (ok' := (fun k_ => ((P0_ k_ ∨ P3_ k_ ∨ P4_ k_) ∨ w.heap.size ≤ k_))) (HO3.out) (fun k_ hk => hk))).2.1 (Kd.V_F (Kd.V_mono (ok' := (fun k_ => ((P0_ k_ ∨ P3_ k_ ∨ P4_ k_) ∨ w.heap.size ≤ k_))) (HO3.out) (fun k_ hk => hk))))) (Reps.none _ _)))); intro v135 w14 ho15 hb hg_ hnew_; clear hg_ hnew_; (first | rw [← Ny134.out] at ho15 | (simp only [Int.reduceToNat] at ho15; rw [← Ny134.out] at ho15)); have n0_ := Aside0.mk (Kd.V_elder' (vL HO0.out) (Kd.N_base ho15) hb); have n1_ := Aside0.mk (Kd.V_elder' (vL HO3.out) (Kd.N_base ho15) hb); have n2_ := Aside0.mk (Kd.V_elder' (vL HO4.out) (Kd.N_base ho15) hb); have n3_ := Aside0.mk (Kd.N_lower ho15 (below_size bel)); have n4_ := Aside0.mk (below_step bel hb); clear HO0; clear HO3; clear HO4; clear HB; have HO0 := n0_; have HO3 := n1_; have HO4 := n2_; have HO136 := n3_; have HB := n4_; clear n0_ n1_ n2_ n3_ n4_; clear hb ho15; obtain ⟨Ao16, co16, eo16⟩ := Kd.N_slice HO136.out; subst eo16) | (go_at_call 58; (with_reducible refine (trail_digests.calls _ _ y134 true _ ?side1 ?side2 A11.out).mono ?_); (case side1 => exact cL (Kd.N_reads' HO136.out).2.2); (case side2 => exact (Kd.N_reads' HO136.out).2.1); rintro e w17 ⟨rfl, hb⟩; have n0_ := Aside0.mk (Kd.V_below (vL HO0.out) hb); have n1_ := Aside0.mk (Kd.V_below (vL HO3.out) hb); have n2_ := Aside0.mk (Kd.V_below (vL HO4.out) hb); have n3_ := Aside0.mk (Kd.N_below (nL HO136.out) hb); have n4_ := Aside0.mk (below_step bel hb); clear HO0; clear HO3; clear HO4; clear HO136; clear HB; have HO0 := n0_; have HO3 := n1_; have HO4 := n2_; have HO136 := n3_; have HB := n4_; clear n0_ n1_ n2_ n3_ n4_; (try clear hb); (try clear hb2); (try clear hk); (try clear hi)) | (go_at_call 58; (with_reducible refine (trail_digests.calls _ _ l4 t138 _ ?side1 ?side2 A13.out).mono ?_); (case side1 => exact cL (Kd.V_reads' HO4.out).2.2); (case side2 => exact (Kd.V_reads' HO4.out).2.1); rintro e w18 ⟨rfl, hb⟩; have n0_ := Aside0.mk (Kd.V_below (vL HO0.out) hb); have n1_ := Aside0.mk (Kd.V_below (vL HO3.out) hb); have n2_ := Aside0.mk (Kd.V_below (vL HO4.out) hb); have n3_ := Aside0.mk (Kd.N_below (nL HO136.out) hb); have n4_ := Aside0.mk (below_step bel hb); clear HO0; clear HO3; clear HO4; clear HO136; clear HB; have HO0 := n0_; have HO3 := n1_; have HO4 := n2_; have HO136 := n3_; have HB := n4_; clear n0_ n1_ n2_ n3_ n4_; (try clear hb); (try clear hb2); (try clear hk); (try clear hi)))
       go_meet
       case rel => exact ⟨_, (!t138), (by first | rfl | (simp; done) | (simp [*]; done)), H', ⟨by first | omega | exact Nat.le_refl _⟩, ⟨by (with_reducible repeat (first | apply Kd.V_alloc | apply Kd.V_drewN | apply Kd.V_drew)); exact Kd.V_mono HO0.out (fun _ hk => hk.1)⟩, ⟨by (with_reducible repeat (first | apply Kd.V_alloc | apply Kd.V_drewN | apply Kd.V_drew)); exact Kd.V_mono HO3.out (fun _ hk => hk.1)⟩, ⟨by (with_reducible repeat (first | apply Kd.V_alloc | apply Kd.V_drewN | apply Kd.V_drew)); exact Kd.V_mono HO4.out (fun _ hk => hk.1)⟩, ⟨by repeat (first | (with_reducible first | exact HB.out | apply below_alloc | apply pw_below_drewN | apply below_drew1) | exact HB.out)⟩⟩
      ·replace c12 := Bool.eq_false_iff.mpr c12
       subst c12
       have H1 : (trail_In.j0 k l0 a1 a2 l3 l4 true) = some r := by rw [if_neg (show ¬ (false = true) by decide)] at H; exact H
       clear H
       have H := H1
       clear H1
       have H' := Aside0.mk H
       clear H
       go_wp2_with (first | ((with_reducible refine gate_dst (N := 31) rfl ?_); (try (refine gate_guard (by rfl) ?_; dsimp only)); refine Kd.N_lit (Kd.slice 5 (Kd.int .u8)) _ 23 ?hg (N' := 31) ?hd (xs := ([l0, l3] : List (List Int))) (inner := [.slice A0 l0.length c0, .slice A3 l3.length c3]) (ok := (fun k_ => ((P0_ k_ ∨ P3_ k_ ∨ P4_ k_) ∨ w.heap.size ≤ k_))) (okp := (fun k_ => ((P0_ k_ ∨ P3_ k_ ∨ P4_ k_) ∨ w.heap.size ≤ k_))) ?hr ?hp (fun _ hk => hk) ((show ∀ k_, w.heap.size ≤ k_ → (fun k_ => ((P0_ k_ ∨ P3_ k_ ∨ P4_ k_) ∨ w.heap.size ≤ k_)) k_ from fun k_ hk => (.inr (Nat.le_trans (below_size bel) hk))) _ (Nat.le_refl _)) (Below.refl _ _) (Nat.le_refl _) (by simp) ?_; (case hd => rfl); (case hg => rfl); (case hr => first | (go_simp; done) | (go_simp; rfl)); (case hp => exact (Reps.one (show Kd.FK (Kd.slice 5 (Kd.int .u8)) _ _ l0 [.slice A0 l0.length c0] from (Kd.FK_slice_mk (Kd.V_reads' (Kd.V_mono (ok' := (fun k_ => ((P0_ k_ ∨ P3_ k_ ∨ P4_ k_) ∨ w.heap.size ≤ k_))) (HO0.out) (fun k_ hk => hk))).2.1 (Kd.V_F (Kd.V_mono (ok' := (fun k_ => ((P0_ k_ ∨ P3_ k_ ∨ P4_ k_) ∨ w.heap.size ≤ k_))) (HO0.out) (fun k_ hk => hk))))) (Reps.one (show Kd.FK (Kd.slice 5 (Kd.int .u8)) _ _ l3 [.slice A3 l3.length c3] from (Kd.FK_slice_mk (Kd.V_reads' (Kd.V_mono (ok' := (fun k_ => ((P0_ k_ ∨ P3_ k_ ∨ P4_ k_) ∨ w.heap.size ≤ k_))) (HO3.out) (fun k_ hk => hk))).2.1 (Kd.V_F (Kd.V_mono (ok' := (fun k_ => ((P0_ k_ ∨ P3_ k_ ∨ P4_ k_) ∨ w.heap.size ≤ k_))) (HO3.out) (fun k_ hk => hk))))) (Reps.none _ _)))); intro v135 w19 ho20 hb hg_ hnew_; clear hg_ hnew_; (first | rw [← Ny134.out] at ho20 | (simp only [Int.reduceToNat] at ho20; rw [← Ny134.out] at ho20)); have n0_ := Aside0.mk (Kd.V_elder' (vL HO0.out) (Kd.N_base ho20) hb); have n1_ := Aside0.mk (Kd.V_elder' (vL HO3.out) (Kd.N_base ho20) hb); have n2_ := Aside0.mk (Kd.V_elder' (vL HO4.out) (Kd.N_base ho20) hb); have n3_ := Aside0.mk (Kd.N_lower ho20 (below_size bel)); have n4_ := Aside0.mk (below_step bel hb); clear HO0; clear HO3; clear HO4; clear HB; have HO0 := n0_; have HO3 := n1_; have HO4 := n2_; have HO136 := n3_; have HB := n4_; clear n0_ n1_ n2_ n3_ n4_; clear hb ho20; obtain ⟨Ao21, co21, eo21⟩ := Kd.N_slice HO136.out; subst eo21) | (go_at_call 58; (with_reducible refine (trail_digests.calls _ _ y134 false _ ?side1 ?side2 A11.out).mono ?_); (case side1 => exact cL (Kd.N_reads' HO136.out).2.2); (case side2 => exact (Kd.N_reads' HO136.out).2.1); rintro e w22 ⟨rfl, hb⟩; have n0_ := Aside0.mk (Kd.V_below (vL HO0.out) hb); have n1_ := Aside0.mk (Kd.V_below (vL HO3.out) hb); have n2_ := Aside0.mk (Kd.V_below (vL HO4.out) hb); have n3_ := Aside0.mk (Kd.N_below (nL HO136.out) hb); have n4_ := Aside0.mk (below_step bel hb); clear HO0; clear HO3; clear HO4; clear HO136; clear HB; have HO0 := n0_; have HO3 := n1_; have HO4 := n2_; have HO136 := n3_; have HB := n4_; clear n0_ n1_ n2_ n3_ n4_; (try clear hb); (try clear hb2); (try clear hk); (try clear hi)))
       go_meet
       case rel => exact ⟨_, (true), (by first | rfl | (simp; done) | (simp [*]; done)), H', ⟨by first | omega | exact Nat.le_refl _⟩, ⟨by (with_reducible repeat (first | apply Kd.V_alloc | apply Kd.V_drewN | apply Kd.V_drew)); exact Kd.V_mono HO0.out (fun _ hk => hk.1)⟩, ⟨by (with_reducible repeat (first | apply Kd.V_alloc | apply Kd.V_drewN | apply Kd.V_drew)); exact Kd.V_mono HO3.out (fun _ hk => hk.1)⟩, ⟨by (with_reducible repeat (first | apply Kd.V_alloc | apply Kd.V_drewN | apply Kd.V_drew)); exact Kd.V_mono HO4.out (fun _ hk => hk.1)⟩, ⟨by repeat (first | (with_reducible first | exact HB.out | apply below_alloc | apply pw_below_drewN | apply below_drew1) | exact HB.out)⟩⟩
 case rest =>
  clear HC6
  try clear c1
  try clear p2
  try clear c3
  try clear c4
  try clear c7
  try clear c7b0
  try clear c8
  try clear c8b0
  try clear c9
  try clear c9b0
  try clear c10
  try clear c10b0
  try clear c12
  obtain ⟨kq, x39_5, rfl, HA, HJ5, HO_0, HO_3, HO_4, HB⟩ := hcut
  cases kq with
  | zero => exact absurd HA.out (by simp [trail_In.j0])
  | succ kj5 =>
   have H := HA.out
   clear HA
   simp only [trail_In.j0] at H
   by_cases c23 : x39_5 = true
   ·subst c23
    have H1 : (some 1) = some r := by rw [if_pos rfl] at H; exact H
    clear H
    have H := H1
    clear H1
    obtain rfl := Option.some.inj H
    go_wp2
    go_ret
    exact ⟨by first | rfl | (simp [errW_none, errW_some] <;> rfl) | (simp [*, errW_none, errW_some] <;> rfl), by repeat (first | (with_reducible first | exact HB.out | apply below_alloc | apply pw_below_drewN | apply below_drew1) | exact HB.out)⟩
   ·replace c23 := Bool.eq_false_iff.mpr c23
    subst c23
    have H1 : ((trail_up.f kj5 a1 a2 l3 l4).bind fun bt139 => (if bt139.2 = true then ((trail_head.f kj5 a1 bt139.1).bind fun t143 => ((bytes_Equal.f t143 l0).bind fun t146 => (if t146 = true then (some 0) else (some 50)))) else (some 50))) = some r := by rw [if_neg (show ¬ (false = true) by decide)] at H; exact H
    clear H
    have H := H1
    clear H1
    replace H := Option.bind_eq_some_iff.mp H
    obtain ⟨⟨t139, t142⟩, A240, H⟩ := H
    replace H : (if t142 = true then ((trail_head.f kj5 a1 t139).bind fun t143 => ((bytes_Equal.f t143 l0).bind fun t146 => (if t146 = true then (some 0) else (some 50)))) else (some 50)) = some r := H
    have A24 := Aside0.mk A240
    clear A240
    by_cases c25 : t142 = true
    ·subst c25
     have H1 : ((trail_head.f kj5 a1 t139).bind fun t143 => ((bytes_Equal.f t143 l0).bind fun t146 => (if t146 = true then (some 0) else (some 50)))) = some r := by rw [if_pos rfl] at H; exact H
     clear H
     have H := H1
     clear H1
     replace H := Option.bind_eq_some_iff.mp H
     obtain ⟨t143, A260, H⟩ := H
     replace H : ((bytes_Equal.f t143 l0).bind fun t146 => (if t146 = true then (some 0) else (some 50))) = some r := H
     have A26 := Aside0.mk A260
     clear A260
     replace H := Option.bind_eq_some_iff.mp H
     obtain ⟨t146, A270, H⟩ := H
     replace H : (if t146 = true then (some 0) else (some 50)) = some r := H
     have A27 := Aside0.mk A270
     clear A270
     by_cases c28 : t146 = true
     ·subst c28
      have H1 : (some 0) = some r := by rw [if_pos rfl] at H; exact H
      clear H
      have H := H1
      clear H1
      obtain rfl := Option.some.inj H
      go_wp2_with (first | ((with_reducible refine gate_callee (f := 59) rfl ?_); refine goesL_ (some 45) rfl rfl Tryd.func59 (by kernel_rfl) rfl #[.int .i64 a1, .int .i64 a2, .slice A3 l3.length c3, .slice A4 l4.length c4] rfl eqA ?_; (with_reducible refine (trail_up.calls kj5 a1 a2 (fun k_ => ((P0_ k_ ∨ P3_ k_ ∨ P4_ k_) ∨ w.heap.size ≤ k_)) _ _ l3 (fun k_ => ((P0_ k_ ∨ P3_ k_ ∨ P4_ k_) ∨ w.heap.size ≤ k_)) _ _ l4 t139 true _ (Glb.of HG bel) ?side1 ?side2 A24.out).mono ?_); (case side1 => exact HO_3.out); (case side2 => exact HO_4.out); rintro e w29 ⟨v140, rfl, ho0, hb⟩; refine ⟨_, rfl, ?_⟩; have n0_ := Aside0.mk (Kd.V_below (vL HO_0.out) hb); have n1_ := Aside0.mk (Kd.V_below (vL HO_3.out) hb); have n2_ := Aside0.mk (Kd.V_below (vL HO_4.out) hb); have n3_ := Aside0.mk (Kd.V_lower (Kd.V_mono (ok' := fun k_ => ((P0_ k_ ∨ P3_ k_ ∨ P4_ k_) ∨ w.heap.size ≤ k_)) ho0 (fun k_ hk_ => Or.elim hk_ (fun hs_ => Or.elim hs_ (fun hs_ => hs_) (fun hs_ => hs_)) (fun hn_ => (.inr (Nat.le_trans (below_size bel) hn_))))) (below_size bel)); have n4_ := Aside0.mk (below_step bel hb); clear HO_0; clear HO_3; clear HO_4; clear HB; have HO_0 := n0_; have HO_3 := n1_; have HO_4 := n2_; have HO141 := n3_; have HB := n4_; clear n0_ n1_ n2_ n3_ n4_; (try clear hb); (try clear hb2); (try clear hk); (try clear hi); (try clear ho0); obtain ⟨Ao30, co30, eo30⟩ := Kd.V_slice HO141.out; subst eo30) | (go_at_call 49; (with_reducible refine (trail_head.calls kj5 a1 (fun k_ => ((P0_ k_ ∨ P3_ k_ ∨ P4_ k_) ∨ w.heap.size ≤ k_)) _ _ t139 t143 _ (Glb.of HG bel) ?side1 A26.out).mono ?_); (case side1 => exact HO141.out); rintro e w31 ⟨v144, rfl, ho0, hb⟩; have n0_ := Aside0.mk (Kd.V_elder' (vL HO_0.out) (Kd.R_base ho0) hb); have n1_ := Aside0.mk (Kd.V_elder' (vL HO_3.out) (Kd.R_base ho0) hb); have n2_ := Aside0.mk (Kd.V_elder' (vL HO_4.out) (Kd.R_base ho0) hb); have n3_ := Aside0.mk (Kd.V_elder' (vL HO141.out) (Kd.R_base ho0) hb); have n4_ := Aside0.mk (Kd.R_lower (Kd.R_newM (M := fun k_ => (w.heap.size ≤ k_)) (Kd.R_mono (ok' := fun k_ => True) ho0 (fun _ hk_ => trivial)) (below_size bel) (fun k_ h_ => h_)) (below_size bel)); have n5_ := Aside0.mk (below_step bel hb); clear HO_0; clear HO_3; clear HO_4; clear HO141; clear HB; have HO_0 := n0_; have HO_3 := n1_; have HO_4 := n2_; have HO141 := n3_; have HO145 := n4_; have HB := n5_; clear n0_ n1_ n2_ n3_ n4_ n5_; (try clear hb); (try clear hb2); (try clear hk); (try clear hi); (try clear ho0); obtain ⟨Ao32, co32, eo32⟩ := Kd.R_slice HO145.out; subst eo32) | (go_at_call 60; (with_reducible refine (bytes_Equal.calls _ _ t143 _ _ l0 true _ ?side1 ?side2 ?side3 ?side4 A27.out).mono ?_); (case side1 => exact cL (Kd.R_reads' HO145.out).2.2); (case side2 => exact (Kd.R_reads' HO145.out).2.1); (case side3 => exact cL (Kd.V_reads' HO_0.out).2.2); (case side4 => exact (Kd.V_reads' HO_0.out).2.1); rintro e w' ⟨rfl, ⟨nd, rfl⟩⟩))
      go_ret
      exact ⟨by first | rfl | (simp [errW_none, errW_some] <;> rfl) | (simp [*, errW_none, errW_some] <;> rfl), by repeat (first | (with_reducible first | exact HB.out | apply below_alloc | apply pw_below_drewN | apply below_drew1) | exact HB.out)⟩
     ·replace c28 := Bool.eq_false_iff.mpr c28
      subst c28
      have H1 : (some 50) = some r := by rw [if_neg (show ¬ (false = true) by decide)] at H; exact H
      clear H
      have H := H1
      clear H1
      obtain rfl := Option.some.inj H
      go_wp2_with (first | ((with_reducible refine gate_callee (f := 59) rfl ?_); refine goesL_ (some 45) rfl rfl Tryd.func59 (by kernel_rfl) rfl #[.int .i64 a1, .int .i64 a2, .slice A3 l3.length c3, .slice A4 l4.length c4] rfl eqA ?_; (with_reducible refine (trail_up.calls kj5 a1 a2 (fun k_ => ((P0_ k_ ∨ P3_ k_ ∨ P4_ k_) ∨ w.heap.size ≤ k_)) _ _ l3 (fun k_ => ((P0_ k_ ∨ P3_ k_ ∨ P4_ k_) ∨ w.heap.size ≤ k_)) _ _ l4 t139 true _ (Glb.of HG bel) ?side1 ?side2 A24.out).mono ?_); (case side1 => exact HO_3.out); (case side2 => exact HO_4.out); rintro e w33 ⟨v140, rfl, ho0, hb⟩; refine ⟨_, rfl, ?_⟩; have n0_ := Aside0.mk (Kd.V_below (vL HO_0.out) hb); have n1_ := Aside0.mk (Kd.V_below (vL HO_3.out) hb); have n2_ := Aside0.mk (Kd.V_below (vL HO_4.out) hb); have n3_ := Aside0.mk (Kd.V_lower (Kd.V_mono (ok' := fun k_ => ((P0_ k_ ∨ P3_ k_ ∨ P4_ k_) ∨ w.heap.size ≤ k_)) ho0 (fun k_ hk_ => Or.elim hk_ (fun hs_ => Or.elim hs_ (fun hs_ => hs_) (fun hs_ => hs_)) (fun hn_ => (.inr (Nat.le_trans (below_size bel) hn_))))) (below_size bel)); have n4_ := Aside0.mk (below_step bel hb); clear HO_0; clear HO_3; clear HO_4; clear HB; have HO_0 := n0_; have HO_3 := n1_; have HO_4 := n2_; have HO141 := n3_; have HB := n4_; clear n0_ n1_ n2_ n3_ n4_; (try clear hb); (try clear hb2); (try clear hk); (try clear hi); (try clear ho0); obtain ⟨Ao34, co34, eo34⟩ := Kd.V_slice HO141.out; subst eo34) | (go_at_call 49; (with_reducible refine (trail_head.calls kj5 a1 (fun k_ => ((P0_ k_ ∨ P3_ k_ ∨ P4_ k_) ∨ w.heap.size ≤ k_)) _ _ t139 t143 _ (Glb.of HG bel) ?side1 A26.out).mono ?_); (case side1 => exact HO141.out); rintro e w35 ⟨v144, rfl, ho0, hb⟩; have n0_ := Aside0.mk (Kd.V_elder' (vL HO_0.out) (Kd.R_base ho0) hb); have n1_ := Aside0.mk (Kd.V_elder' (vL HO_3.out) (Kd.R_base ho0) hb); have n2_ := Aside0.mk (Kd.V_elder' (vL HO_4.out) (Kd.R_base ho0) hb); have n3_ := Aside0.mk (Kd.V_elder' (vL HO141.out) (Kd.R_base ho0) hb); have n4_ := Aside0.mk (Kd.R_lower (Kd.R_newM (M := fun k_ => (w.heap.size ≤ k_)) (Kd.R_mono (ok' := fun k_ => True) ho0 (fun _ hk_ => trivial)) (below_size bel) (fun k_ h_ => h_)) (below_size bel)); have n5_ := Aside0.mk (below_step bel hb); clear HO_0; clear HO_3; clear HO_4; clear HO141; clear HB; have HO_0 := n0_; have HO_3 := n1_; have HO_4 := n2_; have HO141 := n3_; have HO145 := n4_; have HB := n5_; clear n0_ n1_ n2_ n3_ n4_ n5_; (try clear hb); (try clear hb2); (try clear hk); (try clear hi); (try clear ho0); obtain ⟨Ao36, co36, eo36⟩ := Kd.R_slice HO145.out; subst eo36) | (go_at_call 60; (with_reducible refine (bytes_Equal.calls _ _ t143 _ _ l0 false _ ?side1 ?side2 ?side3 ?side4 A27.out).mono ?_); (case side1 => exact cL (Kd.R_reads' HO145.out).2.2); (case side2 => exact (Kd.R_reads' HO145.out).2.1); (case side3 => exact cL (Kd.V_reads' HO_0.out).2.2); (case side4 => exact (Kd.V_reads' HO_0.out).2.1); rintro e w' ⟨rfl, ⟨nd, rfl⟩⟩))
      go_ret
      exact ⟨by first | rfl | (simp [errW_none, errW_some] <;> rfl) | (simp [*, errW_none, errW_some] <;> rfl), by repeat (first | (with_reducible first | exact HB.out | apply below_alloc | apply pw_below_drewN | apply below_drew1) | exact HB.out)⟩
    ·replace c25 := Bool.eq_false_iff.mpr c25
     subst c25
     have H1 : (some 50) = some r := by rw [if_neg (show ¬ (false = true) by decide)] at H; exact H
     clear H
     have H := H1
     clear H1
     obtain rfl := Option.some.inj H
     go_wp2_with (first | ((with_reducible refine gate_callee (f := 59) rfl ?_); refine goesL_ (some 45) rfl rfl Tryd.func59 (by kernel_rfl) rfl #[.int .i64 a1, .int .i64 a2, .slice A3 l3.length c3, .slice A4 l4.length c4] rfl eqA ?_; (with_reducible refine (trail_up.calls kj5 a1 a2 (fun k_ => ((P0_ k_ ∨ P3_ k_ ∨ P4_ k_) ∨ w.heap.size ≤ k_)) _ _ l3 (fun k_ => ((P0_ k_ ∨ P3_ k_ ∨ P4_ k_) ∨ w.heap.size ≤ k_)) _ _ l4 t139 false _ (Glb.of HG bel) ?side1 ?side2 A24.out).mono ?_); (case side1 => exact HO_3.out); (case side2 => exact HO_4.out); rintro e w37 ⟨v140, rfl, ho0, hb⟩; refine ⟨_, rfl, ?_⟩; have n0_ := Aside0.mk (Kd.V_below (vL HO_0.out) hb); have n1_ := Aside0.mk (Kd.V_below (vL HO_3.out) hb); have n2_ := Aside0.mk (Kd.V_below (vL HO_4.out) hb); have n3_ := Aside0.mk (Kd.V_lower (Kd.V_mono (ok' := fun k_ => ((P0_ k_ ∨ P3_ k_ ∨ P4_ k_) ∨ w.heap.size ≤ k_)) ho0 (fun k_ hk_ => Or.elim hk_ (fun hs_ => Or.elim hs_ (fun hs_ => hs_) (fun hs_ => hs_)) (fun hn_ => (.inr (Nat.le_trans (below_size bel) hn_))))) (below_size bel)); have n4_ := Aside0.mk (below_step bel hb); clear HO_0; clear HO_3; clear HO_4; clear HB; have HO_0 := n0_; have HO_3 := n1_; have HO_4 := n2_; have HO141 := n3_; have HB := n4_; clear n0_ n1_ n2_ n3_ n4_; (try clear hb); (try clear hb2); (try clear hk); (try clear hi); (try clear ho0)))
     go_ret
     exact ⟨by first | rfl | (simp [errW_none, errW_some] <;> rfl) | (simp [*, errW_none, errW_some] <;> rfl), by repeat (first | (with_reducible first | exact HB.out | apply below_alloc | apply pw_below_drewN | apply below_drew1) | exact HB.out)⟩

end Go.Proofs.YtcnpdapampclpaaDoor.PTq
