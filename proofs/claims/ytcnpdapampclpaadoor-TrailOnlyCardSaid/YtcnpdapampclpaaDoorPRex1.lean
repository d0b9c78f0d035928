-- Written by a program of this session, after the print of the kit.
import Derived.Test.YtcnpdapampclpaaDoorWC
import Derived.Test.YtcnpdapampclpaaDoorPRex0
namespace Go.Proofs.YtcnpdapampclpaaDoor.PRe
open Go.RowKit Go.Proofs.YtcnpdapampclpaaDoor.X Go.Proofs.YtcnpdapampclpaaDoor.PRa Go.Proofs.YtcnpdapampclpaaDoor.PRb Go.Proofs.YtcnpdapampclpaaDoorW.PrintWords Go.Proofs.YtcnpdapampclpaaDoorW.PrintLast Go.Proofs.YtcnpdapampclpaaDoorW.PrintMore
attribute [local go_sem] max2_int min2_int max_two min_two max_three min_three max_four min_four   -- for this text's walks alone
set_option linter.unusedVariables false
set_option linter.unusedSimpArgs false

/-! ### imprimaturref20_Up: function 36 -/
def imprimaturref20_Up.f : Nat → Int → Int → List Int → List (List Int) → Option (List Int × (List (List Int)) × Bool)
 | 0, _, _, _, _ => none
 | k + 1, a0, a1, l2, l3 => if a0 = 1 then (some (l2, ([] : List (List Int)), ((l3.length : Int) == 0))) else (if (l3.length : Int) = 0 then (some (([] : List Int), ([] : List (List Int)), false)) else ((imprimaturref06_Half.f k a0).bind fun t101 => (if 0 ≤ (wrap64 ((l3.length : Int) - 1)) then (if (wrap64 ((l3.length : Int) - 1)) < (l3.length : Int) then (if (wrap64 ((l3.length : Int) - 1)) ≤ (l3.length : Int) then ((some (l3.take ((wrap64 ((l3.length : Int) - 1)) : Int).toNat : List (List Int))).bind fun y103 => (if a1 < t101 then ((imprimaturref20_Up.f k t101 a1 l2 y103).bind fun bt107 => ((imprimaturref20_text.f 17 bt107.1 (rd_L1 l3 (wrap64 ((l3.length : Int) - 1)))).bind fun t114 => ((imprimaturref02_Hash256.f t114).bind fun t117 => (if bt107.2.1.length < 5864062014805 then (some (t117, (bt107.2.1 ++ [t114]), bt107.2.2)) else (none))))) else ((imprimaturref20_Up.f k (wrap64 (a0 - t101)) (wrap64 (a1 - t101)) l2 y103).bind fun bt123 => ((imprimaturref20_text.f 17 (rd_L1 l3 (wrap64 ((l3.length : Int) - 1))) bt123.1).bind fun t130 => ((imprimaturref02_Hash256.f t130).bind fun t133 => (if bt123.2.1.length < 5864062014805 then (some (t133, (bt123.2.1 ++ [t130]), bt123.2.2)) else (none))))))) else (none)) else (none)) else (none))))
theorem imprimaturref20_Up.mono_l : ∀ k, (∀ y0 y1 y2 y3, LeO (imprimaturref20_Up.f k y0 y1 y2 y3) (imprimaturref20_Up.f (k + 1) y0 y1 y2 y3))
 | 0 => fun _ _ _ _ r h => by simp [imprimaturref20_Up.f] at h
 | k + 1 => by
  have ih0 := imprimaturref20_Up.mono_l k
  ·intro y0 y1 y2 y3
   unfold imprimaturref20_Up.f
   repeat' first
   | (with_reducible exact ih0 _ _ _ _)
   | (with_reducible exact imprimaturref06_Half.mono _ _)
   | (with_reducible exact LeO.refl _)
   | (with_reducible exact LeO.none _)
   | (with_reducible refine LeO.ite ?_ ?_)
   | (with_reducible refine LeO.bind ?_ (fun _ => ?_))
   | exact ih0 _ _ _ _
   | exact imprimaturref06_Half.mono _ _
   | exact LeO.none _
   | refine LeO.ite ?_ ?_
   | refine LeO.bind ?_ (fun _ => ?_)
theorem imprimaturref20_Up.mono : ∀ a0 a1 a2 a3 k, LeO (imprimaturref20_Up.f k a0 a1 a2 a3) (imprimaturref20_Up.f (k + 1) a0 a1 a2 a3) := by
 intro a0 a1 a2 a3 k
 have ih0 := imprimaturref20_Up.mono_l k
 exact ih0 a0 a1 a2 a3
set_option maxHeartbeats 8000000 in
set_option maxRecDepth 100000 in
theorem imprimaturref20_Up.calls (k : Nat) : ∀ (a0 : Int) (a1 : Int) (P2_ : Nat → Prop) (A2 : Option Addr) (c2 : Nat) (l2 : List Int) (A3 : Option Addr) (c3 : Nat) (l3 : List (List Int)) (r1 : List Int) (r2 : List (List Int)) (r3 : Bool) (w : World) (hs2 : Kd.V (Kd.int .u8) 5 w w.heap.size (fun k_ => P2_ k_) (.slice A2 l2.length c2) l2) (hr3 : Kd.C (Kd.slice 5 (Kd.int .u8)) w A3 l3.length l3) (hc3 : l3.length ≤ c3) (h : imprimaturref20_Up.f k a0 a1 l2 l3 = some (r1, r2, r3)),
  Calls Tryd.prog 36 #[.int .i64 a0, .int .i64 a1, .slice A2 l2.length c2, .slice A3 l3.length c3] w fun e w' => ∃ v0_ v1_ : Value, e = .returned (.tuple #[v0_, v1_, .bool r3]) ∧ Kd.V (Kd.int .u8) 5 w' w.heap.size (fun k_ => (P2_ k_ ∨ w.heap.size ≤ k_) ∧ some k_ ≠ (v1_ : Value).ownBlock) v0_ r1 ∧ Kd.S (Kd.slice 5 (Kd.int .u8)) 23 w' w.heap.size (fun k_ => (w.heap.size ≤ k_)) v1_ r2 ∧ Below w.heap.size w w' := by
 induction k using Nat.strongRecOn with
 | _ k ih =>
 intro a0 a1 P2_ A2 c2 l2 A3 c3 l3 r1 r2 r3 w hs2 hr3 hc3 h
 cases k with
 | zero => exact absurd h (by simp [imprimaturref20_Up.f])
 | succ k =>
 simp only [imprimaturref20_Up.f] at h
 have HO2 := Aside0.mk (show Kd.V (Kd.int .u8) 5 w w.heap.size (fun k_ => (P2_ k_ ∨ w.heap.size ≤ k_)) (.slice A2 l2.length c2) l2 from Kd.V_mono hs2 (fun k_ hk => .inl hk))
 have HR3 := Aside0.mk hr3
 have HC3 := Aside0.mk hc3
 clear hr3 hc3
 have HB := Aside0.mk (Below.refl w.heap.size w)
 have H : (if a0 = 1 then (some (l2, ([] : List (List Int)), ((l3.length : Int) == 0))) else (if (l3.length : Int) = 0 then (some (([] : List Int), ([] : List (List Int)), false)) else ((imprimaturref06_Half.f k a0).bind fun t101 => (if 0 ≤ (wrap64 ((l3.length : Int) - 1)) then (if (wrap64 ((l3.length : Int) - 1)) < (l3.length : Int) then (if (wrap64 ((l3.length : Int) - 1)) ≤ (l3.length : Int) then ((some (l3.take ((wrap64 ((l3.length : Int) - 1)) : Int).toNat : List (List Int))).bind fun y103 => (if a1 < t101 then ((imprimaturref20_Up.f k t101 a1 l2 y103).bind fun bt107 => ((imprimaturref20_text.f 17 bt107.1 (rd_L1 l3 (wrap64 ((l3.length : Int) - 1)))).bind fun t114 => ((imprimaturref02_Hash256.f t114).bind fun t117 => (if bt107.2.1.length < 5864062014805 then (some (t117, (bt107.2.1 ++ [t114]), bt107.2.2)) else (none))))) else ((imprimaturref20_Up.f k (wrap64 (a0 - t101)) (wrap64 (a1 - t101)) l2 y103).bind fun bt123 => ((imprimaturref20_text.f 17 (rd_L1 l3 (wrap64 ((l3.length : Int) - 1))) bt123.1).bind fun t130 => ((imprimaturref02_Hash256.f t130).bind fun t133 => (if bt123.2.1.length < 5864062014805 then (some (t133, (bt123.2.1 ++ [t130]), bt123.2.2)) else (none))))))) else (none)) else (none)) else (none))))) = some (r1, r2, r3) := h
 clear h
 by_cases c5 : a0 = 1
 ·rw [if_pos c5] at H
  have c5b0 : (a0 == 1) = true := beq_iff_eq.mpr c5
  have c5b1 : (a0 != 1) = false := bne_eq_false_iff_eq.mpr c5
  clear c5
  simp only [Option.some.injEq, Prod.mk.injEq] at H
  obtain ⟨rfl, rfl, rfl⟩ := H
  go_enter Tryd.func36, Tryd.ntmps36
  go_wp2
  go_ret3
  exact ⟨_, _, by first | rfl | (simp [errW_none, errW_some] <;> rfl) | (simp [*, errW_none, errW_some] <;> rfl), by (with_reducible repeat (first | apply Kd.V_alloc | apply Kd.V_drewN | apply Kd.V_drew)); exact Kd.V_mono HO2.out (fun _ hk => ⟨hk, (by simp [Value.ownBlock])⟩), by first | exact Kd.S_nil _ _ _ _ _ | exact Kd.N_nil _ _ _ _ _ | exact Kd.V_nil _ _ _ _ _ | exact Kd.Q_nil _ _ _ _ _ | exact Kd.R_nil _ _ _ _ _, by repeat (first | (with_reducible first | exact HB.out | apply below_alloc | apply pw_below_drewN | apply below_drew1) | exact HB.out)⟩
 ·rw [if_neg c5] at H
  have c5b0 : (a0 == 1) = false := beq_eq_false_iff_ne.mpr c5
  have c5b1 : (a0 != 1) = true := bne_iff_ne.mpr c5
  by_cases c6 : (l3.length : Int) = 0
  ·rw [if_pos c6] at H
   have c6b0 : ((l3.length : Int) == 0) = true := beq_iff_eq.mpr c6
   have c6b1 : ((l3.length : Int) != 0) = false := bne_eq_false_iff_eq.mpr c6
   clear c6
   simp only [Option.some.injEq, Prod.mk.injEq] at H
   obtain ⟨rfl, rfl, rfl⟩ := H
   go_enter Tryd.func36, Tryd.ntmps36
   go_wp2
   go_ret3
   exact ⟨_, _, by first | rfl | (simp [errW_none, errW_some] <;> rfl) | (simp [*, errW_none, errW_some] <;> rfl), Kd.V_nil _ _ _ _ _, by first | exact Kd.S_nil _ _ _ _ _ | exact Kd.N_nil _ _ _ _ _ | exact Kd.V_nil _ _ _ _ _ | exact Kd.Q_nil _ _ _ _ _ | exact Kd.R_nil _ _ _ _ _, by repeat (first | (with_reducible first | exact HB.out | apply below_alloc | apply pw_below_drewN | apply below_drew1) | exact HB.out)⟩
  ·rw [if_neg c6] at H
   have c6b0 : ((l3.length : Int) == 0) = false := beq_eq_false_iff_ne.mpr c6
   have c6b1 : ((l3.length : Int) != 0) = true := bne_iff_ne.mpr c6
   have c6b2 : ¬ (l3 = []) := fun h_ => c6 (by rw [h_]; rfl)
   replace H := Option.bind_eq_some_iff.mp H
   obtain ⟨t101, A70, H⟩ := H
   replace H : (if 0 ≤ (wrap64 ((l3.length : Int) - 1)) then (if (wrap64 ((l3.length : Int) - 1)) < (l3.length : Int) then (if (wrap64 ((l3.length : Int) - 1)) ≤ (l3.length : Int) then ((some (l3.take ((wrap64 ((l3.length : Int) - 1)) : Int).toNat : List (List Int))).bind fun y103 => (if a1 < t101 then ((imprimaturref20_Up.f k t101 a1 l2 y103).bind fun bt107 => ((imprimaturref20_text.f 17 bt107.1 (rd_L1 l3 (wrap64 ((l3.length : Int) - 1)))).bind fun t114 => ((imprimaturref02_Hash256.f t114).bind fun t117 => (if bt107.2.1.length < 5864062014805 then (some (t117, (bt107.2.1 ++ [t114]), bt107.2.2)) else (none))))) else ((imprimaturref20_Up.f k (wrap64 (a0 - t101)) (wrap64 (a1 - t101)) l2 y103).bind fun bt123 => ((imprimaturref20_text.f 17 (rd_L1 l3 (wrap64 ((l3.length : Int) - 1))) bt123.1).bind fun t130 => ((imprimaturref02_Hash256.f t130).bind fun t133 => (if bt123.2.1.length < 5864062014805 then (some (t133, (bt123.2.1 ++ [t130]), bt123.2.2)) else (none))))))) else (none)) else (none)) else (none)) = some (r1, r2, r3) := H
   have A7 := Aside0.mk A70
   clear A70
   obtain ⟨ji8, hji8⟩ : ∃ j_ : Int, (wrap64 ((l3.length : Int) - 1)) = j_ := ⟨_, rfl⟩
   replace H : (if 0 ≤ (ji8) then (if (ji8) < (l3.length : Int) then (if (ji8) ≤ (l3.length : Int) then ((some (l3.take ((ji8) : Int).toNat : List (List Int))).bind fun y103 => (if a1 < t101 then ((imprimaturref20_Up.f k t101 a1 l2 y103).bind fun bt107 => ((imprimaturref20_text.f 17 bt107.1 (rd_L1 l3 (ji8))).bind fun t114 => ((imprimaturref02_Hash256.f t114).bind fun t117 => (if bt107.2.1.length < 5864062014805 then (some (t117, (bt107.2.1 ++ [t114]), bt107.2.2)) else (none))))) else ((imprimaturref20_Up.f k (wrap64 (a0 - t101)) (wrap64 (a1 - t101)) l2 y103).bind fun bt123 => ((imprimaturref20_text.f 17 (rd_L1 l3 (ji8)) bt123.1).bind fun t130 => ((imprimaturref02_Hash256.f t130).bind fun t133 => (if bt123.2.1.length < 5864062014805 then (some (t133, (bt123.2.1 ++ [t130]), bt123.2.2)) else (none))))))) else (none)) else (none)) else (none)) = some (r1, r2, r3) := by first | (rw [hji8] at H; exact H) | (simp only [hji8] at H ⊢; exact H)
   (try rw [hji8] at A7)
   have hji8w : (IntKind.i64.wrap ((l3.length : Int) - 1)) = ji8 := (i64_w _).trans hji8
   by_cases c9 : 0 ≤ (ji8)
   ·rw [if_pos c9] at H
    have c9b0 : decide (0 ≤ (ji8)) = true := decide_eq_true c9
    clear c9
    by_cases c10 : (ji8) < (l3.length : Int)
    ·rw [if_pos c10] at H
     have c10b0 : decide ((ji8) < (l3.length : Int)) = true := decide_eq_true c10
     clear c10
     have c11b0 := eq_true (of_decide_eq_true asm_ : 0 ≤ (ji8))
     by_cases c12 : (ji8) ≤ (l3.length : Int)
     ·rw [if_pos c12] at H
      have c12b0 := eq_true c12
      have c12b1 : decide ((ji8) ≤ (l3.length : Int)) = true := decide_eq_true c12
      clear c12
      obtain ⟨y103, hy103⟩ : ∃ y_ : List (List Int), y_ = (l3.take ((ji8) : Int).toNat) := ⟨_, rfl⟩
      replace H : (if a1 < t101 then ((imprimaturref20_Up.f k t101 a1 l2 y103).bind fun bt107 => ((imprimaturref20_text.f 17 bt107.1 (rd_L1 l3 (ji8))).bind fun t114 => ((imprimaturref02_Hash256.f t114).bind fun t117 => (if bt107.2.1.length < 5864062014805 then (some (t117, (bt107.2.1 ++ [t114]), bt107.2.2)) else (none))))) else ((imprimaturref20_Up.f k (wrap64 (a0 - t101)) (wrap64 (a1 - t101)) l2 y103).bind fun bt123 => ((imprimaturref20_text.f 17 (rd_L1 l3 (ji8)) bt123.1).bind fun t130 => ((imprimaturref02_Hash256.f t130).bind fun t133 => (if bt123.2.1.length < 5864062014805 then (some (t133, (bt123.2.1 ++ [t130]), bt123.2.2)) else (none)))))) = some (r1, r2, r3) := hyA hy103 H
      have Ny103 := Aside0.mk hy103
      clear hy103
      by_cases c13 : a1 < t101
      ·rw [if_pos c13] at H
       have c13b0 : decide (a1 < t101) = true := decide_eq_true c13
       clear c13
       replace H := Option.bind_eq_some_iff.mp H
       obtain ⟨⟨t107, t110, t113⟩, A140, H⟩ := H
       replace H : ((imprimaturref20_text.f 17 t107 (rd_L1 l3 (ji8))).bind fun t114 => ((imprimaturref02_Hash256.f t114).bind fun t117 => (if t110.length < 5864062014805 then (some (t117, (t110 ++ [t114]), t113)) else (none)))) = some (r1, r2, r3) := H
       have A14 := Aside0.mk A140
       clear A140
       replace H := Option.bind_eq_some_iff.mp H
       obtain ⟨t114, A150, H⟩ := H
       replace H : ((imprimaturref02_Hash256.f t114).bind fun t117 => (if t110.length < 5864062014805 then (some (t117, (t110 ++ [t114]), t113)) else (none))) = some (r1, r2, r3) := H
       have A15 := Aside0.mk A150
       clear A150
       replace H := Option.bind_eq_some_iff.mp H
       obtain ⟨t117, A160, H⟩ := H
       replace H : (if t110.length < 5864062014805 then (some (t117, (t110 ++ [t114]), t113)) else (none)) = some (r1, r2, r3) := H
       have A16 := Aside0.mk A160
       clear A160
       by_cases c17 : t110.length < 5864062014805
       ·rw [if_pos c17] at H
        have LMc17 := Aside0.mk c17
        clear c17
        obtain ⟨y120, hy120⟩ : ∃ y_ : List (List Int), y_ = (t110 ++ [t114]) := ⟨_, rfl⟩
        replace H : (some (t117, y120, t113)) = some (r1, r2, r3) := hyA hy120 H
        have Ny120 := Aside0.mk hy120
        clear hy120
        simp only [Option.some.injEq, Prod.mk.injEq] at H
        obtain ⟨rfl, rfl, rfl⟩ := H
        go_enter Tryd.func36, Tryd.ntmps36
        go_wp2_with (first | ((with_reducible refine gate_callee (f := 51) rfl ?_); refine goesL_ (some 32) rfl rfl Tryd.func51 (by kernel_rfl) rfl #[.int .i64 a0] rfl eqA ?_; (with_reducible refine (imprimaturref06_Half.calls k a0 t101 _ A7.out).mono ?_); rintro e w' ⟨rfl, ⟨nd, rfl⟩⟩; refine ⟨_, rfl, ?_⟩; have p102 : 0 ≤ ((ji8) : Int) := of_decide_eq_true asm_; have q102 : (ji8) < (l3.length : Int) := of_decide_eq_true asm_; obtain ⟨ad102, A102_0, c102_0, e102, hx102_0, hl102_0, hi102_0⟩ := at_L1 HR3.out (ji8) p102 q102; cases e102; have HR102_0 := Aside0.mk hi102_0; have HC102_0 := Aside0.mk hl102_0; clear hi102_0 hl102_0; replace p102 := eq_true p102; replace q102 := eq_true q102; have q18 : ((ji8) : Int) ≤ ((l3.length : Int) : Int) := of_decide_eq_true asm_; obtain ⟨i018, hi018, _, hsz18, _⟩ := info_parts info23; have hroom18 : l3.length ≤ c3 := HC3.out; have hC18 : Kd.C (Kd.slice 5 (Kd.int .u8)) _ (some ad102) l3.length l3 := HR3.out; have hcut18 := cut_to (P := Tryd.prog) 22 23 .i64 Tryd.underlying22 hi018 (some ad102) l3.length c3 (ji8) (of_decide_eq_true asm_) q18 hroom18; have hr18 := Kd.C_take (m := ((ji8) : Int).toNat) hC18 (by omega); have hy18 : y103.length = ((ji8) : Int).toNat := (by rw [Ny103.out, List.length_take]; omega); rw [← Ny103.out] at hr18; rw [← hy18] at hcut18; have HR106 := Aside0.mk hr18; have HC106 := Aside0.mk (show y103.length ≤ c3 from by omega); clear hr18 hC18 hroom18 hi018 hsz18; have KY18 := Aside0.mk hy18; clear hy18; replace q18 := eq_true q18) | ((with_reducible refine gate_callee (f := 36) rfl ?_); refine goesL_ (some 52) rfl rfl Tryd.func36 (by kernel_rfl) rfl #[.int .i64 t101, .int .i64 a1, .slice A2 l2.length c2, .slice (some ad102) y103.length c3] rfl eqA ?_; (with_reducible refine (ih k (by omega) t101 a1 (fun k_ => (P2_ k_ ∨ w.heap.size ≤ k_)) _ _ l2 _ _ y103 t107 t110 t113 _ ?side1 ?side2 ?side3 A14.out).mono ?_); (case side1 => exact HO2.out); (case side2 => exact cL HR106.out); (case side3 => exact HC106.out); rintro e w19 ⟨v108, v111, rfl, ho0, ho1, hb⟩; refine ⟨_, rfl, ?_⟩; have n0_ := Aside0.mk (Kd.V_elder' (vL HO2.out) (Kd.S_base ho1) hb); have n1_ := Aside0.mk (Kd.V_lower (Kd.V_mono (ok' := fun k_ => (P2_ k_ ∨ w.heap.size ≤ k_) ∧ some k_ ≠ (v111 : Value).ownBlock) ho0 (fun k_ hk_ => ⟨Or.elim hk_.1 (fun hs_ => hs_) (fun hn_ => (.inr (Nat.le_trans (below_size bel) hn_))), hk_.2⟩)) (below_size bel)); have n2_ := Aside0.mk (Kd.S_lower (Kd.S_newM (M := fun k_ => (w.heap.size ≤ k_)) (Kd.S_mono (ok' := fun k_ => True) ho1 (fun _ hk_ => trivial)) (below_size bel) (fun k_ h_ => h_)) (below_size bel)); have n3_ := Aside0.mk (below_step bel hb); clear HO2; clear HB; have HO2 := n0_; have HO109 := n1_; have HO112 := n2_; have HB := n3_; clear n0_ n1_ n2_ n3_; (try clear hb); (try clear hb2); (try clear hk); (try clear hi); (try clear ho0); (try clear ho1); obtain ⟨Ao20, co20, eo20⟩ := Kd.V_slice HO109.out; subst eo20) | ((with_reducible refine gate_callee (f := 52) rfl ?_); refine goesL_ (some 58) rfl rfl Tryd.func52 (by kernel_rfl) rfl #[.int .u8 17, .slice Ao20 t107.length co20, .slice A102_0 (rd_L1 l3 (ji8)).length c102_0] rfl (by (try simp only [List.map_toArray, List.map_cons, List.map_nil]); first | done | (simp only [hji8]; rfl) | rfl | (simp only [List.length_drop, List.length_take]; rfl)) ?_; (with_reducible refine (imprimaturref20_text.calls 17 _ _ t107 _ _ (rd_L1 l3 (ji8)) t114 _ ?side1 ?side2 ?side3 ?side4 A15.out).mono ?_); (case side1 => exact cL (Kd.V_reads' HO109.out).2.2); (case side2 => exact (Kd.V_reads' HO109.out).2.1); (case side3 => exact cL (Kd.C_below HR102_0.out HB.out)); (case side4 => exact HC102_0.out); rintro e w21 ⟨v115, rfl, ho0, hb⟩; refine ⟨_, rfl, ?_⟩; have n0_ := Aside0.mk (Kd.V_elder' (vL HO2.out) (Kd.R_base ho0) hb); have n1_ := Aside0.mk (Kd.V_elder' (vL HO109.out) (Kd.R_base ho0) hb); have n2_ := Aside0.mk (Kd.S_elder' (sL HO112.out) (Kd.R_base ho0) hb); have n3_ := Aside0.mk (Kd.R_lower (Kd.R_newM (M := fun k_ => (w.heap.size ≤ k_)) ho0 (below_size bel) (fun k_ h_ => h_)) (below_size bel)); have n4_ := Aside0.mk (below_step bel hb); clear HO2; clear HO109; clear HO112; clear HB; have HO2 := n0_; have HO109 := n1_; have HO112 := n2_; have HO116 := n3_; have HB := n4_; clear n0_ n1_ n2_ n3_ n4_; (try clear hb); (try clear hb2); (try clear hk); (try clear hi); (try clear ho0); obtain ⟨Ao22, co22, eo22⟩ := Kd.R_slice HO116.out; subst eo22) | ((with_reducible refine gate_callee (f := 50) rfl ?_); refine goesL_ (some 60) rfl rfl Tryd.func50 (by kernel_rfl) rfl #[.slice Ao22 t114.length co22] rfl eqA ?_; (with_reducible refine (imprimaturref02_Hash256.calls _ _ t114 t117 _ ?side1 ?side2 A16.out).mono ?_); (case side1 => exact cL (Kd.R_reads' HO116.out).2.2); (case side2 => exact (Kd.R_reads' HO116.out).2.1); rintro e w23 ⟨v118, rfl, ho0, hb⟩; refine ⟨_, rfl, ?_⟩; have n0_ := Aside0.mk (Kd.V_elder' (vL HO2.out) (Kd.R_base ho0) hb); have n1_ := Aside0.mk (Kd.V_elder' (vL HO109.out) (Kd.R_base ho0) hb); have n2_ := Aside0.mk (Kd.S_elder' (sL HO112.out) (Kd.R_base ho0) hb); have n3_ := Aside0.mk (Kd.R_elder' (rL HO116.out) (Kd.R_base ho0) hb); have n4_ := Aside0.mk (Kd.R_lower (Kd.R_new' (Kd.R_newM (M := fun k_ => (w.heap.size ≤ k_)) ho0 (below_size bel) (fun k_ h_ => h_)) (Kd.R_lt (rL HO116.out))) (below_size bel)); have n5_ := Aside0.mk (below_step bel hb); clear HO2; clear HO109; clear HO112; clear HO116; clear HB; have HO2 := n0_; have HO109 := n1_; have HO112 := n2_; have HO116 := n3_; have HO119 := n4_; have HB := n5_; clear n0_ n1_ n2_ n3_ n4_ n5_; (try clear hb); (try clear hb2); (try clear hk); (try clear hi); (try clear ho0)) | ((with_reducible refine gate_builtin (b := .append) (xs := #[.tmp 61, .tmp 63]) rfl ?_); at_builtin; refine Kd.S_append (Kd.slice 5 (Kd.int .u8)) (w0 := w) w.heap.size rfl (.tmp 61) (.tmp 63) 22 23 (.slice none 0 0) 24 rfl Tryd.underlying22 info23 rfl (by decide) (by omega) v111 t110 t114 [.slice Ao22 t114.length co22] (fun k_ => (w.heap.size ≤ k_) ∧ some k_ ≠ (v118 : Value).ownBlock) (fun k_ => some k_ = (.slice Ao22 t114.length co22 : Value).ownBlock) rfl rfl ?aP (fun k_ hk_ => ((Kd.R_mono (ok' := fun k_ => ((fun k_ => (w.heap.size ≤ k_) ∧ some k_ ≠ (v118 : Value).ownBlock)) k_ ∧ some k_ ≠ (v111 : Value).ownBlock) (Kd.R_apart' (HO116.out) (Kd.S_typed HO112.out) (by decide)) (fun k_ hk => ⟨⟨hk.1.1.1, hk.1.2⟩, hk.2⟩))).1 k_ hk_.symm) ?aF ?aO ?aB ?aS ?aL ?_; (case aP => exact Kd.M_row (Kd.R_mono (Kd.R_tight rfl (Kd.R_mono (ok' := fun k_ => ((fun k_ => (w.heap.size ≤ k_) ∧ some k_ ≠ (v118 : Value).ownBlock)) k_ ∧ some k_ ≠ (v111 : Value).ownBlock) (Kd.R_apart' (HO116.out) (Kd.S_typed HO112.out) (by decide)) (fun k_ hk => ⟨⟨hk.1.1.1, hk.1.2⟩, hk.2⟩))) (fun _ h_ => h_))); (case aB => exact bel); (case aF => exact (fun k_ hk => ⟨(Nat.le_trans (below_size bel) hk), Kd.fresh' (Kd.R_lt (rL HO119.out)) k_ hk⟩)); (case aO => exact (by (with_reducible repeat (first | apply Kd.S_alloc | apply Kd.S_drewN | apply Kd.S_drew)); exact Kd.S_mono HO112.out (fun k_ hk => ⟨⟨hk.1.1.1, hk.2⟩, fun e_ => hk.1.2 e_⟩))); (case aS => exact (below_size bel)); (case aL => have := LMc17.out; omega); intro v121 w24 ho hb hg hat; rw [← Ny120.out] at ho; have n0_ := Aside0.mk (Kd.V_afterv (ok := (fun k_ => (P2_ k_ ∨ w.heap.size ≤ k_) ∧ some k_ ≠ (.slice Ao22 t114.length co22 : Value).ownBlock ∧ some k_ ≠ (v118 : Value).ownBlock)) (by (with_reducible repeat (first | apply Kd.V_alloc | apply Kd.V_drewN | apply Kd.V_drew)); exact Kd.V_mono HO2.out (fun _ hk => ⟨⟨hk.1.1.1, ⟨hk.1.2, hk.2⟩⟩, hk.1.1.2⟩)) hg hat); have n1_ := Aside0.mk (Kd.V_afterv (ok := (fun k_ => (P2_ k_ ∨ w.heap.size ≤ k_) ∧ some k_ ≠ (.slice Ao22 t114.length co22 : Value).ownBlock ∧ some k_ ≠ (v118 : Value).ownBlock)) (by (with_reducible repeat (first | apply Kd.V_alloc | apply Kd.V_drewN | apply Kd.V_drew)); exact Kd.V_mono HO109.out (fun _ hk => ⟨⟨hk.1.1.1, ⟨hk.1.2, hk.2⟩⟩, hk.1.1.2⟩)) hg hat); have n2_ := Aside0.mk (Kd.R_over' (rL HO119.out) (Kd.S_typed (sL HO112.out)) (by decide) hg); have n3_ := Aside0.mk (hb); have n4_ := Aside0.mk (ho); clear HO2; clear HO109; clear HO119; clear HB; clear HO112; clear HO116; have HO2 := n0_; have HO109 := n1_; have HO119 := n2_; have HB := n3_; have HO122 := n4_; clear n0_ n1_ n2_ n3_ n4_; clear ho hb hg hat))
        go_ret3
        exact ⟨_, _, by first | rfl | (simp [errW_none, errW_some] <;> rfl) | (simp only [← hji8]; first | rfl | (simp [errW_none, errW_some] <;> rfl)) | (simp [*, errW_none, errW_some] <;> rfl), Kd.V_mono (Kd.R_V (base' := w.heap.size) (Kd.R_apart' HO119.out (Kd.S_typed HO122.out) (by decide))) (fun k_ hk => ⟨.inr hk.1.1.1, hk.2⟩), by (with_reducible repeat (first | apply Kd.S_alloc | apply Kd.S_drewN | apply Kd.S_drew)); exact Kd.S_mono HO122.out (fun _ hk => hk.1), by repeat (first | (with_reducible first | exact HB.out | apply below_alloc | apply pw_below_drewN | apply below_drew1) | exact HB.out)⟩
       ·rw [if_neg c17] at H
        exact absurd H (by simp)
      ·rw [if_neg c13] at H
       have c13b0 : decide (a1 < t101) = false := decide_eq_false c13
       clear c13
       replace H := Option.bind_eq_some_iff.mp H
       obtain ⟨⟨t123, t126, t129⟩, A250, H⟩ := H
       replace H : ((imprimaturref20_text.f 17 (rd_L1 l3 (ji8)) t123).bind fun t130 => ((imprimaturref02_Hash256.f t130).bind fun t133 => (if t126.length < 5864062014805 then (some (t133, (t126 ++ [t130]), t129)) else (none)))) = some (r1, r2, r3) := H
       have A25 := Aside0.mk A250
       clear A250
       replace H := Option.bind_eq_some_iff.mp H
       obtain ⟨t130, A260, H⟩ := H
       replace H : ((imprimaturref02_Hash256.f t130).bind fun t133 => (if t126.length < 5864062014805 then (some (t133, (t126 ++ [t130]), t129)) else (none))) = some (r1, r2, r3) := H
       have A26 := Aside0.mk A260
       clear A260
       replace H := Option.bind_eq_some_iff.mp H
       obtain ⟨t133, A270, H⟩ := H
       replace H : (if t126.length < 5864062014805 then (some (t133, (t126 ++ [t130]), t129)) else (none)) = some (r1, r2, r3) := H
       have A27 := Aside0.mk A270
       clear A270
       by_cases c28 : t126.length < 5864062014805
       ·rw [if_pos c28] at H
        have LMc28 := Aside0.mk c28
        clear c28
        obtain ⟨y136, hy136⟩ : ∃ y_ : List (List Int), y_ = (t126 ++ [t130]) := ⟨_, rfl⟩
        replace H : (some (t133, y136, t129)) = some (r1, r2, r3) := hyA hy136 H
        have Ny136 := Aside0.mk hy136
        clear hy136
        simp only [Option.some.injEq, Prod.mk.injEq] at H
        obtain ⟨rfl, rfl, rfl⟩ := H
        go_enter Tryd.func36, Tryd.ntmps36
        go_wp2_with (first | ((with_reducible refine gate_callee (f := 51) rfl ?_); refine goesL_ (some 32) rfl rfl Tryd.func51 (by kernel_rfl) rfl #[.int .i64 a0] rfl eqA ?_; (with_reducible refine (imprimaturref06_Half.calls k a0 t101 _ A7.out).mono ?_); rintro e w' ⟨rfl, ⟨nd, rfl⟩⟩; refine ⟨_, rfl, ?_⟩; have p102 : 0 ≤ ((ji8) : Int) := of_decide_eq_true asm_; have q102 : (ji8) < (l3.length : Int) := of_decide_eq_true asm_; obtain ⟨ad102, A102_0, c102_0, e102, hx102_0, hl102_0, hi102_0⟩ := at_L1 HR3.out (ji8) p102 q102; cases e102; have HR102_0 := Aside0.mk hi102_0; have HC102_0 := Aside0.mk hl102_0; clear hi102_0 hl102_0; replace p102 := eq_true p102; replace q102 := eq_true q102; have q29 : ((ji8) : Int) ≤ ((l3.length : Int) : Int) := of_decide_eq_true asm_; obtain ⟨i029, hi029, _, hsz29, _⟩ := info_parts info23; have hroom29 : l3.length ≤ c3 := HC3.out; have hC29 : Kd.C (Kd.slice 5 (Kd.int .u8)) _ (some ad102) l3.length l3 := HR3.out; have hcut29 := cut_to (P := Tryd.prog) 22 23 .i64 Tryd.underlying22 hi029 (some ad102) l3.length c3 (ji8) (of_decide_eq_true asm_) q29 hroom29; have hr29 := Kd.C_take (m := ((ji8) : Int).toNat) hC29 (by omega); have hy29 : y103.length = ((ji8) : Int).toNat := (by rw [Ny103.out, List.length_take]; omega); rw [← Ny103.out] at hr29; rw [← hy29] at hcut29; have HR106 := Aside0.mk hr29; have HC106 := Aside0.mk (show y103.length ≤ c3 from by omega); clear hr29 hC29 hroom29 hi029 hsz29; have KY29 := Aside0.mk hy29; clear hy29; replace q29 := eq_true q29) | ((with_reducible refine gate_callee (f := 36) rfl ?_); refine goesL_ (some 75) rfl rfl Tryd.func36 (by kernel_rfl) rfl #[.int .i64 (wrap64 (a0 - t101)), .int .i64 (wrap64 (a1 - t101)), .slice A2 l2.length c2, .slice (some ad102) y103.length c3] rfl eqA ?_; (with_reducible refine (ih k (by omega) (wrap64 (a0 - t101)) (wrap64 (a1 - t101)) (fun k_ => (P2_ k_ ∨ w.heap.size ≤ k_)) _ _ l2 _ _ y103 t123 t126 t129 _ ?side1 ?side2 ?side3 A25.out).mono ?_); (case side1 => exact HO2.out); (case side2 => exact cL HR106.out); (case side3 => exact HC106.out); rintro e w30 ⟨v124, v127, rfl, ho0, ho1, hb⟩; refine ⟨_, rfl, ?_⟩; have n0_ := Aside0.mk (Kd.V_elder' (vL HO2.out) (Kd.S_base ho1) hb); have n1_ := Aside0.mk (Kd.V_lower (Kd.V_mono (ok' := fun k_ => (P2_ k_ ∨ w.heap.size ≤ k_) ∧ some k_ ≠ (v127 : Value).ownBlock) ho0 (fun k_ hk_ => ⟨Or.elim hk_.1 (fun hs_ => hs_) (fun hn_ => (.inr (Nat.le_trans (below_size bel) hn_))), hk_.2⟩)) (below_size bel)); have n2_ := Aside0.mk (Kd.S_lower (Kd.S_newM (M := fun k_ => (w.heap.size ≤ k_)) (Kd.S_mono (ok' := fun k_ => True) ho1 (fun _ hk_ => trivial)) (below_size bel) (fun k_ h_ => h_)) (below_size bel)); have n3_ := Aside0.mk (below_step bel hb); clear HO2; clear HB; have HO2 := n0_; have HO125 := n1_; have HO128 := n2_; have HB := n3_; clear n0_ n1_ n2_ n3_; (try clear hb); (try clear hb2); (try clear hk); (try clear hi); (try clear ho0); (try clear ho1); obtain ⟨Ao31, co31, eo31⟩ := Kd.V_slice HO125.out; subst eo31) | ((with_reducible refine gate_callee (f := 52) rfl ?_); refine goesL_ (some 81) rfl rfl Tryd.func52 (by kernel_rfl) rfl #[.int .u8 17, .slice A102_0 (rd_L1 l3 (ji8)).length c102_0, .slice Ao31 t123.length co31] rfl (by (try simp only [List.map_toArray, List.map_cons, List.map_nil]); first | done | (simp only [hji8]; rfl) | rfl | (simp only [List.length_drop, List.length_take]; rfl)) ?_; (with_reducible refine (imprimaturref20_text.calls 17 _ _ (rd_L1 l3 (ji8)) _ _ t123 t130 _ ?side1 ?side2 ?side3 ?side4 A26.out).mono ?_); (case side1 => exact cL (Kd.C_below HR102_0.out HB.out)); (case side2 => exact HC102_0.out); (case side3 => exact cL (Kd.V_reads' HO125.out).2.2); (case side4 => exact (Kd.V_reads' HO125.out).2.1); rintro e w32 ⟨v131, rfl, ho0, hb⟩; refine ⟨_, rfl, ?_⟩; have n0_ := Aside0.mk (Kd.V_elder' (vL HO2.out) (Kd.R_base ho0) hb); have n1_ := Aside0.mk (Kd.V_elder' (vL HO125.out) (Kd.R_base ho0) hb); have n2_ := Aside0.mk (Kd.S_elder' (sL HO128.out) (Kd.R_base ho0) hb); have n3_ := Aside0.mk (Kd.R_lower (Kd.R_newM (M := fun k_ => (w.heap.size ≤ k_)) ho0 (below_size bel) (fun k_ h_ => h_)) (below_size bel)); have n4_ := Aside0.mk (below_step bel hb); clear HO2; clear HO125; clear HO128; clear HB; have HO2 := n0_; have HO125 := n1_; have HO128 := n2_; have HO132 := n3_; have HB := n4_; clear n0_ n1_ n2_ n3_ n4_; (try clear hb); (try clear hb2); (try clear hk); (try clear hi); (try clear ho0); obtain ⟨Ao33, co33, eo33⟩ := Kd.R_slice HO132.out; subst eo33) | ((with_reducible refine gate_callee (f := 50) rfl ?_); refine goesL_ (some 83) rfl rfl Tryd.func50 (by kernel_rfl) rfl #[.slice Ao33 t130.length co33] rfl eqA ?_; (with_reducible refine (imprimaturref02_Hash256.calls _ _ t130 t133 _ ?side1 ?side2 A27.out).mono ?_); (case side1 => exact cL (Kd.R_reads' HO132.out).2.2); (case side2 => exact (Kd.R_reads' HO132.out).2.1); rintro e w34 ⟨v134, rfl, ho0, hb⟩; refine ⟨_, rfl, ?_⟩; have n0_ := Aside0.mk (Kd.V_elder' (vL HO2.out) (Kd.R_base ho0) hb); have n1_ := Aside0.mk (Kd.V_elder' (vL HO125.out) (Kd.R_base ho0) hb); have n2_ := Aside0.mk (Kd.S_elder' (sL HO128.out) (Kd.R_base ho0) hb); have n3_ := Aside0.mk (Kd.R_elder' (rL HO132.out) (Kd.R_base ho0) hb); have n4_ := Aside0.mk (Kd.R_lower (Kd.R_new' (Kd.R_newM (M := fun k_ => (w.heap.size ≤ k_)) ho0 (below_size bel) (fun k_ h_ => h_)) (Kd.R_lt (rL HO132.out))) (below_size bel)); have n5_ := Aside0.mk (below_step bel hb); clear HO2; clear HO125; clear HO128; clear HO132; clear HB; have HO2 := n0_; have HO125 := n1_; have HO128 := n2_; have HO132 := n3_; have HO135 := n4_; have HB := n5_; clear n0_ n1_ n2_ n3_ n4_ n5_; (try clear hb); (try clear hb2); (try clear hk); (try clear hi); (try clear ho0)) | ((with_reducible refine gate_builtin (b := .append) (xs := #[.tmp 84, .tmp 86]) rfl ?_); at_builtin; refine Kd.S_append (Kd.slice 5 (Kd.int .u8)) (w0 := w) w.heap.size rfl (.tmp 84) (.tmp 86) 22 23 (.slice none 0 0) 24 rfl Tryd.underlying22 info23 rfl (by decide) (by omega) v127 t126 t130 [.slice Ao33 t130.length co33] (fun k_ => (w.heap.size ≤ k_) ∧ some k_ ≠ (v134 : Value).ownBlock) (fun k_ => some k_ = (.slice Ao33 t130.length co33 : Value).ownBlock) rfl rfl ?aP (fun k_ hk_ => ((Kd.R_mono (ok' := fun k_ => ((fun k_ => (w.heap.size ≤ k_) ∧ some k_ ≠ (v134 : Value).ownBlock)) k_ ∧ some k_ ≠ (v127 : Value).ownBlock) (Kd.R_apart' (HO132.out) (Kd.S_typed HO128.out) (by decide)) (fun k_ hk => ⟨⟨hk.1.1.1, hk.1.2⟩, hk.2⟩))).1 k_ hk_.symm) ?aF ?aO ?aB ?aS ?aL ?_; (case aP => exact Kd.M_row (Kd.R_mono (Kd.R_tight rfl (Kd.R_mono (ok' := fun k_ => ((fun k_ => (w.heap.size ≤ k_) ∧ some k_ ≠ (v134 : Value).ownBlock)) k_ ∧ some k_ ≠ (v127 : Value).ownBlock) (Kd.R_apart' (HO132.out) (Kd.S_typed HO128.out) (by decide)) (fun k_ hk => ⟨⟨hk.1.1.1, hk.1.2⟩, hk.2⟩))) (fun _ h_ => h_))); (case aB => exact bel); (case aF => exact (fun k_ hk => ⟨(Nat.le_trans (below_size bel) hk), Kd.fresh' (Kd.R_lt (rL HO135.out)) k_ hk⟩)); (case aO => exact (by (with_reducible repeat (first | apply Kd.S_alloc | apply Kd.S_drewN | apply Kd.S_drew)); exact Kd.S_mono HO128.out (fun k_ hk => ⟨⟨hk.1.1.1, hk.2⟩, fun e_ => hk.1.2 e_⟩))); (case aS => exact (below_size bel)); (case aL => have := LMc28.out; omega); intro v137 w35 ho hb hg hat; rw [← Ny136.out] at ho; have n0_ := Aside0.mk (Kd.V_afterv (ok := (fun k_ => (P2_ k_ ∨ w.heap.size ≤ k_) ∧ some k_ ≠ (.slice Ao33 t130.length co33 : Value).ownBlock ∧ some k_ ≠ (v134 : Value).ownBlock)) (by (with_reducible repeat (first | apply Kd.V_alloc | apply Kd.V_drewN | apply Kd.V_drew)); exact Kd.V_mono HO2.out (fun _ hk => ⟨⟨hk.1.1.1, ⟨hk.1.2, hk.2⟩⟩, hk.1.1.2⟩)) hg hat); have n1_ := Aside0.mk (Kd.V_afterv (ok := (fun k_ => (P2_ k_ ∨ w.heap.size ≤ k_) ∧ some k_ ≠ (.slice Ao33 t130.length co33 : Value).ownBlock ∧ some k_ ≠ (v134 : Value).ownBlock)) (by (with_reducible repeat (first | apply Kd.V_alloc | apply Kd.V_drewN | apply Kd.V_drew)); exact Kd.V_mono HO125.out (fun _ hk => ⟨⟨hk.1.1.1, ⟨hk.1.2, hk.2⟩⟩, hk.1.1.2⟩)) hg hat); have n2_ := Aside0.mk (Kd.R_over' (rL HO135.out) (Kd.S_typed (sL HO128.out)) (by decide) hg); have n3_ := Aside0.mk (hb); have n4_ := Aside0.mk (ho); clear HO2; clear HO125; clear HO135; clear HB; clear HO128; clear HO132; have HO2 := n0_; have HO125 := n1_; have HO135 := n2_; have HB := n3_; have HO138 := n4_; clear n0_ n1_ n2_ n3_ n4_; clear ho hb hg hat))
        go_ret3
        exact ⟨_, _, by first | rfl | (simp [errW_none, errW_some] <;> rfl) | (simp only [← hji8]; first | rfl | (simp [errW_none, errW_some] <;> rfl)) | (simp [*, errW_none, errW_some] <;> rfl), Kd.V_mono (Kd.R_V (base' := w.heap.size) (Kd.R_apart' HO135.out (Kd.S_typed HO138.out) (by decide))) (fun k_ hk => ⟨.inr hk.1.1.1, hk.2⟩), by (with_reducible repeat (first | apply Kd.S_alloc | apply Kd.S_drewN | apply Kd.S_drew)); exact Kd.S_mono HO138.out (fun _ hk => hk.1), by repeat (first | (with_reducible first | exact HB.out | apply below_alloc | apply pw_below_drewN | apply below_drew1) | exact HB.out)⟩
       ·rw [if_neg c28] at H
        exact absurd H (by simp)
     ·rw [if_neg c12] at H
      exact absurd H (by simp)
    ·rw [if_neg c10] at H
     exact absurd H (by simp)
   ·rw [if_neg c9] at H
    exact absurd H (by simp)

end Go.Proofs.YtcnpdapampclpaaDoor.PRe
