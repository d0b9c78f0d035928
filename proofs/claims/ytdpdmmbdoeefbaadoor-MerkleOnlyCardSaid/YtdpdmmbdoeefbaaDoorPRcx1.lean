-- Written by a program of this session, after the print of the kit.
import Derived.Test.YtdpdmmbdoeefbaaDoorWC
import Derived.Test.YtdpdmmbdoeefbaaDoorPRcx0
namespace Go.Proofs.YtdpdmmbdoeefbaaDoor.PRc
open Go.RowKit Go.Proofs.YtdpdmmbdoeefbaaDoor.X Go.Proofs.YtdpdmmbdoeefbaaDoor.PCut Go.Proofs.YtdpdmmbdoeefbaaDoor.PCa Go.Proofs.YtdpdmmbdoeefbaaDoor.PCs Go.Proofs.YtdpdmmbdoeefbaaDoor.PCo Go.Proofs.YtdpdmmbdoeefbaaDoor.PCr Go.Proofs.YtdpdmmbdoeefbaaDoor.PRa Go.Proofs.YtdpdmmbdoeefbaaDoorW.PrintWords Go.Proofs.YtdpdmmbdoeefbaaDoorW.PrintLast Go.Proofs.YtdpdmmbdoeefbaaDoorW.PrintMore
attribute [local go_sem] max2_int min2_int max_two min_two max_three min_three max_four min_four   -- for this text's walks alone
set_option linter.unusedVariables false
set_option linter.unusedSimpArgs false

/-! ### imprimaturref06_walk: function 60 -/
def imprimaturref06_walk.f : Nat → List (List Int) → Int → Option ((List (List Int)))
 | 0, _, _ => none
 | k + 1, l0, a1 => if (l0.length : Int) < 2 then (some ([] : List (List Int))) else ((imprimaturref06_Half.f k (l0.length : Int)).bind fun t101 => (if a1 < t101 then (if 0 ≤ t101 then (if t101 ≤ (l0.length : Int) then ((imprimaturref06_Top.f k (l0.drop (t101 : Int).toNat)).bind fun bt107 => ((imprimaturref06_walk.f k (l0.take (t101 : Int).toNat) a1).bind fun t118 => (if t118.length < 5864062014805 then (some (t118 ++ [bt107.1])) else (none)))) else (none)) else (none)) else (if 0 ≤ t101 then (if t101 ≤ (l0.length : Int) then ((imprimaturref06_Top.f k (l0.take (t101 : Int).toNat)).bind fun bt129 => ((imprimaturref06_walk.f k (l0.drop (t101 : Int).toNat) (wrap64 (a1 - t101))).bind fun t140 => (if t140.length < 5864062014805 then (some (t140 ++ [bt129.1])) else (none)))) else (none)) else (none))))
theorem imprimaturref06_walk.mono_l : ∀ k, (∀ y0 y1, LeO (imprimaturref06_walk.f k y0 y1) (imprimaturref06_walk.f (k + 1) y0 y1))
 | 0 => fun _ _ r h => by simp [imprimaturref06_walk.f] at h
 | k + 1 => by
  have ih0 := imprimaturref06_walk.mono_l k
  ·intro y0 y1
   unfold imprimaturref06_walk.f
   repeat' first
   | (with_reducible exact ih0 _ _)
   | (with_reducible exact imprimaturref06_Half.mono _ _)
   | (with_reducible exact imprimaturref06_Top.mono _ _)
   | (with_reducible exact LeO.refl _)
   | (with_reducible exact LeO.none _)
   | (with_reducible refine LeO.ite ?_ ?_)
   | (with_reducible refine LeO.bind ?_ (fun _ => ?_))
   | exact ih0 _ _
   | exact imprimaturref06_Half.mono _ _
   | exact imprimaturref06_Top.mono _ _
   | exact LeO.none _
   | refine LeO.ite ?_ ?_
   | refine LeO.bind ?_ (fun _ => ?_)
theorem imprimaturref06_walk.mono : ∀ a0 a1 k, LeO (imprimaturref06_walk.f k a0 a1) (imprimaturref06_walk.f (k + 1) a0 a1) := by
 intro a0 a1 k
 have ih0 := imprimaturref06_walk.mono_l k
 exact ih0 a0 a1
set_option maxHeartbeats 8000000 in
set_option maxRecDepth 100000 in
theorem imprimaturref06_walk.calls (k : Nat) : ∀ (P0_ : Nat → Prop) (A0 : Option Addr) (c0 : Nat) (l0 : List (List Int)) (a1 : Int) (r : List (List Int)) (w : World) (hs0 : Kd.V (Kd.slice 5 (Kd.int .u8)) 22 w w.heap.size (fun k_ => P0_ k_) (.slice A0 l0.length c0) l0) (h : imprimaturref06_walk.f k l0 a1 = some r),
  Calls Tryd.prog 60 #[.slice A0 l0.length c0, .int .i64 a1] w fun e w' => ∃ v0_ : Value, e = .returned (v0_) ∧ Kd.N (Kd.slice 5 (Kd.int .u8)) 22 w' w.heap.size (fun k_ => (P0_ k_ ∨ w.heap.size ≤ k_)) v0_ r ∧ Below w.heap.size w w' := by
 induction k using Nat.strongRecOn with
 | _ k ih =>
 intro P0_ A0 c0 l0 a1 r w hs0 h
 cases k with
 | zero => exact absurd h (by simp [imprimaturref06_walk.f])
 | succ k =>
 simp only [imprimaturref06_walk.f] at h
 have HO0 := Aside0.mk (show Kd.V (Kd.slice 5 (Kd.int .u8)) 22 w w.heap.size (fun k_ => (P0_ k_ ∨ w.heap.size ≤ k_)) (.slice A0 l0.length c0) l0 from Kd.V_mono hs0 (fun k_ hk => .inl hk))
 have HB := Aside0.mk (Below.refl w.heap.size w)
 have H : (if (l0.length : Int) < 2 then (some ([] : List (List Int))) else ((imprimaturref06_Half.f k (l0.length : Int)).bind fun t101 => (if a1 < t101 then (if 0 ≤ t101 then (if t101 ≤ (l0.length : Int) then ((imprimaturref06_Top.f k (l0.drop (t101 : Int).toNat)).bind fun bt107 => ((imprimaturref06_walk.f k (l0.take (t101 : Int).toNat) a1).bind fun t118 => (if t118.length < 5864062014805 then (some (t118 ++ [bt107.1])) else (none)))) else (none)) else (none)) else (if 0 ≤ t101 then (if t101 ≤ (l0.length : Int) then ((imprimaturref06_Top.f k (l0.take (t101 : Int).toNat)).bind fun bt129 => ((imprimaturref06_walk.f k (l0.drop (t101 : Int).toNat) (wrap64 (a1 - t101))).bind fun t140 => (if t140.length < 5864062014805 then (some (t140 ++ [bt129.1])) else (none)))) else (none)) else (none))))) = some r := h
 clear h
 by_cases c3 : (l0.length : Int) < 2
 ·rw [if_pos c3] at H
  have c3b0 : decide ((l0.length : Int) < 2) = true := decide_eq_true c3
  have c3b1 : decide (l0.length < 2) = true := decide_eq_true (by omega)
  clear c3
  obtain rfl := Option.some.inj H
  go_enter Tryd.func60, Tryd.ntmps60
  go_wp2
  go_ret
  exact ⟨_, by first | rfl | (simp [errW_none, errW_some] <;> rfl) | (simp [*, errW_none, errW_some] <;> rfl), by first | exact Kd.S_nil _ _ _ _ _ | exact Kd.N_nil _ _ _ _ _ | exact Kd.V_nil _ _ _ _ _ | exact Kd.Q_nil _ _ _ _ _ | exact Kd.R_nil _ _ _ _ _, by repeat (first | (with_reducible first | exact HB.out | apply below_alloc | apply pw_below_drewN | apply below_drew1) | exact HB.out)⟩
 ·rw [if_neg c3] at H
  have c3b0 : decide ((l0.length : Int) < 2) = false := decide_eq_false c3
  have c3b1 : decide (l0.length < 2) = false := decide_eq_false (by omega)
  clear c3
  replace H := Option.bind_eq_some_iff.mp H
  obtain ⟨t101, A40, H⟩ := H
  replace H : (if a1 < t101 then (if 0 ≤ t101 then (if t101 ≤ (l0.length : Int) then ((imprimaturref06_Top.f k (l0.drop (t101 : Int).toNat)).bind fun bt107 => ((imprimaturref06_walk.f k (l0.take (t101 : Int).toNat) a1).bind fun t118 => (if t118.length < 5864062014805 then (some (t118 ++ [bt107.1])) else (none)))) else (none)) else (none)) else (if 0 ≤ t101 then (if t101 ≤ (l0.length : Int) then ((imprimaturref06_Top.f k (l0.take (t101 : Int).toNat)).bind fun bt129 => ((imprimaturref06_walk.f k (l0.drop (t101 : Int).toNat) (wrap64 (a1 - t101))).bind fun t140 => (if t140.length < 5864062014805 then (some (t140 ++ [bt129.1])) else (none)))) else (none)) else (none))) = some r := H
  have A4 := Aside0.mk A40
  clear A40
  by_cases c5 : a1 < t101
  ·rw [if_pos c5] at H
   have c5b0 : decide (a1 < t101) = true := decide_eq_true c5
   clear c5
   by_cases c6 : 0 ≤ t101
   ·rw [if_pos c6] at H
    have c6b0 := eq_true c6
    have c6b1 : decide (0 ≤ t101) = true := decide_eq_true c6
    clear c6
    by_cases c7 : t101 ≤ (l0.length : Int)
    ·rw [if_pos c7] at H
     have c7b0 := eq_true c7
     have c7b1 : decide (t101 ≤ (l0.length : Int)) = true := decide_eq_true c7
     clear c7
     obtain ⟨y102, hy102⟩ : ∃ y_ : List (List Int), y_ = (l0.drop (t101 : Int).toNat) := ⟨_, rfl⟩
     replace H : ((imprimaturref06_Top.f k y102).bind fun bt107 => ((imprimaturref06_walk.f k (l0.take (t101 : Int).toNat) a1).bind fun t118 => (if t118.length < 5864062014805 then (some (t118 ++ [bt107.1])) else (none)))) = some r := hyA hy102 H
     have Ny102 := Aside0.mk hy102
     clear hy102
     replace H := Option.bind_eq_some_iff.mp H
     obtain ⟨⟨t107, t110⟩, A80, H⟩ := H
     replace H : ((imprimaturref06_walk.f k (l0.take (t101 : Int).toNat) a1).bind fun t118 => (if t118.length < 5864062014805 then (some (t118 ++ [t107])) else (none))) = some r := H
     have A8 := Aside0.mk A80
     clear A80
     have c9b0 := eq_true (of_decide_eq_true asm_ : 0 ≤ t101)
     have c10b0 := eq_true (of_decide_eq_true asm_ : t101 ≤ (l0.length : Int))
     obtain ⟨y113, hy113⟩ : ∃ y_ : List (List Int), y_ = (l0.take (t101 : Int).toNat) := ⟨_, rfl⟩
     replace H : ((imprimaturref06_walk.f k y113 a1).bind fun t118 => (if t118.length < 5864062014805 then (some (t118 ++ [t107])) else (none))) = some r := hyA hy113 H
     have Ny113 := Aside0.mk hy113
     clear hy113
     replace H := Option.bind_eq_some_iff.mp H
     obtain ⟨t118, A110, H⟩ := H
     replace H : (if t118.length < 5864062014805 then (some (t118 ++ [t107])) else (none)) = some r := H
     have A11 := Aside0.mk A110
     clear A110
     by_cases c12 : t118.length < 5864062014805
     ·rw [if_pos c12] at H
      have LMc12 := Aside0.mk c12
      clear c12
      obtain ⟨y121, hy121⟩ : ∃ y_ : List (List Int), y_ = (t118 ++ [t107]) := ⟨_, rfl⟩
      replace H : (some y121) = some r := hyA hy121 H
      have Ny121 := Aside0.mk hy121
      clear hy121
      obtain rfl := Option.some.inj H
      go_enter Tryd.func60, Tryd.ntmps60
      go_wp2_with (first | ((with_reducible refine gate_callee (f := 72) rfl ?_); refine goesL_ (some 15) rfl rfl Tryd.func72 (by kernel_rfl) rfl #[.int .i64 (l0.length : Int)] rfl eqA ?_; (with_reducible refine (imprimaturref06_Half.calls k (l0.length : Int) t101 _ A4.out).mono ?_); rintro e w' ⟨rfl, ⟨nd, rfl⟩⟩; refine ⟨_, rfl, ?_⟩; have q13 : (t101 : Int) ≤ ((l0.length : Int) : Int) := of_decide_eq_true asm_; obtain ⟨i013, hi013, _, hsz13, _⟩ := info_parts info22; have hroom13 : l0.length ≤ c0 := (Kd.V_reads' HO0.out).2.1; have hC13 : Kd.F (Kd.slice 5 (Kd.int .u8)) _ _ A0 l0.length l0 := (Kd.V_at (base := w.heap.size) HO0.out).2.2; have q013 : (0 : Int) ≤ (t101 : Int) := of_decide_eq_true asm_; have hcut13 := cut_from (P := Tryd.prog) 23 22 .i64 Tryd.underlying23 hi013 1 hsz13 A0 l0.length c0 t101 q013 q13; have hr13 := Kd.F_cut (m := (t101 : Int).toNat) (c := c0) hC13 (by omega) hroom13; obtain ⟨A13, hA13⟩ : ∃ A1, A1 = (if c0 = (t101 : Int).toNat then A0 else (A0 : Option Addr).map (·.add ((t101 : Int).toNat * 1))) := ⟨_, rfl⟩; obtain ⟨c13, hc13⟩ : ∃ c1, c1 = c0 - (t101 : Int).toNat := ⟨_, rfl⟩; have hy13 : y102.length = l0.length - (t101 : Int).toNat := (by rw [Ny102.out, List.length_drop] <;> omega); rw [show (l0).drop (t101 : Int).toNat = y102 from Ny102.out.symm] at hr13; replace hr13 : Kd.F (Kd.slice 5 (Kd.int .u8)) _ _ A13 y102.length y102 := (by rw [hA13]; exact hr13); rw [← hy13, ← hA13, ← hc13] at hcut13; have HO106 := Aside0.mk (show Kd.V (Kd.slice 5 (Kd.int .u8)) 22 _ w.heap.size _ (.slice A13 y102.length c13) y102 from Kd.V_mk (by rw [hy13, hc13]; exact Nat.sub_le_sub_right hroom13 _) hr13); have HC106 := Aside0.mk (show y102.length ≤ c13 from by rw [hy13, hc13]; exact Nat.sub_le_sub_right hroom13 _); clear hr13 hC13 hroom13 hi013 hsz13 hc13; have KY13 := Aside0.mk hy13; have KA13 := Aside0.mk hA13; clear hy13 hA13; replace q13 := eq_true q13) | ((with_reducible refine gate_callee (f := 62) rfl ?_); refine goesL_ (some 23) rfl rfl Tryd.func62 (by kernel_rfl) rfl #[.slice A13 y102.length c13] rfl eqA ?_; (with_reducible refine (imprimaturref06_Top.calls k (fun k_ => (P0_ k_ ∨ w.heap.size ≤ k_)) _ _ y102 t107 t110 _ ?side1 A8.out).mono ?_); (case side1 => exact HO106.out); rintro e w14 ⟨v108, v111, rfl, ho0, ho1, hb⟩; refine ⟨_, rfl, ?_⟩; have n0_ := Aside0.mk (Kd.V_elder' (vL HO0.out) (Kd.N_base ho1) hb); have n1_ := Aside0.mk (Kd.V_elder' (vL HO106.out) (Kd.N_base ho1) hb); have n2_ := Aside0.mk (Kd.V_lower (Kd.V_mono (ok' := fun k_ => (P0_ k_ ∨ w.heap.size ≤ k_) ∧ some k_ ≠ (v111 : Value).ownBlock) ho0 (fun k_ hk_ => ⟨Or.elim hk_.1 (fun hs_ => hs_) (fun hn_ => (.inr (Nat.le_trans (below_size bel) hn_))), hk_.2⟩)) (below_size bel)); have n3_ := Aside0.mk (Kd.N_lower (Kd.N_mono (ok' := fun k_ => (P0_ k_ ∨ w.heap.size ≤ k_)) ho1 (fun k_ hk_ => Or.elim hk_ (fun hs_ => hs_) (fun hn_ => (.inr (Nat.le_trans (below_size bel) hn_))))) (below_size bel)); have n4_ := Aside0.mk (below_step bel hb); clear HO0; clear HO106; clear HB; have HO0 := n0_; have HO106 := n1_; have HO109 := n2_; have HO112 := n3_; have HB := n4_; clear n0_ n1_ n2_ n3_ n4_; (try clear hb); (try clear hb2); (try clear hk); (try clear hi); (try clear ho0); (try clear ho1); have q15 : (t101 : Int) ≤ ((l0.length : Int) : Int) := of_decide_eq_true asm_; obtain ⟨i015, hi015, _, hsz15, _⟩ := info_parts info22; have hroom15 : l0.length ≤ c0 := (Kd.V_reads' HO0.out).2.1; have hC15 : Kd.F (Kd.slice 5 (Kd.int .u8)) _ _ A0 l0.length l0 := (Kd.V_at (base := w.heap.size) HO0.out).2.2; have hcut15 := cut_to (P := Tryd.prog) 23 22 .i64 Tryd.underlying23 hi015 A0 l0.length c0 t101 (of_decide_eq_true asm_) q15 hroom15; have hr15 := Kd.F_take (m := (t101 : Int).toNat) hC15 (by omega); have hy15 : y113.length = (t101 : Int).toNat := (by rw [Ny113.out, List.length_take]; omega); rw [← Ny113.out] at hr15; rw [← hy15] at hcut15; have HO117 := Aside0.mk (show Kd.V (Kd.slice 5 (Kd.int .u8)) 22 _ w.heap.size _ (.slice A0 y113.length c0) y113 from Kd.V_mk (by omega) hr15); have HC117 := Aside0.mk (show y113.length ≤ c0 from by omega); clear hr15 hC15 hroom15 hi015 hsz15; have KY15 := Aside0.mk hy15; clear hy15; replace q15 := eq_true q15) | ((with_reducible refine gate_callee (f := 60) rfl ?_); refine goesL_ (some 30) rfl rfl Tryd.func60 (by kernel_rfl) rfl #[.slice A0 y113.length c0, .int .i64 a1] rfl eqA ?_; (with_reducible refine (ih k (by omega) (fun k_ => ((P0_ k_ ∨ w.heap.size ≤ k_) ∧ some k_ ≠ (v111 : Value).ownBlock)) _ _ y113 a1 t118 _ ?side1 A11.out).mono ?_); (case side1 => exact HO117.out); rintro e w16 ⟨v119, rfl, ho0, hb⟩; refine ⟨_, rfl, ?_⟩; have n0_ := Aside0.mk (Kd.V_elder' (vL HO0.out) (Kd.N_base ho0) hb); have n1_ := Aside0.mk (Kd.V_elder' (vL HO106.out) (Kd.N_base ho0) hb); have n2_ := Aside0.mk (Kd.V_elder' (vL HO109.out) (Kd.N_base ho0) hb); have n3_ := Aside0.mk (Kd.N_elder' (nL HO112.out) (Kd.N_base ho0) hb); have n4_ := Aside0.mk (Kd.V_elder' (vL HO117.out) (Kd.N_base ho0) hb); have n5_ := Aside0.mk (Kd.N_lower (Kd.N_mono (ok' := fun k_ => (P0_ k_ ∨ w.heap.size ≤ k_) ∧ some k_ ≠ (v111 : Value).ownBlock) ho0 (fun k_ hk_ => ⟨Or.elim hk_ (fun hs_ => hs_.1) (fun hn_ => (.inr (Nat.le_trans (below_size bel) hn_))), Or.elim hk_ (fun hs_ => hs_.2) (fun hn_ => (Kd.fresh' (Kd.N_lt (nL HO112.out)) k_ hn_))⟩)) (below_size bel)); have n6_ := Aside0.mk (below_step bel hb); clear HO0; clear HO106; clear HO109; clear HO112; clear HO117; clear HB; have HO0 := n0_; have HO106 := n1_; have HO109 := n2_; have HO112 := n3_; have HO117 := n4_; have HO120 := n5_; have HB := n6_; clear n0_ n1_ n2_ n3_ n4_ n5_ n6_; (try clear hb); (try clear hb2); (try clear hk); (try clear hi); (try clear ho0); obtain ⟨Ao18, co18, eo18⟩ := Kd.V_slice HO109.out; subst eo18) | ((with_reducible refine gate_builtin (b := .append) (xs := #[.tmp 30, .tmp 32]) rfl ?_); at_builtin; refine Kd.N_append (Kd.slice 5 (Kd.int .u8)) (w0 := w) w.heap.size rfl (.tmp 30) (.tmp 32) 23 22 (.slice none 0 0) 24 rfl Tryd.underlying23 info22 rfl (by decide) (by omega) v119 t118 t107 [.slice Ao18 t107.length co18] (fun k_ => (P0_ k_ ∨ w.heap.size ≤ k_) ∧ some k_ ≠ (v111 : Value).ownBlock) (fun k_ => ((fun k_ => (P0_ k_ ∨ w.heap.size ≤ k_) ∧ some k_ ≠ (v111 : Value).ownBlock)) k_ ∧ some k_ ≠ (v119 : Value).ownBlock) rfl rfl ?aP (fun _ hk => hk) ?aF ?aO ?aB ?aS ?aL ?_; (case aP => exact (Kd.FK_slice_mk (Kd.V_reads' (Kd.V_mono (ok' := (fun k_ => ((fun k_ => (P0_ k_ ∨ w.heap.size ≤ k_) ∧ some k_ ≠ (v111 : Value).ownBlock)) k_ ∧ some k_ ≠ (v119 : Value).ownBlock)) (HO109.out) (fun k_ hk => ⟨⟨hk.1.1, hk.1.2⟩, hk.2⟩))).2.1 (Kd.V_F (Kd.V_mono (ok' := (fun k_ => ((fun k_ => (P0_ k_ ∨ w.heap.size ≤ k_) ∧ some k_ ≠ (v111 : Value).ownBlock)) k_ ∧ some k_ ≠ (v119 : Value).ownBlock)) (HO109.out) (fun k_ hk => ⟨⟨hk.1.1, hk.1.2⟩, hk.2⟩))))); (case aB => exact bel); (case aF => exact (fun k_ hk => ⟨(.inr (Nat.le_trans (below_size bel) hk)), Kd.fresh' (Kd.N_lt (nL HO112.out)) k_ hk⟩)); (case aO => exact (nL HO120.out)); (case aS => exact (below_size bel)); (case aL => have := LMc12.out; omega); intro v122 w17 ho hb hg hat; rw [← Ny121.out] at ho; have n0_ := Aside0.mk (Kd.V_afterv (ok := (fun k_ => (P0_ k_ ∨ w.heap.size ≤ k_) ∧ some k_ ≠ (v111 : Value).ownBlock)) (vL HO0.out) hg hat); have n1_ := Aside0.mk (Kd.V_afterv (ok := (fun k_ => (P0_ k_ ∨ w.heap.size ≤ k_) ∧ some k_ ≠ (v111 : Value).ownBlock)) (vL HO106.out) hg hat); have n2_ := Aside0.mk (Kd.V_afterv (ok := (fun k_ => (P0_ k_ ∨ w.heap.size ≤ k_) ∧ some k_ ≠ (v111 : Value).ownBlock)) (vL HO109.out) hg hat); have n3_ := Aside0.mk (Kd.N_afterv (ok := (fun k_ => (P0_ k_ ∨ w.heap.size ≤ k_))) (nL HO112.out) hg hat); have n4_ := Aside0.mk (Kd.V_afterv (ok := (fun k_ => (P0_ k_ ∨ w.heap.size ≤ k_) ∧ some k_ ≠ (v111 : Value).ownBlock)) (vL HO117.out) hg hat); have n5_ := Aside0.mk (hb); have n6_ := Aside0.mk (ho); clear HO0; clear HO106; clear HO109; clear HO112; clear HO117; clear HB; clear HO120; have HO0 := n0_; have HO106 := n1_; have HO109 := n2_; have HO112 := n3_; have HO117 := n4_; have HB := n5_; have HO123 := n6_; clear n0_ n1_ n2_ n3_ n4_ n5_ n6_; clear ho hb hg hat))
      go_ret
      exact ⟨_, by first | rfl | (simp [errW_none, errW_some] <;> rfl) | (simp [*, errW_none, errW_some] <;> rfl), by (with_reducible repeat (first | apply Kd.N_alloc | apply Kd.N_drewN | apply Kd.N_drew)); exact Kd.N_mono HO123.out (fun _ hk => hk.1), by repeat (first | (with_reducible first | exact HB.out | apply below_alloc | apply pw_below_drewN | apply below_drew1) | exact HB.out)⟩
     ·rw [if_neg c12] at H
      exact absurd H (by simp)
    ·rw [if_neg c7] at H
     exact absurd H (by simp)
   ·rw [if_neg c6] at H
    exact absurd H (by simp)
  ·rw [if_neg c5] at H
   have c5b0 : decide (a1 < t101) = false := decide_eq_false c5
   clear c5
   by_cases c19 : 0 ≤ t101
   ·rw [if_pos c19] at H
    have c19b0 := eq_true c19
    have c19b1 : decide (0 ≤ t101) = true := decide_eq_true c19
    clear c19
    by_cases c20 : t101 ≤ (l0.length : Int)
    ·rw [if_pos c20] at H
     have c20b0 := eq_true c20
     have c20b1 : decide (t101 ≤ (l0.length : Int)) = true := decide_eq_true c20
     clear c20
     obtain ⟨y124, hy124⟩ : ∃ y_ : List (List Int), y_ = (l0.take (t101 : Int).toNat) := ⟨_, rfl⟩
     replace H : ((imprimaturref06_Top.f k y124).bind fun bt129 => ((imprimaturref06_walk.f k (l0.drop (t101 : Int).toNat) (wrap64 (a1 - t101))).bind fun t140 => (if t140.length < 5864062014805 then (some (t140 ++ [bt129.1])) else (none)))) = some r := hyA hy124 H
     have Ny124 := Aside0.mk hy124
     clear hy124
     replace H := Option.bind_eq_some_iff.mp H
     obtain ⟨⟨t129, t132⟩, A210, H⟩ := H
     replace H : ((imprimaturref06_walk.f k (l0.drop (t101 : Int).toNat) (wrap64 (a1 - t101))).bind fun t140 => (if t140.length < 5864062014805 then (some (t140 ++ [t129])) else (none))) = some r := H
     have A21 := Aside0.mk A210
     clear A210
     have c22b0 := eq_true (of_decide_eq_true asm_ : 0 ≤ t101)
     have c23b0 := eq_true (of_decide_eq_true asm_ : t101 ≤ (l0.length : Int))
     obtain ⟨y135, hy135⟩ : ∃ y_ : List (List Int), y_ = (l0.drop (t101 : Int).toNat) := ⟨_, rfl⟩
     replace H : ((imprimaturref06_walk.f k y135 (wrap64 (a1 - t101))).bind fun t140 => (if t140.length < 5864062014805 then (some (t140 ++ [t129])) else (none))) = some r := hyA hy135 H
     have Ny135 := Aside0.mk hy135
     clear hy135
     replace H := Option.bind_eq_some_iff.mp H
     obtain ⟨t140, A240, H⟩ := H
     replace H : (if t140.length < 5864062014805 then (some (t140 ++ [t129])) else (none)) = some r := H
     have A24 := Aside0.mk A240
     clear A240
     by_cases c25 : t140.length < 5864062014805
     ·rw [if_pos c25] at H
      have LMc25 := Aside0.mk c25
      clear c25
      obtain ⟨y143, hy143⟩ : ∃ y_ : List (List Int), y_ = (t140 ++ [t129]) := ⟨_, rfl⟩
      replace H : (some y143) = some r := hyA hy143 H
      have Ny143 := Aside0.mk hy143
      clear hy143
      obtain rfl := Option.some.inj H
      go_enter Tryd.func60, Tryd.ntmps60
      go_wp2_with (first | ((with_reducible refine gate_callee (f := 72) rfl ?_); refine goesL_ (some 15) rfl rfl Tryd.func72 (by kernel_rfl) rfl #[.int .i64 (l0.length : Int)] rfl eqA ?_; (with_reducible refine (imprimaturref06_Half.calls k (l0.length : Int) t101 _ A4.out).mono ?_); rintro e w' ⟨rfl, ⟨nd, rfl⟩⟩; refine ⟨_, rfl, ?_⟩; have q26 : (t101 : Int) ≤ ((l0.length : Int) : Int) := of_decide_eq_true asm_; obtain ⟨i026, hi026, _, hsz26, _⟩ := info_parts info22; have hroom26 : l0.length ≤ c0 := (Kd.V_reads' HO0.out).2.1; have hC26 : Kd.F (Kd.slice 5 (Kd.int .u8)) _ _ A0 l0.length l0 := (Kd.V_at (base := w.heap.size) HO0.out).2.2; have hcut26 := cut_to (P := Tryd.prog) 23 22 .i64 Tryd.underlying23 hi026 A0 l0.length c0 t101 (of_decide_eq_true asm_) q26 hroom26; have hr26 := Kd.F_take (m := (t101 : Int).toNat) hC26 (by omega); have hy26 : y124.length = (t101 : Int).toNat := (by rw [Ny124.out, List.length_take]; omega); rw [← Ny124.out] at hr26; rw [← hy26] at hcut26; have HO128 := Aside0.mk (show Kd.V (Kd.slice 5 (Kd.int .u8)) 22 _ w.heap.size _ (.slice A0 y124.length c0) y124 from Kd.V_mk (by omega) hr26); have HC128 := Aside0.mk (show y124.length ≤ c0 from by omega); clear hr26 hC26 hroom26 hi026 hsz26; have KY26 := Aside0.mk hy26; clear hy26; replace q26 := eq_true q26) | ((with_reducible refine gate_callee (f := 62) rfl ?_); refine goesL_ (some 38) rfl rfl Tryd.func62 (by kernel_rfl) rfl #[.slice A0 y124.length c0] rfl eqA ?_; (with_reducible refine (imprimaturref06_Top.calls k (fun k_ => (P0_ k_ ∨ w.heap.size ≤ k_)) _ _ y124 t129 t132 _ ?side1 A21.out).mono ?_); (case side1 => exact HO128.out); rintro e w27 ⟨v130, v133, rfl, ho0, ho1, hb⟩; refine ⟨_, rfl, ?_⟩; have n0_ := Aside0.mk (Kd.V_elder' (vL HO0.out) (Kd.N_base ho1) hb); have n1_ := Aside0.mk (Kd.V_elder' (vL HO128.out) (Kd.N_base ho1) hb); have n2_ := Aside0.mk (Kd.V_lower (Kd.V_mono (ok' := fun k_ => (P0_ k_ ∨ w.heap.size ≤ k_) ∧ some k_ ≠ (v133 : Value).ownBlock) ho0 (fun k_ hk_ => ⟨Or.elim hk_.1 (fun hs_ => hs_) (fun hn_ => (.inr (Nat.le_trans (below_size bel) hn_))), hk_.2⟩)) (below_size bel)); have n3_ := Aside0.mk (Kd.N_lower (Kd.N_mono (ok' := fun k_ => (P0_ k_ ∨ w.heap.size ≤ k_)) ho1 (fun k_ hk_ => Or.elim hk_ (fun hs_ => hs_) (fun hn_ => (.inr (Nat.le_trans (below_size bel) hn_))))) (below_size bel)); have n4_ := Aside0.mk (below_step bel hb); clear HO0; clear HO128; clear HB; have HO0 := n0_; have HO128 := n1_; have HO131 := n2_; have HO134 := n3_; have HB := n4_; clear n0_ n1_ n2_ n3_ n4_; (try clear hb); (try clear hb2); (try clear hk); (try clear hi); (try clear ho0); (try clear ho1); have q28 : (t101 : Int) ≤ ((l0.length : Int) : Int) := of_decide_eq_true asm_; obtain ⟨i028, hi028, _, hsz28, _⟩ := info_parts info22; have hroom28 : l0.length ≤ c0 := (Kd.V_reads' HO0.out).2.1; have hC28 : Kd.F (Kd.slice 5 (Kd.int .u8)) _ _ A0 l0.length l0 := (Kd.V_at (base := w.heap.size) HO0.out).2.2; have q028 : (0 : Int) ≤ (t101 : Int) := of_decide_eq_true asm_; have hcut28 := cut_from (P := Tryd.prog) 23 22 .i64 Tryd.underlying23 hi028 1 hsz28 A0 l0.length c0 t101 q028 q28; have hr28 := Kd.F_cut (m := (t101 : Int).toNat) (c := c0) hC28 (by omega) hroom28; obtain ⟨A28, hA28⟩ : ∃ A1, A1 = (if c0 = (t101 : Int).toNat then A0 else (A0 : Option Addr).map (·.add ((t101 : Int).toNat * 1))) := ⟨_, rfl⟩; obtain ⟨c28, hc28⟩ : ∃ c1, c1 = c0 - (t101 : Int).toNat := ⟨_, rfl⟩; have hy28 : y135.length = l0.length - (t101 : Int).toNat := (by rw [Ny135.out, List.length_drop] <;> omega); rw [show (l0).drop (t101 : Int).toNat = y135 from Ny135.out.symm] at hr28; replace hr28 : Kd.F (Kd.slice 5 (Kd.int .u8)) _ _ A28 y135.length y135 := (by rw [hA28]; exact hr28); rw [← hy28, ← hA28, ← hc28] at hcut28; have HO139 := Aside0.mk (show Kd.V (Kd.slice 5 (Kd.int .u8)) 22 _ w.heap.size _ (.slice A28 y135.length c28) y135 from Kd.V_mk (by rw [hy28, hc28]; exact Nat.sub_le_sub_right hroom28 _) hr28); have HC139 := Aside0.mk (show y135.length ≤ c28 from by rw [hy28, hc28]; exact Nat.sub_le_sub_right hroom28 _); clear hr28 hC28 hroom28 hi028 hsz28 hc28; have KY28 := Aside0.mk hy28; have KA28 := Aside0.mk hA28; clear hy28 hA28; replace q28 := eq_true q28) | ((with_reducible refine gate_callee (f := 60) rfl ?_); refine goesL_ (some 47) rfl rfl Tryd.func60 (by kernel_rfl) rfl #[.slice A28 y135.length c28, .int .i64 (wrap64 (a1 - t101))] rfl eqA ?_; (with_reducible refine (ih k (by omega) (fun k_ => ((P0_ k_ ∨ w.heap.size ≤ k_) ∧ some k_ ≠ (v133 : Value).ownBlock)) _ _ y135 (wrap64 (a1 - t101)) t140 _ ?side1 A24.out).mono ?_); (case side1 => exact HO139.out); rintro e w29 ⟨v141, rfl, ho0, hb⟩; refine ⟨_, rfl, ?_⟩; have n0_ := Aside0.mk (Kd.V_elder' (vL HO0.out) (Kd.N_base ho0) hb); have n1_ := Aside0.mk (Kd.V_elder' (vL HO128.out) (Kd.N_base ho0) hb); have n2_ := Aside0.mk (Kd.V_elder' (vL HO131.out) (Kd.N_base ho0) hb); have n3_ := Aside0.mk (Kd.N_elder' (nL HO134.out) (Kd.N_base ho0) hb); have n4_ := Aside0.mk (Kd.V_elder' (vL HO139.out) (Kd.N_base ho0) hb); have n5_ := Aside0.mk (Kd.N_lower (Kd.N_mono (ok' := fun k_ => (P0_ k_ ∨ w.heap.size ≤ k_) ∧ some k_ ≠ (v133 : Value).ownBlock) ho0 (fun k_ hk_ => ⟨Or.elim hk_ (fun hs_ => hs_.1) (fun hn_ => (.inr (Nat.le_trans (below_size bel) hn_))), Or.elim hk_ (fun hs_ => hs_.2) (fun hn_ => (Kd.fresh' (Kd.N_lt (nL HO134.out)) k_ hn_))⟩)) (below_size bel)); have n6_ := Aside0.mk (below_step bel hb); clear HO0; clear HO128; clear HO131; clear HO134; clear HO139; clear HB; have HO0 := n0_; have HO128 := n1_; have HO131 := n2_; have HO134 := n3_; have HO139 := n4_; have HO142 := n5_; have HB := n6_; clear n0_ n1_ n2_ n3_ n4_ n5_ n6_; (try clear hb); (try clear hb2); (try clear hk); (try clear hi); (try clear ho0); obtain ⟨Ao31, co31, eo31⟩ := Kd.V_slice HO131.out; subst eo31) | ((with_reducible refine gate_builtin (b := .append) (xs := #[.tmp 47, .tmp 49]) rfl ?_); at_builtin; refine Kd.N_append (Kd.slice 5 (Kd.int .u8)) (w0 := w) w.heap.size rfl (.tmp 47) (.tmp 49) 23 22 (.slice none 0 0) 24 rfl Tryd.underlying23 info22 rfl (by decide) (by omega) v141 t140 t129 [.slice Ao31 t129.length co31] (fun k_ => (P0_ k_ ∨ w.heap.size ≤ k_) ∧ some k_ ≠ (v133 : Value).ownBlock) (fun k_ => ((fun k_ => (P0_ k_ ∨ w.heap.size ≤ k_) ∧ some k_ ≠ (v133 : Value).ownBlock)) k_ ∧ some k_ ≠ (v141 : Value).ownBlock) rfl rfl ?aP (fun _ hk => hk) ?aF ?aO ?aB ?aS ?aL ?_; (case aP => exact (Kd.FK_slice_mk (Kd.V_reads' (Kd.V_mono (ok' := (fun k_ => ((fun k_ => (P0_ k_ ∨ w.heap.size ≤ k_) ∧ some k_ ≠ (v133 : Value).ownBlock)) k_ ∧ some k_ ≠ (v141 : Value).ownBlock)) (HO131.out) (fun k_ hk => ⟨⟨hk.1.1, hk.1.2⟩, hk.2⟩))).2.1 (Kd.V_F (Kd.V_mono (ok' := (fun k_ => ((fun k_ => (P0_ k_ ∨ w.heap.size ≤ k_) ∧ some k_ ≠ (v133 : Value).ownBlock)) k_ ∧ some k_ ≠ (v141 : Value).ownBlock)) (HO131.out) (fun k_ hk => ⟨⟨hk.1.1, hk.1.2⟩, hk.2⟩))))); (case aB => exact bel); (case aF => exact (fun k_ hk => ⟨(.inr (Nat.le_trans (below_size bel) hk)), Kd.fresh' (Kd.N_lt (nL HO134.out)) k_ hk⟩)); (case aO => exact (nL HO142.out)); (case aS => exact (below_size bel)); (case aL => have := LMc25.out; omega); intro v144 w30 ho hb hg hat; rw [← Ny143.out] at ho; have n0_ := Aside0.mk (Kd.V_afterv (ok := (fun k_ => (P0_ k_ ∨ w.heap.size ≤ k_) ∧ some k_ ≠ (v133 : Value).ownBlock)) (vL HO0.out) hg hat); have n1_ := Aside0.mk (Kd.V_afterv (ok := (fun k_ => (P0_ k_ ∨ w.heap.size ≤ k_) ∧ some k_ ≠ (v133 : Value).ownBlock)) (vL HO128.out) hg hat); have n2_ := Aside0.mk (Kd.V_afterv (ok := (fun k_ => (P0_ k_ ∨ w.heap.size ≤ k_) ∧ some k_ ≠ (v133 : Value).ownBlock)) (vL HO131.out) hg hat); have n3_ := Aside0.mk (Kd.N_afterv (ok := (fun k_ => (P0_ k_ ∨ w.heap.size ≤ k_))) (nL HO134.out) hg hat); have n4_ := Aside0.mk (Kd.V_afterv (ok := (fun k_ => (P0_ k_ ∨ w.heap.size ≤ k_) ∧ some k_ ≠ (v133 : Value).ownBlock)) (vL HO139.out) hg hat); have n5_ := Aside0.mk (hb); have n6_ := Aside0.mk (ho); clear HO0; clear HO128; clear HO131; clear HO134; clear HO139; clear HB; clear HO142; have HO0 := n0_; have HO128 := n1_; have HO131 := n2_; have HO134 := n3_; have HO139 := n4_; have HB := n5_; have HO145 := n6_; clear n0_ n1_ n2_ n3_ n4_ n5_ n6_; clear ho hb hg hat))
      go_ret
      exact ⟨_, by first | rfl | (simp [errW_none, errW_some] <;> rfl) | (simp [*, errW_none, errW_some] <;> rfl), by (with_reducible repeat (first | apply Kd.N_alloc | apply Kd.N_drewN | apply Kd.N_drew)); exact Kd.N_mono HO145.out (fun _ hk => hk.1), by repeat (first | (with_reducible first | exact HB.out | apply below_alloc | apply pw_below_drewN | apply below_drew1) | exact HB.out)⟩
     ·rw [if_neg c25] at H
      exact absurd H (by simp)
    ·rw [if_neg c20] at H
     exact absurd H (by simp)
   ·rw [if_neg c19] at H
    exact absurd H (by simp)

/-! ### imprimaturref06_Prove: function 29 -/
def imprimaturref06_Prove.f (k : Nat) (l0 : List (List Int)) (a1 : Int) : Option ((List (List Int)) × Int) := (imprimaturref06_ok.f k l0).bind fun t146 => (if t146 = 0 then (if a1 < 0 then (some (([] : List (List Int)), 1)) else (if a1 ≥ (l0.length : Int) then (some (([] : List (List Int)), 1)) else ((imprimaturref06_walk.f k l0 a1).bind fun t147 => (some (t147, 0))))) else (some (([] : List (List Int)), t146)))
theorem imprimaturref06_Prove.mono : ∀ a0 a1 k, LeO (imprimaturref06_Prove.f k a0 a1) (imprimaturref06_Prove.f (k + 1) a0 a1) := by
 intro a0 a1 k
 unfold imprimaturref06_Prove.f
 repeat' first
   | (with_reducible exact imprimaturref06_ok.mono _ _)
   | (with_reducible exact imprimaturref06_walk.mono _ _ _)
   | (with_reducible exact LeO.refl _)
   | (with_reducible exact LeO.none _)
   | (with_reducible refine LeO.ite ?_ ?_)
   | (with_reducible refine LeO.bind ?_ (fun _ => ?_))
   | exact imprimaturref06_ok.mono _ _
   | exact imprimaturref06_walk.mono _ _ _
   | exact LeO.none _
   | refine LeO.ite ?_ ?_
   | refine LeO.bind ?_ (fun _ => ?_)
set_option maxHeartbeats 8000000 in
set_option maxRecDepth 100000 in
theorem imprimaturref06_Prove.calls (k : Nat) (P0_ : Nat → Prop) (A0 : Option Addr) (c0 : Nat) (l0 : List (List Int)) (a1 : Int) (r1 : List (List Int)) (r2 : Int) (w : World) (hs0 : Kd.V (Kd.slice 5 (Kd.int .u8)) 22 w w.heap.size (fun k_ => P0_ k_) (.slice A0 l0.length c0) l0) (h : imprimaturref06_Prove.f k l0 a1 = some (r1, r2)) :
  Calls Tryd.prog 29 #[.slice A0 l0.length c0, .int .i64 a1] w fun e w' => ∃ v0_ : Value, e = .returned (.tuple #[v0_, .int .i64 r2]) ∧ Kd.N (Kd.slice 5 (Kd.int .u8)) 22 w' w.heap.size (fun k_ => (P0_ k_ ∨ w.heap.size ≤ k_)) v0_ r1 ∧ Below w.heap.size w w' := by
 have HO0 := Aside0.mk (show Kd.V (Kd.slice 5 (Kd.int .u8)) 22 w w.heap.size (fun k_ => (P0_ k_ ∨ w.heap.size ≤ k_)) (.slice A0 l0.length c0) l0 from Kd.V_mono hs0 (fun k_ hk => .inl hk))
 have HB := Aside0.mk (Below.refl w.heap.size w)
 have H : ((imprimaturref06_ok.f k l0).bind fun t146 => (if t146 = 0 then (if a1 < 0 then (some (([] : List (List Int)), 1)) else (if a1 ≥ (l0.length : Int) then (some (([] : List (List Int)), 1)) else ((imprimaturref06_walk.f k l0 a1).bind fun t147 => (some (t147, 0))))) else (some (([] : List (List Int)), t146)))) = some (r1, r2) := h
 clear h
 replace H := Option.bind_eq_some_iff.mp H
 obtain ⟨t146, A30, H⟩ := H
 replace H : (if t146 = 0 then (if a1 < 0 then (some (([] : List (List Int)), 1)) else (if a1 ≥ (l0.length : Int) then (some (([] : List (List Int)), 1)) else ((imprimaturref06_walk.f k l0 a1).bind fun t147 => (some (t147, 0))))) else (some (([] : List (List Int)), t146))) = some (r1, r2) := H
 have A3 := Aside0.mk A30
 clear A30
 by_cases c4 : t146 = 0
 ·rw [if_pos c4] at H
  have c4b0 : (t146 == 0) = true := beq_iff_eq.mpr c4
  have c4b1 : (t146 != 0) = false := bne_eq_false_iff_eq.mpr c4
  clear c4
  by_cases c5 : a1 < 0
  ·rw [if_pos c5] at H
   have c5b0 : decide (a1 < 0) = true := decide_eq_true c5
   clear c5
   simp only [Option.some.injEq, Prod.mk.injEq] at H
   obtain ⟨rfl, rfl⟩ := H
   go_enter Tryd.func29, Tryd.ntmps29
   go_wp2_with (first | ((with_reducible refine gate_callee (f := 59) rfl ?_); refine goesL_ (some 8) rfl rfl Tryd.func59 (by kernel_rfl) rfl #[.slice A0 l0.length c0] rfl eqA ?_; (with_reducible refine (imprimaturref06_ok.calls k _ _ l0 t146 _ ?side1 ?side2 A3.out).mono ?_); (case side1 => exact cL (Kd.V_reads' HO0.out).2.2); (case side2 => exact (Kd.V_reads' HO0.out).2.1); rintro e w' ⟨rfl, ⟨nd, rfl⟩⟩; refine ⟨_, rfl, ?_⟩))
   go_ret2
   exact ⟨_, by first | rfl | (simp [errW_none, errW_some] <;> rfl) | (simp [*, errW_none, errW_some] <;> rfl), by first | exact Kd.S_nil _ _ _ _ _ | exact Kd.N_nil _ _ _ _ _ | exact Kd.V_nil _ _ _ _ _ | exact Kd.Q_nil _ _ _ _ _ | exact Kd.R_nil _ _ _ _ _, by repeat (first | (with_reducible first | exact HB.out | apply below_alloc | apply pw_below_drewN | apply below_drew1) | exact HB.out)⟩
  ·rw [if_neg c5] at H
   have c5b0 : decide (a1 < 0) = false := decide_eq_false c5
   clear c5
   by_cases c6 : a1 ≥ (l0.length : Int)
   ·rw [if_pos c6] at H
    have c6b0 : decide ((l0.length : Int) ≤ a1) = true := decide_eq_true c6
    clear c6
    simp only [Option.some.injEq, Prod.mk.injEq] at H
    obtain ⟨rfl, rfl⟩ := H
    go_enter Tryd.func29, Tryd.ntmps29
    go_wp2_with (first | ((with_reducible refine gate_callee (f := 59) rfl ?_); refine goesL_ (some 8) rfl rfl Tryd.func59 (by kernel_rfl) rfl #[.slice A0 l0.length c0] rfl eqA ?_; (with_reducible refine (imprimaturref06_ok.calls k _ _ l0 t146 _ ?side1 ?side2 A3.out).mono ?_); (case side1 => exact cL (Kd.V_reads' HO0.out).2.2); (case side2 => exact (Kd.V_reads' HO0.out).2.1); rintro e w' ⟨rfl, ⟨nd, rfl⟩⟩; refine ⟨_, rfl, ?_⟩))
    go_ret2
    exact ⟨_, by first | rfl | (simp [errW_none, errW_some] <;> rfl) | (simp [*, errW_none, errW_some] <;> rfl), by first | exact Kd.S_nil _ _ _ _ _ | exact Kd.N_nil _ _ _ _ _ | exact Kd.V_nil _ _ _ _ _ | exact Kd.Q_nil _ _ _ _ _ | exact Kd.R_nil _ _ _ _ _, by repeat (first | (with_reducible first | exact HB.out | apply below_alloc | apply pw_below_drewN | apply below_drew1) | exact HB.out)⟩
   ·rw [if_neg c6] at H
    have c6b0 : decide ((l0.length : Int) ≤ a1) = false := decide_eq_false c6
    clear c6
    replace H := Option.bind_eq_some_iff.mp H
    obtain ⟨t147, A70, H⟩ := H
    replace H : (some (t147, 0)) = some (r1, r2) := H
    have A7 := Aside0.mk A70
    clear A70
    simp only [Option.some.injEq, Prod.mk.injEq] at H
    obtain ⟨rfl, rfl⟩ := H
    go_enter Tryd.func29, Tryd.ntmps29
    go_wp2_with (first | ((with_reducible refine gate_callee (f := 59) rfl ?_); refine goesL_ (some 8) rfl rfl Tryd.func59 (by kernel_rfl) rfl #[.slice A0 l0.length c0] rfl eqA ?_; (with_reducible refine (imprimaturref06_ok.calls k _ _ l0 t146 _ ?side1 ?side2 A3.out).mono ?_); (case side1 => exact cL (Kd.V_reads' HO0.out).2.2); (case side2 => exact (Kd.V_reads' HO0.out).2.1); rintro e w' ⟨rfl, ⟨nd, rfl⟩⟩; refine ⟨_, rfl, ?_⟩) | ((with_reducible refine gate_callee (f := 60) rfl ?_); refine goesL_ (some 22) rfl rfl Tryd.func60 (by kernel_rfl) rfl #[.slice A0 l0.length c0, .int .i64 a1] rfl eqA ?_; (with_reducible refine (imprimaturref06_walk.calls k (fun k_ => (P0_ k_ ∨ w.heap.size ≤ k_)) _ _ l0 a1 t147 _ ?side1 A7.out).mono ?_); (case side1 => exact HO0.out); rintro e w8 ⟨v148, rfl, ho0, hb⟩; refine ⟨_, rfl, ?_⟩; have n0_ := Aside0.mk (Kd.V_elder' (vL HO0.out) (Kd.N_base ho0) hb); have n1_ := Aside0.mk (Kd.N_lower (Kd.N_mono (ok' := fun k_ => (P0_ k_ ∨ w.heap.size ≤ k_)) ho0 (fun k_ hk_ => Or.elim hk_ (fun hs_ => hs_) (fun hn_ => (.inr (Nat.le_trans (below_size bel) hn_))))) (below_size bel)); have n2_ := Aside0.mk (below_step bel hb); clear HO0; clear HB; have HO0 := n0_; have HO149 := n1_; have HB := n2_; clear n0_ n1_ n2_; (try clear hb); (try clear hb2); (try clear hk); (try clear hi); (try clear ho0)))
    go_ret2
    exact ⟨_, by first | rfl | (simp [errW_none, errW_some] <;> rfl) | (simp [*, errW_none, errW_some] <;> rfl), by (with_reducible repeat (first | apply Kd.N_alloc | apply Kd.N_drewN | apply Kd.N_drew)); exact HO149.out, by repeat (first | (with_reducible first | exact HB.out | apply below_alloc | apply pw_below_drewN | apply below_drew1) | exact HB.out)⟩
 ·rw [if_neg c4] at H
  have c4b0 : (t146 == 0) = false := beq_eq_false_iff_ne.mpr c4
  have c4b1 : (t146 != 0) = true := bne_iff_ne.mpr c4
  simp only [Option.some.injEq, Prod.mk.injEq] at H
  obtain ⟨rfl, rfl⟩ := H
  go_enter Tryd.func29, Tryd.ntmps29
  go_wp2_with (first | ((with_reducible refine gate_callee (f := 59) rfl ?_); refine goesL_ (some 8) rfl rfl Tryd.func59 (by kernel_rfl) rfl #[.slice A0 l0.length c0] rfl eqA ?_; (with_reducible refine (imprimaturref06_ok.calls k _ _ l0 t146 _ ?side1 ?side2 A3.out).mono ?_); (case side1 => exact cL (Kd.V_reads' HO0.out).2.2); (case side2 => exact (Kd.V_reads' HO0.out).2.1); rintro e w' ⟨rfl, ⟨nd, rfl⟩⟩; refine ⟨_, rfl, ?_⟩))
  go_ret2
  exact ⟨_, by first | rfl | (simp [errW_none, errW_some] <;> rfl) | (simp [*, errW_none, errW_some] <;> rfl), by first | exact Kd.S_nil _ _ _ _ _ | exact Kd.N_nil _ _ _ _ _ | exact Kd.V_nil _ _ _ _ _ | exact Kd.Q_nil _ _ _ _ _ | exact Kd.R_nil _ _ _ _ _, by repeat (first | (with_reducible first | exact HB.out | apply below_alloc | apply pw_below_drewN | apply below_drew1) | exact HB.out)⟩

end Go.Proofs.YtdpdmmbdoeefbaaDoor.PRc
