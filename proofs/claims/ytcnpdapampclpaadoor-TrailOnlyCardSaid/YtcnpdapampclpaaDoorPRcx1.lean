-- Written by a program of this session, after the print of the kit.
import Derived.Test.YtcnpdapampclpaaDoorWC
import Derived.Test.YtcnpdapampclpaaDoorPRcx0
namespace Go.Proofs.YtcnpdapampclpaaDoor.PRc
open Go.RowKit Go.Proofs.YtcnpdapampclpaaDoor.X Go.Proofs.YtcnpdapampclpaaDoor.PRa Go.Proofs.YtcnpdapampclpaaDoor.PRb Go.Proofs.YtcnpdapampclpaaDoorW.PrintWords Go.Proofs.YtcnpdapampclpaaDoorW.PrintLast Go.Proofs.YtcnpdapampclpaaDoorW.PrintMore
attribute [local go_sem] max2_int min2_int max_two min_two max_three min_three max_four min_four   -- for this text's walks alone
set_option linter.unusedVariables false
set_option linter.unusedSimpArgs false

/-! ### imprimaturref20_Way: function 30 -/
def imprimaturref20_Way.f : Nat → List (List Int) → Int → Option ((List (List Int)))
 | 0, _, _ => none
 | k + 1, l0, a1 => if (l0.length : Int) = 1 then (some ([] : List (List Int))) else ((imprimaturref06_Half.f k (l0.length : Int)).bind fun t101 => (if a1 < t101 then (if 0 ≤ t101 then (if t101 ≤ (l0.length : Int) then ((imprimaturref20_Way.f k (l0.take (t101 : Int).toNat) a1).bind fun t107 => ((imprimaturref20_Top.f k (l0.drop (t101 : Int).toNat)).bind fun t115 => (if t107.length < 5864062014805 then (some (t107 ++ [t115])) else (none)))) else (none)) else (none)) else (if 0 ≤ t101 then (if t101 ≤ (l0.length : Int) then ((imprimaturref20_Way.f k (l0.drop (t101 : Int).toNat) (wrap64 (a1 - t101))).bind fun t126 => ((imprimaturref20_Top.f k (l0.take (t101 : Int).toNat)).bind fun t134 => (if t126.length < 5864062014805 then (some (t126 ++ [t134])) else (none)))) else (none)) else (none))))
theorem imprimaturref20_Way.mono_l : ∀ k, (∀ y0 y1, LeO (imprimaturref20_Way.f k y0 y1) (imprimaturref20_Way.f (k + 1) y0 y1))
 | 0 => fun _ _ r h => by simp [imprimaturref20_Way.f] at h
 | k + 1 => by
  have ih0 := imprimaturref20_Way.mono_l k
  ·intro y0 y1
   unfold imprimaturref20_Way.f
   repeat' first
   | (with_reducible exact ih0 _ _)
   | (with_reducible exact imprimaturref06_Half.mono _ _)
   | (with_reducible exact imprimaturref20_Top.mono _ _)
   | (with_reducible exact LeO.refl _)
   | (with_reducible exact LeO.none _)
   | (with_reducible refine LeO.ite ?_ ?_)
   | (with_reducible refine LeO.bind ?_ (fun _ => ?_))
   | exact ih0 _ _
   | exact imprimaturref06_Half.mono _ _
   | exact imprimaturref20_Top.mono _ _
   | exact LeO.none _
   | refine LeO.ite ?_ ?_
   | refine LeO.bind ?_ (fun _ => ?_)
theorem imprimaturref20_Way.mono : ∀ a0 a1 k, LeO (imprimaturref20_Way.f k a0 a1) (imprimaturref20_Way.f (k + 1) a0 a1) := by
 intro a0 a1 k
 have ih0 := imprimaturref20_Way.mono_l k
 exact ih0 a0 a1
def imprimaturref20_Way.T5 : Bool × List (List Nat × List Nat) := (true, [([], []), ([], []), ([0, 1], [0, 1]), ([], []), ([2, 3], [2, 3]), ([], []), ([], []), ([5, 6], [5, 6]), ([7, 4], [7]), ([8], [8]), ([4, 9, 8], [4, 9]), ([10, 10, 0, 1, 2, 3, 4, 5, 6, 7, 8, 9, 10], [10])])
def imprimaturref20_Way.B5 : List Nat := [0, 0, 3, 0, 15, 0, 0, 96, 255, 511, 1023, 2047]
theorem imprimaturref20_Way.tab5 : rtab .any (opsOf Tryd.f30 5) = imprimaturref20_Way.T5 := by kernel_rfl
theorem imprimaturref20_Way.bits5 : waitsOk imprimaturref20_Way.T5.2 imprimaturref20_Way.B5 = true := by kernel_rfl
def imprimaturref20_Way.T6 : Bool × List (List Nat × List Nat) := (true, [([], []), ([], []), ([0, 1], [0, 1]), ([], []), ([], []), ([3, 4], [3, 4]), ([2, 5], [2, 5]), ([], []), ([], []), ([7, 8], [7, 8]), ([9, 6], [9]), ([10], [10]), ([6, 11, 10], [6, 11]), ([12, 12, 0, 1, 2, 3, 4, 5, 6, 7, 8, 9, 10, 11, 12], [12])])
def imprimaturref20_Way.B6 : List Nat := [0, 0, 3, 0, 0, 24, 63, 0, 0, 384, 1023, 2047, 4095, 8191]
theorem imprimaturref20_Way.tab6 : rtab .any (opsOf Tryd.f30 6) = imprimaturref20_Way.T6 := by kernel_rfl
theorem imprimaturref20_Way.bits6 : waitsOk imprimaturref20_Way.T6.2 imprimaturref20_Way.B6 = true := by kernel_rfl
set_option maxHeartbeats 8000000 in
set_option maxRecDepth 100000 in
theorem imprimaturref20_Way.calls (k : Nat) : ∀ (P0_ : Nat → Prop) (A0 : Option Addr) (c0 : Nat) (l0 : List (List Int)) (a1 : Int) (r : List (List Int)) (w : World) (hs0 : Kd.V (Kd.slice 5 (Kd.int .u8)) 23 w w.heap.size (fun k_ => P0_ k_) (.slice A0 l0.length c0) l0) (h : imprimaturref20_Way.f k l0 a1 = some r),
  Calls Tryd.prog 30 #[.slice A0 l0.length c0, .int .i64 a1] w fun e w' => ∃ v0_ : Value, e = .returned (v0_) ∧ Kd.N (Kd.slice 5 (Kd.int .u8)) 23 w' w.heap.size (fun k_ => (P0_ k_ ∨ w.heap.size ≤ k_)) v0_ r ∧ Below w.heap.size w w' := by
 induction k using Nat.strongRecOn with
 | _ k ih =>
 intro P0_ A0 c0 l0 a1 r w hs0 h
 cases k with
 | zero => exact absurd h (by simp [imprimaturref20_Way.f])
 | succ k =>
 simp only [imprimaturref20_Way.f] at h
 have HO0 := Aside0.mk (show Kd.V (Kd.slice 5 (Kd.int .u8)) 23 w w.heap.size (fun k_ => (P0_ k_ ∨ w.heap.size ≤ k_)) (.slice A0 l0.length c0) l0 from Kd.V_mono hs0 (fun k_ hk => .inl hk))
 have HB := Aside0.mk (Below.refl w.heap.size w)
 have H : (if (l0.length : Int) = 1 then (some ([] : List (List Int))) else ((imprimaturref06_Half.f k (l0.length : Int)).bind fun t101 => (if a1 < t101 then (if 0 ≤ t101 then (if t101 ≤ (l0.length : Int) then ((imprimaturref20_Way.f k (l0.take (t101 : Int).toNat) a1).bind fun t107 => ((imprimaturref20_Top.f k (l0.drop (t101 : Int).toNat)).bind fun t115 => (if t107.length < 5864062014805 then (some (t107 ++ [t115])) else (none)))) else (none)) else (none)) else (if 0 ≤ t101 then (if t101 ≤ (l0.length : Int) then ((imprimaturref20_Way.f k (l0.drop (t101 : Int).toNat) (wrap64 (a1 - t101))).bind fun t126 => ((imprimaturref20_Top.f k (l0.take (t101 : Int).toNat)).bind fun t134 => (if t126.length < 5864062014805 then (some (t126 ++ [t134])) else (none)))) else (none)) else (none))))) = some r := h
 clear h
 by_cases c3 : (l0.length : Int) = 1
 ·rw [if_pos c3] at H
  have c3b0 : ((l0.length : Int) == 1) = true := beq_iff_eq.mpr c3
  have c3b1 : ((l0.length : Int) != 1) = false := bne_eq_false_iff_eq.mpr c3
  clear c3
  obtain rfl := Option.some.inj H
  go_enter Tryd.func30, Tryd.ntmps30
  go_wp2
  go_ret
  exact ⟨_, by first | rfl | (simp [errW_none, errW_some] <;> rfl) | (simp [*, errW_none, errW_some] <;> rfl), by first | exact Kd.S_nil _ _ _ _ _ | exact Kd.N_nil _ _ _ _ _ | exact Kd.V_nil _ _ _ _ _ | exact Kd.Q_nil _ _ _ _ _ | exact Kd.R_nil _ _ _ _ _, by repeat (first | (with_reducible first | exact HB.out | apply below_alloc | apply pw_below_drewN | apply below_drew1) | exact HB.out)⟩
 ·rw [if_neg c3] at H
  have c3b0 : ((l0.length : Int) == 1) = false := beq_eq_false_iff_ne.mpr c3
  have c3b1 : ((l0.length : Int) != 1) = true := bne_iff_ne.mpr c3
  replace H := Option.bind_eq_some_iff.mp H
  obtain ⟨t101, A40, H⟩ := H
  replace H : (if a1 < t101 then (if 0 ≤ t101 then (if t101 ≤ (l0.length : Int) then ((imprimaturref20_Way.f k (l0.take (t101 : Int).toNat) a1).bind fun t107 => ((imprimaturref20_Top.f k (l0.drop (t101 : Int).toNat)).bind fun t115 => (if t107.length < 5864062014805 then (some (t107 ++ [t115])) else (none)))) else (none)) else (none)) else (if 0 ≤ t101 then (if t101 ≤ (l0.length : Int) then ((imprimaturref20_Way.f k (l0.drop (t101 : Int).toNat) (wrap64 (a1 - t101))).bind fun t126 => ((imprimaturref20_Top.f k (l0.take (t101 : Int).toNat)).bind fun t134 => (if t126.length < 5864062014805 then (some (t126 ++ [t134])) else (none)))) else (none)) else (none))) = some r := H
  have A4 := Aside0.mk A40
  clear A40
  by_cases c5 : a1 < t101
  ·rw [if_pos c5] at H
   have c5b0 : decide (a1 < t101) = true := decide_eq_true c5
   clear c5
   by_cases c6 : 0 ≤ t101
   ·rw [if_pos c6] at H
    have c6b0 := eq_true c6
    have c6b1 : decide (0 ≤ t101) = true := decide_eq_true c6
    clear c6
    by_cases c7 : t101 ≤ (l0.length : Int)
    ·rw [if_pos c7] at H
     have c7b0 := eq_true c7
     have c7b1 : decide (t101 ≤ (l0.length : Int)) = true := decide_eq_true c7
     clear c7
     obtain ⟨y102, hy102⟩ : ∃ y_ : List (List Int), y_ = (l0.take (t101 : Int).toNat) := ⟨_, rfl⟩
     replace H : ((imprimaturref20_Way.f k y102 a1).bind fun t107 => ((imprimaturref20_Top.f k (l0.drop (t101 : Int).toNat)).bind fun t115 => (if t107.length < 5864062014805 then (some (t107 ++ [t115])) else (none)))) = some r := hyA hy102 H
     have Ny102 := Aside0.mk hy102
     clear hy102
     replace H := Option.bind_eq_some_iff.mp H
     obtain ⟨t107, A80, H⟩ := H
     replace H : ((imprimaturref20_Top.f k (l0.drop (t101 : Int).toNat)).bind fun t115 => (if t107.length < 5864062014805 then (some (t107 ++ [t115])) else (none))) = some r := H
     have A8 := Aside0.mk A80
     clear A80
     have c9b0 := eq_true (of_decide_eq_true asm_ : 0 ≤ t101)
     have c10b0 := eq_true (of_decide_eq_true asm_ : t101 ≤ (l0.length : Int))
     obtain ⟨y110, hy110⟩ : ∃ y_ : List (List Int), y_ = (l0.drop (t101 : Int).toNat) := ⟨_, rfl⟩
     replace H : ((imprimaturref20_Top.f k y110).bind fun t115 => (if t107.length < 5864062014805 then (some (t107 ++ [t115])) else (none))) = some r := hyA hy110 H
     have Ny110 := Aside0.mk hy110
     clear hy110
     replace H := Option.bind_eq_some_iff.mp H
     obtain ⟨t115, A110, H⟩ := H
     replace H : (if t107.length < 5864062014805 then (some (t107 ++ [t115])) else (none)) = some r := H
     have A11 := Aside0.mk A110
     clear A110
     by_cases c12 : t107.length < 5864062014805
     ·rw [if_pos c12] at H
      have LMc12 := Aside0.mk c12
      clear c12
      obtain ⟨y118, hy118⟩ : ∃ y_ : List (List Int), y_ = (t107 ++ [t115]) := ⟨_, rfl⟩
      replace H : (some y118) = some r := hyA hy118 H
      have Ny118 := Aside0.mk hy118
      clear hy118
      obtain rfl := Option.some.inj H
      go_enter Tryd.func30, Tryd.ntmps30
      try go_wp2_with (first | ((with_reducible refine gate_callee (f := 51) rfl ?_); refine goesL_ (some 11) rfl rfl Tryd.func51 (by kernel_rfl) rfl #[.int .i64 (l0.length : Int)] rfl eqA ?_; (with_reducible refine (imprimaturref06_Half.calls k (l0.length : Int) t101 _ A4.out).mono ?_); rintro e w' ⟨rfl, ⟨nd, rfl⟩⟩; refine ⟨_, rfl, ?_⟩))
      have n0_ := Aside0.mk (Kd.V_drew (Kd.V_drewN HO0.out nd))
      have n1_ := Aside0.mk (below_drew1 (pw_below_drewN HB.out nd))
      clear HO0
      clear HB
      have HO0 := n0_
      have HB := n1_
      clear n0_ n1_
      have q14 : (t101 : Int) ≤ ((l0.length : Int) : Int) := of_decide_eq_true asm_
      obtain ⟨i014, hi014, _, hsz14, _⟩ := info_parts info23
      have hroom14 : l0.length ≤ c0 := (Kd.V_reads' HO0.out).2.1
      have hC14 : Kd.F (Kd.slice 5 (Kd.int .u8)) _ _ A0 l0.length l0 := (Kd.V_at (base := w.heap.size) HO0.out).2.2
      have hcut14 := cut_to (P := Tryd.prog) 22 23 .i64 Tryd.underlying22 hi014 A0 l0.length c0 t101 (of_decide_eq_true asm_) q14 hroom14
      have hr14 := Kd.F_take (m := (t101 : Int).toNat) hC14 (by omega)
      have hy14 : y102.length = (t101 : Int).toNat := (by rw [Ny102.out, List.length_take]; omega)
      rw [← Ny102.out] at hr14
      rw [← hy14] at hcut14
      have HO106 := Aside0.mk (show Kd.V (Kd.slice 5 (Kd.int .u8)) 23 _ w.heap.size _ (.slice A0 y102.length c0) y102 from Kd.V_mk (by omega) hr14)
      have HC106 := Aside0.mk (show y102.length ≤ c0 from by omega)
      clear hr14 hC14 hroom14 hi014 hsz14
      have KY14 := Aside0.mk hy14
      clear hy14
      replace q14 := eq_true q14
      have q15 : (t101 : Int) ≤ ((l0.length : Int) : Int) := of_decide_eq_true asm_
      obtain ⟨i015, hi015, _, hsz15, _⟩ := info_parts info23
      have hroom15 : l0.length ≤ c0 := (Kd.V_reads' HO0.out).2.1
      have hC15 : Kd.F (Kd.slice 5 (Kd.int .u8)) _ _ A0 l0.length l0 := (Kd.V_at (base := w.heap.size) HO0.out).2.2
      have q015 : (0 : Int) ≤ (t101 : Int) := of_decide_eq_true asm_
      have hcut15 := cut_from (P := Tryd.prog) 22 23 .i64 Tryd.underlying22 hi015 1 hsz15 A0 l0.length c0 t101 q015 q15
      have hr15 := Kd.F_cut (m := (t101 : Int).toNat) (c := c0) hC15 (by omega) hroom15
      obtain ⟨A15, hA15⟩ : ∃ A1, A1 = (if c0 = (t101 : Int).toNat then A0 else (A0 : Option Addr).map (·.add ((t101 : Int).toNat * 1))) := ⟨_, rfl⟩
      obtain ⟨c15, hc15⟩ : ∃ c1, c1 = c0 - (t101 : Int).toNat := ⟨_, rfl⟩
      have hy15 : y110.length = l0.length - (t101 : Int).toNat := (by rw [Ny110.out, List.length_drop] <;> omega)
      rw [show (l0).drop (t101 : Int).toNat = y110 from Ny110.out.symm] at hr15
      replace hr15 : Kd.F (Kd.slice 5 (Kd.int .u8)) _ _ A15 y110.length y110 := (by rw [hA15]; exact hr15)
      rw [← hy15, ← hA15, ← hc15] at hcut15
      have HO114 := Aside0.mk (show Kd.V (Kd.slice 5 (Kd.int .u8)) 23 _ w.heap.size _ (.slice A15 y110.length c15) y110 from Kd.V_mk (by rw [hy15, hc15]; exact Nat.sub_le_sub_right hroom15 _) hr15)
      have HC114 := Aside0.mk (show y110.length ≤ c15 from by rw [hy15, hc15]; exact Nat.sub_le_sub_right hroom15 _)
      clear hr15 hC15 hroom15 hi015 hsz15 hc15
      have KY15 := Aside0.mk hy15
      have KA15 := Aside0.mk hA15
      clear hy15 hA15
      replace q15 := eq_true q15
      refine start_ (n := 12) (S := fun w' => True) (ds := []) (fl 12 0) (by kernel_rfl) rfl rfl trivial (fun hHeld => ?_); refine with_tabW imprimaturref20_Way.tab5 imprimaturref20_Way.bits5 (fun HT_ HW_ => ?_)
      generalize (w.drewN nd).drew = w13 at HO0 HB HO106 HO114 hHeld ⊢
      refine pureA (i := 0) (N := some 15) (fl 12 1) (any_of HT_.out (by kernel_rfl)) ?_
      refine pureA (i := 1) (N := some 16) (fl 12 3) (any_of HT_.out (by kernel_rfl)) ?_
      refine pureA (i := 2) (N := some 17) (fl 12 7) (any_of HT_.out (by kernel_rfl)) ?_
      refine pureA (i := 3) (N := some 18) (fl 12 15) (any_of HT_.out (by kernel_rfl)) ?_
      refine pureA (i := 5) (N := some 20) (fl 12 47) (any_of HT_.out (by kernel_rfl)) ?_
      refine pureA (i := 6) (N := some 21) (fl 12 111) (any_of HT_.out (by kernel_rfl)) ?_
      refine pureA (i := 7) (N := some 22) (fl 12 239) (any_of HT_.out (by kernel_rfl)) ?_
      refine one_ (i := 4) (N := some 19) (fl 12 255) rfl rfl (one_of HT_.out (by kernel_rfl)) (by decide) (fun K hK => ?_)
      refine goes_ Tryd.func30 (by kernel_rfl) rfl #[.slice A0 y102.length c0, .int .i64 a1] (by rfl) rfl rfl eqA ?_
      with_reducible refine (ih k (by omega) (fun k_ => (P0_ k_ ∨ w.heap.size ≤ k_)) _ _ y102 a1 t107 _ ?side1 A8.out).mono ?_
      (case side1 => exact HO106.out)
      rintro e w16 ⟨v108, rfl, ho0, hb⟩
      refine ⟨_, rfl, ?_⟩
      have n0_ := Aside0.mk (Kd.V_elder' (vL HO0.out) (Kd.N_base ho0) hb)
      have n1_ := Aside0.mk (Kd.V_elder' (vL HO106.out) (Kd.N_base ho0) hb)
      have n2_ := Aside0.mk (Kd.V_elder' (vL HO114.out) (Kd.N_base ho0) hb)
      have n3_ := Aside0.mk (Kd.N_lower (Kd.N_mono (ok' := fun k_ => (P0_ k_ ∨ w.heap.size ≤ k_)) ho0 (fun k_ hk_ => Or.elim hk_ (fun hs_ => hs_) (fun hn_ => (.inr (Nat.le_trans (below_size bel) hn_))))) (below_size bel))
      have n4_ := Aside0.mk (below_step bel hb)
      clear HO0
      clear HO106
      clear HO114
      clear HB
      have HO0 := n0_
      have HO106 := n1_
      have HO114 := n2_
      have HO109 := n3_
      have HB := n4_
      clear n0_ n1_ n2_ n3_ n4_
      (try clear hb)
      (try clear hb2)
      (try clear hk)
      (try clear hi)
      (try clear ho0)
      refine hK.out _ _ trivial (fun hHeld => ?_)
      clear hK K
      refine normA (some 19) ?_
      refine one_ (i := 8) (N := some 23) (fl 12 511) rfl rfl (one_of HT_.out (by kernel_rfl)) (by decide) (fun K hK => ?_)
      refine goes_ Tryd.func23 (by kernel_rfl) rfl #[.slice A15 y110.length c15] (by rfl) rfl rfl eqA ?_
      with_reducible refine (imprimaturref20_Top.calls k (fun k_ => ((P0_ k_ ∨ w.heap.size ≤ k_) ∧ some k_ ≠ (v108 : Value).ownBlock)) _ _ y110 t115 _ ?side1 A11.out).mono ?_
      (case side1 => exact HO114.out)
      rintro e w17 ⟨v116, rfl, ho0, hb⟩
      refine ⟨_, rfl, ?_⟩
      have n0_ := Aside0.mk (Kd.V_below (vL HO0.out) hb)
      have n1_ := Aside0.mk (Kd.V_below (vL HO106.out) hb)
      have n2_ := Aside0.mk (Kd.V_below (vL HO114.out) hb)
      have n3_ := Aside0.mk (Kd.N_below (nL HO109.out) hb)
      have n4_ := Aside0.mk (Kd.V_lower (Kd.V_mono (ok' := fun k_ => (P0_ k_ ∨ w.heap.size ≤ k_) ∧ some k_ ≠ (v108 : Value).ownBlock) ho0 (fun k_ hk_ => ⟨Or.elim hk_ (fun hs_ => hs_.1) (fun hn_ => (.inr (Nat.le_trans (below_size bel) hn_))), Or.elim hk_ (fun hs_ => hs_.2) (fun hn_ => (Kd.fresh' (Kd.N_lt (nL HO109.out)) k_ hn_))⟩)) (below_size bel))
      have n5_ := Aside0.mk (below_step bel hb)
      clear HO0
      clear HO106
      clear HO114
      clear HO109
      clear HB
      have HO0 := n0_
      have HO106 := n1_
      have HO114 := n2_
      have HO109 := n3_
      have HO117 := n4_
      have HB := n5_
      clear n0_ n1_ n2_ n3_ n4_ n5_
      (try clear hb)
      (try clear hb2)
      (try clear hk)
      (try clear hi)
      (try clear ho0)
      obtain ⟨Ao19, co19, eo19⟩ := Kd.V_slice HO117.out
      (first | subst eo19 | (injection eo19 with f1_ f2_ f3_; have f4_ := f1_.symm; have f5_ := f3_.symm; clear f1_ f2_ f3_; subst f4_; subst f5_))
      refine hK.out _ _ trivial (fun hHeld => ?_)
      clear hK K
      refine normA (some 23) ?_
      refine one_ (i := 9) (N := some 24) (fl 12 1023) rfl rfl (one_of HT_.out (by kernel_rfl)) (by decide) (fun K hK => ?_)
      refine value_ (w1 := ?_) (v := ?_) (by rfl) rfl ?_ ?_
      rotate_left 2
      ·go_simp
       constructor
       ·rfl
       ·rfl
      refine hK.out _ _ trivial (fun hHeld => ?_)
      clear hK K
      refine normA (some 24) ?_
      refine one_ (i := 10) (N := some 25) (fl 12 2047) rfl rfl (one_of HT_.out (by kernel_rfl)) (by decide) (fun K hK => ?_)
      refine Kd.N_append_step (Kd.slice 5 (Kd.int .u8)) (w0 := w) w.heap.size (by rfl) (.tmp 19) (.tmp 24) 22 23 (.slice none 0 0) 24 rfl Tryd.underlying22 info23 rfl (by decide) (by omega) v108 t107 t115 [.slice Ao19 t115.length co19] (fun k_ => (P0_ k_ ∨ w.heap.size ≤ k_)) (fun k_ => ((fun k_ => (P0_ k_ ∨ w.heap.size ≤ k_))) k_ ∧ some k_ ≠ (v108 : Value).ownBlock) rfl rfl ?aP (fun _ hk => hk) ?aF ?aO ?aB ?aS ?aL ?_
      (case aP => exact (Kd.FK_slice_mk (Kd.V_reads' (Kd.V_mono (ok' := (fun k_ => ((fun k_ => (P0_ k_ ∨ w.heap.size ≤ k_))) k_ ∧ some k_ ≠ (v108 : Value).ownBlock)) (HO117.out) (fun k_ hk => ⟨hk.1, hk.2⟩))).2.1 (Kd.V_F (Kd.V_mono (ok' := (fun k_ => ((fun k_ => (P0_ k_ ∨ w.heap.size ≤ k_))) k_ ∧ some k_ ≠ (v108 : Value).ownBlock)) (HO117.out) (fun k_ hk => ⟨hk.1, hk.2⟩)))))
      (case aB => exact bel)
      (case aF => exact (fun k_ hk => (.inr (Nat.le_trans (below_size bel) hk))))
      (case aO => exact (nL HO109.out))
      (case aS => exact (below_size bel))
      (case aL => have := LMc12.out; omega)
      intro v119 w18 ho hb hg hat
      rw [← Ny118.out] at ho
      have n0_ := Aside0.mk (Kd.V_afterv (ok := (fun k_ => (P0_ k_ ∨ w.heap.size ≤ k_))) (vL HO0.out) hg hat)
      have n1_ := Aside0.mk (Kd.V_afterv (ok := (fun k_ => (P0_ k_ ∨ w.heap.size ≤ k_))) (vL HO106.out) hg hat)
      have n2_ := Aside0.mk (Kd.V_afterv (ok := (fun k_ => (P0_ k_ ∨ w.heap.size ≤ k_))) (vL HO114.out) hg hat)
      have n3_ := Aside0.mk (Kd.V_afterv (ok := (fun k_ => (P0_ k_ ∨ w.heap.size ≤ k_))) (vL HO117.out) hg hat)
      have n4_ := Aside0.mk (hb)
      have n5_ := Aside0.mk (ho)
      clear HO0
      clear HO106
      clear HO114
      clear HO117
      clear HB
      clear HO109
      have HO0 := n0_
      have HO106 := n1_
      have HO114 := n2_
      have HO117 := n3_
      have HB := n4_
      have HO120 := n5_
      clear n0_ n1_ n2_ n3_ n4_ n5_
      clear ho hb hg hat
      refine hK.out _ _ trivial (fun hHeld => ?_)
      clear hK K
      refine normA (some 25) ?_
      refine pureA (i := 11) (N := some 4) (fl 12 4095) (any_of HT_.out (by kernel_rfl)) ?_
      refine done_ (done_of HT_.out (by kernel_rfl)) ?_
      try go_wp2
      go_ret
      exact ⟨_, by first | rfl | (simp [errW_none, errW_some] <;> rfl) | (simp [*, errW_none, errW_some] <;> rfl), by (with_reducible repeat (first | apply Kd.N_alloc | apply Kd.N_drewN | apply Kd.N_drew)); exact HO120.out, by repeat (first | (with_reducible first | exact HB.out | apply below_alloc | apply pw_below_drewN | apply below_drew1) | exact HB.out)⟩
     ·rw [if_neg c12] at H
      exact absurd H (by simp)
    ·rw [if_neg c7] at H
     exact absurd H (by simp)
   ·rw [if_neg c6] at H
    exact absurd H (by simp)
  ·rw [if_neg c5] at H
   have c5b0 : decide (a1 < t101) = false := decide_eq_false c5
   clear c5
   by_cases c20 : 0 ≤ t101
   ·rw [if_pos c20] at H
    have c20b0 := eq_true c20
    have c20b1 : decide (0 ≤ t101) = true := decide_eq_true c20
    clear c20
    by_cases c21 : t101 ≤ (l0.length : Int)
    ·rw [if_pos c21] at H
     have c21b0 := eq_true c21
     have c21b1 : decide (t101 ≤ (l0.length : Int)) = true := decide_eq_true c21
     clear c21
     obtain ⟨y121, hy121⟩ : ∃ y_ : List (List Int), y_ = (l0.drop (t101 : Int).toNat) := ⟨_, rfl⟩
     replace H : ((imprimaturref20_Way.f k y121 (wrap64 (a1 - t101))).bind fun t126 => ((imprimaturref20_Top.f k (l0.take (t101 : Int).toNat)).bind fun t134 => (if t126.length < 5864062014805 then (some (t126 ++ [t134])) else (none)))) = some r := hyA hy121 H
     have Ny121 := Aside0.mk hy121
     clear hy121
     replace H := Option.bind_eq_some_iff.mp H
     obtain ⟨t126, A220, H⟩ := H
     replace H : ((imprimaturref20_Top.f k (l0.take (t101 : Int).toNat)).bind fun t134 => (if t126.length < 5864062014805 then (some (t126 ++ [t134])) else (none))) = some r := H
     have A22 := Aside0.mk A220
     clear A220
     have c23b0 := eq_true (of_decide_eq_true asm_ : 0 ≤ t101)
     have c24b0 := eq_true (of_decide_eq_true asm_ : t101 ≤ (l0.length : Int))
     obtain ⟨y129, hy129⟩ : ∃ y_ : List (List Int), y_ = (l0.take (t101 : Int).toNat) := ⟨_, rfl⟩
     replace H : ((imprimaturref20_Top.f k y129).bind fun t134 => (if t126.length < 5864062014805 then (some (t126 ++ [t134])) else (none))) = some r := hyA hy129 H
     have Ny129 := Aside0.mk hy129
     clear hy129
     replace H := Option.bind_eq_some_iff.mp H
     obtain ⟨t134, A250, H⟩ := H
     replace H : (if t126.length < 5864062014805 then (some (t126 ++ [t134])) else (none)) = some r := H
     have A25 := Aside0.mk A250
     clear A250
     by_cases c26 : t126.length < 5864062014805
     ·rw [if_pos c26] at H
      have LMc26 := Aside0.mk c26
      clear c26
      obtain ⟨y137, hy137⟩ : ∃ y_ : List (List Int), y_ = (t126 ++ [t134]) := ⟨_, rfl⟩
      replace H : (some y137) = some r := hyA hy137 H
      have Ny137 := Aside0.mk hy137
      clear hy137
      obtain rfl := Option.some.inj H
      go_enter Tryd.func30, Tryd.ntmps30
      try go_wp2_with (first | ((with_reducible refine gate_callee (f := 51) rfl ?_); refine goesL_ (some 11) rfl rfl Tryd.func51 (by kernel_rfl) rfl #[.int .i64 (l0.length : Int)] rfl eqA ?_; (with_reducible refine (imprimaturref06_Half.calls k (l0.length : Int) t101 _ A4.out).mono ?_); rintro e w' ⟨rfl, ⟨nd, rfl⟩⟩; refine ⟨_, rfl, ?_⟩))
      have n0_ := Aside0.mk (Kd.V_drew (Kd.V_drewN HO0.out nd))
      have n1_ := Aside0.mk (below_drew1 (pw_below_drewN HB.out nd))
      clear HO0
      clear HB
      have HO0 := n0_
      have HB := n1_
      clear n0_ n1_
      have q28 : (t101 : Int) ≤ ((l0.length : Int) : Int) := of_decide_eq_true asm_
      obtain ⟨i028, hi028, _, hsz28, _⟩ := info_parts info23
      have hroom28 : l0.length ≤ c0 := (Kd.V_reads' HO0.out).2.1
      have hC28 : Kd.F (Kd.slice 5 (Kd.int .u8)) _ _ A0 l0.length l0 := (Kd.V_at (base := w.heap.size) HO0.out).2.2
      have q028 : (0 : Int) ≤ (t101 : Int) := of_decide_eq_true asm_
      have hcut28 := cut_from (P := Tryd.prog) 22 23 .i64 Tryd.underlying22 hi028 1 hsz28 A0 l0.length c0 t101 q028 q28
      have hr28 := Kd.F_cut (m := (t101 : Int).toNat) (c := c0) hC28 (by omega) hroom28
      obtain ⟨A28, hA28⟩ : ∃ A1, A1 = (if c0 = (t101 : Int).toNat then A0 else (A0 : Option Addr).map (·.add ((t101 : Int).toNat * 1))) := ⟨_, rfl⟩
      obtain ⟨c28, hc28⟩ : ∃ c1, c1 = c0 - (t101 : Int).toNat := ⟨_, rfl⟩
      have hy28 : y121.length = l0.length - (t101 : Int).toNat := (by rw [Ny121.out, List.length_drop] <;> omega)
      rw [show (l0).drop (t101 : Int).toNat = y121 from Ny121.out.symm] at hr28
      replace hr28 : Kd.F (Kd.slice 5 (Kd.int .u8)) _ _ A28 y121.length y121 := (by rw [hA28]; exact hr28)
      rw [← hy28, ← hA28, ← hc28] at hcut28
      have HO125 := Aside0.mk (show Kd.V (Kd.slice 5 (Kd.int .u8)) 23 _ w.heap.size _ (.slice A28 y121.length c28) y121 from Kd.V_mk (by rw [hy28, hc28]; exact Nat.sub_le_sub_right hroom28 _) hr28)
      have HC125 := Aside0.mk (show y121.length ≤ c28 from by rw [hy28, hc28]; exact Nat.sub_le_sub_right hroom28 _)
      clear hr28 hC28 hroom28 hi028 hsz28 hc28
      have KY28 := Aside0.mk hy28
      have KA28 := Aside0.mk hA28
      clear hy28 hA28
      replace q28 := eq_true q28
      have q29 : (t101 : Int) ≤ ((l0.length : Int) : Int) := of_decide_eq_true asm_
      obtain ⟨i029, hi029, _, hsz29, _⟩ := info_parts info23
      have hroom29 : l0.length ≤ c0 := (Kd.V_reads' HO0.out).2.1
      have hC29 : Kd.F (Kd.slice 5 (Kd.int .u8)) _ _ A0 l0.length l0 := (Kd.V_at (base := w.heap.size) HO0.out).2.2
      have hcut29 := cut_to (P := Tryd.prog) 22 23 .i64 Tryd.underlying22 hi029 A0 l0.length c0 t101 (of_decide_eq_true asm_) q29 hroom29
      have hr29 := Kd.F_take (m := (t101 : Int).toNat) hC29 (by omega)
      have hy29 : y129.length = (t101 : Int).toNat := (by rw [Ny129.out, List.length_take]; omega)
      rw [← Ny129.out] at hr29
      rw [← hy29] at hcut29
      have HO133 := Aside0.mk (show Kd.V (Kd.slice 5 (Kd.int .u8)) 23 _ w.heap.size _ (.slice A0 y129.length c0) y129 from Kd.V_mk (by omega) hr29)
      have HC133 := Aside0.mk (show y129.length ≤ c0 from by omega)
      clear hr29 hC29 hroom29 hi029 hsz29
      have KY29 := Aside0.mk hy29
      clear hy29
      replace q29 := eq_true q29
      refine start_ (n := 14) (S := fun w' => True) (ds := []) (fl 14 0) (by kernel_rfl) rfl rfl trivial (fun hHeld => ?_); refine with_tabW imprimaturref20_Way.tab6 imprimaturref20_Way.bits6 (fun HT_ HW_ => ?_)
      generalize (w.drewN nd).drew = w27 at HO0 HB HO125 HO133 hHeld ⊢
      refine pureA (i := 0) (N := some 26) (fl 14 1) (any_of HT_.out (by kernel_rfl)) ?_
      refine pureA (i := 1) (N := some 27) (fl 14 3) (any_of HT_.out (by kernel_rfl)) ?_
      refine pureA (i := 2) (N := some 28) (fl 14 7) (any_of HT_.out (by kernel_rfl)) ?_
      refine pureA (i := 3) (N := some 29) (fl 14 15) (any_of HT_.out (by kernel_rfl)) ?_
      refine pureA (i := 4) (N := some 30) (fl 14 31) (any_of HT_.out (by kernel_rfl)) ?_
      refine pureA (i := 5) (N := some 31) (fl 14 63) (any_of HT_.out (by kernel_rfl)) ?_
      refine pureA (i := 7) (N := some 33) (fl 14 191) (any_of HT_.out (by kernel_rfl)) ?_
      refine pureA (i := 8) (N := some 34) (fl 14 447) (any_of HT_.out (by kernel_rfl)) ?_
      refine pureA (i := 9) (N := some 35) (fl 14 959) (any_of HT_.out (by kernel_rfl)) ?_
      refine one_ (i := 6) (N := some 32) (fl 14 1023) rfl rfl (one_of HT_.out (by kernel_rfl)) (by decide) (fun K hK => ?_)
      refine goes_ Tryd.func30 (by kernel_rfl) rfl #[.slice A28 y121.length c28, .int .i64 (wrap64 (a1 - t101))] (by rfl) rfl rfl eqA ?_
      with_reducible refine (ih k (by omega) (fun k_ => (P0_ k_ ∨ w.heap.size ≤ k_)) _ _ y121 (wrap64 (a1 - t101)) t126 _ ?side1 A22.out).mono ?_
      (case side1 => exact HO125.out)
      rintro e w30 ⟨v127, rfl, ho0, hb⟩
      refine ⟨_, rfl, ?_⟩
      have n0_ := Aside0.mk (Kd.V_elder' (vL HO0.out) (Kd.N_base ho0) hb)
      have n1_ := Aside0.mk (Kd.V_elder' (vL HO125.out) (Kd.N_base ho0) hb)
      have n2_ := Aside0.mk (Kd.V_elder' (vL HO133.out) (Kd.N_base ho0) hb)
      have n3_ := Aside0.mk (Kd.N_lower (Kd.N_mono (ok' := fun k_ => (P0_ k_ ∨ w.heap.size ≤ k_)) ho0 (fun k_ hk_ => Or.elim hk_ (fun hs_ => hs_) (fun hn_ => (.inr (Nat.le_trans (below_size bel) hn_))))) (below_size bel))
      have n4_ := Aside0.mk (below_step bel hb)
      clear HO0
      clear HO125
      clear HO133
      clear HB
      have HO0 := n0_
      have HO125 := n1_
      have HO133 := n2_
      have HO128 := n3_
      have HB := n4_
      clear n0_ n1_ n2_ n3_ n4_
      (try clear hb)
      (try clear hb2)
      (try clear hk)
      (try clear hi)
      (try clear ho0)
      refine hK.out _ _ trivial (fun hHeld => ?_)
      clear hK K
      refine normA (some 32) ?_
      refine one_ (i := 10) (N := some 36) (fl 14 2047) rfl rfl (one_of HT_.out (by kernel_rfl)) (by decide) (fun K hK => ?_)
      refine goes_ Tryd.func23 (by kernel_rfl) rfl #[.slice A0 y129.length c0] (by rfl) rfl rfl eqA ?_
      with_reducible refine (imprimaturref20_Top.calls k (fun k_ => ((P0_ k_ ∨ w.heap.size ≤ k_) ∧ some k_ ≠ (v127 : Value).ownBlock)) _ _ y129 t134 _ ?side1 A25.out).mono ?_
      (case side1 => exact HO133.out)
      rintro e w31 ⟨v135, rfl, ho0, hb⟩
      refine ⟨_, rfl, ?_⟩
      have n0_ := Aside0.mk (Kd.V_below (vL HO0.out) hb)
      have n1_ := Aside0.mk (Kd.V_below (vL HO125.out) hb)
      have n2_ := Aside0.mk (Kd.V_below (vL HO133.out) hb)
      have n3_ := Aside0.mk (Kd.N_below (nL HO128.out) hb)
      have n4_ := Aside0.mk (Kd.V_lower (Kd.V_mono (ok' := fun k_ => (P0_ k_ ∨ w.heap.size ≤ k_) ∧ some k_ ≠ (v127 : Value).ownBlock) ho0 (fun k_ hk_ => ⟨Or.elim hk_ (fun hs_ => hs_.1) (fun hn_ => (.inr (Nat.le_trans (below_size bel) hn_))), Or.elim hk_ (fun hs_ => hs_.2) (fun hn_ => (Kd.fresh' (Kd.N_lt (nL HO128.out)) k_ hn_))⟩)) (below_size bel))
      have n5_ := Aside0.mk (below_step bel hb)
      clear HO0
      clear HO125
      clear HO133
      clear HO128
      clear HB
      have HO0 := n0_
      have HO125 := n1_
      have HO133 := n2_
      have HO128 := n3_
      have HO136 := n4_
      have HB := n5_
      clear n0_ n1_ n2_ n3_ n4_ n5_
      (try clear hb)
      (try clear hb2)
      (try clear hk)
      (try clear hi)
      (try clear ho0)
      obtain ⟨Ao33, co33, eo33⟩ := Kd.V_slice HO136.out
      (first | subst eo33 | (injection eo33 with f1_ f2_ f3_; have f4_ := f1_.symm; have f5_ := f3_.symm; clear f1_ f2_ f3_; subst f4_; subst f5_))
      refine hK.out _ _ trivial (fun hHeld => ?_)
      clear hK K
      refine normA (some 36) ?_
      refine one_ (i := 11) (N := some 37) (fl 14 4095) rfl rfl (one_of HT_.out (by kernel_rfl)) (by decide) (fun K hK => ?_)
      refine value_ (w1 := ?_) (v := ?_) (by rfl) rfl ?_ ?_
      rotate_left 2
      ·go_simp
       constructor
       ·rfl
       ·rfl
      refine hK.out _ _ trivial (fun hHeld => ?_)
      clear hK K
      refine normA (some 37) ?_
      refine one_ (i := 12) (N := some 38) (fl 14 8191) rfl rfl (one_of HT_.out (by kernel_rfl)) (by decide) (fun K hK => ?_)
      refine Kd.N_append_step (Kd.slice 5 (Kd.int .u8)) (w0 := w) w.heap.size (by rfl) (.tmp 32) (.tmp 37) 22 23 (.slice none 0 0) 24 rfl Tryd.underlying22 info23 rfl (by decide) (by omega) v127 t126 t134 [.slice Ao33 t134.length co33] (fun k_ => (P0_ k_ ∨ w.heap.size ≤ k_)) (fun k_ => ((fun k_ => (P0_ k_ ∨ w.heap.size ≤ k_))) k_ ∧ some k_ ≠ (v127 : Value).ownBlock) rfl rfl ?aP (fun _ hk => hk) ?aF ?aO ?aB ?aS ?aL ?_
      (case aP => exact (Kd.FK_slice_mk (Kd.V_reads' (Kd.V_mono (ok' := (fun k_ => ((fun k_ => (P0_ k_ ∨ w.heap.size ≤ k_))) k_ ∧ some k_ ≠ (v127 : Value).ownBlock)) (HO136.out) (fun k_ hk => ⟨hk.1, hk.2⟩))).2.1 (Kd.V_F (Kd.V_mono (ok' := (fun k_ => ((fun k_ => (P0_ k_ ∨ w.heap.size ≤ k_))) k_ ∧ some k_ ≠ (v127 : Value).ownBlock)) (HO136.out) (fun k_ hk => ⟨hk.1, hk.2⟩)))))
      (case aB => exact bel)
      (case aF => exact (fun k_ hk => (.inr (Nat.le_trans (below_size bel) hk))))
      (case aO => exact (nL HO128.out))
      (case aS => exact (below_size bel))
      (case aL => have := LMc26.out; omega)
      intro v138 w32 ho hb hg hat
      rw [← Ny137.out] at ho
      have n0_ := Aside0.mk (Kd.V_afterv (ok := (fun k_ => (P0_ k_ ∨ w.heap.size ≤ k_))) (vL HO0.out) hg hat)
      have n1_ := Aside0.mk (Kd.V_afterv (ok := (fun k_ => (P0_ k_ ∨ w.heap.size ≤ k_))) (vL HO125.out) hg hat)
      have n2_ := Aside0.mk (Kd.V_afterv (ok := (fun k_ => (P0_ k_ ∨ w.heap.size ≤ k_))) (vL HO133.out) hg hat)
      have n3_ := Aside0.mk (Kd.V_afterv (ok := (fun k_ => (P0_ k_ ∨ w.heap.size ≤ k_))) (vL HO136.out) hg hat)
      have n4_ := Aside0.mk (hb)
      have n5_ := Aside0.mk (ho)
      clear HO0
      clear HO125
      clear HO133
      clear HO136
      clear HB
      clear HO128
      have HO0 := n0_
      have HO125 := n1_
      have HO133 := n2_
      have HO136 := n3_
      have HB := n4_
      have HO139 := n5_
      clear n0_ n1_ n2_ n3_ n4_ n5_
      clear ho hb hg hat
      refine hK.out _ _ trivial (fun hHeld => ?_)
      clear hK K
      refine normA (some 38) ?_
      refine pureA (i := 13) (N := some 4) (fl 14 16383) (any_of HT_.out (by kernel_rfl)) ?_
      refine done_ (done_of HT_.out (by kernel_rfl)) ?_
      try go_wp2
      go_ret
      exact ⟨_, by first | rfl | (simp [errW_none, errW_some] <;> rfl) | (simp [*, errW_none, errW_some] <;> rfl), by (with_reducible repeat (first | apply Kd.N_alloc | apply Kd.N_drewN | apply Kd.N_drew)); exact HO139.out, by repeat (first | (with_reducible first | exact HB.out | apply below_alloc | apply pw_below_drewN | apply below_drew1) | exact HB.out)⟩
     ·rw [if_neg c26] at H
      exact absurd H (by simp)
    ·rw [if_neg c21] at H
     exact absurd H (by simp)
   ·rw [if_neg c20] at H
    exact absurd H (by simp)

end Go.Proofs.YtcnpdapampclpaaDoor.PRc
