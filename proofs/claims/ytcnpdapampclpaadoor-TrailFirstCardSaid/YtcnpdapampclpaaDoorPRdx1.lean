-- Written by a program of this session, after the print of the kit.
import Derived.Test.YtcnpdapampclpaaDoorWC
import Derived.Test.YtcnpdapampclpaaDoorPRdx0
namespace Go.Proofs.YtcnpdapampclpaaDoor.PRd
open Go.RowKit Go.Proofs.YtcnpdapampclpaaDoor.X Go.Proofs.YtcnpdapampclpaaDoor.PRa Go.Proofs.YtcnpdapampclpaaDoor.PRb Go.Proofs.YtcnpdapampclpaaDoorW.PrintWords Go.Proofs.YtcnpdapampclpaaDoorW.PrintLast Go.Proofs.YtcnpdapampclpaaDoorW.PrintMore
attribute [local go_sem] max2_int min2_int max_two min_two max_three min_three max_four min_four   -- for this text's walks alone
set_option linter.unusedVariables false
set_option linter.unusedSimpArgs false

/-! ### imprimaturref20_Texts: function 38 -/
def imprimaturref20_Texts.f : Nat → List (List Int) → Option ((List (List Int)))
 | 0, _ => none
 | k + 1, l0 => if (l0.length : Int) < 2 then (some ([] : List (List Int))) else ((imprimaturref06_Half.f k (l0.length : Int)).bind fun t101 => (if 0 ≤ t101 then (if t101 ≤ (l0.length : Int) then ((imprimaturref20_Texts.f k (l0.take (t101 : Int).toNat)).bind fun t107 => ((imprimaturref20_Texts.f k (l0.drop (t101 : Int).toNat)).bind fun t115 => (if t107.length + t115.length < 5864062014805 then ((some (t107 ++ t115 : List (List Int))).bind fun y118 => ((imprimaturref20_Top.f k (l0.take (t101 : Int).toNat)).bind fun t126 => ((imprimaturref20_Top.f k (l0.drop (t101 : Int).toNat)).bind fun t134 => ((imprimaturref20_text.f 17 t126 t134).bind fun t137 => (if y118.length < 5864062014805 then (some (y118 ++ [t137])) else (none)))))) else (none)))) else (none)) else (none)))
theorem imprimaturref20_Texts.mono_l : ∀ k, (∀ y0, LeO (imprimaturref20_Texts.f k y0) (imprimaturref20_Texts.f (k + 1) y0))
 | 0 => fun _ r h => by simp [imprimaturref20_Texts.f] at h
 | k + 1 => by
  have ih0 := imprimaturref20_Texts.mono_l k
  ·intro y0
   unfold imprimaturref20_Texts.f
   repeat' first
   | (with_reducible exact ih0 _)
   | (with_reducible exact imprimaturref06_Half.mono _ _)
   | (with_reducible exact imprimaturref20_Top.mono _ _)
   | (with_reducible exact LeO.refl _)
   | (with_reducible exact LeO.none _)
   | (with_reducible refine LeO.ite ?_ ?_)
   | (with_reducible refine LeO.bind ?_ (fun _ => ?_))
   | exact ih0 _
   | exact imprimaturref06_Half.mono _ _
   | exact imprimaturref20_Top.mono _ _
   | exact LeO.none _
   | refine LeO.ite ?_ ?_
   | refine LeO.bind ?_ (fun _ => ?_)
theorem imprimaturref20_Texts.mono : ∀ a0 k, LeO (imprimaturref20_Texts.f k a0) (imprimaturref20_Texts.f (k + 1) a0) := by
 intro a0 k
 have ih0 := imprimaturref20_Texts.mono_l k
 exact ih0 a0
def imprimaturref20_Texts.T4 : Bool × List (List Nat × List Nat) := (true, [([], []), ([], []), ([0, 1], [0, 1]), ([2], [2]), ([], []), ([], []), ([4, 5], [4, 5]), ([6, 3], [6]), ([3, 7, 7], [3, 7]), ([8, 8, 0, 1, 2, 3, 4, 5, 6, 7, 8], [8])])
def imprimaturref20_Texts.B4 : List Nat := [0, 0, 3, 7, 0, 0, 48, 127, 255, 511]
theorem imprimaturref20_Texts.tab4 : rtab .any (opsOf Tryd.f38 4) = imprimaturref20_Texts.T4 := by kernel_rfl
theorem imprimaturref20_Texts.bits4 : waitsOk imprimaturref20_Texts.T4.2 imprimaturref20_Texts.B4 = true := by kernel_rfl
def imprimaturref20_Texts.T5 : Bool × List (List Nat × List Nat) := (true, [([], []), ([], []), ([], []), ([1, 2], [1, 2]), ([3], [3]), ([], []), ([], []), ([5, 6], [5, 6]), ([7, 4], [7]), ([4, 8, 8], [4, 8]), ([9], [9]), ([0, 10, 9], [0, 10]), ([11, 11, 0, 1, 2, 3, 4, 5, 6, 7, 8, 9, 10, 11], [11])])
def imprimaturref20_Texts.B5 : List Nat := [0, 0, 0, 6, 14, 0, 0, 96, 254, 510, 1022, 2047, 4095]
theorem imprimaturref20_Texts.tab5 : rtab .any (opsOf Tryd.f38 5) = imprimaturref20_Texts.T5 := by kernel_rfl
theorem imprimaturref20_Texts.bits5 : waitsOk imprimaturref20_Texts.T5.2 imprimaturref20_Texts.B5 = true := by kernel_rfl
set_option maxHeartbeats 8000000 in
set_option maxRecDepth 100000 in
theorem imprimaturref20_Texts.calls (k : Nat) : ∀ (P0_ : Nat → Prop) (A0 : Option Addr) (c0 : Nat) (l0 : List (List Int)) (r : List (List Int)) (w : World) (hs0 : Kd.V (Kd.slice 5 (Kd.int .u8)) 23 w w.heap.size (fun k_ => P0_ k_) (.slice A0 l0.length c0) l0) (h : imprimaturref20_Texts.f k l0 = some r),
  Calls Tryd.prog 38 #[.slice A0 l0.length c0] w fun e w' => ∃ v0_ : Value, e = .returned (v0_) ∧ Kd.N (Kd.slice 5 (Kd.int .u8)) 23 w' w.heap.size (fun k_ => (P0_ k_ ∨ w.heap.size ≤ k_)) v0_ r ∧ Below w.heap.size w w' := by
 induction k using Nat.strongRecOn with
 | _ k ih =>
 intro P0_ A0 c0 l0 r w hs0 h
 cases k with
 | zero => exact absurd h (by simp [imprimaturref20_Texts.f])
 | succ k =>
 simp only [imprimaturref20_Texts.f] at h
 have HO0 := Aside0.mk (show Kd.V (Kd.slice 5 (Kd.int .u8)) 23 w w.heap.size (fun k_ => (P0_ k_ ∨ w.heap.size ≤ k_)) (.slice A0 l0.length c0) l0 from Kd.V_mono hs0 (fun k_ hk => .inl hk))
 have HB := Aside0.mk (Below.refl w.heap.size w)
 have H : (if (l0.length : Int) < 2 then (some ([] : List (List Int))) else ((imprimaturref06_Half.f k (l0.length : Int)).bind fun t101 => (if 0 ≤ t101 then (if t101 ≤ (l0.length : Int) then ((imprimaturref20_Texts.f k (l0.take (t101 : Int).toNat)).bind fun t107 => ((imprimaturref20_Texts.f k (l0.drop (t101 : Int).toNat)).bind fun t115 => (if t107.length + t115.length < 5864062014805 then ((some (t107 ++ t115 : List (List Int))).bind fun y118 => ((imprimaturref20_Top.f k (l0.take (t101 : Int).toNat)).bind fun t126 => ((imprimaturref20_Top.f k (l0.drop (t101 : Int).toNat)).bind fun t134 => ((imprimaturref20_text.f 17 t126 t134).bind fun t137 => (if y118.length < 5864062014805 then (some (y118 ++ [t137])) else (none)))))) else (none)))) else (none)) else (none)))) = some r := h
 clear h
 by_cases c2 : (l0.length : Int) < 2
 ·rw [if_pos c2] at H
  have c2b0 : decide ((l0.length : Int) < 2) = true := decide_eq_true c2
  have c2b1 : decide (l0.length < 2) = true := decide_eq_true (by omega)
  clear c2
  obtain rfl := Option.some.inj H
  go_enter Tryd.func38, Tryd.ntmps38
  go_wp2
  go_ret
  exact ⟨_, by first | rfl | (simp [errW_none, errW_some] <;> rfl) | (simp [*, errW_none, errW_some] <;> rfl), by first | exact Kd.S_nil _ _ _ _ _ | exact Kd.N_nil _ _ _ _ _ | exact Kd.V_nil _ _ _ _ _ | exact Kd.Q_nil _ _ _ _ _ | exact Kd.R_nil _ _ _ _ _, by repeat (first | (with_reducible first | exact HB.out | apply below_alloc | apply pw_below_drewN | apply below_drew1) | exact HB.out)⟩
 ·rw [if_neg c2] at H
  have c2b0 : decide ((l0.length : Int) < 2) = false := decide_eq_false c2
  have c2b1 : decide (l0.length < 2) = false := decide_eq_false (by omega)
  clear c2
  replace H := Option.bind_eq_some_iff.mp H
  obtain ⟨t101, A30, H⟩ := H
  replace H : (if 0 ≤ t101 then (if t101 ≤ (l0.length : Int) then ((imprimaturref20_Texts.f k (l0.take (t101 : Int).toNat)).bind fun t107 => ((imprimaturref20_Texts.f k (l0.drop (t101 : Int).toNat)).bind fun t115 => (if t107.length + t115.length < 5864062014805 then ((some (t107 ++ t115 : List (List Int))).bind fun y118 => ((imprimaturref20_Top.f k (l0.take (t101 : Int).toNat)).bind fun t126 => ((imprimaturref20_Top.f k (l0.drop (t101 : Int).toNat)).bind fun t134 => ((imprimaturref20_text.f 17 t126 t134).bind fun t137 => (if y118.length < 5864062014805 then (some (y118 ++ [t137])) else (none)))))) else (none)))) else (none)) else (none)) = some r := H
  have A3 := Aside0.mk A30
  clear A30
  by_cases c4 : 0 ≤ t101
  ·rw [if_pos c4] at H
   have c4b0 := eq_true c4
   have c4b1 : decide (0 ≤ t101) = true := decide_eq_true c4
   clear c4
   by_cases c5 : t101 ≤ (l0.length : Int)
   ·rw [if_pos c5] at H
    have c5b0 := eq_true c5
    have c5b1 : decide (t101 ≤ (l0.length : Int)) = true := decide_eq_true c5
    clear c5
    obtain ⟨y102, hy102⟩ : ∃ y_ : List (List Int), y_ = (l0.take (t101 : Int).toNat) := ⟨_, rfl⟩
    replace H : ((imprimaturref20_Texts.f k y102).bind fun t107 => ((imprimaturref20_Texts.f k (l0.drop (t101 : Int).toNat)).bind fun t115 => (if t107.length + t115.length < 5864062014805 then ((some (t107 ++ t115 : List (List Int))).bind fun y118 => ((imprimaturref20_Top.f k (l0.take (t101 : Int).toNat)).bind fun t126 => ((imprimaturref20_Top.f k (l0.drop (t101 : Int).toNat)).bind fun t134 => ((imprimaturref20_text.f 17 t126 t134).bind fun t137 => (if y118.length < 5864062014805 then (some (y118 ++ [t137])) else (none)))))) else (none)))) = some r := hyA hy102 H
    have Ny102 := Aside0.mk hy102
    clear hy102
    replace H := Option.bind_eq_some_iff.mp H
    obtain ⟨t107, A60, H⟩ := H
    replace H : ((imprimaturref20_Texts.f k (l0.drop (t101 : Int).toNat)).bind fun t115 => (if t107.length + t115.length < 5864062014805 then ((some (t107 ++ t115 : List (List Int))).bind fun y118 => ((imprimaturref20_Top.f k (l0.take (t101 : Int).toNat)).bind fun t126 => ((imprimaturref20_Top.f k (l0.drop (t101 : Int).toNat)).bind fun t134 => ((imprimaturref20_text.f 17 t126 t134).bind fun t137 => (if y118.length < 5864062014805 then (some (y118 ++ [t137])) else (none)))))) else (none))) = some r := H
    have A6 := Aside0.mk A60
    clear A60
    have c7b0 := eq_true (of_decide_eq_true asm_ : 0 ≤ t101)
    have c8b0 := eq_true (of_decide_eq_true asm_ : t101 ≤ (l0.length : Int))
    obtain ⟨y110, hy110⟩ : ∃ y_ : List (List Int), y_ = (l0.drop (t101 : Int).toNat) := ⟨_, rfl⟩
    replace H : ((imprimaturref20_Texts.f k y110).bind fun t115 => (if t107.length + t115.length < 5864062014805 then ((some (t107 ++ t115 : List (List Int))).bind fun y118 => ((imprimaturref20_Top.f k (l0.take (t101 : Int).toNat)).bind fun t126 => ((imprimaturref20_Top.f k (l0.drop (t101 : Int).toNat)).bind fun t134 => ((imprimaturref20_text.f 17 t126 t134).bind fun t137 => (if y118.length < 5864062014805 then (some (y118 ++ [t137])) else (none)))))) else (none))) = some r := hyA hy110 H
    have Ny110 := Aside0.mk hy110
    clear hy110
    replace H := Option.bind_eq_some_iff.mp H
    obtain ⟨t115, A90, H⟩ := H
    replace H : (if t107.length + t115.length < 5864062014805 then ((some (t107 ++ t115 : List (List Int))).bind fun y118 => ((imprimaturref20_Top.f k (l0.take (t101 : Int).toNat)).bind fun t126 => ((imprimaturref20_Top.f k (l0.drop (t101 : Int).toNat)).bind fun t134 => ((imprimaturref20_text.f 17 t126 t134).bind fun t137 => (if y118.length < 5864062014805 then (some (y118 ++ [t137])) else (none)))))) else (none)) = some r := H
    have A9 := Aside0.mk A90
    clear A90
    by_cases c10 : t107.length + t115.length < 5864062014805
    ·rw [if_pos c10] at H
     have LMc10 := Aside0.mk c10
     clear c10
     obtain ⟨y118, hy118⟩ : ∃ y_ : List (List Int), y_ = (t107 ++ t115) := ⟨_, rfl⟩
     replace H : ((imprimaturref20_Top.f k (l0.take (t101 : Int).toNat)).bind fun t126 => ((imprimaturref20_Top.f k (l0.drop (t101 : Int).toNat)).bind fun t134 => ((imprimaturref20_text.f 17 t126 t134).bind fun t137 => (if y118.length < 5864062014805 then (some (y118 ++ [t137])) else (none))))) = some r := hyA hy118 H
     have Ny118 := Aside0.mk hy118
     clear hy118
     have c11b0 := eq_true (of_decide_eq_true asm_ : 0 ≤ t101)
     have c12b0 := eq_true (of_decide_eq_true asm_ : t101 ≤ (l0.length : Int))
     have hy121 := Ny102.out
     replace H : ((imprimaturref20_Top.f k y102).bind fun t126 => ((imprimaturref20_Top.f k (l0.drop (t101 : Int).toNat)).bind fun t134 => ((imprimaturref20_text.f 17 t126 t134).bind fun t137 => (if y118.length < 5864062014805 then (some (y118 ++ [t137])) else (none))))) = some r := hyA hy121 H
     have Ny121 := Aside0.mk hy121
     clear hy121
     replace H := Option.bind_eq_some_iff.mp H
     obtain ⟨t126, A130, H⟩ := H
     replace H : ((imprimaturref20_Top.f k (l0.drop (t101 : Int).toNat)).bind fun t134 => ((imprimaturref20_text.f 17 t126 t134).bind fun t137 => (if y118.length < 5864062014805 then (some (y118 ++ [t137])) else (none)))) = some r := H
     have A13 := Aside0.mk A130
     clear A130
     have c14b0 := eq_true (of_decide_eq_true asm_ : 0 ≤ t101)
     have c15b0 := eq_true (of_decide_eq_true asm_ : t101 ≤ (l0.length : Int))
     have hy129 := Ny110.out
     replace H : ((imprimaturref20_Top.f k y110).bind fun t134 => ((imprimaturref20_text.f 17 t126 t134).bind fun t137 => (if y118.length < 5864062014805 then (some (y118 ++ [t137])) else (none)))) = some r := hyA hy129 H
     have Ny129 := Aside0.mk hy129
     clear hy129
     replace H := Option.bind_eq_some_iff.mp H
     obtain ⟨t134, A160, H⟩ := H
     replace H : ((imprimaturref20_text.f 17 t126 t134).bind fun t137 => (if y118.length < 5864062014805 then (some (y118 ++ [t137])) else (none))) = some r := H
     have A16 := Aside0.mk A160
     clear A160
     replace H := Option.bind_eq_some_iff.mp H
     obtain ⟨t137, A170, H⟩ := H
     replace H : (if y118.length < 5864062014805 then (some (y118 ++ [t137])) else (none)) = some r := H
     have A17 := Aside0.mk A170
     clear A170
     by_cases c18 : y118.length < 5864062014805
     ·rw [if_pos c18] at H
      have LMc18 := Aside0.mk c18
      clear c18
      obtain ⟨y140, hy140⟩ : ∃ y_ : List (List Int), y_ = (y118 ++ [t137]) := ⟨_, rfl⟩
      replace H : (some y140) = some r := hyA hy140 H
      have Ny140 := Aside0.mk hy140
      clear hy140
      obtain rfl := Option.some.inj H
      go_enter Tryd.func38, Tryd.ntmps38
      try go_wp2_with (first | ((with_reducible refine gate_callee (f := 51) rfl ?_); refine goesL_ (some 10) rfl rfl Tryd.func51 (by kernel_rfl) rfl #[.int .i64 (l0.length : Int)] rfl eqA ?_; (with_reducible refine (imprimaturref06_Half.calls k (l0.length : Int) t101 _ A3.out).mono ?_); rintro e w' ⟨rfl, ⟨nd, rfl⟩⟩; refine ⟨_, rfl, ?_⟩))
      have n0_ := Aside0.mk (Kd.V_drew (Kd.V_drewN HO0.out nd))
      have n1_ := Aside0.mk (below_drew1 (pw_below_drewN HB.out nd))
      clear HO0
      clear HB
      have HO0 := n0_
      have HB := n1_
      clear n0_ n1_
      have q20 : (t101 : Int) ≤ ((l0.length : Int) : Int) := of_decide_eq_true asm_
      obtain ⟨i020, hi020, _, hsz20, _⟩ := info_parts info23
      have hroom20 : l0.length ≤ c0 := (Kd.V_reads' HO0.out).2.1
      have hC20 : Kd.F (Kd.slice 5 (Kd.int .u8)) _ _ A0 l0.length l0 := (Kd.V_at (base := w.heap.size) HO0.out).2.2
      have hcut20 := cut_to (P := Tryd.prog) 22 23 .i64 Tryd.underlying22 hi020 A0 l0.length c0 t101 (of_decide_eq_true asm_) q20 hroom20
      have hr20 := Kd.F_take (m := (t101 : Int).toNat) hC20 (by omega)
      have hy20 : y102.length = (t101 : Int).toNat := (by rw [Ny102.out, List.length_take]; omega)
      rw [← Ny102.out] at hr20
      rw [← hy20] at hcut20
      have HO106 := Aside0.mk (show Kd.V (Kd.slice 5 (Kd.int .u8)) 23 _ w.heap.size _ (.slice A0 y102.length c0) y102 from Kd.V_mk (by omega) hr20)
      have HC106 := Aside0.mk (show y102.length ≤ c0 from by omega)
      clear hr20 hC20 hroom20 hi020 hsz20
      have KY20 := Aside0.mk hy20
      clear hy20
      replace q20 := eq_true q20
      have q21 : (t101 : Int) ≤ ((l0.length : Int) : Int) := of_decide_eq_true asm_
      obtain ⟨i021, hi021, _, hsz21, _⟩ := info_parts info23
      have hroom21 : l0.length ≤ c0 := (Kd.V_reads' HO0.out).2.1
      have hC21 : Kd.F (Kd.slice 5 (Kd.int .u8)) _ _ A0 l0.length l0 := (Kd.V_at (base := w.heap.size) HO0.out).2.2
      have q021 : (0 : Int) ≤ (t101 : Int) := of_decide_eq_true asm_
      have hcut21 := cut_from (P := Tryd.prog) 22 23 .i64 Tryd.underlying22 hi021 1 hsz21 A0 l0.length c0 t101 q021 q21
      have hr21 := Kd.F_cut (m := (t101 : Int).toNat) (c := c0) hC21 (by omega) hroom21
      obtain ⟨A21, hA21⟩ : ∃ A1, A1 = (if c0 = (t101 : Int).toNat then A0 else (A0 : Option Addr).map (·.add ((t101 : Int).toNat * 1))) := ⟨_, rfl⟩
      obtain ⟨c21, hc21⟩ : ∃ c1, c1 = c0 - (t101 : Int).toNat := ⟨_, rfl⟩
      have KC21 := Aside0.mk hc21
      have KC21 := Aside0.mk hc21
      have KC21 := Aside0.mk hc21
      have KC21 := Aside0.mk hc21
      have hy21 : y110.length = l0.length - (t101 : Int).toNat := (by rw [Ny110.out, List.length_drop] <;> omega)
      rw [show (l0).drop (t101 : Int).toNat = y110 from Ny110.out.symm] at hr21
      replace hr21 : Kd.F (Kd.slice 5 (Kd.int .u8)) _ _ A21 y110.length y110 := (by rw [hA21]; exact hr21)
      rw [← hy21, ← hA21, ← hc21] at hcut21
      have HO114 := Aside0.mk (show Kd.V (Kd.slice 5 (Kd.int .u8)) 23 _ w.heap.size _ (.slice A21 y110.length c21) y110 from Kd.V_mk (by rw [hy21, hc21]; exact Nat.sub_le_sub_right hroom21 _) hr21)
      have HC114 := Aside0.mk (show y110.length ≤ c21 from by rw [hy21, hc21]; exact Nat.sub_le_sub_right hroom21 _)
      clear hr21 hC21 hroom21 hi021 hsz21 hc21
      have KY21 := Aside0.mk hy21
      have KA21 := Aside0.mk hA21
      clear hy21 hA21
      replace q21 := eq_true q21
      refine start_ (n := 10) (S := fun w' => True) (ds := []) (fl 10 0) (by kernel_rfl) rfl rfl trivial (fun hHeld => ?_); refine with_tabW imprimaturref20_Texts.tab4 imprimaturref20_Texts.bits4 (fun HT_ HW_ => ?_)
      generalize (w.drewN nd).drew = w19 at HO0 HB HO106 HO114 hHeld ⊢
      refine pureA (i := 0) (N := some 11) (fl 10 1) (any_of HT_.out (by kernel_rfl)) ?_
      refine pureA (i := 1) (N := some 12) (fl 10 3) (any_of HT_.out (by kernel_rfl)) ?_
      refine pureA (i := 2) (N := some 13) (fl 10 7) (any_of HT_.out (by kernel_rfl)) ?_
      refine pureA (i := 4) (N := some 15) (fl 10 23) (any_of HT_.out (by kernel_rfl)) ?_
      refine pureA (i := 5) (N := some 16) (fl 10 55) (any_of HT_.out (by kernel_rfl)) ?_
      refine pureA (i := 6) (N := some 17) (fl 10 119) (any_of HT_.out (by kernel_rfl)) ?_
      refine one_ (i := 3) (N := some 14) (fl 10 127) rfl rfl (one_of HT_.out (by kernel_rfl)) (by decide) (fun K hK => ?_)
      refine goes_ Tryd.func38 (by kernel_rfl) rfl #[.slice A0 y102.length c0] (by rfl) rfl rfl eqA ?_
      with_reducible refine (ih k (by omega) (fun k_ => (P0_ k_ ∨ w.heap.size ≤ k_)) _ _ y102 t107 _ ?side1 A6.out).mono ?_
      (case side1 => exact HO106.out)
      rintro e w22 ⟨v108, rfl, ho0, hb⟩
      refine ⟨_, rfl, ?_⟩
      have n0_ := Aside0.mk (Kd.V_elder' (vL HO0.out) (Kd.N_base ho0) hb)
      have n1_ := Aside0.mk (Kd.V_elder' (vL HO106.out) (Kd.N_base ho0) hb)
      have n2_ := Aside0.mk (Kd.V_elder' (vL HO114.out) (Kd.N_base ho0) hb)
      have n3_ := Aside0.mk (Kd.N_lower (Kd.N_mono (ok' := fun k_ => (P0_ k_ ∨ w.heap.size ≤ k_)) ho0 (fun k_ hk_ => Or.elim hk_ (fun hs_ => hs_) (fun hn_ => (.inr (Nat.le_trans (below_size bel) hn_))))) (below_size bel))
      have n4_ := Aside0.mk (below_step bel hb)
      clear HO0
      clear HO106
      clear HO114
      clear HB
      have HO0 := n0_
      have HO106 := n1_
      have HO114 := n2_
      have HO109 := n3_
      have HB := n4_
      clear n0_ n1_ n2_ n3_ n4_
      (try clear hb)
      (try clear hb2)
      (try clear hk)
      (try clear hi)
      (try clear ho0)
      refine hK.out _ _ trivial (fun hHeld => ?_)
      clear hK K
      refine normA (some 14) ?_
      refine one_ (i := 7) (N := some 18) (fl 10 255) rfl rfl (one_of HT_.out (by kernel_rfl)) (by decide) (fun K hK => ?_)
      refine goes_ Tryd.func38 (by kernel_rfl) rfl #[.slice A21 y110.length c21] (by rfl) rfl rfl eqA ?_
      with_reducible refine (ih k (by omega) (fun k_ => ((P0_ k_ ∨ w.heap.size ≤ k_) ∧ some k_ ≠ (v108 : Value).ownBlock)) _ _ y110 t115 _ ?side1 A9.out).mono ?_
      (case side1 => exact HO114.out)
      rintro e w23 ⟨v116, rfl, ho0, hb⟩
      refine ⟨_, rfl, ?_⟩
      have n0_ := Aside0.mk (Kd.V_elder' (vL HO0.out) (Kd.N_base ho0) hb)
      have n1_ := Aside0.mk (Kd.V_elder' (vL HO106.out) (Kd.N_base ho0) hb)
      have n2_ := Aside0.mk (Kd.V_elder' (vL HO114.out) (Kd.N_base ho0) hb)
      have n3_ := Aside0.mk (Kd.N_elder' (nL HO109.out) (Kd.N_base ho0) hb)
      have n4_ := Aside0.mk (Kd.N_lower (Kd.N_mono (ok' := fun k_ => (P0_ k_ ∨ w.heap.size ≤ k_) ∧ some k_ ≠ (v108 : Value).ownBlock) ho0 (fun k_ hk_ => ⟨Or.elim hk_ (fun hs_ => hs_.1) (fun hn_ => (.inr (Nat.le_trans (below_size bel) hn_))), Or.elim hk_ (fun hs_ => hs_.2) (fun hn_ => (Kd.fresh' (Kd.N_lt (nL HO109.out)) k_ hn_))⟩)) (below_size bel))
      have n5_ := Aside0.mk (below_step bel hb)
      clear HO0
      clear HO106
      clear HO114
      clear HO109
      clear HB
      have HO0 := n0_
      have HO106 := n1_
      have HO114 := n2_
      have HO109 := n3_
      have HO117 := n4_
      have HB := n5_
      clear n0_ n1_ n2_ n3_ n4_ n5_
      (try clear hb)
      (try clear hb2)
      (try clear hk)
      (try clear hi)
      (try clear ho0)
      obtain ⟨Ao25, co25, eo25⟩ := Kd.N_slice HO117.out
      (first | subst eo25 | (injection eo25 with f1_ f2_ f3_; have f4_ := f1_.symm; have f5_ := f3_.symm; clear f1_ f2_ f3_; subst f4_; subst f5_))
      refine hK.out _ _ trivial (fun hHeld => ?_)
      clear hK K
      refine normA (some 18) ?_
      refine one_ (i := 8) (N := some 19) (fl 10 511) rfl rfl (one_of HT_.out (by kernel_rfl)) (by decide) (fun K hK => ?_)
      refine Kd.N_append_rows_step (Kd.slice 5 (Kd.int .u8)) (w0 := w) w.heap.size (by rfl) (.tmp 14) (.tmp 18) 22 23 (.slice none 0 0) 24 rfl Tryd.underlying22 info23 rfl (by decide) (by omega) v108 t107 t115 _ _ _ (fun k_ => (P0_ k_ ∨ w.heap.size ≤ k_)) (fun k_ => ((fun k_ => (P0_ k_ ∨ w.heap.size ≤ k_))) k_ ∧ some k_ ≠ (v108 : Value).ownBlock) rfl rfl ?aO ?aR (fun _ hk => hk) ?aF ?aB ?aS ?aL ?_
      (case aR => exact (by skip; exact Kd.N_F (Kd.N_mono (ok' := (fun k_ => ((fun k_ => (P0_ k_ ∨ w.heap.size ≤ k_))) k_ ∧ some k_ ≠ (v108 : Value).ownBlock)) (HO117.out) (fun k_ hk => ⟨hk.1, hk.2⟩))))
      (case aB => exact bel)
      (case aF => exact (fun k_ hk => (.inr (Nat.le_trans (below_size bel) hk))))
      (case aO => exact (by (with_reducible repeat (first | apply Kd.N_alloc | apply Kd.N_drewN | apply Kd.N_drew)); exact Kd.N_mono HO109.out (fun _ hk => hk.1)))
      (case aS => exact (below_size bel))
      (case aL => have := LMc10.out; omega)
      intro v119 w24 ho hb hg hat
      rw [← Ny118.out] at ho
      have n0_ := Aside0.mk (Kd.V_afterv (ok := (fun k_ => (P0_ k_ ∨ w.heap.size ≤ k_) ∧ some k_ ≠ (.slice Ao25 t115.length co25 : Value).ownBlock)) (by (with_reducible repeat (first | apply Kd.V_alloc | apply Kd.V_drewN | apply Kd.V_drew)); exact Kd.V_mono HO0.out (fun _ hk => ⟨⟨hk.1.1, hk.2⟩, hk.1.2⟩)) hg hat)
      have n1_ := Aside0.mk (Kd.V_afterv (ok := (fun k_ => (P0_ k_ ∨ w.heap.size ≤ k_) ∧ some k_ ≠ (.slice Ao25 t115.length co25 : Value).ownBlock)) (by (with_reducible repeat (first | apply Kd.V_alloc | apply Kd.V_drewN | apply Kd.V_drew)); exact Kd.V_mono HO106.out (fun _ hk => ⟨⟨hk.1.1, hk.2⟩, hk.1.2⟩)) hg hat)
      have n2_ := Aside0.mk (Kd.V_afterv (ok := (fun k_ => (P0_ k_ ∨ w.heap.size ≤ k_) ∧ some k_ ≠ (.slice Ao25 t115.length co25 : Value).ownBlock)) (by (with_reducible repeat (first | apply Kd.V_alloc | apply Kd.V_drewN | apply Kd.V_drew)); exact Kd.V_mono HO114.out (fun _ hk => ⟨⟨hk.1.1, hk.2⟩, hk.1.2⟩)) hg hat)
      have n3_ := Aside0.mk (Kd.N_afterv (ok := (fun k_ => (P0_ k_ ∨ w.heap.size ≤ k_))) (nL HO117.out) hg hat)
      have n4_ := Aside0.mk (hb)
      have n5_ := Aside0.mk (ho)
      clear HO0
      clear HO106
      clear HO114
      clear HO117
      clear HB
      clear HO109
      have HO0 := n0_
      have HO106 := n1_
      have HO114 := n2_
      have HO117 := n3_
      have HB := n4_
      have HO120 := n5_
      clear n0_ n1_ n2_ n3_ n4_ n5_
      clear ho hb hg hat
      refine hK.out _ _ trivial (fun hHeld => ?_)
      clear hK K
      refine normA (some 19) ?_
      refine pureA (i := 9) (N := some 4) (fl 10 1023) (any_of HT_.out (by kernel_rfl)) ?_
      refine done_ (done_of HT_.out (by kernel_rfl)) ?_
      try go_wp2
      have n0_ := Aside0.mk (Kd.V_drew HO0.out)
      have n1_ := Aside0.mk (Kd.V_drew HO106.out)
      have n2_ := Aside0.mk (Kd.V_drew HO114.out)
      have n3_ := Aside0.mk (Kd.N_drew HO117.out)
      have n4_ := Aside0.mk (Kd.N_drew HO120.out)
      have n5_ := Aside0.mk (below_drew1 HB.out)
      clear HO0
      clear HO106
      clear HO114
      clear HO117
      clear HO120
      clear HB
      have HO0 := n0_
      have HO106 := n1_
      have HO114 := n2_
      have HO117 := n3_
      have HO120 := n4_
      have HB := n5_
      clear n0_ n1_ n2_ n3_ n4_ n5_
      have q27 : (t101 : Int) ≤ ((l0.length : Int) : Int) := of_decide_eq_true asm_
      obtain ⟨i027, hi027, _, hsz27, _⟩ := info_parts info23
      have hroom27 : l0.length ≤ c0 := (Kd.V_reads' HO0.out).2.1
      have hC27 : Kd.F (Kd.slice 5 (Kd.int .u8)) _ _ A0 l0.length l0 := (Kd.V_at (base := w.heap.size) HO0.out).2.2
      have hcut27 := cut_to (P := Tryd.prog) 22 23 .i64 Tryd.underlying22 hi027 A0 l0.length c0 t101 (of_decide_eq_true asm_) q27 hroom27
      have hr27 := Kd.F_take (m := (t101 : Int).toNat) hC27 (by omega)
      have hy27 : y102.length = (t101 : Int).toNat := (by rw [Ny121.out, List.length_take]; omega)
      rw [← Ny121.out] at hr27
      rw [← hy27] at hcut27
      have HO125 := Aside0.mk (show Kd.V (Kd.slice 5 (Kd.int .u8)) 23 _ w.heap.size _ (.slice A0 y102.length c0) y102 from Kd.V_mk (by omega) hr27)
      have HC125 := Aside0.mk (show y102.length ≤ c0 from by omega)
      clear hr27 hC27 hroom27 hi027 hsz27
      have KY27 := Aside0.mk hy27
      clear hy27
      replace q27 := eq_true q27
      have q28 : (t101 : Int) ≤ ((l0.length : Int) : Int) := of_decide_eq_true asm_
      obtain ⟨i028, hi028, _, hsz28, _⟩ := info_parts info23
      have hroom28 : l0.length ≤ c0 := (Kd.V_reads' HO0.out).2.1
      have hC28 : Kd.F (Kd.slice 5 (Kd.int .u8)) _ _ A0 l0.length l0 := (Kd.V_at (base := w.heap.size) HO0.out).2.2
      have q028 : (0 : Int) ≤ (t101 : Int) := of_decide_eq_true asm_
      have hcut28 := cut_from (P := Tryd.prog) 22 23 .i64 Tryd.underlying22 hi028 1 hsz28 A0 l0.length c0 t101 q028 q28
      have hr28 := Kd.F_cut (m := (t101 : Int).toNat) (c := c0) hC28 (by omega) hroom28
      have hA28 := KA21.out
      have hc28 := KC21.out
      have hy28 : y110.length = l0.length - (t101 : Int).toNat := (by rw [Ny129.out, List.length_drop] <;> omega)
      rw [show (l0).drop (t101 : Int).toNat = y110 from Ny129.out.symm] at hr28
      replace hr28 : Kd.F (Kd.slice 5 (Kd.int .u8)) _ _ A21 y110.length y110 := (by rw [hA28]; exact hr28)
      rw [← hy28, ← hA28, ← hc28] at hcut28
      have HO133 := Aside0.mk (show Kd.V (Kd.slice 5 (Kd.int .u8)) 23 _ w.heap.size _ (.slice A21 y110.length c21) y110 from Kd.V_mk (by rw [hy28, hc28]; exact Nat.sub_le_sub_right hroom28 _) hr28)
      have HC133 := Aside0.mk (show y110.length ≤ c21 from by rw [hy28, hc28]; exact Nat.sub_le_sub_right hroom28 _)
      clear hr28 hC28 hroom28 hi028 hsz28 hc28
      have KY28 := Aside0.mk hy28
      have KA28 := Aside0.mk hA28
      clear hy28 hA28
      replace q28 := eq_true q28
      refine start_ (n := 13) (S := fun w' => True) (ds := []) (fl 13 0) (by kernel_rfl) rfl rfl trivial (fun hHeld => ?_); refine with_tabW imprimaturref20_Texts.tab5 imprimaturref20_Texts.bits5 (fun HT_ HW_ => ?_)
      generalize w24.drew = w26 at HO0 HO106 HO114 HO117 HO120 HB HO125 HO133 hHeld ⊢
      refine pureA (i := 0) (N := some 20) (fl 13 1) (any_of HT_.out (by kernel_rfl)) ?_
      refine pureA (i := 1) (N := some 21) (fl 13 3) (any_of HT_.out (by kernel_rfl)) ?_
      refine pureA (i := 2) (N := some 22) (fl 13 7) (any_of HT_.out (by kernel_rfl)) ?_
      refine pureA (i := 3) (N := some 23) (fl 13 15) (any_of HT_.out (by kernel_rfl)) ?_
      refine pureA (i := 5) (N := some 25) (fl 13 47) (any_of HT_.out (by kernel_rfl)) ?_
      refine pureA (i := 6) (N := some 26) (fl 13 111) (any_of HT_.out (by kernel_rfl)) ?_
      refine pureA (i := 7) (N := some 27) (fl 13 239) (any_of HT_.out (by kernel_rfl)) ?_
      refine one_ (i := 4) (N := some 24) (fl 13 255) rfl rfl (one_of HT_.out (by kernel_rfl)) (by decide) (fun K hK => ?_)
      refine goes_ Tryd.func23 (by kernel_rfl) rfl #[.slice A0 y102.length c0] (by rfl) rfl rfl eqA ?_
      with_reducible refine (imprimaturref20_Top.calls k (fun k_ => (((P0_ k_ ∨ w.heap.size ≤ k_) ∧ some k_ ≠ (.slice Ao25 t115.length co25 : Value).ownBlock) ∧ some k_ ≠ (v119 : Value).ownBlock)) _ _ y102 t126 _ ?side1 A13.out).mono ?_
      (case side1 => exact HO125.out)
      rintro e w29 ⟨v127, rfl, ho0, hb⟩
      refine ⟨_, rfl, ?_⟩
      have n0_ := Aside0.mk (Kd.V_below (vL HO0.out) hb)
      have n1_ := Aside0.mk (Kd.V_below (vL HO106.out) hb)
      have n2_ := Aside0.mk (Kd.V_below (vL HO114.out) hb)
      have n3_ := Aside0.mk (Kd.N_below (nL HO117.out) hb)
      have n4_ := Aside0.mk (Kd.N_below (nL HO120.out) hb)
      have n5_ := Aside0.mk (Kd.V_below (vL HO125.out) hb)
      have n6_ := Aside0.mk (Kd.V_below (vL HO133.out) hb)
      have n7_ := Aside0.mk (Kd.V_lower (Kd.V_mono (ok' := fun k_ => (P0_ k_ ∨ w.heap.size ≤ k_) ∧ some k_ ≠ (.slice Ao25 t115.length co25 : Value).ownBlock ∧ some k_ ≠ (v119 : Value).ownBlock) ho0 (fun k_ hk_ => ⟨Or.elim hk_ (fun hs_ => hs_.1.1) (fun hn_ => (.inr (Nat.le_trans (below_size bel) hn_))), Or.elim hk_ (fun hs_ => hs_.1.2) (fun hn_ => (Kd.fresh' (Kd.N_lt (nL HO117.out)) k_ hn_)), Or.elim hk_ (fun hs_ => hs_.2) (fun hn_ => (Kd.fresh' (Kd.N_lt (nL HO120.out)) k_ hn_))⟩)) (below_size bel))
      have n8_ := Aside0.mk (below_step bel hb)
      clear HO0
      clear HO106
      clear HO114
      clear HO117
      clear HO120
      clear HO125
      clear HO133
      clear HB
      have HO0 := n0_
      have HO106 := n1_
      have HO114 := n2_
      have HO117 := n3_
      have HO120 := n4_
      have HO125 := n5_
      have HO133 := n6_
      have HO128 := n7_
      have HB := n8_
      clear n0_ n1_ n2_ n3_ n4_ n5_ n6_ n7_ n8_
      (try clear hb)
      (try clear hb2)
      (try clear hk)
      (try clear hi)
      (try clear ho0)
      refine hK.out _ _ trivial (fun hHeld => ?_)
      clear hK K
      refine normA (some 24) ?_
      refine one_ (i := 8) (N := some 28) (fl 13 511) rfl rfl (one_of HT_.out (by kernel_rfl)) (by decide) (fun K hK => ?_)
      refine goes_ Tryd.func23 (by kernel_rfl) rfl #[.slice A21 y110.length c21] (by rfl) rfl rfl eqA ?_
      with_reducible refine (imprimaturref20_Top.calls k (fun k_ => (((P0_ k_ ∨ w.heap.size ≤ k_) ∧ some k_ ≠ (.slice Ao25 t115.length co25 : Value).ownBlock) ∧ some k_ ≠ (v119 : Value).ownBlock)) _ _ y110 t134 _ ?side1 A16.out).mono ?_
      (case side1 => exact HO133.out)
      rintro e w30 ⟨v135, rfl, ho0, hb⟩
      refine ⟨_, rfl, ?_⟩
      have n0_ := Aside0.mk (Kd.V_below (vL HO0.out) hb)
      have n1_ := Aside0.mk (Kd.V_below (vL HO106.out) hb)
      have n2_ := Aside0.mk (Kd.V_below (vL HO114.out) hb)
      have n3_ := Aside0.mk (Kd.N_below (nL HO117.out) hb)
      have n4_ := Aside0.mk (Kd.N_below (nL HO120.out) hb)
      have n5_ := Aside0.mk (Kd.V_below (vL HO125.out) hb)
      have n6_ := Aside0.mk (Kd.V_below (vL HO133.out) hb)
      have n7_ := Aside0.mk (Kd.V_below (vL HO128.out) hb)
      have n8_ := Aside0.mk (Kd.V_lower (Kd.V_mono (ok' := fun k_ => (P0_ k_ ∨ w.heap.size ≤ k_) ∧ some k_ ≠ (.slice Ao25 t115.length co25 : Value).ownBlock ∧ some k_ ≠ (v119 : Value).ownBlock) ho0 (fun k_ hk_ => ⟨Or.elim hk_ (fun hs_ => hs_.1.1) (fun hn_ => (.inr (Nat.le_trans (below_size bel) hn_))), Or.elim hk_ (fun hs_ => hs_.1.2) (fun hn_ => (Kd.fresh' (Kd.N_lt (nL HO117.out)) k_ hn_)), Or.elim hk_ (fun hs_ => hs_.2) (fun hn_ => (Kd.fresh' (Kd.N_lt (nL HO120.out)) k_ hn_))⟩)) (below_size bel))
      have n9_ := Aside0.mk (below_step bel hb)
      clear HO0
      clear HO106
      clear HO114
      clear HO117
      clear HO120
      clear HO125
      clear HO133
      clear HO128
      clear HB
      have HO0 := n0_
      have HO106 := n1_
      have HO114 := n2_
      have HO117 := n3_
      have HO120 := n4_
      have HO125 := n5_
      have HO133 := n6_
      have HO128 := n7_
      have HO136 := n8_
      have HB := n9_
      clear n0_ n1_ n2_ n3_ n4_ n5_ n6_ n7_ n8_ n9_
      (try clear hb)
      (try clear hb2)
      (try clear hk)
      (try clear hi)
      (try clear ho0)
      obtain ⟨Ao31, co31, eo31⟩ := Kd.V_slice HO128.out
      (first | subst eo31 | (injection eo31 with f1_ f2_ f3_; have f4_ := f1_.symm; have f5_ := f3_.symm; clear f1_ f2_ f3_; subst f4_; subst f5_))
      obtain ⟨Ao32, co32, eo32⟩ := Kd.V_slice HO136.out
      (first | subst eo32 | (injection eo32 with f1_ f2_ f3_; have f4_ := f1_.symm; have f5_ := f3_.symm; clear f1_ f2_ f3_; subst f4_; subst f5_))
      refine hK.out _ _ trivial (fun hHeld => ?_)
      clear hK K
      refine normA (some 28) ?_
      refine one_ (i := 9) (N := some 29) (fl 13 1023) rfl rfl (one_of HT_.out (by kernel_rfl)) (by decide) (fun K hK => ?_)
      refine goes_ Tryd.func52 (by kernel_rfl) rfl #[.int .u8 17, .slice Ao31 t126.length co31, .slice Ao32 t134.length co32] (by rfl) rfl rfl eqA ?_
      with_reducible refine (imprimaturref20_text.calls 17 _ _ t126 _ _ t134 t137 _ ?side1 ?side2 ?side3 ?side4 A17.out).mono ?_
      (case side1 => exact cL (Kd.V_reads' HO128.out).2.2)
      (case side2 => exact (Kd.V_reads' HO128.out).2.1)
      (case side3 => exact cL (Kd.V_reads' HO136.out).2.2)
      (case side4 => exact (Kd.V_reads' HO136.out).2.1)
      rintro e w33 ⟨v138, rfl, ho0, hb⟩
      refine ⟨_, rfl, ?_⟩
      have n0_ := Aside0.mk (Kd.V_elder' (vL HO0.out) (Kd.R_base ho0) hb)
      have n1_ := Aside0.mk (Kd.V_elder' (vL HO106.out) (Kd.R_base ho0) hb)
      have n2_ := Aside0.mk (Kd.V_elder' (vL HO114.out) (Kd.R_base ho0) hb)
      have n3_ := Aside0.mk (Kd.N_elder' (nL HO117.out) (Kd.R_base ho0) hb)
      have n4_ := Aside0.mk (Kd.N_elder' (nL HO120.out) (Kd.R_base ho0) hb)
      have n5_ := Aside0.mk (Kd.V_elder' (vL HO125.out) (Kd.R_base ho0) hb)
      have n6_ := Aside0.mk (Kd.V_elder' (vL HO133.out) (Kd.R_base ho0) hb)
      have n7_ := Aside0.mk (Kd.V_elder' (vL HO128.out) (Kd.R_base ho0) hb)
      have n8_ := Aside0.mk (Kd.V_elder' (vL HO136.out) (Kd.R_base ho0) hb)
      have n9_ := Aside0.mk (Kd.R_lower (Kd.R_newM (M := fun k_ => (w.heap.size ≤ k_)) ho0 (below_size bel) (fun k_ h_ => h_)) (below_size bel))
      have n10_ := Aside0.mk (below_step bel hb)
      clear HO0
      clear HO106
      clear HO114
      clear HO117
      clear HO120
      clear HO125
      clear HO133
      clear HO128
      clear HO136
      clear HB
      have HO0 := n0_
      have HO106 := n1_
      have HO114 := n2_
      have HO117 := n3_
      have HO120 := n4_
      have HO125 := n5_
      have HO133 := n6_
      have HO128 := n7_
      have HO136 := n8_
      have HO139 := n9_
      have HB := n10_
      clear n0_ n1_ n2_ n3_ n4_ n5_ n6_ n7_ n8_ n9_ n10_
      (try clear hb)
      (try clear hb2)
      (try clear hk)
      (try clear hi)
      (try clear ho0)
      obtain ⟨Ao35, co35, eo35⟩ := Kd.R_slice HO139.out
      (first | subst eo35 | (injection eo35 with f1_ f2_ f3_; have f4_ := f1_.symm; have f5_ := f3_.symm; clear f1_ f2_ f3_; subst f4_; subst f5_))
      refine hK.out _ _ trivial (fun hHeld => ?_)
      clear hK K
      refine normA (some 29) ?_
      refine one_ (i := 10) (N := some 30) (fl 13 2047) rfl rfl (one_of HT_.out (by kernel_rfl)) (by decide) (fun K hK => ?_)
      refine value_ (w1 := ?_) (v := ?_) (by rfl) rfl ?_ ?_
      rotate_left 2
      ·go_simp
       constructor
       ·rfl
       ·rfl
      refine hK.out _ _ trivial (fun hHeld => ?_)
      clear hK K
      refine normA (some 30) ?_
      refine one_ (i := 11) (N := some 31) (fl 13 4095) rfl rfl (one_of HT_.out (by kernel_rfl)) (by decide) (fun K hK => ?_)
      refine Kd.N_append_step (Kd.slice 5 (Kd.int .u8)) (w0 := w) w.heap.size (by rfl) (.tmp 20) (.tmp 30) 22 23 (.slice none 0 0) 24 rfl Tryd.underlying22 info23 rfl (by decide) (by omega) v119 y118 t137 [.slice Ao35 t137.length co35] (fun k_ => (P0_ k_ ∨ w.heap.size ≤ k_)) (fun k_ => ((fun k_ => (P0_ k_ ∨ w.heap.size ≤ k_))) k_ ∧ some k_ ≠ (v119 : Value).ownBlock) rfl rfl ?aP (fun _ hk => hk) ?aF ?aO ?aB ?aS ?aL ?_
      (case aP => exact (Kd.FK_slice_mk (Kd.R_reads' (Kd.R_mono (ok' := (fun k_ => ((fun k_ => (P0_ k_ ∨ w.heap.size ≤ k_))) k_ ∧ some k_ ≠ (v119 : Value).ownBlock)) (Kd.R_apart' (HO139.out) (Kd.N_typed HO120.out) (by decide)) (fun k_ hk => ⟨(.inr (hk.1.1)), hk.2⟩))).2.1 (Kd.R_F (Kd.R_mono (ok' := (fun k_ => ((fun k_ => (P0_ k_ ∨ w.heap.size ≤ k_))) k_ ∧ some k_ ≠ (v119 : Value).ownBlock)) (Kd.R_apart' (HO139.out) (Kd.N_typed HO120.out) (by decide)) (fun k_ hk => ⟨(.inr (hk.1.1)), hk.2⟩)))))
      (case aB => exact bel)
      (case aF => exact (fun k_ hk => (.inr (Nat.le_trans (below_size bel) hk))))
      (case aO => exact (by (with_reducible repeat (first | apply Kd.N_alloc | apply Kd.N_drewN | apply Kd.N_drew)); exact Kd.N_mono HO120.out (fun _ hk => hk.1)))
      (case aS => exact (below_size bel))
      (case aL => have := LMc18.out; omega)
      intro v141 w34 ho hb hg hat
      rw [← Ny140.out] at ho
      have n0_ := Aside0.mk (Kd.V_afterv (ok := (fun k_ => (P0_ k_ ∨ w.heap.size ≤ k_) ∧ some k_ ≠ (.slice Ao25 t115.length co25 : Value).ownBlock ∧ some k_ ≠ (.slice Ao35 t137.length co35 : Value).ownBlock)) (by (with_reducible repeat (first | apply Kd.V_alloc | apply Kd.V_drewN | apply Kd.V_drew)); exact Kd.V_mono HO0.out (fun _ hk => ⟨⟨hk.1.1.1, ⟨hk.1.1.2, hk.2⟩⟩, hk.1.2⟩)) hg hat)
      have n1_ := Aside0.mk (Kd.V_afterv (ok := (fun k_ => (P0_ k_ ∨ w.heap.size ≤ k_) ∧ some k_ ≠ (.slice Ao25 t115.length co25 : Value).ownBlock ∧ some k_ ≠ (.slice Ao35 t137.length co35 : Value).ownBlock)) (by (with_reducible repeat (first | apply Kd.V_alloc | apply Kd.V_drewN | apply Kd.V_drew)); exact Kd.V_mono HO106.out (fun _ hk => ⟨⟨hk.1.1.1, ⟨hk.1.1.2, hk.2⟩⟩, hk.1.2⟩)) hg hat)
      have n2_ := Aside0.mk (Kd.V_afterv (ok := (fun k_ => (P0_ k_ ∨ w.heap.size ≤ k_) ∧ some k_ ≠ (.slice Ao25 t115.length co25 : Value).ownBlock ∧ some k_ ≠ (.slice Ao35 t137.length co35 : Value).ownBlock)) (by (with_reducible repeat (first | apply Kd.V_alloc | apply Kd.V_drewN | apply Kd.V_drew)); exact Kd.V_mono HO114.out (fun _ hk => ⟨⟨hk.1.1.1, ⟨hk.1.1.2, hk.2⟩⟩, hk.1.2⟩)) hg hat)
      have n3_ := Aside0.mk (Kd.N_afterv (ok := (fun k_ => (P0_ k_ ∨ w.heap.size ≤ k_) ∧ some k_ ≠ (.slice Ao35 t137.length co35 : Value).ownBlock)) (by (with_reducible repeat (first | apply Kd.N_alloc | apply Kd.N_drewN | apply Kd.N_drew)); exact Kd.N_mono HO117.out (fun _ hk => ⟨⟨hk.1.1, hk.2⟩, hk.1.2⟩)) hg hat)
      have n4_ := Aside0.mk (Kd.V_afterv (ok := (fun k_ => (P0_ k_ ∨ w.heap.size ≤ k_) ∧ some k_ ≠ (.slice Ao25 t115.length co25 : Value).ownBlock ∧ some k_ ≠ (.slice Ao35 t137.length co35 : Value).ownBlock)) (by (with_reducible repeat (first | apply Kd.V_alloc | apply Kd.V_drewN | apply Kd.V_drew)); exact Kd.V_mono HO125.out (fun _ hk => ⟨⟨hk.1.1.1, ⟨hk.1.1.2, hk.2⟩⟩, hk.1.2⟩)) hg hat)
      have n5_ := Aside0.mk (Kd.V_afterv (ok := (fun k_ => (P0_ k_ ∨ w.heap.size ≤ k_) ∧ some k_ ≠ (.slice Ao25 t115.length co25 : Value).ownBlock ∧ some k_ ≠ (.slice Ao35 t137.length co35 : Value).ownBlock)) (by (with_reducible repeat (first | apply Kd.V_alloc | apply Kd.V_drewN | apply Kd.V_drew)); exact Kd.V_mono HO133.out (fun _ hk => ⟨⟨hk.1.1.1, ⟨hk.1.1.2, hk.2⟩⟩, hk.1.2⟩)) hg hat)
      have n6_ := Aside0.mk (Kd.V_afterv (ok := (fun k_ => (P0_ k_ ∨ w.heap.size ≤ k_) ∧ some k_ ≠ (.slice Ao25 t115.length co25 : Value).ownBlock ∧ some k_ ≠ (.slice Ao35 t137.length co35 : Value).ownBlock)) (by (with_reducible repeat (first | apply Kd.V_alloc | apply Kd.V_drewN | apply Kd.V_drew)); exact Kd.V_mono HO128.out (fun _ hk => ⟨⟨hk.1.1, ⟨hk.1.2.1, hk.2⟩⟩, hk.1.2.2⟩)) hg hat)
      have n7_ := Aside0.mk (Kd.V_afterv (ok := (fun k_ => (P0_ k_ ∨ w.heap.size ≤ k_) ∧ some k_ ≠ (.slice Ao25 t115.length co25 : Value).ownBlock ∧ some k_ ≠ (.slice Ao35 t137.length co35 : Value).ownBlock)) (by (with_reducible repeat (first | apply Kd.V_alloc | apply Kd.V_drewN | apply Kd.V_drew)); exact Kd.V_mono HO136.out (fun _ hk => ⟨⟨hk.1.1, ⟨hk.1.2.1, hk.2⟩⟩, hk.1.2.2⟩)) hg hat)
      have n8_ := Aside0.mk (hb)
      have n9_ := Aside0.mk (ho)
      clear HO0
      clear HO106
      clear HO114
      clear HO117
      clear HO125
      clear HO133
      clear HO128
      clear HO136
      clear HB
      clear HO120
      clear HO139
      have HO0 := n0_
      have HO106 := n1_
      have HO114 := n2_
      have HO117 := n3_
      have HO125 := n4_
      have HO133 := n5_
      have HO128 := n6_
      have HO136 := n7_
      have HB := n8_
      have HO142 := n9_
      clear n0_ n1_ n2_ n3_ n4_ n5_ n6_ n7_ n8_ n9_
      clear ho hb hg hat
      refine hK.out _ _ trivial (fun hHeld => ?_)
      clear hK K
      refine normA (some 31) ?_
      refine pureA (i := 12) (N := some 2) (fl 13 8191) (any_of HT_.out (by kernel_rfl)) ?_
      refine done_ (done_of HT_.out (by kernel_rfl)) ?_
      try go_wp2
      go_ret
      exact ⟨_, by first | rfl | (simp [errW_none, errW_some] <;> rfl) | (simp [*, errW_none, errW_some] <;> rfl), by (with_reducible repeat (first | apply Kd.N_alloc | apply Kd.N_drewN | apply Kd.N_drew)); exact HO142.out, by repeat (first | (with_reducible first | exact HB.out | apply below_alloc | apply pw_below_drewN | apply below_drew1) | exact HB.out)⟩
     ·rw [if_neg c18] at H
      exact absurd H (by simp)
    ·rw [if_neg c10] at H
     exact absurd H (by simp)
   ·rw [if_neg c5] at H
    exact absurd H (by simp)
  ·rw [if_neg c4] at H
   exact absurd H (by simp)

/-! ### imprimaturref06_Clash: function 40 -/
mutual
def imprimaturref06_Clash.l0 : Nat → List (List Int) → List (List Int) → Int → Option (Bool)
 | 0, _, _, _ => none
 | k + 1, x0, x3, x4 => if x4 < (x0.length : Int) then (if 0 ≤ x4 then ((imprimaturref02_Hash256.f (rd_L1 x0 x4)).bind fun t144 => (if x3.length < 5864062014805 then (imprimaturref06_Clash.l0 k x0 (x3 ++ [t144]) (wrap64 (x4 + 1))) else (none))) else (none)) else (imprimaturref06_Clash.l1 k x0 x3 0)
def imprimaturref06_Clash.l1 : Nat → List (List Int) → List (List Int) → Int → Option (Bool)
 | 0, _, _, _ => none
 | k + 1, x0, x3, x5 => if x5 < (x0.length : Int) then (imprimaturref06_Clash.l2 k x0 x3 x5 0) else (some false)
def imprimaturref06_Clash.l2 : Nat → List (List Int) → List (List Int) → Int → Int → Option (Bool)
 | 0, _, _, _, _ => none
 | k + 1, x0, x3, x5, x6 => if x6 < x5 then (if 0 ≤ x5 then (if x5 < (x3.length : Int) then (if 0 ≤ x6 then (if x6 < (x3.length : Int) then (if (strOfNums (rd_L1 x3 x5)).toList = (strOfNums (rd_L1 x3 x6)).toList then (if x5 < (x0.length : Int) then (if x6 < (x0.length : Int) then (if (strOfNums (rd_L1 x0 x5)).toList = (strOfNums (rd_L1 x0 x6)).toList then (imprimaturref06_Clash.l2 k x0 x3 x5 (wrap64 (x6 + 1))) else (some true)) else (none)) else (none)) else (imprimaturref06_Clash.l2 k x0 x3 x5 (wrap64 (x6 + 1)))) else (none)) else (none)) else (none)) else (none)) else (imprimaturref06_Clash.l1 k x0 x3 (wrap64 (x5 + 1)))
end
def imprimaturref06_Clash.f (k : Nat) (l0 : List (List Int)) : Option (Bool) := imprimaturref06_Clash.l0 k l0 ([] : List (List Int)) 0
theorem imprimaturref06_Clash.mono_l : ∀ k, (∀ y0 y1 y2, LeO (imprimaturref06_Clash.l0 k y0 y1 y2) (imprimaturref06_Clash.l0 (k + 1) y0 y1 y2)) ∧ (∀ y0 y1 y2, LeO (imprimaturref06_Clash.l1 k y0 y1 y2) (imprimaturref06_Clash.l1 (k + 1) y0 y1 y2)) ∧ (∀ y0 y1 y2 y3, LeO (imprimaturref06_Clash.l2 k y0 y1 y2 y3) (imprimaturref06_Clash.l2 (k + 1) y0 y1 y2 y3))
 | 0 => ⟨fun _ _ _ r h => by simp [imprimaturref06_Clash.l0] at h, fun _ _ _ r h => by simp [imprimaturref06_Clash.l1] at h, fun _ _ _ _ r h => by simp [imprimaturref06_Clash.l2] at h⟩
 | k + 1 => by
  obtain ⟨ih0, ih1, ih2⟩ := imprimaturref06_Clash.mono_l k
  refine ⟨?_, ?_, ?_⟩
  ·intro y0 y1 y2
   unfold imprimaturref06_Clash.l0
   repeat' first
   | (with_reducible exact ih0 _ _ _)
   | (with_reducible exact ih1 _ _ _)
   | (with_reducible exact ih2 _ _ _ _)
   | (with_reducible exact LeO.refl _)
   | (with_reducible exact LeO.none _)
   | (with_reducible refine LeO.ite ?_ ?_)
   | (with_reducible refine LeO.bind ?_ (fun _ => ?_))
   | exact ih0 _ _ _
   | exact ih1 _ _ _
   | exact ih2 _ _ _ _
   | exact LeO.none _
   | refine LeO.ite ?_ ?_
   | refine LeO.bind ?_ (fun _ => ?_)
  ·intro y0 y1 y2
   unfold imprimaturref06_Clash.l1
   repeat' first
   | (with_reducible exact ih0 _ _ _)
   | (with_reducible exact ih1 _ _ _)
   | (with_reducible exact ih2 _ _ _ _)
   | (with_reducible exact LeO.refl _)
   | (with_reducible exact LeO.none _)
   | (with_reducible refine LeO.ite ?_ ?_)
   | (with_reducible refine LeO.bind ?_ (fun _ => ?_))
   | exact ih0 _ _ _
   | exact ih1 _ _ _
   | exact ih2 _ _ _ _
   | exact LeO.none _
   | refine LeO.ite ?_ ?_
   | refine LeO.bind ?_ (fun _ => ?_)
  ·intro y0 y1 y2 y3
   unfold imprimaturref06_Clash.l2
   repeat' first
   | (with_reducible exact ih0 _ _ _)
   | (with_reducible exact ih1 _ _ _)
   | (with_reducible exact ih2 _ _ _ _)
   | (with_reducible exact LeO.refl _)
   | (with_reducible exact LeO.none _)
   | (with_reducible refine LeO.ite ?_ ?_)
   | (with_reducible refine LeO.bind ?_ (fun _ => ?_))
   | exact ih0 _ _ _
   | exact ih1 _ _ _
   | exact ih2 _ _ _ _
   | exact LeO.none _
   | refine LeO.ite ?_ ?_
   | refine LeO.bind ?_ (fun _ => ?_)
theorem imprimaturref06_Clash.mono : ∀ a0 k, LeO (imprimaturref06_Clash.f k a0) (imprimaturref06_Clash.f (k + 1) a0) := by
 intro a0 k
 obtain ⟨ih0, ih1, ih2⟩ := imprimaturref06_Clash.mono_l k
 unfold imprimaturref06_Clash.f
 repeat' first
   | (with_reducible exact ih0 _ _ _)
   | (with_reducible exact ih1 _ _ _)
   | (with_reducible exact ih2 _ _ _ _)
   | (with_reducible exact LeO.refl _)
   | (with_reducible exact LeO.none _)
   | (with_reducible refine LeO.ite ?_ ?_)
   | (with_reducible refine LeO.bind ?_ (fun _ => ?_))
   | exact ih0 _ _ _
   | exact ih1 _ _ _
   | exact ih2 _ _ _ _
   | exact LeO.none _
   | refine LeO.ite ?_ ?_
   | refine LeO.bind ?_ (fun _ => ?_)
set_option maxHeartbeats 8000000 in
set_option maxRecDepth 100000 in
theorem imprimaturref06_Clash.calls (k : Nat) (A0 : Option Addr) (c0 : Nat) (l0 : List (List Int)) (r : Bool) (w : World) (hr0 : Kd.C (Kd.slice 5 (Kd.int .u8)) w A0 l0.length l0) (hc0 : l0.length ≤ c0) (h : imprimaturref06_Clash.f k l0 = some r) :
  Calls Tryd.prog 40 #[.slice A0 l0.length c0] w fun e w' => e = .returned (.bool r) ∧ Below w.heap.size w w' := by
 have HR0 := Aside0.mk hr0
 have HC0 := Aside0.mk hc0
 clear hr0 hc0
 have HB := Aside0.mk (Below.refl w.heap.size w)
 have H : (imprimaturref06_Clash.l0 k l0 ([] : List (List Int)) 0) = some r := h
 clear h
 have H' := Aside0.mk H
 clear H
 go_enter Tryd.func40, Tryd.ntmps40
 go_wp2
 repeat (go_quiet (fail); try go_wp2)
 go_loopg [3, 4] k (fun kq v3 v4 w' => ∃ (x3_1 : List (List Int)) (x4_1 : Int), v4 = .int .i64 x4_1 ∧ Aside0 (imprimaturref06_Clash.l0 kq l0 x3_1 x4_1 = some r) ∧ Aside0 (kq ≤ k) ∧ Aside0 (Kd.S (Kd.slice 5 (Kd.int .u8)) 23 w' w.heap.size (fun _ => True) v3 x3_1) ∧ Aside0 (Below w.heap.size w w'))
 case atStart => exact ⟨(([] : List (List Int))), (0), (by first | rfl | (simp; done) | (simp [*]; done)), H', ⟨Nat.le_refl _⟩, ⟨by first | exact Kd.S_nil _ _ _ _ _ | exact Kd.N_nil _ _ _ _ _ | exact Kd.V_nil _ _ _ _ _ | exact Kd.Q_nil _ _ _ _ _ | exact Kd.R_nil _ _ _ _ _⟩, ⟨by repeat (first | (with_reducible first | exact HB.out | apply below_alloc | apply pw_below_drewN | apply below_drew1) | exact HB.out)⟩⟩
 case round =>
  clear H'
  obtain ⟨x3_1, x4_1, rfl, HA, HK1, HO_3, HB⟩ := hrel
  cases gk with
  | zero => exact absurd HA.out (by simp [imprimaturref06_Clash.l0])
  | succ k1 =>
   have H := HA.out
   clear HA
   simp only [imprimaturref06_Clash.l0] at H
   by_cases c2 : x4_1 < (l0.length : Int)
   ·rw [if_pos c2] at H
    have c2b0 : decide (x4_1 < (l0.length : Int)) = true := decide_eq_true c2
    clear c2
    by_cases c3 : 0 ≤ x4_1
    ·rw [if_pos c3] at H
     have c3b0 : decide (0 ≤ x4_1) = true := decide_eq_true c3
     clear c3
     replace H := Option.bind_eq_some_iff.mp H
     obtain ⟨t144, A40, H⟩ := H
     replace H : (if x3_1.length < 5864062014805 then (imprimaturref06_Clash.l0 k1 l0 (x3_1 ++ [t144]) (wrap64 (x4_1 + 1))) else (none)) = some r := H
     have A4 := Aside0.mk A40
     clear A40
     by_cases c5 : x3_1.length < 5864062014805
     ·rw [if_pos c5] at H
      have LMc5 := Aside0.mk c5
      clear c5
      obtain ⟨y147, hy147⟩ : ∃ y_ : List (List Int), y_ = (x3_1 ++ [t144]) := ⟨_, rfl⟩
      replace H : (imprimaturref06_Clash.l0 k1 l0 y147 (wrap64 (x4_1 + 1))) = some r := hyA hy147 H
      have Ny147 := Aside0.mk hy147
      clear hy147
      have H' := Aside0.mk H
      clear H
      have p143 : 0 ≤ (x4_1 : Int) := of_decide_eq_true asm_
      have q143 : x4_1 < (l0.length : Int) := of_decide_eq_true asm_
      obtain ⟨ad143, A143_0, c143_0, e143, hx143_0, hl143_0, hi143_0⟩ := at_L1 HR0.out x4_1 p143 q143
      cases e143
      replace hx143_0 := (HB.out.cell (World.block_lt_of_cell? w _ hx143_0)).trans hx143_0
      have HR143_0 := Aside0.mk hi143_0
      have HC143_0 := Aside0.mk hl143_0
      clear hi143_0 hl143_0
      replace p143 := eq_true p143
      replace q143 := eq_true q143
      go_wp2_with (first | (go_at_call 50; (with_reducible refine (imprimaturref02_Hash256.calls _ _ (rd_L1 l0 x4_1) t144 _ ?side1 ?side2 A4.out).mono ?_); (case side1 => exact cL (Kd.C_below HR143_0.out HB.out)); (case side2 => exact HC143_0.out); rintro e w6 ⟨v145, rfl, ho0, hb⟩; have n0_ := Aside0.mk (Kd.S_elder' (sL HO_3.out) (Kd.R_base ho0) hb); have n1_ := Aside0.mk (Kd.R_lower ho0 (below_size bel)); have n2_ := Aside0.mk (below_step bel hb); clear HO_3; clear HB; have HO_3 := n0_; have HO146 := n1_; have HB := n2_; clear n0_ n1_ n2_; (try clear hb); (try clear hb2); (try clear hk); (try clear hi); (try clear ho0); obtain ⟨Ao8, co8, eo8⟩ := Kd.R_slice HO146.out; subst eo8) | ((with_reducible refine gate_builtin (b := .append) (xs := #[.tmp 13, .tmp 19]) rfl ?_); at_builtin; refine Kd.S_append (Kd.slice 5 (Kd.int .u8)) (w0 := w) w.heap.size rfl (.tmp 13) (.tmp 19) 22 23 (.slice none 0 0) 24 rfl Tryd.underlying22 info23 rfl (by decide) (by omega) u3 x3_1 t144 [.slice Ao8 t144.length co8] (fun _ => True) (fun k_ => some k_ = (.slice Ao8 t144.length co8 : Value).ownBlock) rfl rfl ?aP (fun k_ hk_ => ((Kd.R_mono (ok' := fun k_ => ((fun _ => True)) k_ ∧ some k_ ≠ (u3 : Value).ownBlock) (Kd.R_apart' (HO146.out) (Kd.S_typed HO_3.out) (by decide)) (fun k_ hk => ⟨trivial, hk.2⟩))).1 k_ hk_.symm) ?aF ?aO ?aB ?aS ?aL ?_; (case aP => exact Kd.M_row (Kd.R_mono (Kd.R_tight rfl (Kd.R_mono (ok' := fun k_ => ((fun _ => True)) k_ ∧ some k_ ≠ (u3 : Value).ownBlock) (Kd.R_apart' (HO146.out) (Kd.S_typed HO_3.out) (by decide)) (fun k_ hk => ⟨trivial, hk.2⟩))) (fun _ h_ => h_))); (case aB => exact bel); (case aF => exact (fun _ _ => trivial)); (case aO => exact (by (with_reducible repeat (first | apply Kd.S_alloc | apply Kd.S_drewN | apply Kd.S_drew)); exact Kd.S_mono HO_3.out (fun k_ hk => ⟨trivial, fun e_ => hk.2 e_⟩))); (case aS => exact (below_size bel)); (case aL => have := LMc5.out; omega); intro v148 w7 ho hb hg hat; rw [← Ny147.out] at ho; have n0_ := Aside0.mk (hb); have n1_ := Aside0.mk (ho); clear HB; clear HO_3; clear HO146; have HB := n0_; have HO149 := n1_; clear n0_ n1_; clear ho hb hg hat))
      repeat (go_quiet (first | (go_at_call 50; (with_reducible refine (imprimaturref02_Hash256.calls _ _ (rd_L1 l0 x4_1) t144 _ ?side1 ?side2 A4.out).mono ?_); (case side1 => exact cL (Kd.C_below HR143_0.out HB.out)); (case side2 => exact HC143_0.out); rintro e w6 ⟨v145, rfl, ho0, hb⟩; have n0_ := Aside0.mk (Kd.S_elder' (sL HO_3.out) (Kd.R_base ho0) hb); have n1_ := Aside0.mk (Kd.R_lower ho0 (below_size bel)); have n2_ := Aside0.mk (below_step bel hb); clear HO_3; clear HB; have HO_3 := n0_; have HO146 := n1_; have HB := n2_; clear n0_ n1_ n2_; (try clear hb); (try clear hb2); (try clear hk); (try clear hi); (try clear ho0); obtain ⟨Ao8, co8, eo8⟩ := Kd.R_slice HO146.out; subst eo8) | ((with_reducible refine gate_builtin (b := .append) (xs := #[.tmp 13, .tmp 19]) rfl ?_); at_builtin; refine Kd.S_append (Kd.slice 5 (Kd.int .u8)) (w0 := w) w.heap.size rfl (.tmp 13) (.tmp 19) 22 23 (.slice none 0 0) 24 rfl Tryd.underlying22 info23 rfl (by decide) (by omega) u3 x3_1 t144 [.slice Ao8 t144.length co8] (fun _ => True) (fun k_ => some k_ = (.slice Ao8 t144.length co8 : Value).ownBlock) rfl rfl ?aP (fun k_ hk_ => ((Kd.R_mono (ok' := fun k_ => ((fun _ => True)) k_ ∧ some k_ ≠ (u3 : Value).ownBlock) (Kd.R_apart' (HO146.out) (Kd.S_typed HO_3.out) (by decide)) (fun k_ hk => ⟨trivial, hk.2⟩))).1 k_ hk_.symm) ?aF ?aO ?aB ?aS ?aL ?_; (case aP => exact Kd.M_row (Kd.R_mono (Kd.R_tight rfl (Kd.R_mono (ok' := fun k_ => ((fun _ => True)) k_ ∧ some k_ ≠ (u3 : Value).ownBlock) (Kd.R_apart' (HO146.out) (Kd.S_typed HO_3.out) (by decide)) (fun k_ hk => ⟨trivial, hk.2⟩))) (fun _ h_ => h_))); (case aB => exact bel); (case aF => exact (fun _ _ => trivial)); (case aO => exact (by (with_reducible repeat (first | apply Kd.S_alloc | apply Kd.S_drewN | apply Kd.S_drew)); exact Kd.S_mono HO_3.out (fun k_ hk => ⟨trivial, fun e_ => hk.2 e_⟩))); (case aS => exact (below_size bel)); (case aL => have := LMc5.out; omega); intro v148 w7 ho hb hg hat; rw [← Ny147.out] at ho; have n0_ := Aside0.mk (hb); have n1_ := Aside0.mk (ho); clear HB; clear HO_3; clear HO146; have HB := n0_; have HO149 := n1_; clear n0_ n1_; clear ho hb hg hat)); try go_wp2_with (first | (go_at_call 50; (with_reducible refine (imprimaturref02_Hash256.calls _ _ (rd_L1 l0 x4_1) t144 _ ?side1 ?side2 A4.out).mono ?_); (case side1 => exact cL (Kd.C_below HR143_0.out HB.out)); (case side2 => exact HC143_0.out); rintro e w6 ⟨v145, rfl, ho0, hb⟩; have n0_ := Aside0.mk (Kd.S_elder' (sL HO_3.out) (Kd.R_base ho0) hb); have n1_ := Aside0.mk (Kd.R_lower ho0 (below_size bel)); have n2_ := Aside0.mk (below_step bel hb); clear HO_3; clear HB; have HO_3 := n0_; have HO146 := n1_; have HB := n2_; clear n0_ n1_ n2_; (try clear hb); (try clear hb2); (try clear hk); (try clear hi); (try clear ho0); obtain ⟨Ao8, co8, eo8⟩ := Kd.R_slice HO146.out; subst eo8) | ((with_reducible refine gate_builtin (b := .append) (xs := #[.tmp 13, .tmp 19]) rfl ?_); at_builtin; refine Kd.S_append (Kd.slice 5 (Kd.int .u8)) (w0 := w) w.heap.size rfl (.tmp 13) (.tmp 19) 22 23 (.slice none 0 0) 24 rfl Tryd.underlying22 info23 rfl (by decide) (by omega) u3 x3_1 t144 [.slice Ao8 t144.length co8] (fun _ => True) (fun k_ => some k_ = (.slice Ao8 t144.length co8 : Value).ownBlock) rfl rfl ?aP (fun k_ hk_ => ((Kd.R_mono (ok' := fun k_ => ((fun _ => True)) k_ ∧ some k_ ≠ (u3 : Value).ownBlock) (Kd.R_apart' (HO146.out) (Kd.S_typed HO_3.out) (by decide)) (fun k_ hk => ⟨trivial, hk.2⟩))).1 k_ hk_.symm) ?aF ?aO ?aB ?aS ?aL ?_; (case aP => exact Kd.M_row (Kd.R_mono (Kd.R_tight rfl (Kd.R_mono (ok' := fun k_ => ((fun _ => True)) k_ ∧ some k_ ≠ (u3 : Value).ownBlock) (Kd.R_apart' (HO146.out) (Kd.S_typed HO_3.out) (by decide)) (fun k_ hk => ⟨trivial, hk.2⟩))) (fun _ h_ => h_))); (case aB => exact bel); (case aF => exact (fun _ _ => trivial)); (case aO => exact (by (with_reducible repeat (first | apply Kd.S_alloc | apply Kd.S_drewN | apply Kd.S_drew)); exact Kd.S_mono HO_3.out (fun k_ hk => ⟨trivial, fun e_ => hk.2 e_⟩))); (case aS => exact (below_size bel)); (case aL => have := LMc5.out; omega); intro v148 w7 ho hb hg hat; rw [← Ny147.out] at ho; have n0_ := Aside0.mk (hb); have n1_ := Aside0.mk (ho); clear HB; clear HO_3; clear HO146; have HB := n0_; have HO149 := n1_; clear n0_ n1_; clear ho hb hg hat)))
      go_roundg k1
      case measure => have := HK1.out; omega
      case rel => exact ⟨(y147), (wrap64 (x4_1 + 1)), (by first | rfl | (simp; done) | (simp [*]; done)), H', ⟨by have := HK1.out; omega⟩, ⟨by (with_reducible repeat (first | apply Kd.S_alloc | apply Kd.S_drewN | apply Kd.S_drew)); exact HO149.out⟩, ⟨by repeat (first | (with_reducible first | exact HB.out | apply below_alloc | apply pw_below_drewN | apply below_drew1) | exact HB.out)⟩⟩
     ·rw [if_neg c5] at H
      exact absurd H (by simp)
    ·rw [if_neg c3] at H
     exact absurd H (by simp)
   ·rw [if_neg c2] at H
    have c2b0 : decide (x4_1 < (l0.length : Int)) = false := decide_eq_false c2
    clear c2
    have H' := Aside0.mk H
    clear H
    go_wp2
    repeat (go_quiet (fail); try go_wp2)
    go_loopg [5] k1 (fun kq v5 w' => ∃ (x5_2 : Int), v5 = .int .i64 x5_2 ∧ Aside0 (imprimaturref06_Clash.l1 kq l0 x3_1 x5_2 = some r) ∧ Aside0 (kq ≤ k1) ∧ Aside0 (Kd.S (Kd.slice 5 (Kd.int .u8)) 23 w' w.heap.size (fun _ => True) u3 x3_1) ∧ Aside0 (Below w.heap.size w w'))
    case atStart => exact ⟨(0), (by first | rfl | (simp; done) | (simp [*]; done)), H', ⟨Nat.le_refl _⟩, ⟨by (with_reducible repeat (first | apply Kd.S_alloc | apply Kd.S_drewN | apply Kd.S_drew)); exact HO_3.out⟩, ⟨by repeat (first | (with_reducible first | exact HB.out | apply below_alloc | apply pw_below_drewN | apply below_drew1) | exact HB.out)⟩⟩
    case round =>
     clear H'
     try clear c1
     try clear p1
     try clear q1
     try clear hx1
     try clear c2
     try clear c2b0
     try clear p2
     try clear c3
     try clear c3b0
     try clear c4
     try clear c5
     try clear p6
     try clear hx143_0
     try clear p143
     try clear q143
     obtain ⟨x5_2, rfl, HA, HK2, HO_3, HB⟩ := hrel
     cases gk with
     | zero => exact absurd HA.out (by simp [imprimaturref06_Clash.l1])
     | succ k2 =>
      have H := HA.out
      clear HA
      simp only [imprimaturref06_Clash.l1] at H
      by_cases c9 : x5_2 < (l0.length : Int)
      ·rw [if_pos c9] at H
       have c9b0 : decide (x5_2 < (l0.length : Int)) = true := decide_eq_true c9
       clear c9
       have H' := Aside0.mk H
       clear H
       go_wp2
       repeat (go_quiet (fail); try go_wp2)
       go_loopg [6] k2 (fun kq v6 w' => ∃ (x6_3 : Int), v6 = .int .i64 x6_3 ∧ Aside0 (imprimaturref06_Clash.l2 kq l0 x3_1 x5_2 x6_3 = some r) ∧ Aside0 (kq ≤ k2) ∧ Aside0 (Kd.S (Kd.slice 5 (Kd.int .u8)) 23 w' w.heap.size (fun _ => True) u3 x3_1) ∧ Aside0 (Below w.heap.size w w'))
       case atStart => exact ⟨(0), (by first | rfl | (simp; done) | (simp [*]; done)), H', ⟨Nat.le_refl _⟩, ⟨by (with_reducible repeat (first | apply Kd.S_alloc | apply Kd.S_drewN | apply Kd.S_drew)); exact HO_3.out⟩, ⟨by repeat (first | (with_reducible first | exact HB.out | apply below_alloc | apply pw_below_drewN | apply below_drew1) | exact HB.out)⟩⟩
       case round =>
        clear H'
        try clear c1
        try clear p1
        try clear q1
        try clear hx1
        try clear c2
        try clear c2b0
        try clear p2
        try clear c3
        try clear c3b0
        try clear c4
        try clear c5
        try clear p6
        try clear c9
        try clear c9b0
        try clear hx143_0
        try clear p1
        try clear p143
        try clear p2
        try clear p6
        try clear q1
        try clear q143
        obtain ⟨x6_3, rfl, HA, HK3, HO_3, HB⟩ := hrel
        cases gk with
        | zero => exact absurd HA.out (by simp [imprimaturref06_Clash.l2])
        | succ k3 =>
         have H := HA.out
         clear HA
         simp only [imprimaturref06_Clash.l2] at H
         by_cases c10 : x6_3 < x5_2
         ·rw [if_pos c10] at H
          have c10b0 : decide (x6_3 < x5_2) = true := decide_eq_true c10
          clear c10
          by_cases c11 : 0 ≤ x5_2
          ·rw [if_pos c11] at H
           have c11b0 : decide (0 ≤ x5_2) = true := decide_eq_true c11
           clear c11
           by_cases c12 : x5_2 < (x3_1.length : Int)
           ·rw [if_pos c12] at H
            have c12b0 : decide (x5_2 < (x3_1.length : Int)) = true := decide_eq_true c12
            clear c12
            by_cases c13 : 0 ≤ x6_3
            ·rw [if_pos c13] at H
             have c13b0 : decide (0 ≤ x6_3) = true := decide_eq_true c13
             clear c13
             by_cases c14 : x6_3 < (x3_1.length : Int)
             ·rw [if_pos c14] at H
              have c14b0 : decide (x6_3 < (x3_1.length : Int)) = true := decide_eq_true c14
              clear c14
              by_cases c15 : (strOfNums (rd_L1 x3_1 x5_2)).toList = (strOfNums (rd_L1 x3_1 x6_3)).toList
              ·rw [if_pos c15] at H
               have c15b0 : ((strOfNums (rd_L1 x3_1 x5_2)).toList == (strOfNums (rd_L1 x3_1 x6_3)).toList) = true := beq_iff_eq.mpr c15
               have c15b1 : ((strOfNums (rd_L1 x3_1 x5_2)).toList != (strOfNums (rd_L1 x3_1 x6_3)).toList) = false := bne_eq_false_iff_eq.mpr c15
               clear c15
               by_cases c16 : x5_2 < (l0.length : Int)
               ·rw [if_pos c16] at H
                have c16b0 : decide (x5_2 < (l0.length : Int)) = true := decide_eq_true c16
                clear c16
                by_cases c17 : x6_3 < (l0.length : Int)
                ·rw [if_pos c17] at H
                 have c17b0 : decide (x6_3 < (l0.length : Int)) = true := decide_eq_true c17
                 clear c17
                 by_cases c18 : (strOfNums (rd_L1 l0 x5_2)).toList = (strOfNums (rd_L1 l0 x6_3)).toList
                 ·rw [if_pos c18] at H
                  have c18b0 : ((strOfNums (rd_L1 l0 x5_2)).toList == (strOfNums (rd_L1 l0 x6_3)).toList) = true := beq_iff_eq.mpr c18
                  have c18b1 : ((strOfNums (rd_L1 l0 x5_2)).toList != (strOfNums (rd_L1 l0 x6_3)).toList) = false := bne_eq_false_iff_eq.mpr c18
                  clear c18
                  have H' := Aside0.mk H
                  clear H
                  obtain ⟨Ao19, co19, eo19⟩ := Kd.S_slice HO_3.out
                  subst eo19
                  have p150 : 0 ≤ (x5_2 : Int) := of_decide_eq_true asm_
                  have q150 : x5_2 < (x3_1.length : Int) := of_decide_eq_true asm_
                  obtain ⟨ad150, A150_0, c150_0, e150, hx150_0, hl150_0, hi150_0⟩ := at_L1 (Kd.S_reads' HO_3.out).2.2 x5_2 p150 q150
                  cases e150
                  obtain ⟨ce150, hce150, hMe150, hcc150⟩ := Kd.S_get HO_3.out [] x5_2 p150 (by first | exact q150 | exact of_decide_eq_true asm_ | (have e_ := (Kd.S_reads' HO_3.out).1; omega))
                  obtain ⟨ve150_0, rfl, ge150_0⟩ := hMe150
                  have hv150_0 := hcc150 0 _ rfl
                  rw [Nat.add_zero, show ((Kd.slice 5 (Kd.int .u8))).sz = 1 from rfl, Nat.mul_one] at hv150_0
                  replace hv150_0 := Option.some.inj (hv150_0.symm.trans hx150_0)
                  rw [hv150_0] at ge150_0
                  have HL150_0 := Aside0.mk (show Kd.R (Kd.int .u8) 5 _ _ _ _ (rd_L1 x3_1 x5_2) from ge150_0)
                  clear hv150_0 ge150_0
                  clear hcc150 hce150
                  have HR150_0 := Aside0.mk hi150_0
                  have HC150_0 := Aside0.mk hl150_0
                  clear hi150_0 hl150_0
                  replace p150 := eq_true p150
                  replace q150 := eq_true q150
                  have hcv20 := fun n => Kd.C_string (P := Tryd.prog) (A := A150_0) (c := c150_0) Tryd.underlying23 Tryd.underlying5 Tryd.underlying9 (Kd.C_drewN (by repeat (first | (with_reducible exact HR150_0.out) | (with_reducible refine Kd.C_alloc ?_ _) | (with_reducible refine Kd.C_drewN ?_ _) | (with_reducible refine Kd.C_drew ?_) | exact HR150_0.out)) n)
                  have p151 : 0 ≤ (x6_3 : Int) := of_decide_eq_true asm_
                  have q151 : x6_3 < (x3_1.length : Int) := of_decide_eq_true asm_
                  obtain ⟨ad151, A151_0, c151_0, e151, hx151_0, hl151_0, hi151_0⟩ := at_L1 (Kd.S_reads' HO_3.out).2.2 x6_3 p151 q151
                  obtain rfl : ad150 = ad151 := (by injection e151)
                  obtain ⟨ce151, hce151, hMe151, hcc151⟩ := Kd.S_get HO_3.out [] x6_3 p151 (by first | exact q151 | exact of_decide_eq_true asm_ | (have e_ := (Kd.S_reads' HO_3.out).1; omega))
                  obtain ⟨ve151_0, rfl, ge151_0⟩ := hMe151
                  have hv151_0 := hcc151 0 _ rfl
                  rw [Nat.add_zero, show ((Kd.slice 5 (Kd.int .u8))).sz = 1 from rfl, Nat.mul_one] at hv151_0
                  replace hv151_0 := Option.some.inj (hv151_0.symm.trans hx151_0)
                  rw [hv151_0] at ge151_0
                  have HL151_0 := Aside0.mk (show Kd.R (Kd.int .u8) 5 _ _ _ _ (rd_L1 x3_1 x6_3) from ge151_0)
                  clear hv151_0 ge151_0
                  clear hcc151 hce151
                  have HR151_0 := Aside0.mk hi151_0
                  have HC151_0 := Aside0.mk hl151_0
                  clear hi151_0 hl151_0
                  replace p151 := eq_true p151
                  replace q151 := eq_true q151
                  have hcv21 := fun n => Kd.C_string (P := Tryd.prog) (A := A151_0) (c := c151_0) Tryd.underlying23 Tryd.underlying5 Tryd.underlying9 (Kd.C_drewN (by repeat (first | (with_reducible exact HR151_0.out) | (with_reducible refine Kd.C_alloc ?_ _) | (with_reducible refine Kd.C_drewN ?_ _) | (with_reducible refine Kd.C_drew ?_) | exact HR151_0.out)) n)
                  have p152 : 0 ≤ (x5_2 : Int) := of_decide_eq_true asm_
                  have q152 : x5_2 < (l0.length : Int) := of_decide_eq_true asm_
                  obtain ⟨ad152, A152_0, c152_0, e152, hx152_0, hl152_0, hi152_0⟩ := at_L1 HR0.out x5_2 p152 q152
                  cases e152
                  replace hx152_0 := (HB.out.cell (World.block_lt_of_cell? w _ hx152_0)).trans hx152_0
                  have HR152_0 := Aside0.mk hi152_0
                  have HC152_0 := Aside0.mk hl152_0
                  clear hi152_0 hl152_0
                  replace p152 := eq_true p152
                  replace q152 := eq_true q152
                  have hcv22 := fun n => Kd.C_string (P := Tryd.prog) (A := A152_0) (c := c152_0) Tryd.underlying23 Tryd.underlying5 Tryd.underlying9 (Kd.C_drewN (Kd.C_below HR152_0.out HB.out) n)
                  have p153 : 0 ≤ (x6_3 : Int) := of_decide_eq_true asm_
                  have q153 : x6_3 < (l0.length : Int) := of_decide_eq_true asm_
                  obtain ⟨ad153, A153_0, c153_0, e153, hx153_0, hl153_0, hi153_0⟩ := at_L1 HR0.out x6_3 p153 q153
                  obtain rfl : ad152 = ad153 := (by injection e153)
                  replace hx153_0 := (HB.out.cell (World.block_lt_of_cell? w _ hx153_0)).trans hx153_0
                  have HR153_0 := Aside0.mk hi153_0
                  have HC153_0 := Aside0.mk hl153_0
                  clear hi153_0 hl153_0
                  replace p153 := eq_true p153
                  replace q153 := eq_true q153
                  have hcv23 := fun n => Kd.C_string (P := Tryd.prog) (A := A153_0) (c := c153_0) Tryd.underlying23 Tryd.underlying5 Tryd.underlying9 (Kd.C_drewN (Kd.C_below HR153_0.out HB.out) n)
                  go_wp2
                  repeat (go_quiet (fail); try go_wp2)
                  go_roundg k3
                  case measure => have := HK1.out; have := HK2.out; have := HK3.out; omega
                  case rel => exact ⟨(wrap64 (x6_3 + 1)), (by first | rfl | (simp; done) | (simp [*]; done)), H', ⟨by have := HK1.out; have := HK2.out; have := HK3.out; omega⟩, ⟨by (with_reducible repeat (first | apply Kd.S_alloc | apply Kd.S_drewN | apply Kd.S_drew)); exact HO_3.out⟩, ⟨by repeat (first | (with_reducible first | exact HB.out | apply below_alloc | apply pw_below_drewN | apply below_drew1) | exact HB.out)⟩⟩
                 ·rw [if_neg c18] at H
                  have c18b0 : ((strOfNums (rd_L1 l0 x5_2)).toList == (strOfNums (rd_L1 l0 x6_3)).toList) = false := beq_eq_false_iff_ne.mpr c18
                  have c18b1 : ((strOfNums (rd_L1 l0 x5_2)).toList != (strOfNums (rd_L1 l0 x6_3)).toList) = true := bne_iff_ne.mpr c18
                  obtain rfl := Option.some.inj H
                  obtain ⟨Ao24, co24, eo24⟩ := Kd.S_slice HO_3.out
                  subst eo24
                  have p150 : 0 ≤ (x5_2 : Int) := of_decide_eq_true asm_
                  have q150 : x5_2 < (x3_1.length : Int) := of_decide_eq_true asm_
                  obtain ⟨ad150, A150_0, c150_0, e150, hx150_0, hl150_0, hi150_0⟩ := at_L1 (Kd.S_reads' HO_3.out).2.2 x5_2 p150 q150
                  cases e150
                  obtain ⟨ce150, hce150, hMe150, hcc150⟩ := Kd.S_get HO_3.out [] x5_2 p150 (by first | exact q150 | exact of_decide_eq_true asm_ | (have e_ := (Kd.S_reads' HO_3.out).1; omega))
                  obtain ⟨ve150_0, rfl, ge150_0⟩ := hMe150
                  have hv150_0 := hcc150 0 _ rfl
                  rw [Nat.add_zero, show ((Kd.slice 5 (Kd.int .u8))).sz = 1 from rfl, Nat.mul_one] at hv150_0
                  replace hv150_0 := Option.some.inj (hv150_0.symm.trans hx150_0)
                  rw [hv150_0] at ge150_0
                  have HL150_0 := Aside0.mk (show Kd.R (Kd.int .u8) 5 _ _ _ _ (rd_L1 x3_1 x5_2) from ge150_0)
                  clear hv150_0 ge150_0
                  clear hcc150 hce150
                  have HR150_0 := Aside0.mk hi150_0
                  have HC150_0 := Aside0.mk hl150_0
                  clear hi150_0 hl150_0
                  replace p150 := eq_true p150
                  replace q150 := eq_true q150
                  have hcv25 := fun n => Kd.C_string (P := Tryd.prog) (A := A150_0) (c := c150_0) Tryd.underlying23 Tryd.underlying5 Tryd.underlying9 (Kd.C_drewN (by repeat (first | (with_reducible exact HR150_0.out) | (with_reducible refine Kd.C_alloc ?_ _) | (with_reducible refine Kd.C_drewN ?_ _) | (with_reducible refine Kd.C_drew ?_) | exact HR150_0.out)) n)
                  have p151 : 0 ≤ (x6_3 : Int) := of_decide_eq_true asm_
                  have q151 : x6_3 < (x3_1.length : Int) := of_decide_eq_true asm_
                  obtain ⟨ad151, A151_0, c151_0, e151, hx151_0, hl151_0, hi151_0⟩ := at_L1 (Kd.S_reads' HO_3.out).2.2 x6_3 p151 q151
                  obtain rfl : ad150 = ad151 := (by injection e151)
                  obtain ⟨ce151, hce151, hMe151, hcc151⟩ := Kd.S_get HO_3.out [] x6_3 p151 (by first | exact q151 | exact of_decide_eq_true asm_ | (have e_ := (Kd.S_reads' HO_3.out).1; omega))
                  obtain ⟨ve151_0, rfl, ge151_0⟩ := hMe151
                  have hv151_0 := hcc151 0 _ rfl
                  rw [Nat.add_zero, show ((Kd.slice 5 (Kd.int .u8))).sz = 1 from rfl, Nat.mul_one] at hv151_0
                  replace hv151_0 := Option.some.inj (hv151_0.symm.trans hx151_0)
                  rw [hv151_0] at ge151_0
                  have HL151_0 := Aside0.mk (show Kd.R (Kd.int .u8) 5 _ _ _ _ (rd_L1 x3_1 x6_3) from ge151_0)
                  clear hv151_0 ge151_0
                  clear hcc151 hce151
                  have HR151_0 := Aside0.mk hi151_0
                  have HC151_0 := Aside0.mk hl151_0
                  clear hi151_0 hl151_0
                  replace p151 := eq_true p151
                  replace q151 := eq_true q151
                  have hcv26 := fun n => Kd.C_string (P := Tryd.prog) (A := A151_0) (c := c151_0) Tryd.underlying23 Tryd.underlying5 Tryd.underlying9 (Kd.C_drewN (by repeat (first | (with_reducible exact HR151_0.out) | (with_reducible refine Kd.C_alloc ?_ _) | (with_reducible refine Kd.C_drewN ?_ _) | (with_reducible refine Kd.C_drew ?_) | exact HR151_0.out)) n)
                  have p152 : 0 ≤ (x5_2 : Int) := of_decide_eq_true asm_
                  have q152 : x5_2 < (l0.length : Int) := of_decide_eq_true asm_
                  obtain ⟨ad152, A152_0, c152_0, e152, hx152_0, hl152_0, hi152_0⟩ := at_L1 HR0.out x5_2 p152 q152
                  cases e152
                  replace hx152_0 := (HB.out.cell (World.block_lt_of_cell? w _ hx152_0)).trans hx152_0
                  have HR152_0 := Aside0.mk hi152_0
                  have HC152_0 := Aside0.mk hl152_0
                  clear hi152_0 hl152_0
                  replace p152 := eq_true p152
                  replace q152 := eq_true q152
                  have hcv27 := fun n => Kd.C_string (P := Tryd.prog) (A := A152_0) (c := c152_0) Tryd.underlying23 Tryd.underlying5 Tryd.underlying9 (Kd.C_drewN (Kd.C_below HR152_0.out HB.out) n)
                  have p153 : 0 ≤ (x6_3 : Int) := of_decide_eq_true asm_
                  have q153 : x6_3 < (l0.length : Int) := of_decide_eq_true asm_
                  obtain ⟨ad153, A153_0, c153_0, e153, hx153_0, hl153_0, hi153_0⟩ := at_L1 HR0.out x6_3 p153 q153
                  obtain rfl : ad152 = ad153 := (by injection e153)
                  replace hx153_0 := (HB.out.cell (World.block_lt_of_cell? w _ hx153_0)).trans hx153_0
                  have HR153_0 := Aside0.mk hi153_0
                  have HC153_0 := Aside0.mk hl153_0
                  clear hi153_0 hl153_0
                  replace p153 := eq_true p153
                  replace q153 := eq_true q153
                  have hcv28 := fun n => Kd.C_string (P := Tryd.prog) (A := A153_0) (c := c153_0) Tryd.underlying23 Tryd.underlying5 Tryd.underlying9 (Kd.C_drewN (Kd.C_below HR153_0.out HB.out) n)
                  go_wp2
                  repeat (go_quiet (fail); try go_wp2)
                  go_ret
                  exact ⟨by first | rfl | (simp [errW_none, errW_some] <;> rfl) | (simp [*, errW_none, errW_some] <;> rfl), by repeat (first | (with_reducible first | exact HB.out | apply below_alloc | apply pw_below_drewN | apply below_drew1) | exact HB.out)⟩
                ·rw [if_neg c17] at H
                 exact absurd H (by simp)
               ·rw [if_neg c16] at H
                exact absurd H (by simp)
              ·rw [if_neg c15] at H
               have c15b0 : ((strOfNums (rd_L1 x3_1 x5_2)).toList == (strOfNums (rd_L1 x3_1 x6_3)).toList) = false := beq_eq_false_iff_ne.mpr c15
               have c15b1 : ((strOfNums (rd_L1 x3_1 x5_2)).toList != (strOfNums (rd_L1 x3_1 x6_3)).toList) = true := bne_iff_ne.mpr c15
               have H' := Aside0.mk H
               clear H
               obtain ⟨Ao29, co29, eo29⟩ := Kd.S_slice HO_3.out
               subst eo29
               have p150 : 0 ≤ (x5_2 : Int) := of_decide_eq_true asm_
               have q150 : x5_2 < (x3_1.length : Int) := of_decide_eq_true asm_
               obtain ⟨ad150, A150_0, c150_0, e150, hx150_0, hl150_0, hi150_0⟩ := at_L1 (Kd.S_reads' HO_3.out).2.2 x5_2 p150 q150
               cases e150
               obtain ⟨ce150, hce150, hMe150, hcc150⟩ := Kd.S_get HO_3.out [] x5_2 p150 (by first | exact q150 | exact of_decide_eq_true asm_ | (have e_ := (Kd.S_reads' HO_3.out).1; omega))
               obtain ⟨ve150_0, rfl, ge150_0⟩ := hMe150
               have hv150_0 := hcc150 0 _ rfl
               rw [Nat.add_zero, show ((Kd.slice 5 (Kd.int .u8))).sz = 1 from rfl, Nat.mul_one] at hv150_0
               replace hv150_0 := Option.some.inj (hv150_0.symm.trans hx150_0)
               rw [hv150_0] at ge150_0
               have HL150_0 := Aside0.mk (show Kd.R (Kd.int .u8) 5 _ _ _ _ (rd_L1 x3_1 x5_2) from ge150_0)
               clear hv150_0 ge150_0
               clear hcc150 hce150
               have HR150_0 := Aside0.mk hi150_0
               have HC150_0 := Aside0.mk hl150_0
               clear hi150_0 hl150_0
               replace p150 := eq_true p150
               replace q150 := eq_true q150
               have hcv30 := fun n => Kd.C_string (P := Tryd.prog) (A := A150_0) (c := c150_0) Tryd.underlying23 Tryd.underlying5 Tryd.underlying9 (Kd.C_drewN (by repeat (first | (with_reducible exact HR150_0.out) | (with_reducible refine Kd.C_alloc ?_ _) | (with_reducible refine Kd.C_drewN ?_ _) | (with_reducible refine Kd.C_drew ?_) | exact HR150_0.out)) n)
               have p151 : 0 ≤ (x6_3 : Int) := of_decide_eq_true asm_
               have q151 : x6_3 < (x3_1.length : Int) := of_decide_eq_true asm_
               obtain ⟨ad151, A151_0, c151_0, e151, hx151_0, hl151_0, hi151_0⟩ := at_L1 (Kd.S_reads' HO_3.out).2.2 x6_3 p151 q151
               obtain rfl : ad150 = ad151 := (by injection e151)
               obtain ⟨ce151, hce151, hMe151, hcc151⟩ := Kd.S_get HO_3.out [] x6_3 p151 (by first | exact q151 | exact of_decide_eq_true asm_ | (have e_ := (Kd.S_reads' HO_3.out).1; omega))
               obtain ⟨ve151_0, rfl, ge151_0⟩ := hMe151
               have hv151_0 := hcc151 0 _ rfl
               rw [Nat.add_zero, show ((Kd.slice 5 (Kd.int .u8))).sz = 1 from rfl, Nat.mul_one] at hv151_0
               replace hv151_0 := Option.some.inj (hv151_0.symm.trans hx151_0)
               rw [hv151_0] at ge151_0
               have HL151_0 := Aside0.mk (show Kd.R (Kd.int .u8) 5 _ _ _ _ (rd_L1 x3_1 x6_3) from ge151_0)
               clear hv151_0 ge151_0
               clear hcc151 hce151
               have HR151_0 := Aside0.mk hi151_0
               have HC151_0 := Aside0.mk hl151_0
               clear hi151_0 hl151_0
               replace p151 := eq_true p151
               replace q151 := eq_true q151
               have hcv31 := fun n => Kd.C_string (P := Tryd.prog) (A := A151_0) (c := c151_0) Tryd.underlying23 Tryd.underlying5 Tryd.underlying9 (Kd.C_drewN (by repeat (first | (with_reducible exact HR151_0.out) | (with_reducible refine Kd.C_alloc ?_ _) | (with_reducible refine Kd.C_drewN ?_ _) | (with_reducible refine Kd.C_drew ?_) | exact HR151_0.out)) n)
               go_wp2
               repeat (go_quiet (fail); try go_wp2)
               go_roundg k3
               case measure => have := HK1.out; have := HK2.out; have := HK3.out; omega
               case rel => exact ⟨(wrap64 (x6_3 + 1)), (by first | rfl | (simp; done) | (simp [*]; done)), H', ⟨by have := HK1.out; have := HK2.out; have := HK3.out; omega⟩, ⟨by (with_reducible repeat (first | apply Kd.S_alloc | apply Kd.S_drewN | apply Kd.S_drew)); exact HO_3.out⟩, ⟨by repeat (first | (with_reducible first | exact HB.out | apply below_alloc | apply pw_below_drewN | apply below_drew1) | exact HB.out)⟩⟩
             ·rw [if_neg c14] at H
              exact absurd H (by simp)
            ·rw [if_neg c13] at H
             exact absurd H (by simp)
           ·rw [if_neg c12] at H
            exact absurd H (by simp)
          ·rw [if_neg c11] at H
           exact absurd H (by simp)
         ·rw [if_neg c10] at H
          have c10b0 : decide (x6_3 < x5_2) = false := decide_eq_false c10
          clear c10
          have H' := Aside0.mk H
          clear H
          go_wp2
          repeat (go_quiet (fail); try go_wp2)
          go_roundg k3
          case measure => have := HK1.out; have := HK2.out; have := HK3.out; omega
          case rel => exact ⟨(wrap64 (x5_2 + 1)), (by first | rfl | (simp; done) | (simp [*]; done)), H', ⟨by have := HK1.out; have := HK2.out; have := HK3.out; omega⟩, ⟨by (with_reducible repeat (first | apply Kd.S_alloc | apply Kd.S_drewN | apply Kd.S_drew)); exact HO_3.out⟩, ⟨by repeat (first | (with_reducible first | exact HB.out | apply below_alloc | apply pw_below_drewN | apply below_drew1) | exact HB.out)⟩⟩
      ·rw [if_neg c9] at H
       have c9b0 : decide (x5_2 < (l0.length : Int)) = false := decide_eq_false c9
       clear c9
       obtain rfl := Option.some.inj H
       go_wp2
       repeat (go_quiet (fail); try go_wp2)
       go_ret
       exact ⟨by first | rfl | (simp [errW_none, errW_some] <;> rfl) | (simp [*, errW_none, errW_some] <;> rfl), by repeat (first | (with_reducible first | exact HB.out | apply below_alloc | apply pw_below_drewN | apply below_drew1) | exact HB.out)⟩

end Go.Proofs.YtcnpdapampclpaaDoor.PRd
