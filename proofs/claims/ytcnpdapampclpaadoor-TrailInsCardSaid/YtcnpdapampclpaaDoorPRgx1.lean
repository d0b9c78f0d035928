-- Written by a program of this session, after the print of the kit.
import Derived.Test.YtcnpdapampclpaaDoorWC
import Derived.Test.YtcnpdapampclpaaDoorPRgx0
namespace Go.Proofs.YtcnpdapampclpaaDoor.PRg
open Go.RowKit Go.Proofs.YtcnpdapampclpaaDoor.X Go.Proofs.YtcnpdapampclpaaDoor.PRa Go.Proofs.YtcnpdapampclpaaDoor.PRb Go.Proofs.YtcnpdapampclpaaDoor.PRe Go.Proofs.YtcnpdapampclpaaDoor.PRs Go.Proofs.YtcnpdapampclpaaDoorW.PrintWords Go.Proofs.YtcnpdapampclpaaDoorW.PrintLast Go.Proofs.YtcnpdapampclpaaDoorW.PrintMore
attribute [local go_sem] max2_int min2_int max_two min_two max_three min_three max_four min_four   -- for this text's walks alone
set_option linter.unusedVariables false
set_option linter.unusedSimpArgs false

/-! ### imprimaturref20_In: function 35 -/
def imprimaturref20_In.j0 : Nat → List Int → Int → Int → List Int → List (List Int) → Bool → Option (Int)
 | 0, _, _, _, _, _, _ => none
 | k + 1, x0, x1, x2, x3, x4, x43 => if x43 = true then (some 1) else ((imprimaturref20_Up.f k x1 x2 x3 x4).bind fun bt102 => (if bt102.2.2 = true then ((imprimaturref20_HeadText.f k x1 bt102.1).bind fun t109 => ((imprimaturref02_Hash256.f t109).bind fun t112 => (if (strOfNums t112).toList = (strOfNums x0).toList then (some 0) else (some 50)))) else (some 50)))
def imprimaturref20_In.f (k : Nat) (l0 : List Int) (a1 : Int) (a2 : Int) (l3 : List Int) (l4 : List (List Int)) : Option (Int) := if a1 < 1 then (imprimaturref20_In.j0 k l0 a1 a2 l3 l4 true) else (if a1 > 4096 then (imprimaturref20_In.j0 k l0 a1 a2 l3 l4 true) else (if a2 < 0 then (imprimaturref20_In.j0 k l0 a1 a2 l3 l4 true) else (if a2 ≥ a1 then (imprimaturref20_In.j0 k l0 a1 a2 l3 l4 true) else (if (l0.length : Int) = 32 then (if (l3.length : Int) = 32 then ((imprimaturref20_short.f k l4).bind fun t101 => (imprimaturref20_In.j0 k l0 a1 a2 l3 l4 (!t101))) else (imprimaturref20_In.j0 k l0 a1 a2 l3 l4 true)) else (imprimaturref20_In.j0 k l0 a1 a2 l3 l4 true)))))
theorem imprimaturref20_In.mono_l : ∀ k, (∀ y0 y1 y2 y3 y4 y5, LeO (imprimaturref20_In.j0 k y0 y1 y2 y3 y4 y5) (imprimaturref20_In.j0 (k + 1) y0 y1 y2 y3 y4 y5))
 | 0 => fun _ _ _ _ _ _ r h => by simp [imprimaturref20_In.j0] at h
 | k + 1 => by
  have ih0 := imprimaturref20_In.mono_l k
  ·intro y0 y1 y2 y3 y4 y5
   unfold imprimaturref20_In.j0
   repeat' first
   | (with_reducible exact ih0 _ _ _ _ _ _)
   | (with_reducible exact imprimaturref20_HeadText.mono _ _ _)
   | (with_reducible exact imprimaturref20_Up.mono _ _ _ _ _)
   | (with_reducible exact imprimaturref20_short.mono _ _)
   | (with_reducible exact LeO.refl _)
   | (with_reducible exact LeO.none _)
   | (with_reducible refine LeO.ite ?_ ?_)
   | (with_reducible refine LeO.bind ?_ (fun _ => ?_))
   | exact ih0 _ _ _ _ _ _
   | exact imprimaturref20_HeadText.mono _ _ _
   | exact imprimaturref20_Up.mono _ _ _ _ _
   | exact imprimaturref20_short.mono _ _
   | exact LeO.none _
   | refine LeO.ite ?_ ?_
   | refine LeO.bind ?_ (fun _ => ?_)
theorem imprimaturref20_In.mono : ∀ a0 a1 a2 a3 a4 k, LeO (imprimaturref20_In.f k a0 a1 a2 a3 a4) (imprimaturref20_In.f (k + 1) a0 a1 a2 a3 a4) := by
 intro a0 a1 a2 a3 a4 k
 have ih0 := imprimaturref20_In.mono_l k
 unfold imprimaturref20_In.f
 repeat' first
   | (with_reducible exact ih0 _ _ _ _ _ _)
   | (with_reducible exact imprimaturref20_HeadText.mono _ _ _)
   | (with_reducible exact imprimaturref20_Up.mono _ _ _ _ _)
   | (with_reducible exact imprimaturref20_short.mono _ _)
   | (with_reducible exact LeO.refl _)
   | (with_reducible exact LeO.none _)
   | (with_reducible refine LeO.ite ?_ ?_)
   | (with_reducible refine LeO.bind ?_ (fun _ => ?_))
   | exact ih0 _ _ _ _ _ _
   | exact imprimaturref20_HeadText.mono _ _ _
   | exact imprimaturref20_Up.mono _ _ _ _ _
   | exact imprimaturref20_short.mono _ _
   | exact LeO.none _
   | refine LeO.ite ?_ ?_
   | refine LeO.bind ?_ (fun _ => ?_)
def imprimaturref20_In.T4 : Bool × List (List Nat × List Nat) := (true, [([], []), ([0], [0]), ([1], [1]), ([2], [2]), ([2], [2]), ([3, 4, 2, 2], [2, 3, 4]), ([5, 5, 2], [2, 5]), ([6, 2], [2, 6]), ([2], [2]), ([8, 2], [2, 8]), ([7, 9, 2], [2, 7, 9]), ([2, 10], [2, 10])])
def imprimaturref20_In.B4 : List Nat := [0, 1, 3, 7, 7, 31, 63, 127, 7, 263, 1023, 2047]
theorem imprimaturref20_In.tab4 : rtab .any (opsOf Tryd.f35 4) = imprimaturref20_In.T4 := by kernel_rfl
theorem imprimaturref20_In.bits4 : waitsOk imprimaturref20_In.T4.2 imprimaturref20_In.B4 = true := by kernel_rfl
set_option maxHeartbeats 8000000 in
set_option maxRecDepth 100000 in
theorem imprimaturref20_In.calls (k : Nat) (A0 : Option Addr) (c0 : Nat) (l0 : List Int) (a1 : Int) (a2 : Int) (A3 : Option Addr) (c3 : Nat) (l3 : List Int) (A4 : Option Addr) (c4 : Nat) (l4 : List (List Int)) (r : Int) (w : World) (hr0 : Kd.C (Kd.int .u8) w A0 l0.length l0) (hc0 : l0.length ≤ c0) (hr3 : Kd.C (Kd.int .u8) w A3 l3.length l3) (hc3 : l3.length ≤ c3) (hr4 : Kd.C (Kd.slice 5 (Kd.int .u8)) w A4 l4.length l4) (hc4 : l4.length ≤ c4) (h : imprimaturref20_In.f k l0 a1 a2 l3 l4 = some r) :
  Calls Tryd.prog 35 #[.slice A0 l0.length c0, .int .i64 a1, .int .i64 a2, .slice A3 l3.length c3, .slice A4 l4.length c4] w fun e w' => e = .returned (.int .i64 r) ∧ Below w.heap.size w w' := by
 have HR0 := Aside0.mk hr0
 have HC0 := Aside0.mk hc0
 clear hr0 hc0
 have HR3 := Aside0.mk hr3
 have HC3 := Aside0.mk hc3
 clear hr3 hc3
 have HR4 := Aside0.mk hr4
 have HC4 := Aside0.mk hc4
 clear hr4 hc4
 have HB := Aside0.mk (Below.refl w.heap.size w)
 have H : (if a1 < 1 then (imprimaturref20_In.j0 k l0 a1 a2 l3 l4 true) else (if a1 > 4096 then (imprimaturref20_In.j0 k l0 a1 a2 l3 l4 true) else (if a2 < 0 then (imprimaturref20_In.j0 k l0 a1 a2 l3 l4 true) else (if a2 ≥ a1 then (imprimaturref20_In.j0 k l0 a1 a2 l3 l4 true) else (if (l0.length : Int) = 32 then (if (l3.length : Int) = 32 then ((imprimaturref20_short.f k l4).bind fun t101 => (imprimaturref20_In.j0 k l0 a1 a2 l3 l4 (!t101))) else (imprimaturref20_In.j0 k l0 a1 a2 l3 l4 true)) else (imprimaturref20_In.j0 k l0 a1 a2 l3 l4 true)))))) = some r := h
 clear h
 have HC6 := Aside0.mk H
 clear H
 go_enter Tryd.func35, Tryd.ntmps35
 go_upto_region 1 with (fail)
 go_cut [43] (fun v43 wc => ∃ (kq : Nat) (x43_5 : Bool), v43 = .bool x43_5 ∧ Aside0 (imprimaturref20_In.j0 kq l0 a1 a2 l3 l4 x43_5 = some r) ∧ Aside0 (kq ≤ k) ∧ Aside0 (Below w.heap.size w wc))
 case first =>
  have H := HC6.out
  clear HC6
  by_cases c7 : a1 < 1
  ·rw [if_pos c7] at H
   have c7b0 : decide (a1 < 1) = true := decide_eq_true c7
   clear c7
   (first | rw [c7b0] | (simp only [i64_w, i32_w]; rw [c7b0]) | skip)
   have H' := Aside0.mk H
   clear H
   go_wp2
   go_meet
   case rel => exact ⟨_, (true), (by first | rfl | (simp; done) | (simp [*]; done)), H', ⟨by first | omega | exact Nat.le_refl _⟩, ⟨by repeat (first | (with_reducible first | exact HB.out | apply below_alloc | apply pw_below_drewN | apply below_drew1) | exact HB.out)⟩⟩
  ·rw [if_neg c7] at H
   have c7b0 : decide (a1 < 1) = false := decide_eq_false c7
   clear c7
   (first | rw [c7b0] | (simp only [i64_w, i32_w]; rw [c7b0]) | skip)
   by_cases c8 : a1 > 4096
   ·rw [if_pos c8] at H
    have c8b0 : decide (4096 < a1) = true := decide_eq_true c8
    clear c8
    have H' := Aside0.mk H
    clear H
    go_wp2
    go_meet
    case rel => exact ⟨_, (true), (by first | rfl | (simp; done) | (simp [*]; done)), H', ⟨by first | omega | exact Nat.le_refl _⟩, ⟨by repeat (first | (with_reducible first | exact HB.out | apply below_alloc | apply pw_below_drewN | apply below_drew1) | exact HB.out)⟩⟩
   ·rw [if_neg c8] at H
    have c8b0 : decide (4096 < a1) = false := decide_eq_false c8
    clear c8
    by_cases c9 : a2 < 0
    ·rw [if_pos c9] at H
     have c9b0 : decide (a2 < 0) = true := decide_eq_true c9
     clear c9
     have H' := Aside0.mk H
     clear H
     go_wp2
     go_meet
     case rel => exact ⟨_, (true), (by first | rfl | (simp; done) | (simp [*]; done)), H', ⟨by first | omega | exact Nat.le_refl _⟩, ⟨by repeat (first | (with_reducible first | exact HB.out | apply below_alloc | apply pw_below_drewN | apply below_drew1) | exact HB.out)⟩⟩
    ·rw [if_neg c9] at H
     have c9b0 : decide (a2 < 0) = false := decide_eq_false c9
     clear c9
     by_cases c10 : a2 ≥ a1
     ·rw [if_pos c10] at H
      have c10b0 : decide (a1 ≤ a2) = true := decide_eq_true c10
      clear c10
      have H' := Aside0.mk H
      clear H
      go_wp2
      go_meet
      case rel => exact ⟨_, (true), (by first | rfl | (simp; done) | (simp [*]; done)), H', ⟨by first | omega | exact Nat.le_refl _⟩, ⟨by repeat (first | (with_reducible first | exact HB.out | apply below_alloc | apply pw_below_drewN | apply below_drew1) | exact HB.out)⟩⟩
     ·rw [if_neg c10] at H
      have c10b0 : decide (a1 ≤ a2) = false := decide_eq_false c10
      clear c10
      by_cases c11 : (l0.length : Int) = 32
      ·rw [if_pos c11] at H
       have c11b0 : ((l0.length : Int) == 32) = true := beq_iff_eq.mpr c11
       have c11b1 : ((l0.length : Int) != 32) = false := bne_eq_false_iff_eq.mpr c11
       clear c11
       by_cases c12 : (l3.length : Int) = 32
       ·rw [if_pos c12] at H
        have c12b0 : ((l3.length : Int) == 32) = true := beq_iff_eq.mpr c12
        have c12b1 : ((l3.length : Int) != 32) = false := bne_eq_false_iff_eq.mpr c12
        clear c12
        replace H := Option.bind_eq_some_iff.mp H
        obtain ⟨t101, A130, H⟩ := H
        replace H : (imprimaturref20_In.j0 k l0 a1 a2 l3 l4 (!t101)) = some r := H
        have A13 := Aside0.mk A130
        clear A130
        have H' := Aside0.mk H
        clear H
        go_wp2_with (first | (go_at_call 61; (with_reducible refine (imprimaturref20_short.calls k _ _ l4 t101 _ ?side1 ?side2 A13.out).mono ?_); (case side1 => exact cL (Kd.C_below HR4.out HB.out)); (case side2 => exact HC4.out); rintro e w' ⟨rfl, ⟨nd, rfl⟩⟩))
        go_meet
        case rel => exact ⟨_, (!t101), (by first | rfl | (simp; done) | (simp [*]; done)), H', ⟨by first | omega | exact Nat.le_refl _⟩, ⟨by repeat (first | (with_reducible first | exact HB.out | apply below_alloc | apply pw_below_drewN | apply below_drew1) | exact HB.out)⟩⟩
       ·rw [if_neg c12] at H
        have c12b0 : ((l3.length : Int) == 32) = false := beq_eq_false_iff_ne.mpr c12
        have c12b1 : ((l3.length : Int) != 32) = true := bne_iff_ne.mpr c12
        have H' := Aside0.mk H
        clear H
        go_wp2
        go_meet
        case rel => exact ⟨_, (true), (by first | rfl | (simp; done) | (simp [*]; done)), H', ⟨by first | omega | exact Nat.le_refl _⟩, ⟨by repeat (first | (with_reducible first | exact HB.out | apply below_alloc | apply pw_below_drewN | apply below_drew1) | exact HB.out)⟩⟩
      ·rw [if_neg c11] at H
       have c11b0 : ((l0.length : Int) == 32) = false := beq_eq_false_iff_ne.mpr c11
       have c11b1 : ((l0.length : Int) != 32) = true := bne_iff_ne.mpr c11
       have H' := Aside0.mk H
       clear H
       go_wp2
       go_meet
       case rel => exact ⟨_, (true), (by first | rfl | (simp; done) | (simp [*]; done)), H', ⟨by first | omega | exact Nat.le_refl _⟩, ⟨by repeat (first | (with_reducible first | exact HB.out | apply below_alloc | apply pw_below_drewN | apply below_drew1) | exact HB.out)⟩⟩
 case rest =>
  clear HC6
  try clear c1
  try clear p2
  try clear c3
  try clear c4
  try clear c7
  try clear c7b0
  try clear c8
  try clear c8b0
  try clear c9
  try clear c9b0
  try clear c10
  try clear c10b0
  try clear c11
  try clear c11b0
  try clear c11b1
  try clear c12
  try clear c12b0
  try clear c12b1
  obtain ⟨kq, x43_5, rfl, HA, HJ5, HB⟩ := hcut
  cases kq with
  | zero => exact absurd HA.out (by simp [imprimaturref20_In.j0])
  | succ kj5 =>
   have H := HA.out
   clear HA
   simp only [imprimaturref20_In.j0] at H
   by_cases c14 : x43_5 = true
   ·subst c14
    have H1 : (some 1) = some r := by rw [if_pos rfl] at H; exact H
    clear H
    have H := H1
    clear H1
    obtain rfl := Option.some.inj H
    go_wp2
    go_ret
    exact ⟨by first | rfl | (simp [errW_none, errW_some] <;> rfl) | (simp [*, errW_none, errW_some] <;> rfl), by repeat (first | (with_reducible first | exact HB.out | apply below_alloc | apply pw_below_drewN | apply below_drew1) | exact HB.out)⟩
   ·replace c14 := Bool.eq_false_iff.mpr c14
    subst c14
    have H1 : ((imprimaturref20_Up.f kj5 a1 a2 l3 l4).bind fun bt102 => (if bt102.2.2 = true then ((imprimaturref20_HeadText.f kj5 a1 bt102.1).bind fun t109 => ((imprimaturref02_Hash256.f t109).bind fun t112 => (if (strOfNums t112).toList = (strOfNums l0).toList then (some 0) else (some 50)))) else (some 50))) = some r := by rw [if_neg (show ¬ (false = true) by decide)] at H; exact H
    clear H
    have H := H1
    clear H1
    replace H := Option.bind_eq_some_iff.mp H
    obtain ⟨⟨t102, t105, t108⟩, A150, H⟩ := H
    replace H : (if t108 = true then ((imprimaturref20_HeadText.f kj5 a1 t102).bind fun t109 => ((imprimaturref02_Hash256.f t109).bind fun t112 => (if (strOfNums t112).toList = (strOfNums l0).toList then (some 0) else (some 50)))) else (some 50)) = some r := H
    have A15 := Aside0.mk A150
    clear A150
    by_cases c16 : t108 = true
    ·subst c16
     have H1 : ((imprimaturref20_HeadText.f kj5 a1 t102).bind fun t109 => ((imprimaturref02_Hash256.f t109).bind fun t112 => (if (strOfNums t112).toList = (strOfNums l0).toList then (some 0) else (some 50)))) = some r := by rw [if_pos rfl] at H; exact H
     clear H
     have H := H1
     clear H1
     replace H := Option.bind_eq_some_iff.mp H
     obtain ⟨t109, A170, H⟩ := H
     replace H : ((imprimaturref02_Hash256.f t109).bind fun t112 => (if (strOfNums t112).toList = (strOfNums l0).toList then (some 0) else (some 50))) = some r := H
     have A17 := Aside0.mk A170
     clear A170
     replace H := Option.bind_eq_some_iff.mp H
     obtain ⟨t112, A180, H⟩ := H
     replace H : (if (strOfNums t112).toList = (strOfNums l0).toList then (some 0) else (some 50)) = some r := H
     have A18 := Aside0.mk A180
     clear A180
     by_cases c19 : (strOfNums t112).toList = (strOfNums l0).toList
     ·rw [if_pos c19] at H
      have c19b0 : ((strOfNums t112).toList == (strOfNums l0).toList) = true := beq_iff_eq.mpr c19
      have c19b1 : ((strOfNums t112).toList != (strOfNums l0).toList) = false := bne_eq_false_iff_eq.mpr c19
      clear c19
      obtain rfl := Option.some.inj H
      try go_wp2_with (first | ((with_reducible refine gate_callee (f := 36) rfl ?_); refine goesL_ (some 49) rfl rfl Tryd.func36 (by kernel_rfl) rfl #[.int .i64 a1, .int .i64 a2, .slice A3 l3.length c3, .slice A4 l4.length c4] rfl eqA ?_; (with_reducible refine (imprimaturref20_Up.calls kj5 a1 a2 (fun k_ => k_ < w.heap.size) _ _ l3 _ _ l4 t102 t105 true _ ?side1 ?side2 ?side3 A15.out).mono ?_); (case side1 => exact Kd.V_mk HC3.out (Kd.F_below (Kd.C_F (Kd.heap_int .u8) HR3.out) bel)); (case side2 => exact cL (Kd.C_below HR4.out HB.out)); (case side3 => exact HC4.out); rintro e w20 ⟨v103, v106, rfl, ho0, ho1, hb⟩; refine ⟨_, rfl, ?_⟩; have n0_ := Aside0.mk (Kd.V_lower (Kd.V_mono (ok' := fun k_ => some k_ ≠ (v106 : Value).ownBlock) ho0 (fun k_ hk_ => hk_.2)) (below_size bel)); have n1_ := Aside0.mk (Kd.S_lower (Kd.S_mono (ok' := fun k_ => True) ho1 (fun _ hk_ => trivial)) (below_size bel)); have n2_ := Aside0.mk (below_step bel hb); clear HB; have HO104 := n0_; have HO107 := n1_; have HB := n2_; clear n0_ n1_ n2_; (try clear hb); (try clear hb2); (try clear hk); (try clear hi); (try clear ho0); (try clear ho1); obtain ⟨Ao21, co21, eo21⟩ := Kd.V_slice HO104.out; subst eo21))
      have n0_ := Aside0.mk (Kd.V_drew HO104.out)
      have n1_ := Aside0.mk (Kd.S_drew HO107.out)
      have n2_ := Aside0.mk (below_drew1 HB.out)
      clear HO104
      clear HO107
      clear HB
      have HO104 := n0_
      have HO107 := n1_
      have HB := n2_
      clear n0_ n1_ n2_
      refine start_ (n := 12) (S := fun w' => (convert 23 9 (.slice A0 l0.length c0)).run Tryd.prog w' = .ok (.string (strOfNums l0)) w') (ds := []) #[false, false, false, false, false, false, false, false, false, false, false, false] (by kernel_rfl) rfl rfl (Kd.C_string (P := Tryd.prog) (A := A0) (c := c0) Tryd.underlying23 Tryd.underlying5 Tryd.underlying9 (Kd.C_below HR0.out HB.out)) (fun hHeld => ?_); refine with_tabW imprimaturref20_In.tab4 imprimaturref20_In.bits4 (fun HT_ HW_ => ?_)
      generalize w20.drew = w22 at HO104 HO107 HB hHeld ⊢
      refine pureA (i := 0) (N := some 53) (fl 12 1) (any_of HT_.out (by kernel_rfl)) ?_
      refine pureA (i := 1) (N := some 54) (fl 12 3) (any_of HT_.out (by kernel_rfl)) ?_
      refine pureA (i := 2) (N := some 55) (fl 12 7) (any_of HT_.out (by kernel_rfl)) ?_
      refine pureA (i := 3) (N := some 56) (fl 12 15) (any_of HT_.out (by kernel_rfl)) ?_
      refine pureA (i := 4) (N := some 57) (fl 12 31) (any_of HT_.out (by kernel_rfl)) ?_
      refine pureA (i := 8) (N := some 61) (fl 12 287) (any_of HT_.out (by kernel_rfl)) ?_
      refine takeA (i := 9) (N := some 62) (fl 12 799) (take_ofW HT_.out HW_.out (by kernel_rfl)) hHeld ?_
      refine one_ (i := 5) (N := some 58) (fl 12 831) rfl rfl (one_of HT_.out (by kernel_rfl)) (by decide) (fun K hK => ?_)
      refine goes_ Tryd.func37 (by kernel_rfl) rfl #[.int .i64 a1, .slice Ao21 t102.length co21] (by rfl) rfl rfl eqA ?_
      with_reducible refine (imprimaturref20_HeadText.calls kj5 a1 _ _ t102 t109 _ ?side1 ?side2 A17.out).mono ?_
      (case side1 => exact cL (Kd.V_reads' HO104.out).2.2)
      (case side2 => exact (Kd.V_reads' HO104.out).2.1)
      rintro e w23 ⟨v110, rfl, ho0, hb⟩
      refine ⟨_, rfl, ?_⟩
      have n0_ := Aside0.mk (Kd.V_elder' (vL HO104.out) (Kd.R_base ho0) hb)
      have n1_ := Aside0.mk (Kd.S_elder' (sL HO107.out) (Kd.R_base ho0) hb)
      have n2_ := Aside0.mk (Kd.R_lower ho0 (below_size bel))
      have n3_ := Aside0.mk (below_step bel hb)
      clear HO104
      clear HO107
      clear HB
      have HO104 := n0_
      have HO107 := n1_
      have HO111 := n2_
      have HB := n3_
      clear n0_ n1_ n2_ n3_
      (try clear hb)
      (try clear hb2)
      (try clear hk)
      (try clear hi)
      (try clear ho0)
      obtain ⟨Ao24, co24, eo24⟩ := Kd.R_slice HO111.out
      (first | subst eo24 | (injection eo24 with f1_ f2_ f3_; have f4_ := f1_.symm; have f5_ := f3_.symm; clear f1_ f2_ f3_; subst f4_; subst f5_))
      refine hK.out _ _ (by first | exact hHeld | exact Kd.C_string (P := Tryd.prog) (A := A0) (c := c0) Tryd.underlying23 Tryd.underlying5 Tryd.underlying9 (Kd.C_below HR0.out HB.out)) (fun hHeld => ?_)
      clear hK K
      refine normA (some 58) ?_
      refine one_ (i := 6) (N := some 59) (fl 12 895) rfl rfl (one_of HT_.out (by kernel_rfl)) (by decide) (fun K hK => ?_)
      refine goes_ Tryd.func50 (by kernel_rfl) rfl #[.slice Ao24 t109.length co24] (by rfl) rfl rfl eqA ?_
      with_reducible refine (imprimaturref02_Hash256.calls _ _ t109 t112 _ ?side1 ?side2 A18.out).mono ?_
      (case side1 => exact cL (Kd.R_reads' HO111.out).2.2)
      (case side2 => exact (Kd.R_reads' HO111.out).2.1)
      rintro e w25 ⟨v113, rfl, ho0, hb⟩
      refine ⟨_, rfl, ?_⟩
      have n0_ := Aside0.mk (Kd.V_elder' (vL HO104.out) (Kd.R_base ho0) hb)
      have n1_ := Aside0.mk (Kd.S_elder' (sL HO107.out) (Kd.R_base ho0) hb)
      have n2_ := Aside0.mk (Kd.R_elder' (rL HO111.out) (Kd.R_base ho0) hb)
      have n3_ := Aside0.mk (Kd.R_lower (Kd.R_new' ho0 (Kd.R_lt (rL HO111.out))) (below_size bel))
      have n4_ := Aside0.mk (below_step bel hb)
      clear HO104
      clear HO107
      clear HO111
      clear HB
      have HO104 := n0_
      have HO107 := n1_
      have HO111 := n2_
      have HO114 := n3_
      have HB := n4_
      clear n0_ n1_ n2_ n3_ n4_
      (try clear hb)
      (try clear hb2)
      (try clear hk)
      (try clear hi)
      (try clear ho0)
      have hcv27 := Kd.C_string (P := Tryd.prog) (A := A0) (c := c0) Tryd.underlying23 Tryd.underlying5 Tryd.underlying9 (Kd.C_below HR0.out HB.out)
      refine hK.out _ _ (by first | exact hHeld | exact Kd.C_string (P := Tryd.prog) (A := A0) (c := c0) Tryd.underlying23 Tryd.underlying5 Tryd.underlying9 (Kd.C_below HR0.out HB.out)) (fun hHeld => ?_)
      clear hK K
      refine normA (some 59) ?_
      refine one_ (i := 7) (N := some 60) (fl 12 1023) rfl rfl (one_of HT_.out (by kernel_rfl)) (by decide) (fun K hK => ?_)
      have hcv26 := own_string (P := Tryd.prog) Tryd.underlying23 Tryd.underlying5 Tryd.underlying9 (Kd.own_of_R HO114.out)
      refine value_ (w1 := ?_) (v := ?_) (by rfl) rfl ?_ ?_
      rotate_left 2
      ·go_simp
       constructor
       ·rfl
       ·rfl
      clear hcv26
      refine hK.out _ _ (by first | exact hHeld | exact Kd.C_string (P := Tryd.prog) (A := A0) (c := c0) Tryd.underlying23 Tryd.underlying5 Tryd.underlying9 (Kd.C_below HR0.out HB.out)) (fun hHeld => ?_)
      clear hK K
      refine normA (some 60) ?_
      refine pureA (i := 10) (N := some 63) (fl 12 2047) (any_of HT_.out (by kernel_rfl)) ?_
      refine pureA (i := 11) (N := some 64) (fl 12 4095) (any_of HT_.out (by kernel_rfl)) ?_
      refine done_ (done_of HT_.out (by kernel_rfl)) ?_
      try go_wp2
      go_ret
      exact ⟨by first | rfl | (simp [errW_none, errW_some] <;> rfl) | (simp [*, errW_none, errW_some] <;> rfl), by repeat (first | (with_reducible first | exact HB.out | apply below_alloc | apply pw_below_drewN | apply below_drew1) | exact HB.out)⟩
     ·rw [if_neg c19] at H
      have c19b0 : ((strOfNums t112).toList == (strOfNums l0).toList) = false := beq_eq_false_iff_ne.mpr c19
      have c19b1 : ((strOfNums t112).toList != (strOfNums l0).toList) = true := bne_iff_ne.mpr c19
      obtain rfl := Option.some.inj H
      try go_wp2_with (first | ((with_reducible refine gate_callee (f := 36) rfl ?_); refine goesL_ (some 49) rfl rfl Tryd.func36 (by kernel_rfl) rfl #[.int .i64 a1, .int .i64 a2, .slice A3 l3.length c3, .slice A4 l4.length c4] rfl eqA ?_; (with_reducible refine (imprimaturref20_Up.calls kj5 a1 a2 (fun k_ => k_ < w.heap.size) _ _ l3 _ _ l4 t102 t105 true _ ?side1 ?side2 ?side3 A15.out).mono ?_); (case side1 => exact Kd.V_mk HC3.out (Kd.F_below (Kd.C_F (Kd.heap_int .u8) HR3.out) bel)); (case side2 => exact cL (Kd.C_below HR4.out HB.out)); (case side3 => exact HC4.out); rintro e w29 ⟨v103, v106, rfl, ho0, ho1, hb⟩; refine ⟨_, rfl, ?_⟩; have n0_ := Aside0.mk (Kd.V_lower (Kd.V_mono (ok' := fun k_ => some k_ ≠ (v106 : Value).ownBlock) ho0 (fun k_ hk_ => hk_.2)) (below_size bel)); have n1_ := Aside0.mk (Kd.S_lower (Kd.S_mono (ok' := fun k_ => True) ho1 (fun _ hk_ => trivial)) (below_size bel)); have n2_ := Aside0.mk (below_step bel hb); clear HB; have HO104 := n0_; have HO107 := n1_; have HB := n2_; clear n0_ n1_ n2_; (try clear hb); (try clear hb2); (try clear hk); (try clear hi); (try clear ho0); (try clear ho1); obtain ⟨Ao30, co30, eo30⟩ := Kd.V_slice HO104.out; subst eo30))
      have n0_ := Aside0.mk (Kd.V_drew HO104.out)
      have n1_ := Aside0.mk (Kd.S_drew HO107.out)
      have n2_ := Aside0.mk (below_drew1 HB.out)
      clear HO104
      clear HO107
      clear HB
      have HO104 := n0_
      have HO107 := n1_
      have HB := n2_
      clear n0_ n1_ n2_
      refine start_ (n := 12) (S := fun w' => (convert 23 9 (.slice A0 l0.length c0)).run Tryd.prog w' = .ok (.string (strOfNums l0)) w') (ds := []) #[false, false, false, false, false, false, false, false, false, false, false, false] (by kernel_rfl) rfl rfl (Kd.C_string (P := Tryd.prog) (A := A0) (c := c0) Tryd.underlying23 Tryd.underlying5 Tryd.underlying9 (Kd.C_below HR0.out HB.out)) (fun hHeld => ?_); refine with_tabW imprimaturref20_In.tab4 imprimaturref20_In.bits4 (fun HT_ HW_ => ?_)
      generalize w29.drew = w31 at HO104 HO107 HB hHeld ⊢
      refine pureA (i := 0) (N := some 53) (fl 12 1) (any_of HT_.out (by kernel_rfl)) ?_
      refine pureA (i := 1) (N := some 54) (fl 12 3) (any_of HT_.out (by kernel_rfl)) ?_
      refine pureA (i := 2) (N := some 55) (fl 12 7) (any_of HT_.out (by kernel_rfl)) ?_
      refine pureA (i := 3) (N := some 56) (fl 12 15) (any_of HT_.out (by kernel_rfl)) ?_
      refine pureA (i := 4) (N := some 57) (fl 12 31) (any_of HT_.out (by kernel_rfl)) ?_
      refine pureA (i := 8) (N := some 61) (fl 12 287) (any_of HT_.out (by kernel_rfl)) ?_
      refine takeA (i := 9) (N := some 62) (fl 12 799) (take_ofW HT_.out HW_.out (by kernel_rfl)) hHeld ?_
      refine one_ (i := 5) (N := some 58) (fl 12 831) rfl rfl (one_of HT_.out (by kernel_rfl)) (by decide) (fun K hK => ?_)
      refine goes_ Tryd.func37 (by kernel_rfl) rfl #[.int .i64 a1, .slice Ao30 t102.length co30] (by rfl) rfl rfl eqA ?_
      with_reducible refine (imprimaturref20_HeadText.calls kj5 a1 _ _ t102 t109 _ ?side1 ?side2 A17.out).mono ?_
      (case side1 => exact cL (Kd.V_reads' HO104.out).2.2)
      (case side2 => exact (Kd.V_reads' HO104.out).2.1)
      rintro e w32 ⟨v110, rfl, ho0, hb⟩
      refine ⟨_, rfl, ?_⟩
      have n0_ := Aside0.mk (Kd.V_elder' (vL HO104.out) (Kd.R_base ho0) hb)
      have n1_ := Aside0.mk (Kd.S_elder' (sL HO107.out) (Kd.R_base ho0) hb)
      have n2_ := Aside0.mk (Kd.R_lower ho0 (below_size bel))
      have n3_ := Aside0.mk (below_step bel hb)
      clear HO104
      clear HO107
      clear HB
      have HO104 := n0_
      have HO107 := n1_
      have HO111 := n2_
      have HB := n3_
      clear n0_ n1_ n2_ n3_
      (try clear hb)
      (try clear hb2)
      (try clear hk)
      (try clear hi)
      (try clear ho0)
      obtain ⟨Ao33, co33, eo33⟩ := Kd.R_slice HO111.out
      (first | subst eo33 | (injection eo33 with f1_ f2_ f3_; have f4_ := f1_.symm; have f5_ := f3_.symm; clear f1_ f2_ f3_; subst f4_; subst f5_))
      refine hK.out _ _ (by first | exact hHeld | exact Kd.C_string (P := Tryd.prog) (A := A0) (c := c0) Tryd.underlying23 Tryd.underlying5 Tryd.underlying9 (Kd.C_below HR0.out HB.out)) (fun hHeld => ?_)
      clear hK K
      refine normA (some 58) ?_
      refine one_ (i := 6) (N := some 59) (fl 12 895) rfl rfl (one_of HT_.out (by kernel_rfl)) (by decide) (fun K hK => ?_)
      refine goes_ Tryd.func50 (by kernel_rfl) rfl #[.slice Ao33 t109.length co33] (by rfl) rfl rfl eqA ?_
      with_reducible refine (imprimaturref02_Hash256.calls _ _ t109 t112 _ ?side1 ?side2 A18.out).mono ?_
      (case side1 => exact cL (Kd.R_reads' HO111.out).2.2)
      (case side2 => exact (Kd.R_reads' HO111.out).2.1)
      rintro e w34 ⟨v113, rfl, ho0, hb⟩
      refine ⟨_, rfl, ?_⟩
      have n0_ := Aside0.mk (Kd.V_elder' (vL HO104.out) (Kd.R_base ho0) hb)
      have n1_ := Aside0.mk (Kd.S_elder' (sL HO107.out) (Kd.R_base ho0) hb)
      have n2_ := Aside0.mk (Kd.R_elder' (rL HO111.out) (Kd.R_base ho0) hb)
      have n3_ := Aside0.mk (Kd.R_lower (Kd.R_new' ho0 (Kd.R_lt (rL HO111.out))) (below_size bel))
      have n4_ := Aside0.mk (below_step bel hb)
      clear HO104
      clear HO107
      clear HO111
      clear HB
      have HO104 := n0_
      have HO107 := n1_
      have HO111 := n2_
      have HO114 := n3_
      have HB := n4_
      clear n0_ n1_ n2_ n3_ n4_
      (try clear hb)
      (try clear hb2)
      (try clear hk)
      (try clear hi)
      (try clear ho0)
      have hcv36 := Kd.C_string (P := Tryd.prog) (A := A0) (c := c0) Tryd.underlying23 Tryd.underlying5 Tryd.underlying9 (Kd.C_below HR0.out HB.out)
      refine hK.out _ _ (by first | exact hHeld | exact Kd.C_string (P := Tryd.prog) (A := A0) (c := c0) Tryd.underlying23 Tryd.underlying5 Tryd.underlying9 (Kd.C_below HR0.out HB.out)) (fun hHeld => ?_)
      clear hK K
      refine normA (some 59) ?_
      refine one_ (i := 7) (N := some 60) (fl 12 1023) rfl rfl (one_of HT_.out (by kernel_rfl)) (by decide) (fun K hK => ?_)
      have hcv35 := own_string (P := Tryd.prog) Tryd.underlying23 Tryd.underlying5 Tryd.underlying9 (Kd.own_of_R HO114.out)
      refine value_ (w1 := ?_) (v := ?_) (by rfl) rfl ?_ ?_
      rotate_left 2
      ·go_simp
       constructor
       ·rfl
       ·rfl
      clear hcv35
      refine hK.out _ _ (by first | exact hHeld | exact Kd.C_string (P := Tryd.prog) (A := A0) (c := c0) Tryd.underlying23 Tryd.underlying5 Tryd.underlying9 (Kd.C_below HR0.out HB.out)) (fun hHeld => ?_)
      clear hK K
      refine normA (some 60) ?_
      refine pureA (i := 10) (N := some 63) (fl 12 2047) (any_of HT_.out (by kernel_rfl)) ?_
      refine pureA (i := 11) (N := some 64) (fl 12 4095) (any_of HT_.out (by kernel_rfl)) ?_
      refine done_ (done_of HT_.out (by kernel_rfl)) ?_
      try go_wp2
      go_ret
      exact ⟨by first | rfl | (simp [errW_none, errW_some] <;> rfl) | (simp [*, errW_none, errW_some] <;> rfl), by repeat (first | (with_reducible first | exact HB.out | apply below_alloc | apply pw_below_drewN | apply below_drew1) | exact HB.out)⟩
    ·replace c16 := Bool.eq_false_iff.mpr c16
     subst c16
     have H1 : (some 50) = some r := by rw [if_neg (show ¬ (false = true) by decide)] at H; exact H
     clear H
     have H := H1
     clear H1
     obtain rfl := Option.some.inj H
     try go_wp2_with (first | ((with_reducible refine gate_callee (f := 36) rfl ?_); refine goesL_ (some 49) rfl rfl Tryd.func36 (by kernel_rfl) rfl #[.int .i64 a1, .int .i64 a2, .slice A3 l3.length c3, .slice A4 l4.length c4] rfl eqA ?_; (with_reducible refine (imprimaturref20_Up.calls kj5 a1 a2 (fun k_ => k_ < w.heap.size) _ _ l3 _ _ l4 t102 t105 false _ ?side1 ?side2 ?side3 A15.out).mono ?_); (case side1 => exact Kd.V_mk HC3.out (Kd.F_below (Kd.C_F (Kd.heap_int .u8) HR3.out) bel)); (case side2 => exact cL (Kd.C_below HR4.out HB.out)); (case side3 => exact HC4.out); rintro e w38 ⟨v103, v106, rfl, ho0, ho1, hb⟩; refine ⟨_, rfl, ?_⟩; have n0_ := Aside0.mk (Kd.V_lower (Kd.V_mono (ok' := fun k_ => some k_ ≠ (v106 : Value).ownBlock) ho0 (fun k_ hk_ => hk_.2)) (below_size bel)); have n1_ := Aside0.mk (Kd.S_lower (Kd.S_mono (ok' := fun k_ => True) ho1 (fun _ hk_ => trivial)) (below_size bel)); have n2_ := Aside0.mk (below_step bel hb); clear HB; have HO104 := n0_; have HO107 := n1_; have HB := n2_; clear n0_ n1_ n2_; (try clear hb); (try clear hb2); (try clear hk); (try clear hi); (try clear ho0); (try clear ho1)))
     have n0_ := Aside0.mk (Kd.V_drew HO104.out)
     have n1_ := Aside0.mk (Kd.S_drew HO107.out)
     have n2_ := Aside0.mk (below_drew1 HB.out)
     clear HO104
     clear HO107
     clear HB
     have HO104 := n0_
     have HO107 := n1_
     have HB := n2_
     clear n0_ n1_ n2_
     refine start_ (n := 12) (S := fun w' => (convert 23 9 (.slice A0 l0.length c0)).run Tryd.prog w' = .ok (.string (strOfNums l0)) w') (ds := []) #[false, false, false, false, false, false, false, false, false, false, false, false] (by kernel_rfl) rfl rfl (Kd.C_string (P := Tryd.prog) (A := A0) (c := c0) Tryd.underlying23 Tryd.underlying5 Tryd.underlying9 (Kd.C_below HR0.out HB.out)) (fun hHeld => ?_); refine with_tabW imprimaturref20_In.tab4 imprimaturref20_In.bits4 (fun HT_ HW_ => ?_)
     generalize w38.drew = w39 at HO104 HO107 HB hHeld ⊢
     refine pureA (i := 0) (N := some 53) (fl 12 1) (any_of HT_.out (by kernel_rfl)) ?_
     refine pureA (i := 1) (N := some 54) (fl 12 3) (any_of HT_.out (by kernel_rfl)) ?_
     refine pureA (i := 2) (N := some 55) (fl 12 7) (any_of HT_.out (by kernel_rfl)) ?_
     refine pure_ (i := 3) (N := some 56) (v := undef) (a' := ?_) #[true, true, true, true, false, false, false, false, false, false, false, false] rfl rfl (any_of HT_.out (by kernel_rfl)) (fun _ _ _ h => h) (Or.inr ⟨by rfl, rfl⟩) ?_ ?_
     rotate_left
     ·simp only [Act.put, List.setIfInBounds_toArray, List.set_cons_zero, List.set_cons_succ, i64_w, i32_w]
      rfl
     refine pure_ (i := 4) (N := some 57) (v := undef) (a' := ?_) #[true, true, true, true, true, false, false, false, false, false, false, false] rfl rfl (any_of HT_.out (by kernel_rfl)) (fun _ _ _ h => h) (Or.inr ⟨by rfl, rfl⟩) ?_ ?_
     rotate_left
     ·simp only [Act.put, List.setIfInBounds_toArray, List.set_cons_zero, List.set_cons_succ, i64_w, i32_w]
      rfl
     refine pure_ (i := 5) (N := some 58) (v := undef) (a' := ?_) #[true, true, true, true, true, true, false, false, false, false, false, false] rfl rfl (any_of HT_.out (by kernel_rfl)) (fun _ _ _ h => h) (Or.inr ⟨by rfl, rfl⟩) ?_ ?_
     rotate_left
     ·simp only [Act.put, List.setIfInBounds_toArray, List.set_cons_zero, List.set_cons_succ, i64_w, i32_w]
      rfl
     refine pure_ (i := 6) (N := some 59) (v := undef) (a' := ?_) #[true, true, true, true, true, true, true, false, false, false, false, false] rfl rfl (any_of HT_.out (by kernel_rfl)) (fun _ _ _ h => h) (Or.inr ⟨by rfl, rfl⟩) ?_ ?_
     rotate_left
     ·simp only [Act.put, List.setIfInBounds_toArray, List.set_cons_zero, List.set_cons_succ, i64_w, i32_w]
      rfl
     refine pure_ (i := 7) (N := some 60) (v := undef) (a' := ?_) #[true, true, true, true, true, true, true, true, false, false, false, false] rfl rfl (any_of HT_.out (by kernel_rfl)) (fun _ _ _ h => h) (Or.inr ⟨by rfl, rfl⟩) ?_ ?_
     rotate_left
     ·simp only [Act.put, List.setIfInBounds_toArray, List.set_cons_zero, List.set_cons_succ, i64_w, i32_w]
      rfl
     refine pure_ (i := 8) (N := some 61) (v := undef) (a' := ?_) #[true, true, true, true, true, true, true, true, true, false, false, false] rfl rfl (any_of HT_.out (by kernel_rfl)) (fun _ _ _ h => h) (Or.inr ⟨by rfl, rfl⟩) ?_ ?_
     rotate_left
     ·simp only [Act.put, List.setIfInBounds_toArray, List.set_cons_zero, List.set_cons_succ, i64_w, i32_w]
      rfl
     refine pure_ (i := 9) (N := some 62) (v := undef) (a' := ?_) #[true, true, true, true, true, true, true, true, true, true, false, false] rfl rfl (any_of HT_.out (by kernel_rfl)) (fun _ _ _ h => h) (Or.inr ⟨by rfl, rfl⟩) ?_ ?_
     rotate_left
     ·simp only [Act.put, List.setIfInBounds_toArray, List.set_cons_zero, List.set_cons_succ, i64_w, i32_w]
      rfl
     refine pure_ (i := 10) (N := some 63) (v := undef) (a' := ?_) #[true, true, true, true, true, true, true, true, true, true, true, false] rfl rfl (any_of HT_.out (by kernel_rfl)) (fun _ _ _ h => h) (Or.inr ⟨by rfl, rfl⟩) ?_ ?_
     rotate_left
     ·simp only [Act.put, List.setIfInBounds_toArray, List.set_cons_zero, List.set_cons_succ, i64_w, i32_w]
      rfl
     refine pureA (i := 11) (N := some 64) (fl 12 4095) (any_of HT_.out (by kernel_rfl)) ?_
     refine done_ (done_of HT_.out (by kernel_rfl)) ?_
     try go_wp2
     go_ret
     exact ⟨by first | rfl | (simp [errW_none, errW_some] <;> rfl) | (simp [*, errW_none, errW_some] <;> rfl), by repeat (first | (with_reducible first | exact HB.out | apply below_alloc | apply pw_below_drewN | apply below_drew1) | exact HB.out)⟩

end Go.Proofs.YtcnpdapampclpaaDoor.PRg
