-- Written by a program of this session, after the print of the kit.
import Derived.Test.YtcnpdapampclpaaDoorWC
import Derived.Test.YtcnpdapampclpaaDoorPRhx0
namespace Go.Proofs.YtcnpdapampclpaaDoor.PRh
open Go.RowKit Go.Proofs.YtcnpdapampclpaaDoor.X Go.Proofs.YtcnpdapampclpaaDoor.PRa Go.Proofs.YtcnpdapampclpaaDoor.PRb Go.Proofs.YtcnpdapampclpaaDoor.PRo Go.Proofs.YtcnpdapampclpaaDoor.PRs Go.Proofs.YtcnpdapampclpaaDoorW.PrintWords Go.Proofs.YtcnpdapampclpaaDoorW.PrintLast Go.Proofs.YtcnpdapampclpaaDoorW.PrintMore
attribute [local go_sem] max2_int min2_int max_two min_two max_three min_three max_four min_four   -- for this text's walks alone
set_option linter.unusedVariables false
set_option linter.unusedSimpArgs false

/-! ### imprimaturref20_Begins: function 42 -/
theorem V_string_ {P : Program} {w : World} {e base : Nat} {ok : Nat → Prop} {src q dst : TypeId} {v : Value} {xs : List Int} (hs : P.underlying src = some (.slice q)) (he : P.underlying q = some (.int .u8)) (hd : P.underlying dst = some .string) (h : Kd.V (Kd.int .u8) e w base ok v xs) : (convert src dst v).run P w = .ok (.string (strOfNums xs)) w := by
 obtain ⟨A, c, rfl, _, hF⟩ := h
 exact Kd.C_string (P := P) (A := A) (c := c) hs he hd (Kd.F_now hF)
def imprimaturref20_Begins.j0 : Nat → List Int → Int → List Int → List Int → Int → List (List Int) → Bool → Option (Int)
 | 0, _, _, _, _, _, _, _ => none
 | k + 1, x0, x1, x2, x3, x4, x5, x51 => if x51 = true then (some 1) else ((imprimaturref20_Told.f k x1 x4 x2 x5 true).bind fun bt102 => (if bt102.2.2.2 = true then (if (strOfNums bt102.1).toList = (strOfNums x2).toList then ((imprimaturref20_HeadText.f k x1 x2).bind fun t112 => ((imprimaturref02_Hash256.f t112).bind fun t115 => (if (strOfNums t115).toList = (strOfNums x0).toList then ((imprimaturref20_HeadText.f k x4 bt102.2.1).bind fun t118 => ((imprimaturref02_Hash256.f t118).bind fun t121 => (if (strOfNums t121).toList = (strOfNums x3).toList then (some 0) else (some 50)))) else (some 50)))) else (some 50)) else (some 50)))
def imprimaturref20_Begins.f (k : Nat) (l0 : List Int) (a1 : Int) (l2 : List Int) (l3 : List Int) (a4 : Int) (l5 : List (List Int)) : Option (Int) := if a4 < 1 then (imprimaturref20_Begins.j0 k l0 a1 l2 l3 a4 l5 true) else (if a4 > 4096 then (imprimaturref20_Begins.j0 k l0 a1 l2 l3 a4 l5 true) else (if a1 < 1 then (imprimaturref20_Begins.j0 k l0 a1 l2 l3 a4 l5 true) else (if a1 > a4 then (imprimaturref20_Begins.j0 k l0 a1 l2 l3 a4 l5 true) else (if (l0.length : Int) = 32 then (if (l2.length : Int) = 32 then (if (l3.length : Int) = 32 then ((imprimaturref20_short.f k l5).bind fun t101 => (imprimaturref20_Begins.j0 k l0 a1 l2 l3 a4 l5 (!t101))) else (imprimaturref20_Begins.j0 k l0 a1 l2 l3 a4 l5 true)) else (imprimaturref20_Begins.j0 k l0 a1 l2 l3 a4 l5 true)) else (imprimaturref20_Begins.j0 k l0 a1 l2 l3 a4 l5 true)))))
theorem imprimaturref20_Begins.mono_l : ∀ k, (∀ y0 y1 y2 y3 y4 y5 y6, LeO (imprimaturref20_Begins.j0 k y0 y1 y2 y3 y4 y5 y6) (imprimaturref20_Begins.j0 (k + 1) y0 y1 y2 y3 y4 y5 y6))
 | 0 => fun _ _ _ _ _ _ _ r h => by simp [imprimaturref20_Begins.j0] at h
 | k + 1 => by
  have ih0 := imprimaturref20_Begins.mono_l k
  ·intro y0 y1 y2 y3 y4 y5 y6
   unfold imprimaturref20_Begins.j0
   repeat' first
   | (with_reducible exact ih0 _ _ _ _ _ _ _)
   | (with_reducible exact imprimaturref20_HeadText.mono _ _ _)
   | (with_reducible exact imprimaturref20_Told.mono _ _ _ _ _ _)
   | (with_reducible exact imprimaturref20_short.mono _ _)
   | (with_reducible exact LeO.refl _)
   | (with_reducible exact LeO.none _)
   | (with_reducible refine LeO.ite ?_ ?_)
   | (with_reducible refine LeO.bind ?_ (fun _ => ?_))
   | exact ih0 _ _ _ _ _ _ _
   | exact imprimaturref20_HeadText.mono _ _ _
   | exact imprimaturref20_Told.mono _ _ _ _ _ _
   | exact imprimaturref20_short.mono _ _
   | exact LeO.none _
   | refine LeO.ite ?_ ?_
   | refine LeO.bind ?_ (fun _ => ?_)
theorem imprimaturref20_Begins.mono : ∀ a0 a1 a2 a3 a4 a5 k, LeO (imprimaturref20_Begins.f k a0 a1 a2 a3 a4 a5) (imprimaturref20_Begins.f (k + 1) a0 a1 a2 a3 a4 a5) := by
 intro a0 a1 a2 a3 a4 a5 k
 have ih0 := imprimaturref20_Begins.mono_l k
 unfold imprimaturref20_Begins.f
 repeat' first
   | (with_reducible exact ih0 _ _ _ _ _ _ _)
   | (with_reducible exact imprimaturref20_HeadText.mono _ _ _)
   | (with_reducible exact imprimaturref20_Told.mono _ _ _ _ _ _)
   | (with_reducible exact imprimaturref20_short.mono _ _)
   | (with_reducible exact LeO.refl _)
   | (with_reducible exact LeO.none _)
   | (with_reducible refine LeO.ite ?_ ?_)
   | (with_reducible refine LeO.bind ?_ (fun _ => ?_))
   | exact ih0 _ _ _ _ _ _ _
   | exact imprimaturref20_HeadText.mono _ _ _
   | exact imprimaturref20_Told.mono _ _ _ _ _ _
   | exact imprimaturref20_short.mono _ _
   | exact LeO.none _
   | refine LeO.ite ?_ ?_
   | refine LeO.bind ?_ (fun _ => ?_)
def imprimaturref20_Begins.T4 : Bool × List (List Nat × List Nat) := (true, [([], []), ([0], [0]), ([1], [1]), ([2], [2]), ([3, 2], [2, 3]), ([2], [2]), ([5, 2], [2, 5]), ([4, 6, 2], [2, 4, 6]), ([2, 7], [2, 7]), ([8, 2], [8]), ([9], [9]), ([9], [9]), ([10, 11, 9, 9], [9, 10, 11]), ([12, 12, 9], [9, 12]), ([13, 9], [9, 13]), ([9], [9]), ([15, 9], [9, 15]), ([14, 16, 9], [9, 14, 16]), ([9, 17], [9, 17]), ([18, 13], [18]), ([19], [19]), ([19], [19]), ([20, 21, 19, 19], [19, 20, 21]), ([22, 22, 19], [19, 22]), ([23, 19], [19, 23]), ([19], [19]), ([25, 19], [19, 25]), ([24, 26, 19], [19, 24, 26]), ([19, 27], [19, 27])])
def imprimaturref20_Begins.B4 : List Nat := [0, 1, 3, 7, 15, 7, 39, 127, 255, 511, 1023, 1023, 4095, 8191, 16383, 1023, 33791, 131071, 262143, 524287, 1048575, 1048575, 4194303, 8388607, 16777215, 1048575, 34603007, 134217727, 268435455]
theorem imprimaturref20_Begins.tab4 : rtab .any (opsOf Tryd.f42 4) = imprimaturref20_Begins.T4 := by kernel_rfl
theorem imprimaturref20_Begins.bits4 : waitsOk imprimaturref20_Begins.T4.2 imprimaturref20_Begins.B4 = true := by kernel_rfl
set_option maxHeartbeats 8000000 in
set_option maxRecDepth 100000 in
theorem imprimaturref20_Begins.calls (k : Nat) (A0 : Option Addr) (c0 : Nat) (l0 : List Int) (a1 : Int) (A2 : Option Addr) (c2 : Nat) (l2 : List Int) (A3 : Option Addr) (c3 : Nat) (l3 : List Int) (a4 : Int) (A5 : Option Addr) (c5 : Nat) (l5 : List (List Int)) (r : Int) (w : World) (hr0 : Kd.C (Kd.int .u8) w A0 l0.length l0) (hc0 : l0.length ≤ c0) (hr2 : Kd.C (Kd.int .u8) w A2 l2.length l2) (hc2 : l2.length ≤ c2) (hr3 : Kd.C (Kd.int .u8) w A3 l3.length l3) (hc3 : l3.length ≤ c3) (hr5 : Kd.C (Kd.slice 5 (Kd.int .u8)) w A5 l5.length l5) (hc5 : l5.length ≤ c5) (h : imprimaturref20_Begins.f k l0 a1 l2 l3 a4 l5 = some r) :
  Calls Tryd.prog 42 #[.slice A0 l0.length c0, .int .i64 a1, .slice A2 l2.length c2, .slice A3 l3.length c3, .int .i64 a4, .slice A5 l5.length c5] w fun e w' => e = .returned (.int .i64 r) ∧ Below w.heap.size w w' := by
 have HR0 := Aside0.mk hr0
 have HC0 := Aside0.mk hc0
 clear hr0 hc0
 have HR2 := Aside0.mk hr2
 have HC2 := Aside0.mk hc2
 clear hr2 hc2
 have HR3 := Aside0.mk hr3
 have HC3 := Aside0.mk hc3
 clear hr3 hc3
 have HR5 := Aside0.mk hr5
 have HC5 := Aside0.mk hc5
 clear hr5 hc5
 have HB := Aside0.mk (Below.refl w.heap.size w)
 have H : (if a4 < 1 then (imprimaturref20_Begins.j0 k l0 a1 l2 l3 a4 l5 true) else (if a4 > 4096 then (imprimaturref20_Begins.j0 k l0 a1 l2 l3 a4 l5 true) else (if a1 < 1 then (imprimaturref20_Begins.j0 k l0 a1 l2 l3 a4 l5 true) else (if a1 > a4 then (imprimaturref20_Begins.j0 k l0 a1 l2 l3 a4 l5 true) else (if (l0.length : Int) = 32 then (if (l2.length : Int) = 32 then (if (l3.length : Int) = 32 then ((imprimaturref20_short.f k l5).bind fun t101 => (imprimaturref20_Begins.j0 k l0 a1 l2 l3 a4 l5 (!t101))) else (imprimaturref20_Begins.j0 k l0 a1 l2 l3 a4 l5 true)) else (imprimaturref20_Begins.j0 k l0 a1 l2 l3 a4 l5 true)) else (imprimaturref20_Begins.j0 k l0 a1 l2 l3 a4 l5 true)))))) = some r := h
 clear h
 have HC7 := Aside0.mk H
 clear H
 go_enter Tryd.func42, Tryd.ntmps42
 go_upto_region 1 with (fail)
 go_cut [51] (fun v51 wc => ∃ (kq : Nat) (x51_6 : Bool), v51 = .bool x51_6 ∧ Aside0 (imprimaturref20_Begins.j0 kq l0 a1 l2 l3 a4 l5 x51_6 = some r) ∧ Aside0 (kq ≤ k) ∧ Aside0 (Below w.heap.size w wc))
 case first =>
  have H := HC7.out
  clear HC7
  by_cases c8 : a4 < 1
  ·rw [if_pos c8] at H
   have c8b0 : decide (a4 < 1) = true := decide_eq_true c8
   clear c8
   (first | rw [c8b0] | (simp only [i64_w, i32_w]; rw [c8b0]) | skip)
   have H' := Aside0.mk H
   clear H
   go_wp2
   go_meet
   case rel => exact ⟨_, (true), (by first | rfl | (simp; done) | (simp [*]; done)), H', ⟨by first | omega | exact Nat.le_refl _⟩, ⟨by repeat (first | (with_reducible first | exact HB.out | apply below_alloc | apply pw_below_drewN | apply below_drew1) | exact HB.out)⟩⟩
  ·rw [if_neg c8] at H
   have c8b0 : decide (a4 < 1) = false := decide_eq_false c8
   clear c8
   (first | rw [c8b0] | (simp only [i64_w, i32_w]; rw [c8b0]) | skip)
   by_cases c9 : a4 > 4096
   ·rw [if_pos c9] at H
    have c9b0 : decide (4096 < a4) = true := decide_eq_true c9
    clear c9
    have H' := Aside0.mk H
    clear H
    go_wp2
    go_meet
    case rel => exact ⟨_, (true), (by first | rfl | (simp; done) | (simp [*]; done)), H', ⟨by first | omega | exact Nat.le_refl _⟩, ⟨by repeat (first | (with_reducible first | exact HB.out | apply below_alloc | apply pw_below_drewN | apply below_drew1) | exact HB.out)⟩⟩
   ·rw [if_neg c9] at H
    have c9b0 : decide (4096 < a4) = false := decide_eq_false c9
    clear c9
    by_cases c10 : a1 < 1
    ·rw [if_pos c10] at H
     have c10b0 : decide (a1 < 1) = true := decide_eq_true c10
     clear c10
     have H' := Aside0.mk H
     clear H
     go_wp2
     go_meet
     case rel => exact ⟨_, (true), (by first | rfl | (simp; done) | (simp [*]; done)), H', ⟨by first | omega | exact Nat.le_refl _⟩, ⟨by repeat (first | (with_reducible first | exact HB.out | apply below_alloc | apply pw_below_drewN | apply below_drew1) | exact HB.out)⟩⟩
    ·rw [if_neg c10] at H
     have c10b0 : decide (a1 < 1) = false := decide_eq_false c10
     clear c10
     by_cases c11 : a1 > a4
     ·rw [if_pos c11] at H
      have c11b0 : decide (a4 < a1) = true := decide_eq_true c11
      clear c11
      have H' := Aside0.mk H
      clear H
      go_wp2
      go_meet
      case rel => exact ⟨_, (true), (by first | rfl | (simp; done) | (simp [*]; done)), H', ⟨by first | omega | exact Nat.le_refl _⟩, ⟨by repeat (first | (with_reducible first | exact HB.out | apply below_alloc | apply pw_below_drewN | apply below_drew1) | exact HB.out)⟩⟩
     ·rw [if_neg c11] at H
      have c11b0 : decide (a4 < a1) = false := decide_eq_false c11
      clear c11
      by_cases c12 : (l0.length : Int) = 32
      ·rw [if_pos c12] at H
       have c12b0 : ((l0.length : Int) == 32) = true := beq_iff_eq.mpr c12
       have c12b1 : ((l0.length : Int) != 32) = false := bne_eq_false_iff_eq.mpr c12
       clear c12
       by_cases c13 : (l2.length : Int) = 32
       ·rw [if_pos c13] at H
        have c13b0 : ((l2.length : Int) == 32) = true := beq_iff_eq.mpr c13
        have c13b1 : ((l2.length : Int) != 32) = false := bne_eq_false_iff_eq.mpr c13
        clear c13
        by_cases c14 : (l3.length : Int) = 32
        ·rw [if_pos c14] at H
         have c14b0 : ((l3.length : Int) == 32) = true := beq_iff_eq.mpr c14
         have c14b1 : ((l3.length : Int) != 32) = false := bne_eq_false_iff_eq.mpr c14
         clear c14
         replace H := Option.bind_eq_some_iff.mp H
         obtain ⟨t101, A150, H⟩ := H
         replace H : (imprimaturref20_Begins.j0 k l0 a1 l2 l3 a4 l5 (!t101)) = some r := H
         have A15 := Aside0.mk A150
         clear A150
         have H' := Aside0.mk H
         clear H
         go_wp2_with (first | (go_at_call 61; (with_reducible refine (imprimaturref20_short.calls k _ _ l5 t101 _ ?side1 ?side2 A15.out).mono ?_); (case side1 => exact cL (Kd.C_below HR5.out HB.out)); (case side2 => exact HC5.out); rintro e w' ⟨rfl, ⟨nd, rfl⟩⟩))
         go_meet
         case rel => exact ⟨_, (!t101), (by first | rfl | (simp; done) | (simp [*]; done)), H', ⟨by first | omega | exact Nat.le_refl _⟩, ⟨by repeat (first | (with_reducible first | exact HB.out | apply below_alloc | apply pw_below_drewN | apply below_drew1) | exact HB.out)⟩⟩
        ·rw [if_neg c14] at H
         have c14b0 : ((l3.length : Int) == 32) = false := beq_eq_false_iff_ne.mpr c14
         have c14b1 : ((l3.length : Int) != 32) = true := bne_iff_ne.mpr c14
         have H' := Aside0.mk H
         clear H
         go_wp2
         go_meet
         case rel => exact ⟨_, (true), (by first | rfl | (simp; done) | (simp [*]; done)), H', ⟨by first | omega | exact Nat.le_refl _⟩, ⟨by repeat (first | (with_reducible first | exact HB.out | apply below_alloc | apply pw_below_drewN | apply below_drew1) | exact HB.out)⟩⟩
       ·rw [if_neg c13] at H
        have c13b0 : ((l2.length : Int) == 32) = false := beq_eq_false_iff_ne.mpr c13
        have c13b1 : ((l2.length : Int) != 32) = true := bne_iff_ne.mpr c13
        have H' := Aside0.mk H
        clear H
        go_wp2
        go_meet
        case rel => exact ⟨_, (true), (by first | rfl | (simp; done) | (simp [*]; done)), H', ⟨by first | omega | exact Nat.le_refl _⟩, ⟨by repeat (first | (with_reducible first | exact HB.out | apply below_alloc | apply pw_below_drewN | apply below_drew1) | exact HB.out)⟩⟩
      ·rw [if_neg c12] at H
       have c12b0 : ((l0.length : Int) == 32) = false := beq_eq_false_iff_ne.mpr c12
       have c12b1 : ((l0.length : Int) != 32) = true := bne_iff_ne.mpr c12
       have H' := Aside0.mk H
       clear H
       go_wp2
       go_meet
       case rel => exact ⟨_, (true), (by first | rfl | (simp; done) | (simp [*]; done)), H', ⟨by first | omega | exact Nat.le_refl _⟩, ⟨by repeat (first | (with_reducible first | exact HB.out | apply below_alloc | apply pw_below_drewN | apply below_drew1) | exact HB.out)⟩⟩
 case rest =>
  clear HC7
  try clear c1
  try clear c2
  try clear p2
  try clear c3
  try clear c4
  try clear c5
  try clear c8
  try clear c8b0
  try clear c9
  try clear c9b0
  try clear c10
  try clear c10b0
  try clear c11
  try clear c11b0
  try clear c12
  try clear c12b0
  try clear c12b1
  try clear c13
  try clear c13b0
  try clear c13b1
  try clear c14
  try clear c14b0
  try clear c14b1
  obtain ⟨kq, x51_6, rfl, HA, HJ6, HB⟩ := hcut
  cases kq with
  | zero => exact absurd HA.out (by simp [imprimaturref20_Begins.j0])
  | succ kj6 =>
   have H := HA.out
   clear HA
   simp only [imprimaturref20_Begins.j0] at H
   by_cases c16 : x51_6 = true
   ·subst c16
    have H1 : (some 1) = some r := by rw [if_pos rfl] at H; exact H
    clear H
    have H := H1
    clear H1
    obtain rfl := Option.some.inj H
    go_wp2
    go_ret
    exact ⟨by first | rfl | (simp [errW_none, errW_some] <;> rfl) | (simp [*, errW_none, errW_some] <;> rfl), by repeat (first | (with_reducible first | exact HB.out | apply below_alloc | apply pw_below_drewN | apply below_drew1) | exact HB.out)⟩
   ·replace c16 := Bool.eq_false_iff.mpr c16
    subst c16
    have H1 : ((imprimaturref20_Told.f kj6 a1 a4 l2 l5 true).bind fun bt102 => (if bt102.2.2.2 = true then (if (strOfNums bt102.1).toList = (strOfNums l2).toList then ((imprimaturref20_HeadText.f kj6 a1 l2).bind fun t112 => ((imprimaturref02_Hash256.f t112).bind fun t115 => (if (strOfNums t115).toList = (strOfNums l0).toList then ((imprimaturref20_HeadText.f kj6 a4 bt102.2.1).bind fun t118 => ((imprimaturref02_Hash256.f t118).bind fun t121 => (if (strOfNums t121).toList = (strOfNums l3).toList then (some 0) else (some 50)))) else (some 50)))) else (some 50)) else (some 50))) = some r := by rw [if_neg (show ¬ (false = true) by decide)] at H; exact H
    clear H
    have H := H1
    clear H1
    replace H := Option.bind_eq_some_iff.mp H
    obtain ⟨⟨t102, t105, t108, t111⟩, A170, H⟩ := H
    replace H : (if t111 = true then (if (strOfNums t102).toList = (strOfNums l2).toList then ((imprimaturref20_HeadText.f kj6 a1 l2).bind fun t112 => ((imprimaturref02_Hash256.f t112).bind fun t115 => (if (strOfNums t115).toList = (strOfNums l0).toList then ((imprimaturref20_HeadText.f kj6 a4 t105).bind fun t118 => ((imprimaturref02_Hash256.f t118).bind fun t121 => (if (strOfNums t121).toList = (strOfNums l3).toList then (some 0) else (some 50)))) else (some 50)))) else (some 50)) else (some 50)) = some r := H
    have A17 := Aside0.mk A170
    clear A170
    by_cases c18 : t111 = true
    ·subst c18
     have H1 : (if (strOfNums t102).toList = (strOfNums l2).toList then ((imprimaturref20_HeadText.f kj6 a1 l2).bind fun t112 => ((imprimaturref02_Hash256.f t112).bind fun t115 => (if (strOfNums t115).toList = (strOfNums l0).toList then ((imprimaturref20_HeadText.f kj6 a4 t105).bind fun t118 => ((imprimaturref02_Hash256.f t118).bind fun t121 => (if (strOfNums t121).toList = (strOfNums l3).toList then (some 0) else (some 50)))) else (some 50)))) else (some 50)) = some r := by rw [if_pos rfl] at H; exact H
     clear H
     have H := H1
     clear H1
     by_cases c19 : (strOfNums t102).toList = (strOfNums l2).toList
     ·rw [if_pos c19] at H
      have c19b0 : ((strOfNums t102).toList == (strOfNums l2).toList) = true := beq_iff_eq.mpr c19
      have c19b1 : ((strOfNums t102).toList != (strOfNums l2).toList) = false := bne_eq_false_iff_eq.mpr c19
      clear c19
      replace H := Option.bind_eq_some_iff.mp H
      obtain ⟨t112, A200, H⟩ := H
      replace H : ((imprimaturref02_Hash256.f t112).bind fun t115 => (if (strOfNums t115).toList = (strOfNums l0).toList then ((imprimaturref20_HeadText.f kj6 a4 t105).bind fun t118 => ((imprimaturref02_Hash256.f t118).bind fun t121 => (if (strOfNums t121).toList = (strOfNums l3).toList then (some 0) else (some 50)))) else (some 50))) = some r := H
      have A20 := Aside0.mk A200
      clear A200
      replace H := Option.bind_eq_some_iff.mp H
      obtain ⟨t115, A210, H⟩ := H
      replace H : (if (strOfNums t115).toList = (strOfNums l0).toList then ((imprimaturref20_HeadText.f kj6 a4 t105).bind fun t118 => ((imprimaturref02_Hash256.f t118).bind fun t121 => (if (strOfNums t121).toList = (strOfNums l3).toList then (some 0) else (some 50)))) else (some 50)) = some r := H
      have A21 := Aside0.mk A210
      clear A210
      by_cases c22 : (strOfNums t115).toList = (strOfNums l0).toList
      ·rw [if_pos c22] at H
       have c22b0 : ((strOfNums t115).toList == (strOfNums l0).toList) = true := beq_iff_eq.mpr c22
       have c22b1 : ((strOfNums t115).toList != (strOfNums l0).toList) = false := bne_eq_false_iff_eq.mpr c22
       clear c22
       replace H := Option.bind_eq_some_iff.mp H
       obtain ⟨t118, A230, H⟩ := H
       replace H : ((imprimaturref02_Hash256.f t118).bind fun t121 => (if (strOfNums t121).toList = (strOfNums l3).toList then (some 0) else (some 50))) = some r := H
       have A23 := Aside0.mk A230
       clear A230
       replace H := Option.bind_eq_some_iff.mp H
       obtain ⟨t121, A240, H⟩ := H
       replace H : (if (strOfNums t121).toList = (strOfNums l3).toList then (some 0) else (some 50)) = some r := H
       have A24 := Aside0.mk A240
       clear A240
       by_cases c25 : (strOfNums t121).toList = (strOfNums l3).toList
       ·rw [if_pos c25] at H
        have c25b0 : ((strOfNums t121).toList == (strOfNums l3).toList) = true := beq_iff_eq.mpr c25
        have c25b1 : ((strOfNums t121).toList != (strOfNums l3).toList) = false := bne_eq_false_iff_eq.mpr c25
        clear c25
        obtain rfl := Option.some.inj H
        try go_wp2_with (first | ((with_reducible refine gate_callee (f := 43) rfl ?_); refine goesL_ (some 57) rfl rfl Tryd.func43 (by kernel_rfl) rfl #[.int .i64 a1, .int .i64 a4, .slice A2 l2.length c2, .slice A5 l5.length c5, .bool true] rfl eqA ?_; (with_reducible refine (imprimaturref20_Told.calls kj6 a1 a4 (fun k_ => k_ < w.heap.size) _ _ l2 (fun k_ => k_ < w.heap.size) _ _ l5 true t102 t105 t108 true _ ?side1 ?side2 A17.out).mono ?_); (case side1 => exact Kd.V_mk HC2.out (Kd.F_below (Kd.C_F (Kd.heap_int .u8) HR2.out) bel)); (case side2 => exact Kd.V_mk HC5.out (Kd.F_below (Kd.C_F (Kd.heap_slice 5 (Kd.heap_int .u8)) HR5.out) bel)); rintro e w26 ⟨v103, v106, v109, rfl, ho0, ho1, ho2, hb⟩; refine ⟨_, rfl, ?_⟩; have n0_ := Aside0.mk (Kd.V_lower (Kd.V_mono (ok' := fun k_ => some k_ ≠ (v109 : Value).ownBlock) ho0 (fun k_ hk_ => hk_.2)) (below_size bel)); have n1_ := Aside0.mk (Kd.V_lower (Kd.V_mono (ok' := fun k_ => some k_ ≠ (v109 : Value).ownBlock) ho1 (fun k_ hk_ => hk_.2)) (below_size bel)); have n2_ := Aside0.mk (Kd.S_lower (Kd.S_mono (ok' := fun k_ => True) ho2 (fun _ hk_ => trivial)) (below_size bel)); have n3_ := Aside0.mk (below_step bel hb); clear HB; have HO104 := n0_; have HO107 := n1_; have HO110 := n2_; have HB := n3_; clear n0_ n1_ n2_ n3_; (try clear hb); (try clear hb2); (try clear hk); (try clear hi); (try clear ho0); (try clear ho1); (try clear ho2); obtain ⟨Ao27, co27, eo27⟩ := Kd.V_slice HO107.out; subst eo27))
        have n0_ := Aside0.mk (Kd.V_drew HO104.out)
        have n1_ := Aside0.mk (Kd.V_drew HO107.out)
        have n2_ := Aside0.mk (Kd.S_drew HO110.out)
        have n3_ := Aside0.mk (below_drew1 HB.out)
        clear HO104
        clear HO107
        clear HO110
        clear HB
        have HO104 := n0_
        have HO107 := n1_
        have HO110 := n2_
        have HB := n3_
        clear n0_ n1_ n2_ n3_
        have hcv29 := V_string_ (P := Tryd.prog) Tryd.underlying23 Tryd.underlying5 Tryd.underlying9 HO104.out
        have hcv30 := Kd.C_string (P := Tryd.prog) (A := A2) (c := c2) Tryd.underlying23 Tryd.underlying5 Tryd.underlying9 (Kd.C_below HR2.out HB.out)
        refine start_ (n := 29) (S := fun w' => (convert 23 9 (.slice A2 l2.length c2)).run Tryd.prog w' = .ok (.string (strOfNums l2)) w' ∧ (convert 23 9 (.slice A0 l0.length c0)).run Tryd.prog w' = .ok (.string (strOfNums l0)) w' ∧ (convert 23 9 (.slice A3 l3.length c3)).run Tryd.prog w' = .ok (.string (strOfNums l3)) w' ∧ (convert 23 9 v103).run Tryd.prog w' = .ok (.string (strOfNums t102)) w') (ds := []) #[false, false, false, false, false, false, false, false, false, false, false, false, false, false, false, false, false, false, false, false, false, false, false, false, false, false, false, false, false] (by kernel_rfl) rfl rfl (⟨Kd.C_string (P := Tryd.prog) (A := A2) (c := c2) Tryd.underlying23 Tryd.underlying5 Tryd.underlying9 (Kd.C_below HR2.out HB.out), Kd.C_string (P := Tryd.prog) (A := A0) (c := c0) Tryd.underlying23 Tryd.underlying5 Tryd.underlying9 (Kd.C_below HR0.out HB.out), Kd.C_string (P := Tryd.prog) (A := A3) (c := c3) Tryd.underlying23 Tryd.underlying5 Tryd.underlying9 (Kd.C_below HR3.out HB.out), V_string_ (P := Tryd.prog) Tryd.underlying23 Tryd.underlying5 Tryd.underlying9 HO104.out⟩) (fun hHeld => ?_); refine with_tabW imprimaturref20_Begins.tab4 imprimaturref20_Begins.bits4 (fun HT_ HW_ => ?_)
        generalize w26.drew = w28 at HO104 HO107 HO110 HB hHeld ⊢
        refine pureA (i := 0) (N := some 62) (fl 29 1) (any_of HT_.out (by kernel_rfl)) ?_
        refine pureA (i := 1) (N := some 63) (fl 29 3) (any_of HT_.out (by kernel_rfl)) ?_
        refine pureA (i := 2) (N := some 64) (fl 29 7) (any_of HT_.out (by kernel_rfl)) ?_
        refine pureA (i := 3) (N := some 65) (fl 29 15) (any_of HT_.out (by kernel_rfl)) ?_
        refine takeA (i := 4) (N := some 66) (fl 29 31) (take_ofW HT_.out HW_.out (by kernel_rfl)) hHeld ?_
        refine pureA (i := 5) (N := some 67) (fl 29 63) (any_of HT_.out (by kernel_rfl)) ?_
        refine takeA (i := 6) (N := some 68) (fl 29 127) (take_ofW HT_.out HW_.out (by kernel_rfl)) hHeld ?_
        refine pureA (i := 7) (N := some 69) (fl 29 255) (any_of HT_.out (by kernel_rfl)) ?_
        refine pureA (i := 8) (N := some 70) (fl 29 511) (any_of HT_.out (by kernel_rfl)) ?_
        refine pureA (i := 9) (N := some 71) (fl 29 1023) (any_of HT_.out (by kernel_rfl)) ?_
        refine pureA (i := 10) (N := some 72) (fl 29 2047) (any_of HT_.out (by kernel_rfl)) ?_
        refine pureA (i := 11) (N := some 73) (fl 29 4095) (any_of HT_.out (by kernel_rfl)) ?_
        refine pureA (i := 15) (N := some 77) (fl 29 36863) (any_of HT_.out (by kernel_rfl)) ?_
        refine takeA (i := 16) (N := some 78) (fl 29 102399) (take_ofW HT_.out HW_.out (by kernel_rfl)) hHeld ?_
        refine one_ (i := 12) (N := some 74) (fl 29 106495) rfl rfl (one_of HT_.out (by kernel_rfl)) (by decide) (fun K hK => ?_)
        refine goes_ Tryd.func37 (by kernel_rfl) rfl #[.int .i64 a1, .slice A2 l2.length c2] (by rfl) rfl rfl eqA ?_
        with_reducible refine (imprimaturref20_HeadText.calls kj6 a1 _ _ l2 t112 _ ?side1 ?side2 A20.out).mono ?_
        (case side1 => exact cL (Kd.C_below HR2.out HB.out))
        (case side2 => exact HC2.out)
        rintro e w31 ⟨v113, rfl, ho0, hb⟩
        refine ⟨_, rfl, ?_⟩
        have n0_ := Aside0.mk (Kd.V_elder' (vL HO104.out) (Kd.R_base ho0) hb)
        have n1_ := Aside0.mk (Kd.V_elder' (vL HO107.out) (Kd.R_base ho0) hb)
        have n2_ := Aside0.mk (Kd.S_elder' (sL HO110.out) (Kd.R_base ho0) hb)
        have n3_ := Aside0.mk (Kd.R_lower ho0 (below_size bel))
        have n4_ := Aside0.mk (below_step bel hb)
        clear HO104
        clear HO107
        clear HO110
        clear HB
        have HO104 := n0_
        have HO107 := n1_
        have HO110 := n2_
        have HO114 := n3_
        have HB := n4_
        clear n0_ n1_ n2_ n3_ n4_
        (try clear hb)
        (try clear hb2)
        (try clear hk)
        (try clear hi)
        (try clear ho0)
        obtain ⟨Ao32, co32, eo32⟩ := Kd.R_slice HO114.out
        (first | subst eo32 | (injection eo32 with f1_ f2_ f3_; have f4_ := f1_.symm; have f5_ := f3_.symm; clear f1_ f2_ f3_; subst f4_; subst f5_))
        refine hK.out _ _ (by first | exact hHeld | exact ⟨Kd.C_string (P := Tryd.prog) (A := A2) (c := c2) Tryd.underlying23 Tryd.underlying5 Tryd.underlying9 (Kd.C_below HR2.out HB.out), Kd.C_string (P := Tryd.prog) (A := A0) (c := c0) Tryd.underlying23 Tryd.underlying5 Tryd.underlying9 (Kd.C_below HR0.out HB.out), Kd.C_string (P := Tryd.prog) (A := A3) (c := c3) Tryd.underlying23 Tryd.underlying5 Tryd.underlying9 (Kd.C_below HR3.out HB.out), V_string_ (P := Tryd.prog) Tryd.underlying23 Tryd.underlying5 Tryd.underlying9 HO104.out⟩) (fun hHeld => ?_)
        clear hK K
        refine normA (some 74) ?_
        refine one_ (i := 13) (N := some 75) (fl 29 114687) rfl rfl (one_of HT_.out (by kernel_rfl)) (by decide) (fun K hK => ?_)
        refine goes_ Tryd.func50 (by kernel_rfl) rfl #[.slice Ao32 t112.length co32] (by rfl) rfl rfl eqA ?_
        with_reducible refine (imprimaturref02_Hash256.calls _ _ t112 t115 _ ?side1 ?side2 A21.out).mono ?_
        (case side1 => exact cL (Kd.R_reads' HO114.out).2.2)
        (case side2 => exact (Kd.R_reads' HO114.out).2.1)
        rintro e w33 ⟨v116, rfl, ho0, hb⟩
        refine ⟨_, rfl, ?_⟩
        have n0_ := Aside0.mk (Kd.V_elder' (vL HO104.out) (Kd.R_base ho0) hb)
        have n1_ := Aside0.mk (Kd.V_elder' (vL HO107.out) (Kd.R_base ho0) hb)
        have n2_ := Aside0.mk (Kd.S_elder' (sL HO110.out) (Kd.R_base ho0) hb)
        have n3_ := Aside0.mk (Kd.R_elder' (rL HO114.out) (Kd.R_base ho0) hb)
        have n4_ := Aside0.mk (Kd.R_lower (Kd.R_new' ho0 (Kd.R_lt (rL HO114.out))) (below_size bel))
        have n5_ := Aside0.mk (below_step bel hb)
        clear HO104
        clear HO107
        clear HO110
        clear HO114
        clear HB
        have HO104 := n0_
        have HO107 := n1_
        have HO110 := n2_
        have HO114 := n3_
        have HO117 := n4_
        have HB := n5_
        clear n0_ n1_ n2_ n3_ n4_ n5_
        (try clear hb)
        (try clear hb2)
        (try clear hk)
        (try clear hi)
        (try clear ho0)
        have hcv35 := Kd.C_string (P := Tryd.prog) (A := A0) (c := c0) Tryd.underlying23 Tryd.underlying5 Tryd.underlying9 (Kd.C_below HR0.out HB.out)
        refine hK.out _ _ (by first | exact hHeld | exact ⟨Kd.C_string (P := Tryd.prog) (A := A2) (c := c2) Tryd.underlying23 Tryd.underlying5 Tryd.underlying9 (Kd.C_below HR2.out HB.out), Kd.C_string (P := Tryd.prog) (A := A0) (c := c0) Tryd.underlying23 Tryd.underlying5 Tryd.underlying9 (Kd.C_below HR0.out HB.out), Kd.C_string (P := Tryd.prog) (A := A3) (c := c3) Tryd.underlying23 Tryd.underlying5 Tryd.underlying9 (Kd.C_below HR3.out HB.out), V_string_ (P := Tryd.prog) Tryd.underlying23 Tryd.underlying5 Tryd.underlying9 HO104.out⟩) (fun hHeld => ?_)
        clear hK K
        refine normA (some 75) ?_
        refine one_ (i := 14) (N := some 76) (fl 29 131071) rfl rfl (one_of HT_.out (by kernel_rfl)) (by decide) (fun K hK => ?_)
        have hcv34 := own_string (P := Tryd.prog) Tryd.underlying23 Tryd.underlying5 Tryd.underlying9 (Kd.own_of_R HO117.out)
        refine value_ (w1 := ?_) (v := ?_) (by rfl) rfl ?_ ?_
        rotate_left 2
        ·go_simp
         constructor
         ·rfl
         ·rfl
        clear hcv34
        refine hK.out _ _ (by first | exact hHeld | exact ⟨Kd.C_string (P := Tryd.prog) (A := A2) (c := c2) Tryd.underlying23 Tryd.underlying5 Tryd.underlying9 (Kd.C_below HR2.out HB.out), Kd.C_string (P := Tryd.prog) (A := A0) (c := c0) Tryd.underlying23 Tryd.underlying5 Tryd.underlying9 (Kd.C_below HR0.out HB.out), Kd.C_string (P := Tryd.prog) (A := A3) (c := c3) Tryd.underlying23 Tryd.underlying5 Tryd.underlying9 (Kd.C_below HR3.out HB.out), V_string_ (P := Tryd.prog) Tryd.underlying23 Tryd.underlying5 Tryd.underlying9 HO104.out⟩) (fun hHeld => ?_)
        clear hK K
        refine normA (some 76) ?_
        refine pureA (i := 17) (N := some 79) (fl 29 262143) (any_of HT_.out (by kernel_rfl)) ?_
        refine pureA (i := 18) (N := some 80) (fl 29 524287) (any_of HT_.out (by kernel_rfl)) ?_
        refine pureA (i := 19) (N := some 81) (fl 29 1048575) (any_of HT_.out (by kernel_rfl)) ?_
        refine pureA (i := 20) (N := some 82) (fl 29 2097151) (any_of HT_.out (by kernel_rfl)) ?_
        refine pureA (i := 21) (N := some 83) (fl 29 4194303) (any_of HT_.out (by kernel_rfl)) ?_
        refine pureA (i := 25) (N := some 87) (fl 29 37748735) (any_of HT_.out (by kernel_rfl)) ?_
        refine takeA (i := 26) (N := some 88) (fl 29 104857599) (take_ofW HT_.out HW_.out (by kernel_rfl)) hHeld ?_
        refine one_ (i := 22) (N := some 84) (fl 29 109051903) rfl rfl (one_of HT_.out (by kernel_rfl)) (by decide) (fun K hK => ?_)
        refine goes_ Tryd.func37 (by kernel_rfl) rfl #[.int .i64 a4, .slice Ao27 t105.length co27] (by rfl) rfl rfl eqA ?_
        with_reducible refine (imprimaturref20_HeadText.calls kj6 a4 _ _ t105 t118 _ ?side1 ?side2 A23.out).mono ?_
        (case side1 => exact cL (Kd.V_reads' HO107.out).2.2)
        (case side2 => exact (Kd.V_reads' HO107.out).2.1)
        rintro e w36 ⟨v119, rfl, ho0, hb⟩
        refine ⟨_, rfl, ?_⟩
        have n0_ := Aside0.mk (Kd.V_elder' (vL HO104.out) (Kd.R_base ho0) hb)
        have n1_ := Aside0.mk (Kd.V_elder' (vL HO107.out) (Kd.R_base ho0) hb)
        have n2_ := Aside0.mk (Kd.S_elder' (sL HO110.out) (Kd.R_base ho0) hb)
        have n3_ := Aside0.mk (Kd.R_elder' (rL HO114.out) (Kd.R_base ho0) hb)
        have n4_ := Aside0.mk (Kd.R_elder' (rL HO117.out) (Kd.R_base ho0) hb)
        have n5_ := Aside0.mk (Kd.R_lower (Kd.R_new' (Kd.R_new' ho0 (Kd.R_lt (rL HO114.out))) (Kd.R_lt (rL HO117.out))) (below_size bel))
        have n6_ := Aside0.mk (below_step bel hb)
        clear HO104
        clear HO107
        clear HO110
        clear HO114
        clear HO117
        clear HB
        have HO104 := n0_
        have HO107 := n1_
        have HO110 := n2_
        have HO114 := n3_
        have HO117 := n4_
        have HO120 := n5_
        have HB := n6_
        clear n0_ n1_ n2_ n3_ n4_ n5_ n6_
        (try clear hb)
        (try clear hb2)
        (try clear hk)
        (try clear hi)
        (try clear ho0)
        obtain ⟨Ao37, co37, eo37⟩ := Kd.R_slice HO120.out
        (first | subst eo37 | (injection eo37 with f1_ f2_ f3_; have f4_ := f1_.symm; have f5_ := f3_.symm; clear f1_ f2_ f3_; subst f4_; subst f5_))
        refine hK.out _ _ (by first | exact hHeld | exact ⟨Kd.C_string (P := Tryd.prog) (A := A2) (c := c2) Tryd.underlying23 Tryd.underlying5 Tryd.underlying9 (Kd.C_below HR2.out HB.out), Kd.C_string (P := Tryd.prog) (A := A0) (c := c0) Tryd.underlying23 Tryd.underlying5 Tryd.underlying9 (Kd.C_below HR0.out HB.out), Kd.C_string (P := Tryd.prog) (A := A3) (c := c3) Tryd.underlying23 Tryd.underlying5 Tryd.underlying9 (Kd.C_below HR3.out HB.out), V_string_ (P := Tryd.prog) Tryd.underlying23 Tryd.underlying5 Tryd.underlying9 HO104.out⟩) (fun hHeld => ?_)
        clear hK K
        refine normA (some 84) ?_
        refine one_ (i := 23) (N := some 85) (fl 29 117440511) rfl rfl (one_of HT_.out (by kernel_rfl)) (by decide) (fun K hK => ?_)
        refine goes_ Tryd.func50 (by kernel_rfl) rfl #[.slice Ao37 t118.length co37] (by rfl) rfl rfl eqA ?_
        with_reducible refine (imprimaturref02_Hash256.calls _ _ t118 t121 _ ?side1 ?side2 A24.out).mono ?_
        (case side1 => exact cL (Kd.R_reads' HO120.out).2.2)
        (case side2 => exact (Kd.R_reads' HO120.out).2.1)
        rintro e w38 ⟨v122, rfl, ho0, hb⟩
        refine ⟨_, rfl, ?_⟩
        have n0_ := Aside0.mk (Kd.V_elder' (vL HO104.out) (Kd.R_base ho0) hb)
        have n1_ := Aside0.mk (Kd.V_elder' (vL HO107.out) (Kd.R_base ho0) hb)
        have n2_ := Aside0.mk (Kd.S_elder' (sL HO110.out) (Kd.R_base ho0) hb)
        have n3_ := Aside0.mk (Kd.R_elder' (rL HO114.out) (Kd.R_base ho0) hb)
        have n4_ := Aside0.mk (Kd.R_elder' (rL HO117.out) (Kd.R_base ho0) hb)
        have n5_ := Aside0.mk (Kd.R_elder' (rL HO120.out) (Kd.R_base ho0) hb)
        have n6_ := Aside0.mk (Kd.R_lower (Kd.R_new' (Kd.R_new' (Kd.R_new' ho0 (Kd.R_lt (rL HO114.out))) (Kd.R_lt (rL HO117.out))) (Kd.R_lt (rL HO120.out))) (below_size bel))
        have n7_ := Aside0.mk (below_step bel hb)
        clear HO104
        clear HO107
        clear HO110
        clear HO114
        clear HO117
        clear HO120
        clear HB
        have HO104 := n0_
        have HO107 := n1_
        have HO110 := n2_
        have HO114 := n3_
        have HO117 := n4_
        have HO120 := n5_
        have HO123 := n6_
        have HB := n7_
        clear n0_ n1_ n2_ n3_ n4_ n5_ n6_ n7_
        (try clear hb)
        (try clear hb2)
        (try clear hk)
        (try clear hi)
        (try clear ho0)
        have hcv40 := Kd.C_string (P := Tryd.prog) (A := A3) (c := c3) Tryd.underlying23 Tryd.underlying5 Tryd.underlying9 (Kd.C_below HR3.out HB.out)
        refine hK.out _ _ (by first | exact hHeld | exact ⟨Kd.C_string (P := Tryd.prog) (A := A2) (c := c2) Tryd.underlying23 Tryd.underlying5 Tryd.underlying9 (Kd.C_below HR2.out HB.out), Kd.C_string (P := Tryd.prog) (A := A0) (c := c0) Tryd.underlying23 Tryd.underlying5 Tryd.underlying9 (Kd.C_below HR0.out HB.out), Kd.C_string (P := Tryd.prog) (A := A3) (c := c3) Tryd.underlying23 Tryd.underlying5 Tryd.underlying9 (Kd.C_below HR3.out HB.out), V_string_ (P := Tryd.prog) Tryd.underlying23 Tryd.underlying5 Tryd.underlying9 HO104.out⟩) (fun hHeld => ?_)
        clear hK K
        refine normA (some 85) ?_
        refine one_ (i := 24) (N := some 86) (fl 29 134217727) rfl rfl (one_of HT_.out (by kernel_rfl)) (by decide) (fun K hK => ?_)
        have hcv39 := own_string (P := Tryd.prog) Tryd.underlying23 Tryd.underlying5 Tryd.underlying9 (Kd.own_of_R HO123.out)
        refine value_ (w1 := ?_) (v := ?_) (by rfl) rfl ?_ ?_
        rotate_left 2
        ·go_simp
         constructor
         ·rfl
         ·rfl
        clear hcv39
        refine hK.out _ _ (by first | exact hHeld | exact ⟨Kd.C_string (P := Tryd.prog) (A := A2) (c := c2) Tryd.underlying23 Tryd.underlying5 Tryd.underlying9 (Kd.C_below HR2.out HB.out), Kd.C_string (P := Tryd.prog) (A := A0) (c := c0) Tryd.underlying23 Tryd.underlying5 Tryd.underlying9 (Kd.C_below HR0.out HB.out), Kd.C_string (P := Tryd.prog) (A := A3) (c := c3) Tryd.underlying23 Tryd.underlying5 Tryd.underlying9 (Kd.C_below HR3.out HB.out), V_string_ (P := Tryd.prog) Tryd.underlying23 Tryd.underlying5 Tryd.underlying9 HO104.out⟩) (fun hHeld => ?_)
        clear hK K
        refine normA (some 86) ?_
        refine pureA (i := 27) (N := some 89) (fl 29 268435455) (any_of HT_.out (by kernel_rfl)) ?_
        refine pureA (i := 28) (N := some 90) (fl 29 536870911) (any_of HT_.out (by kernel_rfl)) ?_
        refine done_ (done_of HT_.out (by kernel_rfl)) ?_
        try go_wp2
        go_ret
        exact ⟨by first | rfl | (simp [errW_none, errW_some] <;> rfl) | (simp [*, errW_none, errW_some] <;> rfl), by repeat (first | (with_reducible first | exact HB.out | apply below_alloc | apply pw_below_drewN | apply below_drew1) | exact HB.out)⟩
       ·rw [if_neg c25] at H
        have c25b0 : ((strOfNums t121).toList == (strOfNums l3).toList) = false := beq_eq_false_iff_ne.mpr c25
        have c25b1 : ((strOfNums t121).toList != (strOfNums l3).toList) = true := bne_iff_ne.mpr c25
        obtain rfl := Option.some.inj H
        try go_wp2_with (first | ((with_reducible refine gate_callee (f := 43) rfl ?_); refine goesL_ (some 57) rfl rfl Tryd.func43 (by kernel_rfl) rfl #[.int .i64 a1, .int .i64 a4, .slice A2 l2.length c2, .slice A5 l5.length c5, .bool true] rfl eqA ?_; (with_reducible refine (imprimaturref20_Told.calls kj6 a1 a4 (fun k_ => k_ < w.heap.size) _ _ l2 (fun k_ => k_ < w.heap.size) _ _ l5 true t102 t105 t108 true _ ?side1 ?side2 A17.out).mono ?_); (case side1 => exact Kd.V_mk HC2.out (Kd.F_below (Kd.C_F (Kd.heap_int .u8) HR2.out) bel)); (case side2 => exact Kd.V_mk HC5.out (Kd.F_below (Kd.C_F (Kd.heap_slice 5 (Kd.heap_int .u8)) HR5.out) bel)); rintro e w42 ⟨v103, v106, v109, rfl, ho0, ho1, ho2, hb⟩; refine ⟨_, rfl, ?_⟩; have n0_ := Aside0.mk (Kd.V_lower (Kd.V_mono (ok' := fun k_ => some k_ ≠ (v109 : Value).ownBlock) ho0 (fun k_ hk_ => hk_.2)) (below_size bel)); have n1_ := Aside0.mk (Kd.V_lower (Kd.V_mono (ok' := fun k_ => some k_ ≠ (v109 : Value).ownBlock) ho1 (fun k_ hk_ => hk_.2)) (below_size bel)); have n2_ := Aside0.mk (Kd.S_lower (Kd.S_mono (ok' := fun k_ => True) ho2 (fun _ hk_ => trivial)) (below_size bel)); have n3_ := Aside0.mk (below_step bel hb); clear HB; have HO104 := n0_; have HO107 := n1_; have HO110 := n2_; have HB := n3_; clear n0_ n1_ n2_ n3_; (try clear hb); (try clear hb2); (try clear hk); (try clear hi); (try clear ho0); (try clear ho1); (try clear ho2); obtain ⟨Ao43, co43, eo43⟩ := Kd.V_slice HO107.out; subst eo43))
        have n0_ := Aside0.mk (Kd.V_drew HO104.out)
        have n1_ := Aside0.mk (Kd.V_drew HO107.out)
        have n2_ := Aside0.mk (Kd.S_drew HO110.out)
        have n3_ := Aside0.mk (below_drew1 HB.out)
        clear HO104
        clear HO107
        clear HO110
        clear HB
        have HO104 := n0_
        have HO107 := n1_
        have HO110 := n2_
        have HB := n3_
        clear n0_ n1_ n2_ n3_
        have hcv45 := V_string_ (P := Tryd.prog) Tryd.underlying23 Tryd.underlying5 Tryd.underlying9 HO104.out
        have hcv46 := Kd.C_string (P := Tryd.prog) (A := A2) (c := c2) Tryd.underlying23 Tryd.underlying5 Tryd.underlying9 (Kd.C_below HR2.out HB.out)
        refine start_ (n := 29) (S := fun w' => (convert 23 9 (.slice A2 l2.length c2)).run Tryd.prog w' = .ok (.string (strOfNums l2)) w' ∧ (convert 23 9 (.slice A0 l0.length c0)).run Tryd.prog w' = .ok (.string (strOfNums l0)) w' ∧ (convert 23 9 (.slice A3 l3.length c3)).run Tryd.prog w' = .ok (.string (strOfNums l3)) w' ∧ (convert 23 9 v103).run Tryd.prog w' = .ok (.string (strOfNums t102)) w') (ds := []) #[false, false, false, false, false, false, false, false, false, false, false, false, false, false, false, false, false, false, false, false, false, false, false, false, false, false, false, false, false] (by kernel_rfl) rfl rfl (⟨Kd.C_string (P := Tryd.prog) (A := A2) (c := c2) Tryd.underlying23 Tryd.underlying5 Tryd.underlying9 (Kd.C_below HR2.out HB.out), Kd.C_string (P := Tryd.prog) (A := A0) (c := c0) Tryd.underlying23 Tryd.underlying5 Tryd.underlying9 (Kd.C_below HR0.out HB.out), Kd.C_string (P := Tryd.prog) (A := A3) (c := c3) Tryd.underlying23 Tryd.underlying5 Tryd.underlying9 (Kd.C_below HR3.out HB.out), V_string_ (P := Tryd.prog) Tryd.underlying23 Tryd.underlying5 Tryd.underlying9 HO104.out⟩) (fun hHeld => ?_); refine with_tabW imprimaturref20_Begins.tab4 imprimaturref20_Begins.bits4 (fun HT_ HW_ => ?_)
        generalize w42.drew = w44 at HO104 HO107 HO110 HB hHeld ⊢
        refine pureA (i := 0) (N := some 62) (fl 29 1) (any_of HT_.out (by kernel_rfl)) ?_
        refine pureA (i := 1) (N := some 63) (fl 29 3) (any_of HT_.out (by kernel_rfl)) ?_
        refine pureA (i := 2) (N := some 64) (fl 29 7) (any_of HT_.out (by kernel_rfl)) ?_
        refine pureA (i := 3) (N := some 65) (fl 29 15) (any_of HT_.out (by kernel_rfl)) ?_
        refine takeA (i := 4) (N := some 66) (fl 29 31) (take_ofW HT_.out HW_.out (by kernel_rfl)) hHeld ?_
        refine pureA (i := 5) (N := some 67) (fl 29 63) (any_of HT_.out (by kernel_rfl)) ?_
        refine takeA (i := 6) (N := some 68) (fl 29 127) (take_ofW HT_.out HW_.out (by kernel_rfl)) hHeld ?_
        refine pureA (i := 7) (N := some 69) (fl 29 255) (any_of HT_.out (by kernel_rfl)) ?_
        refine pureA (i := 8) (N := some 70) (fl 29 511) (any_of HT_.out (by kernel_rfl)) ?_
        refine pureA (i := 9) (N := some 71) (fl 29 1023) (any_of HT_.out (by kernel_rfl)) ?_
        refine pureA (i := 10) (N := some 72) (fl 29 2047) (any_of HT_.out (by kernel_rfl)) ?_
        refine pureA (i := 11) (N := some 73) (fl 29 4095) (any_of HT_.out (by kernel_rfl)) ?_
        refine pureA (i := 15) (N := some 77) (fl 29 36863) (any_of HT_.out (by kernel_rfl)) ?_
        refine takeA (i := 16) (N := some 78) (fl 29 102399) (take_ofW HT_.out HW_.out (by kernel_rfl)) hHeld ?_
        refine one_ (i := 12) (N := some 74) (fl 29 106495) rfl rfl (one_of HT_.out (by kernel_rfl)) (by decide) (fun K hK => ?_)
        refine goes_ Tryd.func37 (by kernel_rfl) rfl #[.int .i64 a1, .slice A2 l2.length c2] (by rfl) rfl rfl eqA ?_
        with_reducible refine (imprimaturref20_HeadText.calls kj6 a1 _ _ l2 t112 _ ?side1 ?side2 A20.out).mono ?_
        (case side1 => exact cL (Kd.C_below HR2.out HB.out))
        (case side2 => exact HC2.out)
        rintro e w47 ⟨v113, rfl, ho0, hb⟩
        refine ⟨_, rfl, ?_⟩
        have n0_ := Aside0.mk (Kd.V_elder' (vL HO104.out) (Kd.R_base ho0) hb)
        have n1_ := Aside0.mk (Kd.V_elder' (vL HO107.out) (Kd.R_base ho0) hb)
        have n2_ := Aside0.mk (Kd.S_elder' (sL HO110.out) (Kd.R_base ho0) hb)
        have n3_ := Aside0.mk (Kd.R_lower ho0 (below_size bel))
        have n4_ := Aside0.mk (below_step bel hb)
        clear HO104
        clear HO107
        clear HO110
        clear HB
        have HO104 := n0_
        have HO107 := n1_
        have HO110 := n2_
        have HO114 := n3_
        have HB := n4_
        clear n0_ n1_ n2_ n3_ n4_
        (try clear hb)
        (try clear hb2)
        (try clear hk)
        (try clear hi)
        (try clear ho0)
        obtain ⟨Ao48, co48, eo48⟩ := Kd.R_slice HO114.out
        (first | subst eo48 | (injection eo48 with f1_ f2_ f3_; have f4_ := f1_.symm; have f5_ := f3_.symm; clear f1_ f2_ f3_; subst f4_; subst f5_))
        refine hK.out _ _ (by first | exact hHeld | exact ⟨Kd.C_string (P := Tryd.prog) (A := A2) (c := c2) Tryd.underlying23 Tryd.underlying5 Tryd.underlying9 (Kd.C_below HR2.out HB.out), Kd.C_string (P := Tryd.prog) (A := A0) (c := c0) Tryd.underlying23 Tryd.underlying5 Tryd.underlying9 (Kd.C_below HR0.out HB.out), Kd.C_string (P := Tryd.prog) (A := A3) (c := c3) Tryd.underlying23 Tryd.underlying5 Tryd.underlying9 (Kd.C_below HR3.out HB.out), V_string_ (P := Tryd.prog) Tryd.underlying23 Tryd.underlying5 Tryd.underlying9 HO104.out⟩) (fun hHeld => ?_)
        clear hK K
        refine normA (some 74) ?_
        refine one_ (i := 13) (N := some 75) (fl 29 114687) rfl rfl (one_of HT_.out (by kernel_rfl)) (by decide) (fun K hK => ?_)
        refine goes_ Tryd.func50 (by kernel_rfl) rfl #[.slice Ao48 t112.length co48] (by rfl) rfl rfl eqA ?_
        with_reducible refine (imprimaturref02_Hash256.calls _ _ t112 t115 _ ?side1 ?side2 A21.out).mono ?_
        (case side1 => exact cL (Kd.R_reads' HO114.out).2.2)
        (case side2 => exact (Kd.R_reads' HO114.out).2.1)
        rintro e w49 ⟨v116, rfl, ho0, hb⟩
        refine ⟨_, rfl, ?_⟩
        have n0_ := Aside0.mk (Kd.V_elder' (vL HO104.out) (Kd.R_base ho0) hb)
        have n1_ := Aside0.mk (Kd.V_elder' (vL HO107.out) (Kd.R_base ho0) hb)
        have n2_ := Aside0.mk (Kd.S_elder' (sL HO110.out) (Kd.R_base ho0) hb)
        have n3_ := Aside0.mk (Kd.R_elder' (rL HO114.out) (Kd.R_base ho0) hb)
        have n4_ := Aside0.mk (Kd.R_lower (Kd.R_new' ho0 (Kd.R_lt (rL HO114.out))) (below_size bel))
        have n5_ := Aside0.mk (below_step bel hb)
        clear HO104
        clear HO107
        clear HO110
        clear HO114
        clear HB
        have HO104 := n0_
        have HO107 := n1_
        have HO110 := n2_
        have HO114 := n3_
        have HO117 := n4_
        have HB := n5_
        clear n0_ n1_ n2_ n3_ n4_ n5_
        (try clear hb)
        (try clear hb2)
        (try clear hk)
        (try clear hi)
        (try clear ho0)
        have hcv51 := Kd.C_string (P := Tryd.prog) (A := A0) (c := c0) Tryd.underlying23 Tryd.underlying5 Tryd.underlying9 (Kd.C_below HR0.out HB.out)
        refine hK.out _ _ (by first | exact hHeld | exact ⟨Kd.C_string (P := Tryd.prog) (A := A2) (c := c2) Tryd.underlying23 Tryd.underlying5 Tryd.underlying9 (Kd.C_below HR2.out HB.out), Kd.C_string (P := Tryd.prog) (A := A0) (c := c0) Tryd.underlying23 Tryd.underlying5 Tryd.underlying9 (Kd.C_below HR0.out HB.out), Kd.C_string (P := Tryd.prog) (A := A3) (c := c3) Tryd.underlying23 Tryd.underlying5 Tryd.underlying9 (Kd.C_below HR3.out HB.out), V_string_ (P := Tryd.prog) Tryd.underlying23 Tryd.underlying5 Tryd.underlying9 HO104.out⟩) (fun hHeld => ?_)
        clear hK K
        refine normA (some 75) ?_
        refine one_ (i := 14) (N := some 76) (fl 29 131071) rfl rfl (one_of HT_.out (by kernel_rfl)) (by decide) (fun K hK => ?_)
        have hcv50 := own_string (P := Tryd.prog) Tryd.underlying23 Tryd.underlying5 Tryd.underlying9 (Kd.own_of_R HO117.out)
        refine value_ (w1 := ?_) (v := ?_) (by rfl) rfl ?_ ?_
        rotate_left 2
        ·go_simp
         constructor
         ·rfl
         ·rfl
        clear hcv50
        refine hK.out _ _ (by first | exact hHeld | exact ⟨Kd.C_string (P := Tryd.prog) (A := A2) (c := c2) Tryd.underlying23 Tryd.underlying5 Tryd.underlying9 (Kd.C_below HR2.out HB.out), Kd.C_string (P := Tryd.prog) (A := A0) (c := c0) Tryd.underlying23 Tryd.underlying5 Tryd.underlying9 (Kd.C_below HR0.out HB.out), Kd.C_string (P := Tryd.prog) (A := A3) (c := c3) Tryd.underlying23 Tryd.underlying5 Tryd.underlying9 (Kd.C_below HR3.out HB.out), V_string_ (P := Tryd.prog) Tryd.underlying23 Tryd.underlying5 Tryd.underlying9 HO104.out⟩) (fun hHeld => ?_)
        clear hK K
        refine normA (some 76) ?_
        refine pureA (i := 17) (N := some 79) (fl 29 262143) (any_of HT_.out (by kernel_rfl)) ?_
        refine pureA (i := 18) (N := some 80) (fl 29 524287) (any_of HT_.out (by kernel_rfl)) ?_
        refine pureA (i := 19) (N := some 81) (fl 29 1048575) (any_of HT_.out (by kernel_rfl)) ?_
        refine pureA (i := 20) (N := some 82) (fl 29 2097151) (any_of HT_.out (by kernel_rfl)) ?_
        refine pureA (i := 21) (N := some 83) (fl 29 4194303) (any_of HT_.out (by kernel_rfl)) ?_
        refine pureA (i := 25) (N := some 87) (fl 29 37748735) (any_of HT_.out (by kernel_rfl)) ?_
        refine takeA (i := 26) (N := some 88) (fl 29 104857599) (take_ofW HT_.out HW_.out (by kernel_rfl)) hHeld ?_
        refine one_ (i := 22) (N := some 84) (fl 29 109051903) rfl rfl (one_of HT_.out (by kernel_rfl)) (by decide) (fun K hK => ?_)
        refine goes_ Tryd.func37 (by kernel_rfl) rfl #[.int .i64 a4, .slice Ao43 t105.length co43] (by rfl) rfl rfl eqA ?_
        with_reducible refine (imprimaturref20_HeadText.calls kj6 a4 _ _ t105 t118 _ ?side1 ?side2 A23.out).mono ?_
        (case side1 => exact cL (Kd.V_reads' HO107.out).2.2)
        (case side2 => exact (Kd.V_reads' HO107.out).2.1)
        rintro e w52 ⟨v119, rfl, ho0, hb⟩
        refine ⟨_, rfl, ?_⟩
        have n0_ := Aside0.mk (Kd.V_elder' (vL HO104.out) (Kd.R_base ho0) hb)
        have n1_ := Aside0.mk (Kd.V_elder' (vL HO107.out) (Kd.R_base ho0) hb)
        have n2_ := Aside0.mk (Kd.S_elder' (sL HO110.out) (Kd.R_base ho0) hb)
        have n3_ := Aside0.mk (Kd.R_elder' (rL HO114.out) (Kd.R_base ho0) hb)
        have n4_ := Aside0.mk (Kd.R_elder' (rL HO117.out) (Kd.R_base ho0) hb)
        have n5_ := Aside0.mk (Kd.R_lower (Kd.R_new' (Kd.R_new' ho0 (Kd.R_lt (rL HO114.out))) (Kd.R_lt (rL HO117.out))) (below_size bel))
        have n6_ := Aside0.mk (below_step bel hb)
        clear HO104
        clear HO107
        clear HO110
        clear HO114
        clear HO117
        clear HB
        have HO104 := n0_
        have HO107 := n1_
        have HO110 := n2_
        have HO114 := n3_
        have HO117 := n4_
        have HO120 := n5_
        have HB := n6_
        clear n0_ n1_ n2_ n3_ n4_ n5_ n6_
        (try clear hb)
        (try clear hb2)
        (try clear hk)
        (try clear hi)
        (try clear ho0)
        obtain ⟨Ao53, co53, eo53⟩ := Kd.R_slice HO120.out
        (first | subst eo53 | (injection eo53 with f1_ f2_ f3_; have f4_ := f1_.symm; have f5_ := f3_.symm; clear f1_ f2_ f3_; subst f4_; subst f5_))
        refine hK.out _ _ (by first | exact hHeld | exact ⟨Kd.C_string (P := Tryd.prog) (A := A2) (c := c2) Tryd.underlying23 Tryd.underlying5 Tryd.underlying9 (Kd.C_below HR2.out HB.out), Kd.C_string (P := Tryd.prog) (A := A0) (c := c0) Tryd.underlying23 Tryd.underlying5 Tryd.underlying9 (Kd.C_below HR0.out HB.out), Kd.C_string (P := Tryd.prog) (A := A3) (c := c3) Tryd.underlying23 Tryd.underlying5 Tryd.underlying9 (Kd.C_below HR3.out HB.out), V_string_ (P := Tryd.prog) Tryd.underlying23 Tryd.underlying5 Tryd.underlying9 HO104.out⟩) (fun hHeld => ?_)
        clear hK K
        refine normA (some 84) ?_
        refine one_ (i := 23) (N := some 85) (fl 29 117440511) rfl rfl (one_of HT_.out (by kernel_rfl)) (by decide) (fun K hK => ?_)
        refine goes_ Tryd.func50 (by kernel_rfl) rfl #[.slice Ao53 t118.length co53] (by rfl) rfl rfl eqA ?_
        with_reducible refine (imprimaturref02_Hash256.calls _ _ t118 t121 _ ?side1 ?side2 A24.out).mono ?_
        (case side1 => exact cL (Kd.R_reads' HO120.out).2.2)
        (case side2 => exact (Kd.R_reads' HO120.out).2.1)
        rintro e w54 ⟨v122, rfl, ho0, hb⟩
        refine ⟨_, rfl, ?_⟩
        have n0_ := Aside0.mk (Kd.V_elder' (vL HO104.out) (Kd.R_base ho0) hb)
        have n1_ := Aside0.mk (Kd.V_elder' (vL HO107.out) (Kd.R_base ho0) hb)
        have n2_ := Aside0.mk (Kd.S_elder' (sL HO110.out) (Kd.R_base ho0) hb)
        have n3_ := Aside0.mk (Kd.R_elder' (rL HO114.out) (Kd.R_base ho0) hb)
        have n4_ := Aside0.mk (Kd.R_elder' (rL HO117.out) (Kd.R_base ho0) hb)
        have n5_ := Aside0.mk (Kd.R_elder' (rL HO120.out) (Kd.R_base ho0) hb)
        have n6_ := Aside0.mk (Kd.R_lower (Kd.R_new' (Kd.R_new' (Kd.R_new' ho0 (Kd.R_lt (rL HO114.out))) (Kd.R_lt (rL HO117.out))) (Kd.R_lt (rL HO120.out))) (below_size bel))
        have n7_ := Aside0.mk (below_step bel hb)
        clear HO104
        clear HO107
        clear HO110
        clear HO114
        clear HO117
        clear HO120
        clear HB
        have HO104 := n0_
        have HO107 := n1_
        have HO110 := n2_
        have HO114 := n3_
        have HO117 := n4_
        have HO120 := n5_
        have HO123 := n6_
        have HB := n7_
        clear n0_ n1_ n2_ n3_ n4_ n5_ n6_ n7_
        (try clear hb)
        (try clear hb2)
        (try clear hk)
        (try clear hi)
        (try clear ho0)
        have hcv56 := Kd.C_string (P := Tryd.prog) (A := A3) (c := c3) Tryd.underlying23 Tryd.underlying5 Tryd.underlying9 (Kd.C_below HR3.out HB.out)
        refine hK.out _ _ (by first | exact hHeld | exact ⟨Kd.C_string (P := Tryd.prog) (A := A2) (c := c2) Tryd.underlying23 Tryd.underlying5 Tryd.underlying9 (Kd.C_below HR2.out HB.out), Kd.C_string (P := Tryd.prog) (A := A0) (c := c0) Tryd.underlying23 Tryd.underlying5 Tryd.underlying9 (Kd.C_below HR0.out HB.out), Kd.C_string (P := Tryd.prog) (A := A3) (c := c3) Tryd.underlying23 Tryd.underlying5 Tryd.underlying9 (Kd.C_below HR3.out HB.out), V_string_ (P := Tryd.prog) Tryd.underlying23 Tryd.underlying5 Tryd.underlying9 HO104.out⟩) (fun hHeld => ?_)
        clear hK K
        refine normA (some 85) ?_
        refine one_ (i := 24) (N := some 86) (fl 29 134217727) rfl rfl (one_of HT_.out (by kernel_rfl)) (by decide) (fun K hK => ?_)
        have hcv55 := own_string (P := Tryd.prog) Tryd.underlying23 Tryd.underlying5 Tryd.underlying9 (Kd.own_of_R HO123.out)
        refine value_ (w1 := ?_) (v := ?_) (by rfl) rfl ?_ ?_
        rotate_left 2
        ·go_simp
         constructor
         ·rfl
         ·rfl
        clear hcv55
        refine hK.out _ _ (by first | exact hHeld | exact ⟨Kd.C_string (P := Tryd.prog) (A := A2) (c := c2) Tryd.underlying23 Tryd.underlying5 Tryd.underlying9 (Kd.C_below HR2.out HB.out), Kd.C_string (P := Tryd.prog) (A := A0) (c := c0) Tryd.underlying23 Tryd.underlying5 Tryd.underlying9 (Kd.C_below HR0.out HB.out), Kd.C_string (P := Tryd.prog) (A := A3) (c := c3) Tryd.underlying23 Tryd.underlying5 Tryd.underlying9 (Kd.C_below HR3.out HB.out), V_string_ (P := Tryd.prog) Tryd.underlying23 Tryd.underlying5 Tryd.underlying9 HO104.out⟩) (fun hHeld => ?_)
        clear hK K
        refine normA (some 86) ?_
        refine pureA (i := 27) (N := some 89) (fl 29 268435455) (any_of HT_.out (by kernel_rfl)) ?_
        refine pureA (i := 28) (N := some 90) (fl 29 536870911) (any_of HT_.out (by kernel_rfl)) ?_
        refine done_ (done_of HT_.out (by kernel_rfl)) ?_
        try go_wp2
        go_ret
        exact ⟨by first | rfl | (simp [errW_none, errW_some] <;> rfl) | (simp [*, errW_none, errW_some] <;> rfl), by repeat (first | (with_reducible first | exact HB.out | apply below_alloc | apply pw_below_drewN | apply below_drew1) | exact HB.out)⟩
      ·rw [if_neg c22] at H
       have c22b0 : ((strOfNums t115).toList == (strOfNums l0).toList) = false := beq_eq_false_iff_ne.mpr c22
       have c22b1 : ((strOfNums t115).toList != (strOfNums l0).toList) = true := bne_iff_ne.mpr c22
       obtain rfl := Option.some.inj H
       try go_wp2_with (first | ((with_reducible refine gate_callee (f := 43) rfl ?_); refine goesL_ (some 57) rfl rfl Tryd.func43 (by kernel_rfl) rfl #[.int .i64 a1, .int .i64 a4, .slice A2 l2.length c2, .slice A5 l5.length c5, .bool true] rfl eqA ?_; (with_reducible refine (imprimaturref20_Told.calls kj6 a1 a4 (fun k_ => k_ < w.heap.size) _ _ l2 (fun k_ => k_ < w.heap.size) _ _ l5 true t102 t105 t108 true _ ?side1 ?side2 A17.out).mono ?_); (case side1 => exact Kd.V_mk HC2.out (Kd.F_below (Kd.C_F (Kd.heap_int .u8) HR2.out) bel)); (case side2 => exact Kd.V_mk HC5.out (Kd.F_below (Kd.C_F (Kd.heap_slice 5 (Kd.heap_int .u8)) HR5.out) bel)); rintro e w58 ⟨v103, v106, v109, rfl, ho0, ho1, ho2, hb⟩; refine ⟨_, rfl, ?_⟩; have n0_ := Aside0.mk (Kd.V_lower (Kd.V_mono (ok' := fun k_ => some k_ ≠ (v109 : Value).ownBlock) ho0 (fun k_ hk_ => hk_.2)) (below_size bel)); have n1_ := Aside0.mk (Kd.V_lower (Kd.V_mono (ok' := fun k_ => some k_ ≠ (v109 : Value).ownBlock) ho1 (fun k_ hk_ => hk_.2)) (below_size bel)); have n2_ := Aside0.mk (Kd.S_lower (Kd.S_mono (ok' := fun k_ => True) ho2 (fun _ hk_ => trivial)) (below_size bel)); have n3_ := Aside0.mk (below_step bel hb); clear HB; have HO104 := n0_; have HO107 := n1_; have HO110 := n2_; have HB := n3_; clear n0_ n1_ n2_ n3_; (try clear hb); (try clear hb2); (try clear hk); (try clear hi); (try clear ho0); (try clear ho1); (try clear ho2)))
       have n0_ := Aside0.mk (Kd.V_drew HO104.out)
       have n1_ := Aside0.mk (Kd.V_drew HO107.out)
       have n2_ := Aside0.mk (Kd.S_drew HO110.out)
       have n3_ := Aside0.mk (below_drew1 HB.out)
       clear HO104
       clear HO107
       clear HO110
       clear HB
       have HO104 := n0_
       have HO107 := n1_
       have HO110 := n2_
       have HB := n3_
       clear n0_ n1_ n2_ n3_
       have hcv60 := V_string_ (P := Tryd.prog) Tryd.underlying23 Tryd.underlying5 Tryd.underlying9 HO104.out
       have hcv61 := Kd.C_string (P := Tryd.prog) (A := A2) (c := c2) Tryd.underlying23 Tryd.underlying5 Tryd.underlying9 (Kd.C_below HR2.out HB.out)
       refine start_ (n := 29) (S := fun w' => (convert 23 9 (.slice A2 l2.length c2)).run Tryd.prog w' = .ok (.string (strOfNums l2)) w' ∧ (convert 23 9 (.slice A0 l0.length c0)).run Tryd.prog w' = .ok (.string (strOfNums l0)) w' ∧ (convert 23 9 (.slice A3 l3.length c3)).run Tryd.prog w' = .ok (.string (strOfNums l3)) w' ∧ (convert 23 9 v103).run Tryd.prog w' = .ok (.string (strOfNums t102)) w') (ds := []) #[false, false, false, false, false, false, false, false, false, false, false, false, false, false, false, false, false, false, false, false, false, false, false, false, false, false, false, false, false] (by kernel_rfl) rfl rfl (⟨Kd.C_string (P := Tryd.prog) (A := A2) (c := c2) Tryd.underlying23 Tryd.underlying5 Tryd.underlying9 (Kd.C_below HR2.out HB.out), Kd.C_string (P := Tryd.prog) (A := A0) (c := c0) Tryd.underlying23 Tryd.underlying5 Tryd.underlying9 (Kd.C_below HR0.out HB.out), Kd.C_string (P := Tryd.prog) (A := A3) (c := c3) Tryd.underlying23 Tryd.underlying5 Tryd.underlying9 (Kd.C_below HR3.out HB.out), V_string_ (P := Tryd.prog) Tryd.underlying23 Tryd.underlying5 Tryd.underlying9 HO104.out⟩) (fun hHeld => ?_); refine with_tabW imprimaturref20_Begins.tab4 imprimaturref20_Begins.bits4 (fun HT_ HW_ => ?_)
       generalize w58.drew = w59 at HO104 HO107 HO110 HB hHeld ⊢
       refine pureA (i := 0) (N := some 62) (fl 29 1) (any_of HT_.out (by kernel_rfl)) ?_
       refine pureA (i := 1) (N := some 63) (fl 29 3) (any_of HT_.out (by kernel_rfl)) ?_
       refine pureA (i := 2) (N := some 64) (fl 29 7) (any_of HT_.out (by kernel_rfl)) ?_
       refine pureA (i := 3) (N := some 65) (fl 29 15) (any_of HT_.out (by kernel_rfl)) ?_
       refine takeA (i := 4) (N := some 66) (fl 29 31) (take_ofW HT_.out HW_.out (by kernel_rfl)) hHeld ?_
       refine pureA (i := 5) (N := some 67) (fl 29 63) (any_of HT_.out (by kernel_rfl)) ?_
       refine takeA (i := 6) (N := some 68) (fl 29 127) (take_ofW HT_.out HW_.out (by kernel_rfl)) hHeld ?_
       refine pureA (i := 7) (N := some 69) (fl 29 255) (any_of HT_.out (by kernel_rfl)) ?_
       refine pureA (i := 8) (N := some 70) (fl 29 511) (any_of HT_.out (by kernel_rfl)) ?_
       refine pureA (i := 9) (N := some 71) (fl 29 1023) (any_of HT_.out (by kernel_rfl)) ?_
       refine pureA (i := 10) (N := some 72) (fl 29 2047) (any_of HT_.out (by kernel_rfl)) ?_
       refine pureA (i := 11) (N := some 73) (fl 29 4095) (any_of HT_.out (by kernel_rfl)) ?_
       refine pureA (i := 15) (N := some 77) (fl 29 36863) (any_of HT_.out (by kernel_rfl)) ?_
       refine takeA (i := 16) (N := some 78) (fl 29 102399) (take_ofW HT_.out HW_.out (by kernel_rfl)) hHeld ?_
       refine one_ (i := 12) (N := some 74) (fl 29 106495) rfl rfl (one_of HT_.out (by kernel_rfl)) (by decide) (fun K hK => ?_)
       refine goes_ Tryd.func37 (by kernel_rfl) rfl #[.int .i64 a1, .slice A2 l2.length c2] (by rfl) rfl rfl eqA ?_
       with_reducible refine (imprimaturref20_HeadText.calls kj6 a1 _ _ l2 t112 _ ?side1 ?side2 A20.out).mono ?_
       (case side1 => exact cL (Kd.C_below HR2.out HB.out))
       (case side2 => exact HC2.out)
       rintro e w62 ⟨v113, rfl, ho0, hb⟩
       refine ⟨_, rfl, ?_⟩
       have n0_ := Aside0.mk (Kd.V_elder' (vL HO104.out) (Kd.R_base ho0) hb)
       have n1_ := Aside0.mk (Kd.V_elder' (vL HO107.out) (Kd.R_base ho0) hb)
       have n2_ := Aside0.mk (Kd.S_elder' (sL HO110.out) (Kd.R_base ho0) hb)
       have n3_ := Aside0.mk (Kd.R_lower ho0 (below_size bel))
       have n4_ := Aside0.mk (below_step bel hb)
       clear HO104
       clear HO107
       clear HO110
       clear HB
       have HO104 := n0_
       have HO107 := n1_
       have HO110 := n2_
       have HO114 := n3_
       have HB := n4_
       clear n0_ n1_ n2_ n3_ n4_
       (try clear hb)
       (try clear hb2)
       (try clear hk)
       (try clear hi)
       (try clear ho0)
       obtain ⟨Ao63, co63, eo63⟩ := Kd.R_slice HO114.out
       (first | subst eo63 | (injection eo63 with f1_ f2_ f3_; have f4_ := f1_.symm; have f5_ := f3_.symm; clear f1_ f2_ f3_; subst f4_; subst f5_))
       refine hK.out _ _ (by first | exact hHeld | exact ⟨Kd.C_string (P := Tryd.prog) (A := A2) (c := c2) Tryd.underlying23 Tryd.underlying5 Tryd.underlying9 (Kd.C_below HR2.out HB.out), Kd.C_string (P := Tryd.prog) (A := A0) (c := c0) Tryd.underlying23 Tryd.underlying5 Tryd.underlying9 (Kd.C_below HR0.out HB.out), Kd.C_string (P := Tryd.prog) (A := A3) (c := c3) Tryd.underlying23 Tryd.underlying5 Tryd.underlying9 (Kd.C_below HR3.out HB.out), V_string_ (P := Tryd.prog) Tryd.underlying23 Tryd.underlying5 Tryd.underlying9 HO104.out⟩) (fun hHeld => ?_)
       clear hK K
       refine normA (some 74) ?_
       refine one_ (i := 13) (N := some 75) (fl 29 114687) rfl rfl (one_of HT_.out (by kernel_rfl)) (by decide) (fun K hK => ?_)
       refine goes_ Tryd.func50 (by kernel_rfl) rfl #[.slice Ao63 t112.length co63] (by rfl) rfl rfl eqA ?_
       with_reducible refine (imprimaturref02_Hash256.calls _ _ t112 t115 _ ?side1 ?side2 A21.out).mono ?_
       (case side1 => exact cL (Kd.R_reads' HO114.out).2.2)
       (case side2 => exact (Kd.R_reads' HO114.out).2.1)
       rintro e w64 ⟨v116, rfl, ho0, hb⟩
       refine ⟨_, rfl, ?_⟩
       have n0_ := Aside0.mk (Kd.V_elder' (vL HO104.out) (Kd.R_base ho0) hb)
       have n1_ := Aside0.mk (Kd.V_elder' (vL HO107.out) (Kd.R_base ho0) hb)
       have n2_ := Aside0.mk (Kd.S_elder' (sL HO110.out) (Kd.R_base ho0) hb)
       have n3_ := Aside0.mk (Kd.R_elder' (rL HO114.out) (Kd.R_base ho0) hb)
       have n4_ := Aside0.mk (Kd.R_lower (Kd.R_new' ho0 (Kd.R_lt (rL HO114.out))) (below_size bel))
       have n5_ := Aside0.mk (below_step bel hb)
       clear HO104
       clear HO107
       clear HO110
       clear HO114
       clear HB
       have HO104 := n0_
       have HO107 := n1_
       have HO110 := n2_
       have HO114 := n3_
       have HO117 := n4_
       have HB := n5_
       clear n0_ n1_ n2_ n3_ n4_ n5_
       (try clear hb)
       (try clear hb2)
       (try clear hk)
       (try clear hi)
       (try clear ho0)
       have hcv66 := Kd.C_string (P := Tryd.prog) (A := A0) (c := c0) Tryd.underlying23 Tryd.underlying5 Tryd.underlying9 (Kd.C_below HR0.out HB.out)
       refine hK.out _ _ (by first | exact hHeld | exact ⟨Kd.C_string (P := Tryd.prog) (A := A2) (c := c2) Tryd.underlying23 Tryd.underlying5 Tryd.underlying9 (Kd.C_below HR2.out HB.out), Kd.C_string (P := Tryd.prog) (A := A0) (c := c0) Tryd.underlying23 Tryd.underlying5 Tryd.underlying9 (Kd.C_below HR0.out HB.out), Kd.C_string (P := Tryd.prog) (A := A3) (c := c3) Tryd.underlying23 Tryd.underlying5 Tryd.underlying9 (Kd.C_below HR3.out HB.out), V_string_ (P := Tryd.prog) Tryd.underlying23 Tryd.underlying5 Tryd.underlying9 HO104.out⟩) (fun hHeld => ?_)
       clear hK K
       refine normA (some 75) ?_
       refine one_ (i := 14) (N := some 76) (fl 29 131071) rfl rfl (one_of HT_.out (by kernel_rfl)) (by decide) (fun K hK => ?_)
       have hcv65 := own_string (P := Tryd.prog) Tryd.underlying23 Tryd.underlying5 Tryd.underlying9 (Kd.own_of_R HO117.out)
       refine value_ (w1 := ?_) (v := ?_) (by rfl) rfl ?_ ?_
       rotate_left 2
       ·go_simp
        constructor
        ·rfl
        ·rfl
       clear hcv65
       refine hK.out _ _ (by first | exact hHeld | exact ⟨Kd.C_string (P := Tryd.prog) (A := A2) (c := c2) Tryd.underlying23 Tryd.underlying5 Tryd.underlying9 (Kd.C_below HR2.out HB.out), Kd.C_string (P := Tryd.prog) (A := A0) (c := c0) Tryd.underlying23 Tryd.underlying5 Tryd.underlying9 (Kd.C_below HR0.out HB.out), Kd.C_string (P := Tryd.prog) (A := A3) (c := c3) Tryd.underlying23 Tryd.underlying5 Tryd.underlying9 (Kd.C_below HR3.out HB.out), V_string_ (P := Tryd.prog) Tryd.underlying23 Tryd.underlying5 Tryd.underlying9 HO104.out⟩) (fun hHeld => ?_)
       clear hK K
       refine normA (some 76) ?_
       refine pureA (i := 17) (N := some 79) (fl 29 262143) (any_of HT_.out (by kernel_rfl)) ?_
       refine pureA (i := 18) (N := some 80) (fl 29 524287) (any_of HT_.out (by kernel_rfl)) ?_
       refine pureA (i := 19) (N := some 81) (fl 29 1048575) (any_of HT_.out (by kernel_rfl)) ?_
       refine pure_ (i := 20) (N := some 82) (v := undef) (a' := ?_) #[true, true, true, true, true, true, true, true, true, true, true, true, true, true, true, true, true, true, true, true, true, false, false, false, false, false, false, false, false] rfl rfl (any_of HT_.out (by kernel_rfl)) (fun _ _ _ h => h) (Or.inr ⟨by rfl, rfl⟩) ?_ ?_
       rotate_left
       ·simp only [Act.put, List.setIfInBounds_toArray, List.set_cons_zero, List.set_cons_succ, i64_w, i32_w]
        rfl
       refine pure_ (i := 21) (N := some 83) (v := undef) (a' := ?_) #[true, true, true, true, true, true, true, true, true, true, true, true, true, true, true, true, true, true, true, true, true, true, false, false, false, false, false, false, false] rfl rfl (any_of HT_.out (by kernel_rfl)) (fun _ _ _ h => h) (Or.inr ⟨by rfl, rfl⟩) ?_ ?_
       rotate_left
       ·simp only [Act.put, List.setIfInBounds_toArray, List.set_cons_zero, List.set_cons_succ, i64_w, i32_w]
        rfl
       refine pure_ (i := 22) (N := some 84) (v := undef) (a' := ?_) #[true, true, true, true, true, true, true, true, true, true, true, true, true, true, true, true, true, true, true, true, true, true, true, false, false, false, false, false, false] rfl rfl (any_of HT_.out (by kernel_rfl)) (fun _ _ _ h => h) (Or.inr ⟨by rfl, rfl⟩) ?_ ?_
       rotate_left
       ·simp only [Act.put, List.setIfInBounds_toArray, List.set_cons_zero, List.set_cons_succ, i64_w, i32_w]
        rfl
       refine pure_ (i := 23) (N := some 85) (v := undef) (a' := ?_) #[true, true, true, true, true, true, true, true, true, true, true, true, true, true, true, true, true, true, true, true, true, true, true, true, false, false, false, false, false] rfl rfl (any_of HT_.out (by kernel_rfl)) (fun _ _ _ h => h) (Or.inr ⟨by rfl, rfl⟩) ?_ ?_
       rotate_left
       ·simp only [Act.put, List.setIfInBounds_toArray, List.set_cons_zero, List.set_cons_succ, i64_w, i32_w]
        rfl
       refine pure_ (i := 24) (N := some 86) (v := undef) (a' := ?_) #[true, true, true, true, true, true, true, true, true, true, true, true, true, true, true, true, true, true, true, true, true, true, true, true, true, false, false, false, false] rfl rfl (any_of HT_.out (by kernel_rfl)) (fun _ _ _ h => h) (Or.inr ⟨by rfl, rfl⟩) ?_ ?_
       rotate_left
       ·simp only [Act.put, List.setIfInBounds_toArray, List.set_cons_zero, List.set_cons_succ, i64_w, i32_w]
        rfl
       refine pure_ (i := 25) (N := some 87) (v := undef) (a' := ?_) #[true, true, true, true, true, true, true, true, true, true, true, true, true, true, true, true, true, true, true, true, true, true, true, true, true, true, false, false, false] rfl rfl (any_of HT_.out (by kernel_rfl)) (fun _ _ _ h => h) (Or.inr ⟨by rfl, rfl⟩) ?_ ?_
       rotate_left
       ·simp only [Act.put, List.setIfInBounds_toArray, List.set_cons_zero, List.set_cons_succ, i64_w, i32_w]
        rfl
       refine pure_ (i := 26) (N := some 88) (v := undef) (a' := ?_) #[true, true, true, true, true, true, true, true, true, true, true, true, true, true, true, true, true, true, true, true, true, true, true, true, true, true, true, false, false] rfl rfl (any_of HT_.out (by kernel_rfl)) (fun _ _ _ h => h) (Or.inr ⟨by rfl, rfl⟩) ?_ ?_
       rotate_left
       ·simp only [Act.put, List.setIfInBounds_toArray, List.set_cons_zero, List.set_cons_succ, i64_w, i32_w]
        rfl
       refine pure_ (i := 27) (N := some 89) (v := undef) (a' := ?_) #[true, true, true, true, true, true, true, true, true, true, true, true, true, true, true, true, true, true, true, true, true, true, true, true, true, true, true, true, false] rfl rfl (any_of HT_.out (by kernel_rfl)) (fun _ _ _ h => h) (Or.inr ⟨by rfl, rfl⟩) ?_ ?_
       rotate_left
       ·simp only [Act.put, List.setIfInBounds_toArray, List.set_cons_zero, List.set_cons_succ, i64_w, i32_w]
        rfl
       refine pureA (i := 28) (N := some 90) (fl 29 536870911) (any_of HT_.out (by kernel_rfl)) ?_
       refine done_ (done_of HT_.out (by kernel_rfl)) ?_
       try go_wp2
       go_ret
       exact ⟨by first | rfl | (simp [errW_none, errW_some] <;> rfl) | (simp [*, errW_none, errW_some] <;> rfl), by repeat (first | (with_reducible first | exact HB.out | apply below_alloc | apply pw_below_drewN | apply below_drew1) | exact HB.out)⟩
     ·rw [if_neg c19] at H
      have c19b0 : ((strOfNums t102).toList == (strOfNums l2).toList) = false := beq_eq_false_iff_ne.mpr c19
      have c19b1 : ((strOfNums t102).toList != (strOfNums l2).toList) = true := bne_iff_ne.mpr c19
      obtain rfl := Option.some.inj H
      try go_wp2_with (first | ((with_reducible refine gate_callee (f := 43) rfl ?_); refine goesL_ (some 57) rfl rfl Tryd.func43 (by kernel_rfl) rfl #[.int .i64 a1, .int .i64 a4, .slice A2 l2.length c2, .slice A5 l5.length c5, .bool true] rfl eqA ?_; (with_reducible refine (imprimaturref20_Told.calls kj6 a1 a4 (fun k_ => k_ < w.heap.size) _ _ l2 (fun k_ => k_ < w.heap.size) _ _ l5 true t102 t105 t108 true _ ?side1 ?side2 A17.out).mono ?_); (case side1 => exact Kd.V_mk HC2.out (Kd.F_below (Kd.C_F (Kd.heap_int .u8) HR2.out) bel)); (case side2 => exact Kd.V_mk HC5.out (Kd.F_below (Kd.C_F (Kd.heap_slice 5 (Kd.heap_int .u8)) HR5.out) bel)); rintro e w68 ⟨v103, v106, v109, rfl, ho0, ho1, ho2, hb⟩; refine ⟨_, rfl, ?_⟩; have n0_ := Aside0.mk (Kd.V_lower (Kd.V_mono (ok' := fun k_ => some k_ ≠ (v109 : Value).ownBlock) ho0 (fun k_ hk_ => hk_.2)) (below_size bel)); have n1_ := Aside0.mk (Kd.V_lower (Kd.V_mono (ok' := fun k_ => some k_ ≠ (v109 : Value).ownBlock) ho1 (fun k_ hk_ => hk_.2)) (below_size bel)); have n2_ := Aside0.mk (Kd.S_lower (Kd.S_mono (ok' := fun k_ => True) ho2 (fun _ hk_ => trivial)) (below_size bel)); have n3_ := Aside0.mk (below_step bel hb); clear HB; have HO104 := n0_; have HO107 := n1_; have HO110 := n2_; have HB := n3_; clear n0_ n1_ n2_ n3_; (try clear hb); (try clear hb2); (try clear hk); (try clear hi); (try clear ho0); (try clear ho1); (try clear ho2)))
      have n0_ := Aside0.mk (Kd.V_drew HO104.out)
      have n1_ := Aside0.mk (Kd.V_drew HO107.out)
      have n2_ := Aside0.mk (Kd.S_drew HO110.out)
      have n3_ := Aside0.mk (below_drew1 HB.out)
      clear HO104
      clear HO107
      clear HO110
      clear HB
      have HO104 := n0_
      have HO107 := n1_
      have HO110 := n2_
      have HB := n3_
      clear n0_ n1_ n2_ n3_
      have hcv70 := V_string_ (P := Tryd.prog) Tryd.underlying23 Tryd.underlying5 Tryd.underlying9 HO104.out
      have hcv71 := Kd.C_string (P := Tryd.prog) (A := A2) (c := c2) Tryd.underlying23 Tryd.underlying5 Tryd.underlying9 (Kd.C_below HR2.out HB.out)
      refine start_ (n := 29) (S := fun w' => (convert 23 9 (.slice A2 l2.length c2)).run Tryd.prog w' = .ok (.string (strOfNums l2)) w' ∧ (convert 23 9 (.slice A0 l0.length c0)).run Tryd.prog w' = .ok (.string (strOfNums l0)) w' ∧ (convert 23 9 (.slice A3 l3.length c3)).run Tryd.prog w' = .ok (.string (strOfNums l3)) w' ∧ (convert 23 9 v103).run Tryd.prog w' = .ok (.string (strOfNums t102)) w') (ds := []) #[false, false, false, false, false, false, false, false, false, false, false, false, false, false, false, false, false, false, false, false, false, false, false, false, false, false, false, false, false] (by kernel_rfl) rfl rfl (⟨Kd.C_string (P := Tryd.prog) (A := A2) (c := c2) Tryd.underlying23 Tryd.underlying5 Tryd.underlying9 (Kd.C_below HR2.out HB.out), Kd.C_string (P := Tryd.prog) (A := A0) (c := c0) Tryd.underlying23 Tryd.underlying5 Tryd.underlying9 (Kd.C_below HR0.out HB.out), Kd.C_string (P := Tryd.prog) (A := A3) (c := c3) Tryd.underlying23 Tryd.underlying5 Tryd.underlying9 (Kd.C_below HR3.out HB.out), V_string_ (P := Tryd.prog) Tryd.underlying23 Tryd.underlying5 Tryd.underlying9 HO104.out⟩) (fun hHeld => ?_); refine with_tabW imprimaturref20_Begins.tab4 imprimaturref20_Begins.bits4 (fun HT_ HW_ => ?_)
      generalize w68.drew = w69 at HO104 HO107 HO110 HB hHeld ⊢
      refine pureA (i := 0) (N := some 62) (fl 29 1) (any_of HT_.out (by kernel_rfl)) ?_
      refine pureA (i := 1) (N := some 63) (fl 29 3) (any_of HT_.out (by kernel_rfl)) ?_
      refine pureA (i := 2) (N := some 64) (fl 29 7) (any_of HT_.out (by kernel_rfl)) ?_
      refine pureA (i := 3) (N := some 65) (fl 29 15) (any_of HT_.out (by kernel_rfl)) ?_
      refine takeA (i := 4) (N := some 66) (fl 29 31) (take_ofW HT_.out HW_.out (by kernel_rfl)) hHeld ?_
      refine pureA (i := 5) (N := some 67) (fl 29 63) (any_of HT_.out (by kernel_rfl)) ?_
      refine takeA (i := 6) (N := some 68) (fl 29 127) (take_ofW HT_.out HW_.out (by kernel_rfl)) hHeld ?_
      refine pureA (i := 7) (N := some 69) (fl 29 255) (any_of HT_.out (by kernel_rfl)) ?_
      refine pureA (i := 8) (N := some 70) (fl 29 511) (any_of HT_.out (by kernel_rfl)) ?_
      refine pureA (i := 9) (N := some 71) (fl 29 1023) (any_of HT_.out (by kernel_rfl)) ?_
      refine pure_ (i := 10) (N := some 72) (v := undef) (a' := ?_) #[true, true, true, true, true, true, true, true, true, true, true, false, false, false, false, false, false, false, false, false, false, false, false, false, false, false, false, false, false] rfl rfl (any_of HT_.out (by kernel_rfl)) (fun _ _ _ h => h) (Or.inr ⟨by rfl, rfl⟩) ?_ ?_
      rotate_left
      ·simp only [Act.put, List.setIfInBounds_toArray, List.set_cons_zero, List.set_cons_succ, i64_w, i32_w]
       rfl
      refine pure_ (i := 11) (N := some 73) (v := undef) (a' := ?_) #[true, true, true, true, true, true, true, true, true, true, true, true, false, false, false, false, false, false, false, false, false, false, false, false, false, false, false, false, false] rfl rfl (any_of HT_.out (by kernel_rfl)) (fun _ _ _ h => h) (Or.inr ⟨by rfl, rfl⟩) ?_ ?_
      rotate_left
      ·simp only [Act.put, List.setIfInBounds_toArray, List.set_cons_zero, List.set_cons_succ, i64_w, i32_w]
       rfl
      refine pure_ (i := 12) (N := some 74) (v := undef) (a' := ?_) #[true, true, true, true, true, true, true, true, true, true, true, true, true, false, false, false, false, false, false, false, false, false, false, false, false, false, false, false, false] rfl rfl (any_of HT_.out (by kernel_rfl)) (fun _ _ _ h => h) (Or.inr ⟨by rfl, rfl⟩) ?_ ?_
      rotate_left
      ·simp only [Act.put, List.setIfInBounds_toArray, List.set_cons_zero, List.set_cons_succ, i64_w, i32_w]
       rfl
      refine pure_ (i := 13) (N := some 75) (v := undef) (a' := ?_) #[true, true, true, true, true, true, true, true, true, true, true, true, true, true, false, false, false, false, false, false, false, false, false, false, false, false, false, false, false] rfl rfl (any_of HT_.out (by kernel_rfl)) (fun _ _ _ h => h) (Or.inr ⟨by rfl, rfl⟩) ?_ ?_
      rotate_left
      ·simp only [Act.put, List.setIfInBounds_toArray, List.set_cons_zero, List.set_cons_succ, i64_w, i32_w]
       rfl
      refine pure_ (i := 14) (N := some 76) (v := undef) (a' := ?_) #[true, true, true, true, true, true, true, true, true, true, true, true, true, true, true, false, false, false, false, false, false, false, false, false, false, false, false, false, false] rfl rfl (any_of HT_.out (by kernel_rfl)) (fun _ _ _ h => h) (Or.inr ⟨by rfl, rfl⟩) ?_ ?_
      rotate_left
      ·simp only [Act.put, List.setIfInBounds_toArray, List.set_cons_zero, List.set_cons_succ, i64_w, i32_w]
       rfl
      refine pure_ (i := 15) (N := some 77) (v := undef) (a' := ?_) #[true, true, true, true, true, true, true, true, true, true, true, true, true, true, true, true, false, false, false, false, false, false, false, false, false, false, false, false, false] rfl rfl (any_of HT_.out (by kernel_rfl)) (fun _ _ _ h => h) (Or.inr ⟨by rfl, rfl⟩) ?_ ?_
      rotate_left
      ·simp only [Act.put, List.setIfInBounds_toArray, List.set_cons_zero, List.set_cons_succ, i64_w, i32_w]
       rfl
      refine pure_ (i := 16) (N := some 78) (v := undef) (a' := ?_) #[true, true, true, true, true, true, true, true, true, true, true, true, true, true, true, true, true, false, false, false, false, false, false, false, false, false, false, false, false] rfl rfl (any_of HT_.out (by kernel_rfl)) (fun _ _ _ h => h) (Or.inr ⟨by rfl, rfl⟩) ?_ ?_
      rotate_left
      ·simp only [Act.put, List.setIfInBounds_toArray, List.set_cons_zero, List.set_cons_succ, i64_w, i32_w]
       rfl
      refine pure_ (i := 17) (N := some 79) (v := undef) (a' := ?_) #[true, true, true, true, true, true, true, true, true, true, true, true, true, true, true, true, true, true, false, false, false, false, false, false, false, false, false, false, false] rfl rfl (any_of HT_.out (by kernel_rfl)) (fun _ _ _ h => h) (Or.inr ⟨by rfl, rfl⟩) ?_ ?_
      rotate_left
      ·simp only [Act.put, List.setIfInBounds_toArray, List.set_cons_zero, List.set_cons_succ, i64_w, i32_w]
       rfl
      refine pureA (i := 18) (N := some 80) (fl 29 524287) (any_of HT_.out (by kernel_rfl)) ?_
      refine pureA (i := 19) (N := some 81) (fl 29 1048575) (any_of HT_.out (by kernel_rfl)) ?_
      refine pure_ (i := 20) (N := some 82) (v := undef) (a' := ?_) #[true, true, true, true, true, true, true, true, true, true, true, true, true, true, true, true, true, true, true, true, true, false, false, false, false, false, false, false, false] rfl rfl (any_of HT_.out (by kernel_rfl)) (fun _ _ _ h => h) (Or.inr ⟨by rfl, rfl⟩) ?_ ?_
      rotate_left
      ·simp only [Act.put, List.setIfInBounds_toArray, List.set_cons_zero, List.set_cons_succ, i64_w, i32_w]
       rfl
      refine pure_ (i := 21) (N := some 83) (v := undef) (a' := ?_) #[true, true, true, true, true, true, true, true, true, true, true, true, true, true, true, true, true, true, true, true, true, true, false, false, false, false, false, false, false] rfl rfl (any_of HT_.out (by kernel_rfl)) (fun _ _ _ h => h) (Or.inr ⟨by rfl, rfl⟩) ?_ ?_
      rotate_left
      ·simp only [Act.put, List.setIfInBounds_toArray, List.set_cons_zero, List.set_cons_succ, i64_w, i32_w]
       rfl
      refine pure_ (i := 22) (N := some 84) (v := undef) (a' := ?_) #[true, true, true, true, true, true, true, true, true, true, true, true, true, true, true, true, true, true, true, true, true, true, true, false, false, false, false, false, false] rfl rfl (any_of HT_.out (by kernel_rfl)) (fun _ _ _ h => h) (Or.inr ⟨by rfl, rfl⟩) ?_ ?_
      rotate_left
      ·simp only [Act.put, List.setIfInBounds_toArray, List.set_cons_zero, List.set_cons_succ, i64_w, i32_w]
       rfl
      refine pure_ (i := 23) (N := some 85) (v := undef) (a' := ?_) #[true, true, true, true, true, true, true, true, true, true, true, true, true, true, true, true, true, true, true, true, true, true, true, true, false, false, false, false, false] rfl rfl (any_of HT_.out (by kernel_rfl)) (fun _ _ _ h => h) (Or.inr ⟨by rfl, rfl⟩) ?_ ?_
      rotate_left
      ·simp only [Act.put, List.setIfInBounds_toArray, List.set_cons_zero, List.set_cons_succ, i64_w, i32_w]
       rfl
      refine pure_ (i := 24) (N := some 86) (v := undef) (a' := ?_) #[true, true, true, true, true, true, true, true, true, true, true, true, true, true, true, true, true, true, true, true, true, true, true, true, true, false, false, false, false] rfl rfl (any_of HT_.out (by kernel_rfl)) (fun _ _ _ h => h) (Or.inr ⟨by rfl, rfl⟩) ?_ ?_
      rotate_left
      ·simp only [Act.put, List.setIfInBounds_toArray, List.set_cons_zero, List.set_cons_succ, i64_w, i32_w]
       rfl
      refine pure_ (i := 25) (N := some 87) (v := undef) (a' := ?_) #[true, true, true, true, true, true, true, true, true, true, true, true, true, true, true, true, true, true, true, true, true, true, true, true, true, true, false, false, false] rfl rfl (any_of HT_.out (by kernel_rfl)) (fun _ _ _ h => h) (Or.inr ⟨by rfl, rfl⟩) ?_ ?_
      rotate_left
      ·simp only [Act.put, List.setIfInBounds_toArray, List.set_cons_zero, List.set_cons_succ, i64_w, i32_w]
       rfl
      refine pure_ (i := 26) (N := some 88) (v := undef) (a' := ?_) #[true, true, true, true, true, true, true, true, true, true, true, true, true, true, true, true, true, true, true, true, true, true, true, true, true, true, true, false, false] rfl rfl (any_of HT_.out (by kernel_rfl)) (fun _ _ _ h => h) (Or.inr ⟨by rfl, rfl⟩) ?_ ?_
      rotate_left
      ·simp only [Act.put, List.setIfInBounds_toArray, List.set_cons_zero, List.set_cons_succ, i64_w, i32_w]
       rfl
      refine pure_ (i := 27) (N := some 89) (v := undef) (a' := ?_) #[true, true, true, true, true, true, true, true, true, true, true, true, true, true, true, true, true, true, true, true, true, true, true, true, true, true, true, true, false] rfl rfl (any_of HT_.out (by kernel_rfl)) (fun _ _ _ h => h) (Or.inr ⟨by rfl, rfl⟩) ?_ ?_
      rotate_left
      ·simp only [Act.put, List.setIfInBounds_toArray, List.set_cons_zero, List.set_cons_succ, i64_w, i32_w]
       rfl
      refine pureA (i := 28) (N := some 90) (fl 29 536870911) (any_of HT_.out (by kernel_rfl)) ?_
      refine done_ (done_of HT_.out (by kernel_rfl)) ?_
      try go_wp2
      go_ret
      exact ⟨by first | rfl | (simp [errW_none, errW_some] <;> rfl) | (simp [*, errW_none, errW_some] <;> rfl), by repeat (first | (with_reducible first | exact HB.out | apply below_alloc | apply pw_below_drewN | apply below_drew1) | exact HB.out)⟩
    ·replace c18 := Bool.eq_false_iff.mpr c18
     subst c18
     have H1 : (some 50) = some r := by rw [if_neg (show ¬ (false = true) by decide)] at H; exact H
     clear H
     have H := H1
     clear H1
     obtain rfl := Option.some.inj H
     try go_wp2_with (first | ((with_reducible refine gate_callee (f := 43) rfl ?_); refine goesL_ (some 57) rfl rfl Tryd.func43 (by kernel_rfl) rfl #[.int .i64 a1, .int .i64 a4, .slice A2 l2.length c2, .slice A5 l5.length c5, .bool true] rfl eqA ?_; (with_reducible refine (imprimaturref20_Told.calls kj6 a1 a4 (fun k_ => k_ < w.heap.size) _ _ l2 (fun k_ => k_ < w.heap.size) _ _ l5 true t102 t105 t108 false _ ?side1 ?side2 A17.out).mono ?_); (case side1 => exact Kd.V_mk HC2.out (Kd.F_below (Kd.C_F (Kd.heap_int .u8) HR2.out) bel)); (case side2 => exact Kd.V_mk HC5.out (Kd.F_below (Kd.C_F (Kd.heap_slice 5 (Kd.heap_int .u8)) HR5.out) bel)); rintro e w73 ⟨v103, v106, v109, rfl, ho0, ho1, ho2, hb⟩; refine ⟨_, rfl, ?_⟩; have n0_ := Aside0.mk (Kd.V_lower (Kd.V_mono (ok' := fun k_ => some k_ ≠ (v109 : Value).ownBlock) ho0 (fun k_ hk_ => hk_.2)) (below_size bel)); have n1_ := Aside0.mk (Kd.V_lower (Kd.V_mono (ok' := fun k_ => some k_ ≠ (v109 : Value).ownBlock) ho1 (fun k_ hk_ => hk_.2)) (below_size bel)); have n2_ := Aside0.mk (Kd.S_lower (Kd.S_mono (ok' := fun k_ => True) ho2 (fun _ hk_ => trivial)) (below_size bel)); have n3_ := Aside0.mk (below_step bel hb); clear HB; have HO104 := n0_; have HO107 := n1_; have HO110 := n2_; have HB := n3_; clear n0_ n1_ n2_ n3_; (try clear hb); (try clear hb2); (try clear hk); (try clear hi); (try clear ho0); (try clear ho1); (try clear ho2)))
     have n0_ := Aside0.mk (Kd.V_drew HO104.out)
     have n1_ := Aside0.mk (Kd.V_drew HO107.out)
     have n2_ := Aside0.mk (Kd.S_drew HO110.out)
     have n3_ := Aside0.mk (below_drew1 HB.out)
     clear HO104
     clear HO107
     clear HO110
     clear HB
     have HO104 := n0_
     have HO107 := n1_
     have HO110 := n2_
     have HB := n3_
     clear n0_ n1_ n2_ n3_
     refine start_ (n := 29) (S := fun w' => (convert 23 9 (.slice A2 l2.length c2)).run Tryd.prog w' = .ok (.string (strOfNums l2)) w' ∧ (convert 23 9 (.slice A0 l0.length c0)).run Tryd.prog w' = .ok (.string (strOfNums l0)) w' ∧ (convert 23 9 (.slice A3 l3.length c3)).run Tryd.prog w' = .ok (.string (strOfNums l3)) w' ∧ (convert 23 9 v103).run Tryd.prog w' = .ok (.string (strOfNums t102)) w') (ds := []) #[false, false, false, false, false, false, false, false, false, false, false, false, false, false, false, false, false, false, false, false, false, false, false, false, false, false, false, false, false] (by kernel_rfl) rfl rfl (⟨Kd.C_string (P := Tryd.prog) (A := A2) (c := c2) Tryd.underlying23 Tryd.underlying5 Tryd.underlying9 (Kd.C_below HR2.out HB.out), Kd.C_string (P := Tryd.prog) (A := A0) (c := c0) Tryd.underlying23 Tryd.underlying5 Tryd.underlying9 (Kd.C_below HR0.out HB.out), Kd.C_string (P := Tryd.prog) (A := A3) (c := c3) Tryd.underlying23 Tryd.underlying5 Tryd.underlying9 (Kd.C_below HR3.out HB.out), V_string_ (P := Tryd.prog) Tryd.underlying23 Tryd.underlying5 Tryd.underlying9 HO104.out⟩) (fun hHeld => ?_); refine with_tabW imprimaturref20_Begins.tab4 imprimaturref20_Begins.bits4 (fun HT_ HW_ => ?_)
     generalize w73.drew = w74 at HO104 HO107 HO110 HB hHeld ⊢
     refine pureA (i := 0) (N := some 62) (fl 29 1) (any_of HT_.out (by kernel_rfl)) ?_
     refine pureA (i := 1) (N := some 63) (fl 29 3) (any_of HT_.out (by kernel_rfl)) ?_
     refine pureA (i := 2) (N := some 64) (fl 29 7) (any_of HT_.out (by kernel_rfl)) ?_
     refine pure_ (i := 3) (N := some 65) (v := undef) (a' := ?_) #[true, true, true, true, false, false, false, false, false, false, false, false, false, false, false, false, false, false, false, false, false, false, false, false, false, false, false, false, false] rfl rfl (any_of HT_.out (by kernel_rfl)) (fun _ _ _ h => h) (Or.inr ⟨by rfl, rfl⟩) ?_ ?_
     rotate_left
     ·simp only [Act.put, List.setIfInBounds_toArray, List.set_cons_zero, List.set_cons_succ, i64_w, i32_w]
      rfl
     refine pure_ (i := 4) (N := some 66) (v := undef) (a' := ?_) #[true, true, true, true, true, false, false, false, false, false, false, false, false, false, false, false, false, false, false, false, false, false, false, false, false, false, false, false, false] rfl rfl (any_of HT_.out (by kernel_rfl)) (fun _ _ _ h => h) (Or.inr ⟨by rfl, rfl⟩) ?_ ?_
     rotate_left
     ·simp only [Act.put, List.setIfInBounds_toArray, List.set_cons_zero, List.set_cons_succ, i64_w, i32_w]
      rfl
     refine pure_ (i := 5) (N := some 67) (v := undef) (a' := ?_) #[true, true, true, true, true, true, false, false, false, false, false, false, false, false, false, false, false, false, false, false, false, false, false, false, false, false, false, false, false] rfl rfl (any_of HT_.out (by kernel_rfl)) (fun _ _ _ h => h) (Or.inr ⟨by rfl, rfl⟩) ?_ ?_
     rotate_left
     ·simp only [Act.put, List.setIfInBounds_toArray, List.set_cons_zero, List.set_cons_succ, i64_w, i32_w]
      rfl
     refine pure_ (i := 6) (N := some 68) (v := undef) (a' := ?_) #[true, true, true, true, true, true, true, false, false, false, false, false, false, false, false, false, false, false, false, false, false, false, false, false, false, false, false, false, false] rfl rfl (any_of HT_.out (by kernel_rfl)) (fun _ _ _ h => h) (Or.inr ⟨by rfl, rfl⟩) ?_ ?_
     rotate_left
     ·simp only [Act.put, List.setIfInBounds_toArray, List.set_cons_zero, List.set_cons_succ, i64_w, i32_w]
      rfl
     refine pure_ (i := 7) (N := some 69) (v := undef) (a' := ?_) #[true, true, true, true, true, true, true, true, false, false, false, false, false, false, false, false, false, false, false, false, false, false, false, false, false, false, false, false, false] rfl rfl (any_of HT_.out (by kernel_rfl)) (fun _ _ _ h => h) (Or.inr ⟨by rfl, rfl⟩) ?_ ?_
     rotate_left
     ·simp only [Act.put, List.setIfInBounds_toArray, List.set_cons_zero, List.set_cons_succ, i64_w, i32_w]
      rfl
     refine pureA (i := 8) (N := some 70) (fl 29 511) (any_of HT_.out (by kernel_rfl)) ?_
     refine pureA (i := 9) (N := some 71) (fl 29 1023) (any_of HT_.out (by kernel_rfl)) ?_
     refine pure_ (i := 10) (N := some 72) (v := undef) (a' := ?_) #[true, true, true, true, true, true, true, true, true, true, true, false, false, false, false, false, false, false, false, false, false, false, false, false, false, false, false, false, false] rfl rfl (any_of HT_.out (by kernel_rfl)) (fun _ _ _ h => h) (Or.inr ⟨by rfl, rfl⟩) ?_ ?_
     rotate_left
     ·simp only [Act.put, List.setIfInBounds_toArray, List.set_cons_zero, List.set_cons_succ, i64_w, i32_w]
      rfl
     refine pure_ (i := 11) (N := some 73) (v := undef) (a' := ?_) #[true, true, true, true, true, true, true, true, true, true, true, true, false, false, false, false, false, false, false, false, false, false, false, false, false, false, false, false, false] rfl rfl (any_of HT_.out (by kernel_rfl)) (fun _ _ _ h => h) (Or.inr ⟨by rfl, rfl⟩) ?_ ?_
     rotate_left
     ·simp only [Act.put, List.setIfInBounds_toArray, List.set_cons_zero, List.set_cons_succ, i64_w, i32_w]
      rfl
     refine pure_ (i := 12) (N := some 74) (v := undef) (a' := ?_) #[true, true, true, true, true, true, true, true, true, true, true, true, true, false, false, false, false, false, false, false, false, false, false, false, false, false, false, false, false] rfl rfl (any_of HT_.out (by kernel_rfl)) (fun _ _ _ h => h) (Or.inr ⟨by rfl, rfl⟩) ?_ ?_
     rotate_left
     ·simp only [Act.put, List.setIfInBounds_toArray, List.set_cons_zero, List.set_cons_succ, i64_w, i32_w]
      rfl
     refine pure_ (i := 13) (N := some 75) (v := undef) (a' := ?_) #[true, true, true, true, true, true, true, true, true, true, true, true, true, true, false, false, false, false, false, false, false, false, false, false, false, false, false, false, false] rfl rfl (any_of HT_.out (by kernel_rfl)) (fun _ _ _ h => h) (Or.inr ⟨by rfl, rfl⟩) ?_ ?_
     rotate_left
     ·simp only [Act.put, List.setIfInBounds_toArray, List.set_cons_zero, List.set_cons_succ, i64_w, i32_w]
      rfl
     refine pure_ (i := 14) (N := some 76) (v := undef) (a' := ?_) #[true, true, true, true, true, true, true, true, true, true, true, true, true, true, true, false, false, false, false, false, false, false, false, false, false, false, false, false, false] rfl rfl (any_of HT_.out (by kernel_rfl)) (fun _ _ _ h => h) (Or.inr ⟨by rfl, rfl⟩) ?_ ?_
     rotate_left
     ·simp only [Act.put, List.setIfInBounds_toArray, List.set_cons_zero, List.set_cons_succ, i64_w, i32_w]
      rfl
     refine pure_ (i := 15) (N := some 77) (v := undef) (a' := ?_) #[true, true, true, true, true, true, true, true, true, true, true, true, true, true, true, true, false, false, false, false, false, false, false, false, false, false, false, false, false] rfl rfl (any_of HT_.out (by kernel_rfl)) (fun _ _ _ h => h) (Or.inr ⟨by rfl, rfl⟩) ?_ ?_
     rotate_left
     ·simp only [Act.put, List.setIfInBounds_toArray, List.set_cons_zero, List.set_cons_succ, i64_w, i32_w]
      rfl
     refine pure_ (i := 16) (N := some 78) (v := undef) (a' := ?_) #[true, true, true, true, true, true, true, true, true, true, true, true, true, true, true, true, true, false, false, false, false, false, false, false, false, false, false, false, false] rfl rfl (any_of HT_.out (by kernel_rfl)) (fun _ _ _ h => h) (Or.inr ⟨by rfl, rfl⟩) ?_ ?_
     rotate_left
     ·simp only [Act.put, List.setIfInBounds_toArray, List.set_cons_zero, List.set_cons_succ, i64_w, i32_w]
      rfl
     refine pure_ (i := 17) (N := some 79) (v := undef) (a' := ?_) #[true, true, true, true, true, true, true, true, true, true, true, true, true, true, true, true, true, true, false, false, false, false, false, false, false, false, false, false, false] rfl rfl (any_of HT_.out (by kernel_rfl)) (fun _ _ _ h => h) (Or.inr ⟨by rfl, rfl⟩) ?_ ?_
     rotate_left
     ·simp only [Act.put, List.setIfInBounds_toArray, List.set_cons_zero, List.set_cons_succ, i64_w, i32_w]
      rfl
     refine pureA (i := 18) (N := some 80) (fl 29 524287) (any_of HT_.out (by kernel_rfl)) ?_
     refine pureA (i := 19) (N := some 81) (fl 29 1048575) (any_of HT_.out (by kernel_rfl)) ?_
     refine pure_ (i := 20) (N := some 82) (v := undef) (a' := ?_) #[true, true, true, true, true, true, true, true, true, true, true, true, true, true, true, true, true, true, true, true, true, false, false, false, false, false, false, false, false] rfl rfl (any_of HT_.out (by kernel_rfl)) (fun _ _ _ h => h) (Or.inr ⟨by rfl, rfl⟩) ?_ ?_
     rotate_left
     ·simp only [Act.put, List.setIfInBounds_toArray, List.set_cons_zero, List.set_cons_succ, i64_w, i32_w]
      rfl
     refine pure_ (i := 21) (N := some 83) (v := undef) (a' := ?_) #[true, true, true, true, true, true, true, true, true, true, true, true, true, true, true, true, true, true, true, true, true, true, false, false, false, false, false, false, false] rfl rfl (any_of HT_.out (by kernel_rfl)) (fun _ _ _ h => h) (Or.inr ⟨by rfl, rfl⟩) ?_ ?_
     rotate_left
     ·simp only [Act.put, List.setIfInBounds_toArray, List.set_cons_zero, List.set_cons_succ, i64_w, i32_w]
      rfl
     refine pure_ (i := 22) (N := some 84) (v := undef) (a' := ?_) #[true, true, true, true, true, true, true, true, true, true, true, true, true, true, true, true, true, true, true, true, true, true, true, false, false, false, false, false, false] rfl rfl (any_of HT_.out (by kernel_rfl)) (fun _ _ _ h => h) (Or.inr ⟨by rfl, rfl⟩) ?_ ?_
     rotate_left
     ·simp only [Act.put, List.setIfInBounds_toArray, List.set_cons_zero, List.set_cons_succ, i64_w, i32_w]
      rfl
     refine pure_ (i := 23) (N := some 85) (v := undef) (a' := ?_) #[true, true, true, true, true, true, true, true, true, true, true, true, true, true, true, true, true, true, true, true, true, true, true, true, false, false, false, false, false] rfl rfl (any_of HT_.out (by kernel_rfl)) (fun _ _ _ h => h) (Or.inr ⟨by rfl, rfl⟩) ?_ ?_
     rotate_left
     ·simp only [Act.put, List.setIfInBounds_toArray, List.set_cons_zero, List.set_cons_succ, i64_w, i32_w]
      rfl
     refine pure_ (i := 24) (N := some 86) (v := undef) (a' := ?_) #[true, true, true, true, true, true, true, true, true, true, true, true, true, true, true, true, true, true, true, true, true, true, true, true, true, false, false, false, false] rfl rfl (any_of HT_.out (by kernel_rfl)) (fun _ _ _ h => h) (Or.inr ⟨by rfl, rfl⟩) ?_ ?_
     rotate_left
     ·simp only [Act.put, List.setIfInBounds_toArray, List.set_cons_zero, List.set_cons_succ, i64_w, i32_w]
      rfl
     refine pure_ (i := 25) (N := some 87) (v := undef) (a' := ?_) #[true, true, true, true, true, true, true, true, true, true, true, true, true, true, true, true, true, true, true, true, true, true, true, true, true, true, false, false, false] rfl rfl (any_of HT_.out (by kernel_rfl)) (fun _ _ _ h => h) (Or.inr ⟨by rfl, rfl⟩) ?_ ?_
     rotate_left
     ·simp only [Act.put, List.setIfInBounds_toArray, List.set_cons_zero, List.set_cons_succ, i64_w, i32_w]
      rfl
     refine pure_ (i := 26) (N := some 88) (v := undef) (a' := ?_) #[true, true, true, true, true, true, true, true, true, true, true, true, true, true, true, true, true, true, true, true, true, true, true, true, true, true, true, false, false] rfl rfl (any_of HT_.out (by kernel_rfl)) (fun _ _ _ h => h) (Or.inr ⟨by rfl, rfl⟩) ?_ ?_
     rotate_left
     ·simp only [Act.put, List.setIfInBounds_toArray, List.set_cons_zero, List.set_cons_succ, i64_w, i32_w]
      rfl
     refine pure_ (i := 27) (N := some 89) (v := undef) (a' := ?_) #[true, true, true, true, true, true, true, true, true, true, true, true, true, true, true, true, true, true, true, true, true, true, true, true, true, true, true, true, false] rfl rfl (any_of HT_.out (by kernel_rfl)) (fun _ _ _ h => h) (Or.inr ⟨by rfl, rfl⟩) ?_ ?_
     rotate_left
     ·simp only [Act.put, List.setIfInBounds_toArray, List.set_cons_zero, List.set_cons_succ, i64_w, i32_w]
      rfl
     refine pureA (i := 28) (N := some 90) (fl 29 536870911) (any_of HT_.out (by kernel_rfl)) ?_
     refine done_ (done_of HT_.out (by kernel_rfl)) ?_
     try go_wp2
     go_ret
     exact ⟨by first | rfl | (simp [errW_none, errW_some] <;> rfl) | (simp [*, errW_none, errW_some] <;> rfl), by repeat (first | (with_reducible first | exact HB.out | apply below_alloc | apply pw_below_drewN | apply below_drew1) | exact HB.out)⟩

end Go.Proofs.YtcnpdapampclpaaDoor.PRh
