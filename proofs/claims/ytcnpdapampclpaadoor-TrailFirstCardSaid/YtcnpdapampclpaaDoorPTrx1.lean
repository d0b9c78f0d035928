-- Written by a program of this session, after the print of the kit.
import Derived.Test.YtcnpdapampclpaaDoorWC
import Derived.Test.YtcnpdapampclpaaDoorPTrx0
namespace Go.Proofs.YtcnpdapampclpaaDoor.PTr
open Go.RowKit Go.Proofs.YtcnpdapampclpaaDoor.X Go.Proofs.YtcnpdapampclpaaDoor.PTp Go.Proofs.YtcnpdapampclpaaDoorW.PrintWords Go.Proofs.YtcnpdapampclpaaDoorW.PrintLast Go.Proofs.YtcnpdapampclpaaDoorW.PrintMore
attribute [local go_sem] max2_int min2_int max_two min_two max_three min_three max_four min_four   -- for this text's walks alone
set_option linter.unusedVariables false
set_option linter.unusedSimpArgs false

/-! ### bytes_Equal: function 60 -/
def bytes_Equal.f (l0 : List Int) (l1 : List Int) : Option (Bool) := some ((strOfNums l0).toList == (strOfNums l1).toList)
set_option maxHeartbeats 8000000 in
set_option maxRecDepth 100000 in
theorem bytes_Equal.calls (A0 : Option Addr) (c0 : Nat) (l0 : List Int) (A1 : Option Addr) (c1 : Nat) (l1 : List Int) (r : Bool) (w : World) (hr0 : Kd.C (Kd.int .u8) w A0 l0.length l0) (hc0 : l0.length ≤ c0) (hr1 : Kd.C (Kd.int .u8) w A1 l1.length l1) (hc1 : l1.length ≤ c1) (h : bytes_Equal.f l0 l1 = some r) :
  Calls Tryd.prog 60 #[.slice A0 l0.length c0, .slice A1 l1.length c1] w fun e w' => e = .returned (.bool r) ∧ Drawn0 w w' := by
 have HR0 := Aside0.mk hr0
 have HC0 := Aside0.mk hc0
 clear hr0 hc0
 have HR1 := Aside0.mk hr1
 have HC1 := Aside0.mk hc1
 clear hr1 hc1
 have H : (some ((strOfNums l0).toList == (strOfNums l1).toList)) = some r := h
 clear h
 obtain rfl := Option.some.inj H
 have hcv3 := Kd.C_string (P := Tryd.prog) (A := A0) (c := c0) Tryd.underlying23 Tryd.underlying5 Tryd.underlying9 HR0.out
 have hcv4 := Kd.C_string (P := Tryd.prog) (A := A1) (c := c1) Tryd.underlying23 Tryd.underlying5 Tryd.underlying9 HR1.out
 go_enter Tryd.func60, Tryd.ntmps60
 go_wp2
 go_ret
 exact ⟨by first | rfl | (simp; done) | (simp [*]; done), by repeat (first | exact Drawn0.refl _ | apply Drawn0.step)⟩

/-! ### trail_tells: function 64 -/
mutual
def trail_tells.j0 : Nat → Int → Int → List Int → List (List Int) → Bool → Int → Bool → Option (List Int × List Int × Bool)
 | 0, _, _, _, _, _, _, _ => none
 | k + 1, x0, x1, x2, x3, x4, x13, x25 => if x25 = true then (some (x2, x2, decide (x13 < 0))) else (if x0 = x1 then (if x13 = 0 then (if 0 < (x3.length : Int) then (some (rd_L1 x3 0, rd_L1 x3 0, true)) else (none)) else (some (([] : List Int), ([] : List Int), false))) else (if x13 < 0 then (some (([] : List Int), ([] : List Int), false)) else ((trail_half.f x1).bind fun t103 => (if 0 ≤ x13 then (if x13 < (x3.length : Int) then (if x0 ≤ t103 then (if x13 ≤ (x3.length : Int) then ((trail_tells.f k x0 t103 x2 (x3.take (x13 : Int).toNat) x4).bind fun bt110 => ((trail_digest.f 17 (([bt110.2.1, rd_L1 x3 x13] : List (List Int)))).bind fun t120 => (some (bt110.1, t120, bt110.2.2)))) else (none)) else (if x13 ≤ (x3.length : Int) then ((trail_tells.f k (wrap64 (x0 - t103)) (wrap64 (x1 - t103)) x2 (x3.take (x13 : Int).toNat) false).bind fun bt128 => ((trail_digest.f 17 (([rd_L1 x3 x13, bt128.1] : List (List Int)))).bind fun t138 => ((trail_digest.f 17 (([rd_L1 x3 x13, bt128.2.1] : List (List Int)))).bind fun t144 => (some (t138, t144, bt128.2.2))))) else (none))) else (none)) else (none)))))
def trail_tells.f : Nat → Int → Int → List Int → List (List Int) → Bool → Option (List Int × List Int × Bool)
 | 0, _, _, _, _, _ => none
 | k + 1, a0, a1, l2, l3, a4 => if a0 = a1 then (trail_tells.j0 k a0 a1 l2 l3 a4 (wrap64 ((l3.length : Int) - 1)) a4) else (trail_tells.j0 k a0 a1 l2 l3 a4 (wrap64 ((l3.length : Int) - 1)) false)
end
theorem trail_tells.mono_l : ∀ k, (∀ y0 y1 y2 y3 y4, LeO (trail_tells.f k y0 y1 y2 y3 y4) (trail_tells.f (k + 1) y0 y1 y2 y3 y4)) ∧ (∀ y0 y1 y2 y3 y4 y5 y6, LeO (trail_tells.j0 k y0 y1 y2 y3 y4 y5 y6) (trail_tells.j0 (k + 1) y0 y1 y2 y3 y4 y5 y6))
 | 0 => ⟨fun _ _ _ _ _ r h => by simp [trail_tells.f] at h, fun _ _ _ _ _ _ _ r h => by simp [trail_tells.j0] at h⟩
 | k + 1 => by
  obtain ⟨ih0, ih1⟩ := trail_tells.mono_l k
  refine ⟨?_, ?_⟩
  ·intro y0 y1 y2 y3 y4
   unfold trail_tells.f
   repeat' first
   | (with_reducible exact ih0 _ _ _ _ _)
   | (with_reducible exact ih1 _ _ _ _ _ _ _)
   | (with_reducible exact LeO.refl _)
   | (with_reducible exact LeO.none _)
   | (with_reducible refine LeO.ite ?_ ?_)
   | (with_reducible refine LeO.bind ?_ (fun _ => ?_))
   | exact ih0 _ _ _ _ _
   | exact ih1 _ _ _ _ _ _ _
   | exact LeO.none _
   | refine LeO.ite ?_ ?_
   | refine LeO.bind ?_ (fun _ => ?_)
  ·intro y0 y1 y2 y3 y4 y5 y6
   unfold trail_tells.j0
   repeat' first
   | (with_reducible exact ih0 _ _ _ _ _)
   | (with_reducible exact ih1 _ _ _ _ _ _ _)
   | (with_reducible exact LeO.refl _)
   | (with_reducible exact LeO.none _)
   | (with_reducible refine LeO.ite ?_ ?_)
   | (with_reducible refine LeO.bind ?_ (fun _ => ?_))
   | exact ih0 _ _ _ _ _
   | exact ih1 _ _ _ _ _ _ _
   | exact LeO.none _
   | refine LeO.ite ?_ ?_
   | refine LeO.bind ?_ (fun _ => ?_)
theorem trail_tells.mono : ∀ a0 a1 a2 a3 a4 k, LeO (trail_tells.f k a0 a1 a2 a3 a4) (trail_tells.f (k + 1) a0 a1 a2 a3 a4) := by
 intro a0 a1 a2 a3 a4 k
 obtain ⟨ih0, ih1⟩ := trail_tells.mono_l k
 exact ih0 a0 a1 a2 a3 a4
def trail_tells.T7 : Bool × List (List Nat × List Nat) := (true, [([], []), ([0], [0]), ([1], [1]), ([], []), ([3], [3]), ([4], [4]), ([2, 0, 1, 2], [2]), ([5, 6, 0, 1, 2, 3, 4, 5, 6], [5]), ([7, 0, 1, 2, 3, 4, 5, 6, 7], [])])
def trail_tells.B7 : List Nat := [0, 1, 3, 0, 8, 24, 7, 127, 255]
theorem trail_tells.tab7 : rtab .any (opsOf Tryd.f64 7) = trail_tells.T7 := by kernel_rfl
theorem trail_tells.bits7 : waitsOk trail_tells.T7.2 trail_tells.B7 = true := by kernel_rfl
def trail_tells.T10 : Bool × List (List Nat × List Nat) := (true, [([], []), ([0], [0]), ([], []), ([], []), ([2, 3], [2, 3]), ([4], [4]), ([1, 1, 0, 1], [1]), ([5, 6, 0, 1, 2, 3, 4, 5, 6], [5])])
def trail_tells.B10 : List Nat := [0, 1, 0, 0, 12, 28, 3, 127]
theorem trail_tells.tab10 : rtab .any (opsOf Tryd.f64 10) = trail_tells.T10 := by kernel_rfl
theorem trail_tells.bits10 : waitsOk trail_tells.T10.2 trail_tells.B10 = true := by kernel_rfl
set_option maxHeartbeats 8000000 in
set_option maxRecDepth 100000 in
theorem trail_tells.calls (k : Nat) : ∀ (a0 : Int) (a1 : Int) (P2_ : Nat → Prop) (A2 : Option Addr) (c2 : Nat) (l2 : List Int) (P3_ : Nat → Prop) (A3 : Option Addr) (c3 : Nat) (l3 : List (List Int)) (a4 : Bool) (r1 : List Int) (r2 : List Int) (r3 : Bool) (w : World) (HG : Glb w) (hs2 : Kd.V (Kd.int .u8) 5 w w.heap.size (fun k_ => P2_ k_) (.slice A2 l2.length c2) l2) (hs3 : Kd.V (Kd.slice 5 (Kd.int .u8)) 23 w w.heap.size (fun k_ => P3_ k_) (.slice A3 l3.length c3) l3) (h : trail_tells.f k a0 a1 l2 l3 a4 = some (r1, r2, r3)),
  Calls Tryd.prog 64 #[.int .i64 a0, .int .i64 a1, .slice A2 l2.length c2, .slice A3 l3.length c3, .bool a4] w fun e w' => ∃ v0_ v1_ : Value, e = .returned (.tuple #[v0_, v1_, .bool r3]) ∧ Kd.V (Kd.int .u8) 5 w' w.heap.size (fun k_ => ((P2_ k_ ∨ P3_ k_) ∨ w.heap.size ≤ k_)) v0_ r1 ∧ Kd.V (Kd.int .u8) 5 w' w.heap.size (fun k_ => ((P2_ k_ ∨ P3_ k_) ∨ w.heap.size ≤ k_)) v1_ r2 ∧ Below w.heap.size w w' := by
 induction k using Nat.strongRecOn with
 | _ k ih =>
 intro a0 a1 P2_ A2 c2 l2 P3_ A3 c3 l3 a4 r1 r2 r3 w HG hs2 hs3 h
 cases k with
 | zero => exact absurd h (by simp [trail_tells.f])
 | succ k =>
 simp only [trail_tells.f] at h
 have HO2 := Aside0.mk (show Kd.V (Kd.int .u8) 5 w w.heap.size (fun k_ => ((P2_ k_ ∨ P3_ k_) ∨ w.heap.size ≤ k_)) (.slice A2 l2.length c2) l2 from Kd.V_mono hs2 (fun k_ hk => .inl (.inl hk)))
 have HO3 := Aside0.mk (show Kd.V (Kd.slice 5 (Kd.int .u8)) 23 w w.heap.size (fun k_ => ((P2_ k_ ∨ P3_ k_) ∨ w.heap.size ≤ k_)) (.slice A3 l3.length c3) l3 from Kd.V_mono hs3 (fun k_ hk => .inl (.inr hk)))
 have HB := Aside0.mk (Below.refl w.heap.size w)
 have H : (if a0 = a1 then (trail_tells.j0 k a0 a1 l2 l3 a4 (wrap64 ((l3.length : Int) - 1)) a4) else (trail_tells.j0 k a0 a1 l2 l3 a4 (wrap64 ((l3.length : Int) - 1)) false)) = some (r1, r2, r3) := h
 clear h
 have HC6 := Aside0.mk H
 clear H
 go_enter Tryd.func64, Tryd.ntmps64
 go_upto_region 2 with (fail)
 go_cut [25] (fun v25 wc => ∃ (kq : Nat) (x25_5 : Bool), v25 = .bool x25_5 ∧ Aside0 (trail_tells.j0 kq a0 a1 l2 l3 a4 (wrap64 ((l3.length : Int) - 1)) x25_5 = some (r1, r2, r3)) ∧ Aside0 (kq ≤ k) ∧ Aside0 (Kd.V (Kd.int .u8) 5 wc w.heap.size (fun k_ => ((P2_ k_ ∨ P3_ k_) ∨ w.heap.size ≤ k_)) (.slice A2 l2.length c2) l2) ∧ Aside0 (Kd.V (Kd.slice 5 (Kd.int .u8)) 23 wc w.heap.size (fun k_ => ((P2_ k_ ∨ P3_ k_) ∨ w.heap.size ≤ k_)) (.slice A3 l3.length c3) l3) ∧ Aside0 (Below w.heap.size w wc))
 case first =>
  have H := HC6.out
  clear HC6
  by_cases c7 : a0 = a1
  ·rw [if_pos c7] at H
   have c7b0 : (a0 == a1) = true := beq_iff_eq.mpr c7
   have c7b1 : (a0 != a1) = false := bne_eq_false_iff_eq.mpr c7
   clear c7
   (first | rw [c7b0] | (simp only [i64_w, i32_w]; rw [c7b0]) | skip)
   have H' := Aside0.mk H
   clear H
   go_wp2
   go_meet
   case rel => exact ⟨_, (a4), (by first | rfl | (simp; done) | (simp [*]; done)), H', ⟨by first | omega | exact Nat.le_refl _⟩, ⟨by (with_reducible repeat (first | apply Kd.V_alloc | apply Kd.V_drewN | apply Kd.V_drew)); exact HO2.out⟩, ⟨by (with_reducible repeat (first | apply Kd.V_alloc | apply Kd.V_drewN | apply Kd.V_drew)); exact HO3.out⟩, ⟨by repeat (first | (with_reducible first | exact HB.out | apply below_alloc | apply pw_below_drewN | apply below_drew1) | exact HB.out)⟩⟩
  ·rw [if_neg c7] at H
   have c7b0 : (a0 == a1) = false := beq_eq_false_iff_ne.mpr c7
   have c7b1 : (a0 != a1) = true := bne_iff_ne.mpr c7
   (first | rw [c7b0] | (simp only [i64_w, i32_w]; rw [c7b0]) | skip)
   have H' := Aside0.mk H
   clear H
   go_wp2
   go_meet
   case rel => exact ⟨_, (false), (by first | rfl | (simp; done) | (simp [*]; done)), H', ⟨by first | omega | exact Nat.le_refl _⟩, ⟨by (with_reducible repeat (first | apply Kd.V_alloc | apply Kd.V_drewN | apply Kd.V_drew)); exact HO2.out⟩, ⟨by (with_reducible repeat (first | apply Kd.V_alloc | apply Kd.V_drewN | apply Kd.V_drew)); exact HO3.out⟩, ⟨by repeat (first | (with_reducible first | exact HB.out | apply below_alloc | apply pw_below_drewN | apply below_drew1) | exact HB.out)⟩⟩
 case rest =>
  clear HC6
  try clear c2
  try clear p2
  try clear c3
  try clear c6
  try clear p6
  try clear c7
  try clear c7b0
  try clear c7b1
  obtain ⟨kq, x25_5, rfl, HA, HJ5, HO_2, HO_3, HB⟩ := hcut
  cases kq with
  | zero => exact absurd HA.out (by simp [trail_tells.j0])
  | succ kj5 =>
   have H := HA.out
   clear HA
   simp only [trail_tells.j0] at H
   by_cases c8 : x25_5 = true
   ·subst c8
    have H1 : (some (l2, l2, decide ((wrap64 ((l3.length : Int) - 1)) < 0))) = some (r1, r2, r3) := by rw [if_pos rfl] at H; exact H
    clear H
    have H := H1
    clear H1
    simp only [Option.some.injEq, Prod.mk.injEq] at H
    obtain ⟨rfl, rfl, rfl⟩ := H
    go_wp2
    go_ret3
    exact ⟨_, _, by first | rfl | (simp [errW_none, errW_some] <;> rfl) | (simp [*, errW_none, errW_some] <;> rfl), by (with_reducible repeat (first | apply Kd.V_alloc | apply Kd.V_drewN | apply Kd.V_drew)); exact HO_2.out, by (with_reducible repeat (first | apply Kd.V_alloc | apply Kd.V_drewN | apply Kd.V_drew)); exact HO_2.out, by repeat (first | (with_reducible first | exact HB.out | apply below_alloc | apply pw_below_drewN | apply below_drew1) | exact HB.out)⟩
   ·replace c8 := Bool.eq_false_iff.mpr c8
    subst c8
    have H1 : (if a0 = a1 then (if (wrap64 ((l3.length : Int) - 1)) = 0 then (if 0 < (l3.length : Int) then (some (rd_L1 l3 0, rd_L1 l3 0, true)) else (none)) else (some (([] : List Int), ([] : List Int), false))) else (if (wrap64 ((l3.length : Int) - 1)) < 0 then (some (([] : List Int), ([] : List Int), false)) else ((trail_half.f a1).bind fun t103 => (if 0 ≤ (wrap64 ((l3.length : Int) - 1)) then (if (wrap64 ((l3.length : Int) - 1)) < (l3.length : Int) then (if a0 ≤ t103 then (if (wrap64 ((l3.length : Int) - 1)) ≤ (l3.length : Int) then ((trail_tells.f kj5 a0 t103 l2 (l3.take ((wrap64 ((l3.length : Int) - 1)) : Int).toNat) a4).bind fun bt110 => ((trail_digest.f 17 (([bt110.2.1, rd_L1 l3 (wrap64 ((l3.length : Int) - 1))] : List (List Int)))).bind fun t120 => (some (bt110.1, t120, bt110.2.2)))) else (none)) else (if (wrap64 ((l3.length : Int) - 1)) ≤ (l3.length : Int) then ((trail_tells.f kj5 (wrap64 (a0 - t103)) (wrap64 (a1 - t103)) l2 (l3.take ((wrap64 ((l3.length : Int) - 1)) : Int).toNat) false).bind fun bt128 => ((trail_digest.f 17 (([rd_L1 l3 (wrap64 ((l3.length : Int) - 1)), bt128.1] : List (List Int)))).bind fun t138 => ((trail_digest.f 17 (([rd_L1 l3 (wrap64 ((l3.length : Int) - 1)), bt128.2.1] : List (List Int)))).bind fun t144 => (some (t138, t144, bt128.2.2))))) else (none))) else (none)) else (none))))) = some (r1, r2, r3) := by rw [if_neg (show ¬ (false = true) by decide)] at H; exact H
    clear H
    have H := H1
    clear H1
    by_cases c9 : a0 = a1
    ·rw [if_pos c9] at H
     have c9b0 : (a0 == a1) = true := beq_iff_eq.mpr c9
     have c9b1 : (a0 != a1) = false := bne_eq_false_iff_eq.mpr c9
     clear c9
     by_cases c10 : (wrap64 ((l3.length : Int) - 1)) = 0
     ·rw [if_pos c10] at H
      have c10b0 : ((wrap64 ((l3.length : Int) - 1)) == 0) = true := beq_iff_eq.mpr c10
      have c10b1 : ((wrap64 ((l3.length : Int) - 1)) != 0) = false := bne_eq_false_iff_eq.mpr c10
      clear c10
      by_cases c11 : 0 < (l3.length : Int)
      ·rw [if_pos c11] at H
       have c11b0 : decide (0 < (l3.length : Int)) = true := decide_eq_true c11
       have c11b1 : decide (0 < l3.length) = true := decide_eq_true (by omega)
       clear c11
       simp only [Option.some.injEq, Prod.mk.injEq] at H
       obtain ⟨rfl, rfl, rfl⟩ := H
       try go_wp2
       have n0_ := Aside0.mk (Kd.V_drew HO_2.out)
       have n1_ := Aside0.mk (Kd.V_drew HO_3.out)
       have n2_ := Aside0.mk (below_drew1 HB.out)
       clear HO_2
       clear HO_3
       clear HB
       have HO_2 := n0_
       have HO_3 := n1_
       have HB := n2_
       clear n0_ n1_ n2_
       have p101 : 0 ≤ (0 : Int) := (by omega)
       have q101 : 0 < (l3.length : Int) := of_decide_eq_true asm_
       obtain ⟨ad101, A101_0, c101_0, e101, hx101_0, hl101_0, hi101_0⟩ := at_L1 (Kd.V_reads' HO_3.out).2.2 0 p101 q101
       cases e101
       obtain ⟨ce101, hce101, hMe101, hcc101⟩ := Kd.V_get HO_3.out [] 0 p101 (by first | exact q101 | exact of_decide_eq_true asm_ | (have e_ := (Kd.V_reads' HO_3.out).1; omega))
       obtain ⟨ua101_0, uc101_0, rfl, ul101_0, ge101_0⟩ := Kd.FK_slice_open hMe101
       have hv101_0 := hcc101 0 _ rfl
       rw [Nat.add_zero, show ((Kd.slice 5 (Kd.int .u8))).sz = 1 from rfl, Nat.mul_one] at hv101_0
       replace hv101_0 := Option.some.inj (hv101_0.symm.trans hx101_0)
       injection hv101_0 with hva_ hvn_ hvc_
       rw [hva_] at ge101_0
       rw [hvc_] at ul101_0
       have HL101_0 := Aside0.mk (show Kd.V (Kd.int .u8) 5 _ w.heap.size _ _ (rd_L1 l3 0) from Kd.V_mk ul101_0 ge101_0)
       clear hva_ hvn_ hvc_ ge101_0 ul101_0
       clear hcc101 hce101
       have qi101 : (0 < l3.length) = True := eq_true (by omega)
       (try rw [show ((0 : Int)).toNat = 0 from rfl] at hx101_0)
       (try rw [Addr.add_zero'] at hx101_0)
       have HR101_0 := Aside0.mk hi101_0
       have HC101_0 := Aside0.mk hl101_0
       clear hi101_0 hl101_0
       replace p101 := eq_true p101
       replace q101 := eq_true q101
       have p102 : 0 ≤ (0 : Int) := (by omega)
       have q102 : 0 < (l3.length : Int) := of_decide_eq_true asm_
       obtain ⟨ad102, A102_0, c102_0, e102, hx102_0, hl102_0, hi102_0⟩ := at_L1 (Kd.V_reads' HO_3.out).2.2 0 p102 q102
       obtain rfl : ad101 = ad102 := (by injection e102)
       obtain ⟨ce102, hce102, hMe102, hcc102⟩ := Kd.V_get HO_3.out [] 0 p102 (by first | exact q102 | exact of_decide_eq_true asm_ | (have e_ := (Kd.V_reads' HO_3.out).1; omega))
       obtain ⟨ua102_0, uc102_0, rfl, ul102_0, ge102_0⟩ := Kd.FK_slice_open hMe102
       have hv102_0 := hcc102 0 _ rfl
       rw [Nat.add_zero, show ((Kd.slice 5 (Kd.int .u8))).sz = 1 from rfl, Nat.mul_one] at hv102_0
       replace hv102_0 := Option.some.inj (hv102_0.symm.trans hx102_0)
       injection hv102_0 with hva_ hvn_ hvc_
       rw [hva_] at ge102_0
       rw [hvc_] at ul102_0
       have HL102_0 := Aside0.mk (show Kd.V (Kd.int .u8) 5 _ w.heap.size _ _ (rd_L1 l3 0) from Kd.V_mk ul102_0 ge102_0)
       clear hva_ hvn_ hvc_ ge102_0 ul102_0
       clear hcc102 hce102
       have qi102 : (0 < l3.length) = True := eq_true (by omega)
       (try rw [show ((0 : Int)).toNat = 0 from rfl] at hx102_0)
       (try rw [Addr.add_zero'] at hx102_0)
       have HR102_0 := Aside0.mk hi102_0
       have HC102_0 := Aside0.mk hl102_0
       clear hi102_0 hl102_0
       replace p102 := eq_true p102
       replace q102 := eq_true q102
       have ea_ := Option.some.inj (hx101_0.symm.trans hx102_0)
       injection ea_ with ea_ en_ ec_
       subst ea_
       subst ec_
       clear en_
       refine start_ (n := 9) (S := fun w' => w'.cell? ad101 = some (.slice A101_0 (rd_L1 l3 0).length c101_0) ∧ w'.cell? ad101 = some (.slice A101_0 (rd_L1 l3 0).length c101_0)) (ds := []) #[false, false, false, false, false, false, false, false, false] (by kernel_rfl) rfl rfl ⟨hx101_0, hx102_0⟩ (fun hHeld => ?_); refine with_tabW trail_tells.tab7 trail_tells.bits7 (fun HT_ HW_ => ?_)
       generalize wc.drew = w12 at HO_2 HO_3 HB HL101_0 HL102_0 HR101_0 HR102_0 hx101_0 hx102_0 hHeld ⊢
       refine pureA (i := 0) (N := some 42) (fl 9 1) (any_of HT_.out (by kernel_rfl)) ?_
       refine pureA (i := 1) (N := some 43) (fl 9 3) (any_of HT_.out (by kernel_rfl)) ?_
       refine pureA (i := 3) (N := some 45) (fl 9 11) (any_of HT_.out (by kernel_rfl)) ?_
       refine pureA (i := 4) (N := some 46) (fl 9 27) (any_of HT_.out (by kernel_rfl)) ?_
       refine take_ (i := 2) (N := some 44) (v := ?_) (a' := ?_) #[true, true, true, true, true, false, false, false, false] rfl rfl (take_ofW HT_.out HW_.out (by kernel_rfl)) (fun _ _ _ h => h) (Or.inl ⟨by rfl, ?_⟩) hHeld ?_ ?_
       rotate_left
       ·rintro w' ⟨s0, s1⟩
        go_simp
        with_reducible rfl
       rotate_left
       ·simp only [Act.put, List.setIfInBounds_toArray, List.set_cons_zero, List.set_cons_succ, i64_w, i32_w]
        rfl
       refine pureA (i := 6) (N := some 10) (fl 9 95) (any_of HT_.out (by kernel_rfl)) ?_
       refine take_ (i := 5) (N := some 47) (v := ?_) (a' := ?_) #[true, true, true, true, true, true, true, false, false] rfl rfl (take_ofW HT_.out HW_.out (by kernel_rfl)) (fun _ _ _ h => h) (Or.inl ⟨by rfl, ?_⟩) hHeld ?_ ?_
       rotate_left
       ·rintro w' ⟨s0, s1⟩
        go_simp
        with_reducible rfl
       rotate_left
       ·simp only [Act.put, List.setIfInBounds_toArray, List.set_cons_zero, List.set_cons_succ, i64_w, i32_w]
        rfl
       refine pureA (i := 7) (N := some 11) (fl 9 255) (any_of HT_.out (by kernel_rfl)) ?_
       refine pureA (i := 8) (N := some 12) (fl 9 511) (any_of HT_.out (by kernel_rfl)) ?_
       refine done_ (done_of HT_.out (by kernel_rfl)) ?_
       try go_wp2
       go_ret3
       exact ⟨_, _, by first | rfl | (simp [errW_none, errW_some] <;> rfl) | (simp [*, errW_none, errW_some] <;> rfl), by (with_reducible repeat (first | apply Kd.V_alloc | apply Kd.V_drewN | apply Kd.V_drew)); exact HL101_0.out, by (with_reducible repeat (first | apply Kd.V_alloc | apply Kd.V_drewN | apply Kd.V_drew)); exact HL102_0.out, by repeat (first | (with_reducible first | exact HB.out | apply below_alloc | apply pw_below_drewN | apply below_drew1) | exact HB.out)⟩
      ·rw [if_neg c11] at H
       exact absurd H (by simp)
     ·rw [if_neg c10] at H
      have c10b0 : ((wrap64 ((l3.length : Int) - 1)) == 0) = false := beq_eq_false_iff_ne.mpr c10
      have c10b1 : ((wrap64 ((l3.length : Int) - 1)) != 0) = true := bne_iff_ne.mpr c10
      simp only [Option.some.injEq, Prod.mk.injEq] at H
      obtain ⟨rfl, rfl, rfl⟩ := H
      go_wp2
      go_ret3
      exact ⟨_, _, by first | rfl | (simp [errW_none, errW_some] <;> rfl) | (simp [*, errW_none, errW_some] <;> rfl), Kd.V_nil _ _ _ _ _, Kd.V_nil _ _ _ _ _, by repeat (first | (with_reducible first | exact HB.out | apply below_alloc | apply pw_below_drewN | apply below_drew1) | exact HB.out)⟩
    ·rw [if_neg c9] at H
     have c9b0 : (a0 == a1) = false := beq_eq_false_iff_ne.mpr c9
     have c9b1 : (a0 != a1) = true := bne_iff_ne.mpr c9
     by_cases c13 : (wrap64 ((l3.length : Int) - 1)) < 0
     ·rw [if_pos c13] at H
      have c13b0 : decide ((wrap64 ((l3.length : Int) - 1)) < 0) = true := decide_eq_true c13
      clear c13
      simp only [Option.some.injEq, Prod.mk.injEq] at H
      obtain ⟨rfl, rfl, rfl⟩ := H
      go_wp2
      go_ret3
      exact ⟨_, _, by first | rfl | (simp [errW_none, errW_some] <;> rfl) | (simp [*, errW_none, errW_some] <;> rfl), Kd.V_nil _ _ _ _ _, Kd.V_nil _ _ _ _ _, by repeat (first | (with_reducible first | exact HB.out | apply below_alloc | apply pw_below_drewN | apply below_drew1) | exact HB.out)⟩
     ·rw [if_neg c13] at H
      have c13b0 : decide ((wrap64 ((l3.length : Int) - 1)) < 0) = false := decide_eq_false c13
      clear c13
      replace H := Option.bind_eq_some_iff.mp H
      obtain ⟨t103, A140, H⟩ := H
      replace H : (if 0 ≤ (wrap64 ((l3.length : Int) - 1)) then (if (wrap64 ((l3.length : Int) - 1)) < (l3.length : Int) then (if a0 ≤ t103 then (if (wrap64 ((l3.length : Int) - 1)) ≤ (l3.length : Int) then ((trail_tells.f kj5 a0 t103 l2 (l3.take ((wrap64 ((l3.length : Int) - 1)) : Int).toNat) a4).bind fun bt110 => ((trail_digest.f 17 (([bt110.2.1, rd_L1 l3 (wrap64 ((l3.length : Int) - 1))] : List (List Int)))).bind fun t120 => (some (bt110.1, t120, bt110.2.2)))) else (none)) else (if (wrap64 ((l3.length : Int) - 1)) ≤ (l3.length : Int) then ((trail_tells.f kj5 (wrap64 (a0 - t103)) (wrap64 (a1 - t103)) l2 (l3.take ((wrap64 ((l3.length : Int) - 1)) : Int).toNat) false).bind fun bt128 => ((trail_digest.f 17 (([rd_L1 l3 (wrap64 ((l3.length : Int) - 1)), bt128.1] : List (List Int)))).bind fun t138 => ((trail_digest.f 17 (([rd_L1 l3 (wrap64 ((l3.length : Int) - 1)), bt128.2.1] : List (List Int)))).bind fun t144 => (some (t138, t144, bt128.2.2))))) else (none))) else (none)) else (none)) = some (r1, r2, r3) := H
      have A14 := Aside0.mk A140
      clear A140
      obtain ⟨ji15, hji15⟩ : ∃ j_ : Int, (wrap64 ((l3.length : Int) - 1)) = j_ := ⟨_, rfl⟩
      replace H : (if 0 ≤ (ji15) then (if (ji15) < (l3.length : Int) then (if a0 ≤ t103 then (if (ji15) ≤ (l3.length : Int) then ((trail_tells.f kj5 a0 t103 l2 (l3.take ((ji15) : Int).toNat) a4).bind fun bt110 => ((trail_digest.f 17 (([bt110.2.1, rd_L1 l3 (ji15)] : List (List Int)))).bind fun t120 => (some (bt110.1, t120, bt110.2.2)))) else (none)) else (if (ji15) ≤ (l3.length : Int) then ((trail_tells.f kj5 (wrap64 (a0 - t103)) (wrap64 (a1 - t103)) l2 (l3.take ((ji15) : Int).toNat) false).bind fun bt128 => ((trail_digest.f 17 (([rd_L1 l3 (ji15), bt128.1] : List (List Int)))).bind fun t138 => ((trail_digest.f 17 (([rd_L1 l3 (ji15), bt128.2.1] : List (List Int)))).bind fun t144 => (some (t138, t144, bt128.2.2))))) else (none))) else (none)) else (none)) = some (r1, r2, r3) := by first | (rw [hji15] at H; exact H) | (simp only [hji15] at H ⊢; exact H)
      (try rw [hji15] at c13b0)
      (try rw [hji15] at A14)
      have hji15w : (IntKind.i64.wrap ((l3.length : Int) - 1)) = ji15 := (i64_w _).trans hji15
      by_cases c16 : 0 ≤ (ji15)
      ·rw [if_pos c16] at H
       have c16b0 : decide (0 ≤ (ji15)) = true := decide_eq_true c16
       clear c16
       by_cases c17 : (ji15) < (l3.length : Int)
       ·rw [if_pos c17] at H
        have c17b0 : decide ((ji15) < (l3.length : Int)) = true := decide_eq_true c17
        clear c17
        by_cases c18 : a0 ≤ t103
        ·rw [if_pos c18] at H
         have c18b0 : decide (a0 ≤ t103) = true := decide_eq_true c18
         clear c18
         have c19b0 := eq_true (of_decide_eq_true asm_ : 0 ≤ (ji15))
         by_cases c20 : (ji15) ≤ (l3.length : Int)
         ·rw [if_pos c20] at H
          have c20b0 := eq_true c20
          have c20b1 : decide ((ji15) ≤ (l3.length : Int)) = true := decide_eq_true c20
          clear c20
          obtain ⟨y105, hy105⟩ : ∃ y_ : List (List Int), y_ = (l3.take ((ji15) : Int).toNat) := ⟨_, rfl⟩
          replace H : ((trail_tells.f kj5 a0 t103 l2 y105 a4).bind fun bt110 => ((trail_digest.f 17 (([bt110.2.1, rd_L1 l3 (ji15)] : List (List Int)))).bind fun t120 => (some (bt110.1, t120, bt110.2.2)))) = some (r1, r2, r3) := hyA hy105 H
          have Ny105 := Aside0.mk hy105
          clear hy105
          replace H := Option.bind_eq_some_iff.mp H
          obtain ⟨⟨t110, t113, t116⟩, A210, H⟩ := H
          replace H : ((trail_digest.f 17 (([t113, rd_L1 l3 (ji15)] : List (List Int)))).bind fun t120 => (some (t110, t120, t116))) = some (r1, r2, r3) := H
          have A21 := Aside0.mk A210
          clear A210
          obtain ⟨y117, hy117⟩ : ∃ y_ : List (List Int), y_ = (([t113, rd_L1 l3 (ji15)] : List (List Int))) := ⟨_, rfl⟩
          replace H : ((trail_digest.f 17 y117).bind fun t120 => (some (t110, t120, t116))) = some (r1, r2, r3) := hyA hy117 H
          have Ny117 := Aside0.mk hy117
          clear hy117
          replace H := Option.bind_eq_some_iff.mp H
          obtain ⟨t120, A220, H⟩ := H
          replace H : (some (t110, t120, t116)) = some (r1, r2, r3) := H
          have A22 := Aside0.mk A220
          clear A220
          simp only [Option.some.injEq, Prod.mk.injEq] at H
          obtain ⟨rfl, rfl, rfl⟩ := H
          try go_wp2
          have n0_ := Aside0.mk (Kd.V_drew HO_2.out)
          have n1_ := Aside0.mk (Kd.V_drew HO_3.out)
          have n2_ := Aside0.mk (below_drew1 HB.out)
          clear HO_2
          clear HO_3
          clear HB
          have HO_2 := n0_
          have HO_3 := n1_
          have HB := n2_
          clear n0_ n1_ n2_
          have p104 : 0 ≤ ((ji15) : Int) := of_decide_eq_true asm_
          have q104 : (ji15) < (l3.length : Int) := of_decide_eq_true asm_
          obtain ⟨ad104, A104_0, c104_0, e104, hx104_0, hl104_0, hi104_0⟩ := at_L1 (Kd.V_reads' HO_3.out).2.2 (ji15) p104 q104
          cases e104
          obtain ⟨ce104, hce104, hMe104, hcc104⟩ := Kd.V_get HO_3.out [] (ji15) p104 (by first | exact q104 | exact of_decide_eq_true asm_ | (have e_ := (Kd.V_reads' HO_3.out).1; omega))
          obtain ⟨ua104_0, uc104_0, rfl, ul104_0, ge104_0⟩ := Kd.FK_slice_open hMe104
          have hv104_0 := hcc104 0 _ rfl
          rw [Nat.add_zero, show ((Kd.slice 5 (Kd.int .u8))).sz = 1 from rfl, Nat.mul_one] at hv104_0
          replace hv104_0 := Option.some.inj (hv104_0.symm.trans hx104_0)
          injection hv104_0 with hva_ hvn_ hvc_
          rw [hva_] at ge104_0
          rw [hvc_] at ul104_0
          have HL104_0 := Aside0.mk (show Kd.V (Kd.int .u8) 5 _ w.heap.size _ _ (rd_L1 l3 (ji15)) from Kd.V_mk ul104_0 ge104_0)
          clear hva_ hvn_ hvc_ ge104_0 ul104_0
          clear hcc104 hce104
          have HR104_0 := Aside0.mk hi104_0
          have HC104_0 := Aside0.mk hl104_0
          clear hi104_0 hl104_0
          replace p104 := eq_true p104
          replace q104 := eq_true q104
          refine start_ (n := 8) (S := fun w' => w'.cell? (ad104.add ((ji15)).toNat) = some (.slice A104_0 (rd_L1 l3 (ji15)).length c104_0)) (ds := []) #[false, false, false, false, false, false, false, false] (by kernel_rfl) rfl rfl (hx104_0) (fun hHeld => ?_); refine with_tabW trail_tells.tab10 trail_tells.bits10 (fun HT_ HW_ => ?_)
          generalize wc.drew = w23 at HO_2 HO_3 HB HL104_0 HR104_0 hx104_0 hHeld ⊢
          refine pureA (i := 0) (N := some 51) (fl 8 1) (any_of HT_.out (by kernel_rfl)) ?_
          refine pureA (i := 2) (N := some 53) (fl 8 5) (any_of HT_.out (by kernel_rfl)) ?_
          refine pureA (i := 3) (N := some 54) (fl 8 13) (any_of HT_.out (by kernel_rfl)) ?_
          refine pureA (i := 4) (N := some 55) (fl 8 29) (any_of HT_.out (by kernel_rfl)) ?_
          refine takeA (i := 5) (N := some 56) (fl 8 61) (take_ofW HT_.out HW_.out (by kernel_rfl)) hHeld ?_
          refine one_ (i := 1) (N := some 52) (fl 8 63) rfl rfl (one_of HT_.out (by kernel_rfl)) (by decide) (fun K hK => ?_)
          refine goes_ Tryd.func54 (by kernel_rfl) rfl #[.int .i64 a1] (by rfl) rfl rfl eqA ?_
          with_reducible refine (trail_half.calls a1 t103 _ A14.out).mono ?_
          rintro e w24 ⟨rfl, hb⟩
          have HS0_ := (hb.cell (World.block_lt_of_cell? _ _ (hHeld))).trans (hHeld)
          refine ⟨_, rfl, ?_⟩
          have n0_ := Aside0.mk (Kd.V_below (vL HO_2.out) hb)
          have n1_ := Aside0.mk (Kd.V_below (vL HO_3.out) hb)
          have n2_ := Aside0.mk (Kd.V_below (vL HL104_0.out) hb)
          have n3_ := Aside0.mk (Kd.C_below (by repeat (first | (with_reducible exact HR104_0.out) | (with_reducible refine Kd.C_alloc ?_ _) | (with_reducible refine Kd.C_drewN ?_ _) | (with_reducible refine Kd.C_drew ?_) | exact HR104_0.out)) hb)
          have n4_ := Aside0.mk (below_step bel hb)
          clear HO_2
          clear HO_3
          clear HL104_0
          clear HR104_0
          clear HB
          have HO_2 := n0_
          have HO_3 := n1_
          have HL104_0 := n2_
          have HR104_0 := n3_
          have HB := n4_
          clear n0_ n1_ n2_ n3_ n4_
          (try clear hb)
          (try clear hb2)
          (try clear hk)
          (try clear hi)
          refine hK.out _ _ (HS0_) (fun hHeld => ?_)
          clear hK K
          refine normA (some 52) ?_
          refine pureA (i := 6) (N := some 14) (fl 8 127) (any_of HT_.out (by kernel_rfl)) ?_
          refine pureA (i := 7) (N := some 15) (fl 8 255) (any_of HT_.out (by kernel_rfl)) ?_
          refine done_ (done_of HT_.out (by kernel_rfl)) ?_
          have q25 : ((ji15) : Int) ≤ ((l3.length : Int) : Int) := of_decide_eq_true asm_
          obtain ⟨i025, hi025, _, hsz25, _⟩ := info_parts info23
          have hroom25 : l3.length ≤ c3 := (Kd.V_reads' HO_3.out).2.1
          have hC25 : Kd.F (Kd.slice 5 (Kd.int .u8)) _ _ (some ad104) l3.length l3 := (Kd.V_at (base := w.heap.size) HO_3.out).2.2
          have hcut25 := cut_to3 (P := Tryd.prog) 22 23 .i64 Tryd.underlying22 hi025 (some ad104) l3.length c3 (ji15) (of_decide_eq_true asm_) q25 hroom25
          have hr25 := Kd.F_take (m := ((ji15) : Int).toNat) hC25 (by omega)
          have hy25 : y105.length = ((ji15) : Int).toNat := (by rw [Ny105.out, List.length_take]; omega)
          rw [← Ny105.out] at hr25
          rw [← hy25] at hcut25
          have HO109 := Aside0.mk (show Kd.V (Kd.slice 5 (Kd.int .u8)) 23 _ w.heap.size _ (.slice (some ad104) y105.length y105.length) y105 from Kd.V_mk (by omega) hr25)
          have HC109 := Aside0.mk (show y105.length ≤ y105.length from by omega)
          clear hr25 hC25 hroom25 hi025 hsz25
          have KY25 := Aside0.mk hy25
          clear hy25
          replace q25 := eq_true q25
          try go_wp2_with (first | ((with_reducible refine gate_callee (f := 64) rfl ?_); refine goesL_ (some 69) rfl rfl Tryd.func64 (by kernel_rfl) rfl #[.int .i64 a0, .int .i64 t103, .slice A2 l2.length c2, .slice (some ad104) y105.length y105.length, .bool a4] rfl eqA ?_; (with_reducible refine (ih kj5 (by have := HJ5.out; omega) a0 t103 (fun k_ => ((P2_ k_ ∨ P3_ k_) ∨ w.heap.size ≤ k_)) _ _ l2 (fun k_ => ((P2_ k_ ∨ P3_ k_) ∨ w.heap.size ≤ k_)) _ _ y105 a4 t110 t113 t116 _ (Glb.of HG bel) ?side1 ?side2 A21.out).mono ?_); (case side1 => exact HO_2.out); (case side2 => exact HO109.out); rintro e w26 ⟨v111, v114, rfl, ho0, ho1, hb⟩; refine ⟨_, rfl, ?_⟩; have n0_ := Aside0.mk (Kd.V_below (vL HO_2.out) hb); have n1_ := Aside0.mk (Kd.V_below (vL HO_3.out) hb); have n2_ := Aside0.mk (Kd.V_below (vL HL104_0.out) hb); have n3_ := Aside0.mk (Kd.V_below (vL HO109.out) hb); have n4_ := Aside0.mk (Kd.V_lower (Kd.V_mono (ok' := fun k_ => ((P2_ k_ ∨ P3_ k_) ∨ w.heap.size ≤ k_)) ho0 (fun k_ hk_ => Or.elim hk_ (fun hs_ => Or.elim hs_ (fun hs_ => hs_) (fun hs_ => hs_)) (fun hn_ => (.inr (Nat.le_trans (below_size bel) hn_))))) (below_size bel)); have n5_ := Aside0.mk (Kd.V_lower (Kd.V_mono (ok' := fun k_ => ((P2_ k_ ∨ P3_ k_) ∨ w.heap.size ≤ k_)) ho1 (fun k_ hk_ => Or.elim hk_ (fun hs_ => Or.elim hs_ (fun hs_ => hs_) (fun hs_ => hs_)) (fun hn_ => (.inr (Nat.le_trans (below_size bel) hn_))))) (below_size bel)); have n6_ := Aside0.mk (Kd.C_below (by repeat (first | (with_reducible exact HR104_0.out) | (with_reducible refine Kd.C_alloc ?_ _) | (with_reducible refine Kd.C_drewN ?_ _) | (with_reducible refine Kd.C_drew ?_) | exact HR104_0.out)) hb); have n7_ := Aside0.mk (below_step bel hb); clear HO_2; clear HO_3; clear HL104_0; clear HO109; clear HR104_0; clear HB; have HO_2 := n0_; have HO_3 := n1_; have HL104_0 := n2_; have HO109 := n3_; have HO112 := n4_; have HO115 := n5_; have HR104_0 := n6_; have HB := n7_; clear n0_ n1_ n2_ n3_ n4_ n5_ n6_ n7_; (try clear hb); (try clear hb2); (try clear hk); (try clear hi); (try clear ho0); (try clear ho1); obtain ⟨Ao27, co27, eo27⟩ := Kd.V_slice HO115.out; subst eo27) | ((with_reducible refine gate_dst (N := 76) rfl ?_); refine Kd.N_lit (Kd.slice 5 (Kd.int .u8)) _ 23 ?hg (N' := 76) ?hd (xs := ([t113, rd_L1 l3 (ji15)] : List (List Int))) (inner := [.slice Ao27 t113.length co27, .slice A104_0 (rd_L1 l3 (ji15)).length c104_0]) (ok := (fun k_ => ((P2_ k_ ∨ P3_ k_) ∨ w.heap.size ≤ k_))) (okp := (fun k_ => ((P2_ k_ ∨ P3_ k_) ∨ w.heap.size ≤ k_))) ?hr ?hp (fun _ hk => hk) ((show ∀ k_, w26.heap.size ≤ k_ → (fun k_ => ((P2_ k_ ∨ P3_ k_) ∨ w.heap.size ≤ k_)) k_ from fun k_ hk => (.inr (Nat.le_trans (below_size bel) hk))) _ (Nat.le_refl _)) (Below.refl _ _) (Nat.le_refl _) (by simp) ?_; (case hd => rfl); (case hg => rfl); (case hr => first | (go_simp; done) | (go_simp; rfl)); (case hp => exact (Reps.one (show Kd.FK (Kd.slice 5 (Kd.int .u8)) _ _ t113 [.slice Ao27 t113.length co27] from (Kd.FK_slice_mk (Kd.V_reads' (Kd.V_mono (ok' := (fun k_ => ((P2_ k_ ∨ P3_ k_) ∨ w.heap.size ≤ k_))) (HO115.out) (fun k_ hk => hk))).2.1 (Kd.V_F (Kd.V_mono (ok' := (fun k_ => ((P2_ k_ ∨ P3_ k_) ∨ w.heap.size ≤ k_))) (HO115.out) (fun k_ hk => hk))))) (Reps.one (show Kd.FK (Kd.slice 5 (Kd.int .u8)) _ _ (rd_L1 l3 (ji15)) [.slice A104_0 (rd_L1 l3 (ji15)).length c104_0] from (Kd.FK_slice_mk (Kd.V_reads' (Kd.V_mono (ok' := (fun k_ => ((P2_ k_ ∨ P3_ k_) ∨ w.heap.size ≤ k_))) (HL104_0.out) (fun k_ hk => hk))).2.1 (Kd.V_F (Kd.V_mono (ok' := (fun k_ => ((P2_ k_ ∨ P3_ k_) ∨ w.heap.size ≤ k_))) (HL104_0.out) (fun k_ hk => hk))))) (Reps.none _ _)))); intro v118 w28 ho29 hb hg_ hnew_; clear hg_ hnew_; (first | rw [← Ny117.out] at ho29 | (simp only [Int.reduceToNat] at ho29; rw [← Ny117.out] at ho29)); have n0_ := Aside0.mk (Kd.V_elder' (vL HO_2.out) (Kd.N_base ho29) hb); have n1_ := Aside0.mk (Kd.V_elder' (vL HO_3.out) (Kd.N_base ho29) hb); have n2_ := Aside0.mk (Kd.V_elder' (vL HL104_0.out) (Kd.N_base ho29) hb); have n3_ := Aside0.mk (Kd.V_elder' (vL HO109.out) (Kd.N_base ho29) hb); have n4_ := Aside0.mk (Kd.V_elder' (vL HO112.out) (Kd.N_base ho29) hb); have n5_ := Aside0.mk (Kd.V_elder' (vL HO115.out) (Kd.N_base ho29) hb); have n6_ := Aside0.mk (Kd.N_lower ho29 (below_size bel)); have n7_ := Aside0.mk (Kd.C_below (by repeat (first | (with_reducible exact HR104_0.out) | (with_reducible refine Kd.C_alloc ?_ _) | (with_reducible refine Kd.C_drewN ?_ _) | (with_reducible refine Kd.C_drew ?_) | exact HR104_0.out)) hb); have n8_ := Aside0.mk (below_step bel hb); clear HO_2; clear HO_3; clear HL104_0; clear HO109; clear HO112; clear HO115; clear HR104_0; clear HB; have HO_2 := n0_; have HO_3 := n1_; have HL104_0 := n2_; have HO109 := n3_; have HO112 := n4_; have HO115 := n5_; have HO119 := n6_; have HR104_0 := n7_; have HB := n8_; clear n0_ n1_ n2_ n3_ n4_ n5_ n6_ n7_ n8_; clear hb ho29; obtain ⟨Ao30, co30, eo30⟩ := Kd.N_slice HO119.out; subst eo30) | ((with_reducible refine gate_callee (f := 53) rfl ?_); refine goesL_ (some 77) rfl rfl Tryd.func53 (by kernel_rfl) rfl #[.int .u8 17, .slice Ao30 y117.length co30] rfl eqA ?_; (with_reducible refine (trail_digest.calls 17 _ _ y117 t120 _ (Glb.of HG bel) ?side1 ?side2 A22.out).mono ?_); (case side1 => exact cL (Kd.N_reads' HO119.out).2.2); (case side2 => exact (Kd.N_reads' HO119.out).2.1); rintro e w31 ⟨v121, rfl, ho0, hb⟩; refine ⟨_, rfl, ?_⟩; have n0_ := Aside0.mk (Kd.V_elder' (vL HO_2.out) (Kd.R_base ho0) hb); have n1_ := Aside0.mk (Kd.V_elder' (vL HO_3.out) (Kd.R_base ho0) hb); have n2_ := Aside0.mk (Kd.V_elder' (vL HL104_0.out) (Kd.R_base ho0) hb); have n3_ := Aside0.mk (Kd.V_elder' (vL HO109.out) (Kd.R_base ho0) hb); have n4_ := Aside0.mk (Kd.V_elder' (vL HO112.out) (Kd.R_base ho0) hb); have n5_ := Aside0.mk (Kd.V_elder' (vL HO115.out) (Kd.R_base ho0) hb); have n6_ := Aside0.mk (Kd.N_elder' (nL HO119.out) (Kd.R_base ho0) hb); have n7_ := Aside0.mk (Kd.R_lower (Kd.R_newM (M := fun k_ => (w.heap.size ≤ k_)) ho0 (below_size bel) (fun k_ h_ => h_)) (below_size bel)); have n8_ := Aside0.mk (Kd.C_below (by repeat (first | (with_reducible exact HR104_0.out) | (with_reducible refine Kd.C_alloc ?_ _) | (with_reducible refine Kd.C_drewN ?_ _) | (with_reducible refine Kd.C_drew ?_) | exact HR104_0.out)) hb); have n9_ := Aside0.mk (below_step bel hb); clear HO_2; clear HO_3; clear HL104_0; clear HO109; clear HO112; clear HO115; clear HO119; clear HR104_0; clear HB; have HO_2 := n0_; have HO_3 := n1_; have HL104_0 := n2_; have HO109 := n3_; have HO112 := n4_; have HO115 := n5_; have HO119 := n6_; have HO122 := n7_; have HR104_0 := n8_; have HB := n9_; clear n0_ n1_ n2_ n3_ n4_ n5_ n6_ n7_ n8_ n9_; (try clear hb); (try clear hb2); (try clear hk); (try clear hi); (try clear ho0)))
          go_ret3
          exact ⟨_, _, by first | rfl | (simp [errW_none, errW_some] <;> rfl) | (simp only [← hji15]; first | rfl | (simp [errW_none, errW_some] <;> rfl)) | (simp [*, errW_none, errW_some] <;> rfl), by (with_reducible repeat (first | apply Kd.V_alloc | apply Kd.V_drewN | apply Kd.V_drew)); exact Kd.V_mono HO112.out (fun _ hk => hk.1.1), Kd.V_mono (Kd.R_V (by (with_reducible repeat (first | apply Kd.R_alloc | apply Kd.R_drewN | apply Kd.R_drew)); exact Kd.R_mono HO122.out (fun _ hk => hk.1))) (fun k_ hk => by first | exact ⟨(.inr (hk.1)), hk.2⟩ | exact (.inr (hk))), by repeat (first | (with_reducible first | exact HB.out | apply below_alloc | apply pw_below_drewN | apply below_drew1) | exact HB.out)⟩
         ·rw [if_neg c20] at H
          exact absurd H (by simp)
        ·rw [if_neg c18] at H
         have c18b0 : decide (a0 ≤ t103) = false := decide_eq_false c18
         clear c18
         have c32b0 := eq_true (of_decide_eq_true asm_ : 0 ≤ (ji15))
         by_cases c33 : (ji15) ≤ (l3.length : Int)
         ·rw [if_pos c33] at H
          have c33b0 := eq_true c33
          have c33b1 : decide ((ji15) ≤ (l3.length : Int)) = true := decide_eq_true c33
          clear c33
          obtain ⟨y123, hy123⟩ : ∃ y_ : List (List Int), y_ = (l3.take ((ji15) : Int).toNat) := ⟨_, rfl⟩
          replace H : ((trail_tells.f kj5 (wrap64 (a0 - t103)) (wrap64 (a1 - t103)) l2 y123 false).bind fun bt128 => ((trail_digest.f 17 (([rd_L1 l3 (ji15), bt128.1] : List (List Int)))).bind fun t138 => ((trail_digest.f 17 (([rd_L1 l3 (ji15), bt128.2.1] : List (List Int)))).bind fun t144 => (some (t138, t144, bt128.2.2))))) = some (r1, r2, r3) := hyA hy123 H
          have Ny123 := Aside0.mk hy123
          clear hy123
          replace H := Option.bind_eq_some_iff.mp H
          obtain ⟨⟨t128, t131, t134⟩, A340, H⟩ := H
          replace H : ((trail_digest.f 17 (([rd_L1 l3 (ji15), t128] : List (List Int)))).bind fun t138 => ((trail_digest.f 17 (([rd_L1 l3 (ji15), t131] : List (List Int)))).bind fun t144 => (some (t138, t144, t134)))) = some (r1, r2, r3) := H
          have A34 := Aside0.mk A340
          clear A340
          obtain ⟨y135, hy135⟩ : ∃ y_ : List (List Int), y_ = (([rd_L1 l3 (ji15), t128] : List (List Int))) := ⟨_, rfl⟩
          replace H : ((trail_digest.f 17 y135).bind fun t138 => ((trail_digest.f 17 (([rd_L1 l3 (ji15), t131] : List (List Int)))).bind fun t144 => (some (t138, t144, t134)))) = some (r1, r2, r3) := hyA hy135 H
          have Ny135 := Aside0.mk hy135
          clear hy135
          replace H := Option.bind_eq_some_iff.mp H
          obtain ⟨t138, A350, H⟩ := H
          replace H : ((trail_digest.f 17 (([rd_L1 l3 (ji15), t131] : List (List Int)))).bind fun t144 => (some (t138, t144, t134))) = some (r1, r2, r3) := H
          have A35 := Aside0.mk A350
          clear A350
          obtain ⟨y141, hy141⟩ : ∃ y_ : List (List Int), y_ = (([rd_L1 l3 (ji15), t131] : List (List Int))) := ⟨_, rfl⟩
          replace H : ((trail_digest.f 17 y141).bind fun t144 => (some (t138, t144, t134))) = some (r1, r2, r3) := hyA hy141 H
          have Ny141 := Aside0.mk hy141
          clear hy141
          replace H := Option.bind_eq_some_iff.mp H
          obtain ⟨t144, A360, H⟩ := H
          replace H : (some (t138, t144, t134)) = some (r1, r2, r3) := H
          have A36 := Aside0.mk A360
          clear A360
          simp only [Option.some.injEq, Prod.mk.injEq] at H
          obtain ⟨rfl, rfl, rfl⟩ := H
          try go_wp2
          have n0_ := Aside0.mk (Kd.V_drew HO_2.out)
          have n1_ := Aside0.mk (Kd.V_drew HO_3.out)
          have n2_ := Aside0.mk (below_drew1 HB.out)
          clear HO_2
          clear HO_3
          clear HB
          have HO_2 := n0_
          have HO_3 := n1_
          have HB := n2_
          clear n0_ n1_ n2_
          have p104 : 0 ≤ ((ji15) : Int) := of_decide_eq_true asm_
          have q104 : (ji15) < (l3.length : Int) := of_decide_eq_true asm_
          obtain ⟨ad104, A104_0, c104_0, e104, hx104_0, hl104_0, hi104_0⟩ := at_L1 (Kd.V_reads' HO_3.out).2.2 (ji15) p104 q104
          cases e104
          obtain ⟨ce104, hce104, hMe104, hcc104⟩ := Kd.V_get HO_3.out [] (ji15) p104 (by first | exact q104 | exact of_decide_eq_true asm_ | (have e_ := (Kd.V_reads' HO_3.out).1; omega))
          obtain ⟨ua104_0, uc104_0, rfl, ul104_0, ge104_0⟩ := Kd.FK_slice_open hMe104
          have hv104_0 := hcc104 0 _ rfl
          rw [Nat.add_zero, show ((Kd.slice 5 (Kd.int .u8))).sz = 1 from rfl, Nat.mul_one] at hv104_0
          replace hv104_0 := Option.some.inj (hv104_0.symm.trans hx104_0)
          injection hv104_0 with hva_ hvn_ hvc_
          rw [hva_] at ge104_0
          rw [hvc_] at ul104_0
          have HL104_0 := Aside0.mk (show Kd.V (Kd.int .u8) 5 _ w.heap.size _ _ (rd_L1 l3 (ji15)) from Kd.V_mk ul104_0 ge104_0)
          clear hva_ hvn_ hvc_ ge104_0 ul104_0
          clear hcc104 hce104
          have HR104_0 := Aside0.mk hi104_0
          have HC104_0 := Aside0.mk hl104_0
          clear hi104_0 hl104_0
          replace p104 := eq_true p104
          replace q104 := eq_true q104
          refine start_ (n := 8) (S := fun w' => w'.cell? (ad104.add ((ji15)).toNat) = some (.slice A104_0 (rd_L1 l3 (ji15)).length c104_0)) (ds := []) #[false, false, false, false, false, false, false, false] (by kernel_rfl) rfl rfl (hx104_0) (fun hHeld => ?_); refine with_tabW trail_tells.tab10 trail_tells.bits10 (fun HT_ HW_ => ?_)
          generalize wc.drew = w37 at HO_2 HO_3 HB HL104_0 HR104_0 hx104_0 hHeld ⊢
          refine pureA (i := 0) (N := some 51) (fl 8 1) (any_of HT_.out (by kernel_rfl)) ?_
          refine pureA (i := 2) (N := some 53) (fl 8 5) (any_of HT_.out (by kernel_rfl)) ?_
          refine pureA (i := 3) (N := some 54) (fl 8 13) (any_of HT_.out (by kernel_rfl)) ?_
          refine pureA (i := 4) (N := some 55) (fl 8 29) (any_of HT_.out (by kernel_rfl)) ?_
          refine takeA (i := 5) (N := some 56) (fl 8 61) (take_ofW HT_.out HW_.out (by kernel_rfl)) hHeld ?_
          refine one_ (i := 1) (N := some 52) (fl 8 63) rfl rfl (one_of HT_.out (by kernel_rfl)) (by decide) (fun K hK => ?_)
          refine goes_ Tryd.func54 (by kernel_rfl) rfl #[.int .i64 a1] (by rfl) rfl rfl eqA ?_
          with_reducible refine (trail_half.calls a1 t103 _ A14.out).mono ?_
          rintro e w38 ⟨rfl, hb⟩
          have HS0_ := (hb.cell (World.block_lt_of_cell? _ _ (hHeld))).trans (hHeld)
          refine ⟨_, rfl, ?_⟩
          have n0_ := Aside0.mk (Kd.V_below (vL HO_2.out) hb)
          have n1_ := Aside0.mk (Kd.V_below (vL HO_3.out) hb)
          have n2_ := Aside0.mk (Kd.V_below (vL HL104_0.out) hb)
          have n3_ := Aside0.mk (Kd.C_below (by repeat (first | (with_reducible exact HR104_0.out) | (with_reducible refine Kd.C_alloc ?_ _) | (with_reducible refine Kd.C_drewN ?_ _) | (with_reducible refine Kd.C_drew ?_) | exact HR104_0.out)) hb)
          have n4_ := Aside0.mk (below_step bel hb)
          clear HO_2
          clear HO_3
          clear HL104_0
          clear HR104_0
          clear HB
          have HO_2 := n0_
          have HO_3 := n1_
          have HL104_0 := n2_
          have HR104_0 := n3_
          have HB := n4_
          clear n0_ n1_ n2_ n3_ n4_
          (try clear hb)
          (try clear hb2)
          (try clear hk)
          (try clear hi)
          refine hK.out _ _ (HS0_) (fun hHeld => ?_)
          clear hK K
          refine normA (some 52) ?_
          refine pureA (i := 6) (N := some 14) (fl 8 127) (any_of HT_.out (by kernel_rfl)) ?_
          refine pureA (i := 7) (N := some 15) (fl 8 255) (any_of HT_.out (by kernel_rfl)) ?_
          refine done_ (done_of HT_.out (by kernel_rfl)) ?_
          have q39 : ((ji15) : Int) ≤ ((l3.length : Int) : Int) := of_decide_eq_true asm_
          obtain ⟨i039, hi039, _, hsz39, _⟩ := info_parts info23
          have hroom39 : l3.length ≤ c3 := (Kd.V_reads' HO_3.out).2.1
          have hC39 : Kd.F (Kd.slice 5 (Kd.int .u8)) _ _ (some ad104) l3.length l3 := (Kd.V_at (base := w.heap.size) HO_3.out).2.2
          have hcut39 := cut_to3 (P := Tryd.prog) 22 23 .i64 Tryd.underlying22 hi039 (some ad104) l3.length c3 (ji15) (of_decide_eq_true asm_) q39 hroom39
          have hr39 := Kd.F_take (m := ((ji15) : Int).toNat) hC39 (by omega)
          have hy39 : y123.length = ((ji15) : Int).toNat := (by rw [Ny123.out, List.length_take]; omega)
          rw [← Ny123.out] at hr39
          rw [← hy39] at hcut39
          have HO127 := Aside0.mk (show Kd.V (Kd.slice 5 (Kd.int .u8)) 23 _ w.heap.size _ (.slice (some ad104) y123.length y123.length) y123 from Kd.V_mk (by omega) hr39)
          have HC127 := Aside0.mk (show y123.length ≤ y123.length from by omega)
          clear hr39 hC39 hroom39 hi039 hsz39
          have KY39 := Aside0.mk hy39
          clear hy39
          replace q39 := eq_true q39
          try go_wp2_with (first | ((with_reducible refine gate_callee (f := 64) rfl ?_); refine goesL_ (some 91) rfl rfl Tryd.func64 (by kernel_rfl) rfl #[.int .i64 (wrap64 (a0 - t103)), .int .i64 (wrap64 (a1 - t103)), .slice A2 l2.length c2, .slice (some ad104) y123.length y123.length, .bool false] rfl eqA ?_; (with_reducible refine (ih kj5 (by have := HJ5.out; omega) (wrap64 (a0 - t103)) (wrap64 (a1 - t103)) (fun k_ => ((P2_ k_ ∨ P3_ k_) ∨ w.heap.size ≤ k_)) _ _ l2 (fun k_ => ((P2_ k_ ∨ P3_ k_) ∨ w.heap.size ≤ k_)) _ _ y123 false t128 t131 t134 _ (Glb.of HG bel) ?side1 ?side2 A34.out).mono ?_); (case side1 => exact HO_2.out); (case side2 => exact HO127.out); rintro e w40 ⟨v129, v132, rfl, ho0, ho1, hb⟩; refine ⟨_, rfl, ?_⟩; have n0_ := Aside0.mk (Kd.V_below (vL HO_2.out) hb); have n1_ := Aside0.mk (Kd.V_below (vL HO_3.out) hb); have n2_ := Aside0.mk (Kd.V_below (vL HL104_0.out) hb); have n3_ := Aside0.mk (Kd.V_below (vL HO127.out) hb); have n4_ := Aside0.mk (Kd.V_lower (Kd.V_mono (ok' := fun k_ => ((P2_ k_ ∨ P3_ k_) ∨ w.heap.size ≤ k_)) ho0 (fun k_ hk_ => Or.elim hk_ (fun hs_ => Or.elim hs_ (fun hs_ => hs_) (fun hs_ => hs_)) (fun hn_ => (.inr (Nat.le_trans (below_size bel) hn_))))) (below_size bel)); have n5_ := Aside0.mk (Kd.V_lower (Kd.V_mono (ok' := fun k_ => ((P2_ k_ ∨ P3_ k_) ∨ w.heap.size ≤ k_)) ho1 (fun k_ hk_ => Or.elim hk_ (fun hs_ => Or.elim hs_ (fun hs_ => hs_) (fun hs_ => hs_)) (fun hn_ => (.inr (Nat.le_trans (below_size bel) hn_))))) (below_size bel)); have n6_ := Aside0.mk (Kd.C_below (by repeat (first | (with_reducible exact HR104_0.out) | (with_reducible refine Kd.C_alloc ?_ _) | (with_reducible refine Kd.C_drewN ?_ _) | (with_reducible refine Kd.C_drew ?_) | exact HR104_0.out)) hb); have n7_ := Aside0.mk (below_step bel hb); clear HO_2; clear HO_3; clear HL104_0; clear HO127; clear HR104_0; clear HB; have HO_2 := n0_; have HO_3 := n1_; have HL104_0 := n2_; have HO127 := n3_; have HO130 := n4_; have HO133 := n5_; have HR104_0 := n6_; have HB := n7_; clear n0_ n1_ n2_ n3_ n4_ n5_ n6_ n7_; (try clear hb); (try clear hb2); (try clear hk); (try clear hi); (try clear ho0); (try clear ho1); obtain ⟨Ao41, co41, eo41⟩ := Kd.V_slice HO130.out; subst eo41) | ((with_reducible refine gate_dst (N := 97) rfl ?_); refine Kd.N_lit (Kd.slice 5 (Kd.int .u8)) _ 23 ?hg (N' := 97) ?hd (xs := ([rd_L1 l3 (ji15), t128] : List (List Int))) (inner := [.slice A104_0 (rd_L1 l3 (ji15)).length c104_0, .slice Ao41 t128.length co41]) (ok := (fun k_ => ((P2_ k_ ∨ P3_ k_) ∨ w.heap.size ≤ k_))) (okp := (fun k_ => ((P2_ k_ ∨ P3_ k_) ∨ w.heap.size ≤ k_))) ?hr ?hp (fun _ hk => hk) ((show ∀ k_, w40.heap.size ≤ k_ → (fun k_ => ((P2_ k_ ∨ P3_ k_) ∨ w.heap.size ≤ k_)) k_ from fun k_ hk => (.inr (Nat.le_trans (below_size bel) hk))) _ (Nat.le_refl _)) (Below.refl _ _) (Nat.le_refl _) (by simp) ?_; (case hd => rfl); (case hg => rfl); (case hr => first | (go_simp; done) | (go_simp; rfl)); (case hp => exact (Reps.one (show Kd.FK (Kd.slice 5 (Kd.int .u8)) _ _ (rd_L1 l3 (ji15)) [.slice A104_0 (rd_L1 l3 (ji15)).length c104_0] from (Kd.FK_slice_mk (Kd.V_reads' (Kd.V_mono (ok' := (fun k_ => ((P2_ k_ ∨ P3_ k_) ∨ w.heap.size ≤ k_))) (HL104_0.out) (fun k_ hk => hk))).2.1 (Kd.V_F (Kd.V_mono (ok' := (fun k_ => ((P2_ k_ ∨ P3_ k_) ∨ w.heap.size ≤ k_))) (HL104_0.out) (fun k_ hk => hk))))) (Reps.one (show Kd.FK (Kd.slice 5 (Kd.int .u8)) _ _ t128 [.slice Ao41 t128.length co41] from (Kd.FK_slice_mk (Kd.V_reads' (Kd.V_mono (ok' := (fun k_ => ((P2_ k_ ∨ P3_ k_) ∨ w.heap.size ≤ k_))) (HO130.out) (fun k_ hk => hk))).2.1 (Kd.V_F (Kd.V_mono (ok' := (fun k_ => ((P2_ k_ ∨ P3_ k_) ∨ w.heap.size ≤ k_))) (HO130.out) (fun k_ hk => hk))))) (Reps.none _ _)))); intro v136 w42 ho43 hb hg_ hnew_; clear hg_ hnew_; (first | rw [← Ny135.out] at ho43 | (simp only [Int.reduceToNat] at ho43; rw [← Ny135.out] at ho43)); have n0_ := Aside0.mk (Kd.V_elder' (vL HO_2.out) (Kd.N_base ho43) hb); have n1_ := Aside0.mk (Kd.V_elder' (vL HO_3.out) (Kd.N_base ho43) hb); have n2_ := Aside0.mk (Kd.V_elder' (vL HL104_0.out) (Kd.N_base ho43) hb); have n3_ := Aside0.mk (Kd.V_elder' (vL HO127.out) (Kd.N_base ho43) hb); have n4_ := Aside0.mk (Kd.V_elder' (vL HO130.out) (Kd.N_base ho43) hb); have n5_ := Aside0.mk (Kd.V_elder' (vL HO133.out) (Kd.N_base ho43) hb); have n6_ := Aside0.mk (Kd.N_lower ho43 (below_size bel)); have n7_ := Aside0.mk (Kd.C_below (by repeat (first | (with_reducible exact HR104_0.out) | (with_reducible refine Kd.C_alloc ?_ _) | (with_reducible refine Kd.C_drewN ?_ _) | (with_reducible refine Kd.C_drew ?_) | exact HR104_0.out)) hb); have n8_ := Aside0.mk (below_step bel hb); clear HO_2; clear HO_3; clear HL104_0; clear HO127; clear HO130; clear HO133; clear HR104_0; clear HB; have HO_2 := n0_; have HO_3 := n1_; have HL104_0 := n2_; have HO127 := n3_; have HO130 := n4_; have HO133 := n5_; have HO137 := n6_; have HR104_0 := n7_; have HB := n8_; clear n0_ n1_ n2_ n3_ n4_ n5_ n6_ n7_ n8_; clear hb ho43; obtain ⟨Ao44, co44, eo44⟩ := Kd.N_slice HO137.out; subst eo44) | ((with_reducible refine gate_callee (f := 53) rfl ?_); refine goesL_ (some 98) rfl rfl Tryd.func53 (by kernel_rfl) rfl #[.int .u8 17, .slice Ao44 y135.length co44] rfl eqA ?_; (with_reducible refine (trail_digest.calls 17 _ _ y135 t138 _ (Glb.of HG bel) ?side1 ?side2 A35.out).mono ?_); (case side1 => exact cL (Kd.N_reads' HO137.out).2.2); (case side2 => exact (Kd.N_reads' HO137.out).2.1); rintro e w45 ⟨v139, rfl, ho0, hb⟩; refine ⟨_, rfl, ?_⟩; have n0_ := Aside0.mk (Kd.V_elder' (vL HO_2.out) (Kd.R_base ho0) hb); have n1_ := Aside0.mk (Kd.V_elder' (vL HO_3.out) (Kd.R_base ho0) hb); have n2_ := Aside0.mk (Kd.V_elder' (vL HL104_0.out) (Kd.R_base ho0) hb); have n3_ := Aside0.mk (Kd.V_elder' (vL HO127.out) (Kd.R_base ho0) hb); have n4_ := Aside0.mk (Kd.V_elder' (vL HO130.out) (Kd.R_base ho0) hb); have n5_ := Aside0.mk (Kd.V_elder' (vL HO133.out) (Kd.R_base ho0) hb); have n6_ := Aside0.mk (Kd.N_elder' (nL HO137.out) (Kd.R_base ho0) hb); have n7_ := Aside0.mk (Kd.R_lower (Kd.R_newM (M := fun k_ => (w.heap.size ≤ k_)) ho0 (below_size bel) (fun k_ h_ => h_)) (below_size bel)); have n8_ := Aside0.mk (Kd.C_below (by repeat (first | (with_reducible exact HR104_0.out) | (with_reducible refine Kd.C_alloc ?_ _) | (with_reducible refine Kd.C_drewN ?_ _) | (with_reducible refine Kd.C_drew ?_) | exact HR104_0.out)) hb); have n9_ := Aside0.mk (below_step bel hb); clear HO_2; clear HO_3; clear HL104_0; clear HO127; clear HO130; clear HO133; clear HO137; clear HR104_0; clear HB; have HO_2 := n0_; have HO_3 := n1_; have HL104_0 := n2_; have HO127 := n3_; have HO130 := n4_; have HO133 := n5_; have HO137 := n6_; have HO140 := n7_; have HR104_0 := n8_; have HB := n9_; clear n0_ n1_ n2_ n3_ n4_ n5_ n6_ n7_ n8_ n9_; (try clear hb); (try clear hb2); (try clear hk); (try clear hi); (try clear ho0); obtain ⟨Ao46, co46, eo46⟩ := Kd.V_slice HO133.out; subst eo46) | ((with_reducible refine gate_dst (N := 101) rfl ?_); refine Kd.N_lit (Kd.slice 5 (Kd.int .u8)) _ 23 ?hg (N' := 101) ?hd (xs := ([rd_L1 l3 (ji15), t131] : List (List Int))) (inner := [.slice A104_0 (rd_L1 l3 (ji15)).length c104_0, .slice Ao46 t131.length co46]) (ok := (fun k_ => ((P2_ k_ ∨ P3_ k_) ∨ w.heap.size ≤ k_) ∧ some k_ ≠ (.slice Ao44 y135.length co44 : Value).ownBlock ∧ some k_ ≠ (v139 : Value).ownBlock)) (okp := (fun k_ => ((P2_ k_ ∨ P3_ k_) ∨ w.heap.size ≤ k_) ∧ some k_ ≠ (.slice Ao44 y135.length co44 : Value).ownBlock ∧ some k_ ≠ (v139 : Value).ownBlock)) ?hr ?hp (fun _ hk => hk) ((show ∀ k_, w45.heap.size ≤ k_ → (fun k_ => ((P2_ k_ ∨ P3_ k_) ∨ w.heap.size ≤ k_) ∧ some k_ ≠ (.slice Ao44 y135.length co44 : Value).ownBlock ∧ some k_ ≠ (v139 : Value).ownBlock) k_ from fun k_ hk => ⟨(.inr (Nat.le_trans (below_size bel) hk)), Kd.fresh' (Kd.N_lt (nL HO137.out)) k_ hk, Kd.fresh' (Kd.R_lt (rL HO140.out)) k_ hk⟩) _ (Nat.le_refl _)) (Below.refl _ _) (Nat.le_refl _) (by simp) ?_; (case hd => rfl); (case hg => rfl); (case hr => first | (go_simp; done) | (go_simp; rfl)); (case hp => exact (Reps.one (show Kd.FK (Kd.slice 5 (Kd.int .u8)) _ _ (rd_L1 l3 (ji15)) [.slice A104_0 (rd_L1 l3 (ji15)).length c104_0] from (Kd.FK_slice_mk (Kd.V_reads' (Kd.V_mono (ok' := (fun k_ => ((P2_ k_ ∨ P3_ k_) ∨ w.heap.size ≤ k_) ∧ some k_ ≠ (.slice Ao44 y135.length co44 : Value).ownBlock ∧ some k_ ≠ (v139 : Value).ownBlock)) (HL104_0.out) (fun k_ hk => ⟨hk.1.1, ⟨hk.1.2, hk.2⟩⟩))).2.1 (Kd.V_F (Kd.V_mono (ok' := (fun k_ => ((P2_ k_ ∨ P3_ k_) ∨ w.heap.size ≤ k_) ∧ some k_ ≠ (.slice Ao44 y135.length co44 : Value).ownBlock ∧ some k_ ≠ (v139 : Value).ownBlock)) (HL104_0.out) (fun k_ hk => ⟨hk.1.1, ⟨hk.1.2, hk.2⟩⟩))))) (Reps.one (show Kd.FK (Kd.slice 5 (Kd.int .u8)) _ _ t131 [.slice Ao46 t131.length co46] from (Kd.FK_slice_mk (Kd.V_reads' (Kd.V_mono (ok' := (fun k_ => ((P2_ k_ ∨ P3_ k_) ∨ w.heap.size ≤ k_) ∧ some k_ ≠ (.slice Ao44 y135.length co44 : Value).ownBlock ∧ some k_ ≠ (v139 : Value).ownBlock)) (HO133.out) (fun k_ hk => ⟨hk.1.1, ⟨hk.1.2, hk.2⟩⟩))).2.1 (Kd.V_F (Kd.V_mono (ok' := (fun k_ => ((P2_ k_ ∨ P3_ k_) ∨ w.heap.size ≤ k_) ∧ some k_ ≠ (.slice Ao44 y135.length co44 : Value).ownBlock ∧ some k_ ≠ (v139 : Value).ownBlock)) (HO133.out) (fun k_ hk => ⟨hk.1.1, ⟨hk.1.2, hk.2⟩⟩))))) (Reps.none _ _)))); intro v142 w47 ho48 hb hg_ hnew_; clear hg_ hnew_; (first | rw [← Ny141.out] at ho48 | (simp only [Int.reduceToNat] at ho48; rw [← Ny141.out] at ho48)); have n0_ := Aside0.mk (Kd.V_elder' (vL HO_2.out) (Kd.N_base ho48) hb); have n1_ := Aside0.mk (Kd.V_elder' (vL HO_3.out) (Kd.N_base ho48) hb); have n2_ := Aside0.mk (Kd.V_elder' (vL HL104_0.out) (Kd.N_base ho48) hb); have n3_ := Aside0.mk (Kd.V_elder' (vL HO127.out) (Kd.N_base ho48) hb); have n4_ := Aside0.mk (Kd.V_elder' (vL HO130.out) (Kd.N_base ho48) hb); have n5_ := Aside0.mk (Kd.V_elder' (vL HO133.out) (Kd.N_base ho48) hb); have n6_ := Aside0.mk (Kd.N_elder' (nL HO137.out) (Kd.N_base ho48) hb); have n7_ := Aside0.mk (Kd.R_below (rL HO140.out) hb); have n8_ := Aside0.mk (Kd.N_lower ho48 (below_size bel)); have n9_ := Aside0.mk (Kd.C_below (by repeat (first | (with_reducible exact HR104_0.out) | (with_reducible refine Kd.C_alloc ?_ _) | (with_reducible refine Kd.C_drewN ?_ _) | (with_reducible refine Kd.C_drew ?_) | exact HR104_0.out)) hb); have n10_ := Aside0.mk (below_step bel hb); clear HO_2; clear HO_3; clear HL104_0; clear HO127; clear HO130; clear HO133; clear HO137; clear HO140; clear HR104_0; clear HB; have HO_2 := n0_; have HO_3 := n1_; have HL104_0 := n2_; have HO127 := n3_; have HO130 := n4_; have HO133 := n5_; have HO137 := n6_; have HO140 := n7_; have HO143 := n8_; have HR104_0 := n9_; have HB := n10_; clear n0_ n1_ n2_ n3_ n4_ n5_ n6_ n7_ n8_ n9_ n10_; clear hb ho48; obtain ⟨Ao49, co49, eo49⟩ := Kd.N_slice HO143.out; subst eo49) | ((with_reducible refine gate_callee (f := 53) rfl ?_); refine goesL_ (some 102) rfl rfl Tryd.func53 (by kernel_rfl) rfl #[.int .u8 17, .slice Ao49 y141.length co49] rfl eqA ?_; (with_reducible refine (trail_digest.calls 17 _ _ y141 t144 _ (Glb.of HG bel) ?side1 ?side2 A36.out).mono ?_); (case side1 => exact cL (Kd.N_reads' HO143.out).2.2); (case side2 => exact (Kd.N_reads' HO143.out).2.1); rintro e w50 ⟨v145, rfl, ho0, hb⟩; refine ⟨_, rfl, ?_⟩; have n0_ := Aside0.mk (Kd.V_elder' (vL HO_2.out) (Kd.R_base ho0) hb); have n1_ := Aside0.mk (Kd.V_elder' (vL HO_3.out) (Kd.R_base ho0) hb); have n2_ := Aside0.mk (Kd.V_elder' (vL HL104_0.out) (Kd.R_base ho0) hb); have n3_ := Aside0.mk (Kd.V_elder' (vL HO127.out) (Kd.R_base ho0) hb); have n4_ := Aside0.mk (Kd.V_elder' (vL HO130.out) (Kd.R_base ho0) hb); have n5_ := Aside0.mk (Kd.V_elder' (vL HO133.out) (Kd.R_base ho0) hb); have n6_ := Aside0.mk (Kd.N_elder' (nL HO137.out) (Kd.R_base ho0) hb); have n7_ := Aside0.mk (Kd.R_elder' (rL HO140.out) (Kd.R_base ho0) hb); have n8_ := Aside0.mk (Kd.N_elder' (nL HO143.out) (Kd.R_base ho0) hb); have n9_ := Aside0.mk (Kd.R_lower (Kd.R_new' (Kd.R_newM (M := fun k_ => (w.heap.size ≤ k_)) ho0 (below_size bel) (fun k_ h_ => h_)) (Kd.R_lt (rL HO140.out))) (below_size bel)); have n10_ := Aside0.mk (Kd.C_below (by repeat (first | (with_reducible exact HR104_0.out) | (with_reducible refine Kd.C_alloc ?_ _) | (with_reducible refine Kd.C_drewN ?_ _) | (with_reducible refine Kd.C_drew ?_) | exact HR104_0.out)) hb); have n11_ := Aside0.mk (below_step bel hb); clear HO_2; clear HO_3; clear HL104_0; clear HO127; clear HO130; clear HO133; clear HO137; clear HO140; clear HO143; clear HR104_0; clear HB; have HO_2 := n0_; have HO_3 := n1_; have HL104_0 := n2_; have HO127 := n3_; have HO130 := n4_; have HO133 := n5_; have HO137 := n6_; have HO140 := n7_; have HO143 := n8_; have HO146 := n9_; have HR104_0 := n10_; have HB := n11_; clear n0_ n1_ n2_ n3_ n4_ n5_ n6_ n7_ n8_ n9_ n10_ n11_; (try clear hb); (try clear hb2); (try clear hk); (try clear hi); (try clear ho0)))
          go_ret3
          exact ⟨_, _, by first | rfl | (simp [errW_none, errW_some] <;> rfl) | (simp only [← hji15]; first | rfl | (simp [errW_none, errW_some] <;> rfl)) | (simp [*, errW_none, errW_some] <;> rfl), Kd.V_mono (Kd.R_V (by (with_reducible repeat (first | apply Kd.R_alloc | apply Kd.R_drewN | apply Kd.R_drew)); exact Kd.R_mono HO140.out (fun _ hk => hk.1.1))) (fun k_ hk => by first | exact ⟨(.inr (hk.1)), hk.2⟩ | exact (.inr (hk))), Kd.V_mono (Kd.R_V (by (with_reducible repeat (first | apply Kd.R_alloc | apply Kd.R_drewN | apply Kd.R_drew)); exact Kd.R_mono HO146.out (fun _ hk => hk.1.1))) (fun k_ hk => by first | exact ⟨(.inr (hk.1)), hk.2⟩ | exact (.inr (hk))), by repeat (first | (with_reducible first | exact HB.out | apply below_alloc | apply pw_below_drewN | apply below_drew1) | exact HB.out)⟩
         ·rw [if_neg c33] at H
          exact absurd H (by simp)
       ·rw [if_neg c17] at H
        exact absurd H (by simp)
      ·rw [if_neg c16] at H
       exact absurd H (by simp)

/-! ### trail_Begins: function 41 -/
def trail_Begins.j0 : Nat → List Int → Int → List Int → List Int → Int → List (List Int) → Bool → Option (Int)
 | 0, _, _, _, _, _, _, _ => none
 | k + 1, x0, x1, x2, x3, x4, x5, x43 => if x43 = true then (some 1) else ((trail_tells.f k x1 x4 x2 x5 true).bind fun bt152 => (if bt152.2.2 = true then ((bytes_Equal.f bt152.1 x2).bind fun t159 => (if t159 = true then ((trail_head.f k x1 x2).bind fun t160 => ((bytes_Equal.f t160 x0).bind fun t163 => (if t163 = true then ((trail_head.f k x4 bt152.2.1).bind fun t164 => ((bytes_Equal.f t164 x3).bind fun t167 => (if t167 = true then (some 0) else (some 50)))) else (some 50)))) else (some 50))) else (some 50)))
def trail_Begins.f (k : Nat) (l0 : List Int) (a1 : Int) (l2 : List Int) (l3 : List Int) (a4 : Int) (l5 : List (List Int)) : Option (Int) := if a4 < 1 then (trail_Begins.j0 k l0 a1 l2 l3 a4 l5 true) else (if a4 > 4096 then (trail_Begins.j0 k l0 a1 l2 l3 a4 l5 true) else (if a1 < 1 then (trail_Begins.j0 k l0 a1 l2 l3 a4 l5 true) else (if a1 > a4 then (trail_Begins.j0 k l0 a1 l2 l3 a4 l5 true) else ((trail_digests.f (([l0, l2, l3] : List (List Int)))).bind fun t150 => (if t150 = true then ((trail_digests.f l5).bind fun t151 => (trail_Begins.j0 k l0 a1 l2 l3 a4 l5 (!t151))) else (trail_Begins.j0 k l0 a1 l2 l3 a4 l5 true))))))
theorem trail_Begins.mono_l : ∀ k, (∀ y0 y1 y2 y3 y4 y5 y6, LeO (trail_Begins.j0 k y0 y1 y2 y3 y4 y5 y6) (trail_Begins.j0 (k + 1) y0 y1 y2 y3 y4 y5 y6))
 | 0 => fun _ _ _ _ _ _ _ r h => by simp [trail_Begins.j0] at h
 | k + 1 => by
  have ih0 := trail_Begins.mono_l k
  ·intro y0 y1 y2 y3 y4 y5 y6
   unfold trail_Begins.j0
   repeat' first
   | (with_reducible exact ih0 _ _ _ _ _ _ _)
   | (with_reducible exact trail_head.mono _ _ _)
   | (with_reducible exact trail_tells.mono _ _ _ _ _ _)
   | (with_reducible exact LeO.refl _)
   | (with_reducible exact LeO.none _)
   | (with_reducible refine LeO.ite ?_ ?_)
   | (with_reducible refine LeO.bind ?_ (fun _ => ?_))
   | exact ih0 _ _ _ _ _ _ _
   | exact trail_head.mono _ _ _
   | exact trail_tells.mono _ _ _ _ _ _
   | exact LeO.none _
   | refine LeO.ite ?_ ?_
   | refine LeO.bind ?_ (fun _ => ?_)
theorem trail_Begins.mono : ∀ a0 a1 a2 a3 a4 a5 k, LeO (trail_Begins.f k a0 a1 a2 a3 a4 a5) (trail_Begins.f (k + 1) a0 a1 a2 a3 a4 a5) := by
 intro a0 a1 a2 a3 a4 a5 k
 have ih0 := trail_Begins.mono_l k
 unfold trail_Begins.f
 repeat' first
   | (with_reducible exact ih0 _ _ _ _ _ _ _)
   | (with_reducible exact trail_head.mono _ _ _)
   | (with_reducible exact trail_tells.mono _ _ _ _ _ _)
   | (with_reducible exact LeO.refl _)
   | (with_reducible exact LeO.none _)
   | (with_reducible refine LeO.ite ?_ ?_)
   | (with_reducible refine LeO.bind ?_ (fun _ => ?_))
   | exact ih0 _ _ _ _ _ _ _
   | exact trail_head.mono _ _ _
   | exact trail_tells.mono _ _ _ _ _ _
   | exact LeO.none _
   | refine LeO.ite ?_ ?_
   | refine LeO.bind ?_ (fun _ => ?_)
set_option maxHeartbeats 8000000 in
set_option maxRecDepth 100000 in
theorem trail_Begins.calls (k : Nat) (P0_ : Nat → Prop) (A0 : Option Addr) (c0 : Nat) (l0 : List Int) (a1 : Int) (P2_ : Nat → Prop) (A2 : Option Addr) (c2 : Nat) (l2 : List Int) (P3_ : Nat → Prop) (A3 : Option Addr) (c3 : Nat) (l3 : List Int) (a4 : Int) (P5_ : Nat → Prop) (A5 : Option Addr) (c5 : Nat) (l5 : List (List Int)) (r : Int) (w : World) (HG : Glb w) (hs0 : Kd.V (Kd.int .u8) 5 w w.heap.size (fun k_ => P0_ k_) (.slice A0 l0.length c0) l0) (hs2 : Kd.V (Kd.int .u8) 5 w w.heap.size (fun k_ => P2_ k_) (.slice A2 l2.length c2) l2) (hs3 : Kd.V (Kd.int .u8) 5 w w.heap.size (fun k_ => P3_ k_) (.slice A3 l3.length c3) l3) (hs5 : Kd.V (Kd.slice 5 (Kd.int .u8)) 23 w w.heap.size (fun k_ => P5_ k_) (.slice A5 l5.length c5) l5) (h : trail_Begins.f k l0 a1 l2 l3 a4 l5 = some r) :
  Calls Tryd.prog 41 #[.slice A0 l0.length c0, .int .i64 a1, .slice A2 l2.length c2, .slice A3 l3.length c3, .int .i64 a4, .slice A5 l5.length c5] w fun e w' => e = .returned (.int .i64 r) ∧ Below w.heap.size w w' := by
 have HO0 := Aside0.mk (show Kd.V (Kd.int .u8) 5 w w.heap.size (fun k_ => ((P0_ k_ ∨ P2_ k_ ∨ P3_ k_ ∨ P5_ k_) ∨ w.heap.size ≤ k_)) (.slice A0 l0.length c0) l0 from Kd.V_mono hs0 (fun k_ hk => .inl (.inl hk)))
 have HO2 := Aside0.mk (show Kd.V (Kd.int .u8) 5 w w.heap.size (fun k_ => ((P0_ k_ ∨ P2_ k_ ∨ P3_ k_ ∨ P5_ k_) ∨ w.heap.size ≤ k_)) (.slice A2 l2.length c2) l2 from Kd.V_mono hs2 (fun k_ hk => .inl (.inr (.inl hk))))
 have HO3 := Aside0.mk (show Kd.V (Kd.int .u8) 5 w w.heap.size (fun k_ => ((P0_ k_ ∨ P2_ k_ ∨ P3_ k_ ∨ P5_ k_) ∨ w.heap.size ≤ k_)) (.slice A3 l3.length c3) l3 from Kd.V_mono hs3 (fun k_ hk => .inl (.inr (.inr (.inl hk)))))
 have HO5 := Aside0.mk (show Kd.V (Kd.slice 5 (Kd.int .u8)) 23 w w.heap.size (fun k_ => ((P0_ k_ ∨ P2_ k_ ∨ P3_ k_ ∨ P5_ k_) ∨ w.heap.size ≤ k_)) (.slice A5 l5.length c5) l5 from Kd.V_mono hs5 (fun k_ hk => .inl (.inr (.inr (.inr hk)))))
 have HB := Aside0.mk (Below.refl w.heap.size w)
 have H : (if a4 < 1 then (trail_Begins.j0 k l0 a1 l2 l3 a4 l5 true) else (if a4 > 4096 then (trail_Begins.j0 k l0 a1 l2 l3 a4 l5 true) else (if a1 < 1 then (trail_Begins.j0 k l0 a1 l2 l3 a4 l5 true) else (if a1 > a4 then (trail_Begins.j0 k l0 a1 l2 l3 a4 l5 true) else ((trail_digests.f (([l0, l2, l3] : List (List Int)))).bind fun t150 => (if t150 = true then ((trail_digests.f l5).bind fun t151 => (trail_Begins.j0 k l0 a1 l2 l3 a4 l5 (!t151))) else (trail_Begins.j0 k l0 a1 l2 l3 a4 l5 true))))))) = some r := h
 clear h
 have HC7 := Aside0.mk H
 clear H
 go_enter Tryd.func41, Tryd.ntmps41
 go_upto_region 1 with (fail)
 go_cut [43] (fun v43 wc => ∃ (kq : Nat) (x43_6 : Bool), v43 = .bool x43_6 ∧ Aside0 (trail_Begins.j0 kq l0 a1 l2 l3 a4 l5 x43_6 = some r) ∧ Aside0 (kq ≤ k) ∧ Aside0 (Kd.V (Kd.int .u8) 5 wc w.heap.size (fun k_ => ((P0_ k_ ∨ P2_ k_ ∨ P3_ k_ ∨ P5_ k_) ∨ w.heap.size ≤ k_)) (.slice A0 l0.length c0) l0) ∧ Aside0 (Kd.V (Kd.int .u8) 5 wc w.heap.size (fun k_ => ((P0_ k_ ∨ P2_ k_ ∨ P3_ k_ ∨ P5_ k_) ∨ w.heap.size ≤ k_)) (.slice A2 l2.length c2) l2) ∧ Aside0 (Kd.V (Kd.int .u8) 5 wc w.heap.size (fun k_ => ((P0_ k_ ∨ P2_ k_ ∨ P3_ k_ ∨ P5_ k_) ∨ w.heap.size ≤ k_)) (.slice A3 l3.length c3) l3) ∧ Aside0 (Kd.V (Kd.slice 5 (Kd.int .u8)) 23 wc w.heap.size (fun k_ => ((P0_ k_ ∨ P2_ k_ ∨ P3_ k_ ∨ P5_ k_) ∨ w.heap.size ≤ k_)) (.slice A5 l5.length c5) l5) ∧ Aside0 (Below w.heap.size w wc))
 case first =>
  have H := HC7.out
  clear HC7
  by_cases c8 : a4 < 1
  ·rw [if_pos c8] at H
   have c8b0 : decide (a4 < 1) = true := decide_eq_true c8
   clear c8
   (first | rw [c8b0] | (simp only [i64_w, i32_w]; rw [c8b0]) | skip)
   have H' := Aside0.mk H
   clear H
   go_wp2
   go_meet
   case rel => exact ⟨_, (true), (by first | rfl | (simp; done) | (simp [*]; done)), H', ⟨by first | omega | exact Nat.le_refl _⟩, ⟨by (with_reducible repeat (first | apply Kd.V_alloc | apply Kd.V_drewN | apply Kd.V_drew)); exact HO0.out⟩, ⟨by (with_reducible repeat (first | apply Kd.V_alloc | apply Kd.V_drewN | apply Kd.V_drew)); exact HO2.out⟩, ⟨by (with_reducible repeat (first | apply Kd.V_alloc | apply Kd.V_drewN | apply Kd.V_drew)); exact HO3.out⟩, ⟨by (with_reducible repeat (first | apply Kd.V_alloc | apply Kd.V_drewN | apply Kd.V_drew)); exact HO5.out⟩, ⟨by repeat (first | (with_reducible first | exact HB.out | apply below_alloc | apply pw_below_drewN | apply below_drew1) | exact HB.out)⟩⟩
  ·rw [if_neg c8] at H
   have c8b0 : decide (a4 < 1) = false := decide_eq_false c8
   clear c8
   (first | rw [c8b0] | (simp only [i64_w, i32_w]; rw [c8b0]) | skip)
   by_cases c9 : a4 > 4096
   ·rw [if_pos c9] at H
    have c9b0 : decide (4096 < a4) = true := decide_eq_true c9
    clear c9
    have H' := Aside0.mk H
    clear H
    go_wp2
    go_meet
    case rel => exact ⟨_, (true), (by first | rfl | (simp; done) | (simp [*]; done)), H', ⟨by first | omega | exact Nat.le_refl _⟩, ⟨by (with_reducible repeat (first | apply Kd.V_alloc | apply Kd.V_drewN | apply Kd.V_drew)); exact HO0.out⟩, ⟨by (with_reducible repeat (first | apply Kd.V_alloc | apply Kd.V_drewN | apply Kd.V_drew)); exact HO2.out⟩, ⟨by (with_reducible repeat (first | apply Kd.V_alloc | apply Kd.V_drewN | apply Kd.V_drew)); exact HO3.out⟩, ⟨by (with_reducible repeat (first | apply Kd.V_alloc | apply Kd.V_drewN | apply Kd.V_drew)); exact HO5.out⟩, ⟨by repeat (first | (with_reducible first | exact HB.out | apply below_alloc | apply pw_below_drewN | apply below_drew1) | exact HB.out)⟩⟩
   ·rw [if_neg c9] at H
    have c9b0 : decide (4096 < a4) = false := decide_eq_false c9
    clear c9
    by_cases c10 : a1 < 1
    ·rw [if_pos c10] at H
     have c10b0 : decide (a1 < 1) = true := decide_eq_true c10
     clear c10
     have H' := Aside0.mk H
     clear H
     go_wp2
     go_meet
     case rel => exact ⟨_, (true), (by first | rfl | (simp; done) | (simp [*]; done)), H', ⟨by first | omega | exact Nat.le_refl _⟩, ⟨by (with_reducible repeat (first | apply Kd.V_alloc | apply Kd.V_drewN | apply Kd.V_drew)); exact HO0.out⟩, ⟨by (with_reducible repeat (first | apply Kd.V_alloc | apply Kd.V_drewN | apply Kd.V_drew)); exact HO2.out⟩, ⟨by (with_reducible repeat (first | apply Kd.V_alloc | apply Kd.V_drewN | apply Kd.V_drew)); exact HO3.out⟩, ⟨by (with_reducible repeat (first | apply Kd.V_alloc | apply Kd.V_drewN | apply Kd.V_drew)); exact HO5.out⟩, ⟨by repeat (first | (with_reducible first | exact HB.out | apply below_alloc | apply pw_below_drewN | apply below_drew1) | exact HB.out)⟩⟩
    ·rw [if_neg c10] at H
     have c10b0 : decide (a1 < 1) = false := decide_eq_false c10
     clear c10
     by_cases c11 : a1 > a4
     ·rw [if_pos c11] at H
      have c11b0 : decide (a4 < a1) = true := decide_eq_true c11
      clear c11
      have H' := Aside0.mk H
      clear H
      go_wp2
      go_meet
      case rel => exact ⟨_, (true), (by first | rfl | (simp; done) | (simp [*]; done)), H', ⟨by first | omega | exact Nat.le_refl _⟩, ⟨by (with_reducible repeat (first | apply Kd.V_alloc | apply Kd.V_drewN | apply Kd.V_drew)); exact HO0.out⟩, ⟨by (with_reducible repeat (first | apply Kd.V_alloc | apply Kd.V_drewN | apply Kd.V_drew)); exact HO2.out⟩, ⟨by (with_reducible repeat (first | apply Kd.V_alloc | apply Kd.V_drewN | apply Kd.V_drew)); exact HO3.out⟩, ⟨by (with_reducible repeat (first | apply Kd.V_alloc | apply Kd.V_drewN | apply Kd.V_drew)); exact HO5.out⟩, ⟨by repeat (first | (with_reducible first | exact HB.out | apply below_alloc | apply pw_below_drewN | apply below_drew1) | exact HB.out)⟩⟩
     ·rw [if_neg c11] at H
      have c11b0 : decide (a4 < a1) = false := decide_eq_false c11
      clear c11
      obtain ⟨y147, hy147⟩ : ∃ y_ : List (List Int), y_ = (([l0, l2, l3] : List (List Int))) := ⟨_, rfl⟩
      replace H : ((trail_digests.f y147).bind fun t150 => (if t150 = true then ((trail_digests.f l5).bind fun t151 => (trail_Begins.j0 k l0 a1 l2 l3 a4 l5 (!t151))) else (trail_Begins.j0 k l0 a1 l2 l3 a4 l5 true))) = some r := hyA hy147 H
      have Ny147 := Aside0.mk hy147
      clear hy147
      replace H := Option.bind_eq_some_iff.mp H
      obtain ⟨t150, A120, H⟩ := H
      replace H : (if t150 = true then ((trail_digests.f l5).bind fun t151 => (trail_Begins.j0 k l0 a1 l2 l3 a4 l5 (!t151))) else (trail_Begins.j0 k l0 a1 l2 l3 a4 l5 true)) = some r := H
      have A12 := Aside0.mk A120
      clear A120
      by_cases c13 : t150 = true
      ·subst c13
       have H1 : ((trail_digests.f l5).bind fun t151 => (trail_Begins.j0 k l0 a1 l2 l3 a4 l5 (!t151))) = some r := by rw [if_pos rfl] at H; exact H
       clear H
       have H := H1
       clear H1
       replace H := Option.bind_eq_some_iff.mp H
       obtain ⟨t151, A140, H⟩ := H
       replace H : (trail_Begins.j0 k l0 a1 l2 l3 a4 l5 (!t151)) = some r := H
       have A14 := Aside0.mk A140
       clear A140
       have H' := Aside0.mk H
       clear H
       go_wp2_with (first | ((with_reducible refine gate_dst (N := 35) rfl ?_); (try (refine gate_guard (by rfl) ?_; dsimp only)); refine Kd.N_lit (Kd.slice 5 (Kd.int .u8)) _ 23 ?hg (N' := 35) ?hd (xs := ([l0, l2, l3] : List (List Int))) (inner := [.slice A0 l0.length c0, .slice A2 l2.length c2, .slice A3 l3.length c3]) (ok := (fun k_ => ((P0_ k_ ∨ P2_ k_ ∨ P3_ k_ ∨ P5_ k_) ∨ w.heap.size ≤ k_))) (okp := (fun k_ => ((P0_ k_ ∨ P2_ k_ ∨ P3_ k_ ∨ P5_ k_) ∨ w.heap.size ≤ k_))) ?hr ?hp (fun _ hk => hk) ((show ∀ k_, w.heap.size ≤ k_ → (fun k_ => ((P0_ k_ ∨ P2_ k_ ∨ P3_ k_ ∨ P5_ k_) ∨ w.heap.size ≤ k_)) k_ from fun k_ hk => (.inr (Nat.le_trans (below_size bel) hk))) _ (Nat.le_refl _)) (Below.refl _ _) (Nat.le_refl _) (by simp) ?_; (case hd => rfl); (case hg => rfl); (case hr => first | (go_simp; done) | (go_simp; rfl)); (case hp => exact (Reps.one (show Kd.FK (Kd.slice 5 (Kd.int .u8)) _ _ l0 [.slice A0 l0.length c0] from (Kd.FK_slice_mk (Kd.V_reads' (Kd.V_mono (ok' := (fun k_ => ((P0_ k_ ∨ P2_ k_ ∨ P3_ k_ ∨ P5_ k_) ∨ w.heap.size ≤ k_))) (HO0.out) (fun k_ hk => hk))).2.1 (Kd.V_F (Kd.V_mono (ok' := (fun k_ => ((P0_ k_ ∨ P2_ k_ ∨ P3_ k_ ∨ P5_ k_) ∨ w.heap.size ≤ k_))) (HO0.out) (fun k_ hk => hk))))) (Reps.one (show Kd.FK (Kd.slice 5 (Kd.int .u8)) _ _ l2 [.slice A2 l2.length c2] from (Kd.FK_slice_mk (Kd.V_reads' (Kd.V_mono (ok' := (fun k_ => ((P0_ k_ ∨ P2_ k_ ∨ P3_ k_ ∨ P5_ k_) ∨ w.heap.size ≤ k_))) (HO2.out) (fun k_ hk => hk))).2.1 (Kd.V_F (Kd.V_mono (ok' := (fun k_ => ((P0_ k_ ∨ P2_ k_ ∨ P3_ k_ ∨ P5_ k_) ∨ w.heap.size ≤ k_))) (HO2.out) (fun k_ hk => hk))))) (Reps.one (show Kd.FK (Kd.slice 5 (Kd.int .u8)) _ _ l3 [.slice A3 l3.length c3] from (Kd.FK_slice_mk (Kd.V_reads' (Kd.V_mono (ok' := (fun k_ => ((P0_ k_ ∨ P2_ k_ ∨ P3_ k_ ∨ P5_ k_) ∨ w.heap.size ≤ k_))) (HO3.out) (fun k_ hk => hk))).2.1 (Kd.V_F (Kd.V_mono (ok' := (fun k_ => ((P0_ k_ ∨ P2_ k_ ∨ P3_ k_ ∨ P5_ k_) ∨ w.heap.size ≤ k_))) (HO3.out) (fun k_ hk => hk))))) (Reps.none _ _))))); intro v148 w15 ho16 hb hg_ hnew_; clear hg_ hnew_; (first | rw [← Ny147.out] at ho16 | (simp only [Int.reduceToNat] at ho16; rw [← Ny147.out] at ho16)); have n0_ := Aside0.mk (Kd.V_elder' (vL HO0.out) (Kd.N_base ho16) hb); have n1_ := Aside0.mk (Kd.V_elder' (vL HO2.out) (Kd.N_base ho16) hb); have n2_ := Aside0.mk (Kd.V_elder' (vL HO3.out) (Kd.N_base ho16) hb); have n3_ := Aside0.mk (Kd.V_elder' (vL HO5.out) (Kd.N_base ho16) hb); have n4_ := Aside0.mk (Kd.N_lower ho16 (below_size bel)); have n5_ := Aside0.mk (below_step bel hb); clear HO0; clear HO2; clear HO3; clear HO5; clear HB; have HO0 := n0_; have HO2 := n1_; have HO3 := n2_; have HO5 := n3_; have HO149 := n4_; have HB := n5_; clear n0_ n1_ n2_ n3_ n4_ n5_; clear hb ho16; obtain ⟨Ao17, co17, eo17⟩ := Kd.N_slice HO149.out; subst eo17) | (go_at_call 58; (with_reducible refine (trail_digests.calls _ _ y147 true _ ?side1 ?side2 A12.out).mono ?_); (case side1 => exact cL (Kd.N_reads' HO149.out).2.2); (case side2 => exact (Kd.N_reads' HO149.out).2.1); rintro e w18 ⟨rfl, hb⟩; have n0_ := Aside0.mk (Kd.V_below (vL HO0.out) hb); have n1_ := Aside0.mk (Kd.V_below (vL HO2.out) hb); have n2_ := Aside0.mk (Kd.V_below (vL HO3.out) hb); have n3_ := Aside0.mk (Kd.V_below (vL HO5.out) hb); have n4_ := Aside0.mk (Kd.N_below (nL HO149.out) hb); have n5_ := Aside0.mk (below_step bel hb); clear HO0; clear HO2; clear HO3; clear HO5; clear HO149; clear HB; have HO0 := n0_; have HO2 := n1_; have HO3 := n2_; have HO5 := n3_; have HO149 := n4_; have HB := n5_; clear n0_ n1_ n2_ n3_ n4_ n5_; (try clear hb); (try clear hb2); (try clear hk); (try clear hi)) | (go_at_call 58; (with_reducible refine (trail_digests.calls _ _ l5 t151 _ ?side1 ?side2 A14.out).mono ?_); (case side1 => exact cL (Kd.V_reads' HO5.out).2.2); (case side2 => exact (Kd.V_reads' HO5.out).2.1); rintro e w19 ⟨rfl, hb⟩; have n0_ := Aside0.mk (Kd.V_below (vL HO0.out) hb); have n1_ := Aside0.mk (Kd.V_below (vL HO2.out) hb); have n2_ := Aside0.mk (Kd.V_below (vL HO3.out) hb); have n3_ := Aside0.mk (Kd.V_below (vL HO5.out) hb); have n4_ := Aside0.mk (Kd.N_below (nL HO149.out) hb); have n5_ := Aside0.mk (below_step bel hb); clear HO0; clear HO2; clear HO3; clear HO5; clear HO149; clear HB; have HO0 := n0_; have HO2 := n1_; have HO3 := n2_; have HO5 := n3_; have HO149 := n4_; have HB := n5_; clear n0_ n1_ n2_ n3_ n4_ n5_; (try clear hb); (try clear hb2); (try clear hk); (try clear hi)))
       go_meet
       case rel => exact ⟨_, (!t151), (by first | rfl | (simp; done) | (simp [*]; done)), H', ⟨by first | omega | exact Nat.le_refl _⟩, ⟨by (with_reducible repeat (first | apply Kd.V_alloc | apply Kd.V_drewN | apply Kd.V_drew)); exact Kd.V_mono HO0.out (fun _ hk => hk.1)⟩, ⟨by (with_reducible repeat (first | apply Kd.V_alloc | apply Kd.V_drewN | apply Kd.V_drew)); exact Kd.V_mono HO2.out (fun _ hk => hk.1)⟩, ⟨by (with_reducible repeat (first | apply Kd.V_alloc | apply Kd.V_drewN | apply Kd.V_drew)); exact Kd.V_mono HO3.out (fun _ hk => hk.1)⟩, ⟨by (with_reducible repeat (first | apply Kd.V_alloc | apply Kd.V_drewN | apply Kd.V_drew)); exact Kd.V_mono HO5.out (fun _ hk => hk.1)⟩, ⟨by repeat (first | (with_reducible first | exact HB.out | apply below_alloc | apply pw_below_drewN | apply below_drew1) | exact HB.out)⟩⟩
      ·replace c13 := Bool.eq_false_iff.mpr c13
       subst c13
       have H1 : (trail_Begins.j0 k l0 a1 l2 l3 a4 l5 true) = some r := by rw [if_neg (show ¬ (false = true) by decide)] at H; exact H
       clear H
       have H := H1
       clear H1
       have H' := Aside0.mk H
       clear H
       go_wp2_with (first | ((with_reducible refine gate_dst (N := 35) rfl ?_); (try (refine gate_guard (by rfl) ?_; dsimp only)); refine Kd.N_lit (Kd.slice 5 (Kd.int .u8)) _ 23 ?hg (N' := 35) ?hd (xs := ([l0, l2, l3] : List (List Int))) (inner := [.slice A0 l0.length c0, .slice A2 l2.length c2, .slice A3 l3.length c3]) (ok := (fun k_ => ((P0_ k_ ∨ P2_ k_ ∨ P3_ k_ ∨ P5_ k_) ∨ w.heap.size ≤ k_))) (okp := (fun k_ => ((P0_ k_ ∨ P2_ k_ ∨ P3_ k_ ∨ P5_ k_) ∨ w.heap.size ≤ k_))) ?hr ?hp (fun _ hk => hk) ((show ∀ k_, w.heap.size ≤ k_ → (fun k_ => ((P0_ k_ ∨ P2_ k_ ∨ P3_ k_ ∨ P5_ k_) ∨ w.heap.size ≤ k_)) k_ from fun k_ hk => (.inr (Nat.le_trans (below_size bel) hk))) _ (Nat.le_refl _)) (Below.refl _ _) (Nat.le_refl _) (by simp) ?_; (case hd => rfl); (case hg => rfl); (case hr => first | (go_simp; done) | (go_simp; rfl)); (case hp => exact (Reps.one (show Kd.FK (Kd.slice 5 (Kd.int .u8)) _ _ l0 [.slice A0 l0.length c0] from (Kd.FK_slice_mk (Kd.V_reads' (Kd.V_mono (ok' := (fun k_ => ((P0_ k_ ∨ P2_ k_ ∨ P3_ k_ ∨ P5_ k_) ∨ w.heap.size ≤ k_))) (HO0.out) (fun k_ hk => hk))).2.1 (Kd.V_F (Kd.V_mono (ok' := (fun k_ => ((P0_ k_ ∨ P2_ k_ ∨ P3_ k_ ∨ P5_ k_) ∨ w.heap.size ≤ k_))) (HO0.out) (fun k_ hk => hk))))) (Reps.one (show Kd.FK (Kd.slice 5 (Kd.int .u8)) _ _ l2 [.slice A2 l2.length c2] from (Kd.FK_slice_mk (Kd.V_reads' (Kd.V_mono (ok' := (fun k_ => ((P0_ k_ ∨ P2_ k_ ∨ P3_ k_ ∨ P5_ k_) ∨ w.heap.size ≤ k_))) (HO2.out) (fun k_ hk => hk))).2.1 (Kd.V_F (Kd.V_mono (ok' := (fun k_ => ((P0_ k_ ∨ P2_ k_ ∨ P3_ k_ ∨ P5_ k_) ∨ w.heap.size ≤ k_))) (HO2.out) (fun k_ hk => hk))))) (Reps.one (show Kd.FK (Kd.slice 5 (Kd.int .u8)) _ _ l3 [.slice A3 l3.length c3] from (Kd.FK_slice_mk (Kd.V_reads' (Kd.V_mono (ok' := (fun k_ => ((P0_ k_ ∨ P2_ k_ ∨ P3_ k_ ∨ P5_ k_) ∨ w.heap.size ≤ k_))) (HO3.out) (fun k_ hk => hk))).2.1 (Kd.V_F (Kd.V_mono (ok' := (fun k_ => ((P0_ k_ ∨ P2_ k_ ∨ P3_ k_ ∨ P5_ k_) ∨ w.heap.size ≤ k_))) (HO3.out) (fun k_ hk => hk))))) (Reps.none _ _))))); intro v148 w20 ho21 hb hg_ hnew_; clear hg_ hnew_; (first | rw [← Ny147.out] at ho21 | (simp only [Int.reduceToNat] at ho21; rw [← Ny147.out] at ho21)); have n0_ := Aside0.mk (Kd.V_elder' (vL HO0.out) (Kd.N_base ho21) hb); have n1_ := Aside0.mk (Kd.V_elder' (vL HO2.out) (Kd.N_base ho21) hb); have n2_ := Aside0.mk (Kd.V_elder' (vL HO3.out) (Kd.N_base ho21) hb); have n3_ := Aside0.mk (Kd.V_elder' (vL HO5.out) (Kd.N_base ho21) hb); have n4_ := Aside0.mk (Kd.N_lower ho21 (below_size bel)); have n5_ := Aside0.mk (below_step bel hb); clear HO0; clear HO2; clear HO3; clear HO5; clear HB; have HO0 := n0_; have HO2 := n1_; have HO3 := n2_; have HO5 := n3_; have HO149 := n4_; have HB := n5_; clear n0_ n1_ n2_ n3_ n4_ n5_; clear hb ho21; obtain ⟨Ao22, co22, eo22⟩ := Kd.N_slice HO149.out; subst eo22) | (go_at_call 58; (with_reducible refine (trail_digests.calls _ _ y147 false _ ?side1 ?side2 A12.out).mono ?_); (case side1 => exact cL (Kd.N_reads' HO149.out).2.2); (case side2 => exact (Kd.N_reads' HO149.out).2.1); rintro e w23 ⟨rfl, hb⟩; have n0_ := Aside0.mk (Kd.V_below (vL HO0.out) hb); have n1_ := Aside0.mk (Kd.V_below (vL HO2.out) hb); have n2_ := Aside0.mk (Kd.V_below (vL HO3.out) hb); have n3_ := Aside0.mk (Kd.V_below (vL HO5.out) hb); have n4_ := Aside0.mk (Kd.N_below (nL HO149.out) hb); have n5_ := Aside0.mk (below_step bel hb); clear HO0; clear HO2; clear HO3; clear HO5; clear HO149; clear HB; have HO0 := n0_; have HO2 := n1_; have HO3 := n2_; have HO5 := n3_; have HO149 := n4_; have HB := n5_; clear n0_ n1_ n2_ n3_ n4_ n5_; (try clear hb); (try clear hb2); (try clear hk); (try clear hi)))
       go_meet
       case rel => exact ⟨_, (true), (by first | rfl | (simp; done) | (simp [*]; done)), H', ⟨by first | omega | exact Nat.le_refl _⟩, ⟨by (with_reducible repeat (first | apply Kd.V_alloc | apply Kd.V_drewN | apply Kd.V_drew)); exact Kd.V_mono HO0.out (fun _ hk => hk.1)⟩, ⟨by (with_reducible repeat (first | apply Kd.V_alloc | apply Kd.V_drewN | apply Kd.V_drew)); exact Kd.V_mono HO2.out (fun _ hk => hk.1)⟩, ⟨by (with_reducible repeat (first | apply Kd.V_alloc | apply Kd.V_drewN | apply Kd.V_drew)); exact Kd.V_mono HO3.out (fun _ hk => hk.1)⟩, ⟨by (with_reducible repeat (first | apply Kd.V_alloc | apply Kd.V_drewN | apply Kd.V_drew)); exact Kd.V_mono HO5.out (fun _ hk => hk.1)⟩, ⟨by repeat (first | (with_reducible first | exact HB.out | apply below_alloc | apply pw_below_drewN | apply below_drew1) | exact HB.out)⟩⟩
 case rest =>
  clear HC7
  try clear c1
  try clear c2
  try clear p2
  try clear c3
  try clear c4
  try clear c5
  try clear c8
  try clear c8b0
  try clear c9
  try clear c9b0
  try clear c10
  try clear c10b0
  try clear c11
  try clear c11b0
  try clear c13
  obtain ⟨kq, x43_6, rfl, HA, HJ6, HO_0, HO_2, HO_3, HO_5, HB⟩ := hcut
  cases kq with
  | zero => exact absurd HA.out (by simp [trail_Begins.j0])
  | succ kj6 =>
   have H := HA.out
   clear HA
   simp only [trail_Begins.j0] at H
   by_cases c24 : x43_6 = true
   ·subst c24
    have H1 : (some 1) = some r := by rw [if_pos rfl] at H; exact H
    clear H
    have H := H1
    clear H1
    obtain rfl := Option.some.inj H
    go_wp2
    go_ret
    exact ⟨by first | rfl | (simp [errW_none, errW_some] <;> rfl) | (simp [*, errW_none, errW_some] <;> rfl), by repeat (first | (with_reducible first | exact HB.out | apply below_alloc | apply pw_below_drewN | apply below_drew1) | exact HB.out)⟩
   ·replace c24 := Bool.eq_false_iff.mpr c24
    subst c24
    have H1 : ((trail_tells.f kj6 a1 a4 l2 l5 true).bind fun bt152 => (if bt152.2.2 = true then ((bytes_Equal.f bt152.1 l2).bind fun t159 => (if t159 = true then ((trail_head.f kj6 a1 l2).bind fun t160 => ((bytes_Equal.f t160 l0).bind fun t163 => (if t163 = true then ((trail_head.f kj6 a4 bt152.2.1).bind fun t164 => ((bytes_Equal.f t164 l3).bind fun t167 => (if t167 = true then (some 0) else (some 50)))) else (some 50)))) else (some 50))) else (some 50))) = some r := by rw [if_neg (show ¬ (false = true) by decide)] at H; exact H
    clear H
    have H := H1
    clear H1
    replace H := Option.bind_eq_some_iff.mp H
    obtain ⟨⟨t152, t155, t158⟩, A250, H⟩ := H
    replace H : (if t158 = true then ((bytes_Equal.f t152 l2).bind fun t159 => (if t159 = true then ((trail_head.f kj6 a1 l2).bind fun t160 => ((bytes_Equal.f t160 l0).bind fun t163 => (if t163 = true then ((trail_head.f kj6 a4 t155).bind fun t164 => ((bytes_Equal.f t164 l3).bind fun t167 => (if t167 = true then (some 0) else (some 50)))) else (some 50)))) else (some 50))) else (some 50)) = some r := H
    have A25 := Aside0.mk A250
    clear A250
    by_cases c26 : t158 = true
    ·subst c26
     have H1 : ((bytes_Equal.f t152 l2).bind fun t159 => (if t159 = true then ((trail_head.f kj6 a1 l2).bind fun t160 => ((bytes_Equal.f t160 l0).bind fun t163 => (if t163 = true then ((trail_head.f kj6 a4 t155).bind fun t164 => ((bytes_Equal.f t164 l3).bind fun t167 => (if t167 = true then (some 0) else (some 50)))) else (some 50)))) else (some 50))) = some r := by rw [if_pos rfl] at H; exact H
     clear H
     have H := H1
     clear H1
     replace H := Option.bind_eq_some_iff.mp H
     obtain ⟨t159, A270, H⟩ := H
     replace H : (if t159 = true then ((trail_head.f kj6 a1 l2).bind fun t160 => ((bytes_Equal.f t160 l0).bind fun t163 => (if t163 = true then ((trail_head.f kj6 a4 t155).bind fun t164 => ((bytes_Equal.f t164 l3).bind fun t167 => (if t167 = true then (some 0) else (some 50)))) else (some 50)))) else (some 50)) = some r := H
     have A27 := Aside0.mk A270
     clear A270
     by_cases c28 : t159 = true
     ·subst c28
      have H1 : ((trail_head.f kj6 a1 l2).bind fun t160 => ((bytes_Equal.f t160 l0).bind fun t163 => (if t163 = true then ((trail_head.f kj6 a4 t155).bind fun t164 => ((bytes_Equal.f t164 l3).bind fun t167 => (if t167 = true then (some 0) else (some 50)))) else (some 50)))) = some r := by rw [if_pos rfl] at H; exact H
      clear H
      have H := H1
      clear H1
      replace H := Option.bind_eq_some_iff.mp H
      obtain ⟨t160, A290, H⟩ := H
      replace H : ((bytes_Equal.f t160 l0).bind fun t163 => (if t163 = true then ((trail_head.f kj6 a4 t155).bind fun t164 => ((bytes_Equal.f t164 l3).bind fun t167 => (if t167 = true then (some 0) else (some 50)))) else (some 50))) = some r := H
      have A29 := Aside0.mk A290
      clear A290
      replace H := Option.bind_eq_some_iff.mp H
      obtain ⟨t163, A300, H⟩ := H
      replace H : (if t163 = true then ((trail_head.f kj6 a4 t155).bind fun t164 => ((bytes_Equal.f t164 l3).bind fun t167 => (if t167 = true then (some 0) else (some 50)))) else (some 50)) = some r := H
      have A30 := Aside0.mk A300
      clear A300
      by_cases c31 : t163 = true
      ·subst c31
       have H1 : ((trail_head.f kj6 a4 t155).bind fun t164 => ((bytes_Equal.f t164 l3).bind fun t167 => (if t167 = true then (some 0) else (some 50)))) = some r := by rw [if_pos rfl] at H; exact H
       clear H
       have H := H1
       clear H1
       replace H := Option.bind_eq_some_iff.mp H
       obtain ⟨t164, A320, H⟩ := H
       replace H : ((bytes_Equal.f t164 l3).bind fun t167 => (if t167 = true then (some 0) else (some 50))) = some r := H
       have A32 := Aside0.mk A320
       clear A320
       replace H := Option.bind_eq_some_iff.mp H
       obtain ⟨t167, A330, H⟩ := H
       replace H : (if t167 = true then (some 0) else (some 50)) = some r := H
       have A33 := Aside0.mk A330
       clear A330
       by_cases c34 : t167 = true
       ·subst c34
        have H1 : (some 0) = some r := by rw [if_pos rfl] at H; exact H
        clear H
        have H := H1
        clear H1
        obtain rfl := Option.some.inj H
        go_wp2_with (first | ((with_reducible refine gate_callee (f := 64) rfl ?_); refine goesL_ (some 49) rfl rfl Tryd.func64 (by kernel_rfl) rfl #[.int .i64 a1, .int .i64 a4, .slice A2 l2.length c2, .slice A5 l5.length c5, .bool true] rfl eqA ?_; (with_reducible refine (trail_tells.calls kj6 a1 a4 (fun k_ => ((P0_ k_ ∨ P2_ k_ ∨ P3_ k_ ∨ P5_ k_) ∨ w.heap.size ≤ k_)) _ _ l2 (fun k_ => ((P0_ k_ ∨ P2_ k_ ∨ P3_ k_ ∨ P5_ k_) ∨ w.heap.size ≤ k_)) _ _ l5 true t152 t155 true _ (Glb.of HG bel) ?side1 ?side2 A25.out).mono ?_); (case side1 => exact HO_2.out); (case side2 => exact HO_5.out); rintro e w35 ⟨v153, v156, rfl, ho0, ho1, hb⟩; refine ⟨_, rfl, ?_⟩; have n0_ := Aside0.mk (Kd.V_below (vL HO_0.out) hb); have n1_ := Aside0.mk (Kd.V_below (vL HO_2.out) hb); have n2_ := Aside0.mk (Kd.V_below (vL HO_3.out) hb); have n3_ := Aside0.mk (Kd.V_below (vL HO_5.out) hb); have n4_ := Aside0.mk (Kd.V_lower (Kd.V_mono (ok' := fun k_ => ((P0_ k_ ∨ P2_ k_ ∨ P3_ k_ ∨ P5_ k_) ∨ w.heap.size ≤ k_)) ho0 (fun k_ hk_ => Or.elim hk_ (fun hs_ => Or.elim hs_ (fun hs_ => hs_) (fun hs_ => hs_)) (fun hn_ => (.inr (Nat.le_trans (below_size bel) hn_))))) (below_size bel)); have n5_ := Aside0.mk (Kd.V_lower (Kd.V_mono (ok' := fun k_ => ((P0_ k_ ∨ P2_ k_ ∨ P3_ k_ ∨ P5_ k_) ∨ w.heap.size ≤ k_)) ho1 (fun k_ hk_ => Or.elim hk_ (fun hs_ => Or.elim hs_ (fun hs_ => hs_) (fun hs_ => hs_)) (fun hn_ => (.inr (Nat.le_trans (below_size bel) hn_))))) (below_size bel)); have n6_ := Aside0.mk (below_step bel hb); clear HO_0; clear HO_2; clear HO_3; clear HO_5; clear HB; have HO_0 := n0_; have HO_2 := n1_; have HO_3 := n2_; have HO_5 := n3_; have HO154 := n4_; have HO157 := n5_; have HB := n6_; clear n0_ n1_ n2_ n3_ n4_ n5_ n6_; (try clear hb); (try clear hb2); (try clear hk); (try clear hi); (try clear ho0); (try clear ho1); obtain ⟨Ao36, co36, eo36⟩ := Kd.V_slice HO154.out; subst eo36) | (go_at_call 60; (with_reducible refine (bytes_Equal.calls _ _ t152 _ _ l2 true _ ?side1 ?side2 ?side3 ?side4 A27.out).mono ?_); (case side1 => exact cL (Kd.V_reads' HO154.out).2.2); (case side2 => exact (Kd.V_reads' HO154.out).2.1); (case side3 => exact cL (Kd.V_reads' HO_2.out).2.2); (case side4 => exact (Kd.V_reads' HO_2.out).2.1); rintro e w' ⟨rfl, ⟨nd, rfl⟩⟩) | (go_at_call 49; (with_reducible refine (trail_head.calls kj6 a1 (fun k_ => ((P0_ k_ ∨ P2_ k_ ∨ P3_ k_ ∨ P5_ k_) ∨ w.heap.size ≤ k_)) _ _ l2 t160 _ (Glb.of HG bel) ?side1 A29.out).mono ?_); (case side1 => exact HO_2.out); rintro e w37 ⟨v161, rfl, ho0, hb⟩; have n0_ := Aside0.mk (Kd.V_elder' (vL HO_0.out) (Kd.R_base ho0) hb); have n1_ := Aside0.mk (Kd.V_elder' (vL HO_2.out) (Kd.R_base ho0) hb); have n2_ := Aside0.mk (Kd.V_elder' (vL HO_3.out) (Kd.R_base ho0) hb); have n3_ := Aside0.mk (Kd.V_elder' (vL HO_5.out) (Kd.R_base ho0) hb); have n4_ := Aside0.mk (Kd.V_elder' (vL HO154.out) (Kd.R_base ho0) hb); have n5_ := Aside0.mk (Kd.V_elder' (vL HO157.out) (Kd.R_base ho0) hb); have n6_ := Aside0.mk (Kd.R_lower (Kd.R_newM (M := fun k_ => (w.heap.size ≤ k_)) (Kd.R_mono (ok' := fun k_ => True) ho0 (fun _ hk_ => trivial)) (below_size bel) (fun k_ h_ => h_)) (below_size bel)); have n7_ := Aside0.mk (below_step bel hb); clear HO_0; clear HO_2; clear HO_3; clear HO_5; clear HO154; clear HO157; clear HB; have HO_0 := n0_; have HO_2 := n1_; have HO_3 := n2_; have HO_5 := n3_; have HO154 := n4_; have HO157 := n5_; have HO162 := n6_; have HB := n7_; clear n0_ n1_ n2_ n3_ n4_ n5_ n6_ n7_; (try clear hb); (try clear hb2); (try clear hk); (try clear hi); (try clear ho0); obtain ⟨Ao38, co38, eo38⟩ := Kd.R_slice HO162.out; subst eo38) | (go_at_call 60; (with_reducible refine (bytes_Equal.calls _ _ t160 _ _ l0 true _ ?side1 ?side2 ?side3 ?side4 A30.out).mono ?_); (case side1 => exact cL (Kd.R_reads' HO162.out).2.2); (case side2 => exact (Kd.R_reads' HO162.out).2.1); (case side3 => exact cL (Kd.V_reads' HO_0.out).2.2); (case side4 => exact (Kd.V_reads' HO_0.out).2.1); rintro e w' ⟨rfl, ⟨nd, rfl⟩⟩; obtain ⟨Ao39, co39, eo39⟩ := Kd.V_slice HO157.out; subst eo39) | (go_at_call 49; (with_reducible refine (trail_head.calls kj6 a4 (fun k_ => (((P0_ k_ ∨ P2_ k_ ∨ P3_ k_ ∨ P5_ k_) ∨ w.heap.size ≤ k_) ∧ some k_ ≠ (.slice Ao38 t160.length co38 : Value).ownBlock)) _ _ t155 t164 _ (Glb.of HG bel) ?side1 A32.out).mono ?_); (case side1 => exact HO157.out); rintro e w40 ⟨v165, rfl, ho0, hb⟩; have n0_ := Aside0.mk (Kd.V_elder' (vL HO_0.out) (Kd.R_base ho0) hb); have n1_ := Aside0.mk (Kd.V_elder' (vL HO_2.out) (Kd.R_base ho0) hb); have n2_ := Aside0.mk (Kd.V_elder' (vL HO_3.out) (Kd.R_base ho0) hb); have n3_ := Aside0.mk (Kd.V_elder' (vL HO_5.out) (Kd.R_base ho0) hb); have n4_ := Aside0.mk (Kd.V_elder' (vL HO154.out) (Kd.R_base ho0) hb); have n5_ := Aside0.mk (Kd.V_elder' (vL HO157.out) (Kd.R_base ho0) hb); have n6_ := Aside0.mk (Kd.R_elder' (rL HO162.out) (Kd.R_base ho0) hb); have n7_ := Aside0.mk (Kd.R_lower (Kd.R_new' (Kd.R_newM (M := fun k_ => (w.heap.size ≤ k_)) (Kd.R_mono (ok' := fun k_ => True) ho0 (fun _ hk_ => trivial)) (below_size bel) (fun k_ h_ => h_)) (Kd.R_lt (rL HO162.out))) (below_size bel)); have n8_ := Aside0.mk (below_step bel hb); clear HO_0; clear HO_2; clear HO_3; clear HO_5; clear HO154; clear HO157; clear HO162; clear HB; have HO_0 := n0_; have HO_2 := n1_; have HO_3 := n2_; have HO_5 := n3_; have HO154 := n4_; have HO157 := n5_; have HO162 := n6_; have HO166 := n7_; have HB := n8_; clear n0_ n1_ n2_ n3_ n4_ n5_ n6_ n7_ n8_; (try clear hb); (try clear hb2); (try clear hk); (try clear hi); (try clear ho0); obtain ⟨Ao41, co41, eo41⟩ := Kd.R_slice HO166.out; subst eo41) | (go_at_call 60; (with_reducible refine (bytes_Equal.calls _ _ t164 _ _ l3 true _ ?side1 ?side2 ?side3 ?side4 A33.out).mono ?_); (case side1 => exact cL (Kd.R_reads' HO166.out).2.2); (case side2 => exact (Kd.R_reads' HO166.out).2.1); (case side3 => exact cL (Kd.V_reads' HO_3.out).2.2); (case side4 => exact (Kd.V_reads' HO_3.out).2.1); rintro e w' ⟨rfl, ⟨nd, rfl⟩⟩))
        go_ret
        exact ⟨by first | rfl | (simp [errW_none, errW_some] <;> rfl) | (simp [*, errW_none, errW_some] <;> rfl), by repeat (first | (with_reducible first | exact HB.out | apply below_alloc | apply pw_below_drewN | apply below_drew1) | exact HB.out)⟩
       ·replace c34 := Bool.eq_false_iff.mpr c34
        subst c34
        have H1 : (some 50) = some r := by rw [if_neg (show ¬ (false = true) by decide)] at H; exact H
        clear H
        have H := H1
        clear H1
        obtain rfl := Option.some.inj H
        go_wp2_with (first | ((with_reducible refine gate_callee (f := 64) rfl ?_); refine goesL_ (some 49) rfl rfl Tryd.func64 (by kernel_rfl) rfl #[.int .i64 a1, .int .i64 a4, .slice A2 l2.length c2, .slice A5 l5.length c5, .bool true] rfl eqA ?_; (with_reducible refine (trail_tells.calls kj6 a1 a4 (fun k_ => ((P0_ k_ ∨ P2_ k_ ∨ P3_ k_ ∨ P5_ k_) ∨ w.heap.size ≤ k_)) _ _ l2 (fun k_ => ((P0_ k_ ∨ P2_ k_ ∨ P3_ k_ ∨ P5_ k_) ∨ w.heap.size ≤ k_)) _ _ l5 true t152 t155 true _ (Glb.of HG bel) ?side1 ?side2 A25.out).mono ?_); (case side1 => exact HO_2.out); (case side2 => exact HO_5.out); rintro e w42 ⟨v153, v156, rfl, ho0, ho1, hb⟩; refine ⟨_, rfl, ?_⟩; have n0_ := Aside0.mk (Kd.V_below (vL HO_0.out) hb); have n1_ := Aside0.mk (Kd.V_below (vL HO_2.out) hb); have n2_ := Aside0.mk (Kd.V_below (vL HO_3.out) hb); have n3_ := Aside0.mk (Kd.V_below (vL HO_5.out) hb); have n4_ := Aside0.mk (Kd.V_lower (Kd.V_mono (ok' := fun k_ => ((P0_ k_ ∨ P2_ k_ ∨ P3_ k_ ∨ P5_ k_) ∨ w.heap.size ≤ k_)) ho0 (fun k_ hk_ => Or.elim hk_ (fun hs_ => Or.elim hs_ (fun hs_ => hs_) (fun hs_ => hs_)) (fun hn_ => (.inr (Nat.le_trans (below_size bel) hn_))))) (below_size bel)); have n5_ := Aside0.mk (Kd.V_lower (Kd.V_mono (ok' := fun k_ => ((P0_ k_ ∨ P2_ k_ ∨ P3_ k_ ∨ P5_ k_) ∨ w.heap.size ≤ k_)) ho1 (fun k_ hk_ => Or.elim hk_ (fun hs_ => Or.elim hs_ (fun hs_ => hs_) (fun hs_ => hs_)) (fun hn_ => (.inr (Nat.le_trans (below_size bel) hn_))))) (below_size bel)); have n6_ := Aside0.mk (below_step bel hb); clear HO_0; clear HO_2; clear HO_3; clear HO_5; clear HB; have HO_0 := n0_; have HO_2 := n1_; have HO_3 := n2_; have HO_5 := n3_; have HO154 := n4_; have HO157 := n5_; have HB := n6_; clear n0_ n1_ n2_ n3_ n4_ n5_ n6_; (try clear hb); (try clear hb2); (try clear hk); (try clear hi); (try clear ho0); (try clear ho1); obtain ⟨Ao43, co43, eo43⟩ := Kd.V_slice HO154.out; subst eo43) | (go_at_call 60; (with_reducible refine (bytes_Equal.calls _ _ t152 _ _ l2 true _ ?side1 ?side2 ?side3 ?side4 A27.out).mono ?_); (case side1 => exact cL (Kd.V_reads' HO154.out).2.2); (case side2 => exact (Kd.V_reads' HO154.out).2.1); (case side3 => exact cL (Kd.V_reads' HO_2.out).2.2); (case side4 => exact (Kd.V_reads' HO_2.out).2.1); rintro e w' ⟨rfl, ⟨nd, rfl⟩⟩) | (go_at_call 49; (with_reducible refine (trail_head.calls kj6 a1 (fun k_ => ((P0_ k_ ∨ P2_ k_ ∨ P3_ k_ ∨ P5_ k_) ∨ w.heap.size ≤ k_)) _ _ l2 t160 _ (Glb.of HG bel) ?side1 A29.out).mono ?_); (case side1 => exact HO_2.out); rintro e w44 ⟨v161, rfl, ho0, hb⟩; have n0_ := Aside0.mk (Kd.V_elder' (vL HO_0.out) (Kd.R_base ho0) hb); have n1_ := Aside0.mk (Kd.V_elder' (vL HO_2.out) (Kd.R_base ho0) hb); have n2_ := Aside0.mk (Kd.V_elder' (vL HO_3.out) (Kd.R_base ho0) hb); have n3_ := Aside0.mk (Kd.V_elder' (vL HO_5.out) (Kd.R_base ho0) hb); have n4_ := Aside0.mk (Kd.V_elder' (vL HO154.out) (Kd.R_base ho0) hb); have n5_ := Aside0.mk (Kd.V_elder' (vL HO157.out) (Kd.R_base ho0) hb); have n6_ := Aside0.mk (Kd.R_lower (Kd.R_newM (M := fun k_ => (w.heap.size ≤ k_)) (Kd.R_mono (ok' := fun k_ => True) ho0 (fun _ hk_ => trivial)) (below_size bel) (fun k_ h_ => h_)) (below_size bel)); have n7_ := Aside0.mk (below_step bel hb); clear HO_0; clear HO_2; clear HO_3; clear HO_5; clear HO154; clear HO157; clear HB; have HO_0 := n0_; have HO_2 := n1_; have HO_3 := n2_; have HO_5 := n3_; have HO154 := n4_; have HO157 := n5_; have HO162 := n6_; have HB := n7_; clear n0_ n1_ n2_ n3_ n4_ n5_ n6_ n7_; (try clear hb); (try clear hb2); (try clear hk); (try clear hi); (try clear ho0); obtain ⟨Ao45, co45, eo45⟩ := Kd.R_slice HO162.out; subst eo45) | (go_at_call 60; (with_reducible refine (bytes_Equal.calls _ _ t160 _ _ l0 true _ ?side1 ?side2 ?side3 ?side4 A30.out).mono ?_); (case side1 => exact cL (Kd.R_reads' HO162.out).2.2); (case side2 => exact (Kd.R_reads' HO162.out).2.1); (case side3 => exact cL (Kd.V_reads' HO_0.out).2.2); (case side4 => exact (Kd.V_reads' HO_0.out).2.1); rintro e w' ⟨rfl, ⟨nd, rfl⟩⟩; obtain ⟨Ao46, co46, eo46⟩ := Kd.V_slice HO157.out; subst eo46) | (go_at_call 49; (with_reducible refine (trail_head.calls kj6 a4 (fun k_ => (((P0_ k_ ∨ P2_ k_ ∨ P3_ k_ ∨ P5_ k_) ∨ w.heap.size ≤ k_) ∧ some k_ ≠ (.slice Ao45 t160.length co45 : Value).ownBlock)) _ _ t155 t164 _ (Glb.of HG bel) ?side1 A32.out).mono ?_); (case side1 => exact HO157.out); rintro e w47 ⟨v165, rfl, ho0, hb⟩; have n0_ := Aside0.mk (Kd.V_elder' (vL HO_0.out) (Kd.R_base ho0) hb); have n1_ := Aside0.mk (Kd.V_elder' (vL HO_2.out) (Kd.R_base ho0) hb); have n2_ := Aside0.mk (Kd.V_elder' (vL HO_3.out) (Kd.R_base ho0) hb); have n3_ := Aside0.mk (Kd.V_elder' (vL HO_5.out) (Kd.R_base ho0) hb); have n4_ := Aside0.mk (Kd.V_elder' (vL HO154.out) (Kd.R_base ho0) hb); have n5_ := Aside0.mk (Kd.V_elder' (vL HO157.out) (Kd.R_base ho0) hb); have n6_ := Aside0.mk (Kd.R_elder' (rL HO162.out) (Kd.R_base ho0) hb); have n7_ := Aside0.mk (Kd.R_lower (Kd.R_new' (Kd.R_newM (M := fun k_ => (w.heap.size ≤ k_)) (Kd.R_mono (ok' := fun k_ => True) ho0 (fun _ hk_ => trivial)) (below_size bel) (fun k_ h_ => h_)) (Kd.R_lt (rL HO162.out))) (below_size bel)); have n8_ := Aside0.mk (below_step bel hb); clear HO_0; clear HO_2; clear HO_3; clear HO_5; clear HO154; clear HO157; clear HO162; clear HB; have HO_0 := n0_; have HO_2 := n1_; have HO_3 := n2_; have HO_5 := n3_; have HO154 := n4_; have HO157 := n5_; have HO162 := n6_; have HO166 := n7_; have HB := n8_; clear n0_ n1_ n2_ n3_ n4_ n5_ n6_ n7_ n8_; (try clear hb); (try clear hb2); (try clear hk); (try clear hi); (try clear ho0); obtain ⟨Ao48, co48, eo48⟩ := Kd.R_slice HO166.out; subst eo48) | (go_at_call 60; (with_reducible refine (bytes_Equal.calls _ _ t164 _ _ l3 false _ ?side1 ?side2 ?side3 ?side4 A33.out).mono ?_); (case side1 => exact cL (Kd.R_reads' HO166.out).2.2); (case side2 => exact (Kd.R_reads' HO166.out).2.1); (case side3 => exact cL (Kd.V_reads' HO_3.out).2.2); (case side4 => exact (Kd.V_reads' HO_3.out).2.1); rintro e w' ⟨rfl, ⟨nd, rfl⟩⟩))
        go_ret
        exact ⟨by first | rfl | (simp [errW_none, errW_some] <;> rfl) | (simp [*, errW_none, errW_some] <;> rfl), by repeat (first | (with_reducible first | exact HB.out | apply below_alloc | apply pw_below_drewN | apply below_drew1) | exact HB.out)⟩
      ·replace c31 := Bool.eq_false_iff.mpr c31
       subst c31
       have H1 : (some 50) = some r := by rw [if_neg (show ¬ (false = true) by decide)] at H; exact H
       clear H
       have H := H1
       clear H1
       obtain rfl := Option.some.inj H
       go_wp2_with (first | ((with_reducible refine gate_callee (f := 64) rfl ?_); refine goesL_ (some 49) rfl rfl Tryd.func64 (by kernel_rfl) rfl #[.int .i64 a1, .int .i64 a4, .slice A2 l2.length c2, .slice A5 l5.length c5, .bool true] rfl eqA ?_; (with_reducible refine (trail_tells.calls kj6 a1 a4 (fun k_ => ((P0_ k_ ∨ P2_ k_ ∨ P3_ k_ ∨ P5_ k_) ∨ w.heap.size ≤ k_)) _ _ l2 (fun k_ => ((P0_ k_ ∨ P2_ k_ ∨ P3_ k_ ∨ P5_ k_) ∨ w.heap.size ≤ k_)) _ _ l5 true t152 t155 true _ (Glb.of HG bel) ?side1 ?side2 A25.out).mono ?_); (case side1 => exact HO_2.out); (case side2 => exact HO_5.out); rintro e w49 ⟨v153, v156, rfl, ho0, ho1, hb⟩; refine ⟨_, rfl, ?_⟩; have n0_ := Aside0.mk (Kd.V_below (vL HO_0.out) hb); have n1_ := Aside0.mk (Kd.V_below (vL HO_2.out) hb); have n2_ := Aside0.mk (Kd.V_below (vL HO_3.out) hb); have n3_ := Aside0.mk (Kd.V_below (vL HO_5.out) hb); have n4_ := Aside0.mk (Kd.V_lower (Kd.V_mono (ok' := fun k_ => ((P0_ k_ ∨ P2_ k_ ∨ P3_ k_ ∨ P5_ k_) ∨ w.heap.size ≤ k_)) ho0 (fun k_ hk_ => Or.elim hk_ (fun hs_ => Or.elim hs_ (fun hs_ => hs_) (fun hs_ => hs_)) (fun hn_ => (.inr (Nat.le_trans (below_size bel) hn_))))) (below_size bel)); have n5_ := Aside0.mk (Kd.V_lower (Kd.V_mono (ok' := fun k_ => ((P0_ k_ ∨ P2_ k_ ∨ P3_ k_ ∨ P5_ k_) ∨ w.heap.size ≤ k_)) ho1 (fun k_ hk_ => Or.elim hk_ (fun hs_ => Or.elim hs_ (fun hs_ => hs_) (fun hs_ => hs_)) (fun hn_ => (.inr (Nat.le_trans (below_size bel) hn_))))) (below_size bel)); have n6_ := Aside0.mk (below_step bel hb); clear HO_0; clear HO_2; clear HO_3; clear HO_5; clear HB; have HO_0 := n0_; have HO_2 := n1_; have HO_3 := n2_; have HO_5 := n3_; have HO154 := n4_; have HO157 := n5_; have HB := n6_; clear n0_ n1_ n2_ n3_ n4_ n5_ n6_; (try clear hb); (try clear hb2); (try clear hk); (try clear hi); (try clear ho0); (try clear ho1); obtain ⟨Ao50, co50, eo50⟩ := Kd.V_slice HO154.out; subst eo50) | (go_at_call 60; (with_reducible refine (bytes_Equal.calls _ _ t152 _ _ l2 true _ ?side1 ?side2 ?side3 ?side4 A27.out).mono ?_); (case side1 => exact cL (Kd.V_reads' HO154.out).2.2); (case side2 => exact (Kd.V_reads' HO154.out).2.1); (case side3 => exact cL (Kd.V_reads' HO_2.out).2.2); (case side4 => exact (Kd.V_reads' HO_2.out).2.1); rintro e w' ⟨rfl, ⟨nd, rfl⟩⟩) | (go_at_call 49; (with_reducible refine (trail_head.calls kj6 a1 (fun k_ => ((P0_ k_ ∨ P2_ k_ ∨ P3_ k_ ∨ P5_ k_) ∨ w.heap.size ≤ k_)) _ _ l2 t160 _ (Glb.of HG bel) ?side1 A29.out).mono ?_); (case side1 => exact HO_2.out); rintro e w51 ⟨v161, rfl, ho0, hb⟩; have n0_ := Aside0.mk (Kd.V_elder' (vL HO_0.out) (Kd.R_base ho0) hb); have n1_ := Aside0.mk (Kd.V_elder' (vL HO_2.out) (Kd.R_base ho0) hb); have n2_ := Aside0.mk (Kd.V_elder' (vL HO_3.out) (Kd.R_base ho0) hb); have n3_ := Aside0.mk (Kd.V_elder' (vL HO_5.out) (Kd.R_base ho0) hb); have n4_ := Aside0.mk (Kd.V_elder' (vL HO154.out) (Kd.R_base ho0) hb); have n5_ := Aside0.mk (Kd.V_elder' (vL HO157.out) (Kd.R_base ho0) hb); have n6_ := Aside0.mk (Kd.R_lower (Kd.R_newM (M := fun k_ => (w.heap.size ≤ k_)) (Kd.R_mono (ok' := fun k_ => True) ho0 (fun _ hk_ => trivial)) (below_size bel) (fun k_ h_ => h_)) (below_size bel)); have n7_ := Aside0.mk (below_step bel hb); clear HO_0; clear HO_2; clear HO_3; clear HO_5; clear HO154; clear HO157; clear HB; have HO_0 := n0_; have HO_2 := n1_; have HO_3 := n2_; have HO_5 := n3_; have HO154 := n4_; have HO157 := n5_; have HO162 := n6_; have HB := n7_; clear n0_ n1_ n2_ n3_ n4_ n5_ n6_ n7_; (try clear hb); (try clear hb2); (try clear hk); (try clear hi); (try clear ho0); obtain ⟨Ao52, co52, eo52⟩ := Kd.R_slice HO162.out; subst eo52) | (go_at_call 60; (with_reducible refine (bytes_Equal.calls _ _ t160 _ _ l0 false _ ?side1 ?side2 ?side3 ?side4 A30.out).mono ?_); (case side1 => exact cL (Kd.R_reads' HO162.out).2.2); (case side2 => exact (Kd.R_reads' HO162.out).2.1); (case side3 => exact cL (Kd.V_reads' HO_0.out).2.2); (case side4 => exact (Kd.V_reads' HO_0.out).2.1); rintro e w' ⟨rfl, ⟨nd, rfl⟩⟩))
       go_ret
       exact ⟨by first | rfl | (simp [errW_none, errW_some] <;> rfl) | (simp [*, errW_none, errW_some] <;> rfl), by repeat (first | (with_reducible first | exact HB.out | apply below_alloc | apply pw_below_drewN | apply below_drew1) | exact HB.out)⟩
     ·replace c28 := Bool.eq_false_iff.mpr c28
      subst c28
      have H1 : (some 50) = some r := by rw [if_neg (show ¬ (false = true) by decide)] at H; exact H
      clear H
      have H := H1
      clear H1
      obtain rfl := Option.some.inj H
      go_wp2_with (first | ((with_reducible refine gate_callee (f := 64) rfl ?_); refine goesL_ (some 49) rfl rfl Tryd.func64 (by kernel_rfl) rfl #[.int .i64 a1, .int .i64 a4, .slice A2 l2.length c2, .slice A5 l5.length c5, .bool true] rfl eqA ?_; (with_reducible refine (trail_tells.calls kj6 a1 a4 (fun k_ => ((P0_ k_ ∨ P2_ k_ ∨ P3_ k_ ∨ P5_ k_) ∨ w.heap.size ≤ k_)) _ _ l2 (fun k_ => ((P0_ k_ ∨ P2_ k_ ∨ P3_ k_ ∨ P5_ k_) ∨ w.heap.size ≤ k_)) _ _ l5 true t152 t155 true _ (Glb.of HG bel) ?side1 ?side2 A25.out).mono ?_); (case side1 => exact HO_2.out); (case side2 => exact HO_5.out); rintro e w53 ⟨v153, v156, rfl, ho0, ho1, hb⟩; refine ⟨_, rfl, ?_⟩; have n0_ := Aside0.mk (Kd.V_below (vL HO_0.out) hb); have n1_ := Aside0.mk (Kd.V_below (vL HO_2.out) hb); have n2_ := Aside0.mk (Kd.V_below (vL HO_3.out) hb); have n3_ := Aside0.mk (Kd.V_below (vL HO_5.out) hb); have n4_ := Aside0.mk (Kd.V_lower (Kd.V_mono (ok' := fun k_ => ((P0_ k_ ∨ P2_ k_ ∨ P3_ k_ ∨ P5_ k_) ∨ w.heap.size ≤ k_)) ho0 (fun k_ hk_ => Or.elim hk_ (fun hs_ => Or.elim hs_ (fun hs_ => hs_) (fun hs_ => hs_)) (fun hn_ => (.inr (Nat.le_trans (below_size bel) hn_))))) (below_size bel)); have n5_ := Aside0.mk (Kd.V_lower (Kd.V_mono (ok' := fun k_ => ((P0_ k_ ∨ P2_ k_ ∨ P3_ k_ ∨ P5_ k_) ∨ w.heap.size ≤ k_)) ho1 (fun k_ hk_ => Or.elim hk_ (fun hs_ => Or.elim hs_ (fun hs_ => hs_) (fun hs_ => hs_)) (fun hn_ => (.inr (Nat.le_trans (below_size bel) hn_))))) (below_size bel)); have n6_ := Aside0.mk (below_step bel hb); clear HO_0; clear HO_2; clear HO_3; clear HO_5; clear HB; have HO_0 := n0_; have HO_2 := n1_; have HO_3 := n2_; have HO_5 := n3_; have HO154 := n4_; have HO157 := n5_; have HB := n6_; clear n0_ n1_ n2_ n3_ n4_ n5_ n6_; (try clear hb); (try clear hb2); (try clear hk); (try clear hi); (try clear ho0); (try clear ho1); obtain ⟨Ao54, co54, eo54⟩ := Kd.V_slice HO154.out; subst eo54) | (go_at_call 60; (with_reducible refine (bytes_Equal.calls _ _ t152 _ _ l2 false _ ?side1 ?side2 ?side3 ?side4 A27.out).mono ?_); (case side1 => exact cL (Kd.V_reads' HO154.out).2.2); (case side2 => exact (Kd.V_reads' HO154.out).2.1); (case side3 => exact cL (Kd.V_reads' HO_2.out).2.2); (case side4 => exact (Kd.V_reads' HO_2.out).2.1); rintro e w' ⟨rfl, ⟨nd, rfl⟩⟩))
      go_ret
      exact ⟨by first | rfl | (simp [errW_none, errW_some] <;> rfl) | (simp [*, errW_none, errW_some] <;> rfl), by repeat (first | (with_reducible first | exact HB.out | apply below_alloc | apply pw_below_drewN | apply below_drew1) | exact HB.out)⟩
    ·replace c26 := Bool.eq_false_iff.mpr c26
     subst c26
     have H1 : (some 50) = some r := by rw [if_neg (show ¬ (false = true) by decide)] at H; exact H
     clear H
     have H := H1
     clear H1
     obtain rfl := Option.some.inj H
     go_wp2_with (first | ((with_reducible refine gate_callee (f := 64) rfl ?_); refine goesL_ (some 49) rfl rfl Tryd.func64 (by kernel_rfl) rfl #[.int .i64 a1, .int .i64 a4, .slice A2 l2.length c2, .slice A5 l5.length c5, .bool true] rfl eqA ?_; (with_reducible refine (trail_tells.calls kj6 a1 a4 (fun k_ => ((P0_ k_ ∨ P2_ k_ ∨ P3_ k_ ∨ P5_ k_) ∨ w.heap.size ≤ k_)) _ _ l2 (fun k_ => ((P0_ k_ ∨ P2_ k_ ∨ P3_ k_ ∨ P5_ k_) ∨ w.heap.size ≤ k_)) _ _ l5 true t152 t155 false _ (Glb.of HG bel) ?side1 ?side2 A25.out).mono ?_); (case side1 => exact HO_2.out); (case side2 => exact HO_5.out); rintro e w55 ⟨v153, v156, rfl, ho0, ho1, hb⟩; refine ⟨_, rfl, ?_⟩; have n0_ := Aside0.mk (Kd.V_below (vL HO_0.out) hb); have n1_ := Aside0.mk (Kd.V_below (vL HO_2.out) hb); have n2_ := Aside0.mk (Kd.V_below (vL HO_3.out) hb); have n3_ := Aside0.mk (Kd.V_below (vL HO_5.out) hb); have n4_ := Aside0.mk (Kd.V_lower (Kd.V_mono (ok' := fun k_ => ((P0_ k_ ∨ P2_ k_ ∨ P3_ k_ ∨ P5_ k_) ∨ w.heap.size ≤ k_)) ho0 (fun k_ hk_ => Or.elim hk_ (fun hs_ => Or.elim hs_ (fun hs_ => hs_) (fun hs_ => hs_)) (fun hn_ => (.inr (Nat.le_trans (below_size bel) hn_))))) (below_size bel)); have n5_ := Aside0.mk (Kd.V_lower (Kd.V_mono (ok' := fun k_ => ((P0_ k_ ∨ P2_ k_ ∨ P3_ k_ ∨ P5_ k_) ∨ w.heap.size ≤ k_)) ho1 (fun k_ hk_ => Or.elim hk_ (fun hs_ => Or.elim hs_ (fun hs_ => hs_) (fun hs_ => hs_)) (fun hn_ => (.inr (Nat.le_trans (below_size bel) hn_))))) (below_size bel)); have n6_ := Aside0.mk (below_step bel hb); clear HO_0; clear HO_2; clear HO_3; clear HO_5; clear HB; have HO_0 := n0_; have HO_2 := n1_; have HO_3 := n2_; have HO_5 := n3_; have HO154 := n4_; have HO157 := n5_; have HB := n6_; clear n0_ n1_ n2_ n3_ n4_ n5_ n6_; (try clear hb); (try clear hb2); (try clear hk); (try clear hi); (try clear ho0); (try clear ho1)))
     go_ret
     exact ⟨by first | rfl | (simp [errW_none, errW_some] <;> rfl) | (simp [*, errW_none, errW_some] <;> rfl), by repeat (first | (with_reducible first | exact HB.out | apply below_alloc | apply pw_below_drewN | apply below_drew1) | exact HB.out)⟩

end Go.Proofs.YtcnpdapampclpaaDoor.PTr
