-- Written by a program of this session, after the print of the kit.
import Derived.Test.YtdpdmmbdoeefbaaDoorWC
import Derived.Test.YtdpdmmbdoeefbaaDoorPClx0
namespace Go.Proofs.YtdpdmmbdoeefbaaDoor.PCl
open Go.RowKit X PCut PCa PCs PCo PCr PRa YtdpdmmbdoeefbaaDoorW.PrintWords YtdpdmmbdoeefbaaDoorW.PrintLast YtdpdmmbdoeefbaaDoorW.PrintMore
attribute [local go_sem] max2_int min2_int max_two min_two max_three min_three max_four min_four   -- for this text's walks alone
set_option linter.unusedVariables false
set_option linter.unusedSimpArgs false

/-! ### imprimaturref06_Climb: function 50 -/
mutual
def imprimaturref06_Climb.j0 : Nat → Int → Int → Int → List (List Int) → List (List Int) → Bool → Option (List Int × (List (List Int)) × (List (List Int)) × Bool)
 | 0, _, _, _, _, _, _ => none
 | k + 1, x0, x1, x2, x3, x4, x36 => if x36 = true then (if (x4.length : Int) = 0 then (some (([] : List Int), ([] : List (List Int)), ([] : List (List Int)), false)) else (if 0 < (x4.length : Int) then (if 1 ≤ (x4.length : Int) then (some (rd_L1 x4 0, (x4.drop 1), ([] : List (List Int)), true)) else (none)) else (none))) else (if x1 = 1 then (if 0 ≤ (wrap64 (x0 - x2)) then (if (wrap64 (x0 - x2)) < (x3.length : Int) then (some (rd_L1 x3 (wrap64 (x0 - x2)), x4, ([] : List (List Int)), true)) else (none)) else (none)) else ((imprimaturref06_Half.f k x1).bind fun t108 => ((imprimaturref06_Climb.f k x0 t108 x2 x3 x4).bind fun bt109 => ((imprimaturref06_Climb.f k (wrap64 (x0 + t108)) (wrap64 (x1 - t108)) x2 x3 bt109.2.1).bind fun bt119 => ((imprimaturref06_NodeText.f bt109.1 bt119.1).bind fun t129 => ((imprimaturref02_Hash256.f t129).bind fun t132 => (if bt109.2.2.1.length + bt119.2.2.1.length < 5864062014805 then ((some (bt109.2.2.1 ++ bt119.2.2.1 : List (List Int))).bind fun y135 => (if y135.length < 5864062014805 then ((some (y135 ++ [t129] : List (List Int))).bind fun y138 => (if bt109.2.2.2 = true then (some (t132, bt119.2.1, y138, bt119.2.2.2)) else (some (t132, bt119.2.1, y138, false)))) else (none))) else (none))))))))
def imprimaturref06_Climb.f : Nat → Int → Int → Int → List (List Int) → List (List Int) → Option (List Int × (List (List Int)) × (List (List Int)) × Bool)
 | 0, _, _, _, _, _ => none
 | k + 1, a0, a1, a2, l3, l4 => if (wrap64 (a0 + a1)) ≤ a2 then (imprimaturref06_Climb.j0 k a0 a1 a2 l3 l4 true) else (imprimaturref06_Climb.j0 k a0 a1 a2 l3 l4 (decide (a0 ≥ (wrap64 (a2 + (l3.length : Int))))))
end
theorem imprimaturref06_Climb.mono_l : ∀ k, (∀ y0 y1 y2 y3 y4, LeO (imprimaturref06_Climb.f k y0 y1 y2 y3 y4) (imprimaturref06_Climb.f (k + 1) y0 y1 y2 y3 y4)) ∧ (∀ y0 y1 y2 y3 y4 y5, LeO (imprimaturref06_Climb.j0 k y0 y1 y2 y3 y4 y5) (imprimaturref06_Climb.j0 (k + 1) y0 y1 y2 y3 y4 y5))
 | 0 => ⟨fun _ _ _ _ _ r h => by simp [imprimaturref06_Climb.f] at h, fun _ _ _ _ _ _ r h => by simp [imprimaturref06_Climb.j0] at h⟩
 | k + 1 => by
  obtain ⟨ih0, ih1⟩ := imprimaturref06_Climb.mono_l k
  refine ⟨?_, ?_⟩
  ·intro y0 y1 y2 y3 y4
   unfold imprimaturref06_Climb.f
   repeat' first
   | (with_reducible exact ih0 _ _ _ _ _)
   | (with_reducible exact ih1 _ _ _ _ _ _)
   | (with_reducible exact imprimaturref06_Half.mono _ _)
   | (with_reducible exact LeO.refl _)
   | (with_reducible exact LeO.none _)
   | (with_reducible refine LeO.ite ?_ ?_)
   | (with_reducible refine LeO.bind ?_ (fun _ => ?_))
  intro y0 y1 y2 y3 y4 y5
  unfold imprimaturref06_Climb.j0
  repeat' first
  | (with_reducible exact ih0 _ _ _ _ _)
  | (with_reducible exact ih1 _ _ _ _ _ _)
  | (with_reducible exact imprimaturref06_Half.mono _ _)
  | (with_reducible exact LeO.refl _)
  | (with_reducible exact LeO.none _)
  | (with_reducible refine LeO.ite ?_ ?_)
  | (with_reducible refine LeO.bind ?_ (fun _ => ?_))
theorem imprimaturref06_Climb.mono : ∀ a0 a1 a2 a3 a4 k, LeO (imprimaturref06_Climb.f k a0 a1 a2 a3 a4) (imprimaturref06_Climb.f (k + 1) a0 a1 a2 a3 a4) := by
 intro a0 a1 a2 a3 a4 k
 obtain ⟨ih0, ih1⟩ := imprimaturref06_Climb.mono_l k
 exact ih0 a0 a1 a2 a3 a4
set_option maxHeartbeats 8000000 in
set_option maxRecDepth 100000 in
theorem imprimaturref06_Climb.calls (k : Nat) : ∀ (a0 : Int) (a1 : Int) (a2 : Int) (P3_ : Nat → Prop) (A3 : Option Addr) (c3 : Nat) (l3 : List (List Int)) (P4_ : Nat → Prop) (A4 : Option Addr) (c4 : Nat) (l4 : List (List Int)) (r1 : List Int) (r2 : List (List Int)) (r3 : List (List Int)) (r4 : Bool) (w : World) (hs3 : Kd.V (Kd.slice 5 (Kd.int .u8)) 22 w w.heap.size (fun k_ => P3_ k_) (.slice A3 l3.length c3) l3) (hs4 : Kd.V (Kd.slice 5 (Kd.int .u8)) 22 w w.heap.size (fun k_ => P4_ k_) (.slice A4 l4.length c4) l4) (h : imprimaturref06_Climb.f k a0 a1 a2 l3 l4 = some (r1, r2, r3, r4)),
  Calls Tryd.prog 50 #[.int .i64 a0, .int .i64 a1, .int .i64 a2, .slice A3 l3.length c3, .slice A4 l4.length c4] w fun e w' => ∃ v0_ v1_ v2_ : Value, e = .returned (.tuple #[v0_, v1_, v2_, .bool r4]) ∧ Kd.V (Kd.int .u8) 5 w' w.heap.size (fun k_ => ((P3_ k_ ∨ P4_ k_) ∨ w.heap.size ≤ k_) ∧ some k_ ≠ (v2_ : Value).ownBlock) v0_ r1 ∧ Kd.V (Kd.slice 5 (Kd.int .u8)) 22 w' w.heap.size (fun k_ => ((P3_ k_ ∨ P4_ k_) ∨ w.heap.size ≤ k_) ∧ some k_ ≠ (v2_ : Value).ownBlock) v1_ r2 ∧ Kd.N (Kd.slice 5 (Kd.int .u8)) 22 w' w.heap.size (fun k_ => ((P3_ k_ ∨ P4_ k_) ∨ w.heap.size ≤ k_)) v2_ r3 ∧ Below w.heap.size w w' := by
 induction k using Nat.strongRecOn with
 | _ k ih =>
 intro a0 a1 a2 P3_ A3 c3 l3 P4_ A4 c4 l4 r1 r2 r3 r4 w hs3 hs4 h
 cases k with
 | zero => exact absurd h (by simp [imprimaturref06_Climb.f])
 | succ k =>
 simp only [imprimaturref06_Climb.f] at h
 have HO3 := aM (show Kd.V (Kd.slice 5 (Kd.int .u8)) 22 w w.heap.size (fun k_ => ((P3_ k_ ∨ P4_ k_) ∨ w.heap.size ≤ k_)) (.slice A3 l3.length c3) l3 from Kd.V_mono hs3 (fun k_ hk => .inl (.inl hk)))
 have HO4 := aM (show Kd.V (Kd.slice 5 (Kd.int .u8)) 22 w w.heap.size (fun k_ => ((P3_ k_ ∨ P4_ k_) ∨ w.heap.size ≤ k_)) (.slice A4 l4.length c4) l4 from Kd.V_mono hs4 (fun k_ hk => .inl (.inr hk)))
 have HB := aM (Below.refl w.heap.size w)
 have H : (if (wrap64 (a0 + a1)) ≤ a2 then (imprimaturref06_Climb.j0 k a0 a1 a2 l3 l4 true) else (imprimaturref06_Climb.j0 k a0 a1 a2 l3 l4 (decide (a0 ≥ (wrap64 (a2 + (l3.length : Int))))))) = some (r1, r2, r3, r4) := h
 clear h
 have HC6 := aM H
 clear H
 go_enter Tryd.func50, Tryd.ntmps50
 go_upto_region 1 with (fail)
 repeat (go_quiet (fail); go_upto_region 1 with (fail))
 go_cut [36] (fun v36 wc => ∃ (kq : Nat) (x36_5 : Bool), v36 = .bool x36_5 ∧ Aside0 (imprimaturref06_Climb.j0 kq a0 a1 a2 l3 l4 x36_5 = some (r1, r2, r3, r4)) ∧ Aside0 (kq ≤ k) ∧ Aside0 (Kd.V (Kd.slice 5 (Kd.int .u8)) 22 wc w.heap.size (fun k_ => ((P3_ k_ ∨ P4_ k_) ∨ w.heap.size ≤ k_)) (.slice A3 l3.length c3) l3) ∧ Aside0 (Kd.V (Kd.slice 5 (Kd.int .u8)) 22 wc w.heap.size (fun k_ => ((P3_ k_ ∨ P4_ k_) ∨ w.heap.size ≤ k_)) (.slice A4 l4.length c4) l4) ∧ Aside0 (Below w.heap.size w wc))
 case first =>
  have H := HC6.out
  clear HC6
  by_cases c7 : (wrap64 (a0 + a1)) ≤ a2
  ·rw [if_pos c7] at H
   have c7b0 : decide ((wrap64 (a0 + a1)) ≤ a2) = true := decide_eq_true c7
   clear c7
   (first | rw [c7b0] | (simp only [i64_w, i32_w]; rw [c7b0]) | skip)
   have H' := aM H
   clear H
   go_wp2
   repeat (go_quiet (fail); try go_wp2)
   go_meet
   case rel => exact ⟨_, (true), rfS, H', omL, ⟨by (with_reducible repeat (first | apply Kd.V_alloc | apply Kd.V_drewN | apply Kd.V_drew)); exact HO3.out⟩, ⟨by (with_reducible repeat (first | apply Kd.V_alloc | apply Kd.V_drewN | apply Kd.V_drew)); exact HO4.out⟩, ⟨bel⟩⟩
  rw [if_neg c7] at H
  have c7b0 : decide ((wrap64 (a0 + a1)) ≤ a2) = false := decide_eq_false c7
  clear c7
  (first | rw [c7b0] | (simp only [i64_w, i32_w]; rw [c7b0]) | skip)
  have H' := aM H
  clear H
  go_wp2
  repeat (go_quiet (fail); try go_wp2)
  go_meet
  case rel => exact ⟨_, (decide (a0 ≥ (wrap64 (a2 + (l3.length : Int))))), rfS, H', omL, ⟨by (with_reducible repeat (first | apply Kd.V_alloc | apply Kd.V_drewN | apply Kd.V_drew)); exact HO3.out⟩, ⟨by (with_reducible repeat (first | apply Kd.V_alloc | apply Kd.V_drewN | apply Kd.V_drew)); exact HO4.out⟩, ⟨bel⟩⟩
 case rest =>
  clear HC6
  try clear c3
  try clear c4
  obtain ⟨kq, x36_5, rfl, HA, HJ5, HO_3, HO_4, HB⟩ := hcut
  cases kq with
  | zero => exact absurd HA.out (by simp [imprimaturref06_Climb.j0])
  | succ kj5 =>
   have H := HA.out
   clear HA
   simp only [imprimaturref06_Climb.j0] at H
   by_cases c8 : x36_5 = true
   ·subst c8
    have H1 : (if (l4.length : Int) = 0 then (some (([] : List Int), ([] : List (List Int)), ([] : List (List Int)), false)) else (if 0 < (l4.length : Int) then (if 1 ≤ (l4.length : Int) then (some (rd_L1 l4 0, (l4.drop 1), ([] : List (List Int)), true)) else (none)) else (none))) = some (r1, r2, r3, r4) := by rw [if_pos rfl] at H; exact H
    clear H
    have H := H1
    clear H1
    by_cases c9 : (l4.length : Int) = 0
    ·rw [if_pos c9] at H
     have c9b0 : ((l4.length : Int) == 0) = true := beq_iff_eq.mpr c9
     have c9b1 : ((l4.length : Int) != 0) = false := bne_eq_false_iff_eq.mpr c9
     clear c9
     simp only [Option.some.injEq, Prod.mk.injEq] at H
     obtain ⟨rfl, rfl, rfl, rfl⟩ := H
     go_wp2
     repeat (go_quiet (fail); try go_wp2)
     refine bodyPost_ret (results_list (rs := [.tmp 10, .tmp 11, .tmp 12, .tmp 13]) rfl (by simp) (.tmp (.tmp (.tmp (.tmp .nil))))) rfl ?_
     exact ⟨_, _, _, erR, Kd.V_nil _ _ _ _ _, Kd.V_nil _ _ _ _ _, by first | exact Kd.S_nil _ _ _ _ _ | exact Kd.N_nil _ _ _ _ _ | exact Kd.V_nil _ _ _ _ _ | exact Kd.Q_nil _ _ _ _ _ | exact Kd.R_nil _ _ _ _ _, bel⟩
    rw [if_neg c9] at H
    have c9b0 : ((l4.length : Int) == 0) = false := beq_eq_false_iff_ne.mpr c9
    have c9b1 : ((l4.length : Int) != 0) = true := bne_iff_ne.mpr c9
    have c9b2 : ¬ (l4 = []) := fun h_ => c9 (by rw [h_]; rfl)
    by_cases c10 : 0 < (l4.length : Int)
    rotate_left
    ·rw [if_neg c10] at H
     exact absurd H (by simp)
    rw [if_pos c10] at H
    have c10b0 : decide (0 < (l4.length : Int)) = true := decide_eq_true c10
    have c10b1 : decide (0 < l4.length) = true := decide_eq_true (by omega)
    clear c10
    by_cases c11 : 1 ≤ (l4.length : Int)
    rotate_left
    ·rw [if_neg c11] at H
     exact absurd H (by simp)
    rw [if_pos c11] at H
    have c11b0 := eq_true c11
    have c11b1 : decide (1 ≤ (l4.length : Int)) = true := decide_eq_true c11
    clear c11
    obtain ⟨y102, hy102⟩ : ∃ y_ : List (List Int), y_ = (l4.drop 1) := ⟨_, rfl⟩
    replace H : (some (rd_L1 l4 0, y102, ([] : List (List Int)), true)) = some (r1, r2, r3, r4) := hyA hy102 H
    have Ny102 := aM hy102
    clear hy102
    simp only [Option.some.injEq, Prod.mk.injEq] at H
    obtain ⟨rfl, rfl, rfl, rfl⟩ := H
    have p101 : 0 ≤ (0 : Int) := (by omega)
    have q101 : 0 < (l4.length : Int) := of_decide_eq_true asm_
    obtain ⟨ad101, A101_0, c101_0, e101, hx101_0, hl101_0, hi101_0⟩ := at_L1 (Kd.V_reads' HO_4.out).2.2 0 p101 q101
    cases e101
    obtain ⟨ce101, hce101, hMe101, hcc101⟩ := Kd.V_get HO_4.out [] 0 p101 (by first | exact q101 | exact of_decide_eq_true asm_ | (have e_ := (Kd.V_reads' HO_4.out).1; omega))
    obtain ⟨ua101_0, uc101_0, rfl, ul101_0, ge101_0⟩ := Kd.FK_slice_open hMe101
    have hv101_0 := hcc101 0 _ rfl
    rw [Nat.add_zero, show ((Kd.slice 5 (Kd.int .u8))).sz = 1 from rfl, Nat.mul_one] at hv101_0
    replace hv101_0 := Option.some.inj (hv101_0.symm.trans hx101_0)
    injection hv101_0 with hva_ hvn_ hvc_
    rw [hva_] at ge101_0
    rw [hvc_] at ul101_0
    have HL101_0 := aM (show Kd.V (Kd.int .u8) 5 _ w.heap.size _ _ (rd_L1 l4 0) from Kd.V_mk ul101_0 ge101_0)
    clear hva_ hvn_ hvc_ ge101_0 ul101_0
    clear hcc101 hce101
    have qi101 : (0 < l4.length) = True := eq_true (by omega)
    (try rw [show ((0 : Int)).toNat = 0 from rfl] at hx101_0)
    (try rw [Addr.add_zero'] at hx101_0)
    have HR101_0 := aM hi101_0
    have HC101_0 := aM hl101_0
    clear hi101_0 hl101_0
    replace p101 := eq_true p101
    replace q101 := eq_true q101
    have q12 : (1 : Int) ≤ ((l4.length : Int) : Int) := of_decide_eq_true asm_
    obtain ⟨i012, hi012, _, hsz12, _⟩ := info_parts info22
    have hroom12 : l4.length ≤ c4 := (Kd.V_reads' HO_4.out).2.1
    have hC12 : Kd.F (Kd.slice 5 (Kd.int .u8)) _ _ (some ad101) l4.length l4 := (Kd.V_at (base := w.heap.size) HO_4.out).2.2
    have hcut12 := cut_from (P := Tryd.prog) 23 22 .i64 Tryd.underlying23 hi012 1 hsz12 (some ad101) l4.length c4 1 (by omega) q12
    have hr12 := Kd.F_cut (m := (1 : Int).toNat) (c := c4) hC12 (by omega) hroom12
    obtain ⟨A12, hA12⟩ : ∃ A1, A1 = (if c4 = (1 : Int).toNat then (some ad101) else ((some ad101) : Option Addr).map (·.add ((1 : Int).toNat * 1))) := ⟨_, rfl⟩
    obtain ⟨c12, hc12⟩ : ∃ c1, c1 = c4 - (1 : Int).toNat := ⟨_, rfl⟩
    have hy12 : y102.length = l4.length - (1 : Int).toNat := (by rw [Ny102.out, List.length_drop] <;> omega)
    rw [show (l4).drop (1 : Int).toNat = y102 from Ny102.out.symm] at hr12
    replace hr12 : Kd.F (Kd.slice 5 (Kd.int .u8)) _ _ A12 y102.length y102 := (by rw [hA12]; exact hr12)
    rw [← hy12, ← hA12, ← hc12] at hcut12
    have HO106 := aM (show Kd.V (Kd.slice 5 (Kd.int .u8)) 22 _ w.heap.size _ (.slice A12 y102.length c12) y102 from Kd.V_mk (by rw [hy12, hc12]; exact Nat.sub_le_sub_right hroom12 _) hr12)
    have HC106 := aM (show y102.length ≤ c12 from by rw [hy12, hc12]; exact Nat.sub_le_sub_right hroom12 _)
    clear hr12 hC12 hroom12 hi012 hsz12 hc12
    have KY12 := aM hy12
    have KA12 := aM hA12
    clear hy12 hA12
    replace q12 := eq_true q12
    go_wp2
    repeat (go_quiet (fail); try go_wp2)
    refine bodyPost_ret (results_list (rs := [.tmp 10, .tmp 11, .tmp 12, .tmp 13]) rfl (by simp) (.tmp (.tmp (.tmp (.tmp .nil))))) rfl ?_
    exact ⟨_, _, _, erR, by (with_reducible repeat (first | apply Kd.V_alloc | apply Kd.V_drewN | apply Kd.V_drew)); exact Kd.V_mono HL101_0.out (fun _ hk => ⟨hk, (by simp [Value.ownBlock])⟩), by (with_reducible repeat (first | apply Kd.V_alloc | apply Kd.V_drewN | apply Kd.V_drew)); exact Kd.V_mono HO106.out (fun _ hk => ⟨hk, (by simp [Value.ownBlock])⟩), by first | exact Kd.S_nil _ _ _ _ _ | exact Kd.N_nil _ _ _ _ _ | exact Kd.V_nil _ _ _ _ _ | exact Kd.Q_nil _ _ _ _ _ | exact Kd.R_nil _ _ _ _ _, bel⟩
   replace c8 := Bool.eq_false_iff.mpr c8
   subst c8
   have H1 : (if a1 = 1 then (if 0 ≤ (wrap64 (a0 - a2)) then (if (wrap64 (a0 - a2)) < (l3.length : Int) then (some (rd_L1 l3 (wrap64 (a0 - a2)), l4, ([] : List (List Int)), true)) else (none)) else (none)) else ((imprimaturref06_Half.f kj5 a1).bind fun t108 => ((imprimaturref06_Climb.f kj5 a0 t108 a2 l3 l4).bind fun bt109 => ((imprimaturref06_Climb.f kj5 (wrap64 (a0 + t108)) (wrap64 (a1 - t108)) a2 l3 bt109.2.1).bind fun bt119 => ((imprimaturref06_NodeText.f bt109.1 bt119.1).bind fun t129 => ((imprimaturref02_Hash256.f t129).bind fun t132 => (if bt109.2.2.1.length + bt119.2.2.1.length < 5864062014805 then ((some (bt109.2.2.1 ++ bt119.2.2.1 : List (List Int))).bind fun y135 => (if y135.length < 5864062014805 then ((some (y135 ++ [t129] : List (List Int))).bind fun y138 => (if bt109.2.2.2 = true then (some (t132, bt119.2.1, y138, bt119.2.2.2)) else (some (t132, bt119.2.1, y138, false)))) else (none))) else (none)))))))) = some (r1, r2, r3, r4) := by rw [if_neg (show ¬ (false = true) by decide)] at H; exact H
   clear H
   have H := H1
   clear H1
   by_cases c13 : a1 = 1
   ·rw [if_pos c13] at H
    have c13b0 : (a1 == 1) = true := beq_iff_eq.mpr c13
    have c13b1 : (a1 != 1) = false := bne_eq_false_iff_eq.mpr c13
    clear c13
    obtain ⟨ji14, hji14⟩ : ∃ j_ : Int, (wrap64 (a0 - a2)) = j_ := ⟨_, rfl⟩
    replace H : (if 0 ≤ (ji14) then (if (ji14) < (l3.length : Int) then (some (rd_L1 l3 (ji14), l4, ([] : List (List Int)), true)) else (none)) else (none)) = some (r1, r2, r3, r4) := by first | (rw [hji14] at H; exact H) | (simp only [hji14] at H ⊢; exact H)
    have hji14w : (IntKind.i64.wrap (a0 - a2)) = ji14 := (i64_w _).trans hji14
    by_cases c15 : 0 ≤ (ji14)
    rotate_left
    ·rw [if_neg c15] at H
     exact absurd H (by simp)
    rw [if_pos c15] at H
    have c15b0 : decide (0 ≤ (ji14)) = true := decide_eq_true c15
    clear c15
    by_cases c16 : (ji14) < (l3.length : Int)
    rotate_left
    ·rw [if_neg c16] at H
     exact absurd H (by simp)
    rw [if_pos c16] at H
    have c16b0 : decide ((ji14) < (l3.length : Int)) = true := decide_eq_true c16
    clear c16
    simp only [Option.some.injEq, Prod.mk.injEq] at H
    obtain ⟨rfl, rfl, rfl, rfl⟩ := H
    have p107 : 0 ≤ ((ji14) : Int) := of_decide_eq_true asm_
    have q107 : (ji14) < (l3.length : Int) := of_decide_eq_true asm_
    obtain ⟨ad107, A107_0, c107_0, e107, hx107_0, hl107_0, hi107_0⟩ := at_L1 (Kd.V_reads' HO_3.out).2.2 (ji14) p107 q107
    cases e107
    obtain ⟨ce107, hce107, hMe107, hcc107⟩ := Kd.V_get HO_3.out [] (ji14) p107 (by first | exact q107 | exact of_decide_eq_true asm_ | (have e_ := (Kd.V_reads' HO_3.out).1; omega))
    obtain ⟨ua107_0, uc107_0, rfl, ul107_0, ge107_0⟩ := Kd.FK_slice_open hMe107
    have hv107_0 := hcc107 0 _ rfl
    rw [Nat.add_zero, show ((Kd.slice 5 (Kd.int .u8))).sz = 1 from rfl, Nat.mul_one] at hv107_0
    replace hv107_0 := Option.some.inj (hv107_0.symm.trans hx107_0)
    injection hv107_0 with hva_ hvn_ hvc_
    rw [hva_] at ge107_0
    rw [hvc_] at ul107_0
    have HL107_0 := aM (show Kd.V (Kd.int .u8) 5 _ w.heap.size _ _ (rd_L1 l3 (ji14)) from Kd.V_mk ul107_0 ge107_0)
    clear hva_ hvn_ hvc_ ge107_0 ul107_0
    clear hcc107 hce107
    have HR107_0 := aM hi107_0
    have HC107_0 := aM hl107_0
    clear hi107_0 hl107_0
    replace p107 := eq_true p107
    replace q107 := eq_true q107
    go_wp2
    repeat (go_quiet (fail); try go_wp2)
    refine bodyPost_ret (results_list (rs := [.tmp 10, .tmp 11, .tmp 12, .tmp 13]) rfl (by simp) (.tmp (.tmp (.tmp (.tmp .nil))))) rfl ?_
    exact ⟨_, _, _, by first | rfl | (simp [errW_none, errW_some] <;> rfl) | (simp only [← hji14]; first | rfl | (simp [errW_none, errW_some] <;> rfl)) | (simp [*, errW_none, errW_some] <;> rfl), by (with_reducible repeat (first | apply Kd.V_alloc | apply Kd.V_drewN | apply Kd.V_drew)); exact Kd.V_mono HL107_0.out (fun _ hk => ⟨hk, (by simp [Value.ownBlock])⟩), by (with_reducible repeat (first | apply Kd.V_alloc | apply Kd.V_drewN | apply Kd.V_drew)); exact Kd.V_mono HO_4.out (fun _ hk => ⟨hk, (by simp [Value.ownBlock])⟩), by first | exact Kd.S_nil _ _ _ _ _ | exact Kd.N_nil _ _ _ _ _ | exact Kd.V_nil _ _ _ _ _ | exact Kd.Q_nil _ _ _ _ _ | exact Kd.R_nil _ _ _ _ _, bel⟩
   rw [if_neg c13] at H
   have c13b0 : (a1 == 1) = false := beq_eq_false_iff_ne.mpr c13
   have c13b1 : (a1 != 1) = true := bne_iff_ne.mpr c13
   replace H := Option.bind_eq_some_iff.mp H
   obtain ⟨t108, A170, H⟩ := H
   replace H : ((imprimaturref06_Climb.f kj5 a0 t108 a2 l3 l4).bind fun bt109 => ((imprimaturref06_Climb.f kj5 (wrap64 (a0 + t108)) (wrap64 (a1 - t108)) a2 l3 bt109.2.1).bind fun bt119 => ((imprimaturref06_NodeText.f bt109.1 bt119.1).bind fun t129 => ((imprimaturref02_Hash256.f t129).bind fun t132 => (if bt109.2.2.1.length + bt119.2.2.1.length < 5864062014805 then ((some (bt109.2.2.1 ++ bt119.2.2.1 : List (List Int))).bind fun y135 => (if y135.length < 5864062014805 then ((some (y135 ++ [t129] : List (List Int))).bind fun y138 => (if bt109.2.2.2 = true then (some (t132, bt119.2.1, y138, bt119.2.2.2)) else (some (t132, bt119.2.1, y138, false)))) else (none))) else (none)))))) = some (r1, r2, r3, r4) := H
   have A17 := aM A170
   clear A170
   replace H := Option.bind_eq_some_iff.mp H
   obtain ⟨⟨t109, t112, t115, t118⟩, A180, H⟩ := H
   replace H : ((imprimaturref06_Climb.f kj5 (wrap64 (a0 + t108)) (wrap64 (a1 - t108)) a2 l3 t112).bind fun bt119 => ((imprimaturref06_NodeText.f t109 bt119.1).bind fun t129 => ((imprimaturref02_Hash256.f t129).bind fun t132 => (if t115.length + bt119.2.2.1.length < 5864062014805 then ((some (t115 ++ bt119.2.2.1 : List (List Int))).bind fun y135 => (if y135.length < 5864062014805 then ((some (y135 ++ [t129] : List (List Int))).bind fun y138 => (if t118 = true then (some (t132, bt119.2.1, y138, bt119.2.2.2)) else (some (t132, bt119.2.1, y138, false)))) else (none))) else (none))))) = some (r1, r2, r3, r4) := H
   have A18 := aM A180
   clear A180
   replace H := Option.bind_eq_some_iff.mp H
   obtain ⟨⟨t119, t122, t125, t128⟩, A190, H⟩ := H
   replace H : ((imprimaturref06_NodeText.f t109 t119).bind fun t129 => ((imprimaturref02_Hash256.f t129).bind fun t132 => (if t115.length + t125.length < 5864062014805 then ((some (t115 ++ t125 : List (List Int))).bind fun y135 => (if y135.length < 5864062014805 then ((some (y135 ++ [t129] : List (List Int))).bind fun y138 => (if t118 = true then (some (t132, t122, y138, t128)) else (some (t132, t122, y138, false)))) else (none))) else (none)))) = some (r1, r2, r3, r4) := H
   have A19 := aM A190
   clear A190
   replace H := Option.bind_eq_some_iff.mp H
   obtain ⟨t129, A200, H⟩ := H
   replace H : ((imprimaturref02_Hash256.f t129).bind fun t132 => (if t115.length + t125.length < 5864062014805 then ((some (t115 ++ t125 : List (List Int))).bind fun y135 => (if y135.length < 5864062014805 then ((some (y135 ++ [t129] : List (List Int))).bind fun y138 => (if t118 = true then (some (t132, t122, y138, t128)) else (some (t132, t122, y138, false)))) else (none))) else (none))) = some (r1, r2, r3, r4) := H
   have A20 := aM A200
   clear A200
   replace H := Option.bind_eq_some_iff.mp H
   obtain ⟨t132, A210, H⟩ := H
   replace H : (if t115.length + t125.length < 5864062014805 then ((some (t115 ++ t125 : List (List Int))).bind fun y135 => (if y135.length < 5864062014805 then ((some (y135 ++ [t129] : List (List Int))).bind fun y138 => (if t118 = true then (some (t132, t122, y138, t128)) else (some (t132, t122, y138, false)))) else (none))) else (none)) = some (r1, r2, r3, r4) := H
   have A21 := aM A210
   clear A210
   by_cases c22 : t115.length + t125.length < 5864062014805
   rotate_left
   ·rw [if_neg c22] at H
    exact absurd H (by simp)

   rw [if_pos c22] at H
   have LMc22 := aM c22
   clear c22
   obtain ⟨y135, hy135⟩ : ∃ y_ : List (List Int), y_ = (t115 ++ t125) := ⟨_, rfl⟩
   replace H : (if y135.length < 5864062014805 then ((some (y135 ++ [t129] : List (List Int))).bind fun y138 => (if t118 = true then (some (t132, t122, y138, t128)) else (some (t132, t122, y138, false)))) else (none)) = some (r1, r2, r3, r4) := hyA hy135 H
   have Ny135 := aM hy135
   clear hy135
   by_cases c23 : y135.length < 5864062014805
   rotate_left
   ·rw [if_neg c23] at H
    exact absurd H (by simp)
   rw [if_pos c23] at H
   have LMc23 := aM c23
   clear c23
   obtain ⟨y138, hy138⟩ : ∃ y_ : List (List Int), y_ = (y135 ++ [t129]) := ⟨_, rfl⟩
   replace H : (if t118 = true then (some (t132, t122, y138, t128)) else (some (t132, t122, y138, false))) = some (r1, r2, r3, r4) := hyA hy138 H
   have Ny138 := aM hy138
   clear hy138
   by_cases c24 : t118 = true
   ·subst c24
    have H1 : (some (t132, t122, y138, t128)) = some (r1, r2, r3, r4) := by rw [if_pos rfl] at H; exact H
    clear H
    have H := H1
    clear H1
    simp only [Option.some.injEq, Prod.mk.injEq] at H
    obtain ⟨rfl, rfl, rfl, rfl⟩ := H
    go_wp2_with (first | (go_at_call 72; (with_reducible refine (imprimaturref06_Half.calls kj5 a1 t108 _ A17.out).mono ?_); rintro e w' ⟨rfl, ⟨nd, rfl⟩⟩; (try first | exact ⟨rfl, _, World.drewN_drewN _ _ _⟩ | exact ⟨rfl, _, Eq.trans (World.drewN_drewN _ _ _) (congrArg (World.drewN _) (Nat.add_assoc _ _ _))⟩)) | (go_at_call 50; (with_reducible refine (ih kj5 (by have := HJ5.out; omega) a0 t108 a2 (fun k_ => ((P3_ k_ ∨ P4_ k_) ∨ w.heap.size ≤ k_)) _ _ l3 (fun k_ => ((P3_ k_ ∨ P4_ k_) ∨ w.heap.size ≤ k_)) _ _ l4 t109 t112 t115 true _ ?side1 ?side2 A18.out).mono ?_); (case side1 => exact HO_3.out); (case side2 => exact HO_4.out); rintro e w25 ⟨v110, v113, v116, rfl, ho0, ho1, ho2, hb⟩; replace HO_3 := aM (Kd.V_elder' (vL HO_3.out) (Kd.N_base ho2) hb); replace HO_4 := aM (Kd.V_elder' (vL HO_4.out) (Kd.N_base ho2) hb); have HO111 := aM (Kd.V_lower (Kd.V_mono (ok' := fun k_ => ((P3_ k_ ∨ P4_ k_) ∨ w.heap.size ≤ k_) ∧ some k_ ≠ (v116 : Value).ownBlock) ho0 (fun k_ hk_ => ⟨Or.elim hk_.1 (fun hs_ => Or.elim hs_ (fun hs_ => hs_) (fun hs_ => hs_)) (fun hn_ => (.inr (Nat.le_trans (below_size bel) hn_))), hk_.2⟩)) (below_size bel)); have HO114 := aM (Kd.V_lower (Kd.V_mono (ok' := fun k_ => ((P3_ k_ ∨ P4_ k_) ∨ w.heap.size ≤ k_) ∧ some k_ ≠ (v116 : Value).ownBlock) ho1 (fun k_ hk_ => ⟨Or.elim hk_.1 (fun hs_ => Or.elim hs_ (fun hs_ => hs_) (fun hs_ => hs_)) (fun hn_ => (.inr (Nat.le_trans (below_size bel) hn_))), hk_.2⟩)) (below_size bel)); have HO117 := aM (Kd.N_lower (Kd.N_mono (ok' := fun k_ => ((P3_ k_ ∨ P4_ k_) ∨ w.heap.size ≤ k_)) ho2 (fun k_ hk_ => Or.elim hk_ (fun hs_ => Or.elim hs_ (fun hs_ => hs_) (fun hs_ => hs_)) (fun hn_ => (.inr (Nat.le_trans (below_size bel) hn_))))) (below_size bel)); replace HB := aM (below_step bel hb); clear hb ho0 ho1 ho2; obtain ⟨Ao26, co26, eo26⟩ := Kd.V_slice HO114.out; subst eo26) | (go_at_call 50; (with_reducible refine (ih kj5 (by have := HJ5.out; omega) (wrap64 (a0 + t108)) (wrap64 (a1 - t108)) a2 (fun k_ => (((P3_ k_ ∨ P4_ k_) ∨ w.heap.size ≤ k_) ∧ some k_ ≠ (v116 : Value).ownBlock)) _ _ l3 (fun k_ => (((P3_ k_ ∨ P4_ k_) ∨ w.heap.size ≤ k_) ∧ some k_ ≠ (v116 : Value).ownBlock)) _ _ t112 t119 t122 t125 t128 _ ?side1 ?side2 A19.out).mono ?_); (case side1 => exact HO_3.out); (case side2 => exact HO114.out); rintro e w27 ⟨v120, v123, v126, rfl, ho0, ho1, ho2, hb⟩; replace HO_3 := aM (Kd.V_elder' (vL HO_3.out) (Kd.N_base ho2) hb); replace HO_4 := aM (Kd.V_elder' (vL HO_4.out) (Kd.N_base ho2) hb); replace HO111 := aM (Kd.V_elder' (vL HO111.out) (Kd.N_base ho2) hb); replace HO114 := aM (Kd.V_elder' (vL HO114.out) (Kd.N_base ho2) hb); have HO121 := aM (Kd.V_lower (Kd.V_mono (ok' := fun k_ => ((P3_ k_ ∨ P4_ k_) ∨ w.heap.size ≤ k_) ∧ some k_ ≠ (v126 : Value).ownBlock ∧ some k_ ≠ (v116 : Value).ownBlock) ho0 (fun k_ hk_ => ⟨Or.elim hk_.1 (fun hs_ => Or.elim hs_ (fun hs_ => hs_.1) (fun hs_ => hs_.1)) (fun hn_ => (.inr (Nat.le_trans (below_size bel) hn_))), hk_.2, Or.elim hk_.1 (fun hs_ => Or.elim hs_ (fun hs_ => hs_.2) (fun hs_ => hs_.2)) (fun hn_ => (Kd.fresh' (Kd.N_lt (nL HO117.out)) k_ hn_))⟩)) (below_size bel)); have HO124 := aM (Kd.V_lower (Kd.V_mono (ok' := fun k_ => ((P3_ k_ ∨ P4_ k_) ∨ w.heap.size ≤ k_) ∧ some k_ ≠ (v126 : Value).ownBlock ∧ some k_ ≠ (v116 : Value).ownBlock) ho1 (fun k_ hk_ => ⟨Or.elim hk_.1 (fun hs_ => Or.elim hs_ (fun hs_ => hs_.1) (fun hs_ => hs_.1)) (fun hn_ => (.inr (Nat.le_trans (below_size bel) hn_))), hk_.2, Or.elim hk_.1 (fun hs_ => Or.elim hs_ (fun hs_ => hs_.2) (fun hs_ => hs_.2)) (fun hn_ => (Kd.fresh' (Kd.N_lt (nL HO117.out)) k_ hn_))⟩)) (below_size bel)); have HO127 := aM (Kd.N_lower (Kd.N_mono (ok' := fun k_ => ((P3_ k_ ∨ P4_ k_) ∨ w.heap.size ≤ k_) ∧ some k_ ≠ (v116 : Value).ownBlock) ho2 (fun k_ hk_ => ⟨Or.elim hk_ (fun hs_ => Or.elim hs_ (fun hs_ => hs_.1) (fun hs_ => hs_.1)) (fun hn_ => (.inr (Nat.le_trans (below_size bel) hn_))), Or.elim hk_ (fun hs_ => Or.elim hs_ (fun hs_ => hs_.2) (fun hs_ => hs_.2)) (fun hn_ => (Kd.fresh' (Kd.N_lt (nL HO117.out)) k_ hn_))⟩)) (below_size bel)); replace HO117 := aM (Kd.N_elder' (nL HO117.out) (Kd.N_base ho2) hb); replace HB := aM (below_step bel hb); clear hb ho0 ho1 ho2; obtain ⟨Ao28, co28, eo28⟩ := Kd.V_slice HO111.out; subst eo28; obtain ⟨Ao29, co29, eo29⟩ := Kd.V_slice HO121.out; subst eo29) | (go_at_call 73; (with_reducible refine (imprimaturref06_NodeText.calls _ _ t109 _ _ t119 t129 _ ?side1 ?side2 ?side3 ?side4 A20.out).mono ?_); (case side1 => exact cL (Kd.V_reads' HO111.out).2.2); (case side2 => exact (Kd.V_reads' HO111.out).2.1); (case side3 => exact cL (Kd.V_reads' HO121.out).2.2); (case side4 => exact (Kd.V_reads' HO121.out).2.1); rintro e w30 ⟨v130, rfl, ho0, hb⟩; replace HO_3 := aM (Kd.V_elder' (vL HO_3.out) (Kd.R_base ho0) hb); replace HO_4 := aM (Kd.V_elder' (vL HO_4.out) (Kd.R_base ho0) hb); replace HO111 := aM (Kd.V_elder' (vL HO111.out) (Kd.R_base ho0) hb); replace HO114 := aM (Kd.V_elder' (vL HO114.out) (Kd.R_base ho0) hb); replace HO117 := aM (Kd.N_elder' (nL HO117.out) (Kd.R_base ho0) hb); replace HO121 := aM (Kd.V_elder' (vL HO121.out) (Kd.R_base ho0) hb); replace HO124 := aM (Kd.V_elder' (vL HO124.out) (Kd.R_base ho0) hb); replace HO127 := aM (Kd.N_elder' (nL HO127.out) (Kd.R_base ho0) hb); have HO131 := aM (Kd.R_lower (Kd.R_newM (M := fun k_ => (w.heap.size ≤ k_)) ho0 (below_size bel) (fun k_ h_ => h_)) (below_size bel)); replace HB := aM (below_step bel hb); clear hb ho0; obtain ⟨Ao31, co31, eo31⟩ := Kd.R_slice HO131.out; subst eo31) | (go_at_call 56; (with_reducible refine (imprimaturref02_Hash256.calls _ _ t129 t132 _ ?side1 ?side2 A21.out).mono ?_); (case side1 => exact cL (Kd.R_reads' HO131.out).2.2); (case side2 => exact (Kd.R_reads' HO131.out).2.1); rintro e w32 ⟨v133, rfl, ho0, hb⟩; replace HO_3 := aM (Kd.V_elder' (vL HO_3.out) (Kd.R_base ho0) hb); replace HO_4 := aM (Kd.V_elder' (vL HO_4.out) (Kd.R_base ho0) hb); replace HO111 := aM (Kd.V_elder' (vL HO111.out) (Kd.R_base ho0) hb); replace HO114 := aM (Kd.V_elder' (vL HO114.out) (Kd.R_base ho0) hb); replace HO117 := aM (Kd.N_elder' (nL HO117.out) (Kd.R_base ho0) hb); replace HO121 := aM (Kd.V_elder' (vL HO121.out) (Kd.R_base ho0) hb); replace HO124 := aM (Kd.V_elder' (vL HO124.out) (Kd.R_base ho0) hb); replace HO127 := aM (Kd.N_elder' (nL HO127.out) (Kd.R_base ho0) hb); have HO134 := aM (Kd.R_lower (Kd.R_new' (Kd.R_newM (M := fun k_ => (w.heap.size ≤ k_)) ho0 (below_size bel) (fun k_ h_ => h_)) (Kd.R_lt (rL HO131.out))) (below_size bel)); replace HO131 := aM (Kd.R_elder' (rL HO131.out) (Kd.R_base ho0) hb); replace HB := aM (below_step bel hb); clear hb ho0; obtain ⟨Ao34, co34, eo34⟩ := Kd.N_slice HO127.out; subst eo34) | ((with_reducible refine gate_builtin (b := .append) (xs := #[.tmp 88, .tmp 89]) rfl ?_); (try (refine gate_guard (by rfl) ?_; dsimp only)); at_builtin; refine Kd.N_append_rows (Kd.slice 5 (Kd.int .u8)) (w0 := w) w.heap.size rfl (.tmp 88) (.tmp 89) 23 22 (.slice none 0 0) 24 rfl Tryd.underlying23 info22 rfl (by decide) (by omega) v116 t115 t125 _ _ _ (fun k_ => ((P3_ k_ ∨ P4_ k_) ∨ w.heap.size ≤ k_) ∧ some k_ ≠ (.slice Ao31 t129.length co31 : Value).ownBlock ∧ some k_ ≠ (v133 : Value).ownBlock) (fun k_ => ((fun k_ => ((P3_ k_ ∨ P4_ k_) ∨ w.heap.size ≤ k_) ∧ some k_ ≠ (.slice Ao31 t129.length co31 : Value).ownBlock ∧ some k_ ≠ (v133 : Value).ownBlock)) k_ ∧ some k_ ≠ (v116 : Value).ownBlock) rfl rfl ?aO ?aR (fun _ hk => hk) ?aF ?aB ?aS ?aL ?_; (case aR => exact (by skip; exact Kd.N_F (Kd.N_mono (ok' := (fun k_ => ((fun k_ => ((P3_ k_ ∨ P4_ k_) ∨ w.heap.size ≤ k_) ∧ some k_ ≠ (.slice Ao31 t129.length co31 : Value).ownBlock ∧ some k_ ≠ (v133 : Value).ownBlock)) k_ ∧ some k_ ≠ (v116 : Value).ownBlock)) (HO127.out) (fun k_ hk => ⟨⟨hk.1.1.1, ⟨hk.1.2, hk.2⟩⟩, hk.1.1.2⟩)))); (case aB => exact bel); (case aF => exact (fun k_ hk => ⟨(.inr (Nat.le_trans (below_size bel) hk)), Kd.fresh' (Kd.R_lt (rL HO131.out)) k_ hk, Kd.fresh' (Kd.R_lt (rL HO134.out)) k_ hk⟩)); (case aO => exact (by (with_reducible repeat (first | apply Kd.N_alloc | apply Kd.N_drewN | apply Kd.N_drew)); exact Kd.N_mono HO117.out (fun _ hk => ⟨hk.1.1.1, ⟨hk.1.2, hk.2⟩⟩))); (case aS => exact (below_size bel)); (case aL => have := LMc22.out; omega); intro v136 w33 ho hb hg hat; rw [← Ny135.out] at ho; replace HO_3 := aM (Kd.V_afterv (ok := (fun k_ => ((P3_ k_ ∨ P4_ k_) ∨ w.heap.size ≤ k_) ∧ some k_ ≠ (.slice Ao34 t125.length co34 : Value).ownBlock ∧ some k_ ≠ (.slice Ao31 t129.length co31 : Value).ownBlock ∧ some k_ ≠ (v133 : Value).ownBlock)) (by (with_reducible repeat (first | apply Kd.V_alloc | apply Kd.V_drewN | apply Kd.V_drew)); exact Kd.V_mono HO_3.out (fun _ hk => ⟨⟨hk.1.1.1.1, ⟨hk.1.1.2, ⟨hk.1.2, hk.2⟩⟩⟩, hk.1.1.1.2⟩)) hg hat); replace HO_4 := aM (Kd.V_afterv (ok := (fun k_ => ((P3_ k_ ∨ P4_ k_) ∨ w.heap.size ≤ k_) ∧ some k_ ≠ (.slice Ao34 t125.length co34 : Value).ownBlock ∧ some k_ ≠ (.slice Ao31 t129.length co31 : Value).ownBlock ∧ some k_ ≠ (v133 : Value).ownBlock)) (by (with_reducible repeat (first | apply Kd.V_alloc | apply Kd.V_drewN | apply Kd.V_drew)); exact Kd.V_mono HO_4.out (fun _ hk => ⟨⟨hk.1.1.1.1, ⟨hk.1.1.2, ⟨hk.1.2, hk.2⟩⟩⟩, hk.1.1.1.2⟩)) hg hat); replace HO111 := aM (Kd.V_afterv (ok := (fun k_ => ((P3_ k_ ∨ P4_ k_) ∨ w.heap.size ≤ k_) ∧ some k_ ≠ (.slice Ao34 t125.length co34 : Value).ownBlock ∧ some k_ ≠ (.slice Ao31 t129.length co31 : Value).ownBlock ∧ some k_ ≠ (v133 : Value).ownBlock)) (by (with_reducible repeat (first | apply Kd.V_alloc | apply Kd.V_drewN | apply Kd.V_drew)); exact Kd.V_mono HO111.out (fun _ hk => ⟨⟨hk.1.1.1.1, ⟨hk.1.1.2, ⟨hk.1.2, hk.2⟩⟩⟩, hk.1.1.1.2⟩)) hg hat); replace HO114 := aM (Kd.V_afterv (ok := (fun k_ => ((P3_ k_ ∨ P4_ k_) ∨ w.heap.size ≤ k_) ∧ some k_ ≠ (.slice Ao34 t125.length co34 : Value).ownBlock ∧ some k_ ≠ (.slice Ao31 t129.length co31 : Value).ownBlock ∧ some k_ ≠ (v133 : Value).ownBlock)) (by (with_reducible repeat (first | apply Kd.V_alloc | apply Kd.V_drewN | apply Kd.V_drew)); exact Kd.V_mono HO114.out (fun _ hk => ⟨⟨hk.1.1.1.1, ⟨hk.1.1.2, ⟨hk.1.2, hk.2⟩⟩⟩, hk.1.1.1.2⟩)) hg hat); replace HO121 := aM (Kd.V_afterv (ok := (fun k_ => ((P3_ k_ ∨ P4_ k_) ∨ w.heap.size ≤ k_) ∧ some k_ ≠ (.slice Ao34 t125.length co34 : Value).ownBlock ∧ some k_ ≠ (.slice Ao31 t129.length co31 : Value).ownBlock ∧ some k_ ≠ (v133 : Value).ownBlock)) (by (with_reducible repeat (first | apply Kd.V_alloc | apply Kd.V_drewN | apply Kd.V_drew)); exact Kd.V_mono HO121.out (fun _ hk => ⟨⟨hk.1.1.1, ⟨hk.1.1.2.1, ⟨hk.1.2, hk.2⟩⟩⟩, hk.1.1.2.2⟩)) hg hat); replace HO124 := aM (Kd.V_afterv (ok := (fun k_ => ((P3_ k_ ∨ P4_ k_) ∨ w.heap.size ≤ k_) ∧ some k_ ≠ (.slice Ao34 t125.length co34 : Value).ownBlock ∧ some k_ ≠ (.slice Ao31 t129.length co31 : Value).ownBlock ∧ some k_ ≠ (v133 : Value).ownBlock)) (by (with_reducible repeat (first | apply Kd.V_alloc | apply Kd.V_drewN | apply Kd.V_drew)); exact Kd.V_mono HO124.out (fun _ hk => ⟨⟨hk.1.1.1, ⟨hk.1.1.2.1, ⟨hk.1.2, hk.2⟩⟩⟩, hk.1.1.2.2⟩)) hg hat); replace HO127 := aM (Kd.N_afterv (ok := (fun k_ => ((P3_ k_ ∨ P4_ k_) ∨ w.heap.size ≤ k_) ∧ some k_ ≠ (.slice Ao31 t129.length co31 : Value).ownBlock ∧ some k_ ≠ (v133 : Value).ownBlock)) (by (with_reducible repeat (first | apply Kd.N_alloc | apply Kd.N_drewN | apply Kd.N_drew)); exact Kd.N_mono HO127.out (fun _ hk => ⟨⟨hk.1.1.1, ⟨hk.1.2, hk.2⟩⟩, hk.1.1.2⟩)) hg hat); replace HO131 := aM (Kd.R_over' (rL HO131.out) (Kd.N_typed (nL HO117.out)) (by decide) hg); replace HO134 := aM (Kd.R_over' (rL HO134.out) (Kd.N_typed (nL HO117.out)) (by decide) hg); replace HB := aM (hb); have HO137 := aM (ho); clear HO117; clear ho hb hg hat) | ((with_reducible refine gate_builtin (b := .append) (xs := #[.tmp 90, .tmp 92]) rfl ?_); (try (refine gate_guard (by rfl) ?_; dsimp only)); at_builtin; refine Kd.N_append (Kd.slice 5 (Kd.int .u8)) (w0 := w) w.heap.size rfl (.tmp 90) (.tmp 92) 23 22 (.slice none 0 0) 24 rfl Tryd.underlying23 info22 rfl (by decide) (by omega) v136 y135 t129 [.slice Ao31 t129.length co31] (fun k_ => ((P3_ k_ ∨ P4_ k_) ∨ w.heap.size ≤ k_) ∧ some k_ ≠ (v133 : Value).ownBlock) (fun k_ => ((fun k_ => ((P3_ k_ ∨ P4_ k_) ∨ w.heap.size ≤ k_) ∧ some k_ ≠ (v133 : Value).ownBlock)) k_ ∧ some k_ ≠ (v136 : Value).ownBlock) rfl rfl ?aP (fun _ hk => hk) ?aF ?aO ?aB ?aS ?aL ?_; (case aP => exact (Kd.FK_slice_mk (Kd.R_reads' (Kd.R_mono (ok' := (fun k_ => ((fun k_ => ((P3_ k_ ∨ P4_ k_) ∨ w.heap.size ≤ k_) ∧ some k_ ≠ (v133 : Value).ownBlock)) k_ ∧ some k_ ≠ (v136 : Value).ownBlock)) (Kd.R_apart' (HO131.out) (Kd.N_typed HO137.out) (by decide)) (fun k_ hk => ⟨⟨(.inr (hk.1.1.1)), hk.1.2⟩, hk.2⟩))).2.1 (Kd.R_F (Kd.R_mono (ok' := (fun k_ => ((fun k_ => ((P3_ k_ ∨ P4_ k_) ∨ w.heap.size ≤ k_) ∧ some k_ ≠ (v133 : Value).ownBlock)) k_ ∧ some k_ ≠ (v136 : Value).ownBlock)) (Kd.R_apart' (HO131.out) (Kd.N_typed HO137.out) (by decide)) (fun k_ hk => ⟨⟨(.inr (hk.1.1.1)), hk.1.2⟩, hk.2⟩))))); (case aB => exact bel); (case aF => exact (fun k_ hk => ⟨(.inr (Nat.le_trans (below_size bel) hk)), Kd.fresh' (Kd.R_lt (rL HO134.out)) k_ hk⟩)); (case aO => exact (by (with_reducible repeat (first | apply Kd.N_alloc | apply Kd.N_drewN | apply Kd.N_drew)); exact Kd.N_mono HO137.out (fun _ hk => ⟨hk.1, hk.2.2⟩))); (case aS => exact (below_size bel)); (case aL => have := LMc23.out; omega); intro v139 w35 ho hb hg hat; rw [← Ny138.out] at ho; replace HO_3 := aM (Kd.V_afterv (ok := (fun k_ => ((P3_ k_ ∨ P4_ k_) ∨ w.heap.size ≤ k_) ∧ some k_ ≠ (.slice Ao34 t125.length co34 : Value).ownBlock ∧ some k_ ≠ (.slice Ao31 t129.length co31 : Value).ownBlock ∧ some k_ ≠ (v133 : Value).ownBlock)) (vL HO_3.out) hg hat); replace HO_4 := aM (Kd.V_afterv (ok := (fun k_ => ((P3_ k_ ∨ P4_ k_) ∨ w.heap.size ≤ k_) ∧ some k_ ≠ (.slice Ao34 t125.length co34 : Value).ownBlock ∧ some k_ ≠ (.slice Ao31 t129.length co31 : Value).ownBlock ∧ some k_ ≠ (v133 : Value).ownBlock)) (vL HO_4.out) hg hat); replace HO111 := aM (Kd.V_afterv (ok := (fun k_ => ((P3_ k_ ∨ P4_ k_) ∨ w.heap.size ≤ k_) ∧ some k_ ≠ (.slice Ao34 t125.length co34 : Value).ownBlock ∧ some k_ ≠ (.slice Ao31 t129.length co31 : Value).ownBlock ∧ some k_ ≠ (v133 : Value).ownBlock)) (vL HO111.out) hg hat); replace HO114 := aM (Kd.V_afterv (ok := (fun k_ => ((P3_ k_ ∨ P4_ k_) ∨ w.heap.size ≤ k_) ∧ some k_ ≠ (.slice Ao34 t125.length co34 : Value).ownBlock ∧ some k_ ≠ (.slice Ao31 t129.length co31 : Value).ownBlock ∧ some k_ ≠ (v133 : Value).ownBlock)) (vL HO114.out) hg hat); replace HO121 := aM (Kd.V_afterv (ok := (fun k_ => ((P3_ k_ ∨ P4_ k_) ∨ w.heap.size ≤ k_) ∧ some k_ ≠ (.slice Ao34 t125.length co34 : Value).ownBlock ∧ some k_ ≠ (.slice Ao31 t129.length co31 : Value).ownBlock ∧ some k_ ≠ (v133 : Value).ownBlock)) (vL HO121.out) hg hat); replace HO124 := aM (Kd.V_afterv (ok := (fun k_ => ((P3_ k_ ∨ P4_ k_) ∨ w.heap.size ≤ k_) ∧ some k_ ≠ (.slice Ao34 t125.length co34 : Value).ownBlock ∧ some k_ ≠ (.slice Ao31 t129.length co31 : Value).ownBlock ∧ some k_ ≠ (v133 : Value).ownBlock)) (vL HO124.out) hg hat); replace HO127 := aM (Kd.N_afterv (ok := (fun k_ => ((P3_ k_ ∨ P4_ k_) ∨ w.heap.size ≤ k_) ∧ some k_ ≠ (.slice Ao31 t129.length co31 : Value).ownBlock ∧ some k_ ≠ (v133 : Value).ownBlock)) (nL HO127.out) hg hat); replace HO134 := aM (Kd.R_over' (rL HO134.out) (Kd.N_typed (nL HO137.out)) (by decide) hg); replace HB := aM (hb); have HO140 := aM (ho); clear HO137 HO131; clear ho hb hg hat))
    refine bodyPost_ret (results_list (rs := [.tmp 10, .tmp 11, .tmp 12, .tmp 13]) rfl (by simp) (.tmp (.tmp (.tmp (.tmp .nil))))) rfl ?_
    exact ⟨_, _, _, erR, Kd.V_mono (Kd.R_V (base' := w.heap.size) (Kd.R_apart' HO134.out (Kd.N_typed HO140.out) (by decide))) (fun k_ hk => ⟨.inr hk.1.1.1, hk.2⟩), by (with_reducible repeat (first | apply Kd.V_alloc | apply Kd.V_drewN | apply Kd.V_drew)); exact Kd.V_mono HO124.out (fun _ hk => ⟨hk.1.1, hk.2⟩), by (with_reducible repeat (first | apply Kd.N_alloc | apply Kd.N_drewN | apply Kd.N_drew)); exact Kd.N_mono HO140.out (fun _ hk => hk.1), bel⟩
   replace c24 := Bool.eq_false_iff.mpr c24
   subst c24
   have H1 : (some (t132, t122, y138, false)) = some (r1, r2, r3, r4) := by rw [if_neg (show ¬ (false = true) by decide)] at H; exact H
   clear H
   have H := H1
   clear H1
   simp only [Option.some.injEq, Prod.mk.injEq] at H
   obtain ⟨rfl, rfl, rfl, rfl⟩ := H
   go_wp2_with (first | (go_at_call 72; (with_reducible refine (imprimaturref06_Half.calls kj5 a1 t108 _ A17.out).mono ?_); rintro e w' ⟨rfl, ⟨nd, rfl⟩⟩; (try first | exact ⟨rfl, _, World.drewN_drewN _ _ _⟩ | exact ⟨rfl, _, Eq.trans (World.drewN_drewN _ _ _) (congrArg (World.drewN _) (Nat.add_assoc _ _ _))⟩)) | (go_at_call 50; (with_reducible refine (ih kj5 (by have := HJ5.out; omega) a0 t108 a2 (fun k_ => ((P3_ k_ ∨ P4_ k_) ∨ w.heap.size ≤ k_)) _ _ l3 (fun k_ => ((P3_ k_ ∨ P4_ k_) ∨ w.heap.size ≤ k_)) _ _ l4 t109 t112 t115 false _ ?side1 ?side2 A18.out).mono ?_); (case side1 => exact HO_3.out); (case side2 => exact HO_4.out); rintro e w36 ⟨v110, v113, v116, rfl, ho0, ho1, ho2, hb⟩; replace HO_3 := aM (Kd.V_elder' (vL HO_3.out) (Kd.N_base ho2) hb); replace HO_4 := aM (Kd.V_elder' (vL HO_4.out) (Kd.N_base ho2) hb); have HO111 := aM (Kd.V_lower (Kd.V_mono (ok' := fun k_ => ((P3_ k_ ∨ P4_ k_) ∨ w.heap.size ≤ k_) ∧ some k_ ≠ (v116 : Value).ownBlock) ho0 (fun k_ hk_ => ⟨Or.elim hk_.1 (fun hs_ => Or.elim hs_ (fun hs_ => hs_) (fun hs_ => hs_)) (fun hn_ => (.inr (Nat.le_trans (below_size bel) hn_))), hk_.2⟩)) (below_size bel)); have HO114 := aM (Kd.V_lower (Kd.V_mono (ok' := fun k_ => ((P3_ k_ ∨ P4_ k_) ∨ w.heap.size ≤ k_) ∧ some k_ ≠ (v116 : Value).ownBlock) ho1 (fun k_ hk_ => ⟨Or.elim hk_.1 (fun hs_ => Or.elim hs_ (fun hs_ => hs_) (fun hs_ => hs_)) (fun hn_ => (.inr (Nat.le_trans (below_size bel) hn_))), hk_.2⟩)) (below_size bel)); have HO117 := aM (Kd.N_lower (Kd.N_mono (ok' := fun k_ => ((P3_ k_ ∨ P4_ k_) ∨ w.heap.size ≤ k_)) ho2 (fun k_ hk_ => Or.elim hk_ (fun hs_ => Or.elim hs_ (fun hs_ => hs_) (fun hs_ => hs_)) (fun hn_ => (.inr (Nat.le_trans (below_size bel) hn_))))) (below_size bel)); replace HB := aM (below_step bel hb); clear hb ho0 ho1 ho2; obtain ⟨Ao37, co37, eo37⟩ := Kd.V_slice HO114.out; subst eo37) | (go_at_call 50; (with_reducible refine (ih kj5 (by have := HJ5.out; omega) (wrap64 (a0 + t108)) (wrap64 (a1 - t108)) a2 (fun k_ => (((P3_ k_ ∨ P4_ k_) ∨ w.heap.size ≤ k_) ∧ some k_ ≠ (v116 : Value).ownBlock)) _ _ l3 (fun k_ => (((P3_ k_ ∨ P4_ k_) ∨ w.heap.size ≤ k_) ∧ some k_ ≠ (v116 : Value).ownBlock)) _ _ t112 t119 t122 t125 t128 _ ?side1 ?side2 A19.out).mono ?_); (case side1 => exact HO_3.out); (case side2 => exact HO114.out); rintro e w38 ⟨v120, v123, v126, rfl, ho0, ho1, ho2, hb⟩; replace HO_3 := aM (Kd.V_elder' (vL HO_3.out) (Kd.N_base ho2) hb); replace HO_4 := aM (Kd.V_elder' (vL HO_4.out) (Kd.N_base ho2) hb); replace HO111 := aM (Kd.V_elder' (vL HO111.out) (Kd.N_base ho2) hb); replace HO114 := aM (Kd.V_elder' (vL HO114.out) (Kd.N_base ho2) hb); have HO121 := aM (Kd.V_lower (Kd.V_mono (ok' := fun k_ => ((P3_ k_ ∨ P4_ k_) ∨ w.heap.size ≤ k_) ∧ some k_ ≠ (v126 : Value).ownBlock ∧ some k_ ≠ (v116 : Value).ownBlock) ho0 (fun k_ hk_ => ⟨Or.elim hk_.1 (fun hs_ => Or.elim hs_ (fun hs_ => hs_.1) (fun hs_ => hs_.1)) (fun hn_ => (.inr (Nat.le_trans (below_size bel) hn_))), hk_.2, Or.elim hk_.1 (fun hs_ => Or.elim hs_ (fun hs_ => hs_.2) (fun hs_ => hs_.2)) (fun hn_ => (Kd.fresh' (Kd.N_lt (nL HO117.out)) k_ hn_))⟩)) (below_size bel)); have HO124 := aM (Kd.V_lower (Kd.V_mono (ok' := fun k_ => ((P3_ k_ ∨ P4_ k_) ∨ w.heap.size ≤ k_) ∧ some k_ ≠ (v126 : Value).ownBlock ∧ some k_ ≠ (v116 : Value).ownBlock) ho1 (fun k_ hk_ => ⟨Or.elim hk_.1 (fun hs_ => Or.elim hs_ (fun hs_ => hs_.1) (fun hs_ => hs_.1)) (fun hn_ => (.inr (Nat.le_trans (below_size bel) hn_))), hk_.2, Or.elim hk_.1 (fun hs_ => Or.elim hs_ (fun hs_ => hs_.2) (fun hs_ => hs_.2)) (fun hn_ => (Kd.fresh' (Kd.N_lt (nL HO117.out)) k_ hn_))⟩)) (below_size bel)); have HO127 := aM (Kd.N_lower (Kd.N_mono (ok' := fun k_ => ((P3_ k_ ∨ P4_ k_) ∨ w.heap.size ≤ k_) ∧ some k_ ≠ (v116 : Value).ownBlock) ho2 (fun k_ hk_ => ⟨Or.elim hk_ (fun hs_ => Or.elim hs_ (fun hs_ => hs_.1) (fun hs_ => hs_.1)) (fun hn_ => (.inr (Nat.le_trans (below_size bel) hn_))), Or.elim hk_ (fun hs_ => Or.elim hs_ (fun hs_ => hs_.2) (fun hs_ => hs_.2)) (fun hn_ => (Kd.fresh' (Kd.N_lt (nL HO117.out)) k_ hn_))⟩)) (below_size bel)); replace HO117 := aM (Kd.N_elder' (nL HO117.out) (Kd.N_base ho2) hb); replace HB := aM (below_step bel hb); clear hb ho0 ho1 ho2; obtain ⟨Ao39, co39, eo39⟩ := Kd.V_slice HO111.out; subst eo39; obtain ⟨Ao40, co40, eo40⟩ := Kd.V_slice HO121.out; subst eo40) | (go_at_call 73; (with_reducible refine (imprimaturref06_NodeText.calls _ _ t109 _ _ t119 t129 _ ?side1 ?side2 ?side3 ?side4 A20.out).mono ?_); (case side1 => exact cL (Kd.V_reads' HO111.out).2.2); (case side2 => exact (Kd.V_reads' HO111.out).2.1); (case side3 => exact cL (Kd.V_reads' HO121.out).2.2); (case side4 => exact (Kd.V_reads' HO121.out).2.1); rintro e w41 ⟨v130, rfl, ho0, hb⟩; replace HO_3 := aM (Kd.V_elder' (vL HO_3.out) (Kd.R_base ho0) hb); replace HO_4 := aM (Kd.V_elder' (vL HO_4.out) (Kd.R_base ho0) hb); replace HO111 := aM (Kd.V_elder' (vL HO111.out) (Kd.R_base ho0) hb); replace HO114 := aM (Kd.V_elder' (vL HO114.out) (Kd.R_base ho0) hb); replace HO117 := aM (Kd.N_elder' (nL HO117.out) (Kd.R_base ho0) hb); replace HO121 := aM (Kd.V_elder' (vL HO121.out) (Kd.R_base ho0) hb); replace HO124 := aM (Kd.V_elder' (vL HO124.out) (Kd.R_base ho0) hb); replace HO127 := aM (Kd.N_elder' (nL HO127.out) (Kd.R_base ho0) hb); have HO131 := aM (Kd.R_lower (Kd.R_newM (M := fun k_ => (w.heap.size ≤ k_)) ho0 (below_size bel) (fun k_ h_ => h_)) (below_size bel)); replace HB := aM (below_step bel hb); clear hb ho0; obtain ⟨Ao42, co42, eo42⟩ := Kd.R_slice HO131.out; subst eo42) | (go_at_call 56; (with_reducible refine (imprimaturref02_Hash256.calls _ _ t129 t132 _ ?side1 ?side2 A21.out).mono ?_); (case side1 => exact cL (Kd.R_reads' HO131.out).2.2); (case side2 => exact (Kd.R_reads' HO131.out).2.1); rintro e w43 ⟨v133, rfl, ho0, hb⟩; replace HO_3 := aM (Kd.V_elder' (vL HO_3.out) (Kd.R_base ho0) hb); replace HO_4 := aM (Kd.V_elder' (vL HO_4.out) (Kd.R_base ho0) hb); replace HO111 := aM (Kd.V_elder' (vL HO111.out) (Kd.R_base ho0) hb); replace HO114 := aM (Kd.V_elder' (vL HO114.out) (Kd.R_base ho0) hb); replace HO117 := aM (Kd.N_elder' (nL HO117.out) (Kd.R_base ho0) hb); replace HO121 := aM (Kd.V_elder' (vL HO121.out) (Kd.R_base ho0) hb); replace HO124 := aM (Kd.V_elder' (vL HO124.out) (Kd.R_base ho0) hb); replace HO127 := aM (Kd.N_elder' (nL HO127.out) (Kd.R_base ho0) hb); have HO134 := aM (Kd.R_lower (Kd.R_new' (Kd.R_newM (M := fun k_ => (w.heap.size ≤ k_)) ho0 (below_size bel) (fun k_ h_ => h_)) (Kd.R_lt (rL HO131.out))) (below_size bel)); replace HO131 := aM (Kd.R_elder' (rL HO131.out) (Kd.R_base ho0) hb); replace HB := aM (below_step bel hb); clear hb ho0; obtain ⟨Ao45, co45, eo45⟩ := Kd.N_slice HO127.out; subst eo45) | ((with_reducible refine gate_builtin (b := .append) (xs := #[.tmp 88, .tmp 89]) rfl ?_); (try (refine gate_guard (by rfl) ?_; dsimp only)); at_builtin; refine Kd.N_append_rows (Kd.slice 5 (Kd.int .u8)) (w0 := w) w.heap.size rfl (.tmp 88) (.tmp 89) 23 22 (.slice none 0 0) 24 rfl Tryd.underlying23 info22 rfl (by decide) (by omega) v116 t115 t125 _ _ _ (fun k_ => ((P3_ k_ ∨ P4_ k_) ∨ w.heap.size ≤ k_) ∧ some k_ ≠ (.slice Ao42 t129.length co42 : Value).ownBlock ∧ some k_ ≠ (v133 : Value).ownBlock) (fun k_ => ((fun k_ => ((P3_ k_ ∨ P4_ k_) ∨ w.heap.size ≤ k_) ∧ some k_ ≠ (.slice Ao42 t129.length co42 : Value).ownBlock ∧ some k_ ≠ (v133 : Value).ownBlock)) k_ ∧ some k_ ≠ (v116 : Value).ownBlock) rfl rfl ?aO ?aR (fun _ hk => hk) ?aF ?aB ?aS ?aL ?_; (case aR => exact (by skip; exact Kd.N_F (Kd.N_mono (ok' := (fun k_ => ((fun k_ => ((P3_ k_ ∨ P4_ k_) ∨ w.heap.size ≤ k_) ∧ some k_ ≠ (.slice Ao42 t129.length co42 : Value).ownBlock ∧ some k_ ≠ (v133 : Value).ownBlock)) k_ ∧ some k_ ≠ (v116 : Value).ownBlock)) (HO127.out) (fun k_ hk => ⟨⟨hk.1.1.1, ⟨hk.1.2, hk.2⟩⟩, hk.1.1.2⟩)))); (case aB => exact bel); (case aF => exact (fun k_ hk => ⟨(.inr (Nat.le_trans (below_size bel) hk)), Kd.fresh' (Kd.R_lt (rL HO131.out)) k_ hk, Kd.fresh' (Kd.R_lt (rL HO134.out)) k_ hk⟩)); (case aO => exact (by (with_reducible repeat (first | apply Kd.N_alloc | apply Kd.N_drewN | apply Kd.N_drew)); exact Kd.N_mono HO117.out (fun _ hk => ⟨hk.1.1.1, ⟨hk.1.2, hk.2⟩⟩))); (case aS => exact (below_size bel)); (case aL => have := LMc22.out; omega); intro v136 w44 ho hb hg hat; rw [← Ny135.out] at ho; replace HO_3 := aM (Kd.V_afterv (ok := (fun k_ => ((P3_ k_ ∨ P4_ k_) ∨ w.heap.size ≤ k_) ∧ some k_ ≠ (.slice Ao45 t125.length co45 : Value).ownBlock ∧ some k_ ≠ (.slice Ao42 t129.length co42 : Value).ownBlock ∧ some k_ ≠ (v133 : Value).ownBlock)) (by (with_reducible repeat (first | apply Kd.V_alloc | apply Kd.V_drewN | apply Kd.V_drew)); exact Kd.V_mono HO_3.out (fun _ hk => ⟨⟨hk.1.1.1.1, ⟨hk.1.1.2, ⟨hk.1.2, hk.2⟩⟩⟩, hk.1.1.1.2⟩)) hg hat); replace HO_4 := aM (Kd.V_afterv (ok := (fun k_ => ((P3_ k_ ∨ P4_ k_) ∨ w.heap.size ≤ k_) ∧ some k_ ≠ (.slice Ao45 t125.length co45 : Value).ownBlock ∧ some k_ ≠ (.slice Ao42 t129.length co42 : Value).ownBlock ∧ some k_ ≠ (v133 : Value).ownBlock)) (by (with_reducible repeat (first | apply Kd.V_alloc | apply Kd.V_drewN | apply Kd.V_drew)); exact Kd.V_mono HO_4.out (fun _ hk => ⟨⟨hk.1.1.1.1, ⟨hk.1.1.2, ⟨hk.1.2, hk.2⟩⟩⟩, hk.1.1.1.2⟩)) hg hat); replace HO111 := aM (Kd.V_afterv (ok := (fun k_ => ((P3_ k_ ∨ P4_ k_) ∨ w.heap.size ≤ k_) ∧ some k_ ≠ (.slice Ao45 t125.length co45 : Value).ownBlock ∧ some k_ ≠ (.slice Ao42 t129.length co42 : Value).ownBlock ∧ some k_ ≠ (v133 : Value).ownBlock)) (by (with_reducible repeat (first | apply Kd.V_alloc | apply Kd.V_drewN | apply Kd.V_drew)); exact Kd.V_mono HO111.out (fun _ hk => ⟨⟨hk.1.1.1.1, ⟨hk.1.1.2, ⟨hk.1.2, hk.2⟩⟩⟩, hk.1.1.1.2⟩)) hg hat); replace HO114 := aM (Kd.V_afterv (ok := (fun k_ => ((P3_ k_ ∨ P4_ k_) ∨ w.heap.size ≤ k_) ∧ some k_ ≠ (.slice Ao45 t125.length co45 : Value).ownBlock ∧ some k_ ≠ (.slice Ao42 t129.length co42 : Value).ownBlock ∧ some k_ ≠ (v133 : Value).ownBlock)) (by (with_reducible repeat (first | apply Kd.V_alloc | apply Kd.V_drewN | apply Kd.V_drew)); exact Kd.V_mono HO114.out (fun _ hk => ⟨⟨hk.1.1.1.1, ⟨hk.1.1.2, ⟨hk.1.2, hk.2⟩⟩⟩, hk.1.1.1.2⟩)) hg hat); replace HO121 := aM (Kd.V_afterv (ok := (fun k_ => ((P3_ k_ ∨ P4_ k_) ∨ w.heap.size ≤ k_) ∧ some k_ ≠ (.slice Ao45 t125.length co45 : Value).ownBlock ∧ some k_ ≠ (.slice Ao42 t129.length co42 : Value).ownBlock ∧ some k_ ≠ (v133 : Value).ownBlock)) (by (with_reducible repeat (first | apply Kd.V_alloc | apply Kd.V_drewN | apply Kd.V_drew)); exact Kd.V_mono HO121.out (fun _ hk => ⟨⟨hk.1.1.1, ⟨hk.1.1.2.1, ⟨hk.1.2, hk.2⟩⟩⟩, hk.1.1.2.2⟩)) hg hat); replace HO124 := aM (Kd.V_afterv (ok := (fun k_ => ((P3_ k_ ∨ P4_ k_) ∨ w.heap.size ≤ k_) ∧ some k_ ≠ (.slice Ao45 t125.length co45 : Value).ownBlock ∧ some k_ ≠ (.slice Ao42 t129.length co42 : Value).ownBlock ∧ some k_ ≠ (v133 : Value).ownBlock)) (by (with_reducible repeat (first | apply Kd.V_alloc | apply Kd.V_drewN | apply Kd.V_drew)); exact Kd.V_mono HO124.out (fun _ hk => ⟨⟨hk.1.1.1, ⟨hk.1.1.2.1, ⟨hk.1.2, hk.2⟩⟩⟩, hk.1.1.2.2⟩)) hg hat); replace HO127 := aM (Kd.N_afterv (ok := (fun k_ => ((P3_ k_ ∨ P4_ k_) ∨ w.heap.size ≤ k_) ∧ some k_ ≠ (.slice Ao42 t129.length co42 : Value).ownBlock ∧ some k_ ≠ (v133 : Value).ownBlock)) (by (with_reducible repeat (first | apply Kd.N_alloc | apply Kd.N_drewN | apply Kd.N_drew)); exact Kd.N_mono HO127.out (fun _ hk => ⟨⟨hk.1.1.1, ⟨hk.1.2, hk.2⟩⟩, hk.1.1.2⟩)) hg hat); replace HO131 := aM (Kd.R_over' (rL HO131.out) (Kd.N_typed (nL HO117.out)) (by decide) hg); replace HO134 := aM (Kd.R_over' (rL HO134.out) (Kd.N_typed (nL HO117.out)) (by decide) hg); replace HB := aM (hb); have HO137 := aM (ho); clear HO117; clear ho hb hg hat) | ((with_reducible refine gate_builtin (b := .append) (xs := #[.tmp 90, .tmp 92]) rfl ?_); (try (refine gate_guard (by rfl) ?_; dsimp only)); at_builtin; refine Kd.N_append (Kd.slice 5 (Kd.int .u8)) (w0 := w) w.heap.size rfl (.tmp 90) (.tmp 92) 23 22 (.slice none 0 0) 24 rfl Tryd.underlying23 info22 rfl (by decide) (by omega) v136 y135 t129 [.slice Ao42 t129.length co42] (fun k_ => ((P3_ k_ ∨ P4_ k_) ∨ w.heap.size ≤ k_) ∧ some k_ ≠ (v133 : Value).ownBlock) (fun k_ => ((fun k_ => ((P3_ k_ ∨ P4_ k_) ∨ w.heap.size ≤ k_) ∧ some k_ ≠ (v133 : Value).ownBlock)) k_ ∧ some k_ ≠ (v136 : Value).ownBlock) rfl rfl ?aP (fun _ hk => hk) ?aF ?aO ?aB ?aS ?aL ?_; (case aP => exact (Kd.FK_slice_mk (Kd.R_reads' (Kd.R_mono (ok' := (fun k_ => ((fun k_ => ((P3_ k_ ∨ P4_ k_) ∨ w.heap.size ≤ k_) ∧ some k_ ≠ (v133 : Value).ownBlock)) k_ ∧ some k_ ≠ (v136 : Value).ownBlock)) (Kd.R_apart' (HO131.out) (Kd.N_typed HO137.out) (by decide)) (fun k_ hk => ⟨⟨(.inr (hk.1.1.1)), hk.1.2⟩, hk.2⟩))).2.1 (Kd.R_F (Kd.R_mono (ok' := (fun k_ => ((fun k_ => ((P3_ k_ ∨ P4_ k_) ∨ w.heap.size ≤ k_) ∧ some k_ ≠ (v133 : Value).ownBlock)) k_ ∧ some k_ ≠ (v136 : Value).ownBlock)) (Kd.R_apart' (HO131.out) (Kd.N_typed HO137.out) (by decide)) (fun k_ hk => ⟨⟨(.inr (hk.1.1.1)), hk.1.2⟩, hk.2⟩))))); (case aB => exact bel); (case aF => exact (fun k_ hk => ⟨(.inr (Nat.le_trans (below_size bel) hk)), Kd.fresh' (Kd.R_lt (rL HO134.out)) k_ hk⟩)); (case aO => exact (by (with_reducible repeat (first | apply Kd.N_alloc | apply Kd.N_drewN | apply Kd.N_drew)); exact Kd.N_mono HO137.out (fun _ hk => ⟨hk.1, hk.2.2⟩))); (case aS => exact (below_size bel)); (case aL => have := LMc23.out; omega); intro v139 w46 ho hb hg hat; rw [← Ny138.out] at ho; replace HO_3 := aM (Kd.V_afterv (ok := (fun k_ => ((P3_ k_ ∨ P4_ k_) ∨ w.heap.size ≤ k_) ∧ some k_ ≠ (.slice Ao45 t125.length co45 : Value).ownBlock ∧ some k_ ≠ (.slice Ao42 t129.length co42 : Value).ownBlock ∧ some k_ ≠ (v133 : Value).ownBlock)) (vL HO_3.out) hg hat); replace HO_4 := aM (Kd.V_afterv (ok := (fun k_ => ((P3_ k_ ∨ P4_ k_) ∨ w.heap.size ≤ k_) ∧ some k_ ≠ (.slice Ao45 t125.length co45 : Value).ownBlock ∧ some k_ ≠ (.slice Ao42 t129.length co42 : Value).ownBlock ∧ some k_ ≠ (v133 : Value).ownBlock)) (vL HO_4.out) hg hat); replace HO111 := aM (Kd.V_afterv (ok := (fun k_ => ((P3_ k_ ∨ P4_ k_) ∨ w.heap.size ≤ k_) ∧ some k_ ≠ (.slice Ao45 t125.length co45 : Value).ownBlock ∧ some k_ ≠ (.slice Ao42 t129.length co42 : Value).ownBlock ∧ some k_ ≠ (v133 : Value).ownBlock)) (vL HO111.out) hg hat); replace HO114 := aM (Kd.V_afterv (ok := (fun k_ => ((P3_ k_ ∨ P4_ k_) ∨ w.heap.size ≤ k_) ∧ some k_ ≠ (.slice Ao45 t125.length co45 : Value).ownBlock ∧ some k_ ≠ (.slice Ao42 t129.length co42 : Value).ownBlock ∧ some k_ ≠ (v133 : Value).ownBlock)) (vL HO114.out) hg hat); replace HO121 := aM (Kd.V_afterv (ok := (fun k_ => ((P3_ k_ ∨ P4_ k_) ∨ w.heap.size ≤ k_) ∧ some k_ ≠ (.slice Ao45 t125.length co45 : Value).ownBlock ∧ some k_ ≠ (.slice Ao42 t129.length co42 : Value).ownBlock ∧ some k_ ≠ (v133 : Value).ownBlock)) (vL HO121.out) hg hat); replace HO124 := aM (Kd.V_afterv (ok := (fun k_ => ((P3_ k_ ∨ P4_ k_) ∨ w.heap.size ≤ k_) ∧ some k_ ≠ (.slice Ao45 t125.length co45 : Value).ownBlock ∧ some k_ ≠ (.slice Ao42 t129.length co42 : Value).ownBlock ∧ some k_ ≠ (v133 : Value).ownBlock)) (vL HO124.out) hg hat); replace HO127 := aM (Kd.N_afterv (ok := (fun k_ => ((P3_ k_ ∨ P4_ k_) ∨ w.heap.size ≤ k_) ∧ some k_ ≠ (.slice Ao42 t129.length co42 : Value).ownBlock ∧ some k_ ≠ (v133 : Value).ownBlock)) (nL HO127.out) hg hat); replace HO134 := aM (Kd.R_over' (rL HO134.out) (Kd.N_typed (nL HO137.out)) (by decide) hg); replace HB := aM (hb); have HO140 := aM (ho); clear HO137 HO131; clear ho hb hg hat))
   refine bodyPost_ret (results_list (rs := [.tmp 10, .tmp 11, .tmp 12, .tmp 13]) rfl (by simp) (.tmp (.tmp (.tmp (.tmp .nil))))) rfl ?_
   exact ⟨_, _, _, erR, Kd.V_mono (Kd.R_V (base' := w.heap.size) (Kd.R_apart' HO134.out (Kd.N_typed HO140.out) (by decide))) (fun k_ hk => ⟨.inr hk.1.1.1, hk.2⟩), by (with_reducible repeat (first | apply Kd.V_alloc | apply Kd.V_drewN | apply Kd.V_drew)); exact Kd.V_mono HO124.out (fun _ hk => ⟨hk.1.1, hk.2⟩), by (with_reducible repeat (first | apply Kd.N_alloc | apply Kd.N_drewN | apply Kd.N_drew)); exact Kd.N_mono HO140.out (fun _ hk => hk.1), bel⟩
end Go.Proofs.YtdpdmmbdoeefbaaDoor.PCl
