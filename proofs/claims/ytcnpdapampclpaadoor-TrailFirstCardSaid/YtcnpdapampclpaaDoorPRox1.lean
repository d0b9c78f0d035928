-- Written by a program of this session, after the print of the kit.
import Derived.Test.YtcnpdapampclpaaDoorWC
import Derived.Test.YtcnpdapampclpaaDoorPRox0
namespace Go.Proofs.YtcnpdapampclpaaDoor.PRo
open Go.RowKit Go.Proofs.YtcnpdapampclpaaDoor.X Go.Proofs.YtcnpdapampclpaaDoor.PRa Go.Proofs.YtcnpdapampclpaaDoor.PRb Go.Proofs.YtcnpdapampclpaaDoorW.PrintWords Go.Proofs.YtcnpdapampclpaaDoorW.PrintLast Go.Proofs.YtcnpdapampclpaaDoorW.PrintMore
attribute [local go_sem] max2_int min2_int max_two min_two max_three min_three max_four min_four   -- for this text's walks alone
set_option linter.unusedVariables false
set_option linter.unusedSimpArgs false

/-! ### imprimaturref20_Told: function 43 -/
mutual
def imprimaturref20_Told.j0 : Nat → Int → Int → List Int → List (List Int) → Bool → Bool → Option (List Int × List Int × (List (List Int)) × Bool)
 | 0, _, _, _, _, _, _ => none
 | k + 1, x0, x1, x2, x3, x4, x33 => if x33 = true then (some (x2, x2, ([] : List (List Int)), ((x3.length : Int) == 0))) else (if (x3.length : Int) = 0 then (imprimaturref20_Told.j1 k x0 x1 x2 x3 x4 true) else (if x0 = x1 then (imprimaturref20_Told.j1 k x0 x1 x2 x3 x4 ((x3.length : Int) != 1)) else (imprimaturref20_Told.j1 k x0 x1 x2 x3 x4 false)))
def imprimaturref20_Told.j1 : Nat → Int → Int → List Int → List (List Int) → Bool → Bool → Option (List Int × List Int × (List (List Int)) × Bool)
 | 0, _, _, _, _, _, _ => none
 | k + 1, x0, x1, x2, x3, x4, x51 => if x51 = true then (some (([] : List Int), ([] : List Int), ([] : List (List Int)), false)) else (if 0 ≤ (wrap64 ((x3.length : Int) - 1)) then (if (wrap64 ((x3.length : Int) - 1)) < (x3.length : Int) then (if x0 = x1 then (some (rd_L1 x3 (wrap64 ((x3.length : Int) - 1)), rd_L1 x3 (wrap64 ((x3.length : Int) - 1)), ([] : List (List Int)), true)) else ((imprimaturref06_Half.f k x1).bind fun t102 => (if (wrap64 ((x3.length : Int) - 1)) ≤ (x3.length : Int) then ((some (x3.take ((wrap64 ((x3.length : Int) - 1)) : Int).toNat : List (List Int))).bind fun y103 => (if x0 ≤ t102 then ((imprimaturref20_Told.f k x0 t102 x2 y103 x4).bind fun bt108 => ((imprimaturref20_text.f 17 bt108.2.1 (rd_L1 x3 (wrap64 ((x3.length : Int) - 1)))).bind fun t118 => ((imprimaturref02_Hash256.f t118).bind fun t121 => (if bt108.2.2.1.length < 5864062014805 then (some (bt108.1, t121, (bt108.2.2.1 ++ [t118]), bt108.2.2.2)) else (none))))) else ((imprimaturref20_Told.f k (wrap64 (x0 - t102)) (wrap64 (x1 - t102)) x2 y103 false).bind fun bt127 => ((imprimaturref20_text.f 17 (rd_L1 x3 (wrap64 ((x3.length : Int) - 1))) bt127.1).bind fun t137 => ((imprimaturref20_text.f 17 (rd_L1 x3 (wrap64 ((x3.length : Int) - 1))) bt127.2.1).bind fun t140 => ((imprimaturref02_Hash256.f t137).bind fun t143 => ((imprimaturref02_Hash256.f t140).bind fun t146 => (if bt127.2.2.1.length < 5864062014805 then ((some (bt127.2.2.1 ++ [t137] : List (List Int))).bind fun y149 => (if y149.length < 5864062014805 then (some (t143, t146, (y149 ++ [t140]), bt127.2.2.2)) else (none))) else (none))))))))) else (none)))) else (none)) else (none))
def imprimaturref20_Told.f : Nat → Int → Int → List Int → List (List Int) → Bool → Option (List Int × List Int × (List (List Int)) × Bool)
 | 0, _, _, _, _, _ => none
 | k + 1, a0, a1, l2, l3, a4 => if a0 = a1 then (imprimaturref20_Told.j0 k a0 a1 l2 l3 a4 a4) else (imprimaturref20_Told.j0 k a0 a1 l2 l3 a4 false)
end
theorem imprimaturref20_Told.mono_l : ∀ k, (∀ y0 y1 y2 y3 y4, LeO (imprimaturref20_Told.f k y0 y1 y2 y3 y4) (imprimaturref20_Told.f (k + 1) y0 y1 y2 y3 y4)) ∧ (∀ y0 y1 y2 y3 y4 y5, LeO (imprimaturref20_Told.j0 k y0 y1 y2 y3 y4 y5) (imprimaturref20_Told.j0 (k + 1) y0 y1 y2 y3 y4 y5)) ∧ (∀ y0 y1 y2 y3 y4 y5, LeO (imprimaturref20_Told.j1 k y0 y1 y2 y3 y4 y5) (imprimaturref20_Told.j1 (k + 1) y0 y1 y2 y3 y4 y5))
 | 0 => ⟨fun _ _ _ _ _ r h => by simp [imprimaturref20_Told.f] at h, fun _ _ _ _ _ _ r h => by simp [imprimaturref20_Told.j0] at h, fun _ _ _ _ _ _ r h => by simp [imprimaturref20_Told.j1] at h⟩
 | k + 1 => by
  obtain ⟨ih0, ih1, ih2⟩ := imprimaturref20_Told.mono_l k
  refine ⟨?_, ?_, ?_⟩
  ·intro y0 y1 y2 y3 y4
   unfold imprimaturref20_Told.f
   repeat' first
   | (with_reducible exact ih0 _ _ _ _ _)
   | (with_reducible exact ih1 _ _ _ _ _ _)
   | (with_reducible exact ih2 _ _ _ _ _ _)
   | (with_reducible exact imprimaturref06_Half.mono _ _)
   | (with_reducible exact LeO.refl _)
   | (with_reducible exact LeO.none _)
   | (with_reducible refine LeO.ite ?_ ?_)
   | (with_reducible refine LeO.bind ?_ (fun _ => ?_))
   | exact ih0 _ _ _ _ _
   | exact ih1 _ _ _ _ _ _
   | exact ih2 _ _ _ _ _ _
   | exact imprimaturref06_Half.mono _ _
   | exact LeO.none _
   | refine LeO.ite ?_ ?_
   | refine LeO.bind ?_ (fun _ => ?_)
  ·intro y0 y1 y2 y3 y4 y5
   unfold imprimaturref20_Told.j0
   repeat' first
   | (with_reducible exact ih0 _ _ _ _ _)
   | (with_reducible exact ih1 _ _ _ _ _ _)
   | (with_reducible exact ih2 _ _ _ _ _ _)
   | (with_reducible exact imprimaturref06_Half.mono _ _)
   | (with_reducible exact LeO.refl _)
   | (with_reducible exact LeO.none _)
   | (with_reducible refine LeO.ite ?_ ?_)
   | (with_reducible refine LeO.bind ?_ (fun _ => ?_))
   | exact ih0 _ _ _ _ _
   | exact ih1 _ _ _ _ _ _
   | exact ih2 _ _ _ _ _ _
   | exact imprimaturref06_Half.mono _ _
   | exact LeO.none _
   | refine LeO.ite ?_ ?_
   | refine LeO.bind ?_ (fun _ => ?_)
  ·intro y0 y1 y2 y3 y4 y5
   unfold imprimaturref20_Told.j1
   repeat' first
   | (with_reducible exact ih0 _ _ _ _ _)
   | (with_reducible exact ih1 _ _ _ _ _ _)
   | (with_reducible exact ih2 _ _ _ _ _ _)
   | (with_reducible exact imprimaturref06_Half.mono _ _)
   | (with_reducible exact LeO.refl _)
   | (with_reducible exact LeO.none _)
   | (with_reducible refine LeO.ite ?_ ?_)
   | (with_reducible refine LeO.bind ?_ (fun _ => ?_))
   | exact ih0 _ _ _ _ _
   | exact ih1 _ _ _ _ _ _
   | exact ih2 _ _ _ _ _ _
   | exact imprimaturref06_Half.mono _ _
   | exact LeO.none _
   | refine LeO.ite ?_ ?_
   | refine LeO.bind ?_ (fun _ => ?_)
theorem imprimaturref20_Told.mono : ∀ a0 a1 a2 a3 a4 k, LeO (imprimaturref20_Told.f k a0 a1 a2 a3 a4) (imprimaturref20_Told.f (k + 1) a0 a1 a2 a3 a4) := by
 intro a0 a1 a2 a3 a4 k
 obtain ⟨ih0, ih1, ih2⟩ := imprimaturref20_Told.mono_l k
 exact ih0 a0 a1 a2 a3 a4
set_option maxHeartbeats 8000000 in
set_option maxRecDepth 100000 in
theorem imprimaturref20_Told.calls (k : Nat) : ∀ (a0 : Int) (a1 : Int) (P2_ : Nat → Prop) (A2 : Option Addr) (c2 : Nat) (l2 : List Int) (P3_ : Nat → Prop) (A3 : Option Addr) (c3 : Nat) (l3 : List (List Int)) (a4 : Bool) (r1 : List Int) (r2 : List Int) (r3 : List (List Int)) (r4 : Bool) (w : World) (hs2 : Kd.V (Kd.int .u8) 5 w w.heap.size (fun k_ => P2_ k_) (.slice A2 l2.length c2) l2) (hs3 : Kd.V (Kd.slice 5 (Kd.int .u8)) 23 w w.heap.size (fun k_ => P3_ k_) (.slice A3 l3.length c3) l3) (h : imprimaturref20_Told.f k a0 a1 l2 l3 a4 = some (r1, r2, r3, r4)),
  Calls Tryd.prog 43 #[.int .i64 a0, .int .i64 a1, .slice A2 l2.length c2, .slice A3 l3.length c3, .bool a4] w fun e w' => ∃ v0_ v1_ v2_ : Value, e = .returned (.tuple #[v0_, v1_, v2_, .bool r4]) ∧ Kd.V (Kd.int .u8) 5 w' w.heap.size (fun k_ => ((P2_ k_ ∨ P3_ k_) ∨ w.heap.size ≤ k_) ∧ some k_ ≠ (v2_ : Value).ownBlock) v0_ r1 ∧ Kd.V (Kd.int .u8) 5 w' w.heap.size (fun k_ => ((P2_ k_ ∨ P3_ k_) ∨ w.heap.size ≤ k_) ∧ some k_ ≠ (v2_ : Value).ownBlock) v1_ r2 ∧ Kd.S (Kd.slice 5 (Kd.int .u8)) 23 w' w.heap.size (fun k_ => (w.heap.size ≤ k_)) v2_ r3 ∧ Below w.heap.size w w' := by
 induction k using Nat.strongRecOn with
 | _ k ih =>
 intro a0 a1 P2_ A2 c2 l2 P3_ A3 c3 l3 a4 r1 r2 r3 r4 w hs2 hs3 h
 cases k with
 | zero => exact absurd h (by simp [imprimaturref20_Told.f])
 | succ k =>
 simp only [imprimaturref20_Told.f] at h
 have HO2 := Aside0.mk (show Kd.V (Kd.int .u8) 5 w w.heap.size (fun k_ => ((P2_ k_ ∨ P3_ k_) ∨ w.heap.size ≤ k_)) (.slice A2 l2.length c2) l2 from Kd.V_mono hs2 (fun k_ hk => .inl (.inl hk)))
 have HO3 := Aside0.mk (show Kd.V (Kd.slice 5 (Kd.int .u8)) 23 w w.heap.size (fun k_ => ((P2_ k_ ∨ P3_ k_) ∨ w.heap.size ≤ k_)) (.slice A3 l3.length c3) l3 from Kd.V_mono hs3 (fun k_ hk => .inl (.inr hk)))
 have HB := Aside0.mk (Below.refl w.heap.size w)
 have H : (if a0 = a1 then (imprimaturref20_Told.j0 k a0 a1 l2 l3 a4 a4) else (imprimaturref20_Told.j0 k a0 a1 l2 l3 a4 false)) = some (r1, r2, r3, r4) := h
 clear h
 have HC6 := Aside0.mk H
 clear H
 go_enter Tryd.func43, Tryd.ntmps43
 go_upto_region 1 with (fail)
 go_cut [33] (fun v33 wc => ∃ (kq : Nat) (x33_5 : Bool), v33 = .bool x33_5 ∧ Aside0 (imprimaturref20_Told.j0 kq a0 a1 l2 l3 a4 x33_5 = some (r1, r2, r3, r4)) ∧ Aside0 (kq ≤ k) ∧ Aside0 (Kd.V (Kd.int .u8) 5 wc w.heap.size (fun k_ => ((P2_ k_ ∨ P3_ k_) ∨ w.heap.size ≤ k_)) (.slice A2 l2.length c2) l2) ∧ Aside0 (Kd.V (Kd.slice 5 (Kd.int .u8)) 23 wc w.heap.size (fun k_ => ((P2_ k_ ∨ P3_ k_) ∨ w.heap.size ≤ k_)) (.slice A3 l3.length c3) l3) ∧ Aside0 (Below w.heap.size w wc))
 case first =>
  have H := HC6.out
  clear HC6
  by_cases c7 : a0 = a1
  ·rw [if_pos c7] at H
   have c7b0 : (a0 == a1) = true := beq_iff_eq.mpr c7
   have c7b1 : (a0 != a1) = false := bne_eq_false_iff_eq.mpr c7
   clear c7
   (first | rw [c7b0] | (simp only [i64_w, i32_w]; rw [c7b0]) | skip)
   have H' := Aside0.mk H
   clear H
   go_wp2
   go_meet
   case rel => exact ⟨_, (a4), (by first | rfl | (simp; done) | (simp [*]; done)), H', ⟨by first | omega | exact Nat.le_refl _⟩, ⟨by (with_reducible repeat (first | apply Kd.V_alloc | apply Kd.V_drewN | apply Kd.V_drew)); exact HO2.out⟩, ⟨by (with_reducible repeat (first | apply Kd.V_alloc | apply Kd.V_drewN | apply Kd.V_drew)); exact HO3.out⟩, ⟨by repeat (first | (with_reducible first | exact HB.out | apply below_alloc | apply pw_below_drewN | apply below_drew1) | exact HB.out)⟩⟩
  ·rw [if_neg c7] at H
   have c7b0 : (a0 == a1) = false := beq_eq_false_iff_ne.mpr c7
   have c7b1 : (a0 != a1) = true := bne_iff_ne.mpr c7
   (first | rw [c7b0] | (simp only [i64_w, i32_w]; rw [c7b0]) | skip)
   have H' := Aside0.mk H
   clear H
   go_wp2
   go_meet
   case rel => exact ⟨_, (false), (by first | rfl | (simp; done) | (simp [*]; done)), H', ⟨by first | omega | exact Nat.le_refl _⟩, ⟨by (with_reducible repeat (first | apply Kd.V_alloc | apply Kd.V_drewN | apply Kd.V_drew)); exact HO2.out⟩, ⟨by (with_reducible repeat (first | apply Kd.V_alloc | apply Kd.V_drewN | apply Kd.V_drew)); exact HO3.out⟩, ⟨by repeat (first | (with_reducible first | exact HB.out | apply below_alloc | apply pw_below_drewN | apply below_drew1) | exact HB.out)⟩⟩
 case rest =>
  clear HC6
  try clear c2
  try clear p2
  try clear c3
  try clear c4
  try clear c7
  try clear c7b0
  try clear c7b1
  obtain ⟨kq, x33_5, rfl, HA, HJ5, HO_2, HO_3, HB⟩ := hcut
  cases kq with
  | zero => exact absurd HA.out (by simp [imprimaturref20_Told.j0])
  | succ kj5 =>
   have H := HA.out
   clear HA
   simp only [imprimaturref20_Told.j0] at H
   by_cases c8 : x33_5 = true
   ·subst c8
    have H1 : (some (l2, l2, ([] : List (List Int)), ((l3.length : Int) == 0))) = some (r1, r2, r3, r4) := by rw [if_pos rfl] at H; exact H
    clear H
    have H := H1
    clear H1
    simp only [Option.some.injEq, Prod.mk.injEq] at H
    obtain ⟨rfl, rfl, rfl, rfl⟩ := H
    go_wp2
    refine bodyPost_ret (results_list (rs := [.tmp 10, .tmp 11, .tmp 12, .tmp 13]) rfl (by simp) (.tmp (.tmp (.tmp (.tmp .nil))))) rfl ?_
    exact ⟨_, _, _, by first | rfl | (simp [errW_none, errW_some] <;> rfl) | (simp [*, errW_none, errW_some] <;> rfl), by (with_reducible repeat (first | apply Kd.V_alloc | apply Kd.V_drewN | apply Kd.V_drew)); exact Kd.V_mono HO_2.out (fun _ hk => ⟨hk, (by simp [Value.ownBlock])⟩), by (with_reducible repeat (first | apply Kd.V_alloc | apply Kd.V_drewN | apply Kd.V_drew)); exact Kd.V_mono HO_2.out (fun _ hk => ⟨hk, (by simp [Value.ownBlock])⟩), by first | exact Kd.S_nil _ _ _ _ _ | exact Kd.N_nil _ _ _ _ _ | exact Kd.V_nil _ _ _ _ _ | exact Kd.Q_nil _ _ _ _ _ | exact Kd.R_nil _ _ _ _ _, by repeat (first | (with_reducible first | exact HB.out | apply below_alloc | apply pw_below_drewN | apply below_drew1) | exact HB.out)⟩
   ·replace c8 := Bool.eq_false_iff.mpr c8
    subst c8
    have H1 : (if (l3.length : Int) = 0 then (imprimaturref20_Told.j1 kj5 a0 a1 l2 l3 a4 true) else (if a0 = a1 then (imprimaturref20_Told.j1 kj5 a0 a1 l2 l3 a4 ((l3.length : Int) != 1)) else (imprimaturref20_Told.j1 kj5 a0 a1 l2 l3 a4 false))) = some (r1, r2, r3, r4) := by rw [if_neg (show ¬ (false = true) by decide)] at H; exact H
    clear H
    have H := H1
    clear H1
    have HC9 := Aside0.mk H
    clear H
    go_upto_region 3 with (fail)
    go_cut [51] (fun v51 wc => ∃ (kq : Nat) (x51_8 : Bool), v51 = .bool x51_8 ∧ Aside0 (imprimaturref20_Told.j1 kq a0 a1 l2 l3 a4 x51_8 = some (r1, r2, r3, r4)) ∧ Aside0 (kq ≤ kj5) ∧ Aside0 (Kd.V (Kd.int .u8) 5 wc w.heap.size (fun k_ => ((P2_ k_ ∨ P3_ k_) ∨ w.heap.size ≤ k_)) (.slice A2 l2.length c2) l2) ∧ Aside0 (Kd.V (Kd.slice 5 (Kd.int .u8)) 23 wc w.heap.size (fun k_ => ((P2_ k_ ∨ P3_ k_) ∨ w.heap.size ≤ k_)) (.slice A3 l3.length c3) l3) ∧ Aside0 (Below w.heap.size w wc))
    case first =>
     have H := HC9.out
     clear HC9
     by_cases c10 : (l3.length : Int) = 0
     ·rw [if_pos c10] at H
      have c10b0 : ((l3.length : Int) == 0) = true := beq_iff_eq.mpr c10
      have c10b1 : ((l3.length : Int) != 0) = false := bne_eq_false_iff_eq.mpr c10
      clear c10
      (first | rw [c10b0] | (simp only [i64_w, i32_w]; rw [c10b0]) | skip)
      have H' := Aside0.mk H
      clear H
      go_wp2
      go_meet
      case rel => exact ⟨_, (true), (by first | rfl | (simp; done) | (simp [*]; done)), H', ⟨by have := HJ5.out; first | omega | exact Nat.le_refl _⟩, ⟨by (with_reducible repeat (first | apply Kd.V_alloc | apply Kd.V_drewN | apply Kd.V_drew)); exact HO_2.out⟩, ⟨by (with_reducible repeat (first | apply Kd.V_alloc | apply Kd.V_drewN | apply Kd.V_drew)); exact HO_3.out⟩, ⟨by repeat (first | (with_reducible first | exact HB.out | apply below_alloc | apply pw_below_drewN | apply below_drew1) | exact HB.out)⟩⟩
     ·rw [if_neg c10] at H
      have c10b0 : ((l3.length : Int) == 0) = false := beq_eq_false_iff_ne.mpr c10
      have c10b1 : ((l3.length : Int) != 0) = true := bne_iff_ne.mpr c10
      have c10b2 : ¬ (l3 = []) := fun h_ => c10 (by rw [h_]; rfl)
      (first | rw [c10b0] | (simp only [i64_w, i32_w]; rw [c10b0]) | skip)
      by_cases c11 : a0 = a1
      ·rw [if_pos c11] at H
       have c11b0 : (a0 == a1) = true := beq_iff_eq.mpr c11
       have c11b1 : (a0 != a1) = false := bne_eq_false_iff_eq.mpr c11
       clear c11
       have H' := Aside0.mk H
       clear H
       go_wp2
       go_meet
       case rel => exact ⟨_, (((l3.length : Int) != 1)), (by first | rfl | (simp; done) | (simp [*]; done)), H', ⟨by have := HJ5.out; first | omega | exact Nat.le_refl _⟩, ⟨by (with_reducible repeat (first | apply Kd.V_alloc | apply Kd.V_drewN | apply Kd.V_drew)); exact HO_2.out⟩, ⟨by (with_reducible repeat (first | apply Kd.V_alloc | apply Kd.V_drewN | apply Kd.V_drew)); exact HO_3.out⟩, ⟨by repeat (first | (with_reducible first | exact HB.out | apply below_alloc | apply pw_below_drewN | apply below_drew1) | exact HB.out)⟩⟩
      ·rw [if_neg c11] at H
       have c11b0 : (a0 == a1) = false := beq_eq_false_iff_ne.mpr c11
       have c11b1 : (a0 != a1) = true := bne_iff_ne.mpr c11
       have H' := Aside0.mk H
       clear H
       go_wp2
       go_meet
       case rel => exact ⟨_, (false), (by first | rfl | (simp; done) | (simp [*]; done)), H', ⟨by have := HJ5.out; first | omega | exact Nat.le_refl _⟩, ⟨by (with_reducible repeat (first | apply Kd.V_alloc | apply Kd.V_drewN | apply Kd.V_drew)); exact HO_2.out⟩, ⟨by (with_reducible repeat (first | apply Kd.V_alloc | apply Kd.V_drewN | apply Kd.V_drew)); exact HO_3.out⟩, ⟨by repeat (first | (with_reducible first | exact HB.out | apply below_alloc | apply pw_below_drewN | apply below_drew1) | exact HB.out)⟩⟩
    case rest =>
     clear HC9
     try clear c1
     try clear c2
     try clear p2
     try clear c3
     try clear c4
     try clear c7
     try clear c7b0
     try clear c7b1
     try clear c8
     try clear c10
     try clear c10b0
     try clear c10b1
     try clear c10b2
     try clear c11
     try clear c11b0
     try clear c11b1
     try clear p2
     obtain ⟨kq, x51_8, rfl, HA, HJ8, HO_2, HO_3, HB⟩ := hcut
     cases kq with
     | zero => exact absurd HA.out (by simp [imprimaturref20_Told.j1])
     | succ kj8 =>
      have H := HA.out
      clear HA
      simp only [imprimaturref20_Told.j1] at H
      by_cases c12 : x51_8 = true
      ·subst c12
       have H1 : (some (([] : List Int), ([] : List Int), ([] : List (List Int)), false)) = some (r1, r2, r3, r4) := by rw [if_pos rfl] at H; exact H
       clear H
       have H := H1
       clear H1
       simp only [Option.some.injEq, Prod.mk.injEq] at H
       obtain ⟨rfl, rfl, rfl, rfl⟩ := H
       go_wp2
       refine bodyPost_ret (results_list (rs := [.tmp 10, .tmp 11, .tmp 12, .tmp 13]) rfl (by simp) (.tmp (.tmp (.tmp (.tmp .nil))))) rfl ?_
       exact ⟨_, _, _, by first | rfl | (simp [errW_none, errW_some] <;> rfl) | (simp [*, errW_none, errW_some] <;> rfl), Kd.V_nil _ _ _ _ _, Kd.V_nil _ _ _ _ _, by first | exact Kd.S_nil _ _ _ _ _ | exact Kd.N_nil _ _ _ _ _ | exact Kd.V_nil _ _ _ _ _ | exact Kd.Q_nil _ _ _ _ _ | exact Kd.R_nil _ _ _ _ _, by repeat (first | (with_reducible first | exact HB.out | apply below_alloc | apply pw_below_drewN | apply below_drew1) | exact HB.out)⟩
      ·replace c12 := Bool.eq_false_iff.mpr c12
       subst c12
       have H1 : (if 0 ≤ (wrap64 ((l3.length : Int) - 1)) then (if (wrap64 ((l3.length : Int) - 1)) < (l3.length : Int) then (if a0 = a1 then (some (rd_L1 l3 (wrap64 ((l3.length : Int) - 1)), rd_L1 l3 (wrap64 ((l3.length : Int) - 1)), ([] : List (List Int)), true)) else ((imprimaturref06_Half.f kj8 a1).bind fun t102 => (if (wrap64 ((l3.length : Int) - 1)) ≤ (l3.length : Int) then ((some (l3.take ((wrap64 ((l3.length : Int) - 1)) : Int).toNat : List (List Int))).bind fun y103 => (if a0 ≤ t102 then ((imprimaturref20_Told.f kj8 a0 t102 l2 y103 a4).bind fun bt108 => ((imprimaturref20_text.f 17 bt108.2.1 (rd_L1 l3 (wrap64 ((l3.length : Int) - 1)))).bind fun t118 => ((imprimaturref02_Hash256.f t118).bind fun t121 => (if bt108.2.2.1.length < 5864062014805 then (some (bt108.1, t121, (bt108.2.2.1 ++ [t118]), bt108.2.2.2)) else (none))))) else ((imprimaturref20_Told.f kj8 (wrap64 (a0 - t102)) (wrap64 (a1 - t102)) l2 y103 false).bind fun bt127 => ((imprimaturref20_text.f 17 (rd_L1 l3 (wrap64 ((l3.length : Int) - 1))) bt127.1).bind fun t137 => ((imprimaturref20_text.f 17 (rd_L1 l3 (wrap64 ((l3.length : Int) - 1))) bt127.2.1).bind fun t140 => ((imprimaturref02_Hash256.f t137).bind fun t143 => ((imprimaturref02_Hash256.f t140).bind fun t146 => (if bt127.2.2.1.length < 5864062014805 then ((some (bt127.2.2.1 ++ [t137] : List (List Int))).bind fun y149 => (if y149.length < 5864062014805 then (some (t143, t146, (y149 ++ [t140]), bt127.2.2.2)) else (none))) else (none))))))))) else (none)))) else (none)) else (none)) = some (r1, r2, r3, r4) := by rw [if_neg (show ¬ (false = true) by decide)] at H; exact H
       clear H
       have H := H1
       clear H1
       obtain ⟨ji13, hji13⟩ : ∃ j_ : Int, (wrap64 ((l3.length : Int) - 1)) = j_ := ⟨_, rfl⟩
       replace H : (if 0 ≤ (ji13) then (if (ji13) < (l3.length : Int) then (if a0 = a1 then (some (rd_L1 l3 (ji13), rd_L1 l3 (ji13), ([] : List (List Int)), true)) else ((imprimaturref06_Half.f kj8 a1).bind fun t102 => (if (ji13) ≤ (l3.length : Int) then ((some (l3.take ((ji13) : Int).toNat : List (List Int))).bind fun y103 => (if a0 ≤ t102 then ((imprimaturref20_Told.f kj8 a0 t102 l2 y103 a4).bind fun bt108 => ((imprimaturref20_text.f 17 bt108.2.1 (rd_L1 l3 (ji13))).bind fun t118 => ((imprimaturref02_Hash256.f t118).bind fun t121 => (if bt108.2.2.1.length < 5864062014805 then (some (bt108.1, t121, (bt108.2.2.1 ++ [t118]), bt108.2.2.2)) else (none))))) else ((imprimaturref20_Told.f kj8 (wrap64 (a0 - t102)) (wrap64 (a1 - t102)) l2 y103 false).bind fun bt127 => ((imprimaturref20_text.f 17 (rd_L1 l3 (ji13)) bt127.1).bind fun t137 => ((imprimaturref20_text.f 17 (rd_L1 l3 (ji13)) bt127.2.1).bind fun t140 => ((imprimaturref02_Hash256.f t137).bind fun t143 => ((imprimaturref02_Hash256.f t140).bind fun t146 => (if bt127.2.2.1.length < 5864062014805 then ((some (bt127.2.2.1 ++ [t137] : List (List Int))).bind fun y149 => (if y149.length < 5864062014805 then (some (t143, t146, (y149 ++ [t140]), bt127.2.2.2)) else (none))) else (none))))))))) else (none)))) else (none)) else (none)) = some (r1, r2, r3, r4) := by first | (rw [hji13] at H; exact H) | (simp only [hji13] at H ⊢; exact H)
       have hji13w : (IntKind.i64.wrap ((l3.length : Int) - 1)) = ji13 := (i64_w _).trans hji13
       by_cases c14 : 0 ≤ (ji13)
       ·rw [if_pos c14] at H
        have c14b0 : decide (0 ≤ (ji13)) = true := decide_eq_true c14
        clear c14
        by_cases c15 : (ji13) < (l3.length : Int)
        ·rw [if_pos c15] at H
         have c15b0 : decide ((ji13) < (l3.length : Int)) = true := decide_eq_true c15
         clear c15
         by_cases c16 : a0 = a1
         ·rw [if_pos c16] at H
          have c16b0 : (a0 == a1) = true := beq_iff_eq.mpr c16
          have c16b1 : (a0 != a1) = false := bne_eq_false_iff_eq.mpr c16
          clear c16
          simp only [Option.some.injEq, Prod.mk.injEq] at H
          obtain ⟨rfl, rfl, rfl, rfl⟩ := H
          have p101 : 0 ≤ ((ji13) : Int) := of_decide_eq_true asm_
          have q101 : (ji13) < (l3.length : Int) := of_decide_eq_true asm_
          obtain ⟨ad101, A101_0, c101_0, e101, hx101_0, hl101_0, hi101_0⟩ := at_L1 (Kd.V_reads' HO_3.out).2.2 (ji13) p101 q101
          cases e101
          obtain ⟨ce101, hce101, hMe101, hcc101⟩ := Kd.V_get HO_3.out [] (ji13) p101 (by first | exact q101 | exact of_decide_eq_true asm_ | (have e_ := (Kd.V_reads' HO_3.out).1; omega))
          obtain ⟨ua101_0, uc101_0, rfl, ul101_0, ge101_0⟩ := Kd.FK_slice_open hMe101
          have hv101_0 := hcc101 0 _ rfl
          rw [Nat.add_zero, show ((Kd.slice 5 (Kd.int .u8))).sz = 1 from rfl, Nat.mul_one] at hv101_0
          replace hv101_0 := Option.some.inj (hv101_0.symm.trans hx101_0)
          injection hv101_0 with hva_ hvn_ hvc_
          rw [hva_] at ge101_0
          rw [hvc_] at ul101_0
          have HL101_0 := Aside0.mk (show Kd.V (Kd.int .u8) 5 _ w.heap.size _ _ (rd_L1 l3 (ji13)) from Kd.V_mk ul101_0 ge101_0)
          clear hva_ hvn_ hvc_ ge101_0 ul101_0
          clear hcc101 hce101
          have HR101_0 := Aside0.mk hi101_0
          have HC101_0 := Aside0.mk hl101_0
          clear hi101_0 hl101_0
          replace p101 := eq_true p101
          replace q101 := eq_true q101
          go_wp2
          refine bodyPost_ret (results_list (rs := [.tmp 10, .tmp 11, .tmp 12, .tmp 13]) rfl (by simp) (.tmp (.tmp (.tmp (.tmp .nil))))) rfl ?_
          exact ⟨_, _, _, by first | rfl | (simp [errW_none, errW_some] <;> rfl) | (simp only [← hji13]; first | rfl | (simp [errW_none, errW_some] <;> rfl)) | (simp [*, errW_none, errW_some] <;> rfl), by (with_reducible repeat (first | apply Kd.V_alloc | apply Kd.V_drewN | apply Kd.V_drew)); exact Kd.V_mono HL101_0.out (fun _ hk => ⟨hk, (by simp [Value.ownBlock])⟩), by (with_reducible repeat (first | apply Kd.V_alloc | apply Kd.V_drewN | apply Kd.V_drew)); exact Kd.V_mono HL101_0.out (fun _ hk => ⟨hk, (by simp [Value.ownBlock])⟩), by first | exact Kd.S_nil _ _ _ _ _ | exact Kd.N_nil _ _ _ _ _ | exact Kd.V_nil _ _ _ _ _ | exact Kd.Q_nil _ _ _ _ _ | exact Kd.R_nil _ _ _ _ _, by repeat (first | (with_reducible first | exact HB.out | apply below_alloc | apply pw_below_drewN | apply below_drew1) | exact HB.out)⟩
         ·rw [if_neg c16] at H
          have c16b0 : (a0 == a1) = false := beq_eq_false_iff_ne.mpr c16
          have c16b1 : (a0 != a1) = true := bne_iff_ne.mpr c16
          replace H := Option.bind_eq_some_iff.mp H
          obtain ⟨t102, A170, H⟩ := H
          replace H : (if (ji13) ≤ (l3.length : Int) then ((some (l3.take ((ji13) : Int).toNat : List (List Int))).bind fun y103 => (if a0 ≤ t102 then ((imprimaturref20_Told.f kj8 a0 t102 l2 y103 a4).bind fun bt108 => ((imprimaturref20_text.f 17 bt108.2.1 (rd_L1 l3 (ji13))).bind fun t118 => ((imprimaturref02_Hash256.f t118).bind fun t121 => (if bt108.2.2.1.length < 5864062014805 then (some (bt108.1, t121, (bt108.2.2.1 ++ [t118]), bt108.2.2.2)) else (none))))) else ((imprimaturref20_Told.f kj8 (wrap64 (a0 - t102)) (wrap64 (a1 - t102)) l2 y103 false).bind fun bt127 => ((imprimaturref20_text.f 17 (rd_L1 l3 (ji13)) bt127.1).bind fun t137 => ((imprimaturref20_text.f 17 (rd_L1 l3 (ji13)) bt127.2.1).bind fun t140 => ((imprimaturref02_Hash256.f t137).bind fun t143 => ((imprimaturref02_Hash256.f t140).bind fun t146 => (if bt127.2.2.1.length < 5864062014805 then ((some (bt127.2.2.1 ++ [t137] : List (List Int))).bind fun y149 => (if y149.length < 5864062014805 then (some (t143, t146, (y149 ++ [t140]), bt127.2.2.2)) else (none))) else (none))))))))) else (none)) = some (r1, r2, r3, r4) := H
          have A17 := Aside0.mk A170
          clear A170
          have c18b0 := eq_true (of_decide_eq_true asm_ : 0 ≤ (ji13))
          by_cases c19 : (ji13) ≤ (l3.length : Int)
          ·rw [if_pos c19] at H
           have c19b0 := eq_true c19
           have c19b1 : decide ((ji13) ≤ (l3.length : Int)) = true := decide_eq_true c19
           clear c19
           obtain ⟨y103, hy103⟩ : ∃ y_ : List (List Int), y_ = (l3.take ((ji13) : Int).toNat) := ⟨_, rfl⟩
           replace H : (if a0 ≤ t102 then ((imprimaturref20_Told.f kj8 a0 t102 l2 y103 a4).bind fun bt108 => ((imprimaturref20_text.f 17 bt108.2.1 (rd_L1 l3 (ji13))).bind fun t118 => ((imprimaturref02_Hash256.f t118).bind fun t121 => (if bt108.2.2.1.length < 5864062014805 then (some (bt108.1, t121, (bt108.2.2.1 ++ [t118]), bt108.2.2.2)) else (none))))) else ((imprimaturref20_Told.f kj8 (wrap64 (a0 - t102)) (wrap64 (a1 - t102)) l2 y103 false).bind fun bt127 => ((imprimaturref20_text.f 17 (rd_L1 l3 (ji13)) bt127.1).bind fun t137 => ((imprimaturref20_text.f 17 (rd_L1 l3 (ji13)) bt127.2.1).bind fun t140 => ((imprimaturref02_Hash256.f t137).bind fun t143 => ((imprimaturref02_Hash256.f t140).bind fun t146 => (if bt127.2.2.1.length < 5864062014805 then ((some (bt127.2.2.1 ++ [t137] : List (List Int))).bind fun y149 => (if y149.length < 5864062014805 then (some (t143, t146, (y149 ++ [t140]), bt127.2.2.2)) else (none))) else (none)))))))) = some (r1, r2, r3, r4) := hyA hy103 H
           have Ny103 := Aside0.mk hy103
           clear hy103
           by_cases c20 : a0 ≤ t102
           ·rw [if_pos c20] at H
            have c20b0 : decide (a0 ≤ t102) = true := decide_eq_true c20
            clear c20
            replace H := Option.bind_eq_some_iff.mp H
            obtain ⟨⟨t108, t111, t114, t117⟩, A210, H⟩ := H
            replace H : ((imprimaturref20_text.f 17 t111 (rd_L1 l3 (ji13))).bind fun t118 => ((imprimaturref02_Hash256.f t118).bind fun t121 => (if t114.length < 5864062014805 then (some (t108, t121, (t114 ++ [t118]), t117)) else (none)))) = some (r1, r2, r3, r4) := H
            have A21 := Aside0.mk A210
            clear A210
            replace H := Option.bind_eq_some_iff.mp H
            obtain ⟨t118, A220, H⟩ := H
            replace H : ((imprimaturref02_Hash256.f t118).bind fun t121 => (if t114.length < 5864062014805 then (some (t108, t121, (t114 ++ [t118]), t117)) else (none))) = some (r1, r2, r3, r4) := H
            have A22 := Aside0.mk A220
            clear A220
            replace H := Option.bind_eq_some_iff.mp H
            obtain ⟨t121, A230, H⟩ := H
            replace H : (if t114.length < 5864062014805 then (some (t108, t121, (t114 ++ [t118]), t117)) else (none)) = some (r1, r2, r3, r4) := H
            have A23 := Aside0.mk A230
            clear A230
            by_cases c24 : t114.length < 5864062014805
            ·rw [if_pos c24] at H
             have LMc24 := Aside0.mk c24
             clear c24
             obtain ⟨y124, hy124⟩ : ∃ y_ : List (List Int), y_ = (t114 ++ [t118]) := ⟨_, rfl⟩
             replace H : (some (t108, t121, y124, t117)) = some (r1, r2, r3, r4) := hyA hy124 H
             have Ny124 := Aside0.mk hy124
             clear hy124
             simp only [Option.some.injEq, Prod.mk.injEq] at H
             obtain ⟨rfl, rfl, rfl, rfl⟩ := H
             have p101 : 0 ≤ ((ji13) : Int) := of_decide_eq_true asm_
             have q101 : (ji13) < (l3.length : Int) := of_decide_eq_true asm_
             obtain ⟨ad101, A101_0, c101_0, e101, hx101_0, hl101_0, hi101_0⟩ := at_L1 (Kd.V_reads' HO_3.out).2.2 (ji13) p101 q101
             cases e101
             obtain ⟨ce101, hce101, hMe101, hcc101⟩ := Kd.V_get HO_3.out [] (ji13) p101 (by first | exact q101 | exact of_decide_eq_true asm_ | (have e_ := (Kd.V_reads' HO_3.out).1; omega))
             obtain ⟨ua101_0, uc101_0, rfl, ul101_0, ge101_0⟩ := Kd.FK_slice_open hMe101
             have hv101_0 := hcc101 0 _ rfl
             rw [Nat.add_zero, show ((Kd.slice 5 (Kd.int .u8))).sz = 1 from rfl, Nat.mul_one] at hv101_0
             replace hv101_0 := Option.some.inj (hv101_0.symm.trans hx101_0)
             injection hv101_0 with hva_ hvn_ hvc_
             rw [hva_] at ge101_0
             rw [hvc_] at ul101_0
             have HL101_0 := Aside0.mk (show Kd.V (Kd.int .u8) 5 _ w.heap.size _ _ (rd_L1 l3 (ji13)) from Kd.V_mk ul101_0 ge101_0)
             clear hva_ hvn_ hvc_ ge101_0 ul101_0
             clear hcc101 hce101
             have HR101_0 := Aside0.mk hi101_0
             have HC101_0 := Aside0.mk hl101_0
             clear hi101_0 hl101_0
             replace p101 := eq_true p101
             replace q101 := eq_true q101
             go_wp2_with (first | ((with_reducible refine gate_callee (f := 51) rfl ?_); refine goesL_ (some 64) rfl rfl Tryd.func51 (by kernel_rfl) rfl #[.int .i64 a1] rfl eqA ?_; (with_reducible refine (imprimaturref06_Half.calls kj8 a1 t102 _ A17.out).mono ?_); rintro e w' ⟨rfl, ⟨nd, rfl⟩⟩; refine ⟨_, rfl, ?_⟩; have q25 : ((ji13) : Int) ≤ ((l3.length : Int) : Int) := of_decide_eq_true asm_; obtain ⟨i025, hi025, _, hsz25, _⟩ := info_parts info23; have hroom25 : l3.length ≤ c3 := (Kd.V_reads' HO_3.out).2.1; have hC25 : Kd.F (Kd.slice 5 (Kd.int .u8)) _ _ (some ad101) l3.length l3 := (Kd.V_at (base := w.heap.size) HO_3.out).2.2; have hcut25 := cut_to (P := Tryd.prog) 22 23 .i64 Tryd.underlying22 hi025 (some ad101) l3.length c3 (ji13) (of_decide_eq_true asm_) q25 hroom25; have hr25 := Kd.F_take (m := ((ji13) : Int).toNat) hC25 (by omega); have hy25 : y103.length = ((ji13) : Int).toNat := (by rw [Ny103.out, List.length_take]; omega); rw [← Ny103.out] at hr25; rw [← hy25] at hcut25; have HO107 := Aside0.mk (show Kd.V (Kd.slice 5 (Kd.int .u8)) 23 _ w.heap.size _ (.slice (some ad101) y103.length c3) y103 from Kd.V_mk (by omega) hr25); have HC107 := Aside0.mk (show y103.length ≤ c3 from by omega); clear hr25 hC25 hroom25 hi025 hsz25; have KY25 := Aside0.mk hy25; clear hy25; replace q25 := eq_true q25) | ((with_reducible refine gate_callee (f := 43) rfl ?_); refine goesL_ (some 79) rfl rfl Tryd.func43 (by kernel_rfl) rfl #[.int .i64 a0, .int .i64 t102, .slice A2 l2.length c2, .slice (some ad101) y103.length c3, .bool a4] rfl eqA ?_; (with_reducible refine (ih kj8 (by have := HJ5.out; have := HJ8.out; omega) a0 t102 (fun k_ => ((P2_ k_ ∨ P3_ k_) ∨ w.heap.size ≤ k_)) _ _ l2 (fun k_ => ((P2_ k_ ∨ P3_ k_) ∨ w.heap.size ≤ k_)) _ _ y103 a4 t108 t111 t114 t117 _ ?side1 ?side2 A21.out).mono ?_); (case side1 => exact HO_2.out); (case side2 => exact HO107.out); rintro e w26 ⟨v109, v112, v115, rfl, ho0, ho1, ho2, hb⟩; refine ⟨_, rfl, ?_⟩; have n0_ := Aside0.mk (Kd.V_elder' (vL HO_2.out) (Kd.S_base ho2) hb); have n1_ := Aside0.mk (Kd.V_elder' (vL HO_3.out) (Kd.S_base ho2) hb); have n2_ := Aside0.mk (Kd.V_elder' (vL HL101_0.out) (Kd.S_base ho2) hb); have n3_ := Aside0.mk (Kd.V_elder' (vL HO107.out) (Kd.S_base ho2) hb); have n4_ := Aside0.mk (Kd.V_lower (Kd.V_mono (ok' := fun k_ => ((P2_ k_ ∨ P3_ k_) ∨ w.heap.size ≤ k_) ∧ some k_ ≠ (v115 : Value).ownBlock) ho0 (fun k_ hk_ => ⟨Or.elim hk_.1 (fun hs_ => Or.elim hs_ (fun hs_ => hs_) (fun hs_ => hs_)) (fun hn_ => (.inr (Nat.le_trans (below_size bel) hn_))), hk_.2⟩)) (below_size bel)); have n5_ := Aside0.mk (Kd.V_lower (Kd.V_mono (ok' := fun k_ => ((P2_ k_ ∨ P3_ k_) ∨ w.heap.size ≤ k_) ∧ some k_ ≠ (v115 : Value).ownBlock) ho1 (fun k_ hk_ => ⟨Or.elim hk_.1 (fun hs_ => Or.elim hs_ (fun hs_ => hs_) (fun hs_ => hs_)) (fun hn_ => (.inr (Nat.le_trans (below_size bel) hn_))), hk_.2⟩)) (below_size bel)); have n6_ := Aside0.mk (Kd.S_lower (Kd.S_newM (M := fun k_ => (w.heap.size ≤ k_)) (Kd.S_mono (ok' := fun k_ => True) ho2 (fun _ hk_ => trivial)) (below_size bel) (fun k_ h_ => h_)) (below_size bel)); have n7_ := Aside0.mk (Kd.C_below (by repeat (first | (with_reducible exact HR101_0.out) | (with_reducible refine Kd.C_alloc ?_ _) | (with_reducible refine Kd.C_drewN ?_ _) | (with_reducible refine Kd.C_drew ?_) | exact HR101_0.out)) hb); have n8_ := Aside0.mk (below_step bel hb); clear HO_2; clear HO_3; clear HL101_0; clear HO107; clear HR101_0; clear HB; have HO_2 := n0_; have HO_3 := n1_; have HL101_0 := n2_; have HO107 := n3_; have HO110 := n4_; have HO113 := n5_; have HO116 := n6_; have HR101_0 := n7_; have HB := n8_; clear n0_ n1_ n2_ n3_ n4_ n5_ n6_ n7_ n8_; (try clear hb); (try clear hb2); (try clear hk); (try clear hi); (try clear ho0); (try clear ho1); (try clear ho2); obtain ⟨Ao27, co27, eo27⟩ := Kd.V_slice HO113.out; subst eo27) | ((with_reducible refine gate_callee (f := 52) rfl ?_); refine goesL_ (some 86) rfl rfl Tryd.func52 (by kernel_rfl) rfl #[.int .u8 17, .slice Ao27 t111.length co27, .slice A101_0 (rd_L1 l3 (ji13)).length c101_0] rfl (by (try simp only [List.map_toArray, List.map_cons, List.map_nil]); first | done | (simp only [hji13]; rfl) | rfl | (simp only [List.length_drop, List.length_take]; rfl)) ?_; (with_reducible refine (imprimaturref20_text.calls 17 _ _ t111 _ _ (rd_L1 l3 (ji13)) t118 _ ?side1 ?side2 ?side3 ?side4 A22.out).mono ?_); (case side1 => exact cL (Kd.V_reads' HO113.out).2.2); (case side2 => exact (Kd.V_reads' HO113.out).2.1); (case side3 => repeat (first | exact (by repeat (first | (with_reducible exact HR101_0.out) | (with_reducible refine Kd.C_alloc ?_ _) | (with_reducible refine Kd.C_drewN ?_ _) | (with_reducible refine Kd.C_drew ?_) | exact HR101_0.out)) | (with_reducible refine Kd.C_alloc ?_ _) | (with_reducible refine Kd.C_drewN ?_ _) | (with_reducible refine Kd.C_drew ?_))); (case side4 => exact HC101_0.out); rintro e w28 ⟨v119, rfl, ho0, hb⟩; refine ⟨_, rfl, ?_⟩; have n0_ := Aside0.mk (Kd.V_elder' (vL HO_2.out) (Kd.R_base ho0) hb); have n1_ := Aside0.mk (Kd.V_elder' (vL HO_3.out) (Kd.R_base ho0) hb); have n2_ := Aside0.mk (Kd.V_elder' (vL HL101_0.out) (Kd.R_base ho0) hb); have n3_ := Aside0.mk (Kd.V_elder' (vL HO107.out) (Kd.R_base ho0) hb); have n4_ := Aside0.mk (Kd.V_elder' (vL HO110.out) (Kd.R_base ho0) hb); have n5_ := Aside0.mk (Kd.V_elder' (vL HO113.out) (Kd.R_base ho0) hb); have n6_ := Aside0.mk (Kd.S_elder' (sL HO116.out) (Kd.R_base ho0) hb); have n7_ := Aside0.mk (Kd.R_lower (Kd.R_newM (M := fun k_ => (w.heap.size ≤ k_)) ho0 (below_size bel) (fun k_ h_ => h_)) (below_size bel)); have n8_ := Aside0.mk (Kd.C_below (by repeat (first | (with_reducible exact HR101_0.out) | (with_reducible refine Kd.C_alloc ?_ _) | (with_reducible refine Kd.C_drewN ?_ _) | (with_reducible refine Kd.C_drew ?_) | exact HR101_0.out)) hb); have n9_ := Aside0.mk (below_step bel hb); clear HO_2; clear HO_3; clear HL101_0; clear HO107; clear HO110; clear HO113; clear HO116; clear HR101_0; clear HB; have HO_2 := n0_; have HO_3 := n1_; have HL101_0 := n2_; have HO107 := n3_; have HO110 := n4_; have HO113 := n5_; have HO116 := n6_; have HO120 := n7_; have HR101_0 := n8_; have HB := n9_; clear n0_ n1_ n2_ n3_ n4_ n5_ n6_ n7_ n8_ n9_; (try clear hb); (try clear hb2); (try clear hk); (try clear hi); (try clear ho0); obtain ⟨Ao29, co29, eo29⟩ := Kd.R_slice HO120.out; subst eo29) | ((with_reducible refine gate_callee (f := 50) rfl ?_); refine goesL_ (some 89) rfl rfl Tryd.func50 (by kernel_rfl) rfl #[.slice Ao29 t118.length co29] rfl eqA ?_; (with_reducible refine (imprimaturref02_Hash256.calls _ _ t118 t121 _ ?side1 ?side2 A23.out).mono ?_); (case side1 => exact cL (Kd.R_reads' HO120.out).2.2); (case side2 => exact (Kd.R_reads' HO120.out).2.1); rintro e w30 ⟨v122, rfl, ho0, hb⟩; refine ⟨_, rfl, ?_⟩; have n0_ := Aside0.mk (Kd.V_elder' (vL HO_2.out) (Kd.R_base ho0) hb); have n1_ := Aside0.mk (Kd.V_elder' (vL HO_3.out) (Kd.R_base ho0) hb); have n2_ := Aside0.mk (Kd.V_elder' (vL HL101_0.out) (Kd.R_base ho0) hb); have n3_ := Aside0.mk (Kd.V_elder' (vL HO107.out) (Kd.R_base ho0) hb); have n4_ := Aside0.mk (Kd.V_elder' (vL HO110.out) (Kd.R_base ho0) hb); have n5_ := Aside0.mk (Kd.V_elder' (vL HO113.out) (Kd.R_base ho0) hb); have n6_ := Aside0.mk (Kd.S_elder' (sL HO116.out) (Kd.R_base ho0) hb); have n7_ := Aside0.mk (Kd.R_elder' (rL HO120.out) (Kd.R_base ho0) hb); have n8_ := Aside0.mk (Kd.R_lower (Kd.R_new' (Kd.R_newM (M := fun k_ => (w.heap.size ≤ k_)) ho0 (below_size bel) (fun k_ h_ => h_)) (Kd.R_lt (rL HO120.out))) (below_size bel)); have n9_ := Aside0.mk (Kd.C_below (by repeat (first | (with_reducible exact HR101_0.out) | (with_reducible refine Kd.C_alloc ?_ _) | (with_reducible refine Kd.C_drewN ?_ _) | (with_reducible refine Kd.C_drew ?_) | exact HR101_0.out)) hb); have n10_ := Aside0.mk (below_step bel hb); clear HO_2; clear HO_3; clear HL101_0; clear HO107; clear HO110; clear HO113; clear HO116; clear HO120; clear HR101_0; clear HB; have HO_2 := n0_; have HO_3 := n1_; have HL101_0 := n2_; have HO107 := n3_; have HO110 := n4_; have HO113 := n5_; have HO116 := n6_; have HO120 := n7_; have HO123 := n8_; have HR101_0 := n9_; have HB := n10_; clear n0_ n1_ n2_ n3_ n4_ n5_ n6_ n7_ n8_ n9_ n10_; (try clear hb); (try clear hb2); (try clear hk); (try clear hi); (try clear ho0)) | ((with_reducible refine gate_builtin (b := .append) (xs := #[.tmp 90, .tmp 92]) rfl ?_); (try (refine gate_guard (by rfl) ?_; dsimp only)); at_builtin; refine Kd.S_append (Kd.slice 5 (Kd.int .u8)) (w0 := w) w.heap.size rfl (.tmp 90) (.tmp 92) 22 23 (.slice none 0 0) 24 rfl Tryd.underlying22 info23 rfl (by decide) (by omega) v115 t114 t118 [.slice Ao29 t118.length co29] (fun k_ => (w.heap.size ≤ k_) ∧ some k_ ≠ (v122 : Value).ownBlock) (fun k_ => some k_ = (.slice Ao29 t118.length co29 : Value).ownBlock) rfl rfl ?aP (fun k_ hk_ => ((Kd.R_mono (ok' := fun k_ => ((fun k_ => (w.heap.size ≤ k_) ∧ some k_ ≠ (v122 : Value).ownBlock)) k_ ∧ some k_ ≠ (v115 : Value).ownBlock) (Kd.R_apart' (HO120.out) (Kd.S_typed HO116.out) (by decide)) (fun k_ hk => ⟨⟨hk.1.1.1, hk.1.2⟩, hk.2⟩))).1 k_ hk_.symm) ?aF ?aO ?aB ?aS ?aL ?_; (case aP => exact Kd.M_row (Kd.R_mono (Kd.R_tight rfl (Kd.R_mono (ok' := fun k_ => ((fun k_ => (w.heap.size ≤ k_) ∧ some k_ ≠ (v122 : Value).ownBlock)) k_ ∧ some k_ ≠ (v115 : Value).ownBlock) (Kd.R_apart' (HO120.out) (Kd.S_typed HO116.out) (by decide)) (fun k_ hk => ⟨⟨hk.1.1.1, hk.1.2⟩, hk.2⟩))) (fun _ h_ => h_))); (case aB => exact bel); (case aF => exact (fun k_ hk => ⟨(Nat.le_trans (below_size bel) hk), Kd.fresh' (Kd.R_lt (rL HO123.out)) k_ hk⟩)); (case aO => exact (by (with_reducible repeat (first | apply Kd.S_alloc | apply Kd.S_drewN | apply Kd.S_drew)); exact Kd.S_mono HO116.out (fun k_ hk => ⟨⟨hk.1.1.1, hk.2⟩, fun e_ => hk.1.2 e_⟩))); (case aS => exact (below_size bel)); (case aL => have := LMc24.out; omega); intro v125 w31 ho hb hg hat; rw [← Ny124.out] at ho; have n0_ := Aside0.mk (Kd.V_afterv (ok := (fun k_ => ((P2_ k_ ∨ P3_ k_) ∨ w.heap.size ≤ k_) ∧ some k_ ≠ (.slice Ao29 t118.length co29 : Value).ownBlock ∧ some k_ ≠ (v122 : Value).ownBlock)) (by (with_reducible repeat (first | apply Kd.V_alloc | apply Kd.V_drewN | apply Kd.V_drew)); exact Kd.V_mono HO_2.out (fun _ hk => ⟨⟨hk.1.1.1, ⟨hk.1.2, hk.2⟩⟩, hk.1.1.2⟩)) hg hat); have n1_ := Aside0.mk (Kd.V_afterv (ok := (fun k_ => ((P2_ k_ ∨ P3_ k_) ∨ w.heap.size ≤ k_) ∧ some k_ ≠ (.slice Ao29 t118.length co29 : Value).ownBlock ∧ some k_ ≠ (v122 : Value).ownBlock)) (by (with_reducible repeat (first | apply Kd.V_alloc | apply Kd.V_drewN | apply Kd.V_drew)); exact Kd.V_mono HO_3.out (fun _ hk => ⟨⟨hk.1.1.1, ⟨hk.1.2, hk.2⟩⟩, hk.1.1.2⟩)) hg hat); have n2_ := Aside0.mk (Kd.V_afterv (ok := (fun k_ => ((P2_ k_ ∨ P3_ k_) ∨ w.heap.size ≤ k_) ∧ some k_ ≠ (.slice Ao29 t118.length co29 : Value).ownBlock ∧ some k_ ≠ (v122 : Value).ownBlock)) (by (with_reducible repeat (first | apply Kd.V_alloc | apply Kd.V_drewN | apply Kd.V_drew)); exact Kd.V_mono HL101_0.out (fun _ hk => ⟨⟨hk.1.1.1, ⟨hk.1.2, hk.2⟩⟩, hk.1.1.2⟩)) hg hat); have n3_ := Aside0.mk (Kd.V_afterv (ok := (fun k_ => ((P2_ k_ ∨ P3_ k_) ∨ w.heap.size ≤ k_) ∧ some k_ ≠ (.slice Ao29 t118.length co29 : Value).ownBlock ∧ some k_ ≠ (v122 : Value).ownBlock)) (by (with_reducible repeat (first | apply Kd.V_alloc | apply Kd.V_drewN | apply Kd.V_drew)); exact Kd.V_mono HO107.out (fun _ hk => ⟨⟨hk.1.1.1, ⟨hk.1.2, hk.2⟩⟩, hk.1.1.2⟩)) hg hat); have n4_ := Aside0.mk (Kd.V_afterv (ok := (fun k_ => ((P2_ k_ ∨ P3_ k_) ∨ w.heap.size ≤ k_) ∧ some k_ ≠ (.slice Ao29 t118.length co29 : Value).ownBlock ∧ some k_ ≠ (v122 : Value).ownBlock)) (by (with_reducible repeat (first | apply Kd.V_alloc | apply Kd.V_drewN | apply Kd.V_drew)); exact Kd.V_mono HO110.out (fun _ hk => ⟨⟨hk.1.1.1, ⟨hk.1.2, hk.2⟩⟩, hk.1.1.2⟩)) hg hat); have n5_ := Aside0.mk (Kd.V_afterv (ok := (fun k_ => ((P2_ k_ ∨ P3_ k_) ∨ w.heap.size ≤ k_) ∧ some k_ ≠ (.slice Ao29 t118.length co29 : Value).ownBlock ∧ some k_ ≠ (v122 : Value).ownBlock)) (by (with_reducible repeat (first | apply Kd.V_alloc | apply Kd.V_drewN | apply Kd.V_drew)); exact Kd.V_mono HO113.out (fun _ hk => ⟨⟨hk.1.1.1, ⟨hk.1.2, hk.2⟩⟩, hk.1.1.2⟩)) hg hat); have n6_ := Aside0.mk (Kd.R_over' (rL HO123.out) (Kd.S_typed (sL HO116.out)) (by decide) hg); have n7_ := Aside0.mk (hb); have n8_ := Aside0.mk (ho); clear HO_2; clear HO_3; clear HL101_0; clear HO107; clear HO110; clear HO113; clear HO123; clear HB; clear HO116; clear HO120; have HO_2 := n0_; have HO_3 := n1_; have HL101_0 := n2_; have HO107 := n3_; have HO110 := n4_; have HO113 := n5_; have HO123 := n6_; have HB := n7_; have HO126 := n8_; clear n0_ n1_ n2_ n3_ n4_ n5_ n6_ n7_ n8_; clear ho hb hg hat))
             refine bodyPost_ret (results_list (rs := [.tmp 10, .tmp 11, .tmp 12, .tmp 13]) rfl (by simp) (.tmp (.tmp (.tmp (.tmp .nil))))) rfl ?_
             exact ⟨_, _, _, by first | rfl | (simp [errW_none, errW_some] <;> rfl) | (simp only [← hji13]; first | rfl | (simp [errW_none, errW_some] <;> rfl)) | (simp [*, errW_none, errW_some] <;> rfl), by (with_reducible repeat (first | apply Kd.V_alloc | apply Kd.V_drewN | apply Kd.V_drew)); exact Kd.V_mono HO110.out (fun _ hk => ⟨hk.1.1, hk.2⟩), Kd.V_mono (Kd.R_V (base' := w.heap.size) (Kd.R_apart' HO123.out (Kd.S_typed HO126.out) (by decide))) (fun k_ hk => ⟨.inr hk.1.1.1, hk.2⟩), by (with_reducible repeat (first | apply Kd.S_alloc | apply Kd.S_drewN | apply Kd.S_drew)); exact Kd.S_mono HO126.out (fun _ hk => hk.1), by repeat (first | (with_reducible first | exact HB.out | apply below_alloc | apply pw_below_drewN | apply below_drew1) | exact HB.out)⟩
            ·rw [if_neg c24] at H
             exact absurd H (by simp)
           ·rw [if_neg c20] at H
            have c20b0 : decide (a0 ≤ t102) = false := decide_eq_false c20
            clear c20
            replace H := Option.bind_eq_some_iff.mp H
            obtain ⟨⟨t127, t130, t133, t136⟩, A320, H⟩ := H
            replace H : ((imprimaturref20_text.f 17 (rd_L1 l3 (ji13)) t127).bind fun t137 => ((imprimaturref20_text.f 17 (rd_L1 l3 (ji13)) t130).bind fun t140 => ((imprimaturref02_Hash256.f t137).bind fun t143 => ((imprimaturref02_Hash256.f t140).bind fun t146 => (if t133.length < 5864062014805 then ((some (t133 ++ [t137] : List (List Int))).bind fun y149 => (if y149.length < 5864062014805 then (some (t143, t146, (y149 ++ [t140]), t136)) else (none))) else (none)))))) = some (r1, r2, r3, r4) := H
            have A32 := Aside0.mk A320
            clear A320
            replace H := Option.bind_eq_some_iff.mp H
            obtain ⟨t137, A330, H⟩ := H
            replace H : ((imprimaturref20_text.f 17 (rd_L1 l3 (ji13)) t130).bind fun t140 => ((imprimaturref02_Hash256.f t137).bind fun t143 => ((imprimaturref02_Hash256.f t140).bind fun t146 => (if t133.length < 5864062014805 then ((some (t133 ++ [t137] : List (List Int))).bind fun y149 => (if y149.length < 5864062014805 then (some (t143, t146, (y149 ++ [t140]), t136)) else (none))) else (none))))) = some (r1, r2, r3, r4) := H
            have A33 := Aside0.mk A330
            clear A330
            replace H := Option.bind_eq_some_iff.mp H
            obtain ⟨t140, A340, H⟩ := H
            replace H : ((imprimaturref02_Hash256.f t137).bind fun t143 => ((imprimaturref02_Hash256.f t140).bind fun t146 => (if t133.length < 5864062014805 then ((some (t133 ++ [t137] : List (List Int))).bind fun y149 => (if y149.length < 5864062014805 then (some (t143, t146, (y149 ++ [t140]), t136)) else (none))) else (none)))) = some (r1, r2, r3, r4) := H
            have A34 := Aside0.mk A340
            clear A340
            replace H := Option.bind_eq_some_iff.mp H
            obtain ⟨t143, A350, H⟩ := H
            replace H : ((imprimaturref02_Hash256.f t140).bind fun t146 => (if t133.length < 5864062014805 then ((some (t133 ++ [t137] : List (List Int))).bind fun y149 => (if y149.length < 5864062014805 then (some (t143, t146, (y149 ++ [t140]), t136)) else (none))) else (none))) = some (r1, r2, r3, r4) := H
            have A35 := Aside0.mk A350
            clear A350
            replace H := Option.bind_eq_some_iff.mp H
            obtain ⟨t146, A360, H⟩ := H
            replace H : (if t133.length < 5864062014805 then ((some (t133 ++ [t137] : List (List Int))).bind fun y149 => (if y149.length < 5864062014805 then (some (t143, t146, (y149 ++ [t140]), t136)) else (none))) else (none)) = some (r1, r2, r3, r4) := H
            have A36 := Aside0.mk A360
            clear A360
            by_cases c37 : t133.length < 5864062014805
            ·rw [if_pos c37] at H
             have LMc37 := Aside0.mk c37
             clear c37
             obtain ⟨y149, hy149⟩ : ∃ y_ : List (List Int), y_ = (t133 ++ [t137]) := ⟨_, rfl⟩
             replace H : (if y149.length < 5864062014805 then (some (t143, t146, (y149 ++ [t140]), t136)) else (none)) = some (r1, r2, r3, r4) := hyA hy149 H
             have Ny149 := Aside0.mk hy149
             clear hy149
             by_cases c38 : y149.length < 5864062014805
             ·rw [if_pos c38] at H
              have LMc38 := Aside0.mk c38
              clear c38
              obtain ⟨y152, hy152⟩ : ∃ y_ : List (List Int), y_ = (y149 ++ [t140]) := ⟨_, rfl⟩
              replace H : (some (t143, t146, y152, t136)) = some (r1, r2, r3, r4) := hyA hy152 H
              have Ny152 := Aside0.mk hy152
              clear hy152
              simp only [Option.some.injEq, Prod.mk.injEq] at H
              obtain ⟨rfl, rfl, rfl, rfl⟩ := H
              have p101 : 0 ≤ ((ji13) : Int) := of_decide_eq_true asm_
              have q101 : (ji13) < (l3.length : Int) := of_decide_eq_true asm_
              obtain ⟨ad101, A101_0, c101_0, e101, hx101_0, hl101_0, hi101_0⟩ := at_L1 (Kd.V_reads' HO_3.out).2.2 (ji13) p101 q101
              cases e101
              obtain ⟨ce101, hce101, hMe101, hcc101⟩ := Kd.V_get HO_3.out [] (ji13) p101 (by first | exact q101 | exact of_decide_eq_true asm_ | (have e_ := (Kd.V_reads' HO_3.out).1; omega))
              obtain ⟨ua101_0, uc101_0, rfl, ul101_0, ge101_0⟩ := Kd.FK_slice_open hMe101
              have hv101_0 := hcc101 0 _ rfl
              rw [Nat.add_zero, show ((Kd.slice 5 (Kd.int .u8))).sz = 1 from rfl, Nat.mul_one] at hv101_0
              replace hv101_0 := Option.some.inj (hv101_0.symm.trans hx101_0)
              injection hv101_0 with hva_ hvn_ hvc_
              rw [hva_] at ge101_0
              rw [hvc_] at ul101_0
              have HL101_0 := Aside0.mk (show Kd.V (Kd.int .u8) 5 _ w.heap.size _ _ (rd_L1 l3 (ji13)) from Kd.V_mk ul101_0 ge101_0)
              clear hva_ hvn_ hvc_ ge101_0 ul101_0
              clear hcc101 hce101
              have HR101_0 := Aside0.mk hi101_0
              have HC101_0 := Aside0.mk hl101_0
              clear hi101_0 hl101_0
              replace p101 := eq_true p101
              replace q101 := eq_true q101
              go_wp2_with (first | ((with_reducible refine gate_callee (f := 51) rfl ?_); refine goesL_ (some 64) rfl rfl Tryd.func51 (by kernel_rfl) rfl #[.int .i64 a1] rfl eqA ?_; (with_reducible refine (imprimaturref06_Half.calls kj8 a1 t102 _ A17.out).mono ?_); rintro e w' ⟨rfl, ⟨nd, rfl⟩⟩; refine ⟨_, rfl, ?_⟩; have q39 : ((ji13) : Int) ≤ ((l3.length : Int) : Int) := of_decide_eq_true asm_; obtain ⟨i039, hi039, _, hsz39, _⟩ := info_parts info23; have hroom39 : l3.length ≤ c3 := (Kd.V_reads' HO_3.out).2.1; have hC39 : Kd.F (Kd.slice 5 (Kd.int .u8)) _ _ (some ad101) l3.length l3 := (Kd.V_at (base := w.heap.size) HO_3.out).2.2; have hcut39 := cut_to (P := Tryd.prog) 22 23 .i64 Tryd.underlying22 hi039 (some ad101) l3.length c3 (ji13) (of_decide_eq_true asm_) q39 hroom39; have hr39 := Kd.F_take (m := ((ji13) : Int).toNat) hC39 (by omega); have hy39 : y103.length = ((ji13) : Int).toNat := (by rw [Ny103.out, List.length_take]; omega); rw [← Ny103.out] at hr39; rw [← hy39] at hcut39; have HO107 := Aside0.mk (show Kd.V (Kd.slice 5 (Kd.int .u8)) 23 _ w.heap.size _ (.slice (some ad101) y103.length c3) y103 from Kd.V_mk (by omega) hr39); have HC107 := Aside0.mk (show y103.length ≤ c3 from by omega); clear hr39 hC39 hroom39 hi039 hsz39; have KY39 := Aside0.mk hy39; clear hy39; replace q39 := eq_true q39) | ((with_reducible refine gate_callee (f := 43) rfl ?_); refine goesL_ (some 104) rfl rfl Tryd.func43 (by kernel_rfl) rfl #[.int .i64 (wrap64 (a0 - t102)), .int .i64 (wrap64 (a1 - t102)), .slice A2 l2.length c2, .slice (some ad101) y103.length c3, .bool false] rfl eqA ?_; (with_reducible refine (ih kj8 (by have := HJ5.out; have := HJ8.out; omega) (wrap64 (a0 - t102)) (wrap64 (a1 - t102)) (fun k_ => ((P2_ k_ ∨ P3_ k_) ∨ w.heap.size ≤ k_)) _ _ l2 (fun k_ => ((P2_ k_ ∨ P3_ k_) ∨ w.heap.size ≤ k_)) _ _ y103 false t127 t130 t133 t136 _ ?side1 ?side2 A32.out).mono ?_); (case side1 => exact HO_2.out); (case side2 => exact HO107.out); rintro e w40 ⟨v128, v131, v134, rfl, ho0, ho1, ho2, hb⟩; refine ⟨_, rfl, ?_⟩; have n0_ := Aside0.mk (Kd.V_elder' (vL HO_2.out) (Kd.S_base ho2) hb); have n1_ := Aside0.mk (Kd.V_elder' (vL HO_3.out) (Kd.S_base ho2) hb); have n2_ := Aside0.mk (Kd.V_elder' (vL HL101_0.out) (Kd.S_base ho2) hb); have n3_ := Aside0.mk (Kd.V_elder' (vL HO107.out) (Kd.S_base ho2) hb); have n4_ := Aside0.mk (Kd.V_lower (Kd.V_mono (ok' := fun k_ => ((P2_ k_ ∨ P3_ k_) ∨ w.heap.size ≤ k_) ∧ some k_ ≠ (v134 : Value).ownBlock) ho0 (fun k_ hk_ => ⟨Or.elim hk_.1 (fun hs_ => Or.elim hs_ (fun hs_ => hs_) (fun hs_ => hs_)) (fun hn_ => (.inr (Nat.le_trans (below_size bel) hn_))), hk_.2⟩)) (below_size bel)); have n5_ := Aside0.mk (Kd.V_lower (Kd.V_mono (ok' := fun k_ => ((P2_ k_ ∨ P3_ k_) ∨ w.heap.size ≤ k_) ∧ some k_ ≠ (v134 : Value).ownBlock) ho1 (fun k_ hk_ => ⟨Or.elim hk_.1 (fun hs_ => Or.elim hs_ (fun hs_ => hs_) (fun hs_ => hs_)) (fun hn_ => (.inr (Nat.le_trans (below_size bel) hn_))), hk_.2⟩)) (below_size bel)); have n6_ := Aside0.mk (Kd.S_lower (Kd.S_newM (M := fun k_ => (w.heap.size ≤ k_)) (Kd.S_mono (ok' := fun k_ => True) ho2 (fun _ hk_ => trivial)) (below_size bel) (fun k_ h_ => h_)) (below_size bel)); have n7_ := Aside0.mk (Kd.C_below (by repeat (first | (with_reducible exact HR101_0.out) | (with_reducible refine Kd.C_alloc ?_ _) | (with_reducible refine Kd.C_drewN ?_ _) | (with_reducible refine Kd.C_drew ?_) | exact HR101_0.out)) hb); have n8_ := Aside0.mk (below_step bel hb); clear HO_2; clear HO_3; clear HL101_0; clear HO107; clear HR101_0; clear HB; have HO_2 := n0_; have HO_3 := n1_; have HL101_0 := n2_; have HO107 := n3_; have HO129 := n4_; have HO132 := n5_; have HO135 := n6_; have HR101_0 := n7_; have HB := n8_; clear n0_ n1_ n2_ n3_ n4_ n5_ n6_ n7_ n8_; (try clear hb); (try clear hb2); (try clear hk); (try clear hi); (try clear ho0); (try clear ho1); (try clear ho2); obtain ⟨Ao41, co41, eo41⟩ := Kd.V_slice HO129.out; subst eo41) | ((with_reducible refine gate_callee (f := 52) rfl ?_); refine goesL_ (some 111) rfl rfl Tryd.func52 (by kernel_rfl) rfl #[.int .u8 17, .slice A101_0 (rd_L1 l3 (ji13)).length c101_0, .slice Ao41 t127.length co41] rfl (by (try simp only [List.map_toArray, List.map_cons, List.map_nil]); first | done | (simp only [hji13]; rfl) | rfl | (simp only [List.length_drop, List.length_take]; rfl)) ?_; (with_reducible refine (imprimaturref20_text.calls 17 _ _ (rd_L1 l3 (ji13)) _ _ t127 t137 _ ?side1 ?side2 ?side3 ?side4 A33.out).mono ?_); (case side1 => repeat (first | exact (by repeat (first | (with_reducible exact HR101_0.out) | (with_reducible refine Kd.C_alloc ?_ _) | (with_reducible refine Kd.C_drewN ?_ _) | (with_reducible refine Kd.C_drew ?_) | exact HR101_0.out)) | (with_reducible refine Kd.C_alloc ?_ _) | (with_reducible refine Kd.C_drewN ?_ _) | (with_reducible refine Kd.C_drew ?_))); (case side2 => exact HC101_0.out); (case side3 => exact cL (Kd.V_reads' HO129.out).2.2); (case side4 => exact (Kd.V_reads' HO129.out).2.1); rintro e w42 ⟨v138, rfl, ho0, hb⟩; refine ⟨_, rfl, ?_⟩; have n0_ := Aside0.mk (Kd.V_elder' (vL HO_2.out) (Kd.R_base ho0) hb); have n1_ := Aside0.mk (Kd.V_elder' (vL HO_3.out) (Kd.R_base ho0) hb); have n2_ := Aside0.mk (Kd.V_elder' (vL HL101_0.out) (Kd.R_base ho0) hb); have n3_ := Aside0.mk (Kd.V_elder' (vL HO107.out) (Kd.R_base ho0) hb); have n4_ := Aside0.mk (Kd.V_elder' (vL HO129.out) (Kd.R_base ho0) hb); have n5_ := Aside0.mk (Kd.V_elder' (vL HO132.out) (Kd.R_base ho0) hb); have n6_ := Aside0.mk (Kd.S_elder' (sL HO135.out) (Kd.R_base ho0) hb); have n7_ := Aside0.mk (Kd.R_lower (Kd.R_newM (M := fun k_ => (w.heap.size ≤ k_)) ho0 (below_size bel) (fun k_ h_ => h_)) (below_size bel)); have n8_ := Aside0.mk (Kd.C_below (by repeat (first | (with_reducible exact HR101_0.out) | (with_reducible refine Kd.C_alloc ?_ _) | (with_reducible refine Kd.C_drewN ?_ _) | (with_reducible refine Kd.C_drew ?_) | exact HR101_0.out)) hb); have n9_ := Aside0.mk (below_step bel hb); clear HO_2; clear HO_3; clear HL101_0; clear HO107; clear HO129; clear HO132; clear HO135; clear HR101_0; clear HB; have HO_2 := n0_; have HO_3 := n1_; have HL101_0 := n2_; have HO107 := n3_; have HO129 := n4_; have HO132 := n5_; have HO135 := n6_; have HO139 := n7_; have HR101_0 := n8_; have HB := n9_; clear n0_ n1_ n2_ n3_ n4_ n5_ n6_ n7_ n8_ n9_; (try clear hb); (try clear hb2); (try clear hk); (try clear hi); (try clear ho0); obtain ⟨Ao43, co43, eo43⟩ := Kd.V_slice HO132.out; subst eo43) | ((with_reducible refine gate_callee (f := 52) rfl ?_); refine goesL_ (some 114) rfl rfl Tryd.func52 (by kernel_rfl) rfl #[.int .u8 17, .slice A101_0 (rd_L1 l3 (ji13)).length c101_0, .slice Ao43 t130.length co43] rfl (by (try simp only [List.map_toArray, List.map_cons, List.map_nil]); first | done | (simp only [hji13]; rfl) | rfl | (simp only [List.length_drop, List.length_take]; rfl)) ?_; (with_reducible refine (imprimaturref20_text.calls 17 _ _ (rd_L1 l3 (ji13)) _ _ t130 t140 _ ?side1 ?side2 ?side3 ?side4 A34.out).mono ?_); (case side1 => repeat (first | exact (by repeat (first | (with_reducible exact HR101_0.out) | (with_reducible refine Kd.C_alloc ?_ _) | (with_reducible refine Kd.C_drewN ?_ _) | (with_reducible refine Kd.C_drew ?_) | exact HR101_0.out)) | (with_reducible refine Kd.C_alloc ?_ _) | (with_reducible refine Kd.C_drewN ?_ _) | (with_reducible refine Kd.C_drew ?_))); (case side2 => exact HC101_0.out); (case side3 => exact cL (Kd.V_reads' HO132.out).2.2); (case side4 => exact (Kd.V_reads' HO132.out).2.1); rintro e w44 ⟨v141, rfl, ho0, hb⟩; refine ⟨_, rfl, ?_⟩; have n0_ := Aside0.mk (Kd.V_elder' (vL HO_2.out) (Kd.R_base ho0) hb); have n1_ := Aside0.mk (Kd.V_elder' (vL HO_3.out) (Kd.R_base ho0) hb); have n2_ := Aside0.mk (Kd.V_elder' (vL HL101_0.out) (Kd.R_base ho0) hb); have n3_ := Aside0.mk (Kd.V_elder' (vL HO107.out) (Kd.R_base ho0) hb); have n4_ := Aside0.mk (Kd.V_elder' (vL HO129.out) (Kd.R_base ho0) hb); have n5_ := Aside0.mk (Kd.V_elder' (vL HO132.out) (Kd.R_base ho0) hb); have n6_ := Aside0.mk (Kd.S_elder' (sL HO135.out) (Kd.R_base ho0) hb); have n7_ := Aside0.mk (Kd.R_elder' (rL HO139.out) (Kd.R_base ho0) hb); have n8_ := Aside0.mk (Kd.R_lower (Kd.R_new' (Kd.R_newM (M := fun k_ => (w.heap.size ≤ k_)) ho0 (below_size bel) (fun k_ h_ => h_)) (Kd.R_lt (rL HO139.out))) (below_size bel)); have n9_ := Aside0.mk (Kd.C_below (by repeat (first | (with_reducible exact HR101_0.out) | (with_reducible refine Kd.C_alloc ?_ _) | (with_reducible refine Kd.C_drewN ?_ _) | (with_reducible refine Kd.C_drew ?_) | exact HR101_0.out)) hb); have n10_ := Aside0.mk (below_step bel hb); clear HO_2; clear HO_3; clear HL101_0; clear HO107; clear HO129; clear HO132; clear HO135; clear HO139; clear HR101_0; clear HB; have HO_2 := n0_; have HO_3 := n1_; have HL101_0 := n2_; have HO107 := n3_; have HO129 := n4_; have HO132 := n5_; have HO135 := n6_; have HO139 := n7_; have HO142 := n8_; have HR101_0 := n9_; have HB := n10_; clear n0_ n1_ n2_ n3_ n4_ n5_ n6_ n7_ n8_ n9_ n10_; (try clear hb); (try clear hb2); (try clear hk); (try clear hi); (try clear ho0); obtain ⟨Ao45, co45, eo45⟩ := Kd.R_slice HO139.out; subst eo45) | ((with_reducible refine gate_callee (f := 50) rfl ?_); refine goesL_ (some 116) rfl rfl Tryd.func50 (by kernel_rfl) rfl #[.slice Ao45 t137.length co45] rfl eqA ?_; (with_reducible refine (imprimaturref02_Hash256.calls _ _ t137 t143 _ ?side1 ?side2 A35.out).mono ?_); (case side1 => exact cL (Kd.R_reads' HO139.out).2.2); (case side2 => exact (Kd.R_reads' HO139.out).2.1); rintro e w46 ⟨v144, rfl, ho0, hb⟩; refine ⟨_, rfl, ?_⟩; have n0_ := Aside0.mk (Kd.V_elder' (vL HO_2.out) (Kd.R_base ho0) hb); have n1_ := Aside0.mk (Kd.V_elder' (vL HO_3.out) (Kd.R_base ho0) hb); have n2_ := Aside0.mk (Kd.V_elder' (vL HL101_0.out) (Kd.R_base ho0) hb); have n3_ := Aside0.mk (Kd.V_elder' (vL HO107.out) (Kd.R_base ho0) hb); have n4_ := Aside0.mk (Kd.V_elder' (vL HO129.out) (Kd.R_base ho0) hb); have n5_ := Aside0.mk (Kd.V_elder' (vL HO132.out) (Kd.R_base ho0) hb); have n6_ := Aside0.mk (Kd.S_elder' (sL HO135.out) (Kd.R_base ho0) hb); have n7_ := Aside0.mk (Kd.R_elder' (rL HO139.out) (Kd.R_base ho0) hb); have n8_ := Aside0.mk (Kd.R_elder' (rL HO142.out) (Kd.R_base ho0) hb); have n9_ := Aside0.mk (Kd.R_lower (Kd.R_new' (Kd.R_new' (Kd.R_newM (M := fun k_ => (w.heap.size ≤ k_)) ho0 (below_size bel) (fun k_ h_ => h_)) (Kd.R_lt (rL HO139.out))) (Kd.R_lt (rL HO142.out))) (below_size bel)); have n10_ := Aside0.mk (Kd.C_below (by repeat (first | (with_reducible exact HR101_0.out) | (with_reducible refine Kd.C_alloc ?_ _) | (with_reducible refine Kd.C_drewN ?_ _) | (with_reducible refine Kd.C_drew ?_) | exact HR101_0.out)) hb); have n11_ := Aside0.mk (below_step bel hb); clear HO_2; clear HO_3; clear HL101_0; clear HO107; clear HO129; clear HO132; clear HO135; clear HO139; clear HO142; clear HR101_0; clear HB; have HO_2 := n0_; have HO_3 := n1_; have HL101_0 := n2_; have HO107 := n3_; have HO129 := n4_; have HO132 := n5_; have HO135 := n6_; have HO139 := n7_; have HO142 := n8_; have HO145 := n9_; have HR101_0 := n10_; have HB := n11_; clear n0_ n1_ n2_ n3_ n4_ n5_ n6_ n7_ n8_ n9_ n10_ n11_; (try clear hb); (try clear hb2); (try clear hk); (try clear hi); (try clear ho0); obtain ⟨Ao47, co47, eo47⟩ := Kd.R_slice HO142.out; subst eo47) | ((with_reducible refine gate_callee (f := 50) rfl ?_); refine goesL_ (some 118) rfl rfl Tryd.func50 (by kernel_rfl) rfl #[.slice Ao47 t140.length co47] rfl eqA ?_; (with_reducible refine (imprimaturref02_Hash256.calls _ _ t140 t146 _ ?side1 ?side2 A36.out).mono ?_); (case side1 => exact cL (Kd.R_reads' HO142.out).2.2); (case side2 => exact (Kd.R_reads' HO142.out).2.1); rintro e w48 ⟨v147, rfl, ho0, hb⟩; refine ⟨_, rfl, ?_⟩; have n0_ := Aside0.mk (Kd.V_elder' (vL HO_2.out) (Kd.R_base ho0) hb); have n1_ := Aside0.mk (Kd.V_elder' (vL HO_3.out) (Kd.R_base ho0) hb); have n2_ := Aside0.mk (Kd.V_elder' (vL HL101_0.out) (Kd.R_base ho0) hb); have n3_ := Aside0.mk (Kd.V_elder' (vL HO107.out) (Kd.R_base ho0) hb); have n4_ := Aside0.mk (Kd.V_elder' (vL HO129.out) (Kd.R_base ho0) hb); have n5_ := Aside0.mk (Kd.V_elder' (vL HO132.out) (Kd.R_base ho0) hb); have n6_ := Aside0.mk (Kd.S_elder' (sL HO135.out) (Kd.R_base ho0) hb); have n7_ := Aside0.mk (Kd.R_elder' (rL HO139.out) (Kd.R_base ho0) hb); have n8_ := Aside0.mk (Kd.R_elder' (rL HO142.out) (Kd.R_base ho0) hb); have n9_ := Aside0.mk (Kd.R_elder' (rL HO145.out) (Kd.R_base ho0) hb); have n10_ := Aside0.mk (Kd.R_lower (Kd.R_new' (Kd.R_new' (Kd.R_new' (Kd.R_newM (M := fun k_ => (w.heap.size ≤ k_)) ho0 (below_size bel) (fun k_ h_ => h_)) (Kd.R_lt (rL HO139.out))) (Kd.R_lt (rL HO142.out))) (Kd.R_lt (rL HO145.out))) (below_size bel)); have n11_ := Aside0.mk (Kd.C_below (by repeat (first | (with_reducible exact HR101_0.out) | (with_reducible refine Kd.C_alloc ?_ _) | (with_reducible refine Kd.C_drewN ?_ _) | (with_reducible refine Kd.C_drew ?_) | exact HR101_0.out)) hb); have n12_ := Aside0.mk (below_step bel hb); clear HO_2; clear HO_3; clear HL101_0; clear HO107; clear HO129; clear HO132; clear HO135; clear HO139; clear HO142; clear HO145; clear HR101_0; clear HB; have HO_2 := n0_; have HO_3 := n1_; have HL101_0 := n2_; have HO107 := n3_; have HO129 := n4_; have HO132 := n5_; have HO135 := n6_; have HO139 := n7_; have HO142 := n8_; have HO145 := n9_; have HO148 := n10_; have HR101_0 := n11_; have HB := n12_; clear n0_ n1_ n2_ n3_ n4_ n5_ n6_ n7_ n8_ n9_ n10_ n11_ n12_; (try clear hb); (try clear hb2); (try clear hk); (try clear hi); (try clear ho0)) | ((with_reducible refine gate_builtin (b := .append) (xs := #[.tmp 119, .tmp 121]) rfl ?_); (try (refine gate_guard (by rfl) ?_; dsimp only)); at_builtin; refine Kd.S_append (Kd.slice 5 (Kd.int .u8)) (w0 := w) w.heap.size rfl (.tmp 119) (.tmp 121) 22 23 (.slice none 0 0) 24 rfl Tryd.underlying22 info23 rfl (by decide) (by omega) v134 t133 t137 [.slice Ao45 t137.length co45] (fun k_ => (w.heap.size ≤ k_) ∧ some k_ ≠ (.slice Ao47 t140.length co47 : Value).ownBlock ∧ some k_ ≠ (v144 : Value).ownBlock ∧ some k_ ≠ (v147 : Value).ownBlock) (fun k_ => some k_ = (.slice Ao45 t137.length co45 : Value).ownBlock) rfl rfl ?aP (fun k_ hk_ => ((Kd.R_mono (ok' := fun k_ => ((fun k_ => (w.heap.size ≤ k_) ∧ some k_ ≠ (.slice Ao47 t140.length co47 : Value).ownBlock ∧ some k_ ≠ (v144 : Value).ownBlock ∧ some k_ ≠ (v147 : Value).ownBlock)) k_ ∧ some k_ ≠ (v134 : Value).ownBlock) (Kd.R_apart' (HO139.out) (Kd.S_typed HO135.out) (by decide)) (fun k_ hk => ⟨⟨hk.1.1.1.1.1, ⟨hk.1.1.1.2, ⟨hk.1.1.2, hk.1.2⟩⟩⟩, hk.2⟩))).1 k_ hk_.symm) ?aF ?aO ?aB ?aS ?aL ?_; (case aP => exact Kd.M_row (Kd.R_mono (Kd.R_tight rfl (Kd.R_mono (ok' := fun k_ => ((fun k_ => (w.heap.size ≤ k_) ∧ some k_ ≠ (.slice Ao47 t140.length co47 : Value).ownBlock ∧ some k_ ≠ (v144 : Value).ownBlock ∧ some k_ ≠ (v147 : Value).ownBlock)) k_ ∧ some k_ ≠ (v134 : Value).ownBlock) (Kd.R_apart' (HO139.out) (Kd.S_typed HO135.out) (by decide)) (fun k_ hk => ⟨⟨hk.1.1.1.1.1, ⟨hk.1.1.1.2, ⟨hk.1.1.2, hk.1.2⟩⟩⟩, hk.2⟩))) (fun _ h_ => h_))); (case aB => exact bel); (case aF => exact (fun k_ hk => ⟨(Nat.le_trans (below_size bel) hk), Kd.fresh' (Kd.R_lt (rL HO142.out)) k_ hk, Kd.fresh' (Kd.R_lt (rL HO145.out)) k_ hk, Kd.fresh' (Kd.R_lt (rL HO148.out)) k_ hk⟩)); (case aO => exact (by (with_reducible repeat (first | apply Kd.S_alloc | apply Kd.S_drewN | apply Kd.S_drew)); exact Kd.S_mono HO135.out (fun k_ hk => ⟨⟨hk.1.1.1.1.1, ⟨hk.1.1.2, ⟨hk.1.2, hk.2⟩⟩⟩, fun e_ => hk.1.1.1.2 e_⟩))); (case aS => exact (below_size bel)); (case aL => have := LMc37.out; omega); intro v150 w49 ho hb hg hat; rw [← Ny149.out] at ho; have n0_ := Aside0.mk (Kd.V_afterv (ok := (fun k_ => ((P2_ k_ ∨ P3_ k_) ∨ w.heap.size ≤ k_) ∧ some k_ ≠ (.slice Ao45 t137.length co45 : Value).ownBlock ∧ some k_ ≠ (.slice Ao47 t140.length co47 : Value).ownBlock ∧ some k_ ≠ (v144 : Value).ownBlock ∧ some k_ ≠ (v147 : Value).ownBlock)) (by (with_reducible repeat (first | apply Kd.V_alloc | apply Kd.V_drewN | apply Kd.V_drew)); exact Kd.V_mono HO_2.out (fun _ hk => ⟨⟨hk.1.1.1.1.1, ⟨hk.1.1.1.2, ⟨hk.1.1.2, ⟨hk.1.2, hk.2⟩⟩⟩⟩, hk.1.1.1.1.2⟩)) hg hat); have n1_ := Aside0.mk (Kd.V_afterv (ok := (fun k_ => ((P2_ k_ ∨ P3_ k_) ∨ w.heap.size ≤ k_) ∧ some k_ ≠ (.slice Ao45 t137.length co45 : Value).ownBlock ∧ some k_ ≠ (.slice Ao47 t140.length co47 : Value).ownBlock ∧ some k_ ≠ (v144 : Value).ownBlock ∧ some k_ ≠ (v147 : Value).ownBlock)) (by (with_reducible repeat (first | apply Kd.V_alloc | apply Kd.V_drewN | apply Kd.V_drew)); exact Kd.V_mono HO_3.out (fun _ hk => ⟨⟨hk.1.1.1.1.1, ⟨hk.1.1.1.2, ⟨hk.1.1.2, ⟨hk.1.2, hk.2⟩⟩⟩⟩, hk.1.1.1.1.2⟩)) hg hat); have n2_ := Aside0.mk (Kd.V_afterv (ok := (fun k_ => ((P2_ k_ ∨ P3_ k_) ∨ w.heap.size ≤ k_) ∧ some k_ ≠ (.slice Ao45 t137.length co45 : Value).ownBlock ∧ some k_ ≠ (.slice Ao47 t140.length co47 : Value).ownBlock ∧ some k_ ≠ (v144 : Value).ownBlock ∧ some k_ ≠ (v147 : Value).ownBlock)) (by (with_reducible repeat (first | apply Kd.V_alloc | apply Kd.V_drewN | apply Kd.V_drew)); exact Kd.V_mono HL101_0.out (fun _ hk => ⟨⟨hk.1.1.1.1.1, ⟨hk.1.1.1.2, ⟨hk.1.1.2, ⟨hk.1.2, hk.2⟩⟩⟩⟩, hk.1.1.1.1.2⟩)) hg hat); have n3_ := Aside0.mk (Kd.V_afterv (ok := (fun k_ => ((P2_ k_ ∨ P3_ k_) ∨ w.heap.size ≤ k_) ∧ some k_ ≠ (.slice Ao45 t137.length co45 : Value).ownBlock ∧ some k_ ≠ (.slice Ao47 t140.length co47 : Value).ownBlock ∧ some k_ ≠ (v144 : Value).ownBlock ∧ some k_ ≠ (v147 : Value).ownBlock)) (by (with_reducible repeat (first | apply Kd.V_alloc | apply Kd.V_drewN | apply Kd.V_drew)); exact Kd.V_mono HO107.out (fun _ hk => ⟨⟨hk.1.1.1.1.1, ⟨hk.1.1.1.2, ⟨hk.1.1.2, ⟨hk.1.2, hk.2⟩⟩⟩⟩, hk.1.1.1.1.2⟩)) hg hat); have n4_ := Aside0.mk (Kd.V_afterv (ok := (fun k_ => ((P2_ k_ ∨ P3_ k_) ∨ w.heap.size ≤ k_) ∧ some k_ ≠ (.slice Ao45 t137.length co45 : Value).ownBlock ∧ some k_ ≠ (.slice Ao47 t140.length co47 : Value).ownBlock ∧ some k_ ≠ (v144 : Value).ownBlock ∧ some k_ ≠ (v147 : Value).ownBlock)) (by (with_reducible repeat (first | apply Kd.V_alloc | apply Kd.V_drewN | apply Kd.V_drew)); exact Kd.V_mono HO129.out (fun _ hk => ⟨⟨hk.1.1.1.1.1, ⟨hk.1.1.1.2, ⟨hk.1.1.2, ⟨hk.1.2, hk.2⟩⟩⟩⟩, hk.1.1.1.1.2⟩)) hg hat); have n5_ := Aside0.mk (Kd.V_afterv (ok := (fun k_ => ((P2_ k_ ∨ P3_ k_) ∨ w.heap.size ≤ k_) ∧ some k_ ≠ (.slice Ao45 t137.length co45 : Value).ownBlock ∧ some k_ ≠ (.slice Ao47 t140.length co47 : Value).ownBlock ∧ some k_ ≠ (v144 : Value).ownBlock ∧ some k_ ≠ (v147 : Value).ownBlock)) (by (with_reducible repeat (first | apply Kd.V_alloc | apply Kd.V_drewN | apply Kd.V_drew)); exact Kd.V_mono HO132.out (fun _ hk => ⟨⟨hk.1.1.1.1.1, ⟨hk.1.1.1.2, ⟨hk.1.1.2, ⟨hk.1.2, hk.2⟩⟩⟩⟩, hk.1.1.1.1.2⟩)) hg hat); have n6_ := Aside0.mk (Kd.R_over' (rL HO142.out) (Kd.S_typed (sL HO135.out)) (by decide) hg); have n7_ := Aside0.mk (Kd.R_over' (rL HO145.out) (Kd.S_typed (sL HO135.out)) (by decide) hg); have n8_ := Aside0.mk (Kd.R_over' (rL HO148.out) (Kd.S_typed (sL HO135.out)) (by decide) hg); have n9_ := Aside0.mk (hb); have n10_ := Aside0.mk (ho); clear HO_2; clear HO_3; clear HL101_0; clear HO107; clear HO129; clear HO132; clear HO142; clear HO145; clear HO148; clear HB; clear HO135; clear HO139; have HO_2 := n0_; have HO_3 := n1_; have HL101_0 := n2_; have HO107 := n3_; have HO129 := n4_; have HO132 := n5_; have HO142 := n6_; have HO145 := n7_; have HO148 := n8_; have HB := n9_; have HO151 := n10_; clear n0_ n1_ n2_ n3_ n4_ n5_ n6_ n7_ n8_ n9_ n10_; clear ho hb hg hat) | ((with_reducible refine gate_builtin (b := .append) (xs := #[.tmp 122, .tmp 124]) rfl ?_); (try (refine gate_guard (by rfl) ?_; dsimp only)); at_builtin; refine Kd.S_append (Kd.slice 5 (Kd.int .u8)) (w0 := w) w.heap.size rfl (.tmp 122) (.tmp 124) 22 23 (.slice none 0 0) 24 rfl Tryd.underlying22 info23 rfl (by decide) (by omega) v150 y149 t140 [.slice Ao47 t140.length co47] (fun k_ => (w.heap.size ≤ k_) ∧ some k_ ≠ (v144 : Value).ownBlock ∧ some k_ ≠ (v147 : Value).ownBlock) (fun k_ => some k_ = (.slice Ao47 t140.length co47 : Value).ownBlock) rfl rfl ?aP (fun k_ hk_ => ((Kd.R_mono (ok' := fun k_ => ((fun k_ => (w.heap.size ≤ k_) ∧ some k_ ≠ (v144 : Value).ownBlock ∧ some k_ ≠ (v147 : Value).ownBlock)) k_ ∧ some k_ ≠ (v150 : Value).ownBlock) (Kd.R_apart' (HO142.out) (Kd.S_typed HO151.out) (by decide)) (fun k_ hk => ⟨⟨hk.1.1.1.1.1, ⟨hk.1.1.2, hk.1.2⟩⟩, hk.2⟩))).1 k_ hk_.symm) ?aF ?aO ?aB ?aS ?aL ?_; (case aP => exact Kd.M_row (Kd.R_mono (Kd.R_tight rfl (Kd.R_mono (ok' := fun k_ => ((fun k_ => (w.heap.size ≤ k_) ∧ some k_ ≠ (v144 : Value).ownBlock ∧ some k_ ≠ (v147 : Value).ownBlock)) k_ ∧ some k_ ≠ (v150 : Value).ownBlock) (Kd.R_apart' (HO142.out) (Kd.S_typed HO151.out) (by decide)) (fun k_ hk => ⟨⟨hk.1.1.1.1.1, ⟨hk.1.1.2, hk.1.2⟩⟩, hk.2⟩))) (fun _ h_ => h_))); (case aB => exact bel); (case aF => exact (fun k_ hk => ⟨(Nat.le_trans (below_size bel) hk), Kd.fresh' (Kd.R_lt (rL HO145.out)) k_ hk, Kd.fresh' (Kd.R_lt (rL HO148.out)) k_ hk⟩)); (case aO => exact (by (with_reducible repeat (first | apply Kd.S_alloc | apply Kd.S_drewN | apply Kd.S_drew)); exact Kd.S_mono HO151.out (fun k_ hk => ⟨⟨hk.1, ⟨hk.2.2.1, hk.2.2.2⟩⟩, fun e_ => hk.2.1 e_⟩))); (case aS => exact (below_size bel)); (case aL => have := LMc38.out; omega); intro v153 w50 ho hb hg hat; rw [← Ny152.out] at ho; have n0_ := Aside0.mk (Kd.V_afterv (ok := (fun k_ => ((P2_ k_ ∨ P3_ k_) ∨ w.heap.size ≤ k_) ∧ some k_ ≠ (.slice Ao47 t140.length co47 : Value).ownBlock ∧ some k_ ≠ (v144 : Value).ownBlock ∧ some k_ ≠ (v147 : Value).ownBlock)) (by (with_reducible repeat (first | apply Kd.V_alloc | apply Kd.V_drewN | apply Kd.V_drew)); exact Kd.V_mono HO_2.out (fun _ hk => ⟨⟨hk.1.1, ⟨hk.1.2.2.1, ⟨hk.1.2.2.2.1, hk.1.2.2.2.2⟩⟩⟩, hk.2⟩)) hg hat); have n1_ := Aside0.mk (Kd.V_afterv (ok := (fun k_ => ((P2_ k_ ∨ P3_ k_) ∨ w.heap.size ≤ k_) ∧ some k_ ≠ (.slice Ao47 t140.length co47 : Value).ownBlock ∧ some k_ ≠ (v144 : Value).ownBlock ∧ some k_ ≠ (v147 : Value).ownBlock)) (by (with_reducible repeat (first | apply Kd.V_alloc | apply Kd.V_drewN | apply Kd.V_drew)); exact Kd.V_mono HO_3.out (fun _ hk => ⟨⟨hk.1.1, ⟨hk.1.2.2.1, ⟨hk.1.2.2.2.1, hk.1.2.2.2.2⟩⟩⟩, hk.2⟩)) hg hat); have n2_ := Aside0.mk (Kd.V_afterv (ok := (fun k_ => ((P2_ k_ ∨ P3_ k_) ∨ w.heap.size ≤ k_) ∧ some k_ ≠ (.slice Ao47 t140.length co47 : Value).ownBlock ∧ some k_ ≠ (v144 : Value).ownBlock ∧ some k_ ≠ (v147 : Value).ownBlock)) (by (with_reducible repeat (first | apply Kd.V_alloc | apply Kd.V_drewN | apply Kd.V_drew)); exact Kd.V_mono HL101_0.out (fun _ hk => ⟨⟨hk.1.1, ⟨hk.1.2.2.1, ⟨hk.1.2.2.2.1, hk.1.2.2.2.2⟩⟩⟩, hk.2⟩)) hg hat); have n3_ := Aside0.mk (Kd.V_afterv (ok := (fun k_ => ((P2_ k_ ∨ P3_ k_) ∨ w.heap.size ≤ k_) ∧ some k_ ≠ (.slice Ao47 t140.length co47 : Value).ownBlock ∧ some k_ ≠ (v144 : Value).ownBlock ∧ some k_ ≠ (v147 : Value).ownBlock)) (by (with_reducible repeat (first | apply Kd.V_alloc | apply Kd.V_drewN | apply Kd.V_drew)); exact Kd.V_mono HO107.out (fun _ hk => ⟨⟨hk.1.1, ⟨hk.1.2.2.1, ⟨hk.1.2.2.2.1, hk.1.2.2.2.2⟩⟩⟩, hk.2⟩)) hg hat); have n4_ := Aside0.mk (Kd.V_afterv (ok := (fun k_ => ((P2_ k_ ∨ P3_ k_) ∨ w.heap.size ≤ k_) ∧ some k_ ≠ (.slice Ao47 t140.length co47 : Value).ownBlock ∧ some k_ ≠ (v144 : Value).ownBlock ∧ some k_ ≠ (v147 : Value).ownBlock)) (by (with_reducible repeat (first | apply Kd.V_alloc | apply Kd.V_drewN | apply Kd.V_drew)); exact Kd.V_mono HO129.out (fun _ hk => ⟨⟨hk.1.1, ⟨hk.1.2.2.1, ⟨hk.1.2.2.2.1, hk.1.2.2.2.2⟩⟩⟩, hk.2⟩)) hg hat); have n5_ := Aside0.mk (Kd.V_afterv (ok := (fun k_ => ((P2_ k_ ∨ P3_ k_) ∨ w.heap.size ≤ k_) ∧ some k_ ≠ (.slice Ao47 t140.length co47 : Value).ownBlock ∧ some k_ ≠ (v144 : Value).ownBlock ∧ some k_ ≠ (v147 : Value).ownBlock)) (by (with_reducible repeat (first | apply Kd.V_alloc | apply Kd.V_drewN | apply Kd.V_drew)); exact Kd.V_mono HO132.out (fun _ hk => ⟨⟨hk.1.1, ⟨hk.1.2.2.1, ⟨hk.1.2.2.2.1, hk.1.2.2.2.2⟩⟩⟩, hk.2⟩)) hg hat); have n6_ := Aside0.mk (Kd.R_over' (rL HO145.out) (Kd.S_typed (sL HO151.out)) (by decide) hg); have n7_ := Aside0.mk (Kd.R_over' (rL HO148.out) (Kd.S_typed (sL HO151.out)) (by decide) hg); have n8_ := Aside0.mk (hb); have n9_ := Aside0.mk (ho); clear HO_2; clear HO_3; clear HL101_0; clear HO107; clear HO129; clear HO132; clear HO145; clear HO148; clear HB; clear HO151; clear HO142; have HO_2 := n0_; have HO_3 := n1_; have HL101_0 := n2_; have HO107 := n3_; have HO129 := n4_; have HO132 := n5_; have HO145 := n6_; have HO148 := n7_; have HB := n8_; have HO154 := n9_; clear n0_ n1_ n2_ n3_ n4_ n5_ n6_ n7_ n8_ n9_; clear ho hb hg hat))
              refine bodyPost_ret (results_list (rs := [.tmp 10, .tmp 11, .tmp 12, .tmp 13]) rfl (by simp) (.tmp (.tmp (.tmp (.tmp .nil))))) rfl ?_
              exact ⟨_, _, _, by first | rfl | (simp [errW_none, errW_some] <;> rfl) | (simp only [← hji13]; first | rfl | (simp [errW_none, errW_some] <;> rfl)) | (simp [*, errW_none, errW_some] <;> rfl), Kd.V_mono (Kd.R_V (base' := w.heap.size) (Kd.R_apart' HO145.out (Kd.S_typed HO154.out) (by decide))) (fun k_ hk => ⟨.inr hk.1.1.1.1.1, hk.2⟩), Kd.V_mono (Kd.R_V (base' := w.heap.size) (Kd.R_apart' HO148.out (Kd.S_typed HO154.out) (by decide))) (fun k_ hk => ⟨.inr hk.1.1.1.1.1, hk.2⟩), by (with_reducible repeat (first | apply Kd.S_alloc | apply Kd.S_drewN | apply Kd.S_drew)); exact Kd.S_mono HO154.out (fun _ hk => hk.1), by repeat (first | (with_reducible first | exact HB.out | apply below_alloc | apply pw_below_drewN | apply below_drew1) | exact HB.out)⟩
             ·rw [if_neg c38] at H
              exact absurd H (by simp)
            ·rw [if_neg c37] at H
             exact absurd H (by simp)
          ·rw [if_neg c19] at H
           exact absurd H (by simp)
        ·rw [if_neg c15] at H
         exact absurd H (by simp)
       ·rw [if_neg c14] at H
        exact absurd H (by simp)

end Go.Proofs.YtcnpdapampclpaaDoor.PRo
