-- Written by a program of this session, after the print of the kit.
import Derived.Test.YtbenedckmapjoaaDoorWC
import Derived.WalkMore
import Derived.Test.YtbenedckmapjoaaDoorPCutx0
import Derived.Test.YtbenedckmapjoaaDoorPCutx1
import Derived.Test.YtbenedckmapjoaaDoorPCutx2
namespace Go.Proofs.YtbenedckmapjoaaDoor.PCut
open Go.RowKit Go.Proofs.YtbenedckmapjoaaDoor.X Go.Proofs.YtbenedckmapjoaaDoorW.PrintWords Go.Proofs.YtbenedckmapjoaaDoorW.PrintLast Go.Proofs.YtbenedckmapjoaaDoorW.PrintMore
attribute [local go_sem] max2_int min2_int max_two min_two max_three min_three max_four min_four   -- for this text's walks alone
set_option linter.unusedVariables false
set_option linter.unusedSimpArgs false

/-! ### merkle_Check: function 38 -/
mutual
def merkle_Check.j0 : Nat → List Int → Int → Int → List Int → List (List Int) → Bool → Option (Int)
 | 0, _, _, _, _, _, _ => none
 | k + 1, x0, x1, x2, x3, x4, x42 => if x42 = true then (some 1) else (merkle_Check.l0 k x0 x1 x2 x3 x4 false x4 (x4.length : Int) 0)
def merkle_Check.j2 : Nat → List Int → Int → Int → List Int → List (List Int) → Bool → Option (Int)
 | 0, _, _, _, _, _, _ => none
 | k + 1, x0, x1, x2, x3, x4, x11 => if x11 = true then (some 1) else ((merkle_path.f k x1 x2).bind fun t167 => (if (x4.length : Int) = (t167.length : Int) then (merkle_Check.l1 k x0 x1 t167 x3 x4 (x4.length : Int) 0) else (some 50)))
def merkle_Check.l1 : Nat → List Int → Int → List Bool → List Int → List (List Int) → Int → Int → Option (Int)
 | 0, _, _, _, _, _, _, _ => none
 | k + 1, x0, x1, x14, x15, x63, x64, x65 => if x65 < x64 then (if 0 ≤ x65 then (if x65 < (x63.length : Int) then (if 0 ≤ (wrap64 ((wrap64 ((x14.length : Int) - 1)) - x65)) then (if (wrap64 ((wrap64 ((x14.length : Int) - 1)) - x65)) < (x14.length : Int) then (if rdOf false x14 (wrap64 ((wrap64 ((x14.length : Int) - 1)) - x65)) = true then ((merkle_digest.f 1 (([rd_L1 x63 x65, x15] : List (List Int)))).bind fun t175 => (merkle_Check.l1 k x0 x1 x14 t175 x63 x64 (wrap64 (x65 + 1)))) else ((merkle_digest.f 1 (([x15, rd_L1 x63 x65] : List (List Int)))).bind fun t181 => (merkle_Check.l1 k x0 x1 x14 t181 x63 x64 (wrap64 (x65 + 1))))) else (none)) else (none)) else (none)) else (none)) else ((merkle_eight.f k x1).bind fun t184 => ((merkle_digest.f 2 (([t184, x15] : List (List Int)))).bind fun t190 => ((bytes_Equal.f t190 x0).bind fun t193 => (if t193 = true then (some 0) else (some 50)))))
def merkle_Check.l0 : Nat → List Int → Int → Int → List Int → List (List Int) → Bool → List (List Int) → Int → Int → Option (Int)
 | 0, _, _, _, _, _, _, _, _, _ => none
 | k + 1, x0, x1, x2, x3, x4, x11, x43, x44, x45 => if x45 < x44 then (if 0 ≤ x45 then (if x45 < (x43.length : Int) then (if ((rd_L1 x43 x45).length : Int) = 32 then (merkle_Check.l0 k x0 x1 x2 x3 x4 x11 x43 x44 (wrap64 (x45 + 1))) else (merkle_Check.j2 k x0 x1 x2 x3 x4 true)) else (none)) else (none)) else (merkle_Check.j2 k x0 x1 x2 x3 x4 x11)
end
def merkle_Check.f (k : Nat) (l0 : List Int) (a1 : Int) (a2 : Int) (l3 : List Int) (l4 : List (List Int)) : Option (Int) := if a1 < 1 then (merkle_Check.j0 k l0 a1 a2 l3 l4 true) else (if a1 > 4096 then (merkle_Check.j0 k l0 a1 a2 l3 l4 true) else (if a2 < 0 then (merkle_Check.j0 k l0 a1 a2 l3 l4 true) else (if a2 ≥ a1 then (merkle_Check.j0 k l0 a1 a2 l3 l4 true) else (if (l0.length : Int) = 32 then (merkle_Check.j0 k l0 a1 a2 l3 l4 ((l3.length : Int) != 32)) else (merkle_Check.j0 k l0 a1 a2 l3 l4 true)))))
theorem merkle_Check.mono_l : ∀ k, (∀ y0 y1 y2 y3 y4 y5, LeO (merkle_Check.j0 k y0 y1 y2 y3 y4 y5) (merkle_Check.j0 (k + 1) y0 y1 y2 y3 y4 y5)) ∧ (∀ y0 y1 y2 y3 y4 y5, LeO (merkle_Check.j2 k y0 y1 y2 y3 y4 y5) (merkle_Check.j2 (k + 1) y0 y1 y2 y3 y4 y5)) ∧ (∀ y0 y1 y2 y3 y4 y5 y6, LeO (merkle_Check.l1 k y0 y1 y2 y3 y4 y5 y6) (merkle_Check.l1 (k + 1) y0 y1 y2 y3 y4 y5 y6)) ∧ (∀ y0 y1 y2 y3 y4 y5 y6 y7 y8, LeO (merkle_Check.l0 k y0 y1 y2 y3 y4 y5 y6 y7 y8) (merkle_Check.l0 (k + 1) y0 y1 y2 y3 y4 y5 y6 y7 y8))
 | 0 => ⟨fun _ _ _ _ _ _ r h => by simp [merkle_Check.j0] at h, fun _ _ _ _ _ _ r h => by simp [merkle_Check.j2] at h, fun _ _ _ _ _ _ _ r h => by simp [merkle_Check.l1] at h, fun _ _ _ _ _ _ _ _ _ r h => by simp [merkle_Check.l0] at h⟩
 | k + 1 => by
  obtain ⟨ih0, ih1, ih2, ih3⟩ := merkle_Check.mono_l k
  refine ⟨?_, ?_, ?_, ?_⟩
  ·intro y0 y1 y2 y3 y4 y5
   unfold merkle_Check.j0
   repeat' first
   | (with_reducible exact ih0 _ _ _ _ _ _)
   | (with_reducible exact ih1 _ _ _ _ _ _)
   | (with_reducible exact ih2 _ _ _ _ _ _ _)
   | (with_reducible exact ih3 _ _ _ _ _ _ _ _ _)
   | (with_reducible exact merkle_eight.mono _ _)
   | (with_reducible exact merkle_path.mono _ _ _)
   | (with_reducible exact LeO.refl _)
   | (with_reducible exact LeO.none _)
   | (with_reducible refine LeO.ite ?_ ?_)
   | (with_reducible refine LeO.bind ?_ (fun _ => ?_))
  ·intro y0 y1 y2 y3 y4 y5
   unfold merkle_Check.j2
   repeat' first
   | (with_reducible exact ih0 _ _ _ _ _ _)
   | (with_reducible exact ih1 _ _ _ _ _ _)
   | (with_reducible exact ih2 _ _ _ _ _ _ _)
   | (with_reducible exact ih3 _ _ _ _ _ _ _ _ _)
   | (with_reducible exact merkle_eight.mono _ _)
   | (with_reducible exact merkle_path.mono _ _ _)
   | (with_reducible exact LeO.refl _)
   | (with_reducible exact LeO.none _)
   | (with_reducible refine LeO.ite ?_ ?_)
   | (with_reducible refine LeO.bind ?_ (fun _ => ?_))
  ·intro y0 y1 y2 y3 y4 y5 y6
   unfold merkle_Check.l1
   repeat' first
   | (with_reducible exact ih0 _ _ _ _ _ _)
   | (with_reducible exact ih1 _ _ _ _ _ _)
   | (with_reducible exact ih2 _ _ _ _ _ _ _)
   | (with_reducible exact ih3 _ _ _ _ _ _ _ _ _)
   | (with_reducible exact merkle_eight.mono _ _)
   | (with_reducible exact merkle_path.mono _ _ _)
   | (with_reducible exact LeO.refl _)
   | (with_reducible exact LeO.none _)
   | (with_reducible refine LeO.ite ?_ ?_)
   | (with_reducible refine LeO.bind ?_ (fun _ => ?_))
  intro y0 y1 y2 y3 y4 y5 y6 y7 y8
  unfold merkle_Check.l0
  repeat' first
  | (with_reducible exact ih0 _ _ _ _ _ _)
  | (with_reducible exact ih1 _ _ _ _ _ _)
  | (with_reducible exact ih2 _ _ _ _ _ _ _)
  | (with_reducible exact ih3 _ _ _ _ _ _ _ _ _)
  | (with_reducible exact merkle_eight.mono _ _)
  | (with_reducible exact merkle_path.mono _ _ _)
  | (with_reducible exact LeO.refl _)
  | (with_reducible exact LeO.none _)
  | (with_reducible refine LeO.ite ?_ ?_)
  | (with_reducible refine LeO.bind ?_ (fun _ => ?_))
theorem merkle_Check.mono : ∀ a0 a1 a2 a3 a4 k, LeO (merkle_Check.f k a0 a1 a2 a3 a4) (merkle_Check.f (k + 1) a0 a1 a2 a3 a4) := by
 intro a0 a1 a2 a3 a4 k
 obtain ⟨ih0, ih1, ih2, ih3⟩ := merkle_Check.mono_l k
 unfold merkle_Check.f
 repeat' first
   | (with_reducible exact ih0 _ _ _ _ _ _)
   | (with_reducible exact ih1 _ _ _ _ _ _)
   | (with_reducible exact ih2 _ _ _ _ _ _ _)
   | (with_reducible exact ih3 _ _ _ _ _ _ _ _ _)
   | (with_reducible exact merkle_eight.mono _ _)
   | (with_reducible exact merkle_path.mono _ _ _)
   | (with_reducible exact LeO.refl _)
   | (with_reducible exact LeO.none _)
   | (with_reducible refine LeO.ite ?_ ?_)
   | (with_reducible refine LeO.bind ?_ (fun _ => ?_))
set_option maxHeartbeats 8000000 in
set_option maxRecDepth 100000 in
theorem merkle_Check.calls (k : Nat) (A0 : Option Addr) (c0 : Nat) (l0 : List Int) (a1 : Int) (a2 : Int) (P3_ : Nat → Prop) (A3 : Option Addr) (c3 : Nat) (l3 : List Int) (P4_ : Nat → Prop) (A4 : Option Addr) (c4 : Nat) (l4 : List (List Int)) (r : Int) (w : World) (HG : Glb w) (hr0 : Kd.C (Kd.int .u8) w A0 l0.length l0) (hc0 : l0.length ≤ c0) (hs3 : Kd.V (Kd.int .u8) 5 w w.heap.size (fun k_ => P3_ k_) (.slice A3 l3.length c3) l3) (hs4 : Kd.V (Kd.slice 5 (Kd.int .u8)) 30 w w.heap.size (fun k_ => P4_ k_) (.slice A4 l4.length c4) l4) (h : merkle_Check.f k l0 a1 a2 l3 l4 = some r) :
  Calls Tryd.prog 38 #[.slice A0 l0.length c0, .int .i64 a1, .int .i64 a2, .slice A3 l3.length c3, .slice A4 l4.length c4] w fun e w' => e = .returned (.int .i64 r) ∧ Below w.heap.size w w' := by
 have HR0 := aM hr0
 have HC0 := aM hc0
 clear hr0 hc0
 have HO3 := aM (show Kd.V (Kd.int .u8) 5 w w.heap.size (fun k_ => ((P3_ k_ ∨ P4_ k_) ∨ w.heap.size ≤ k_)) (.slice A3 l3.length c3) l3 from Kd.V_mono hs3 (fun k_ hk => .inl (.inl hk)))
 have HO4 := aM (show Kd.V (Kd.slice 5 (Kd.int .u8)) 30 w w.heap.size (fun k_ => ((P3_ k_ ∨ P4_ k_) ∨ w.heap.size ≤ k_)) (.slice A4 l4.length c4) l4 from Kd.V_mono hs4 (fun k_ hk => .inl (.inr hk)))
 have HB := aM (Below.refl w.heap.size w)
 have H : (if a1 < 1 then (merkle_Check.j0 k l0 a1 a2 l3 l4 true) else (if a1 > 4096 then (merkle_Check.j0 k l0 a1 a2 l3 l4 true) else (if a2 < 0 then (merkle_Check.j0 k l0 a1 a2 l3 l4 true) else (if a2 ≥ a1 then (merkle_Check.j0 k l0 a1 a2 l3 l4 true) else (if (l0.length : Int) = 32 then (merkle_Check.j0 k l0 a1 a2 l3 l4 ((l3.length : Int) != 32)) else (merkle_Check.j0 k l0 a1 a2 l3 l4 true)))))) = some r := h
 clear h
 have HC6 := aM H
 clear H
 go_enter Tryd.func38, Tryd.ntmps38
 go_upto_region 1 with go_step3
 go_cut [42] (fun v42 wc => ∃ (kq : Nat) (x42_5 : Bool), v42 = .bool x42_5 ∧ Aside0 (merkle_Check.j0 kq l0 a1 a2 l3 l4 x42_5 = some r) ∧ Aside0 (kq ≤ k) ∧ Aside0 (Kd.V (Kd.int .u8) 5 wc w.heap.size (fun k_ => ((P3_ k_ ∨ P4_ k_) ∨ w.heap.size ≤ k_)) (.slice A3 l3.length c3) l3) ∧ Aside0 (Kd.V (Kd.slice 5 (Kd.int .u8)) 30 wc w.heap.size (fun k_ => ((P3_ k_ ∨ P4_ k_) ∨ w.heap.size ≤ k_)) (.slice A4 l4.length c4) l4) ∧ Aside0 (Below w.heap.size w wc))
 case first =>
  have H := HC6.out
  clear HC6
  by_cases c7 : a1 < 1
  ·rw [if_pos c7] at H
   have c7b0 : decide (a1 < 1) = true := decide_eq_true c7
   clear c7
   (first | rw [c7b0] | (simp only [i64_w, i32_w]; rw [c7b0]) | skip)
   have H' := aM H
   clear H
   go_wp2_with go_step3
   go_meet
   case rel => exact ⟨_, (true), rfS, H', omL, ⟨by (with_reducible repeat (first | apply Kd.V_alloc | apply Kd.V_drewN | apply Kd.V_drew)); exact HO3.out⟩, ⟨by (with_reducible repeat (first | apply Kd.V_alloc | apply Kd.V_drewN | apply Kd.V_drew)); exact HO4.out⟩, ⟨bel⟩⟩
  rw [if_neg c7] at H
  have c7b0 : decide (a1 < 1) = false := decide_eq_false c7
  clear c7
  (first | rw [c7b0] | (simp only [i64_w, i32_w]; rw [c7b0]) | skip)
  by_cases c8 : a1 > 4096
  ·rw [if_pos c8] at H
   have c8b0 : decide (4096 < a1) = true := decide_eq_true c8
   clear c8
   have H' := aM H
   clear H
   go_wp2_with go_step3
   go_meet
   case rel => exact ⟨_, (true), rfS, H', omL, ⟨by (with_reducible repeat (first | apply Kd.V_alloc | apply Kd.V_drewN | apply Kd.V_drew)); exact HO3.out⟩, ⟨by (with_reducible repeat (first | apply Kd.V_alloc | apply Kd.V_drewN | apply Kd.V_drew)); exact HO4.out⟩, ⟨bel⟩⟩
  rw [if_neg c8] at H
  have c8b0 : decide (4096 < a1) = false := decide_eq_false c8
  clear c8
  by_cases c9 : a2 < 0
  ·rw [if_pos c9] at H
   have c9b0 : decide (a2 < 0) = true := decide_eq_true c9
   clear c9
   have H' := aM H
   clear H
   go_wp2_with go_step3
   go_meet
   case rel => exact ⟨_, (true), rfS, H', omL, ⟨by (with_reducible repeat (first | apply Kd.V_alloc | apply Kd.V_drewN | apply Kd.V_drew)); exact HO3.out⟩, ⟨by (with_reducible repeat (first | apply Kd.V_alloc | apply Kd.V_drewN | apply Kd.V_drew)); exact HO4.out⟩, ⟨bel⟩⟩
  rw [if_neg c9] at H
  have c9b0 : decide (a2 < 0) = false := decide_eq_false c9
  clear c9
  by_cases c10 : a2 ≥ a1
  ·rw [if_pos c10] at H
   have c10b0 : decide (a1 ≤ a2) = true := decide_eq_true c10
   clear c10
   have H' := aM H
   clear H
   go_wp2_with go_step3
   go_meet
   case rel => exact ⟨_, (true), rfS, H', omL, ⟨by (with_reducible repeat (first | apply Kd.V_alloc | apply Kd.V_drewN | apply Kd.V_drew)); exact HO3.out⟩, ⟨by (with_reducible repeat (first | apply Kd.V_alloc | apply Kd.V_drewN | apply Kd.V_drew)); exact HO4.out⟩, ⟨bel⟩⟩
  rw [if_neg c10] at H
  have c10b0 : decide (a1 ≤ a2) = false := decide_eq_false c10
  clear c10
  by_cases c11 : (l0.length : Int) = 32
  ·rw [if_pos c11] at H
   have c11b0 : ((l0.length : Int) == 32) = true := beq_iff_eq.mpr c11
   have c11b1 : ((l0.length : Int) != 32) = false := bne_eq_false_iff_eq.mpr c11
   clear c11
   have H' := aM H
   clear H
   go_wp2_with go_step3
   go_meet
   case rel => exact ⟨_, (((l3.length : Int) != 32)), rfS, H', omL, ⟨by (with_reducible repeat (first | apply Kd.V_alloc | apply Kd.V_drewN | apply Kd.V_drew)); exact HO3.out⟩, ⟨by (with_reducible repeat (first | apply Kd.V_alloc | apply Kd.V_drewN | apply Kd.V_drew)); exact HO4.out⟩, ⟨bel⟩⟩
  rw [if_neg c11] at H
  have c11b0 : ((l0.length : Int) == 32) = false := beq_eq_false_iff_ne.mpr c11
  have c11b1 : ((l0.length : Int) != 32) = true := bne_iff_ne.mpr c11
  have H' := aM H
  clear H
  go_wp2_with go_step3
  go_meet
  case rel => exact ⟨_, (true), rfS, H', omL, ⟨by (with_reducible repeat (first | apply Kd.V_alloc | apply Kd.V_drewN | apply Kd.V_drew)); exact HO3.out⟩, ⟨by (with_reducible repeat (first | apply Kd.V_alloc | apply Kd.V_drewN | apply Kd.V_drew)); exact HO4.out⟩, ⟨bel⟩⟩
 case rest =>
  clear HC6
  try clear c3
  try clear c4
  obtain ⟨kq, x42_5, rfl, HA, HJ5, HO_3, HO_4, HB⟩ := hcut
  cases kq with
  | zero => exact absurd HA.out (by simp [merkle_Check.j0])
  | succ kj5 =>
   have H := HA.out
   clear HA
   simp only [merkle_Check.j0] at H
   by_cases c12 : x42_5 = true
   ·subst c12
    have H1 : (some 1) = some r := by rw [if_pos rfl] at H; exact H
    clear H
    have H := H1
    clear H1
    obtain rfl := Option.some.inj H
    go_wp2_with go_step3
    go_ret
    exact ⟨erR, bel⟩
   replace c12 := Bool.eq_false_iff.mpr c12
   subst c12
   have H1 : (merkle_Check.l0 kj5 l0 a1 a2 l3 l4 false l4 (l4.length : Int) 0) = some r := by rw [if_neg (show ¬ (false = true) by decide)] at H; exact H
   clear H
   have H := H1
   clear H1
   have HC13 := aM H
   clear H
   go_upto_block 0 with go_step3
   go_cut [11] (fun v11 wc => ∃ (kq : Nat) (x11_12 : Bool), v11 = .bool x11_12 ∧ Aside0 (merkle_Check.j2 kq l0 a1 a2 l3 l4 x11_12 = some r) ∧ Aside0 (kq ≤ kj5) ∧ Aside0 (Kd.V (Kd.int .u8) 5 wc w.heap.size (fun k_ => ((P3_ k_ ∨ P4_ k_) ∨ w.heap.size ≤ k_)) (.slice A3 l3.length c3) l3) ∧ Aside0 (Kd.V (Kd.slice 5 (Kd.int .u8)) 30 wc w.heap.size (fun k_ => ((P3_ k_ ∨ P4_ k_) ∨ w.heap.size ≤ k_)) (.slice A4 l4.length c4) l4) ∧ Aside0 (Below w.heap.size w wc))
   case first =>
    have H := HC13.out
    clear HC13
    have H' := aM H
    clear H
    go_wp2_with go_step3
    go_loopg [11, 45] kj5 (fun kq v11 v45 w' => ∃ (x11_2 : Bool) (x45_2 : Int), v11 = .bool x11_2 ∧ v45 = .int .i64 x45_2 ∧ Aside0 (merkle_Check.l0 kq l0 a1 a2 l3 l4 x11_2 l4 (l4.length : Int) x45_2 = some r) ∧ Aside0 (kq ≤ kj5) ∧ Aside0 (Kd.V (Kd.int .u8) 5 w' w.heap.size (fun k_ => ((P3_ k_ ∨ P4_ k_) ∨ w.heap.size ≤ k_)) (.slice A3 l3.length c3) l3) ∧ Aside0 (Kd.V (Kd.slice 5 (Kd.int .u8)) 30 w' w.heap.size (fun k_ => ((P3_ k_ ∨ P4_ k_) ∨ w.heap.size ≤ k_)) (.slice A4 l4.length c4) l4) ∧ Aside0 (Kd.V (Kd.slice 5 (Kd.int .u8)) 30 w' w.heap.size (fun k_ => ((P3_ k_ ∨ P4_ k_) ∨ w.heap.size ≤ k_)) (.slice A4 l4.length c4) l4) ∧ Aside0 (Below w.heap.size w w'))
    case atStart => exact ⟨(false), (0), rfS, rfS, H', ⟨Nat.le_refl _⟩, ⟨by (with_reducible repeat (first | apply Kd.V_alloc | apply Kd.V_drewN | apply Kd.V_drew)); exact HO_3.out⟩, ⟨by (with_reducible repeat (first | apply Kd.V_alloc | apply Kd.V_drewN | apply Kd.V_drew)); exact HO_4.out⟩, ⟨by (with_reducible repeat (first | apply Kd.V_alloc | apply Kd.V_drewN | apply Kd.V_drew)); exact HO_4.out⟩, ⟨bel⟩⟩
    case round =>
     clear H'
     try clear c3
     try clear c4
     try clear c12
     obtain ⟨x11_2, x45_2, rfl, rfl, HA, HK2, HO_3, HO_4, HO_43, HB⟩ := hrel
     cases gk with
     | zero => exact absurd HA.out (by simp [merkle_Check.l0])
     | succ k2 =>
      have H := HA.out
      clear HA
      simp only [merkle_Check.l0] at H
      by_cases c14 : x45_2 < (l4.length : Int)
      rotate_left
      ·rw [if_neg c14] at H
       have c14b0 : decide (x45_2 < (l4.length : Int)) = false := decide_eq_false c14
       clear c14
       (first | rw [c14b0] | (simp only [i64_w, i32_w]; rw [c14b0]) | skip)
       have H' := aM H
       clear H
       go_wp2_with go_step3
       go_meet
       case rel => exact ⟨_, (x11_2), rfS, H', ⟨by have := HJ5.out; have := HK2.out; first | omega | exact Nat.le_refl _⟩, ⟨by (with_reducible repeat (first | apply Kd.V_alloc | apply Kd.V_drewN | apply Kd.V_drew)); exact HO_3.out⟩, ⟨by (with_reducible repeat (first | apply Kd.V_alloc | apply Kd.V_drewN | apply Kd.V_drew)); exact HO_4.out⟩, ⟨bel⟩⟩
      rw [if_pos c14] at H
      have c14b0 : decide (x45_2 < (l4.length : Int)) = true := decide_eq_true c14
      clear c14
      (first | rw [c14b0] | (simp only [i64_w, i32_w]; rw [c14b0]) | skip)
      by_cases c15 : 0 ≤ x45_2
      rotate_left
      ·rw [if_neg c15] at H
       exact absurd H (by simp)
      rw [if_pos c15] at H
      have c15b0 : decide (0 ≤ x45_2) = true := decide_eq_true c15
      clear c15
      by_cases c16 : x45_2 < (l4.length : Int)
      rotate_left
      ·rw [if_neg c16] at H
       exact absurd H (by simp)
      rw [if_pos c16] at H
      have c16b0 : decide (x45_2 < (l4.length : Int)) = true := decide_eq_true c16
      clear c16
      by_cases c17 : ((rd_L1 l4 x45_2).length : Int) = 32
      ·rw [if_pos c17] at H
       have c17b0 : (((rd_L1 l4 x45_2).length : Int) == 32) = true := beq_iff_eq.mpr c17
       have c17b1 : (((rd_L1 l4 x45_2).length : Int) != 32) = false := bne_eq_false_iff_eq.mpr c17
       clear c17
       have H' := aM H
       clear H
       have p166 : 0 ≤ (x45_2 : Int) := of_decide_eq_true asm_
       have q166 : x45_2 < (l4.length : Int) := of_decide_eq_true asm_
       obtain ⟨ad166, A166_0, c166_0, e166, hx166_0, hl166_0, hi166_0⟩ := at_L1 (Kd.V_reads' HO_43.out).2.2 x45_2 p166 q166
       cases e166
       obtain ⟨ce166, hce166, hMe166, hcc166⟩ := Kd.V_get HO_43.out [] x45_2 p166 (by first | exact q166 | exact of_decide_eq_true asm_ | (have e_ := (Kd.V_reads' HO_43.out).1; omega))
       obtain ⟨ua166_0, uc166_0, rfl, ul166_0, ge166_0⟩ := Kd.FK_slice_open hMe166
       have hv166_0 := hcc166 0 _ rfl
       rw [Nat.add_zero, show ((Kd.slice 5 (Kd.int .u8))).sz = 1 from rfl, Nat.mul_one] at hv166_0
       replace hv166_0 := Option.some.inj (hv166_0.symm.trans hx166_0)
       injection hv166_0 with hva_ hvn_ hvc_
       rw [hva_] at ge166_0
       rw [hvc_] at ul166_0
       have HL166_0 := aM (show Kd.V (Kd.int .u8) 5 _ w.heap.size _ _ (rd_L1 l4 x45_2) from Kd.V_mk ul166_0 ge166_0)
       clear hva_ hvn_ hvc_ ge166_0 ul166_0
       clear hcc166 hce166
       have HR166_0 := aM hi166_0
       have HC166_0 := aM hl166_0
       clear hi166_0 hl166_0
       replace p166 := eq_true p166
       replace q166 := eq_true q166
       go_wp2_with go_step3
       go_roundg k2
       case measure => have := HJ5.out; have := HK2.out; omega
       case rel => exact ⟨(x11_2), (wrap64 (x45_2 + 1)), rfS, rfS, H', ⟨by have := HJ5.out; have := HK2.out; omega⟩, ⟨by (with_reducible repeat (first | apply Kd.V_alloc | apply Kd.V_drewN | apply Kd.V_drew)); exact HO_3.out⟩, ⟨by (with_reducible repeat (first | apply Kd.V_alloc | apply Kd.V_drewN | apply Kd.V_drew)); exact HO_4.out⟩, ⟨by (with_reducible repeat (first | apply Kd.V_alloc | apply Kd.V_drewN | apply Kd.V_drew)); exact HO_43.out⟩, ⟨bel⟩⟩
      rw [if_neg c17] at H
      have c17b0 : (((rd_L1 l4 x45_2).length : Int) == 32) = false := beq_eq_false_iff_ne.mpr c17
      have c17b1 : (((rd_L1 l4 x45_2).length : Int) != 32) = true := bne_iff_ne.mpr c17
      have H' := aM H
      clear H
      have p166 : 0 ≤ (x45_2 : Int) := of_decide_eq_true asm_
      have q166 : x45_2 < (l4.length : Int) := of_decide_eq_true asm_
      obtain ⟨ad166, A166_0, c166_0, e166, hx166_0, hl166_0, hi166_0⟩ := at_L1 (Kd.V_reads' HO_43.out).2.2 x45_2 p166 q166
      cases e166
      obtain ⟨ce166, hce166, hMe166, hcc166⟩ := Kd.V_get HO_43.out [] x45_2 p166 (by first | exact q166 | exact of_decide_eq_true asm_ | (have e_ := (Kd.V_reads' HO_43.out).1; omega))
      obtain ⟨ua166_0, uc166_0, rfl, ul166_0, ge166_0⟩ := Kd.FK_slice_open hMe166
      have hv166_0 := hcc166 0 _ rfl
      rw [Nat.add_zero, show ((Kd.slice 5 (Kd.int .u8))).sz = 1 from rfl, Nat.mul_one] at hv166_0
      replace hv166_0 := Option.some.inj (hv166_0.symm.trans hx166_0)
      injection hv166_0 with hva_ hvn_ hvc_
      rw [hva_] at ge166_0
      rw [hvc_] at ul166_0
      have HL166_0 := aM (show Kd.V (Kd.int .u8) 5 _ w.heap.size _ _ (rd_L1 l4 x45_2) from Kd.V_mk ul166_0 ge166_0)
      clear hva_ hvn_ hvc_ ge166_0 ul166_0
      clear hcc166 hce166
      have HR166_0 := aM hi166_0
      have HC166_0 := aM hl166_0
      clear hi166_0 hl166_0
      replace p166 := eq_true p166
      replace q166 := eq_true q166
      go_wp2_with go_step3
      go_meet
      case rel => exact ⟨_, (true), rfS, H', ⟨by have := HJ5.out; have := HK2.out; first | omega | exact Nat.le_refl _⟩, ⟨by (with_reducible repeat (first | apply Kd.V_alloc | apply Kd.V_drewN | apply Kd.V_drew)); exact HO_3.out⟩, ⟨by (with_reducible repeat (first | apply Kd.V_alloc | apply Kd.V_drewN | apply Kd.V_drew)); exact HO_4.out⟩, ⟨bel⟩⟩
   case rest =>
    clear HC13
    try clear c3
    try clear c4
    try clear c12
    obtain ⟨kq, x11_12, rfl, HA, HJ12, HO_3, HO_4, HB⟩ := hcut
    cases kq with
    | zero => exact absurd HA.out (by simp [merkle_Check.j2])
    | succ kj12 =>
     have H := HA.out
     clear HA
     simp only [merkle_Check.j2] at H
     by_cases c18 : x11_12 = true
     ·subst c18
      have H1 : (some 1) = some r := by rw [if_pos rfl] at H; exact H
      clear H
      have H := H1
      clear H1
      obtain rfl := Option.some.inj H
      go_wp2_with go_step3
      go_ret
      exact ⟨erR, bel⟩
     replace c18 := Bool.eq_false_iff.mpr c18
     subst c18
     have H1 : ((merkle_path.f kj12 a1 a2).bind fun t167 => (if (l4.length : Int) = (t167.length : Int) then (merkle_Check.l1 kj12 l0 a1 t167 l3 l4 (l4.length : Int) 0) else (some 50))) = some r := by rw [if_neg (show ¬ (false = true) by decide)] at H; exact H
     clear H
     have H := H1
     clear H1
     replace H := Option.bind_eq_some_iff.mp H
     obtain ⟨t167, A190, H⟩ := H
     replace H : (if (l4.length : Int) = (t167.length : Int) then (merkle_Check.l1 kj12 l0 a1 t167 l3 l4 (l4.length : Int) 0) else (some 50)) = some r := H
     have A19 := aM A190
     clear A190
     by_cases c20 : (l4.length : Int) = (t167.length : Int)
     rotate_left
     ·rw [if_neg c20] at H
      have c20b0 : ((l4.length : Int) == (t167.length : Int)) = false := beq_eq_false_iff_ne.mpr c20
      have c20b1 : ((l4.length : Int) != (t167.length : Int)) = true := bne_iff_ne.mpr c20
      have c20b2 : (l4.length == t167.length) = false := by first | simpa using c20 | (simp at c20 ⊢; omega)
      obtain rfl := Option.some.inj H
      go_wp2_with (first | go_step3 | ((with_reducible refine gate_callee (f := 92) rfl ?_); refine goesL_ (some 56) rfl rfl Tryd.func92 (by kernel_rfl) rfl #[.int .i64 a1, .int .i64 a2] rfl eqA ?_; (with_reducible refine (merkle_path.calls kj12 a1 a2 t167 _ A19.out).mono ?_); rintro e w63 ⟨v168, rfl, ho0, hb⟩; refine ⟨_, rfl, ?_⟩; replace HO_3 := aM (Kd.V_elder' (vL HO_3.out) (Kd.R_base ho0) hb); replace HO_4 := aM (Kd.V_elder' (vL HO_4.out) (Kd.R_base ho0) hb); have HO169 := aM (Kd.R_lower (Kd.R_newM (M := fun k_ => (w.heap.size ≤ k_)) ho0 (below_size bel) (fun k_ h_ => h_)) (below_size bel)); replace HB := aM (below_step bel hb); clear hb ho0; obtain ⟨Ao64, co64, eo64⟩ := Kd.R_slice HO169.out; subst eo64))
      go_ret
      exact ⟨erR, bel⟩

     rw [if_pos c20] at H
     have c20b0 : ((l4.length : Int) == (t167.length : Int)) = true := beq_iff_eq.mpr c20
     have c20b1 : ((l4.length : Int) != (t167.length : Int)) = false := bne_eq_false_iff_eq.mpr c20
     have c20b2 : (l4.length == t167.length) = true := by first | simpa using c20 | (simp at c20 ⊢; omega)
     clear c20
     have H' := aM H
     clear H
     go_wp2_with (first | go_step3 | ((with_reducible refine gate_callee (f := 92) rfl ?_); refine goesL_ (some 56) rfl rfl Tryd.func92 (by kernel_rfl) rfl #[.int .i64 a1, .int .i64 a2] rfl eqA ?_; (with_reducible refine (merkle_path.calls kj12 a1 a2 t167 _ A19.out).mono ?_); rintro e w21 ⟨v168, rfl, ho0, hb⟩; refine ⟨_, rfl, ?_⟩; replace HO_3 := aM (Kd.V_elder' (vL HO_3.out) (Kd.R_base ho0) hb); replace HO_4 := aM (Kd.V_elder' (vL HO_4.out) (Kd.R_base ho0) hb); have HO169 := aM (Kd.R_lower (Kd.R_newM (M := fun k_ => (w.heap.size ≤ k_)) ho0 (below_size bel) (fun k_ h_ => h_)) (below_size bel)); replace HB := aM (below_step bel hb); clear hb ho0; obtain ⟨Ao22, co22, eo22⟩ := Kd.R_slice HO169.out; subst eo22))
     go_loopg [15, 65] kj12 (fun kq v15 v65 w' => ∃ (x15_3 : List Int) (x65_3 : Int), v65 = .int .i64 x65_3 ∧ Aside0 (merkle_Check.l1 kq l0 a1 t167 x15_3 l4 (l4.length : Int) x65_3 = some r) ∧ Aside0 (kq ≤ kj12) ∧ Aside0 (Kd.R Kd.bool 4 w' w.heap.size (fun k_ => (w.heap.size ≤ k_)) (.slice Ao22 t167.length co22) t167) ∧ Aside0 (Kd.V (Kd.int .u8) 5 w' w.heap.size (fun k_ => ((P3_ k_ ∨ P4_ k_) ∨ w.heap.size ≤ k_) ∧ some k_ ≠ ((.slice Ao22 t167.length co22) : Value).ownBlock) v15 x15_3) ∧ Aside0 (Kd.V (Kd.slice 5 (Kd.int .u8)) 30 w' w.heap.size (fun k_ => ((P3_ k_ ∨ P4_ k_) ∨ w.heap.size ≤ k_) ∧ some k_ ≠ ((.slice Ao22 t167.length co22) : Value).ownBlock) (.slice A4 l4.length c4) l4) ∧ Aside0 (Below w.heap.size w w'))
     case atStart => exact ⟨(l3), (0), rfS, H', ⟨Nat.le_refl _⟩, ⟨by (with_reducible repeat (first | apply Kd.R_alloc | apply Kd.R_drewN | apply Kd.R_drew)); exact Kd.R_mono HO169.out (fun _ hk => hk.1)⟩, ⟨by (with_reducible repeat (first | apply Kd.V_alloc | apply Kd.V_drewN | apply Kd.V_drew)); exact HO_3.out⟩, ⟨by (with_reducible repeat (first | apply Kd.V_alloc | apply Kd.V_drewN | apply Kd.V_drew)); exact HO_4.out⟩, ⟨bel⟩⟩
     case round =>
      clear H'
      try clear c3
      try clear c4
      try clear c12
      try clear c18
      try clear c20
      try clear c20b0
      try clear c20b1
      try clear c20b2
      obtain ⟨x15_3, x65_3, rfl, HA, HK3, HO_14, HO_15, HO_63, HB⟩ := hrel
      cases gk with
      | zero => exact absurd HA.out (by simp [merkle_Check.l1])
      | succ k3 =>
       have H := HA.out
       clear HA
       simp only [merkle_Check.l1] at H
       by_cases c23 : x65_3 < (l4.length : Int)
       rotate_left
       ·rw [if_neg c23] at H
        have c23b0 : decide (x65_3 < (l4.length : Int)) = false := decide_eq_false c23
        clear c23
        replace H := Option.bind_eq_some_iff.mp H
        obtain ⟨t184, A430, H⟩ := H
        replace H : ((merkle_digest.f 2 (([t184, x15_3] : List (List Int)))).bind fun t190 => ((bytes_Equal.f t190 l0).bind fun t193 => (if t193 = true then (some 0) else (some 50)))) = some r := H
        have A43 := aM A430
        clear A430
        obtain ⟨y187, hy187⟩ : ∃ y_ : List (List Int), y_ = (([t184, x15_3] : List (List Int))) := ⟨_, rfl⟩
        replace H : ((merkle_digest.f 2 y187).bind fun t190 => ((bytes_Equal.f t190 l0).bind fun t193 => (if t193 = true then (some 0) else (some 50)))) = some r := hyA hy187 H
        have Ny187 := aM hy187
        clear hy187
        replace H := Option.bind_eq_some_iff.mp H
        obtain ⟨t190, A440, H⟩ := H
        replace H : ((bytes_Equal.f t190 l0).bind fun t193 => (if t193 = true then (some 0) else (some 50))) = some r := H
        have A44 := aM A440
        clear A440
        replace H := Option.bind_eq_some_iff.mp H
        obtain ⟨t193, A450, H⟩ := H
        replace H : (if t193 = true then (some 0) else (some 50)) = some r := H
        have A45 := aM A450
        clear A450
        by_cases c46 : t193 = true
        ·subst c46
         have H1 : (some 0) = some r := by rw [if_pos rfl] at H; exact H
         clear H
         have H := H1
         clear H1
         obtain rfl := Option.some.inj H
         go_wp2_with (first | go_step3 | ((with_reducible refine gate_callee (f := 78) rfl ?_); refine goesL_ (some 88) rfl rfl Tryd.func78 (by kernel_rfl) rfl #[.int .i64 a1] rfl eqA ?_; (with_reducible refine (merkle_eight.calls k3 a1 t184 _ A43.out).mono ?_); rintro e w47 ⟨v185, rfl, ho0, hb⟩; refine ⟨_, rfl, ?_⟩; replace HO_14 := aM (Kd.R_below (rL HO_14.out) hb); replace HO_15 := aM (Kd.V_elder' (vL HO_15.out) (Kd.R_base ho0) hb); replace HO_63 := aM (Kd.V_elder' (vL HO_63.out) (Kd.R_base ho0) hb); have HO186 := aM (Kd.R_lower (Kd.R_newM (M := fun k_ => (w.heap.size ≤ k_)) ho0 (below_size bel) (fun k_ h_ => h_)) (below_size bel)); replace HB := aM (below_step bel hb); clear hb ho0; obtain ⟨Ao48, co48, eo48⟩ := Kd.R_slice HO186.out; subst eo48; obtain ⟨Ao49, co49, eo49⟩ := Kd.V_slice HO_15.out; subst eo49) | ((with_reducible refine gate_dst (N := 90) rfl ?_); (try (refine gate_guard (by rfl) ?_; dsimp only)); refine Kd.N_lit (Kd.slice 5 (Kd.int .u8)) _ 30 ?hg (N' := 90) ?hd (xs := ([t184, x15_3] : List (List Int))) (inner := [.slice Ao48 t184.length co48, .slice Ao49 x15_3.length co49]) (ok := (fun k_ => ((P3_ k_ ∨ P4_ k_) ∨ w.heap.size ≤ k_) ∧ some k_ ≠ (.slice Ao22 t167.length co22 : Value).ownBlock)) (okp := (fun k_ => ((P3_ k_ ∨ P4_ k_) ∨ w.heap.size ≤ k_) ∧ some k_ ≠ (.slice Ao22 t167.length co22 : Value).ownBlock)) ?hr ?hp (fun _ hk => hk) ((show ∀ k_, w47.heap.size ≤ k_ → (fun k_ => ((P3_ k_ ∨ P4_ k_) ∨ w.heap.size ≤ k_) ∧ some k_ ≠ (.slice Ao22 t167.length co22 : Value).ownBlock) k_ from fun k_ hk => ⟨(.inr (Nat.le_trans (below_size bel) hk)), Kd.fresh' (Kd.R_lt (rL HO_14.out)) k_ hk⟩) _ (Nat.le_refl _)) (Below.refl _ _) (Nat.le_refl _) (by simp) ?_; (case hd => rfl); (case hg => rfl); (case hr => first | (go_simp; done) | (go_simp; rfl)); (case hp => exact (Reps.one (show Kd.FK (Kd.slice 5 (Kd.int .u8)) _ _ t184 [.slice Ao48 t184.length co48] from (Kd.FK_slice_mk (Kd.R_reads' (Kd.R_mono (ok' := (fun k_ => ((P3_ k_ ∨ P4_ k_) ∨ w.heap.size ≤ k_) ∧ some k_ ≠ (.slice Ao22 t167.length co22 : Value).ownBlock)) (Kd.R_apart' (HO186.out) (Kd.R_typed HO_14.out) (by decide)) (fun k_ hk => ⟨(.inr (hk.1.1)), hk.2⟩))).2.1 (Kd.R_F (Kd.R_mono (ok' := (fun k_ => ((P3_ k_ ∨ P4_ k_) ∨ w.heap.size ≤ k_) ∧ some k_ ≠ (.slice Ao22 t167.length co22 : Value).ownBlock)) (Kd.R_apart' (HO186.out) (Kd.R_typed HO_14.out) (by decide)) (fun k_ hk => ⟨(.inr (hk.1.1)), hk.2⟩))))) (Reps.one (show Kd.FK (Kd.slice 5 (Kd.int .u8)) _ _ x15_3 [.slice Ao49 x15_3.length co49] from (Kd.FK_slice_mk (Kd.V_reads' (Kd.V_mono (ok' := (fun k_ => ((P3_ k_ ∨ P4_ k_) ∨ w.heap.size ≤ k_) ∧ some k_ ≠ (.slice Ao22 t167.length co22 : Value).ownBlock)) (HO_15.out) (fun k_ hk => ⟨hk.1.1, hk.1.2⟩))).2.1 (Kd.V_F (Kd.V_mono (ok' := (fun k_ => ((P3_ k_ ∨ P4_ k_) ∨ w.heap.size ≤ k_) ∧ some k_ ≠ (.slice Ao22 t167.length co22 : Value).ownBlock)) (HO_15.out) (fun k_ hk => ⟨hk.1.1, hk.1.2⟩))))) (Reps.none _ _)))); intro v188 w50 ho51 hb hg_ hnew_; clear hg_ hnew_; (first | rw [← Ny187.out] at ho51 | (simp only [Int.reduceToNat] at ho51; rw [← Ny187.out] at ho51)); replace HO_14 := aM (Kd.R_below (rL HO_14.out) hb); replace HO_15 := aM (Kd.V_elder' (vL HO_15.out) (Kd.N_base ho51) hb); replace HO_63 := aM (Kd.V_elder' (vL HO_63.out) (Kd.N_base ho51) hb); have HO189 := aM (Kd.N_lower ho51 (below_size bel)); replace HB := aM (below_step bel hb); clear HO186; clear hb ho51; obtain ⟨Ao52, co52, eo52⟩ := Kd.N_slice HO189.out; subst eo52) | ((with_reducible refine gate_callee (f := 77) rfl ?_); refine goesL_ (some 91) rfl rfl Tryd.func77 (by kernel_rfl) rfl #[.int .u8 2, .slice Ao52 y187.length co52] rfl eqA ?_; (with_reducible refine (merkle_digest.calls 2 _ _ y187 t190 _ (Glb.of HG bel) ?side1 ?side2 A44.out).mono ?_); (case side1 => exact cL (Kd.N_reads' HO189.out).2.2); (case side2 => exact (Kd.N_reads' HO189.out).2.1); rintro e w53 ⟨v191, rfl, ho0, hb⟩; refine ⟨_, rfl, ?_⟩; replace HO_14 := aM (Kd.R_below (rL HO_14.out) hb); replace HO_15 := aM (Kd.V_elder' (vL HO_15.out) (Kd.R_base ho0) hb); replace HO_63 := aM (Kd.V_elder' (vL HO_63.out) (Kd.R_base ho0) hb); replace HO189 := aM (Kd.N_elder' (nL HO189.out) (Kd.R_base ho0) hb); have HO192 := aM (Kd.R_lower (Kd.R_newM (M := fun k_ => (w.heap.size ≤ k_)) ho0 (below_size bel) (fun k_ h_ => h_)) (below_size bel)); replace HB := aM (below_step bel hb); clear hb ho0; obtain ⟨Ao54, co54, eo54⟩ := Kd.R_slice HO192.out; subst eo54) | ((with_reducible refine gate_callee (f := 66) rfl ?_); refine goesL_ (some 93) rfl rfl Tryd.func66 (by kernel_rfl) rfl #[.slice Ao54 t190.length co54, .slice A0 l0.length c0] rfl eqA ?_; (with_reducible refine (bytes_Equal.calls _ _ t190 _ _ l0 true _ ?side1 ?side2 ?side3 ?side4 A45.out).mono ?_); (case side1 => exact cL (Kd.R_reads' HO192.out).2.2); (case side2 => exact (Kd.R_reads' HO192.out).2.1); (case side3 => exact cL (Kd.C_below HR0.out HB.out)); (case side4 => exact HC0.out); rintro e w' ⟨rfl, ⟨nd, rfl⟩⟩; refine ⟨_, rfl, ?_⟩))
         go_ret
         exact ⟨erR, bel⟩
        replace c46 := Bool.eq_false_iff.mpr c46
        subst c46
        have H1 : (some 50) = some r := by rw [if_neg (show ¬ (false = true) by decide)] at H; exact H
        clear H
        have H := H1
        clear H1
        obtain rfl := Option.some.inj H
        go_wp2_with (first | go_step3 | ((with_reducible refine gate_callee (f := 78) rfl ?_); refine goesL_ (some 88) rfl rfl Tryd.func78 (by kernel_rfl) rfl #[.int .i64 a1] rfl eqA ?_; (with_reducible refine (merkle_eight.calls k3 a1 t184 _ A43.out).mono ?_); rintro e w55 ⟨v185, rfl, ho0, hb⟩; refine ⟨_, rfl, ?_⟩; replace HO_14 := aM (Kd.R_below (rL HO_14.out) hb); replace HO_15 := aM (Kd.V_elder' (vL HO_15.out) (Kd.R_base ho0) hb); replace HO_63 := aM (Kd.V_elder' (vL HO_63.out) (Kd.R_base ho0) hb); have HO186 := aM (Kd.R_lower (Kd.R_newM (M := fun k_ => (w.heap.size ≤ k_)) ho0 (below_size bel) (fun k_ h_ => h_)) (below_size bel)); replace HB := aM (below_step bel hb); clear hb ho0; obtain ⟨Ao56, co56, eo56⟩ := Kd.R_slice HO186.out; subst eo56; obtain ⟨Ao57, co57, eo57⟩ := Kd.V_slice HO_15.out; subst eo57) | ((with_reducible refine gate_dst (N := 90) rfl ?_); (try (refine gate_guard (by rfl) ?_; dsimp only)); refine Kd.N_lit (Kd.slice 5 (Kd.int .u8)) _ 30 ?hg (N' := 90) ?hd (xs := ([t184, x15_3] : List (List Int))) (inner := [.slice Ao56 t184.length co56, .slice Ao57 x15_3.length co57]) (ok := (fun k_ => ((P3_ k_ ∨ P4_ k_) ∨ w.heap.size ≤ k_) ∧ some k_ ≠ (.slice Ao22 t167.length co22 : Value).ownBlock)) (okp := (fun k_ => ((P3_ k_ ∨ P4_ k_) ∨ w.heap.size ≤ k_) ∧ some k_ ≠ (.slice Ao22 t167.length co22 : Value).ownBlock)) ?hr ?hp (fun _ hk => hk) ((show ∀ k_, w55.heap.size ≤ k_ → (fun k_ => ((P3_ k_ ∨ P4_ k_) ∨ w.heap.size ≤ k_) ∧ some k_ ≠ (.slice Ao22 t167.length co22 : Value).ownBlock) k_ from fun k_ hk => ⟨(.inr (Nat.le_trans (below_size bel) hk)), Kd.fresh' (Kd.R_lt (rL HO_14.out)) k_ hk⟩) _ (Nat.le_refl _)) (Below.refl _ _) (Nat.le_refl _) (by simp) ?_; (case hd => rfl); (case hg => rfl); (case hr => first | (go_simp; done) | (go_simp; rfl)); (case hp => exact (Reps.one (show Kd.FK (Kd.slice 5 (Kd.int .u8)) _ _ t184 [.slice Ao56 t184.length co56] from (Kd.FK_slice_mk (Kd.R_reads' (Kd.R_mono (ok' := (fun k_ => ((P3_ k_ ∨ P4_ k_) ∨ w.heap.size ≤ k_) ∧ some k_ ≠ (.slice Ao22 t167.length co22 : Value).ownBlock)) (Kd.R_apart' (HO186.out) (Kd.R_typed HO_14.out) (by decide)) (fun k_ hk => ⟨(.inr (hk.1.1)), hk.2⟩))).2.1 (Kd.R_F (Kd.R_mono (ok' := (fun k_ => ((P3_ k_ ∨ P4_ k_) ∨ w.heap.size ≤ k_) ∧ some k_ ≠ (.slice Ao22 t167.length co22 : Value).ownBlock)) (Kd.R_apart' (HO186.out) (Kd.R_typed HO_14.out) (by decide)) (fun k_ hk => ⟨(.inr (hk.1.1)), hk.2⟩))))) (Reps.one (show Kd.FK (Kd.slice 5 (Kd.int .u8)) _ _ x15_3 [.slice Ao57 x15_3.length co57] from (Kd.FK_slice_mk (Kd.V_reads' (Kd.V_mono (ok' := (fun k_ => ((P3_ k_ ∨ P4_ k_) ∨ w.heap.size ≤ k_) ∧ some k_ ≠ (.slice Ao22 t167.length co22 : Value).ownBlock)) (HO_15.out) (fun k_ hk => ⟨hk.1.1, hk.1.2⟩))).2.1 (Kd.V_F (Kd.V_mono (ok' := (fun k_ => ((P3_ k_ ∨ P4_ k_) ∨ w.heap.size ≤ k_) ∧ some k_ ≠ (.slice Ao22 t167.length co22 : Value).ownBlock)) (HO_15.out) (fun k_ hk => ⟨hk.1.1, hk.1.2⟩))))) (Reps.none _ _)))); intro v188 w58 ho59 hb hg_ hnew_; clear hg_ hnew_; (first | rw [← Ny187.out] at ho59 | (simp only [Int.reduceToNat] at ho59; rw [← Ny187.out] at ho59)); replace HO_14 := aM (Kd.R_below (rL HO_14.out) hb); replace HO_15 := aM (Kd.V_elder' (vL HO_15.out) (Kd.N_base ho59) hb); replace HO_63 := aM (Kd.V_elder' (vL HO_63.out) (Kd.N_base ho59) hb); have HO189 := aM (Kd.N_lower ho59 (below_size bel)); replace HB := aM (below_step bel hb); clear HO186; clear hb ho59; obtain ⟨Ao60, co60, eo60⟩ := Kd.N_slice HO189.out; subst eo60) | ((with_reducible refine gate_callee (f := 77) rfl ?_); refine goesL_ (some 91) rfl rfl Tryd.func77 (by kernel_rfl) rfl #[.int .u8 2, .slice Ao60 y187.length co60] rfl eqA ?_; (with_reducible refine (merkle_digest.calls 2 _ _ y187 t190 _ (Glb.of HG bel) ?side1 ?side2 A44.out).mono ?_); (case side1 => exact cL (Kd.N_reads' HO189.out).2.2); (case side2 => exact (Kd.N_reads' HO189.out).2.1); rintro e w61 ⟨v191, rfl, ho0, hb⟩; refine ⟨_, rfl, ?_⟩; replace HO_14 := aM (Kd.R_below (rL HO_14.out) hb); replace HO_15 := aM (Kd.V_elder' (vL HO_15.out) (Kd.R_base ho0) hb); replace HO_63 := aM (Kd.V_elder' (vL HO_63.out) (Kd.R_base ho0) hb); replace HO189 := aM (Kd.N_elder' (nL HO189.out) (Kd.R_base ho0) hb); have HO192 := aM (Kd.R_lower (Kd.R_newM (M := fun k_ => (w.heap.size ≤ k_)) ho0 (below_size bel) (fun k_ h_ => h_)) (below_size bel)); replace HB := aM (below_step bel hb); clear hb ho0; obtain ⟨Ao62, co62, eo62⟩ := Kd.R_slice HO192.out; subst eo62) | ((with_reducible refine gate_callee (f := 66) rfl ?_); refine goesL_ (some 93) rfl rfl Tryd.func66 (by kernel_rfl) rfl #[.slice Ao62 t190.length co62, .slice A0 l0.length c0] rfl eqA ?_; (with_reducible refine (bytes_Equal.calls _ _ t190 _ _ l0 false _ ?side1 ?side2 ?side3 ?side4 A45.out).mono ?_); (case side1 => exact cL (Kd.R_reads' HO192.out).2.2); (case side2 => exact (Kd.R_reads' HO192.out).2.1); (case side3 => exact cL (Kd.C_below HR0.out HB.out)); (case side4 => exact HC0.out); rintro e w' ⟨rfl, ⟨nd, rfl⟩⟩; refine ⟨_, rfl, ?_⟩))
        go_ret
        exact ⟨erR, bel⟩
       rw [if_pos c23] at H
       have c23b0 : decide (x65_3 < (l4.length : Int)) = true := decide_eq_true c23
       clear c23
       by_cases c24 : 0 ≤ x65_3
       rotate_left
       ·rw [if_neg c24] at H
        exact absurd H (by simp)
       rw [if_pos c24] at H
       have c24b0 : decide (0 ≤ x65_3) = true := decide_eq_true c24
       clear c24
       by_cases c25 : x65_3 < (l4.length : Int)
       rotate_left
       ·rw [if_neg c25] at H
        exact absurd H (by simp)
       rw [if_pos c25] at H
       have c25b0 : decide (x65_3 < (l4.length : Int)) = true := decide_eq_true c25
       clear c25
       obtain ⟨ji26, hji26⟩ : ∃ j_ : Int, (wrap64 ((wrap64 ((t167.length : Int) - 1)) - x65_3)) = j_ := ⟨_, rfl⟩
       replace H : (if 0 ≤ (ji26) then (if (ji26) < (t167.length : Int) then (if rdOf false t167 (ji26) = true then ((merkle_digest.f 1 (([rd_L1 l4 x65_3, x15_3] : List (List Int)))).bind fun t175 => (merkle_Check.l1 k3 l0 a1 t167 t175 l4 (l4.length : Int) (wrap64 (x65_3 + 1)))) else ((merkle_digest.f 1 (([x15_3, rd_L1 l4 x65_3] : List (List Int)))).bind fun t181 => (merkle_Check.l1 k3 l0 a1 t167 t181 l4 (l4.length : Int) (wrap64 (x65_3 + 1))))) else (none)) else (none)) = some r := by first | (rw [hji26] at H; exact H) | (simp only [hji26] at H ⊢; exact H)
       have hji26w : (IntKind.i64.wrap ((wrap64 ((t167.length : Int) - 1)) - x65_3)) = ji26 := (i64_w _).trans hji26
       by_cases c27 : 0 ≤ (ji26)
       rotate_left
       ·rw [if_neg c27] at H
        exact absurd H (by simp)
       rw [if_pos c27] at H
       have c27b0 : decide (0 ≤ (ji26)) = true := decide_eq_true c27
       clear c27
       by_cases c28 : (ji26) < (t167.length : Int)
       rotate_left
       ·rw [if_neg c28] at H
        exact absurd H (by simp)
       rw [if_pos c28] at H
       have c28b0 : decide ((ji26) < (t167.length : Int)) = true := decide_eq_true c28
       clear c28
       obtain ⟨bq29, hbq29⟩ : ∃ b_ : Bool, b_ = (rdOf false t167 (ji26)) := ⟨_, rfl⟩
       replace H : (if bq29 = true then ((merkle_digest.f 1 (([rd_L1 l4 x65_3, x15_3] : List (List Int)))).bind fun t175 => (merkle_Check.l1 k3 l0 a1 t167 t175 l4 (l4.length : Int) (wrap64 (x65_3 + 1)))) else ((merkle_digest.f 1 (([x15_3, rd_L1 l4 x65_3] : List (List Int)))).bind fun t181 => (merkle_Check.l1 k3 l0 a1 t167 t181 l4 (l4.length : Int) (wrap64 (x65_3 + 1))))) = some r := by rw [← hbq29] at H; exact H
       have Nbq29 := aM hbq29
       clear hbq29
       by_cases c30 : bq29 = true
       ·subst c30
        have H1 : ((merkle_digest.f 1 (([rd_L1 l4 x65_3, x15_3] : List (List Int)))).bind fun t175 => (merkle_Check.l1 k3 l0 a1 t167 t175 l4 (l4.length : Int) (wrap64 (x65_3 + 1)))) = some r := by rw [if_pos rfl] at H; exact H
        clear H
        have H := H1
        clear H1
        obtain ⟨y172, hy172⟩ : ∃ y_ : List (List Int), y_ = (([rd_L1 l4 x65_3, x15_3] : List (List Int))) := ⟨_, rfl⟩
        replace H : ((merkle_digest.f 1 y172).bind fun t175 => (merkle_Check.l1 k3 l0 a1 t167 t175 l4 (l4.length : Int) (wrap64 (x65_3 + 1)))) = some r := hyA hy172 H
        have Ny172 := aM hy172
        clear hy172
        replace H := Option.bind_eq_some_iff.mp H
        obtain ⟨t175, A310, H⟩ := H
        replace H : (merkle_Check.l1 k3 l0 a1 t167 t175 l4 (l4.length : Int) (wrap64 (x65_3 + 1))) = some r := H
        have A31 := aM A310
        clear A310
        have H' := aM H
        clear H
        have p170 : 0 ≤ (x65_3 : Int) := of_decide_eq_true asm_
        have q170 : x65_3 < (l4.length : Int) := of_decide_eq_true asm_
        obtain ⟨ad170, A170_0, c170_0, e170, hx170_0, hl170_0, hi170_0⟩ := at_L1 (Kd.V_reads' HO_63.out).2.2 x65_3 p170 q170
        cases e170
        obtain ⟨ce170, hce170, hMe170, hcc170⟩ := Kd.V_get HO_63.out [] x65_3 p170 (by first | exact q170 | exact of_decide_eq_true asm_ | (have e_ := (Kd.V_reads' HO_63.out).1; omega))
        obtain ⟨ua170_0, uc170_0, rfl, ul170_0, ge170_0⟩ := Kd.FK_slice_open hMe170
        have hv170_0 := hcc170 0 _ rfl
        rw [Nat.add_zero, show ((Kd.slice 5 (Kd.int .u8))).sz = 1 from rfl, Nat.mul_one] at hv170_0
        replace hv170_0 := Option.some.inj (hv170_0.symm.trans hx170_0)
        injection hv170_0 with hva_ hvn_ hvc_
        rw [hva_] at ge170_0
        rw [hvc_] at ul170_0
        have HL170_0 := aM (show Kd.V (Kd.int .u8) 5 _ w.heap.size _ _ (rd_L1 l4 x65_3) from Kd.V_mk ul170_0 ge170_0)
        clear hva_ hvn_ hvc_ ge170_0 ul170_0
        clear hcc170 hce170
        have HR170_0 := aM hi170_0
        have HC170_0 := aM hl170_0
        clear hi170_0 hl170_0
        replace p170 := eq_true p170
        replace q170 := eq_true q170
        have p171 : 0 ≤ ((ji26) : Int) := of_decide_eq_true asm_
        have q171 : (ji26) < (t167.length : Int) := of_decide_eq_true asm_
        obtain ⟨ad171, e171, hx171_0⟩ := Kd.at_bool (Kd.R_reads' HO_14.out).2.2 (ji26) p171 q171
        (try rw [← Nbq29.out] at hx171_0)
        cases e171
        replace p171 := eq_true p171
        replace q171 := eq_true q171
        obtain ⟨Ao32, co32, eo32⟩ := Kd.V_slice HO_15.out
        subst eo32
        go_wp2_with (first | go_step3 | ((with_reducible refine gate_dst (N := 80) rfl ?_); (try (refine gate_guard (by rfl) ?_; dsimp only)); refine Kd.N_lit (Kd.slice 5 (Kd.int .u8)) _ 30 ?hg (N' := 80) ?hd (xs := ([rd_L1 l4 x65_3, x15_3] : List (List Int))) (inner := [.slice A170_0 (rd_L1 l4 x65_3).length c170_0, .slice Ao32 x15_3.length co32]) (ok := (fun k_ => ((P3_ k_ ∨ P4_ k_) ∨ w.heap.size ≤ k_) ∧ some k_ ≠ (.slice (some ad171) t167.length co22 : Value).ownBlock)) (okp := (fun k_ => ((P3_ k_ ∨ P4_ k_) ∨ w.heap.size ≤ k_) ∧ some k_ ≠ (.slice (some ad171) t167.length co22 : Value).ownBlock)) ?hr ?hp (fun _ hk => hk) ((show ∀ k_, wr.heap.size ≤ k_ → (fun k_ => ((P3_ k_ ∨ P4_ k_) ∨ w.heap.size ≤ k_) ∧ some k_ ≠ (.slice (some ad171) t167.length co22 : Value).ownBlock) k_ from fun k_ hk => ⟨(.inr (Nat.le_trans (below_size bel) hk)), Kd.fresh' (Kd.R_lt (rL HO_14.out)) k_ hk⟩) _ (Nat.le_refl _)) (Below.refl _ _) (Nat.le_refl _) (by simp) ?_; (case hd => rfl); (case hg => rfl); (case hr => first | (go_simp; done) | (go_simp; rfl)); (case hp => exact (Reps.one (show Kd.FK (Kd.slice 5 (Kd.int .u8)) _ _ (rd_L1 l4 x65_3) [.slice A170_0 (rd_L1 l4 x65_3).length c170_0] from (Kd.FK_slice_mk (Kd.V_reads' (Kd.V_mono (ok' := (fun k_ => ((P3_ k_ ∨ P4_ k_) ∨ w.heap.size ≤ k_) ∧ some k_ ≠ (.slice (some ad171) t167.length co22 : Value).ownBlock)) (HL170_0.out) (fun k_ hk => ⟨hk.1, hk.2⟩))).2.1 (Kd.V_F (Kd.V_mono (ok' := (fun k_ => ((P3_ k_ ∨ P4_ k_) ∨ w.heap.size ≤ k_) ∧ some k_ ≠ (.slice (some ad171) t167.length co22 : Value).ownBlock)) (HL170_0.out) (fun k_ hk => ⟨hk.1, hk.2⟩))))) (Reps.one (show Kd.FK (Kd.slice 5 (Kd.int .u8)) _ _ x15_3 [.slice Ao32 x15_3.length co32] from (Kd.FK_slice_mk (Kd.V_reads' (Kd.V_mono (ok' := (fun k_ => ((P3_ k_ ∨ P4_ k_) ∨ w.heap.size ≤ k_) ∧ some k_ ≠ (.slice (some ad171) t167.length co22 : Value).ownBlock)) (HO_15.out) (fun k_ hk => ⟨hk.1, hk.2⟩))).2.1 (Kd.V_F (Kd.V_mono (ok' := (fun k_ => ((P3_ k_ ∨ P4_ k_) ∨ w.heap.size ≤ k_) ∧ some k_ ≠ (.slice (some ad171) t167.length co22 : Value).ownBlock)) (HO_15.out) (fun k_ hk => ⟨hk.1, hk.2⟩))))) (Reps.none _ _)))); intro v173 w33 ho34 hb hg_ hnew_; clear hg_ hnew_; (first | rw [← Ny172.out] at ho34 | (simp only [Int.reduceToNat] at ho34; rw [← Ny172.out] at ho34)); replace HO_14 := aM (Kd.R_below (rL HO_14.out) hb); replace HO_15 := aM (Kd.V_elder' (vL HO_15.out) (Kd.N_base ho34) hb); replace HO_63 := aM (Kd.V_elder' (vL HO_63.out) (Kd.N_base ho34) hb); replace HL170_0 := aM (Kd.V_elder' (vL HL170_0.out) (Kd.N_base ho34) hb); have HO174 := aM (Kd.N_lower ho34 (below_size bel)); replace HR170_0 := aM (Kd.C_below (by repeat (first | (with_reducible exact HR170_0.out) | (with_reducible refine Kd.C_alloc ?_ _) | (with_reducible refine Kd.C_drewN ?_ _) | (with_reducible refine Kd.C_drew ?_) | exact HR170_0.out)) hb); replace HB := aM (below_step bel hb); clear hb ho34; obtain ⟨Ao35, co35, eo35⟩ := Kd.N_slice HO174.out; subst eo35) | ((with_reducible refine gate_callee (f := 77) rfl ?_); refine goesL_ (some 81) rfl rfl Tryd.func77 (by kernel_rfl) rfl #[.int .u8 1, .slice Ao35 y172.length co35] rfl eqA ?_; (with_reducible refine (merkle_digest.calls 1 _ _ y172 t175 _ (Glb.of HG bel) ?side1 ?side2 A31.out).mono ?_); (case side1 => exact cL (Kd.N_reads' HO174.out).2.2); (case side2 => exact (Kd.N_reads' HO174.out).2.1); rintro e w36 ⟨v176, rfl, ho0, hb⟩; refine ⟨_, rfl, ?_⟩; replace HO_14 := aM (Kd.R_below (rL HO_14.out) hb); replace HO_15 := aM (Kd.V_elder' (vL HO_15.out) (Kd.R_base ho0) hb); replace HO_63 := aM (Kd.V_elder' (vL HO_63.out) (Kd.R_base ho0) hb); replace HL170_0 := aM (Kd.V_elder' (vL HL170_0.out) (Kd.R_base ho0) hb); replace HO174 := aM (Kd.N_elder' (nL HO174.out) (Kd.R_base ho0) hb); have HO177 := aM (Kd.R_lower (Kd.R_newM (M := fun k_ => (w.heap.size ≤ k_)) ho0 (below_size bel) (fun k_ h_ => h_)) (below_size bel)); replace HR170_0 := aM (Kd.C_below (by repeat (first | (with_reducible exact HR170_0.out) | (with_reducible refine Kd.C_alloc ?_ _) | (with_reducible refine Kd.C_drewN ?_ _) | (with_reducible refine Kd.C_drew ?_) | exact HR170_0.out)) hb); replace HB := aM (below_step bel hb)))
        go_roundg k3
        case measure => have := HJ5.out; have := HJ12.out; have := HK3.out; omega
        case rel => exact ⟨(t175), (wrap64 (x65_3 + 1)), rfS, H', ⟨by have := HJ5.out; have := HJ12.out; have := HK3.out; omega⟩, ⟨by (with_reducible repeat (first | apply Kd.R_alloc | apply Kd.R_drewN | apply Kd.R_drew)); exact HO_14.out⟩, ⟨Kd.V_mono (Kd.R_V (by (with_reducible repeat (first | apply Kd.R_alloc | apply Kd.R_drewN | apply Kd.R_drew)); exact Kd.R_apart' HO177.out (Kd.R_typed HO_14.out) (by decide))) (fun k_ hk => by first | exact ⟨.inr hk.1.1, hk.2⟩ | exact ⟨(.inr (hk.1)), hk.2⟩ | exact (.inr (hk)))⟩, ⟨by (with_reducible repeat (first | apply Kd.V_alloc | apply Kd.V_drewN | apply Kd.V_drew)); exact Kd.V_mono HO_63.out (fun _ hk => ⟨hk.1.1.1, hk.1.1.2⟩)⟩, ⟨bel⟩⟩
       replace c30 := Bool.eq_false_iff.mpr c30
       subst c30
       have H1 : ((merkle_digest.f 1 (([x15_3, rd_L1 l4 x65_3] : List (List Int)))).bind fun t181 => (merkle_Check.l1 k3 l0 a1 t167 t181 l4 (l4.length : Int) (wrap64 (x65_3 + 1)))) = some r := by rw [if_neg (show ¬ (false = true) by decide)] at H; exact H
       clear H
       have H := H1
       clear H1
       obtain ⟨y178, hy178⟩ : ∃ y_ : List (List Int), y_ = (([x15_3, rd_L1 l4 x65_3] : List (List Int))) := ⟨_, rfl⟩
       replace H : ((merkle_digest.f 1 y178).bind fun t181 => (merkle_Check.l1 k3 l0 a1 t167 t181 l4 (l4.length : Int) (wrap64 (x65_3 + 1)))) = some r := hyA hy178 H
       have Ny178 := aM hy178
       clear hy178
       replace H := Option.bind_eq_some_iff.mp H
       obtain ⟨t181, A370, H⟩ := H
       replace H : (merkle_Check.l1 k3 l0 a1 t167 t181 l4 (l4.length : Int) (wrap64 (x65_3 + 1))) = some r := H
       have A37 := aM A370
       clear A370
       have H' := aM H
       clear H
       have p170 : 0 ≤ (x65_3 : Int) := of_decide_eq_true asm_
       have q170 : x65_3 < (l4.length : Int) := of_decide_eq_true asm_
       obtain ⟨ad170, A170_0, c170_0, e170, hx170_0, hl170_0, hi170_0⟩ := at_L1 (Kd.V_reads' HO_63.out).2.2 x65_3 p170 q170
       cases e170
       obtain ⟨ce170, hce170, hMe170, hcc170⟩ := Kd.V_get HO_63.out [] x65_3 p170 (by first | exact q170 | exact of_decide_eq_true asm_ | (have e_ := (Kd.V_reads' HO_63.out).1; omega))
       obtain ⟨ua170_0, uc170_0, rfl, ul170_0, ge170_0⟩ := Kd.FK_slice_open hMe170
       have hv170_0 := hcc170 0 _ rfl
       rw [Nat.add_zero, show ((Kd.slice 5 (Kd.int .u8))).sz = 1 from rfl, Nat.mul_one] at hv170_0
       replace hv170_0 := Option.some.inj (hv170_0.symm.trans hx170_0)
       injection hv170_0 with hva_ hvn_ hvc_
       rw [hva_] at ge170_0
       rw [hvc_] at ul170_0
       have HL170_0 := aM (show Kd.V (Kd.int .u8) 5 _ w.heap.size _ _ (rd_L1 l4 x65_3) from Kd.V_mk ul170_0 ge170_0)
       clear hva_ hvn_ hvc_ ge170_0 ul170_0
       clear hcc170 hce170
       have HR170_0 := aM hi170_0
       have HC170_0 := aM hl170_0
       clear hi170_0 hl170_0
       replace p170 := eq_true p170
       replace q170 := eq_true q170
       have p171 : 0 ≤ ((ji26) : Int) := of_decide_eq_true asm_
       have q171 : (ji26) < (t167.length : Int) := of_decide_eq_true asm_
       obtain ⟨ad171, e171, hx171_0⟩ := Kd.at_bool (Kd.R_reads' HO_14.out).2.2 (ji26) p171 q171
       (try rw [← Nbq29.out] at hx171_0)
       cases e171
       replace p171 := eq_true p171
       replace q171 := eq_true q171
       obtain ⟨Ao38, co38, eo38⟩ := Kd.V_slice HO_15.out
       subst eo38
       go_wp2_with (first | go_step3 | ((with_reducible refine gate_dst (N := 84) rfl ?_); (try (refine gate_guard (by rfl) ?_; dsimp only)); refine Kd.N_lit (Kd.slice 5 (Kd.int .u8)) _ 30 ?hg (N' := 84) ?hd (xs := ([x15_3, rd_L1 l4 x65_3] : List (List Int))) (inner := [.slice Ao38 x15_3.length co38, .slice A170_0 (rd_L1 l4 x65_3).length c170_0]) (ok := (fun k_ => ((P3_ k_ ∨ P4_ k_) ∨ w.heap.size ≤ k_) ∧ some k_ ≠ (.slice (some ad171) t167.length co22 : Value).ownBlock)) (okp := (fun k_ => ((P3_ k_ ∨ P4_ k_) ∨ w.heap.size ≤ k_) ∧ some k_ ≠ (.slice (some ad171) t167.length co22 : Value).ownBlock)) ?hr ?hp (fun _ hk => hk) ((show ∀ k_, wr.heap.size ≤ k_ → (fun k_ => ((P3_ k_ ∨ P4_ k_) ∨ w.heap.size ≤ k_) ∧ some k_ ≠ (.slice (some ad171) t167.length co22 : Value).ownBlock) k_ from fun k_ hk => ⟨(.inr (Nat.le_trans (below_size bel) hk)), Kd.fresh' (Kd.R_lt (rL HO_14.out)) k_ hk⟩) _ (Nat.le_refl _)) (Below.refl _ _) (Nat.le_refl _) (by simp) ?_; (case hd => rfl); (case hg => rfl); (case hr => first | (go_simp; done) | (go_simp; rfl)); (case hp => exact (Reps.one (show Kd.FK (Kd.slice 5 (Kd.int .u8)) _ _ x15_3 [.slice Ao38 x15_3.length co38] from (Kd.FK_slice_mk (Kd.V_reads' (Kd.V_mono (ok' := (fun k_ => ((P3_ k_ ∨ P4_ k_) ∨ w.heap.size ≤ k_) ∧ some k_ ≠ (.slice (some ad171) t167.length co22 : Value).ownBlock)) (HO_15.out) (fun k_ hk => ⟨hk.1, hk.2⟩))).2.1 (Kd.V_F (Kd.V_mono (ok' := (fun k_ => ((P3_ k_ ∨ P4_ k_) ∨ w.heap.size ≤ k_) ∧ some k_ ≠ (.slice (some ad171) t167.length co22 : Value).ownBlock)) (HO_15.out) (fun k_ hk => ⟨hk.1, hk.2⟩))))) (Reps.one (show Kd.FK (Kd.slice 5 (Kd.int .u8)) _ _ (rd_L1 l4 x65_3) [.slice A170_0 (rd_L1 l4 x65_3).length c170_0] from (Kd.FK_slice_mk (Kd.V_reads' (Kd.V_mono (ok' := (fun k_ => ((P3_ k_ ∨ P4_ k_) ∨ w.heap.size ≤ k_) ∧ some k_ ≠ (.slice (some ad171) t167.length co22 : Value).ownBlock)) (HL170_0.out) (fun k_ hk => ⟨hk.1, hk.2⟩))).2.1 (Kd.V_F (Kd.V_mono (ok' := (fun k_ => ((P3_ k_ ∨ P4_ k_) ∨ w.heap.size ≤ k_) ∧ some k_ ≠ (.slice (some ad171) t167.length co22 : Value).ownBlock)) (HL170_0.out) (fun k_ hk => ⟨hk.1, hk.2⟩))))) (Reps.none _ _)))); intro v179 w39 ho40 hb hg_ hnew_; clear hg_ hnew_; (first | rw [← Ny178.out] at ho40 | (simp only [Int.reduceToNat] at ho40; rw [← Ny178.out] at ho40)); replace HO_14 := aM (Kd.R_below (rL HO_14.out) hb); replace HO_15 := aM (Kd.V_elder' (vL HO_15.out) (Kd.N_base ho40) hb); replace HO_63 := aM (Kd.V_elder' (vL HO_63.out) (Kd.N_base ho40) hb); replace HL170_0 := aM (Kd.V_elder' (vL HL170_0.out) (Kd.N_base ho40) hb); have HO180 := aM (Kd.N_lower ho40 (below_size bel)); replace HR170_0 := aM (Kd.C_below (by repeat (first | (with_reducible exact HR170_0.out) | (with_reducible refine Kd.C_alloc ?_ _) | (with_reducible refine Kd.C_drewN ?_ _) | (with_reducible refine Kd.C_drew ?_) | exact HR170_0.out)) hb); replace HB := aM (below_step bel hb); clear hb ho40; obtain ⟨Ao41, co41, eo41⟩ := Kd.N_slice HO180.out; subst eo41) | ((with_reducible refine gate_callee (f := 77) rfl ?_); refine goesL_ (some 85) rfl rfl Tryd.func77 (by kernel_rfl) rfl #[.int .u8 1, .slice Ao41 y178.length co41] rfl eqA ?_; (with_reducible refine (merkle_digest.calls 1 _ _ y178 t181 _ (Glb.of HG bel) ?side1 ?side2 A37.out).mono ?_); (case side1 => exact cL (Kd.N_reads' HO180.out).2.2); (case side2 => exact (Kd.N_reads' HO180.out).2.1); rintro e w42 ⟨v182, rfl, ho0, hb⟩; refine ⟨_, rfl, ?_⟩; replace HO_14 := aM (Kd.R_below (rL HO_14.out) hb); replace HO_15 := aM (Kd.V_elder' (vL HO_15.out) (Kd.R_base ho0) hb); replace HO_63 := aM (Kd.V_elder' (vL HO_63.out) (Kd.R_base ho0) hb); replace HL170_0 := aM (Kd.V_elder' (vL HL170_0.out) (Kd.R_base ho0) hb); replace HO180 := aM (Kd.N_elder' (nL HO180.out) (Kd.R_base ho0) hb); have HO183 := aM (Kd.R_lower (Kd.R_newM (M := fun k_ => (w.heap.size ≤ k_)) ho0 (below_size bel) (fun k_ h_ => h_)) (below_size bel)); replace HR170_0 := aM (Kd.C_below (by repeat (first | (with_reducible exact HR170_0.out) | (with_reducible refine Kd.C_alloc ?_ _) | (with_reducible refine Kd.C_drewN ?_ _) | (with_reducible refine Kd.C_drew ?_) | exact HR170_0.out)) hb); replace HB := aM (below_step bel hb)))
       go_roundg k3
       case measure => have := HJ5.out; have := HJ12.out; have := HK3.out; omega
       case rel => exact ⟨(t181), (wrap64 (x65_3 + 1)), rfS, H', ⟨by have := HJ5.out; have := HJ12.out; have := HK3.out; omega⟩, ⟨by (with_reducible repeat (first | apply Kd.R_alloc | apply Kd.R_drewN | apply Kd.R_drew)); exact HO_14.out⟩, ⟨Kd.V_mono (Kd.R_V (by (with_reducible repeat (first | apply Kd.R_alloc | apply Kd.R_drewN | apply Kd.R_drew)); exact Kd.R_apart' HO183.out (Kd.R_typed HO_14.out) (by decide))) (fun k_ hk => by first | exact ⟨.inr hk.1.1, hk.2⟩ | exact ⟨(.inr (hk.1)), hk.2⟩ | exact (.inr (hk)))⟩, ⟨by (with_reducible repeat (first | apply Kd.V_alloc | apply Kd.V_drewN | apply Kd.V_drew)); exact Kd.V_mono HO_63.out (fun _ hk => ⟨hk.1.1.1, hk.1.1.2⟩)⟩, ⟨bel⟩⟩
end Go.Proofs.YtbenedckmapjoaaDoor.PCut
