-- Written by a program of this session, after the print of the kit.
import Derived.Test.YtdpdmmbdoeefbaaDoorWC
import Derived.Test.YtdpdmmbdoeefbaaDoorPOnx0
namespace Go.Proofs.YtdpdmmbdoeefbaaDoor.POn
open Go.RowKit Go.Proofs.YtdpdmmbdoeefbaaDoor.X Go.Proofs.YtdpdmmbdoeefbaaDoor.PCut Go.Proofs.YtdpdmmbdoeefbaaDoor.PCa Go.Proofs.YtdpdmmbdoeefbaaDoor.PCs Go.Proofs.YtdpdmmbdoeefbaaDoor.PCo Go.Proofs.YtdpdmmbdoeefbaaDoor.PCr Go.Proofs.YtdpdmmbdoeefbaaDoor.PRa Go.Proofs.YtdpdmmbdoeefbaaDoor.PPw Go.Proofs.YtdpdmmbdoeefbaaDoor.PPv Go.Proofs.YtdpdmmbdoeefbaaDoor.PRb Go.Proofs.YtdpdmmbdoeefbaaDoor.PRc Go.Proofs.YtdpdmmbdoeefbaaDoor.PRd Go.Proofs.YtdpdmmbdoeefbaaDoor.PRe Go.Proofs.YtdpdmmbdoeefbaaDoor.PUp Go.Proofs.YtdpdmmbdoeefbaaDoor.PCl Go.Proofs.YtdpdmmbdoeefbaaDoorW.PrintWords Go.Proofs.YtdpdmmbdoeefbaaDoorW.PrintLast Go.Proofs.YtdpdmmbdoeefbaaDoorW.PrintMore
attribute [local go_sem] max2_int min2_int max_two min_two max_three min_three max_four min_four   -- for this text's walks alone
set_option linter.unusedVariables false
set_option linter.unusedSimpArgs false

/-! ### imprimaturlaw06_MerkleOnly: function 5 -/
mutual
def imprimaturlaw06_MerkleOnly.j0 : Nat → List (List Int) → Int → Int → List Int → List (List Int) → Bool → Option (Bool)
 | 0, _, _, _, _, _, _ => none
 | k + 1, x0, x1, x2, x3, x4, x31 => if x31 = true then ((imprimaturlaw06_known.f).bind fun t103 => (some t103)) else ((merkle_Root.f k x0).bind fun bt104 => (if bt104.2 = 0 then ((merkle_Check.f k bt104.1 x1 x2 x3 x4).bind fun t108 => (imprimaturlaw06_MerkleOnly.j1 k x0 x1 x2 x3 x4 (t108 != 0))) else (imprimaturlaw06_MerkleOnly.j1 k x0 x1 x2 x3 x4 true)))
def imprimaturlaw06_MerkleOnly.j1 : Nat → List (List Int) → Int → Int → List Int → List (List Int) → Bool → Option (Bool)
 | 0, _, _, _, _, _, _ => none
 | k + 1, x0, x1, x2, x3, x4, x48 => if x48 = true then ((imprimaturlaw06_known.f).bind fun t109 => (some t109)) else (if x1 = (x0.length : Int) then (imprimaturlaw06_MerkleOnly.j2 k x0 x1 x2 x3 x4 (decide (x2 < (x0.length : Int)))) else (imprimaturlaw06_MerkleOnly.j2 k x0 x1 x2 x3 x4 false))
def imprimaturlaw06_MerkleOnly.j2 : Nat → List (List Int) → Int → Int → List Int → List (List Int) → Bool → Option (Bool)
 | 0, _, _, _, _, _, _ => none
 | k + 1, x0, x1, x2, x3, x4, x13 => if x13 = true then ((imprimaturref06_Prove.f k x0 x2).bind fun bt110 => (if 0 ≤ x2 then (if x2 < (x0.length : Int) then ((imprimaturref01_SameBytes.f x3 (rd_L1 x0 x2)).bind fun t115 => (if t115 = true then ((imprimaturref06_Same.f k x4 bt110.1).bind fun t116 => (imprimaturlaw06_MerkleOnly.j3 k x0 x1 x2 x3 x4 t116)) else (imprimaturlaw06_MerkleOnly.j3 k x0 x1 x2 x3 x4 false))) else (none)) else (none))) else (imprimaturlaw06_MerkleOnly.j3 k x0 x1 x2 x3 x4 x13)
def imprimaturlaw06_MerkleOnly.j3 : Nat → List (List Int) → Int → Int → List Int → List (List Int) → Bool → Option (Bool)
 | 0, _, _, _, _, _, _ => none
 | k + 1, x0, x1, x2, x3, x4, x13 => (imprimaturref06_Way.f k x1 x2 x3 x4).bind fun bt117 => ((imprimaturref06_Texts.f k x0).bind fun t121 => (if t121.length + bt117.1.length < 5864062014805 then ((some (t121 ++ bt117.1 : List (List Int))).bind fun y124 => ((imprimaturref06_Fixed.f k).bind fun t127 => (if y124.length + t127.length < 5864062014805 then ((imprimaturlaw06_known.f).bind fun t133 => (if t133 = true then (if x13 = true then (some true) else ((imprimaturref06_Clash.f k (y124 ++ t127)).bind fun t134 => (some t134))) else (some false))) else (none)))) else (none)))
end
def imprimaturlaw06_MerkleOnly.f (k : Nat) (l0 : List (List Int)) (a1 : Int) (a2 : Int) (l3 : List Int) (l4 : List (List Int)) : Option (Bool) := (imprimaturref06_Size.f k l0 700).bind fun t101 => (if t101 > 700 then (imprimaturlaw06_MerkleOnly.j0 k l0 a1 a2 l3 l4 true) else ((imprimaturref06_Size.f k l4 700).bind fun t102 => (if t102 > 700 then (imprimaturlaw06_MerkleOnly.j0 k l0 a1 a2 l3 l4 true) else (imprimaturlaw06_MerkleOnly.j0 k l0 a1 a2 l3 l4 ((l3.length : Int) != 32)))))
theorem imprimaturlaw06_MerkleOnly.mono_l : ∀ k, (∀ y0 y1 y2 y3 y4 y5, LeO (imprimaturlaw06_MerkleOnly.j0 k y0 y1 y2 y3 y4 y5) (imprimaturlaw06_MerkleOnly.j0 (k + 1) y0 y1 y2 y3 y4 y5)) ∧ (∀ y0 y1 y2 y3 y4 y5, LeO (imprimaturlaw06_MerkleOnly.j1 k y0 y1 y2 y3 y4 y5) (imprimaturlaw06_MerkleOnly.j1 (k + 1) y0 y1 y2 y3 y4 y5)) ∧ (∀ y0 y1 y2 y3 y4 y5, LeO (imprimaturlaw06_MerkleOnly.j2 k y0 y1 y2 y3 y4 y5) (imprimaturlaw06_MerkleOnly.j2 (k + 1) y0 y1 y2 y3 y4 y5)) ∧ (∀ y0 y1 y2 y3 y4 y5, LeO (imprimaturlaw06_MerkleOnly.j3 k y0 y1 y2 y3 y4 y5) (imprimaturlaw06_MerkleOnly.j3 (k + 1) y0 y1 y2 y3 y4 y5))
 | 0 => ⟨fun _ _ _ _ _ _ r h => by simp [imprimaturlaw06_MerkleOnly.j0] at h, fun _ _ _ _ _ _ r h => by simp [imprimaturlaw06_MerkleOnly.j1] at h, fun _ _ _ _ _ _ r h => by simp [imprimaturlaw06_MerkleOnly.j2] at h, fun _ _ _ _ _ _ r h => by simp [imprimaturlaw06_MerkleOnly.j3] at h⟩
 | k + 1 => by
  obtain ⟨ih0, ih1, ih2, ih3⟩ := imprimaturlaw06_MerkleOnly.mono_l k
  refine ⟨?_, ?_, ?_, ?_⟩
  ·intro y0 y1 y2 y3 y4 y5
   unfold imprimaturlaw06_MerkleOnly.j0
   repeat' first
   | (with_reducible exact ih0 _ _ _ _ _ _)
   | (with_reducible exact ih1 _ _ _ _ _ _)
   | (with_reducible exact ih2 _ _ _ _ _ _)
   | (with_reducible exact ih3 _ _ _ _ _ _)
   | (with_reducible exact imprimaturref06_Clash.mono _ _)
   | (with_reducible exact imprimaturref06_Fixed.mono _)
   | (with_reducible exact imprimaturref06_Prove.mono _ _ _)
   | (with_reducible exact imprimaturref06_Same.mono _ _ _)
   | (with_reducible exact imprimaturref06_Size.mono _ _ _)
   | (with_reducible exact imprimaturref06_Texts.mono _ _)
   | (with_reducible exact imprimaturref06_Way.mono _ _ _ _ _)
   | (with_reducible exact merkle_Check.mono _ _ _ _ _ _)
   | (with_reducible exact merkle_Root.mono _ _)
   | (with_reducible exact LeO.refl _)
   | (with_reducible exact LeO.none _)
   | (with_reducible refine LeO.ite ?_ ?_)
   | (with_reducible refine LeO.bind ?_ (fun _ => ?_))
   | exact ih0 _ _ _ _ _ _
   | exact ih1 _ _ _ _ _ _
   | exact ih2 _ _ _ _ _ _
   | exact ih3 _ _ _ _ _ _
   | exact imprimaturref06_Clash.mono _ _
   | exact imprimaturref06_Fixed.mono _
   | exact imprimaturref06_Prove.mono _ _ _
   | exact imprimaturref06_Same.mono _ _ _
   | exact imprimaturref06_Size.mono _ _ _
   | exact imprimaturref06_Texts.mono _ _
   | exact imprimaturref06_Way.mono _ _ _ _ _
   | exact merkle_Check.mono _ _ _ _ _ _
   | exact merkle_Root.mono _ _
   | exact LeO.none _
   | refine LeO.ite ?_ ?_
   | refine LeO.bind ?_ (fun _ => ?_)
  ·intro y0 y1 y2 y3 y4 y5
   unfold imprimaturlaw06_MerkleOnly.j1
   repeat' first
   | (with_reducible exact ih0 _ _ _ _ _ _)
   | (with_reducible exact ih1 _ _ _ _ _ _)
   | (with_reducible exact ih2 _ _ _ _ _ _)
   | (with_reducible exact ih3 _ _ _ _ _ _)
   | (with_reducible exact imprimaturref06_Clash.mono _ _)
   | (with_reducible exact imprimaturref06_Fixed.mono _)
   | (with_reducible exact imprimaturref06_Prove.mono _ _ _)
   | (with_reducible exact imprimaturref06_Same.mono _ _ _)
   | (with_reducible exact imprimaturref06_Size.mono _ _ _)
   | (with_reducible exact imprimaturref06_Texts.mono _ _)
   | (with_reducible exact imprimaturref06_Way.mono _ _ _ _ _)
   | (with_reducible exact merkle_Check.mono _ _ _ _ _ _)
   | (with_reducible exact merkle_Root.mono _ _)
   | (with_reducible exact LeO.refl _)
   | (with_reducible exact LeO.none _)
   | (with_reducible refine LeO.ite ?_ ?_)
   | (with_reducible refine LeO.bind ?_ (fun _ => ?_))
   | exact ih0 _ _ _ _ _ _
   | exact ih1 _ _ _ _ _ _
   | exact ih2 _ _ _ _ _ _
   | exact ih3 _ _ _ _ _ _
   | exact imprimaturref06_Clash.mono _ _
   | exact imprimaturref06_Fixed.mono _
   | exact imprimaturref06_Prove.mono _ _ _
   | exact imprimaturref06_Same.mono _ _ _
   | exact imprimaturref06_Size.mono _ _ _
   | exact imprimaturref06_Texts.mono _ _
   | exact imprimaturref06_Way.mono _ _ _ _ _
   | exact merkle_Check.mono _ _ _ _ _ _
   | exact merkle_Root.mono _ _
   | exact LeO.none _
   | refine LeO.ite ?_ ?_
   | refine LeO.bind ?_ (fun _ => ?_)
  ·intro y0 y1 y2 y3 y4 y5
   unfold imprimaturlaw06_MerkleOnly.j2
   repeat' first
   | (with_reducible exact ih0 _ _ _ _ _ _)
   | (with_reducible exact ih1 _ _ _ _ _ _)
   | (with_reducible exact ih2 _ _ _ _ _ _)
   | (with_reducible exact ih3 _ _ _ _ _ _)
   | (with_reducible exact imprimaturref06_Clash.mono _ _)
   | (with_reducible exact imprimaturref06_Fixed.mono _)
   | (with_reducible exact imprimaturref06_Prove.mono _ _ _)
   | (with_reducible exact imprimaturref06_Same.mono _ _ _)
   | (with_reducible exact imprimaturref06_Size.mono _ _ _)
   | (with_reducible exact imprimaturref06_Texts.mono _ _)
   | (with_reducible exact imprimaturref06_Way.mono _ _ _ _ _)
   | (with_reducible exact merkle_Check.mono _ _ _ _ _ _)
   | (with_reducible exact merkle_Root.mono _ _)
   | (with_reducible exact LeO.refl _)
   | (with_reducible exact LeO.none _)
   | (with_reducible refine LeO.ite ?_ ?_)
   | (with_reducible refine LeO.bind ?_ (fun _ => ?_))
   | exact ih0 _ _ _ _ _ _
   | exact ih1 _ _ _ _ _ _
   | exact ih2 _ _ _ _ _ _
   | exact ih3 _ _ _ _ _ _
   | exact imprimaturref06_Clash.mono _ _
   | exact imprimaturref06_Fixed.mono _
   | exact imprimaturref06_Prove.mono _ _ _
   | exact imprimaturref06_Same.mono _ _ _
   | exact imprimaturref06_Size.mono _ _ _
   | exact imprimaturref06_Texts.mono _ _
   | exact imprimaturref06_Way.mono _ _ _ _ _
   | exact merkle_Check.mono _ _ _ _ _ _
   | exact merkle_Root.mono _ _
   | exact LeO.none _
   | refine LeO.ite ?_ ?_
   | refine LeO.bind ?_ (fun _ => ?_)
  ·intro y0 y1 y2 y3 y4 y5
   unfold imprimaturlaw06_MerkleOnly.j3
   repeat' first
   | (with_reducible exact ih0 _ _ _ _ _ _)
   | (with_reducible exact ih1 _ _ _ _ _ _)
   | (with_reducible exact ih2 _ _ _ _ _ _)
   | (with_reducible exact ih3 _ _ _ _ _ _)
   | (with_reducible exact imprimaturref06_Clash.mono _ _)
   | (with_reducible exact imprimaturref06_Fixed.mono _)
   | (with_reducible exact imprimaturref06_Prove.mono _ _ _)
   | (with_reducible exact imprimaturref06_Same.mono _ _ _)
   | (with_reducible exact imprimaturref06_Size.mono _ _ _)
   | (with_reducible exact imprimaturref06_Texts.mono _ _)
   | (with_reducible exact imprimaturref06_Way.mono _ _ _ _ _)
   | (with_reducible exact merkle_Check.mono _ _ _ _ _ _)
   | (with_reducible exact merkle_Root.mono _ _)
   | (with_reducible exact LeO.refl _)
   | (with_reducible exact LeO.none _)
   | (with_reducible refine LeO.ite ?_ ?_)
   | (with_reducible refine LeO.bind ?_ (fun _ => ?_))
   | exact ih0 _ _ _ _ _ _
   | exact ih1 _ _ _ _ _ _
   | exact ih2 _ _ _ _ _ _
   | exact ih3 _ _ _ _ _ _
   | exact imprimaturref06_Clash.mono _ _
   | exact imprimaturref06_Fixed.mono _
   | exact imprimaturref06_Prove.mono _ _ _
   | exact imprimaturref06_Same.mono _ _ _
   | exact imprimaturref06_Size.mono _ _ _
   | exact imprimaturref06_Texts.mono _ _
   | exact imprimaturref06_Way.mono _ _ _ _ _
   | exact merkle_Check.mono _ _ _ _ _ _
   | exact merkle_Root.mono _ _
   | exact LeO.none _
   | refine LeO.ite ?_ ?_
   | refine LeO.bind ?_ (fun _ => ?_)
theorem imprimaturlaw06_MerkleOnly.mono : ∀ a0 a1 a2 a3 a4 k, LeO (imprimaturlaw06_MerkleOnly.f k a0 a1 a2 a3 a4) (imprimaturlaw06_MerkleOnly.f (k + 1) a0 a1 a2 a3 a4) := by
 intro a0 a1 a2 a3 a4 k
 obtain ⟨ih0, ih1, ih2, ih3⟩ := imprimaturlaw06_MerkleOnly.mono_l k
 unfold imprimaturlaw06_MerkleOnly.f
 repeat' first
   | (with_reducible exact ih0 _ _ _ _ _ _)
   | (with_reducible exact ih1 _ _ _ _ _ _)
   | (with_reducible exact ih2 _ _ _ _ _ _)
   | (with_reducible exact ih3 _ _ _ _ _ _)
   | (with_reducible exact imprimaturref06_Clash.mono _ _)
   | (with_reducible exact imprimaturref06_Fixed.mono _)
   | (with_reducible exact imprimaturref06_Prove.mono _ _ _)
   | (with_reducible exact imprimaturref06_Same.mono _ _ _)
   | (with_reducible exact imprimaturref06_Size.mono _ _ _)
   | (with_reducible exact imprimaturref06_Texts.mono _ _)
   | (with_reducible exact imprimaturref06_Way.mono _ _ _ _ _)
   | (with_reducible exact merkle_Check.mono _ _ _ _ _ _)
   | (with_reducible exact merkle_Root.mono _ _)
   | (with_reducible exact LeO.refl _)
   | (with_reducible exact LeO.none _)
   | (with_reducible refine LeO.ite ?_ ?_)
   | (with_reducible refine LeO.bind ?_ (fun _ => ?_))
   | exact ih0 _ _ _ _ _ _
   | exact ih1 _ _ _ _ _ _
   | exact ih2 _ _ _ _ _ _
   | exact ih3 _ _ _ _ _ _
   | exact imprimaturref06_Clash.mono _ _
   | exact imprimaturref06_Fixed.mono _
   | exact imprimaturref06_Prove.mono _ _ _
   | exact imprimaturref06_Same.mono _ _ _
   | exact imprimaturref06_Size.mono _ _ _
   | exact imprimaturref06_Texts.mono _ _
   | exact imprimaturref06_Way.mono _ _ _ _ _
   | exact merkle_Check.mono _ _ _ _ _ _
   | exact merkle_Root.mono _ _
   | exact LeO.none _
   | refine LeO.ite ?_ ?_
   | refine LeO.bind ?_ (fun _ => ?_)
set_option maxHeartbeats 8000000 in
set_option maxRecDepth 100000 in
theorem imprimaturlaw06_MerkleOnly.calls (k : Nat) (A0 : Option Addr) (c0 : Nat) (l0 : List (List Int)) (a1 : Int) (a2 : Int) (A3 : Option Addr) (c3 : Nat) (l3 : List Int) (A4 : Option Addr) (c4 : Nat) (l4 : List (List Int)) (r : Bool) (w : World) (HG : Glb w) (hr0 : Kd.C (Kd.slice 5 (Kd.int .u8)) w A0 l0.length l0) (hc0 : l0.length ≤ c0) (hr3 : Kd.C (Kd.int .u8) w A3 l3.length l3) (hc3 : l3.length ≤ c3) (hr4 : Kd.C (Kd.slice 5 (Kd.int .u8)) w A4 l4.length l4) (hc4 : l4.length ≤ c4) (h : imprimaturlaw06_MerkleOnly.f k l0 a1 a2 l3 l4 = some r) :
  Calls Tryd.prog 5 #[.slice A0 l0.length c0, .int .i64 a1, .int .i64 a2, .slice A3 l3.length c3, .slice A4 l4.length c4] w fun e w' => e = .returned (.bool r) ∧ Below w.heap.size w w' := by
 have HR0 := Aside0.mk hr0
 have HC0 := Aside0.mk hc0
 clear hr0 hc0
 have HR3 := Aside0.mk hr3
 have HC3 := Aside0.mk hc3
 clear hr3 hc3
 have HR4 := Aside0.mk hr4
 have HC4 := Aside0.mk hc4
 clear hr4 hc4
 have HB := Aside0.mk (Below.refl w.heap.size w)
 have H : ((imprimaturref06_Size.f k l0 700).bind fun t101 => (if t101 > 700 then (imprimaturlaw06_MerkleOnly.j0 k l0 a1 a2 l3 l4 true) else ((imprimaturref06_Size.f k l4 700).bind fun t102 => (if t102 > 700 then (imprimaturlaw06_MerkleOnly.j0 k l0 a1 a2 l3 l4 true) else (imprimaturlaw06_MerkleOnly.j0 k l0 a1 a2 l3 l4 ((l3.length : Int) != 32)))))) = some r := h
 clear h
 have HC6 := Aside0.mk H
 clear H
 go_enter Tryd.func5, Tryd.ntmps5
 go_upto_region 1 with (fail)
 go_cut [31] (fun v31 wc => ∃ (kq : Nat) (x31_5 : Bool), v31 = .bool x31_5 ∧ Aside0 (imprimaturlaw06_MerkleOnly.j0 kq l0 a1 a2 l3 l4 x31_5 = some r) ∧ Aside0 (kq ≤ k) ∧ Aside0 (Below w.heap.size w wc))
 case first =>
  have H := HC6.out
  clear HC6
  replace H := Option.bind_eq_some_iff.mp H
  obtain ⟨t101, A70, H⟩ := H
  replace H : (if t101 > 700 then (imprimaturlaw06_MerkleOnly.j0 k l0 a1 a2 l3 l4 true) else ((imprimaturref06_Size.f k l4 700).bind fun t102 => (if t102 > 700 then (imprimaturlaw06_MerkleOnly.j0 k l0 a1 a2 l3 l4 true) else (imprimaturlaw06_MerkleOnly.j0 k l0 a1 a2 l3 l4 ((l3.length : Int) != 32))))) = some r := H
  have A7 := Aside0.mk A70
  clear A70
  by_cases c8 : t101 > 700
  ·rw [if_pos c8] at H
   have c8b0 : decide (700 < t101) = true := decide_eq_true c8
   clear c8
   (first | rw [c8b0] | (simp only [i64_w, i32_w]; rw [c8b0]) | skip)
   have H' := Aside0.mk H
   clear H
   go_wp2_with (first | ((with_reducible refine gate_callee (f := 14) rfl ?_); refine goesL_ (some 20) rfl rfl Tryd.func14 (by kernel_rfl) rfl #[.slice A0 l0.length c0, .int .i64 700] rfl eqA ?_; (with_reducible refine (imprimaturref06_Size.calls k _ _ l0 700 t101 _ ?side1 ?side2 A7.out).mono ?_); (case side1 => exact cL (Kd.C_below HR0.out HB.out)); (case side2 => exact HC0.out); rintro e w' ⟨rfl, ⟨nd, rfl⟩⟩; refine ⟨_, rfl, ?_⟩))
   go_meet
   case rel => exact ⟨_, (true), (by first | rfl | (simp; done) | (simp [*]; done)), H', ⟨by first | omega | exact Nat.le_refl _⟩, ⟨by repeat (first | (with_reducible first | exact HB.out | apply below_alloc | apply pw_below_drewN | apply below_drew1) | exact HB.out)⟩⟩
  ·rw [if_neg c8] at H
   have c8b0 : decide (700 < t101) = false := decide_eq_false c8
   clear c8
   (first | rw [c8b0] | (simp only [i64_w, i32_w]; rw [c8b0]) | skip)
   replace H := Option.bind_eq_some_iff.mp H
   obtain ⟨t102, A90, H⟩ := H
   replace H : (if t102 > 700 then (imprimaturlaw06_MerkleOnly.j0 k l0 a1 a2 l3 l4 true) else (imprimaturlaw06_MerkleOnly.j0 k l0 a1 a2 l3 l4 ((l3.length : Int) != 32))) = some r := H
   have A9 := Aside0.mk A90
   clear A90
   by_cases c10 : t102 > 700
   ·rw [if_pos c10] at H
    have c10b0 : decide (700 < t102) = true := decide_eq_true c10
    clear c10
    have H' := Aside0.mk H
    clear H
    go_wp2_with (first | ((with_reducible refine gate_callee (f := 14) rfl ?_); refine goesL_ (some 20) rfl rfl Tryd.func14 (by kernel_rfl) rfl #[.slice A0 l0.length c0, .int .i64 700] rfl eqA ?_; (with_reducible refine (imprimaturref06_Size.calls k _ _ l0 700 t101 _ ?side1 ?side2 A7.out).mono ?_); (case side1 => exact cL (Kd.C_below HR0.out HB.out)); (case side2 => exact HC0.out); rintro e w' ⟨rfl, ⟨nd, rfl⟩⟩; refine ⟨_, rfl, ?_⟩) | (go_at_call 14; (with_reducible refine (imprimaturref06_Size.calls k _ _ l4 700 t102 _ ?side1 ?side2 A9.out).mono ?_); (case side1 => exact cL (Kd.C_below HR4.out bel)); (case side2 => exact HC4.out); rintro e w' ⟨rfl, ⟨nd, rfl⟩⟩))
    go_meet
    case rel => exact ⟨_, (true), (by first | rfl | (simp; done) | (simp [*]; done)), H', ⟨by first | omega | exact Nat.le_refl _⟩, ⟨by repeat (first | (with_reducible first | exact HB.out | apply below_alloc | apply pw_below_drewN | apply below_drew1) | exact HB.out)⟩⟩
   ·rw [if_neg c10] at H
    have c10b0 : decide (700 < t102) = false := decide_eq_false c10
    clear c10
    have H' := Aside0.mk H
    clear H
    go_wp2_with (first | ((with_reducible refine gate_callee (f := 14) rfl ?_); refine goesL_ (some 20) rfl rfl Tryd.func14 (by kernel_rfl) rfl #[.slice A0 l0.length c0, .int .i64 700] rfl eqA ?_; (with_reducible refine (imprimaturref06_Size.calls k _ _ l0 700 t101 _ ?side1 ?side2 A7.out).mono ?_); (case side1 => exact cL (Kd.C_below HR0.out HB.out)); (case side2 => exact HC0.out); rintro e w' ⟨rfl, ⟨nd, rfl⟩⟩; refine ⟨_, rfl, ?_⟩) | (go_at_call 14; (with_reducible refine (imprimaturref06_Size.calls k _ _ l4 700 t102 _ ?side1 ?side2 A9.out).mono ?_); (case side1 => exact cL (Kd.C_below HR4.out bel)); (case side2 => exact HC4.out); rintro e w' ⟨rfl, ⟨nd, rfl⟩⟩))
    go_meet
    case rel => exact ⟨_, (((l3.length : Int) != 32)), (by first | rfl | (simp; done) | (simp [*]; done)), H', ⟨by first | omega | exact Nat.le_refl _⟩, ⟨by repeat (first | (with_reducible first | exact HB.out | apply below_alloc | apply pw_below_drewN | apply below_drew1) | exact HB.out)⟩⟩
 case rest =>
  clear HC6
  try clear c1
  try clear p2
  try clear c3
  try clear c4
  try clear c5
  try clear c8
  try clear c8b0
  try clear c10
  try clear c10b0
  obtain ⟨kq, x31_5, rfl, HA, HJ5, HB⟩ := hcut
  cases kq with
  | zero => exact absurd HA.out (by simp [imprimaturlaw06_MerkleOnly.j0])
  | succ kj5 =>
   have H := HA.out
   clear HA
   simp only [imprimaturlaw06_MerkleOnly.j0] at H
   by_cases c11 : x31_5 = true
   ·subst c11
    have H1 : ((imprimaturlaw06_known.f).bind fun t103 => (some t103)) = some r := by rw [if_pos rfl] at H; exact H
    clear H
    have H := H1
    clear H1
    replace H := Option.bind_eq_some_iff.mp H
    obtain ⟨t103, A120, H⟩ := H
    replace H : (some t103) = some r := H
    have A12 := Aside0.mk A120
    clear A120
    obtain rfl := Option.some.inj H
    go_wp2_with (first | ((with_reducible refine gate_callee (f := 15) rfl ?_); refine goesL_ (some 32) rfl rfl Tryd.func15 (by kernel_rfl) rfl #[] rfl eqA ?_; (with_reducible refine (imprimaturlaw06_known.calls  t103 _ (Glb.of HG bel) A12.out).mono ?_); rintro e w13 ⟨rfl, hb⟩; refine ⟨_, rfl, ?_⟩; have n0_ := Aside0.mk (below_step bel hb); clear HB; have HB := n0_; clear n0_; (try clear hb); (try clear hb2); (try clear hk); (try clear hi)))
    go_ret
    exact ⟨by first | rfl | (simp [errW_none, errW_some] <;> rfl) | (simp [*, errW_none, errW_some] <;> rfl), by repeat (first | (with_reducible first | exact HB.out | apply below_alloc | apply pw_below_drewN | apply below_drew1) | exact HB.out)⟩
   ·replace c11 := Bool.eq_false_iff.mpr c11
    subst c11
    have H1 : ((merkle_Root.f kj5 l0).bind fun bt104 => (if bt104.2 = 0 then ((merkle_Check.f kj5 bt104.1 a1 a2 l3 l4).bind fun t108 => (imprimaturlaw06_MerkleOnly.j1 kj5 l0 a1 a2 l3 l4 (t108 != 0))) else (imprimaturlaw06_MerkleOnly.j1 kj5 l0 a1 a2 l3 l4 true))) = some r := by rw [if_neg (show ¬ (false = true) by decide)] at H; exact H
    clear H
    have H := H1
    clear H1
    replace H := Option.bind_eq_some_iff.mp H
    obtain ⟨⟨t104, t105⟩, A140, H⟩ := H
    replace H : (if t105 = 0 then ((merkle_Check.f kj5 t104 a1 a2 l3 l4).bind fun t108 => (imprimaturlaw06_MerkleOnly.j1 kj5 l0 a1 a2 l3 l4 (t108 != 0))) else (imprimaturlaw06_MerkleOnly.j1 kj5 l0 a1 a2 l3 l4 true)) = some r := H
    have A14 := Aside0.mk A140
    clear A140
    have HC15 := Aside0.mk H
    clear H
    go_upto_region 4 with (first | ((with_reducible refine gate_callee (f := 28) rfl ?_); refine goesL_ (some 35) rfl rfl Tryd.func28 (by kernel_rfl) rfl #[.slice A0 l0.length c0] rfl eqA ?_; (with_reducible refine (merkle_Root.calls kj5 _ _ l0 t104 t105 _ (Glb.of HG bel) ?side1 ?side2 A14.out).mono ?_); (case side1 => exact cL (Kd.C_below HR0.out HB.out)); (case side2 => exact HC0.out); rintro e w16 ⟨v106, rfl, ho0, hb⟩; refine ⟨_, rfl, ?_⟩; have n0_ := Aside0.mk (Kd.R_lower ho0 (below_size bel)); have n1_ := Aside0.mk (below_step bel hb); clear HB; have HO107 := n0_; have HB := n1_; clear n0_ n1_; (try clear hb); (try clear hb2); (try clear hk); (try clear hi); (try clear ho0)))
    (try simp only [Act.put, List.setIfInBounds_toArray, List.set_cons_zero, List.set_cons_succ])
    go_cut [48] (fun v48 wc => ∃ (kq : Nat) (x48_14 : Bool), v48 = .bool x48_14 ∧ Aside0 (imprimaturlaw06_MerkleOnly.j1 kq l0 a1 a2 l3 l4 x48_14 = some r) ∧ Aside0 (kq ≤ kj5) ∧ Aside0 (Below w.heap.size w wc))
    case first =>
     have H := HC15.out
     clear HC15
     by_cases c17 : t105 = 0
     ·rw [if_pos c17] at H
      have c17b0 : (t105 == 0) = true := beq_iff_eq.mpr c17
      have c17b1 : (t105 != 0) = false := bne_eq_false_iff_eq.mpr c17
      clear c17
      (first | rw [c17b0] | (simp only [i64_w, i32_w]; rw [c17b0]) | skip)
      replace H := Option.bind_eq_some_iff.mp H
      obtain ⟨t108, A180, H⟩ := H
      replace H : (imprimaturlaw06_MerkleOnly.j1 kj5 l0 a1 a2 l3 l4 (t108 != 0)) = some r := H
      have A18 := Aside0.mk A180
      clear A180
      have H' := Aside0.mk H
      clear H
      obtain ⟨Ao19, co19, eo19⟩ := Kd.R_slice HO107.out
      subst eo19
      go_wp2_with (first | (go_at_call 16; (with_reducible refine (merkle_Check.calls kj5 _ _ t104 a1 a2 (fun k_ => k_ < w.heap.size) _ _ l3 (fun k_ => k_ < w.heap.size) _ _ l4 t108 _ (Glb.of HG bel) ?side1 ?side2 ?side3 ?side4 A18.out).mono ?_); (case side1 => exact cL (Kd.R_reads' HO107.out).2.2); (case side2 => exact (Kd.R_reads' HO107.out).2.1); (case side3 => exact Kd.V_mk HC3.out (Kd.F_below (Kd.C_F (Kd.heap_int .u8) HR3.out) bel)); (case side4 => exact Kd.V_mk HC4.out (Kd.F_below (Kd.C_F (Kd.heap_slice 5 (Kd.heap_int .u8)) HR4.out) bel)); rintro e w20 ⟨rfl, hb⟩; have n0_ := Aside0.mk (Kd.R_below (rL HO107.out) hb); have n1_ := Aside0.mk (below_step bel hb); clear HO107; clear HB; have HO107 := n0_; have HB := n1_; clear n0_ n1_; (try clear hb); (try clear hb2); (try clear hk); (try clear hi)))
      go_meet
      case rel => exact ⟨_, ((t108 != 0)), (by first | rfl | (simp; done) | (simp [*]; done)), H', ⟨by have := HJ5.out; first | omega | exact Nat.le_refl _⟩, ⟨by repeat (first | (with_reducible first | exact HB.out | apply below_alloc | apply pw_below_drewN | apply below_drew1) | exact HB.out)⟩⟩
     ·rw [if_neg c17] at H
      have c17b0 : (t105 == 0) = false := beq_eq_false_iff_ne.mpr c17
      have c17b1 : (t105 != 0) = true := bne_iff_ne.mpr c17
      (first | rw [c17b0] | (simp only [i64_w, i32_w]; rw [c17b0]) | skip)
      have H' := Aside0.mk H
      clear H
      go_wp2
      go_meet
      case rel => exact ⟨_, (true), (by first | rfl | (simp; done) | (simp [*]; done)), H', ⟨by have := HJ5.out; first | omega | exact Nat.le_refl _⟩, ⟨by repeat (first | (with_reducible first | exact HB.out | apply below_alloc | apply pw_below_drewN | apply below_drew1) | exact HB.out)⟩⟩
    case rest =>
     clear HC15
     try clear c1
     try clear c2
     try clear p2
     try clear c3
     try clear c4
     try clear c5
     try clear c8
     try clear c8b0
     try clear c10
     try clear c10b0
     try clear c11
     try clear c14
     try clear c15
     try clear c17
     try clear c17b0
     try clear c17b1
     try clear p2
     obtain ⟨kq, x48_14, rfl, HA, HJ14, HB⟩ := hcut
     cases kq with
     | zero => exact absurd HA.out (by simp [imprimaturlaw06_MerkleOnly.j1])
     | succ kj14 =>
      have H := HA.out
      clear HA
      simp only [imprimaturlaw06_MerkleOnly.j1] at H
      by_cases c21 : x48_14 = true
      ·subst c21
       have H1 : ((imprimaturlaw06_known.f).bind fun t109 => (some t109)) = some r := by rw [if_pos rfl] at H; exact H
       clear H
       have H := H1
       clear H1
       replace H := Option.bind_eq_some_iff.mp H
       obtain ⟨t109, A220, H⟩ := H
       replace H : (some t109) = some r := H
       have A22 := Aside0.mk A220
       clear A220
       obtain rfl := Option.some.inj H
       go_wp2_with (first | ((with_reducible refine gate_callee (f := 15) rfl ?_); refine goesL_ (some 49) rfl rfl Tryd.func15 (by kernel_rfl) rfl #[] rfl eqA ?_; (with_reducible refine (imprimaturlaw06_known.calls  t109 _ (Glb.of HG bel) A22.out).mono ?_); rintro e w23 ⟨rfl, hb⟩; refine ⟨_, rfl, ?_⟩; have n0_ := Aside0.mk (below_step bel hb); clear HB; have HB := n0_; clear n0_; (try clear hb); (try clear hb2); (try clear hk); (try clear hi)))
       go_ret
       exact ⟨by first | rfl | (simp [errW_none, errW_some] <;> rfl) | (simp [*, errW_none, errW_some] <;> rfl), by repeat (first | (with_reducible first | exact HB.out | apply below_alloc | apply pw_below_drewN | apply below_drew1) | exact HB.out)⟩
      ·replace c21 := Bool.eq_false_iff.mpr c21
       subst c21
       have H1 : (if a1 = (l0.length : Int) then (imprimaturlaw06_MerkleOnly.j2 kj14 l0 a1 a2 l3 l4 (decide (a2 < (l0.length : Int)))) else (imprimaturlaw06_MerkleOnly.j2 kj14 l0 a1 a2 l3 l4 false)) = some r := by rw [if_neg (show ¬ (false = true) by decide)] at H; exact H
       clear H
       have H := H1
       clear H1
       have HC24 := Aside0.mk H
       clear H
       go_upto_region 6 with (fail)
       go_cut [13] (fun v13 wc => ∃ (kq : Nat) (x13_23 : Bool), v13 = .bool x13_23 ∧ Aside0 (imprimaturlaw06_MerkleOnly.j2 kq l0 a1 a2 l3 l4 x13_23 = some r) ∧ Aside0 (kq ≤ kj14) ∧ Aside0 (Below w.heap.size w wc))
       case first =>
        have H := HC24.out
        clear HC24
        by_cases c25 : a1 = (l0.length : Int)
        ·rw [if_pos c25] at H
         have c25b0 : (a1 == (l0.length : Int)) = true := beq_iff_eq.mpr c25
         have c25b1 : (a1 != (l0.length : Int)) = false := bne_eq_false_iff_eq.mpr c25
         clear c25
         (first | rw [c25b0] | (simp only [i64_w, i32_w]; rw [c25b0]) | skip)
         have H' := Aside0.mk H
         clear H
         go_wp2
         go_meet
         case rel => exact ⟨_, (decide (a2 < (l0.length : Int))), (by first | rfl | (simp; done) | (simp [*]; done)), H', ⟨by have := HJ5.out; have := HJ14.out; first | omega | exact Nat.le_refl _⟩, ⟨by repeat (first | (with_reducible first | exact HB.out | apply below_alloc | apply pw_below_drewN | apply below_drew1) | exact HB.out)⟩⟩
        ·rw [if_neg c25] at H
         have c25b0 : (a1 == (l0.length : Int)) = false := beq_eq_false_iff_ne.mpr c25
         have c25b1 : (a1 != (l0.length : Int)) = true := bne_iff_ne.mpr c25
         (first | rw [c25b0] | (simp only [i64_w, i32_w]; rw [c25b0]) | skip)
         have H' := Aside0.mk H
         clear H
         go_wp2
         go_meet
         case rel => exact ⟨_, (false), (by first | rfl | (simp; done) | (simp [*]; done)), H', ⟨by have := HJ5.out; have := HJ14.out; first | omega | exact Nat.le_refl _⟩, ⟨by repeat (first | (with_reducible first | exact HB.out | apply below_alloc | apply pw_below_drewN | apply below_drew1) | exact HB.out)⟩⟩
       case rest =>
        clear HC24
        try clear c1
        try clear c2
        try clear p2
        try clear c3
        try clear c4
        try clear c5
        try clear c8
        try clear c8b0
        try clear c10
        try clear c10b0
        try clear c11
        try clear c14
        try clear c15
        try clear c17
        try clear c17b0
        try clear c17b1
        try clear c21
        try clear c25
        try clear c25b0
        try clear c25b1
        try clear p2
        obtain ⟨kq, x13_23, rfl, HA, HJ23, HB⟩ := hcut
        cases kq with
        | zero => exact absurd HA.out (by simp [imprimaturlaw06_MerkleOnly.j2])
        | succ kj23 =>
         have H := HA.out
         clear HA
         simp only [imprimaturlaw06_MerkleOnly.j2] at H
         have HC26 := Aside0.mk H
         clear H
         go_upto_if 60 with (fail)
         go_cut [13] (fun v13 wc => ∃ (kq : Nat) (x13_25 : Bool), v13 = .bool x13_25 ∧ Aside0 (imprimaturlaw06_MerkleOnly.j3 kq l0 a1 a2 l3 l4 x13_25 = some r) ∧ Aside0 (kq ≤ kj23) ∧ Aside0 (Below w.heap.size w wc))
         case first =>
          have H := HC26.out
          clear HC26
          by_cases c27 : x13_23 = true
          ·subst c27
           have H1 : ((imprimaturref06_Prove.f kj23 l0 a2).bind fun bt110 => (if 0 ≤ a2 then (if a2 < (l0.length : Int) then ((imprimaturref01_SameBytes.f l3 (rd_L1 l0 a2)).bind fun t115 => (if t115 = true then ((imprimaturref06_Same.f kj23 l4 bt110.1).bind fun t116 => (imprimaturlaw06_MerkleOnly.j3 kj23 l0 a1 a2 l3 l4 t116)) else (imprimaturlaw06_MerkleOnly.j3 kj23 l0 a1 a2 l3 l4 false))) else (none)) else (none))) = some r := by rw [if_pos rfl] at H; exact H
           clear H
           have H := H1
           clear H1
           replace H := Option.bind_eq_some_iff.mp H
           obtain ⟨⟨t110, t113⟩, A280, H⟩ := H
           replace H : (if 0 ≤ a2 then (if a2 < (l0.length : Int) then ((imprimaturref01_SameBytes.f l3 (rd_L1 l0 a2)).bind fun t115 => (if t115 = true then ((imprimaturref06_Same.f kj23 l4 t110).bind fun t116 => (imprimaturlaw06_MerkleOnly.j3 kj23 l0 a1 a2 l3 l4 t116)) else (imprimaturlaw06_MerkleOnly.j3 kj23 l0 a1 a2 l3 l4 false))) else (none)) else (none)) = some r := H
           have A28 := Aside0.mk A280
           clear A280
           by_cases c29 : 0 ≤ a2
           ·rw [if_pos c29] at H
            have c29b0 : decide (0 ≤ a2) = true := decide_eq_true c29
            clear c29
            (first | rw [c29b0] | (simp only [i64_w, i32_w]; rw [c29b0]) | skip)
            by_cases c30 : a2 < (l0.length : Int)
            ·rw [if_pos c30] at H
             have c30b0 : decide (a2 < (l0.length : Int)) = true := decide_eq_true c30
             clear c30
             replace H := Option.bind_eq_some_iff.mp H
             obtain ⟨t115, A310, H⟩ := H
             replace H : (if t115 = true then ((imprimaturref06_Same.f kj23 l4 t110).bind fun t116 => (imprimaturlaw06_MerkleOnly.j3 kj23 l0 a1 a2 l3 l4 t116)) else (imprimaturlaw06_MerkleOnly.j3 kj23 l0 a1 a2 l3 l4 false)) = some r := H
             have A31 := Aside0.mk A310
             clear A310
             by_cases c32 : t115 = true
             ·subst c32
              have H1 : ((imprimaturref06_Same.f kj23 l4 t110).bind fun t116 => (imprimaturlaw06_MerkleOnly.j3 kj23 l0 a1 a2 l3 l4 t116)) = some r := by rw [if_pos rfl] at H; exact H
              clear H
              have H := H1
              clear H1
              replace H := Option.bind_eq_some_iff.mp H
              obtain ⟨t116, A330, H⟩ := H
              replace H : (imprimaturlaw06_MerkleOnly.j3 kj23 l0 a1 a2 l3 l4 t116) = some r := H
              have A33 := Aside0.mk A330
              clear A330
              have H' := Aside0.mk H
              clear H
              go_wp2_with (first | ((with_reducible refine gate_callee (f := 29) rfl ?_); refine goesL_ (some 64) rfl rfl Tryd.func29 (by kernel_rfl) rfl #[.slice A0 l0.length c0, .int .i64 a2] rfl eqA ?_; (with_reducible refine (imprimaturref06_Prove.calls kj23 (fun k_ => k_ < w.heap.size) _ _ l0 a2 t110 t113 _ ?side1 A28.out).mono ?_); (case side1 => exact Kd.V_mk HC0.out (Kd.F_below (Kd.C_F (Kd.heap_slice 5 (Kd.heap_int .u8)) HR0.out) bel)); rintro e w34 ⟨v111, rfl, ho0, hb⟩; refine ⟨_, rfl, ?_⟩; have n0_ := Aside0.mk (Kd.N_lower (Kd.N_mono (ok' := fun k_ => True) ho0 (fun k_ hk_ => trivial)) (below_size bel)); have n1_ := Aside0.mk (below_step bel hb); clear HB; have HO112 := n0_; have HB := n1_; clear n0_ n1_; (try clear hb); (try clear hb2); (try clear hk); (try clear hi); (try clear ho0); have p114 : 0 ≤ (a2 : Int) := of_decide_eq_true asm_; have q114 : a2 < (l0.length : Int) := of_decide_eq_true asm_; obtain ⟨ad114, A114_0, c114_0, e114, hx114_0, hl114_0, hi114_0⟩ := at_L1 HR0.out a2 p114 q114; cases e114; replace hx114_0 := (HB.out.cell (World.block_lt_of_cell? w _ hx114_0)).trans hx114_0; have HR114_0 := Aside0.mk hi114_0; have HC114_0 := Aside0.mk hl114_0; clear hi114_0 hl114_0; replace p114 := eq_true p114; replace q114 := eq_true q114) | ((with_reducible refine gate_callee (f := 24) rfl ?_); refine goesL_ (some 72) rfl rfl Tryd.func24 (by kernel_rfl) rfl #[.slice A3 l3.length c3, .slice A114_0 (rd_L1 l0 a2).length c114_0] rfl eqA ?_; (with_reducible refine (imprimaturref01_SameBytes.calls _ _ l3 _ _ (rd_L1 l0 a2) true _ ?side1 ?side2 ?side3 ?side4 A31.out).mono ?_); (case side1 => exact cL (Kd.C_below HR3.out HB.out)); (case side2 => exact HC3.out); (case side3 => exact cL (Kd.C_below HR114_0.out HB.out)); (case side4 => exact HC114_0.out); rintro e w' ⟨rfl, ⟨nd, rfl⟩⟩; refine ⟨_, rfl, ?_⟩; obtain ⟨Ao35, co35, eo35⟩ := Kd.N_slice HO112.out; subst eo35) | (go_at_call 30; (with_reducible refine (imprimaturref06_Same.calls kj23 _ _ l4 _ _ t110 t116 _ ?side1 ?side2 ?side3 ?side4 A33.out).mono ?_); (case side1 => exact cL (Kd.C_below HR4.out bel)); (case side2 => exact HC4.out); (case side3 => exact cL (Kd.N_reads' HO112.out).2.2); (case side4 => exact (Kd.N_reads' HO112.out).2.1); rintro e w' ⟨rfl, ⟨nd, rfl⟩⟩))
              go_meet
              case rel => exact ⟨_, (t116), (by first | rfl | (simp; done) | (simp [*]; done)), H', ⟨by have := HJ5.out; have := HJ14.out; have := HJ23.out; first | omega | exact Nat.le_refl _⟩, ⟨by repeat (first | (with_reducible first | exact HB.out | apply below_alloc | apply pw_below_drewN | apply below_drew1) | exact HB.out)⟩⟩
             ·replace c32 := Bool.eq_false_iff.mpr c32
              subst c32
              have H1 : (imprimaturlaw06_MerkleOnly.j3 kj23 l0 a1 a2 l3 l4 false) = some r := by rw [if_neg (show ¬ (false = true) by decide)] at H; exact H
              clear H
              have H := H1
              clear H1
              have H' := Aside0.mk H
              clear H
              go_wp2_with (first | ((with_reducible refine gate_callee (f := 29) rfl ?_); refine goesL_ (some 64) rfl rfl Tryd.func29 (by kernel_rfl) rfl #[.slice A0 l0.length c0, .int .i64 a2] rfl eqA ?_; (with_reducible refine (imprimaturref06_Prove.calls kj23 (fun k_ => k_ < w.heap.size) _ _ l0 a2 t110 t113 _ ?side1 A28.out).mono ?_); (case side1 => exact Kd.V_mk HC0.out (Kd.F_below (Kd.C_F (Kd.heap_slice 5 (Kd.heap_int .u8)) HR0.out) bel)); rintro e w36 ⟨v111, rfl, ho0, hb⟩; refine ⟨_, rfl, ?_⟩; have n0_ := Aside0.mk (Kd.N_lower (Kd.N_mono (ok' := fun k_ => True) ho0 (fun k_ hk_ => trivial)) (below_size bel)); have n1_ := Aside0.mk (below_step bel hb); clear HB; have HO112 := n0_; have HB := n1_; clear n0_ n1_; (try clear hb); (try clear hb2); (try clear hk); (try clear hi); (try clear ho0); have p114 : 0 ≤ (a2 : Int) := of_decide_eq_true asm_; have q114 : a2 < (l0.length : Int) := of_decide_eq_true asm_; obtain ⟨ad114, A114_0, c114_0, e114, hx114_0, hl114_0, hi114_0⟩ := at_L1 HR0.out a2 p114 q114; cases e114; replace hx114_0 := (HB.out.cell (World.block_lt_of_cell? w _ hx114_0)).trans hx114_0; have HR114_0 := Aside0.mk hi114_0; have HC114_0 := Aside0.mk hl114_0; clear hi114_0 hl114_0; replace p114 := eq_true p114; replace q114 := eq_true q114) | ((with_reducible refine gate_callee (f := 24) rfl ?_); refine goesL_ (some 72) rfl rfl Tryd.func24 (by kernel_rfl) rfl #[.slice A3 l3.length c3, .slice A114_0 (rd_L1 l0 a2).length c114_0] rfl eqA ?_; (with_reducible refine (imprimaturref01_SameBytes.calls _ _ l3 _ _ (rd_L1 l0 a2) false _ ?side1 ?side2 ?side3 ?side4 A31.out).mono ?_); (case side1 => exact cL (Kd.C_below HR3.out HB.out)); (case side2 => exact HC3.out); (case side3 => exact cL (Kd.C_below HR114_0.out HB.out)); (case side4 => exact HC114_0.out); rintro e w' ⟨rfl, ⟨nd, rfl⟩⟩; refine ⟨_, rfl, ?_⟩))
              go_meet
              case rel => exact ⟨_, (false), (by first | rfl | (simp; done) | (simp [*]; done)), H', ⟨by have := HJ5.out; have := HJ14.out; have := HJ23.out; first | omega | exact Nat.le_refl _⟩, ⟨by repeat (first | (with_reducible first | exact HB.out | apply below_alloc | apply pw_below_drewN | apply below_drew1) | exact HB.out)⟩⟩
            ·rw [if_neg c30] at H
             exact absurd H (by simp)
           ·rw [if_neg c29] at H
            exact absurd H (by simp)
          ·replace c27 := Bool.eq_false_iff.mpr c27
           subst c27
           have H1 : (imprimaturlaw06_MerkleOnly.j3 kj23 l0 a1 a2 l3 l4 false) = some r := by rw [if_neg (show ¬ (false = true) by decide)] at H; exact H
           clear H
           have H := H1
           clear H1
           have H' := Aside0.mk H
           clear H
           go_wp2
           go_meet
           case rel => exact ⟨_, (false), (by first | rfl | (simp; done) | (simp [*]; done)), H', ⟨by have := HJ5.out; have := HJ14.out; have := HJ23.out; first | omega | exact Nat.le_refl _⟩, ⟨by repeat (first | (with_reducible first | exact HB.out | apply below_alloc | apply pw_below_drewN | apply below_drew1) | exact HB.out)⟩⟩
         case rest =>
          clear HC26
          try clear c1
          try clear p1
          try clear q1
          try clear hx1
          try clear c2
          try clear p2
          try clear c3
          try clear c4
          try clear c5
          try clear c8
          try clear c8b0
          try clear c10
          try clear c10b0
          try clear c11
          try clear p11
          try clear q11
          try clear hx11
          try clear c14
          try clear c15
          try clear c17
          try clear c17b0
          try clear c17b1
          try clear c21
          try clear c24
          try clear c25
          try clear c25b0
          try clear c25b1
          try clear c27
          try clear c28
          try clear c29
          try clear c29b0
          try clear c30
          try clear c30b0
          try clear c32
          try clear hx114_0
          try clear p114
          try clear p2
          try clear q114
          obtain ⟨kq, x13_25, rfl, HA, HJ25, HB⟩ := hcut
          cases kq with
          | zero => exact absurd HA.out (by simp [imprimaturlaw06_MerkleOnly.j3])
          | succ kj25 =>
           have H := HA.out
           clear HA
           simp only [imprimaturlaw06_MerkleOnly.j3] at H
           replace H := Option.bind_eq_some_iff.mp H
           obtain ⟨⟨t117, t118⟩, A370, H⟩ := H
           replace H : ((imprimaturref06_Texts.f kj25 l0).bind fun t121 => (if t121.length + t117.length < 5864062014805 then ((some (t121 ++ t117 : List (List Int))).bind fun y124 => ((imprimaturref06_Fixed.f kj25).bind fun t127 => (if y124.length + t127.length < 5864062014805 then ((imprimaturlaw06_known.f).bind fun t133 => (if t133 = true then (if x13_25 = true then (some true) else ((imprimaturref06_Clash.f kj25 (y124 ++ t127)).bind fun t134 => (some t134))) else (some false))) else (none)))) else (none))) = some r := H
           have A37 := Aside0.mk A370
           clear A370
           replace H := Option.bind_eq_some_iff.mp H
           obtain ⟨t121, A380, H⟩ := H
           replace H : (if t121.length + t117.length < 5864062014805 then ((some (t121 ++ t117 : List (List Int))).bind fun y124 => ((imprimaturref06_Fixed.f kj25).bind fun t127 => (if y124.length + t127.length < 5864062014805 then ((imprimaturlaw06_known.f).bind fun t133 => (if t133 = true then (if x13_25 = true then (some true) else ((imprimaturref06_Clash.f kj25 (y124 ++ t127)).bind fun t134 => (some t134))) else (some false))) else (none)))) else (none)) = some r := H
           have A38 := Aside0.mk A380
           clear A380
           by_cases c39 : t121.length + t117.length < 5864062014805
           ·rw [if_pos c39] at H
            have LMc39 := Aside0.mk c39
            clear c39
            obtain ⟨y124, hy124⟩ : ∃ y_ : List (List Int), y_ = (t121 ++ t117) := ⟨_, rfl⟩
            replace H : ((imprimaturref06_Fixed.f kj25).bind fun t127 => (if y124.length + t127.length < 5864062014805 then ((imprimaturlaw06_known.f).bind fun t133 => (if t133 = true then (if x13_25 = true then (some true) else ((imprimaturref06_Clash.f kj25 (y124 ++ t127)).bind fun t134 => (some t134))) else (some false))) else (none))) = some r := hyA hy124 H
            have Ny124 := Aside0.mk hy124
            clear hy124
            replace H := Option.bind_eq_some_iff.mp H
            obtain ⟨t127, A400, H⟩ := H
            replace H : (if y124.length + t127.length < 5864062014805 then ((imprimaturlaw06_known.f).bind fun t133 => (if t133 = true then (if x13_25 = true then (some true) else ((imprimaturref06_Clash.f kj25 (y124 ++ t127)).bind fun t134 => (some t134))) else (some false))) else (none)) = some r := H
            have A40 := Aside0.mk A400
            clear A400
            by_cases c41 : y124.length + t127.length < 5864062014805
            ·rw [if_pos c41] at H
             have LMc41 := Aside0.mk c41
             clear c41
             obtain ⟨y130, hy130⟩ : ∃ y_ : List (List Int), y_ = (y124 ++ t127) := ⟨_, rfl⟩
             replace H : ((imprimaturlaw06_known.f).bind fun t133 => (if t133 = true then (if x13_25 = true then (some true) else ((imprimaturref06_Clash.f kj25 y130).bind fun t134 => (some t134))) else (some false))) = some r := hyA hy130 H
             have Ny130 := Aside0.mk hy130
             clear hy130
             replace H := Option.bind_eq_some_iff.mp H
             obtain ⟨t133, A420, H⟩ := H
             replace H : (if t133 = true then (if x13_25 = true then (some true) else ((imprimaturref06_Clash.f kj25 y130).bind fun t134 => (some t134))) else (some false)) = some r := H
             have A42 := Aside0.mk A420
             clear A420
             by_cases c43 : t133 = true
             ·subst c43
              have H1 : (if x13_25 = true then (some true) else ((imprimaturref06_Clash.f kj25 y130).bind fun t134 => (some t134))) = some r := by rw [if_pos rfl] at H; exact H
              clear H
              have H := H1
              clear H1
              by_cases c44 : x13_25 = true
              ·subst c44
               have H1 : (some true) = some r := by rw [if_pos rfl] at H; exact H
               clear H
               have H := H1
               clear H1
               obtain rfl := Option.some.inj H
               go_wp2_with (first | ((with_reducible refine gate_callee (f := 31) rfl ?_); refine goesL_ (some 83) rfl rfl Tryd.func31 (by kernel_rfl) rfl #[.int .i64 a1, .int .i64 a2, .slice A3 l3.length c3, .slice A4 l4.length c4] rfl eqA ?_; (with_reducible refine (imprimaturref06_Way.calls kj25 a1 a2 _ _ l3 _ _ l4 t117 t118 _ ?side1 ?side2 ?side3 ?side4 A37.out).mono ?_); (case side1 => exact cL (Kd.C_below HR3.out HB.out)); (case side2 => exact HC3.out); (case side3 => exact cL (Kd.C_below HR4.out HB.out)); (case side4 => exact HC4.out); rintro e w45 ⟨v119, rfl, ho0, hb⟩; refine ⟨_, rfl, ?_⟩; have n0_ := Aside0.mk (Kd.N_lower (Kd.N_mono (ok' := fun k_ => True) (Kd.S_N (Kd.S_bound ho0)) (fun k_ hk_ => trivial)) (below_size bel)); have n1_ := Aside0.mk (below_step bel hb); clear HB; have HO120 := n0_; have HB := n1_; clear n0_ n1_; (try clear hb); (try clear hb2); (try clear hk); (try clear hi); (try clear ho0)) | ((with_reducible refine gate_callee (f := 32) rfl ?_); refine goesL_ (some 87) rfl rfl Tryd.func32 (by kernel_rfl) rfl #[.slice A0 l0.length c0] rfl eqA ?_; (with_reducible refine (imprimaturref06_Texts.calls kj25 (fun k_ => k_ < w.heap.size) _ _ l0 t121 _ ?side1 A38.out).mono ?_); (case side1 => exact Kd.V_mk HC0.out (Kd.F_below (Kd.C_F (Kd.heap_slice 5 (Kd.heap_int .u8)) HR0.out) bel)); rintro e w46 ⟨v122, rfl, ho0, hb⟩; refine ⟨_, rfl, ?_⟩; have n0_ := Aside0.mk (Kd.N_elder' (nL HO120.out) (Kd.N_base ho0) hb); have n1_ := Aside0.mk (Kd.N_lower (Kd.N_mono (ok' := fun k_ => some k_ ≠ (v119 : Value).ownBlock) ho0 (fun k_ hk_ => Or.elim hk_ (fun hs_ => fun e_ => Nat.not_le.2 hs_ (Kd.N_base HO120.out k_ e_.symm)) (fun hn_ => (Kd.fresh' (Kd.N_lt (nL HO120.out)) k_ hn_)))) (below_size bel)); have n2_ := Aside0.mk (below_step bel hb); clear HO120; clear HB; have HO120 := n0_; have HO123 := n1_; have HB := n2_; clear n0_ n1_ n2_; (try clear hb); (try clear hb2); (try clear hk); (try clear hi); (try clear ho0); obtain ⟨Ao48, co48, eo48⟩ := Kd.N_slice HO120.out; subst eo48) | ((with_reducible refine gate_builtin (b := .append) (xs := #[.tmp 87, .tmp 88]) rfl ?_); (try (refine gate_guard (by rfl) ?_; dsimp only)); at_builtin; refine Kd.N_append_rows (Kd.slice 5 (Kd.int .u8)) (w0 := w) w.heap.size rfl (.tmp 87) (.tmp 88) 23 22 (.slice none 0 0) 24 rfl Tryd.underlying23 info22 rfl (by decide) (by omega) v122 t121 t117 _ _ _ (fun _ => True) (fun k_ => ((fun _ => True)) k_ ∧ some k_ ≠ (v122 : Value).ownBlock) rfl rfl ?aO ?aR (fun _ hk => hk) ?aF ?aB ?aS ?aL ?_; (case aR => exact (by skip; exact Kd.N_F (Kd.N_mono (ok' := (fun k_ => ((fun _ => True)) k_ ∧ some k_ ≠ (v122 : Value).ownBlock)) (HO120.out) (fun k_ hk => ⟨trivial, hk.2⟩)))); (case aB => exact bel); (case aF => exact (fun _ _ => trivial)); (case aO => exact (by (with_reducible repeat (first | apply Kd.N_alloc | apply Kd.N_drewN | apply Kd.N_drew)); exact Kd.N_mono HO123.out (fun _ hk => trivial))); (case aS => exact (below_size bel)); (case aL => have := LMc39.out; omega); intro v125 w47 ho hb hg hat; rw [← Ny124.out] at ho; have n0_ := Aside0.mk (Kd.N_afterv (ok := (fun _ => True)) (nL HO120.out) hg hat); have n1_ := Aside0.mk (hb); have n2_ := Aside0.mk (ho); clear HO120; clear HB; clear HO123; have HO120 := n0_; have HB := n1_; have HO126 := n2_; clear n0_ n1_ n2_; clear ho hb hg hat) | ((with_reducible refine gate_callee (f := 33) rfl ?_); refine goesL_ (some 90) rfl rfl Tryd.func33 (by kernel_rfl) rfl #[] rfl eqA ?_; (with_reducible refine (imprimaturref06_Fixed.calls kj25  t127 _ A40.out).mono ?_); rintro e w49 ⟨v128, rfl, ho0, hb⟩; refine ⟨_, rfl, ?_⟩; have n0_ := Aside0.mk (Kd.N_elder' (nL HO120.out) (Kd.N_base ho0) hb); have n1_ := Aside0.mk (Kd.N_elder' (nL HO126.out) (Kd.N_base ho0) hb); have n2_ := Aside0.mk (Kd.N_lower (Kd.N_mono (ok' := fun k_ => some k_ ≠ (.slice Ao48 t117.length co48 : Value).ownBlock ∧ some k_ ≠ (v125 : Value).ownBlock) ho0 (fun k_ hk_ => ⟨(Kd.fresh' (Kd.N_lt (nL HO120.out)) k_ hk_), (Kd.fresh' (Kd.N_lt (nL HO126.out)) k_ hk_)⟩)) (below_size bel)); have n3_ := Aside0.mk (below_step bel hb); clear HO120; clear HO126; clear HB; have HO120 := n0_; have HO126 := n1_; have HO129 := n2_; have HB := n3_; clear n0_ n1_ n2_ n3_; (try clear hb); (try clear hb2); (try clear hk); (try clear hi); (try clear ho0); obtain ⟨Ao51, co51, eo51⟩ := Kd.N_slice HO129.out; subst eo51) | ((with_reducible refine gate_builtin (b := .append) (xs := #[.tmp 89, .tmp 90]) rfl ?_); (try (refine gate_guard (by rfl) ?_; dsimp only)); at_builtin; refine Kd.N_append_rows (Kd.slice 5 (Kd.int .u8)) (w0 := w) w.heap.size rfl (.tmp 89) (.tmp 90) 23 22 (.slice none 0 0) 24 rfl Tryd.underlying23 info22 rfl (by decide) (by omega) v125 y124 t127 _ _ _ (fun _ => True) (fun k_ => ((fun _ => True)) k_ ∧ some k_ ≠ (v125 : Value).ownBlock) rfl rfl ?aO ?aR (fun _ hk => hk) ?aF ?aB ?aS ?aL ?_; (case aR => exact (by skip; exact Kd.N_F (Kd.N_mono (ok' := (fun k_ => ((fun _ => True)) k_ ∧ some k_ ≠ (v125 : Value).ownBlock)) (HO129.out) (fun k_ hk => ⟨trivial, hk.2⟩)))); (case aB => exact bel); (case aF => exact (fun _ _ => trivial)); (case aO => exact (by (with_reducible repeat (first | apply Kd.N_alloc | apply Kd.N_drewN | apply Kd.N_drew)); exact Kd.N_mono HO126.out (fun _ hk => trivial))); (case aS => exact (below_size bel)); (case aL => have := LMc41.out; omega); intro v131 w50 ho hb hg hat; rw [← Ny130.out] at ho; have n0_ := Aside0.mk (Kd.N_afterv (ok := (fun k_ => some k_ ≠ (.slice Ao51 t127.length co51 : Value).ownBlock)) (by (with_reducible repeat (first | apply Kd.N_alloc | apply Kd.N_drewN | apply Kd.N_drew)); exact Kd.N_mono HO120.out (fun _ hk => ⟨hk.2, hk.1.2⟩)) hg hat); have n1_ := Aside0.mk (Kd.N_afterv (ok := (fun k_ => some k_ ≠ (.slice Ao48 t117.length co48 : Value).ownBlock)) (nL HO129.out) hg hat); have n2_ := Aside0.mk (hb); have n3_ := Aside0.mk (ho); clear HO120; clear HO129; clear HB; clear HO126; have HO120 := n0_; have HO129 := n1_; have HB := n2_; have HO132 := n3_; clear n0_ n1_ n2_ n3_; clear ho hb hg hat) | ((with_reducible refine gate_callee (f := 15) rfl ?_); refine goesL_ (some 92) rfl rfl Tryd.func15 (by kernel_rfl) rfl #[] rfl eqA ?_; (with_reducible refine (imprimaturlaw06_known.calls  true _ (Glb.of HG bel) A42.out).mono ?_); rintro e w52 ⟨rfl, hb⟩; refine ⟨_, rfl, ?_⟩; have n0_ := Aside0.mk (Kd.N_below (nL HO120.out) hb); have n1_ := Aside0.mk (Kd.N_below (nL HO129.out) hb); have n2_ := Aside0.mk (Kd.N_below (nL HO132.out) hb); have n3_ := Aside0.mk (below_step bel hb); clear HO120; clear HO129; clear HO132; clear HB; have HO120 := n0_; have HO129 := n1_; have HO132 := n2_; have HB := n3_; clear n0_ n1_ n2_ n3_; (try clear hb); (try clear hb2); (try clear hk); (try clear hi)))
               go_ret
               exact ⟨by first | rfl | (simp [errW_none, errW_some] <;> rfl) | (simp [*, errW_none, errW_some] <;> rfl), by repeat (first | (with_reducible first | exact HB.out | apply below_alloc | apply pw_below_drewN | apply below_drew1) | exact HB.out)⟩
              ·replace c44 := Bool.eq_false_iff.mpr c44
               subst c44
               have H1 : ((imprimaturref06_Clash.f kj25 y130).bind fun t134 => (some t134)) = some r := by rw [if_neg (show ¬ (false = true) by decide)] at H; exact H
               clear H
               have H := H1
               clear H1
               replace H := Option.bind_eq_some_iff.mp H
               obtain ⟨t134, A530, H⟩ := H
               replace H : (some t134) = some r := H
               have A53 := Aside0.mk A530
               clear A530
               obtain rfl := Option.some.inj H
               go_wp2_with (first | ((with_reducible refine gate_callee (f := 31) rfl ?_); refine goesL_ (some 83) rfl rfl Tryd.func31 (by kernel_rfl) rfl #[.int .i64 a1, .int .i64 a2, .slice A3 l3.length c3, .slice A4 l4.length c4] rfl eqA ?_; (with_reducible refine (imprimaturref06_Way.calls kj25 a1 a2 _ _ l3 _ _ l4 t117 t118 _ ?side1 ?side2 ?side3 ?side4 A37.out).mono ?_); (case side1 => exact cL (Kd.C_below HR3.out HB.out)); (case side2 => exact HC3.out); (case side3 => exact cL (Kd.C_below HR4.out HB.out)); (case side4 => exact HC4.out); rintro e w54 ⟨v119, rfl, ho0, hb⟩; refine ⟨_, rfl, ?_⟩; have n0_ := Aside0.mk (Kd.N_lower (Kd.N_mono (ok' := fun k_ => True) (Kd.S_N (Kd.S_bound ho0)) (fun k_ hk_ => trivial)) (below_size bel)); have n1_ := Aside0.mk (below_step bel hb); clear HB; have HO120 := n0_; have HB := n1_; clear n0_ n1_; (try clear hb); (try clear hb2); (try clear hk); (try clear hi); (try clear ho0)) | ((with_reducible refine gate_callee (f := 32) rfl ?_); refine goesL_ (some 87) rfl rfl Tryd.func32 (by kernel_rfl) rfl #[.slice A0 l0.length c0] rfl eqA ?_; (with_reducible refine (imprimaturref06_Texts.calls kj25 (fun k_ => k_ < w.heap.size) _ _ l0 t121 _ ?side1 A38.out).mono ?_); (case side1 => exact Kd.V_mk HC0.out (Kd.F_below (Kd.C_F (Kd.heap_slice 5 (Kd.heap_int .u8)) HR0.out) bel)); rintro e w55 ⟨v122, rfl, ho0, hb⟩; refine ⟨_, rfl, ?_⟩; have n0_ := Aside0.mk (Kd.N_elder' (nL HO120.out) (Kd.N_base ho0) hb); have n1_ := Aside0.mk (Kd.N_lower (Kd.N_mono (ok' := fun k_ => some k_ ≠ (v119 : Value).ownBlock) ho0 (fun k_ hk_ => Or.elim hk_ (fun hs_ => fun e_ => Nat.not_le.2 hs_ (Kd.N_base HO120.out k_ e_.symm)) (fun hn_ => (Kd.fresh' (Kd.N_lt (nL HO120.out)) k_ hn_)))) (below_size bel)); have n2_ := Aside0.mk (below_step bel hb); clear HO120; clear HB; have HO120 := n0_; have HO123 := n1_; have HB := n2_; clear n0_ n1_ n2_; (try clear hb); (try clear hb2); (try clear hk); (try clear hi); (try clear ho0); obtain ⟨Ao57, co57, eo57⟩ := Kd.N_slice HO120.out; subst eo57) | ((with_reducible refine gate_builtin (b := .append) (xs := #[.tmp 87, .tmp 88]) rfl ?_); (try (refine gate_guard (by rfl) ?_; dsimp only)); at_builtin; refine Kd.N_append_rows (Kd.slice 5 (Kd.int .u8)) (w0 := w) w.heap.size rfl (.tmp 87) (.tmp 88) 23 22 (.slice none 0 0) 24 rfl Tryd.underlying23 info22 rfl (by decide) (by omega) v122 t121 t117 _ _ _ (fun _ => True) (fun k_ => ((fun _ => True)) k_ ∧ some k_ ≠ (v122 : Value).ownBlock) rfl rfl ?aO ?aR (fun _ hk => hk) ?aF ?aB ?aS ?aL ?_; (case aR => exact (by skip; exact Kd.N_F (Kd.N_mono (ok' := (fun k_ => ((fun _ => True)) k_ ∧ some k_ ≠ (v122 : Value).ownBlock)) (HO120.out) (fun k_ hk => ⟨trivial, hk.2⟩)))); (case aB => exact bel); (case aF => exact (fun _ _ => trivial)); (case aO => exact (by (with_reducible repeat (first | apply Kd.N_alloc | apply Kd.N_drewN | apply Kd.N_drew)); exact Kd.N_mono HO123.out (fun _ hk => trivial))); (case aS => exact (below_size bel)); (case aL => have := LMc39.out; omega); intro v125 w56 ho hb hg hat; rw [← Ny124.out] at ho; have n0_ := Aside0.mk (Kd.N_afterv (ok := (fun _ => True)) (nL HO120.out) hg hat); have n1_ := Aside0.mk (hb); have n2_ := Aside0.mk (ho); clear HO120; clear HB; clear HO123; have HO120 := n0_; have HB := n1_; have HO126 := n2_; clear n0_ n1_ n2_; clear ho hb hg hat) | ((with_reducible refine gate_callee (f := 33) rfl ?_); refine goesL_ (some 90) rfl rfl Tryd.func33 (by kernel_rfl) rfl #[] rfl eqA ?_; (with_reducible refine (imprimaturref06_Fixed.calls kj25  t127 _ A40.out).mono ?_); rintro e w58 ⟨v128, rfl, ho0, hb⟩; refine ⟨_, rfl, ?_⟩; have n0_ := Aside0.mk (Kd.N_elder' (nL HO120.out) (Kd.N_base ho0) hb); have n1_ := Aside0.mk (Kd.N_elder' (nL HO126.out) (Kd.N_base ho0) hb); have n2_ := Aside0.mk (Kd.N_lower (Kd.N_mono (ok' := fun k_ => some k_ ≠ (.slice Ao57 t117.length co57 : Value).ownBlock ∧ some k_ ≠ (v125 : Value).ownBlock) ho0 (fun k_ hk_ => ⟨(Kd.fresh' (Kd.N_lt (nL HO120.out)) k_ hk_), (Kd.fresh' (Kd.N_lt (nL HO126.out)) k_ hk_)⟩)) (below_size bel)); have n3_ := Aside0.mk (below_step bel hb); clear HO120; clear HO126; clear HB; have HO120 := n0_; have HO126 := n1_; have HO129 := n2_; have HB := n3_; clear n0_ n1_ n2_ n3_; (try clear hb); (try clear hb2); (try clear hk); (try clear hi); (try clear ho0); obtain ⟨Ao60, co60, eo60⟩ := Kd.N_slice HO129.out; subst eo60) | ((with_reducible refine gate_builtin (b := .append) (xs := #[.tmp 89, .tmp 90]) rfl ?_); (try (refine gate_guard (by rfl) ?_; dsimp only)); at_builtin; refine Kd.N_append_rows (Kd.slice 5 (Kd.int .u8)) (w0 := w) w.heap.size rfl (.tmp 89) (.tmp 90) 23 22 (.slice none 0 0) 24 rfl Tryd.underlying23 info22 rfl (by decide) (by omega) v125 y124 t127 _ _ _ (fun _ => True) (fun k_ => ((fun _ => True)) k_ ∧ some k_ ≠ (v125 : Value).ownBlock) rfl rfl ?aO ?aR (fun _ hk => hk) ?aF ?aB ?aS ?aL ?_; (case aR => exact (by skip; exact Kd.N_F (Kd.N_mono (ok' := (fun k_ => ((fun _ => True)) k_ ∧ some k_ ≠ (v125 : Value).ownBlock)) (HO129.out) (fun k_ hk => ⟨trivial, hk.2⟩)))); (case aB => exact bel); (case aF => exact (fun _ _ => trivial)); (case aO => exact (by (with_reducible repeat (first | apply Kd.N_alloc | apply Kd.N_drewN | apply Kd.N_drew)); exact Kd.N_mono HO126.out (fun _ hk => trivial))); (case aS => exact (below_size bel)); (case aL => have := LMc41.out; omega); intro v131 w59 ho hb hg hat; rw [← Ny130.out] at ho; have n0_ := Aside0.mk (Kd.N_afterv (ok := (fun k_ => some k_ ≠ (.slice Ao60 t127.length co60 : Value).ownBlock)) (by (with_reducible repeat (first | apply Kd.N_alloc | apply Kd.N_drewN | apply Kd.N_drew)); exact Kd.N_mono HO120.out (fun _ hk => ⟨hk.2, hk.1.2⟩)) hg hat); have n1_ := Aside0.mk (Kd.N_afterv (ok := (fun k_ => some k_ ≠ (.slice Ao57 t117.length co57 : Value).ownBlock)) (nL HO129.out) hg hat); have n2_ := Aside0.mk (hb); have n3_ := Aside0.mk (ho); clear HO120; clear HO129; clear HB; clear HO126; have HO120 := n0_; have HO129 := n1_; have HB := n2_; have HO132 := n3_; clear n0_ n1_ n2_ n3_; clear ho hb hg hat) | ((with_reducible refine gate_callee (f := 15) rfl ?_); refine goesL_ (some 92) rfl rfl Tryd.func15 (by kernel_rfl) rfl #[] rfl eqA ?_; (with_reducible refine (imprimaturlaw06_known.calls  true _ (Glb.of HG bel) A42.out).mono ?_); rintro e w61 ⟨rfl, hb⟩; refine ⟨_, rfl, ?_⟩; have n0_ := Aside0.mk (Kd.N_below (nL HO120.out) hb); have n1_ := Aside0.mk (Kd.N_below (nL HO129.out) hb); have n2_ := Aside0.mk (Kd.N_below (nL HO132.out) hb); have n3_ := Aside0.mk (below_step bel hb); clear HO120; clear HO129; clear HO132; clear HB; have HO120 := n0_; have HO129 := n1_; have HO132 := n2_; have HB := n3_; clear n0_ n1_ n2_ n3_; (try clear hb); (try clear hb2); (try clear hk); (try clear hi); obtain ⟨Ao62, co62, eo62⟩ := Kd.N_slice HO132.out; subst eo62) | (go_at_call 34; (with_reducible refine (imprimaturref06_Clash.calls kj25 _ _ y130 t134 _ ?side1 ?side2 A53.out).mono ?_); (case side1 => exact cL (Kd.N_reads' HO132.out).2.2); (case side2 => exact (Kd.N_reads' HO132.out).2.1); rintro e w63 ⟨rfl, hb⟩; have n0_ := Aside0.mk (Kd.N_below (nL HO120.out) hb); have n1_ := Aside0.mk (Kd.N_below (nL HO129.out) hb); have n2_ := Aside0.mk (Kd.N_below (nL HO132.out) hb); have n3_ := Aside0.mk (below_step bel hb); clear HO120; clear HO129; clear HO132; clear HB; have HO120 := n0_; have HO129 := n1_; have HO132 := n2_; have HB := n3_; clear n0_ n1_ n2_ n3_; (try clear hb); (try clear hb2); (try clear hk); (try clear hi)))
               go_ret
               exact ⟨by first | rfl | (simp [errW_none, errW_some] <;> rfl) | (simp [*, errW_none, errW_some] <;> rfl), by repeat (first | (with_reducible first | exact HB.out | apply below_alloc | apply pw_below_drewN | apply below_drew1) | exact HB.out)⟩
             ·replace c43 := Bool.eq_false_iff.mpr c43
              subst c43
              have H1 : (some false) = some r := by rw [if_neg (show ¬ (false = true) by decide)] at H; exact H
              clear H
              have H := H1
              clear H1
              obtain rfl := Option.some.inj H
              go_wp2_with (first | ((with_reducible refine gate_callee (f := 31) rfl ?_); refine goesL_ (some 83) rfl rfl Tryd.func31 (by kernel_rfl) rfl #[.int .i64 a1, .int .i64 a2, .slice A3 l3.length c3, .slice A4 l4.length c4] rfl eqA ?_; (with_reducible refine (imprimaturref06_Way.calls kj25 a1 a2 _ _ l3 _ _ l4 t117 t118 _ ?side1 ?side2 ?side3 ?side4 A37.out).mono ?_); (case side1 => exact cL (Kd.C_below HR3.out HB.out)); (case side2 => exact HC3.out); (case side3 => exact cL (Kd.C_below HR4.out HB.out)); (case side4 => exact HC4.out); rintro e w64 ⟨v119, rfl, ho0, hb⟩; refine ⟨_, rfl, ?_⟩; have n0_ := Aside0.mk (Kd.N_lower (Kd.N_mono (ok' := fun k_ => True) (Kd.S_N (Kd.S_bound ho0)) (fun k_ hk_ => trivial)) (below_size bel)); have n1_ := Aside0.mk (below_step bel hb); clear HB; have HO120 := n0_; have HB := n1_; clear n0_ n1_; (try clear hb); (try clear hb2); (try clear hk); (try clear hi); (try clear ho0)) | ((with_reducible refine gate_callee (f := 32) rfl ?_); refine goesL_ (some 87) rfl rfl Tryd.func32 (by kernel_rfl) rfl #[.slice A0 l0.length c0] rfl eqA ?_; (with_reducible refine (imprimaturref06_Texts.calls kj25 (fun k_ => k_ < w.heap.size) _ _ l0 t121 _ ?side1 A38.out).mono ?_); (case side1 => exact Kd.V_mk HC0.out (Kd.F_below (Kd.C_F (Kd.heap_slice 5 (Kd.heap_int .u8)) HR0.out) bel)); rintro e w65 ⟨v122, rfl, ho0, hb⟩; refine ⟨_, rfl, ?_⟩; have n0_ := Aside0.mk (Kd.N_elder' (nL HO120.out) (Kd.N_base ho0) hb); have n1_ := Aside0.mk (Kd.N_lower (Kd.N_mono (ok' := fun k_ => some k_ ≠ (v119 : Value).ownBlock) ho0 (fun k_ hk_ => Or.elim hk_ (fun hs_ => fun e_ => Nat.not_le.2 hs_ (Kd.N_base HO120.out k_ e_.symm)) (fun hn_ => (Kd.fresh' (Kd.N_lt (nL HO120.out)) k_ hn_)))) (below_size bel)); have n2_ := Aside0.mk (below_step bel hb); clear HO120; clear HB; have HO120 := n0_; have HO123 := n1_; have HB := n2_; clear n0_ n1_ n2_; (try clear hb); (try clear hb2); (try clear hk); (try clear hi); (try clear ho0); obtain ⟨Ao67, co67, eo67⟩ := Kd.N_slice HO120.out; subst eo67) | ((with_reducible refine gate_builtin (b := .append) (xs := #[.tmp 87, .tmp 88]) rfl ?_); (try (refine gate_guard (by rfl) ?_; dsimp only)); at_builtin; refine Kd.N_append_rows (Kd.slice 5 (Kd.int .u8)) (w0 := w) w.heap.size rfl (.tmp 87) (.tmp 88) 23 22 (.slice none 0 0) 24 rfl Tryd.underlying23 info22 rfl (by decide) (by omega) v122 t121 t117 _ _ _ (fun _ => True) (fun k_ => ((fun _ => True)) k_ ∧ some k_ ≠ (v122 : Value).ownBlock) rfl rfl ?aO ?aR (fun _ hk => hk) ?aF ?aB ?aS ?aL ?_; (case aR => exact (by skip; exact Kd.N_F (Kd.N_mono (ok' := (fun k_ => ((fun _ => True)) k_ ∧ some k_ ≠ (v122 : Value).ownBlock)) (HO120.out) (fun k_ hk => ⟨trivial, hk.2⟩)))); (case aB => exact bel); (case aF => exact (fun _ _ => trivial)); (case aO => exact (by (with_reducible repeat (first | apply Kd.N_alloc | apply Kd.N_drewN | apply Kd.N_drew)); exact Kd.N_mono HO123.out (fun _ hk => trivial))); (case aS => exact (below_size bel)); (case aL => have := LMc39.out; omega); intro v125 w66 ho hb hg hat; rw [← Ny124.out] at ho; have n0_ := Aside0.mk (Kd.N_afterv (ok := (fun _ => True)) (nL HO120.out) hg hat); have n1_ := Aside0.mk (hb); have n2_ := Aside0.mk (ho); clear HO120; clear HB; clear HO123; have HO120 := n0_; have HB := n1_; have HO126 := n2_; clear n0_ n1_ n2_; clear ho hb hg hat) | ((with_reducible refine gate_callee (f := 33) rfl ?_); refine goesL_ (some 90) rfl rfl Tryd.func33 (by kernel_rfl) rfl #[] rfl eqA ?_; (with_reducible refine (imprimaturref06_Fixed.calls kj25  t127 _ A40.out).mono ?_); rintro e w68 ⟨v128, rfl, ho0, hb⟩; refine ⟨_, rfl, ?_⟩; have n0_ := Aside0.mk (Kd.N_elder' (nL HO120.out) (Kd.N_base ho0) hb); have n1_ := Aside0.mk (Kd.N_elder' (nL HO126.out) (Kd.N_base ho0) hb); have n2_ := Aside0.mk (Kd.N_lower (Kd.N_mono (ok' := fun k_ => some k_ ≠ (.slice Ao67 t117.length co67 : Value).ownBlock ∧ some k_ ≠ (v125 : Value).ownBlock) ho0 (fun k_ hk_ => ⟨(Kd.fresh' (Kd.N_lt (nL HO120.out)) k_ hk_), (Kd.fresh' (Kd.N_lt (nL HO126.out)) k_ hk_)⟩)) (below_size bel)); have n3_ := Aside0.mk (below_step bel hb); clear HO120; clear HO126; clear HB; have HO120 := n0_; have HO126 := n1_; have HO129 := n2_; have HB := n3_; clear n0_ n1_ n2_ n3_; (try clear hb); (try clear hb2); (try clear hk); (try clear hi); (try clear ho0); obtain ⟨Ao70, co70, eo70⟩ := Kd.N_slice HO129.out; subst eo70) | ((with_reducible refine gate_builtin (b := .append) (xs := #[.tmp 89, .tmp 90]) rfl ?_); (try (refine gate_guard (by rfl) ?_; dsimp only)); at_builtin; refine Kd.N_append_rows (Kd.slice 5 (Kd.int .u8)) (w0 := w) w.heap.size rfl (.tmp 89) (.tmp 90) 23 22 (.slice none 0 0) 24 rfl Tryd.underlying23 info22 rfl (by decide) (by omega) v125 y124 t127 _ _ _ (fun _ => True) (fun k_ => ((fun _ => True)) k_ ∧ some k_ ≠ (v125 : Value).ownBlock) rfl rfl ?aO ?aR (fun _ hk => hk) ?aF ?aB ?aS ?aL ?_; (case aR => exact (by skip; exact Kd.N_F (Kd.N_mono (ok' := (fun k_ => ((fun _ => True)) k_ ∧ some k_ ≠ (v125 : Value).ownBlock)) (HO129.out) (fun k_ hk => ⟨trivial, hk.2⟩)))); (case aB => exact bel); (case aF => exact (fun _ _ => trivial)); (case aO => exact (by (with_reducible repeat (first | apply Kd.N_alloc | apply Kd.N_drewN | apply Kd.N_drew)); exact Kd.N_mono HO126.out (fun _ hk => trivial))); (case aS => exact (below_size bel)); (case aL => have := LMc41.out; omega); intro v131 w69 ho hb hg hat; rw [← Ny130.out] at ho; have n0_ := Aside0.mk (Kd.N_afterv (ok := (fun k_ => some k_ ≠ (.slice Ao70 t127.length co70 : Value).ownBlock)) (by (with_reducible repeat (first | apply Kd.N_alloc | apply Kd.N_drewN | apply Kd.N_drew)); exact Kd.N_mono HO120.out (fun _ hk => ⟨hk.2, hk.1.2⟩)) hg hat); have n1_ := Aside0.mk (Kd.N_afterv (ok := (fun k_ => some k_ ≠ (.slice Ao67 t117.length co67 : Value).ownBlock)) (nL HO129.out) hg hat); have n2_ := Aside0.mk (hb); have n3_ := Aside0.mk (ho); clear HO120; clear HO129; clear HB; clear HO126; have HO120 := n0_; have HO129 := n1_; have HB := n2_; have HO132 := n3_; clear n0_ n1_ n2_ n3_; clear ho hb hg hat) | ((with_reducible refine gate_callee (f := 15) rfl ?_); refine goesL_ (some 92) rfl rfl Tryd.func15 (by kernel_rfl) rfl #[] rfl eqA ?_; (with_reducible refine (imprimaturlaw06_known.calls  false _ (Glb.of HG bel) A42.out).mono ?_); rintro e w71 ⟨rfl, hb⟩; refine ⟨_, rfl, ?_⟩; have n0_ := Aside0.mk (Kd.N_below (nL HO120.out) hb); have n1_ := Aside0.mk (Kd.N_below (nL HO129.out) hb); have n2_ := Aside0.mk (Kd.N_below (nL HO132.out) hb); have n3_ := Aside0.mk (below_step bel hb); clear HO120; clear HO129; clear HO132; clear HB; have HO120 := n0_; have HO129 := n1_; have HO132 := n2_; have HB := n3_; clear n0_ n1_ n2_ n3_; (try clear hb); (try clear hb2); (try clear hk); (try clear hi)))
              go_ret
              exact ⟨by first | rfl | (simp [errW_none, errW_some] <;> rfl) | (simp [*, errW_none, errW_some] <;> rfl), by repeat (first | (with_reducible first | exact HB.out | apply below_alloc | apply pw_below_drewN | apply below_drew1) | exact HB.out)⟩
            ·rw [if_neg c41] at H
             exact absurd H (by simp)
           ·rw [if_neg c39] at H
            exact absurd H (by simp)

end Go.Proofs.YtdpdmmbdoeefbaaDoor.POn
