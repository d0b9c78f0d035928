-- Written by a program of this session, after the print of the kit.
import Derived.Test.YtdpdmmbdoeefbaaDoorWC
import Derived.Test.YtdpdmmbdoeefbaaDoorPSpx0
namespace Go.Proofs.YtdpdmmbdoeefbaaDoor.PSp
open Go.RowKit X PCut PCa PCs PCo PCr PRa PPw PPv PRb PRc PRd PRe PUp PCl YtdpdmmbdoeefbaaDoorW.PrintWords YtdpdmmbdoeefbaaDoorW.PrintLast YtdpdmmbdoeefbaaDoorW.PrintMore
attribute [local go_sem] max2_int min2_int max_two min_two max_three min_three max_four min_four   -- for this text's walks alone
set_option linter.unusedVariables false
set_option linter.unusedSimpArgs false

/-! ### imprimaturlaw06_MerkleSpans: function 13 -/
mutual
def imprimaturlaw06_MerkleSpans.j0 : Nat → List (List Int) → Int → Int → Int → Int → List (List Int) → List (List Int) → Bool → Option (Bool)
 | 0, _, _, _, _, _, _, _, _ => none
 | k + 1, x0, x1, x2, x3, x4, x5, x6, x45 => if x45 = true then ((imprimaturlaw06_known.f).bind fun t104 => (some t104)) else ((merkle_Root.f k x0).bind fun bt105 => (if bt105.2 = 0 then ((imprimaturref01_Among.f x1 (x0.length : Int)).bind fun t110 => ((imprimaturref01_Among.f x2 (wrap64 ((x0.length : Int) - t110))).bind fun t111 => ((merkle_ProveRange.f k x0 t110 (wrap64 ((wrap64 (t110 + 1)) + t111))).bind fun bt112 => (if bt112.2 = 0 then (if 0 ≤ t110 then (if t110 ≤ (wrap64 ((wrap64 (t110 + 1)) + t111)) then (if (wrap64 ((wrap64 (t110 + 1)) + t111)) ≤ (x0.length : Int) then ((merkle_CheckRange.f bt105.1 (x0.length : Int) t110 ((x0.take ((wrap64 ((wrap64 (t110 + 1)) + t111)) : Int).toNat).drop (t110 : Int).toNat) bt112.1).bind fun t120 => (imprimaturlaw06_MerkleSpans.j1 k x0 x3 x4 x5 x6 bt105.1 (t120 != 0))) else (none)) else (none)) else (none)) else (imprimaturlaw06_MerkleSpans.j1 k x0 x3 x4 x5 x6 bt105.1 true))))) else ((imprimaturlaw06_known.f).bind fun t109 => (some t109))))
def imprimaturlaw06_MerkleSpans.j1 : Nat → List (List Int) → Int → Int → List (List Int) → List (List Int) → List Int → Bool → Option (Bool)
 | 0, _, _, _, _, _, _, _ => none
 | k + 1, x0, x3, x4, x5, x6, x15, x89 => if x89 = true then (some false) else ((merkle_CheckRange.f x15 x3 x4 x5 x6).bind fun t121 => (if t121 = 0 then (if x3 = (x0.length : Int) then (if 0 ≤ x4 then (if x4 ≤ (wrap64 (x4 + (x5.length : Int))) then (if (wrap64 (x4 + (x5.length : Int))) ≤ (x0.length : Int) then ((imprimaturref06_Same.f k x5 ((x0.take ((wrap64 (x4 + (x5.length : Int))) : Int).toNat).drop (x4 : Int).toNat)).bind fun t127 => (imprimaturlaw06_MerkleSpans.j2 k x0 x3 x4 x5 x6 t127)) else (none)) else (none)) else (none)) else (imprimaturlaw06_MerkleSpans.j2 k x0 x3 x4 x5 x6 false)) else ((imprimaturlaw06_known.f).bind fun t122 => (some t122))))
def imprimaturlaw06_MerkleSpans.j2 : Nat → List (List Int) → Int → Int → List (List Int) → List (List Int) → Bool → Option (Bool)
 | 0, _, _, _, _, _, _ => none
 | k + 1, x0, x3, x4, x5, x6, x112 => if x112 = true then ((imprimaturref06_ProveRange.f k x0 x4 (wrap64 (x4 + (x5.length : Int)))).bind fun bt128 => ((imprimaturref06_Same.f k bt128.1 x6).bind fun t132 => (if t132 = true then ((imprimaturlaw06_known.f).bind fun t133 => (some t133)) else (imprimaturlaw06_MerkleSpans.j3 k x0 x3 x4 x5 x6)))) else (imprimaturlaw06_MerkleSpans.j3 k x0 x3 x4 x5 x6)
def imprimaturlaw06_MerkleSpans.j3 : Nat → List (List Int) → Int → Int → List (List Int) → List (List Int) → Option (Bool)
 | 0, _, _, _, _, _ => none
 | k + 1, x0, x3, x4, x5, x6 => (imprimaturref06_Climb.f k 0 x3 x4 x5 x6).bind fun bt134 => ((imprimaturref06_RootText.f k x3 bt134.1).bind fun t144 => (if bt134.2.2.1.length < 5864062014805 then ((some (bt134.2.2.1 ++ [t144] : List (List Int))).bind fun y147 => ((imprimaturref06_Texts.f k x0).bind fun t150 => (if y147.length + t150.length < 5864062014805 then ((some (y147 ++ t150 : List (List Int))).bind fun y153 => ((imprimaturref06_Fixed.f k).bind fun t156 => (if y153.length + t156.length < 5864062014805 then ((imprimaturlaw06_known.f).bind fun t162 => (if t162 = true then ((imprimaturref06_Clash.f k (y153 ++ t156)).bind fun t163 => (some t163)) else (some false))) else (none)))) else (none)))) else (none)))
end
def imprimaturlaw06_MerkleSpans.f (k : Nat) (l0 : List (List Int)) (a1 : Int) (a2 : Int) (a3 : Int) (a4 : Int) (l5 : List (List Int)) (l6 : List (List Int)) : Option (Bool) := (imprimaturref06_Size.f k l0 500).bind fun t101 => (if t101 > 500 then (imprimaturlaw06_MerkleSpans.j0 k l0 a1 a2 a3 a4 l5 l6 true) else ((imprimaturref06_Size.f k l5 500).bind fun t102 => (if t102 > 500 then (imprimaturlaw06_MerkleSpans.j0 k l0 a1 a2 a3 a4 l5 l6 true) else ((imprimaturref06_Size.f k l6 500).bind fun t103 => (if t103 > 500 then (imprimaturlaw06_MerkleSpans.j0 k l0 a1 a2 a3 a4 l5 l6 true) else (imprimaturlaw06_MerkleSpans.j0 k l0 a1 a2 a3 a4 l5 l6 ((l0.length : Int) == 0)))))))
theorem imprimaturlaw06_MerkleSpans.mono_l : ∀ k, (∀ y0 y1 y2 y3 y4 y5 y6 y7, LeO (imprimaturlaw06_MerkleSpans.j0 k y0 y1 y2 y3 y4 y5 y6 y7) (imprimaturlaw06_MerkleSpans.j0 (k + 1) y0 y1 y2 y3 y4 y5 y6 y7)) ∧ (∀ y0 y1 y2 y3 y4 y5 y6, LeO (imprimaturlaw06_MerkleSpans.j1 k y0 y1 y2 y3 y4 y5 y6) (imprimaturlaw06_MerkleSpans.j1 (k + 1) y0 y1 y2 y3 y4 y5 y6)) ∧ (∀ y0 y1 y2 y3 y4 y5, LeO (imprimaturlaw06_MerkleSpans.j2 k y0 y1 y2 y3 y4 y5) (imprimaturlaw06_MerkleSpans.j2 (k + 1) y0 y1 y2 y3 y4 y5)) ∧ (∀ y0 y1 y2 y3 y4, LeO (imprimaturlaw06_MerkleSpans.j3 k y0 y1 y2 y3 y4) (imprimaturlaw06_MerkleSpans.j3 (k + 1) y0 y1 y2 y3 y4))
 | 0 => ⟨fun _ _ _ _ _ _ _ _ r h => by simp [imprimaturlaw06_MerkleSpans.j0] at h, fun _ _ _ _ _ _ _ r h => by simp [imprimaturlaw06_MerkleSpans.j1] at h, fun _ _ _ _ _ _ r h => by simp [imprimaturlaw06_MerkleSpans.j2] at h, fun _ _ _ _ _ r h => by simp [imprimaturlaw06_MerkleSpans.j3] at h⟩
 | k + 1 => by
  obtain ⟨ih0, ih1, ih2, ih3⟩ := imprimaturlaw06_MerkleSpans.mono_l k
  refine ⟨?_, ?_, ?_, ?_⟩
  ·intro y0 y1 y2 y3 y4 y5 y6 y7
   unfold imprimaturlaw06_MerkleSpans.j0
   repeat' first
   | (with_reducible exact ih0 _ _ _ _ _ _ _ _)
   | (with_reducible exact ih1 _ _ _ _ _ _ _)
   | (with_reducible exact ih2 _ _ _ _ _ _)
   | (with_reducible exact ih3 _ _ _ _ _)
   | (with_reducible exact imprimaturref06_Clash.mono _ _)
   | (with_reducible exact imprimaturref06_Climb.mono _ _ _ _ _ _)
   | (with_reducible exact imprimaturref06_Fixed.mono _)
   | (with_reducible exact imprimaturref06_ProveRange.mono _ _ _ _)
   | (with_reducible exact imprimaturref06_RootText.mono _ _ _)
   | (with_reducible exact imprimaturref06_Same.mono _ _ _)
   | (with_reducible exact imprimaturref06_Size.mono _ _ _)
   | (with_reducible exact imprimaturref06_Texts.mono _ _)
   | (with_reducible exact merkle_ProveRange.mono _ _ _ _)
   | (with_reducible exact merkle_Root.mono _ _)
   | (with_reducible exact LeO.refl _)
   | (with_reducible exact LeO.none _)
   | (with_reducible refine LeO.ite ?_ ?_)
   | (with_reducible refine LeO.bind ?_ (fun _ => ?_))
  ·intro y0 y1 y2 y3 y4 y5 y6
   unfold imprimaturlaw06_MerkleSpans.j1
   repeat' first
   | (with_reducible exact ih0 _ _ _ _ _ _ _ _)
   | (with_reducible exact ih1 _ _ _ _ _ _ _)
   | (with_reducible exact ih2 _ _ _ _ _ _)
   | (with_reducible exact ih3 _ _ _ _ _)
   | (with_reducible exact imprimaturref06_Clash.mono _ _)
   | (with_reducible exact imprimaturref06_Climb.mono _ _ _ _ _ _)
   | (with_reducible exact imprimaturref06_Fixed.mono _)
   | (with_reducible exact imprimaturref06_ProveRange.mono _ _ _ _)
   | (with_reducible exact imprimaturref06_RootText.mono _ _ _)
   | (with_reducible exact imprimaturref06_Same.mono _ _ _)
   | (with_reducible exact imprimaturref06_Size.mono _ _ _)
   | (with_reducible exact imprimaturref06_Texts.mono _ _)
   | (with_reducible exact merkle_ProveRange.mono _ _ _ _)
   | (with_reducible exact merkle_Root.mono _ _)
   | (with_reducible exact LeO.refl _)
   | (with_reducible exact LeO.none _)
   | (with_reducible refine LeO.ite ?_ ?_)
   | (with_reducible refine LeO.bind ?_ (fun _ => ?_))
  ·intro y0 y1 y2 y3 y4 y5
   unfold imprimaturlaw06_MerkleSpans.j2
   repeat' first
   | (with_reducible exact ih0 _ _ _ _ _ _ _ _)
   | (with_reducible exact ih1 _ _ _ _ _ _ _)
   | (with_reducible exact ih2 _ _ _ _ _ _)
   | (with_reducible exact ih3 _ _ _ _ _)
   | (with_reducible exact imprimaturref06_Clash.mono _ _)
   | (with_reducible exact imprimaturref06_Climb.mono _ _ _ _ _ _)
   | (with_reducible exact imprimaturref06_Fixed.mono _)
   | (with_reducible exact imprimaturref06_ProveRange.mono _ _ _ _)
   | (with_reducible exact imprimaturref06_RootText.mono _ _ _)
   | (with_reducible exact imprimaturref06_Same.mono _ _ _)
   | (with_reducible exact imprimaturref06_Size.mono _ _ _)
   | (with_reducible exact imprimaturref06_Texts.mono _ _)
   | (with_reducible exact merkle_ProveRange.mono _ _ _ _)
   | (with_reducible exact merkle_Root.mono _ _)
   | (with_reducible exact LeO.refl _)
   | (with_reducible exact LeO.none _)
   | (with_reducible refine LeO.ite ?_ ?_)
   | (with_reducible refine LeO.bind ?_ (fun _ => ?_))
  intro y0 y1 y2 y3 y4
  unfold imprimaturlaw06_MerkleSpans.j3
  repeat' first
  | (with_reducible exact ih0 _ _ _ _ _ _ _ _)
  | (with_reducible exact ih1 _ _ _ _ _ _ _)
  | (with_reducible exact ih2 _ _ _ _ _ _)
  | (with_reducible exact ih3 _ _ _ _ _)
  | (with_reducible exact imprimaturref06_Clash.mono _ _)
  | (with_reducible exact imprimaturref06_Climb.mono _ _ _ _ _ _)
  | (with_reducible exact imprimaturref06_Fixed.mono _)
  | (with_reducible exact imprimaturref06_ProveRange.mono _ _ _ _)
  | (with_reducible exact imprimaturref06_RootText.mono _ _ _)
  | (with_reducible exact imprimaturref06_Same.mono _ _ _)
  | (with_reducible exact imprimaturref06_Size.mono _ _ _)
  | (with_reducible exact imprimaturref06_Texts.mono _ _)
  | (with_reducible exact merkle_ProveRange.mono _ _ _ _)
  | (with_reducible exact merkle_Root.mono _ _)
  | (with_reducible exact LeO.refl _)
  | (with_reducible exact LeO.none _)
  | (with_reducible refine LeO.ite ?_ ?_)
  | (with_reducible refine LeO.bind ?_ (fun _ => ?_))
theorem imprimaturlaw06_MerkleSpans.mono : ∀ a0 a1 a2 a3 a4 a5 a6 k, LeO (imprimaturlaw06_MerkleSpans.f k a0 a1 a2 a3 a4 a5 a6) (imprimaturlaw06_MerkleSpans.f (k + 1) a0 a1 a2 a3 a4 a5 a6) := by
 intro a0 a1 a2 a3 a4 a5 a6 k
 obtain ⟨ih0, ih1, ih2, ih3⟩ := imprimaturlaw06_MerkleSpans.mono_l k
 unfold imprimaturlaw06_MerkleSpans.f
 repeat' first
   | (with_reducible exact ih0 _ _ _ _ _ _ _ _)
   | (with_reducible exact ih1 _ _ _ _ _ _ _)
   | (with_reducible exact ih2 _ _ _ _ _ _)
   | (with_reducible exact ih3 _ _ _ _ _)
   | (with_reducible exact imprimaturref06_Clash.mono _ _)
   | (with_reducible exact imprimaturref06_Climb.mono _ _ _ _ _ _)
   | (with_reducible exact imprimaturref06_Fixed.mono _)
   | (with_reducible exact imprimaturref06_ProveRange.mono _ _ _ _)
   | (with_reducible exact imprimaturref06_RootText.mono _ _ _)
   | (with_reducible exact imprimaturref06_Same.mono _ _ _)
   | (with_reducible exact imprimaturref06_Size.mono _ _ _)
   | (with_reducible exact imprimaturref06_Texts.mono _ _)
   | (with_reducible exact merkle_ProveRange.mono _ _ _ _)
   | (with_reducible exact merkle_Root.mono _ _)
   | (with_reducible exact LeO.refl _)
   | (with_reducible exact LeO.none _)
   | (with_reducible refine LeO.ite ?_ ?_)
   | (with_reducible refine LeO.bind ?_ (fun _ => ?_))
set_option maxHeartbeats 8000000 in
set_option maxRecDepth 100000 in
theorem imprimaturlaw06_MerkleSpans.calls (k : Nat) (A0 : Option Addr) (c0 : Nat) (l0 : List (List Int)) (a1 : Int) (a2 : Int) (a3 : Int) (a4 : Int) (A5 : Option Addr) (c5 : Nat) (l5 : List (List Int)) (A6 : Option Addr) (c6 : Nat) (l6 : List (List Int)) (r : Bool) (w : World) (HG : Glb w) (hr0 : Kd.C (Kd.slice 5 (Kd.int .u8)) w A0 l0.length l0) (hc0 : l0.length ≤ c0) (hr5 : Kd.C (Kd.slice 5 (Kd.int .u8)) w A5 l5.length l5) (hc5 : l5.length ≤ c5) (hr6 : Kd.C (Kd.slice 5 (Kd.int .u8)) w A6 l6.length l6) (hc6 : l6.length ≤ c6) (h : imprimaturlaw06_MerkleSpans.f k l0 a1 a2 a3 a4 l5 l6 = some r) :
  Calls Tryd.prog 13 #[.slice A0 l0.length c0, .int .i64 a1, .int .i64 a2, .int .i64 a3, .int .i64 a4, .slice A5 l5.length c5, .slice A6 l6.length c6] w fun e w' => e = .returned (.bool r) ∧ Below w.heap.size w w' := by
 have HR0 := aM hr0
 have HC0 := aM hc0
 clear hr0 hc0
 have HR5 := aM hr5
 have HC5 := aM hc5
 clear hr5 hc5
 have HR6 := aM hr6
 have HC6 := aM hc6
 clear hr6 hc6
 have HB := aM (Below.refl w.heap.size w)
 have H : ((imprimaturref06_Size.f k l0 500).bind fun t101 => (if t101 > 500 then (imprimaturlaw06_MerkleSpans.j0 k l0 a1 a2 a3 a4 l5 l6 true) else ((imprimaturref06_Size.f k l5 500).bind fun t102 => (if t102 > 500 then (imprimaturlaw06_MerkleSpans.j0 k l0 a1 a2 a3 a4 l5 l6 true) else ((imprimaturref06_Size.f k l6 500).bind fun t103 => (if t103 > 500 then (imprimaturlaw06_MerkleSpans.j0 k l0 a1 a2 a3 a4 l5 l6 true) else (imprimaturlaw06_MerkleSpans.j0 k l0 a1 a2 a3 a4 l5 l6 ((l0.length : Int) == 0)))))))) = some r := h
 clear h
 have HC8 := aM H
 clear H
 go_enter Tryd.func13, Tryd.ntmps13
 go_upto_region 1 with (fail)
 go_cut [45] (fun v45 wc => ∃ (kq : Nat) (x45_7 : Bool), v45 = .bool x45_7 ∧ Aside0 (imprimaturlaw06_MerkleSpans.j0 kq l0 a1 a2 a3 a4 l5 l6 x45_7 = some r) ∧ Aside0 (kq ≤ k) ∧ Aside0 (Below w.heap.size w wc))
 case first =>
  have H := HC8.out
  clear HC8
  replace H := Option.bind_eq_some_iff.mp H
  obtain ⟨t101, A90, H⟩ := H
  replace H : (if t101 > 500 then (imprimaturlaw06_MerkleSpans.j0 k l0 a1 a2 a3 a4 l5 l6 true) else ((imprimaturref06_Size.f k l5 500).bind fun t102 => (if t102 > 500 then (imprimaturlaw06_MerkleSpans.j0 k l0 a1 a2 a3 a4 l5 l6 true) else ((imprimaturref06_Size.f k l6 500).bind fun t103 => (if t103 > 500 then (imprimaturlaw06_MerkleSpans.j0 k l0 a1 a2 a3 a4 l5 l6 true) else (imprimaturlaw06_MerkleSpans.j0 k l0 a1 a2 a3 a4 l5 l6 ((l0.length : Int) == 0))))))) = some r := H
  have A9 := aM A90
  clear A90
  by_cases c10 : t101 > 500
  ·rw [if_pos c10] at H
   have c10b0 : decide (500 < t101) = true := decide_eq_true c10
   clear c10
   (first | rw [c10b0] | (simp only [i64_w, i32_w]; rw [c10b0]) | skip)
   have H' := aM H
   clear H
   go_wp2_with (first | ((with_reducible refine gate_callee (f := 14) rfl ?_); refine goesL_ (some 29) rfl rfl Tryd.func14 (by kernel_rfl) rfl #[.slice A0 l0.length c0, .int .i64 500] rfl eqA ?_; (with_reducible refine (imprimaturref06_Size.calls k _ _ l0 500 t101 _ ?side1 ?side2 A9.out).mono ?_); (case side1 => exact cL (Kd.C_below HR0.out HB.out)); (case side2 => exact HC0.out); rintro e w' ⟨rfl, ⟨nd, rfl⟩⟩; refine ⟨_, rfl, ?_⟩))
   go_meet
   case rel => exact ⟨_, (true), rfS, H', omL, ⟨bel⟩⟩
  rw [if_neg c10] at H
  have c10b0 : decide (500 < t101) = false := decide_eq_false c10
  clear c10
  (first | rw [c10b0] | (simp only [i64_w, i32_w]; rw [c10b0]) | skip)
  replace H := Option.bind_eq_some_iff.mp H
  obtain ⟨t102, A110, H⟩ := H
  replace H : (if t102 > 500 then (imprimaturlaw06_MerkleSpans.j0 k l0 a1 a2 a3 a4 l5 l6 true) else ((imprimaturref06_Size.f k l6 500).bind fun t103 => (if t103 > 500 then (imprimaturlaw06_MerkleSpans.j0 k l0 a1 a2 a3 a4 l5 l6 true) else (imprimaturlaw06_MerkleSpans.j0 k l0 a1 a2 a3 a4 l5 l6 ((l0.length : Int) == 0))))) = some r := H
  have A11 := aM A110
  clear A110
  by_cases c12 : t102 > 500
  ·rw [if_pos c12] at H
   have c12b0 : decide (500 < t102) = true := decide_eq_true c12
   clear c12
   have H' := aM H
   clear H
   go_wp2_with (first | ((with_reducible refine gate_callee (f := 14) rfl ?_); refine goesL_ (some 29) rfl rfl Tryd.func14 (by kernel_rfl) rfl #[.slice A0 l0.length c0, .int .i64 500] rfl eqA ?_; (with_reducible refine (imprimaturref06_Size.calls k _ _ l0 500 t101 _ ?side1 ?side2 A9.out).mono ?_); (case side1 => exact cL (Kd.C_below HR0.out HB.out)); (case side2 => exact HC0.out); rintro e w' ⟨rfl, ⟨nd, rfl⟩⟩; refine ⟨_, rfl, ?_⟩) | (go_at_call 14; (with_reducible refine (imprimaturref06_Size.calls k _ _ l5 500 t102 _ ?side1 ?side2 A11.out).mono ?_); (case side1 => exact cL (Kd.C_below HR5.out bel)); (case side2 => exact HC5.out); rintro e w' ⟨rfl, ⟨nd, rfl⟩⟩))
   go_meet
   case rel => exact ⟨_, (true), rfS, H', omL, ⟨bel⟩⟩
  rw [if_neg c12] at H
  have c12b0 : decide (500 < t102) = false := decide_eq_false c12
  clear c12
  replace H := Option.bind_eq_some_iff.mp H
  obtain ⟨t103, A130, H⟩ := H
  replace H : (if t103 > 500 then (imprimaturlaw06_MerkleSpans.j0 k l0 a1 a2 a3 a4 l5 l6 true) else (imprimaturlaw06_MerkleSpans.j0 k l0 a1 a2 a3 a4 l5 l6 ((l0.length : Int) == 0))) = some r := H
  have A13 := aM A130
  clear A130
  by_cases c14 : t103 > 500
  ·rw [if_pos c14] at H
   have c14b0 : decide (500 < t103) = true := decide_eq_true c14
   clear c14
   have H' := aM H
   clear H
   go_wp2_with (first | ((with_reducible refine gate_callee (f := 14) rfl ?_); refine goesL_ (some 29) rfl rfl Tryd.func14 (by kernel_rfl) rfl #[.slice A0 l0.length c0, .int .i64 500] rfl eqA ?_; (with_reducible refine (imprimaturref06_Size.calls k _ _ l0 500 t101 _ ?side1 ?side2 A9.out).mono ?_); (case side1 => exact cL (Kd.C_below HR0.out HB.out)); (case side2 => exact HC0.out); rintro e w' ⟨rfl, ⟨nd, rfl⟩⟩; refine ⟨_, rfl, ?_⟩) | (go_at_call 14; (with_reducible refine (imprimaturref06_Size.calls k _ _ l5 500 t102 _ ?side1 ?side2 A11.out).mono ?_); (case side1 => exact cL (Kd.C_below HR5.out bel)); (case side2 => exact HC5.out); rintro e w' ⟨rfl, ⟨nd, rfl⟩⟩) | (go_at_call 14; (with_reducible refine (imprimaturref06_Size.calls k _ _ l6 500 t103 _ ?side1 ?side2 A13.out).mono ?_); (case side1 => exact cL (Kd.C_below HR6.out bel)); (case side2 => exact HC6.out); rintro e w' ⟨rfl, ⟨nd, rfl⟩⟩))
   go_meet
   case rel => exact ⟨_, (true), rfS, H', omL, ⟨bel⟩⟩
  rw [if_neg c14] at H
  have c14b0 : decide (500 < t103) = false := decide_eq_false c14
  clear c14
  have H' := aM H
  clear H
  go_wp2_with (first | ((with_reducible refine gate_callee (f := 14) rfl ?_); refine goesL_ (some 29) rfl rfl Tryd.func14 (by kernel_rfl) rfl #[.slice A0 l0.length c0, .int .i64 500] rfl eqA ?_; (with_reducible refine (imprimaturref06_Size.calls k _ _ l0 500 t101 _ ?side1 ?side2 A9.out).mono ?_); (case side1 => exact cL (Kd.C_below HR0.out HB.out)); (case side2 => exact HC0.out); rintro e w' ⟨rfl, ⟨nd, rfl⟩⟩; refine ⟨_, rfl, ?_⟩) | (go_at_call 14; (with_reducible refine (imprimaturref06_Size.calls k _ _ l5 500 t102 _ ?side1 ?side2 A11.out).mono ?_); (case side1 => exact cL (Kd.C_below HR5.out bel)); (case side2 => exact HC5.out); rintro e w' ⟨rfl, ⟨nd, rfl⟩⟩) | (go_at_call 14; (with_reducible refine (imprimaturref06_Size.calls k _ _ l6 500 t103 _ ?side1 ?side2 A13.out).mono ?_); (case side1 => exact cL (Kd.C_below HR6.out bel)); (case side2 => exact HC6.out); rintro e w' ⟨rfl, ⟨nd, rfl⟩⟩))
  go_meet
  case rel => exact ⟨_, (((l0.length : Int) == 0)), rfS, H', omL, ⟨bel⟩⟩
 case rest =>
  clear HC8
  obtain ⟨kq, x45_7, rfl, HA, HJ7, HB⟩ := hcut
  cases kq with
  | zero => exact absurd HA.out (by simp [imprimaturlaw06_MerkleSpans.j0])
  | succ kj7 =>
   have H := HA.out
   clear HA
   simp only [imprimaturlaw06_MerkleSpans.j0] at H
   by_cases c15 : x45_7 = true
   ·subst c15
    have H1 : ((imprimaturlaw06_known.f).bind fun t104 => (some t104)) = some r := by rw [if_pos rfl] at H; exact H
    clear H
    have H := H1
    clear H1
    replace H := Option.bind_eq_some_iff.mp H
    obtain ⟨t104, A160, H⟩ := H
    replace H : (some t104) = some r := H
    have A16 := aM A160
    clear A160
    obtain rfl := Option.some.inj H
    go_wp2_with (first | ((with_reducible refine gate_callee (f := 15) rfl ?_); refine goesL_ (some 46) rfl rfl Tryd.func15 (by kernel_rfl) rfl #[] rfl eqA ?_; (with_reducible refine (imprimaturlaw06_known.calls  t104 _ (Glb.of HG bel) A16.out).mono ?_); rintro e w17 ⟨rfl, hb⟩; refine ⟨_, rfl, ?_⟩; replace HB := aM (below_step bel hb); clear hb))
    go_ret
    exact ⟨erR, bel⟩
   replace c15 := Bool.eq_false_iff.mpr c15
   subst c15
   have H1 : ((merkle_Root.f kj7 l0).bind fun bt105 => (if bt105.2 = 0 then ((imprimaturref01_Among.f a1 (l0.length : Int)).bind fun t110 => ((imprimaturref01_Among.f a2 (wrap64 ((l0.length : Int) - t110))).bind fun t111 => ((merkle_ProveRange.f kj7 l0 t110 (wrap64 ((wrap64 (t110 + 1)) + t111))).bind fun bt112 => (if bt112.2 = 0 then (if 0 ≤ t110 then (if t110 ≤ (wrap64 ((wrap64 (t110 + 1)) + t111)) then (if (wrap64 ((wrap64 (t110 + 1)) + t111)) ≤ (l0.length : Int) then ((merkle_CheckRange.f bt105.1 (l0.length : Int) t110 ((l0.take ((wrap64 ((wrap64 (t110 + 1)) + t111)) : Int).toNat).drop (t110 : Int).toNat) bt112.1).bind fun t120 => (imprimaturlaw06_MerkleSpans.j1 kj7 l0 a3 a4 l5 l6 bt105.1 (t120 != 0))) else (none)) else (none)) else (none)) else (imprimaturlaw06_MerkleSpans.j1 kj7 l0 a3 a4 l5 l6 bt105.1 true))))) else ((imprimaturlaw06_known.f).bind fun t109 => (some t109)))) = some r := by rw [if_neg (show ¬ (false = true) by decide)] at H; exact H
   clear H
   have H := H1
   clear H1
   replace H := Option.bind_eq_some_iff.mp H
   obtain ⟨⟨t105, t106⟩, A180, H⟩ := H
   replace H : (if t106 = 0 then ((imprimaturref01_Among.f a1 (l0.length : Int)).bind fun t110 => ((imprimaturref01_Among.f a2 (wrap64 ((l0.length : Int) - t110))).bind fun t111 => ((merkle_ProveRange.f kj7 l0 t110 (wrap64 ((wrap64 (t110 + 1)) + t111))).bind fun bt112 => (if bt112.2 = 0 then (if 0 ≤ t110 then (if t110 ≤ (wrap64 ((wrap64 (t110 + 1)) + t111)) then (if (wrap64 ((wrap64 (t110 + 1)) + t111)) ≤ (l0.length : Int) then ((merkle_CheckRange.f t105 (l0.length : Int) t110 ((l0.take ((wrap64 ((wrap64 (t110 + 1)) + t111)) : Int).toNat).drop (t110 : Int).toNat) bt112.1).bind fun t120 => (imprimaturlaw06_MerkleSpans.j1 kj7 l0 a3 a4 l5 l6 t105 (t120 != 0))) else (none)) else (none)) else (none)) else (imprimaturlaw06_MerkleSpans.j1 kj7 l0 a3 a4 l5 l6 t105 true))))) else ((imprimaturlaw06_known.f).bind fun t109 => (some t109))) = some r := H
   have A18 := aM A180
   clear A180
   by_cases c19 : t106 = 0
   rotate_left
   ·rw [if_neg c19] at H
    have c19b0 : (t106 == 0) = false := beq_eq_false_iff_ne.mpr c19
    have c19b1 : (t106 != 0) = true := bne_iff_ne.mpr c19
    replace H := Option.bind_eq_some_iff.mp H
    obtain ⟨t109, A980, H⟩ := H
    replace H : (some t109) = some r := H
    have A98 := aM A980
    clear A980
    obtain rfl := Option.some.inj H
    go_wp2_with (first | ((with_reducible refine gate_callee (f := 28) rfl ?_); refine goesL_ (some 49) rfl rfl Tryd.func28 (by kernel_rfl) rfl #[.slice A0 l0.length c0] rfl eqA ?_; (with_reducible refine (merkle_Root.calls kj7 _ _ l0 t105 t106 _ (Glb.of HG bel) ?side1 ?side2 A18.out).mono ?_); (case side1 => exact cL (Kd.C_below HR0.out HB.out)); (case side2 => exact HC0.out); rintro e w99 ⟨v107, rfl, ho0, hb⟩; refine ⟨_, rfl, ?_⟩; have HO108 := aM (Kd.R_lower ho0 (below_size bel)); replace HB := aM (below_step bel hb); clear hb ho0) | ((with_reducible refine gate_callee (f := 15) rfl ?_); refine goesL_ (some 54) rfl rfl Tryd.func15 (by kernel_rfl) rfl #[] rfl eqA ?_; (with_reducible refine (imprimaturlaw06_known.calls  t109 _ (Glb.of HG bel) A98.out).mono ?_); rintro e w100 ⟨rfl, hb⟩; refine ⟨_, rfl, ?_⟩; replace HO108 := aM (Kd.R_below (rL HO108.out) hb); replace HB := aM (below_step bel hb); clear hb))
    go_ret
    exact ⟨erR, bel⟩

   rw [if_pos c19] at H
   have c19b0 : (t106 == 0) = true := beq_iff_eq.mpr c19
   have c19b1 : (t106 != 0) = false := bne_eq_false_iff_eq.mpr c19
   clear c19
   replace H := Option.bind_eq_some_iff.mp H
   obtain ⟨t110, A200, H⟩ := H
   replace H : ((imprimaturref01_Among.f a2 (wrap64 ((l0.length : Int) - t110))).bind fun t111 => ((merkle_ProveRange.f kj7 l0 t110 (wrap64 ((wrap64 (t110 + 1)) + t111))).bind fun bt112 => (if bt112.2 = 0 then (if 0 ≤ t110 then (if t110 ≤ (wrap64 ((wrap64 (t110 + 1)) + t111)) then (if (wrap64 ((wrap64 (t110 + 1)) + t111)) ≤ (l0.length : Int) then ((merkle_CheckRange.f t105 (l0.length : Int) t110 ((l0.take ((wrap64 ((wrap64 (t110 + 1)) + t111)) : Int).toNat).drop (t110 : Int).toNat) bt112.1).bind fun t120 => (imprimaturlaw06_MerkleSpans.j1 kj7 l0 a3 a4 l5 l6 t105 (t120 != 0))) else (none)) else (none)) else (none)) else (imprimaturlaw06_MerkleSpans.j1 kj7 l0 a3 a4 l5 l6 t105 true)))) = some r := H
   have A20 := aM A200
   clear A200
   replace H := Option.bind_eq_some_iff.mp H
   obtain ⟨t111, A210, H⟩ := H
   replace H : ((merkle_ProveRange.f kj7 l0 t110 (wrap64 ((wrap64 (t110 + 1)) + t111))).bind fun bt112 => (if bt112.2 = 0 then (if 0 ≤ t110 then (if t110 ≤ (wrap64 ((wrap64 (t110 + 1)) + t111)) then (if (wrap64 ((wrap64 (t110 + 1)) + t111)) ≤ (l0.length : Int) then ((merkle_CheckRange.f t105 (l0.length : Int) t110 ((l0.take ((wrap64 ((wrap64 (t110 + 1)) + t111)) : Int).toNat).drop (t110 : Int).toNat) bt112.1).bind fun t120 => (imprimaturlaw06_MerkleSpans.j1 kj7 l0 a3 a4 l5 l6 t105 (t120 != 0))) else (none)) else (none)) else (none)) else (imprimaturlaw06_MerkleSpans.j1 kj7 l0 a3 a4 l5 l6 t105 true))) = some r := H
   have A21 := aM A210
   clear A210
   replace H := Option.bind_eq_some_iff.mp H
   obtain ⟨⟨t112, t115⟩, A220, H⟩ := H
   replace H : (if t115 = 0 then (if 0 ≤ t110 then (if t110 ≤ (wrap64 ((wrap64 (t110 + 1)) + t111)) then (if (wrap64 ((wrap64 (t110 + 1)) + t111)) ≤ (l0.length : Int) then ((merkle_CheckRange.f t105 (l0.length : Int) t110 ((l0.take ((wrap64 ((wrap64 (t110 + 1)) + t111)) : Int).toNat).drop (t110 : Int).toNat) t112).bind fun t120 => (imprimaturlaw06_MerkleSpans.j1 kj7 l0 a3 a4 l5 l6 t105 (t120 != 0))) else (none)) else (none)) else (none)) else (imprimaturlaw06_MerkleSpans.j1 kj7 l0 a3 a4 l5 l6 t105 true)) = some r := H
   have A22 := aM A220
   clear A220
   have HC23 := aM H
   clear H
   go_upto_region 9 with (first | ((with_reducible refine gate_callee (f := 28) rfl ?_); refine goesL_ (some 49) rfl rfl Tryd.func28 (by kernel_rfl) rfl #[.slice A0 l0.length c0] rfl eqA ?_; (with_reducible refine (merkle_Root.calls kj7 _ _ l0 t105 t106 _ (Glb.of HG bel) ?side1 ?side2 A18.out).mono ?_); (case side1 => exact cL (Kd.C_below HR0.out HB.out)); (case side2 => exact HC0.out); rintro e w24 ⟨v107, rfl, ho0, hb⟩; refine ⟨_, rfl, ?_⟩; have HO108 := aM (Kd.R_lower ho0 (below_size bel)); replace HB := aM (below_step bel hb); clear hb ho0) | ((with_reducible refine gate_callee (f := 35) rfl ?_); refine goesL_ (some 58) rfl rfl Tryd.func35 (by kernel_rfl) rfl #[.int .i64 a1, .int .i64 (l0.length : Int)] rfl eqA ?_; (with_reducible refine (imprimaturref01_Among.calls a1 (l0.length : Int) t110 _ A20.out).mono ?_); rintro e w' ⟨rfl, ⟨nd, rfl⟩⟩; refine ⟨_, rfl, ?_⟩) | ((with_reducible refine gate_callee (f := 35) rfl ?_); refine goesL_ (some 66) rfl rfl Tryd.func35 (by kernel_rfl) rfl #[.int .i64 a2, .int .i64 (wrap64 ((l0.length : Int) - t110))] rfl eqA ?_; (with_reducible refine (imprimaturref01_Among.calls a2 (wrap64 ((l0.length : Int) - t110)) t111 _ A21.out).mono ?_); rintro e w' ⟨rfl, ⟨nd, rfl⟩⟩; refine ⟨_, rfl, ?_⟩) | ((with_reducible refine gate_callee (f := 46) rfl ?_); refine goesL_ (some 72) rfl rfl Tryd.func46 (by kernel_rfl) rfl #[.slice A0 l0.length c0, .int .i64 t110, .int .i64 (wrap64 ((wrap64 (t110 + 1)) + t111))] rfl eqA ?_; (with_reducible refine (merkle_ProveRange.calls kj7 (fun k_ => k_ < w.heap.size) _ _ l0 t110 (wrap64 ((wrap64 (t110 + 1)) + t111)) t112 t115 _ (Glb.of HG bel) ?side1 A22.out).mono ?_); (case side1 => exact Kd.V_mk HC0.out (Kd.F_below (Kd.C_F (Kd.heap_slice 5 (Kd.heap_int .u8)) HR0.out) bel)); rintro e w25 ⟨v113, rfl, ho0, hb⟩; refine ⟨_, rfl, ?_⟩; have HO114 := aM (Kd.N_lower (Kd.N_mono (ok' := fun k_ => some k_ ≠ (v107 : Value).ownBlock) ho0 (fun k_ hk_ => Or.elim hk_ (fun hs_ => fun e_ => Nat.not_le.2 hs_ (Kd.R_base HO108.out k_ e_.symm)) (fun hn_ => (Kd.fresh' (Kd.R_lt (rL HO108.out)) k_ hn_)))) (below_size bel)); replace HO108 := aM (Kd.R_below (rL HO108.out) hb); replace HB := aM (below_step bel hb); clear hb ho0))
   (try simp only [Act.put, List.setIfInBounds_toArray, List.set_cons_zero, List.set_cons_succ])
   go_cut [89] (fun v89 wc => ∃ (kq : Nat) (x89_22 : Bool), v89 = .bool x89_22 ∧ Aside0 (imprimaturlaw06_MerkleSpans.j1 kq l0 a3 a4 l5 l6 t105 x89_22 = some r) ∧ Aside0 (kq ≤ kj7) ∧ Aside0 (Kd.R (Kd.int .u8) 5 wc w.heap.size (fun _ => True) v107 t105) ∧ Aside0 (Below w.heap.size w wc))
   case first =>
    have H := HC23.out
    clear HC23
    by_cases c26 : t115 = 0
    rotate_left
    ·rw [if_neg c26] at H
     have c26b0 : (t115 == 0) = false := beq_eq_false_iff_ne.mpr c26
     have c26b1 : (t115 != 0) = true := bne_iff_ne.mpr c26
     (first | rw [c26b0] | (simp only [i64_w, i32_w]; rw [c26b0]) | skip)
     have H' := aM H
     clear H
     go_wp2
     go_meet
     case rel => exact ⟨_, (true), rfS, H', ⟨by have := HJ7.out; first | omega | exact Nat.le_refl _⟩, ⟨by (with_reducible repeat (first | apply Kd.R_alloc | apply Kd.R_drewN | apply Kd.R_drew)); exact HO108.out⟩, ⟨bel⟩⟩
    rw [if_pos c26] at H
    have c26b0 : (t115 == 0) = true := beq_iff_eq.mpr c26
    have c26b1 : (t115 != 0) = false := bne_eq_false_iff_eq.mpr c26
    clear c26
    (first | rw [c26b0] | (simp only [i64_w, i32_w]; rw [c26b0]) | skip)
    by_cases c27 : 0 ≤ t110
    rotate_left
    ·rw [if_neg c27] at H
     exact absurd H (by simp)
    rw [if_pos c27] at H
    have c27b0 := eq_true c27
    have c27b1 : decide (0 ≤ t110) = true := decide_eq_true c27
    clear c27
    by_cases c28 : t110 ≤ (wrap64 ((wrap64 (t110 + 1)) + t111))
    rotate_left
    ·rw [if_neg c28] at H
     exact absurd H (by simp)
    rw [if_pos c28] at H
    have c28b0 := eq_true c28
    have c28b1 : decide (t110 ≤ (wrap64 ((wrap64 (t110 + 1)) + t111))) = true := decide_eq_true c28
    by_cases c29 : (wrap64 ((wrap64 (t110 + 1)) + t111)) ≤ (l0.length : Int)
    rotate_left
    ·rw [if_neg c29] at H
     exact absurd H (by simp)
    rw [if_pos c29] at H
    have c29b0 := eq_true c29
    have c29b1 : decide ((wrap64 ((wrap64 (t110 + 1)) + t111)) ≤ (l0.length : Int)) = true := decide_eq_true c29
    obtain ⟨y116, hy116⟩ : ∃ y_ : List (List Int), y_ = ((l0.take ((wrap64 ((wrap64 (t110 + 1)) + t111)) : Int).toNat).drop (t110 : Int).toNat) := ⟨_, rfl⟩
    replace H : ((merkle_CheckRange.f t105 (l0.length : Int) t110 y116 t112).bind fun t120 => (imprimaturlaw06_MerkleSpans.j1 kj7 l0 a3 a4 l5 l6 t105 (t120 != 0))) = some r := hyA hy116 H
    have Ny116 := aM hy116
    clear hy116
    replace H := Option.bind_eq_some_iff.mp H
    obtain ⟨t120, A300, H⟩ := H
    replace H : (imprimaturlaw06_MerkleSpans.j1 kj7 l0 a3 a4 l5 l6 t105 (t120 != 0)) = some r := H
    have A30 := aM A300
    clear A300
    have H' := aM H
    clear H
    have q31 : ((wrap64 ((wrap64 (t110 + 1)) + t111)) : Int) ≤ ((l0.length : Int) : Int) := of_decide_eq_true asm_
    obtain ⟨i031, hi031, _, hsz31, _⟩ := info_parts info22
    have hroom31 : l0.length ≤ c0 := HC0.out
    have hC31 : Kd.C (Kd.slice 5 (Kd.int .u8)) _ A0 l0.length l0 := HR0.out
    have ql31 : (t110 : Int) ≤ ((wrap64 ((wrap64 (t110 + 1)) + t111)) : Int) := of_decide_eq_true asm_
    have q031 : (0 : Int) ≤ (t110 : Int) := of_decide_eq_true asm_
    have hcut31 := cut_mid (P := Tryd.prog) 23 22 .i64 .i64 Tryd.underlying23 hi031 1 hsz31 A0 l0.length c0 t110 (wrap64 ((wrap64 (t110 + 1)) + t111)) q031 ql31 q31 hroom31
    have hr31 := Kd.C_mid (lo := (t110 : Int).toNat) (hi := ((wrap64 ((wrap64 (t110 + 1)) + t111)) : Int).toNat) (c := c0) hC31 (by omega) (by omega) hroom31
    obtain ⟨A31, hA31⟩ : ∃ A1, A1 = (if c0 = (t110 : Int).toNat then A0 else (A0 : Option Addr).map (·.add ((t110 : Int).toNat * 1))) := ⟨_, rfl⟩
    obtain ⟨c31, hc31⟩ : ∃ c1, c1 = c0 - (t110 : Int).toNat := ⟨_, rfl⟩
    have hy31 : y116.length = ((wrap64 ((wrap64 (t110 + 1)) + t111)) : Int).toNat - (t110 : Int).toNat := (by rw [Ny116.out, List.length_drop, List.length_take] <;> omega)
    rw [show ((l0).take ((wrap64 ((wrap64 (t110 + 1)) + t111)) : Int).toNat).drop (t110 : Int).toNat = y116 from Ny116.out.symm] at hr31
    replace hr31 : Kd.C (Kd.slice 5 (Kd.int .u8)) _ A31 y116.length y116 := (by rw [hA31]; exact hr31)
    rw [← hy31, ← hA31, ← hc31] at hcut31
    have HR119 := aM hr31
    have HC119 := aM (show y116.length ≤ c31 from by rw [hy31, hc31]; exact Nat.sub_le_sub_right (Nat.le_trans (by omega) hroom31) _)
    clear hr31 hC31 hroom31 hi031 hsz31 hc31
    have KY31 := aM hy31
    have KA31 := aM hA31
    clear hy31 hA31
    replace q31 := eq_true q31
    obtain ⟨Ao32, co32, eo32⟩ := Kd.R_slice HO108.out
    subst eo32
    obtain ⟨Ao33, co33, eo33⟩ := Kd.N_slice HO114.out
    subst eo33
    go_wp2_with (first | (go_at_call 48; (with_reducible refine (merkle_CheckRange.calls _ _ t105 (l0.length : Int) t110 _ _ y116 _ _ t112 t120 _ (Glb.of HG bel) ?side1 ?side2 ?side3 ?side4 ?side5 ?side6 A30.out).mono ?_); (case side1 => exact cL (Kd.R_reads' HO108.out).2.2); (case side2 => exact (Kd.R_reads' HO108.out).2.1); (case side3 => exact cL (Kd.C_below HR119.out HB.out)); (case side4 => exact HC119.out); (case side5 => exact cL (Kd.N_reads' HO114.out).2.2); (case side6 => exact (Kd.N_reads' HO114.out).2.1); rintro e w34 ⟨rfl, hb⟩; replace HO108 := aM (Kd.R_below (rL HO108.out) hb); replace HO114 := aM (Kd.N_below (nL HO114.out) hb); replace HB := aM (below_step bel hb); clear hb))
    go_meet
    case rel => exact ⟨_, ((t120 != 0)), rfS, H', ⟨by have := HJ7.out; first | omega | exact Nat.le_refl _⟩, ⟨by (with_reducible repeat (first | apply Kd.R_alloc | apply Kd.R_drewN | apply Kd.R_drew)); exact HO108.out⟩, ⟨bel⟩⟩
   case rest =>
    clear HC23
    try clear c15
    try clear c19
    try clear c19b0
    try clear c19b1
    obtain ⟨kq, x89_22, rfl, HA, HJ22, HO_15, HB⟩ := hcut
    cases kq with
    | zero => exact absurd HA.out (by simp [imprimaturlaw06_MerkleSpans.j1])
    | succ kj22 =>
     have H := HA.out
     clear HA
     simp only [imprimaturlaw06_MerkleSpans.j1] at H
     by_cases c35 : x89_22 = true
     ·subst c35
      have H1 : (some false) = some r := by rw [if_pos rfl] at H; exact H
      clear H
      have H := H1
      clear H1
      obtain rfl := Option.some.inj H
      go_wp2
      go_ret
      exact ⟨erR, bel⟩
     replace c35 := Bool.eq_false_iff.mpr c35
     subst c35
     have H1 : ((merkle_CheckRange.f t105 a3 a4 l5 l6).bind fun t121 => (if t121 = 0 then (if a3 = (l0.length : Int) then (if 0 ≤ a4 then (if a4 ≤ (wrap64 (a4 + (l5.length : Int))) then (if (wrap64 (a4 + (l5.length : Int))) ≤ (l0.length : Int) then ((imprimaturref06_Same.f kj22 l5 ((l0.take ((wrap64 (a4 + (l5.length : Int))) : Int).toNat).drop (a4 : Int).toNat)).bind fun t127 => (imprimaturlaw06_MerkleSpans.j2 kj22 l0 a3 a4 l5 l6 t127)) else (none)) else (none)) else (none)) else (imprimaturlaw06_MerkleSpans.j2 kj22 l0 a3 a4 l5 l6 false)) else ((imprimaturlaw06_known.f).bind fun t122 => (some t122)))) = some r := by rw [if_neg (show ¬ (false = true) by decide)] at H; exact H
     clear H
     have H := H1
     clear H1
     replace H := Option.bind_eq_some_iff.mp H
     obtain ⟨t121, A360, H⟩ := H
     replace H : (if t121 = 0 then (if a3 = (l0.length : Int) then (if 0 ≤ a4 then (if a4 ≤ (wrap64 (a4 + (l5.length : Int))) then (if (wrap64 (a4 + (l5.length : Int))) ≤ (l0.length : Int) then ((imprimaturref06_Same.f kj22 l5 ((l0.take ((wrap64 (a4 + (l5.length : Int))) : Int).toNat).drop (a4 : Int).toNat)).bind fun t127 => (imprimaturlaw06_MerkleSpans.j2 kj22 l0 a3 a4 l5 l6 t127)) else (none)) else (none)) else (none)) else (imprimaturlaw06_MerkleSpans.j2 kj22 l0 a3 a4 l5 l6 false)) else ((imprimaturlaw06_known.f).bind fun t122 => (some t122))) = some r := H
     have A36 := aM A360
     clear A360
     by_cases c37 : t121 = 0
     rotate_left
     ·rw [if_neg c37] at H
      have c37b0 : (t121 == 0) = false := beq_eq_false_iff_ne.mpr c37
      have c37b1 : (t121 != 0) = true := bne_iff_ne.mpr c37
      replace H := Option.bind_eq_some_iff.mp H
      obtain ⟨t122, A940, H⟩ := H
      replace H : (some t122) = some r := H
      have A94 := aM A940
      clear A940
      obtain rfl := Option.some.inj H
      obtain ⟨Ao95, co95, eo95⟩ := Kd.R_slice HO_15.out
      subst eo95
      go_wp2_with (first | ((with_reducible refine gate_callee (f := 48) rfl ?_); refine goesL_ (some 95) rfl rfl Tryd.func48 (by kernel_rfl) rfl #[.slice Ao95 t105.length co95, .int .i64 a3, .int .i64 a4, .slice A5 l5.length c5, .slice A6 l6.length c6] rfl eqA ?_; (with_reducible refine (merkle_CheckRange.calls _ _ t105 a3 a4 _ _ l5 _ _ l6 t121 _ (Glb.of HG bel) ?side1 ?side2 ?side3 ?side4 ?side5 ?side6 A36.out).mono ?_); (case side1 => exact cL (Kd.R_reads' HO_15.out).2.2); (case side2 => exact (Kd.R_reads' HO_15.out).2.1); (case side3 => exact cL (Kd.C_below HR5.out HB.out)); (case side4 => exact HC5.out); (case side5 => exact cL (Kd.C_below HR6.out HB.out)); (case side6 => exact HC6.out); rintro e w96 ⟨rfl, hb⟩; refine ⟨_, rfl, ?_⟩; replace HO_15 := aM (Kd.R_below (rL HO_15.out) hb); replace HB := aM (below_step bel hb); clear hb) | ((with_reducible refine gate_callee (f := 15) rfl ?_); refine goesL_ (some 97) rfl rfl Tryd.func15 (by kernel_rfl) rfl #[] rfl eqA ?_; (with_reducible refine (imprimaturlaw06_known.calls  t122 _ (Glb.of HG bel) A94.out).mono ?_); rintro e w97 ⟨rfl, hb⟩; refine ⟨_, rfl, ?_⟩; replace HO_15 := aM (Kd.R_below (rL HO_15.out) hb); replace HB := aM (below_step bel hb); clear hb))
      go_ret
      exact ⟨erR, bel⟩
     rw [if_pos c37] at H
     have c37b0 : (t121 == 0) = true := beq_iff_eq.mpr c37
     have c37b1 : (t121 != 0) = false := bne_eq_false_iff_eq.mpr c37
     clear c37
     have HC38 := aM H
     clear H
     obtain ⟨Ao39, co39, eo39⟩ := Kd.R_slice HO_15.out
     subst eo39
     go_upto_region 13 with (first | ((with_reducible refine gate_callee (f := 48) rfl ?_); refine goesL_ (some 95) rfl rfl Tryd.func48 (by kernel_rfl) rfl #[.slice Ao39 t105.length co39, .int .i64 a3, .int .i64 a4, .slice A5 l5.length c5, .slice A6 l6.length c6] rfl eqA ?_; (with_reducible refine (merkle_CheckRange.calls _ _ t105 a3 a4 _ _ l5 _ _ l6 t121 _ (Glb.of HG bel) ?side1 ?side2 ?side3 ?side4 ?side5 ?side6 A36.out).mono ?_); (case side1 => exact cL (Kd.R_reads' HO_15.out).2.2); (case side2 => exact (Kd.R_reads' HO_15.out).2.1); (case side3 => exact cL (Kd.C_below HR5.out HB.out)); (case side4 => exact HC5.out); (case side5 => exact cL (Kd.C_below HR6.out HB.out)); (case side6 => exact HC6.out); rintro e w40 ⟨rfl, hb⟩; refine ⟨_, rfl, ?_⟩; replace HO_15 := aM (Kd.R_below (rL HO_15.out) hb); replace HB := aM (below_step bel hb); clear hb))
     (try simp only [Act.put, List.setIfInBounds_toArray, List.set_cons_zero, List.set_cons_succ])
     go_cut [112] (fun v112 wc => ∃ (kq : Nat) (x112_37 : Bool), v112 = .bool x112_37 ∧ Aside0 (imprimaturlaw06_MerkleSpans.j2 kq l0 a3 a4 l5 l6 x112_37 = some r) ∧ Aside0 (kq ≤ kj22) ∧ Aside0 (Below w.heap.size w wc))
     case first =>
      have H := HC38.out
      clear HC38
      by_cases c41 : a3 = (l0.length : Int)
      rotate_left
      ·rw [if_neg c41] at H
       have c41b0 : (a3 == (l0.length : Int)) = false := beq_eq_false_iff_ne.mpr c41
       have c41b1 : (a3 != (l0.length : Int)) = true := bne_iff_ne.mpr c41
       (first | rw [c41b0] | (simp only [i64_w, i32_w]; rw [c41b0]) | skip)
       have H' := aM H
       clear H
       go_wp2
       go_meet
       case rel => exact ⟨_, (false), rfS, H', ⟨by have := HJ7.out; have := HJ22.out; first | omega | exact Nat.le_refl _⟩, ⟨bel⟩⟩
      rw [if_pos c41] at H
      have c41b0 : (a3 == (l0.length : Int)) = true := beq_iff_eq.mpr c41
      have c41b1 : (a3 != (l0.length : Int)) = false := bne_eq_false_iff_eq.mpr c41
      clear c41
      (first | rw [c41b0] | (simp only [i64_w, i32_w]; rw [c41b0]) | skip)
      by_cases c42 : 0 ≤ a4
      rotate_left
      ·rw [if_neg c42] at H
       exact absurd H (by simp)
      rw [if_pos c42] at H
      have c42b0 := eq_true c42
      have c42b1 : decide (0 ≤ a4) = true := decide_eq_true c42
      clear c42
      by_cases c43 : a4 ≤ (wrap64 (a4 + (l5.length : Int)))
      rotate_left
      ·rw [if_neg c43] at H
       exact absurd H (by simp)
      rw [if_pos c43] at H
      have c43b0 := eq_true c43
      have c43b1 : decide (a4 ≤ (wrap64 (a4 + (l5.length : Int)))) = true := decide_eq_true c43
      by_cases c44 : (wrap64 (a4 + (l5.length : Int))) ≤ (l0.length : Int)
      rotate_left
      ·rw [if_neg c44] at H
       exact absurd H (by simp)
      rw [if_pos c44] at H
      have c44b0 := eq_true c44
      have c44b1 : decide ((wrap64 (a4 + (l5.length : Int))) ≤ (l0.length : Int)) = true := decide_eq_true c44
      obtain ⟨y123, hy123⟩ : ∃ y_ : List (List Int), y_ = ((l0.take ((wrap64 (a4 + (l5.length : Int))) : Int).toNat).drop (a4 : Int).toNat) := ⟨_, rfl⟩
      replace H : ((imprimaturref06_Same.f kj22 l5 y123).bind fun t127 => (imprimaturlaw06_MerkleSpans.j2 kj22 l0 a3 a4 l5 l6 t127)) = some r := hyA hy123 H
      have Ny123 := aM hy123
      clear hy123
      replace H := Option.bind_eq_some_iff.mp H
      obtain ⟨t127, A450, H⟩ := H
      replace H : (imprimaturlaw06_MerkleSpans.j2 kj22 l0 a3 a4 l5 l6 t127) = some r := H
      have A45 := aM A450
      clear A450
      have H' := aM H
      clear H
      have q46 : ((wrap64 (a4 + (l5.length : Int))) : Int) ≤ ((l0.length : Int) : Int) := of_decide_eq_true asm_
      obtain ⟨i046, hi046, _, hsz46, _⟩ := info_parts info22
      have hroom46 : l0.length ≤ c0 := HC0.out
      have hC46 : Kd.C (Kd.slice 5 (Kd.int .u8)) _ A0 l0.length l0 := HR0.out
      have ql46 : (a4 : Int) ≤ ((wrap64 (a4 + (l5.length : Int))) : Int) := of_decide_eq_true asm_
      have q046 : (0 : Int) ≤ (a4 : Int) := of_decide_eq_true asm_
      have hcut46 := cut_mid (P := Tryd.prog) 23 22 .i64 .i64 Tryd.underlying23 hi046 1 hsz46 A0 l0.length c0 a4 (wrap64 (a4 + (l5.length : Int))) q046 ql46 q46 hroom46
      have hr46 := Kd.C_mid (lo := (a4 : Int).toNat) (hi := ((wrap64 (a4 + (l5.length : Int))) : Int).toNat) (c := c0) hC46 (by omega) (by omega) hroom46
      obtain ⟨A46, hA46⟩ : ∃ A1, A1 = (if c0 = (a4 : Int).toNat then A0 else (A0 : Option Addr).map (·.add ((a4 : Int).toNat * 1))) := ⟨_, rfl⟩
      obtain ⟨c46, hc46⟩ : ∃ c1, c1 = c0 - (a4 : Int).toNat := ⟨_, rfl⟩
      have hy46 : y123.length = ((wrap64 (a4 + (l5.length : Int))) : Int).toNat - (a4 : Int).toNat := (by rw [Ny123.out, List.length_drop, List.length_take] <;> omega)
      rw [show ((l0).take ((wrap64 (a4 + (l5.length : Int))) : Int).toNat).drop (a4 : Int).toNat = y123 from Ny123.out.symm] at hr46
      replace hr46 : Kd.C (Kd.slice 5 (Kd.int .u8)) _ A46 y123.length y123 := (by rw [hA46]; exact hr46)
      rw [← hy46, ← hA46, ← hc46] at hcut46
      have HR126 := aM hr46
      have HC126 := aM (show y123.length ≤ c46 from by rw [hy46, hc46]; exact Nat.sub_le_sub_right (Nat.le_trans (by omega) hroom46) _)
      clear hr46 hC46 hroom46 hi046 hsz46 hc46
      have KY46 := aM hy46
      have KA46 := aM hA46
      clear hy46 hA46
      replace q46 := eq_true q46
      go_wp2_with (first | (go_at_call 30; (with_reducible refine (imprimaturref06_Same.calls kj22 _ _ l5 _ _ y123 t127 _ ?side1 ?side2 ?side3 ?side4 A45.out).mono ?_); (case side1 => exact cL (Kd.C_below HR5.out HB.out)); (case side2 => exact HC5.out); (case side3 => exact cL (Kd.C_below HR126.out HB.out)); (case side4 => exact HC126.out); rintro e w' ⟨rfl, ⟨nd, rfl⟩⟩))
      go_meet
      case rel => exact ⟨_, (t127), rfS, H', ⟨by have := HJ7.out; have := HJ22.out; first | omega | exact Nat.le_refl _⟩, ⟨bel⟩⟩
     case rest =>
      clear HC38
      try clear c5
      try clear c6
      try clear c15
      try clear c19
      try clear c19b0
      try clear c19b1
      try clear c35
      try clear c37
      try clear c37b0
      try clear c37b1
      obtain ⟨kq, x112_37, rfl, HA, HJ37, HB⟩ := hcut
      cases kq with
      | zero => exact absurd HA.out (by simp [imprimaturlaw06_MerkleSpans.j2])
      | succ kj37 =>
       have H := HA.out
       clear HA
       simp only [imprimaturlaw06_MerkleSpans.j2] at H
       have HC47 := aM H
       clear H
       go_upto_if 112 with (fail)
       go_cut [] (fun wc => ∃ (kq : Nat), Aside0 (imprimaturlaw06_MerkleSpans.j3 kq l0 a3 a4 l5 l6 = some r) ∧ Aside0 (kq ≤ kj37) ∧ Aside0 (Below w.heap.size w wc))
       case first =>
        have H := HC47.out
        clear HC47
        by_cases c48 : x112_37 = true
        rotate_left
        ·replace c48 := Bool.eq_false_iff.mpr c48
         subst c48
         have H1 : (imprimaturlaw06_MerkleSpans.j3 kj37 l0 a3 a4 l5 l6) = some r := by rw [if_neg (show ¬ (false = true) by decide)] at H; exact H
         clear H
         have H := H1
         clear H1
         have H' := aM H
         clear H
         go_wp2
         go_meet
         case rel => exact ⟨_, H', ⟨by have := HJ7.out; have := HJ22.out; have := HJ37.out; first | omega | exact Nat.le_refl _⟩, ⟨bel⟩⟩
        subst c48
        have H1 : ((imprimaturref06_ProveRange.f kj37 l0 a4 (wrap64 (a4 + (l5.length : Int)))).bind fun bt128 => ((imprimaturref06_Same.f kj37 bt128.1 l6).bind fun t132 => (if t132 = true then ((imprimaturlaw06_known.f).bind fun t133 => (some t133)) else (imprimaturlaw06_MerkleSpans.j3 kj37 l0 a3 a4 l5 l6)))) = some r := by rw [if_pos rfl] at H; exact H
        clear H
        have H := H1
        clear H1
        replace H := Option.bind_eq_some_iff.mp H
        obtain ⟨⟨t128, t131⟩, A490, H⟩ := H
        replace H : ((imprimaturref06_Same.f kj37 t128 l6).bind fun t132 => (if t132 = true then ((imprimaturlaw06_known.f).bind fun t133 => (some t133)) else (imprimaturlaw06_MerkleSpans.j3 kj37 l0 a3 a4 l5 l6))) = some r := H
        have A49 := aM A490
        clear A490
        replace H := Option.bind_eq_some_iff.mp H
        obtain ⟨t132, A500, H⟩ := H
        replace H : (if t132 = true then ((imprimaturlaw06_known.f).bind fun t133 => (some t133)) else (imprimaturlaw06_MerkleSpans.j3 kj37 l0 a3 a4 l5 l6)) = some r := H
        have A50 := aM A500
        clear A500
        by_cases c51 : t132 = true
        ·subst c51
         have H1 : ((imprimaturlaw06_known.f).bind fun t133 => (some t133)) = some r := by rw [if_pos rfl] at H; exact H
         clear H
         have H := H1
         clear H1
         replace H := Option.bind_eq_some_iff.mp H
         obtain ⟨t133, A520, H⟩ := H
         replace H : (some t133) = some r := H
         have A52 := aM A520
         clear A520
         obtain rfl := Option.some.inj H
         go_wp2_with (first | ((with_reducible refine gate_callee (f := 47) rfl ?_); refine goesL_ (some 120) rfl rfl Tryd.func47 (by kernel_rfl) rfl #[.slice A0 l0.length c0, .int .i64 a4, .int .i64 (wrap64 (a4 + (l5.length : Int)))] rfl eqA ?_; (with_reducible refine (imprimaturref06_ProveRange.calls kj37 (fun k_ => k_ < w.heap.size) _ _ l0 a4 (wrap64 (a4 + (l5.length : Int))) t128 t131 _ ?side1 A49.out).mono ?_); (case side1 => exact Kd.V_mk HC0.out (Kd.F_below (Kd.C_F (Kd.heap_slice 5 (Kd.heap_int .u8)) HR0.out) bel)); rintro e w53 ⟨v129, rfl, ho0, hb⟩; refine ⟨_, rfl, ?_⟩; have HO130 := aM (Kd.N_lower (Kd.N_mono (ok' := fun k_ => True) ho0 (fun k_ hk_ => trivial)) (below_size bel)); replace HB := aM (below_step bel hb); clear hb ho0; obtain ⟨Ao54, co54, eo54⟩ := Kd.N_slice HO130.out; subst eo54) | ((with_reducible refine gate_callee (f := 30) rfl ?_); refine goesL_ (some 125) rfl rfl Tryd.func30 (by kernel_rfl) rfl #[.slice Ao54 t128.length co54, .slice A6 l6.length c6] rfl eqA ?_; (with_reducible refine (imprimaturref06_Same.calls kj37 _ _ t128 _ _ l6 true _ ?side1 ?side2 ?side3 ?side4 A50.out).mono ?_); (case side1 => exact cL (Kd.N_reads' HO130.out).2.2); (case side2 => exact (Kd.N_reads' HO130.out).2.1); (case side3 => exact cL (Kd.C_below HR6.out HB.out)); (case side4 => exact HC6.out); rintro e w' ⟨rfl, ⟨nd, rfl⟩⟩; refine ⟨_, rfl, ?_⟩) | ((with_reducible refine gate_callee (f := 15) rfl ?_); refine goesL_ (some 126) rfl rfl Tryd.func15 (by kernel_rfl) rfl #[] rfl eqA ?_; (with_reducible refine (imprimaturlaw06_known.calls  t133 _ (Glb.of HG bel) A52.out).mono ?_); rintro e w55 ⟨rfl, hb⟩; refine ⟨_, rfl, ?_⟩; replace HO130 := aM (Kd.N_below (nL HO130.out) hb); replace HB := aM (below_step bel hb); clear hb))
         go_ret
         exact ⟨erR, bel⟩
        replace c51 := Bool.eq_false_iff.mpr c51
        subst c51
        have H1 : (imprimaturlaw06_MerkleSpans.j3 kj37 l0 a3 a4 l5 l6) = some r := by rw [if_neg (show ¬ (false = true) by decide)] at H; exact H
        clear H
        have H := H1
        clear H1
        have H' := aM H
        clear H
        go_wp2_with (first | ((with_reducible refine gate_callee (f := 47) rfl ?_); refine goesL_ (some 120) rfl rfl Tryd.func47 (by kernel_rfl) rfl #[.slice A0 l0.length c0, .int .i64 a4, .int .i64 (wrap64 (a4 + (l5.length : Int)))] rfl eqA ?_; (with_reducible refine (imprimaturref06_ProveRange.calls kj37 (fun k_ => k_ < w.heap.size) _ _ l0 a4 (wrap64 (a4 + (l5.length : Int))) t128 t131 _ ?side1 A49.out).mono ?_); (case side1 => exact Kd.V_mk HC0.out (Kd.F_below (Kd.C_F (Kd.heap_slice 5 (Kd.heap_int .u8)) HR0.out) bel)); rintro e w56 ⟨v129, rfl, ho0, hb⟩; refine ⟨_, rfl, ?_⟩; have HO130 := aM (Kd.N_lower (Kd.N_mono (ok' := fun k_ => True) ho0 (fun k_ hk_ => trivial)) (below_size bel)); replace HB := aM (below_step bel hb); clear hb ho0; obtain ⟨Ao57, co57, eo57⟩ := Kd.N_slice HO130.out; subst eo57) | ((with_reducible refine gate_callee (f := 30) rfl ?_); refine goesL_ (some 125) rfl rfl Tryd.func30 (by kernel_rfl) rfl #[.slice Ao57 t128.length co57, .slice A6 l6.length c6] rfl eqA ?_; (with_reducible refine (imprimaturref06_Same.calls kj37 _ _ t128 _ _ l6 false _ ?side1 ?side2 ?side3 ?side4 A50.out).mono ?_); (case side1 => exact cL (Kd.N_reads' HO130.out).2.2); (case side2 => exact (Kd.N_reads' HO130.out).2.1); (case side3 => exact cL (Kd.C_below HR6.out HB.out)); (case side4 => exact HC6.out); rintro e w' ⟨rfl, ⟨nd, rfl⟩⟩; refine ⟨_, rfl, ?_⟩))
        go_meet
        case rel => exact ⟨_, H', ⟨by have := HJ7.out; have := HJ22.out; have := HJ37.out; first | omega | exact Nat.le_refl _⟩, ⟨bel⟩⟩
       case rest =>
        clear HC47
        try clear c5
        try clear c6
        try clear c15
        try clear c19
        try clear c19b0
        try clear c19b1
        try clear c35
        try clear c37
        try clear c37b0
        try clear c37b1
        obtain ⟨kq, HA, HJ46, HB⟩ := hcut
        cases kq with
        | zero => exact absurd HA.out (by simp [imprimaturlaw06_MerkleSpans.j3])
        | succ kj46 =>
         have H := HA.out
         clear HA
         simp only [imprimaturlaw06_MerkleSpans.j3] at H
         replace H := Option.bind_eq_some_iff.mp H
         obtain ⟨⟨t134, t137, t140, t143⟩, A580, H⟩ := H
         replace H : ((imprimaturref06_RootText.f kj46 a3 t134).bind fun t144 => (if t140.length < 5864062014805 then ((some (t140 ++ [t144] : List (List Int))).bind fun y147 => ((imprimaturref06_Texts.f kj46 l0).bind fun t150 => (if y147.length + t150.length < 5864062014805 then ((some (y147 ++ t150 : List (List Int))).bind fun y153 => ((imprimaturref06_Fixed.f kj46).bind fun t156 => (if y153.length + t156.length < 5864062014805 then ((imprimaturlaw06_known.f).bind fun t162 => (if t162 = true then ((imprimaturref06_Clash.f kj46 (y153 ++ t156)).bind fun t163 => (some t163)) else (some false))) else (none)))) else (none)))) else (none))) = some r := H
         have A58 := aM A580
         clear A580
         replace H := Option.bind_eq_some_iff.mp H
         obtain ⟨t144, A590, H⟩ := H
         replace H : (if t140.length < 5864062014805 then ((some (t140 ++ [t144] : List (List Int))).bind fun y147 => ((imprimaturref06_Texts.f kj46 l0).bind fun t150 => (if y147.length + t150.length < 5864062014805 then ((some (y147 ++ t150 : List (List Int))).bind fun y153 => ((imprimaturref06_Fixed.f kj46).bind fun t156 => (if y153.length + t156.length < 5864062014805 then ((imprimaturlaw06_known.f).bind fun t162 => (if t162 = true then ((imprimaturref06_Clash.f kj46 (y153 ++ t156)).bind fun t163 => (some t163)) else (some false))) else (none)))) else (none)))) else (none)) = some r := H
         have A59 := aM A590
         clear A590
         by_cases c60 : t140.length < 5864062014805
         rotate_left
         ·rw [if_neg c60] at H
          exact absurd H (by simp)
         rw [if_pos c60] at H
         have LMc60 := aM c60
         clear c60
         obtain ⟨y147, hy147⟩ : ∃ y_ : List (List Int), y_ = (t140 ++ [t144]) := ⟨_, rfl⟩
         replace H : ((imprimaturref06_Texts.f kj46 l0).bind fun t150 => (if y147.length + t150.length < 5864062014805 then ((some (y147 ++ t150 : List (List Int))).bind fun y153 => ((imprimaturref06_Fixed.f kj46).bind fun t156 => (if y153.length + t156.length < 5864062014805 then ((imprimaturlaw06_known.f).bind fun t162 => (if t162 = true then ((imprimaturref06_Clash.f kj46 (y153 ++ t156)).bind fun t163 => (some t163)) else (some false))) else (none)))) else (none))) = some r := hyA hy147 H
         have Ny147 := aM hy147
         clear hy147
         replace H := Option.bind_eq_some_iff.mp H
         obtain ⟨t150, A610, H⟩ := H
         replace H : (if y147.length + t150.length < 5864062014805 then ((some (y147 ++ t150 : List (List Int))).bind fun y153 => ((imprimaturref06_Fixed.f kj46).bind fun t156 => (if y153.length + t156.length < 5864062014805 then ((imprimaturlaw06_known.f).bind fun t162 => (if t162 = true then ((imprimaturref06_Clash.f kj46 (y153 ++ t156)).bind fun t163 => (some t163)) else (some false))) else (none)))) else (none)) = some r := H
         have A61 := aM A610
         clear A610
         by_cases c62 : y147.length + t150.length < 5864062014805
         rotate_left
         ·rw [if_neg c62] at H
          exact absurd H (by simp)
         rw [if_pos c62] at H
         have LMc62 := aM c62
         clear c62
         obtain ⟨y153, hy153⟩ : ∃ y_ : List (List Int), y_ = (y147 ++ t150) := ⟨_, rfl⟩
         replace H : ((imprimaturref06_Fixed.f kj46).bind fun t156 => (if y153.length + t156.length < 5864062014805 then ((imprimaturlaw06_known.f).bind fun t162 => (if t162 = true then ((imprimaturref06_Clash.f kj46 (y153 ++ t156)).bind fun t163 => (some t163)) else (some false))) else (none))) = some r := hyA hy153 H
         have Ny153 := aM hy153
         clear hy153
         replace H := Option.bind_eq_some_iff.mp H
         obtain ⟨t156, A630, H⟩ := H
         replace H : (if y153.length + t156.length < 5864062014805 then ((imprimaturlaw06_known.f).bind fun t162 => (if t162 = true then ((imprimaturref06_Clash.f kj46 (y153 ++ t156)).bind fun t163 => (some t163)) else (some false))) else (none)) = some r := H
         have A63 := aM A630
         clear A630
         by_cases c64 : y153.length + t156.length < 5864062014805
         rotate_left
         ·rw [if_neg c64] at H
          exact absurd H (by simp)
         rw [if_pos c64] at H
         have LMc64 := aM c64
         clear c64
         obtain ⟨y159, hy159⟩ : ∃ y_ : List (List Int), y_ = (y153 ++ t156) := ⟨_, rfl⟩
         replace H : ((imprimaturlaw06_known.f).bind fun t162 => (if t162 = true then ((imprimaturref06_Clash.f kj46 y159).bind fun t163 => (some t163)) else (some false))) = some r := hyA hy159 H
         have Ny159 := aM hy159
         clear hy159
         replace H := Option.bind_eq_some_iff.mp H
         obtain ⟨t162, A650, H⟩ := H
         replace H : (if t162 = true then ((imprimaturref06_Clash.f kj46 y159).bind fun t163 => (some t163)) else (some false)) = some r := H
         have A65 := aM A650
         clear A650
         by_cases c66 : t162 = true
         ·subst c66
          have H1 : ((imprimaturref06_Clash.f kj46 y159).bind fun t163 => (some t163)) = some r := by rw [if_pos rfl] at H; exact H
          clear H
          have H := H1
          clear H1
          replace H := Option.bind_eq_some_iff.mp H
          obtain ⟨t163, A670, H⟩ := H
          replace H : (some t163) = some r := H
          have A67 := aM A670
          clear A670
          obtain rfl := Option.some.inj H
          go_wp2_with (first | ((with_reducible refine gate_callee (f := 50) rfl ?_); refine goesL_ (some 132) rfl rfl Tryd.func50 (by kernel_rfl) rfl #[.int .i64 0, .int .i64 a3, .int .i64 a4, .slice A5 l5.length c5, .slice A6 l6.length c6] rfl eqA ?_; (with_reducible refine (imprimaturref06_Climb.calls kj46 0 a3 a4 (fun k_ => k_ < w.heap.size) _ _ l5 (fun k_ => k_ < w.heap.size) _ _ l6 t134 t137 t140 t143 _ ?side1 ?side2 A58.out).mono ?_); (case side1 => exact Kd.V_mk HC5.out (Kd.F_below (Kd.C_F (Kd.heap_slice 5 (Kd.heap_int .u8)) HR5.out) bel)); (case side2 => exact Kd.V_mk HC6.out (Kd.F_below (Kd.C_F (Kd.heap_slice 5 (Kd.heap_int .u8)) HR6.out) bel)); rintro e w68 ⟨v135, v138, v141, rfl, ho0, ho1, ho2, hb⟩; refine ⟨_, rfl, ?_⟩; have HO136 := aM (Kd.V_lower (Kd.V_mono (ok' := fun k_ => some k_ ≠ (v141 : Value).ownBlock) ho0 (fun k_ hk_ => hk_.2)) (below_size bel)); have HO139 := aM (Kd.V_lower (Kd.V_mono (ok' := fun k_ => some k_ ≠ (v141 : Value).ownBlock) ho1 (fun k_ hk_ => hk_.2)) (below_size bel)); have HO142 := aM (Kd.N_lower (Kd.N_mono (ok' := fun k_ => True) ho2 (fun k_ hk_ => trivial)) (below_size bel)); replace HB := aM (below_step bel hb); clear hb ho0 ho1 ho2; obtain ⟨Ao69, co69, eo69⟩ := Kd.V_slice HO136.out; subst eo69) | ((with_reducible refine gate_callee (f := 51) rfl ?_); refine goesL_ (some 140) rfl rfl Tryd.func51 (by kernel_rfl) rfl #[.int .i64 a3, .slice Ao69 t134.length co69] rfl eqA ?_; (with_reducible refine (imprimaturref06_RootText.calls kj46 a3 _ _ t134 t144 _ ?side1 ?side2 A59.out).mono ?_); (case side1 => exact cL (Kd.V_reads' HO136.out).2.2); (case side2 => exact (Kd.V_reads' HO136.out).2.1); rintro e w70 ⟨v145, rfl, ho0, hb⟩; refine ⟨_, rfl, ?_⟩; replace HO136 := aM (Kd.V_elder' (vL HO136.out) (Kd.R_base ho0) hb); replace HO139 := aM (Kd.V_elder' (vL HO139.out) (Kd.R_base ho0) hb); replace HO142 := aM (Kd.N_elder' (nL HO142.out) (Kd.R_base ho0) hb); have HO146 := aM (Kd.R_lower ho0 (below_size bel)); replace HB := aM (below_step bel hb); clear hb ho0; obtain ⟨Ao72, co72, eo72⟩ := Kd.R_slice HO146.out; subst eo72) | ((with_reducible refine gate_builtin (b := .append) (xs := #[.tmp 137, .tmp 141]) rfl ?_); (try (refine gate_guard (by rfl) ?_; dsimp only)); at_builtin; refine Kd.N_append (Kd.slice 5 (Kd.int .u8)) (w0 := w) w.heap.size rfl (.tmp 137) (.tmp 141) 23 22 (.slice none 0 0) 24 rfl Tryd.underlying23 info22 rfl (by decide) (by omega) v141 t140 t144 [.slice Ao72 t144.length co72] (fun _ => True) (fun k_ => ((fun _ => True)) k_ ∧ some k_ ≠ (v141 : Value).ownBlock) rfl rfl ?aP (fun _ hk => hk) ?aF ?aO ?aB ?aS ?aL ?_; (case aP => exact (Kd.FK_slice_mk (Kd.R_reads' (Kd.R_mono (ok' := (fun k_ => ((fun _ => True)) k_ ∧ some k_ ≠ (v141 : Value).ownBlock)) (Kd.R_apart' (HO146.out) (Kd.N_typed HO142.out) (by decide)) (fun k_ hk => ⟨trivial, hk.2⟩))).2.1 (Kd.R_F (Kd.R_mono (ok' := (fun k_ => ((fun _ => True)) k_ ∧ some k_ ≠ (v141 : Value).ownBlock)) (Kd.R_apart' (HO146.out) (Kd.N_typed HO142.out) (by decide)) (fun k_ hk => ⟨trivial, hk.2⟩))))); (case aB => exact bel); (case aF => exact (fun _ _ => trivial)); (case aO => exact (by (with_reducible repeat (first | apply Kd.N_alloc | apply Kd.N_drewN | apply Kd.N_drew)); exact Kd.N_mono HO142.out (fun _ hk => trivial))); (case aS => exact (below_size bel)); (case aL => have := LMc60.out; omega); intro v148 w71 ho hb hg hat; rw [← Ny147.out] at ho; replace HO136 := aM (Kd.V_afterv (ok := (fun k_ => some k_ ≠ (.slice Ao72 t144.length co72 : Value).ownBlock)) (by (with_reducible repeat (first | apply Kd.V_alloc | apply Kd.V_drewN | apply Kd.V_drew)); exact Kd.V_mono HO136.out (fun _ hk => ⟨hk.2, hk.1⟩)) hg hat); replace HO139 := aM (Kd.V_afterv (ok := (fun k_ => some k_ ≠ (.slice Ao72 t144.length co72 : Value).ownBlock)) (by (with_reducible repeat (first | apply Kd.V_alloc | apply Kd.V_drewN | apply Kd.V_drew)); exact Kd.V_mono HO139.out (fun _ hk => ⟨hk.2, hk.1⟩)) hg hat); replace HB := aM (hb); have HO149 := aM (ho); clear HO142 HO146; clear ho hb hg hat) | ((with_reducible refine gate_callee (f := 32) rfl ?_); refine goesL_ (some 144) rfl rfl Tryd.func32 (by kernel_rfl) rfl #[.slice A0 l0.length c0] rfl eqA ?_; (with_reducible refine (imprimaturref06_Texts.calls kj46 (fun k_ => k_ < w.heap.size) _ _ l0 t150 _ ?side1 A61.out).mono ?_); (case side1 => exact Kd.V_mk HC0.out (Kd.F_below (Kd.C_F (Kd.heap_slice 5 (Kd.heap_int .u8)) HR0.out) bel)); rintro e w73 ⟨v151, rfl, ho0, hb⟩; refine ⟨_, rfl, ?_⟩; replace HO136 := aM (Kd.V_elder' (vL HO136.out) (Kd.N_base ho0) hb); replace HO139 := aM (Kd.V_elder' (vL HO139.out) (Kd.N_base ho0) hb); have HO152 := aM (Kd.N_lower (Kd.N_mono (ok' := fun k_ => some k_ ≠ (v148 : Value).ownBlock) ho0 (fun k_ hk_ => Or.elim hk_ (fun hs_ => fun e_ => Nat.not_le.2 hs_ (Kd.N_base HO149.out k_ e_.symm)) (fun hn_ => (Kd.fresh' (Kd.N_lt (nL HO149.out)) k_ hn_)))) (below_size bel)); replace HO149 := aM (Kd.N_elder' (nL HO149.out) (Kd.N_base ho0) hb); replace HB := aM (below_step bel hb); clear hb ho0; obtain ⟨Ao75, co75, eo75⟩ := Kd.N_slice HO152.out; subst eo75) | ((with_reducible refine gate_builtin (b := .append) (xs := #[.tmp 142, .tmp 144]) rfl ?_); (try (refine gate_guard (by rfl) ?_; dsimp only)); at_builtin; refine Kd.N_append_rows (Kd.slice 5 (Kd.int .u8)) (w0 := w) w.heap.size rfl (.tmp 142) (.tmp 144) 23 22 (.slice none 0 0) 24 rfl Tryd.underlying23 info22 rfl (by decide) (by omega) v148 y147 t150 _ _ _ (fun _ => True) (fun k_ => ((fun _ => True)) k_ ∧ some k_ ≠ (v148 : Value).ownBlock) rfl rfl ?aO ?aR (fun _ hk => hk) ?aF ?aB ?aS ?aL ?_; (case aR => exact (by skip; exact Kd.N_F (Kd.N_mono (ok' := (fun k_ => ((fun _ => True)) k_ ∧ some k_ ≠ (v148 : Value).ownBlock)) (HO152.out) (fun k_ hk => ⟨trivial, hk⟩)))); (case aB => exact bel); (case aF => exact (fun _ _ => trivial)); (case aO => exact (by (with_reducible repeat (first | apply Kd.N_alloc | apply Kd.N_drewN | apply Kd.N_drew)); exact Kd.N_mono HO149.out (fun _ hk => trivial))); (case aS => exact (below_size bel)); (case aL => have := LMc62.out; omega); intro v154 w74 ho hb hg hat; rw [← Ny153.out] at ho; replace HO136 := aM (Kd.V_afterv (ok := (fun k_ => some k_ ≠ (.slice Ao75 t150.length co75 : Value).ownBlock)) (by (with_reducible repeat (first | apply Kd.V_alloc | apply Kd.V_drewN | apply Kd.V_drew)); exact Kd.V_mono HO136.out (fun _ hk => ⟨hk.2, hk.1.2⟩)) hg hat); replace HO139 := aM (Kd.V_afterv (ok := (fun k_ => some k_ ≠ (.slice Ao75 t150.length co75 : Value).ownBlock)) (by (with_reducible repeat (first | apply Kd.V_alloc | apply Kd.V_drewN | apply Kd.V_drew)); exact Kd.V_mono HO139.out (fun _ hk => ⟨hk.2, hk.1.2⟩)) hg hat); replace HO152 := aM (Kd.N_afterv (ok := (fun _ => True)) (by (with_reducible repeat (first | apply Kd.N_alloc | apply Kd.N_drewN | apply Kd.N_drew)); exact Kd.N_mono HO152.out (fun _ hk => ⟨trivial, hk⟩)) hg hat); replace HB := aM (hb); have HO155 := aM (ho); clear HO149; clear ho hb hg hat) | ((with_reducible refine gate_callee (f := 33) rfl ?_); refine goesL_ (some 146) rfl rfl Tryd.func33 (by kernel_rfl) rfl #[] rfl eqA ?_; (with_reducible refine (imprimaturref06_Fixed.calls kj46  t156 _ A63.out).mono ?_); rintro e w76 ⟨v157, rfl, ho0, hb⟩; refine ⟨_, rfl, ?_⟩; replace HO136 := aM (Kd.V_elder' (vL HO136.out) (Kd.N_base ho0) hb); replace HO139 := aM (Kd.V_elder' (vL HO139.out) (Kd.N_base ho0) hb); have HO158 := aM (Kd.N_lower (Kd.N_mono (ok' := fun k_ => some k_ ≠ (.slice Ao75 t150.length co75 : Value).ownBlock ∧ some k_ ≠ (v154 : Value).ownBlock) ho0 (fun k_ hk_ => ⟨(Kd.fresh' (Kd.N_lt (nL HO152.out)) k_ hk_), (Kd.fresh' (Kd.N_lt (nL HO155.out)) k_ hk_)⟩)) (below_size bel)); replace HO152 := aM (Kd.N_elder' (nL HO152.out) (Kd.N_base ho0) hb); replace HO155 := aM (Kd.N_elder' (nL HO155.out) (Kd.N_base ho0) hb); replace HB := aM (below_step bel hb); clear hb ho0; obtain ⟨Ao78, co78, eo78⟩ := Kd.N_slice HO158.out; subst eo78) | ((with_reducible refine gate_builtin (b := .append) (xs := #[.tmp 145, .tmp 146]) rfl ?_); (try (refine gate_guard (by rfl) ?_; dsimp only)); at_builtin; refine Kd.N_append_rows (Kd.slice 5 (Kd.int .u8)) (w0 := w) w.heap.size rfl (.tmp 145) (.tmp 146) 23 22 (.slice none 0 0) 24 rfl Tryd.underlying23 info22 rfl (by decide) (by omega) v154 y153 t156 _ _ _ (fun _ => True) (fun k_ => ((fun _ => True)) k_ ∧ some k_ ≠ (v154 : Value).ownBlock) rfl rfl ?aO ?aR (fun _ hk => hk) ?aF ?aB ?aS ?aL ?_; (case aR => exact (by skip; exact Kd.N_F (Kd.N_mono (ok' := (fun k_ => ((fun _ => True)) k_ ∧ some k_ ≠ (v154 : Value).ownBlock)) (HO158.out) (fun k_ hk => ⟨trivial, hk.2⟩)))); (case aB => exact bel); (case aF => exact (fun _ _ => trivial)); (case aO => exact (by (with_reducible repeat (first | apply Kd.N_alloc | apply Kd.N_drewN | apply Kd.N_drew)); exact Kd.N_mono HO155.out (fun _ hk => trivial))); (case aS => exact (below_size bel)); (case aL => have := LMc64.out; omega); intro v160 w77 ho hb hg hat; rw [← Ny159.out] at ho; replace HO136 := aM (Kd.V_afterv (ok := (fun k_ => some k_ ≠ (.slice Ao75 t150.length co75 : Value).ownBlock ∧ some k_ ≠ (.slice Ao78 t156.length co78 : Value).ownBlock)) (by (with_reducible repeat (first | apply Kd.V_alloc | apply Kd.V_drewN | apply Kd.V_drew)); exact Kd.V_mono HO136.out (fun _ hk => ⟨⟨hk.1.1, hk.2⟩, hk.1.2⟩)) hg hat); replace HO139 := aM (Kd.V_afterv (ok := (fun k_ => some k_ ≠ (.slice Ao75 t150.length co75 : Value).ownBlock ∧ some k_ ≠ (.slice Ao78 t156.length co78 : Value).ownBlock)) (by (with_reducible repeat (first | apply Kd.V_alloc | apply Kd.V_drewN | apply Kd.V_drew)); exact Kd.V_mono HO139.out (fun _ hk => ⟨⟨hk.1.1, hk.2⟩, hk.1.2⟩)) hg hat); replace HO152 := aM (Kd.N_afterv (ok := (fun k_ => some k_ ≠ (.slice Ao78 t156.length co78 : Value).ownBlock)) (by (with_reducible repeat (first | apply Kd.N_alloc | apply Kd.N_drewN | apply Kd.N_drew)); exact Kd.N_mono HO152.out (fun _ hk => ⟨hk.2, hk.1.2⟩)) hg hat); replace HO158 := aM (Kd.N_afterv (ok := (fun k_ => some k_ ≠ (.slice Ao75 t150.length co75 : Value).ownBlock)) (nL HO158.out) hg hat); replace HB := aM (hb); have HO161 := aM (ho); clear HO155; clear ho hb hg hat) | ((with_reducible refine gate_callee (f := 15) rfl ?_); refine goesL_ (some 148) rfl rfl Tryd.func15 (by kernel_rfl) rfl #[] rfl eqA ?_; (with_reducible refine (imprimaturlaw06_known.calls  true _ (Glb.of HG bel) A65.out).mono ?_); rintro e w79 ⟨rfl, hb⟩; refine ⟨_, rfl, ?_⟩; replace HO136 := aM (Kd.V_below (vL HO136.out) hb); replace HO139 := aM (Kd.V_below (vL HO139.out) hb); replace HO152 := aM (Kd.N_below (nL HO152.out) hb); replace HO158 := aM (Kd.N_below (nL HO158.out) hb); replace HO161 := aM (Kd.N_below (nL HO161.out) hb); replace HB := aM (below_step bel hb); clear hb; obtain ⟨Ao80, co80, eo80⟩ := Kd.N_slice HO161.out; subst eo80) | (go_at_call 34; (with_reducible refine (imprimaturref06_Clash.calls kj46 _ _ y159 t163 _ ?side1 ?side2 A67.out).mono ?_); (case side1 => exact cL (Kd.N_reads' HO161.out).2.2); (case side2 => exact (Kd.N_reads' HO161.out).2.1); rintro e w81 ⟨rfl, hb⟩; replace HO136 := aM (Kd.V_below (vL HO136.out) hb); replace HO139 := aM (Kd.V_below (vL HO139.out) hb); replace HO152 := aM (Kd.N_below (nL HO152.out) hb); replace HO158 := aM (Kd.N_below (nL HO158.out) hb); replace HO161 := aM (Kd.N_below (nL HO161.out) hb); replace HB := aM (below_step bel hb); clear hb))
          go_ret
          exact ⟨erR, bel⟩
         replace c66 := Bool.eq_false_iff.mpr c66
         subst c66
         have H1 : (some false) = some r := by rw [if_neg (show ¬ (false = true) by decide)] at H; exact H
         clear H
         have H := H1
         clear H1
         obtain rfl := Option.some.inj H
         go_wp2_with (first | ((with_reducible refine gate_callee (f := 50) rfl ?_); refine goesL_ (some 132) rfl rfl Tryd.func50 (by kernel_rfl) rfl #[.int .i64 0, .int .i64 a3, .int .i64 a4, .slice A5 l5.length c5, .slice A6 l6.length c6] rfl eqA ?_; (with_reducible refine (imprimaturref06_Climb.calls kj46 0 a3 a4 (fun k_ => k_ < w.heap.size) _ _ l5 (fun k_ => k_ < w.heap.size) _ _ l6 t134 t137 t140 t143 _ ?side1 ?side2 A58.out).mono ?_); (case side1 => exact Kd.V_mk HC5.out (Kd.F_below (Kd.C_F (Kd.heap_slice 5 (Kd.heap_int .u8)) HR5.out) bel)); (case side2 => exact Kd.V_mk HC6.out (Kd.F_below (Kd.C_F (Kd.heap_slice 5 (Kd.heap_int .u8)) HR6.out) bel)); rintro e w82 ⟨v135, v138, v141, rfl, ho0, ho1, ho2, hb⟩; refine ⟨_, rfl, ?_⟩; have HO136 := aM (Kd.V_lower (Kd.V_mono (ok' := fun k_ => some k_ ≠ (v141 : Value).ownBlock) ho0 (fun k_ hk_ => hk_.2)) (below_size bel)); have HO139 := aM (Kd.V_lower (Kd.V_mono (ok' := fun k_ => some k_ ≠ (v141 : Value).ownBlock) ho1 (fun k_ hk_ => hk_.2)) (below_size bel)); have HO142 := aM (Kd.N_lower (Kd.N_mono (ok' := fun k_ => True) ho2 (fun k_ hk_ => trivial)) (below_size bel)); replace HB := aM (below_step bel hb); clear hb ho0 ho1 ho2; obtain ⟨Ao83, co83, eo83⟩ := Kd.V_slice HO136.out; subst eo83) | ((with_reducible refine gate_callee (f := 51) rfl ?_); refine goesL_ (some 140) rfl rfl Tryd.func51 (by kernel_rfl) rfl #[.int .i64 a3, .slice Ao83 t134.length co83] rfl eqA ?_; (with_reducible refine (imprimaturref06_RootText.calls kj46 a3 _ _ t134 t144 _ ?side1 ?side2 A59.out).mono ?_); (case side1 => exact cL (Kd.V_reads' HO136.out).2.2); (case side2 => exact (Kd.V_reads' HO136.out).2.1); rintro e w84 ⟨v145, rfl, ho0, hb⟩; refine ⟨_, rfl, ?_⟩; replace HO136 := aM (Kd.V_elder' (vL HO136.out) (Kd.R_base ho0) hb); replace HO139 := aM (Kd.V_elder' (vL HO139.out) (Kd.R_base ho0) hb); replace HO142 := aM (Kd.N_elder' (nL HO142.out) (Kd.R_base ho0) hb); have HO146 := aM (Kd.R_lower ho0 (below_size bel)); replace HB := aM (below_step bel hb); clear hb ho0; obtain ⟨Ao86, co86, eo86⟩ := Kd.R_slice HO146.out; subst eo86) | ((with_reducible refine gate_builtin (b := .append) (xs := #[.tmp 137, .tmp 141]) rfl ?_); (try (refine gate_guard (by rfl) ?_; dsimp only)); at_builtin; refine Kd.N_append (Kd.slice 5 (Kd.int .u8)) (w0 := w) w.heap.size rfl (.tmp 137) (.tmp 141) 23 22 (.slice none 0 0) 24 rfl Tryd.underlying23 info22 rfl (by decide) (by omega) v141 t140 t144 [.slice Ao86 t144.length co86] (fun _ => True) (fun k_ => ((fun _ => True)) k_ ∧ some k_ ≠ (v141 : Value).ownBlock) rfl rfl ?aP (fun _ hk => hk) ?aF ?aO ?aB ?aS ?aL ?_; (case aP => exact (Kd.FK_slice_mk (Kd.R_reads' (Kd.R_mono (ok' := (fun k_ => ((fun _ => True)) k_ ∧ some k_ ≠ (v141 : Value).ownBlock)) (Kd.R_apart' (HO146.out) (Kd.N_typed HO142.out) (by decide)) (fun k_ hk => ⟨trivial, hk.2⟩))).2.1 (Kd.R_F (Kd.R_mono (ok' := (fun k_ => ((fun _ => True)) k_ ∧ some k_ ≠ (v141 : Value).ownBlock)) (Kd.R_apart' (HO146.out) (Kd.N_typed HO142.out) (by decide)) (fun k_ hk => ⟨trivial, hk.2⟩))))); (case aB => exact bel); (case aF => exact (fun _ _ => trivial)); (case aO => exact (by (with_reducible repeat (first | apply Kd.N_alloc | apply Kd.N_drewN | apply Kd.N_drew)); exact Kd.N_mono HO142.out (fun _ hk => trivial))); (case aS => exact (below_size bel)); (case aL => have := LMc60.out; omega); intro v148 w85 ho hb hg hat; rw [← Ny147.out] at ho; replace HO136 := aM (Kd.V_afterv (ok := (fun k_ => some k_ ≠ (.slice Ao86 t144.length co86 : Value).ownBlock)) (by (with_reducible repeat (first | apply Kd.V_alloc | apply Kd.V_drewN | apply Kd.V_drew)); exact Kd.V_mono HO136.out (fun _ hk => ⟨hk.2, hk.1⟩)) hg hat); replace HO139 := aM (Kd.V_afterv (ok := (fun k_ => some k_ ≠ (.slice Ao86 t144.length co86 : Value).ownBlock)) (by (with_reducible repeat (first | apply Kd.V_alloc | apply Kd.V_drewN | apply Kd.V_drew)); exact Kd.V_mono HO139.out (fun _ hk => ⟨hk.2, hk.1⟩)) hg hat); replace HB := aM (hb); have HO149 := aM (ho); clear HO142 HO146; clear ho hb hg hat) | ((with_reducible refine gate_callee (f := 32) rfl ?_); refine goesL_ (some 144) rfl rfl Tryd.func32 (by kernel_rfl) rfl #[.slice A0 l0.length c0] rfl eqA ?_; (with_reducible refine (imprimaturref06_Texts.calls kj46 (fun k_ => k_ < w.heap.size) _ _ l0 t150 _ ?side1 A61.out).mono ?_); (case side1 => exact Kd.V_mk HC0.out (Kd.F_below (Kd.C_F (Kd.heap_slice 5 (Kd.heap_int .u8)) HR0.out) bel)); rintro e w87 ⟨v151, rfl, ho0, hb⟩; refine ⟨_, rfl, ?_⟩; replace HO136 := aM (Kd.V_elder' (vL HO136.out) (Kd.N_base ho0) hb); replace HO139 := aM (Kd.V_elder' (vL HO139.out) (Kd.N_base ho0) hb); have HO152 := aM (Kd.N_lower (Kd.N_mono (ok' := fun k_ => some k_ ≠ (v148 : Value).ownBlock) ho0 (fun k_ hk_ => Or.elim hk_ (fun hs_ => fun e_ => Nat.not_le.2 hs_ (Kd.N_base HO149.out k_ e_.symm)) (fun hn_ => (Kd.fresh' (Kd.N_lt (nL HO149.out)) k_ hn_)))) (below_size bel)); replace HO149 := aM (Kd.N_elder' (nL HO149.out) (Kd.N_base ho0) hb); replace HB := aM (below_step bel hb); clear hb ho0; obtain ⟨Ao89, co89, eo89⟩ := Kd.N_slice HO152.out; subst eo89) | ((with_reducible refine gate_builtin (b := .append) (xs := #[.tmp 142, .tmp 144]) rfl ?_); (try (refine gate_guard (by rfl) ?_; dsimp only)); at_builtin; refine Kd.N_append_rows (Kd.slice 5 (Kd.int .u8)) (w0 := w) w.heap.size rfl (.tmp 142) (.tmp 144) 23 22 (.slice none 0 0) 24 rfl Tryd.underlying23 info22 rfl (by decide) (by omega) v148 y147 t150 _ _ _ (fun _ => True) (fun k_ => ((fun _ => True)) k_ ∧ some k_ ≠ (v148 : Value).ownBlock) rfl rfl ?aO ?aR (fun _ hk => hk) ?aF ?aB ?aS ?aL ?_; (case aR => exact (by skip; exact Kd.N_F (Kd.N_mono (ok' := (fun k_ => ((fun _ => True)) k_ ∧ some k_ ≠ (v148 : Value).ownBlock)) (HO152.out) (fun k_ hk => ⟨trivial, hk⟩)))); (case aB => exact bel); (case aF => exact (fun _ _ => trivial)); (case aO => exact (by (with_reducible repeat (first | apply Kd.N_alloc | apply Kd.N_drewN | apply Kd.N_drew)); exact Kd.N_mono HO149.out (fun _ hk => trivial))); (case aS => exact (below_size bel)); (case aL => have := LMc62.out; omega); intro v154 w88 ho hb hg hat; rw [← Ny153.out] at ho; replace HO136 := aM (Kd.V_afterv (ok := (fun k_ => some k_ ≠ (.slice Ao89 t150.length co89 : Value).ownBlock)) (by (with_reducible repeat (first | apply Kd.V_alloc | apply Kd.V_drewN | apply Kd.V_drew)); exact Kd.V_mono HO136.out (fun _ hk => ⟨hk.2, hk.1.2⟩)) hg hat); replace HO139 := aM (Kd.V_afterv (ok := (fun k_ => some k_ ≠ (.slice Ao89 t150.length co89 : Value).ownBlock)) (by (with_reducible repeat (first | apply Kd.V_alloc | apply Kd.V_drewN | apply Kd.V_drew)); exact Kd.V_mono HO139.out (fun _ hk => ⟨hk.2, hk.1.2⟩)) hg hat); replace HO152 := aM (Kd.N_afterv (ok := (fun _ => True)) (by (with_reducible repeat (first | apply Kd.N_alloc | apply Kd.N_drewN | apply Kd.N_drew)); exact Kd.N_mono HO152.out (fun _ hk => ⟨trivial, hk⟩)) hg hat); replace HB := aM (hb); have HO155 := aM (ho); clear HO149; clear ho hb hg hat) | ((with_reducible refine gate_callee (f := 33) rfl ?_); refine goesL_ (some 146) rfl rfl Tryd.func33 (by kernel_rfl) rfl #[] rfl eqA ?_; (with_reducible refine (imprimaturref06_Fixed.calls kj46  t156 _ A63.out).mono ?_); rintro e w90 ⟨v157, rfl, ho0, hb⟩; refine ⟨_, rfl, ?_⟩; replace HO136 := aM (Kd.V_elder' (vL HO136.out) (Kd.N_base ho0) hb); replace HO139 := aM (Kd.V_elder' (vL HO139.out) (Kd.N_base ho0) hb); have HO158 := aM (Kd.N_lower (Kd.N_mono (ok' := fun k_ => some k_ ≠ (.slice Ao89 t150.length co89 : Value).ownBlock ∧ some k_ ≠ (v154 : Value).ownBlock) ho0 (fun k_ hk_ => ⟨(Kd.fresh' (Kd.N_lt (nL HO152.out)) k_ hk_), (Kd.fresh' (Kd.N_lt (nL HO155.out)) k_ hk_)⟩)) (below_size bel)); replace HO152 := aM (Kd.N_elder' (nL HO152.out) (Kd.N_base ho0) hb); replace HO155 := aM (Kd.N_elder' (nL HO155.out) (Kd.N_base ho0) hb); replace HB := aM (below_step bel hb); clear hb ho0; obtain ⟨Ao92, co92, eo92⟩ := Kd.N_slice HO158.out; subst eo92) | ((with_reducible refine gate_builtin (b := .append) (xs := #[.tmp 145, .tmp 146]) rfl ?_); (try (refine gate_guard (by rfl) ?_; dsimp only)); at_builtin; refine Kd.N_append_rows (Kd.slice 5 (Kd.int .u8)) (w0 := w) w.heap.size rfl (.tmp 145) (.tmp 146) 23 22 (.slice none 0 0) 24 rfl Tryd.underlying23 info22 rfl (by decide) (by omega) v154 y153 t156 _ _ _ (fun _ => True) (fun k_ => ((fun _ => True)) k_ ∧ some k_ ≠ (v154 : Value).ownBlock) rfl rfl ?aO ?aR (fun _ hk => hk) ?aF ?aB ?aS ?aL ?_; (case aR => exact (by skip; exact Kd.N_F (Kd.N_mono (ok' := (fun k_ => ((fun _ => True)) k_ ∧ some k_ ≠ (v154 : Value).ownBlock)) (HO158.out) (fun k_ hk => ⟨trivial, hk.2⟩)))); (case aB => exact bel); (case aF => exact (fun _ _ => trivial)); (case aO => exact (by (with_reducible repeat (first | apply Kd.N_alloc | apply Kd.N_drewN | apply Kd.N_drew)); exact Kd.N_mono HO155.out (fun _ hk => trivial))); (case aS => exact (below_size bel)); (case aL => have := LMc64.out; omega); intro v160 w91 ho hb hg hat; rw [← Ny159.out] at ho; replace HO136 := aM (Kd.V_afterv (ok := (fun k_ => some k_ ≠ (.slice Ao89 t150.length co89 : Value).ownBlock ∧ some k_ ≠ (.slice Ao92 t156.length co92 : Value).ownBlock)) (by (with_reducible repeat (first | apply Kd.V_alloc | apply Kd.V_drewN | apply Kd.V_drew)); exact Kd.V_mono HO136.out (fun _ hk => ⟨⟨hk.1.1, hk.2⟩, hk.1.2⟩)) hg hat); replace HO139 := aM (Kd.V_afterv (ok := (fun k_ => some k_ ≠ (.slice Ao89 t150.length co89 : Value).ownBlock ∧ some k_ ≠ (.slice Ao92 t156.length co92 : Value).ownBlock)) (by (with_reducible repeat (first | apply Kd.V_alloc | apply Kd.V_drewN | apply Kd.V_drew)); exact Kd.V_mono HO139.out (fun _ hk => ⟨⟨hk.1.1, hk.2⟩, hk.1.2⟩)) hg hat); replace HO152 := aM (Kd.N_afterv (ok := (fun k_ => some k_ ≠ (.slice Ao92 t156.length co92 : Value).ownBlock)) (by (with_reducible repeat (first | apply Kd.N_alloc | apply Kd.N_drewN | apply Kd.N_drew)); exact Kd.N_mono HO152.out (fun _ hk => ⟨hk.2, hk.1.2⟩)) hg hat); replace HO158 := aM (Kd.N_afterv (ok := (fun k_ => some k_ ≠ (.slice Ao89 t150.length co89 : Value).ownBlock)) (nL HO158.out) hg hat); replace HB := aM (hb); have HO161 := aM (ho); clear HO155; clear ho hb hg hat) | ((with_reducible refine gate_callee (f := 15) rfl ?_); refine goesL_ (some 148) rfl rfl Tryd.func15 (by kernel_rfl) rfl #[] rfl eqA ?_; (with_reducible refine (imprimaturlaw06_known.calls  false _ (Glb.of HG bel) A65.out).mono ?_); rintro e w93 ⟨rfl, hb⟩; refine ⟨_, rfl, ?_⟩; replace HO136 := aM (Kd.V_below (vL HO136.out) hb); replace HO139 := aM (Kd.V_below (vL HO139.out) hb); replace HO152 := aM (Kd.N_below (nL HO152.out) hb); replace HO158 := aM (Kd.N_below (nL HO158.out) hb); replace HO161 := aM (Kd.N_below (nL HO161.out) hb); replace HB := aM (below_step bel hb); clear hb))
         go_ret
         exact ⟨erR, bel⟩
end Go.Proofs.YtdpdmmbdoeefbaaDoor.PSp
