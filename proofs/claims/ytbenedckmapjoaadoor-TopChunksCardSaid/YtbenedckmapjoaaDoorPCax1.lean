-- Written by a program of this session, after the print of the kit.
import Derived.Test.YtbenedckmapjoaaDoorWC
import Derived.Test.YtbenedckmapjoaaDoorPCax0
namespace Go.Proofs.YtbenedckmapjoaaDoor.PCa
open Go.RowKit Go.Proofs.YtbenedckmapjoaaDoor.X Go.Proofs.YtbenedckmapjoaaDoor.PCut Go.Proofs.YtbenedckmapjoaaDoorW.PrintWords Go.Proofs.YtbenedckmapjoaaDoorW.PrintLast Go.Proofs.YtbenedckmapjoaaDoorW.PrintMore
attribute [local go_sem] max2_int min2_int max_two min_two max_three min_three max_four min_four   -- for this text's walks alone
set_option linter.unusedVariables false
set_option linter.unusedSimpArgs false

/-! ### merkle_Cut: function 31 -/
def merkle_Cut.l0 : Nat → List Int → Int → List (List Int) → Int → Int → Option ((List (List Int)) × Int)
 | 0, _, _, _, _, _ => none
 | k + 1, x0, x1, x8, x21, x22 => if x22 < x21 then (if 0 ≤ (wrap64 (x22 * x1)) then (if (wrap64 (x22 * x1)) ≤ (mn (x0.length : Int) (wrap64 ((wrap64 (x22 * x1)) + x1))) then (if (mn (x0.length : Int) (wrap64 ((wrap64 (x22 * x1)) + x1))) ≤ (x0.length : Int) then (if ([] : List Int).length + ((x0.take ((mn (x0.length : Int) (wrap64 ((wrap64 (x22 * x1)) + x1))) : Int).toNat).drop ((wrap64 (x22 * x1)) : Int).toNat).length < 140737488355328 then (if x8.length < 5864062014805 then (merkle_Cut.l0 k x0 x1 (x8 ++ [(([] : List Int) ++ ((x0.take ((mn (x0.length : Int) (wrap64 ((wrap64 (x22 * x1)) + x1))) : Int).toNat).drop ((wrap64 (x22 * x1)) : Int).toNat))]) x21 (wrap64 (x22 + 1))) else (none)) else (none)) else (none)) else (none)) else (none)) else (some (x8, 0))
def merkle_Cut.f (k : Nat) (l0 : List Int) (a1 : Int) : Option ((List (List Int)) × Int) := (merkle_Count.f k (l0.length : Int) a1).bind fun bt101 => (if bt101.2 = 0 then (merkle_Cut.l0 k l0 a1 ([] : List (List Int)) bt101.1 0) else (some (([] : List (List Int)), bt101.2)))
theorem merkle_Cut.mono_l : ∀ k, (∀ y0 y1 y2 y3 y4, LeO (merkle_Cut.l0 k y0 y1 y2 y3 y4) (merkle_Cut.l0 (k + 1) y0 y1 y2 y3 y4))
 | 0 => fun _ _ _ _ _ r h => by simp [merkle_Cut.l0] at h
 | k + 1 => by
  have ih0 := merkle_Cut.mono_l k
  intro y0 y1 y2 y3 y4
  unfold merkle_Cut.l0
  repeat' first
  | (with_reducible exact ih0 _ _ _ _ _)
  | (with_reducible exact merkle_Count.mono _ _ _)
  | (with_reducible exact LeO.refl _)
  | (with_reducible exact LeO.none _)
  | (with_reducible refine LeO.ite ?_ ?_)
  | (with_reducible refine LeO.bind ?_ (fun _ => ?_))
theorem merkle_Cut.mono : ∀ a0 a1 k, LeO (merkle_Cut.f k a0 a1) (merkle_Cut.f (k + 1) a0 a1) := by
 intro a0 a1 k
 have ih0 := merkle_Cut.mono_l k
 unfold merkle_Cut.f
 repeat' first
   | (with_reducible exact ih0 _ _ _ _ _)
   | (with_reducible exact merkle_Count.mono _ _ _)
   | (with_reducible exact LeO.refl _)
   | (with_reducible exact LeO.none _)
   | (with_reducible refine LeO.ite ?_ ?_)
   | (with_reducible refine LeO.bind ?_ (fun _ => ?_))
set_option maxHeartbeats 8000000 in
set_option maxRecDepth 100000 in
theorem merkle_Cut.calls (k : Nat) (A0 : Option Addr) (c0 : Nat) (l0 : List Int) (a1 : Int) (r1 : List (List Int)) (r2 : Int) (w : World) (hr0 : Kd.C (Kd.int .u8) w A0 l0.length l0) (hc0 : l0.length ≤ c0) (h : merkle_Cut.f k l0 a1 = some (r1, r2)) :
  Calls Tryd.prog 31 #[.slice A0 l0.length c0, .int .i64 a1] w fun e w' => ∃ v0_ : Value, e = .returned (.tuple #[v0_, .int .i64 r2]) ∧ Kd.S (Kd.slice 5 (Kd.int .u8)) 30 w' w.heap.size (fun _ => True) v0_ r1 ∧ Below w.heap.size w w' := by
 have HR0 := aM hr0
 have HC0 := aM hc0
 clear hr0 hc0
 have HB := aM (Below.refl w.heap.size w)
 have H : ((merkle_Count.f k (l0.length : Int) a1).bind fun bt101 => (if bt101.2 = 0 then (merkle_Cut.l0 k l0 a1 ([] : List (List Int)) bt101.1 0) else (some (([] : List (List Int)), bt101.2)))) = some (r1, r2) := h
 clear h
 replace H := Option.bind_eq_some_iff.mp H
 obtain ⟨⟨t101, t102⟩, A30, H⟩ := H
 replace H : (if t102 = 0 then (merkle_Cut.l0 k l0 a1 ([] : List (List Int)) t101 0) else (some (([] : List (List Int)), t102))) = some (r1, r2) := H
 have A3 := aM A30
 clear A30
 by_cases c4 : t102 = 0
 rotate_left
 ·rw [if_neg c4] at H
  have c4b0 : (t102 == 0) = false := beq_eq_false_iff_ne.mpr c4
  have c4b1 : (t102 != 0) = true := bne_iff_ne.mpr c4
  simp only [Option.some.injEq, Prod.mk.injEq] at H
  obtain ⟨rfl, rfl⟩ := H
  go_enter Tryd.func31, Tryd.ntmps31
  go_wp2_with (first | ((with_reducible refine gate_callee (f := 75) rfl ?_); refine goesL_ (some 15) rfl rfl Tryd.func75 (by kernel_rfl) rfl #[.int .i64 (l0.length : Int), .int .i64 a1] rfl eqA ?_; (with_reducible refine (merkle_Count.calls k (l0.length : Int) a1 t101 t102 _ A3.out).mono ?_); rintro e w' ⟨rfl, ⟨nd, rfl⟩⟩; refine ⟨_, rfl, ?_⟩))
  go_ret2
  exact ⟨_, erR, by first | exact Kd.S_nil _ _ _ _ _ | exact Kd.N_nil _ _ _ _ _ | exact Kd.V_nil _ _ _ _ _ | exact Kd.Q_nil _ _ _ _ _ | exact Kd.R_nil _ _ _ _ _, bel⟩

 rw [if_pos c4] at H
 have c4b0 : (t102 == 0) = true := beq_iff_eq.mpr c4
 have c4b1 : (t102 != 0) = false := bne_eq_false_iff_eq.mpr c4
 clear c4
 have H' := aM H
 clear H
 go_enter Tryd.func31, Tryd.ntmps31
 go_wp2_with (first | ((with_reducible refine gate_callee (f := 75) rfl ?_); refine goesL_ (some 15) rfl rfl Tryd.func75 (by kernel_rfl) rfl #[.int .i64 (l0.length : Int), .int .i64 a1] rfl eqA ?_; (with_reducible refine (merkle_Count.calls k (l0.length : Int) a1 t101 t102 _ A3.out).mono ?_); rintro e w' ⟨rfl, ⟨nd, rfl⟩⟩; refine ⟨_, rfl, ?_⟩))
 go_loopg [8, 22] k (fun kq v8 v22 w' => ∃ (x8_1 : List (List Int)) (x22_1 : Int), v22 = .int .i64 x22_1 ∧ Aside0 (merkle_Cut.l0 kq l0 a1 x8_1 t101 x22_1 = some (r1, r2)) ∧ Aside0 (kq ≤ k) ∧ Aside0 (Kd.S (Kd.slice 5 (Kd.int .u8)) 30 w' w.heap.size (fun _ => True) v8 x8_1) ∧ Aside0 (Below w.heap.size w w'))
 case atStart => exact ⟨(([] : List (List Int))), (0), rfS, H', ⟨Nat.le_refl _⟩, ⟨by first | exact Kd.S_nil _ _ _ _ _ | exact Kd.N_nil _ _ _ _ _ | exact Kd.V_nil _ _ _ _ _ | exact Kd.Q_nil _ _ _ _ _ | exact Kd.R_nil _ _ _ _ _⟩, ⟨bel⟩⟩
 case round =>
  clear H'
  try clear c4
  try clear c4b0
  try clear c4b1
  obtain ⟨x8_1, x22_1, rfl, HA, HK1, HO_8, HB⟩ := hrel
  cases gk with
  | zero => exact absurd HA.out (by simp [merkle_Cut.l0])
  | succ k1 =>
   have H := HA.out
   clear HA
   simp only [merkle_Cut.l0] at H
   by_cases c5 : x22_1 < t101
   rotate_left
   ·rw [if_neg c5] at H
    have c5b0 : decide (x22_1 < t101) = false := decide_eq_false c5
    clear c5
    simp only [Option.some.injEq, Prod.mk.injEq] at H
    obtain ⟨rfl, rfl⟩ := H
    go_wp2
    go_ret2
    exact ⟨_, erR, by (with_reducible repeat (first | apply Kd.S_alloc | apply Kd.S_drewN | apply Kd.S_drew)); exact HO_8.out, bel⟩
   rw [if_pos c5] at H
   have c5b0 : decide (x22_1 < t101) = true := decide_eq_true c5
   clear c5
   obtain ⟨ji6, hji6⟩ : ∃ j_ : Int, (mn (l0.length : Int) (wrap64 ((wrap64 (x22_1 * a1)) + a1))) = j_ := ⟨_, rfl⟩
   replace H : (if 0 ≤ (wrap64 (x22_1 * a1)) then (if (wrap64 (x22_1 * a1)) ≤ (ji6) then (if (ji6) ≤ (l0.length : Int) then (if ([] : List Int).length + ((l0.take ((ji6) : Int).toNat).drop ((wrap64 (x22_1 * a1)) : Int).toNat).length < 140737488355328 then (if x8_1.length < 5864062014805 then (merkle_Cut.l0 k1 l0 a1 (x8_1 ++ [(([] : List Int) ++ ((l0.take ((ji6) : Int).toNat).drop ((wrap64 (x22_1 * a1)) : Int).toNat))]) t101 (wrap64 (x22_1 + 1))) else (none)) else (none)) else (none)) else (none)) else (none)) = some (r1, r2) := by first | (rw [hji6] at H; exact H) | (simp only [hji6] at H ⊢; exact H)
   have hji6_ : (if (wrap64 ((wrap64 (x22_1 * a1)) + a1)) < (l0.length : Int) then (wrap64 ((wrap64 (x22_1 * a1)) + a1)) else (l0.length : Int)) = ji6 := hji6
   obtain ⟨ji7, hji7⟩ : ∃ j_ : Int, (wrap64 (x22_1 * a1)) = j_ := ⟨_, rfl⟩
   replace H : (if 0 ≤ (ji7) then (if (ji7) ≤ (ji6) then (if (ji6) ≤ (l0.length : Int) then (if ([] : List Int).length + ((l0.take ((ji6) : Int).toNat).drop ((ji7) : Int).toNat).length < 140737488355328 then (if x8_1.length < 5864062014805 then (merkle_Cut.l0 k1 l0 a1 (x8_1 ++ [(([] : List Int) ++ ((l0.take ((ji6) : Int).toNat).drop ((ji7) : Int).toNat))]) t101 (wrap64 (x22_1 + 1))) else (none)) else (none)) else (none)) else (none)) else (none)) = some (r1, r2) := by first | (rw [hji7] at H; exact H) | (simp only [hji7] at H ⊢; exact H)
   have hji7w : (IntKind.i64.wrap (x22_1 * a1)) = ji7 := (i64_w _).trans hji7
   (try rw [hji7] at hji6_)
   by_cases c8 : 0 ≤ (ji7)
   rotate_left
   ·rw [if_neg c8] at H
    exact absurd H (by simp)
   rw [if_pos c8] at H
   have c8b0 := eq_true c8
   have c8b1 : decide (0 ≤ (ji7)) = true := decide_eq_true c8
   clear c8
   by_cases c9 : (ji7) ≤ (ji6)
   rotate_left
   ·rw [if_neg c9] at H
    exact absurd H (by simp)
   rw [if_pos c9] at H
   have c9b0 := eq_true c9
   have c9b1 : decide ((ji7) ≤ (ji6)) = true := decide_eq_true c9
   clear c9
   by_cases c10 : (ji6) ≤ (l0.length : Int)
   rotate_left
   ·rw [if_neg c10] at H
    exact absurd H (by simp)
   rw [if_pos c10] at H
   have c10b0 := eq_true c10
   have c10b1 : decide ((ji6) ≤ (l0.length : Int)) = true := decide_eq_true c10
   clear c10
   by_cases c11 : ([] : List Int).length + ((l0.take ((ji6) : Int).toNat).drop ((ji7) : Int).toNat).length < 140737488355328
   rotate_left
   ·rw [if_neg c11] at H
    exact absurd H (by simp)
   rw [if_pos c11] at H
   have LMc11 := aM c11
   clear c11
   obtain ⟨y104, hy104⟩ : ∃ y_ : List Int, y_ = (([] : List Int) ++ ((l0.take ((ji6) : Int).toNat).drop ((ji7) : Int).toNat)) := ⟨_, rfl⟩
   replace H : (if x8_1.length < 5864062014805 then (merkle_Cut.l0 k1 l0 a1 (x8_1 ++ [y104]) t101 (wrap64 (x22_1 + 1))) else (none)) = some (r1, r2) := hyA hy104 H
   have Ny104 := aM hy104
   clear hy104
   by_cases c12 : x8_1.length < 5864062014805
   rotate_left
   ·rw [if_neg c12] at H
    exact absurd H (by simp)
   rw [if_pos c12] at H
   have LMc12 := aM c12
   clear c12
   obtain ⟨y107, hy107⟩ : ∃ y_ : List (List Int), y_ = (x8_1 ++ [y104]) := ⟨_, rfl⟩
   replace H : (merkle_Cut.l0 k1 l0 a1 y107 t101 (wrap64 (x22_1 + 1))) = some (r1, r2) := hyA hy107 H
   have Ny107 := aM hy107
   clear hy107
   have H' := aM H
   clear H
   obtain ⟨i013, hi013, _, hsz13, _⟩ := info_parts info5
   obtain ⟨A13, hcut13, hA13, hC13⟩ := print_mid_of (P := Tryd.prog) (Value.int .u8) 0 30 5 .i64 .i64 Tryd.underlying30 hi013 hsz13 A0 c0 l0 (ji7) (ji6) (of_decide_eq_true asm_) (by first | omega | exact of_decide_eq_true asm_) (of_decide_eq_true asm_) HC0.out
   have HR103 := aM (Kd.C_of_reads (h1 := fun _ => rfl) (hA13 _ (Kd.reads_of_C HR0.out)))
   have HC103 := aM hC13
   clear hA13 hC13 hi013 hsz13
   go_wp2_with (first | ((with_reducible refine gate_builtin (b := .append) (xs := #[.const (.slice none 0 0), .tmp 37]) rfl ?_); at_builtin; refine Kd.R_append_rows (Kd.int .u8) (w0 := w) w.heap.size rfl (.const (.slice none 0 0)) (.tmp 37) 30 5 (.int .u8 0) 1 rfl Tryd.underlying30 info5 rfl (by decide) (by omega) (.slice none 0 0) ([] : List Int) ((l0.take ((ji6) : Int).toNat).drop ((ji7) : Int).toNat) _ _ _ (fun _ => True) (fun _ => False) rfl rfl ?aO ?aR (fun _ _ h => h) (fun _ h => h.elim) ?aF ?aB ?aS ?aL ?_; (case aR => first | (rw [← show ((l0.take ((ji6) : Int).toNat).drop ((ji7) : Int).toNat).length = ((ji6).toNat - (ji7).toNat) from (by rw [List.length_drop, List.length_take]; have h_ : ((ji6) : Int) ≤ (l0.length : Int) := of_decide_eq_true asm_; omega)]; repeat (first | exact (Kd.C_below HR103.out HB.out) | (with_reducible refine Kd.C_alloc ?_ _) | (with_reducible refine Kd.C_drewN ?_ _) | (with_reducible refine Kd.C_drew ?_))) | (repeat (first | exact (Kd.C_below HR103.out HB.out) | (with_reducible refine Kd.C_alloc ?_ _) | (with_reducible refine Kd.C_drewN ?_ _) | (with_reducible refine Kd.C_drew ?_)))); (case aB => exact bel); (case aF => exact (fun _ _ => trivial)); (case aO => exact ((Kd.R_nil _ _ _ _ (fun _ => True)))); (case aS => exact (below_size bel)); (case aL => have := LMc11.out; have hlx_ := (show ((l0.take ((ji6) : Int).toNat).drop ((ji7) : Int).toNat).length = ((ji6).toNat - (ji7).toNat) from (by rw [List.length_drop, List.length_take]; have h_ : ((ji6) : Int) ≤ (l0.length : Int) := of_decide_eq_true asm_; omega)); omega); intro v105 w14 ho hb hg hat; rw [← Ny104.out] at ho; replace HO_8 := aM (Kd.S_after (Kd.S_apart_nil (sL HO_8.out)) hg hat); replace HB := aM (hb); have HO106 := aM (ho); clear ho hb hg hat; obtain ⟨Ao16, co16, eo16⟩ := Kd.R_slice HO106.out; subst eo16) | ((with_reducible refine gate_builtin (b := .append) (xs := #[.tmp 28, .tmp 39]) rfl ?_); at_builtin; refine Kd.S_append (Kd.slice 5 (Kd.int .u8)) (w0 := w) w.heap.size rfl (.tmp 28) (.tmp 39) 22 30 (.slice none 0 0) 24 rfl Tryd.underlying22 info30 rfl (by decide) (by omega) u8 x8_1 y104 [.slice Ao16 y104.length co16] (fun _ => True) (fun k_ => some k_ = (.slice Ao16 y104.length co16 : Value).ownBlock) rfl rfl ?aP (fun k_ hk_ => ((Kd.R_mono (ok' := fun k_ => ((fun _ => True)) k_ ∧ some k_ ≠ (u8 : Value).ownBlock) (Kd.R_apart' (HO106.out) (Kd.S_typed HO_8.out) (by decide)) (fun k_ hk => ⟨trivial, hk.2⟩))).1 k_ hk_.symm) ?aF ?aO ?aB ?aS ?aL ?_; (case aP => exact Kd.M_row (Kd.R_mono (Kd.R_tight rfl (Kd.R_mono (ok' := fun k_ => ((fun _ => True)) k_ ∧ some k_ ≠ (u8 : Value).ownBlock) (Kd.R_apart' (HO106.out) (Kd.S_typed HO_8.out) (by decide)) (fun k_ hk => ⟨trivial, hk.2⟩))) (fun _ h_ => h_))); (case aB => exact bel); (case aF => exact (fun _ _ => trivial)); (case aO => exact (by (with_reducible repeat (first | apply Kd.S_alloc | apply Kd.S_drewN | apply Kd.S_drew)); exact Kd.S_mono HO_8.out (fun k_ hk => ⟨trivial, fun e_ => hk.2 e_⟩))); (case aS => exact (below_size bel)); (case aL => have := LMc12.out; omega); intro v108 w15 ho hb hg hat; rw [← Ny107.out] at ho; replace HB := aM (hb); have HO109 := aM (ho); clear HO_8 HO106; clear ho hb hg hat))
   go_roundg k1
   case measure => have := HK1.out; omega
   case rel => exact ⟨(y107), (wrap64 (x22_1 + 1)), rfS, H', ⟨by have := HK1.out; omega⟩, ⟨by (with_reducible repeat (first | apply Kd.S_alloc | apply Kd.S_drewN | apply Kd.S_drew)); exact HO109.out⟩, ⟨bel⟩⟩
/-! ### merkle_Of: function 32 -/
def merkle_Of.l0 : Nat → List (List Int) → List (List Int) → Int → Int → Option (List Int × Int)
 | 0, _, _, _, _ => none
 | k + 1, x8, x22, x23, x24 => if x24 < x23 then (if 0 ≤ x24 then (if x24 < (x22.length : Int) then ((merkle_Leaf.f k x24 (rd_L1 x22 x24)).bind fun bt115 => (if x8.length < 5864062014805 then (merkle_Of.l0 k (x8 ++ [bt115.1]) x22 x23 (wrap64 (x24 + 1))) else (none))) else (none)) else (none)) else ((merkle_Root.f k x8).bind fun bt122 => (some (bt122.1, bt122.2)))
def merkle_Of.f (k : Nat) (l0 : List Int) (a1 : Int) : Option (List Int × Int) := (merkle_Cut.f k l0 a1).bind fun bt110 => (if bt110.2 = 0 then (merkle_Of.l0 k ([] : List (List Int)) bt110.1 (bt110.1.length : Int) 0) else (some (([] : List Int), bt110.2)))
theorem merkle_Of.mono_l : ∀ k, (∀ y0 y1 y2 y3, LeO (merkle_Of.l0 k y0 y1 y2 y3) (merkle_Of.l0 (k + 1) y0 y1 y2 y3))
 | 0 => fun _ _ _ _ r h => by simp [merkle_Of.l0] at h
 | k + 1 => by
  have ih0 := merkle_Of.mono_l k
  intro y0 y1 y2 y3
  unfold merkle_Of.l0
  repeat' first
  | (with_reducible exact ih0 _ _ _ _)
  | (with_reducible exact merkle_Cut.mono _ _ _)
  | (with_reducible exact merkle_Leaf.mono _ _ _)
  | (with_reducible exact merkle_Root.mono _ _)
  | (with_reducible exact LeO.refl _)
  | (with_reducible exact LeO.none _)
  | (with_reducible refine LeO.ite ?_ ?_)
  | (with_reducible refine LeO.bind ?_ (fun _ => ?_))
theorem merkle_Of.mono : ∀ a0 a1 k, LeO (merkle_Of.f k a0 a1) (merkle_Of.f (k + 1) a0 a1) := by
 intro a0 a1 k
 have ih0 := merkle_Of.mono_l k
 unfold merkle_Of.f
 repeat' first
   | (with_reducible exact ih0 _ _ _ _)
   | (with_reducible exact merkle_Cut.mono _ _ _)
   | (with_reducible exact merkle_Leaf.mono _ _ _)
   | (with_reducible exact merkle_Root.mono _ _)
   | (with_reducible exact LeO.refl _)
   | (with_reducible exact LeO.none _)
   | (with_reducible refine LeO.ite ?_ ?_)
   | (with_reducible refine LeO.bind ?_ (fun _ => ?_))
set_option maxHeartbeats 8000000 in
set_option maxRecDepth 100000 in
theorem merkle_Of.calls (k : Nat) (A0 : Option Addr) (c0 : Nat) (l0 : List Int) (a1 : Int) (r1 : List Int) (r2 : Int) (w : World) (HG : Glb w) (hr0 : Kd.C (Kd.int .u8) w A0 l0.length l0) (hc0 : l0.length ≤ c0) (h : merkle_Of.f k l0 a1 = some (r1, r2)) :
  Calls Tryd.prog 32 #[.slice A0 l0.length c0, .int .i64 a1] w fun e w' => ∃ v0_ : Value, e = .returned (.tuple #[v0_, .int .i64 r2]) ∧ Kd.R (Kd.int .u8) 5 w' w.heap.size (fun _ => True) v0_ r1 ∧ Below w.heap.size w w' := by
 have HR0 := aM hr0
 have HC0 := aM hc0
 clear hr0 hc0
 have HB := aM (Below.refl w.heap.size w)
 have H : ((merkle_Cut.f k l0 a1).bind fun bt110 => (if bt110.2 = 0 then (merkle_Of.l0 k ([] : List (List Int)) bt110.1 (bt110.1.length : Int) 0) else (some (([] : List Int), bt110.2)))) = some (r1, r2) := h
 clear h
 replace H := Option.bind_eq_some_iff.mp H
 obtain ⟨⟨t110, t111⟩, A30, H⟩ := H
 replace H : (if t111 = 0 then (merkle_Of.l0 k ([] : List (List Int)) t110 (t110.length : Int) 0) else (some (([] : List Int), t111))) = some (r1, r2) := H
 have A3 := aM A30
 clear A30
 by_cases c4 : t111 = 0
 rotate_left
 ·rw [if_neg c4] at H
  have c4b0 : (t111 == 0) = false := beq_eq_false_iff_ne.mpr c4
  have c4b1 : (t111 != 0) = true := bne_iff_ne.mpr c4
  simp only [Option.some.injEq, Prod.mk.injEq] at H
  obtain ⟨rfl, rfl⟩ := H
  go_enter Tryd.func32, Tryd.ntmps32
  go_wp2_with (first | ((with_reducible refine gate_callee (f := 31) rfl ?_); refine goesL_ (some 16) rfl rfl Tryd.func31 (by kernel_rfl) rfl #[.slice A0 l0.length c0, .int .i64 a1] rfl eqA ?_; (with_reducible refine (merkle_Cut.calls k _ _ l0 a1 t110 t111 _ ?side1 ?side2 A3.out).mono ?_); (case side1 => exact cL HR0.out); (case side2 => exact HC0.out); rintro e w18 ⟨v112, rfl, ho0, hb⟩; refine ⟨_, rfl, ?_⟩; have HO113 := aM (Kd.S_lower ho0 (below_size bel)); replace HB := aM (below_step bel hb); clear hb ho0))
  go_ret2
  exact ⟨_, erR, by first | exact Kd.R_nil _ _ _ _ _ | exact Kd.N_nil _ _ _ _ _ | exact Kd.V_nil _ _ _ _ _ | exact Kd.Q_nil _ _ _ _ _ | exact Kd.S_nil _ _ _ _ _, bel⟩

 rw [if_pos c4] at H
 have c4b0 : (t111 == 0) = true := beq_iff_eq.mpr c4
 have c4b1 : (t111 != 0) = false := bne_eq_false_iff_eq.mpr c4
 clear c4
 have H' := aM H
 clear H
 go_enter Tryd.func32, Tryd.ntmps32
 go_wp2_with (first | ((with_reducible refine gate_callee (f := 31) rfl ?_); refine goesL_ (some 16) rfl rfl Tryd.func31 (by kernel_rfl) rfl #[.slice A0 l0.length c0, .int .i64 a1] rfl eqA ?_; (with_reducible refine (merkle_Cut.calls k _ _ l0 a1 t110 t111 _ ?side1 ?side2 A3.out).mono ?_); (case side1 => exact cL HR0.out); (case side2 => exact HC0.out); rintro e w5 ⟨v112, rfl, ho0, hb⟩; refine ⟨_, rfl, ?_⟩; have HO113 := aM (Kd.S_lower ho0 (below_size bel)); replace HB := aM (below_step bel hb); clear hb ho0; obtain ⟨Ao6, co6, eo6⟩ := Kd.S_slice HO113.out; subst eo6))
 go_loopg [8, 24] k (fun kq v8 v24 w' => ∃ (x8_1 : List (List Int)) (x24_1 : Int), v24 = .int .i64 x24_1 ∧ Aside0 (merkle_Of.l0 kq x8_1 t110 (t110.length : Int) x24_1 = some (r1, r2)) ∧ Aside0 (kq ≤ k) ∧ Aside0 (Kd.S (Kd.slice 5 (Kd.int .u8)) 30 w' w.heap.size (fun k_ => some k_ ≠ ((.slice Ao6 t110.length co6) : Value).ownBlock) v8 x8_1) ∧ Aside0 (Kd.S (Kd.slice 5 (Kd.int .u8)) 30 w' w.heap.size (fun k_ => some k_ ≠ (v8 : Value).ownBlock) (.slice Ao6 t110.length co6) t110) ∧ Aside0 (Below w.heap.size w w'))
 case atStart => exact ⟨(([] : List (List Int))), (0), rfS, H', ⟨Nat.le_refl _⟩, ⟨by first | exact Kd.S_nil _ _ _ _ _ | exact Kd.N_nil _ _ _ _ _ | exact Kd.V_nil _ _ _ _ _ | exact Kd.Q_nil _ _ _ _ _ | exact Kd.R_nil _ _ _ _ _⟩, ⟨by (with_reducible repeat (first | apply Kd.S_alloc | apply Kd.S_drewN | apply Kd.S_drew)); exact Kd.S_mono HO113.out (fun _ hk => (by simp [Value.ownBlock]))⟩, ⟨bel⟩⟩
 case round =>
  clear H'
  try clear c4
  try clear c4b0
  try clear c4b1
  obtain ⟨x8_1, x24_1, rfl, HA, HK1, HO_8, HO_22, HB⟩ := hrel
  cases gk with
  | zero => exact absurd HA.out (by simp [merkle_Of.l0])
  | succ k1 =>
   have H := HA.out
   clear HA
   simp only [merkle_Of.l0] at H
   by_cases c7 : x24_1 < (t110.length : Int)
   rotate_left
   ·rw [if_neg c7] at H
    have c7b0 : decide (x24_1 < (t110.length : Int)) = false := decide_eq_false c7
    clear c7
    replace H := Option.bind_eq_some_iff.mp H
    obtain ⟨⟨t122, t123⟩, A150, H⟩ := H
    replace H : (some (t122, t123)) = some (r1, r2) := H
    have A15 := aM A150
    clear A150
    simp only [Option.some.injEq, Prod.mk.injEq] at H
    obtain ⟨rfl, rfl⟩ := H
    obtain ⟨Ao16, co16, eo16⟩ := Kd.S_slice HO_8.out
    subst eo16
    go_wp2_with (first | ((with_reducible refine gate_callee (f := 76) rfl ?_); refine goesL_ (some 41) rfl rfl Tryd.func76 (by kernel_rfl) rfl #[.slice Ao16 x8_1.length co16] rfl eqA ?_; (with_reducible refine (merkle_Root.calls k1 _ _ x8_1 t122 t123 _ (Glb.of HG bel) ?side1 ?side2 A15.out).mono ?_); (case side1 => exact cL (Kd.S_reads' HO_8.out).2.2); (case side2 => exact (Kd.S_reads' HO_8.out).2.1); rintro e w17 ⟨v124, rfl, ho0, hb⟩; refine ⟨_, rfl, ?_⟩; replace HO_8 := aM (Kd.S_elder' (sL HO_8.out) (Kd.R_base ho0) hb); replace HO_22 := aM (Kd.S_elder' (sL HO_22.out) (Kd.R_base ho0) hb); have HO125 := aM (Kd.R_lower ho0 (below_size bel)); replace HB := aM (below_step bel hb); clear hb ho0))
    go_ret2
    exact ⟨_, erR, by (with_reducible repeat (first | apply Kd.R_alloc | apply Kd.R_drewN | apply Kd.R_drew)); exact HO125.out, bel⟩
   rw [if_pos c7] at H
   have c7b0 : decide (x24_1 < (t110.length : Int)) = true := decide_eq_true c7
   clear c7
   by_cases c8 : 0 ≤ x24_1
   rotate_left
   ·rw [if_neg c8] at H
    exact absurd H (by simp)
   rw [if_pos c8] at H
   have c8b0 : decide (0 ≤ x24_1) = true := decide_eq_true c8
   clear c8
   by_cases c9 : x24_1 < (t110.length : Int)
   rotate_left
   ·rw [if_neg c9] at H
    exact absurd H (by simp)
   rw [if_pos c9] at H
   have c9b0 : decide (x24_1 < (t110.length : Int)) = true := decide_eq_true c9
   clear c9
   replace H := Option.bind_eq_some_iff.mp H
   obtain ⟨⟨t115, t118⟩, A100, H⟩ := H
   replace H : (if x8_1.length < 5864062014805 then (merkle_Of.l0 k1 (x8_1 ++ [t115]) t110 (t110.length : Int) (wrap64 (x24_1 + 1))) else (none)) = some (r1, r2) := H
   have A10 := aM A100
   clear A100
   by_cases c11 : x8_1.length < 5864062014805
   rotate_left
   ·rw [if_neg c11] at H
    exact absurd H (by simp)
   rw [if_pos c11] at H
   have LMc11 := aM c11
   clear c11
   obtain ⟨y119, hy119⟩ : ∃ y_ : List (List Int), y_ = (x8_1 ++ [t115]) := ⟨_, rfl⟩
   replace H : (merkle_Of.l0 k1 y119 t110 (t110.length : Int) (wrap64 (x24_1 + 1))) = some (r1, r2) := hyA hy119 H
   have Ny119 := aM hy119
   clear hy119
   have H' := aM H
   clear H
   have p114 : 0 ≤ (x24_1 : Int) := of_decide_eq_true asm_
   have q114 : x24_1 < (t110.length : Int) := of_decide_eq_true asm_
   obtain ⟨ad114, A114_0, c114_0, e114, hx114_0, hl114_0, hi114_0⟩ := at_L1 (Kd.S_reads' HO_22.out).2.2 x24_1 p114 q114
   cases e114
   obtain ⟨ce114, hce114, hMe114, hcc114⟩ := Kd.S_get HO_22.out [] x24_1 p114 (by first | exact q114 | exact of_decide_eq_true asm_ | (have e_ := (Kd.S_reads' HO_22.out).1; omega))
   obtain ⟨ve114_0, rfl, ge114_0⟩ := hMe114
   have hv114_0 := hcc114 0 _ rfl
   rw [Nat.add_zero, show ((Kd.slice 5 (Kd.int .u8))).sz = 1 from rfl, Nat.mul_one] at hv114_0
   replace hv114_0 := Option.some.inj (hv114_0.symm.trans hx114_0)
   rw [hv114_0] at ge114_0
   have HL114_0 := aM (show Kd.R (Kd.int .u8) 5 _ _ _ _ (rd_L1 t110 x24_1) from ge114_0)
   clear hv114_0 ge114_0
   clear hcc114 hce114
   have HR114_0 := aM hi114_0
   have HC114_0 := aM hl114_0
   clear hi114_0 hl114_0
   replace p114 := eq_true p114
   replace q114 := eq_true q114
   go_wp2_with (first | ((with_reducible refine gate_callee (f := 33) rfl ?_); refine goesL_ (some 32) rfl rfl Tryd.func33 (by kernel_rfl) rfl #[.int .i64 x24_1, .slice A114_0 (rd_L1 t110 x24_1).length c114_0] rfl eqA ?_; (with_reducible refine (merkle_Leaf.calls k1 x24_1 (fun k_ => some k_ = (.slice A114_0 (rd_L1 t110 x24_1).length c114_0 : Value).ownBlock) _ _ (rd_L1 t110 x24_1) t115 t118 _ (Glb.of HG bel) ?side1 A10.out).mono ?_); (case side1 => exact Kd.R_V (Kd.R_tight rfl (HL114_0.out))); rintro e w12 ⟨v116, rfl, ho0, hb⟩; refine ⟨_, rfl, ?_⟩; replace HO_8 := aM (Kd.S_elder' (sL HO_8.out) (Kd.R_base ho0) hb); replace HO_22 := aM (Kd.S_elder' (sL HO_22.out) (Kd.R_base ho0) hb); have HO117 := aM (Kd.R_lower (Kd.R_new' (Kd.R_mono (ok' := fun k_ => True) ho0 (fun _ hk_ => trivial)) (Kd.R_lt (rL HL114_0.out))) (below_size bel)); replace HL114_0 := aM (Kd.R_elder' (rL HL114_0.out) (Kd.R_base ho0) hb); replace HR114_0 := aM (Kd.C_below (by repeat (first | (with_reducible exact HR114_0.out) | (with_reducible refine Kd.C_alloc ?_ _) | (with_reducible refine Kd.C_drewN ?_ _) | (with_reducible refine Kd.C_drew ?_) | exact HR114_0.out)) hb); replace HB := aM (below_step bel hb); obtain ⟨Ao14, co14, eo14⟩ := Kd.R_slice HO117.out; subst eo14) | ((with_reducible refine gate_builtin (b := .append) (xs := #[.tmp 35, .tmp 37]) rfl ?_); at_builtin; refine Kd.S_append (Kd.slice 5 (Kd.int .u8)) (w0 := w) w.heap.size rfl (.tmp 35) (.tmp 37) 22 30 (.slice none 0 0) 24 rfl Tryd.underlying22 info30 rfl (by decide) (by omega) u8 x8_1 t115 [.slice Ao14 t115.length co14] (fun k_ => some k_ ≠ (.slice (some ad114) t110.length co6 : Value).ownBlock) (fun k_ => some k_ = (.slice Ao14 t115.length co14 : Value).ownBlock) rfl rfl ?aP (fun k_ hk_ => ((Kd.R_mono (ok' := fun k_ => ((fun k_ => some k_ ≠ (.slice (some ad114) t110.length co6 : Value).ownBlock)) k_ ∧ some k_ ≠ (u8 : Value).ownBlock) (Kd.R_apart' (Kd.R_apart' (HO117.out) (Kd.S_typed HO_22.out) (by decide)) (Kd.S_typed HO_8.out) (by decide)) (fun k_ hk => ⟨hk.1.2, hk.2⟩))).1 k_ hk_.symm) ?aF ?aO ?aB ?aS ?aL ?_; (case aP => exact Kd.M_row (Kd.R_mono (Kd.R_tight rfl (Kd.R_mono (ok' := fun k_ => ((fun k_ => some k_ ≠ (.slice (some ad114) t110.length co6 : Value).ownBlock)) k_ ∧ some k_ ≠ (u8 : Value).ownBlock) (Kd.R_apart' (Kd.R_apart' (HO117.out) (Kd.S_typed HO_22.out) (by decide)) (Kd.S_typed HO_8.out) (by decide)) (fun k_ hk => ⟨hk.1.2, hk.2⟩))) (fun _ h_ => h_))); (case aB => exact bel); (case aF => exact (fun k_ hk => Kd.fresh' (Kd.S_lt (sL HO_22.out)) k_ hk)); (case aO => exact (by (with_reducible repeat (first | apply Kd.S_alloc | apply Kd.S_drewN | apply Kd.S_drew)); exact Kd.S_mono HO_8.out (fun k_ hk => ⟨hk.1, fun e_ => hk.2 e_⟩))); (case aS => exact (below_size bel)); (case aL => have := LMc11.out; omega); intro v120 w13 ho hb hg hat; rw [← Ny119.out] at ho; replace HO_22 := aM (Kd.S_after (ok := (fun k_ => some k_ ≠ (.slice Ao14 t115.length co14 : Value).ownBlock)) (by (with_reducible repeat (first | apply Kd.S_alloc | apply Kd.S_drewN | apply Kd.S_drew)); exact Kd.S_mono HO_22.out (fun _ hk => ⟨hk.2, hk.1⟩)) hg hat); replace HL114_0 := aM (Kd.R_after (ok := (fun k_ => some k_ ≠ (.slice (some ad114) t110.length co6 : Value).ownBlock ∧ some k_ ≠ (.slice Ao14 t115.length co14 : Value).ownBlock)) (by (with_reducible repeat (first | apply Kd.R_alloc | apply Kd.R_drewN | apply Kd.R_drew)); exact Kd.R_mono HL114_0.out (fun _ hk => ⟨⟨hk.1.2, hk.2⟩, hk.1.1⟩)) hg hat); replace HB := aM (hb); have HO121 := aM (ho); clear HO_8 HO117; clear ho hb hg hat))
   go_roundg k1
   case measure => have := HK1.out; omega
   case rel => exact ⟨(y119), (wrap64 (x24_1 + 1)), rfS, H', ⟨by have := HK1.out; omega⟩, ⟨by (with_reducible repeat (first | apply Kd.S_alloc | apply Kd.S_drewN | apply Kd.S_drew)); exact HO121.out⟩, ⟨by (with_reducible repeat (first | apply Kd.S_alloc | apply Kd.S_drewN | apply Kd.S_drew)); exact Kd.S_mono HO_22.out (fun _ hk => hk.2)⟩, ⟨bel⟩⟩
end Go.Proofs.YtbenedckmapjoaaDoor.PCa
