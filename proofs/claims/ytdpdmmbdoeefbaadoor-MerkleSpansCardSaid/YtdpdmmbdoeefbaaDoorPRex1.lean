-- Written by a program of this session, after the print of the kit.
import Derived.Test.YtdpdmmbdoeefbaaDoorWC
import Derived.Test.YtdpdmmbdoeefbaaDoorPRex0
namespace Go.Proofs.YtdpdmmbdoeefbaaDoor.PRe
open Go.RowKit X PCut PCa PCs PCo PCr PRa YtdpdmmbdoeefbaaDoorW.PrintWords YtdpdmmbdoeefbaaDoorW.PrintLast YtdpdmmbdoeefbaaDoorW.PrintMore
attribute [local go_sem] max2_int min2_int max_two min_two max_three min_three max_four min_four   -- for this text's walks alone
set_option linter.unusedVariables false
set_option linter.unusedSimpArgs false

/-! ### imprimaturref06_Outer: function 68 -/
mutual
def imprimaturref06_Outer.j0 : Nat → List (List Int) → Int → Int → Int → Bool → Option ((List (List Int)))
 | 0, _, _, _, _, _ => none
 | k + 1, x0, x1, x2, x3, x22 => if x22 = true then ((imprimaturref06_Top.f k x0).bind fun bt101 => (some (([bt101.1] : List (List Int))))) else (if x2 ≤ x1 then (imprimaturref06_Outer.j1 k x0 x1 x2 x3 (decide ((wrap64 (x1 + (x0.length : Int))) ≤ x3))) else (imprimaturref06_Outer.j1 k x0 x1 x2 x3 false))
def imprimaturref06_Outer.j1 : Nat → List (List Int) → Int → Int → Int → Bool → Option ((List (List Int)))
 | 0, _, _, _, _, _ => none
 | k + 1, x0, x1, x2, x3, x40 => if x40 = true then (some ([] : List (List Int))) else ((imprimaturref06_Half.f k (x0.length : Int)).bind fun t110 => (if 0 ≤ t110 then (if t110 ≤ (x0.length : Int) then ((imprimaturref06_Outer.f k (x0.take (t110 : Int).toNat) x1 x2 x3).bind fun t116 => ((imprimaturref06_Outer.f k (x0.drop (t110 : Int).toNat) (wrap64 (x1 + t110)) x2 x3).bind fun t124 => (if t116.length + t124.length < 5864062014805 then (some (t116 ++ t124)) else (none)))) else (none)) else (none)))
def imprimaturref06_Outer.f : Nat → List (List Int) → Int → Int → Int → Option ((List (List Int)))
 | 0, _, _, _, _ => none
 | k + 1, l0, a1, a2, a3 => if (wrap64 (a1 + (l0.length : Int))) ≤ a2 then (imprimaturref06_Outer.j0 k l0 a1 a2 a3 true) else (imprimaturref06_Outer.j0 k l0 a1 a2 a3 (decide (a1 ≥ a3)))
end
theorem imprimaturref06_Outer.mono_l : ∀ k, (∀ y0 y1 y2 y3, LeO (imprimaturref06_Outer.f k y0 y1 y2 y3) (imprimaturref06_Outer.f (k + 1) y0 y1 y2 y3)) ∧ (∀ y0 y1 y2 y3 y4, LeO (imprimaturref06_Outer.j0 k y0 y1 y2 y3 y4) (imprimaturref06_Outer.j0 (k + 1) y0 y1 y2 y3 y4)) ∧ (∀ y0 y1 y2 y3 y4, LeO (imprimaturref06_Outer.j1 k y0 y1 y2 y3 y4) (imprimaturref06_Outer.j1 (k + 1) y0 y1 y2 y3 y4))
 | 0 => ⟨fun _ _ _ _ r h => by simp [imprimaturref06_Outer.f] at h, fun _ _ _ _ _ r h => by simp [imprimaturref06_Outer.j0] at h, fun _ _ _ _ _ r h => by simp [imprimaturref06_Outer.j1] at h⟩
 | k + 1 => by
  obtain ⟨ih0, ih1, ih2⟩ := imprimaturref06_Outer.mono_l k
  refine ⟨?_, ?_, ?_⟩
  ·intro y0 y1 y2 y3
   unfold imprimaturref06_Outer.f
   repeat' first
   | (with_reducible exact ih0 _ _ _ _)
   | (with_reducible exact ih1 _ _ _ _ _)
   | (with_reducible exact ih2 _ _ _ _ _)
   | (with_reducible exact imprimaturref06_Half.mono _ _)
   | (with_reducible exact imprimaturref06_Top.mono _ _)
   | (with_reducible exact LeO.refl _)
   | (with_reducible exact LeO.none _)
   | (with_reducible refine LeO.ite ?_ ?_)
   | (with_reducible refine LeO.bind ?_ (fun _ => ?_))
  ·intro y0 y1 y2 y3 y4
   unfold imprimaturref06_Outer.j0
   repeat' first
   | (with_reducible exact ih0 _ _ _ _)
   | (with_reducible exact ih1 _ _ _ _ _)
   | (with_reducible exact ih2 _ _ _ _ _)
   | (with_reducible exact imprimaturref06_Half.mono _ _)
   | (with_reducible exact imprimaturref06_Top.mono _ _)
   | (with_reducible exact LeO.refl _)
   | (with_reducible exact LeO.none _)
   | (with_reducible refine LeO.ite ?_ ?_)
   | (with_reducible refine LeO.bind ?_ (fun _ => ?_))
  intro y0 y1 y2 y3 y4
  unfold imprimaturref06_Outer.j1
  repeat' first
  | (with_reducible exact ih0 _ _ _ _)
  | (with_reducible exact ih1 _ _ _ _ _)
  | (with_reducible exact ih2 _ _ _ _ _)
  | (with_reducible exact imprimaturref06_Half.mono _ _)
  | (with_reducible exact imprimaturref06_Top.mono _ _)
  | (with_reducible exact LeO.refl _)
  | (with_reducible exact LeO.none _)
  | (with_reducible refine LeO.ite ?_ ?_)
  | (with_reducible refine LeO.bind ?_ (fun _ => ?_))
theorem imprimaturref06_Outer.mono : ∀ a0 a1 a2 a3 k, LeO (imprimaturref06_Outer.f k a0 a1 a2 a3) (imprimaturref06_Outer.f (k + 1) a0 a1 a2 a3) := by
 intro a0 a1 a2 a3 k
 obtain ⟨ih0, ih1, ih2⟩ := imprimaturref06_Outer.mono_l k
 exact ih0 a0 a1 a2 a3
def imprimaturref06_Outer.T7 : Bool × List (List Nat × List Nat) := (true, [([], []), ([], []), ([0, 1], [0, 1]), ([], []), ([], []), ([], []), ([2, 3, 4, 5], [2, 3, 4, 5]), ([], []), ([], []), ([7, 8], [7, 8]), ([], []), ([], []), ([10, 11], [10, 11]), ([], []), ([], []), ([9, 12, 13, 14, 6], [9, 12, 13, 14]), ([6, 15, 15], [6, 15]), ([16, 16, 0, 1, 2, 3, 4, 5, 6, 7, 8, 9, 10, 11, 12, 13, 14, 15, 16], [16])])
def imprimaturref06_Outer.B7 : List Nat := [0, 0, 3, 0, 0, 0, 63, 0, 0, 384, 0, 0, 3072, 0, 0, 32767, 65535, 131071]
theorem imprimaturref06_Outer.tab7 : rtab .any (opsOf Tryd.f68 7) = imprimaturref06_Outer.T7 := by kernel_rfl
theorem imprimaturref06_Outer.bits7 : waitsOk imprimaturref06_Outer.T7.2 imprimaturref06_Outer.B7 = true := by kernel_rfl
set_option maxHeartbeats 8000000 in
set_option maxRecDepth 100000 in
theorem imprimaturref06_Outer.calls (k : Nat) : ∀ (P0_ : Nat → Prop) (A0 : Option Addr) (c0 : Nat) (l0 : List (List Int)) (a1 : Int) (a2 : Int) (a3 : Int) (r : List (List Int)) (w : World) (hs0 : Kd.V (Kd.slice 5 (Kd.int .u8)) 22 w w.heap.size (fun k_ => P0_ k_) (.slice A0 l0.length c0) l0) (h : imprimaturref06_Outer.f k l0 a1 a2 a3 = some r),
  Calls Tryd.prog 68 #[.slice A0 l0.length c0, .int .i64 a1, .int .i64 a2, .int .i64 a3] w fun e w' => ∃ v0_ : Value, e = .returned (v0_) ∧ Kd.N (Kd.slice 5 (Kd.int .u8)) 22 w' w.heap.size (fun k_ => (P0_ k_ ∨ w.heap.size ≤ k_)) v0_ r ∧ Below w.heap.size w w' := by
 induction k using Nat.strongRecOn with
 | _ k ih =>
 intro P0_ A0 c0 l0 a1 a2 a3 r w hs0 h
 cases k with
 | zero => exact absurd h (by simp [imprimaturref06_Outer.f])
 | succ k =>
 simp only [imprimaturref06_Outer.f] at h
 have HO0 := aM (show Kd.V (Kd.slice 5 (Kd.int .u8)) 22 w w.heap.size (fun k_ => (P0_ k_ ∨ w.heap.size ≤ k_)) (.slice A0 l0.length c0) l0 from Kd.V_mono hs0 (fun k_ hk => .inl hk))
 have HB := aM (Below.refl w.heap.size w)
 have H : (if (wrap64 (a1 + (l0.length : Int))) ≤ a2 then (imprimaturref06_Outer.j0 k l0 a1 a2 a3 true) else (imprimaturref06_Outer.j0 k l0 a1 a2 a3 (decide (a1 ≥ a3)))) = some r := h
 clear h
 have HC5 := aM H
 clear H
 go_enter Tryd.func68, Tryd.ntmps68
 go_upto_region 1 with (fail)
 go_cut [22] (fun v22 wc => ∃ (kq : Nat) (x22_4 : Bool), v22 = .bool x22_4 ∧ Aside0 (imprimaturref06_Outer.j0 kq l0 a1 a2 a3 x22_4 = some r) ∧ Aside0 (kq ≤ k) ∧ Aside0 (Kd.V (Kd.slice 5 (Kd.int .u8)) 22 wc w.heap.size (fun k_ => (P0_ k_ ∨ w.heap.size ≤ k_)) (.slice A0 l0.length c0) l0) ∧ Aside0 (Below w.heap.size w wc))
 case first =>
  have H := HC5.out
  clear HC5
  by_cases c6 : (wrap64 (a1 + (l0.length : Int))) ≤ a2
  ·rw [if_pos c6] at H
   have c6b0 : decide ((wrap64 (a1 + (l0.length : Int))) ≤ a2) = true := decide_eq_true c6
   clear c6
   (first | rw [c6b0] | (simp only [i64_w, i32_w]; rw [c6b0]) | skip)
   have H' := aM H
   clear H
   go_wp2
   go_meet
   case rel => exact ⟨_, (true), rfS, H', omL, ⟨by (with_reducible repeat (first | apply Kd.V_alloc | apply Kd.V_drewN | apply Kd.V_drew)); exact HO0.out⟩, ⟨bel⟩⟩
  rw [if_neg c6] at H
  have c6b0 : decide ((wrap64 (a1 + (l0.length : Int))) ≤ a2) = false := decide_eq_false c6
  clear c6
  (first | rw [c6b0] | (simp only [i64_w, i32_w]; rw [c6b0]) | skip)
  have H' := aM H
  clear H
  go_wp2
  go_meet
  case rel => exact ⟨_, (decide (a1 ≥ a3)), rfS, H', omL, ⟨by (with_reducible repeat (first | apply Kd.V_alloc | apply Kd.V_drewN | apply Kd.V_drew)); exact HO0.out⟩, ⟨bel⟩⟩
 case rest =>
  clear HC5
  obtain ⟨kq, x22_4, rfl, HA, HJ4, HO_0, HB⟩ := hcut
  cases kq with
  | zero => exact absurd HA.out (by simp [imprimaturref06_Outer.j0])
  | succ kj4 =>
   have H := HA.out
   clear HA
   simp only [imprimaturref06_Outer.j0] at H
   by_cases c7 : x22_4 = true
   ·subst c7
    have H1 : ((imprimaturref06_Top.f kj4 l0).bind fun bt101 => (some (([bt101.1] : List (List Int))))) = some r := by rw [if_pos rfl] at H; exact H
    clear H
    have H := H1
    clear H1
    replace H := Option.bind_eq_some_iff.mp H
    obtain ⟨⟨t101, t104⟩, A80, H⟩ := H
    replace H : (some (([t101] : List (List Int)))) = some r := H
    have A8 := aM A80
    clear A80
    obtain ⟨y107, hy107⟩ : ∃ y_ : List (List Int), y_ = (([t101] : List (List Int))) := ⟨_, rfl⟩
    replace H : (some y107) = some r := hyA hy107 H
    have Ny107 := aM hy107
    clear hy107
    obtain rfl := Option.some.inj H
    go_wp2_with (first | ((with_reducible refine gate_callee (f := 62) rfl ?_); refine goesL_ (some 25) rfl rfl Tryd.func62 (by kernel_rfl) rfl #[.slice A0 l0.length c0] rfl eqA ?_; (with_reducible refine (imprimaturref06_Top.calls kj4 (fun k_ => (P0_ k_ ∨ w.heap.size ≤ k_)) _ _ l0 t101 t104 _ ?side1 A8.out).mono ?_); (case side1 => exact HO_0.out); rintro e w9 ⟨v102, v105, rfl, ho0, ho1, hb⟩; refine ⟨_, rfl, ?_⟩; replace HO_0 := aM (Kd.V_elder' (vL HO_0.out) (Kd.N_base ho1) hb); have HO103 := aM (Kd.V_lower (Kd.V_mono (ok' := fun k_ => (P0_ k_ ∨ w.heap.size ≤ k_) ∧ some k_ ≠ (v105 : Value).ownBlock) ho0 (fun k_ hk_ => ⟨Or.elim hk_.1 (fun hs_ => hs_) (fun hn_ => (.inr (Nat.le_trans (below_size bel) hn_))), hk_.2⟩)) (below_size bel)); have HO106 := aM (Kd.N_lower (Kd.N_mono (ok' := fun k_ => (P0_ k_ ∨ w.heap.size ≤ k_)) ho1 (fun k_ hk_ => Or.elim hk_ (fun hs_ => hs_) (fun hn_ => (.inr (Nat.le_trans (below_size bel) hn_))))) (below_size bel)); replace HB := aM (below_step bel hb); clear hb ho0 ho1; obtain ⟨Ao10, co10, eo10⟩ := Kd.V_slice HO103.out; subst eo10) | ((with_reducible refine gate_dst (N := 29) rfl ?_); (try (refine gate_guard (by rfl) ?_; dsimp only)); refine Kd.N_lit (Kd.slice 5 (Kd.int .u8)) _ 22 ?hg (N' := 29) ?hd (xs := ([t101] : List (List Int))) (inner := [.slice Ao10 t101.length co10]) (ok := (fun k_ => (P0_ k_ ∨ w.heap.size ≤ k_) ∧ some k_ ≠ (v105 : Value).ownBlock)) (okp := (fun k_ => (P0_ k_ ∨ w.heap.size ≤ k_) ∧ some k_ ≠ (v105 : Value).ownBlock)) ?hr ?hp (fun _ hk => hk) ((show ∀ k_, w9.heap.size ≤ k_ → (fun k_ => (P0_ k_ ∨ w.heap.size ≤ k_) ∧ some k_ ≠ (v105 : Value).ownBlock) k_ from fun k_ hk => ⟨(.inr (Nat.le_trans (below_size bel) hk)), Kd.fresh' (Kd.N_lt (nL HO106.out)) k_ hk⟩) _ (Nat.le_refl _)) (Below.refl _ _) (Nat.le_refl _) (by simp) ?_; (case hd => rfl); (case hg => rfl); (case hr => first | (go_simp; done) | (go_simp; rfl)); (case hp => exact (Reps.one (show Kd.FK (Kd.slice 5 (Kd.int .u8)) _ _ t101 [.slice Ao10 t101.length co10] from (Kd.FK_slice_mk (Kd.V_reads' (Kd.V_mono (ok' := (fun k_ => (P0_ k_ ∨ w.heap.size ≤ k_) ∧ some k_ ≠ (v105 : Value).ownBlock)) (HO103.out) (fun k_ hk => ⟨hk.1, hk.2⟩))).2.1 (Kd.V_F (Kd.V_mono (ok' := (fun k_ => (P0_ k_ ∨ w.heap.size ≤ k_) ∧ some k_ ≠ (v105 : Value).ownBlock)) (HO103.out) (fun k_ hk => ⟨hk.1, hk.2⟩))))) (Reps.none _ _))); intro v108 w11 ho12 hb hg_ hnew_; clear hg_ hnew_; (first | rw [← Ny107.out] at ho12 | (simp only [Int.reduceToNat] at ho12; rw [← Ny107.out] at ho12)); replace HO_0 := aM (Kd.V_elder' (vL HO_0.out) (Kd.N_base ho12) hb); replace HO103 := aM (Kd.V_elder' (vL HO103.out) (Kd.N_base ho12) hb); replace HO106 := aM (Kd.N_elder' (nL HO106.out) (Kd.N_base ho12) hb); have HO109 := aM (Kd.N_lower ho12 (below_size bel)); replace HB := aM (below_step bel hb); clear hb ho12))
    go_ret
    exact ⟨_, erR, by (with_reducible repeat (first | apply Kd.N_alloc | apply Kd.N_drewN | apply Kd.N_drew)); exact Kd.N_mono HO109.out (fun _ hk => hk.1), bel⟩
   replace c7 := Bool.eq_false_iff.mpr c7
   subst c7
   have H1 : (if a2 ≤ a1 then (imprimaturref06_Outer.j1 kj4 l0 a1 a2 a3 (decide ((wrap64 (a1 + (l0.length : Int))) ≤ a3))) else (imprimaturref06_Outer.j1 kj4 l0 a1 a2 a3 false)) = some r := by rw [if_neg (show ¬ (false = true) by decide)] at H; exact H
   clear H
   have H := H1
   clear H1
   have HC13 := aM H
   clear H
   go_upto_region 4 with (fail)
   go_cut [40] (fun v40 wc => ∃ (kq : Nat) (x40_12 : Bool), v40 = .bool x40_12 ∧ Aside0 (imprimaturref06_Outer.j1 kq l0 a1 a2 a3 x40_12 = some r) ∧ Aside0 (kq ≤ kj4) ∧ Aside0 (Kd.V (Kd.slice 5 (Kd.int .u8)) 22 wc w.heap.size (fun k_ => (P0_ k_ ∨ w.heap.size ≤ k_)) (.slice A0 l0.length c0) l0) ∧ Aside0 (Below w.heap.size w wc))
   case first =>
    have H := HC13.out
    clear HC13
    by_cases c14 : a2 ≤ a1
    ·rw [if_pos c14] at H
     have c14b0 : decide (a2 ≤ a1) = true := decide_eq_true c14
     clear c14
     (first | rw [c14b0] | (simp only [i64_w, i32_w]; rw [c14b0]) | skip)
     have H' := aM H
     clear H
     go_wp2
     go_meet
     case rel => exact ⟨_, (decide ((wrap64 (a1 + (l0.length : Int))) ≤ a3)), rfS, H', ⟨by have := HJ4.out; first | omega | exact Nat.le_refl _⟩, ⟨by (with_reducible repeat (first | apply Kd.V_alloc | apply Kd.V_drewN | apply Kd.V_drew)); exact HO_0.out⟩, ⟨bel⟩⟩
    rw [if_neg c14] at H
    have c14b0 : decide (a2 ≤ a1) = false := decide_eq_false c14
    clear c14
    (first | rw [c14b0] | (simp only [i64_w, i32_w]; rw [c14b0]) | skip)
    have H' := aM H
    clear H
    go_wp2
    go_meet
    case rel => exact ⟨_, (false), rfS, H', ⟨by have := HJ4.out; first | omega | exact Nat.le_refl _⟩, ⟨by (with_reducible repeat (first | apply Kd.V_alloc | apply Kd.V_drewN | apply Kd.V_drew)); exact HO_0.out⟩, ⟨bel⟩⟩
   case rest =>
    clear HC13
    try clear c7
    obtain ⟨kq, x40_12, rfl, HA, HJ12, HO_0, HB⟩ := hcut
    cases kq with
    | zero => exact absurd HA.out (by simp [imprimaturref06_Outer.j1])
    | succ kj12 =>
     have H := HA.out
     clear HA
     simp only [imprimaturref06_Outer.j1] at H
     by_cases c15 : x40_12 = true
     ·subst c15
      have H1 : (some ([] : List (List Int))) = some r := by rw [if_pos rfl] at H; exact H
      clear H
      have H := H1
      clear H1
      obtain rfl := Option.some.inj H
      go_wp2
      go_ret
      exact ⟨_, erR, by first | exact Kd.S_nil _ _ _ _ _ | exact Kd.N_nil _ _ _ _ _ | exact Kd.V_nil _ _ _ _ _ | exact Kd.Q_nil _ _ _ _ _ | exact Kd.R_nil _ _ _ _ _, bel⟩
     replace c15 := Bool.eq_false_iff.mpr c15
     subst c15
     have H1 : ((imprimaturref06_Half.f kj12 (l0.length : Int)).bind fun t110 => (if 0 ≤ t110 then (if t110 ≤ (l0.length : Int) then ((imprimaturref06_Outer.f kj12 (l0.take (t110 : Int).toNat) a1 a2 a3).bind fun t116 => ((imprimaturref06_Outer.f kj12 (l0.drop (t110 : Int).toNat) (wrap64 (a1 + t110)) a2 a3).bind fun t124 => (if t116.length + t124.length < 5864062014805 then (some (t116 ++ t124)) else (none)))) else (none)) else (none))) = some r := by rw [if_neg (show ¬ (false = true) by decide)] at H; exact H
     clear H
     have H := H1
     clear H1
     replace H := Option.bind_eq_some_iff.mp H
     obtain ⟨t110, A160, H⟩ := H
     replace H : (if 0 ≤ t110 then (if t110 ≤ (l0.length : Int) then ((imprimaturref06_Outer.f kj12 (l0.take (t110 : Int).toNat) a1 a2 a3).bind fun t116 => ((imprimaturref06_Outer.f kj12 (l0.drop (t110 : Int).toNat) (wrap64 (a1 + t110)) a2 a3).bind fun t124 => (if t116.length + t124.length < 5864062014805 then (some (t116 ++ t124)) else (none)))) else (none)) else (none)) = some r := H
     have A16 := aM A160
     clear A160
     by_cases c17 : 0 ≤ t110
     rotate_left
     ·rw [if_neg c17] at H
      exact absurd H (by simp)

     rw [if_pos c17] at H
     have c17b0 := eq_true c17
     have c17b1 : decide (0 ≤ t110) = true := decide_eq_true c17
     clear c17
     by_cases c18 : t110 ≤ (l0.length : Int)
     rotate_left
     ·rw [if_neg c18] at H
      exact absurd H (by simp)
     rw [if_pos c18] at H
     have c18b0 := eq_true c18
     have c18b1 : decide (t110 ≤ (l0.length : Int)) = true := decide_eq_true c18
     clear c18
     obtain ⟨y111, hy111⟩ : ∃ y_ : List (List Int), y_ = (l0.take (t110 : Int).toNat) := ⟨_, rfl⟩
     replace H : ((imprimaturref06_Outer.f kj12 y111 a1 a2 a3).bind fun t116 => ((imprimaturref06_Outer.f kj12 (l0.drop (t110 : Int).toNat) (wrap64 (a1 + t110)) a2 a3).bind fun t124 => (if t116.length + t124.length < 5864062014805 then (some (t116 ++ t124)) else (none)))) = some r := hyA hy111 H
     have Ny111 := aM hy111
     clear hy111
     replace H := Option.bind_eq_some_iff.mp H
     obtain ⟨t116, A190, H⟩ := H
     replace H : ((imprimaturref06_Outer.f kj12 (l0.drop (t110 : Int).toNat) (wrap64 (a1 + t110)) a2 a3).bind fun t124 => (if t116.length + t124.length < 5864062014805 then (some (t116 ++ t124)) else (none))) = some r := H
     have A19 := aM A190
     clear A190
     have c20b0 := eq_true (of_decide_eq_true asm_ : 0 ≤ t110)
     have c21b0 := eq_true (of_decide_eq_true asm_ : t110 ≤ (l0.length : Int))
     obtain ⟨y119, hy119⟩ : ∃ y_ : List (List Int), y_ = (l0.drop (t110 : Int).toNat) := ⟨_, rfl⟩
     replace H : ((imprimaturref06_Outer.f kj12 y119 (wrap64 (a1 + t110)) a2 a3).bind fun t124 => (if t116.length + t124.length < 5864062014805 then (some (t116 ++ t124)) else (none))) = some r := hyA hy119 H
     have Ny119 := aM hy119
     clear hy119
     replace H := Option.bind_eq_some_iff.mp H
     obtain ⟨t124, A220, H⟩ := H
     replace H : (if t116.length + t124.length < 5864062014805 then (some (t116 ++ t124)) else (none)) = some r := H
     have A22 := aM A220
     clear A220
     by_cases c23 : t116.length + t124.length < 5864062014805
     rotate_left
     ·rw [if_neg c23] at H
      exact absurd H (by simp)
     rw [if_pos c23] at H
     have LMc23 := aM c23
     clear c23
     obtain ⟨y127, hy127⟩ : ∃ y_ : List (List Int), y_ = (t116 ++ t124) := ⟨_, rfl⟩
     replace H : (some y127) = some r := hyA hy127 H
     have Ny127 := aM hy127
     clear hy127
     obtain rfl := Option.some.inj H
     try go_wp2_with (first | ((with_reducible refine gate_callee (f := 72) rfl ?_); refine goesL_ (some 43) rfl rfl Tryd.func72 (by kernel_rfl) rfl #[.int .i64 (l0.length : Int)] rfl eqA ?_; (with_reducible refine (imprimaturref06_Half.calls kj12 (l0.length : Int) t110 _ A16.out).mono ?_); rintro e w' ⟨rfl, ⟨nd, rfl⟩⟩; refine ⟨_, rfl, ?_⟩))
     (try (rw [drewN_self wc]; generalize hq_ : World.drewN wc _ = wc; have n0_ : Aside0 (Kd.V (Kd.slice 5 (Kd.int .u8)) 22 wc w.heap.size (fun k_ => (P0_ k_ ∨ w.heap.size ≤ k_)) (.slice A0 l0.length c0) l0) := ⟨by rw [← hq_]; exact (vL HO_0.out)⟩; have n1_ : Aside0 (Below w.heap.size w wc) := ⟨by rw [← hq_]; exact bel⟩; clear HO_0 HB hq_; have HO_0 := n0_; have HB := n1_; clear n0_ n1_))
     replace HO_0 := aM (Kd.V_drew HO_0.out)
     replace HB := aM (below_drew1 HB.out)
     have q25 : (t110 : Int) ≤ ((l0.length : Int) : Int) := of_decide_eq_true asm_
     obtain ⟨i025, hi025, _, hsz25, _⟩ := info_parts info22
     have hroom25 : l0.length ≤ c0 := (Kd.V_reads' HO_0.out).2.1
     have hC25 : Kd.F (Kd.slice 5 (Kd.int .u8)) _ _ A0 l0.length l0 := (Kd.V_at (base := w.heap.size) HO_0.out).2.2
     have hcut25 := cut_to (P := Tryd.prog) 23 22 .i64 Tryd.underlying23 hi025 A0 l0.length c0 t110 (of_decide_eq_true asm_) q25 hroom25
     have hr25 := Kd.F_take (m := (t110 : Int).toNat) hC25 (by omega)
     have hy25 : y111.length = (t110 : Int).toNat := (by rw [Ny111.out, List.length_take]; omega)
     rw [← Ny111.out] at hr25
     rw [← hy25] at hcut25
     have HO115 := aM (show Kd.V (Kd.slice 5 (Kd.int .u8)) 22 _ w.heap.size _ (.slice A0 y111.length c0) y111 from Kd.V_mk (by omega) hr25)
     have HC115 := aM (show y111.length ≤ c0 from by omega)
     clear hr25 hC25 hroom25 hi025 hsz25
     have KY25 := aM hy25
     clear hy25
     replace q25 := eq_true q25
     have q26 : (t110 : Int) ≤ ((l0.length : Int) : Int) := of_decide_eq_true asm_
     obtain ⟨i026, hi026, _, hsz26, _⟩ := info_parts info22
     have hroom26 : l0.length ≤ c0 := (Kd.V_reads' HO_0.out).2.1
     have hC26 : Kd.F (Kd.slice 5 (Kd.int .u8)) _ _ A0 l0.length l0 := (Kd.V_at (base := w.heap.size) HO_0.out).2.2
     have q026 : (0 : Int) ≤ (t110 : Int) := of_decide_eq_true asm_
     have hcut26 := cut_from (P := Tryd.prog) 23 22 .i64 Tryd.underlying23 hi026 1 hsz26 A0 l0.length c0 t110 q026 q26
     have hr26 := Kd.F_cut (m := (t110 : Int).toNat) (c := c0) hC26 (by omega) hroom26
     obtain ⟨A26, hA26⟩ : ∃ A1, A1 = (if c0 = (t110 : Int).toNat then A0 else (A0 : Option Addr).map (·.add ((t110 : Int).toNat * 1))) := ⟨_, rfl⟩
     obtain ⟨c26, hc26⟩ : ∃ c1, c1 = c0 - (t110 : Int).toNat := ⟨_, rfl⟩
     have hy26 : y119.length = l0.length - (t110 : Int).toNat := (by rw [Ny119.out, List.length_drop] <;> omega)
     rw [show (l0).drop (t110 : Int).toNat = y119 from Ny119.out.symm] at hr26
     replace hr26 : Kd.F (Kd.slice 5 (Kd.int .u8)) _ _ A26 y119.length y119 := (by rw [hA26]; exact hr26)
     rw [← hy26, ← hA26, ← hc26] at hcut26
     have HO123 := aM (show Kd.V (Kd.slice 5 (Kd.int .u8)) 22 _ w.heap.size _ (.slice A26 y119.length c26) y119 from Kd.V_mk (by rw [hy26, hc26]; exact Nat.sub_le_sub_right hroom26 _) hr26)
     have HC123 := aM (show y119.length ≤ c26 from by rw [hy26, hc26]; exact Nat.sub_le_sub_right hroom26 _)
     clear hr26 hC26 hroom26 hi026 hsz26 hc26
     have KY26 := aM hy26
     have KA26 := aM hA26
     clear hy26 hA26
     replace q26 := eq_true q26
     refine start_ (n := 18) (S := fun w' => True) (ds := []) (fl 18 0) (by kernel_rfl) rfl rfl trivial (fun hHeld => ?_); refine with_tabW imprimaturref06_Outer.tab7 imprimaturref06_Outer.bits7 (fun HT_ HW_ => ?_)
     generalize wc.drew = w24 at HO_0 HB HO115 HO123 hHeld ⊢
     refine pB 0 44 18 1 ?_
     refine pB 1 45 18 3 ?_
     refine pB 2 46 18 7 ?_
     refine pB 3 47 18 15 ?_
     refine pB 4 48 18 31 ?_
     refine pB 5 49 18 63 ?_
     refine pB 7 51 18 191 ?_
     refine pB 8 52 18 447 ?_
     refine pB 9 53 18 959 ?_
     refine pB 10 54 18 1983 ?_
     refine pB 11 55 18 4031 ?_
     refine pB 12 56 18 8127 ?_
     refine pB 13 57 18 16319 ?_
     refine pB 14 58 18 32703 ?_
     refine one_ (i := 6) (N := some 50) (fl 18 32767) rfl rfl (one_of HT_.out (by kernel_rfl)) (by decide) (fun K hK => ?_)
     refine goes_ Tryd.func68 (by kernel_rfl) rfl #[.slice A0 y111.length c0, .int .i64 a1, .int .i64 a2, .int .i64 a3] (by rfl) rfl rfl eqA ?_
     with_reducible refine (ih kj12 (by have := HJ4.out; have := HJ12.out; omega) (fun k_ => (P0_ k_ ∨ w.heap.size ≤ k_)) _ _ y111 a1 a2 a3 t116 _ ?side1 A19.out).mono ?_
     (case side1 => exact HO115.out)
     rintro e w27 ⟨v117, rfl, ho0, hb⟩
     refine ⟨_, rfl, ?_⟩
     replace HO_0 := aM (Kd.V_elder' (vL HO_0.out) (Kd.N_base ho0) hb)
     replace HO115 := aM (Kd.V_elder' (vL HO115.out) (Kd.N_base ho0) hb)
     replace HO123 := aM (Kd.V_elder' (vL HO123.out) (Kd.N_base ho0) hb)
     have HO118 := aM (Kd.N_lower (Kd.N_mono (ok' := fun k_ => (P0_ k_ ∨ w.heap.size ≤ k_)) ho0 (fun k_ hk_ => Or.elim hk_ (fun hs_ => hs_) (fun hn_ => (.inr (Nat.le_trans (below_size bel) hn_))))) (below_size bel))
     replace HB := aM (below_step bel hb)
     (try clear hb)
     (try clear hb2)
     (try clear hk)
     (try clear hi)
     (try clear ho0)
     refine hK.out _ _ trivial (fun hHeld => ?_)
     clear hK K
     refine normA (some 50) ?_
     refine one_ (i := 15) (N := some 59) (fl 18 65535) rfl rfl (one_of HT_.out (by kernel_rfl)) (by decide) (fun K hK => ?_)
     refine goes_ Tryd.func68 (by kernel_rfl) rfl #[.slice A26 y119.length c26, .int .i64 (wrap64 (a1 + t110)), .int .i64 a2, .int .i64 a3] (by rfl) rfl rfl eqA ?_
     with_reducible refine (ih kj12 (by have := HJ4.out; have := HJ12.out; omega) (fun k_ => ((P0_ k_ ∨ w.heap.size ≤ k_) ∧ some k_ ≠ (v117 : Value).ownBlock)) _ _ y119 (wrap64 (a1 + t110)) a2 a3 t124 _ ?side1 A22.out).mono ?_
     (case side1 => exact HO123.out)
     rintro e w28 ⟨v125, rfl, ho0, hb⟩
     refine ⟨_, rfl, ?_⟩
     replace HO_0 := aM (Kd.V_elder' (vL HO_0.out) (Kd.N_base ho0) hb)
     replace HO115 := aM (Kd.V_elder' (vL HO115.out) (Kd.N_base ho0) hb)
     replace HO123 := aM (Kd.V_elder' (vL HO123.out) (Kd.N_base ho0) hb)
     have HO126 := aM (Kd.N_lower (Kd.N_mono (ok' := fun k_ => (P0_ k_ ∨ w.heap.size ≤ k_) ∧ some k_ ≠ (v117 : Value).ownBlock) ho0 (fun k_ hk_ => ⟨Or.elim hk_ (fun hs_ => hs_.1) (fun hn_ => (.inr (Nat.le_trans (below_size bel) hn_))), Or.elim hk_ (fun hs_ => hs_.2) (fun hn_ => (Kd.fresh' (Kd.N_lt (nL HO118.out)) k_ hn_))⟩)) (below_size bel))
     replace HO118 := aM (Kd.N_elder' (nL HO118.out) (Kd.N_base ho0) hb)
     replace HB := aM (below_step bel hb)
     (try clear hb)
     (try clear hb2)
     (try clear hk)
     (try clear hi)
     (try clear ho0)
     obtain ⟨Ao30, co30, eo30⟩ := Kd.N_slice HO126.out
     (first | subst eo30 | (injection eo30 with f1_ f2_ f3_; have f4_ := f1_.symm; have f5_ := f3_.symm; clear f1_ f2_ f3_; subst f4_; subst f5_))
     refine hK.out _ _ trivial (fun hHeld => ?_)
     clear hK K
     refine normA (some 59) ?_
     refine one_ (i := 16) (N := some 60) (fl 18 131071) rfl rfl (one_of HT_.out (by kernel_rfl)) (by decide) (fun K hK => ?_)
     refine Kd.N_append_rows_step (Kd.slice 5 (Kd.int .u8)) (w0 := w) w.heap.size (by rfl) (.tmp 50) (.tmp 59) 23 22 (.slice none 0 0) 24 rfl Tryd.underlying23 info22 rfl (by decide) (by omega) v117 t116 t124 _ _ _ (fun k_ => (P0_ k_ ∨ w.heap.size ≤ k_)) (fun k_ => ((fun k_ => (P0_ k_ ∨ w.heap.size ≤ k_))) k_ ∧ some k_ ≠ (v117 : Value).ownBlock) rfl rfl ?aO ?aR (fun _ hk => hk) ?aF ?aB ?aS ?aL ?_
     (case aR => exact (by skip; exact Kd.N_F (Kd.N_mono (ok' := (fun k_ => ((fun k_ => (P0_ k_ ∨ w.heap.size ≤ k_))) k_ ∧ some k_ ≠ (v117 : Value).ownBlock)) (HO126.out) (fun k_ hk => ⟨hk.1, hk.2⟩))))
     (case aB => exact bel)
     (case aF => exact (fun k_ hk => (.inr (Nat.le_trans (below_size bel) hk))))
     (case aO => exact (by (with_reducible repeat (first | apply Kd.N_alloc | apply Kd.N_drewN | apply Kd.N_drew)); exact Kd.N_mono HO118.out (fun _ hk => hk.1)))
     (case aS => exact (below_size bel))
     (case aL => have := LMc23.out; omega)
     intro v128 w29 ho hb hg hat
     rw [← Ny127.out] at ho
     replace HO_0 := aM (Kd.V_afterv (ok := (fun k_ => (P0_ k_ ∨ w.heap.size ≤ k_) ∧ some k_ ≠ (.slice Ao30 t124.length co30 : Value).ownBlock)) (by (with_reducible repeat (first | apply Kd.V_alloc | apply Kd.V_drewN | apply Kd.V_drew)); exact Kd.V_mono HO_0.out (fun _ hk => ⟨⟨hk.1.1, hk.2⟩, hk.1.2⟩)) hg hat)
     replace HO115 := aM (Kd.V_afterv (ok := (fun k_ => (P0_ k_ ∨ w.heap.size ≤ k_) ∧ some k_ ≠ (.slice Ao30 t124.length co30 : Value).ownBlock)) (by (with_reducible repeat (first | apply Kd.V_alloc | apply Kd.V_drewN | apply Kd.V_drew)); exact Kd.V_mono HO115.out (fun _ hk => ⟨⟨hk.1.1, hk.2⟩, hk.1.2⟩)) hg hat)
     replace HO123 := aM (Kd.V_afterv (ok := (fun k_ => (P0_ k_ ∨ w.heap.size ≤ k_) ∧ some k_ ≠ (.slice Ao30 t124.length co30 : Value).ownBlock)) (by (with_reducible repeat (first | apply Kd.V_alloc | apply Kd.V_drewN | apply Kd.V_drew)); exact Kd.V_mono HO123.out (fun _ hk => ⟨⟨hk.1.1, hk.2⟩, hk.1.2⟩)) hg hat)
     replace HO126 := aM (Kd.N_afterv (ok := (fun k_ => (P0_ k_ ∨ w.heap.size ≤ k_))) (nL HO126.out) hg hat)
     replace HB := aM (hb)
     have HO129 := aM (ho)
     clear HO118
     clear ho hb hg hat
     refine hK.out _ _ trivial (fun hHeld => ?_)
     clear hK K
     refine normA (some 60) ?_
     refine pB 17 8 18 262143 ?_
     refine done_ (done_of HT_.out (by kernel_rfl)) ?_
     try go_wp2
     go_ret
     exact ⟨_, erR, by (with_reducible repeat (first | apply Kd.N_alloc | apply Kd.N_drewN | apply Kd.N_drew)); exact HO129.out, bel⟩
/-! ### imprimaturref06_ProveRange: function 47 -/
def imprimaturref06_ProveRange.f (k : Nat) (l0 : List (List Int)) (a1 : Int) (a2 : Int) : Option ((List (List Int)) × Int) := (imprimaturref06_ok.f k l0).bind fun t130 => (if t130 = 0 then (if a1 < 0 then (some (([] : List (List Int)), 1)) else (if a2 ≤ a1 then (some (([] : List (List Int)), 1)) else (if a2 > (l0.length : Int) then (some (([] : List (List Int)), 1)) else ((imprimaturref06_Outer.f k l0 0 a1 a2).bind fun t131 => (some (t131, 0)))))) else (some (([] : List (List Int)), t130)))
theorem imprimaturref06_ProveRange.mono : ∀ a0 a1 a2 k, LeO (imprimaturref06_ProveRange.f k a0 a1 a2) (imprimaturref06_ProveRange.f (k + 1) a0 a1 a2) := by
 intro a0 a1 a2 k
 unfold imprimaturref06_ProveRange.f
 repeat' first
   | (with_reducible exact imprimaturref06_Outer.mono _ _ _ _ _)
   | (with_reducible exact imprimaturref06_ok.mono _ _)
   | (with_reducible exact LeO.refl _)
   | (with_reducible exact LeO.none _)
   | (with_reducible refine LeO.ite ?_ ?_)
   | (with_reducible refine LeO.bind ?_ (fun _ => ?_))
set_option maxHeartbeats 8000000 in
set_option maxRecDepth 100000 in
theorem imprimaturref06_ProveRange.calls (k : Nat) (P0_ : Nat → Prop) (A0 : Option Addr) (c0 : Nat) (l0 : List (List Int)) (a1 : Int) (a2 : Int) (r1 : List (List Int)) (r2 : Int) (w : World) (hs0 : Kd.V (Kd.slice 5 (Kd.int .u8)) 22 w w.heap.size (fun k_ => P0_ k_) (.slice A0 l0.length c0) l0) (h : imprimaturref06_ProveRange.f k l0 a1 a2 = some (r1, r2)) :
  Calls Tryd.prog 47 #[.slice A0 l0.length c0, .int .i64 a1, .int .i64 a2] w fun e w' => ∃ v0_ : Value, e = .returned (.tuple #[v0_, .int .i64 r2]) ∧ Kd.N (Kd.slice 5 (Kd.int .u8)) 22 w' w.heap.size (fun k_ => (P0_ k_ ∨ w.heap.size ≤ k_)) v0_ r1 ∧ Below w.heap.size w w' := by
 have HO0 := aM (show Kd.V (Kd.slice 5 (Kd.int .u8)) 22 w w.heap.size (fun k_ => (P0_ k_ ∨ w.heap.size ≤ k_)) (.slice A0 l0.length c0) l0 from Kd.V_mono hs0 (fun k_ hk => .inl hk))
 have HB := aM (Below.refl w.heap.size w)
 have H : ((imprimaturref06_ok.f k l0).bind fun t130 => (if t130 = 0 then (if a1 < 0 then (some (([] : List (List Int)), 1)) else (if a2 ≤ a1 then (some (([] : List (List Int)), 1)) else (if a2 > (l0.length : Int) then (some (([] : List (List Int)), 1)) else ((imprimaturref06_Outer.f k l0 0 a1 a2).bind fun t131 => (some (t131, 0)))))) else (some (([] : List (List Int)), t130)))) = some (r1, r2) := h
 clear h
 replace H := Option.bind_eq_some_iff.mp H
 obtain ⟨t130, A40, H⟩ := H
 replace H : (if t130 = 0 then (if a1 < 0 then (some (([] : List (List Int)), 1)) else (if a2 ≤ a1 then (some (([] : List (List Int)), 1)) else (if a2 > (l0.length : Int) then (some (([] : List (List Int)), 1)) else ((imprimaturref06_Outer.f k l0 0 a1 a2).bind fun t131 => (some (t131, 0)))))) else (some (([] : List (List Int)), t130))) = some (r1, r2) := H
 have A4 := aM A40
 clear A40
 by_cases c5 : t130 = 0
 rotate_left
 ·rw [if_neg c5] at H
  have c5b0 : (t130 == 0) = false := beq_eq_false_iff_ne.mpr c5
  have c5b1 : (t130 != 0) = true := bne_iff_ne.mpr c5
  simp only [Option.some.injEq, Prod.mk.injEq] at H
  obtain ⟨rfl, rfl⟩ := H
  go_enter Tryd.func47, Tryd.ntmps47
  go_wp2_with (first | ((with_reducible refine gate_callee (f := 59) rfl ?_); refine goesL_ (some 10) rfl rfl Tryd.func59 (by kernel_rfl) rfl #[.slice A0 l0.length c0] rfl eqA ?_; (with_reducible refine (imprimaturref06_ok.calls k _ _ l0 t130 _ ?side1 ?side2 A4.out).mono ?_); (case side1 => exact cL (Kd.V_reads' HO0.out).2.2); (case side2 => exact (Kd.V_reads' HO0.out).2.1); rintro e w' ⟨rfl, ⟨nd, rfl⟩⟩; refine ⟨_, rfl, ?_⟩))
  go_ret2
  exact ⟨_, erR, by first | exact Kd.S_nil _ _ _ _ _ | exact Kd.N_nil _ _ _ _ _ | exact Kd.V_nil _ _ _ _ _ | exact Kd.Q_nil _ _ _ _ _ | exact Kd.R_nil _ _ _ _ _, bel⟩

 rw [if_pos c5] at H
 have c5b0 : (t130 == 0) = true := beq_iff_eq.mpr c5
 have c5b1 : (t130 != 0) = false := bne_eq_false_iff_eq.mpr c5
 clear c5
 by_cases c6 : a1 < 0
 ·rw [if_pos c6] at H
  have c6b0 : decide (a1 < 0) = true := decide_eq_true c6
  clear c6
  simp only [Option.some.injEq, Prod.mk.injEq] at H
  obtain ⟨rfl, rfl⟩ := H
  go_enter Tryd.func47, Tryd.ntmps47
  go_wp2_with (first | ((with_reducible refine gate_callee (f := 59) rfl ?_); refine goesL_ (some 10) rfl rfl Tryd.func59 (by kernel_rfl) rfl #[.slice A0 l0.length c0] rfl eqA ?_; (with_reducible refine (imprimaturref06_ok.calls k _ _ l0 t130 _ ?side1 ?side2 A4.out).mono ?_); (case side1 => exact cL (Kd.V_reads' HO0.out).2.2); (case side2 => exact (Kd.V_reads' HO0.out).2.1); rintro e w' ⟨rfl, ⟨nd, rfl⟩⟩; refine ⟨_, rfl, ?_⟩))
  go_ret2
  exact ⟨_, erR, by first | exact Kd.S_nil _ _ _ _ _ | exact Kd.N_nil _ _ _ _ _ | exact Kd.V_nil _ _ _ _ _ | exact Kd.Q_nil _ _ _ _ _ | exact Kd.R_nil _ _ _ _ _, bel⟩
 rw [if_neg c6] at H
 have c6b0 : decide (a1 < 0) = false := decide_eq_false c6
 clear c6
 by_cases c7 : a2 ≤ a1
 ·rw [if_pos c7] at H
  have c7b0 : decide (a2 ≤ a1) = true := decide_eq_true c7
  clear c7
  simp only [Option.some.injEq, Prod.mk.injEq] at H
  obtain ⟨rfl, rfl⟩ := H
  go_enter Tryd.func47, Tryd.ntmps47
  go_wp2_with (first | ((with_reducible refine gate_callee (f := 59) rfl ?_); refine goesL_ (some 10) rfl rfl Tryd.func59 (by kernel_rfl) rfl #[.slice A0 l0.length c0] rfl eqA ?_; (with_reducible refine (imprimaturref06_ok.calls k _ _ l0 t130 _ ?side1 ?side2 A4.out).mono ?_); (case side1 => exact cL (Kd.V_reads' HO0.out).2.2); (case side2 => exact (Kd.V_reads' HO0.out).2.1); rintro e w' ⟨rfl, ⟨nd, rfl⟩⟩; refine ⟨_, rfl, ?_⟩))
  go_ret2
  exact ⟨_, erR, by first | exact Kd.S_nil _ _ _ _ _ | exact Kd.N_nil _ _ _ _ _ | exact Kd.V_nil _ _ _ _ _ | exact Kd.Q_nil _ _ _ _ _ | exact Kd.R_nil _ _ _ _ _, bel⟩
 rw [if_neg c7] at H
 have c7b0 : decide (a2 ≤ a1) = false := decide_eq_false c7
 clear c7
 by_cases c8 : a2 > (l0.length : Int)
 ·rw [if_pos c8] at H
  have c8b0 : decide ((l0.length : Int) < a2) = true := decide_eq_true c8
  clear c8
  simp only [Option.some.injEq, Prod.mk.injEq] at H
  obtain ⟨rfl, rfl⟩ := H
  go_enter Tryd.func47, Tryd.ntmps47
  go_wp2_with (first | ((with_reducible refine gate_callee (f := 59) rfl ?_); refine goesL_ (some 10) rfl rfl Tryd.func59 (by kernel_rfl) rfl #[.slice A0 l0.length c0] rfl eqA ?_; (with_reducible refine (imprimaturref06_ok.calls k _ _ l0 t130 _ ?side1 ?side2 A4.out).mono ?_); (case side1 => exact cL (Kd.V_reads' HO0.out).2.2); (case side2 => exact (Kd.V_reads' HO0.out).2.1); rintro e w' ⟨rfl, ⟨nd, rfl⟩⟩; refine ⟨_, rfl, ?_⟩))
  go_ret2
  exact ⟨_, erR, by first | exact Kd.S_nil _ _ _ _ _ | exact Kd.N_nil _ _ _ _ _ | exact Kd.V_nil _ _ _ _ _ | exact Kd.Q_nil _ _ _ _ _ | exact Kd.R_nil _ _ _ _ _, bel⟩
 rw [if_neg c8] at H
 have c8b0 : decide ((l0.length : Int) < a2) = false := decide_eq_false c8
 clear c8
 replace H := Option.bind_eq_some_iff.mp H
 obtain ⟨t131, A90, H⟩ := H
 replace H : (some (t131, 0)) = some (r1, r2) := H
 have A9 := aM A90
 clear A90
 simp only [Option.some.injEq, Prod.mk.injEq] at H
 obtain ⟨rfl, rfl⟩ := H
 go_enter Tryd.func47, Tryd.ntmps47
 go_wp2_with (first | ((with_reducible refine gate_callee (f := 59) rfl ?_); refine goesL_ (some 10) rfl rfl Tryd.func59 (by kernel_rfl) rfl #[.slice A0 l0.length c0] rfl eqA ?_; (with_reducible refine (imprimaturref06_ok.calls k _ _ l0 t130 _ ?side1 ?side2 A4.out).mono ?_); (case side1 => exact cL (Kd.V_reads' HO0.out).2.2); (case side2 => exact (Kd.V_reads' HO0.out).2.1); rintro e w' ⟨rfl, ⟨nd, rfl⟩⟩; refine ⟨_, rfl, ?_⟩) | ((with_reducible refine gate_callee (f := 68) rfl ?_); refine goesL_ (some 30) rfl rfl Tryd.func68 (by kernel_rfl) rfl #[.slice A0 l0.length c0, .int .i64 0, .int .i64 a1, .int .i64 a2] rfl eqA ?_; (with_reducible refine (imprimaturref06_Outer.calls k (fun k_ => (P0_ k_ ∨ w.heap.size ≤ k_)) _ _ l0 0 a1 a2 t131 _ ?side1 A9.out).mono ?_); (case side1 => exact HO0.out); rintro e w10 ⟨v132, rfl, ho0, hb⟩; refine ⟨_, rfl, ?_⟩; replace HO0 := aM (Kd.V_elder' (vL HO0.out) (Kd.N_base ho0) hb); have HO133 := aM (Kd.N_lower (Kd.N_mono (ok' := fun k_ => (P0_ k_ ∨ w.heap.size ≤ k_)) ho0 (fun k_ hk_ => Or.elim hk_ (fun hs_ => hs_) (fun hn_ => (.inr (Nat.le_trans (below_size bel) hn_))))) (below_size bel)); replace HB := aM (below_step bel hb); clear hb ho0))
 go_ret2
 exact ⟨_, erR, by (with_reducible repeat (first | apply Kd.N_alloc | apply Kd.N_drewN | apply Kd.N_drew)); exact HO133.out, bel⟩
end Go.Proofs.YtdpdmmbdoeefbaaDoor.PRe
