-- Written by a program of this session, after the print of the kit.
import Derived.Test.YtdpdmmbdoeefbaaDoorWC
import Derived.Test.YtdpdmmbdoeefbaaDoorPRdx0
namespace Go.Proofs.YtdpdmmbdoeefbaaDoor.PRd
open Go.RowKit X PCut PCa PCs PCo PCr PRa YtdpdmmbdoeefbaaDoorW.PrintWords YtdpdmmbdoeefbaaDoorW.PrintLast YtdpdmmbdoeefbaaDoorW.PrintMore
attribute [local go_sem] max2_int min2_int max_two min_two max_three min_three max_four min_four   -- for this text's walks alone
set_option linter.unusedVariables false
set_option linter.unusedSimpArgs false

/-! ### imprimaturref06_Fixed: function 33 -/
def imprimaturref06_Fixed.f (k : Nat)  : Option ((List (List Int))) := (imprimaturref06_LeafText.f k 0 (([5] : List Int))).bind fun t104 => ((imprimaturref02_Hash256.f t104).bind fun t107 => ((imprimaturref06_RootText.f k 1 t107).bind fun t110 => (some (([t104, t110] : List (List Int))))))
theorem imprimaturref06_Fixed.mono : ∀ k, LeO (imprimaturref06_Fixed.f k ) (imprimaturref06_Fixed.f (k + 1) ) := by
 intro  k
 unfold imprimaturref06_Fixed.f
 repeat' first
   | (with_reducible exact imprimaturref06_LeafText.mono _ _ _)
   | (with_reducible exact imprimaturref06_RootText.mono _ _ _)
   | (with_reducible exact LeO.refl _)
   | (with_reducible exact LeO.none _)
   | (with_reducible refine LeO.ite ?_ ?_)
   | (with_reducible refine LeO.bind ?_ (fun _ => ?_))
set_option maxHeartbeats 8000000 in
set_option maxRecDepth 100000 in
theorem imprimaturref06_Fixed.calls (k : Nat)  (r : List (List Int)) (w : World) (h : imprimaturref06_Fixed.f k  = some r) :
  Calls Tryd.prog 33 #[] w fun e w' => ∃ v0_ : Value, e = .returned (v0_) ∧ Kd.N (Kd.slice 5 (Kd.int .u8)) 22 w' w.heap.size (fun k_ => (w.heap.size ≤ k_)) v0_ r ∧ Below w.heap.size w w' := by
 have HB := aM (Below.refl w.heap.size w)
 have H : ((imprimaturref06_LeafText.f k 0 (([5] : List Int))).bind fun t104 => ((imprimaturref02_Hash256.f t104).bind fun t107 => ((imprimaturref06_RootText.f k 1 t107).bind fun t110 => (some (([t104, t110] : List (List Int))))))) = some r := h
 clear h
 obtain ⟨y101, hy101⟩ : ∃ y_ : List Int, y_ = (([5] : List Int)) := ⟨_, rfl⟩
 replace H : ((imprimaturref06_LeafText.f k 0 y101).bind fun t104 => ((imprimaturref02_Hash256.f t104).bind fun t107 => ((imprimaturref06_RootText.f k 1 t107).bind fun t110 => (some (([t104, t110] : List (List Int))))))) = some r := hyA hy101 H
 have Ny101 := aM hy101
 clear hy101
 replace H := Option.bind_eq_some_iff.mp H
 obtain ⟨t104, A10, H⟩ := H
 replace H : ((imprimaturref02_Hash256.f t104).bind fun t107 => ((imprimaturref06_RootText.f k 1 t107).bind fun t110 => (some (([t104, t110] : List (List Int)))))) = some r := H
 have A1 := aM A10
 clear A10
 replace H := Option.bind_eq_some_iff.mp H
 obtain ⟨t107, A20, H⟩ := H
 replace H : ((imprimaturref06_RootText.f k 1 t107).bind fun t110 => (some (([t104, t110] : List (List Int))))) = some r := H
 have A2 := aM A20
 clear A20
 replace H := Option.bind_eq_some_iff.mp H
 obtain ⟨t110, A30, H⟩ := H
 replace H : (some (([t104, t110] : List (List Int)))) = some r := H
 have A3 := aM A30
 clear A30
 obtain ⟨y113, hy113⟩ : ∃ y_ : List (List Int), y_ = (([t104, t110] : List (List Int))) := ⟨_, rfl⟩
 replace H : (some y113) = some r := hyA hy113 H
 have Ny113 := aM hy113
 clear hy113
 obtain rfl := Option.some.inj H
 go_enter Tryd.func33, Tryd.ntmps33
 go_wp2_with (first | ((with_reducible refine gate_dst (N := 2) rfl ?_); refine Kd.R_lit (Kd.int .u8) _ 5 ?hg (N := 2) ?hd (xs := ([5] : List Int)) (inner := [.int .u8 5]) (ok := fun _ => True) (okp := fun _ => True) ?hr ?hp (fun _ hk => hk) trivial (Below.refl _ _) (Nat.le_refl _) (by simp) ?_; (case hd => rfl); (case hg => rfl); (case hr => first | (go_simp; done) | (go_simp; rfl)); (case hp => exact (Reps.one (show Kd.M (Kd.int .u8) _ _ _ 5 [.int .u8 5] from rfl) (Reps.none _ _))); intro v102 w4 ho5 hb hg_ hnew_; clear hg_ hnew_; (first | rw [← Ny101.out] at ho5 | (simp only [Int.reduceToNat] at ho5; rw [← Ny101.out] at ho5)); have HO103 := aM (Kd.R_lower (Kd.R_newM (M := fun k_ => (w.heap.size ≤ k_)) ho5 (below_size bel) (fun k_ h_ => h_)) (below_size bel)); replace HB := aM (below_step bel hb); clear hb ho5; obtain ⟨Ao6, co6, eo6⟩ := Kd.R_slice HO103.out; subst eo6) | ((with_reducible refine gate_callee (f := 63) rfl ?_); refine goesL_ (some 3) rfl rfl Tryd.func63 (by kernel_rfl) rfl #[.int .i64 0, .slice Ao6 y101.length co6] rfl eqA ?_; (with_reducible refine (imprimaturref06_LeafText.calls k 0 _ _ y101 t104 _ ?side1 ?side2 A1.out).mono ?_); (case side1 => exact cL (Kd.R_reads' HO103.out).2.2); (case side2 => exact (Kd.R_reads' HO103.out).2.1); rintro e w7 ⟨v105, rfl, ho0, hb⟩; refine ⟨_, rfl, ?_⟩; have HO106 := aM (Kd.R_lower (Kd.R_new' (Kd.R_newM (M := fun k_ => (w.heap.size ≤ k_)) ho0 (below_size bel) (fun k_ h_ => h_)) (Kd.R_lt (rL HO103.out))) (below_size bel)); replace HO103 := aM (Kd.R_elder' (rL HO103.out) (Kd.R_base ho0) hb); replace HB := aM (below_step bel hb); clear hb ho0; obtain ⟨Ao8, co8, eo8⟩ := Kd.R_slice HO106.out; subst eo8) | ((with_reducible refine gate_callee (f := 56) rfl ?_); refine goesL_ (some 6) rfl rfl Tryd.func56 (by kernel_rfl) rfl #[.slice Ao8 t104.length co8] rfl eqA ?_; (with_reducible refine (imprimaturref02_Hash256.calls _ _ t104 t107 _ ?side1 ?side2 A2.out).mono ?_); (case side1 => exact cL (Kd.R_reads' HO106.out).2.2); (case side2 => exact (Kd.R_reads' HO106.out).2.1); rintro e w9 ⟨v108, rfl, ho0, hb⟩; refine ⟨_, rfl, ?_⟩; have HO109 := aM (Kd.R_lower (Kd.R_new' (Kd.R_new' (Kd.R_newM (M := fun k_ => (w.heap.size ≤ k_)) ho0 (below_size bel) (fun k_ h_ => h_)) (Kd.R_lt (rL HO103.out))) (Kd.R_lt (rL HO106.out))) (below_size bel)); replace HO103 := aM (Kd.R_elder' (rL HO103.out) (Kd.R_base ho0) hb); replace HO106 := aM (Kd.R_elder' (rL HO106.out) (Kd.R_base ho0) hb); replace HB := aM (below_step bel hb); clear hb ho0; obtain ⟨Ao10, co10, eo10⟩ := Kd.R_slice HO109.out; subst eo10) | ((with_reducible refine gate_callee (f := 51) rfl ?_); refine goesL_ (some 7) rfl rfl Tryd.func51 (by kernel_rfl) rfl #[.int .i64 1, .slice Ao10 t107.length co10] rfl eqA ?_; (with_reducible refine (imprimaturref06_RootText.calls k 1 _ _ t107 t110 _ ?side1 ?side2 A3.out).mono ?_); (case side1 => exact cL (Kd.R_reads' HO109.out).2.2); (case side2 => exact (Kd.R_reads' HO109.out).2.1); rintro e w11 ⟨v111, rfl, ho0, hb⟩; refine ⟨_, rfl, ?_⟩; have HO112 := aM (Kd.R_lower (Kd.R_new' (Kd.R_new' (Kd.R_new' (Kd.R_newM (M := fun k_ => (w.heap.size ≤ k_)) ho0 (below_size bel) (fun k_ h_ => h_)) (Kd.R_lt (rL HO103.out))) (Kd.R_lt (rL HO106.out))) (Kd.R_lt (rL HO109.out))) (below_size bel)); replace HO103 := aM (Kd.R_elder' (rL HO103.out) (Kd.R_base ho0) hb); replace HO106 := aM (Kd.R_elder' (rL HO106.out) (Kd.R_base ho0) hb); replace HO109 := aM (Kd.R_elder' (rL HO109.out) (Kd.R_base ho0) hb); replace HB := aM (below_step bel hb); clear hb ho0; obtain ⟨Ao12, co12, eo12⟩ := Kd.R_slice HO112.out; subst eo12) | ((with_reducible refine gate_dst (N := 8) rfl ?_); refine Kd.N_lit (Kd.slice 5 (Kd.int .u8)) _ 22 ?hg (N' := 8) ?hd (xs := ([t104, t110] : List (List Int))) (inner := [.slice Ao8 t104.length co8, .slice Ao12 t110.length co12]) (ok := (fun k_ => (w.heap.size ≤ k_) ∧ some k_ ≠ (.slice Ao6 y101.length co6 : Value).ownBlock ∧ some k_ ≠ (.slice Ao10 t107.length co10 : Value).ownBlock)) (okp := (fun k_ => (w.heap.size ≤ k_) ∧ some k_ ≠ (.slice Ao6 y101.length co6 : Value).ownBlock ∧ some k_ ≠ (.slice Ao10 t107.length co10 : Value).ownBlock)) ?hr ?hp (fun _ hk => hk) ((show ∀ k_, w11.heap.size ≤ k_ → (fun k_ => (w.heap.size ≤ k_) ∧ some k_ ≠ (.slice Ao6 y101.length co6 : Value).ownBlock ∧ some k_ ≠ (.slice Ao10 t107.length co10 : Value).ownBlock) k_ from fun k_ hk => ⟨(Nat.le_trans (below_size bel) hk), Kd.fresh' (Kd.R_lt (rL HO103.out)) k_ hk, Kd.fresh' (Kd.R_lt (rL HO109.out)) k_ hk⟩) _ (Nat.le_refl _)) (Below.refl _ _) (Nat.le_refl _) (by simp) ?_; (case hd => rfl); (case hg => rfl); (case hr => first | (go_simp; done) | (go_simp; rfl)); (case hp => exact (Reps.one (show Kd.FK (Kd.slice 5 (Kd.int .u8)) _ _ t104 [.slice Ao8 t104.length co8] from (Kd.FK_slice_mk (Kd.R_reads' (Kd.R_mono (ok' := (fun k_ => (w.heap.size ≤ k_) ∧ some k_ ≠ (.slice Ao6 y101.length co6 : Value).ownBlock ∧ some k_ ≠ (.slice Ao10 t107.length co10 : Value).ownBlock)) (HO106.out) (fun k_ hk => ⟨hk.1.1.1.1, ⟨hk.1.1.2, hk.1.2⟩⟩))).2.1 (Kd.R_F (Kd.R_mono (ok' := (fun k_ => (w.heap.size ≤ k_) ∧ some k_ ≠ (.slice Ao6 y101.length co6 : Value).ownBlock ∧ some k_ ≠ (.slice Ao10 t107.length co10 : Value).ownBlock)) (HO106.out) (fun k_ hk => ⟨hk.1.1.1.1, ⟨hk.1.1.2, hk.1.2⟩⟩))))) (Reps.one (show Kd.FK (Kd.slice 5 (Kd.int .u8)) _ _ t110 [.slice Ao12 t110.length co12] from (Kd.FK_slice_mk (Kd.R_reads' (Kd.R_mono (ok' := (fun k_ => (w.heap.size ≤ k_) ∧ some k_ ≠ (.slice Ao6 y101.length co6 : Value).ownBlock ∧ some k_ ≠ (.slice Ao10 t107.length co10 : Value).ownBlock)) (HO112.out) (fun k_ hk => ⟨hk.1.1.1.1, ⟨hk.1.1.2, hk.2⟩⟩))).2.1 (Kd.R_F (Kd.R_mono (ok' := (fun k_ => (w.heap.size ≤ k_) ∧ some k_ ≠ (.slice Ao6 y101.length co6 : Value).ownBlock ∧ some k_ ≠ (.slice Ao10 t107.length co10 : Value).ownBlock)) (HO112.out) (fun k_ hk => ⟨hk.1.1.1.1, ⟨hk.1.1.2, hk.2⟩⟩))))) (Reps.none _ _)))); intro v114 w13 ho14 hb hg_ hnew_; clear hg_ hnew_; (first | rw [← Ny113.out] at ho14 | (simp only [Int.reduceToNat] at ho14; rw [← Ny113.out] at ho14)); replace HO103 := aM (Kd.R_below (rL HO103.out) hb); replace HO109 := aM (Kd.R_below (rL HO109.out) hb); have HO115 := aM (Kd.N_lower ho14 (below_size bel)); replace HB := aM (below_step bel hb); clear HO106 HO112; clear hb ho14))
 go_ret
 exact ⟨_, erR, by (with_reducible repeat (first | apply Kd.N_alloc | apply Kd.N_drewN | apply Kd.N_drew)); exact Kd.N_mono HO115.out (fun _ hk => hk.1), bel⟩

/-! ### imprimaturref06_Clash: function 34 -/
mutual
def imprimaturref06_Clash.l0 : Nat → List (List Int) → List (List Int) → Int → Option (Bool)
 | 0, _, _, _ => none
 | k + 1, x0, x3, x4 => if x4 < (x0.length : Int) then (if 0 ≤ x4 then ((imprimaturref02_Hash256.f (rd_L1 x0 x4)).bind fun t117 => (if x3.length < 5864062014805 then (imprimaturref06_Clash.l0 k x0 (x3 ++ [t117]) (wrap64 (x4 + 1))) else (none))) else (none)) else (imprimaturref06_Clash.l1 k x0 x3 0)
def imprimaturref06_Clash.l1 : Nat → List (List Int) → List (List Int) → Int → Option (Bool)
 | 0, _, _, _ => none
 | k + 1, x0, x3, x5 => if x5 < (x0.length : Int) then (imprimaturref06_Clash.l2 k x0 x3 x5 0) else (some false)
def imprimaturref06_Clash.l2 : Nat → List (List Int) → List (List Int) → Int → Int → Option (Bool)
 | 0, _, _, _, _ => none
 | k + 1, x0, x3, x5, x6 => if x6 < x5 then (if 0 ≤ x5 then (if x5 < (x3.length : Int) then (if 0 ≤ x6 then (if x6 < (x3.length : Int) then (if (strOfNums (rd_L1 x3 x5)).toList = (strOfNums (rd_L1 x3 x6)).toList then (if x5 < (x0.length : Int) then (if x6 < (x0.length : Int) then (if (strOfNums (rd_L1 x0 x5)).toList = (strOfNums (rd_L1 x0 x6)).toList then (imprimaturref06_Clash.l2 k x0 x3 x5 (wrap64 (x6 + 1))) else (some true)) else (none)) else (none)) else (imprimaturref06_Clash.l2 k x0 x3 x5 (wrap64 (x6 + 1)))) else (none)) else (none)) else (none)) else (none)) else (imprimaturref06_Clash.l1 k x0 x3 (wrap64 (x5 + 1)))
end
def imprimaturref06_Clash.f (k : Nat) (l0 : List (List Int)) : Option (Bool) := imprimaturref06_Clash.l0 k l0 ([] : List (List Int)) 0
theorem imprimaturref06_Clash.mono_l : ∀ k, (∀ y0 y1 y2, LeO (imprimaturref06_Clash.l0 k y0 y1 y2) (imprimaturref06_Clash.l0 (k + 1) y0 y1 y2)) ∧ (∀ y0 y1 y2, LeO (imprimaturref06_Clash.l1 k y0 y1 y2) (imprimaturref06_Clash.l1 (k + 1) y0 y1 y2)) ∧ (∀ y0 y1 y2 y3, LeO (imprimaturref06_Clash.l2 k y0 y1 y2 y3) (imprimaturref06_Clash.l2 (k + 1) y0 y1 y2 y3))
 | 0 => ⟨fun _ _ _ r h => by simp [imprimaturref06_Clash.l0] at h, fun _ _ _ r h => by simp [imprimaturref06_Clash.l1] at h, fun _ _ _ _ r h => by simp [imprimaturref06_Clash.l2] at h⟩
 | k + 1 => by
  obtain ⟨ih0, ih1, ih2⟩ := imprimaturref06_Clash.mono_l k
  refine ⟨?_, ?_, ?_⟩
  ·intro y0 y1 y2
   unfold imprimaturref06_Clash.l0
   repeat' first
   | (with_reducible exact ih0 _ _ _)
   | (with_reducible exact ih1 _ _ _)
   | (with_reducible exact ih2 _ _ _ _)
   | (with_reducible exact LeO.refl _)
   | (with_reducible exact LeO.none _)
   | (with_reducible refine LeO.ite ?_ ?_)
   | (with_reducible refine LeO.bind ?_ (fun _ => ?_))
  ·intro y0 y1 y2
   unfold imprimaturref06_Clash.l1
   repeat' first
   | (with_reducible exact ih0 _ _ _)
   | (with_reducible exact ih1 _ _ _)
   | (with_reducible exact ih2 _ _ _ _)
   | (with_reducible exact LeO.refl _)
   | (with_reducible exact LeO.none _)
   | (with_reducible refine LeO.ite ?_ ?_)
   | (with_reducible refine LeO.bind ?_ (fun _ => ?_))
  intro y0 y1 y2 y3
  unfold imprimaturref06_Clash.l2
  repeat' first
  | (with_reducible exact ih0 _ _ _)
  | (with_reducible exact ih1 _ _ _)
  | (with_reducible exact ih2 _ _ _ _)
  | (with_reducible exact LeO.refl _)
  | (with_reducible exact LeO.none _)
  | (with_reducible refine LeO.ite ?_ ?_)
  | (with_reducible refine LeO.bind ?_ (fun _ => ?_))
theorem imprimaturref06_Clash.mono : ∀ a0 k, LeO (imprimaturref06_Clash.f k a0) (imprimaturref06_Clash.f (k + 1) a0) := by
 intro a0 k
 obtain ⟨ih0, ih1, ih2⟩ := imprimaturref06_Clash.mono_l k
 unfold imprimaturref06_Clash.f
 repeat' first
   | (with_reducible exact ih0 _ _ _)
   | (with_reducible exact ih1 _ _ _)
   | (with_reducible exact ih2 _ _ _ _)
   | (with_reducible exact LeO.refl _)
   | (with_reducible exact LeO.none _)
   | (with_reducible refine LeO.ite ?_ ?_)
   | (with_reducible refine LeO.bind ?_ (fun _ => ?_))
set_option maxHeartbeats 8000000 in
set_option maxRecDepth 100000 in
theorem imprimaturref06_Clash.calls (k : Nat) (A0 : Option Addr) (c0 : Nat) (l0 : List (List Int)) (r : Bool) (w : World) (hr0 : Kd.C (Kd.slice 5 (Kd.int .u8)) w A0 l0.length l0) (hc0 : l0.length ≤ c0) (h : imprimaturref06_Clash.f k l0 = some r) :
  Calls Tryd.prog 34 #[.slice A0 l0.length c0] w fun e w' => e = .returned (.bool r) ∧ Below w.heap.size w w' := by
 have HR0 := aM hr0
 have HC0 := aM hc0
 clear hr0 hc0
 have HB := aM (Below.refl w.heap.size w)
 have H : (imprimaturref06_Clash.l0 k l0 ([] : List (List Int)) 0) = some r := h
 clear h
 have H' := aM H
 clear H
 go_enter Tryd.func34, Tryd.ntmps34
 go_wp2
 repeat (go_quiet (fail); try go_wp2)
 go_loopg [3, 4] k (fun kq v3 v4 w' => ∃ (x3_1 : List (List Int)) (x4_1 : Int), v4 = .int .i64 x4_1 ∧ Aside0 (imprimaturref06_Clash.l0 kq l0 x3_1 x4_1 = some r) ∧ Aside0 (kq ≤ k) ∧ Aside0 (Kd.S (Kd.slice 5 (Kd.int .u8)) 22 w' w.heap.size (fun _ => True) v3 x3_1) ∧ Aside0 (Below w.heap.size w w'))
 case atStart => exact ⟨(([] : List (List Int))), (0), rfS, H', ⟨Nat.le_refl _⟩, ⟨by first | exact Kd.S_nil _ _ _ _ _ | exact Kd.N_nil _ _ _ _ _ | exact Kd.V_nil _ _ _ _ _ | exact Kd.Q_nil _ _ _ _ _ | exact Kd.R_nil _ _ _ _ _⟩, ⟨bel⟩⟩
 case round =>
  clear H'
  obtain ⟨x3_1, x4_1, rfl, HA, HK1, HO_3, HB⟩ := hrel
  cases gk with
  | zero => exact absurd HA.out (by simp [imprimaturref06_Clash.l0])
  | succ k1 =>
   have H := HA.out
   clear HA
   simp only [imprimaturref06_Clash.l0] at H
   by_cases c2 : x4_1 < (l0.length : Int)
   ·rw [if_pos c2] at H
    have c2b0 : decide (x4_1 < (l0.length : Int)) = true := decide_eq_true c2
    clear c2
    by_cases c3 : 0 ≤ x4_1
    rotate_left
    ·rw [if_neg c3] at H
     exact absurd H (by simp)
    rw [if_pos c3] at H
    have c3b0 : decide (0 ≤ x4_1) = true := decide_eq_true c3
    clear c3
    replace H := Option.bind_eq_some_iff.mp H
    obtain ⟨t117, A40, H⟩ := H
    replace H : (if x3_1.length < 5864062014805 then (imprimaturref06_Clash.l0 k1 l0 (x3_1 ++ [t117]) (wrap64 (x4_1 + 1))) else (none)) = some r := H
    have A4 := aM A40
    clear A40
    by_cases c5 : x3_1.length < 5864062014805
    rotate_left
    ·rw [if_neg c5] at H
     exact absurd H (by simp)
    rw [if_pos c5] at H
    have LMc5 := aM c5
    clear c5
    obtain ⟨y120, hy120⟩ : ∃ y_ : List (List Int), y_ = (x3_1 ++ [t117]) := ⟨_, rfl⟩
    replace H : (imprimaturref06_Clash.l0 k1 l0 y120 (wrap64 (x4_1 + 1))) = some r := hyA hy120 H
    have Ny120 := aM hy120
    clear hy120
    have H' := aM H
    clear H
    have p116 : 0 ≤ (x4_1 : Int) := of_decide_eq_true asm_
    have q116 : x4_1 < (l0.length : Int) := of_decide_eq_true asm_
    obtain ⟨ad116, A116_0, c116_0, e116, hx116_0, hl116_0, hi116_0⟩ := at_L1 HR0.out x4_1 p116 q116
    cases e116
    replace hx116_0 := (HB.out.cell (World.block_lt_of_cell? w _ hx116_0)).trans hx116_0
    have HR116_0 := aM hi116_0
    have HC116_0 := aM hl116_0
    clear hi116_0 hl116_0
    replace p116 := eq_true p116
    replace q116 := eq_true q116
    go_wp2_with (first | (go_at_call 56; (with_reducible refine (imprimaturref02_Hash256.calls _ _ (rd_L1 l0 x4_1) t117 _ ?side1 ?side2 A4.out).mono ?_); (case side1 => exact cL (Kd.C_below HR116_0.out HB.out)); (case side2 => exact HC116_0.out); rintro e w6 ⟨v118, rfl, ho0, hb⟩; replace HO_3 := aM (Kd.S_elder' (sL HO_3.out) (Kd.R_base ho0) hb); have HO119 := aM (Kd.R_lower ho0 (below_size bel)); replace HB := aM (below_step bel hb); clear hb ho0; obtain ⟨Ao8, co8, eo8⟩ := Kd.R_slice HO119.out; subst eo8) | ((with_reducible refine gate_builtin (b := .append) (xs := #[.tmp 13, .tmp 19]) rfl ?_); at_builtin; refine Kd.S_append (Kd.slice 5 (Kd.int .u8)) (w0 := w) w.heap.size rfl (.tmp 13) (.tmp 19) 23 22 (.slice none 0 0) 24 rfl Tryd.underlying23 info22 rfl (by decide) (by omega) u3 x3_1 t117 [.slice Ao8 t117.length co8] (fun _ => True) (fun k_ => some k_ = (.slice Ao8 t117.length co8 : Value).ownBlock) rfl rfl ?aP (fun k_ hk_ => ((Kd.R_mono (ok' := fun k_ => ((fun _ => True)) k_ ∧ some k_ ≠ (u3 : Value).ownBlock) (Kd.R_apart' (HO119.out) (Kd.S_typed HO_3.out) (by decide)) (fun k_ hk => ⟨trivial, hk.2⟩))).1 k_ hk_.symm) ?aF ?aO ?aB ?aS ?aL ?_; (case aP => exact Kd.M_row (Kd.R_mono (Kd.R_tight rfl (Kd.R_mono (ok' := fun k_ => ((fun _ => True)) k_ ∧ some k_ ≠ (u3 : Value).ownBlock) (Kd.R_apart' (HO119.out) (Kd.S_typed HO_3.out) (by decide)) (fun k_ hk => ⟨trivial, hk.2⟩))) (fun _ h_ => h_))); (case aB => exact bel); (case aF => exact (fun _ _ => trivial)); (case aO => exact (by (with_reducible repeat (first | apply Kd.S_alloc | apply Kd.S_drewN | apply Kd.S_drew)); exact Kd.S_mono HO_3.out (fun k_ hk => ⟨trivial, fun e_ => hk.2 e_⟩))); (case aS => exact (below_size bel)); (case aL => have := LMc5.out; omega); intro v121 w7 ho hb hg hat; rw [← Ny120.out] at ho; replace HB := aM (hb); have HO122 := aM (ho); clear HO_3 HO119; clear ho hb hg hat))
    repeat (go_quiet (first | (go_at_call 56; (with_reducible refine (imprimaturref02_Hash256.calls _ _ (rd_L1 l0 x4_1) t117 _ ?side1 ?side2 A4.out).mono ?_); (case side1 => exact cL (Kd.C_below HR116_0.out HB.out)); (case side2 => exact HC116_0.out); rintro e w6 ⟨v118, rfl, ho0, hb⟩; replace HO_3 := aM (Kd.S_elder' (sL HO_3.out) (Kd.R_base ho0) hb); have HO119 := aM (Kd.R_lower ho0 (below_size bel)); replace HB := aM (below_step bel hb); clear hb ho0; obtain ⟨Ao8, co8, eo8⟩ := Kd.R_slice HO119.out; subst eo8) | ((with_reducible refine gate_builtin (b := .append) (xs := #[.tmp 13, .tmp 19]) rfl ?_); at_builtin; refine Kd.S_append (Kd.slice 5 (Kd.int .u8)) (w0 := w) w.heap.size rfl (.tmp 13) (.tmp 19) 23 22 (.slice none 0 0) 24 rfl Tryd.underlying23 info22 rfl (by decide) (by omega) u3 x3_1 t117 [.slice Ao8 t117.length co8] (fun _ => True) (fun k_ => some k_ = (.slice Ao8 t117.length co8 : Value).ownBlock) rfl rfl ?aP (fun k_ hk_ => ((Kd.R_mono (ok' := fun k_ => ((fun _ => True)) k_ ∧ some k_ ≠ (u3 : Value).ownBlock) (Kd.R_apart' (HO119.out) (Kd.S_typed HO_3.out) (by decide)) (fun k_ hk => ⟨trivial, hk.2⟩))).1 k_ hk_.symm) ?aF ?aO ?aB ?aS ?aL ?_; (case aP => exact Kd.M_row (Kd.R_mono (Kd.R_tight rfl (Kd.R_mono (ok' := fun k_ => ((fun _ => True)) k_ ∧ some k_ ≠ (u3 : Value).ownBlock) (Kd.R_apart' (HO119.out) (Kd.S_typed HO_3.out) (by decide)) (fun k_ hk => ⟨trivial, hk.2⟩))) (fun _ h_ => h_))); (case aB => exact bel); (case aF => exact (fun _ _ => trivial)); (case aO => exact (by (with_reducible repeat (first | apply Kd.S_alloc | apply Kd.S_drewN | apply Kd.S_drew)); exact Kd.S_mono HO_3.out (fun k_ hk => ⟨trivial, fun e_ => hk.2 e_⟩))); (case aS => exact (below_size bel)); (case aL => have := LMc5.out; omega); intro v121 w7 ho hb hg hat; rw [← Ny120.out] at ho; replace HB := aM (hb); have HO122 := aM (ho); clear HO_3 HO119; clear ho hb hg hat)); try go_wp2_with (first | (go_at_call 56; (with_reducible refine (imprimaturref02_Hash256.calls _ _ (rd_L1 l0 x4_1) t117 _ ?side1 ?side2 A4.out).mono ?_); (case side1 => exact cL (Kd.C_below HR116_0.out HB.out)); (case side2 => exact HC116_0.out); rintro e w6 ⟨v118, rfl, ho0, hb⟩; replace HO_3 := aM (Kd.S_elder' (sL HO_3.out) (Kd.R_base ho0) hb); have HO119 := aM (Kd.R_lower ho0 (below_size bel)); replace HB := aM (below_step bel hb); clear hb ho0; obtain ⟨Ao8, co8, eo8⟩ := Kd.R_slice HO119.out; subst eo8) | ((with_reducible refine gate_builtin (b := .append) (xs := #[.tmp 13, .tmp 19]) rfl ?_); at_builtin; refine Kd.S_append (Kd.slice 5 (Kd.int .u8)) (w0 := w) w.heap.size rfl (.tmp 13) (.tmp 19) 23 22 (.slice none 0 0) 24 rfl Tryd.underlying23 info22 rfl (by decide) (by omega) u3 x3_1 t117 [.slice Ao8 t117.length co8] (fun _ => True) (fun k_ => some k_ = (.slice Ao8 t117.length co8 : Value).ownBlock) rfl rfl ?aP (fun k_ hk_ => ((Kd.R_mono (ok' := fun k_ => ((fun _ => True)) k_ ∧ some k_ ≠ (u3 : Value).ownBlock) (Kd.R_apart' (HO119.out) (Kd.S_typed HO_3.out) (by decide)) (fun k_ hk => ⟨trivial, hk.2⟩))).1 k_ hk_.symm) ?aF ?aO ?aB ?aS ?aL ?_; (case aP => exact Kd.M_row (Kd.R_mono (Kd.R_tight rfl (Kd.R_mono (ok' := fun k_ => ((fun _ => True)) k_ ∧ some k_ ≠ (u3 : Value).ownBlock) (Kd.R_apart' (HO119.out) (Kd.S_typed HO_3.out) (by decide)) (fun k_ hk => ⟨trivial, hk.2⟩))) (fun _ h_ => h_))); (case aB => exact bel); (case aF => exact (fun _ _ => trivial)); (case aO => exact (by (with_reducible repeat (first | apply Kd.S_alloc | apply Kd.S_drewN | apply Kd.S_drew)); exact Kd.S_mono HO_3.out (fun k_ hk => ⟨trivial, fun e_ => hk.2 e_⟩))); (case aS => exact (below_size bel)); (case aL => have := LMc5.out; omega); intro v121 w7 ho hb hg hat; rw [← Ny120.out] at ho; replace HB := aM (hb); have HO122 := aM (ho); clear HO_3 HO119; clear ho hb hg hat)))
    go_roundg k1
    case measure => have := HK1.out; omega
    case rel => exact ⟨(y120), (wrap64 (x4_1 + 1)), rfS, H', ⟨by have := HK1.out; omega⟩, ⟨by (with_reducible repeat (first | apply Kd.S_alloc | apply Kd.S_drewN | apply Kd.S_drew)); exact HO122.out⟩, ⟨bel⟩⟩
   rw [if_neg c2] at H
   have c2b0 : decide (x4_1 < (l0.length : Int)) = false := decide_eq_false c2
   clear c2
   have H' := aM H
   clear H
   go_wp2
   repeat (go_quiet (fail); try go_wp2)
   go_loopg [5] k1 (fun kq v5 w' => ∃ (x5_2 : Int), v5 = .int .i64 x5_2 ∧ Aside0 (imprimaturref06_Clash.l1 kq l0 x3_1 x5_2 = some r) ∧ Aside0 (kq ≤ k1) ∧ Aside0 (Kd.S (Kd.slice 5 (Kd.int .u8)) 22 w' w.heap.size (fun _ => True) u3 x3_1) ∧ Aside0 (Below w.heap.size w w'))
   case atStart => exact ⟨(0), rfS, H', ⟨Nat.le_refl _⟩, ⟨by (with_reducible repeat (first | apply Kd.S_alloc | apply Kd.S_drewN | apply Kd.S_drew)); exact HO_3.out⟩, ⟨bel⟩⟩
   case round =>
    clear H'
    try clear c2
    try clear c2b0
    obtain ⟨x5_2, rfl, HA, HK2, HO_3, HB⟩ := hrel
    cases gk with
    | zero => exact absurd HA.out (by simp [imprimaturref06_Clash.l1])
    | succ k2 =>
     have H := HA.out
     clear HA
     simp only [imprimaturref06_Clash.l1] at H
     by_cases c9 : x5_2 < (l0.length : Int)
     rotate_left
     ·rw [if_neg c9] at H
      have c9b0 : decide (x5_2 < (l0.length : Int)) = false := decide_eq_false c9
      clear c9
      obtain rfl := Option.some.inj H
      go_wp2
      repeat (go_quiet (fail); try go_wp2)
      go_ret
      exact ⟨erR, bel⟩

     rw [if_pos c9] at H
     have c9b0 : decide (x5_2 < (l0.length : Int)) = true := decide_eq_true c9
     clear c9
     have H' := aM H
     clear H
     go_wp2
     repeat (go_quiet (fail); try go_wp2)
     go_loopg [6] k2 (fun kq v6 w' => ∃ (x6_3 : Int), v6 = .int .i64 x6_3 ∧ Aside0 (imprimaturref06_Clash.l2 kq l0 x3_1 x5_2 x6_3 = some r) ∧ Aside0 (kq ≤ k2) ∧ Aside0 (Kd.S (Kd.slice 5 (Kd.int .u8)) 22 w' w.heap.size (fun _ => True) u3 x3_1) ∧ Aside0 (Below w.heap.size w w'))
     case atStart => exact ⟨(0), rfS, H', ⟨Nat.le_refl _⟩, ⟨by (with_reducible repeat (first | apply Kd.S_alloc | apply Kd.S_drewN | apply Kd.S_drew)); exact HO_3.out⟩, ⟨bel⟩⟩
     case round =>
      clear H'
      try clear c2
      try clear c2b0
      try clear c9
      try clear c9b0
      obtain ⟨x6_3, rfl, HA, HK3, HO_3, HB⟩ := hrel
      cases gk with
      | zero => exact absurd HA.out (by simp [imprimaturref06_Clash.l2])
      | succ k3 =>
       have H := HA.out
       clear HA
       simp only [imprimaturref06_Clash.l2] at H
       by_cases c10 : x6_3 < x5_2
       rotate_left
       ·rw [if_neg c10] at H
        have c10b0 : decide (x6_3 < x5_2) = false := decide_eq_false c10
        clear c10
        have H' := aM H
        clear H
        go_wp2
        repeat (go_quiet (fail); try go_wp2)
        go_roundg k3
        case measure => have := HK1.out; have := HK2.out; have := HK3.out; omega
        case rel => exact ⟨(wrap64 (x5_2 + 1)), rfS, H', ⟨by have := HK1.out; have := HK2.out; have := HK3.out; omega⟩, ⟨by (with_reducible repeat (first | apply Kd.S_alloc | apply Kd.S_drewN | apply Kd.S_drew)); exact HO_3.out⟩, ⟨bel⟩⟩
       rw [if_pos c10] at H
       have c10b0 : decide (x6_3 < x5_2) = true := decide_eq_true c10
       clear c10
       by_cases c11 : 0 ≤ x5_2
       rotate_left
       ·rw [if_neg c11] at H
        exact absurd H (by simp)
       rw [if_pos c11] at H
       have c11b0 : decide (0 ≤ x5_2) = true := decide_eq_true c11
       clear c11
       by_cases c12 : x5_2 < (x3_1.length : Int)
       rotate_left
       ·rw [if_neg c12] at H
        exact absurd H (by simp)
       rw [if_pos c12] at H
       have c12b0 : decide (x5_2 < (x3_1.length : Int)) = true := decide_eq_true c12
       clear c12
       by_cases c13 : 0 ≤ x6_3
       rotate_left
       ·rw [if_neg c13] at H
        exact absurd H (by simp)
       rw [if_pos c13] at H
       have c13b0 : decide (0 ≤ x6_3) = true := decide_eq_true c13
       clear c13
       by_cases c14 : x6_3 < (x3_1.length : Int)
       rotate_left
       ·rw [if_neg c14] at H
        exact absurd H (by simp)
       rw [if_pos c14] at H
       have c14b0 : decide (x6_3 < (x3_1.length : Int)) = true := decide_eq_true c14
       clear c14
       by_cases c15 : (strOfNums (rd_L1 x3_1 x5_2)).toList = (strOfNums (rd_L1 x3_1 x6_3)).toList
       rotate_left
       ·rw [if_neg c15] at H
        have c15b0 : ((strOfNums (rd_L1 x3_1 x5_2)).toList == (strOfNums (rd_L1 x3_1 x6_3)).toList) = false := beq_eq_false_iff_ne.mpr c15
        have c15b1 : ((strOfNums (rd_L1 x3_1 x5_2)).toList != (strOfNums (rd_L1 x3_1 x6_3)).toList) = true := bne_iff_ne.mpr c15
        have H' := aM H
        clear H
        obtain ⟨Ao29, co29, eo29⟩ := Kd.S_slice HO_3.out
        subst eo29
        have p123 : 0 ≤ (x5_2 : Int) := of_decide_eq_true asm_
        have q123 : x5_2 < (x3_1.length : Int) := of_decide_eq_true asm_
        obtain ⟨ad123, A123_0, c123_0, e123, hx123_0, hl123_0, hi123_0⟩ := at_L1 (Kd.S_reads' HO_3.out).2.2 x5_2 p123 q123
        cases e123
        obtain ⟨ce123, hce123, hMe123, hcc123⟩ := Kd.S_get HO_3.out [] x5_2 p123 (by first | exact q123 | exact of_decide_eq_true asm_ | (have e_ := (Kd.S_reads' HO_3.out).1; omega))
        obtain ⟨ve123_0, rfl, ge123_0⟩ := hMe123
        have hv123_0 := hcc123 0 _ rfl
        rw [Nat.add_zero, show ((Kd.slice 5 (Kd.int .u8))).sz = 1 from rfl, Nat.mul_one] at hv123_0
        replace hv123_0 := Option.some.inj (hv123_0.symm.trans hx123_0)
        rw [hv123_0] at ge123_0
        have HL123_0 := aM (show Kd.R (Kd.int .u8) 5 _ _ _ _ (rd_L1 x3_1 x5_2) from ge123_0)
        clear hv123_0 ge123_0
        clear hcc123 hce123
        have HR123_0 := aM hi123_0
        have HC123_0 := aM hl123_0
        clear hi123_0 hl123_0
        replace p123 := eq_true p123
        replace q123 := eq_true q123
        have hcv30 := fun n => Kd.C_string (P := Tryd.prog) (A := A123_0) (c := c123_0) Tryd.underlying22 Tryd.underlying5 Tryd.underlying9 (Kd.C_drewN (by repeat (first | (with_reducible exact HR123_0.out) | (with_reducible refine Kd.C_alloc ?_ _) | (with_reducible refine Kd.C_drewN ?_ _) | (with_reducible refine Kd.C_drew ?_) | exact HR123_0.out)) n)
        have p124 : 0 ≤ (x6_3 : Int) := of_decide_eq_true asm_
        have q124 : x6_3 < (x3_1.length : Int) := of_decide_eq_true asm_
        obtain ⟨ad124, A124_0, c124_0, e124, hx124_0, hl124_0, hi124_0⟩ := at_L1 (Kd.S_reads' HO_3.out).2.2 x6_3 p124 q124
        obtain rfl : ad123 = ad124 := (by injection e124)
        obtain ⟨ce124, hce124, hMe124, hcc124⟩ := Kd.S_get HO_3.out [] x6_3 p124 (by first | exact q124 | exact of_decide_eq_true asm_ | (have e_ := (Kd.S_reads' HO_3.out).1; omega))
        obtain ⟨ve124_0, rfl, ge124_0⟩ := hMe124
        have hv124_0 := hcc124 0 _ rfl
        rw [Nat.add_zero, show ((Kd.slice 5 (Kd.int .u8))).sz = 1 from rfl, Nat.mul_one] at hv124_0
        replace hv124_0 := Option.some.inj (hv124_0.symm.trans hx124_0)
        rw [hv124_0] at ge124_0
        have HL124_0 := aM (show Kd.R (Kd.int .u8) 5 _ _ _ _ (rd_L1 x3_1 x6_3) from ge124_0)
        clear hv124_0 ge124_0
        clear hcc124 hce124
        have HR124_0 := aM hi124_0
        have HC124_0 := aM hl124_0
        clear hi124_0 hl124_0
        replace p124 := eq_true p124
        replace q124 := eq_true q124
        have hcv31 := fun n => Kd.C_string (P := Tryd.prog) (A := A124_0) (c := c124_0) Tryd.underlying22 Tryd.underlying5 Tryd.underlying9 (Kd.C_drewN (by repeat (first | (with_reducible exact HR124_0.out) | (with_reducible refine Kd.C_alloc ?_ _) | (with_reducible refine Kd.C_drewN ?_ _) | (with_reducible refine Kd.C_drew ?_) | exact HR124_0.out)) n)
        go_wp2
        repeat (go_quiet (fail); try go_wp2)
        go_roundg k3
        case measure => have := HK1.out; have := HK2.out; have := HK3.out; omega
        case rel => exact ⟨(wrap64 (x6_3 + 1)), rfS, H', ⟨by have := HK1.out; have := HK2.out; have := HK3.out; omega⟩, ⟨by (with_reducible repeat (first | apply Kd.S_alloc | apply Kd.S_drewN | apply Kd.S_drew)); exact HO_3.out⟩, ⟨bel⟩⟩
       rw [if_pos c15] at H
       have c15b0 : ((strOfNums (rd_L1 x3_1 x5_2)).toList == (strOfNums (rd_L1 x3_1 x6_3)).toList) = true := beq_iff_eq.mpr c15
       have c15b1 : ((strOfNums (rd_L1 x3_1 x5_2)).toList != (strOfNums (rd_L1 x3_1 x6_3)).toList) = false := bne_eq_false_iff_eq.mpr c15
       clear c15
       by_cases c16 : x5_2 < (l0.length : Int)
       rotate_left
       ·rw [if_neg c16] at H
        exact absurd H (by simp)
       rw [if_pos c16] at H
       have c16b0 : decide (x5_2 < (l0.length : Int)) = true := decide_eq_true c16
       clear c16
       by_cases c17 : x6_3 < (l0.length : Int)
       rotate_left
       ·rw [if_neg c17] at H
        exact absurd H (by simp)
       rw [if_pos c17] at H
       have c17b0 : decide (x6_3 < (l0.length : Int)) = true := decide_eq_true c17
       clear c17
       by_cases c18 : (strOfNums (rd_L1 l0 x5_2)).toList = (strOfNums (rd_L1 l0 x6_3)).toList
       ·rw [if_pos c18] at H
        have c18b0 : ((strOfNums (rd_L1 l0 x5_2)).toList == (strOfNums (rd_L1 l0 x6_3)).toList) = true := beq_iff_eq.mpr c18
        have c18b1 : ((strOfNums (rd_L1 l0 x5_2)).toList != (strOfNums (rd_L1 l0 x6_3)).toList) = false := bne_eq_false_iff_eq.mpr c18
        clear c18
        have H' := aM H
        clear H
        obtain ⟨Ao19, co19, eo19⟩ := Kd.S_slice HO_3.out
        subst eo19
        have p123 : 0 ≤ (x5_2 : Int) := of_decide_eq_true asm_
        have q123 : x5_2 < (x3_1.length : Int) := of_decide_eq_true asm_
        obtain ⟨ad123, A123_0, c123_0, e123, hx123_0, hl123_0, hi123_0⟩ := at_L1 (Kd.S_reads' HO_3.out).2.2 x5_2 p123 q123
        cases e123
        obtain ⟨ce123, hce123, hMe123, hcc123⟩ := Kd.S_get HO_3.out [] x5_2 p123 (by first | exact q123 | exact of_decide_eq_true asm_ | (have e_ := (Kd.S_reads' HO_3.out).1; omega))
        obtain ⟨ve123_0, rfl, ge123_0⟩ := hMe123
        have hv123_0 := hcc123 0 _ rfl
        rw [Nat.add_zero, show ((Kd.slice 5 (Kd.int .u8))).sz = 1 from rfl, Nat.mul_one] at hv123_0
        replace hv123_0 := Option.some.inj (hv123_0.symm.trans hx123_0)
        rw [hv123_0] at ge123_0
        have HL123_0 := aM (show Kd.R (Kd.int .u8) 5 _ _ _ _ (rd_L1 x3_1 x5_2) from ge123_0)
        clear hv123_0 ge123_0
        clear hcc123 hce123
        have HR123_0 := aM hi123_0
        have HC123_0 := aM hl123_0
        clear hi123_0 hl123_0
        replace p123 := eq_true p123
        replace q123 := eq_true q123
        have hcv20 := fun n => Kd.C_string (P := Tryd.prog) (A := A123_0) (c := c123_0) Tryd.underlying22 Tryd.underlying5 Tryd.underlying9 (Kd.C_drewN (by repeat (first | (with_reducible exact HR123_0.out) | (with_reducible refine Kd.C_alloc ?_ _) | (with_reducible refine Kd.C_drewN ?_ _) | (with_reducible refine Kd.C_drew ?_) | exact HR123_0.out)) n)
        have p124 : 0 ≤ (x6_3 : Int) := of_decide_eq_true asm_
        have q124 : x6_3 < (x3_1.length : Int) := of_decide_eq_true asm_
        obtain ⟨ad124, A124_0, c124_0, e124, hx124_0, hl124_0, hi124_0⟩ := at_L1 (Kd.S_reads' HO_3.out).2.2 x6_3 p124 q124
        obtain rfl : ad123 = ad124 := (by injection e124)
        obtain ⟨ce124, hce124, hMe124, hcc124⟩ := Kd.S_get HO_3.out [] x6_3 p124 (by first | exact q124 | exact of_decide_eq_true asm_ | (have e_ := (Kd.S_reads' HO_3.out).1; omega))
        obtain ⟨ve124_0, rfl, ge124_0⟩ := hMe124
        have hv124_0 := hcc124 0 _ rfl
        rw [Nat.add_zero, show ((Kd.slice 5 (Kd.int .u8))).sz = 1 from rfl, Nat.mul_one] at hv124_0
        replace hv124_0 := Option.some.inj (hv124_0.symm.trans hx124_0)
        rw [hv124_0] at ge124_0
        have HL124_0 := aM (show Kd.R (Kd.int .u8) 5 _ _ _ _ (rd_L1 x3_1 x6_3) from ge124_0)
        clear hv124_0 ge124_0
        clear hcc124 hce124
        have HR124_0 := aM hi124_0
        have HC124_0 := aM hl124_0
        clear hi124_0 hl124_0
        replace p124 := eq_true p124
        replace q124 := eq_true q124
        have hcv21 := fun n => Kd.C_string (P := Tryd.prog) (A := A124_0) (c := c124_0) Tryd.underlying22 Tryd.underlying5 Tryd.underlying9 (Kd.C_drewN (by repeat (first | (with_reducible exact HR124_0.out) | (with_reducible refine Kd.C_alloc ?_ _) | (with_reducible refine Kd.C_drewN ?_ _) | (with_reducible refine Kd.C_drew ?_) | exact HR124_0.out)) n)
        have p125 : 0 ≤ (x5_2 : Int) := of_decide_eq_true asm_
        have q125 : x5_2 < (l0.length : Int) := of_decide_eq_true asm_
        obtain ⟨ad125, A125_0, c125_0, e125, hx125_0, hl125_0, hi125_0⟩ := at_L1 HR0.out x5_2 p125 q125
        cases e125
        replace hx125_0 := (HB.out.cell (World.block_lt_of_cell? w _ hx125_0)).trans hx125_0
        have HR125_0 := aM hi125_0
        have HC125_0 := aM hl125_0
        clear hi125_0 hl125_0
        replace p125 := eq_true p125
        replace q125 := eq_true q125
        have hcv22 := fun n => Kd.C_string (P := Tryd.prog) (A := A125_0) (c := c125_0) Tryd.underlying22 Tryd.underlying5 Tryd.underlying9 (Kd.C_drewN (Kd.C_below HR125_0.out HB.out) n)
        have p126 : 0 ≤ (x6_3 : Int) := of_decide_eq_true asm_
        have q126 : x6_3 < (l0.length : Int) := of_decide_eq_true asm_
        obtain ⟨ad126, A126_0, c126_0, e126, hx126_0, hl126_0, hi126_0⟩ := at_L1 HR0.out x6_3 p126 q126
        obtain rfl : ad125 = ad126 := (by injection e126)
        replace hx126_0 := (HB.out.cell (World.block_lt_of_cell? w _ hx126_0)).trans hx126_0
        have HR126_0 := aM hi126_0
        have HC126_0 := aM hl126_0
        clear hi126_0 hl126_0
        replace p126 := eq_true p126
        replace q126 := eq_true q126
        have hcv23 := fun n => Kd.C_string (P := Tryd.prog) (A := A126_0) (c := c126_0) Tryd.underlying22 Tryd.underlying5 Tryd.underlying9 (Kd.C_drewN (Kd.C_below HR126_0.out HB.out) n)
        go_wp2
        repeat (go_quiet (fail); try go_wp2)
        go_roundg k3
        case measure => have := HK1.out; have := HK2.out; have := HK3.out; omega
        case rel => exact ⟨(wrap64 (x6_3 + 1)), rfS, H', ⟨by have := HK1.out; have := HK2.out; have := HK3.out; omega⟩, ⟨by (with_reducible repeat (first | apply Kd.S_alloc | apply Kd.S_drewN | apply Kd.S_drew)); exact HO_3.out⟩, ⟨bel⟩⟩
       rw [if_neg c18] at H
       have c18b0 : ((strOfNums (rd_L1 l0 x5_2)).toList == (strOfNums (rd_L1 l0 x6_3)).toList) = false := beq_eq_false_iff_ne.mpr c18
       have c18b1 : ((strOfNums (rd_L1 l0 x5_2)).toList != (strOfNums (rd_L1 l0 x6_3)).toList) = true := bne_iff_ne.mpr c18
       obtain rfl := Option.some.inj H
       obtain ⟨Ao24, co24, eo24⟩ := Kd.S_slice HO_3.out
       subst eo24
       have p123 : 0 ≤ (x5_2 : Int) := of_decide_eq_true asm_
       have q123 : x5_2 < (x3_1.length : Int) := of_decide_eq_true asm_
       obtain ⟨ad123, A123_0, c123_0, e123, hx123_0, hl123_0, hi123_0⟩ := at_L1 (Kd.S_reads' HO_3.out).2.2 x5_2 p123 q123
       cases e123
       obtain ⟨ce123, hce123, hMe123, hcc123⟩ := Kd.S_get HO_3.out [] x5_2 p123 (by first | exact q123 | exact of_decide_eq_true asm_ | (have e_ := (Kd.S_reads' HO_3.out).1; omega))
       obtain ⟨ve123_0, rfl, ge123_0⟩ := hMe123
       have hv123_0 := hcc123 0 _ rfl
       rw [Nat.add_zero, show ((Kd.slice 5 (Kd.int .u8))).sz = 1 from rfl, Nat.mul_one] at hv123_0
       replace hv123_0 := Option.some.inj (hv123_0.symm.trans hx123_0)
       rw [hv123_0] at ge123_0
       have HL123_0 := aM (show Kd.R (Kd.int .u8) 5 _ _ _ _ (rd_L1 x3_1 x5_2) from ge123_0)
       clear hv123_0 ge123_0
       clear hcc123 hce123
       have HR123_0 := aM hi123_0
       have HC123_0 := aM hl123_0
       clear hi123_0 hl123_0
       replace p123 := eq_true p123
       replace q123 := eq_true q123
       have hcv25 := fun n => Kd.C_string (P := Tryd.prog) (A := A123_0) (c := c123_0) Tryd.underlying22 Tryd.underlying5 Tryd.underlying9 (Kd.C_drewN (by repeat (first | (with_reducible exact HR123_0.out) | (with_reducible refine Kd.C_alloc ?_ _) | (with_reducible refine Kd.C_drewN ?_ _) | (with_reducible refine Kd.C_drew ?_) | exact HR123_0.out)) n)
       have p124 : 0 ≤ (x6_3 : Int) := of_decide_eq_true asm_
       have q124 : x6_3 < (x3_1.length : Int) := of_decide_eq_true asm_
       obtain ⟨ad124, A124_0, c124_0, e124, hx124_0, hl124_0, hi124_0⟩ := at_L1 (Kd.S_reads' HO_3.out).2.2 x6_3 p124 q124
       obtain rfl : ad123 = ad124 := (by injection e124)
       obtain ⟨ce124, hce124, hMe124, hcc124⟩ := Kd.S_get HO_3.out [] x6_3 p124 (by first | exact q124 | exact of_decide_eq_true asm_ | (have e_ := (Kd.S_reads' HO_3.out).1; omega))
       obtain ⟨ve124_0, rfl, ge124_0⟩ := hMe124
       have hv124_0 := hcc124 0 _ rfl
       rw [Nat.add_zero, show ((Kd.slice 5 (Kd.int .u8))).sz = 1 from rfl, Nat.mul_one] at hv124_0
       replace hv124_0 := Option.some.inj (hv124_0.symm.trans hx124_0)
       rw [hv124_0] at ge124_0
       have HL124_0 := aM (show Kd.R (Kd.int .u8) 5 _ _ _ _ (rd_L1 x3_1 x6_3) from ge124_0)
       clear hv124_0 ge124_0
       clear hcc124 hce124
       have HR124_0 := aM hi124_0
       have HC124_0 := aM hl124_0
       clear hi124_0 hl124_0
       replace p124 := eq_true p124
       replace q124 := eq_true q124
       have hcv26 := fun n => Kd.C_string (P := Tryd.prog) (A := A124_0) (c := c124_0) Tryd.underlying22 Tryd.underlying5 Tryd.underlying9 (Kd.C_drewN (by repeat (first | (with_reducible exact HR124_0.out) | (with_reducible refine Kd.C_alloc ?_ _) | (with_reducible refine Kd.C_drewN ?_ _) | (with_reducible refine Kd.C_drew ?_) | exact HR124_0.out)) n)
       have p125 : 0 ≤ (x5_2 : Int) := of_decide_eq_true asm_
       have q125 : x5_2 < (l0.length : Int) := of_decide_eq_true asm_
       obtain ⟨ad125, A125_0, c125_0, e125, hx125_0, hl125_0, hi125_0⟩ := at_L1 HR0.out x5_2 p125 q125
       cases e125
       replace hx125_0 := (HB.out.cell (World.block_lt_of_cell? w _ hx125_0)).trans hx125_0
       have HR125_0 := aM hi125_0
       have HC125_0 := aM hl125_0
       clear hi125_0 hl125_0
       replace p125 := eq_true p125
       replace q125 := eq_true q125
       have hcv27 := fun n => Kd.C_string (P := Tryd.prog) (A := A125_0) (c := c125_0) Tryd.underlying22 Tryd.underlying5 Tryd.underlying9 (Kd.C_drewN (Kd.C_below HR125_0.out HB.out) n)
       have p126 : 0 ≤ (x6_3 : Int) := of_decide_eq_true asm_
       have q126 : x6_3 < (l0.length : Int) := of_decide_eq_true asm_
       obtain ⟨ad126, A126_0, c126_0, e126, hx126_0, hl126_0, hi126_0⟩ := at_L1 HR0.out x6_3 p126 q126
       obtain rfl : ad125 = ad126 := (by injection e126)
       replace hx126_0 := (HB.out.cell (World.block_lt_of_cell? w _ hx126_0)).trans hx126_0
       have HR126_0 := aM hi126_0
       have HC126_0 := aM hl126_0
       clear hi126_0 hl126_0
       replace p126 := eq_true p126
       replace q126 := eq_true q126
       have hcv28 := fun n => Kd.C_string (P := Tryd.prog) (A := A126_0) (c := c126_0) Tryd.underlying22 Tryd.underlying5 Tryd.underlying9 (Kd.C_drewN (Kd.C_below HR126_0.out HB.out) n)
       go_wp2
       repeat (go_quiet (fail); try go_wp2)
       go_ret
       exact ⟨erR, bel⟩
/-! ### imprimaturref06_Texts: function 32 -/
def imprimaturref06_Texts.f (k : Nat) (l0 : List (List Int)) : Option ((List (List Int))) := (imprimaturref06_Top.f k l0).bind fun bt127 => ((imprimaturref06_RootText.f k (l0.length : Int) bt127.1).bind fun t133 => (if bt127.2.length < 5864062014805 then (some (bt127.2 ++ [t133])) else (none)))
theorem imprimaturref06_Texts.mono : ∀ a0 k, LeO (imprimaturref06_Texts.f k a0) (imprimaturref06_Texts.f (k + 1) a0) := by
 intro a0 k
 unfold imprimaturref06_Texts.f
 repeat' first
   | (with_reducible exact imprimaturref06_RootText.mono _ _ _)
   | (with_reducible exact imprimaturref06_Top.mono _ _)
   | (with_reducible exact LeO.refl _)
   | (with_reducible exact LeO.none _)
   | (with_reducible refine LeO.ite ?_ ?_)
   | (with_reducible refine LeO.bind ?_ (fun _ => ?_))
set_option maxHeartbeats 8000000 in
set_option maxRecDepth 100000 in
theorem imprimaturref06_Texts.calls (k : Nat) (P0_ : Nat → Prop) (A0 : Option Addr) (c0 : Nat) (l0 : List (List Int)) (r : List (List Int)) (w : World) (hs0 : Kd.V (Kd.slice 5 (Kd.int .u8)) 22 w w.heap.size (fun k_ => P0_ k_) (.slice A0 l0.length c0) l0) (h : imprimaturref06_Texts.f k l0 = some r) :
  Calls Tryd.prog 32 #[.slice A0 l0.length c0] w fun e w' => ∃ v0_ : Value, e = .returned (v0_) ∧ Kd.N (Kd.slice 5 (Kd.int .u8)) 22 w' w.heap.size (fun k_ => (P0_ k_ ∨ w.heap.size ≤ k_)) v0_ r ∧ Below w.heap.size w w' := by
 have HO0 := aM (show Kd.V (Kd.slice 5 (Kd.int .u8)) 22 w w.heap.size (fun k_ => (P0_ k_ ∨ w.heap.size ≤ k_)) (.slice A0 l0.length c0) l0 from Kd.V_mono hs0 (fun k_ hk => .inl hk))
 have HB := aM (Below.refl w.heap.size w)
 have H : ((imprimaturref06_Top.f k l0).bind fun bt127 => ((imprimaturref06_RootText.f k (l0.length : Int) bt127.1).bind fun t133 => (if bt127.2.length < 5864062014805 then (some (bt127.2 ++ [t133])) else (none)))) = some r := h
 clear h
 replace H := Option.bind_eq_some_iff.mp H
 obtain ⟨⟨t127, t130⟩, A20, H⟩ := H
 replace H : ((imprimaturref06_RootText.f k (l0.length : Int) t127).bind fun t133 => (if t130.length < 5864062014805 then (some (t130 ++ [t133])) else (none))) = some r := H
 have A2 := aM A20
 clear A20
 replace H := Option.bind_eq_some_iff.mp H
 obtain ⟨t133, A30, H⟩ := H
 replace H : (if t130.length < 5864062014805 then (some (t130 ++ [t133])) else (none)) = some r := H
 have A3 := aM A30
 clear A30
 by_cases c4 : t130.length < 5864062014805
 rotate_left
 ·rw [if_neg c4] at H
  exact absurd H (by simp)

 rw [if_pos c4] at H
 have LMc4 := aM c4
 clear c4
 obtain ⟨y136, hy136⟩ : ∃ y_ : List (List Int), y_ = (t130 ++ [t133]) := ⟨_, rfl⟩
 replace H : (some y136) = some r := hyA hy136 H
 have Ny136 := aM hy136
 clear hy136
 obtain rfl := Option.some.inj H
 go_enter Tryd.func32, Tryd.ntmps32
 go_wp2_with (first | ((with_reducible refine gate_callee (f := 62) rfl ?_); refine goesL_ (some 7) rfl rfl Tryd.func62 (by kernel_rfl) rfl #[.slice A0 l0.length c0] rfl eqA ?_; (with_reducible refine (imprimaturref06_Top.calls k (fun k_ => (P0_ k_ ∨ w.heap.size ≤ k_)) _ _ l0 t127 t130 _ ?side1 A2.out).mono ?_); (case side1 => exact HO0.out); rintro e w5 ⟨v128, v131, rfl, ho0, ho1, hb⟩; refine ⟨_, rfl, ?_⟩; replace HO0 := aM (Kd.V_elder' (vL HO0.out) (Kd.N_base ho1) hb); have HO129 := aM (Kd.V_lower (Kd.V_mono (ok' := fun k_ => (P0_ k_ ∨ w.heap.size ≤ k_) ∧ some k_ ≠ (v131 : Value).ownBlock) ho0 (fun k_ hk_ => ⟨Or.elim hk_.1 (fun hs_ => hs_) (fun hn_ => (.inr (Nat.le_trans (below_size bel) hn_))), hk_.2⟩)) (below_size bel)); have HO132 := aM (Kd.N_lower (Kd.N_mono (ok' := fun k_ => (P0_ k_ ∨ w.heap.size ≤ k_)) ho1 (fun k_ hk_ => Or.elim hk_ (fun hs_ => hs_) (fun hn_ => (.inr (Nat.le_trans (below_size bel) hn_))))) (below_size bel)); replace HB := aM (below_step bel hb); clear hb ho0 ho1; obtain ⟨Ao6, co6, eo6⟩ := Kd.V_slice HO129.out; subst eo6) | ((with_reducible refine gate_callee (f := 51) rfl ?_); refine goesL_ (some 14) rfl rfl Tryd.func51 (by kernel_rfl) rfl #[.int .i64 (l0.length : Int), .slice Ao6 t127.length co6] rfl eqA ?_; (with_reducible refine (imprimaturref06_RootText.calls k (l0.length : Int) _ _ t127 t133 _ ?side1 ?side2 A3.out).mono ?_); (case side1 => exact cL (Kd.V_reads' HO129.out).2.2); (case side2 => exact (Kd.V_reads' HO129.out).2.1); rintro e w7 ⟨v134, rfl, ho0, hb⟩; refine ⟨_, rfl, ?_⟩; replace HO0 := aM (Kd.V_elder' (vL HO0.out) (Kd.R_base ho0) hb); replace HO129 := aM (Kd.V_elder' (vL HO129.out) (Kd.R_base ho0) hb); replace HO132 := aM (Kd.N_elder' (nL HO132.out) (Kd.R_base ho0) hb); have HO135 := aM (Kd.R_lower (Kd.R_newM (M := fun k_ => (w.heap.size ≤ k_)) ho0 (below_size bel) (fun k_ h_ => h_)) (below_size bel)); replace HB := aM (below_step bel hb); clear hb ho0; obtain ⟨Ao9, co9, eo9⟩ := Kd.R_slice HO135.out; subst eo9) | ((with_reducible refine gate_builtin (b := .append) (xs := #[.tmp 10, .tmp 15]) rfl ?_); at_builtin; refine Kd.N_append (Kd.slice 5 (Kd.int .u8)) (w0 := w) w.heap.size rfl (.tmp 10) (.tmp 15) 23 22 (.slice none 0 0) 24 rfl Tryd.underlying23 info22 rfl (by decide) (by omega) v131 t130 t133 [.slice Ao9 t133.length co9] (fun k_ => (P0_ k_ ∨ w.heap.size ≤ k_)) (fun k_ => ((fun k_ => (P0_ k_ ∨ w.heap.size ≤ k_))) k_ ∧ some k_ ≠ (v131 : Value).ownBlock) rfl rfl ?aP (fun _ hk => hk) ?aF ?aO ?aB ?aS ?aL ?_; (case aP => exact (Kd.FK_slice_mk (Kd.R_reads' (Kd.R_mono (ok' := (fun k_ => ((fun k_ => (P0_ k_ ∨ w.heap.size ≤ k_))) k_ ∧ some k_ ≠ (v131 : Value).ownBlock)) (Kd.R_apart' (HO135.out) (Kd.N_typed HO132.out) (by decide)) (fun k_ hk => ⟨(.inr (hk.1.1)), hk.2⟩))).2.1 (Kd.R_F (Kd.R_mono (ok' := (fun k_ => ((fun k_ => (P0_ k_ ∨ w.heap.size ≤ k_))) k_ ∧ some k_ ≠ (v131 : Value).ownBlock)) (Kd.R_apart' (HO135.out) (Kd.N_typed HO132.out) (by decide)) (fun k_ hk => ⟨(.inr (hk.1.1)), hk.2⟩))))); (case aB => exact bel); (case aF => exact (fun k_ hk => (.inr (Nat.le_trans (below_size bel) hk)))); (case aO => exact (by (with_reducible repeat (first | apply Kd.N_alloc | apply Kd.N_drewN | apply Kd.N_drew)); exact Kd.N_mono HO132.out (fun _ hk => hk.1))); (case aS => exact (below_size bel)); (case aL => have := LMc4.out; omega); intro v137 w8 ho hb hg hat; rw [← Ny136.out] at ho; replace HO0 := aM (Kd.V_afterv (ok := (fun k_ => (P0_ k_ ∨ w.heap.size ≤ k_) ∧ some k_ ≠ (.slice Ao9 t133.length co9 : Value).ownBlock)) (by (with_reducible repeat (first | apply Kd.V_alloc | apply Kd.V_drewN | apply Kd.V_drew)); exact Kd.V_mono HO0.out (fun _ hk => ⟨⟨hk.1.1, hk.2⟩, hk.1.2⟩)) hg hat); replace HO129 := aM (Kd.V_afterv (ok := (fun k_ => (P0_ k_ ∨ w.heap.size ≤ k_) ∧ some k_ ≠ (.slice Ao9 t133.length co9 : Value).ownBlock)) (by (with_reducible repeat (first | apply Kd.V_alloc | apply Kd.V_drewN | apply Kd.V_drew)); exact Kd.V_mono HO129.out (fun _ hk => ⟨⟨hk.1.1, hk.2⟩, hk.1.2⟩)) hg hat); replace HB := aM (hb); have HO138 := aM (ho); clear HO132 HO135; clear ho hb hg hat))
 go_ret
 exact ⟨_, erR, by (with_reducible repeat (first | apply Kd.N_alloc | apply Kd.N_drewN | apply Kd.N_drew)); exact HO138.out, bel⟩
end Go.Proofs.YtdpdmmbdoeefbaaDoor.PRd
