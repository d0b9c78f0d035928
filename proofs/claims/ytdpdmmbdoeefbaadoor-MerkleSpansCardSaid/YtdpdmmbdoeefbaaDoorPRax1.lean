-- Written by a program of this session, after the print of the kit.
import Derived.Test.YtdpdmmbdoeefbaaDoorWC
import Derived.Test.YtdpdmmbdoeefbaaDoorPRax0
namespace Go.Proofs.YtdpdmmbdoeefbaaDoor.PRa
open Go.RowKit X PCut PCa PCs PCo PCr YtdpdmmbdoeefbaaDoorW.PrintWords YtdpdmmbdoeefbaaDoorW.PrintLast YtdpdmmbdoeefbaaDoorW.PrintMore
attribute [local go_sem] max2_int min2_int max_two min_two max_three min_three max_four min_four   -- for this text's walks alone
set_option linter.unusedVariables false
set_option linter.unusedSimpArgs false

/-! ### imprimaturref06_join: function 74 -/
def imprimaturref06_join.f (l0 : List Int) (l1 : List Int) (l2 : List Int) : Option (List Int) := if ([] : List Int).length + l0.length < 140737488355328 then ((some (([] : List Int) ++ l0 : List Int)).bind fun y101 => (if y101.length + l1.length < 140737488355328 then ((some (y101 ++ l1 : List Int)).bind fun y104 => (if y104.length + l2.length < 140737488355328 then (some (y104 ++ l2)) else (none))) else (none))) else (none)
set_option maxHeartbeats 8000000 in
set_option maxRecDepth 100000 in
theorem imprimaturref06_join.calls (A0 : Option Addr) (c0 : Nat) (l0 : List Int) (A1 : Option Addr) (c1 : Nat) (l1 : List Int) (A2 : Option Addr) (c2 : Nat) (l2 : List Int) (r : List Int) (w : World) (hr0 : Kd.C (Kd.int .u8) w A0 l0.length l0) (hc0 : l0.length ≤ c0) (hr1 : Kd.C (Kd.int .u8) w A1 l1.length l1) (hc1 : l1.length ≤ c1) (hr2 : Kd.C (Kd.int .u8) w A2 l2.length l2) (hc2 : l2.length ≤ c2) (h : imprimaturref06_join.f l0 l1 l2 = some r) :
  Calls Tryd.prog 74 #[.slice A0 l0.length c0, .slice A1 l1.length c1, .slice A2 l2.length c2] w fun e w' => ∃ v0_ : Value, e = .returned (v0_) ∧ Kd.R (Kd.int .u8) 5 w' w.heap.size (fun _ => True) v0_ r ∧ Below w.heap.size w w' := by
 have HR0 := aM hr0
 have HC0 := aM hc0
 clear hr0 hc0
 have HR1 := aM hr1
 have HC1 := aM hc1
 clear hr1 hc1
 have HR2 := aM hr2
 have HC2 := aM hc2
 clear hr2 hc2
 have HB := aM (Below.refl w.heap.size w)
 have H : (if ([] : List Int).length + l0.length < 140737488355328 then ((some (([] : List Int) ++ l0 : List Int)).bind fun y101 => (if y101.length + l1.length < 140737488355328 then ((some (y101 ++ l1 : List Int)).bind fun y104 => (if y104.length + l2.length < 140737488355328 then (some (y104 ++ l2)) else (none))) else (none))) else (none)) = some r := h
 clear h
 by_cases c4 : ([] : List Int).length + l0.length < 140737488355328
 rotate_left
 ·rw [if_neg c4] at H
  exact absurd H (by simp)

 rw [if_pos c4] at H
 have LMc4 := aM c4
 clear c4
 obtain ⟨y101, hy101⟩ : ∃ y_ : List Int, y_ = (([] : List Int) ++ l0) := ⟨_, rfl⟩
 replace H : (if y101.length + l1.length < 140737488355328 then ((some (y101 ++ l1 : List Int)).bind fun y104 => (if y104.length + l2.length < 140737488355328 then (some (y104 ++ l2)) else (none))) else (none)) = some r := hyA hy101 H
 have Ny101 := aM hy101
 clear hy101
 by_cases c5 : y101.length + l1.length < 140737488355328
 rotate_left
 ·rw [if_neg c5] at H
  exact absurd H (by simp)
 rw [if_pos c5] at H
 have LMc5 := aM c5
 clear c5
 obtain ⟨y104, hy104⟩ : ∃ y_ : List Int, y_ = (y101 ++ l1) := ⟨_, rfl⟩
 replace H : (if y104.length + l2.length < 140737488355328 then (some (y104 ++ l2)) else (none)) = some r := hyA hy104 H
 have Ny104 := aM hy104
 clear hy104
 by_cases c6 : y104.length + l2.length < 140737488355328
 rotate_left
 ·rw [if_neg c6] at H
  exact absurd H (by simp)
 rw [if_pos c6] at H
 have LMc6 := aM c6
 clear c6
 obtain ⟨y107, hy107⟩ : ∃ y_ : List Int, y_ = (y104 ++ l2) := ⟨_, rfl⟩
 replace H : (some y107) = some r := hyA hy107 H
 have Ny107 := aM hy107
 clear hy107
 obtain rfl := Option.some.inj H
 go_enter Tryd.func74, Tryd.ntmps74
 go_wp2_with (first | ((with_reducible refine gate_builtin (b := .append) (xs := #[.tmp 8, .tmp 9]) rfl ?_); at_builtin; refine Kd.R_append_rows (Kd.int .u8) (w0 := w) w.heap.size rfl (.tmp 8) (.tmp 9) 22 5 (.int .u8 0) 1 rfl Tryd.underlying22 info5 rfl (by decide) (by omega) (.slice none 0 0) ([] : List Int) l0 _ _ _ (fun _ => True) (fun _ => False) rfl rfl ?aO ?aR (fun _ _ h => h) (fun _ h => h.elim) ?aF ?aB ?aS ?aL ?_; (case aR => repeat (first | exact HR0.out | (with_reducible refine Kd.C_alloc ?_ _) | (with_reducible refine Kd.C_drewN ?_ _) | (with_reducible refine Kd.C_drew ?_))); (case aB => exact bel); (case aF => exact (fun _ _ => trivial)); (case aO => exact ((Kd.R_nil _ _ _ _ (fun _ => True)))); (case aS => exact (below_size bel)); (case aL => have := LMc4.out; omega); intro v102 w7 ho hb hg hat; rw [← Ny101.out] at ho; replace HB := aM (hb); have HO103 := aM (ho); clear ho hb hg hat) | ((with_reducible refine gate_builtin (b := .append) (xs := #[.tmp 10, .tmp 11]) rfl ?_); at_builtin; refine Kd.R_append_rows (Kd.int .u8) (w0 := w) w.heap.size rfl (.tmp 10) (.tmp 11) 22 5 (.int .u8 0) 1 rfl Tryd.underlying22 info5 rfl (by decide) (by omega) v102 y101 l1 _ _ _ (fun _ => True) (fun _ => False) rfl rfl ?aO ?aR (fun _ _ h => h) (fun _ h => h.elim) ?aF ?aB ?aS ?aL ?_; (case aR => repeat (first | exact (Kd.C_below HR1.out HB.out) | (with_reducible refine Kd.C_alloc ?_ _) | (with_reducible refine Kd.C_drewN ?_ _) | (with_reducible refine Kd.C_drew ?_))); (case aB => exact bel); (case aF => exact (fun _ _ => trivial)); (case aO => exact (rL HO103.out)); (case aS => exact (below_size bel)); (case aL => have := LMc5.out; omega); intro v105 w8 ho hb hg hat; rw [← Ny104.out] at ho; replace HB := aM (hb); have HO106 := aM (ho); clear HO103; clear ho hb hg hat) | ((with_reducible refine gate_builtin (b := .append) (xs := #[.tmp 12, .tmp 13]) rfl ?_); at_builtin; refine Kd.R_append_rows (Kd.int .u8) (w0 := w) w.heap.size rfl (.tmp 12) (.tmp 13) 22 5 (.int .u8 0) 1 rfl Tryd.underlying22 info5 rfl (by decide) (by omega) v105 y104 l2 _ _ _ (fun _ => True) (fun _ => False) rfl rfl ?aO ?aR (fun _ _ h => h) (fun _ h => h.elim) ?aF ?aB ?aS ?aL ?_; (case aR => repeat (first | exact (Kd.C_below HR2.out HB.out) | (with_reducible refine Kd.C_alloc ?_ _) | (with_reducible refine Kd.C_drewN ?_ _) | (with_reducible refine Kd.C_drew ?_))); (case aB => exact bel); (case aF => exact (fun _ _ => trivial)); (case aO => exact (rL HO106.out)); (case aS => exact (below_size bel)); (case aL => have := LMc6.out; omega); intro v108 w9 ho hb hg hat; rw [← Ny107.out] at ho; replace HB := aM (hb); have HO109 := aM (ho); clear HO106; clear ho hb hg hat))
 go_ret
 exact ⟨_, erR, by (with_reducible repeat (first | apply Kd.R_alloc | apply Kd.R_drewN | apply Kd.R_drew)); exact HO109.out, bel⟩
/-! ### imprimaturref06_RootText: function 51 -/
def imprimaturref06_RootText.f (k : Nat) (a0 : Int) (l1 : List Int) : Option (List Int) := (imprimaturref06_Eight.f k a0).bind fun t113 => ((imprimaturref06_join.f (([2] : List Int)) t113 l1).bind fun t116 => (some t116))
theorem imprimaturref06_RootText.mono : ∀ a0 a1 k, LeO (imprimaturref06_RootText.f k a0 a1) (imprimaturref06_RootText.f (k + 1) a0 a1) := by
 intro a0 a1 k
 unfold imprimaturref06_RootText.f
 repeat' first
   | (with_reducible exact imprimaturref06_Eight.mono _ _)
   | (with_reducible exact LeO.refl _)
   | (with_reducible exact LeO.none _)
   | (with_reducible refine LeO.ite ?_ ?_)
   | (with_reducible refine LeO.bind ?_ (fun _ => ?_))
set_option maxHeartbeats 8000000 in
set_option maxRecDepth 100000 in
theorem imprimaturref06_RootText.calls (k : Nat) (a0 : Int) (A1 : Option Addr) (c1 : Nat) (l1 : List Int) (r : List Int) (w : World) (hr1 : Kd.C (Kd.int .u8) w A1 l1.length l1) (hc1 : l1.length ≤ c1) (h : imprimaturref06_RootText.f k a0 l1 = some r) :
  Calls Tryd.prog 51 #[.int .i64 a0, .slice A1 l1.length c1] w fun e w' => ∃ v0_ : Value, e = .returned (v0_) ∧ Kd.R (Kd.int .u8) 5 w' w.heap.size (fun _ => True) v0_ r ∧ Below w.heap.size w w' := by
 have HR1 := aM hr1
 have HC1 := aM hc1
 clear hr1 hc1
 have HB := aM (Below.refl w.heap.size w)
 have H : ((imprimaturref06_Eight.f k a0).bind fun t113 => ((imprimaturref06_join.f (([2] : List Int)) t113 l1).bind fun t116 => (some t116))) = some r := h
 clear h
 obtain ⟨y110, hy110⟩ : ∃ y_ : List Int, y_ = (([2] : List Int)) := ⟨_, rfl⟩
 replace H : ((imprimaturref06_Eight.f k a0).bind fun t113 => ((imprimaturref06_join.f y110 t113 l1).bind fun t116 => (some t116))) = some r := hyA hy110 H
 have Ny110 := aM hy110
 clear hy110
 replace H := Option.bind_eq_some_iff.mp H
 obtain ⟨t113, A30, H⟩ := H
 replace H : ((imprimaturref06_join.f y110 t113 l1).bind fun t116 => (some t116)) = some r := H
 have A3 := aM A30
 clear A30
 replace H := Option.bind_eq_some_iff.mp H
 obtain ⟨t116, A40, H⟩ := H
 replace H : (some t116) = some r := H
 have A4 := aM A40
 clear A40
 obtain rfl := Option.some.inj H
 go_enter Tryd.func51, Tryd.ntmps51
 go_wp2_with (first | ((with_reducible refine gate_dst (N := 5) rfl ?_); refine Kd.R_lit (Kd.int .u8) _ 5 ?hg (N := 5) ?hd (xs := ([2] : List Int)) (inner := [.int .u8 2]) (ok := fun _ => True) (okp := fun _ => True) ?hr ?hp (fun _ hk => hk) trivial (Below.refl _ _) (Nat.le_refl _) (by simp) ?_; (case hd => rfl); (case hg => rfl); (case hr => first | (go_simp; done) | (go_simp; rfl)); (case hp => exact (Reps.one (show Kd.M (Kd.int .u8) _ _ _ 2 [.int .u8 2] from rfl) (Reps.none _ _))); intro v111 w5 ho6 hb hg_ hnew_; clear hg_ hnew_; (first | rw [← Ny110.out] at ho6 | (simp only [Int.reduceToNat] at ho6; rw [← Ny110.out] at ho6)); have HO112 := aM (Kd.R_lower ho6 (below_size bel)); replace HB := aM (below_step bel hb); clear hb ho6) | ((with_reducible refine gate_callee (f := 75) rfl ?_); refine goesL_ (some 7) rfl rfl Tryd.func75 (by kernel_rfl) rfl #[.int .i64 a0] rfl eqA ?_; (with_reducible refine (imprimaturref06_Eight.calls k a0 t113 _ A3.out).mono ?_); rintro e w7 ⟨v114, rfl, ho0, hb⟩; refine ⟨_, rfl, ?_⟩; have HO115 := aM (Kd.R_lower (Kd.R_new' ho0 (Kd.R_lt (rL HO112.out))) (below_size bel)); replace HO112 := aM (Kd.R_elder' (rL HO112.out) (Kd.R_base ho0) hb); replace HB := aM (below_step bel hb); clear hb ho0; obtain ⟨Ao8, co8, eo8⟩ := Kd.R_slice HO112.out; subst eo8; obtain ⟨Ao9, co9, eo9⟩ := Kd.R_slice HO115.out; subst eo9) | ((with_reducible refine gate_callee (f := 74) rfl ?_); refine goesL_ (some 9) rfl rfl Tryd.func74 (by kernel_rfl) rfl #[.slice Ao8 y110.length co8, .slice Ao9 t113.length co9, .slice A1 l1.length c1] rfl eqA ?_; (with_reducible refine (imprimaturref06_join.calls _ _ y110 _ _ t113 _ _ l1 t116 _ ?side1 ?side2 ?side3 ?side4 ?side5 ?side6 A4.out).mono ?_); (case side1 => exact cL (Kd.R_reads' HO112.out).2.2); (case side2 => exact (Kd.R_reads' HO112.out).2.1); (case side3 => exact cL (Kd.R_reads' HO115.out).2.2); (case side4 => exact (Kd.R_reads' HO115.out).2.1); (case side5 => exact cL (Kd.C_below HR1.out HB.out)); (case side6 => exact HC1.out); rintro e w10 ⟨v117, rfl, ho0, hb⟩; refine ⟨_, rfl, ?_⟩; have HO118 := aM (Kd.R_lower (Kd.R_new' (Kd.R_new' ho0 (Kd.R_lt (rL HO112.out))) (Kd.R_lt (rL HO115.out))) (below_size bel)); replace HO112 := aM (Kd.R_elder' (rL HO112.out) (Kd.R_base ho0) hb); replace HO115 := aM (Kd.R_elder' (rL HO115.out) (Kd.R_base ho0) hb); replace HB := aM (below_step bel hb); clear hb ho0))
 go_ret
 exact ⟨_, erR, by (with_reducible repeat (first | apply Kd.R_alloc | apply Kd.R_drewN | apply Kd.R_drew)); exact Kd.R_mono HO118.out (fun _ hk => trivial), bel⟩

/-! ### imprimaturref06_NodeText: function 73 -/
def imprimaturref06_NodeText.f (l0 : List Int) (l1 : List Int) : Option (List Int) := (imprimaturref06_join.f (([1] : List Int)) l0 l1).bind fun t122 => (some t122)
set_option maxHeartbeats 8000000 in
set_option maxRecDepth 100000 in
theorem imprimaturref06_NodeText.calls (A0 : Option Addr) (c0 : Nat) (l0 : List Int) (A1 : Option Addr) (c1 : Nat) (l1 : List Int) (r : List Int) (w : World) (hr0 : Kd.C (Kd.int .u8) w A0 l0.length l0) (hc0 : l0.length ≤ c0) (hr1 : Kd.C (Kd.int .u8) w A1 l1.length l1) (hc1 : l1.length ≤ c1) (h : imprimaturref06_NodeText.f l0 l1 = some r) :
  Calls Tryd.prog 73 #[.slice A0 l0.length c0, .slice A1 l1.length c1] w fun e w' => ∃ v0_ : Value, e = .returned (v0_) ∧ Kd.R (Kd.int .u8) 5 w' w.heap.size (fun _ => True) v0_ r ∧ Below w.heap.size w w' := by
 have HR0 := aM hr0
 have HC0 := aM hc0
 clear hr0 hc0
 have HR1 := aM hr1
 have HC1 := aM hc1
 clear hr1 hc1
 have HB := aM (Below.refl w.heap.size w)
 have H : ((imprimaturref06_join.f (([1] : List Int)) l0 l1).bind fun t122 => (some t122)) = some r := h
 clear h
 obtain ⟨y119, hy119⟩ : ∃ y_ : List Int, y_ = (([1] : List Int)) := ⟨_, rfl⟩
 replace H : ((imprimaturref06_join.f y119 l0 l1).bind fun t122 => (some t122)) = some r := hyA hy119 H
 have Ny119 := aM hy119
 clear hy119
 replace H := Option.bind_eq_some_iff.mp H
 obtain ⟨t122, A30, H⟩ := H
 replace H : (some t122) = some r := H
 have A3 := aM A30
 clear A30
 obtain rfl := Option.some.inj H
 go_enter Tryd.func73, Tryd.ntmps73
 go_wp2_with (first | ((with_reducible refine gate_dst (N := 5) rfl ?_); refine Kd.R_lit (Kd.int .u8) _ 5 ?hg (N := 5) ?hd (xs := ([1] : List Int)) (inner := [.int .u8 1]) (ok := fun _ => True) (okp := fun _ => True) ?hr ?hp (fun _ hk => hk) trivial (Below.refl _ _) (Nat.le_refl _) (by simp) ?_; (case hd => rfl); (case hg => rfl); (case hr => first | (go_simp; done) | (go_simp; rfl)); (case hp => exact (Reps.one (show Kd.M (Kd.int .u8) _ _ _ 1 [.int .u8 1] from rfl) (Reps.none _ _))); intro v120 w4 ho5 hb hg_ hnew_; clear hg_ hnew_; (first | rw [← Ny119.out] at ho5 | (simp only [Int.reduceToNat] at ho5; rw [← Ny119.out] at ho5)); have HO121 := aM (Kd.R_lower ho5 (below_size bel)); replace HB := aM (below_step bel hb); clear hb ho5; obtain ⟨Ao6, co6, eo6⟩ := Kd.R_slice HO121.out; subst eo6) | ((with_reducible refine gate_callee (f := 74) rfl ?_); refine goesL_ (some 8) rfl rfl Tryd.func74 (by kernel_rfl) rfl #[.slice Ao6 y119.length co6, .slice A0 l0.length c0, .slice A1 l1.length c1] rfl eqA ?_; (with_reducible refine (imprimaturref06_join.calls _ _ y119 _ _ l0 _ _ l1 t122 _ ?side1 ?side2 ?side3 ?side4 ?side5 ?side6 A3.out).mono ?_); (case side1 => exact cL (Kd.R_reads' HO121.out).2.2); (case side2 => exact (Kd.R_reads' HO121.out).2.1); (case side3 => exact cL (Kd.C_below HR0.out HB.out)); (case side4 => exact HC0.out); (case side5 => exact cL (Kd.C_below HR1.out HB.out)); (case side6 => exact HC1.out); rintro e w7 ⟨v123, rfl, ho0, hb⟩; refine ⟨_, rfl, ?_⟩; have HO124 := aM (Kd.R_lower (Kd.R_new' ho0 (Kd.R_lt (rL HO121.out))) (below_size bel)); replace HO121 := aM (Kd.R_elder' (rL HO121.out) (Kd.R_base ho0) hb); replace HB := aM (below_step bel hb); clear hb ho0))
 go_ret
 exact ⟨_, erR, by (with_reducible repeat (first | apply Kd.R_alloc | apply Kd.R_drewN | apply Kd.R_drew)); exact Kd.R_mono HO124.out (fun _ hk => trivial), bel⟩

/-! ### imprimaturref06_Top: function 62 -/
def imprimaturref06_Top.f : Nat → List (List Int) → Option (List Int × (List (List Int)))
 | 0, _ => none
 | k + 1, l0 => if (l0.length : Int) = 0 then (some (([] : List Int), ([] : List (List Int)))) else (if (l0.length : Int) = 1 then (if 0 < (l0.length : Int) then (some (rd_L1 l0 0, ([] : List (List Int)))) else (none)) else ((imprimaturref06_Half.f k (l0.length : Int)).bind fun t126 => (if 0 ≤ t126 then (if t126 ≤ (l0.length : Int) then ((imprimaturref06_Top.f k (l0.take (t126 : Int).toNat)).bind fun bt132 => ((imprimaturref06_Top.f k (l0.drop (t126 : Int).toNat)).bind fun bt143 => ((imprimaturref06_NodeText.f bt132.1 bt143.1).bind fun t149 => (if ([] : List (List Int)).length + bt132.2.length < 5864062014805 then ((some (([] : List (List Int)) ++ bt132.2 : List (List Int))).bind fun y152 => (if y152.length + bt143.2.length < 5864062014805 then ((some (y152 ++ bt143.2 : List (List Int))).bind fun y155 => (if y155.length < 5864062014805 then ((imprimaturref02_Hash256.f t149).bind fun t161 => (some (t161, (y155 ++ [t149])))) else (none))) else (none))) else (none))))) else (none)) else (none))))
theorem imprimaturref06_Top.mono_l : ∀ k, (∀ y0, LeO (imprimaturref06_Top.f k y0) (imprimaturref06_Top.f (k + 1) y0))
 | 0 => fun _ r h => by simp [imprimaturref06_Top.f] at h
 | k + 1 => by
  have ih0 := imprimaturref06_Top.mono_l k
  intro y0
  unfold imprimaturref06_Top.f
  repeat' first
  | (with_reducible exact ih0 _)
  | (with_reducible exact imprimaturref06_Half.mono _ _)
  | (with_reducible exact LeO.refl _)
  | (with_reducible exact LeO.none _)
  | (with_reducible refine LeO.ite ?_ ?_)
  | (with_reducible refine LeO.bind ?_ (fun _ => ?_))
theorem imprimaturref06_Top.mono : ∀ a0 k, LeO (imprimaturref06_Top.f k a0) (imprimaturref06_Top.f (k + 1) a0) := by
 intro a0 k
 have ih0 := imprimaturref06_Top.mono_l k
 exact ih0 a0
set_option maxHeartbeats 8000000 in
set_option maxRecDepth 100000 in
theorem imprimaturref06_Top.calls (k : Nat) : ∀ (P0_ : Nat → Prop) (A0 : Option Addr) (c0 : Nat) (l0 : List (List Int)) (r1 : List Int) (r2 : List (List Int)) (w : World) (hs0 : Kd.V (Kd.slice 5 (Kd.int .u8)) 22 w w.heap.size (fun k_ => P0_ k_) (.slice A0 l0.length c0) l0) (h : imprimaturref06_Top.f k l0 = some (r1, r2)),
  Calls Tryd.prog 62 #[.slice A0 l0.length c0] w fun e w' => ∃ v0_ v1_ : Value, e = .returned (.tuple #[v0_, v1_]) ∧ Kd.V (Kd.int .u8) 5 w' w.heap.size (fun k_ => (P0_ k_ ∨ w.heap.size ≤ k_) ∧ some k_ ≠ (v1_ : Value).ownBlock) v0_ r1 ∧ Kd.N (Kd.slice 5 (Kd.int .u8)) 22 w' w.heap.size (fun k_ => (P0_ k_ ∨ w.heap.size ≤ k_)) v1_ r2 ∧ Below w.heap.size w w' := by
 induction k using Nat.strongRecOn with
 | _ k ih =>
 intro P0_ A0 c0 l0 r1 r2 w hs0 h
 cases k with
 | zero => exact absurd h (by simp [imprimaturref06_Top.f])
 | succ k =>
 simp only [imprimaturref06_Top.f] at h
 have HO0 := aM (show Kd.V (Kd.slice 5 (Kd.int .u8)) 22 w w.heap.size (fun k_ => (P0_ k_ ∨ w.heap.size ≤ k_)) (.slice A0 l0.length c0) l0 from Kd.V_mono hs0 (fun k_ hk => .inl hk))
 have HB := aM (Below.refl w.heap.size w)
 have H : (if (l0.length : Int) = 0 then (some (([] : List Int), ([] : List (List Int)))) else (if (l0.length : Int) = 1 then (if 0 < (l0.length : Int) then (some (rd_L1 l0 0, ([] : List (List Int)))) else (none)) else ((imprimaturref06_Half.f k (l0.length : Int)).bind fun t126 => (if 0 ≤ t126 then (if t126 ≤ (l0.length : Int) then ((imprimaturref06_Top.f k (l0.take (t126 : Int).toNat)).bind fun bt132 => ((imprimaturref06_Top.f k (l0.drop (t126 : Int).toNat)).bind fun bt143 => ((imprimaturref06_NodeText.f bt132.1 bt143.1).bind fun t149 => (if ([] : List (List Int)).length + bt132.2.length < 5864062014805 then ((some (([] : List (List Int)) ++ bt132.2 : List (List Int))).bind fun y152 => (if y152.length + bt143.2.length < 5864062014805 then ((some (y152 ++ bt143.2 : List (List Int))).bind fun y155 => (if y155.length < 5864062014805 then ((imprimaturref02_Hash256.f t149).bind fun t161 => (some (t161, (y155 ++ [t149])))) else (none))) else (none))) else (none))))) else (none)) else (none))))) = some (r1, r2) := h
 clear h
 by_cases c2 : (l0.length : Int) = 0
 ·rw [if_pos c2] at H
  have c2b0 : ((l0.length : Int) == 0) = true := beq_iff_eq.mpr c2
  have c2b1 : ((l0.length : Int) != 0) = false := bne_eq_false_iff_eq.mpr c2
  clear c2
  simp only [Option.some.injEq, Prod.mk.injEq] at H
  obtain ⟨rfl, rfl⟩ := H
  go_enter Tryd.func62, Tryd.ntmps62
  go_wp2
  go_ret2
  exact ⟨_, _, erR, Kd.V_nil _ _ _ _ _, by first | exact Kd.S_nil _ _ _ _ _ | exact Kd.N_nil _ _ _ _ _ | exact Kd.V_nil _ _ _ _ _ | exact Kd.Q_nil _ _ _ _ _ | exact Kd.R_nil _ _ _ _ _, bel⟩
 rw [if_neg c2] at H
 have c2b0 : ((l0.length : Int) == 0) = false := beq_eq_false_iff_ne.mpr c2
 have c2b1 : ((l0.length : Int) != 0) = true := bne_iff_ne.mpr c2
 have c2b2 : ¬ (l0 = []) := fun h_ => c2 (by rw [h_]; rfl)
 by_cases c3 : (l0.length : Int) = 1
 ·rw [if_pos c3] at H
  have c3b0 : ((l0.length : Int) == 1) = true := beq_iff_eq.mpr c3
  have c3b1 : ((l0.length : Int) != 1) = false := bne_eq_false_iff_eq.mpr c3
  clear c3
  by_cases c4 : 0 < (l0.length : Int)
  rotate_left
  ·rw [if_neg c4] at H
   exact absurd H (by simp)
  rw [if_pos c4] at H
  have c4b0 : decide (0 < (l0.length : Int)) = true := decide_eq_true c4
  have c4b1 : decide (0 < l0.length) = true := decide_eq_true (by omega)
  clear c4
  simp only [Option.some.injEq, Prod.mk.injEq] at H
  obtain ⟨rfl, rfl⟩ := H
  have p125 : 0 ≤ (0 : Int) := (by omega)
  have q125 : 0 < (l0.length : Int) := of_decide_eq_true asm_
  obtain ⟨ad125, A125_0, c125_0, e125, hx125_0, hl125_0, hi125_0⟩ := at_L1 (Kd.V_reads' HO0.out).2.2 0 p125 q125
  cases e125
  obtain ⟨ce125, hce125, hMe125, hcc125⟩ := Kd.V_get HO0.out [] 0 p125 (by first | exact q125 | exact of_decide_eq_true asm_ | (have e_ := (Kd.V_reads' HO0.out).1; omega))
  obtain ⟨ua125_0, uc125_0, rfl, ul125_0, ge125_0⟩ := Kd.FK_slice_open hMe125
  have hv125_0 := hcc125 0 _ rfl
  rw [Nat.add_zero, show ((Kd.slice 5 (Kd.int .u8))).sz = 1 from rfl, Nat.mul_one] at hv125_0
  replace hv125_0 := Option.some.inj (hv125_0.symm.trans hx125_0)
  injection hv125_0 with hva_ hvn_ hvc_
  rw [hva_] at ge125_0
  rw [hvc_] at ul125_0
  have HL125_0 := aM (show Kd.V (Kd.int .u8) 5 _ w.heap.size _ _ (rd_L1 l0 0) from Kd.V_mk ul125_0 ge125_0)
  clear hva_ hvn_ hvc_ ge125_0 ul125_0
  clear hcc125 hce125
  have qi125 : (0 < l0.length) = True := eq_true (by omega)
  (try rw [show ((0 : Int)).toNat = 0 from rfl] at hx125_0)
  (try rw [Addr.add_zero'] at hx125_0)
  have HR125_0 := aM hi125_0
  have HC125_0 := aM hl125_0
  clear hi125_0 hl125_0
  replace p125 := eq_true p125
  replace q125 := eq_true q125
  go_enter Tryd.func62, Tryd.ntmps62
  go_wp2
  go_ret2
  exact ⟨_, _, erR, by (with_reducible repeat (first | apply Kd.V_alloc | apply Kd.V_drewN | apply Kd.V_drew)); exact Kd.V_mono HL125_0.out (fun _ hk => ⟨hk, (by simp [Value.ownBlock])⟩), by first | exact Kd.S_nil _ _ _ _ _ | exact Kd.N_nil _ _ _ _ _ | exact Kd.V_nil _ _ _ _ _ | exact Kd.Q_nil _ _ _ _ _ | exact Kd.R_nil _ _ _ _ _, bel⟩
 rw [if_neg c3] at H
 have c3b0 : ((l0.length : Int) == 1) = false := beq_eq_false_iff_ne.mpr c3
 have c3b1 : ((l0.length : Int) != 1) = true := bne_iff_ne.mpr c3
 replace H := Option.bind_eq_some_iff.mp H
 obtain ⟨t126, A50, H⟩ := H
 replace H : (if 0 ≤ t126 then (if t126 ≤ (l0.length : Int) then ((imprimaturref06_Top.f k (l0.take (t126 : Int).toNat)).bind fun bt132 => ((imprimaturref06_Top.f k (l0.drop (t126 : Int).toNat)).bind fun bt143 => ((imprimaturref06_NodeText.f bt132.1 bt143.1).bind fun t149 => (if ([] : List (List Int)).length + bt132.2.length < 5864062014805 then ((some (([] : List (List Int)) ++ bt132.2 : List (List Int))).bind fun y152 => (if y152.length + bt143.2.length < 5864062014805 then ((some (y152 ++ bt143.2 : List (List Int))).bind fun y155 => (if y155.length < 5864062014805 then ((imprimaturref02_Hash256.f t149).bind fun t161 => (some (t161, (y155 ++ [t149])))) else (none))) else (none))) else (none))))) else (none)) else (none)) = some (r1, r2) := H
 have A5 := aM A50
 clear A50
 by_cases c6 : 0 ≤ t126
 rotate_left
 ·rw [if_neg c6] at H
  exact absurd H (by simp)

 rw [if_pos c6] at H
 have c6b0 := eq_true c6
 have c6b1 : decide (0 ≤ t126) = true := decide_eq_true c6
 clear c6
 by_cases c7 : t126 ≤ (l0.length : Int)
 rotate_left
 ·rw [if_neg c7] at H
  exact absurd H (by simp)
 rw [if_pos c7] at H
 have c7b0 := eq_true c7
 have c7b1 : decide (t126 ≤ (l0.length : Int)) = true := decide_eq_true c7
 clear c7
 obtain ⟨y127, hy127⟩ : ∃ y_ : List (List Int), y_ = (l0.take (t126 : Int).toNat) := ⟨_, rfl⟩
 replace H : ((imprimaturref06_Top.f k y127).bind fun bt132 => ((imprimaturref06_Top.f k (l0.drop (t126 : Int).toNat)).bind fun bt143 => ((imprimaturref06_NodeText.f bt132.1 bt143.1).bind fun t149 => (if ([] : List (List Int)).length + bt132.2.length < 5864062014805 then ((some (([] : List (List Int)) ++ bt132.2 : List (List Int))).bind fun y152 => (if y152.length + bt143.2.length < 5864062014805 then ((some (y152 ++ bt143.2 : List (List Int))).bind fun y155 => (if y155.length < 5864062014805 then ((imprimaturref02_Hash256.f t149).bind fun t161 => (some (t161, (y155 ++ [t149])))) else (none))) else (none))) else (none))))) = some (r1, r2) := hyA hy127 H
 have Ny127 := aM hy127
 clear hy127
 replace H := Option.bind_eq_some_iff.mp H
 obtain ⟨⟨t132, t135⟩, A80, H⟩ := H
 replace H : ((imprimaturref06_Top.f k (l0.drop (t126 : Int).toNat)).bind fun bt143 => ((imprimaturref06_NodeText.f t132 bt143.1).bind fun t149 => (if ([] : List (List Int)).length + t135.length < 5864062014805 then ((some (([] : List (List Int)) ++ t135 : List (List Int))).bind fun y152 => (if y152.length + bt143.2.length < 5864062014805 then ((some (y152 ++ bt143.2 : List (List Int))).bind fun y155 => (if y155.length < 5864062014805 then ((imprimaturref02_Hash256.f t149).bind fun t161 => (some (t161, (y155 ++ [t149])))) else (none))) else (none))) else (none)))) = some (r1, r2) := H
 have A8 := aM A80
 clear A80
 have c9b0 := eq_true (of_decide_eq_true asm_ : 0 ≤ t126)
 have c10b0 := eq_true (of_decide_eq_true asm_ : t126 ≤ (l0.length : Int))
 obtain ⟨y138, hy138⟩ : ∃ y_ : List (List Int), y_ = (l0.drop (t126 : Int).toNat) := ⟨_, rfl⟩
 replace H : ((imprimaturref06_Top.f k y138).bind fun bt143 => ((imprimaturref06_NodeText.f t132 bt143.1).bind fun t149 => (if ([] : List (List Int)).length + t135.length < 5864062014805 then ((some (([] : List (List Int)) ++ t135 : List (List Int))).bind fun y152 => (if y152.length + bt143.2.length < 5864062014805 then ((some (y152 ++ bt143.2 : List (List Int))).bind fun y155 => (if y155.length < 5864062014805 then ((imprimaturref02_Hash256.f t149).bind fun t161 => (some (t161, (y155 ++ [t149])))) else (none))) else (none))) else (none)))) = some (r1, r2) := hyA hy138 H
 have Ny138 := aM hy138
 clear hy138
 replace H := Option.bind_eq_some_iff.mp H
 obtain ⟨⟨t143, t146⟩, A110, H⟩ := H
 replace H : ((imprimaturref06_NodeText.f t132 t143).bind fun t149 => (if ([] : List (List Int)).length + t135.length < 5864062014805 then ((some (([] : List (List Int)) ++ t135 : List (List Int))).bind fun y152 => (if y152.length + t146.length < 5864062014805 then ((some (y152 ++ t146 : List (List Int))).bind fun y155 => (if y155.length < 5864062014805 then ((imprimaturref02_Hash256.f t149).bind fun t161 => (some (t161, (y155 ++ [t149])))) else (none))) else (none))) else (none))) = some (r1, r2) := H
 have A11 := aM A110
 clear A110
 replace H := Option.bind_eq_some_iff.mp H
 obtain ⟨t149, A120, H⟩ := H
 replace H : (if ([] : List (List Int)).length + t135.length < 5864062014805 then ((some (([] : List (List Int)) ++ t135 : List (List Int))).bind fun y152 => (if y152.length + t146.length < 5864062014805 then ((some (y152 ++ t146 : List (List Int))).bind fun y155 => (if y155.length < 5864062014805 then ((imprimaturref02_Hash256.f t149).bind fun t161 => (some (t161, (y155 ++ [t149])))) else (none))) else (none))) else (none)) = some (r1, r2) := H
 have A12 := aM A120
 clear A120
 by_cases c13 : ([] : List (List Int)).length + t135.length < 5864062014805
 rotate_left
 ·rw [if_neg c13] at H
  exact absurd H (by simp)
 rw [if_pos c13] at H
 have LMc13 := aM c13
 clear c13
 obtain ⟨y152, hy152⟩ : ∃ y_ : List (List Int), y_ = (([] : List (List Int)) ++ t135) := ⟨_, rfl⟩
 replace H : (if y152.length + t146.length < 5864062014805 then ((some (y152 ++ t146 : List (List Int))).bind fun y155 => (if y155.length < 5864062014805 then ((imprimaturref02_Hash256.f t149).bind fun t161 => (some (t161, (y155 ++ [t149])))) else (none))) else (none)) = some (r1, r2) := hyA hy152 H
 have Ny152 := aM hy152
 clear hy152
 by_cases c14 : y152.length + t146.length < 5864062014805
 rotate_left
 ·rw [if_neg c14] at H
  exact absurd H (by simp)
 rw [if_pos c14] at H
 have LMc14 := aM c14
 clear c14
 obtain ⟨y155, hy155⟩ : ∃ y_ : List (List Int), y_ = (y152 ++ t146) := ⟨_, rfl⟩
 replace H : (if y155.length < 5864062014805 then ((imprimaturref02_Hash256.f t149).bind fun t161 => (some (t161, (y155 ++ [t149])))) else (none)) = some (r1, r2) := hyA hy155 H
 have Ny155 := aM hy155
 clear hy155
 by_cases c15 : y155.length < 5864062014805
 rotate_left
 ·rw [if_neg c15] at H
  exact absurd H (by simp)
 rw [if_pos c15] at H
 have LMc15 := aM c15
 clear c15
 obtain ⟨y158, hy158⟩ : ∃ y_ : List (List Int), y_ = (y155 ++ [t149]) := ⟨_, rfl⟩
 replace H : ((imprimaturref02_Hash256.f t149).bind fun t161 => (some (t161, y158))) = some (r1, r2) := hyA hy158 H
 have Ny158 := aM hy158
 clear hy158
 replace H := Option.bind_eq_some_iff.mp H
 obtain ⟨t161, A160, H⟩ := H
 replace H : (some (t161, y158)) = some (r1, r2) := H
 have A16 := aM A160
 clear A160
 simp only [Option.some.injEq, Prod.mk.injEq] at H
 obtain ⟨rfl, rfl⟩ := H
 go_enter Tryd.func62, Tryd.ntmps62
 go_wp2_with (first | ((with_reducible refine gate_callee (f := 72) rfl ?_); refine goesL_ (some 22) rfl rfl Tryd.func72 (by kernel_rfl) rfl #[.int .i64 (l0.length : Int)] rfl eqA ?_; (with_reducible refine (imprimaturref06_Half.calls k (l0.length : Int) t126 _ A5.out).mono ?_); rintro e w' ⟨rfl, ⟨nd, rfl⟩⟩; refine ⟨_, rfl, ?_⟩; have q17 : (t126 : Int) ≤ ((l0.length : Int) : Int) := of_decide_eq_true asm_; obtain ⟨i017, hi017, _, hsz17, _⟩ := info_parts info22; have hroom17 : l0.length ≤ c0 := (Kd.V_reads' HO0.out).2.1; have hC17 : Kd.F (Kd.slice 5 (Kd.int .u8)) _ _ A0 l0.length l0 := (Kd.V_at (base := w.heap.size) HO0.out).2.2; have hcut17 := cut_to (P := Tryd.prog) 23 22 .i64 Tryd.underlying23 hi017 A0 l0.length c0 t126 (of_decide_eq_true asm_) q17 hroom17; have hr17 := Kd.F_take (m := (t126 : Int).toNat) hC17 (by omega); have hy17 : y127.length = (t126 : Int).toNat := (by rw [Ny127.out, List.length_take]; omega); rw [← Ny127.out] at hr17; rw [← hy17] at hcut17; have HO131 := aM (show Kd.V (Kd.slice 5 (Kd.int .u8)) 22 _ w.heap.size _ (.slice A0 y127.length c0) y127 from Kd.V_mk (by omega) hr17); have HC131 := aM (show y127.length ≤ c0 from by omega); clear hr17 hC17 hroom17 hi017 hsz17; have KY17 := aM hy17; clear hy17; replace q17 := eq_true q17) | ((with_reducible refine gate_callee (f := 62) rfl ?_); refine goesL_ (some 27) rfl rfl Tryd.func62 (by kernel_rfl) rfl #[.slice A0 y127.length c0] rfl eqA ?_; (with_reducible refine (ih k (by omega) (fun k_ => (P0_ k_ ∨ w.heap.size ≤ k_)) _ _ y127 t132 t135 _ ?side1 A8.out).mono ?_); (case side1 => exact HO131.out); rintro e w18 ⟨v133, v136, rfl, ho0, ho1, hb⟩; refine ⟨_, rfl, ?_⟩; replace HO0 := aM (Kd.V_elder' (vL HO0.out) (Kd.N_base ho1) hb); replace HO131 := aM (Kd.V_elder' (vL HO131.out) (Kd.N_base ho1) hb); have HO134 := aM (Kd.V_lower (Kd.V_mono (ok' := fun k_ => (P0_ k_ ∨ w.heap.size ≤ k_) ∧ some k_ ≠ (v136 : Value).ownBlock) ho0 (fun k_ hk_ => ⟨Or.elim hk_.1 (fun hs_ => hs_) (fun hn_ => (.inr (Nat.le_trans (below_size bel) hn_))), hk_.2⟩)) (below_size bel)); have HO137 := aM (Kd.N_lower (Kd.N_mono (ok' := fun k_ => (P0_ k_ ∨ w.heap.size ≤ k_)) ho1 (fun k_ hk_ => Or.elim hk_ (fun hs_ => hs_) (fun hn_ => (.inr (Nat.le_trans (below_size bel) hn_))))) (below_size bel)); replace HB := aM (below_step bel hb); clear hb ho0 ho1; have q19 : (t126 : Int) ≤ ((l0.length : Int) : Int) := of_decide_eq_true asm_; obtain ⟨i019, hi019, _, hsz19, _⟩ := info_parts info22; have hroom19 : l0.length ≤ c0 := (Kd.V_reads' HO0.out).2.1; have hC19 : Kd.F (Kd.slice 5 (Kd.int .u8)) _ _ A0 l0.length l0 := (Kd.V_at (base := w.heap.size) HO0.out).2.2; have q019 : (0 : Int) ≤ (t126 : Int) := of_decide_eq_true asm_; have hcut19 := cut_from (P := Tryd.prog) 23 22 .i64 Tryd.underlying23 hi019 1 hsz19 A0 l0.length c0 t126 q019 q19; have hr19 := Kd.F_cut (m := (t126 : Int).toNat) (c := c0) hC19 (by omega) hroom19; obtain ⟨A19, hA19⟩ : ∃ A1, A1 = (if c0 = (t126 : Int).toNat then A0 else (A0 : Option Addr).map (·.add ((t126 : Int).toNat * 1))) := ⟨_, rfl⟩; obtain ⟨c19, hc19⟩ : ∃ c1, c1 = c0 - (t126 : Int).toNat := ⟨_, rfl⟩; have hy19 : y138.length = l0.length - (t126 : Int).toNat := (by rw [Ny138.out, List.length_drop] <;> omega); rw [show (l0).drop (t126 : Int).toNat = y138 from Ny138.out.symm] at hr19; replace hr19 : Kd.F (Kd.slice 5 (Kd.int .u8)) _ _ A19 y138.length y138 := (by rw [hA19]; exact hr19); rw [← hy19, ← hA19, ← hc19] at hcut19; have HO142 := aM (show Kd.V (Kd.slice 5 (Kd.int .u8)) 22 _ w.heap.size _ (.slice A19 y138.length c19) y138 from Kd.V_mk (by rw [hy19, hc19]; exact Nat.sub_le_sub_right hroom19 _) hr19); have HC142 := aM (show y138.length ≤ c19 from by rw [hy19, hc19]; exact Nat.sub_le_sub_right hroom19 _); clear hr19 hC19 hroom19 hi019 hsz19 hc19; have KY19 := aM hy19; have KA19 := aM hA19; clear hy19 hA19; replace q19 := eq_true q19) | ((with_reducible refine gate_callee (f := 62) rfl ?_); refine goesL_ (some 34) rfl rfl Tryd.func62 (by kernel_rfl) rfl #[.slice A19 y138.length c19] rfl eqA ?_; (with_reducible refine (ih k (by omega) (fun k_ => ((P0_ k_ ∨ w.heap.size ≤ k_) ∧ some k_ ≠ (v136 : Value).ownBlock)) _ _ y138 t143 t146 _ ?side1 A11.out).mono ?_); (case side1 => exact HO142.out); rintro e w20 ⟨v144, v147, rfl, ho0, ho1, hb⟩; refine ⟨_, rfl, ?_⟩; replace HO0 := aM (Kd.V_elder' (vL HO0.out) (Kd.N_base ho1) hb); replace HO131 := aM (Kd.V_elder' (vL HO131.out) (Kd.N_base ho1) hb); replace HO134 := aM (Kd.V_elder' (vL HO134.out) (Kd.N_base ho1) hb); replace HO142 := aM (Kd.V_elder' (vL HO142.out) (Kd.N_base ho1) hb); have HO145 := aM (Kd.V_lower (Kd.V_mono (ok' := fun k_ => (P0_ k_ ∨ w.heap.size ≤ k_) ∧ some k_ ≠ (v147 : Value).ownBlock ∧ some k_ ≠ (v136 : Value).ownBlock) ho0 (fun k_ hk_ => ⟨Or.elim hk_.1 (fun hs_ => hs_.1) (fun hn_ => (.inr (Nat.le_trans (below_size bel) hn_))), hk_.2, Or.elim hk_.1 (fun hs_ => hs_.2) (fun hn_ => (Kd.fresh' (Kd.N_lt (nL HO137.out)) k_ hn_))⟩)) (below_size bel)); have HO148 := aM (Kd.N_lower (Kd.N_mono (ok' := fun k_ => (P0_ k_ ∨ w.heap.size ≤ k_) ∧ some k_ ≠ (v136 : Value).ownBlock) ho1 (fun k_ hk_ => ⟨Or.elim hk_ (fun hs_ => hs_.1) (fun hn_ => (.inr (Nat.le_trans (below_size bel) hn_))), Or.elim hk_ (fun hs_ => hs_.2) (fun hn_ => (Kd.fresh' (Kd.N_lt (nL HO137.out)) k_ hn_))⟩)) (below_size bel)); replace HO137 := aM (Kd.N_elder' (nL HO137.out) (Kd.N_base ho1) hb); replace HB := aM (below_step bel hb); clear hb ho0 ho1; obtain ⟨Ao21, co21, eo21⟩ := Kd.V_slice HO134.out; subst eo21; obtain ⟨Ao22, co22, eo22⟩ := Kd.V_slice HO145.out; subst eo22) | ((with_reducible refine gate_callee (f := 73) rfl ?_); refine goesL_ (some 39) rfl rfl Tryd.func73 (by kernel_rfl) rfl #[.slice Ao21 t132.length co21, .slice Ao22 t143.length co22] rfl eqA ?_; (with_reducible refine (imprimaturref06_NodeText.calls _ _ t132 _ _ t143 t149 _ ?side1 ?side2 ?side3 ?side4 A12.out).mono ?_); (case side1 => exact cL (Kd.V_reads' HO134.out).2.2); (case side2 => exact (Kd.V_reads' HO134.out).2.1); (case side3 => exact cL (Kd.V_reads' HO145.out).2.2); (case side4 => exact (Kd.V_reads' HO145.out).2.1); rintro e w23 ⟨v150, rfl, ho0, hb⟩; refine ⟨_, rfl, ?_⟩; replace HO0 := aM (Kd.V_elder' (vL HO0.out) (Kd.R_base ho0) hb); replace HO131 := aM (Kd.V_elder' (vL HO131.out) (Kd.R_base ho0) hb); replace HO134 := aM (Kd.V_elder' (vL HO134.out) (Kd.R_base ho0) hb); replace HO137 := aM (Kd.N_elder' (nL HO137.out) (Kd.R_base ho0) hb); replace HO142 := aM (Kd.V_elder' (vL HO142.out) (Kd.R_base ho0) hb); replace HO145 := aM (Kd.V_elder' (vL HO145.out) (Kd.R_base ho0) hb); replace HO148 := aM (Kd.N_elder' (nL HO148.out) (Kd.R_base ho0) hb); have HO151 := aM (Kd.R_lower (Kd.R_newM (M := fun k_ => (w.heap.size ≤ k_)) ho0 (below_size bel) (fun k_ h_ => h_)) (below_size bel)); replace HB := aM (below_step bel hb); clear hb ho0; obtain ⟨Ao25, co25, eo25⟩ := Kd.N_slice HO137.out; subst eo25) | ((with_reducible refine gate_builtin (b := .append) (xs := #[.tmp 40, .tmp 41]) rfl ?_); at_builtin; refine Kd.N_append_rows (Kd.slice 5 (Kd.int .u8)) (w0 := w) w.heap.size rfl (.tmp 40) (.tmp 41) 23 22 (.slice none 0 0) 24 rfl Tryd.underlying23 info22 rfl (by decide) (by omega) (.slice none 0 0) ([] : List (List Int)) t135 _ _ _ (fun k_ => (P0_ k_ ∨ w.heap.size ≤ k_) ∧ some k_ ≠ (v147 : Value).ownBlock ∧ some k_ ≠ (v150 : Value).ownBlock) (fun k_ => ((fun k_ => (P0_ k_ ∨ w.heap.size ≤ k_) ∧ some k_ ≠ (v147 : Value).ownBlock ∧ some k_ ≠ (v150 : Value).ownBlock)) k_ ∧ some k_ ≠ (.slice none 0 0 : Value).ownBlock) rfl rfl ?aO ?aR (fun _ hk => hk) ?aF ?aB ?aS ?aL ?_; (case aR => exact (by skip; exact Kd.N_F (Kd.N_mono (ok' := (fun k_ => ((fun k_ => (P0_ k_ ∨ w.heap.size ≤ k_) ∧ some k_ ≠ (v147 : Value).ownBlock ∧ some k_ ≠ (v150 : Value).ownBlock)) k_ ∧ some k_ ≠ (.slice none 0 0 : Value).ownBlock)) (HO137.out) (fun k_ hk => ⟨⟨hk.1.1, ⟨hk.1.2, hk.2⟩⟩, (by simp [Value.ownBlock])⟩)))); (case aB => exact bel); (case aF => exact (fun k_ hk => ⟨(.inr (Nat.le_trans (below_size bel) hk)), Kd.fresh' (Kd.N_lt (nL HO148.out)) k_ hk, Kd.fresh' (Kd.R_lt (rL HO151.out)) k_ hk⟩)); (case aO => exact ((Kd.N_nil _ _ _ _ (fun k_ => (P0_ k_ ∨ w.heap.size ≤ k_) ∧ some k_ ≠ (v147 : Value).ownBlock ∧ some k_ ≠ (v150 : Value).ownBlock)))); (case aS => exact (below_size bel)); (case aL => have := LMc13.out; omega); intro v153 w24 ho hb hg hat; rw [← Ny152.out] at ho; replace HO0 := aM (Kd.V_afterv (Kd.V_apart_nil (vL HO0.out)) hg hat); replace HO131 := aM (Kd.V_afterv (Kd.V_apart_nil (vL HO131.out)) hg hat); replace HO134 := aM (Kd.V_afterv (Kd.V_apart_nil (vL HO134.out)) hg hat); replace HO137 := aM (Kd.N_afterv (Kd.N_apart_nil (nL HO137.out)) hg hat); replace HO142 := aM (Kd.V_afterv (Kd.V_apart_nil (vL HO142.out)) hg hat); replace HO145 := aM (Kd.V_afterv (Kd.V_apart_nil (vL HO145.out)) hg hat); replace HO148 := aM (Kd.N_afterv (Kd.N_apart_nil (nL HO148.out)) hg hat); replace HO151 := aM (Kd.R_grown (rL HO151.out) hg (fun _ _ => by simp [Value.ownBlock])); replace HB := aM (hb); have HO154 := aM (ho); clear ho hb hg hat; obtain ⟨Ao27, co27, eo27⟩ := Kd.N_slice HO148.out; subst eo27) | ((with_reducible refine gate_builtin (b := .append) (xs := #[.tmp 42, .tmp 43]) rfl ?_); at_builtin; refine Kd.N_append_rows (Kd.slice 5 (Kd.int .u8)) (w0 := w) w.heap.size rfl (.tmp 42) (.tmp 43) 23 22 (.slice none 0 0) 24 rfl Tryd.underlying23 info22 rfl (by decide) (by omega) v153 y152 t146 _ _ _ (fun k_ => (P0_ k_ ∨ w.heap.size ≤ k_) ∧ some k_ ≠ (v150 : Value).ownBlock) (fun k_ => ((fun k_ => (P0_ k_ ∨ w.heap.size ≤ k_) ∧ some k_ ≠ (v150 : Value).ownBlock)) k_ ∧ some k_ ≠ (v153 : Value).ownBlock) rfl rfl ?aO ?aR (fun _ hk => hk) ?aF ?aB ?aS ?aL ?_; (case aR => exact (by skip; exact Kd.N_F (Kd.N_mono (ok' := (fun k_ => ((fun k_ => (P0_ k_ ∨ w.heap.size ≤ k_) ∧ some k_ ≠ (v150 : Value).ownBlock)) k_ ∧ some k_ ≠ (v153 : Value).ownBlock)) (HO148.out) (fun k_ hk => ⟨⟨hk.1.1.1, hk.1.2⟩, hk.2⟩)))); (case aB => exact bel); (case aF => exact (fun k_ hk => ⟨(.inr (Nat.le_trans (below_size bel) hk)), Kd.fresh' (Kd.R_lt (rL HO151.out)) k_ hk⟩)); (case aO => exact (by (with_reducible repeat (first | apply Kd.N_alloc | apply Kd.N_drewN | apply Kd.N_drew)); exact Kd.N_mono HO154.out (fun _ hk => ⟨hk.1, hk.2.2⟩))); (case aS => exact (below_size bel)); (case aL => have := LMc14.out; omega); intro v156 w26 ho hb hg hat; rw [← Ny155.out] at ho; replace HO0 := aM (Kd.V_afterv (ok := (fun k_ => (P0_ k_ ∨ w.heap.size ≤ k_) ∧ some k_ ≠ (.slice Ao25 t135.length co25 : Value).ownBlock ∧ some k_ ≠ (.slice Ao27 t146.length co27 : Value).ownBlock ∧ some k_ ≠ (v150 : Value).ownBlock)) (by (with_reducible repeat (first | apply Kd.V_alloc | apply Kd.V_drewN | apply Kd.V_drew)); exact Kd.V_mono HO0.out (fun _ hk => ⟨⟨hk.1.1.1.1, ⟨hk.1.1.1.2, ⟨hk.1.1.2, hk.1.2⟩⟩⟩, hk.2⟩)) hg hat); replace HO131 := aM (Kd.V_afterv (ok := (fun k_ => (P0_ k_ ∨ w.heap.size ≤ k_) ∧ some k_ ≠ (.slice Ao25 t135.length co25 : Value).ownBlock ∧ some k_ ≠ (.slice Ao27 t146.length co27 : Value).ownBlock ∧ some k_ ≠ (v150 : Value).ownBlock)) (by (with_reducible repeat (first | apply Kd.V_alloc | apply Kd.V_drewN | apply Kd.V_drew)); exact Kd.V_mono HO131.out (fun _ hk => ⟨⟨hk.1.1.1.1, ⟨hk.1.1.1.2, ⟨hk.1.1.2, hk.1.2⟩⟩⟩, hk.2⟩)) hg hat); replace HO134 := aM (Kd.V_afterv (ok := (fun k_ => (P0_ k_ ∨ w.heap.size ≤ k_) ∧ some k_ ≠ (.slice Ao25 t135.length co25 : Value).ownBlock ∧ some k_ ≠ (.slice Ao27 t146.length co27 : Value).ownBlock ∧ some k_ ≠ (v150 : Value).ownBlock)) (by (with_reducible repeat (first | apply Kd.V_alloc | apply Kd.V_drewN | apply Kd.V_drew)); exact Kd.V_mono HO134.out (fun _ hk => ⟨⟨hk.1.1.1.1, ⟨hk.1.1.1.2, ⟨hk.1.1.2, hk.1.2⟩⟩⟩, hk.2⟩)) hg hat); replace HO137 := aM (Kd.N_afterv (ok := (fun k_ => (P0_ k_ ∨ w.heap.size ≤ k_) ∧ some k_ ≠ (.slice Ao27 t146.length co27 : Value).ownBlock ∧ some k_ ≠ (v150 : Value).ownBlock)) (by (with_reducible repeat (first | apply Kd.N_alloc | apply Kd.N_drewN | apply Kd.N_drew)); exact Kd.N_mono HO137.out (fun _ hk => ⟨⟨hk.1.1.1, ⟨hk.1.1.2, hk.1.2⟩⟩, hk.2⟩)) hg hat); replace HO142 := aM (Kd.V_afterv (ok := (fun k_ => (P0_ k_ ∨ w.heap.size ≤ k_) ∧ some k_ ≠ (.slice Ao25 t135.length co25 : Value).ownBlock ∧ some k_ ≠ (.slice Ao27 t146.length co27 : Value).ownBlock ∧ some k_ ≠ (v150 : Value).ownBlock)) (by (with_reducible repeat (first | apply Kd.V_alloc | apply Kd.V_drewN | apply Kd.V_drew)); exact Kd.V_mono HO142.out (fun _ hk => ⟨⟨hk.1.1.1.1, ⟨hk.1.1.1.2, ⟨hk.1.1.2, hk.1.2⟩⟩⟩, hk.2⟩)) hg hat); replace HO145 := aM (Kd.V_afterv (ok := (fun k_ => (P0_ k_ ∨ w.heap.size ≤ k_) ∧ some k_ ≠ (.slice Ao25 t135.length co25 : Value).ownBlock ∧ some k_ ≠ (.slice Ao27 t146.length co27 : Value).ownBlock ∧ some k_ ≠ (v150 : Value).ownBlock)) (by (with_reducible repeat (first | apply Kd.V_alloc | apply Kd.V_drewN | apply Kd.V_drew)); exact Kd.V_mono HO145.out (fun _ hk => ⟨⟨hk.1.1.1, ⟨hk.1.1.2.2, ⟨hk.1.1.2.1, hk.1.2⟩⟩⟩, hk.2⟩)) hg hat); replace HO148 := aM (Kd.N_afterv (ok := (fun k_ => (P0_ k_ ∨ w.heap.size ≤ k_) ∧ some k_ ≠ (.slice Ao25 t135.length co25 : Value).ownBlock ∧ some k_ ≠ (v150 : Value).ownBlock)) (by (with_reducible repeat (first | apply Kd.N_alloc | apply Kd.N_drewN | apply Kd.N_drew)); exact Kd.N_mono HO148.out (fun _ hk => ⟨⟨hk.1.1.1, ⟨hk.1.1.2, hk.1.2⟩⟩, hk.2⟩)) hg hat); replace HO151 := aM (Kd.R_over' (rL HO151.out) (Kd.N_typed (nL HO154.out)) (by decide) hg); replace HB := aM (hb); have HO157 := aM (ho); clear HO154; clear ho hb hg hat; obtain ⟨Ao29, co29, eo29⟩ := Kd.R_slice HO151.out; subst eo29) | ((with_reducible refine gate_builtin (b := .append) (xs := #[.tmp 44, .tmp 46]) rfl ?_); at_builtin; refine Kd.N_append (Kd.slice 5 (Kd.int .u8)) (w0 := w) w.heap.size rfl (.tmp 44) (.tmp 46) 23 22 (.slice none 0 0) 24 rfl Tryd.underlying23 info22 rfl (by decide) (by omega) v156 y155 t149 [.slice Ao29 t149.length co29] (fun k_ => (P0_ k_ ∨ w.heap.size ≤ k_)) (fun k_ => ((fun k_ => (P0_ k_ ∨ w.heap.size ≤ k_))) k_ ∧ some k_ ≠ (v156 : Value).ownBlock) rfl rfl ?aP (fun _ hk => hk) ?aF ?aO ?aB ?aS ?aL ?_; (case aP => exact (Kd.FK_slice_mk (Kd.R_reads' (Kd.R_mono (ok' := (fun k_ => ((fun k_ => (P0_ k_ ∨ w.heap.size ≤ k_))) k_ ∧ some k_ ≠ (v156 : Value).ownBlock)) (Kd.R_apart' (HO151.out) (Kd.N_typed HO157.out) (by decide)) (fun k_ hk => ⟨(.inr (hk.1.1)), hk.2⟩))).2.1 (Kd.R_F (Kd.R_mono (ok' := (fun k_ => ((fun k_ => (P0_ k_ ∨ w.heap.size ≤ k_))) k_ ∧ some k_ ≠ (v156 : Value).ownBlock)) (Kd.R_apart' (HO151.out) (Kd.N_typed HO157.out) (by decide)) (fun k_ hk => ⟨(.inr (hk.1.1)), hk.2⟩))))); (case aB => exact bel); (case aF => exact (fun k_ hk => (.inr (Nat.le_trans (below_size bel) hk)))); (case aO => exact (by (with_reducible repeat (first | apply Kd.N_alloc | apply Kd.N_drewN | apply Kd.N_drew)); exact Kd.N_mono HO157.out (fun _ hk => hk.1))); (case aS => exact (below_size bel)); (case aL => have := LMc15.out; omega); intro v159 w28 ho hb hg hat; rw [← Ny158.out] at ho; have n0_ := aM (Kd.V_afterv (ok := (fun k_ => (P0_ k_ ∨ w.heap.size ≤ k_) ∧ some k_ ≠ (.slice Ao25 t135.length co25 : Value).ownBlock ∧ some k_ ≠ (.slice Ao27 t146.length co27 : Value).ownBlock ∧ some k_ ≠ (.slice Ao29 t149.length co29 : Value).ownBlock)) (vL HO0.out) hg hat); have n1_ := aM (Kd.V_afterv (ok := (fun k_ => (P0_ k_ ∨ w.heap.size ≤ k_) ∧ some k_ ≠ (.slice Ao25 t135.length co25 : Value).ownBlock ∧ some k_ ≠ (.slice Ao27 t146.length co27 : Value).ownBlock ∧ some k_ ≠ (.slice Ao29 t149.length co29 : Value).ownBlock)) (vL HO131.out) hg hat); have n2_ := aM (Kd.V_afterv (ok := (fun k_ => (P0_ k_ ∨ w.heap.size ≤ k_) ∧ some k_ ≠ (.slice Ao25 t135.length co25 : Value).ownBlock ∧ some k_ ≠ (.slice Ao27 t146.length co27 : Value).ownBlock ∧ some k_ ≠ (.slice Ao29 t149.length co29 : Value).ownBlock)) (vL HO134.out) hg hat); have n3_ := aM (Kd.N_afterv (ok := (fun k_ => (P0_ k_ ∨ w.heap.size ≤ k_) ∧ some k_ ≠ (.slice Ao27 t146.length co27 : Value).ownBlock ∧ some k_ ≠ (.slice Ao29 t149.length co29 : Value).ownBlock)) (nL HO137.out) hg hat); have n4_ := aM (Kd.V_afterv (ok := (fun k_ => (P0_ k_ ∨ w.heap.size ≤ k_) ∧ some k_ ≠ (.slice Ao25 t135.length co25 : Value).ownBlock ∧ some k_ ≠ (.slice Ao27 t146.length co27 : Value).ownBlock ∧ some k_ ≠ (.slice Ao29 t149.length co29 : Value).ownBlock)) (vL HO142.out) hg hat); have n5_ := aM (Kd.V_afterv (ok := (fun k_ => (P0_ k_ ∨ w.heap.size ≤ k_) ∧ some k_ ≠ (.slice Ao25 t135.length co25 : Value).ownBlock ∧ some k_ ≠ (.slice Ao27 t146.length co27 : Value).ownBlock ∧ some k_ ≠ (.slice Ao29 t149.length co29 : Value).ownBlock)) (vL HO145.out) hg hat); have n6_ := aM (Kd.N_afterv (ok := (fun k_ => (P0_ k_ ∨ w.heap.size ≤ k_) ∧ some k_ ≠ (.slice Ao25 t135.length co25 : Value).ownBlock ∧ some k_ ≠ (.slice Ao29 t149.length co29 : Value).ownBlock)) (nL HO148.out) hg hat); have n7_ := aM (hb); have n8_ := aM (ho); have hv_ := aM (Kd.V_afterv (ok := fun _ => True) (Kd.R_V (base' := w.heap.size) (Kd.R_mono (ok' := fun k_ => True ∧ some k_ ≠ (v156 : Value).ownBlock) (Kd.R_apart' HO151.out (Kd.N_typed HO157.out) (by decide)) (fun k_ hk => ⟨trivial, hk.2⟩))) hg hat); clear HO0; clear HO131; clear HO134; clear HO137; clear HO142; clear HO145; clear HO148; clear HB; clear HO157; clear HO151; have HO0 := n0_; have HO131 := n1_; have HO134 := n2_; have HO137 := n3_; have HO142 := n4_; have HO145 := n5_; have HO148 := n6_; have HB := n7_; have HO160 := n8_; clear n0_ n1_ n2_ n3_ n4_ n5_ n6_ n7_ n8_; clear ho hb hg hat) | ((with_reducible refine gate_callee (f := 56) rfl ?_); refine goesL_ (some 49) rfl rfl Tryd.func56 (by kernel_rfl) rfl #[.slice Ao29 t149.length co29] rfl eqA ?_; (with_reducible refine (imprimaturref02_Hash256.calls _ _ t149 t161 _ ?side1 ?side2 A16.out).mono ?_); (case side1 => exact cL (Kd.V_reads' hv_.out).2.2); (case side2 => exact (Kd.V_reads' hv_.out).2.1); rintro e w30 ⟨v162, rfl, ho0, hb⟩; refine ⟨_, rfl, ?_⟩; replace HO0 := aM (Kd.V_elder' (vL HO0.out) (Kd.R_base ho0) hb); replace HO131 := aM (Kd.V_elder' (vL HO131.out) (Kd.R_base ho0) hb); replace HO134 := aM (Kd.V_elder' (vL HO134.out) (Kd.R_base ho0) hb); replace HO137 := aM (Kd.N_elder' (nL HO137.out) (Kd.R_base ho0) hb); replace HO142 := aM (Kd.V_elder' (vL HO142.out) (Kd.R_base ho0) hb); replace HO145 := aM (Kd.V_elder' (vL HO145.out) (Kd.R_base ho0) hb); replace HO148 := aM (Kd.N_elder' (nL HO148.out) (Kd.R_base ho0) hb); replace HO160 := aM (Kd.N_elder' (nL HO160.out) (Kd.R_base ho0) hb); have HO163 := aM (Kd.R_lower (Kd.R_newM (M := fun k_ => (w.heap.size ≤ k_)) ho0 (below_size bel) (fun k_ h_ => h_)) (below_size bel)); replace HB := aM (below_step bel hb); clear hb ho0))
 go_ret2
 exact ⟨_, _, erR, Kd.V_mono (Kd.R_V (base' := w.heap.size) (Kd.R_apart' HO163.out (Kd.N_typed HO160.out) (by decide))) (fun k_ hk => ⟨.inr hk.1.1, hk.2⟩), by (with_reducible repeat (first | apply Kd.N_alloc | apply Kd.N_drewN | apply Kd.N_drew)); exact Kd.N_mono HO160.out (fun _ hk => hk.1), bel⟩
/-! ### imprimaturref06_LeafText: function 63 -/
def imprimaturref06_LeafText.f (k : Nat) (a0 : Int) (l1 : List Int) : Option (List Int) := (imprimaturref06_Eight.f k a0).bind fun t180 => ((imprimaturref06_join.f (([0] : List Int)) t180 l1).bind fun t183 => (some t183))
theorem imprimaturref06_LeafText.mono : ∀ a0 a1 k, LeO (imprimaturref06_LeafText.f k a0 a1) (imprimaturref06_LeafText.f (k + 1) a0 a1) := by
 intro a0 a1 k
 unfold imprimaturref06_LeafText.f
 repeat' first
   | (with_reducible exact imprimaturref06_Eight.mono _ _)
   | (with_reducible exact LeO.refl _)
   | (with_reducible exact LeO.none _)
   | (with_reducible refine LeO.ite ?_ ?_)
   | (with_reducible refine LeO.bind ?_ (fun _ => ?_))
set_option maxHeartbeats 8000000 in
set_option maxRecDepth 100000 in
theorem imprimaturref06_LeafText.calls (k : Nat) (a0 : Int) (A1 : Option Addr) (c1 : Nat) (l1 : List Int) (r : List Int) (w : World) (hr1 : Kd.C (Kd.int .u8) w A1 l1.length l1) (hc1 : l1.length ≤ c1) (h : imprimaturref06_LeafText.f k a0 l1 = some r) :
  Calls Tryd.prog 63 #[.int .i64 a0, .slice A1 l1.length c1] w fun e w' => ∃ v0_ : Value, e = .returned (v0_) ∧ Kd.R (Kd.int .u8) 5 w' w.heap.size (fun _ => True) v0_ r ∧ Below w.heap.size w w' := by
 have HR1 := aM hr1
 have HC1 := aM hc1
 clear hr1 hc1
 have HB := aM (Below.refl w.heap.size w)
 have H : ((imprimaturref06_Eight.f k a0).bind fun t180 => ((imprimaturref06_join.f (([0] : List Int)) t180 l1).bind fun t183 => (some t183))) = some r := h
 clear h
 obtain ⟨y177, hy177⟩ : ∃ y_ : List Int, y_ = (([0] : List Int)) := ⟨_, rfl⟩
 replace H : ((imprimaturref06_Eight.f k a0).bind fun t180 => ((imprimaturref06_join.f y177 t180 l1).bind fun t183 => (some t183))) = some r := hyA hy177 H
 have Ny177 := aM hy177
 clear hy177
 replace H := Option.bind_eq_some_iff.mp H
 obtain ⟨t180, A30, H⟩ := H
 replace H : ((imprimaturref06_join.f y177 t180 l1).bind fun t183 => (some t183)) = some r := H
 have A3 := aM A30
 clear A30
 replace H := Option.bind_eq_some_iff.mp H
 obtain ⟨t183, A40, H⟩ := H
 replace H : (some t183) = some r := H
 have A4 := aM A40
 clear A40
 obtain rfl := Option.some.inj H
 go_enter Tryd.func63, Tryd.ntmps63
 go_wp2_with (first | ((with_reducible refine gate_dst (N := 5) rfl ?_); refine Kd.R_lit (Kd.int .u8) _ 5 ?hg (N := 5) ?hd (xs := ([0] : List Int)) (inner := [.int .u8 0]) (ok := fun _ => True) (okp := fun _ => True) ?hr ?hp (fun _ hk => hk) trivial (Below.refl _ _) (Nat.le_refl _) (by simp) ?_; (case hd => rfl); (case hg => rfl); (case hr => first | (go_simp; done) | (go_simp; rfl)); (case hp => exact (Reps.one (show Kd.M (Kd.int .u8) _ _ _ 0 [.int .u8 0] from rfl) (Reps.none _ _))); intro v178 w5 ho6 hb hg_ hnew_; clear hg_ hnew_; (first | rw [← Ny177.out] at ho6 | (simp only [Int.reduceToNat] at ho6; rw [← Ny177.out] at ho6)); have HO179 := aM (Kd.R_lower ho6 (below_size bel)); replace HB := aM (below_step bel hb); clear hb ho6) | ((with_reducible refine gate_callee (f := 75) rfl ?_); refine goesL_ (some 7) rfl rfl Tryd.func75 (by kernel_rfl) rfl #[.int .i64 a0] rfl eqA ?_; (with_reducible refine (imprimaturref06_Eight.calls k a0 t180 _ A3.out).mono ?_); rintro e w7 ⟨v181, rfl, ho0, hb⟩; refine ⟨_, rfl, ?_⟩; have HO182 := aM (Kd.R_lower (Kd.R_new' ho0 (Kd.R_lt (rL HO179.out))) (below_size bel)); replace HO179 := aM (Kd.R_elder' (rL HO179.out) (Kd.R_base ho0) hb); replace HB := aM (below_step bel hb); clear hb ho0; obtain ⟨Ao8, co8, eo8⟩ := Kd.R_slice HO179.out; subst eo8; obtain ⟨Ao9, co9, eo9⟩ := Kd.R_slice HO182.out; subst eo9) | ((with_reducible refine gate_callee (f := 74) rfl ?_); refine goesL_ (some 9) rfl rfl Tryd.func74 (by kernel_rfl) rfl #[.slice Ao8 y177.length co8, .slice Ao9 t180.length co9, .slice A1 l1.length c1] rfl eqA ?_; (with_reducible refine (imprimaturref06_join.calls _ _ y177 _ _ t180 _ _ l1 t183 _ ?side1 ?side2 ?side3 ?side4 ?side5 ?side6 A4.out).mono ?_); (case side1 => exact cL (Kd.R_reads' HO179.out).2.2); (case side2 => exact (Kd.R_reads' HO179.out).2.1); (case side3 => exact cL (Kd.R_reads' HO182.out).2.2); (case side4 => exact (Kd.R_reads' HO182.out).2.1); (case side5 => exact cL (Kd.C_below HR1.out HB.out)); (case side6 => exact HC1.out); rintro e w10 ⟨v184, rfl, ho0, hb⟩; refine ⟨_, rfl, ?_⟩; have HO185 := aM (Kd.R_lower (Kd.R_new' (Kd.R_new' ho0 (Kd.R_lt (rL HO179.out))) (Kd.R_lt (rL HO182.out))) (below_size bel)); replace HO179 := aM (Kd.R_elder' (rL HO179.out) (Kd.R_base ho0) hb); replace HO182 := aM (Kd.R_elder' (rL HO182.out) (Kd.R_base ho0) hb); replace HB := aM (below_step bel hb); clear hb ho0))
 go_ret
 exact ⟨_, erR, by (with_reducible repeat (first | apply Kd.R_alloc | apply Kd.R_drewN | apply Kd.R_drew)); exact Kd.R_mono HO185.out (fun _ hk => trivial), bel⟩
end Go.Proofs.YtdpdmmbdoeefbaaDoor.PRa
