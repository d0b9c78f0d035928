-- Written by a program of this session, after the print of the kit.
import Derived.Test.YtcnpdapampclpaaDoorWC
import Derived.Test.YtcnpdapampclpaaDoorPRbx0
namespace Go.Proofs.YtcnpdapampclpaaDoor.PRb
open Go.RowKit Go.Proofs.YtcnpdapampclpaaDoor.X Go.Proofs.YtcnpdapampclpaaDoor.PRa Go.Proofs.YtcnpdapampclpaaDoorW.PrintWords Go.Proofs.YtcnpdapampclpaaDoorW.PrintLast Go.Proofs.YtcnpdapampclpaaDoorW.PrintMore
attribute [local go_sem] max2_int min2_int max_two min_two max_three min_three max_four min_four   -- for this text's walks alone
set_option linter.unusedVariables false
set_option linter.unusedSimpArgs false

/-! ### imprimaturref20_text: function 52 -/
def imprimaturref20_text.f (a0 : Int) (l1 : List Int) (l2 : List Int) : Option (List Int) := (some (([a0] : List Int) : List Int)).bind fun y101 => (if y101.length + l1.length < 140737488355328 then ((some (y101 ++ l1 : List Int)).bind fun y104 => (if y104.length + l2.length < 140737488355328 then (some (y104 ++ l2)) else (none))) else (none))
set_option maxHeartbeats 8000000 in
set_option maxRecDepth 100000 in
theorem imprimaturref20_text.calls (a0 : Int) (A1 : Option Addr) (c1 : Nat) (l1 : List Int) (A2 : Option Addr) (c2 : Nat) (l2 : List Int) (r : List Int) (w : World) (hr1 : Kd.C (Kd.int .u8) w A1 l1.length l1) (hc1 : l1.length ≤ c1) (hr2 : Kd.C (Kd.int .u8) w A2 l2.length l2) (hc2 : l2.length ≤ c2) (h : imprimaturref20_text.f a0 l1 l2 = some r) :
  Calls Tryd.prog 52 #[.int .u8 a0, .slice A1 l1.length c1, .slice A2 l2.length c2] w fun e w' => ∃ v0_ : Value, e = .returned (v0_) ∧ Kd.R (Kd.int .u8) 5 w' w.heap.size (fun _ => True) v0_ r ∧ Below w.heap.size w w' := by
 have HR1 := Aside0.mk hr1
 have HC1 := Aside0.mk hc1
 clear hr1 hc1
 have HR2 := Aside0.mk hr2
 have HC2 := Aside0.mk hc2
 clear hr2 hc2
 have HB := Aside0.mk (Below.refl w.heap.size w)
 have H : ((some (([a0] : List Int) : List Int)).bind fun y101 => (if y101.length + l1.length < 140737488355328 then ((some (y101 ++ l1 : List Int)).bind fun y104 => (if y104.length + l2.length < 140737488355328 then (some (y104 ++ l2)) else (none))) else (none))) = some r := h
 clear h
 obtain ⟨y101, hy101⟩ : ∃ y_ : List Int, y_ = (([a0] : List Int)) := ⟨_, rfl⟩
 replace H : (if y101.length + l1.length < 140737488355328 then ((some (y101 ++ l1 : List Int)).bind fun y104 => (if y104.length + l2.length < 140737488355328 then (some (y104 ++ l2)) else (none))) else (none)) = some r := hyA hy101 H
 have Ny101 := Aside0.mk hy101
 clear hy101
 by_cases c4 : y101.length + l1.length < 140737488355328
 ·rw [if_pos c4] at H
  have LMc4 := Aside0.mk c4
  clear c4
  obtain ⟨y104, hy104⟩ : ∃ y_ : List Int, y_ = (y101 ++ l1) := ⟨_, rfl⟩
  replace H : (if y104.length + l2.length < 140737488355328 then (some (y104 ++ l2)) else (none)) = some r := hyA hy104 H
  have Ny104 := Aside0.mk hy104
  clear hy104
  by_cases c5 : y104.length + l2.length < 140737488355328
  ·rw [if_pos c5] at H
   have LMc5 := Aside0.mk c5
   clear c5
   obtain ⟨y107, hy107⟩ : ∃ y_ : List Int, y_ = (y104 ++ l2) := ⟨_, rfl⟩
   replace H : (some y107) = some r := hyA hy107 H
   have Ny107 := Aside0.mk hy107
   clear hy107
   obtain rfl := Option.some.inj H
   go_enter Tryd.func52, Tryd.ntmps52
   go_wp2_with (first | ((with_reducible refine gate_dst (N := 9) rfl ?_); refine Kd.R_lit (Kd.int .u8) _ 5 ?hg (N := 9) ?hd (xs := ([a0] : List Int)) (inner := [.int .u8 a0]) (ok := fun _ => True) (okp := fun _ => True) ?hr ?hp (fun _ hk => hk) trivial (Below.refl _ _) (Nat.le_refl _) (by simp) ?_; (case hd => rfl); (case hg => rfl); (case hr => first | (go_simp; done) | (go_simp; rfl)); (case hp => exact (Reps.one (show Kd.M (Kd.int .u8) _ _ _ a0 [.int .u8 a0] from rfl) (Reps.none _ _))); intro v102 w6 ho7 hb hg_ hnew_; clear hg_ hnew_; (first | rw [← Ny101.out] at ho7 | (simp only [Int.reduceToNat] at ho7; rw [← Ny101.out] at ho7)); have n0_ := Aside0.mk (Kd.R_lower ho7 (below_size bel)); have n1_ := Aside0.mk (below_step bel hb); clear HB; have HO103 := n0_; have HB := n1_; clear n0_ n1_; clear hb ho7) | ((with_reducible refine gate_builtin (b := .append) (xs := #[.tmp 10, .tmp 11]) rfl ?_); at_builtin; refine Kd.R_append_rows (Kd.int .u8) (w0 := w) w.heap.size rfl (.tmp 10) (.tmp 11) 23 5 (.int .u8 0) 1 rfl Tryd.underlying23 info5 rfl (by decide) (by omega) v102 y101 l1 _ _ _ (fun _ => True) (fun _ => False) rfl rfl ?aO ?aR (fun _ _ h => h) (fun _ h => h.elim) ?aF ?aB ?aS ?aL ?_; (case aR => repeat (first | exact (Kd.C_below HR1.out HB.out) | (with_reducible refine Kd.C_alloc ?_ _) | (with_reducible refine Kd.C_drewN ?_ _) | (with_reducible refine Kd.C_drew ?_))); (case aB => exact bel); (case aF => exact (fun _ _ => trivial)); (case aO => exact (rL HO103.out)); (case aS => exact (below_size bel)); (case aL => have := LMc4.out; omega); intro v105 w8 ho hb hg hat; rw [← Ny104.out] at ho; have n0_ := Aside0.mk (hb); have n1_ := Aside0.mk (ho); clear HB; clear HO103; have HB := n0_; have HO106 := n1_; clear n0_ n1_; clear ho hb hg hat) | ((with_reducible refine gate_builtin (b := .append) (xs := #[.tmp 12, .tmp 13]) rfl ?_); at_builtin; refine Kd.R_append_rows (Kd.int .u8) (w0 := w) w.heap.size rfl (.tmp 12) (.tmp 13) 23 5 (.int .u8 0) 1 rfl Tryd.underlying23 info5 rfl (by decide) (by omega) v105 y104 l2 _ _ _ (fun _ => True) (fun _ => False) rfl rfl ?aO ?aR (fun _ _ h => h) (fun _ h => h.elim) ?aF ?aB ?aS ?aL ?_; (case aR => repeat (first | exact (Kd.C_below HR2.out HB.out) | (with_reducible refine Kd.C_alloc ?_ _) | (with_reducible refine Kd.C_drewN ?_ _) | (with_reducible refine Kd.C_drew ?_))); (case aB => exact bel); (case aF => exact (fun _ _ => trivial)); (case aO => exact (rL HO106.out)); (case aS => exact (below_size bel)); (case aL => have := LMc5.out; omega); intro v108 w9 ho hb hg hat; rw [← Ny107.out] at ho; have n0_ := Aside0.mk (hb); have n1_ := Aside0.mk (ho); clear HB; clear HO106; have HB := n0_; have HO109 := n1_; clear n0_ n1_; clear ho hb hg hat))
   go_ret
   exact ⟨_, by first | rfl | (simp [errW_none, errW_some] <;> rfl) | (simp [*, errW_none, errW_some] <;> rfl), by (with_reducible repeat (first | apply Kd.R_alloc | apply Kd.R_drewN | apply Kd.R_drew)); exact HO109.out, by repeat (first | (with_reducible first | exact HB.out | apply below_alloc | apply pw_below_drewN | apply below_drew1) | exact HB.out)⟩
  ·rw [if_neg c5] at H
   exact absurd H (by simp)
 ·rw [if_neg c4] at H
  exact absurd H (by simp)

/-! ### imprimaturref20_MarkText: function 63 -/
def imprimaturref20_MarkText.f (l0 : List Int) : Option (List Int) := (imprimaturref20_text.f 16 l0 ([] : List Int)).bind fun t110 => (some t110)
set_option maxHeartbeats 8000000 in
set_option maxRecDepth 100000 in
theorem imprimaturref20_MarkText.calls (A0 : Option Addr) (c0 : Nat) (l0 : List Int) (r : List Int) (w : World) (hr0 : Kd.C (Kd.int .u8) w A0 l0.length l0) (hc0 : l0.length ≤ c0) (h : imprimaturref20_MarkText.f l0 = some r) :
  Calls Tryd.prog 63 #[.slice A0 l0.length c0] w fun e w' => ∃ v0_ : Value, e = .returned (v0_) ∧ Kd.R (Kd.int .u8) 5 w' w.heap.size (fun _ => True) v0_ r ∧ Below w.heap.size w w' := by
 have HR0 := Aside0.mk hr0
 have HC0 := Aside0.mk hc0
 clear hr0 hc0
 have HB := Aside0.mk (Below.refl w.heap.size w)
 have H : ((imprimaturref20_text.f 16 l0 ([] : List Int)).bind fun t110 => (some t110)) = some r := h
 clear h
 replace H := Option.bind_eq_some_iff.mp H
 obtain ⟨t110, A20, H⟩ := H
 replace H : (some t110) = some r := H
 have A2 := Aside0.mk A20
 clear A20
 obtain rfl := Option.some.inj H
 go_enter Tryd.func63, Tryd.ntmps63
 go_wp2_with (first | ((with_reducible refine gate_callee (f := 52) rfl ?_); refine goesL_ (some 4) rfl rfl Tryd.func52 (by kernel_rfl) rfl #[.int .u8 16, .slice A0 l0.length c0, .slice none 0 0] rfl eqA ?_; (refine (imprimaturref20_text.calls 16 _ _ l0 _ _ ([] : List Int) t110 _ ?side1 ?side2 ?side3 ?side4 A2.out).mono ?_); (case side1 => exact cL HR0.out); (case side2 => exact HC0.out); (case side3 => exact Kd.C_nil _ _); (case side4 => exact Nat.le_refl _); rintro e w3 ⟨v111, rfl, ho0, hb⟩; refine ⟨_, rfl, ?_⟩; have n0_ := Aside0.mk (Kd.R_lower ho0 (below_size bel)); have n1_ := Aside0.mk (below_step bel hb); clear HB; have HO112 := n0_; have HB := n1_; clear n0_ n1_; (try clear hb); (try clear hb2); (try clear hk); (try clear hi); (try clear ho0)))
 go_ret
 exact ⟨_, by first | rfl | (simp [errW_none, errW_some] <;> rfl) | (simp [*, errW_none, errW_some] <;> rfl), by (with_reducible repeat (first | apply Kd.R_alloc | apply Kd.R_drewN | apply Kd.R_drew)); exact HO112.out, by repeat (first | (with_reducible first | exact HB.out | apply below_alloc | apply pw_below_drewN | apply below_drew1) | exact HB.out)⟩

/-! ### imprimaturref20_Mark: function 45 -/
def imprimaturref20_Mark.f (l0 : List Int) : Option (List Int) := (imprimaturref20_MarkText.f l0).bind fun t113 => ((imprimaturref02_Hash256.f t113).bind fun t116 => (some t116))
set_option maxHeartbeats 8000000 in
set_option maxRecDepth 100000 in
theorem imprimaturref20_Mark.calls (A0 : Option Addr) (c0 : Nat) (l0 : List Int) (r : List Int) (w : World) (hr0 : Kd.C (Kd.int .u8) w A0 l0.length l0) (hc0 : l0.length ≤ c0) (h : imprimaturref20_Mark.f l0 = some r) :
  Calls Tryd.prog 45 #[.slice A0 l0.length c0] w fun e w' => ∃ v0_ : Value, e = .returned (v0_) ∧ Kd.R (Kd.int .u8) 5 w' w.heap.size (fun _ => True) v0_ r ∧ Below w.heap.size w w' := by
 have HR0 := Aside0.mk hr0
 have HC0 := Aside0.mk hc0
 clear hr0 hc0
 have HB := Aside0.mk (Below.refl w.heap.size w)
 have H : ((imprimaturref20_MarkText.f l0).bind fun t113 => ((imprimaturref02_Hash256.f t113).bind fun t116 => (some t116))) = some r := h
 clear h
 replace H := Option.bind_eq_some_iff.mp H
 obtain ⟨t113, A20, H⟩ := H
 replace H : ((imprimaturref02_Hash256.f t113).bind fun t116 => (some t116)) = some r := H
 have A2 := Aside0.mk A20
 clear A20
 replace H := Option.bind_eq_some_iff.mp H
 obtain ⟨t116, A30, H⟩ := H
 replace H : (some t116) = some r := H
 have A3 := Aside0.mk A30
 clear A30
 obtain rfl := Option.some.inj H
 go_enter Tryd.func45, Tryd.ntmps45
 go_wp2_with (first | ((with_reducible refine gate_callee (f := 63) rfl ?_); refine goesL_ (some 4) rfl rfl Tryd.func63 (by kernel_rfl) rfl #[.slice A0 l0.length c0] rfl eqA ?_; (with_reducible refine (imprimaturref20_MarkText.calls _ _ l0 t113 _ ?side1 ?side2 A2.out).mono ?_); (case side1 => exact cL HR0.out); (case side2 => exact HC0.out); rintro e w4 ⟨v114, rfl, ho0, hb⟩; refine ⟨_, rfl, ?_⟩; have n0_ := Aside0.mk (Kd.R_lower ho0 (below_size bel)); have n1_ := Aside0.mk (below_step bel hb); clear HB; have HO115 := n0_; have HB := n1_; clear n0_ n1_; (try clear hb); (try clear hb2); (try clear hk); (try clear hi); (try clear ho0); obtain ⟨Ao5, co5, eo5⟩ := Kd.R_slice HO115.out; subst eo5) | ((with_reducible refine gate_callee (f := 50) rfl ?_); refine goesL_ (some 5) rfl rfl Tryd.func50 (by kernel_rfl) rfl #[.slice Ao5 t113.length co5] rfl eqA ?_; (with_reducible refine (imprimaturref02_Hash256.calls _ _ t113 t116 _ ?side1 ?side2 A3.out).mono ?_); (case side1 => exact cL (Kd.R_reads' HO115.out).2.2); (case side2 => exact (Kd.R_reads' HO115.out).2.1); rintro e w6 ⟨v117, rfl, ho0, hb⟩; refine ⟨_, rfl, ?_⟩; have n0_ := Aside0.mk (Kd.R_elder' (rL HO115.out) (Kd.R_base ho0) hb); have n1_ := Aside0.mk (Kd.R_lower (Kd.R_new' ho0 (Kd.R_lt (rL HO115.out))) (below_size bel)); have n2_ := Aside0.mk (below_step bel hb); clear HO115; clear HB; have HO115 := n0_; have HO118 := n1_; have HB := n2_; clear n0_ n1_ n2_; (try clear hb); (try clear hb2); (try clear hk); (try clear hi); (try clear ho0)))
 go_ret
 exact ⟨_, by first | rfl | (simp [errW_none, errW_some] <;> rfl) | (simp [*, errW_none, errW_some] <;> rfl), by (with_reducible repeat (first | apply Kd.R_alloc | apply Kd.R_drewN | apply Kd.R_drew)); exact Kd.R_mono HO118.out (fun _ hk => trivial), by repeat (first | (with_reducible first | exact HB.out | apply below_alloc | apply pw_below_drewN | apply below_drew1) | exact HB.out)⟩

/-! ### imprimaturref20_Marks: function 17 -/
def imprimaturref20_Marks.l0 : Nat → List (List Int) → List (List Int) → Int → Option ((List (List Int)))
 | 0, _, _, _ => none
 | k + 1, x0, x3, x4 => if x4 < (x0.length : Int) then (if 0 ≤ x4 then ((imprimaturref20_Mark.f (rd_L1 x0 x4)).bind fun t120 => (if x3.length < 5864062014805 then (imprimaturref20_Marks.l0 k x0 (x3 ++ [t120]) (wrap64 (x4 + 1))) else (none))) else (none)) else (some x3)
def imprimaturref20_Marks.f (k : Nat) (l0 : List (List Int)) : Option ((List (List Int))) := imprimaturref20_Marks.l0 k l0 ([] : List (List Int)) 0
theorem imprimaturref20_Marks.mono_l : ∀ k, (∀ y0 y1 y2, LeO (imprimaturref20_Marks.l0 k y0 y1 y2) (imprimaturref20_Marks.l0 (k + 1) y0 y1 y2))
 | 0 => fun _ _ _ r h => by simp [imprimaturref20_Marks.l0] at h
 | k + 1 => by
  have ih0 := imprimaturref20_Marks.mono_l k
  ·intro y0 y1 y2
   unfold imprimaturref20_Marks.l0
   repeat' first
   | (with_reducible exact ih0 _ _ _)
   | (with_reducible exact LeO.refl _)
   | (with_reducible exact LeO.none _)
   | (with_reducible refine LeO.ite ?_ ?_)
   | (with_reducible refine LeO.bind ?_ (fun _ => ?_))
   | exact ih0 _ _ _
   | exact LeO.none _
   | refine LeO.ite ?_ ?_
   | refine LeO.bind ?_ (fun _ => ?_)
theorem imprimaturref20_Marks.mono : ∀ a0 k, LeO (imprimaturref20_Marks.f k a0) (imprimaturref20_Marks.f (k + 1) a0) := by
 intro a0 k
 have ih0 := imprimaturref20_Marks.mono_l k
 unfold imprimaturref20_Marks.f
 repeat' first
   | (with_reducible exact ih0 _ _ _)
   | (with_reducible exact LeO.refl _)
   | (with_reducible exact LeO.none _)
   | (with_reducible refine LeO.ite ?_ ?_)
   | (with_reducible refine LeO.bind ?_ (fun _ => ?_))
   | exact ih0 _ _ _
   | exact LeO.none _
   | refine LeO.ite ?_ ?_
   | refine LeO.bind ?_ (fun _ => ?_)
set_option maxHeartbeats 8000000 in
set_option maxRecDepth 100000 in
theorem imprimaturref20_Marks.calls (k : Nat) (A0 : Option Addr) (c0 : Nat) (l0 : List (List Int)) (r : List (List Int)) (w : World) (hr0 : Kd.C (Kd.slice 5 (Kd.int .u8)) w A0 l0.length l0) (hc0 : l0.length ≤ c0) (h : imprimaturref20_Marks.f k l0 = some r) :
  Calls Tryd.prog 17 #[.slice A0 l0.length c0] w fun e w' => ∃ v0_ : Value, e = .returned (v0_) ∧ Kd.S (Kd.slice 5 (Kd.int .u8)) 23 w' w.heap.size (fun _ => True) v0_ r ∧ Below w.heap.size w w' := by
 have HR0 := Aside0.mk hr0
 have HC0 := Aside0.mk hc0
 clear hr0 hc0
 have HB := Aside0.mk (Below.refl w.heap.size w)
 have H : (imprimaturref20_Marks.l0 k l0 ([] : List (List Int)) 0) = some r := h
 clear h
 have H' := Aside0.mk H
 clear H
 go_enter Tryd.func17, Tryd.ntmps17
 go_wp2
 go_loopg [3, 4] k (fun kq v3 v4 w' => ∃ (x3_1 : List (List Int)) (x4_1 : Int), v4 = .int .i64 x4_1 ∧ Aside0 (imprimaturref20_Marks.l0 kq l0 x3_1 x4_1 = some r) ∧ Aside0 (kq ≤ k) ∧ Aside0 (Kd.S (Kd.slice 5 (Kd.int .u8)) 23 w' w.heap.size (fun _ => True) v3 x3_1) ∧ Aside0 (Below w.heap.size w w'))
 case atStart => exact ⟨(([] : List (List Int))), (0), (by first | rfl | (simp; done) | (simp [*]; done)), H', ⟨Nat.le_refl _⟩, ⟨by first | exact Kd.S_nil _ _ _ _ _ | exact Kd.N_nil _ _ _ _ _ | exact Kd.V_nil _ _ _ _ _ | exact Kd.Q_nil _ _ _ _ _ | exact Kd.R_nil _ _ _ _ _⟩, ⟨by repeat (first | (with_reducible first | exact HB.out | apply below_alloc | apply pw_below_drewN | apply below_drew1) | exact HB.out)⟩⟩
 case round =>
  clear H'
  try clear c1
  obtain ⟨x3_1, x4_1, rfl, HA, HK1, HO_3, HB⟩ := hrel
  cases gk with
  | zero => exact absurd HA.out (by simp [imprimaturref20_Marks.l0])
  | succ k1 =>
   have H := HA.out
   clear HA
   simp only [imprimaturref20_Marks.l0] at H
   by_cases c2 : x4_1 < (l0.length : Int)
   ·rw [if_pos c2] at H
    have c2b0 : decide (x4_1 < (l0.length : Int)) = true := decide_eq_true c2
    clear c2
    by_cases c3 : 0 ≤ x4_1
    ·rw [if_pos c3] at H
     have c3b0 : decide (0 ≤ x4_1) = true := decide_eq_true c3
     clear c3
     replace H := Option.bind_eq_some_iff.mp H
     obtain ⟨t120, A40, H⟩ := H
     replace H : (if x3_1.length < 5864062014805 then (imprimaturref20_Marks.l0 k1 l0 (x3_1 ++ [t120]) (wrap64 (x4_1 + 1))) else (none)) = some r := H
     have A4 := Aside0.mk A40
     clear A40
     by_cases c5 : x3_1.length < 5864062014805
     ·rw [if_pos c5] at H
      have LMc5 := Aside0.mk c5
      clear c5
      obtain ⟨y123, hy123⟩ : ∃ y_ : List (List Int), y_ = (x3_1 ++ [t120]) := ⟨_, rfl⟩
      replace H : (imprimaturref20_Marks.l0 k1 l0 y123 (wrap64 (x4_1 + 1))) = some r := hyA hy123 H
      have Ny123 := Aside0.mk hy123
      clear hy123
      have H' := Aside0.mk H
      clear H
      have p119 : 0 ≤ (x4_1 : Int) := of_decide_eq_true asm_
      have q119 : x4_1 < (l0.length : Int) := of_decide_eq_true asm_
      obtain ⟨ad119, A119_0, c119_0, e119, hx119_0, hl119_0, hi119_0⟩ := at_L1 HR0.out x4_1 p119 q119
      cases e119
      replace hx119_0 := (HB.out.cell (World.block_lt_of_cell? w _ hx119_0)).trans hx119_0
      have HR119_0 := Aside0.mk hi119_0
      have HC119_0 := Aside0.mk hl119_0
      clear hi119_0 hl119_0
      replace p119 := eq_true p119
      replace q119 := eq_true q119
      go_wp2_with (first | ((with_reducible refine gate_callee (f := 45) rfl ?_); refine goesL_ (some 16) rfl rfl Tryd.func45 (by kernel_rfl) rfl #[.slice A119_0 (rd_L1 l0 x4_1).length c119_0] rfl eqA ?_; (with_reducible refine (imprimaturref20_Mark.calls _ _ (rd_L1 l0 x4_1) t120 _ ?side1 ?side2 A4.out).mono ?_); (case side1 => exact cL (Kd.C_below HR119_0.out HB.out)); (case side2 => exact HC119_0.out); rintro e w6 ⟨v121, rfl, ho0, hb⟩; refine ⟨_, rfl, ?_⟩; have n0_ := Aside0.mk (Kd.S_elder' (sL HO_3.out) (Kd.R_base ho0) hb); have n1_ := Aside0.mk (Kd.R_lower ho0 (below_size bel)); have n2_ := Aside0.mk (below_step bel hb); clear HO_3; clear HB; have HO_3 := n0_; have HO122 := n1_; have HB := n2_; clear n0_ n1_ n2_; (try clear hb); (try clear hb2); (try clear hk); (try clear hi); (try clear ho0); obtain ⟨Ao8, co8, eo8⟩ := Kd.R_slice HO122.out; subst eo8) | ((with_reducible refine gate_builtin (b := .append) (xs := #[.tmp 11, .tmp 17]) rfl ?_); at_builtin; refine Kd.S_append (Kd.slice 5 (Kd.int .u8)) (w0 := w) w.heap.size rfl (.tmp 11) (.tmp 17) 22 23 (.slice none 0 0) 24 rfl Tryd.underlying22 info23 rfl (by decide) (by omega) u3 x3_1 t120 [.slice Ao8 t120.length co8] (fun _ => True) (fun k_ => some k_ = (.slice Ao8 t120.length co8 : Value).ownBlock) rfl rfl ?aP (fun k_ hk_ => ((Kd.R_mono (ok' := fun k_ => ((fun _ => True)) k_ ∧ some k_ ≠ (u3 : Value).ownBlock) (Kd.R_apart' (HO122.out) (Kd.S_typed HO_3.out) (by decide)) (fun k_ hk => ⟨trivial, hk.2⟩))).1 k_ hk_.symm) ?aF ?aO ?aB ?aS ?aL ?_; (case aP => exact Kd.M_row (Kd.R_mono (Kd.R_tight rfl (Kd.R_mono (ok' := fun k_ => ((fun _ => True)) k_ ∧ some k_ ≠ (u3 : Value).ownBlock) (Kd.R_apart' (HO122.out) (Kd.S_typed HO_3.out) (by decide)) (fun k_ hk => ⟨trivial, hk.2⟩))) (fun _ h_ => h_))); (case aB => exact bel); (case aF => exact (fun _ _ => trivial)); (case aO => exact (by (with_reducible repeat (first | apply Kd.S_alloc | apply Kd.S_drewN | apply Kd.S_drew)); exact Kd.S_mono HO_3.out (fun k_ hk => ⟨trivial, fun e_ => hk.2 e_⟩))); (case aS => exact (below_size bel)); (case aL => have := LMc5.out; omega); intro v124 w7 ho hb hg hat; rw [← Ny123.out] at ho; have n0_ := Aside0.mk (hb); have n1_ := Aside0.mk (ho); clear HB; clear HO_3; clear HO122; have HB := n0_; have HO125 := n1_; clear n0_ n1_; clear ho hb hg hat))
      go_roundg k1
      case measure => have := HK1.out; omega
      case rel => exact ⟨(y123), (wrap64 (x4_1 + 1)), (by first | rfl | (simp; done) | (simp [*]; done)), H', ⟨by have := HK1.out; omega⟩, ⟨by (with_reducible repeat (first | apply Kd.S_alloc | apply Kd.S_drewN | apply Kd.S_drew)); exact HO125.out⟩, ⟨by repeat (first | (with_reducible first | exact HB.out | apply below_alloc | apply pw_below_drewN | apply below_drew1) | exact HB.out)⟩⟩
     ·rw [if_neg c5] at H
      exact absurd H (by simp)
    ·rw [if_neg c3] at H
     exact absurd H (by simp)
   ·rw [if_neg c2] at H
    have c2b0 : decide (x4_1 < (l0.length : Int)) = false := decide_eq_false c2
    clear c2
    obtain rfl := Option.some.inj H
    go_wp2
    go_ret
    exact ⟨_, by first | rfl | (simp [errW_none, errW_some] <;> rfl) | (simp [*, errW_none, errW_some] <;> rfl), by (with_reducible repeat (first | apply Kd.S_alloc | apply Kd.S_drewN | apply Kd.S_drew)); exact HO_3.out, by repeat (first | (with_reducible first | exact HB.out | apply below_alloc | apply pw_below_drewN | apply below_drew1) | exact HB.out)⟩

/-! ### imprimaturref20_Top: function 23 -/
def imprimaturref20_Top.f : Nat → List (List Int) → Option (List Int)
 | 0, _ => none
 | k + 1, l0 => if (l0.length : Int) = 1 then (if 0 < (l0.length : Int) then (some (rd_L1 l0 0)) else (none)) else ((imprimaturref06_Half.f k (l0.length : Int)).bind fun t127 => (if 0 ≤ t127 then (if t127 ≤ (l0.length : Int) then ((imprimaturref20_Top.f k (l0.take (t127 : Int).toNat)).bind fun t133 => ((imprimaturref20_Top.f k (l0.drop (t127 : Int).toNat)).bind fun t141 => ((imprimaturref20_text.f 17 t133 t141).bind fun t144 => ((imprimaturref02_Hash256.f t144).bind fun t147 => (some t147))))) else (none)) else (none)))
theorem imprimaturref20_Top.mono_l : ∀ k, (∀ y0, LeO (imprimaturref20_Top.f k y0) (imprimaturref20_Top.f (k + 1) y0))
 | 0 => fun _ r h => by simp [imprimaturref20_Top.f] at h
 | k + 1 => by
  have ih0 := imprimaturref20_Top.mono_l k
  ·intro y0
   unfold imprimaturref20_Top.f
   repeat' first
   | (with_reducible exact ih0 _)
   | (with_reducible exact imprimaturref06_Half.mono _ _)
   | (with_reducible exact LeO.refl _)
   | (with_reducible exact LeO.none _)
   | (with_reducible refine LeO.ite ?_ ?_)
   | (with_reducible refine LeO.bind ?_ (fun _ => ?_))
   | exact ih0 _
   | exact imprimaturref06_Half.mono _ _
   | exact LeO.none _
   | refine LeO.ite ?_ ?_
   | refine LeO.bind ?_ (fun _ => ?_)
theorem imprimaturref20_Top.mono : ∀ a0 k, LeO (imprimaturref20_Top.f k a0) (imprimaturref20_Top.f (k + 1) a0) := by
 intro a0 k
 have ih0 := imprimaturref20_Top.mono_l k
 exact ih0 a0
def imprimaturref20_Top.T4 : Bool × List (List Nat × List Nat) := (true, [([], []), ([], []), ([0, 1], [0, 1]), ([2], [2]), ([], []), ([], []), ([4, 5], [4, 5]), ([6, 3], [6]), ([3, 7, 7], [3, 7]), ([8, 8], [8]), ([9, 9, 0, 1, 2, 3, 4, 5, 6, 7, 8, 9], [9])])
def imprimaturref20_Top.B4 : List Nat := [0, 0, 3, 7, 0, 0, 48, 127, 255, 511, 1023]
theorem imprimaturref20_Top.tab4 : rtab .any (opsOf Tryd.f23 4) = imprimaturref20_Top.T4 := by kernel_rfl
theorem imprimaturref20_Top.bits4 : waitsOk imprimaturref20_Top.T4.2 imprimaturref20_Top.B4 = true := by kernel_rfl
set_option maxHeartbeats 8000000 in
set_option maxRecDepth 100000 in
theorem imprimaturref20_Top.calls (k : Nat) : ∀ (P0_ : Nat → Prop) (A0 : Option Addr) (c0 : Nat) (l0 : List (List Int)) (r : List Int) (w : World) (hs0 : Kd.V (Kd.slice 5 (Kd.int .u8)) 23 w w.heap.size (fun k_ => P0_ k_) (.slice A0 l0.length c0) l0) (h : imprimaturref20_Top.f k l0 = some r),
  Calls Tryd.prog 23 #[.slice A0 l0.length c0] w fun e w' => ∃ v0_ : Value, e = .returned (v0_) ∧ Kd.V (Kd.int .u8) 5 w' w.heap.size (fun k_ => (P0_ k_ ∨ w.heap.size ≤ k_)) v0_ r ∧ Below w.heap.size w w' := by
 induction k using Nat.strongRecOn with
 | _ k ih =>
 intro P0_ A0 c0 l0 r w hs0 h
 cases k with
 | zero => exact absurd h (by simp [imprimaturref20_Top.f])
 | succ k =>
 simp only [imprimaturref20_Top.f] at h
 have HO0 := Aside0.mk (show Kd.V (Kd.slice 5 (Kd.int .u8)) 23 w w.heap.size (fun k_ => (P0_ k_ ∨ w.heap.size ≤ k_)) (.slice A0 l0.length c0) l0 from Kd.V_mono hs0 (fun k_ hk => .inl hk))
 have HB := Aside0.mk (Below.refl w.heap.size w)
 have H : (if (l0.length : Int) = 1 then (if 0 < (l0.length : Int) then (some (rd_L1 l0 0)) else (none)) else ((imprimaturref06_Half.f k (l0.length : Int)).bind fun t127 => (if 0 ≤ t127 then (if t127 ≤ (l0.length : Int) then ((imprimaturref20_Top.f k (l0.take (t127 : Int).toNat)).bind fun t133 => ((imprimaturref20_Top.f k (l0.drop (t127 : Int).toNat)).bind fun t141 => ((imprimaturref20_text.f 17 t133 t141).bind fun t144 => ((imprimaturref02_Hash256.f t144).bind fun t147 => (some t147))))) else (none)) else (none)))) = some r := h
 clear h
 by_cases c2 : (l0.length : Int) = 1
 ·rw [if_pos c2] at H
  have c2b0 : ((l0.length : Int) == 1) = true := beq_iff_eq.mpr c2
  have c2b1 : ((l0.length : Int) != 1) = false := bne_eq_false_iff_eq.mpr c2
  clear c2
  by_cases c3 : 0 < (l0.length : Int)
  ·rw [if_pos c3] at H
   have c3b0 : decide (0 < (l0.length : Int)) = true := decide_eq_true c3
   have c3b1 : decide (0 < l0.length) = true := decide_eq_true (by omega)
   clear c3
   obtain rfl := Option.some.inj H
   have p126 : 0 ≤ (0 : Int) := (by omega)
   have q126 : 0 < (l0.length : Int) := of_decide_eq_true asm_
   obtain ⟨ad126, A126_0, c126_0, e126, hx126_0, hl126_0, hi126_0⟩ := at_L1 (Kd.V_reads' HO0.out).2.2 0 p126 q126
   cases e126
   obtain ⟨ce126, hce126, hMe126, hcc126⟩ := Kd.V_get HO0.out [] 0 p126 (by first | exact q126 | exact of_decide_eq_true asm_ | (have e_ := (Kd.V_reads' HO0.out).1; omega))
   obtain ⟨ua126_0, uc126_0, rfl, ul126_0, ge126_0⟩ := Kd.FK_slice_open hMe126
   have hv126_0 := hcc126 0 _ rfl
   rw [Nat.add_zero, show ((Kd.slice 5 (Kd.int .u8))).sz = 1 from rfl, Nat.mul_one] at hv126_0
   replace hv126_0 := Option.some.inj (hv126_0.symm.trans hx126_0)
   injection hv126_0 with hva_ hvn_ hvc_
   rw [hva_] at ge126_0
   rw [hvc_] at ul126_0
   have HL126_0 := Aside0.mk (show Kd.V (Kd.int .u8) 5 _ w.heap.size _ _ (rd_L1 l0 0) from Kd.V_mk ul126_0 ge126_0)
   clear hva_ hvn_ hvc_ ge126_0 ul126_0
   clear hcc126 hce126
   have qi126 : (0 < l0.length) = True := eq_true (by omega)
   (try rw [show ((0 : Int)).toNat = 0 from rfl] at hx126_0)
   (try rw [Addr.add_zero'] at hx126_0)
   have HR126_0 := Aside0.mk hi126_0
   have HC126_0 := Aside0.mk hl126_0
   clear hi126_0 hl126_0
   replace p126 := eq_true p126
   replace q126 := eq_true q126
   go_enter Tryd.func23, Tryd.ntmps23
   go_wp2
   go_ret
   exact ⟨_, by first | rfl | (simp [errW_none, errW_some] <;> rfl) | (simp [*, errW_none, errW_some] <;> rfl), by (with_reducible repeat (first | apply Kd.V_alloc | apply Kd.V_drewN | apply Kd.V_drew)); exact HL126_0.out, by repeat (first | (with_reducible first | exact HB.out | apply below_alloc | apply pw_below_drewN | apply below_drew1) | exact HB.out)⟩
  ·rw [if_neg c3] at H
   exact absurd H (by simp)
 ·rw [if_neg c2] at H
  have c2b0 : ((l0.length : Int) == 1) = false := beq_eq_false_iff_ne.mpr c2
  have c2b1 : ((l0.length : Int) != 1) = true := bne_iff_ne.mpr c2
  replace H := Option.bind_eq_some_iff.mp H
  obtain ⟨t127, A40, H⟩ := H
  replace H : (if 0 ≤ t127 then (if t127 ≤ (l0.length : Int) then ((imprimaturref20_Top.f k (l0.take (t127 : Int).toNat)).bind fun t133 => ((imprimaturref20_Top.f k (l0.drop (t127 : Int).toNat)).bind fun t141 => ((imprimaturref20_text.f 17 t133 t141).bind fun t144 => ((imprimaturref02_Hash256.f t144).bind fun t147 => (some t147))))) else (none)) else (none)) = some r := H
  have A4 := Aside0.mk A40
  clear A40
  by_cases c5 : 0 ≤ t127
  ·rw [if_pos c5] at H
   have c5b0 := eq_true c5
   have c5b1 : decide (0 ≤ t127) = true := decide_eq_true c5
   clear c5
   by_cases c6 : t127 ≤ (l0.length : Int)
   ·rw [if_pos c6] at H
    have c6b0 := eq_true c6
    have c6b1 : decide (t127 ≤ (l0.length : Int)) = true := decide_eq_true c6
    clear c6
    obtain ⟨y128, hy128⟩ : ∃ y_ : List (List Int), y_ = (l0.take (t127 : Int).toNat) := ⟨_, rfl⟩
    replace H : ((imprimaturref20_Top.f k y128).bind fun t133 => ((imprimaturref20_Top.f k (l0.drop (t127 : Int).toNat)).bind fun t141 => ((imprimaturref20_text.f 17 t133 t141).bind fun t144 => ((imprimaturref02_Hash256.f t144).bind fun t147 => (some t147))))) = some r := hyA hy128 H
    have Ny128 := Aside0.mk hy128
    clear hy128
    replace H := Option.bind_eq_some_iff.mp H
    obtain ⟨t133, A70, H⟩ := H
    replace H : ((imprimaturref20_Top.f k (l0.drop (t127 : Int).toNat)).bind fun t141 => ((imprimaturref20_text.f 17 t133 t141).bind fun t144 => ((imprimaturref02_Hash256.f t144).bind fun t147 => (some t147)))) = some r := H
    have A7 := Aside0.mk A70
    clear A70
    have c8b0 := eq_true (of_decide_eq_true asm_ : 0 ≤ t127)
    have c9b0 := eq_true (of_decide_eq_true asm_ : t127 ≤ (l0.length : Int))
    obtain ⟨y136, hy136⟩ : ∃ y_ : List (List Int), y_ = (l0.drop (t127 : Int).toNat) := ⟨_, rfl⟩
    replace H : ((imprimaturref20_Top.f k y136).bind fun t141 => ((imprimaturref20_text.f 17 t133 t141).bind fun t144 => ((imprimaturref02_Hash256.f t144).bind fun t147 => (some t147)))) = some r := hyA hy136 H
    have Ny136 := Aside0.mk hy136
    clear hy136
    replace H := Option.bind_eq_some_iff.mp H
    obtain ⟨t141, A100, H⟩ := H
    replace H : ((imprimaturref20_text.f 17 t133 t141).bind fun t144 => ((imprimaturref02_Hash256.f t144).bind fun t147 => (some t147))) = some r := H
    have A10 := Aside0.mk A100
    clear A100
    replace H := Option.bind_eq_some_iff.mp H
    obtain ⟨t144, A110, H⟩ := H
    replace H : ((imprimaturref02_Hash256.f t144).bind fun t147 => (some t147)) = some r := H
    have A11 := Aside0.mk A110
    clear A110
    replace H := Option.bind_eq_some_iff.mp H
    obtain ⟨t147, A120, H⟩ := H
    replace H : (some t147) = some r := H
    have A12 := Aside0.mk A120
    clear A120
    obtain rfl := Option.some.inj H
    go_enter Tryd.func23, Tryd.ntmps23
    try go_wp2_with (first | ((with_reducible refine gate_callee (f := 51) rfl ?_); refine goesL_ (some 12) rfl rfl Tryd.func51 (by kernel_rfl) rfl #[.int .i64 (l0.length : Int)] rfl eqA ?_; (with_reducible refine (imprimaturref06_Half.calls k (l0.length : Int) t127 _ A4.out).mono ?_); rintro e w' ⟨rfl, ⟨nd, rfl⟩⟩; refine ⟨_, rfl, ?_⟩))
    have n0_ := Aside0.mk (Kd.V_drew (Kd.V_drewN HO0.out nd))
    have n1_ := Aside0.mk (below_drew1 (pw_below_drewN HB.out nd))
    clear HO0
    clear HB
    have HO0 := n0_
    have HB := n1_
    clear n0_ n1_
    have q14 : (t127 : Int) ≤ ((l0.length : Int) : Int) := of_decide_eq_true asm_
    obtain ⟨i014, hi014, _, hsz14, _⟩ := info_parts info23
    have hroom14 : l0.length ≤ c0 := (Kd.V_reads' HO0.out).2.1
    have hC14 : Kd.F (Kd.slice 5 (Kd.int .u8)) _ _ A0 l0.length l0 := (Kd.V_at (base := w.heap.size) HO0.out).2.2
    have hcut14 := cut_to (P := Tryd.prog) 22 23 .i64 Tryd.underlying22 hi014 A0 l0.length c0 t127 (of_decide_eq_true asm_) q14 hroom14
    have hr14 := Kd.F_take (m := (t127 : Int).toNat) hC14 (by omega)
    have hy14 : y128.length = (t127 : Int).toNat := (by rw [Ny128.out, List.length_take]; omega)
    rw [← Ny128.out] at hr14
    rw [← hy14] at hcut14
    have HO132 := Aside0.mk (show Kd.V (Kd.slice 5 (Kd.int .u8)) 23 _ w.heap.size _ (.slice A0 y128.length c0) y128 from Kd.V_mk (by omega) hr14)
    have HC132 := Aside0.mk (show y128.length ≤ c0 from by omega)
    clear hr14 hC14 hroom14 hi014 hsz14
    have KY14 := Aside0.mk hy14
    clear hy14
    replace q14 := eq_true q14
    have q15 : (t127 : Int) ≤ ((l0.length : Int) : Int) := of_decide_eq_true asm_
    obtain ⟨i015, hi015, _, hsz15, _⟩ := info_parts info23
    have hroom15 : l0.length ≤ c0 := (Kd.V_reads' HO0.out).2.1
    have hC15 : Kd.F (Kd.slice 5 (Kd.int .u8)) _ _ A0 l0.length l0 := (Kd.V_at (base := w.heap.size) HO0.out).2.2
    have q015 : (0 : Int) ≤ (t127 : Int) := of_decide_eq_true asm_
    have hcut15 := cut_from (P := Tryd.prog) 22 23 .i64 Tryd.underlying22 hi015 1 hsz15 A0 l0.length c0 t127 q015 q15
    have hr15 := Kd.F_cut (m := (t127 : Int).toNat) (c := c0) hC15 (by omega) hroom15
    obtain ⟨A15, hA15⟩ : ∃ A1, A1 = (if c0 = (t127 : Int).toNat then A0 else (A0 : Option Addr).map (·.add ((t127 : Int).toNat * 1))) := ⟨_, rfl⟩
    obtain ⟨c15, hc15⟩ : ∃ c1, c1 = c0 - (t127 : Int).toNat := ⟨_, rfl⟩
    have hy15 : y136.length = l0.length - (t127 : Int).toNat := (by rw [Ny136.out, List.length_drop] <;> omega)
    rw [show (l0).drop (t127 : Int).toNat = y136 from Ny136.out.symm] at hr15
    replace hr15 : Kd.F (Kd.slice 5 (Kd.int .u8)) _ _ A15 y136.length y136 := (by rw [hA15]; exact hr15)
    rw [← hy15, ← hA15, ← hc15] at hcut15
    have HO140 := Aside0.mk (show Kd.V (Kd.slice 5 (Kd.int .u8)) 23 _ w.heap.size _ (.slice A15 y136.length c15) y136 from Kd.V_mk (by rw [hy15, hc15]; exact Nat.sub_le_sub_right hroom15 _) hr15)
    have HC140 := Aside0.mk (show y136.length ≤ c15 from by rw [hy15, hc15]; exact Nat.sub_le_sub_right hroom15 _)
    clear hr15 hC15 hroom15 hi015 hsz15 hc15
    have KY15 := Aside0.mk hy15
    have KA15 := Aside0.mk hA15
    clear hy15 hA15
    replace q15 := eq_true q15
    refine start_ (n := 11) (S := fun w' => True) (ds := []) (fl 11 0) (by kernel_rfl) rfl rfl trivial (fun hHeld => ?_); refine with_tabW imprimaturref20_Top.tab4 imprimaturref20_Top.bits4 (fun HT_ HW_ => ?_)
    generalize (w.drewN nd).drew = w13 at HO0 HB HO132 HO140 hHeld ⊢
    refine pureA (i := 0) (N := some 13) (fl 11 1) (any_of HT_.out (by kernel_rfl)) ?_
    refine pureA (i := 1) (N := some 14) (fl 11 3) (any_of HT_.out (by kernel_rfl)) ?_
    refine pureA (i := 2) (N := some 15) (fl 11 7) (any_of HT_.out (by kernel_rfl)) ?_
    refine pureA (i := 4) (N := some 17) (fl 11 23) (any_of HT_.out (by kernel_rfl)) ?_
    refine pureA (i := 5) (N := some 18) (fl 11 55) (any_of HT_.out (by kernel_rfl)) ?_
    refine pureA (i := 6) (N := some 19) (fl 11 119) (any_of HT_.out (by kernel_rfl)) ?_
    refine one_ (i := 3) (N := some 16) (fl 11 127) rfl rfl (one_of HT_.out (by kernel_rfl)) (by decide) (fun K hK => ?_)
    refine goes_ Tryd.func23 (by kernel_rfl) rfl #[.slice A0 y128.length c0] (by rfl) rfl rfl eqA ?_
    with_reducible refine (ih k (by omega) (fun k_ => (P0_ k_ ∨ w.heap.size ≤ k_)) _ _ y128 t133 _ ?side1 A7.out).mono ?_
    (case side1 => exact HO132.out)
    rintro e w16 ⟨v134, rfl, ho0, hb⟩
    refine ⟨_, rfl, ?_⟩
    have n0_ := Aside0.mk (Kd.V_below (vL HO0.out) hb)
    have n1_ := Aside0.mk (Kd.V_below (vL HO132.out) hb)
    have n2_ := Aside0.mk (Kd.V_below (vL HO140.out) hb)
    have n3_ := Aside0.mk (Kd.V_lower (Kd.V_mono (ok' := fun k_ => (P0_ k_ ∨ w.heap.size ≤ k_)) ho0 (fun k_ hk_ => Or.elim hk_ (fun hs_ => hs_) (fun hn_ => (.inr (Nat.le_trans (below_size bel) hn_))))) (below_size bel))
    have n4_ := Aside0.mk (below_step bel hb)
    clear HO0
    clear HO132
    clear HO140
    clear HB
    have HO0 := n0_
    have HO132 := n1_
    have HO140 := n2_
    have HO135 := n3_
    have HB := n4_
    clear n0_ n1_ n2_ n3_ n4_
    (try clear hb)
    (try clear hb2)
    (try clear hk)
    (try clear hi)
    (try clear ho0)
    refine hK.out _ _ trivial (fun hHeld => ?_)
    clear hK K
    refine normA (some 16) ?_
    refine one_ (i := 7) (N := some 20) (fl 11 255) rfl rfl (one_of HT_.out (by kernel_rfl)) (by decide) (fun K hK => ?_)
    refine goes_ Tryd.func23 (by kernel_rfl) rfl #[.slice A15 y136.length c15] (by rfl) rfl rfl eqA ?_
    with_reducible refine (ih k (by omega) (fun k_ => (P0_ k_ ∨ w.heap.size ≤ k_)) _ _ y136 t141 _ ?side1 A10.out).mono ?_
    (case side1 => exact HO140.out)
    rintro e w17 ⟨v142, rfl, ho0, hb⟩
    refine ⟨_, rfl, ?_⟩
    have n0_ := Aside0.mk (Kd.V_below (vL HO0.out) hb)
    have n1_ := Aside0.mk (Kd.V_below (vL HO132.out) hb)
    have n2_ := Aside0.mk (Kd.V_below (vL HO140.out) hb)
    have n3_ := Aside0.mk (Kd.V_below (vL HO135.out) hb)
    have n4_ := Aside0.mk (Kd.V_lower (Kd.V_mono (ok' := fun k_ => (P0_ k_ ∨ w.heap.size ≤ k_)) ho0 (fun k_ hk_ => Or.elim hk_ (fun hs_ => hs_) (fun hn_ => (.inr (Nat.le_trans (below_size bel) hn_))))) (below_size bel))
    have n5_ := Aside0.mk (below_step bel hb)
    clear HO0
    clear HO132
    clear HO140
    clear HO135
    clear HB
    have HO0 := n0_
    have HO132 := n1_
    have HO140 := n2_
    have HO135 := n3_
    have HO143 := n4_
    have HB := n5_
    clear n0_ n1_ n2_ n3_ n4_ n5_
    (try clear hb)
    (try clear hb2)
    (try clear hk)
    (try clear hi)
    (try clear ho0)
    obtain ⟨Ao18, co18, eo18⟩ := Kd.V_slice HO135.out
    (first | subst eo18 | (injection eo18 with f1_ f2_ f3_; have f4_ := f1_.symm; have f5_ := f3_.symm; clear f1_ f2_ f3_; subst f4_; subst f5_))
    obtain ⟨Ao19, co19, eo19⟩ := Kd.V_slice HO143.out
    (first | subst eo19 | (injection eo19 with f1_ f2_ f3_; have f4_ := f1_.symm; have f5_ := f3_.symm; clear f1_ f2_ f3_; subst f4_; subst f5_))
    refine hK.out _ _ trivial (fun hHeld => ?_)
    clear hK K
    refine normA (some 20) ?_
    refine one_ (i := 8) (N := some 21) (fl 11 511) rfl rfl (one_of HT_.out (by kernel_rfl)) (by decide) (fun K hK => ?_)
    refine goes_ Tryd.func52 (by kernel_rfl) rfl #[.int .u8 17, .slice Ao18 t133.length co18, .slice Ao19 t141.length co19] (by rfl) rfl rfl eqA ?_
    with_reducible refine (imprimaturref20_text.calls 17 _ _ t133 _ _ t141 t144 _ ?side1 ?side2 ?side3 ?side4 A11.out).mono ?_
    (case side1 => exact cL (Kd.V_reads' HO135.out).2.2)
    (case side2 => exact (Kd.V_reads' HO135.out).2.1)
    (case side3 => exact cL (Kd.V_reads' HO143.out).2.2)
    (case side4 => exact (Kd.V_reads' HO143.out).2.1)
    rintro e w20 ⟨v145, rfl, ho0, hb⟩
    refine ⟨_, rfl, ?_⟩
    have n0_ := Aside0.mk (Kd.V_elder' (vL HO0.out) (Kd.R_base ho0) hb)
    have n1_ := Aside0.mk (Kd.V_elder' (vL HO132.out) (Kd.R_base ho0) hb)
    have n2_ := Aside0.mk (Kd.V_elder' (vL HO140.out) (Kd.R_base ho0) hb)
    have n3_ := Aside0.mk (Kd.V_elder' (vL HO135.out) (Kd.R_base ho0) hb)
    have n4_ := Aside0.mk (Kd.V_elder' (vL HO143.out) (Kd.R_base ho0) hb)
    have n5_ := Aside0.mk (Kd.R_lower (Kd.R_newM (M := fun k_ => (w.heap.size ≤ k_)) ho0 (below_size bel) (fun k_ h_ => h_)) (below_size bel))
    have n6_ := Aside0.mk (below_step bel hb)
    clear HO0
    clear HO132
    clear HO140
    clear HO135
    clear HO143
    clear HB
    have HO0 := n0_
    have HO132 := n1_
    have HO140 := n2_
    have HO135 := n3_
    have HO143 := n4_
    have HO146 := n5_
    have HB := n6_
    clear n0_ n1_ n2_ n3_ n4_ n5_ n6_
    (try clear hb)
    (try clear hb2)
    (try clear hk)
    (try clear hi)
    (try clear ho0)
    obtain ⟨Ao21, co21, eo21⟩ := Kd.R_slice HO146.out
    (first | subst eo21 | (injection eo21 with f1_ f2_ f3_; have f4_ := f1_.symm; have f5_ := f3_.symm; clear f1_ f2_ f3_; subst f4_; subst f5_))
    refine hK.out _ _ trivial (fun hHeld => ?_)
    clear hK K
    refine normA (some 21) ?_
    refine one_ (i := 9) (N := some 22) (fl 11 1023) rfl rfl (one_of HT_.out (by kernel_rfl)) (by decide) (fun K hK => ?_)
    refine goes_ Tryd.func50 (by kernel_rfl) rfl #[.slice Ao21 t144.length co21] (by rfl) rfl rfl eqA ?_
    with_reducible refine (imprimaturref02_Hash256.calls _ _ t144 t147 _ ?side1 ?side2 A12.out).mono ?_
    (case side1 => exact cL (Kd.R_reads' HO146.out).2.2)
    (case side2 => exact (Kd.R_reads' HO146.out).2.1)
    rintro e w22 ⟨v148, rfl, ho0, hb⟩
    refine ⟨_, rfl, ?_⟩
    have n0_ := Aside0.mk (Kd.V_elder' (vL HO0.out) (Kd.R_base ho0) hb)
    have n1_ := Aside0.mk (Kd.V_elder' (vL HO132.out) (Kd.R_base ho0) hb)
    have n2_ := Aside0.mk (Kd.V_elder' (vL HO140.out) (Kd.R_base ho0) hb)
    have n3_ := Aside0.mk (Kd.V_elder' (vL HO135.out) (Kd.R_base ho0) hb)
    have n4_ := Aside0.mk (Kd.V_elder' (vL HO143.out) (Kd.R_base ho0) hb)
    have n5_ := Aside0.mk (Kd.R_elder' (rL HO146.out) (Kd.R_base ho0) hb)
    have n6_ := Aside0.mk (Kd.R_lower (Kd.R_new' (Kd.R_newM (M := fun k_ => (w.heap.size ≤ k_)) ho0 (below_size bel) (fun k_ h_ => h_)) (Kd.R_lt (rL HO146.out))) (below_size bel))
    have n7_ := Aside0.mk (below_step bel hb)
    clear HO0
    clear HO132
    clear HO140
    clear HO135
    clear HO143
    clear HO146
    clear HB
    have HO0 := n0_
    have HO132 := n1_
    have HO140 := n2_
    have HO135 := n3_
    have HO143 := n4_
    have HO146 := n5_
    have HO149 := n6_
    have HB := n7_
    clear n0_ n1_ n2_ n3_ n4_ n5_ n6_ n7_
    (try clear hb)
    (try clear hb2)
    (try clear hk)
    (try clear hi)
    (try clear ho0)
    refine hK.out _ _ trivial (fun hHeld => ?_)
    clear hK K
    refine normA (some 22) ?_
    refine pureA (i := 10) (N := some 2) (fl 11 2047) (any_of HT_.out (by kernel_rfl)) ?_
    refine done_ (done_of HT_.out (by kernel_rfl)) ?_
    try go_wp2
    go_ret
    exact ⟨_, by first | rfl | (simp [errW_none, errW_some] <;> rfl) | (simp [*, errW_none, errW_some] <;> rfl), Kd.V_mono (Kd.R_V (by (with_reducible repeat (first | apply Kd.R_alloc | apply Kd.R_drewN | apply Kd.R_drew)); exact Kd.R_mono HO149.out (fun _ hk => hk.1.1))) (fun k_ hk => by first | exact ⟨(.inr (hk.1)), hk.2⟩ | exact (.inr (hk))), by repeat (first | (with_reducible first | exact HB.out | apply below_alloc | apply pw_below_drewN | apply below_drew1) | exact HB.out)⟩
   ·rw [if_neg c6] at H
    exact absurd H (by simp)
  ·rw [if_neg c5] at H
   exact absurd H (by simp)

/-! ### imprimaturref20_HeadText: function 37 -/
def imprimaturref20_HeadText.f (k : Nat) (a0 : Int) (l1 : List Int) : Option (List Int) := (imprimaturref06_Eight.f k a0).bind fun t150 => ((imprimaturref20_text.f 18 t150 l1).bind fun t153 => (some t153))
theorem imprimaturref20_HeadText.mono : ∀ a0 a1 k, LeO (imprimaturref20_HeadText.f k a0 a1) (imprimaturref20_HeadText.f (k + 1) a0 a1) := by
 intro a0 a1 k
 unfold imprimaturref20_HeadText.f
 repeat' first
   | (with_reducible exact imprimaturref06_Eight.mono _ _)
   | (with_reducible exact LeO.refl _)
   | (with_reducible exact LeO.none _)
   | (with_reducible refine LeO.ite ?_ ?_)
   | (with_reducible refine LeO.bind ?_ (fun _ => ?_))
   | exact imprimaturref06_Eight.mono _ _
   | exact LeO.none _
   | refine LeO.ite ?_ ?_
   | refine LeO.bind ?_ (fun _ => ?_)
set_option maxHeartbeats 8000000 in
set_option maxRecDepth 100000 in
theorem imprimaturref20_HeadText.calls (k : Nat) (a0 : Int) (A1 : Option Addr) (c1 : Nat) (l1 : List Int) (r : List Int) (w : World) (hr1 : Kd.C (Kd.int .u8) w A1 l1.length l1) (hc1 : l1.length ≤ c1) (h : imprimaturref20_HeadText.f k a0 l1 = some r) :
  Calls Tryd.prog 37 #[.int .i64 a0, .slice A1 l1.length c1] w fun e w' => ∃ v0_ : Value, e = .returned (v0_) ∧ Kd.R (Kd.int .u8) 5 w' w.heap.size (fun _ => True) v0_ r ∧ Below w.heap.size w w' := by
 have HR1 := Aside0.mk hr1
 have HC1 := Aside0.mk hc1
 clear hr1 hc1
 have HB := Aside0.mk (Below.refl w.heap.size w)
 have H : ((imprimaturref06_Eight.f k a0).bind fun t150 => ((imprimaturref20_text.f 18 t150 l1).bind fun t153 => (some t153))) = some r := h
 clear h
 replace H := Option.bind_eq_some_iff.mp H
 obtain ⟨t150, A30, H⟩ := H
 replace H : ((imprimaturref20_text.f 18 t150 l1).bind fun t153 => (some t153)) = some r := H
 have A3 := Aside0.mk A30
 clear A30
 replace H := Option.bind_eq_some_iff.mp H
 obtain ⟨t153, A40, H⟩ := H
 replace H : (some t153) = some r := H
 have A4 := Aside0.mk A40
 clear A40
 obtain rfl := Option.some.inj H
 go_enter Tryd.func37, Tryd.ntmps37
 go_wp2_with (first | ((with_reducible refine gate_callee (f := 62) rfl ?_); refine goesL_ (some 6) rfl rfl Tryd.func62 (by kernel_rfl) rfl #[.int .i64 a0] rfl eqA ?_; (with_reducible refine (imprimaturref06_Eight.calls k a0 t150 _ A3.out).mono ?_); rintro e w5 ⟨v151, rfl, ho0, hb⟩; refine ⟨_, rfl, ?_⟩; have n0_ := Aside0.mk (Kd.R_lower ho0 (below_size bel)); have n1_ := Aside0.mk (below_step bel hb); clear HB; have HO152 := n0_; have HB := n1_; clear n0_ n1_; (try clear hb); (try clear hb2); (try clear hk); (try clear hi); (try clear ho0); obtain ⟨Ao6, co6, eo6⟩ := Kd.R_slice HO152.out; subst eo6) | ((with_reducible refine gate_callee (f := 52) rfl ?_); refine goesL_ (some 8) rfl rfl Tryd.func52 (by kernel_rfl) rfl #[.int .u8 18, .slice Ao6 t150.length co6, .slice A1 l1.length c1] rfl eqA ?_; (with_reducible refine (imprimaturref20_text.calls 18 _ _ t150 _ _ l1 t153 _ ?side1 ?side2 ?side3 ?side4 A4.out).mono ?_); (case side1 => exact cL (Kd.R_reads' HO152.out).2.2); (case side2 => exact (Kd.R_reads' HO152.out).2.1); (case side3 => exact cL (Kd.C_below HR1.out HB.out)); (case side4 => exact HC1.out); rintro e w7 ⟨v154, rfl, ho0, hb⟩; refine ⟨_, rfl, ?_⟩; have n0_ := Aside0.mk (Kd.R_elder' (rL HO152.out) (Kd.R_base ho0) hb); have n1_ := Aside0.mk (Kd.R_lower (Kd.R_new' ho0 (Kd.R_lt (rL HO152.out))) (below_size bel)); have n2_ := Aside0.mk (below_step bel hb); clear HO152; clear HB; have HO152 := n0_; have HO155 := n1_; have HB := n2_; clear n0_ n1_ n2_; (try clear hb); (try clear hb2); (try clear hk); (try clear hi); (try clear ho0)))
 go_ret
 exact ⟨_, by first | rfl | (simp [errW_none, errW_some] <;> rfl) | (simp [*, errW_none, errW_some] <;> rfl), by (with_reducible repeat (first | apply Kd.R_alloc | apply Kd.R_drewN | apply Kd.R_drew)); exact Kd.R_mono HO155.out (fun _ hk => trivial), by repeat (first | (with_reducible first | exact HB.out | apply below_alloc | apply pw_below_drewN | apply below_drew1) | exact HB.out)⟩

/-! ### imprimaturref20_Head: function 22 -/
def imprimaturref20_Head.f (k : Nat) (l0 : List (List Int)) : Option (List Int) := if (l0.length : Int) = 0 then ((imprimaturref20_HeadText.f k 0 ([] : List Int)).bind fun t156 => ((imprimaturref02_Hash256.f t156).bind fun t159 => (some t159))) else ((imprimaturref20_Top.f k l0).bind fun t162 => ((imprimaturref20_HeadText.f k (l0.length : Int) t162).bind fun t165 => ((imprimaturref02_Hash256.f t165).bind fun t168 => (some t168))))
theorem imprimaturref20_Head.mono : ∀ a0 k, LeO (imprimaturref20_Head.f k a0) (imprimaturref20_Head.f (k + 1) a0) := by
 intro a0 k
 unfold imprimaturref20_Head.f
 repeat' first
   | (with_reducible exact imprimaturref20_HeadText.mono _ _ _)
   | (with_reducible exact imprimaturref20_Top.mono _ _)
   | (with_reducible exact LeO.refl _)
   | (with_reducible exact LeO.none _)
   | (with_reducible refine LeO.ite ?_ ?_)
   | (with_reducible refine LeO.bind ?_ (fun _ => ?_))
   | exact imprimaturref20_HeadText.mono _ _ _
   | exact imprimaturref20_Top.mono _ _
   | exact LeO.none _
   | refine LeO.ite ?_ ?_
   | refine LeO.bind ?_ (fun _ => ?_)
set_option maxHeartbeats 8000000 in
set_option maxRecDepth 100000 in
theorem imprimaturref20_Head.calls (k : Nat) (A0 : Option Addr) (c0 : Nat) (l0 : List (List Int)) (r : List Int) (w : World) (hr0 : Kd.C (Kd.slice 5 (Kd.int .u8)) w A0 l0.length l0) (hc0 : l0.length ≤ c0) (h : imprimaturref20_Head.f k l0 = some r) :
  Calls Tryd.prog 22 #[.slice A0 l0.length c0] w fun e w' => ∃ v0_ : Value, e = .returned (v0_) ∧ Kd.R (Kd.int .u8) 5 w' w.heap.size (fun _ => True) v0_ r ∧ Below w.heap.size w w' := by
 have HR0 := Aside0.mk hr0
 have HC0 := Aside0.mk hc0
 clear hr0 hc0
 have HB := Aside0.mk (Below.refl w.heap.size w)
 have H : (if (l0.length : Int) = 0 then ((imprimaturref20_HeadText.f k 0 ([] : List Int)).bind fun t156 => ((imprimaturref02_Hash256.f t156).bind fun t159 => (some t159))) else ((imprimaturref20_Top.f k l0).bind fun t162 => ((imprimaturref20_HeadText.f k (l0.length : Int) t162).bind fun t165 => ((imprimaturref02_Hash256.f t165).bind fun t168 => (some t168))))) = some r := h
 clear h
 by_cases c2 : (l0.length : Int) = 0
 ·rw [if_pos c2] at H
  have c2b0 : ((l0.length : Int) == 0) = true := beq_iff_eq.mpr c2
  have c2b1 : ((l0.length : Int) != 0) = false := bne_eq_false_iff_eq.mpr c2
  clear c2
  replace H := Option.bind_eq_some_iff.mp H
  obtain ⟨t156, A30, H⟩ := H
  replace H : ((imprimaturref02_Hash256.f t156).bind fun t159 => (some t159)) = some r := H
  have A3 := Aside0.mk A30
  clear A30
  replace H := Option.bind_eq_some_iff.mp H
  obtain ⟨t159, A40, H⟩ := H
  replace H : (some t159) = some r := H
  have A4 := Aside0.mk A40
  clear A40
  obtain rfl := Option.some.inj H
  go_enter Tryd.func22, Tryd.ntmps22
  go_wp2_with (first | ((with_reducible refine gate_callee (f := 37) rfl ?_); refine goesL_ (some 6) rfl rfl Tryd.func37 (by kernel_rfl) rfl #[.int .i64 0, .slice none 0 0] rfl eqA ?_; (refine (imprimaturref20_HeadText.calls k 0 _ _ ([] : List Int) t156 _ ?side1 ?side2 A3.out).mono ?_); (case side1 => exact Kd.C_nil _ _); (case side2 => exact Nat.le_refl _); rintro e w5 ⟨v157, rfl, ho0, hb⟩; refine ⟨_, rfl, ?_⟩; have n0_ := Aside0.mk (Kd.R_lower ho0 (below_size bel)); have n1_ := Aside0.mk (below_step bel hb); clear HB; have HO158 := n0_; have HB := n1_; clear n0_ n1_; (try clear hb); (try clear hb2); (try clear hk); (try clear hi); (try clear ho0); obtain ⟨Ao6, co6, eo6⟩ := Kd.R_slice HO158.out; subst eo6) | ((with_reducible refine gate_callee (f := 50) rfl ?_); refine goesL_ (some 7) rfl rfl Tryd.func50 (by kernel_rfl) rfl #[.slice Ao6 t156.length co6] rfl eqA ?_; (with_reducible refine (imprimaturref02_Hash256.calls _ _ t156 t159 _ ?side1 ?side2 A4.out).mono ?_); (case side1 => exact cL (Kd.R_reads' HO158.out).2.2); (case side2 => exact (Kd.R_reads' HO158.out).2.1); rintro e w7 ⟨v160, rfl, ho0, hb⟩; refine ⟨_, rfl, ?_⟩; have n0_ := Aside0.mk (Kd.R_elder' (rL HO158.out) (Kd.R_base ho0) hb); have n1_ := Aside0.mk (Kd.R_lower (Kd.R_new' ho0 (Kd.R_lt (rL HO158.out))) (below_size bel)); have n2_ := Aside0.mk (below_step bel hb); clear HO158; clear HB; have HO158 := n0_; have HO161 := n1_; have HB := n2_; clear n0_ n1_ n2_; (try clear hb); (try clear hb2); (try clear hk); (try clear hi); (try clear ho0)))
  go_ret
  exact ⟨_, by first | rfl | (simp [errW_none, errW_some] <;> rfl) | (simp [*, errW_none, errW_some] <;> rfl), by (with_reducible repeat (first | apply Kd.R_alloc | apply Kd.R_drewN | apply Kd.R_drew)); exact Kd.R_mono HO161.out (fun _ hk => trivial), by repeat (first | (with_reducible first | exact HB.out | apply below_alloc | apply pw_below_drewN | apply below_drew1) | exact HB.out)⟩
 ·rw [if_neg c2] at H
  have c2b0 : ((l0.length : Int) == 0) = false := beq_eq_false_iff_ne.mpr c2
  have c2b1 : ((l0.length : Int) != 0) = true := bne_iff_ne.mpr c2
  have c2b2 : ¬ (l0 = []) := fun h_ => c2 (by rw [h_]; rfl)
  replace H := Option.bind_eq_some_iff.mp H
  obtain ⟨t162, A80, H⟩ := H
  replace H : ((imprimaturref20_HeadText.f k (l0.length : Int) t162).bind fun t165 => ((imprimaturref02_Hash256.f t165).bind fun t168 => (some t168))) = some r := H
  have A8 := Aside0.mk A80
  clear A80
  replace H := Option.bind_eq_some_iff.mp H
  obtain ⟨t165, A90, H⟩ := H
  replace H : ((imprimaturref02_Hash256.f t165).bind fun t168 => (some t168)) = some r := H
  have A9 := Aside0.mk A90
  clear A90
  replace H := Option.bind_eq_some_iff.mp H
  obtain ⟨t168, A100, H⟩ := H
  replace H : (some t168) = some r := H
  have A10 := Aside0.mk A100
  clear A100
  obtain rfl := Option.some.inj H
  go_enter Tryd.func22, Tryd.ntmps22
  go_wp2_with (first | ((with_reducible refine gate_callee (f := 23) rfl ?_); refine goesL_ (some 11) rfl rfl Tryd.func23 (by kernel_rfl) rfl #[.slice A0 l0.length c0] rfl eqA ?_; (with_reducible refine (imprimaturref20_Top.calls k (fun k_ => k_ < w.heap.size) _ _ l0 t162 _ ?side1 A8.out).mono ?_); (case side1 => exact Kd.V_mk HC0.out (Kd.F_below (Kd.C_F (Kd.heap_slice 5 (Kd.heap_int .u8)) HR0.out) bel)); rintro e w11 ⟨v163, rfl, ho0, hb⟩; refine ⟨_, rfl, ?_⟩; have n0_ := Aside0.mk (Kd.V_lower (Kd.V_mono (ok' := fun k_ => True) ho0 (fun k_ hk_ => trivial)) (below_size bel)); have n1_ := Aside0.mk (below_step bel hb); clear HB; have HO164 := n0_; have HB := n1_; clear n0_ n1_; (try clear hb); (try clear hb2); (try clear hk); (try clear hi); (try clear ho0); obtain ⟨Ao12, co12, eo12⟩ := Kd.V_slice HO164.out; subst eo12) | ((with_reducible refine gate_callee (f := 37) rfl ?_); refine goesL_ (some 12) rfl rfl Tryd.func37 (by kernel_rfl) rfl #[.int .i64 (l0.length : Int), .slice Ao12 t162.length co12] rfl eqA ?_; (with_reducible refine (imprimaturref20_HeadText.calls k (l0.length : Int) _ _ t162 t165 _ ?side1 ?side2 A9.out).mono ?_); (case side1 => exact cL (Kd.V_reads' HO164.out).2.2); (case side2 => exact (Kd.V_reads' HO164.out).2.1); rintro e w13 ⟨v166, rfl, ho0, hb⟩; refine ⟨_, rfl, ?_⟩; have n0_ := Aside0.mk (Kd.V_elder' (vL HO164.out) (Kd.R_base ho0) hb); have n1_ := Aside0.mk (Kd.R_lower ho0 (below_size bel)); have n2_ := Aside0.mk (below_step bel hb); clear HO164; clear HB; have HO164 := n0_; have HO167 := n1_; have HB := n2_; clear n0_ n1_ n2_; (try clear hb); (try clear hb2); (try clear hk); (try clear hi); (try clear ho0); obtain ⟨Ao14, co14, eo14⟩ := Kd.R_slice HO167.out; subst eo14) | ((with_reducible refine gate_callee (f := 50) rfl ?_); refine goesL_ (some 13) rfl rfl Tryd.func50 (by kernel_rfl) rfl #[.slice Ao14 t165.length co14] rfl eqA ?_; (with_reducible refine (imprimaturref02_Hash256.calls _ _ t165 t168 _ ?side1 ?side2 A10.out).mono ?_); (case side1 => exact cL (Kd.R_reads' HO167.out).2.2); (case side2 => exact (Kd.R_reads' HO167.out).2.1); rintro e w15 ⟨v169, rfl, ho0, hb⟩; refine ⟨_, rfl, ?_⟩; have n0_ := Aside0.mk (Kd.V_elder' (vL HO164.out) (Kd.R_base ho0) hb); have n1_ := Aside0.mk (Kd.R_elder' (rL HO167.out) (Kd.R_base ho0) hb); have n2_ := Aside0.mk (Kd.R_lower (Kd.R_new' ho0 (Kd.R_lt (rL HO167.out))) (below_size bel)); have n3_ := Aside0.mk (below_step bel hb); clear HO164; clear HO167; clear HB; have HO164 := n0_; have HO167 := n1_; have HO170 := n2_; have HB := n3_; clear n0_ n1_ n2_ n3_; (try clear hb); (try clear hb2); (try clear hk); (try clear hi); (try clear ho0)))
  go_ret
  exact ⟨_, by first | rfl | (simp [errW_none, errW_some] <;> rfl) | (simp [*, errW_none, errW_some] <;> rfl), by (with_reducible repeat (first | apply Kd.R_alloc | apply Kd.R_drewN | apply Kd.R_drew)); exact Kd.R_mono HO170.out (fun _ hk => trivial), by repeat (first | (with_reducible first | exact HB.out | apply below_alloc | apply pw_below_drewN | apply below_drew1) | exact HB.out)⟩

end Go.Proofs.YtcnpdapampclpaaDoor.PRb
