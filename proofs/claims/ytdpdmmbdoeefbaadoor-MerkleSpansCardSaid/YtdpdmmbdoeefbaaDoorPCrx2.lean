-- Written by a program of this session, after the print of the kit.
import Derived.Test.YtdpdmmbdoeefbaaDoorWC
import Derived.Test.YtdpdmmbdoeefbaaDoorPCrx0
import Derived.Test.YtdpdmmbdoeefbaaDoorPCrx1
namespace Go.Proofs.YtdpdmmbdoeefbaaDoor.PCr
open Go.RowKit X PCut PCa PCs PCo YtdpdmmbdoeefbaaDoorW.PrintWords YtdpdmmbdoeefbaaDoorW.PrintLast YtdpdmmbdoeefbaaDoorW.PrintMore
attribute [local go_sem] max2_int min2_int max_two min_two max_three min_three max_four min_four   -- for this text's walks alone
set_option linter.unusedVariables false
set_option linter.unusedSimpArgs false

/-! ### merkle_outer: function 67 -/
def merkle_outer.f : Nat → List (List Int) → Int → Int → Int → Int → Option ((List (List Int)))
 | 0, _, _, _, _, _ => none
 | k + 1, l0, a1_0, a1_1, a2, a3 => (merkle_span_outside.f a1_0 a1_1 a2 a3).bind fun t109 => (if t109 = true then (if 0 ≤ a1_0 then (if a1_0 ≤ (wrap64 (a1_0 + a1_1)) then (if (wrap64 (a1_0 + a1_1)) ≤ (l0.length : Int) then ((merkle_top.f k ((l0.take ((wrap64 (a1_0 + a1_1)) : Int).toNat).drop (a1_0 : Int).toNat)).bind fun t115 => (if ([] : List Int).length + t115.length < 140737488355328 then (some (([(([] : List Int) ++ t115)] : List (List Int)))) else (none))) else (none)) else (none)) else (none)) else ((merkle_span_inside.f a1_0 a1_1 a2 a3).bind fun t124 => (if t124 = true then (some ([] : List (List Int))) else ((merkle_span_halves.f a1_0 a1_1).bind fun bt125 => ((merkle_outer.f k l0 bt125.1 bt125.2.1 a2 a3).bind fun t131 => ((merkle_outer.f k l0 bt125.2.2.1 bt125.2.2.2 a2 a3).bind fun t134 => (if t131.length + t134.length < 5864062014805 then (some (t131 ++ t134)) else (none))))))))
theorem merkle_outer.mono_l : ∀ k, (∀ y0 y1 y2 y3 y4, LeO (merkle_outer.f k y0 y1 y2 y3 y4) (merkle_outer.f (k + 1) y0 y1 y2 y3 y4))
 | 0 => fun _ _ _ _ _ r h => by simp [merkle_outer.f] at h
 | k + 1 => by
  have ih0 := merkle_outer.mono_l k
  intro y0 y1 y2 y3 y4
  unfold merkle_outer.f
  repeat' first
  | (with_reducible exact ih0 _ _ _ _ _)
  | (with_reducible exact merkle_top.mono _ _)
  | (with_reducible exact LeO.refl _)
  | (with_reducible exact LeO.none _)
  | (with_reducible refine LeO.ite ?_ ?_)
  | (with_reducible refine LeO.bind ?_ (fun _ => ?_))
theorem merkle_outer.mono : ∀ a0 a1 a2 a3 a4 k, LeO (merkle_outer.f k a0 a1 a2 a3 a4) (merkle_outer.f (k + 1) a0 a1 a2 a3 a4) := by
 intro a0 a1 a2 a3 a4 k
 have ih0 := merkle_outer.mono_l k
 exact ih0 a0 a1 a2 a3 a4
def merkle_outer.T6 : Bool × List (List Nat × List Nat) := (true, [([], []), ([], []), ([], []), ([], []), ([0, 1, 2, 3], [0, 1, 2, 3]), ([], []), ([], []), ([], []), ([], []), ([5, 6, 7, 8, 4], [5, 6, 7, 8]), ([4, 9, 9], [4, 9]), ([10, 10, 0, 1, 2, 3, 4, 5, 6, 7, 8, 9, 10], [10])])
def merkle_outer.B6 : List Nat := [0, 0, 0, 0, 15, 0, 0, 0, 0, 511, 1023, 2047]
theorem merkle_outer.tab6 : rtab .any (opsOf Tryd.f67 6) = merkle_outer.T6 := by kernel_rfl
theorem merkle_outer.bits6 : waitsOk merkle_outer.T6.2 merkle_outer.B6 = true := by kernel_rfl
set_option maxHeartbeats 8000000 in
set_option maxRecDepth 100000 in
theorem merkle_outer.calls (k : Nat) : ∀ (P0_ : Nat → Prop) (A0 : Option Addr) (c0 : Nat) (l0 : List (List Int)) (a1_0 : Int) (a1_1 : Int) (a2 : Int) (a3 : Int) (r : List (List Int)) (w : World) (HG : Glb w) (hs0 : Kd.V (Kd.slice 5 (Kd.int .u8)) 22 w w.heap.size (fun k_ => P0_ k_) (.slice A0 l0.length c0) l0) (h : merkle_outer.f k l0 a1_0 a1_1 a2 a3 = some r),
  Calls Tryd.prog 67 #[.slice A0 l0.length c0, .agg #[.int .i64 a1_0, .int .i64 a1_1], .int .i64 a2, .int .i64 a3] w fun e w' => ∃ v0_ : Value, e = .returned (v0_) ∧ Kd.N (Kd.slice 5 (Kd.int .u8)) 22 w' w.heap.size (fun k_ => (P0_ k_ ∨ w.heap.size ≤ k_)) v0_ r ∧ Below w.heap.size w w' := by
 induction k using Nat.strongRecOn with
 | _ k ih =>
 intro P0_ A0 c0 l0 a1_0 a1_1 a2 a3 r w HG hs0 h
 cases k with
 | zero => exact absurd h (by simp [merkle_outer.f])
 | succ k =>
 simp only [merkle_outer.f] at h
 have hu81 := Tryd.underlying81
 have HO0 := aM (show Kd.V (Kd.slice 5 (Kd.int .u8)) 22 w w.heap.size (fun k_ => (P0_ k_ ∨ w.heap.size ≤ k_)) (.slice A0 l0.length c0) l0 from Kd.V_mono hs0 (fun k_ hk => .inl hk))
 have HB := aM (Below.refl w.heap.size w)
 have H : ((merkle_span_outside.f a1_0 a1_1 a2 a3).bind fun t109 => (if t109 = true then (if 0 ≤ a1_0 then (if a1_0 ≤ (wrap64 (a1_0 + a1_1)) then (if (wrap64 (a1_0 + a1_1)) ≤ (l0.length : Int) then ((merkle_top.f k ((l0.take ((wrap64 (a1_0 + a1_1)) : Int).toNat).drop (a1_0 : Int).toNat)).bind fun t115 => (if ([] : List Int).length + t115.length < 140737488355328 then (some (([(([] : List Int) ++ t115)] : List (List Int)))) else (none))) else (none)) else (none)) else (none)) else ((merkle_span_inside.f a1_0 a1_1 a2 a3).bind fun t124 => (if t124 = true then (some ([] : List (List Int))) else ((merkle_span_halves.f a1_0 a1_1).bind fun bt125 => ((merkle_outer.f k l0 bt125.1 bt125.2.1 a2 a3).bind fun t131 => ((merkle_outer.f k l0 bt125.2.2.1 bt125.2.2.2 a2 a3).bind fun t134 => (if t131.length + t134.length < 5864062014805 then (some (t131 ++ t134)) else (none))))))))) = some r := h
 clear h
 replace H := Option.bind_eq_some_iff.mp H
 obtain ⟨t109, A50, H⟩ := H
 replace H : (if t109 = true then (if 0 ≤ a1_0 then (if a1_0 ≤ (wrap64 (a1_0 + a1_1)) then (if (wrap64 (a1_0 + a1_1)) ≤ (l0.length : Int) then ((merkle_top.f k ((l0.take ((wrap64 (a1_0 + a1_1)) : Int).toNat).drop (a1_0 : Int).toNat)).bind fun t115 => (if ([] : List Int).length + t115.length < 140737488355328 then (some (([(([] : List Int) ++ t115)] : List (List Int)))) else (none))) else (none)) else (none)) else (none)) else ((merkle_span_inside.f a1_0 a1_1 a2 a3).bind fun t124 => (if t124 = true then (some ([] : List (List Int))) else ((merkle_span_halves.f a1_0 a1_1).bind fun bt125 => ((merkle_outer.f k l0 bt125.1 bt125.2.1 a2 a3).bind fun t131 => ((merkle_outer.f k l0 bt125.2.2.1 bt125.2.2.2 a2 a3).bind fun t134 => (if t131.length + t134.length < 5864062014805 then (some (t131 ++ t134)) else (none)))))))) = some r := H
 have A5 := aM A50
 clear A50
 by_cases c6 : t109 = true
 ·subst c6
  have H1 : (if 0 ≤ a1_0 then (if a1_0 ≤ (wrap64 (a1_0 + a1_1)) then (if (wrap64 (a1_0 + a1_1)) ≤ (l0.length : Int) then ((merkle_top.f k ((l0.take ((wrap64 (a1_0 + a1_1)) : Int).toNat).drop (a1_0 : Int).toNat)).bind fun t115 => (if ([] : List Int).length + t115.length < 140737488355328 then (some (([(([] : List Int) ++ t115)] : List (List Int)))) else (none))) else (none)) else (none)) else (none)) = some r := by rw [if_pos rfl] at H; exact H
  clear H
  have H := H1
  clear H1
  by_cases c7 : 0 ≤ a1_0
  rotate_left
  ·rw [if_neg c7] at H
   exact absurd H (by simp)
  rw [if_pos c7] at H
  have c7b0 := eq_true c7
  have c7b1 : decide (0 ≤ a1_0) = true := decide_eq_true c7
  clear c7
  by_cases c8 : a1_0 ≤ (wrap64 (a1_0 + a1_1))
  rotate_left
  ·rw [if_neg c8] at H
   exact absurd H (by simp)
  rw [if_pos c8] at H
  have c8b0 := eq_true c8
  have c8b1 : decide (a1_0 ≤ (wrap64 (a1_0 + a1_1))) = true := decide_eq_true c8
  by_cases c9 : (wrap64 (a1_0 + a1_1)) ≤ (l0.length : Int)
  rotate_left
  ·rw [if_neg c9] at H
   exact absurd H (by simp)
  rw [if_pos c9] at H
  have c9b0 := eq_true c9
  have c9b1 : decide ((wrap64 (a1_0 + a1_1)) ≤ (l0.length : Int)) = true := decide_eq_true c9
  obtain ⟨y110, hy110⟩ : ∃ y_ : List (List Int), y_ = ((l0.take ((wrap64 (a1_0 + a1_1)) : Int).toNat).drop (a1_0 : Int).toNat) := ⟨_, rfl⟩
  replace H : ((merkle_top.f k y110).bind fun t115 => (if ([] : List Int).length + t115.length < 140737488355328 then (some (([(([] : List Int) ++ t115)] : List (List Int)))) else (none))) = some r := hyA hy110 H
  have Ny110 := aM hy110
  clear hy110
  replace H := Option.bind_eq_some_iff.mp H
  obtain ⟨t115, A100, H⟩ := H
  replace H : (if ([] : List Int).length + t115.length < 140737488355328 then (some (([(([] : List Int) ++ t115)] : List (List Int)))) else (none)) = some r := H
  have A10 := aM A100
  clear A100
  by_cases c11 : ([] : List Int).length + t115.length < 140737488355328
  rotate_left
  ·rw [if_neg c11] at H
   exact absurd H (by simp)
  rw [if_pos c11] at H
  have LMc11 := aM c11
  clear c11
  obtain ⟨y118, hy118⟩ : ∃ y_ : List Int, y_ = (([] : List Int) ++ t115) := ⟨_, rfl⟩
  replace H : (some (([y118] : List (List Int)))) = some r := hyA hy118 H
  have Ny118 := aM hy118
  clear hy118
  obtain ⟨y121, hy121⟩ : ∃ y_ : List (List Int), y_ = (([y118] : List (List Int))) := ⟨_, rfl⟩
  replace H : (some y121) = some r := hyA hy121 H
  have Ny121 := aM hy121
  clear hy121
  obtain rfl := Option.some.inj H
  go_enter Tryd.func67, Tryd.ntmps67
  go_wp2_with (first | ((with_reducible refine gate_dst (N := 5) rfl ?_); refine box_event ?hg (N := 5) ?hd (cs := #[.int .i64 a1_0, .int .i64 a1_1]) (t := 81) ?hr ?_; (case hd => rfl); (case hg => rfl); (case hr => first | (go_simp; done) | (go_simp; rfl)); intro gb108 hg w12 hbox hb; replace HO0 := aM (Kd.V_below (Kd.V_elderB (vL HO0.out) gb108 (Nat.le_of_eq hg.symm)) hb); have BK108 := aM (hbox); have GW108 := aM ((by rw [hg]; exact (below_size bel) : w.heap.size ≤ gb108)); have GE108 := aM ((by rw [hg]; exact (below_size bel) : w.heap.size ≤ gb108)); replace HB := aM (below_step bel hb); clear hb hbox hg; have hcz13_0 : w12.cell? ⟨gb108, 0, none⟩ = some (.int .i64 a1_0) := (blk_cell BK108.out 0).trans rfl; have hcz13_1 : w12.cell? ⟨gb108, 1, none⟩ = some (.int .i64 a1_1) := (blk_cell BK108.out 1).trans rfl; have hfz13_0 := blk_frozen BK108.out 0; have hfz13_1 := blk_frozen BK108.out 1) | ((with_reducible refine gate_callee (f := 81) rfl ?_); refine goesL_ (some 15) rfl rfl Tryd.func81 (by kernel_rfl) rfl #[.agg #[.int .i64 a1_0, .int .i64 a1_1], .int .i64 a2, .int .i64 a3] rfl eqA ?_; (with_reducible refine (merkle_span_outside.calls a1_0 a1_1 a2 a3 true _ A5.out).mono ?_); rintro e w14 ⟨rfl, hb⟩; refine ⟨_, rfl, ?_⟩; replace HO0 := aM (Kd.V_below (vL HO0.out) hb); replace BK108 := aM (blk_below (g := gb108) (o := .cells #[.int .i64 a1_0, .int .i64 a1_1] 81 (0, 0)) (bL BK108.out) hb); replace HB := aM (below_step (belG GE108.out) hb); clear hb; have hcz15_0 : w14.cell? ⟨gb108, 0, none⟩ = some (.int .i64 a1_0) := (blk_cell BK108.out 0).trans rfl; have hcz15_1 : w14.cell? ⟨gb108, 1, none⟩ = some (.int .i64 a1_1) := (blk_cell BK108.out 1).trans rfl; have hfz15_0 := blk_frozen BK108.out 0; have hfz15_1 := blk_frozen BK108.out 1; have q16 : ((wrap64 (a1_0 + a1_1)) : Int) ≤ ((l0.length : Int) : Int) := of_decide_eq_true asm_; obtain ⟨i016, hi016, _, hsz16, _⟩ := info_parts info22; have hroom16 : l0.length ≤ c0 := (Kd.V_reads' HO0.out).2.1; have hC16 : Kd.F (Kd.slice 5 (Kd.int .u8)) _ _ A0 l0.length l0 := (Kd.V_at (base := w.heap.size) HO0.out).2.2; have ql16 : (a1_0 : Int) ≤ ((wrap64 (a1_0 + a1_1)) : Int) := of_decide_eq_true asm_; have q016 : (0 : Int) ≤ (a1_0 : Int) := of_decide_eq_true asm_; have hcut16 := cut_mid (P := Tryd.prog) 23 22 .i64 .i64 Tryd.underlying23 hi016 1 hsz16 A0 l0.length c0 a1_0 (wrap64 (a1_0 + a1_1)) q016 ql16 q16 hroom16; have hr16 := Kd.F_mid (lo := (a1_0 : Int).toNat) (hi := ((wrap64 (a1_0 + a1_1)) : Int).toNat) (c := c0) hC16 (by omega) (by omega) hroom16; obtain ⟨A16, hA16⟩ : ∃ A1, A1 = (if c0 = (a1_0 : Int).toNat then A0 else (A0 : Option Addr).map (·.add ((a1_0 : Int).toNat * 1))) := ⟨_, rfl⟩; obtain ⟨c16, hc16⟩ : ∃ c1, c1 = c0 - (a1_0 : Int).toNat := ⟨_, rfl⟩; have hy16 : y110.length = ((wrap64 (a1_0 + a1_1)) : Int).toNat - (a1_0 : Int).toNat := (by rw [Ny110.out, List.length_drop, List.length_take] <;> omega); rw [show ((l0).take ((wrap64 (a1_0 + a1_1)) : Int).toNat).drop (a1_0 : Int).toNat = y110 from Ny110.out.symm] at hr16; replace hr16 : Kd.F (Kd.slice 5 (Kd.int .u8)) _ _ A16 y110.length y110 := (by rw [hA16]; exact hr16); rw [← hy16, ← hA16, ← hc16] at hcut16; have HO114 := aM (show Kd.V (Kd.slice 5 (Kd.int .u8)) 22 _ w.heap.size _ (.slice A16 y110.length c16) y110 from Kd.V_mk (by rw [hy16, hc16]; exact Nat.sub_le_sub_right (Nat.le_trans (by omega) hroom16) _) hr16); have HC114 := aM (show y110.length ≤ c16 from by rw [hy16, hc16]; exact Nat.sub_le_sub_right (Nat.le_trans (by omega) hroom16) _); clear hr16 hC16 hroom16 hi016 hsz16 hc16; have KY16 := aM hy16; have KA16 := aM hA16; clear hy16 hA16; replace q16 := eq_true q16) | ((with_reducible refine gate_callee (f := 58) rfl ?_); refine goesL_ (some 25) rfl rfl Tryd.func58 (by kernel_rfl) rfl #[.slice A16 y110.length c16] rfl eqA ?_; (with_reducible refine (merkle_top.calls k (fun k_ => ((P0_ k_ ∨ w.heap.size ≤ k_) ∧ k_ ≠ gb108)) _ _ y110 t115 _ (Glb.of HG (belG GE108.out)) ?side1 A10.out).mono ?_); (case side1 => exact HO114.out); rintro e w17 ⟨v116, rfl, ho0, hb⟩; refine ⟨_, rfl, ?_⟩; replace HO0 := aM (Kd.V_below (vL HO0.out) hb); replace HO114 := aM (Kd.V_below (vL HO114.out) hb); have HO117 := aM (Kd.V_lower (Kd.V_mono (ok' := fun k_ => (P0_ k_ ∨ w.heap.size ≤ k_) ∧ k_ ≠ gb108) ho0 (fun k_ hk_ => ⟨Or.elim hk_ (fun hs_ => hs_.1) (fun hn_ => (.inr (Nat.le_trans (below_size (belG GE108.out)) hn_))), Or.elim hk_ (fun hs_ => hs_.2) (fun hn_ => (Kd.freshB (g := gb108) (o := .cells #[.int .i64 a1_0, .int .i64 a1_1] 81 (0, 0)) (bL BK108.out) k_ hn_))⟩)) (below_size (belG GE108.out))); replace BK108 := aM (blk_below (g := gb108) (o := .cells #[.int .i64 a1_0, .int .i64 a1_1] 81 (0, 0)) (bL BK108.out) hb); replace HB := aM (below_step (belG GE108.out) hb); clear hb ho0; obtain ⟨Ao19, co19, eo19⟩ := Kd.V_slice HO117.out; subst eo19) | ((with_reducible refine gate_builtin (b := .append) (xs := #[.const (.slice none 0 0), .tmp 25]) rfl ?_); at_builtin; refine Kd.R_append_rows (Kd.int .u8) (w0 := w) w.heap.size rfl (.const (.slice none 0 0)) (.tmp 25) 22 5 (.int .u8 0) 1 rfl Tryd.underlying22 info5 rfl (by decide) (by omega) (.slice none 0 0) ([] : List Int) t115 _ _ _ (fun k_ => (w.heap.size ≤ k_)) (fun _ => False) rfl rfl ?aO ?aR (fun _ _ h => h) (fun _ h => h.elim) ?aF ?aB ?aS ?aL ?_; (case aR => repeat (first | exact (Kd.V_reads' HO117.out).2.2 | (with_reducible refine Kd.C_alloc ?_ _) | (with_reducible refine Kd.C_drewN ?_ _) | (with_reducible refine Kd.C_drew ?_))); (case aB => exact (belG GE108.out)); (case aF => exact (fun k_ hk => (Nat.le_trans (below_size (belG GE108.out)) hk))); (case aO => exact ((Kd.R_nil _ _ _ _ (fun k_ => (w.heap.size ≤ k_))))); (case aS => exact (below_size (belG GE108.out))); (case aL => have := LMc11.out; omega); intro v119 w18 ho hb hg hat; rw [← Ny118.out] at ho; replace HO0 := aM (Kd.V_afterv (Kd.V_apart_nil (vL HO0.out)) hg hat); replace BK108 := aM (blk_grown (g := gb108) (o := .cells #[.int .i64 a1_0, .int .i64 a1_1] 81 (0, 0)) (bL BK108.out) hg (by simp [Value.ownBlock])); replace HO114 := aM (Kd.V_afterv (Kd.V_apart_nil (vL HO114.out)) hg hat); replace HO117 := aM (Kd.V_afterv (Kd.V_apart_nil (vL HO117.out)) hg hat); replace HB := aM (hb); have HO120 := aM (ho); clear ho hb hg hat; obtain ⟨Ao20, co20, eo20⟩ := Kd.R_slice HO120.out; subst eo20) | ((with_reducible refine gate_dst (N := 27) rfl ?_); refine Kd.N_lit (Kd.slice 5 (Kd.int .u8)) _ 22 ?hg (N' := 27) ?hd (xs := ([y118] : List (List Int))) (inner := [.slice Ao20 y118.length co20]) (ok := (fun k_ => (P0_ k_ ∨ w.heap.size ≤ k_) ∧ k_ ≠ gb108)) (okp := (fun k_ => (P0_ k_ ∨ w.heap.size ≤ k_) ∧ k_ ≠ gb108)) ?hr ?hp (fun _ hk => hk) ((show ∀ k_, w18.heap.size ≤ k_ → (fun k_ => (P0_ k_ ∨ w.heap.size ≤ k_) ∧ k_ ≠ gb108) k_ from fun k_ hk => ⟨(.inr (Nat.le_trans (below_size (belG GE108.out)) hk)), Kd.freshB (g := gb108) (o := .cells #[.int .i64 a1_0, .int .i64 a1_1] 81 (0, 0)) (bL BK108.out) k_ hk⟩) _ (Nat.le_refl _)) (Below.refl _ _) (Nat.le_refl _) (by simp) ?_; (case hd => rfl); (case hg => rfl); (case hr => first | (go_simp; done) | (go_simp; rfl)); (case hp => exact (Reps.one (show Kd.FK (Kd.slice 5 (Kd.int .u8)) _ _ y118 [.slice Ao20 y118.length co20] from (Kd.FK_slice_mk (Kd.R_reads' (Kd.R_mono (ok' := (fun k_ => (P0_ k_ ∨ w.heap.size ≤ k_) ∧ k_ ≠ gb108)) (Kd.R_types (HO120.out) BK108.out (by decide)) (fun k_ hk => ⟨(.inr (hk.1)), hk.2⟩))).2.1 (Kd.R_F (Kd.R_mono (ok' := (fun k_ => (P0_ k_ ∨ w.heap.size ≤ k_) ∧ k_ ≠ gb108)) (Kd.R_types (HO120.out) BK108.out (by decide)) (fun k_ hk => ⟨(.inr (hk.1)), hk.2⟩))))) (Reps.none _ _))); intro v122 w21 ho22 hb hg_ hnew_; clear hg_ hnew_; (first | rw [← Ny121.out] at ho22 | (simp only [Int.reduceToNat] at ho22; rw [← Ny121.out] at ho22)); replace HO0 := aM (Kd.V_elder' (vL HO0.out) (Kd.N_base ho22) hb); replace HO114 := aM (Kd.V_elder' (vL HO114.out) (Kd.N_base ho22) hb); replace HO117 := aM (Kd.V_elder' (vL HO117.out) (Kd.N_base ho22) hb); have HO123 := aM (Kd.N_lower ho22 (below_size (belG GE108.out))); replace BK108 := aM (blk_below (g := gb108) (o := .cells #[.int .i64 a1_0, .int .i64 a1_1] 81 (0, 0)) (bL BK108.out) hb); replace HB := aM (below_step (belG GE108.out) hb); clear HO120; clear hb ho22))
  go_ret
  exact ⟨_, erR, by (with_reducible repeat (first | apply Kd.N_alloc | apply Kd.N_drewN | apply Kd.N_drew)); exact Kd.N_mono HO123.out (fun _ hk => hk.1), by repeat (first | (with_reducible first | exact HB.out | apply below_alloc | apply pw_below_drewN | apply below_drew1 | refine below_set ?_ GE108.out) | exact HB.out)⟩
 replace c6 := Bool.eq_false_iff.mpr c6
 subst c6
 have H1 : ((merkle_span_inside.f a1_0 a1_1 a2 a3).bind fun t124 => (if t124 = true then (some ([] : List (List Int))) else ((merkle_span_halves.f a1_0 a1_1).bind fun bt125 => ((merkle_outer.f k l0 bt125.1 bt125.2.1 a2 a3).bind fun t131 => ((merkle_outer.f k l0 bt125.2.2.1 bt125.2.2.2 a2 a3).bind fun t134 => (if t131.length + t134.length < 5864062014805 then (some (t131 ++ t134)) else (none))))))) = some r := by rw [if_neg (show ¬ (false = true) by decide)] at H; exact H
 clear H
 have H := H1
 clear H1
 replace H := Option.bind_eq_some_iff.mp H
 obtain ⟨t124, A230, H⟩ := H
 replace H : (if t124 = true then (some ([] : List (List Int))) else ((merkle_span_halves.f a1_0 a1_1).bind fun bt125 => ((merkle_outer.f k l0 bt125.1 bt125.2.1 a2 a3).bind fun t131 => ((merkle_outer.f k l0 bt125.2.2.1 bt125.2.2.2 a2 a3).bind fun t134 => (if t131.length + t134.length < 5864062014805 then (some (t131 ++ t134)) else (none)))))) = some r := H
 have A23 := aM A230
 clear A230
 by_cases c24 : t124 = true
 ·subst c24
  have H1 : (some ([] : List (List Int))) = some r := by rw [if_pos rfl] at H; exact H
  clear H
  have H := H1
  clear H1
  obtain rfl := Option.some.inj H
  go_enter Tryd.func67, Tryd.ntmps67
  go_wp2_with (first | ((with_reducible refine gate_dst (N := 5) rfl ?_); refine box_event ?hg (N := 5) ?hd (cs := #[.int .i64 a1_0, .int .i64 a1_1]) (t := 81) ?hr ?_; (case hd => rfl); (case hg => rfl); (case hr => first | (go_simp; done) | (go_simp; rfl)); intro gb108 hg w25 hbox hb; replace HO0 := aM (Kd.V_below (Kd.V_elderB (vL HO0.out) gb108 (Nat.le_of_eq hg.symm)) hb); have BK108 := aM (hbox); have GW108 := aM ((by rw [hg]; exact (below_size bel) : w.heap.size ≤ gb108)); have GE108 := aM ((by rw [hg]; exact (below_size bel) : w.heap.size ≤ gb108)); replace HB := aM (below_step bel hb); clear hb hbox hg; have hcz26_0 : w25.cell? ⟨gb108, 0, none⟩ = some (.int .i64 a1_0) := (blk_cell BK108.out 0).trans rfl; have hcz26_1 : w25.cell? ⟨gb108, 1, none⟩ = some (.int .i64 a1_1) := (blk_cell BK108.out 1).trans rfl; have hfz26_0 := blk_frozen BK108.out 0; have hfz26_1 := blk_frozen BK108.out 1) | ((with_reducible refine gate_callee (f := 81) rfl ?_); refine goesL_ (some 15) rfl rfl Tryd.func81 (by kernel_rfl) rfl #[.agg #[.int .i64 a1_0, .int .i64 a1_1], .int .i64 a2, .int .i64 a3] rfl eqA ?_; (with_reducible refine (merkle_span_outside.calls a1_0 a1_1 a2 a3 false _ A5.out).mono ?_); rintro e w27 ⟨rfl, hb⟩; refine ⟨_, rfl, ?_⟩; replace HO0 := aM (Kd.V_below (vL HO0.out) hb); replace BK108 := aM (blk_below (g := gb108) (o := .cells #[.int .i64 a1_0, .int .i64 a1_1] 81 (0, 0)) (bL BK108.out) hb); replace HB := aM (below_step (belG GE108.out) hb); clear hb; have hcz28_0 : w27.cell? ⟨gb108, 0, none⟩ = some (.int .i64 a1_0) := (blk_cell BK108.out 0).trans rfl; have hcz28_1 : w27.cell? ⟨gb108, 1, none⟩ = some (.int .i64 a1_1) := (blk_cell BK108.out 1).trans rfl; have hfz28_0 := blk_frozen BK108.out 0; have hfz28_1 := blk_frozen BK108.out 1) | ((with_reducible refine gate_callee (f := 82) rfl ?_); refine goesL_ (some 32) rfl rfl Tryd.func82 (by kernel_rfl) rfl #[.agg #[.int .i64 a1_0, .int .i64 a1_1], .int .i64 a2, .int .i64 a3] rfl eqA ?_; (with_reducible refine (merkle_span_inside.calls a1_0 a1_1 a2 a3 true _ A23.out).mono ?_); rintro e w29 ⟨rfl, hb⟩; refine ⟨_, rfl, ?_⟩; replace HO0 := aM (Kd.V_below (vL HO0.out) hb); replace BK108 := aM (blk_below (g := gb108) (o := .cells #[.int .i64 a1_0, .int .i64 a1_1] 81 (0, 0)) (bL BK108.out) hb); replace HB := aM (below_step (belG GE108.out) hb); clear hb))
  go_ret
  exact ⟨_, erR, by first | exact Kd.S_nil _ _ _ _ _ | exact Kd.N_nil _ _ _ _ _ | exact Kd.V_nil _ _ _ _ _ | exact Kd.Q_nil _ _ _ _ _ | exact Kd.R_nil _ _ _ _ _, by repeat (first | (with_reducible first | exact HB.out | apply below_alloc | apply pw_below_drewN | apply below_drew1 | refine below_set ?_ GE108.out) | exact HB.out)⟩
 replace c24 := Bool.eq_false_iff.mpr c24
 subst c24
 have H1 : ((merkle_span_halves.f a1_0 a1_1).bind fun bt125 => ((merkle_outer.f k l0 bt125.1 bt125.2.1 a2 a3).bind fun t131 => ((merkle_outer.f k l0 bt125.2.2.1 bt125.2.2.2 a2 a3).bind fun t134 => (if t131.length + t134.length < 5864062014805 then (some (t131 ++ t134)) else (none))))) = some r := by rw [if_neg (show ¬ (false = true) by decide)] at H; exact H
 clear H
 have H := H1
 clear H1
 replace H := Option.bind_eq_some_iff.mp H
 obtain ⟨⟨t125, t126, t127, t128⟩, A300, H⟩ := H
 replace H : ((merkle_outer.f k l0 t125 t126 a2 a3).bind fun t131 => ((merkle_outer.f k l0 t127 t128 a2 a3).bind fun t134 => (if t131.length + t134.length < 5864062014805 then (some (t131 ++ t134)) else (none)))) = some r := H
 have A30 := aM A300
 clear A300
 replace H := Option.bind_eq_some_iff.mp H
 obtain ⟨t131, A310, H⟩ := H
 replace H : ((merkle_outer.f k l0 t127 t128 a2 a3).bind fun t134 => (if t131.length + t134.length < 5864062014805 then (some (t131 ++ t134)) else (none))) = some r := H
 have A31 := aM A310
 clear A310
 replace H := Option.bind_eq_some_iff.mp H
 obtain ⟨t134, A320, H⟩ := H
 replace H : (if t131.length + t134.length < 5864062014805 then (some (t131 ++ t134)) else (none)) = some r := H
 have A32 := aM A320
 clear A320
 by_cases c33 : t131.length + t134.length < 5864062014805
 rotate_left
 ·rw [if_neg c33] at H
  exact absurd H (by simp)

 rw [if_pos c33] at H
 have LMc33 := aM c33
 clear c33
 obtain ⟨y137, hy137⟩ : ∃ y_ : List (List Int), y_ = (t131 ++ t134) := ⟨_, rfl⟩
 replace H : (some y137) = some r := hyA hy137 H
 have Ny137 := aM hy137
 clear hy137
 obtain rfl := Option.some.inj H
 go_enter Tryd.func67, Tryd.ntmps67
 try go_wp2_with (first | ((with_reducible refine gate_dst (N := 5) rfl ?_); refine box_event ?hg (N := 5) ?hd (cs := #[.int .i64 a1_0, .int .i64 a1_1]) (t := 81) ?hr ?_; (case hd => rfl); (case hg => rfl); (case hr => first | (go_simp; done) | (go_simp; rfl)); intro gb108 hg w34 hbox hb; replace HO0 := aM (Kd.V_below (Kd.V_elderB (vL HO0.out) gb108 (Nat.le_of_eq hg.symm)) hb); have BK108 := aM (hbox); have GW108 := aM ((by rw [hg]; exact (below_size bel) : w.heap.size ≤ gb108)); have GE108 := aM ((by rw [hg]; exact (below_size bel) : w.heap.size ≤ gb108)); replace HB := aM (below_step bel hb); clear hb hbox hg; have hcz35_0 : w34.cell? ⟨gb108, 0, none⟩ = some (.int .i64 a1_0) := (blk_cell BK108.out 0).trans rfl; have hcz35_1 : w34.cell? ⟨gb108, 1, none⟩ = some (.int .i64 a1_1) := (blk_cell BK108.out 1).trans rfl; have hfz35_0 := blk_frozen BK108.out 0; have hfz35_1 := blk_frozen BK108.out 1) | ((with_reducible refine gate_callee (f := 81) rfl ?_); refine goesL_ (some 15) rfl rfl Tryd.func81 (by kernel_rfl) rfl #[.agg #[.int .i64 a1_0, .int .i64 a1_1], .int .i64 a2, .int .i64 a3] rfl eqA ?_; (with_reducible refine (merkle_span_outside.calls a1_0 a1_1 a2 a3 false _ A5.out).mono ?_); rintro e w36 ⟨rfl, hb⟩; refine ⟨_, rfl, ?_⟩; replace HO0 := aM (Kd.V_below (vL HO0.out) hb); replace BK108 := aM (blk_below (g := gb108) (o := .cells #[.int .i64 a1_0, .int .i64 a1_1] 81 (0, 0)) (bL BK108.out) hb); replace HB := aM (below_step (belG GE108.out) hb); clear hb; have hcz37_0 : w36.cell? ⟨gb108, 0, none⟩ = some (.int .i64 a1_0) := (blk_cell BK108.out 0).trans rfl; have hcz37_1 : w36.cell? ⟨gb108, 1, none⟩ = some (.int .i64 a1_1) := (blk_cell BK108.out 1).trans rfl; have hfz37_0 := blk_frozen BK108.out 0; have hfz37_1 := blk_frozen BK108.out 1) | ((with_reducible refine gate_callee (f := 82) rfl ?_); refine goesL_ (some 32) rfl rfl Tryd.func82 (by kernel_rfl) rfl #[.agg #[.int .i64 a1_0, .int .i64 a1_1], .int .i64 a2, .int .i64 a3] rfl eqA ?_; (with_reducible refine (merkle_span_inside.calls a1_0 a1_1 a2 a3 false _ A23.out).mono ?_); rintro e w38 ⟨rfl, hb⟩; refine ⟨_, rfl, ?_⟩; replace HO0 := aM (Kd.V_below (vL HO0.out) hb); replace BK108 := aM (blk_below (g := gb108) (o := .cells #[.int .i64 a1_0, .int .i64 a1_1] 81 (0, 0)) (bL BK108.out) hb); replace HB := aM (below_step (belG GE108.out) hb); clear hb; have hcz39_0 : w38.cell? ⟨gb108, 0, none⟩ = some (.int .i64 a1_0) := (blk_cell BK108.out 0).trans rfl; have hcz39_1 : w38.cell? ⟨gb108, 1, none⟩ = some (.int .i64 a1_1) := (blk_cell BK108.out 1).trans rfl; have hfz39_0 := blk_frozen BK108.out 0; have hfz39_1 := blk_frozen BK108.out 1) | ((with_reducible refine gate_callee (f := 83) rfl ?_); refine goesL_ (some 35) rfl rfl Tryd.func83 (by kernel_rfl) rfl #[.agg #[.int .i64 a1_0, .int .i64 a1_1]] rfl eqA ?_; (with_reducible refine (merkle_span_halves.calls a1_0 a1_1 t125 t126 t127 t128 _ A30.out).mono ?_); rintro e w40 ⟨rfl, hb⟩; refine ⟨_, rfl, ?_⟩; replace HO0 := aM (Kd.V_below (vL HO0.out) hb); replace BK108 := aM (blk_below (g := gb108) (o := .cells #[.int .i64 a1_0, .int .i64 a1_1] 81 (0, 0)) (bL BK108.out) hb); replace HB := aM (below_step (belG GE108.out) hb); clear hb) | ((with_reducible refine gate_dst (N := 9) rfl ?_); refine box_event ?hg (N := 9) ?hd (cs := #[.int .i64 0, .int .i64 0]) (t := 81) ?hr ?_; (case hd => rfl); (case hg => rfl); (case hr => first | (go_simp; done) | (go_simp; rfl)); intro gb129 hg w41 hbox hb; replace HO0 := aM (Kd.V_below (Kd.V_elderB (vL HO0.out) gb129 (Nat.le_of_eq hg.symm)) hb); have BK129 := aM (hbox); have GW129 := aM ((by rw [hg]; exact (below_size (belG GE108.out)) : w.heap.size ≤ gb129)); have GE129 := aM ((by rw [hg]; exact (below_size (belG GE108.out)) : w.heap.size ≤ gb129)); replace HB := aM (below_step (belG GE108.out) hb); have NB108_129 := aM ((by rw [hg]; exact Nat.ne_of_lt (blk_lt (g := gb108) (o := .cells #[.int .i64 a1_0, .int .i64 a1_1] 81 (0, 0)) (bL BK108.out)) : gb108 ≠ gb129)); have NB129_108 := aM ((by rw [hg]; exact Nat.ne_of_gt (blk_lt (g := gb108) (o := .cells #[.int .i64 a1_0, .int .i64 a1_1] 81 (0, 0)) (bL BK108.out)) : gb129 ≠ gb108)); replace BK108 := aM (blk_below (g := gb108) (o := .cells #[.int .i64 a1_0, .int .i64 a1_1] 81 (0, 0)) (bL BK108.out) hb); clear hb hbox hg) | ((with_reducible refine gate_dst (N := 10) rfl ?_); refine box_event ?hg (N := 10) ?hd (cs := #[.int .i64 0, .int .i64 0]) (t := 81) ?hr ?_; (case hd => rfl); (case hg => rfl); (case hr => first | (go_simp; done) | (go_simp; rfl)); intro gb130 hg w42 hbox hb; replace HO0 := aM (Kd.V_below (Kd.V_elderB (vL HO0.out) gb130 (Nat.le_of_eq hg.symm)) hb); have BK130 := aM (hbox); have GW130 := aM ((by rw [hg]; exact (below_size (by repeat (first | (with_reducible first | exact HB.out | apply below_alloc | apply pw_below_drewN | apply below_drew1 | refine below_set ?_ GE108.out | refine below_set ?_ GE129.out) | exact HB.out))) : w.heap.size ≤ gb130)); have GE130 := aM ((by rw [hg]; exact (below_size (by repeat (first | (with_reducible first | exact HB.out | apply below_alloc | apply pw_below_drewN | apply below_drew1 | refine below_set ?_ GE108.out | refine below_set ?_ GE129.out) | exact HB.out))) : w.heap.size ≤ gb130)); replace HB := aM (below_step (by repeat (first | (with_reducible first | exact HB.out | apply below_alloc | apply pw_below_drewN | apply below_drew1 | refine below_set ?_ GE108.out | refine below_set ?_ GE129.out) | exact HB.out)) hb); have NB108_130 := aM ((by rw [hg]; exact Nat.ne_of_lt (blk_lt (g := gb108) (o := .cells #[.int .i64 a1_0, .int .i64 a1_1] 81 (0, 0)) (bL BK108.out)) : gb108 ≠ gb130)); have NB130_108 := aM ((by rw [hg]; exact Nat.ne_of_gt (blk_lt (g := gb108) (o := .cells #[.int .i64 a1_0, .int .i64 a1_1] 81 (0, 0)) (bL BK108.out)) : gb130 ≠ gb108)); replace BK108 := aM (blk_below (g := gb108) (o := .cells #[.int .i64 a1_0, .int .i64 a1_1] 81 (0, 0)) (bL BK108.out) hb); have NB129_130 := aM ((by rw [hg]; exact Nat.ne_of_lt (blk_lt (g := gb129) (o := .cells #[.int .i64 0, .int .i64 0] 81 (0, 0)) (bL BK129.out)) : gb129 ≠ gb130)); have NB130_129 := aM ((by rw [hg]; exact Nat.ne_of_gt (blk_lt (g := gb129) (o := .cells #[.int .i64 0, .int .i64 0] 81 (0, 0)) (bL BK129.out)) : gb130 ≠ gb129)); replace BK129 := aM (blk_below (g := gb129) (o := .cells #[.int .i64 0, .int .i64 0] 81 (0, 0)) (bL BK129.out) hb); clear hb hbox hg; have hnb43 := NB129_108.out; have hnc43 := NB108_129.out; have hnb44 := NB129_130.out; have hnc44 := NB130_129.out; have hcz45_0 : w42.cell? ⟨gb129, 0, none⟩ = some (.int .i64 0) := (blk_cell BK129.out 0).trans rfl; have hcz45_1 : w42.cell? ⟨gb129, 1, none⟩ = some (.int .i64 0) := (blk_cell BK129.out 1).trans rfl; have hfz45_0 := blk_frozen BK129.out 0; have hfz45_1 := blk_frozen BK129.out 1; have hnb46 := NB130_108.out; have hnc46 := NB108_130.out; have hcz47_0 : w42.cell? ⟨gb130, 0, none⟩ = some (.int .i64 0) := (blk_cell BK130.out 0).trans rfl; have hcz47_1 : w42.cell? ⟨gb130, 1, none⟩ = some (.int .i64 0) := (blk_cell BK130.out 1).trans rfl; have hfz47_0 := blk_frozen BK130.out 0; have hfz47_1 := blk_frozen BK130.out 1))
 have n0_ : Aside0 (Kd.V (Kd.slice 5 (Kd.int .u8)) 22 ((((w42.setCell ⟨gb129, 0, none⟩ (.int .i64 t125)).setCell ⟨gb129, 1, none⟩ (.int .i64 t126)).setCell ⟨gb130, 0, none⟩ (.int .i64 t127)).setCell ⟨gb130, 1, none⟩ (.int .i64 t128)) w.heap.size (fun k_ => (P0_ k_ ∨ w.heap.size ≤ k_) ∧ k_ ≠ gb108 ∧ k_ ≠ gb129 ∧ k_ ≠ gb130) (.slice A0 l0.length c0) l0) := ⟨by (with_reducible repeat (first | apply Kd.V_alloc | apply Kd.V_drewN | apply Kd.V_drew)); exact Kd.V_mono (Kd.V_far (p := ⟨gb130, 1, none⟩) (Kd.V_far (p := ⟨gb130, 0, none⟩) (Kd.V_far (p := ⟨gb129, 1, none⟩) (Kd.V_far (p := ⟨gb129, 0, none⟩) (Kd.V_mono (Kd.V_mono HO0.out (fun k_ hk => (⟨hk, hk.1.2⟩ : _ ∧ k_ ≠ gb129))) (fun k_ hk => (⟨hk, hk.1.2⟩ : _ ∧ k_ ≠ gb130))) (fun _ hk => hk.1.2) (.int .i64 t125)) (fun _ hk => hk.1.2) (.int .i64 t126)) (fun _ hk => hk.2) (.int .i64 t127)) (fun _ hk => hk.2) (.int .i64 t128)) (fun _ hk => ⟨hk.1.1.1.1.1, ⟨hk.1.1.1.1.2, ⟨hk.1.1.1.2, hk.1.1.2⟩⟩⟩)⟩
 have n1_ : Aside0 (((((w42.setCell ⟨gb129, 0, none⟩ (.int .i64 t125)).setCell ⟨gb129, 1, none⟩ (.int .i64 t126)).setCell ⟨gb130, 0, none⟩ (.int .i64 t127)).setCell ⟨gb130, 1, none⟩ (.int .i64 t128)).heap[gb108]? = some (.cells #[.int .i64 a1_0, .int .i64 a1_1] 81 (0, 0))) := ⟨by (with_reducible repeat (first | refine blk_drewN ?_ _ | refine blk_drew ?_ | refine blk_alloc ?_ _)); refine blk_far ?_ NB108_130.out _; (with_reducible repeat (first | refine blk_drewN ?_ _ | refine blk_drew ?_ | refine blk_alloc ?_ _)); refine blk_far ?_ NB108_130.out _; (with_reducible repeat (first | refine blk_drewN ?_ _ | refine blk_drew ?_ | refine blk_alloc ?_ _)); refine blk_far ?_ NB108_129.out _; (with_reducible repeat (first | refine blk_drewN ?_ _ | refine blk_drew ?_ | refine blk_alloc ?_ _)); refine blk_far ?_ NB108_129.out _; (with_reducible repeat (first | refine blk_drewN ?_ _ | refine blk_drew ?_ | refine blk_alloc ?_ _)); exact BK108.out⟩
 have n2_ : Aside0 (((((w42.setCell ⟨gb129, 0, none⟩ (.int .i64 t125)).setCell ⟨gb129, 1, none⟩ (.int .i64 t126)).setCell ⟨gb130, 0, none⟩ (.int .i64 t127)).setCell ⟨gb130, 1, none⟩ (.int .i64 t128)).heap[gb129]? = some (.cells #[.int .i64 t125, .int .i64 t126] 81 (0, 0))) := ⟨by (with_reducible repeat (first | refine blk_drewN ?_ _ | refine blk_drew ?_ | refine blk_alloc ?_ _)); refine blk_far ?_ NB129_130.out _; (with_reducible repeat (first | refine blk_drewN ?_ _ | refine blk_drew ?_ | refine blk_alloc ?_ _)); refine blk_far ?_ NB129_130.out _; (with_reducible repeat (first | refine blk_drewN ?_ _ | refine blk_drew ?_ | refine blk_alloc ?_ _)); refine blk_put (cs := #[.int .i64 t125, .int .i64 0]) ?_ 1 _ rfl; (with_reducible repeat (first | refine blk_drewN ?_ _ | refine blk_drew ?_ | refine blk_alloc ?_ _)); refine blk_put (cs := #[.int .i64 0, .int .i64 0]) ?_ 0 _ rfl; (with_reducible repeat (first | refine blk_drewN ?_ _ | refine blk_drew ?_ | refine blk_alloc ?_ _)); exact BK129.out⟩
 have n3_ : Aside0 (((((w42.setCell ⟨gb129, 0, none⟩ (.int .i64 t125)).setCell ⟨gb129, 1, none⟩ (.int .i64 t126)).setCell ⟨gb130, 0, none⟩ (.int .i64 t127)).setCell ⟨gb130, 1, none⟩ (.int .i64 t128)).heap[gb130]? = some (.cells #[.int .i64 t127, .int .i64 t128] 81 (0, 0))) := ⟨by (with_reducible repeat (first | refine blk_drewN ?_ _ | refine blk_drew ?_ | refine blk_alloc ?_ _)); refine blk_put (cs := #[.int .i64 t127, .int .i64 0]) ?_ 1 _ rfl; (with_reducible repeat (first | refine blk_drewN ?_ _ | refine blk_drew ?_ | refine blk_alloc ?_ _)); refine blk_put (cs := #[.int .i64 0, .int .i64 0]) ?_ 0 _ rfl; (with_reducible repeat (first | refine blk_drewN ?_ _ | refine blk_drew ?_ | refine blk_alloc ?_ _)); refine blk_far ?_ NB130_129.out _; (with_reducible repeat (first | refine blk_drewN ?_ _ | refine blk_drew ?_ | refine blk_alloc ?_ _)); refine blk_far ?_ NB130_129.out _; (with_reducible repeat (first | refine blk_drewN ?_ _ | refine blk_drew ?_ | refine blk_alloc ?_ _)); exact BK130.out⟩
 have n4_ : Aside0 (Below w.heap.size w ((((w42.setCell ⟨gb129, 0, none⟩ (.int .i64 t125)).setCell ⟨gb129, 1, none⟩ (.int .i64 t126)).setCell ⟨gb130, 0, none⟩ (.int .i64 t127)).setCell ⟨gb130, 1, none⟩ (.int .i64 t128))) := ⟨by repeat (first | (with_reducible first | exact HB.out | apply below_alloc | apply pw_below_drewN | apply below_drew1 | refine below_set ?_ GE108.out | refine below_set ?_ GE129.out | refine below_set ?_ GE130.out) | exact HB.out)⟩
 (try clear HO0)
 (try clear BK108)
 (try clear BK129)
 (try clear BK130)
 (try clear HB)
 generalize ((((w42.setCell ⟨gb129, 0, none⟩ (.int .i64 t125)).setCell ⟨gb129, 1, none⟩ (.int .i64 t126)).setCell ⟨gb130, 0, none⟩ (.int .i64 t127)).setCell ⟨gb130, 1, none⟩ (.int .i64 t128)) = w48 at n0_ n1_ n2_ n3_ n4_ ⊢
 have HO0 := n0_
 have BK108 := n1_
 have BK129 := n2_
 have BK130 := n3_
 have HB := n4_
 clear n0_ n1_ n2_ n3_ n4_
 replace HO0 := aM (Kd.V_drew HO0.out)
 replace BK108 := aM (blk_drew BK108.out)
 replace BK129 := aM (blk_drew BK129.out)
 replace BK130 := aM (blk_drew BK130.out)
 replace HB := aM (below_drew1 HB.out)
 refine start_ (n := 12) (S := fun w' => w'.cell? ⟨gb129, 0, none⟩ = some (.int .i64 t125) ∧ w'.cell? ⟨gb129, 1, none⟩ = some (.int .i64 t126) ∧ w'.cell? ⟨gb130, 0, none⟩ = some (.int .i64 t127) ∧ w'.cell? ⟨gb130, 1, none⟩ = some (.int .i64 t128)) (ds := []) (fl 12 0) (by kernel_rfl) rfl rfl ⟨(blk_cell BK129.out 0).trans rfl, (blk_cell BK129.out 1).trans rfl, (blk_cell BK130.out 0).trans rfl, (blk_cell BK130.out 1).trans rfl⟩ (fun hHeld => ?_); refine with_tabW merkle_outer.tab6 merkle_outer.bits6 (fun HT_ HW_ => ?_)
 generalize w48.drew = w49 at HO0 BK108 BK129 BK130 HB hHeld ⊢
 refine pB 0 38 12 1 ?_
 refine pB 2 40 12 5 ?_
 refine pB 3 41 12 13 ?_
 refine pB 5 43 12 45 ?_
 refine pB 7 45 12 173 ?_
 refine pB 8 46 12 429 ?_
 refine take_ (i := 1) (N := some 39) (v := ?_) (a' := ?_) (fl 12 431) rfl rfl (take_ofW HT_.out HW_.out (by kernel_rfl)) (fun _ _ _ h => h) (Or.inl ⟨by rfl, ?_⟩) hHeld ?_ ?_
 rotate_left
 ·rintro w' ⟨s0, s1, s2, s3⟩
  go_simp
  with_reducible rfl
 rotate_left
 ·simp only [Act.put, List.setIfInBounds_toArray, List.set_cons_zero, List.set_cons_succ, i64_w, i32_w]
  rfl
 refine take_ (i := 6) (N := some 44) (v := ?_) (a' := ?_) (fl 12 495) rfl rfl (take_ofW HT_.out HW_.out (by kernel_rfl)) (fun _ _ _ h => h) (Or.inl ⟨by rfl, ?_⟩) hHeld ?_ ?_
 rotate_left
 ·rintro w' ⟨s0, s1, s2, s3⟩
  go_simp
  with_reducible rfl
 rotate_left
 ·simp only [Act.put, List.setIfInBounds_toArray, List.set_cons_zero, List.set_cons_succ, i64_w, i32_w]
  rfl
 refine one_ (i := 4) (N := some 42) (fl 12 511) rfl rfl (one_of HT_.out (by kernel_rfl)) (by decide) (fun K hK => ?_)
 refine goes_ Tryd.func67 (by kernel_rfl) rfl #[.slice A0 l0.length c0, .agg #[.int .i64 t125, .int .i64 t126], .int .i64 a2, .int .i64 a3] (by rfl) rfl rfl eqA ?_
 with_reducible refine (ih k (by omega) (fun k_ => ((P0_ k_ ∨ w.heap.size ≤ k_) ∧ (k_ ≠ gb108 ∧ (k_ ≠ gb129 ∧ k_ ≠ gb130)))) _ _ l0 t125 t126 a2 a3 t131 _ (Glb.of HG (by repeat (first | (with_reducible first | exact HB.out | apply below_alloc | apply pw_below_drewN | apply below_drew1 | refine below_set ?_ GE108.out | refine below_set ?_ GE129.out | refine below_set ?_ GE130.out) | exact HB.out))) ?side1 A31.out).mono ?_
 (case side1 => exact HO0.out)
 rintro e w50 ⟨v132, rfl, ho0, hb⟩
 refine ⟨_, rfl, ?_⟩
 replace HO0 := aM (Kd.V_elder' (vL HO0.out) (Kd.N_base ho0) hb)
 have HO133 := aM (Kd.N_lower (Kd.N_mono (ok' := fun k_ => (P0_ k_ ∨ w.heap.size ≤ k_) ∧ k_ ≠ gb108 ∧ k_ ≠ gb129 ∧ k_ ≠ gb130) ho0 (fun k_ hk_ => ⟨Or.elim hk_ (fun hs_ => hs_.1) (fun hn_ => (.inr (Nat.le_trans (below_size (by repeat (first | (with_reducible first | exact HB.out | apply below_alloc | apply pw_below_drewN | apply below_drew1 | refine below_set ?_ GE108.out | refine below_set ?_ GE129.out | refine below_set ?_ GE130.out) | exact HB.out))) hn_))), Or.elim hk_ (fun hs_ => hs_.2.1) (fun hn_ => (Kd.freshB (g := gb108) (o := .cells #[.int .i64 a1_0, .int .i64 a1_1] 81 (0, 0)) (bL BK108.out) k_ hn_)), Or.elim hk_ (fun hs_ => hs_.2.2.1) (fun hn_ => (Kd.freshB (g := gb129) (o := .cells #[.int .i64 t125, .int .i64 t126] 81 (0, 0)) (bL BK129.out) k_ hn_)), Or.elim hk_ (fun hs_ => hs_.2.2.2) (fun hn_ => (Kd.freshB (g := gb130) (o := .cells #[.int .i64 t127, .int .i64 t128] 81 (0, 0)) (bL BK130.out) k_ hn_))⟩)) (below_size (by repeat (first | (with_reducible first | exact HB.out | apply below_alloc | apply pw_below_drewN | apply below_drew1 | refine below_set ?_ GE108.out | refine below_set ?_ GE129.out | refine below_set ?_ GE130.out) | exact HB.out))))
 replace BK108 := aM (blk_below (g := gb108) (o := .cells #[.int .i64 a1_0, .int .i64 a1_1] 81 (0, 0)) (bL BK108.out) hb)
 replace BK129 := aM (blk_below (g := gb129) (o := .cells #[.int .i64 t125, .int .i64 t126] 81 (0, 0)) (bL BK129.out) hb)
 replace BK130 := aM (blk_below (g := gb130) (o := .cells #[.int .i64 t127, .int .i64 t128] 81 (0, 0)) (bL BK130.out) hb)
 replace HB := aM (below_step (by repeat (first | (with_reducible first | exact HB.out | apply below_alloc | apply pw_below_drewN | apply below_drew1 | refine below_set ?_ GE108.out | refine below_set ?_ GE129.out | refine below_set ?_ GE130.out) | exact HB.out)) hb)
 (try clear hb)
 (try clear hb2)
 (try clear hk)
 (try clear hi)
 (try clear ho0)
 refine hK.out _ _ ⟨(blk_cell BK129.out 0).trans rfl, (blk_cell BK129.out 1).trans rfl, (blk_cell BK130.out 0).trans rfl, (blk_cell BK130.out 1).trans rfl⟩ (fun hHeld => ?_)
 clear hK K
 refine normA (some 42) ?_
 refine one_ (i := 9) (N := some 47) (fl 12 1023) rfl rfl (one_of HT_.out (by kernel_rfl)) (by decide) (fun K hK => ?_)
 refine goes_ Tryd.func67 (by kernel_rfl) rfl #[.slice A0 l0.length c0, .agg #[.int .i64 t127, .int .i64 t128], .int .i64 a2, .int .i64 a3] (by rfl) rfl rfl eqA ?_
 with_reducible refine (ih k (by omega) (fun k_ => (((P0_ k_ ∨ w.heap.size ≤ k_) ∧ (k_ ≠ gb108 ∧ (k_ ≠ gb129 ∧ k_ ≠ gb130))) ∧ some k_ ≠ (v132 : Value).ownBlock)) _ _ l0 t127 t128 a2 a3 t134 _ (Glb.of HG (by repeat (first | (with_reducible first | exact HB.out | apply below_alloc | apply pw_below_drewN | apply below_drew1 | refine below_set ?_ GE108.out | refine below_set ?_ GE129.out | refine below_set ?_ GE130.out) | exact HB.out))) ?side1 A32.out).mono ?_
 (case side1 => exact HO0.out)
 rintro e w51 ⟨v135, rfl, ho0, hb⟩
 refine ⟨_, rfl, ?_⟩
 replace HO0 := aM (Kd.V_elder' (vL HO0.out) (Kd.N_base ho0) hb)
 have HO136 := aM (Kd.N_lower (Kd.N_mono (ok' := fun k_ => (P0_ k_ ∨ w.heap.size ≤ k_) ∧ some k_ ≠ (v132 : Value).ownBlock ∧ k_ ≠ gb108 ∧ k_ ≠ gb129 ∧ k_ ≠ gb130) ho0 (fun k_ hk_ => ⟨Or.elim hk_ (fun hs_ => hs_.1.1) (fun hn_ => (.inr (Nat.le_trans (below_size (by repeat (first | (with_reducible first | exact HB.out | apply below_alloc | apply pw_below_drewN | apply below_drew1 | refine below_set ?_ GE108.out | refine below_set ?_ GE129.out | refine below_set ?_ GE130.out) | exact HB.out))) hn_))), Or.elim hk_ (fun hs_ => hs_.2) (fun hn_ => (Kd.fresh' (Kd.N_lt (nL HO133.out)) k_ hn_)), Or.elim hk_ (fun hs_ => hs_.1.2.1) (fun hn_ => (Kd.freshB (g := gb108) (o := .cells #[.int .i64 a1_0, .int .i64 a1_1] 81 (0, 0)) (bL BK108.out) k_ hn_)), Or.elim hk_ (fun hs_ => hs_.1.2.2.1) (fun hn_ => (Kd.freshB (g := gb129) (o := .cells #[.int .i64 t125, .int .i64 t126] 81 (0, 0)) (bL BK129.out) k_ hn_)), Or.elim hk_ (fun hs_ => hs_.1.2.2.2) (fun hn_ => (Kd.freshB (g := gb130) (o := .cells #[.int .i64 t127, .int .i64 t128] 81 (0, 0)) (bL BK130.out) k_ hn_))⟩)) (below_size (by repeat (first | (with_reducible first | exact HB.out | apply below_alloc | apply pw_below_drewN | apply below_drew1 | refine below_set ?_ GE108.out | refine below_set ?_ GE129.out | refine below_set ?_ GE130.out) | exact HB.out))))
 replace HO133 := aM (Kd.N_elder' (nL HO133.out) (Kd.N_base ho0) hb)
 replace BK108 := aM (blk_below (g := gb108) (o := .cells #[.int .i64 a1_0, .int .i64 a1_1] 81 (0, 0)) (bL BK108.out) hb)
 replace BK129 := aM (blk_below (g := gb129) (o := .cells #[.int .i64 t125, .int .i64 t126] 81 (0, 0)) (bL BK129.out) hb)
 replace BK130 := aM (blk_below (g := gb130) (o := .cells #[.int .i64 t127, .int .i64 t128] 81 (0, 0)) (bL BK130.out) hb)
 replace HB := aM (below_step (by repeat (first | (with_reducible first | exact HB.out | apply below_alloc | apply pw_below_drewN | apply below_drew1 | refine below_set ?_ GE108.out | refine below_set ?_ GE129.out | refine below_set ?_ GE130.out) | exact HB.out)) hb)
 (try clear hb)
 (try clear hb2)
 (try clear hk)
 (try clear hi)
 (try clear ho0)
 obtain ⟨Ao53, co53, eo53⟩ := Kd.N_slice HO136.out
 (first | subst eo53 | (injection eo53 with f1_ f2_ f3_; have f4_ := f1_.symm; have f5_ := f3_.symm; clear f1_ f2_ f3_; subst f4_; subst f5_))
 refine hK.out _ _ ⟨(blk_cell BK129.out 0).trans rfl, (blk_cell BK129.out 1).trans rfl, (blk_cell BK130.out 0).trans rfl, (blk_cell BK130.out 1).trans rfl⟩ (fun hHeld => ?_)
 clear hK K
 refine normA (some 47) ?_
 refine one_ (i := 10) (N := some 48) (fl 12 2047) rfl rfl (one_of HT_.out (by kernel_rfl)) (by decide) (fun K hK => ?_)
 refine Kd.N_append_rows_step (Kd.slice 5 (Kd.int .u8)) (w0 := w) w.heap.size (by rfl) (.tmp 42) (.tmp 47) 23 22 (.slice none 0 0) 24 rfl Tryd.underlying23 info22 rfl (by decide) (by omega) v132 t131 t134 _ _ _ (fun k_ => (P0_ k_ ∨ w.heap.size ≤ k_) ∧ k_ ≠ gb108 ∧ k_ ≠ gb129 ∧ k_ ≠ gb130) (fun k_ => ((fun k_ => (P0_ k_ ∨ w.heap.size ≤ k_) ∧ k_ ≠ gb108 ∧ k_ ≠ gb129 ∧ k_ ≠ gb130)) k_ ∧ some k_ ≠ (v132 : Value).ownBlock) rfl rfl ?aO ?aR (fun _ hk => hk) ?aF ?aB ?aS ?aL ?_
 (case aR => exact (by skip; exact Kd.N_F (Kd.N_mono (ok' := (fun k_ => ((fun k_ => (P0_ k_ ∨ w.heap.size ≤ k_) ∧ k_ ≠ gb108 ∧ k_ ≠ gb129 ∧ k_ ≠ gb130)) k_ ∧ some k_ ≠ (v132 : Value).ownBlock)) (HO136.out) (fun k_ hk => ⟨⟨hk.1, ⟨hk.2.2.1, ⟨hk.2.2.2.1, hk.2.2.2.2⟩⟩⟩, hk.2.1⟩))))
 (case aB => exact (by repeat (first | (with_reducible first | exact HB.out | apply below_alloc | apply pw_below_drewN | apply below_drew1 | refine below_set ?_ GE108.out | refine below_set ?_ GE129.out | refine below_set ?_ GE130.out) | exact HB.out)))
 (case aF => exact (fun k_ hk => ⟨(.inr (Nat.le_trans (below_size (by repeat (first | (with_reducible first | exact HB.out | apply below_alloc | apply pw_below_drewN | apply below_drew1 | refine below_set ?_ GE108.out | refine below_set ?_ GE129.out | refine below_set ?_ GE130.out) | exact HB.out))) hk)), Kd.freshB (g := gb108) (o := .cells #[.int .i64 a1_0, .int .i64 a1_1] 81 (0, 0)) (bL BK108.out) k_ hk, Kd.freshB (g := gb129) (o := .cells #[.int .i64 t125, .int .i64 t126] 81 (0, 0)) (bL BK129.out) k_ hk, Kd.freshB (g := gb130) (o := .cells #[.int .i64 t127, .int .i64 t128] 81 (0, 0)) (bL BK130.out) k_ hk⟩))
 (case aO => exact (by (with_reducible repeat (first | apply Kd.N_alloc | apply Kd.N_drewN | apply Kd.N_drew)); exact Kd.N_mono HO133.out (fun _ hk => ⟨hk.1.1, ⟨hk.1.2.1, ⟨hk.1.2.2.1, hk.1.2.2.2⟩⟩⟩)))
 (case aS => exact (below_size (by repeat (first | (with_reducible first | exact HB.out | apply below_alloc | apply pw_below_drewN | apply below_drew1 | refine below_set ?_ GE108.out | refine below_set ?_ GE129.out | refine below_set ?_ GE130.out) | exact HB.out))))
 (case aL => have := LMc33.out; omega)
 intro v138 w52 ho hb hg hat
 rw [← Ny137.out] at ho
 replace HO0 := aM (Kd.V_afterv (ok := (fun k_ => (P0_ k_ ∨ w.heap.size ≤ k_) ∧ some k_ ≠ (.slice Ao53 t134.length co53 : Value).ownBlock ∧ k_ ≠ gb108 ∧ k_ ≠ gb129 ∧ k_ ≠ gb130)) (by (with_reducible repeat (first | apply Kd.V_alloc | apply Kd.V_drewN | apply Kd.V_drew)); exact Kd.V_mono HO0.out (fun _ hk => ⟨⟨hk.1.1.1, ⟨hk.2, ⟨hk.1.1.2.1, ⟨hk.1.1.2.2.1, hk.1.1.2.2.2⟩⟩⟩⟩, hk.1.2⟩)) hg hat)
 replace BK108 := aM (blk_grown (g := gb108) (o := .cells #[.int .i64 a1_0, .int .i64 a1_1] 81 (0, 0)) (bL BK108.out) hg (Kd.N_ne HO133.out BK108.out (by decide)))
 replace BK129 := aM (blk_grown (g := gb129) (o := .cells #[.int .i64 t125, .int .i64 t126] 81 (0, 0)) (bL BK129.out) hg (Kd.N_ne HO133.out BK129.out (by decide)))
 replace BK130 := aM (blk_grown (g := gb130) (o := .cells #[.int .i64 t127, .int .i64 t128] 81 (0, 0)) (bL BK130.out) hg (Kd.N_ne HO133.out BK130.out (by decide)))
 replace HO136 := aM (Kd.N_afterv (ok := (fun k_ => (P0_ k_ ∨ w.heap.size ≤ k_) ∧ k_ ≠ gb108 ∧ k_ ≠ gb129 ∧ k_ ≠ gb130)) (by (with_reducible repeat (first | apply Kd.N_alloc | apply Kd.N_drewN | apply Kd.N_drew)); exact Kd.N_mono HO136.out (fun _ hk => ⟨⟨hk.1, ⟨hk.2.2.1, ⟨hk.2.2.2.1, hk.2.2.2.2⟩⟩⟩, hk.2.1⟩)) hg hat)
 replace HB := aM (hb)
 have HO139 := aM (ho)
 clear HO133
 clear ho hb hg hat
 refine hK.out _ _ ⟨(blk_cell BK129.out 0).trans rfl, (blk_cell BK129.out 1).trans rfl, (blk_cell BK130.out 0).trans rfl, (blk_cell BK130.out 1).trans rfl⟩ (fun hHeld => ?_)
 clear hK K
 refine normA (some 48) ?_
 refine pB 11 8 12 4095 ?_
 refine done_ (done_of HT_.out (by kernel_rfl)) ?_
 try go_wp2
 go_ret
 exact ⟨_, erR, by (with_reducible repeat (first | apply Kd.N_alloc | apply Kd.N_drewN | apply Kd.N_drew)); exact Kd.N_mono HO139.out (fun _ hk => hk.1), by repeat (first | (with_reducible first | exact HB.out | apply below_alloc | apply pw_below_drewN | apply below_drew1 | refine below_set ?_ GE108.out | refine below_set ?_ GE129.out | refine below_set ?_ GE130.out) | exact HB.out)⟩
/-! ### merkle_ProveRange: function 46 -/
def merkle_ProveRange.f (k : Nat) (l0 : List (List Int)) (a1 : Int) (a2 : Int) : Option ((List (List Int)) × Int) := (merkle_leaves.f k l0).bind fun t140 => (if t140 = 0 then (if a1 < 0 then (some (([] : List (List Int)), 1)) else (if a1 ≥ a2 then (some (([] : List (List Int)), 1)) else (if a2 > (l0.length : Int) then (some (([] : List (List Int)), 1)) else ((merkle_outer.f k l0 0 (l0.length : Int) a1 a2).bind fun t141 => (some (t141, 0)))))) else (some (([] : List (List Int)), t140)))
theorem merkle_ProveRange.mono : ∀ a0 a1 a2 k, LeO (merkle_ProveRange.f k a0 a1 a2) (merkle_ProveRange.f (k + 1) a0 a1 a2) := by
 intro a0 a1 a2 k
 unfold merkle_ProveRange.f
 repeat' first
   | (with_reducible exact merkle_leaves.mono _ _)
   | (with_reducible exact merkle_outer.mono _ _ _ _ _ _)
   | (with_reducible exact LeO.refl _)
   | (with_reducible exact LeO.none _)
   | (with_reducible refine LeO.ite ?_ ?_)
   | (with_reducible refine LeO.bind ?_ (fun _ => ?_))
set_option maxHeartbeats 8000000 in
set_option maxRecDepth 100000 in
theorem merkle_ProveRange.calls (k : Nat) (P0_ : Nat → Prop) (A0 : Option Addr) (c0 : Nat) (l0 : List (List Int)) (a1 : Int) (a2 : Int) (r1 : List (List Int)) (r2 : Int) (w : World) (HG : Glb w) (hs0 : Kd.V (Kd.slice 5 (Kd.int .u8)) 22 w w.heap.size (fun k_ => P0_ k_) (.slice A0 l0.length c0) l0) (h : merkle_ProveRange.f k l0 a1 a2 = some (r1, r2)) :
  Calls Tryd.prog 46 #[.slice A0 l0.length c0, .int .i64 a1, .int .i64 a2] w fun e w' => ∃ v0_ : Value, e = .returned (.tuple #[v0_, .int .i64 r2]) ∧ Kd.N (Kd.slice 5 (Kd.int .u8)) 22 w' w.heap.size (fun k_ => (P0_ k_ ∨ w.heap.size ≤ k_)) v0_ r1 ∧ Below w.heap.size w w' := by
 have hu81 := Tryd.underlying81
 have HO0 := aM (show Kd.V (Kd.slice 5 (Kd.int .u8)) 22 w w.heap.size (fun k_ => (P0_ k_ ∨ w.heap.size ≤ k_)) (.slice A0 l0.length c0) l0 from Kd.V_mono hs0 (fun k_ hk => .inl hk))
 have HB := aM (Below.refl w.heap.size w)
 have H : ((merkle_leaves.f k l0).bind fun t140 => (if t140 = 0 then (if a1 < 0 then (some (([] : List (List Int)), 1)) else (if a1 ≥ a2 then (some (([] : List (List Int)), 1)) else (if a2 > (l0.length : Int) then (some (([] : List (List Int)), 1)) else ((merkle_outer.f k l0 0 (l0.length : Int) a1 a2).bind fun t141 => (some (t141, 0)))))) else (some (([] : List (List Int)), t140)))) = some (r1, r2) := h
 clear h
 replace H := Option.bind_eq_some_iff.mp H
 obtain ⟨t140, A40, H⟩ := H
 replace H : (if t140 = 0 then (if a1 < 0 then (some (([] : List (List Int)), 1)) else (if a1 ≥ a2 then (some (([] : List (List Int)), 1)) else (if a2 > (l0.length : Int) then (some (([] : List (List Int)), 1)) else ((merkle_outer.f k l0 0 (l0.length : Int) a1 a2).bind fun t141 => (some (t141, 0)))))) else (some (([] : List (List Int)), t140))) = some (r1, r2) := H
 have A4 := aM A40
 clear A40
 by_cases c5 : t140 = 0
 rotate_left
 ·rw [if_neg c5] at H
  have c5b0 : (t140 == 0) = false := beq_eq_false_iff_ne.mpr c5
  have c5b1 : (t140 != 0) = true := bne_iff_ne.mpr c5
  simp only [Option.some.injEq, Prod.mk.injEq] at H
  obtain ⟨rfl, rfl⟩ := H
  go_enter Tryd.func46, Tryd.ntmps46
  go_wp2_with (first | ((with_reducible refine gate_callee (f := 57) rfl ?_); refine goesL_ (some 10) rfl rfl Tryd.func57 (by kernel_rfl) rfl #[.slice A0 l0.length c0] rfl eqA ?_; (with_reducible refine (merkle_leaves.calls k _ _ l0 t140 _ ?side1 ?side2 A4.out).mono ?_); (case side1 => exact cL (Kd.V_reads' HO0.out).2.2); (case side2 => exact (Kd.V_reads' HO0.out).2.1); rintro e w' ⟨rfl, ⟨nd, rfl⟩⟩; refine ⟨_, rfl, ?_⟩))
  go_ret2
  exact ⟨_, erR, by first | exact Kd.S_nil _ _ _ _ _ | exact Kd.N_nil _ _ _ _ _ | exact Kd.V_nil _ _ _ _ _ | exact Kd.Q_nil _ _ _ _ _ | exact Kd.R_nil _ _ _ _ _, bel⟩

 rw [if_pos c5] at H
 have c5b0 : (t140 == 0) = true := beq_iff_eq.mpr c5
 have c5b1 : (t140 != 0) = false := bne_eq_false_iff_eq.mpr c5
 clear c5
 by_cases c6 : a1 < 0
 ·rw [if_pos c6] at H
  have c6b0 : decide (a1 < 0) = true := decide_eq_true c6
  clear c6
  simp only [Option.some.injEq, Prod.mk.injEq] at H
  obtain ⟨rfl, rfl⟩ := H
  go_enter Tryd.func46, Tryd.ntmps46
  go_wp2_with (first | ((with_reducible refine gate_callee (f := 57) rfl ?_); refine goesL_ (some 10) rfl rfl Tryd.func57 (by kernel_rfl) rfl #[.slice A0 l0.length c0] rfl eqA ?_; (with_reducible refine (merkle_leaves.calls k _ _ l0 t140 _ ?side1 ?side2 A4.out).mono ?_); (case side1 => exact cL (Kd.V_reads' HO0.out).2.2); (case side2 => exact (Kd.V_reads' HO0.out).2.1); rintro e w' ⟨rfl, ⟨nd, rfl⟩⟩; refine ⟨_, rfl, ?_⟩))
  go_ret2
  exact ⟨_, erR, by first | exact Kd.S_nil _ _ _ _ _ | exact Kd.N_nil _ _ _ _ _ | exact Kd.V_nil _ _ _ _ _ | exact Kd.Q_nil _ _ _ _ _ | exact Kd.R_nil _ _ _ _ _, bel⟩
 rw [if_neg c6] at H
 have c6b0 : decide (a1 < 0) = false := decide_eq_false c6
 clear c6
 by_cases c7 : a1 ≥ a2
 ·rw [if_pos c7] at H
  have c7b0 : decide (a2 ≤ a1) = true := decide_eq_true c7
  clear c7
  simp only [Option.some.injEq, Prod.mk.injEq] at H
  obtain ⟨rfl, rfl⟩ := H
  go_enter Tryd.func46, Tryd.ntmps46
  go_wp2_with (first | ((with_reducible refine gate_callee (f := 57) rfl ?_); refine goesL_ (some 10) rfl rfl Tryd.func57 (by kernel_rfl) rfl #[.slice A0 l0.length c0] rfl eqA ?_; (with_reducible refine (merkle_leaves.calls k _ _ l0 t140 _ ?side1 ?side2 A4.out).mono ?_); (case side1 => exact cL (Kd.V_reads' HO0.out).2.2); (case side2 => exact (Kd.V_reads' HO0.out).2.1); rintro e w' ⟨rfl, ⟨nd, rfl⟩⟩; refine ⟨_, rfl, ?_⟩))
  go_ret2
  exact ⟨_, erR, by first | exact Kd.S_nil _ _ _ _ _ | exact Kd.N_nil _ _ _ _ _ | exact Kd.V_nil _ _ _ _ _ | exact Kd.Q_nil _ _ _ _ _ | exact Kd.R_nil _ _ _ _ _, bel⟩
 rw [if_neg c7] at H
 have c7b0 : decide (a2 ≤ a1) = false := decide_eq_false c7
 clear c7
 by_cases c8 : a2 > (l0.length : Int)
 ·rw [if_pos c8] at H
  have c8b0 : decide ((l0.length : Int) < a2) = true := decide_eq_true c8
  clear c8
  simp only [Option.some.injEq, Prod.mk.injEq] at H
  obtain ⟨rfl, rfl⟩ := H
  go_enter Tryd.func46, Tryd.ntmps46
  go_wp2_with (first | ((with_reducible refine gate_callee (f := 57) rfl ?_); refine goesL_ (some 10) rfl rfl Tryd.func57 (by kernel_rfl) rfl #[.slice A0 l0.length c0] rfl eqA ?_; (with_reducible refine (merkle_leaves.calls k _ _ l0 t140 _ ?side1 ?side2 A4.out).mono ?_); (case side1 => exact cL (Kd.V_reads' HO0.out).2.2); (case side2 => exact (Kd.V_reads' HO0.out).2.1); rintro e w' ⟨rfl, ⟨nd, rfl⟩⟩; refine ⟨_, rfl, ?_⟩))
  go_ret2
  exact ⟨_, erR, by first | exact Kd.S_nil _ _ _ _ _ | exact Kd.N_nil _ _ _ _ _ | exact Kd.V_nil _ _ _ _ _ | exact Kd.Q_nil _ _ _ _ _ | exact Kd.R_nil _ _ _ _ _, bel⟩
 rw [if_neg c8] at H
 have c8b0 : decide ((l0.length : Int) < a2) = false := decide_eq_false c8
 clear c8
 replace H := Option.bind_eq_some_iff.mp H
 obtain ⟨t141, A90, H⟩ := H
 replace H : (some (t141, 0)) = some (r1, r2) := H
 have A9 := aM A90
 clear A90
 simp only [Option.some.injEq, Prod.mk.injEq] at H
 obtain ⟨rfl, rfl⟩ := H
 go_enter Tryd.func46, Tryd.ntmps46
 go_wp2_with (first | ((with_reducible refine gate_callee (f := 57) rfl ?_); refine goesL_ (some 10) rfl rfl Tryd.func57 (by kernel_rfl) rfl #[.slice A0 l0.length c0] rfl eqA ?_; (with_reducible refine (merkle_leaves.calls k _ _ l0 t140 _ ?side1 ?side2 A4.out).mono ?_); (case side1 => exact cL (Kd.V_reads' HO0.out).2.2); (case side2 => exact (Kd.V_reads' HO0.out).2.1); rintro e w' ⟨rfl, ⟨nd, rfl⟩⟩; refine ⟨_, rfl, ?_⟩) | ((with_reducible refine gate_callee (f := 67) rfl ?_); refine goesL_ (some 33) rfl rfl Tryd.func67 (by kernel_rfl) rfl #[.slice A0 l0.length c0, .agg #[.int .i64 0, .int .i64 (l0.length : Int)], .int .i64 a1, .int .i64 a2] rfl eqA ?_; (with_reducible refine (merkle_outer.calls k (fun k_ => (P0_ k_ ∨ w.heap.size ≤ k_)) _ _ l0 0 (l0.length : Int) a1 a2 t141 _ (Glb.of HG bel) ?side1 A9.out).mono ?_); (case side1 => exact HO0.out); rintro e w10 ⟨v142, rfl, ho0, hb⟩; refine ⟨_, rfl, ?_⟩; replace HO0 := aM (Kd.V_elder' (vL HO0.out) (Kd.N_base ho0) hb); have HO143 := aM (Kd.N_lower (Kd.N_mono (ok' := fun k_ => (P0_ k_ ∨ w.heap.size ≤ k_)) ho0 (fun k_ hk_ => Or.elim hk_ (fun hs_ => hs_) (fun hn_ => (.inr (Nat.le_trans (below_size bel) hn_))))) (below_size bel)); replace HB := aM (below_step bel hb); clear hb ho0))
 go_ret2
 exact ⟨_, erR, by (with_reducible repeat (first | apply Kd.N_alloc | apply Kd.N_drewN | apply Kd.N_drew)); exact HO143.out, bel⟩
end Go.Proofs.YtdpdmmbdoeefbaaDoor.PCr
