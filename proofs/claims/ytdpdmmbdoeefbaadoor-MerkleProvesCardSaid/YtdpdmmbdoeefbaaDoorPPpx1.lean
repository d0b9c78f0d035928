-- Written by a program of this session, after the print of the kit.
import Derived.Test.YtdpdmmbdoeefbaaDoorWC
import Derived.Test.YtdpdmmbdoeefbaaDoorPPpx0
namespace Go.Proofs.YtdpdmmbdoeefbaaDoor.PPp
open Go.RowKit Go.Proofs.YtdpdmmbdoeefbaaDoor.X Go.Proofs.YtdpdmmbdoeefbaaDoor.PCut Go.Proofs.YtdpdmmbdoeefbaaDoor.PCa Go.Proofs.YtdpdmmbdoeefbaaDoor.PCs Go.Proofs.YtdpdmmbdoeefbaaDoor.PCo Go.Proofs.YtdpdmmbdoeefbaaDoor.PCr Go.Proofs.YtdpdmmbdoeefbaaDoor.PRa Go.Proofs.YtdpdmmbdoeefbaaDoor.PPw Go.Proofs.YtdpdmmbdoeefbaaDoor.PPv Go.Proofs.YtdpdmmbdoeefbaaDoor.PRb Go.Proofs.YtdpdmmbdoeefbaaDoor.PRc Go.Proofs.YtdpdmmbdoeefbaaDoor.PRd Go.Proofs.YtdpdmmbdoeefbaaDoor.PRe Go.Proofs.YtdpdmmbdoeefbaaDoor.PUp Go.Proofs.YtdpdmmbdoeefbaaDoor.PCl Go.Proofs.YtdpdmmbdoeefbaaDoorW.PrintWords Go.Proofs.YtdpdmmbdoeefbaaDoorW.PrintLast Go.Proofs.YtdpdmmbdoeefbaaDoorW.PrintMore
attribute [local go_sem] max2_int min2_int max_two min_two max_three min_three max_four min_four   -- for this text's walks alone
set_option linter.unusedVariables false
set_option linter.unusedSimpArgs false

/-! ### imprimaturlaw06_MerkleProves: function 9 -/
def imprimaturlaw06_MerkleProves.f (k : Nat) (l0 : List (List Int)) (a1 : Int) : Option (Bool) := (imprimaturref06_Size.f k l0 1500).bind fun t101 => (if t101 > 1500 then ((imprimaturlaw06_known.f).bind fun t102 => (some t102)) else ((merkle_Prove.f k l0 a1).bind fun bt103 => ((imprimaturref06_Prove.f k l0 a1).bind fun bt107 => ((imprimaturref06_Same.f k bt103.1 bt107.1).bind fun t111 => (if t111 = true then (if bt103.2 = bt107.2 then ((imprimaturlaw06_known.f).bind fun t112 => (some t112)) else (some false)) else (some false))))))
theorem imprimaturlaw06_MerkleProves.mono : ∀ a0 a1 k, LeO (imprimaturlaw06_MerkleProves.f k a0 a1) (imprimaturlaw06_MerkleProves.f (k + 1) a0 a1) := by
 intro a0 a1 k
 unfold imprimaturlaw06_MerkleProves.f
 repeat' first
   | (with_reducible exact imprimaturref06_Prove.mono _ _ _)
   | (with_reducible exact imprimaturref06_Same.mono _ _ _)
   | (with_reducible exact imprimaturref06_Size.mono _ _ _)
   | (with_reducible exact merkle_Prove.mono _ _ _)
   | (with_reducible exact LeO.refl _)
   | (with_reducible exact LeO.none _)
   | (with_reducible refine LeO.ite ?_ ?_)
   | (with_reducible refine LeO.bind ?_ (fun _ => ?_))
   | exact imprimaturref06_Prove.mono _ _ _
   | exact imprimaturref06_Same.mono _ _ _
   | exact imprimaturref06_Size.mono _ _ _
   | exact merkle_Prove.mono _ _ _
   | exact LeO.none _
   | refine LeO.ite ?_ ?_
   | refine LeO.bind ?_ (fun _ => ?_)
set_option maxHeartbeats 8000000 in
set_option maxRecDepth 100000 in
theorem imprimaturlaw06_MerkleProves.calls (k : Nat) (A0 : Option Addr) (c0 : Nat) (l0 : List (List Int)) (a1 : Int) (r : Bool) (w : World) (HG : Glb w) (hr0 : Kd.C (Kd.slice 5 (Kd.int .u8)) w A0 l0.length l0) (hc0 : l0.length ≤ c0) (h : imprimaturlaw06_MerkleProves.f k l0 a1 = some r) :
  Calls Tryd.prog 9 #[.slice A0 l0.length c0, .int .i64 a1] w fun e w' => e = .returned (.bool r) ∧ Below w.heap.size w w' := by
 have HR0 := Aside0.mk hr0
 have HC0 := Aside0.mk hc0
 clear hr0 hc0
 have HB := Aside0.mk (Below.refl w.heap.size w)
 have H : ((imprimaturref06_Size.f k l0 1500).bind fun t101 => (if t101 > 1500 then ((imprimaturlaw06_known.f).bind fun t102 => (some t102)) else ((merkle_Prove.f k l0 a1).bind fun bt103 => ((imprimaturref06_Prove.f k l0 a1).bind fun bt107 => ((imprimaturref06_Same.f k bt103.1 bt107.1).bind fun t111 => (if t111 = true then (if bt103.2 = bt107.2 then ((imprimaturlaw06_known.f).bind fun t112 => (some t112)) else (some false)) else (some false))))))) = some r := h
 clear h
 replace H := Option.bind_eq_some_iff.mp H
 obtain ⟨t101, A30, H⟩ := H
 replace H : (if t101 > 1500 then ((imprimaturlaw06_known.f).bind fun t102 => (some t102)) else ((merkle_Prove.f k l0 a1).bind fun bt103 => ((imprimaturref06_Prove.f k l0 a1).bind fun bt107 => ((imprimaturref06_Same.f k bt103.1 bt107.1).bind fun t111 => (if t111 = true then (if bt103.2 = bt107.2 then ((imprimaturlaw06_known.f).bind fun t112 => (some t112)) else (some false)) else (some false)))))) = some r := H
 have A3 := Aside0.mk A30
 clear A30
 by_cases c4 : t101 > 1500
 ·rw [if_pos c4] at H
  have c4b0 : decide (1500 < t101) = true := decide_eq_true c4
  clear c4
  replace H := Option.bind_eq_some_iff.mp H
  obtain ⟨t102, A50, H⟩ := H
  replace H : (some t102) = some r := H
  have A5 := Aside0.mk A50
  clear A50
  obtain rfl := Option.some.inj H
  go_enter Tryd.func9, Tryd.ntmps9
  go_wp2_with (first | ((with_reducible refine gate_callee (f := 14) rfl ?_); refine goesL_ (some 10) rfl rfl Tryd.func14 (by kernel_rfl) rfl #[.slice A0 l0.length c0, .int .i64 1500] rfl eqA ?_; (with_reducible refine (imprimaturref06_Size.calls k _ _ l0 1500 t101 _ ?side1 ?side2 A3.out).mono ?_); (case side1 => exact cL HR0.out); (case side2 => exact HC0.out); rintro e w' ⟨rfl, ⟨nd, rfl⟩⟩; refine ⟨_, rfl, ?_⟩) | ((with_reducible refine gate_callee (f := 15) rfl ?_); refine goesL_ (some 12) rfl rfl Tryd.func15 (by kernel_rfl) rfl #[] rfl eqA ?_; (with_reducible refine (imprimaturlaw06_known.calls  t102 _ (Glb.of HG bel) A5.out).mono ?_); rintro e w6 ⟨rfl, hb⟩; refine ⟨_, rfl, ?_⟩; have n0_ := Aside0.mk (below_step bel hb); clear HB; have HB := n0_; clear n0_; (try clear hb); (try clear hb2); (try clear hk); (try clear hi)))
  go_ret
  exact ⟨by first | rfl | (simp [errW_none, errW_some] <;> rfl) | (simp [*, errW_none, errW_some] <;> rfl), by repeat (first | (with_reducible first | exact HB.out | apply below_alloc | apply pw_below_drewN | apply below_drew1) | exact HB.out)⟩
 ·rw [if_neg c4] at H
  have c4b0 : decide (1500 < t101) = false := decide_eq_false c4
  clear c4
  replace H := Option.bind_eq_some_iff.mp H
  obtain ⟨⟨t103, t104⟩, A70, H⟩ := H
  replace H : ((imprimaturref06_Prove.f k l0 a1).bind fun bt107 => ((imprimaturref06_Same.f k t103 bt107.1).bind fun t111 => (if t111 = true then (if t104 = bt107.2 then ((imprimaturlaw06_known.f).bind fun t112 => (some t112)) else (some false)) else (some false)))) = some r := H
  have A7 := Aside0.mk A70
  clear A70
  replace H := Option.bind_eq_some_iff.mp H
  obtain ⟨⟨t107, t110⟩, A80, H⟩ := H
  replace H : ((imprimaturref06_Same.f k t103 t107).bind fun t111 => (if t111 = true then (if t104 = t110 then ((imprimaturlaw06_known.f).bind fun t112 => (some t112)) else (some false)) else (some false))) = some r := H
  have A8 := Aside0.mk A80
  clear A80
  replace H := Option.bind_eq_some_iff.mp H
  obtain ⟨t111, A90, H⟩ := H
  replace H : (if t111 = true then (if t104 = t110 then ((imprimaturlaw06_known.f).bind fun t112 => (some t112)) else (some false)) else (some false)) = some r := H
  have A9 := Aside0.mk A90
  clear A90
  by_cases c10 : t111 = true
  ·subst c10
   have H1 : (if t104 = t110 then ((imprimaturlaw06_known.f).bind fun t112 => (some t112)) else (some false)) = some r := by rw [if_pos rfl] at H; exact H
   clear H
   have H := H1
   clear H1
   by_cases c11 : t104 = t110
   ·rw [if_pos c11] at H
    have c11b0 : (t104 == t110) = true := beq_iff_eq.mpr c11
    have c11b1 : (t104 != t110) = false := bne_eq_false_iff_eq.mpr c11
    clear c11
    replace H := Option.bind_eq_some_iff.mp H
    obtain ⟨t112, A120, H⟩ := H
    replace H : (some t112) = some r := H
    have A12 := Aside0.mk A120
    clear A120
    obtain rfl := Option.some.inj H
    go_enter Tryd.func9, Tryd.ntmps9
    go_wp2_with (first | ((with_reducible refine gate_callee (f := 14) rfl ?_); refine goesL_ (some 10) rfl rfl Tryd.func14 (by kernel_rfl) rfl #[.slice A0 l0.length c0, .int .i64 1500] rfl eqA ?_; (with_reducible refine (imprimaturref06_Size.calls k _ _ l0 1500 t101 _ ?side1 ?side2 A3.out).mono ?_); (case side1 => exact cL HR0.out); (case side2 => exact HC0.out); rintro e w' ⟨rfl, ⟨nd, rfl⟩⟩; refine ⟨_, rfl, ?_⟩) | ((with_reducible refine gate_callee (f := 40) rfl ?_); refine goesL_ (some 16) rfl rfl Tryd.func40 (by kernel_rfl) rfl #[.slice A0 l0.length c0, .int .i64 a1] rfl eqA ?_; (with_reducible refine (merkle_Prove.calls k _ _ l0 a1 t103 t104 _ (Glb.of HG bel) ?side1 ?side2 A7.out).mono ?_); (case side1 => exact cL HR0.out); (case side2 => exact HC0.out); rintro e w13 ⟨v105, rfl, ho0, hb⟩; refine ⟨_, rfl, ?_⟩; have n0_ := Aside0.mk (Kd.N_lower (Kd.N_mono (ok' := fun k_ => True) (Kd.S_N (Kd.S_bound ho0)) (fun k_ hk_ => trivial)) (below_size bel)); have n1_ := Aside0.mk (below_step bel hb); clear HB; have HO106 := n0_; have HB := n1_; clear n0_ n1_; (try clear hb); (try clear hb2); (try clear hk); (try clear hi); (try clear ho0)) | ((with_reducible refine gate_callee (f := 29) rfl ?_); refine goesL_ (some 22) rfl rfl Tryd.func29 (by kernel_rfl) rfl #[.slice A0 l0.length c0, .int .i64 a1] rfl eqA ?_; (with_reducible refine (imprimaturref06_Prove.calls k (fun k_ => k_ < w.heap.size) _ _ l0 a1 t107 t110 _ ?side1 A8.out).mono ?_); (case side1 => exact Kd.V_mk HC0.out (Kd.F_below (Kd.C_F (Kd.heap_slice 5 (Kd.heap_int .u8)) HR0.out) bel)); rintro e w14 ⟨v108, rfl, ho0, hb⟩; refine ⟨_, rfl, ?_⟩; have n0_ := Aside0.mk (Kd.N_elder' (nL HO106.out) (Kd.N_base ho0) hb); have n1_ := Aside0.mk (Kd.N_lower (Kd.N_mono (ok' := fun k_ => some k_ ≠ (v105 : Value).ownBlock) ho0 (fun k_ hk_ => Or.elim hk_ (fun hs_ => fun e_ => Nat.not_le.2 hs_ (Kd.N_base HO106.out k_ e_.symm)) (fun hn_ => (Kd.fresh' (Kd.N_lt (nL HO106.out)) k_ hn_)))) (below_size bel)); have n2_ := Aside0.mk (below_step bel hb); clear HO106; clear HB; have HO106 := n0_; have HO109 := n1_; have HB := n2_; clear n0_ n1_ n2_; (try clear hb); (try clear hb2); (try clear hk); (try clear hi); (try clear ho0); obtain ⟨Ao15, co15, eo15⟩ := Kd.N_slice HO106.out; subst eo15; obtain ⟨Ao16, co16, eo16⟩ := Kd.N_slice HO109.out; subst eo16) | ((with_reducible refine gate_callee (f := 30) rfl ?_); refine goesL_ (some 27) rfl rfl Tryd.func30 (by kernel_rfl) rfl #[.slice Ao15 t103.length co15, .slice Ao16 t107.length co16] rfl eqA ?_; (with_reducible refine (imprimaturref06_Same.calls k _ _ t103 _ _ t107 true _ ?side1 ?side2 ?side3 ?side4 A9.out).mono ?_); (case side1 => exact cL (Kd.N_reads' HO106.out).2.2); (case side2 => exact (Kd.N_reads' HO106.out).2.1); (case side3 => exact cL (Kd.N_reads' HO109.out).2.2); (case side4 => exact (Kd.N_reads' HO109.out).2.1); rintro e w' ⟨rfl, ⟨nd, rfl⟩⟩; refine ⟨_, rfl, ?_⟩) | (go_at_call 15; (with_reducible refine (imprimaturlaw06_known.calls  t112 _ (Glb.of HG bel) A12.out).mono ?_); rintro e w17 ⟨rfl, hb⟩; have n0_ := Aside0.mk (Kd.N_below (nL HO106.out) hb); have n1_ := Aside0.mk (Kd.N_below (nL HO109.out) hb); have n2_ := Aside0.mk (below_step bel hb); clear HO106; clear HO109; clear HB; have HO106 := n0_; have HO109 := n1_; have HB := n2_; clear n0_ n1_ n2_; (try clear hb); (try clear hb2); (try clear hk); (try clear hi)))
    go_ret
    exact ⟨by first | rfl | (simp [errW_none, errW_some] <;> rfl) | (simp [*, errW_none, errW_some] <;> rfl), by repeat (first | (with_reducible first | exact HB.out | apply below_alloc | apply pw_below_drewN | apply below_drew1) | exact HB.out)⟩
   ·rw [if_neg c11] at H
    have c11b0 : (t104 == t110) = false := beq_eq_false_iff_ne.mpr c11
    have c11b1 : (t104 != t110) = true := bne_iff_ne.mpr c11
    obtain rfl := Option.some.inj H
    go_enter Tryd.func9, Tryd.ntmps9
    go_wp2_with (first | ((with_reducible refine gate_callee (f := 14) rfl ?_); refine goesL_ (some 10) rfl rfl Tryd.func14 (by kernel_rfl) rfl #[.slice A0 l0.length c0, .int .i64 1500] rfl eqA ?_; (with_reducible refine (imprimaturref06_Size.calls k _ _ l0 1500 t101 _ ?side1 ?side2 A3.out).mono ?_); (case side1 => exact cL HR0.out); (case side2 => exact HC0.out); rintro e w' ⟨rfl, ⟨nd, rfl⟩⟩; refine ⟨_, rfl, ?_⟩) | ((with_reducible refine gate_callee (f := 40) rfl ?_); refine goesL_ (some 16) rfl rfl Tryd.func40 (by kernel_rfl) rfl #[.slice A0 l0.length c0, .int .i64 a1] rfl eqA ?_; (with_reducible refine (merkle_Prove.calls k _ _ l0 a1 t103 t104 _ (Glb.of HG bel) ?side1 ?side2 A7.out).mono ?_); (case side1 => exact cL HR0.out); (case side2 => exact HC0.out); rintro e w18 ⟨v105, rfl, ho0, hb⟩; refine ⟨_, rfl, ?_⟩; have n0_ := Aside0.mk (Kd.N_lower (Kd.N_mono (ok' := fun k_ => True) (Kd.S_N (Kd.S_bound ho0)) (fun k_ hk_ => trivial)) (below_size bel)); have n1_ := Aside0.mk (below_step bel hb); clear HB; have HO106 := n0_; have HB := n1_; clear n0_ n1_; (try clear hb); (try clear hb2); (try clear hk); (try clear hi); (try clear ho0)) | ((with_reducible refine gate_callee (f := 29) rfl ?_); refine goesL_ (some 22) rfl rfl Tryd.func29 (by kernel_rfl) rfl #[.slice A0 l0.length c0, .int .i64 a1] rfl eqA ?_; (with_reducible refine (imprimaturref06_Prove.calls k (fun k_ => k_ < w.heap.size) _ _ l0 a1 t107 t110 _ ?side1 A8.out).mono ?_); (case side1 => exact Kd.V_mk HC0.out (Kd.F_below (Kd.C_F (Kd.heap_slice 5 (Kd.heap_int .u8)) HR0.out) bel)); rintro e w19 ⟨v108, rfl, ho0, hb⟩; refine ⟨_, rfl, ?_⟩; have n0_ := Aside0.mk (Kd.N_elder' (nL HO106.out) (Kd.N_base ho0) hb); have n1_ := Aside0.mk (Kd.N_lower (Kd.N_mono (ok' := fun k_ => some k_ ≠ (v105 : Value).ownBlock) ho0 (fun k_ hk_ => Or.elim hk_ (fun hs_ => fun e_ => Nat.not_le.2 hs_ (Kd.N_base HO106.out k_ e_.symm)) (fun hn_ => (Kd.fresh' (Kd.N_lt (nL HO106.out)) k_ hn_)))) (below_size bel)); have n2_ := Aside0.mk (below_step bel hb); clear HO106; clear HB; have HO106 := n0_; have HO109 := n1_; have HB := n2_; clear n0_ n1_ n2_; (try clear hb); (try clear hb2); (try clear hk); (try clear hi); (try clear ho0); obtain ⟨Ao20, co20, eo20⟩ := Kd.N_slice HO106.out; subst eo20; obtain ⟨Ao21, co21, eo21⟩ := Kd.N_slice HO109.out; subst eo21) | ((with_reducible refine gate_callee (f := 30) rfl ?_); refine goesL_ (some 27) rfl rfl Tryd.func30 (by kernel_rfl) rfl #[.slice Ao20 t103.length co20, .slice Ao21 t107.length co21] rfl eqA ?_; (with_reducible refine (imprimaturref06_Same.calls k _ _ t103 _ _ t107 true _ ?side1 ?side2 ?side3 ?side4 A9.out).mono ?_); (case side1 => exact cL (Kd.N_reads' HO106.out).2.2); (case side2 => exact (Kd.N_reads' HO106.out).2.1); (case side3 => exact cL (Kd.N_reads' HO109.out).2.2); (case side4 => exact (Kd.N_reads' HO109.out).2.1); rintro e w' ⟨rfl, ⟨nd, rfl⟩⟩; refine ⟨_, rfl, ?_⟩))
    go_ret
    exact ⟨by first | rfl | (simp [errW_none, errW_some] <;> rfl) | (simp [*, errW_none, errW_some] <;> rfl), by repeat (first | (with_reducible first | exact HB.out | apply below_alloc | apply pw_below_drewN | apply below_drew1) | exact HB.out)⟩
  ·replace c10 := Bool.eq_false_iff.mpr c10
   subst c10
   have H1 : (some false) = some r := by rw [if_neg (show ¬ (false = true) by decide)] at H; exact H
   clear H
   have H := H1
   clear H1
   obtain rfl := Option.some.inj H
   go_enter Tryd.func9, Tryd.ntmps9
   go_wp2_with (first | ((with_reducible refine gate_callee (f := 14) rfl ?_); refine goesL_ (some 10) rfl rfl Tryd.func14 (by kernel_rfl) rfl #[.slice A0 l0.length c0, .int .i64 1500] rfl eqA ?_; (with_reducible refine (imprimaturref06_Size.calls k _ _ l0 1500 t101 _ ?side1 ?side2 A3.out).mono ?_); (case side1 => exact cL HR0.out); (case side2 => exact HC0.out); rintro e w' ⟨rfl, ⟨nd, rfl⟩⟩; refine ⟨_, rfl, ?_⟩) | ((with_reducible refine gate_callee (f := 40) rfl ?_); refine goesL_ (some 16) rfl rfl Tryd.func40 (by kernel_rfl) rfl #[.slice A0 l0.length c0, .int .i64 a1] rfl eqA ?_; (with_reducible refine (merkle_Prove.calls k _ _ l0 a1 t103 t104 _ (Glb.of HG bel) ?side1 ?side2 A7.out).mono ?_); (case side1 => exact cL HR0.out); (case side2 => exact HC0.out); rintro e w22 ⟨v105, rfl, ho0, hb⟩; refine ⟨_, rfl, ?_⟩; have n0_ := Aside0.mk (Kd.N_lower (Kd.N_mono (ok' := fun k_ => True) (Kd.S_N (Kd.S_bound ho0)) (fun k_ hk_ => trivial)) (below_size bel)); have n1_ := Aside0.mk (below_step bel hb); clear HB; have HO106 := n0_; have HB := n1_; clear n0_ n1_; (try clear hb); (try clear hb2); (try clear hk); (try clear hi); (try clear ho0)) | ((with_reducible refine gate_callee (f := 29) rfl ?_); refine goesL_ (some 22) rfl rfl Tryd.func29 (by kernel_rfl) rfl #[.slice A0 l0.length c0, .int .i64 a1] rfl eqA ?_; (with_reducible refine (imprimaturref06_Prove.calls k (fun k_ => k_ < w.heap.size) _ _ l0 a1 t107 t110 _ ?side1 A8.out).mono ?_); (case side1 => exact Kd.V_mk HC0.out (Kd.F_below (Kd.C_F (Kd.heap_slice 5 (Kd.heap_int .u8)) HR0.out) bel)); rintro e w23 ⟨v108, rfl, ho0, hb⟩; refine ⟨_, rfl, ?_⟩; have n0_ := Aside0.mk (Kd.N_elder' (nL HO106.out) (Kd.N_base ho0) hb); have n1_ := Aside0.mk (Kd.N_lower (Kd.N_mono (ok' := fun k_ => some k_ ≠ (v105 : Value).ownBlock) ho0 (fun k_ hk_ => Or.elim hk_ (fun hs_ => fun e_ => Nat.not_le.2 hs_ (Kd.N_base HO106.out k_ e_.symm)) (fun hn_ => (Kd.fresh' (Kd.N_lt (nL HO106.out)) k_ hn_)))) (below_size bel)); have n2_ := Aside0.mk (below_step bel hb); clear HO106; clear HB; have HO106 := n0_; have HO109 := n1_; have HB := n2_; clear n0_ n1_ n2_; (try clear hb); (try clear hb2); (try clear hk); (try clear hi); (try clear ho0); obtain ⟨Ao24, co24, eo24⟩ := Kd.N_slice HO106.out; subst eo24; obtain ⟨Ao25, co25, eo25⟩ := Kd.N_slice HO109.out; subst eo25) | ((with_reducible refine gate_callee (f := 30) rfl ?_); refine goesL_ (some 27) rfl rfl Tryd.func30 (by kernel_rfl) rfl #[.slice Ao24 t103.length co24, .slice Ao25 t107.length co25] rfl eqA ?_; (with_reducible refine (imprimaturref06_Same.calls k _ _ t103 _ _ t107 false _ ?side1 ?side2 ?side3 ?side4 A9.out).mono ?_); (case side1 => exact cL (Kd.N_reads' HO106.out).2.2); (case side2 => exact (Kd.N_reads' HO106.out).2.1); (case side3 => exact cL (Kd.N_reads' HO109.out).2.2); (case side4 => exact (Kd.N_reads' HO109.out).2.1); rintro e w' ⟨rfl, ⟨nd, rfl⟩⟩; refine ⟨_, rfl, ?_⟩))
   go_ret
   exact ⟨by first | rfl | (simp [errW_none, errW_some] <;> rfl) | (simp [*, errW_none, errW_some] <;> rfl), by repeat (first | (with_reducible first | exact HB.out | apply below_alloc | apply pw_below_drewN | apply below_drew1) | exact HB.out)⟩

end Go.Proofs.YtdpdmmbdoeefbaaDoor.PPp
