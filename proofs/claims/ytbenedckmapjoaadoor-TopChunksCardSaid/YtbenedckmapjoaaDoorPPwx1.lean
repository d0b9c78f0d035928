-- Written by a program of this session, after the print of the kit.
import Derived.Test.YtbenedckmapjoaaDoorWC
import Derived.Test.YtbenedckmapjoaaDoorPPwx0
namespace Go.Proofs.YtbenedckmapjoaaDoor.PPw
open Go.RowKit Go.Proofs.YtbenedckmapjoaaDoor.X Go.Proofs.YtbenedckmapjoaaDoor.PCut Go.Proofs.YtbenedckmapjoaaDoorW.PrintWords Go.Proofs.YtbenedckmapjoaaDoorW.PrintLast Go.Proofs.YtbenedckmapjoaaDoorW.PrintMore
attribute [local go_sem] max2_int min2_int max_two min_two max_three min_three max_four min_four   -- for this text's walks alone
set_option linter.unusedVariables false
set_option linter.unusedSimpArgs false

/-! ### merkle_ProveW: function 89 -/
def merkle_ProveW.f : Nat → List (List Int) → Int → Option ((List (List Int)))
 | 0, _, _ => none
 | k + 1, l0, a1 => if (l0.length : Int) = 1 then (some ([] : List (List Int))) else ((merkle_half.f (l0.length : Int)).bind fun t101 => (if a1 < t101 then (if 0 ≤ t101 then (if t101 ≤ (l0.length : Int) then ((merkle_ProveW.f k (l0.take (t101 : Int).toNat) a1).bind fun t106 => ((merkle_top.f k (l0.drop (t101 : Int).toNat)).bind fun t113 => (if ([] : List Int).length + t113.length < 140737488355328 then (if t106.length < 5864062014805 then (some (t106 ++ [(([] : List Int) ++ t113)])) else (none)) else (none)))) else (none)) else (none)) else (if 0 ≤ t101 then (if t101 ≤ (l0.length : Int) then ((merkle_ProveW.f k (l0.drop (t101 : Int).toNat) (wrap64 (a1 - t101))).bind fun t126 => ((merkle_top.f k (l0.take (t101 : Int).toNat)).bind fun t133 => (if ([] : List Int).length + t133.length < 140737488355328 then (if t126.length < 5864062014805 then (some (t126 ++ [(([] : List Int) ++ t133)])) else (none)) else (none)))) else (none)) else (none))))
theorem merkle_ProveW.mono_l : ∀ k, (∀ y0 y1, LeO (merkle_ProveW.f k y0 y1) (merkle_ProveW.f (k + 1) y0 y1))
 | 0 => fun _ _ r h => by simp [merkle_ProveW.f] at h
 | k + 1 => by
  have ih0 := merkle_ProveW.mono_l k
  intro y0 y1
  unfold merkle_ProveW.f
  repeat' first
  | (with_reducible exact ih0 _ _)
  | (with_reducible exact merkle_top.mono _ _)
  | (with_reducible exact LeO.refl _)
  | (with_reducible exact LeO.none _)
  | (with_reducible refine LeO.ite ?_ ?_)
  | (with_reducible refine LeO.bind ?_ (fun _ => ?_))
theorem merkle_ProveW.mono : ∀ a0 a1 k, LeO (merkle_ProveW.f k a0 a1) (merkle_ProveW.f (k + 1) a0 a1) := by
 intro a0 a1 k
 have ih0 := merkle_ProveW.mono_l k
 exact ih0 a0 a1
theorem goesv_ {P : Program} {ops : Array Oper} {Q : Exit → Act → World → Prop} {oi : Oper} {N : Option Tmp} {a : Act} {w : World} {K : Act → World → Prop} {f : FuncId} {fn : Func} {t : Tmp} {as_ : Array Operand} {ts : Array TypeId} (hf : P.funcs[f]? = some fn) (hname : (fn.name == "runtime.NumGoroutine") = false) (hb : fn.body.isSome = true) (args caps all_ : Array Value) (hall : args ++ caps = all_)
  (hw : Region.wanted oi (yielded ops a.tmps) = true) (hN : oi.dst = N) (hop : oi.op = .call { callee := .value (.tmp t), args := as_, argTypes := ts }) (hv : a.tmps[t]?.getD undef = .func (.func f) #[] caps) (hargs : as_.map a.eval = args)
  (h : Calls P f all_ w fun e w' => ∃ v, e = .returned v ∧ K (a.put N v) w') : if Region.wanted oi (yielded ops a.tmps) = true then Oper.wp P oi a w K Q else K (a.put N undef) w := by
 subst hall
 refine call_ f (args ++ caps) hw hN ?_ h
 have he := enters_ hf hname hb (args ++ caps) w
 unfold execOp
 simp [hop, resolve, Deferred.ofValue, invoke, Act.eval, hargs, hv]
 exact he
def merkle_ProveW.T5 : Bool × List (List Nat × List Nat) := (true, [([], []), ([], []), ([], []), ([1, 2], [1, 2]), ([], []), ([0, 3, 4], [0, 3, 4]), ([], []), ([], []), ([6, 7], [6, 7]), ([8, 5], [8]), ([9, 9], [9]), ([10], [10]), ([5, 11, 10], [5, 11]), ([12, 12, 0, 1, 2, 3, 4, 5, 6, 7, 8, 9, 10, 11, 12], [12])])
def merkle_ProveW.B5 : List Nat := [0, 0, 0, 6, 0, 31, 0, 0, 192, 511, 1023, 2047, 4095, 8191]
theorem merkle_ProveW.tab5 : rtab .any (opsOf Tryd.f89 5) = merkle_ProveW.T5 := by kernel_rfl
theorem merkle_ProveW.bits5 : waitsOk merkle_ProveW.T5.2 merkle_ProveW.B5 = true := by kernel_rfl
def merkle_ProveW.T6 : Bool × List (List Nat × List Nat) := (true, [([], []), ([], []), ([], []), ([1, 2], [1, 2]), ([], []), ([], []), ([4, 5], [4, 5]), ([0, 3, 6], [0, 3, 6]), ([], []), ([], []), ([8, 9], [8, 9]), ([10, 7], [10]), ([11, 11], [11]), ([12], [12]), ([7, 13, 12], [7, 13]), ([14, 14, 0, 1, 2, 3, 4, 5, 6, 7, 8, 9, 10, 11, 12, 13, 14], [14])])
def merkle_ProveW.B6 : List Nat := [0, 0, 0, 6, 0, 0, 48, 127, 0, 0, 768, 2047, 4095, 8191, 16383, 32767]
theorem merkle_ProveW.tab6 : rtab .any (opsOf Tryd.f89 6) = merkle_ProveW.T6 := by kernel_rfl
theorem merkle_ProveW.bits6 : waitsOk merkle_ProveW.T6.2 merkle_ProveW.B6 = true := by kernel_rfl
set_option maxHeartbeats 8000000 in
set_option maxRecDepth 100000 in
theorem merkle_ProveW.calls (k : Nat) : ∀ (A0 : Option Addr) (c0 : Nat) (l0 : List (List Int)) (a1 : Int) (r : List (List Int)) (w : World) (HG : Glb w) (p_ : Addr) (hp_ : p_.block < w.heap.size) (hF_ : w.cell? p_ = some (.func (.func 89) #[] #[.pointer (some p_)])) (hr0 : Kd.C (Kd.slice 5 (Kd.int .u8)) w A0 l0.length l0) (hc0 : l0.length ≤ c0) (h : merkle_ProveW.f k l0 a1 = some r),
  Calls Tryd.prog 89 #[.slice A0 l0.length c0, .int .i64 a1, .pointer (some p_)] w fun e w' => ∃ v0_ : Value, e = .returned (v0_) ∧ Kd.S (Kd.slice 5 (Kd.int .u8)) 30 w' w.heap.size (fun _ => True) v0_ r ∧ Below w.heap.size w w' := by
 induction k using Nat.strongRecOn with
 | _ k ih =>
 intro A0 c0 l0 a1 r w HG p_ hp_ hF_ hr0 hc0 h
 cases k with
 | zero => exact absurd h (by simp [merkle_ProveW.f])
 | succ k =>
 simp only [merkle_ProveW.f] at h
 have HF := aM (And.intro hp_ hF_)
 clear hp_ hF_
 have HR0 := aM hr0
 have HC0 := aM hc0
 clear hr0 hc0
 have HB := aM (Below.refl w.heap.size w)
 have H : (if (l0.length : Int) = 1 then (some ([] : List (List Int))) else ((merkle_half.f (l0.length : Int)).bind fun t101 => (if a1 < t101 then (if 0 ≤ t101 then (if t101 ≤ (l0.length : Int) then ((merkle_ProveW.f k (l0.take (t101 : Int).toNat) a1).bind fun t106 => ((merkle_top.f k (l0.drop (t101 : Int).toNat)).bind fun t113 => (if ([] : List Int).length + t113.length < 140737488355328 then (if t106.length < 5864062014805 then (some (t106 ++ [(([] : List Int) ++ t113)])) else (none)) else (none)))) else (none)) else (none)) else (if 0 ≤ t101 then (if t101 ≤ (l0.length : Int) then ((merkle_ProveW.f k (l0.drop (t101 : Int).toNat) (wrap64 (a1 - t101))).bind fun t126 => ((merkle_top.f k (l0.take (t101 : Int).toNat)).bind fun t133 => (if ([] : List Int).length + t133.length < 140737488355328 then (if t126.length < 5864062014805 then (some (t126 ++ [(([] : List Int) ++ t133)])) else (none)) else (none)))) else (none)) else (none))))) = some r := h
 clear h
 by_cases c3 : (l0.length : Int) = 1
 ·rw [if_pos c3] at H
  have c3b0 : ((l0.length : Int) == 1) = true := beq_iff_eq.mpr c3
  have c3b1 : ((l0.length : Int) != 1) = false := bne_eq_false_iff_eq.mpr c3
  clear c3
  obtain rfl := Option.some.inj H
  go_enter Tryd.func89, Tryd.ntmps89
  go_wp2
  go_ret
  exact ⟨_, erR, by first | exact Kd.S_nil _ _ _ _ _ | exact Kd.N_nil _ _ _ _ _ | exact Kd.V_nil _ _ _ _ _ | exact Kd.Q_nil _ _ _ _ _ | exact Kd.R_nil _ _ _ _ _, bel⟩
 rw [if_neg c3] at H
 have c3b0 : ((l0.length : Int) == 1) = false := beq_eq_false_iff_ne.mpr c3
 have c3b1 : ((l0.length : Int) != 1) = true := bne_iff_ne.mpr c3
 replace H := Option.bind_eq_some_iff.mp H
 obtain ⟨t101, A40, H⟩ := H
 replace H : (if a1 < t101 then (if 0 ≤ t101 then (if t101 ≤ (l0.length : Int) then ((merkle_ProveW.f k (l0.take (t101 : Int).toNat) a1).bind fun t106 => ((merkle_top.f k (l0.drop (t101 : Int).toNat)).bind fun t113 => (if ([] : List Int).length + t113.length < 140737488355328 then (if t106.length < 5864062014805 then (some (t106 ++ [(([] : List Int) ++ t113)])) else (none)) else (none)))) else (none)) else (none)) else (if 0 ≤ t101 then (if t101 ≤ (l0.length : Int) then ((merkle_ProveW.f k (l0.drop (t101 : Int).toNat) (wrap64 (a1 - t101))).bind fun t126 => ((merkle_top.f k (l0.take (t101 : Int).toNat)).bind fun t133 => (if ([] : List Int).length + t133.length < 140737488355328 then (if t126.length < 5864062014805 then (some (t126 ++ [(([] : List Int) ++ t133)])) else (none)) else (none)))) else (none)) else (none))) = some r := H
 have A4 := aM A40
 clear A40
 by_cases c5 : a1 < t101
 ·rw [if_pos c5] at H
  have c5b0 : decide (a1 < t101) = true := decide_eq_true c5
  clear c5
  by_cases c6 : 0 ≤ t101
  rotate_left
  ·rw [if_neg c6] at H
   exact absurd H (by simp)
  rw [if_pos c6] at H
  have c6b0 := eq_true c6
  have c6b1 : decide (0 ≤ t101) = true := decide_eq_true c6
  clear c6
  by_cases c7 : t101 ≤ (l0.length : Int)
  rotate_left
  ·rw [if_neg c7] at H
   exact absurd H (by simp)
  rw [if_pos c7] at H
  have c7b0 := eq_true c7
  have c7b1 : decide (t101 ≤ (l0.length : Int)) = true := decide_eq_true c7
  clear c7
  obtain ⟨y102, hy102⟩ : ∃ y_ : List (List Int), y_ = (l0.take (t101 : Int).toNat) := ⟨_, rfl⟩
  replace H : ((merkle_ProveW.f k y102 a1).bind fun t106 => ((merkle_top.f k (l0.drop (t101 : Int).toNat)).bind fun t113 => (if ([] : List Int).length + t113.length < 140737488355328 then (if t106.length < 5864062014805 then (some (t106 ++ [(([] : List Int) ++ t113)])) else (none)) else (none)))) = some r := hyA hy102 H
  have Ny102 := aM hy102
  clear hy102
  replace H := Option.bind_eq_some_iff.mp H
  obtain ⟨t106, A80, H⟩ := H
  replace H : ((merkle_top.f k (l0.drop (t101 : Int).toNat)).bind fun t113 => (if ([] : List Int).length + t113.length < 140737488355328 then (if t106.length < 5864062014805 then (some (t106 ++ [(([] : List Int) ++ t113)])) else (none)) else (none))) = some r := H
  have A8 := aM A80
  clear A80
  have c9b0 := eq_true (of_decide_eq_true asm_ : 0 ≤ t101)
  have c10b0 := eq_true (of_decide_eq_true asm_ : t101 ≤ (l0.length : Int))
  obtain ⟨y109, hy109⟩ : ∃ y_ : List (List Int), y_ = (l0.drop (t101 : Int).toNat) := ⟨_, rfl⟩
  replace H : ((merkle_top.f k y109).bind fun t113 => (if ([] : List Int).length + t113.length < 140737488355328 then (if t106.length < 5864062014805 then (some (t106 ++ [(([] : List Int) ++ t113)])) else (none)) else (none))) = some r := hyA hy109 H
  have Ny109 := aM hy109
  clear hy109
  replace H := Option.bind_eq_some_iff.mp H
  obtain ⟨t113, A110, H⟩ := H
  replace H : (if ([] : List Int).length + t113.length < 140737488355328 then (if t106.length < 5864062014805 then (some (t106 ++ [(([] : List Int) ++ t113)])) else (none)) else (none)) = some r := H
  have A11 := aM A110
  clear A110
  by_cases c12 : ([] : List Int).length + t113.length < 140737488355328
  rotate_left
  ·rw [if_neg c12] at H
   exact absurd H (by simp)
  rw [if_pos c12] at H
  have LMc12 := aM c12
  clear c12
  obtain ⟨y116, hy116⟩ : ∃ y_ : List Int, y_ = (([] : List Int) ++ t113) := ⟨_, rfl⟩
  replace H : (if t106.length < 5864062014805 then (some (t106 ++ [y116])) else (none)) = some r := hyA hy116 H
  have Ny116 := aM hy116
  clear hy116
  by_cases c13 : t106.length < 5864062014805
  rotate_left
  ·rw [if_neg c13] at H
   exact absurd H (by simp)
  rw [if_pos c13] at H
  have LMc13 := aM c13
  clear c13
  obtain ⟨y119, hy119⟩ : ∃ y_ : List (List Int), y_ = (t106 ++ [y116]) := ⟨_, rfl⟩
  replace H : (some y119) = some r := hyA hy119 H
  have Ny119 := aM hy119
  clear hy119
  obtain rfl := Option.some.inj H
  go_enter Tryd.func89, Tryd.ntmps89
  try go_wp2_with (first | ((with_reducible refine gate_callee (f := 90) rfl ?_); refine goesL_ (some 12) rfl rfl Tryd.func90 (by kernel_rfl) rfl #[.int .i64 (l0.length : Int)] rfl eqA ?_; (with_reducible refine (merkle_half.calls (l0.length : Int) t101 _ A4.out).mono ?_); rintro e w14 ⟨rfl, hb⟩; refine ⟨_, rfl, ?_⟩; replace HB := aM (below_step bel hb); clear hb))
  replace HB := aM (below_drew1 HB.out)
  have q16 : (t101 : Int) ≤ ((l0.length : Int) : Int) := of_decide_eq_true asm_
  obtain ⟨i016, hi016, _, hsz16, _⟩ := info_parts info30
  have hroom16 : l0.length ≤ c0 := HC0.out
  have hC16 : Kd.C (Kd.slice 5 (Kd.int .u8)) _ A0 l0.length l0 := HR0.out
  have hcut16 := cut_to (P := Tryd.prog) 22 30 .i64 Tryd.underlying22 hi016 A0 l0.length c0 t101 (of_decide_eq_true asm_) q16 hroom16
  have hr16 := Kd.C_take (m := (t101 : Int).toNat) hC16 (by omega)
  have hy16 : y102.length = (t101 : Int).toNat := (by rw [Ny102.out, List.length_take]; omega)
  rw [← Ny102.out] at hr16
  rw [← hy16] at hcut16
  have HR105 := aM hr16
  have HC105 := aM (show y102.length ≤ c0 from by omega)
  clear hr16 hC16 hroom16 hi016 hsz16
  have KY16 := aM hy16
  clear hy16
  replace q16 := eq_true q16
  have q17 : (t101 : Int) ≤ ((l0.length : Int) : Int) := of_decide_eq_true asm_
  obtain ⟨i017, hi017, _, hsz17, _⟩ := info_parts info30
  have hroom17 : l0.length ≤ c0 := HC0.out
  have hC17 : Kd.C (Kd.slice 5 (Kd.int .u8)) _ A0 l0.length l0 := HR0.out
  have q017 : (0 : Int) ≤ (t101 : Int) := of_decide_eq_true asm_
  have hcut17 := cut_from (P := Tryd.prog) 22 30 .i64 Tryd.underlying22 hi017 1 hsz17 A0 l0.length c0 t101 q017 q17
  have hr17 := Kd.C_drop (m := (t101 : Int).toNat) (c := c0) hC17 (by omega) hroom17
  obtain ⟨A17, hA17⟩ : ∃ A1, A1 = (if c0 = (t101 : Int).toNat then A0 else (A0 : Option Addr).map (·.add ((t101 : Int).toNat * 1))) := ⟨_, rfl⟩
  obtain ⟨c17, hc17⟩ : ∃ c1, c1 = c0 - (t101 : Int).toNat := ⟨_, rfl⟩
  have hy17 : y109.length = l0.length - (t101 : Int).toNat := (by rw [Ny109.out, List.length_drop] <;> omega)
  rw [show (l0).drop (t101 : Int).toNat = y109 from Ny109.out.symm] at hr17
  replace hr17 : Kd.C (Kd.slice 5 (Kd.int .u8)) _ A17 y109.length y109 := (by rw [hA17]; exact hr17)
  rw [← hy17, ← hA17, ← hc17] at hcut17
  have HR112 := aM hr17
  have HC112 := aM (show y109.length ≤ c17 from by rw [hy17, hc17]; exact Nat.sub_le_sub_right hroom17 _)
  clear hr17 hC17 hroom17 hi017 hsz17 hc17
  have KY17 := aM hy17
  have KA17 := aM hA17
  clear hy17 hA17
  replace q17 := eq_true q17
  refine start_ (n := 14) (S := fun w' => w'.cell? p_ = some (.func (.func 89) #[] #[.pointer (some p_)])) (ds := []) #[false, false, false, false, false, false, false, false, false, false, false, false, false, false] (by kernel_rfl) rfl rfl ((Below.cell (p := p_) bel HF.out.1).trans HF.out.2) (fun hHeld => ?_); refine with_tabW merkle_ProveW.tab5 merkle_ProveW.bits5 (fun HT_ HW_ => ?_)
  generalize w14.drew = w15 at HB HR105 HR112 hHeld ⊢
  refine tB 0 16 14 1 hHeld ?_
  refine pB 1 17 14 3 ?_
  refine pB 2 18 14 7 ?_
  refine pB 3 19 14 15 ?_
  refine pB 4 20 14 31 ?_
  refine pB 6 22 14 95 ?_
  refine pB 7 23 14 223 ?_
  refine pB 8 24 14 479 ?_
  refine one_ (i := 5) (N := some 21) (fl 14 511) rfl rfl (one_of HT_.out (by kernel_rfl)) (by decide) (fun K hK => ?_)
  refine goesv_ Tryd.func89 (by kernel_rfl) rfl #[.slice A0 y102.length c0, .int .i64 a1] #[.pointer (some p_)] #[.slice A0 y102.length c0, .int .i64 a1, .pointer (some p_)] (by rfl) (by rfl) rfl rfl (by rfl) eqA ?_
  with_reducible refine (ih k (by omega) _ _ y102 a1 t106 _ (Glb.of HG bel) p_ (Nat.lt_of_lt_of_le HF.out.1 (below_size bel)) ((Below.cell (p := p_) bel HF.out.1).trans HF.out.2) ?side1 ?side2 A8.out).mono ?_
  (case side1 => exact cL (Kd.C_below HR105.out HB.out))
  (case side2 => exact HC105.out)
  rintro e w18 ⟨v107, rfl, ho0, hb⟩
  refine ⟨_, rfl, ?_⟩
  have HO108 := aM (Kd.S_lower ho0 (below_size bel))
  replace HB := aM (below_step bel hb)
  (try clear hb)
  (try clear hb2)
  (try clear hk)
  (try clear hi)
  (try clear ho0)
  refine hK.out _ _ ((Below.cell (p := p_) bel HF.out.1).trans HF.out.2) (fun hHeld => ?_)
  clear hK K
  refine normA (some 21) ?_
  refine one_ (i := 9) (N := some 25) (fl 14 1023) rfl rfl (one_of HT_.out (by kernel_rfl)) (by decide) (fun K hK => ?_)
  refine goes_ Tryd.func91 (by kernel_rfl) rfl #[.slice A17 y109.length c17] (by rfl) rfl rfl eqA ?_
  with_reducible refine (merkle_top.calls k (fun k_ => k_ < w.heap.size) _ _ y109 t113 _ (Glb.of HG bel) ?side1 A11.out).mono ?_
  (case side1 => exact Kd.V_mk HC112.out (Kd.F_below (Kd.C_F (Kd.heap_slice 5 (Kd.heap_int .u8)) HR112.out) bel))
  rintro e w19 ⟨v114, rfl, ho0, hb⟩
  refine ⟨_, rfl, ?_⟩
  have HO115 := aM (Kd.V_lower (Kd.V_mono (ok' := fun k_ => some k_ ≠ (v107 : Value).ownBlock) ho0 (fun k_ hk_ => Or.elim hk_ (fun hs_ => fun e_ => Nat.not_le.2 hs_ (Kd.S_base HO108.out k_ e_.symm)) (fun hn_ => (Kd.fresh' (Kd.S_lt (sL HO108.out)) k_ hn_)))) (below_size bel))
  replace HO108 := aM (Kd.S_below (sL HO108.out) hb)
  replace HB := aM (below_step bel hb)
  (try clear hb)
  (try clear hb2)
  (try clear hk)
  (try clear hi)
  (try clear ho0)
  obtain ⟨Ao21, co21, eo21⟩ := Kd.V_slice HO115.out
  (first | subst eo21 | (injection eo21 with f1_ f2_ f3_; have f4_ := f1_.symm; have f5_ := f3_.symm; clear f1_ f2_ f3_; subst f4_; subst f5_))
  refine hK.out _ _ ((Below.cell (p := p_) bel HF.out.1).trans HF.out.2) (fun hHeld => ?_)
  clear hK K
  refine normA (some 25) ?_
  refine one_ (i := 10) (N := some 26) (fl 14 2047) rfl rfl (one_of HT_.out (by kernel_rfl)) (by decide) (fun K hK => ?_)
  refine Kd.R_append_rows_step (Kd.int .u8) (w0 := w) w.heap.size rfl (.const (.slice none 0 0)) (.tmp 25) 30 5 (.int .u8 0) 1 rfl Tryd.underlying30 info5 rfl (by decide) (by omega) (.slice none 0 0) ([] : List Int) t113 _ _ _ (fun _ => True) (fun _ => False) rfl rfl ?aO ?aR (fun _ _ h => h) (fun _ h => h.elim) ?aF ?aB ?aS ?aL ?_
  (case aR => repeat (first | exact (Kd.V_reads' HO115.out).2.2 | (with_reducible refine Kd.C_alloc ?_ _) | (with_reducible refine Kd.C_drewN ?_ _) | (with_reducible refine Kd.C_drew ?_)))
  (case aB => exact bel)
  (case aF => exact (fun _ _ => trivial))
  (case aO => exact ((Kd.R_nil _ _ _ _ (fun _ => True))))
  (case aS => exact (below_size bel))
  (case aL => have := LMc12.out; omega)
  intro v117 w20 ho hb hg hat
  rw [← Ny116.out] at ho
  replace HO108 := aM (Kd.S_after (Kd.S_apart_nil (sL HO108.out)) hg hat)
  replace HO115 := aM (Kd.V_afterv (Kd.V_apart_nil (vL HO115.out)) hg hat)
  replace HB := aM (hb)
  have HO118 := aM (ho)
  clear ho hb hg hat
  obtain ⟨Ao23, co23, eo23⟩ := Kd.R_slice HO118.out
  (first | subst eo23 | (injection eo23 with f1_ f2_ f3_; have f4_ := f1_.symm; have f5_ := f3_.symm; clear f1_ f2_ f3_; subst f4_; subst f5_))
  refine hK.out _ _ ((Below.cell (p := p_) bel HF.out.1).trans HF.out.2) (fun hHeld => ?_)
  clear hK K
  refine normA (some 26) ?_
  refine one_ (i := 11) (N := some 27) (fl 14 4095) rfl rfl (one_of HT_.out (by kernel_rfl)) (by decide) (fun K hK => ?_)
  refine value_ (w1 := ?_) (v := ?_) (by rfl) rfl ?_ ?_
  rotate_left 2
  ·go_simp
   constructor
   ·rfl
   rfl
  refine hK.out _ _ ((Below.cell (p := p_) bel HF.out.1).trans HF.out.2) (fun hHeld => ?_)
  clear hK K
  refine normA (some 27) ?_
  refine one_ (i := 12) (N := some 28) (fl 14 8191) rfl rfl (one_of HT_.out (by kernel_rfl)) (by decide) (fun K hK => ?_)
  refine Kd.S_append_step (Kd.slice 5 (Kd.int .u8)) (w0 := w) w.heap.size (by rfl) (.tmp 21) (.tmp 27) 22 30 (.slice none 0 0) 24 rfl Tryd.underlying22 info30 rfl (by decide) (by omega) v107 t106 y116 [.slice Ao23 y116.length co23] (fun _ => True) (fun k_ => some k_ = (.slice Ao23 y116.length co23 : Value).ownBlock) rfl rfl ?aP (fun k_ hk_ => ((Kd.R_mono (ok' := fun k_ => ((fun _ => True)) k_ ∧ some k_ ≠ (v107 : Value).ownBlock) (Kd.R_apart' (HO118.out) (Kd.S_typed HO108.out) (by decide)) (fun k_ hk => ⟨trivial, hk.2⟩))).1 k_ hk_.symm) ?aF ?aO ?aB ?aS ?aL ?_
  (case aP => exact Kd.M_row (Kd.R_mono (Kd.R_tight rfl (Kd.R_mono (ok' := fun k_ => ((fun _ => True)) k_ ∧ some k_ ≠ (v107 : Value).ownBlock) (Kd.R_apart' (HO118.out) (Kd.S_typed HO108.out) (by decide)) (fun k_ hk => ⟨trivial, hk.2⟩))) (fun _ h_ => h_)))
  (case aB => exact bel)
  (case aF => exact (fun _ _ => trivial))
  (case aO => exact (by (with_reducible repeat (first | apply Kd.S_alloc | apply Kd.S_drewN | apply Kd.S_drew)); exact Kd.S_mono HO108.out (fun k_ hk => ⟨trivial, fun e_ => hk.2 e_⟩)))
  (case aS => exact (below_size bel))
  (case aL => have := LMc13.out; omega)
  intro v120 w22 ho hb hg hat
  rw [← Ny119.out] at ho
  replace HO115 := aM (Kd.V_afterv (ok := (fun k_ => some k_ ≠ (.slice Ao23 y116.length co23 : Value).ownBlock)) (by (with_reducible repeat (first | apply Kd.V_alloc | apply Kd.V_drewN | apply Kd.V_drew)); exact Kd.V_mono HO115.out (fun _ hk => ⟨hk.2, hk.1⟩)) hg hat)
  replace HB := aM (hb)
  have HO121 := aM (ho)
  clear HO108 HO118
  clear ho hb hg hat
  refine hK.out _ _ ((Below.cell (p := p_) bel HF.out.1).trans HF.out.2) (fun hHeld => ?_)
  clear hK K
  refine normA (some 28) ?_
  refine pB 13 5 14 16383 ?_
  refine done_ (done_of HT_.out (by kernel_rfl)) ?_
  try go_wp2
  go_ret
  exact ⟨_, erR, by (with_reducible repeat (first | apply Kd.S_alloc | apply Kd.S_drewN | apply Kd.S_drew)); exact HO121.out, bel⟩
 rw [if_neg c5] at H
 have c5b0 : decide (a1 < t101) = false := decide_eq_false c5
 clear c5
 by_cases c24 : 0 ≤ t101
 rotate_left
 ·rw [if_neg c24] at H
  exact absurd H (by simp)

 rw [if_pos c24] at H
 have c24b0 := eq_true c24
 have c24b1 : decide (0 ≤ t101) = true := decide_eq_true c24
 clear c24
 by_cases c25 : t101 ≤ (l0.length : Int)
 rotate_left
 ·rw [if_neg c25] at H
  exact absurd H (by simp)
 rw [if_pos c25] at H
 have c25b0 := eq_true c25
 have c25b1 : decide (t101 ≤ (l0.length : Int)) = true := decide_eq_true c25
 clear c25
 obtain ⟨y122, hy122⟩ : ∃ y_ : List (List Int), y_ = (l0.drop (t101 : Int).toNat) := ⟨_, rfl⟩
 replace H : ((merkle_ProveW.f k y122 (wrap64 (a1 - t101))).bind fun t126 => ((merkle_top.f k (l0.take (t101 : Int).toNat)).bind fun t133 => (if ([] : List Int).length + t133.length < 140737488355328 then (if t126.length < 5864062014805 then (some (t126 ++ [(([] : List Int) ++ t133)])) else (none)) else (none)))) = some r := hyA hy122 H
 have Ny122 := aM hy122
 clear hy122
 replace H := Option.bind_eq_some_iff.mp H
 obtain ⟨t126, A260, H⟩ := H
 replace H : ((merkle_top.f k (l0.take (t101 : Int).toNat)).bind fun t133 => (if ([] : List Int).length + t133.length < 140737488355328 then (if t126.length < 5864062014805 then (some (t126 ++ [(([] : List Int) ++ t133)])) else (none)) else (none))) = some r := H
 have A26 := aM A260
 clear A260
 have c27b0 := eq_true (of_decide_eq_true asm_ : 0 ≤ t101)
 have c28b0 := eq_true (of_decide_eq_true asm_ : t101 ≤ (l0.length : Int))
 obtain ⟨y129, hy129⟩ : ∃ y_ : List (List Int), y_ = (l0.take (t101 : Int).toNat) := ⟨_, rfl⟩
 replace H : ((merkle_top.f k y129).bind fun t133 => (if ([] : List Int).length + t133.length < 140737488355328 then (if t126.length < 5864062014805 then (some (t126 ++ [(([] : List Int) ++ t133)])) else (none)) else (none))) = some r := hyA hy129 H
 have Ny129 := aM hy129
 clear hy129
 replace H := Option.bind_eq_some_iff.mp H
 obtain ⟨t133, A290, H⟩ := H
 replace H : (if ([] : List Int).length + t133.length < 140737488355328 then (if t126.length < 5864062014805 then (some (t126 ++ [(([] : List Int) ++ t133)])) else (none)) else (none)) = some r := H
 have A29 := aM A290
 clear A290
 by_cases c30 : ([] : List Int).length + t133.length < 140737488355328
 rotate_left
 ·rw [if_neg c30] at H
  exact absurd H (by simp)
 rw [if_pos c30] at H
 have LMc30 := aM c30
 clear c30
 obtain ⟨y136, hy136⟩ : ∃ y_ : List Int, y_ = (([] : List Int) ++ t133) := ⟨_, rfl⟩
 replace H : (if t126.length < 5864062014805 then (some (t126 ++ [y136])) else (none)) = some r := hyA hy136 H
 have Ny136 := aM hy136
 clear hy136
 by_cases c31 : t126.length < 5864062014805
 rotate_left
 ·rw [if_neg c31] at H
  exact absurd H (by simp)
 rw [if_pos c31] at H
 have LMc31 := aM c31
 clear c31
 obtain ⟨y139, hy139⟩ : ∃ y_ : List (List Int), y_ = (t126 ++ [y136]) := ⟨_, rfl⟩
 replace H : (some y139) = some r := hyA hy139 H
 have Ny139 := aM hy139
 clear hy139
 obtain rfl := Option.some.inj H
 go_enter Tryd.func89, Tryd.ntmps89
 try go_wp2_with (first | ((with_reducible refine gate_callee (f := 90) rfl ?_); refine goesL_ (some 12) rfl rfl Tryd.func90 (by kernel_rfl) rfl #[.int .i64 (l0.length : Int)] rfl eqA ?_; (with_reducible refine (merkle_half.calls (l0.length : Int) t101 _ A4.out).mono ?_); rintro e w32 ⟨rfl, hb⟩; refine ⟨_, rfl, ?_⟩; replace HB := aM (below_step bel hb); clear hb))
 replace HB := aM (below_drew1 HB.out)
 have q34 : (t101 : Int) ≤ ((l0.length : Int) : Int) := of_decide_eq_true asm_
 obtain ⟨i034, hi034, _, hsz34, _⟩ := info_parts info30
 have hroom34 : l0.length ≤ c0 := HC0.out
 have hC34 : Kd.C (Kd.slice 5 (Kd.int .u8)) _ A0 l0.length l0 := HR0.out
 have q034 : (0 : Int) ≤ (t101 : Int) := of_decide_eq_true asm_
 have hcut34 := cut_from (P := Tryd.prog) 22 30 .i64 Tryd.underlying22 hi034 1 hsz34 A0 l0.length c0 t101 q034 q34
 have hr34 := Kd.C_drop (m := (t101 : Int).toNat) (c := c0) hC34 (by omega) hroom34
 obtain ⟨A34, hA34⟩ : ∃ A1, A1 = (if c0 = (t101 : Int).toNat then A0 else (A0 : Option Addr).map (·.add ((t101 : Int).toNat * 1))) := ⟨_, rfl⟩
 obtain ⟨c34, hc34⟩ : ∃ c1, c1 = c0 - (t101 : Int).toNat := ⟨_, rfl⟩
 have hy34 : y122.length = l0.length - (t101 : Int).toNat := (by rw [Ny122.out, List.length_drop] <;> omega)
 rw [show (l0).drop (t101 : Int).toNat = y122 from Ny122.out.symm] at hr34
 replace hr34 : Kd.C (Kd.slice 5 (Kd.int .u8)) _ A34 y122.length y122 := (by rw [hA34]; exact hr34)
 rw [← hy34, ← hA34, ← hc34] at hcut34
 have HR125 := aM hr34
 have HC125 := aM (show y122.length ≤ c34 from by rw [hy34, hc34]; exact Nat.sub_le_sub_right hroom34 _)
 clear hr34 hC34 hroom34 hi034 hsz34 hc34
 have KY34 := aM hy34
 have KA34 := aM hA34
 clear hy34 hA34
 replace q34 := eq_true q34
 have q35 : (t101 : Int) ≤ ((l0.length : Int) : Int) := of_decide_eq_true asm_
 obtain ⟨i035, hi035, _, hsz35, _⟩ := info_parts info30
 have hroom35 : l0.length ≤ c0 := HC0.out
 have hC35 : Kd.C (Kd.slice 5 (Kd.int .u8)) _ A0 l0.length l0 := HR0.out
 have hcut35 := cut_to (P := Tryd.prog) 22 30 .i64 Tryd.underlying22 hi035 A0 l0.length c0 t101 (of_decide_eq_true asm_) q35 hroom35
 have hr35 := Kd.C_take (m := (t101 : Int).toNat) hC35 (by omega)
 have hy35 : y129.length = (t101 : Int).toNat := (by rw [Ny129.out, List.length_take]; omega)
 rw [← Ny129.out] at hr35
 rw [← hy35] at hcut35
 have HR132 := aM hr35
 have HC132 := aM (show y129.length ≤ c0 from by omega)
 clear hr35 hC35 hroom35 hi035 hsz35
 have KY35 := aM hy35
 clear hy35
 replace q35 := eq_true q35
 refine start_ (n := 16) (S := fun w' => w'.cell? p_ = some (.func (.func 89) #[] #[.pointer (some p_)])) (ds := []) #[false, false, false, false, false, false, false, false, false, false, false, false, false, false, false, false] (by kernel_rfl) rfl rfl ((Below.cell (p := p_) bel HF.out.1).trans HF.out.2) (fun hHeld => ?_); refine with_tabW merkle_ProveW.tab6 merkle_ProveW.bits6 (fun HT_ HW_ => ?_)
 generalize w32.drew = w33 at HB HR125 HR132 hHeld ⊢
 refine tB 0 29 16 1 hHeld ?_
 refine pB 1 30 16 3 ?_
 refine pB 2 31 16 7 ?_
 refine pB 3 32 16 15 ?_
 refine pB 4 33 16 31 ?_
 refine pB 5 34 16 63 ?_
 refine pB 6 35 16 127 ?_
 refine pB 8 37 16 383 ?_
 refine pB 9 38 16 895 ?_
 refine pB 10 39 16 1919 ?_
 refine one_ (i := 7) (N := some 36) (fl 16 2047) rfl rfl (one_of HT_.out (by kernel_rfl)) (by decide) (fun K hK => ?_)
 refine goesv_ Tryd.func89 (by kernel_rfl) rfl #[.slice A34 y122.length c34, .int .i64 (wrap64 (a1 - t101))] #[.pointer (some p_)] #[.slice A34 y122.length c34, .int .i64 (wrap64 (a1 - t101)), .pointer (some p_)] (by rfl) (by rfl) rfl rfl (by rfl) eqA ?_
 with_reducible refine (ih k (by omega) _ _ y122 (wrap64 (a1 - t101)) t126 _ (Glb.of HG bel) p_ (Nat.lt_of_lt_of_le HF.out.1 (below_size bel)) ((Below.cell (p := p_) bel HF.out.1).trans HF.out.2) ?side1 ?side2 A26.out).mono ?_
 (case side1 => exact cL (Kd.C_below HR125.out HB.out))
 (case side2 => exact HC125.out)
 rintro e w36 ⟨v127, rfl, ho0, hb⟩
 refine ⟨_, rfl, ?_⟩
 have HO128 := aM (Kd.S_lower ho0 (below_size bel))
 replace HB := aM (below_step bel hb)
 (try clear hb)
 (try clear hb2)
 (try clear hk)
 (try clear hi)
 (try clear ho0)
 refine hK.out _ _ ((Below.cell (p := p_) bel HF.out.1).trans HF.out.2) (fun hHeld => ?_)
 clear hK K
 refine normA (some 36) ?_
 refine one_ (i := 11) (N := some 40) (fl 16 4095) rfl rfl (one_of HT_.out (by kernel_rfl)) (by decide) (fun K hK => ?_)
 refine goes_ Tryd.func91 (by kernel_rfl) rfl #[.slice A0 y129.length c0] (by rfl) rfl rfl eqA ?_
 with_reducible refine (merkle_top.calls k (fun k_ => k_ < w.heap.size) _ _ y129 t133 _ (Glb.of HG bel) ?side1 A29.out).mono ?_
 (case side1 => exact Kd.V_mk HC132.out (Kd.F_below (Kd.C_F (Kd.heap_slice 5 (Kd.heap_int .u8)) HR132.out) bel))
 rintro e w37 ⟨v134, rfl, ho0, hb⟩
 refine ⟨_, rfl, ?_⟩
 have HO135 := aM (Kd.V_lower (Kd.V_mono (ok' := fun k_ => some k_ ≠ (v127 : Value).ownBlock) ho0 (fun k_ hk_ => Or.elim hk_ (fun hs_ => fun e_ => Nat.not_le.2 hs_ (Kd.S_base HO128.out k_ e_.symm)) (fun hn_ => (Kd.fresh' (Kd.S_lt (sL HO128.out)) k_ hn_)))) (below_size bel))
 replace HO128 := aM (Kd.S_below (sL HO128.out) hb)
 replace HB := aM (below_step bel hb)
 (try clear hb)
 (try clear hb2)
 (try clear hk)
 (try clear hi)
 (try clear ho0)
 obtain ⟨Ao39, co39, eo39⟩ := Kd.V_slice HO135.out
 (first | subst eo39 | (injection eo39 with f1_ f2_ f3_; have f4_ := f1_.symm; have f5_ := f3_.symm; clear f1_ f2_ f3_; subst f4_; subst f5_))
 refine hK.out _ _ ((Below.cell (p := p_) bel HF.out.1).trans HF.out.2) (fun hHeld => ?_)
 clear hK K
 refine normA (some 40) ?_
 refine one_ (i := 12) (N := some 41) (fl 16 8191) rfl rfl (one_of HT_.out (by kernel_rfl)) (by decide) (fun K hK => ?_)
 refine Kd.R_append_rows_step (Kd.int .u8) (w0 := w) w.heap.size rfl (.const (.slice none 0 0)) (.tmp 40) 30 5 (.int .u8 0) 1 rfl Tryd.underlying30 info5 rfl (by decide) (by omega) (.slice none 0 0) ([] : List Int) t133 _ _ _ (fun _ => True) (fun _ => False) rfl rfl ?aO ?aR (fun _ _ h => h) (fun _ h => h.elim) ?aF ?aB ?aS ?aL ?_
 (case aR => repeat (first | exact (Kd.V_reads' HO135.out).2.2 | (with_reducible refine Kd.C_alloc ?_ _) | (with_reducible refine Kd.C_drewN ?_ _) | (with_reducible refine Kd.C_drew ?_)))
 (case aB => exact bel)
 (case aF => exact (fun _ _ => trivial))
 (case aO => exact ((Kd.R_nil _ _ _ _ (fun _ => True))))
 (case aS => exact (below_size bel))
 (case aL => have := LMc30.out; omega)
 intro v137 w38 ho hb hg hat
 rw [← Ny136.out] at ho
 replace HO128 := aM (Kd.S_after (Kd.S_apart_nil (sL HO128.out)) hg hat)
 replace HO135 := aM (Kd.V_afterv (Kd.V_apart_nil (vL HO135.out)) hg hat)
 replace HB := aM (hb)
 have HO138 := aM (ho)
 clear ho hb hg hat
 obtain ⟨Ao41, co41, eo41⟩ := Kd.R_slice HO138.out
 (first | subst eo41 | (injection eo41 with f1_ f2_ f3_; have f4_ := f1_.symm; have f5_ := f3_.symm; clear f1_ f2_ f3_; subst f4_; subst f5_))
 refine hK.out _ _ ((Below.cell (p := p_) bel HF.out.1).trans HF.out.2) (fun hHeld => ?_)
 clear hK K
 refine normA (some 41) ?_
 refine one_ (i := 13) (N := some 42) (fl 16 16383) rfl rfl (one_of HT_.out (by kernel_rfl)) (by decide) (fun K hK => ?_)
 refine value_ (w1 := ?_) (v := ?_) (by rfl) rfl ?_ ?_
 rotate_left 2
 ·go_simp
  constructor
  ·rfl
  rfl
 refine hK.out _ _ ((Below.cell (p := p_) bel HF.out.1).trans HF.out.2) (fun hHeld => ?_)
 clear hK K
 refine normA (some 42) ?_
 refine one_ (i := 14) (N := some 43) (fl 16 32767) rfl rfl (one_of HT_.out (by kernel_rfl)) (by decide) (fun K hK => ?_)
 refine Kd.S_append_step (Kd.slice 5 (Kd.int .u8)) (w0 := w) w.heap.size (by rfl) (.tmp 36) (.tmp 42) 22 30 (.slice none 0 0) 24 rfl Tryd.underlying22 info30 rfl (by decide) (by omega) v127 t126 y136 [.slice Ao41 y136.length co41] (fun _ => True) (fun k_ => some k_ = (.slice Ao41 y136.length co41 : Value).ownBlock) rfl rfl ?aP (fun k_ hk_ => ((Kd.R_mono (ok' := fun k_ => ((fun _ => True)) k_ ∧ some k_ ≠ (v127 : Value).ownBlock) (Kd.R_apart' (HO138.out) (Kd.S_typed HO128.out) (by decide)) (fun k_ hk => ⟨trivial, hk.2⟩))).1 k_ hk_.symm) ?aF ?aO ?aB ?aS ?aL ?_
 (case aP => exact Kd.M_row (Kd.R_mono (Kd.R_tight rfl (Kd.R_mono (ok' := fun k_ => ((fun _ => True)) k_ ∧ some k_ ≠ (v127 : Value).ownBlock) (Kd.R_apart' (HO138.out) (Kd.S_typed HO128.out) (by decide)) (fun k_ hk => ⟨trivial, hk.2⟩))) (fun _ h_ => h_)))
 (case aB => exact bel)
 (case aF => exact (fun _ _ => trivial))
 (case aO => exact (by (with_reducible repeat (first | apply Kd.S_alloc | apply Kd.S_drewN | apply Kd.S_drew)); exact Kd.S_mono HO128.out (fun k_ hk => ⟨trivial, fun e_ => hk.2 e_⟩)))
 (case aS => exact (below_size bel))
 (case aL => have := LMc31.out; omega)
 intro v140 w40 ho hb hg hat
 rw [← Ny139.out] at ho
 replace HO135 := aM (Kd.V_afterv (ok := (fun k_ => some k_ ≠ (.slice Ao41 y136.length co41 : Value).ownBlock)) (by (with_reducible repeat (first | apply Kd.V_alloc | apply Kd.V_drewN | apply Kd.V_drew)); exact Kd.V_mono HO135.out (fun _ hk => ⟨hk.2, hk.1⟩)) hg hat)
 replace HB := aM (hb)
 have HO141 := aM (ho)
 clear HO128 HO138
 clear ho hb hg hat
 refine hK.out _ _ ((Below.cell (p := p_) bel HF.out.1).trans HF.out.2) (fun hHeld => ?_)
 clear hK K
 refine normA (some 43) ?_
 refine pB 15 5 16 65535 ?_
 refine done_ (done_of HT_.out (by kernel_rfl)) ?_
 try go_wp2
 go_ret
 exact ⟨_, erR, by (with_reducible repeat (first | apply Kd.S_alloc | apply Kd.S_drewN | apply Kd.S_drew)); exact HO141.out, bel⟩
end Go.Proofs.YtbenedckmapjoaaDoor.PPw
