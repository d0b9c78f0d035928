/- Clones; the top and the head of the first entries. -/
import Derived.Test.YtcnpdapampclpaaDoorT4
import Derived.Lib.SliceRun
namespace Go.Proofs.YtcnpdapampclpaaDoor.X
open Go.RowKit Go.Proofs.YtcnpdapampclpaaDoor.PPm Go.Proofs.YtcnpdapampclpaaDoor.H Go.Proofs.YtcnpdapampclpaaDoorW.PrintWords Go.Proofs.YtcnpdapampclpaaDoorW.PrintLast Go.Proofs.YtcnpdapampclpaaDoorW.PrintMore Go.Proofs.YtcnpdapampclpaaDoor.PPl Go.Proofs.YtcnpdapampclpaaDoor.PTp
set_option linter.unusedVariables false
set_option linter.unusedSimpArgs false
theorem info_byte : (Tryd.prog.info? 5).map (fun i => (i.zero, i.size, i.bytes)) = some (some (.int .u8 0), 1, 1) := by kernel_rfl
set_option maxRecDepth 100000 in
set_option maxHeartbeats 4000000 in
theorem clone_c (A : Option Addr) (c : Nat) (xs : List Int) (w : World) (hC : Kd.C (Kd.int .u8) w A xs.length xs) (hl : xs.length ≤ 1000000) :
    Calls Tryd.prog 47 #[.slice A xs.length c] w fun e w' => ∃ v, e = .returned v ∧ Kd.R (Kd.int .u8) 5 w' w.heap.size (fun k => w.heap.size ≤ k) v xs ∧ Below w.heap.size w w' := by
  have HC := Aside0.mk hC
  have qT : ∀ (w : World) (a : Option Addr) (n c n' c' : Nat), (binOp .eql 23 (.slice a n c) (.slice none n' c')).run Tryd.prog w = .ok (.bool a.isNone) w := fun w a n c n' c' => Lib.run_eql_slice_nil w _ _ a n c n' c' Tryd.underlying23
  rcases A with _ | ad
  · have h0 : xs.length = 0 := by
      rcases Nat.eq_zero_or_pos xs.length with h | h
      · exact h
      · obtain ⟨ad, he, _⟩ := hC.2.2 h
        cases he
    obtain rfl := List.length_eq_zero_iff.1 h0
    clear hC
    go_enter Tryd.func47, Tryd.ntmps47
    go_wp2
    go_ret
    exact ⟨_, rfl, Kd.R_nil _ _ _ _ _, Below.refl _ _⟩
  · clear hC
    obtain ⟨n, hn⟩ : ∃ n, n = xs.length := ⟨_, rfl⟩
    rw [← hn] at hl HC ⊢
    have Hn := Aside0.mk hn
    clear hn
    go_enter Tryd.func47, Tryd.ntmps47
    go_wp2_with (first
      | ((with_reducible refine gate_dst (N := 5) rfl ?_); refine Kd.R_lit (w0 := w) (Kd.int .u8) w.heap.size 5 ?hg (N := 5) ?hd (xs := ([] : List Int)) (inner := []) (ok := fun k => w.heap.size ≤ k) (okp := fun _ => False) ?hr ?hp (fun _ hk => hk.elim) (Nat.le_refl _) (Below.refl _ _) (Nat.le_refl _) (by simp) ?_; (case hd => rfl); (case hg => rfl); (case hr => first | (go_simp; done) | (go_simp; rfl)); (case hp => exact Reps.none _ _); intro v1 w1 ho1 hb1 hg1 hn1)
      | ((with_reducible refine gate_builtin (b := .append) (xs := #[.tmp 5, .tmp 6]) rfl ?_); at_builtin; refine Kd.R_append_rows (Kd.int .u8) (w0 := w) w.heap.size rfl (.tmp 5) (.tmp 6) 23 5 (.int .u8 0) 1 rfl Tryd.underlying23 info_byte rfl (by decide) (by omega) v1 ([] : List Int) xs _ _ _ (fun k => w.heap.size ≤ k) (fun _ => False) rfl rfl ho1 (Kd.C_below HC.out hb1) (fun _ _ h => h) (fun _ h => h.elim) (fun k hk => Nat.le_trans hb1.size hk) hb1 hb1.size (by show (0 + n) * 1 ≤ _; omega) ?_; intro v2 w2 ho2 hb2 hg2 hat2))
    go_ret
    exact ⟨_, rfl, ho2, hb2⟩
set_option maxRecDepth 100000 in
set_option maxHeartbeats 4000000 in
theorem top_c (base p : Nat) (vs : List Value) (M : List (List Int)) (w : World) (HG : Glb w) (T : TrailR base p M.length vs (levL M) w) (hv : Lv M) (hM : M.length ≤ 4096) (h1b : 1 < base) (n : Nat) (h1 : 1 ≤ n) (hn : n ≤ M.length) :
    Calls Tryd.prog 18 #[.pointer (some ⟨p, 0, none⟩), .int .i64 n] w fun e w' => ∃ v, e = .returned (.tuple #[v, .int .i64 0]) ∧ Kd.R (Kd.int .u8) 5 w' w.heap.size (fun k => w.heap.size ≤ k) v (topL (M.take n)) ∧ Below w.heap.size w w' := by
  have ht := topL_32 (hv.take n) (by rw [List.length_take]; omega)
  have H0 := Aside0.mk (And.intro HG (And.intro T (And.intro ht (And.intro h1 hn))))
  clear HG T ht
  go_enter Tryd.func18, Tryd.ntmps18
  go_wp2_with (first
    | (go_at_call 46; refine (within_ok _ H0.out.2.1 (by omega) (by omega)).mono ?_; rintro e w1 ⟨rfl, hB1⟩)
    | (go_at_call 48; refine (part_c base p vs M hv hM h1b n 0 w1 (H0.out.1.of hB1) (H0.out.2.1.below hB1) h1 (by omega) (Valid.zero n)).mono ?_; rintro e w2 ⟨A2, c2, rfl, hc2, hC2, hB2⟩)
    | (go_at_call 47; have h32 := H0.out.2.2.1.1; rw [List.drop_zero] at hC2; have hc3 := clone_c A2 c2 (topL (M.take n)) w2 (by rw [h32]; exact hC2) (by omega); rw [h32] at hc3; refine hc3.mono ?_; rintro e w3 ⟨v3, rfl, hR3, hB3⟩))
  go_ret2
  exact ⟨v3, rfl, Kd.R_mono (Kd.R_lower hR3 (below_step hB1 hB2).size) (fun k hk => Nat.le_trans (below_step hB1 hB2).size hk), below_step (below_step hB1 hB2) hB3⟩
theorem top_err (base p : Nat) (vs : List Value) (M : List (List Int)) (w : World) (T : TrailR base p M.length vs (levL M) w) (n : Int) (h : n < 1 ∨ (M.length : Int) < n) :
    Calls Tryd.prog 18 #[.pointer (some ⟨p, 0, none⟩), .int .i64 n] w fun e w' => e = .returned (.tuple #[.slice none 0 0, .int .i64 1]) ∧ Below w.heap.size w w' := by
  have H0 := Aside0.mk (And.intro T h)
  clear T h
  go_enter Tryd.func18, Tryd.ntmps18
  go_wp2_with (first
    | (go_at_call 46; refine (within_err _ H0.out.1 H0.out.2).mono ?_; rintro e w1 ⟨rfl, hB1⟩))
  go_ret2
  exact ⟨rfl, hB1⟩
/-- The head of the first n marks. -/
def hdL (M : List (List Int)) (n : Nat) : List Int := headL n (if n = 0 then [] else topL (M.take n))
set_option maxRecDepth 100000 in
set_option maxHeartbeats 4000000 in
theorem head_c (base p : Nat) (vs : List Value) (M : List (List Int)) (w : World) (HG : Glb w) (T : TrailR base p M.length vs (levL M) w) (hv : Lv M) (hM : M.length ≤ 4096) (h1b : 1 < base) (n : Nat) (hn : n ≤ M.length) :
    Calls Tryd.prog 19 #[.pointer (some ⟨p, 0, none⟩), .int .i64 n] w fun e w' => ∃ v, e = .returned (.tuple #[v, .int .i64 0]) ∧ Kd.R (Kd.int .u8) 5 w' w.heap.size (fun k => w.heap.size ≤ k) v (hdL M n) ∧ Below w.heap.size w w' := by
  have H0 := Aside0.mk (And.intro HG (And.intro T hn))
  clear HG T
  unfold hdL
  by_cases h0 : n = 0
  · subst h0
    rw [if_pos rfl]
    have hh := Aside0.mk (Go.Proofs.YtcnpdapampclpaaDoor.PPm.head_eq 9 ((0 : Nat) : Int) [] (Nat.le_refl _) (by simp) (by simp))
    go_enter Tryd.func19, Tryd.ntmps19
    go_wp2_with (first
      | (go_at_call 46; refine (within_ok _ H0.out.2.1 (by omega) (by omega)).mono ?_; rintro e w1 ⟨rfl, hB1⟩)
      | (go_at_call 49; refine (trail_head.calls 9 0 (fun _ => False) none 0 [] _ w1 (H0.out.1.of hB1) (Kd.V_nil _ _ _ _ _) hh.out).mono ?_; rintro e w2 ⟨v2, rfl, hR2, hB2⟩))
    go_ret2
    exact ⟨v2, rfl, Kd.R_mono (Kd.R_lower hR2 hB1.size) (fun k hk => Nat.le_trans hB1.size hk), below_step hB1 hB2⟩
  · rw [if_neg h0]
    have ht := topL_32 (hv.take n) (by rw [List.length_take]; omega)
    have hh := Aside0.mk (And.intro (Go.Proofs.YtcnpdapampclpaaDoor.PPm.head_eq 9 (n : Int) (topL (M.take n)) (Nat.le_refl _) ht.2 (by omega)) ht.1)
    clear ht
    have h1 : 1 ≤ n := by omega
    have hnI : ((n : Int) = 0) = False := eq_false (by omega)
    go_enter Tryd.func19, Tryd.ntmps19
    go_wp2_with (first
      | (go_at_call 46; refine (within_ok _ H0.out.2.1 (by omega) (by omega)).mono ?_; rintro e w1 ⟨rfl, hB1⟩)
      | (go_at_call 48; refine (part_c base p vs M hv hM h1b n 0 w1 (H0.out.1.of hB1) (H0.out.2.1.below hB1) h1 (by omega) (Valid.zero n)).mono ?_; rintro e w2 ⟨A2, c2, rfl, hc2, hC2, hB2⟩)
      | (go_at_call 49; rw [List.drop_zero] at hC2; have hc3 := trail_head.calls 9 (n : Int) (fun k => k < w2.heap.size) A2 c2 (topL (M.take n)) _ w2 (H0.out.1.of (below_step hB1 hB2)) ⟨A2, c2, rfl, by rw [hh.out.2]; exact hc2, Kd.C_F (Kd.heap_int _) (by rw [hh.out.2]; exact hC2)⟩ hh.out.1; rw [hh.out.2] at hc3; refine hc3.mono ?_; rintro e w3 ⟨v3, rfl, hR3, hB3⟩))
    go_ret2
    exact ⟨v3, rfl, Kd.R_mono (Kd.R_lower hR3 (below_step hB1 hB2).size) (fun k hk => Nat.le_trans (below_step hB1 hB2).size hk), below_step (below_step hB1 hB2) hB3⟩
theorem head_err (base p : Nat) (vs : List Value) (M : List (List Int)) (w : World) (T : TrailR base p M.length vs (levL M) w) (n : Int) (h : n < 0 ∨ (M.length : Int) < n) :
    Calls Tryd.prog 19 #[.pointer (some ⟨p, 0, none⟩), .int .i64 n] w fun e w' => e = .returned (.tuple #[.slice none 0 0, .int .i64 1]) ∧ Below w.heap.size w w' := by
  have H0 := Aside0.mk (And.intro T h)
  clear T h
  go_enter Tryd.func19, Tryd.ntmps19
  go_wp2_with (first
    | (go_at_call 46; refine (within_err _ H0.out.1 H0.out.2).mono ?_; rintro e w1 ⟨rfl, hB1⟩))
  go_ret2
  exact ⟨rfl, hB1⟩
end Go.Proofs.YtcnpdapampclpaaDoor.X
