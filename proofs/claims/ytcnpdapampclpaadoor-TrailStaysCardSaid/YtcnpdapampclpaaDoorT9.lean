/- Bridge. -/
import Derived.Test.YtcnpdapampclpaaDoorT7
import Derived.Test.YtcnpdapampclpaaDoorP3
namespace Go.Proofs.YtcnpdapampclpaaDoor.X
open Go.RowKit Go.Proofs.YtcnpdapampclpaaDoor.H Go.Proofs.YtcnpdapampclpaaDoorW.PrintWords Go.Proofs.YtcnpdapampclpaaDoorW.PrintLast Go.Proofs.YtcnpdapampclpaaDoorW.PrintMore Go.Proofs.YtcnpdapampclpaaDoor.PPl Go.Proofs.YtcnpdapampclpaaDoor.PPm Go.Proofs.YtcnpdapampclpaaDoor.PPn Go.Proofs.YtcnpdapampclpaaDoor.PPo Go.Proofs.YtcnpdapampclpaaDoor.PTp
set_option linter.unusedVariables false
set_option linter.unusedSimpArgs false
set_option maxRecDepth 100000 in
set_option maxHeartbeats 8000000 in
theorem bridgeP_c (base p : Nat) (vs : List Value) (M : List (List Int)) (hv : Lv M) (hM : M.length ≤ 4096) (h1b : 1 < base) (n : Nat) : ∀ (f m : Nat) (b : Bool) (w : World), Glb w → TrailR base p M.length vs (levL M) w → 1 ≤ m → m ≤ n → f + n ≤ M.length → Valid f n →
    Calls Tryd.prog 56 #[.pointer (some ⟨p, 0, none⟩), .int .i64 f, .int .i64 m, .int .i64 n, .bool b] w fun e w' => ∃ v, e = .returned v ∧ Kd.N dB 23 w' w.heap.size (fun k => w.heap.size ≤ k) v (bridgeL ((M.drop f).take n) m b) ∧ Below w.heap.size w w' := by
  induction n using Nat.strongRecOn with
  | _ n ih =>
  intro f m b w HG T h1 hmn hfn hV
  have hl : ((M.drop f).take n).length = n := by rw [List.length_take, List.length_drop]; omega
  by_cases hmn' : m = n
  · subst hmn'
    clear ih
    cases b with
    | true =>
      rw [bridgeL_first hl.symm]
      clear HG T hV hl
      go_enter Tryd.func56, Tryd.ntmps56
      go_wp2
      go_ret
      exact ⟨_, rfl, Kd.N_nil _ _ _ _ _, Below.refl _ _⟩
    | false =>
      rw [bridgeL_last hl.symm]
      have ht := topL_32 ((hv.drop f).take m) (by omega)
      have hp := part_c base p vs M hv hM h1b m f w HG T h1 hfn hV
      obtain ⟨t, e1⟩ : ∃ t, t = topL ((M.drop f).take m) := ⟨_, rfl⟩
      rw [← e1] at ht hp ⊢
      have H9 := Aside0.mk (And.intro hp ht)
      clear HG T hV hl e1 hp ht
      go_enter Tryd.func56, Tryd.ntmps56
      go_wp2_with (first
        | (go_at_call 48; with_reducible refine H9.out.1.mono ?_; rintro e w2 ⟨A2, c2, rfl, hc2, hC2, hB2⟩)
        | (go_at_call 47; have h32 := H9.out.2.1; have hcc := clone_c A2 c2 t w2 (by rw [h32]; exact hC2) (by omega); rw [h32] at hcc; with_reducible refine hcc.mono ?_; rintro e w3 ⟨v3, rfl, hR3, hB3⟩; obtain ⟨A3, c3, rfl, hc4, -⟩ := Kd.R_reads hR3; have hB13 := below_step hB2 hB3; have hp3 := Kd.FK_slice_mk (e := 5) hc4 (Kd.F_mono (ok' := fun k => w2.heap.size ≤ k) (Kd.R_F hR3) (fun k hk => hk)); rw [h32] at hp3 ⊢; have P3 := Aside0.mk (And.intro hp3 hB13); clear hp3 hB13 hR3 hcc hc4 h32 hC2)
        | ((with_reducible refine gate_dst (N := 21) rfl ?_); go_loud (refine Kd.N_lit (w0 := w) dB w.heap.size 23 ?hg (N' := 21) ?hd (xs := [t]) (inner := [.slice A3 32 c3]) (ok := fun k => w.heap.size ≤ k) (okp := fun k => w2.heap.size ≤ k) ?hr (Reps.one P3.out.1 (Reps.none _ _)) (fun k hk => Nat.le_trans hB2.size hk) P3.out.2.size P3.out.2 P3.out.2.size (by simp) ?_; (case hd => rfl); (case hg => rfl); (case hr => first | (go_simp; done) | (go_simp; rfl)); intro v4 w4 ho4 hb4 hg4 hn4; have P4 := Aside0.mk (And.intro ho4 hb4); clear ho4 hb4 hg4 hn4)))
      go_ret
      exact ⟨v4, rfl, P4.out.1, P4.out.2⟩
  · have hn2 : 2 ≤ n := by omega
    have hne : ((m : Int) == (n : Int)) = false := beq_eq_false_iff_ne.2 (by omega)
    have hlt := hf_lt hn2
    have hpos := hf_pos n
    have hhalf := half_eq n hn2 (by omega)
    obtain ⟨h, hh⟩ : ∃ h, h = hf n := ⟨_, rfl⟩
    have hmn2 : m < n := by omega
    rw [← hh] at hlt hpos hhalf
    have hI1 : (h : Int) < (n : Int) := by omega
    have hI2 : (1 : Int) ≤ (h : Int) := by omega
    have hI3 : (f : Int) + (n : Int) ≤ 4096 := by omega
    have hI4 : (n : Int) ≤ 4096 := by omega
    have hI5 : (m : Int) < (n : Int) := by omega
    by_cases hm : m ≤ h
    · have hmI : ((m : Int) ≤ (h : Int)) = True := eq_true (by omega)
      rw [bseg_left M f n m b hn2 hfn hmn2 (by rw [← hh]; exact hm), ← hh]
      have hrec : ∀ w1, Below w.heap.size w w1 → Calls Tryd.prog 56 #[.pointer (some ⟨p, 0, none⟩), .int .i64 f, .int .i64 m, .int .i64 h, .bool b] w1 fun e w' => ∃ v, e = .returned v ∧ Kd.N dB 23 w' w1.heap.size (fun k => w1.heap.size ≤ k) v (bridgeL ((M.drop f).take h) m b) ∧ Below w1.heap.size w1 w' := fun w1 hb =>
        ih h hlt f m b w1 (HG.of hb) (T.below hb) h1 hm (by omega) (by rw [hh]; exact hV.left hn2)
      have hpart : ∀ w1, Below w.heap.size w w1 → Calls Tryd.prog 48 #[.pointer (some ⟨p, 0, none⟩), .int .i64 ((f : Int) + (h : Int)), .int .i64 ((n : Int) - (h : Int))] w1 fun e w' => ∃ A c, e = .returned (.slice A 32 c) ∧ 32 ≤ c ∧ Kd.C (Kd.int .u8) w' A 32 (topL ((M.drop (f + h)).take (n - h))) ∧ Below w1.heap.size w1 w' := fun w1 hb => by
        rw [show (f : Int) + (h : Int) = ((f + h : Nat) : Int) by omega, show (n : Int) - (h : Int) = ((n - h : Nat) : Int) by omega]
        exact part_c base p vs M hv hM h1b (n - h) (f + h) w1 (HG.of hb) (T.below hb) (by omega) (by omega) (by rw [hh]; exact hV.right hn2)
      have ht := topL_32 ((hv.drop (f + h)).take (n - h)) (by rw [List.length_take, List.length_drop]; omega)
      have hacc := (bridgeL_ok h ((M.drop f).take h) m b (by rw [List.length_take, List.length_drop]; omega) h1 hm ((hv.drop f).take h)).1
      obtain ⟨t, e1⟩ : ∃ t, t = topL ((M.drop (f + h)).take (n - h)) := ⟨_, rfl⟩
      obtain ⟨acc, e2⟩ : ∃ acc, acc = bridgeL ((M.drop f).take h) m b := ⟨_, rfl⟩
      rw [← e1] at hpart ht ⊢
      rw [← e2] at hrec hacc ⊢
      have H9 := Aside0.mk (And.intro hrec (And.intro hpart (And.intro ht (And.intro hhalf (And.intro hmI (show acc.length ≤ 4096 by omega))))))
      clear hrec hpart ht hhalf e1 e2 hh hV hl HG T hlt hpos ih hacc hm hmn2 hmn' hmn hn2 h1
      go_enter Tryd.func56, Tryd.ntmps56
      go_wp2_with
      (first
        | (go_at_call 54; with_reducible refine (trail_half.calls (n : Int) h _ H9.out.2.2.2.1).mono ?_; rintro e w1 ⟨rfl, hB1⟩)
        | (go_at_call 56; with_reducible refine (H9.out.1 _ hB1).mono ?_; rintro e w2 ⟨v2, rfl, hN2, hB2⟩; have P2 := Aside0.mk hN2; clear hN2)
        | (go_at_call 48; with_reducible refine (H9.out.2.1 _ (below_step hB1 hB2)).mono ?_; rintro e w3 ⟨A3, c3, rfl, hc3, hC3, hB3⟩)
        | (go_at_call 47; have h32 := H9.out.2.2.1.1; have hcc := clone_c A3 c3 t w3 (by rw [h32]; exact hC3) (by omega); rw [h32] at hcc; with_reducible refine hcc.mono ?_; rintro e w4 ⟨v4, rfl, hR4, hB4⟩; obtain ⟨A4, c4, rfl, hc4, -⟩ := Kd.R_reads hR4; have hB24 := below_step hB3 hB4; have hB14 := below_step (below_step hB1 hB2) hB24; have hp4 := Kd.FK_slice_mk (e := 5) hc4 (Kd.F_mono (ok' := fun k => w3.heap.size ≤ k) (Kd.R_F hR4) (fun k hk => hk)); rw [h32] at hp4 ⊢; have P4 := Aside0.mk (And.intro hp4 (And.intro hB14 (And.intro hB24 hB3.size))); clear hp4 hB14 hB24 hR4 hcc hc4 h32 hC3)
        | ((with_reducible refine gate_builtin (b := .append) (xs := #[.tmp 32, .tmp 42]) rfl ?_); at_builtin; refine Kd.N_append dB (w0 := w) w.heap.size rfl (.tmp 32) (.tmp 42) 22 23 (.slice none 0 0) 24 rfl Tryd.underlying22 info_row rfl (by decide) (by decide) v2 acc t [.slice A4 32 c4] (fun k => w.heap.size ≤ k) (fun k => w3.heap.size ≤ k) rfl rfl P4.out.1 (fun k hk => ⟨by have h_ := (below_step (below_step hB1 hB2) hB3).size; omega, fun e => by have h_ := Kd.N_lt P2.out k e.symm; have := P4.out.2.2.2; omega⟩) (fun k hk => by have h_ := P4.out.2.1.size; omega) (Kd.N_below (Kd.N_mono (Kd.N_lower P2.out hB1.size) (fun k hk => Nat.le_trans hB1.size hk)) P4.out.2.2.1) P4.out.2.1 P4.out.2.1.size (by have h_ := H9.out.2.2.2.2.2; omega) ?_; intro v5 w5 hN5 hB5 hg5 hat5; have P5 := Aside0.mk (And.intro hN5 hB5); clear hN5 hB5 hg5 hat5))
      go_ret
      exact ⟨v5, rfl, P5.out.1, P5.out.2⟩
    · have hmI : ((m : Int) ≤ (h : Int)) = False := eq_false (by omega)
      have hmI2 : (h : Int) < (m : Int) := by omega
      rw [bseg_right M f n m b hn2 hfn hmn2 (by rw [← hh]; omega), ← hh]
      have hrec : ∀ w1, Below w.heap.size w w1 → Calls Tryd.prog 56 #[.pointer (some ⟨p, 0, none⟩), .int .i64 ((f : Int) + (h : Int)), .int .i64 ((m : Int) - (h : Int)), .int .i64 ((n : Int) - (h : Int)), .bool false] w1 fun e w' => ∃ v, e = .returned v ∧ Kd.N dB 23 w' w1.heap.size (fun k => w1.heap.size ≤ k) v (bridgeL ((M.drop (f + h)).take (n - h)) (m - h) false) ∧ Below w1.heap.size w1 w' := fun w1 hb => by
        rw [show (f : Int) + (h : Int) = ((f + h : Nat) : Int) by omega, show (m : Int) - (h : Int) = ((m - h : Nat) : Int) by omega, show (n : Int) - (h : Int) = ((n - h : Nat) : Int) by omega]
        exact ih (n - h) (by omega) (f + h) (m - h) false w1 (HG.of hb) (T.below hb) (by omega) (by omega) (by omega) (by rw [hh]; exact hV.right hn2)
      have hpart : ∀ w1, Below w.heap.size w w1 → Calls Tryd.prog 48 #[.pointer (some ⟨p, 0, none⟩), .int .i64 f, .int .i64 h] w1 fun e w' => ∃ A c, e = .returned (.slice A 32 c) ∧ 32 ≤ c ∧ Kd.C (Kd.int .u8) w' A 32 (topL ((M.drop f).take h)) ∧ Below w1.heap.size w1 w' := fun w1 hb =>
        part_c base p vs M hv hM h1b h f w1 (HG.of hb) (T.below hb) (by omega) (by omega) (by rw [hh]; exact hV.left hn2)
      have ht := topL_32 ((hv.drop f).take h) (by rw [List.length_take, List.length_drop]; omega)
      have hacc := (bridgeL_ok (n - h) ((M.drop (f + h)).take (n - h)) (m - h) false (by rw [List.length_take, List.length_drop]; omega) (by omega) (by omega) ((hv.drop (f + h)).take (n - h))).1
      obtain ⟨t, e1⟩ : ∃ t, t = topL ((M.drop f).take h) := ⟨_, rfl⟩
      obtain ⟨acc, e2⟩ : ∃ acc, acc = bridgeL ((M.drop (f + h)).take (n - h)) (m - h) false := ⟨_, rfl⟩
      rw [← e1] at hpart ht ⊢
      rw [← e2] at hrec hacc ⊢
      have H9 := Aside0.mk (And.intro hrec (And.intro hpart (And.intro ht (And.intro hhalf (And.intro hmI (show acc.length ≤ 4096 by omega))))))
      clear hrec hpart ht hhalf e1 e2 hh hV hl HG T hlt hpos ih hacc hm hmn2 hmn' hmn hn2 h1
      go_enter Tryd.func56, Tryd.ntmps56
      go_wp2_with
      (first
        | (go_at_call 54; with_reducible refine (trail_half.calls (n : Int) h _ H9.out.2.2.2.1).mono ?_; rintro e w1 ⟨rfl, hB1⟩)
        | (go_at_call 56; with_reducible refine (H9.out.1 _ hB1).mono ?_; rintro e w2 ⟨v2, rfl, hN2, hB2⟩; have P2 := Aside0.mk hN2; clear hN2)
        | (go_at_call 48; with_reducible refine (H9.out.2.1 _ (below_step hB1 hB2)).mono ?_; rintro e w3 ⟨A3, c3, rfl, hc3, hC3, hB3⟩)
        | (go_at_call 47; have h32 := H9.out.2.2.1.1; have hcc := clone_c A3 c3 t w3 (by rw [h32]; exact hC3) (by omega); rw [h32] at hcc; with_reducible refine hcc.mono ?_; rintro e w4 ⟨v4, rfl, hR4, hB4⟩; obtain ⟨A4, c4, rfl, hc4, -⟩ := Kd.R_reads hR4; have hB24 := below_step hB3 hB4; have hB14 := below_step (below_step hB1 hB2) hB24; have hp4 := Kd.FK_slice_mk (e := 5) hc4 (Kd.F_mono (ok' := fun k => w3.heap.size ≤ k) (Kd.R_F hR4) (fun k hk => hk)); rw [h32] at hp4 ⊢; have P4 := Aside0.mk (And.intro hp4 (And.intro hB14 (And.intro hB24 hB3.size))); clear hp4 hB14 hB24 hR4 hcc hc4 h32 hC3)
        | ((with_reducible refine gate_builtin (b := .append) (xs := #[.tmp 54, .tmp 60]) rfl ?_); at_builtin; refine Kd.N_append dB (w0 := w) w.heap.size rfl (.tmp 54) (.tmp 60) 22 23 (.slice none 0 0) 24 rfl Tryd.underlying22 info_row rfl (by decide) (by decide) v2 acc t [.slice A4 32 c4] (fun k => w.heap.size ≤ k) (fun k => w3.heap.size ≤ k) rfl rfl P4.out.1 (fun k hk => ⟨by have h_ := (below_step (below_step hB1 hB2) hB3).size; omega, fun e => by have h_ := Kd.N_lt P2.out k e.symm; have := P4.out.2.2.2; omega⟩) (fun k hk => by have h_ := P4.out.2.1.size; omega) (Kd.N_below (Kd.N_mono (Kd.N_lower P2.out hB1.size) (fun k hk => Nat.le_trans hB1.size hk)) P4.out.2.2.1) P4.out.2.1 P4.out.2.1.size (by have h_ := H9.out.2.2.2.2.2; omega) ?_; intro v5 w5 hN5 hB5 hg5 hat5; have P5 := Aside0.mk (And.intro hN5 hB5); clear hN5 hB5 hg5 hat5))
      go_ret
      exact ⟨v5, rfl, P5.out.1, P5.out.2⟩
set_option maxRecDepth 100000 in
set_option maxHeartbeats 4000000 in
theorem bridge_c (base p : Nat) (vs : List Value) (M : List (List Int)) (w : World) (HG : Glb w) (T : TrailR base p M.length vs (levL M) w) (hv : Lv M) (hM : M.length ≤ 4096) (h1b : 1 < base) (n m : Nat) (hn : n ≤ M.length) (h1 : 1 ≤ m) (hm : m ≤ n) :
    Calls Tryd.prog 28 #[.pointer (some ⟨p, 0, none⟩), .int .i64 m, .int .i64 n] w fun e w' => ∃ v, e = .returned (.tuple #[v, .int .i64 0]) ∧ Kd.N dB 23 w' w.heap.size (fun k => w.heap.size ≤ k) v (bridgeL (M.take n) m true) ∧ Below w.heap.size w w' := by
  have hI1 : (1 : Int) ≤ (m : Int) := by omega
  have hI2 : (m : Int) ≤ (n : Int) := by omega
  have hI3 : (n : Int) ≤ (M.length : Int) := by omega
  have hp : ∀ w1, Below w.heap.size w w1 → Calls Tryd.prog 56 #[.pointer (some ⟨p, 0, none⟩), .int .i64 0, .int .i64 m, .int .i64 n, .bool true] w1 fun e w' => ∃ v, e = .returned v ∧ Kd.N dB 23 w' w1.heap.size (fun k => w1.heap.size ≤ k) v (bridgeL (M.take n) m true) ∧ Below w1.heap.size w1 w' := fun w1 hb => by
    have := bridgeP_c base p vs M hv hM h1b n 0 m true w1 (HG.of hb) (T.below hb) h1 hm (by omega) (Valid.zero n)
    rw [List.drop_zero] at this
    exact this
  have H0 := Aside0.mk (And.intro T hp)
  clear HG T hv hp
  go_enter Tryd.func28, Tryd.ntmps28
  go_wp2_with (first
    | (go_at_call 46; refine (within_ok _ H0.out.1 (by omega) (by omega)).mono ?_; rintro e w1 ⟨rfl, hB1⟩)
    | (go_at_call 56; with_reducible refine (H0.out.2 _ hB1).mono ?_; rintro e w2 ⟨v2, rfl, hN2, hB2⟩; have P2 := Aside0.mk (And.intro hN2 hB2); clear hN2 hB2))
  all_goals first
    | (go_ret2
       exact ⟨v2, rfl, Kd.N_mono (Kd.N_lower P2.out.1 hB1.size) (fun k hk => Nat.le_trans hB1.size hk), below_step hB1 P2.out.2⟩)
    | (exfalso; omega)
theorem bridge_err (base p : Nat) (vs : List Value) (M : List (List Int)) (w : World) (T : TrailR base p M.length vs (levL M) w) (m n : Int) (h : n < 1 ∨ (M.length : Int) < n) :
    Calls Tryd.prog 28 #[.pointer (some ⟨p, 0, none⟩), .int .i64 m, .int .i64 n] w fun e w' => e = .returned (.tuple #[.slice none 0 0, .int .i64 1]) ∧ Below w.heap.size w w' := by
  have H0 := Aside0.mk (And.intro T h)
  clear T h
  go_enter Tryd.func28, Tryd.ntmps28
  go_wp2_with (first
    | (go_at_call 46; refine (within_err _ H0.out.1 H0.out.2).mono ?_; rintro e w1 ⟨rfl, hB1⟩))
  go_ret2
  exact ⟨rfl, hB1⟩
theorem bridge_err2 (base p : Nat) (vs : List Value) (M : List (List Int)) (w : World) (T : TrailR base p M.length vs (levL M) w) (m n : Int) (h1 : 1 ≤ n) (h2 : n ≤ M.length) (h : m < 1 ∨ n < m) :
    Calls Tryd.prog 28 #[.pointer (some ⟨p, 0, none⟩), .int .i64 m, .int .i64 n] w fun e w' => e = .returned (.tuple #[.slice none 0 0, .int .i64 1]) ∧ Below w.heap.size w w' := by
  have H0 := Aside0.mk (And.intro T (And.intro h1 h2))
  clear T h1 h2
  by_cases hq : m < 1
  · clear h
    go_enter Tryd.func28, Tryd.ntmps28
    go_wp2_with (first
      | (go_at_call 46; refine (within_ok _ H0.out.1 H0.out.2.1 H0.out.2.2).mono ?_; rintro e w1 ⟨rfl, hB1⟩))
    go_ret2
    exact ⟨rfl, hB1⟩
  · have hq2 : n < m := by omega
    clear h
    go_enter Tryd.func28, Tryd.ntmps28
    go_wp2_with (first
      | (go_at_call 46; refine (within_ok _ H0.out.1 H0.out.2.1 H0.out.2.2).mono ?_; rintro e w1 ⟨rfl, hB1⟩))
    go_ret2
    exact ⟨rfl, hB1⟩
end Go.Proofs.YtcnpdapampclpaaDoor.X
