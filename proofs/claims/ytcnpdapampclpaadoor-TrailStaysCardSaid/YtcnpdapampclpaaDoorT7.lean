/- Way. -/
import Derived.Test.YtcnpdapampclpaaDoorT6
import Derived.Test.YtcnpdapampclpaaDoorP2
namespace Go.Proofs.YtcnpdapampclpaaDoor.X
open Go.RowKit Go.Proofs.YtcnpdapampclpaaDoor.H Go.Proofs.YtcnpdapampclpaaDoorW.PrintWords Go.Proofs.YtcnpdapampclpaaDoorW.PrintLast Go.Proofs.YtcnpdapampclpaaDoorW.PrintMore Go.Proofs.YtcnpdapampclpaaDoor.PPl Go.Proofs.YtcnpdapampclpaaDoor.PPm Go.Proofs.YtcnpdapampclpaaDoor.PPn Go.Proofs.YtcnpdapampclpaaDoor.PTp
set_option linter.unusedVariables false
set_option linter.unusedSimpArgs false
theorem seg_left (M : List (List Int)) (f n q : Nat) (hn : 2 ≤ n) (hM : f + n ≤ M.length) (hq : q < hf n) : walkL ((M.drop f).take n) q = walkL ((M.drop f).take (hf n)) q ++ [topL ((M.drop (f + hf n)).take (n - hf n))] := by
  have h3 := hf_lt hn
  have hl : ((M.drop f).take n).length = n := by rw [List.length_take, List.length_drop]; omega
  rw [walkL_left (l := (M.drop f).take n) (by omega) (by rw [hl]; exact hq), hl, List.take_take, Nat.min_eq_left (by omega), List.drop_take, List.drop_drop]
theorem seg_right (M : List (List Int)) (f n q : Nat) (hn : 2 ≤ n) (hM : f + n ≤ M.length) (hq : hf n ≤ q) : walkL ((M.drop f).take n) q = walkL ((M.drop (f + hf n)).take (n - hf n)) (q - hf n) ++ [topL ((M.drop f).take (hf n))] := by
  have h3 := hf_lt hn
  have hl : ((M.drop f).take n).length = n := by rw [List.length_take, List.length_drop]; omega
  rw [walkL_right (l := (M.drop f).take n) (by omega) (by rw [hl]; exact hq), hl, List.take_take, Nat.min_eq_left (by omega), List.drop_take, List.drop_drop]
/-- What the way's loop has gathered. -/
def WayAt (w : World) (M : List (List Int)) (n q f n' q' : Nat) (v : Value) (wr : World) : Prop :=
  ∃ acc, Valid f n' ∧ f + n' ≤ n ∧ q' < n' ∧ walkL (M.take n) q = walkL ((M.drop f).take n') q' ++ acc.reverse ∧ acc.length + n' ≤ n ∧ Kd.N dB 23 wr w.heap.size (fun k => w.heap.size ≤ k) v acc ∧ Below w.heap.size w wr
set_option maxRecDepth 100000 in
set_option maxHeartbeats 8000000 in
theorem way_c (base p : Nat) (vs : List Value) (M : List (List Int)) (w : World) (HG : Glb w) (T : TrailR base p M.length vs (levL M) w) (hv : Lv M) (hM : M.length ≤ 4096) (h1b : 1 < base) (n q : Nat) (hn : n ≤ M.length) (hq : q < n) :
    Calls Tryd.prog 27 #[.pointer (some ⟨p, 0, none⟩), .int .i64 n, .int .i64 q] w fun e w' => ∃ v, e = .returned (.tuple #[v, .int .i64 0]) ∧ Kd.N dB 23 w' w.heap.size (fun k => w.heap.size ≤ k) v (walkL (M.take n) q) ∧ Below w.heap.size w w' := by
  have H0 := Aside0.mk (And.intro HG (And.intro T (And.intro hv hM)))
  clear HG T hv
  have hnI : (n : Int) ≤ 4096 := by omega
  have hqI : (q : Int) < n := by omega
  go_enter Tryd.func27, Tryd.ntmps27
  go_wp2_with (first
    | (go_at_call 46; refine (within_ok _ H0.out.2.1 (by omega) (by omega)).mono ?_; rintro e w1 ⟨rfl, hB1⟩))
  have hd1 : decide (n ≤ q) = false := decide_eq_false (by omega)
  have hd2 : decide ((q : Int) < 0) = false := decide_eq_false (by omega)
  simp only [hd1, hd2, Bool.or_self]
  clear hd1 hd2
  go_loopg [1, 2, 9, 10, 11] n (fun m v1 v2 v9 v10 v11 wr => ∃ (n' q' f : Nat) (v u : Value), n' ≤ m + 0 ∧ v1 = .int .i64 n' ∧ v2 = .int .i64 q' ∧ v = v9 ∧ v10 = .int .i64 f ∧ u = v11 ∧ n' ≤ n ∧ Aside0 (WayAt w M n q f n' q' v wr))
  case atStart => exact ⟨n, q, 0, _, _, by omega, rfl, rfl, rfl, by simp, rfl, by omega, ⟨[], Valid.zero n, by omega, hq, by rw [List.drop_zero, List.reverse_nil, List.append_nil], by simp, Kd.N_nil _ _ _ _ _, hB1⟩⟩
  case round =>
    obtain ⟨n', q', f, v, u, hm, rfl, rfl, rfl, rfl, rfl, hn', hW⟩ := hrel
    obtain ⟨acc, hV, hfn, hqn, hwalk, hlen, hN, hB⟩ := hW.out
    by_cases h1 : n' ≤ 1
    · have hnI' : ((1 : Int) < (n' : Int)) = False := eq_false (by omega)
      have hfin : walkL (M.take n) q = acc.reverse := by
        rw [hwalk, walkL_one (by rw [List.length_take, List.length_drop]; omega), List.nil_append]
      have H9 := Aside0.mk (And.intro hfin (And.intro hN (And.intro hB hlen)))
      clear hV hfn hwalk hlen hN hB hW hfin hqn
      go_wp2_with (first
        | (go_at_call 55; (with_reducible refine (rev_c w.heap.size (fun k => w.heap.size ≤ k) v acc _ H9.out.2.1 ?sx ?sb).mono ?_; (case sx => have := H9.out.2.2.2; omega); (case sb => exact H9.out.2.2.1.size); rintro e w9 ⟨rfl, hN9, hF9⟩; have R9 := Aside0.mk (And.intro hN9 hF9); clear hN9 hF9)))
      go_ret2
      exact ⟨v, rfl, by rw [H9.out.1]; exact R9.out.1, Fr.below H9.out.2.2.1 H9.out.2.2.1.size (fun i hi => Kd.N_base H9.out.2.1 i hi.symm) R9.out.2⟩
    · have hn2 : 2 ≤ n' := by omega
      have hnI' : ((1 : Int) < (n' : Int)) = True := eq_true (by omega)
      have hlt := hf_lt hn2
      have hpos := hf_pos n'
      have hhalf := half_eq n' hn2 (by omega)
      have hml : f + n' ≤ M.length := by omega
      have hT := H0.out.2.1.below hB
      obtain ⟨h, hh⟩ : ∃ h, h = hf n' := ⟨_, rfl⟩
      have hI1 : (h : Int) < (n' : Int) := by omega
      have hI2 : (1 : Int) ≤ (h : Int) := by omega
      have hI3 : (f : Int) + (n' : Int) ≤ 4096 := by omega
      have hI4 : (n' : Int) ≤ 4096 := by omega
      have hI5 : (q' : Int) < (n' : Int) := by omega
      by_cases hq' : q' < h
      · have hqI : ((q' : Int) < (h : Int)) = True := eq_true (by omega)
        have hseg := seg_left M f n' q' hn2 hml (by rw [← hh]; exact hq')
        have hpart : ∀ w1, Below w.heap.size w w1 → Calls Tryd.prog 48 #[.pointer (some ⟨p, 0, none⟩), .int .i64 ((f : Int) + (h : Int)), .int .i64 ((n' : Int) - (h : Int))] w1 fun e w' => ∃ A c, e = .returned (.slice A 32 c) ∧ 32 ≤ c ∧ Kd.C (Kd.int .u8) w' A 32 (topL ((M.drop (f + h)).take (n' - h))) ∧ Below w1.heap.size w1 w' := fun w1 hb => by
          rw [show (f : Int) + (h : Int) = ((f + h : Nat) : Int) by omega, show (n' : Int) - (h : Int) = ((n' - h : Nat) : Int) by omega]
          exact part_c base p vs M H0.out.2.2.1 hM h1b (n' - h) (f + h) w1 (H0.out.1.of hb) (H0.out.2.1.below hb) (by omega) (by omega) (by rw [hh]; exact hV.right hn2)
        have ht := topL_32 ((H0.out.2.2.1.drop (f + h)).take (n' - h)) (by rw [List.length_take, List.length_drop]; omega)
        obtain ⟨t, e1⟩ : ∃ t, t = topL ((M.drop (f + h)).take (n' - h)) := ⟨_, rfl⟩
        rw [← hh] at hseg hhalf
        rw [← e1] at hpart ht hseg
        have hVl := hV.left hn2
        rw [← hh] at hVl
        have H9 := Aside0.mk (And.intro hpart (And.intro ht (And.intro hhalf (And.intro hseg (And.intro hN (And.intro hB (And.intro hwalk (And.intro hVl (And.intro hlen hfn)))))))))
        clear hpart ht hhalf hseg hN hB hwalk hV hVl hlen hfn e1 hT hh hW hml hlt hpos
        go_wp2_with (first
          | (go_at_call 54; with_reducible refine (trail_half.calls (n' : Int) h _ H9.out.2.2.1).mono ?_; rintro e w1 ⟨rfl, hB1⟩)
          | (go_at_call 48; with_reducible refine (H9.out.1 _ (below_step H9.out.2.2.2.2.2.1 hB1)).mono ?_; rintro e w2 ⟨A2, c2, rfl, hc2, hC2, hB2⟩)
          | (go_at_call 47; have h32 := H9.out.2.1.1; have hc3 := clone_c A2 c2 t w2 (by rw [h32]; exact hC2) (by omega); rw [h32] at hc3; with_reducible refine hc3.mono ?_; rintro e w3 ⟨v3, rfl, hR3, hB3⟩; obtain ⟨A3, c3, rfl, hc4, -⟩ := Kd.R_reads hR3; have hB13 := below_step (below_step hB1 hB2) hB3; have hp3 := Kd.FK_slice_mk (e := 5) hc4 (Kd.F_mono (ok' := fun k => w2.heap.size ≤ k) (Kd.R_F hR3) (fun k hk => hk)); rw [h32] at hp3 ⊢; have P3 := Aside0.mk (And.intro hp3 hB13); clear hp3 hB13 hR3 hc3 hc4 h32 hC2)
          | ((with_reducible refine gate_builtin (b := .append) (xs := #[.tmp 32, .tmp 42]) rfl ?_); at_builtin; refine Kd.N_append dB (w0 := w) w.heap.size rfl (.tmp 32) (.tmp 42) 22 23 (.slice none 0 0) 24 rfl Tryd.underlying22 info_row rfl (by decide) (by decide) v acc t [.slice A3 32 c3] (fun k => w.heap.size ≤ k) (fun k => w2.heap.size ≤ k) rfl rfl P3.out.1 (fun k hk => ⟨Nat.le_trans H9.out.2.2.2.2.2.1.size (Nat.le_trans (below_step hB1 hB2).size hk), fun e => by have h_ := Kd.N_lt H9.out.2.2.2.2.1 k e.symm; have := (below_step hB1 hB2).size; omega⟩) (fun k hk => Nat.le_trans (below_step H9.out.2.2.2.2.2.1 P3.out.2).size hk) (Kd.N_below H9.out.2.2.2.2.1 P3.out.2) (below_step H9.out.2.2.2.2.2.1 P3.out.2) (below_step H9.out.2.2.2.2.2.1 P3.out.2).size (by have h_ := H9.out.2.2.2.2.2.2.2.2.1; omega) ?_; intro v4 w4 hN4 hB4 hg4 hat4; have P4 := Aside0.mk (And.intro hN4 hB4); clear hN4 hB4 hg4 hat4))
        go_roundg (gk - 1)
        case measure => omega
        case rel => exact ⟨h, q', f, v4, _, by omega, rfl, rfl, rfl, rfl, rfl, by omega, ⟨acc ++ [t], H9.out.2.2.2.2.2.2.2.1, by have h_ := H9.out.2.2.2.2.2.2.2.2.2; omega, hq', by rw [H9.out.2.2.2.2.2.2.1, H9.out.2.2.2.1, List.reverse_append, List.append_assoc]; rfl, by rw [List.length_append, List.length_singleton]; have h_ := H9.out.2.2.2.2.2.2.2.2.1; omega, P4.out.1, P4.out.2⟩⟩
      · have hqI : ((q' : Int) < (h : Int)) = False := eq_false (by omega)
        have hqI2 : (h : Int) ≤ (q' : Int) := by omega
        have hseg := seg_right M f n' q' hn2 hml (by rw [← hh]; omega)
        have hpart : ∀ w1, Below w.heap.size w w1 → Calls Tryd.prog 48 #[.pointer (some ⟨p, 0, none⟩), .int .i64 f, .int .i64 h] w1 fun e w' => ∃ A c, e = .returned (.slice A 32 c) ∧ 32 ≤ c ∧ Kd.C (Kd.int .u8) w' A 32 (topL ((M.drop f).take h)) ∧ Below w1.heap.size w1 w' := fun w1 hb =>
          part_c base p vs M H0.out.2.2.1 hM h1b h f w1 (H0.out.1.of hb) (H0.out.2.1.below hb) (by omega) (by omega) (by rw [hh]; exact hV.left hn2)
        have ht := topL_32 ((H0.out.2.2.1.drop f).take h) (by rw [List.length_take, List.length_drop]; omega)
        obtain ⟨t, e1⟩ : ∃ t, t = topL ((M.drop f).take h) := ⟨_, rfl⟩
        rw [← hh] at hseg hhalf
        rw [← e1] at hpart ht hseg
        have hVl := hV.right hn2
        rw [← hh] at hVl
        have H9 := Aside0.mk (And.intro hpart (And.intro ht (And.intro hhalf (And.intro hseg (And.intro hN (And.intro hB (And.intro hwalk (And.intro hVl (And.intro hlen hfn)))))))))
        clear hpart ht hhalf hseg hN hB hwalk hV hVl hlen hfn e1 hT hh hW hml hlt hpos
        go_wp2_with (first
          | (go_at_call 54; with_reducible refine (trail_half.calls (n' : Int) h _ H9.out.2.2.1).mono ?_; rintro e w1 ⟨rfl, hB1⟩)
          | (go_at_call 48; with_reducible refine (H9.out.1 _ (below_step H9.out.2.2.2.2.2.1 hB1)).mono ?_; rintro e w2 ⟨A2, c2, rfl, hc2, hC2, hB2⟩)
          | (go_at_call 47; have h32 := H9.out.2.1.1; have hc3 := clone_c A2 c2 t w2 (by rw [h32]; exact hC2) (by omega); rw [h32] at hc3; with_reducible refine hc3.mono ?_; rintro e w3 ⟨v3, rfl, hR3, hB3⟩; obtain ⟨A3, c3, rfl, hc4, -⟩ := Kd.R_reads hR3; have hB13 := below_step (below_step hB1 hB2) hB3; have hp3 := Kd.FK_slice_mk (e := 5) hc4 (Kd.F_mono (ok' := fun k => w2.heap.size ≤ k) (Kd.R_F hR3) (fun k hk => hk)); rw [h32] at hp3 ⊢; have P3 := Aside0.mk (And.intro hp3 hB13); clear hp3 hB13 hR3 hc3 hc4 h32 hC2)
          | ((with_reducible refine gate_builtin (b := .append) (xs := #[.tmp 45, .tmp 51]) rfl ?_); at_builtin; refine Kd.N_append dB (w0 := w) w.heap.size rfl (.tmp 45) (.tmp 51) 22 23 (.slice none 0 0) 24 rfl Tryd.underlying22 info_row rfl (by decide) (by decide) v acc t [.slice A3 32 c3] (fun k => w.heap.size ≤ k) (fun k => w2.heap.size ≤ k) rfl rfl P3.out.1 (fun k hk => ⟨Nat.le_trans H9.out.2.2.2.2.2.1.size (Nat.le_trans (below_step hB1 hB2).size hk), fun e => by have h_ := Kd.N_lt H9.out.2.2.2.2.1 k e.symm; have := (below_step hB1 hB2).size; omega⟩) (fun k hk => Nat.le_trans (below_step H9.out.2.2.2.2.2.1 P3.out.2).size hk) (Kd.N_below H9.out.2.2.2.2.1 P3.out.2) (below_step H9.out.2.2.2.2.2.1 P3.out.2) (below_step H9.out.2.2.2.2.2.1 P3.out.2).size (by have h_ := H9.out.2.2.2.2.2.2.2.2.1; omega) ?_; intro v4 w4 hN4 hB4 hg4 hat4; have P4 := Aside0.mk (And.intro hN4 hB4); clear hN4 hB4 hg4 hat4))
        go_roundg (gk - 1)
        case measure => omega
        case rel => exact ⟨n' - h, q' - h, f + h, v4, _, by omega, by congr 1; omega, by congr 1; omega, rfl, by congr 1, rfl, by omega, ⟨acc ++ [t], H9.out.2.2.2.2.2.2.2.1, by have h_ := H9.out.2.2.2.2.2.2.2.2.2; omega, by omega, by rw [H9.out.2.2.2.2.2.2.1, H9.out.2.2.2.1, List.reverse_append, List.append_assoc]; rfl, by rw [List.length_append, List.length_singleton]; have h_ := H9.out.2.2.2.2.2.2.2.2.1; omega, P4.out.1, P4.out.2⟩⟩
theorem way_err (base p : Nat) (vs : List Value) (M : List (List Int)) (w : World) (T : TrailR base p M.length vs (levL M) w) (n q : Int) (h : n < 1 ∨ (M.length : Int) < n) :
    Calls Tryd.prog 27 #[.pointer (some ⟨p, 0, none⟩), .int .i64 n, .int .i64 q] w fun e w' => e = .returned (.tuple #[.slice none 0 0, .int .i64 1]) ∧ Below w.heap.size w w' := by
  have H0 := Aside0.mk (And.intro T h)
  clear T h
  go_enter Tryd.func27, Tryd.ntmps27
  go_wp2_with (first
    | (go_at_call 46; refine (within_err _ H0.out.1 H0.out.2).mono ?_; rintro e w1 ⟨rfl, hB1⟩))
  go_ret2
  exact ⟨rfl, hB1⟩
theorem way_err2 (base p : Nat) (vs : List Value) (M : List (List Int)) (w : World) (T : TrailR base p M.length vs (levL M) w) (n q : Int) (h1 : 1 ≤ n) (h2 : n ≤ M.length) (h : q < 0 ∨ n ≤ q) :
    Calls Tryd.prog 27 #[.pointer (some ⟨p, 0, none⟩), .int .i64 n, .int .i64 q] w fun e w' => e = .returned (.tuple #[.slice none 0 0, .int .i64 1]) ∧ Below w.heap.size w w' := by
  have H0 := Aside0.mk (And.intro T (And.intro h1 h2))
  clear T h1 h2
  by_cases hq : q < 0
  · clear h
    go_enter Tryd.func27, Tryd.ntmps27
    go_wp2_with (first
      | (go_at_call 46; refine (within_ok _ H0.out.1 H0.out.2.1 H0.out.2.2).mono ?_; rintro e w1 ⟨rfl, hB1⟩))
    go_ret2
    exact ⟨rfl, hB1⟩
  · have hq2 : n ≤ q := by omega
    clear h
    go_enter Tryd.func27, Tryd.ntmps27
    go_wp2_with (first
      | (go_at_call 46; refine (within_ok _ H0.out.1 H0.out.2.1 H0.out.2.2).mono ?_; rintro e w1 ⟨rfl, hB1⟩))
    go_ret2
    exact ⟨rfl, hB1⟩
end Go.Proofs.YtcnpdapampclpaaDoor.X
