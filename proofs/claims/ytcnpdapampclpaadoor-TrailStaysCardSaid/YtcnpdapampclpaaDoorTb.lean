/- Copies. -/
import Derived.Test.YtcnpdapampclpaaDoorT5
namespace Go.Proofs.YtcnpdapampclpaaDoor.X
open Go.RowKit Go.Proofs.YtcnpdapampclpaaDoor.H Go.Proofs.YtcnpdapampclpaaDoorW.PrintWords Go.Proofs.YtcnpdapampclpaaDoorW.PrintLast Go.Proofs.YtcnpdapampclpaaDoorW.PrintMore Go.Proofs.YtcnpdapampclpaaDoor.PPl Go.Proofs.YtcnpdapampclpaaDoor.PTp
set_option linter.unusedVariables false
set_option linter.unusedSimpArgs false
/-- append(v, ys...): ys is a row whose own block is none of what its elements lead to. -/
theorem N_append_N {P : Program} {ops : Array Oper} {rest : List Oper} {o : Oper} {a : Act} {Q : Exit → Act → World → Prop} {α : Type} (d : Kd α) {w0 W : World} (base : Nat) (hgd : o.guard = none) (s x : Operand) (t e : TypeId) (z : Value) (bytes : Nat)
    (ho : o.op = .call { callee := .builtin .append, args := #[s, x], argTypes := #[t, t] })
    (ht : P.underlying t = some (.slice e)) (hinfo : (P.info? e).map (fun i => (i.zero, i.size, i.bytes)) = some (some z, d.sz, bytes)) (hz : z.cells.size = d.sz) (hs0 : 0 < d.sz) (hb0 : 0 < bytes)
    (v : Value) (xs ys : List α) (A : Option Addr) (m c : Nat) (ok oky : Nat → Prop) {e2 base2 : Nat} (hs : a.eval s = v) (hx : a.eval x = .slice A m c)
    (HO : Kd.N d e W base ok v xs) (HR : Kd.N d e2 W base2 oky (.slice A m c) ys) (hokp : ∀ k, oky k → some k ≠ (Value.slice A m c).ownBlock → ok k ∧ some k ≠ v.ownBlock) (hfresh : ∀ k, W.heap.size ≤ k → ok k)
    (HB : Below base w0 W) (hbase : base ≤ W.heap.size) (hl : (xs.length + m) * bytes ≤ 140737488355328)
    (h : ∀ v1 w1, Kd.N d e w1 base ok v1 (xs ++ ys) → Below base w0 w1 → W.grownBy w1 v.ownBlock → (v1.ownBlock = v.ownBlock ∨ ∃ b, v1.ownBlock = some b ∧ W.heap.size ≤ b) → wpList P ops Q rest (a.put o.dst v1) w1) :
    wpList P ops Q (o :: rest) a W := by
  obtain ⟨h0, rows, hlr, hR, hf⟩ := HO
  obtain ⟨_, news, hnl, hnR, hnf⟩ := HR
  have hC := Kd.R_reads' hnR
  refine Kd.R_append_rows (Kd.raw d.sz) base hgd s x t e z bytes ho ht hinfo hz hs0 hb0 v rows news A m c (fun _ => True) (fun _ => False) hs hx (Kd.raw_any hR) (by rw [hC.1]; exact hC.2.2) (fun _ _ hk => hk) (fun _ hk => hk.elim) (fun _ _ => trivial) HB hbase (by rw [hlr]; exact hl) ?_
  intro v1 w1 hr hb hg hat
  exact h v1 w1 (Kd.N_appended h0 hlr hf hnl hnf (fun k hk => hokp k hk.1 hk.2) hfresh hr hg hat) hb hg hat
set_option maxRecDepth 100000 in
set_option maxHeartbeats 4000000 in
theorem clone2_c (v : Value) (xs : List (List Int)) (w : World) (base : Nat) (ok okn : Nat → Prop) (hN : Kd.N dB 23 w base ok v xs) (hl : xs.length ≤ 1000000) (hfr : ∀ k, w.heap.size ≤ k → okn k) (hel : ∀ k, ok k → some k ≠ v.ownBlock → k < w.heap.size → okn k) :
    Calls Tryd.prog 57 #[v] w fun e w' => ∃ v1, e = .returned v1 ∧ Kd.N dB 23 w' w.heap.size okn v1 xs ∧ Below w.heap.size w w' := by
  have qT : ∀ (w : World) (a : Option Addr) (n c n' c' : Nat), (binOp .eql 22 (.slice a n c) (.slice none n' c')).run Tryd.prog w = .ok (.bool a.isNone) w := fun w a n c n' c' => Lib.run_eql_slice_nil w _ _ a n c n' c' Tryd.underlying22
  obtain ⟨A, c, rfl⟩ := Kd.N_slice hN
  have hN := Kd.N_bound hN
  rcases A with _ | ad
  · have h0 : xs.length = 0 := by
      have h := (Kd.N_reads' hN).2.2
      rcases Nat.eq_zero_or_pos xs.length with h' | h'
      · exact h'
      · obtain ⟨ad, he, _⟩ := h.2.2 h'
        cases he
    obtain rfl := List.length_eq_zero_iff.1 h0
    clear hN h0
    go_enter Tryd.func57, Tryd.ntmps57
    go_wp2
    go_ret
    exact ⟨_, rfl, Kd.N_nil _ _ _ _ _, Below.refl _ _⟩
  · obtain ⟨n, hn⟩ : ∃ n, n = xs.length := ⟨_, rfl⟩
    rw [← hn] at hN hl hel ⊢
    have HC := Aside0.mk (And.intro hN (And.intro hfr hel))
    clear hN hn hfr hel
    go_enter Tryd.func57, Tryd.ntmps57
    go_wp2_with (first
      | ((with_reducible refine gate_dst (N := 5) rfl ?_); refine Kd.N_lit (w0 := w) dB w.heap.size 23 ?hg (N' := 5) ?hd (xs := ([] : List (List Int))) (inner := []) (ok := okn) (okp := fun _ => False) ?hr (Reps.none _ _) (fun _ hk => hk.elim) (HC.out.2.1 _ (Nat.le_refl _)) (Below.refl _ _) (Nat.le_refl _) (by decide) ?_; (case hd => rfl); (case hg => rfl); (case hr => first | (go_simp; done) | (go_simp; rfl)); intro v1 w1 ho1 hb1 hg1 hn1)
      | ((with_reducible refine gate_builtin (b := .append) (xs := #[.tmp 5, .tmp 6]) rfl ?_); at_builtin; refine N_append_N dB (w0 := w) w.heap.size rfl (.tmp 5) (.tmp 6) 22 23 (.slice none 0 0) 24 rfl Tryd.underlying22 info_row rfl (by decide) (by decide) v1 ([] : List (List Int)) xs (some ad) n c okn (fun k => ok k ∧ k < w.heap.size) rfl rfl ho1 (Kd.N_below HC.out.1 hb1) (fun k hk hne => ⟨HC.out.2.2 k hk.1 hne hk.2, fun e => by have := Kd.N_base ho1 k e.symm; omega⟩) (fun k hk => HC.out.2.1 k (Nat.le_trans hb1.size hk)) hb1 hb1.size (by show (0 + n) * 24 ≤ _; omega) ?_; intro v2 w2 ho2 hb2 hg2 hat2))
    go_ret
    exact ⟨_, rfl, ho2, hb2⟩
end Go.Proofs.YtcnpdapampclpaaDoor.X
