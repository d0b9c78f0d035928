/- Texts that are digested, by the values that stand for rows. -/
import Derived.Test.YtcnpdapampclpaaDoorTf
import Derived.Test.YtcnpdapampclpaaDoorP12
namespace Go.Proofs.YtcnpdapampclpaaDoor.X
open Go.RowKit Go.Proofs.YtcnpdapampclpaaDoor.H Go.Proofs.YtcnpdapampclpaaDoorW.PrintWords Go.Proofs.YtcnpdapampclpaaDoorW.PrintLast Go.Proofs.YtcnpdapampclpaaDoorW.PrintMore Go.Proofs.YtcnpdapampclpaaDoor.PPl Go.Proofs.YtcnpdapampclpaaDoor.PPm Go.Proofs.YtcnpdapampclpaaDoor.PPn Go.Proofs.YtcnpdapampclpaaDoor.PTp Go.Proofs.YtcnpdapampclpaaDoor.PRa Go.Proofs.YtcnpdapampclpaaDoor.PRb Go.Proofs.YtcnpdapampclpaaDoor.PRd
set_option linter.unusedVariables false
set_option linter.unusedSimpArgs false
def mtexts (l : List (List Int)) : List (List Int) := [18 :: (e8 0 ++ []), 16 :: [120]] ++ l.map (fun x => 16 :: x)
theorem mtexts_next (l : List (List Int)) (i : Nat) (hi : i < l.length) : mtexts (l.take (i + 1)) = mtexts (l.take i) ++ [16 :: l.getD i []] := by
  unfold mtexts
  rw [take_next l [] i hi, List.map_append, List.append_assoc]
  rfl
section
variable {w w1 : World} {v : Value} {e base : Nat} {ok : Nat → Prop}
theorem bs_of {x : List Int} (h : Kd.R (Kd.int .u8) 5 w base ok v x) : Bs w base v x := Kd.R_mono (Kd.R_tight rfl h) (fun k hk => Kd.R_base h k hk.symm)
theorem marktext_v {b : List Int} (h : IsB w v b) (hl : b.length ≤ 200000) : Calls Tryd.prog 63 #[v] w fun e w' => ∃ v', e = .returned v' ∧ Bs w' w.heap.size v' (16 :: b) ∧ Below w.heap.size w w' := by
  obtain ⟨A, c, rfl, h1, h2⟩ := h
  refine (imprimaturref20_MarkText.calls A c b (16 :: b) w h2 h1 (marktext_f hl)).mono ?_
  rintro e w' ⟨v', rfl, hR, hB⟩
  exact ⟨v', rfl, bs_of hR, hB⟩
theorem headtext_v {n : Int} {t : List Int} (h : IsB w v t) (ht : t.length ≤ 200000) : Calls Tryd.prog 37 #[.int .i64 n, v] w fun e w' => ∃ v', e = .returned v' ∧ Bs w' w.heap.size v' (18 :: (e8 n ++ t)) ∧ Below w.heap.size w w' := by
  obtain ⟨A, c, rfl, h1, h2⟩ := h
  refine (imprimaturref20_HeadText.calls 9 n A c t _ w h2 h1 (headtext_f (Nat.le_refl _) ht)).mono ?_
  rintro e w' ⟨v', rfl, hR, hB⟩
  exact ⟨v', rfl, bs_of hR, hB⟩
theorem texts_v {M : List (List Int)} {B : Nat} (h : Kd.V dB 23 w w.heap.size (fun k => k < B) v M) (hv : Lv M) (hM : M.length ≤ 4096) :
    Calls Tryd.prog 38 #[v] w fun e w' => ∃ v', e = .returned v' ∧ Kd.N dB 23 w' w.heap.size (fun k => k < B ∨ w.heap.size ≤ k) v' (textsL M) ∧ Below w.heap.size w w' := by
  obtain ⟨A, c, rfl, h1, h2⟩ := h
  exact imprimaturref20_Texts.calls 5000 _ A c M _ w ⟨A, c, rfl, h1, h2⟩ (texts_f M.length M 5000 rfl hv (by omega) (by omega))
theorem clash_v {l : List (List Int)} {b : Bool} (h : IsN w v l) (hf : ∃ k, imprimaturref06_Clash.f k l = some b) : Calls Tryd.prog 40 #[v] w fun e w' => e = .returned (.bool b) ∧ Below w.heap.size w w' := by
  obtain ⟨A, c, rfl, h1, h2⟩ := h
  obtain ⟨k, hk⟩ := hf
  exact imprimaturref06_Clash.calls k A c l b w h2 h1 hk
theorem fk_of {x : List Int} {A : Option Addr} {c n : Nat} (h : Bs w base (.slice A n c) x) (hok : ∀ k, base ≤ k → ok k) : n = x.length ∧ Kd.FK dB w ok x [.slice A n c] := by
  obtain ⟨h1, h2, h3⟩ := Kd.R_reads' h
  subst h1
  exact ⟨rfl, Kd.FK_slice_mk (e := 5) h2 (Kd.F_mono (Kd.R_F h) (fun k hk => hok k hk))⟩
end
theorem markx_C (w : World) (a : Int) (e : Nat) (m : Nat × Nat) : IsB (w.alloc (.cells #[.int .u8 a] e m)) (.slice (some ⟨w.heap.size, 0, none⟩) 1 1) [a] := ⟨_, 1, rfl, Nat.le_refl 1, mark_C w a e m⟩
set_option maxRecDepth 100000 in
set_option maxHeartbeats 8000000 in
theorem marktexts_c (v : Value) (l : List (List Int)) (w : World) (VL : IsN w v l) (hb : ∀ x ∈ l, x.length ≤ 8192) (hl : l.length ≤ 4096) :
    Calls Tryd.prog 39 #[v] w fun e w' => ∃ v', e = .returned v' ∧ Kd.N dB 23 w' w.heap.size (fun k => w.heap.size ≤ k) v' (mtexts l) ∧ Below w.heap.size w w' := by
  obtain ⟨A0, c0, rfl⟩ := VL.slice
  obtain ⟨n, hn⟩ : ∃ n, n = l.length := ⟨_, rfl⟩
  rw [← hn] at VL ⊢
  have VL := Aside0.mk VL
  have HS := Aside0.mk (And.intro hb (And.intro hn hl))
  have kc := fun (w : World) (C : Array Value) (n c : Nat) => Lib.run_convert_bytes_const (P := Tryd.prog) w 23 5 C n c Tryd.underlying23 Tryd.underlying5
  obtain ⟨x1, hx1⟩ : ∃ x : List Int, x = 18 :: (e8 0 ++ []) := ⟨_, rfl⟩
  have hx1l : x1.length = 9 := by rw [hx1]; rfl
  have HX := Aside0.mk (And.intro hx1 hx1l)
  have hnI : (n : Int) ≤ 4096 := by omega
  clear hb hl hx1 hx1l
  go_enter Tryd.func39, Tryd.ntmps39
  go_wp2_with (first
    | (go_at_call 37; have hc_ := headtext_v (w := w) (n := 0) IsB.nil (Nat.zero_le _); rw [← HX.out.1] at hc_; with_reducible refine hc_.mono ?_; rintro e w1 ⟨v1, rfl, hR1, hB1⟩; obtain ⟨A1, c1, rfl, -, -⟩ := Kd.R_reads hR1; rw [HX.out.2] at hR1 ⊢; have P1 := Aside0.mk (And.intro hR1 hB1); clear hR1 hB1 hc_)
    | (go_at_call 63; have hal := below_alloc (Below.refl w1.heap.size w1) (.cells #[.int .u8 120] 5 (1, 2)); with_reducible refine (marktext_v (markx_C w1 120 5 (1, 2)) (by decide)).mono ?_; rintro e w2 ⟨v2, rfl, hR2, hB2⟩; obtain ⟨A2, c2, rfl, -, -⟩ := Kd.R_reads hR2; rw [show (16 :: [120] : List Int).length = 2 from rfl] at hR2 ⊢; have hb12 := below_step hal hB2; have P2 := Aside0.mk (And.intro (Kd.R_below P1.out.1 hb12) (And.intro (Kd.R_mono (Kd.R_lower hR2 (Nat.le_trans P1.out.2.size hal.size)) (fun k hk => Nat.le_trans (Nat.le_trans P1.out.2.size hal.size) hk)) (below_step P1.out.2 hb12))); clear hR2 hB2 hal hb12 P1)
    | ((with_reducible refine gate_dst (N := 9) rfl ?_); refine Kd.N_lit (w0 := w) dB w.heap.size 23 ?hg (N' := 9) ?hd (xs := [x1, 16 :: [120]]) (inner := [.slice A1 9 c1, .slice A2 2 c2]) (ok := fun k => w.heap.size ≤ k) (okp := fun k => w.heap.size ≤ k) ?hr (Reps.one (fk_of P2.out.1 (fun k hk => hk)).2 (Reps.one (fk_of P2.out.2.1 (fun k hk => hk)).2 (Reps.none _ _))) (fun _ h => h) P2.out.2.2.size P2.out.2.2 P2.out.2.2.size (by simp) ?_; (case hd => rfl); (case hg => rfl); (case hr => first | (go_simp; done) | (go_simp; rfl)); intro v3 w3 ho3 hb3 hg3 hn3; have P3 := Aside0.mk (And.intro ho3 hb3); clear ho3 hb3 hg3 hn3))
  go_loopg [3, 4] n (fun m v3' v4 wr => ∃ (i : Nat) (vv : Value), m + i = n ∧ v3' = vv ∧ v4 = .int .i64 i ∧ Aside0 (Kd.N dB 23 wr w.heap.size (fun k => w.heap.size ≤ k) vv (mtexts (l.take i)) ∧ Below w.heap.size w wr))
  case atStart => exact ⟨0, v3, by omega, rfl, rfl, ⟨by rw [HX.out.1] at P3; exact P3.out.1, P3.out.2⟩⟩
  case round =>
    obtain ⟨i, vv, hmi, rfl, rfl, P⟩ := hrel
    clear P3
    by_cases hi : i < n
    · have hiI : ((i : Int) < (n : Int)) = True := eq_true (by omega)
      have pk : (0 ≤ (i : Int)) = True := eq_true (by omega)
      obtain ⟨hln, hcc, hC⟩ := (VL.out.below P.out.2).C
      obtain ⟨ad, A3, c3, rfl, hcell, hlc, hCe⟩ := elem_at hC (i := i) (by omega)
      have hx := HS.out.1 (l.getD i []) (by rw [List.getD_eq_getElem?_getD, List.getElem?_eq_getElem (show i < l.length by omega)]; exact List.getElem_mem _)
      have hnext := mtexts_next l i (by omega)
      obtain ⟨b, hb⟩ : ∃ b, b = l.getD i [] := ⟨_, rfl⟩
      rw [← hb] at hx hnext hcell hlc hCe
      obtain ⟨bl, hbl⟩ : ∃ bl, bl = b.length := ⟨_, rfl⟩
      have VE : IsB wr (.slice A3 b.length c3) b := ⟨A3, c3, rfl, hlc, hCe⟩
      have hml : (mtexts (l.take i)).length ≤ 5000 := by unfold mtexts; have := HS.out.2; simp; omega
      rw [← hbl] at hcell VE
      have Q := Aside0.mk (And.intro VE (And.intro hx (And.intro hnext hml)))
      clear VE hx hnext hml hlc hCe hC hcc hln hb hbl
      go_wp2_with (first
        | (go_at_call 63; with_reducible refine (marktext_v Q.out.1 (Nat.le_trans Q.out.2.1 (by decide))).mono ?_; rintro e w4 ⟨v4, rfl, hR4, hB4⟩; obtain ⟨A4, c4, rfl, -, -⟩ := Kd.R_reads hR4; obtain ⟨bm, hbm⟩ : ∃ bm, bm = (16 :: b).length := ⟨_, rfl⟩; rw [← hbm] at hR4 ⊢; have P4 := Aside0.mk (And.intro hR4 (And.intro hB4 (below_step P.out.2 hB4))); clear hR4 hB4 hbm)
        | ((with_reducible refine gate_builtin (b := .append) (xs := #[.tmp 16, .tmp 22]) rfl ?_); at_builtin; refine Kd.N_append dB (w0 := w) w.heap.size rfl (.tmp 16) (.tmp 22) 22 23 (.slice none 0 0) 24 rfl Tryd.underlying22 info_row rfl (by decide) (by decide) _ (mtexts (l.take i)) (16 :: b) [.slice A4 bm c4] (fun k => w.heap.size ≤ k) (fun k => wr.heap.size ≤ k) rfl rfl (fk_of P4.out.1 (fun k hk => hk)).2 (fun k hk => ⟨Nat.le_trans P.out.2.size hk, fun e => by have h_ := Kd.N_lt P.out.1 k e.symm; omega⟩) (fun k hk => Nat.le_trans P4.out.2.2.size hk) (Kd.N_below P.out.1 P4.out.2.1) P4.out.2.2 P4.out.2.2.size (by have := Q.out.2.2.2; omega) ?_; intro v5 w5 hN5 hB5 hg5 hat5; have P5 := Aside0.mk (And.intro hN5 hB5); clear hN5 hB5 hg5 hat5))
      go_roundg (gk - 1)
      case measure => omega
      case rel => exact ⟨i + 1, v5, by omega, rfl, rfl, ⟨by rw [Q.out.2.2.1]; exact P5.out.1, P5.out.2⟩⟩
    · have hiI : ((i : Int) < (n : Int)) = False := eq_false (by omega)
      obtain rfl : i = n := by omega
      go_wp2
      go_ret
      have h := P.out
      rw [HS.out.2.1, List.take_length] at h
      exact ⟨_, rfl, h.1, h.2⟩
end Go.Proofs.YtcnpdapampclpaaDoor.X
