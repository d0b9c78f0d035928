/- Reverse. -/
import Derived.Test.YtcnpdapampclpaaDoorT5
namespace Go.Proofs.YtcnpdapampclpaaDoor.X
open Go.RowKit Go.Proofs.YtcnpdapampclpaaDoor.H Go.Proofs.YtcnpdapampclpaaDoorW.PrintWords Go.Proofs.YtcnpdapampclpaaDoorW.PrintLast Go.Proofs.YtcnpdapampclpaaDoorW.PrintMore Go.Proofs.YtcnpdapampclpaaDoor.PPl Go.Proofs.YtcnpdapampclpaaDoor.PPm Go.Proofs.YtcnpdapampclpaaDoor.PTp
set_option linter.unusedVariables false
set_option linter.unusedSimpArgs false
def revR.T3 : Bool × List (List Nat × List Nat) := (true, [([], []), ([], []), ([], []), ([], []), ([], []), ([], []), ([4, 5], [4, 5]), ([6], [6]), ([], []), ([], []), ([8, 9], [8, 9]), ([10], [10]), ([0, 1, 0, 1, 4, 5, 6, 7, 11], [0, 1]), ([12, 7, 0, 1, 4, 5, 6, 7, 11], [7, 12]), ([2, 3, 0, 1, 2, 3, 4, 5, 6, 7, 8, 9, 10, 11, 12, 13], [2, 3]), ([14, 11, 13, 0, 1, 2, 3, 4, 5, 6, 7, 8, 9, 10, 11, 12, 13], [11, 14])])
def revR.B3 : List Nat := [0, 0, 0, 0, 0, 0, 48, 112, 0, 0, 768, 1792, 4083, 8179, 16383, 32767]
theorem revR.tab3 : rtab .any (opsOf Tryd.f55 3) = revR.T3 := by kernel_rfl
theorem revR.bits3 : waitsOk revR.T3.2 revR.B3 = true := by kernel_rfl
/-- One element of a row of rows anew. -/
theorem N_put1 {w : World} {e base g n cap : Nat} {ok okp : Nat → Prop} {xs : List (List Int)} (h : Kd.N dB e w base ok (.slice (some ⟨g, 0, none⟩) n cap) xs) {i : Nat} (hi : i < n) {x' : List Int} {A : Option Addr} {c : Nat} (hl : x'.length ≤ c) (hF : Kd.F (Kd.int .u8) w okp A x'.length x') (hokp : ∀ k, okp k → ok k ∧ k ≠ g) :
    Kd.N dB e (w.setCell ⟨g, i, none⟩ (.slice A x'.length c)) base ok (.slice (some ⟨g, 0, none⟩) n cap) (xs.set i x') ∧ w.grownBy (w.setCell ⟨g, i, none⟩ (.slice A x'.length c)) (some g) := by
  have hM : Kd.FK dB w okp x' [.slice A x'.length c] := Kd.FK_slice_mk hl hF
  obtain ⟨cs, hcl, _, hcc, _⟩ := Kd.N_elem h [] (i : Int) (by omega) (by omega)
  obtain ⟨hown, rows, hlr, hR, hf⟩ := h
  have h1 := Kd.R_seg (Kd.raw_any hR) (i : Int) (by omega) (by omega) hcl hcc (j := 0) (seg := [.slice A x'.length c]) (by show 0 + 1 ≤ 1; omega) (x' := [.slice A x'.length c]) (okp := fun _ => False) (by
    have e : cs.take 0 ++ [Value.slice A x'.length c] ++ cs.drop (0 + [Value.slice A x'.length c].length) = [Value.slice A x'.length c] := by
      rw [List.drop_of_length_le (by rw [hcl]; exact Nat.le_refl 1)]; rfl
    rw [e]
    exact Kd.FK_raw hM) (fun _ h => h.elim)
  rw [Int.toNat_natCast, show i * (Kd.raw dB.sz).sz + 0 = i by show i * 1 + 0 = i; omega] at h1
  have e : w.setCells g i [Value.slice A x'.length c] = w.setCell ⟨g, i, none⟩ (.slice A x'.length c) := by rfl
  rw [e] at h1
  refine ⟨?_, h1.2⟩
  have := Kd.N_written (i := (i : Int)) hown hlr hf (by rw [Int.toNat_natCast]; exact h1.1) h1.2 hM hokp
  rw [Int.toNat_natCast] at this
  exact this
/-- A row whose first i and last i elements have changed places. -/
def Turned (i : Nat) (xs ys : List (List Int)) : Prop := ys.length = xs.length ∧ ∀ t, t < xs.length → ys.getD t [] = if t < i ∨ xs.length ≤ t + i then xs.getD (xs.length - 1 - t) [] else xs.getD t []
theorem Turned.zero (xs : List (List Int)) : Turned 0 xs xs := ⟨rfl, fun t ht => by rw [if_neg (by omega)]⟩
theorem getD_set_at {α : Type} (l : List α) (i t : Nat) (x d : α) (hi : i < l.length) : (l.set i x).getD t d = if t = i then x else l.getD t d := by
  by_cases h : t = i
  · subst h; rw [if_pos rfl, List.getD_eq_getElem?_getD, List.getElem?_set_self hi]; rfl
  · rw [if_neg h, List.getD_eq_getElem?_getD, List.getElem?_set_ne (fun e => h e.symm), ← List.getD_eq_getElem?_getD]
theorem Turned.next {i : Nat} {xs ys : List (List Int)} (h : Turned i xs ys) (hi : 2 * i + 1 < xs.length) : Turned (i + 1) xs ((ys.set i (ys.getD (xs.length - 1 - i) [])).set (xs.length - 1 - i) (ys.getD i [])) := by
  obtain ⟨hl, hg⟩ := h
  refine ⟨by rw [List.length_set, List.length_set, hl], fun t ht => ?_⟩
  rw [getD_set_at _ _ _ _ _ (by rw [List.length_set]; omega), getD_set_at _ _ _ _ _ (by omega)]
  by_cases h1 : t = xs.length - 1 - i
  · rw [if_pos h1, if_pos (by omega), hg i (by omega), if_neg (by omega)]
    congr 1; omega
  · rw [if_neg h1]
    by_cases h2 : t = i
    · rw [if_pos h2, if_pos (by omega), hg _ (by omega), if_neg (by omega), h2]
    · rw [if_neg h2, hg t ht]
      by_cases h3 : t < i ∨ xs.length ≤ t + i
      · rw [if_pos h3, if_pos (by omega)]
      · rw [if_neg h3, if_neg (by omega)]
theorem Turned.done {i : Nat} {xs ys : List (List Int)} (h : Turned i xs ys) (hi : xs.length ≤ 2 * i + 1) : ys = xs.reverse := by
  obtain ⟨hl, hg⟩ := h
  apply List.ext_getElem?
  intro t
  by_cases ht : t < xs.length
  · have h1 := hg t ht
    rw [List.getD_eq_getElem?_getD, List.getElem?_eq_getElem (by omega), Option.getD_some] at h1
    rw [List.getElem?_eq_getElem (by omega), h1, List.getElem?_reverse ht, List.getElem?_eq_getElem (by omega)]
    congr 1
    by_cases h2 : t < i ∨ xs.length ≤ t + i
    · rw [if_pos h2, List.getD_eq_getElem?_getD, List.getElem?_eq_getElem (by omega)]; rfl
    · rw [if_neg h2, List.getD_eq_getElem?_getD, List.getElem?_eq_getElem ht]
      have : t = xs.length - 1 - t := by omega
      simp only [Option.getD_some]
      congr 1
  · rw [List.getElem?_eq_none (by omega), List.getElem?_eq_none (by rw [List.length_reverse]; omega)]
set_option maxRecDepth 100000 in
set_option maxHeartbeats 8000000 in
theorem rev_c (base : Nat) (ok : Nat → Prop) (v : Value) (xs : List (List Int)) (w : World) (hN : Kd.N dB 23 w base ok v xs) (hx : xs.length ≤ 100000) (hbase : base ≤ w.heap.size) :
    Calls Tryd.prog 55 #[v] w fun e w' => e = .returned (.tuple #[]) ∧ Kd.N dB 23 w' base ok v xs.reverse ∧ Fr (fun k => some k = v.ownBlock) w w' := by
  obtain ⟨n, hn⟩ : ∃ n, n = xs.length := ⟨_, rfl⟩
  obtain ⟨A, c, hv⟩ := Kd.N_slice hN
  rw [← hn] at hv hx
  subst hv
  have H0 := Aside0.mk (And.intro hN hn)
  clear hN hn
  go_enter Tryd.func55, Tryd.ntmps55
  go_wp2
  go_loopg [2, 3] n (fun m v2 v3 wr => ∃ (i : Nat) (z : Int), m + i = n ∧ v2 = .int .i64 i ∧ v3 = .int .i64 z ∧ z = (n : Int) - 1 - i ∧ Aside0 (∃ ys, Turned i xs ys ∧ Kd.N dB 23 wr base ok (.slice A n c) ys ∧ Fr (fun k => some k = (Value.slice A n c).ownBlock) w wr))
  case atStart => exact ⟨0, _, by omega, rfl, rfl, by simp, ⟨_, Turned.zero xs, H0.out.1, Fr.refl _ _⟩⟩
  case round =>
    obtain ⟨i, z, hmi, rfl, rfl, hz, hys⟩ := hrel
    by_cases hiz : (i : Int) < z
    · obtain ⟨j, rfl⟩ : ∃ j : Nat, z = (j : Int) := ⟨z.toNat, by omega⟩
      obtain ⟨ys, hT, hN0, hF0⟩ := hys.out
      have hN := Kd.N_below hN0 (below_drew1 (Below.refl wr.heap.size wr))
      have hF := hF0.drew
      have hyl : ys.length = n := by rw [hT.1]; exact H0.out.2.symm
      obtain ⟨g, c', hv, hcl, hokg, hglt, hel⟩ := row_get hN (by omega)
      injection hv with hA hnn hc
      clear hnn
      subst hA
      obtain rfl : c = c' := hc
      obtain ⟨A1, c1, hx1, hl1, hF1⟩ := hel i (by omega)
      obtain ⟨A2, c2, hx2, hl2, hF2⟩ := hel j (by omega)
      obtain ⟨q1, hq1⟩ : ∃ q, q = (ys.getD i []).length := ⟨_, rfl⟩
      obtain ⟨q2, hq2⟩ : ∃ q, q = (ys.getD j []).length := ⟨_, rfl⟩
      rw [← hq1] at hx1
      rw [← hq2] at hx2
      obtain ⟨g2, c2', hv2, _, _, cells, hblk⟩ := Kd.N_form hN (by omega)
      injection hv2 with hA2 hnn hcc2
      clear hnn hcc2
      injection hA2 with hA2
      injection hA2 with hA2 _
      subst hA2
      have hfz1 := blk_frozen hblk i
      have hfz2 := blk_frozen (blk_set hblk i (.slice A2 q2 c2)) j
      have hjn : j = xs.length - 1 - i := by rw [← H0.out.2]; omega
      have h2i : 2 * i + 1 < xs.length := by rw [← H0.out.2]; omega
      have T9 := hT.next h2i
      rw [← hjn] at T9
      have HP1 := N_put1 hN (i := i) (by omega) hl2 hF2 (fun k hk => hk)
      rw [← hq2] at HP1
      have hF1' : Kd.F (Kd.int .u8) (wr.drew.setCell ⟨g, i, none⟩ (.slice A2 q2 c2)) (fun k => ok k ∧ k ≠ g) A1 (ys.getD i []).length (ys.getD i []) := Kd.F_far hF1 (fun k hk => hk.2) _
      have HP2 := N_put1 HP1.1 (i := j) (by omega) hl1 hF1' (fun k hk => hk)
      rw [← hq1] at HP2
      have H9 := Aside0.mk (And.intro T9 (And.intro HP1.2 (And.intro HP2 hF)))
      have hx1' := hx1
      have hx2' := hx2
      clear hT hN0 hF0 hN hF hel hcl hokg hglt hl1 hl2 hF1 hF2 hq1 hq2 T9 HP1 HP2 hF1' hblk hyl hys H0 hx1' hx2' h2i
      have b1 : (i : Int) ≤ 100000 := by omega
      have b2 : (j : Int) ≤ 100000 := by omega
      have b3 : (1 : Int) ≤ (j : Int) := by omega
      clear hx
      have p1 : (0 ≤ (i : Int)) = True := eq_true (by omega)
      have q1_ : ((i : Int) < (n : Int)) = True := eq_true (by omega)
      have p2 : (0 ≤ (j : Int)) = True := eq_true (by omega)
      have q2_ : ((j : Int) < (n : Int)) = True := eq_true (by omega)
      have Hz := Aside0.mk (And.intro hz hjn)
      clear hz hjn
      go_upto_region 3 with (fail)
      refine start_ (n := 16) (S := fun w' => w'.cell? ⟨g, i, none⟩ = some (.slice A1 q1 c1) ∧ w'.cell? ⟨g, j, none⟩ = some (.slice A2 q2 c2)) (ds := [13, 15]) (fl 16 0) (by kernel_rfl) rfl rfl ⟨hx1, hx2⟩ (fun hHeld => ?_)
      refine with_tabW revR.tab3 revR.bits3 (fun HT_ HW_ => ?_)
      generalize wr.drew = w2 at hHeld hfz1 hfz2 H9 hx1 hx2 ⊢
      refine pureA (i := 0) (N := some 14) (fl 16 1) (any_of HT_.out (by kernel_rfl)) ?_
      refine pureA (i := 1) (N := some 15) (fl 16 3) (any_of HT_.out (by kernel_rfl)) ?_
      refine pureA (i := 2) (N := some 16) (fl 16 7) (any_of HT_.out (by kernel_rfl)) ?_
      refine pureA (i := 3) (N := some 17) (fl 16 15) (any_of HT_.out (by kernel_rfl)) ?_
      refine pureA (i := 4) (N := some 18) (fl 16 31) (any_of HT_.out (by kernel_rfl)) ?_
      refine pureA (i := 5) (N := some 19) (fl 16 63) (any_of HT_.out (by kernel_rfl)) ?_
      refine pureA (i := 6) (N := some 20) (fl 16 127) (any_of HT_.out (by kernel_rfl)) ?_
      refine pureA (i := 8) (N := some 22) (fl 16 383) (any_of HT_.out (by kernel_rfl)) ?_
      refine pureA (i := 9) (N := some 23) (fl 16 895) (any_of HT_.out (by kernel_rfl)) ?_
      refine pureA (i := 10) (N := some 24) (fl 16 1919) (any_of HT_.out (by kernel_rfl)) ?_
      refine takeA (i := 7) (N := some 21) (fl 16 2047) (take_ofW HT_.out HW_.out (by kernel_rfl)) hHeld ?_
      refine takeA (i := 11) (N := some 25) (fl 16 4095) (take_ofW HT_.out HW_.out (by kernel_rfl)) hHeld ?_
      refine pureA (i := 12) (N := some 26) (fl 16 8191) (any_of HT_.out (by kernel_rfl)) ?_
      refine last_ (i := 13) (N := none) (fl 16 16383) rfl rfl (one_of HT_.out (by kernel_rfl)) (by decide) (fun K hK => ?_)
      refine skip_ (w1 := w2.setCell ⟨g, i, none⟩ (.slice A2 q2 c2)) (by rfl) rfl (by go_simp) ?_
      refine hK.out _ _ ?_
      clear hK K
      have hx3 : (w2.setCell ⟨g, i, none⟩ (.slice A2 q2 c2)).cell? ⟨g, j, none⟩ = some (.slice A2 q2 c2) := (World.cell?_setCell_other _ _ _ _ (by intro e; injection e with _ e; omega)).trans hx2
      refine pureA (i := 14) (N := some 27) (fl 16 32767) (any_of HT_.out (by kernel_rfl)) ?_
      refine last_ (i := 15) (N := none) (fl 16 65535) rfl rfl (one_of HT_.out (by kernel_rfl)) (by decide) (fun K hK => ?_)
      refine skip_ (w1 := (w2.setCell ⟨g, i, none⟩ (.slice A2 q2 c2)).setCell ⟨g, j, none⟩ (.slice A1 q1 c1)) (by rfl) rfl (by go_simp) ?_
      refine hK.out _ _ ?_
      clear hK K
      refine done_ (done_of HT_.out (by kernel_rfl)) ?_
      go_wp2
      go_roundg (gk - 1)
      case measure => have h_ := of_eq_true q1_; omega
      case rel => exact ⟨i + 1, (j : Int) - 1, by have h_ := of_eq_true q1_; omega, by simp, by first | rfl | simp, by have h_ := Hz.out.1; omega, ⟨_, H9.out.1, H9.out.2.2.1.1, (H9.out.2.2.2.setCell _ _ (.inl (by simp [Value.ownBlock]))).setCell _ _ (.inl (by simp [Value.ownBlock]))⟩⟩
    · have hiz' : ((i : Int) < z) = False := eq_false hiz
      obtain ⟨ys, hT, hN, hF⟩ := hys.out
      have hr := hT.done (by rw [← H0.out.2]; omega)
      rw [hr] at hN
      have H9 := Aside0.mk (And.intro hN hF)
      clear hN hF hT hr hys
      go_wp2
      go_end0
      exact ⟨rfl, H9.out.1, H9.out.2⟩
end Go.Proofs.YtcnpdapampclpaaDoor.X
