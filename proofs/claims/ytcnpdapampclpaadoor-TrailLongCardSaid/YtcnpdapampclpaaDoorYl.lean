/- The law TrailLong: so long an entry is put to a row; a longer one is refused; so many there may be, and no more. -/
import Derived.Test.YtcnpdapampclpaaDoorTl
import Derived.Test.YtcnpdapampclpaaDoorTe
namespace Go.Proofs.YtcnpdapampclpaaDoor.X
open Go.RowKit Go.Proofs.YtcnpdapampclpaaDoor.H Go.Proofs.YtcnpdapampclpaaDoorW.PrintWords Go.Proofs.YtcnpdapampclpaaDoorW.PrintLast Go.Proofs.YtcnpdapampclpaaDoorW.PrintMore Go.Proofs.YtcnpdapampclpaaDoor.PPl Go.Proofs.YtcnpdapampclpaaDoor.PPm Go.Proofs.YtcnpdapampclpaaDoor.PTp Go.Proofs.YtcnpdapampclpaaDoor.PRa
set_option linter.unusedVariables false
set_option linter.unusedSimpArgs false
/-- A trail that lies above what a call found, with so many marks. -/
def LongAt (w : World) (p : Nat) (i : Nat) (wr : World) : Prop := ∃ vs M, M.length = i ∧ Lv M ∧ TrailR w.heap.size p M.length vs (levL M) wr ∧ Below w.heap.size w wr
theorem Lv.dig1 (t : List Int) : Lv [dig t] := fun x hx => by rw [List.mem_singleton] at hx; subst hx; exact ⟨dig_length _, dig_bytes _⟩
theorem LongAt.mk {w wr : World} {p : Nat} {vs : List Value} {M : List (List Int)} (hv : Lv M) (hT : TrailR w.heap.size p M.length vs (levL M) wr) (hB : Below w.heap.size w wr) : LongAt w p M.length wr := ⟨vs, M, rfl, hv, hT, hB⟩
theorem LongAt.one {w wr : World} {p : Nat} {vs : List Value} {t : List Int} (hT : TrailR w.heap.size p ([dig t] : List (List Int)).length vs (levL [dig t]) wr) (hB : Below w.heap.size w wr) : LongAt w p 1 wr := LongAt.mk (Lv.dig1 t) hT hB
theorem LongAt.lt {w wr : World} {p i : Nat} (h : LongAt w p i wr) (hg : Glb w) (hi : i ≤ 4096) : ∃ M, M.length = i ∧ LT p M wr := by
  obtain ⟨vs, M, rfl, hv, hT, hB⟩ := h
  exact ⟨M, rfl, hg.of hB, ⟨w.heap.size, vs, by have := hg.g0; have := hg.g1; omega, hT⟩, hv, hi⟩
theorem LongAt.step {w wr : World} {p i : Nat} {A : Option Addr} {c : Nat} {b : List Int} (h : LongAt w p i wr) (hg : Glb w) (hi : i < 4096) (hC : Kd.C (Kd.int .u8) wr A b.length b) (hc : b.length ≤ c) (hbb : ∀ x ∈ b, 0 ≤ x ∧ x < 256) (hl : b.length ≤ 8192) :
    Calls Tryd.prog 25 #[.pointer (some ⟨p, 0, none⟩), .slice A b.length c] wr fun e w' => e = .returned (.int .i64 0) ∧ LongAt w p (i + 1) w' := by
  obtain ⟨vs, M, rfl, hv, hT, hB⟩ := h
  refine (add_ok w.heap.size p vs M A c b wr (hg.of hB) hT hv hi hC hc hbb hl (by have := hg.g0; have := hg.g1; omega)).mono ?_
  rintro e w' ⟨rfl, vs2, hT2, hF, hO⟩
  exact ⟨rfl, vs2, M ++ [dig (16 :: b)], by simp, fun x hx => (List.mem_append.1 hx).elim (hv x) (fun h => by rw [List.mem_singleton] at h; subst h; exact ⟨dig_length _, dig_bytes _⟩), hT2, Fr.below hB hB.size (fun k hk => hT.ownT_base hk) hF⟩
theorem LongAt.below {w wr w1 : World} {p i : Nat} (h : LongAt w p i wr) (hb : Below wr.heap.size wr w1) : LongAt w p i w1 := by
  obtain ⟨vs, M, rfl, hv, hT, hB⟩ := h
  exact ⟨vs, M, rfl, hv, hT.below hb, below_step hB hb⟩
theorem LongAt.add1 {w wr : World} {p i : Nat} {a : Int} (h : LongAt w p i wr) (hg : Glb w) (hi : i < 4096) (ha : 0 ≤ a ∧ a < 256) :
    Calls Tryd.prog 25 #[.pointer (some ⟨p, 0, none⟩), .slice (some ⟨wr.heap.size, 0, none⟩) 1 1] (wr.alloc (.cells #[.int .u8 a] 5)) fun e w' => e = .returned (.int .i64 0) ∧ LongAt w p (i + 1) w' :=
  (h.below (below_alloc (Below.refl _ _) _)).step hg hi (b := [a]) (one_C wr a 5) (Nat.le_refl 1) (fun x hx => by rw [List.mem_singleton] at hx; subst hx; exact ha) (by simp)
theorem LongAt.full {w wr : World} {p i : Nat} {v : Value} {b : List Int} (h : LongAt w p i wr) (hg : Glb w) (hi : 4096 ≤ i) (VB : IsB wr v b) (hb : ∀ x ∈ b, 0 ≤ x ∧ x < 256) (hl : b.length ≤ 8192) :
    Calls Tryd.prog 25 #[.pointer (some ⟨p, 0, none⟩), v] wr fun e w' => e = .returned (.int .i64 2) ∧ Below wr.heap.size wr w' := by
  obtain ⟨vs, M, rfl, hv, hT, hB⟩ := h
  exact add_full w.heap.size p M.length vs (levL M) v b wr (hg.of hB) hT hi VB hb hl
theorem LongAt.fullnil {w wr : World} {p : Nat} (h : LongAt w p 4096 wr) (hg : Glb w) :
    Calls Tryd.prog 25 #[.pointer (some ⟨p, 0, none⟩), .slice none 0 0] wr fun e w' => e = .returned (.int .i64 2) ∧ Below wr.heap.size wr w' :=
  h.full hg (Nat.le_refl _) IsB.nil (fun x hx => by cases hx) (by decide)
set_option maxRecDepth 100000 in
set_option maxHeartbeats 8000000 in
theorem TrailLong_walk (a0 : Int) (w : World) (HG : Glb w) (w0 : (Lit.int .u8 a0).wf = true) :
    Calls Tryd.prog 4 #[.int .u8 a0] w fun e w' => e = .returned (.bool true) ∧ Below w.heap.size w w' := by
  have ha := byte_of w0
  have H0 := Aside0.mk (And.intro HG ha)
  obtain ⟨z, hz⟩ : ∃ z : List Int, List.replicate (8193 : Int).toNat (0 : Int) = z := ⟨_, rfl⟩
  have hzl : z.length = 8193 := by rw [← hz, List.length_replicate]; rfl
  have hzb : ∀ x ∈ z, 0 ≤ x ∧ x < 256 := fun x hx => by
    rw [← hz] at hx
    obtain rfl := List.eq_of_mem_replicate hx
    decide
  have hzt : (z.take 8192).length = 8192 := by rw [List.length_take, hzl]; rfl
  have HZ := Aside0.mk (And.intro hz (And.intro hzl (And.intro hzb hzt)))
  clear HG w0 ha hz hzl hzb hzt
  go_enter Tryd.func4, Tryd.ntmps4
  go_upto_region 6 with (first
    | (go_at_call 24; with_reducible refine (new_c w).mono ?_; rintro e w1 ⟨rfl, hT1, hB1⟩; have T1 := Aside0.mk (And.intro (hT1.congrL (L' := levL []) (fun k _ => (levL_nil k).symm)) hB1); clear hT1 hB1)
    | ((with_reducible refine gate_dst (N := 10) rfl ?_); go_loud (refine Kd.R_make (Kd.int .u8) (w0 := w1) w1.heap.size 5 rfl rfl 23 _ _ rfl 8193 rfl rfl Tryd.underlying23 (.int .u8 0) 1 info_byte rfl (by decide) (by decide) (0 : Int) (ok := fun k => w1.heap.size ≤ k) (okp := fun _ => False) rfl (fun _ h => h.elim) (Nat.le_refl _) (by decide) (by decide) (Below.refl _ _) (Nat.le_refl _) ?_; intro v2 w2 ho2 hb2 hg2 hn2; rw [HZ.out.1] at ho2; obtain ⟨A2, c2, rfl, hc2, -⟩ := Kd.R_reads ho2; rw [HZ.out.2.1] at ho2 hc2 ⊢; have P2 := Aside0.mk (And.intro ho2 (And.intro hb2 hc2)); have hcut := Go.Proofs.YtcnpdapampclpaaDoorW.PrintWords.cut_to (P := Tryd.prog) 23 5 .i64 Tryd.underlying23 (info_parts info_byte).choose_spec.1 A2 8193 c2 8192 (by decide) (by decide) hc2; rw [show (8192 : Int).toNat = 8192 from rfl] at hcut; clear ho2 hb2 hg2 hn2 hc2))
    | (go_at_call 25; (have VB := IsB.of_R P2.out.1; with_reducible refine (add_long _ _ z _ (H0.out.1.of (below_step T1.out.2 P2.out.2.1)) VB (by rw [HZ.out.2.1]; decide)).mono ?_; rintro e w3 ⟨rfl, hB3⟩; clear VB; have P3 := Aside0.mk hB3; clear hB3))
    | (go_at_call 25; go_loud (have hB13 := below_step P2.out.2.1 P3.out; have hT3 := T1.out.1.below hB13; have hR3 := Kd.R_below P2.out.1 P3.out; have hC3 := Kd.C_take (m := 8192) (Kd.R_reads' hR3).2.2 (by rw [HZ.out.2.1]; decide); have hc_ := add_ok w.heap.size w.heap.size vs0 [] A2 c2 (z.take 8192) _ (H0.out.1.of (below_step T1.out.2 hB13)) hT3 Lv.nil (by decide) hC3 (by rw [HZ.out.2.2.2]; have := P2.out.2.2; omega) (fun x hx => HZ.out.2.2.1 x (List.mem_of_mem_take hx)) (by rw [HZ.out.2.2.2]; exact Nat.le_refl _) (by have := H0.out.1.g0; have := H0.out.1.g1; omega); rw [HZ.out.2.2.2, List.nil_append] at hc_; with_reducible refine hc_.mono ?_; rintro e w4 ⟨rfl, vs1, hT4, hF4, hO4⟩; have VB := Aside0.mk (IsB.of_R (R_fr hR3 hF4 (fun k hk _ ho => by have := T1.out.1.ownT_lt ho; omega))); have LA := Aside0.mk (LongAt.one hT4 (Fr.below (below_step T1.out.2 hB13) (below_step T1.out.2 hB13).size (fun k hk => hT3.ownT_base hk) hF4)); clear hB13 hT3 hR3 hC3 hc_ hT4 hF4 hO4))
    | (go_at_call 26; go_loud (have hg_ := (LA.out.lt H0.out.1 (by decide)).choose_spec.2.glb; with_reducible refine (mark_v hg_ VB.out (mark_long (by rw [HZ.out.2.1]; decide))).mono ?_; rintro e w5 ⟨v5, rfl, hR5, hB5⟩; have LB := Aside0.mk (LA.out.below hB5); clear LA VB hR5 hB5 hg_)))
  clear hcut
  go_loopg [] 4096 (fun m wr => ∃ (i : Nat), m + i = 4097 ∧ i ≤ 4096 ∧ Aside0 (LongAt w w.heap.size i wr))
  case atStart => exact ⟨1, by omega, by omega, LB⟩
  case round =>
    obtain ⟨i, hmi, hi6, LA⟩ := hrel
    by_cases hi : i < 4096
    · have hiI : ((i : Int) < 4096) = True := eq_true (by omega)
      go_wp2_with (first
        | (go_at_call 16; obtain ⟨M, hM, hT⟩ := LA.out.lt H0.out.1 (by omega); have hc_ := hT.size; rw [hM] at hc_; with_reducible refine hc_.mono ?_; rintro e w2 ⟨rfl, hB2⟩; clear hT hM hc_; have LB := Aside0.mk (LA.out.below hB2); clear hB2)
        | (go_at_call 25; have hc_ := LB.out.add1 H0.out.1 hi H0.out.2; with_reducible refine hc_.mono ?_; rintro e w3 ⟨rfl, hL⟩; have LC := Aside0.mk hL; clear hL hc_))
      go_roundg (gk - 1)
      all_goals first
        | omega
        | exact ⟨i + 1, by omega, by omega, LC⟩
    · have hiI : ((i : Int) < 4096) = False := eq_false (by omega)
      obtain rfl : i = 4096 := by omega
      go_wp2_with (first
        | (go_at_call 16; obtain ⟨M, hM, hT⟩ := LA.out.lt H0.out.1 (by omega); have hc_ := hT.size; rw [hM] at hc_; with_reducible refine hc_.mono ?_; rintro e w2 ⟨rfl, hB2⟩; clear hT hM hc_; have n_ := Aside0.mk (LA.out.below hB2); clear LA; have LA := n_; clear n_ hB2)
        | (go_at_call 19; obtain ⟨M, hM, hT⟩ := LA.out.lt H0.out.1 (by omega); have hc_ := hT.head 4096 (by omega); rw [show ((4096 : Nat) : Int) = 4096 from rfl] at hc_; with_reducible refine hc_.mono ?_; rintro e w2 ⟨v2, rfl, -, hB2⟩; clear hT hM hc_; have n_ := Aside0.mk (LA.out.below hB2); clear LA; have LA := n_; clear n_ hB2)
        | (go_at_call 25; with_reducible refine (LA.out.fullnil H0.out.1).mono ?_; rintro e w2 ⟨rfl, hB2⟩; have n_ := Aside0.mk (LA.out.below hB2); clear LA; have LA := n_; clear n_ hB2)
        | (go_at_call 14; obtain ⟨vs, M, hM, hv, hT, hB⟩ := LA.out; with_reducible refine (known_c _ (H0.out.1.of hB)).mono ?_; rintro e w2 ⟨rfl, hB2⟩; have HB := Aside0.mk (below_step hB hB2); clear hB hB2 hT hv))
      all_goals (go_ret; exact ⟨rfl, HB.out⟩)
end Go.Proofs.YtcnpdapampclpaaDoor.X
