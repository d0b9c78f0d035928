/- known. -/
import Derived.Test.YtcnpdapampclpaaDoorTa
import Derived.Test.YtcnpdapampclpaaDoorT7
import Derived.Test.YtcnpdapampclpaaDoorPRax1
import Derived.Lib.SlBytesConst
namespace Go.Proofs.YtcnpdapampclpaaDoor.X
open Go.RowKit Go.Proofs.YtcnpdapampclpaaDoor.H Go.Proofs.YtcnpdapampclpaaDoorW.PrintWords Go.Proofs.YtcnpdapampclpaaDoorW.PrintLast Go.Proofs.YtcnpdapampclpaaDoorW.PrintMore Go.Proofs.YtcnpdapampclpaaDoor.PPl Go.Proofs.YtcnpdapampclpaaDoor.PPm Go.Proofs.YtcnpdapampclpaaDoor.PPn Go.Proofs.YtcnpdapampclpaaDoor.PTp Go.Proofs.YtcnpdapampclpaaDoor.PRa
set_option linter.unusedVariables false
set_option linter.unusedSimpArgs false
theorem mark_C (w : World) (a : Int) (e : Nat) (m : Nat × Nat) : Kd.C (Kd.int .u8) (w.alloc (.cells #[.int .u8 a] e m)) (some ⟨w.heap.size, 0, none⟩) 1 [a] := by
  refine ⟨rfl, by decide, fun _ => ⟨_, rfl, fun j x hj => ?_⟩⟩
  have hj0 : j = 0 := by have := (List.getElem?_eq_some_iff.1 hj).1; simpa using this
  subst hj0
  obtain rfl : a = x := by simpa using hj
  refine ⟨[.int .u8 a], rfl, rfl, fun i u hu => ?_⟩
  have hi0 : i = 0 := by have := (List.getElem?_eq_some_iff.1 hu).1; simpa using this
  subst hi0
  obtain rfl : Value.int .u8 a = u := by simpa using hu
  exact (World.cell?_alloc_mark _ _ _ _ 0).trans rfl
theorem headof0 : trail_HeadOf.f 10 0 [] = some (headL 0 [], 0) := by
  have h := head_eq 9 0 [] (Nat.le_refl _) (by simp) (by simp)
  simp [trail_HeadOf.f, trail_HeadOf.j0, h]
theorem mark_eq {b : List Int} (hb : ∀ x ∈ b, 0 ≤ x ∧ x < 256) (hl : b.length ≤ 8192) : trail_Mark.f b = some (dig (16 :: b), 0) := by
  unfold trail_Mark.f
  rw [if_neg (by omega), digest1 (by decide) hb (by omega)]
  rfl
/-- Two rows of bytes compared. -/
theorem same_c {w : World} {va vb : Value} {a b : List Int} (ha : IsB w va a) (hb : IsB w vb b) (xa : ∀ x ∈ a, 0 ≤ x ∧ x < 256) (xb : ∀ x ∈ b, 0 ≤ x ∧ x < 256) :
    Calls Tryd.prog 21 #[va, vb] w fun e w' => e = .returned (.bool (decide (a = b))) ∧ Below w.heap.size w w' := by
  obtain ⟨A, c, rfl, h1, h2⟩ := ha
  obtain ⟨A', c', rfl, h3, h4⟩ := hb
  refine (imprimaturref01_SameBytes.calls A c a A' c' b (decide (a = b)) w h2 h1 h4 h3 (by unfold imprimaturref01_SameBytes.f; rw [strs_beq xa xb])).mono ?_
  rintro e w' ⟨rfl, hd⟩
  exact ⟨rfl, hd.below⟩
theorem same_yes {w : World} {va vb : Value} {a : List Int} (ha : IsB w va a) (hb : IsB w vb a) (xa : ∀ x ∈ a, 0 ≤ x ∧ x < 256) :
    Calls Tryd.prog 21 #[va, vb] w fun e w' => e = .returned (.bool true) ∧ Below w.heap.size w w' := by
  have h := same_c ha hb xa xa
  rwa [decide_eq_true rfl] at h
set_option maxRecDepth 100000 in
set_option maxHeartbeats 8000000 in
theorem known_c (w : World) (HG : Glb w) : Calls Tryd.prog 14 #[] w fun e w' => e = .returned (.bool true) ∧ Below w.heap.size w w' := by
  obtain ⟨m0, hm0⟩ : ∃ m0, m0 = dig (16 :: [120]) := ⟨_, rfl⟩
  have hm32 : m0.length = 32 := by rw [hm0]; exact dig_length _
  have hmb : ∀ x ∈ m0, 0 ≤ x ∧ x < 256 := by rw [hm0]; exact dig_bytes _
  have hmark := mark_eq (b := [120]) (by decide) (by decide)
  rw [← hm0] at hmark
  have hv1 : Lv [m0] := fun x hx => by rw [List.mem_singleton] at hx; subst hx; exact ⟨hm32, hmb⟩
  have h0 : (hdL [] 0).length = 32 := headL_length _ _
  have h0' : headL 0 [] = hdL [] 0 := rfl
  have h0b : ∀ x ∈ hdL [] 0, 0 ≤ x ∧ x < 256 := headL_bytes _ _
  have ht1 : topL ([m0].take 1) = m0 := topL_one rfl
  have hw1 : walkL ([m0].take 1) 0 = [] := walkL_one (by simp) _
  have H0 := Aside0.mk (And.intro HG (And.intro hm0 (And.intro hm32 (And.intro hmb (And.intro hmark (And.intro hv1 (And.intro h0 (And.intro h0b (And.intro ht1 hw1)))))))))
  clear HG hm0 hm32 hmb hmark hv1 h0 h0' h0b ht1 hw1
  have kc := fun (w : World) (C : Array Value) (n c : Nat) => Lib.run_convert_bytes_const (P := Tryd.prog) w 23 5 C n c Tryd.underlying23 Tryd.underlying5
  go_enter Tryd.func14, Tryd.ntmps14
  go_wp2_with (first
    | (go_at_call 24; with_reducible refine (new_c w).mono ?_; rintro e w1 ⟨rfl, hT1, hB1⟩; have T1 := Aside0.mk (And.intro (hT1.congrL (L' := levL []) (fun k _ => (levL_nil k).symm)) hB1); clear hT1 hB1)
    | (go_at_call 19; have hc_ := head_c w.heap.size w.heap.size vs0 [] w1 (H0.out.1.of T1.out.2) T1.out.1 Lv.nil (by decide) (by have := H0.out.1.g0; have := H0.out.1.g1; omega) 0 (Nat.le_refl _); rw [show ((0 : Nat) : Int) = 0 from rfl] at hc_; (with_reducible refine hc_.mono ?_; rintro e w2 ⟨v2, rfl, hR2, hB2⟩; obtain ⟨A2, c2, rfl, -, -⟩ := Kd.R_reads hR2; rw [H0.out.2.2.2.2.2.2.1] at hR2 ⊢; have P2 := Aside0.mk (And.intro hR2 hB2); clear hR2 hB2 hc_))
    | (go_at_call 20; (have hc_ := trail_HeadOf.calls 10 0 none 0 [] (headL 0 []) 0 w2 (H0.out.1.of (below_step T1.out.2 P2.out.2)) (Kd.C_nil _ _) (Nat.le_refl _) headof0; rw [List.length_nil] at hc_; with_reducible refine hc_.mono ?_; rintro e w3 ⟨v3, rfl, hR3, hB3⟩; rw [show headL 0 [] = hdL [] 0 from rfl] at hR3; have P3 := Aside0.mk (And.intro hR3 hB3); clear hR3 hB3 hc_))
    | (go_at_call 25; (have hal := below_alloc (Below.refl w3.heap.size w3) (.cells #[.int .u8 120] 5 (1, 2)); have hB3' := below_step (below_step (below_step T1.out.2 P2.out.2) P3.out.2) hal; have hb13 := (below_step (below_step P2.out.2 P3.out.2) hal); have hT3 := T1.out.1.below hb13; have hc_ := add_ok w.heap.size w.heap.size vs0 [] (some ⟨w3.heap.size, 0, none⟩) 1 [120] _ (H0.out.1.of hB3') hT3 Lv.nil (by decide) (mark_C w3 120 _ _) (by decide) (by decide) (by decide) (by have := H0.out.1.g0; have := H0.out.1.g1; omega); rw [show ([120] : List Int).length = 1 from rfl, List.nil_append, ← H0.out.2.1] at hc_; with_reducible refine hc_.mono ?_; rintro e w4 ⟨rfl, vs1, hT4, hF4, hO4⟩; have hown : ∀ k, w1.heap.size ≤ k → ¬ ownT w.heap.size vs0 k := (fun k hk ho => by have := T1.out.1.ownT_lt ho; omega); have hR24 := R_fr (Kd.R_below P2.out.1 (below_step P3.out.2 hal)) hF4 (fun k hk _ => hown k hk); have hR34 := R_fr (Kd.R_below P3.out.1 hal) hF4 (fun k hk _ => hown k (Nat.le_trans P2.out.2.size hk)); have P4 := Aside0.mk (And.intro hT4 (And.intro (IsB.of_R hR24) (And.intro (IsB.of_R hR34) (Fr.below hB3' hB3'.size (fun k hk => hT3.ownT_base hk) hF4)))); clear hT4 hF4 hO4 hc_ hb13 hB3' hal hT3 hown hR24 hR34))
    | (go_at_call 26; (have hal := below_alloc (Below.refl w4.heap.size w4) (.cells #[.int .u8 120] 5 (1, 2)); have hC5 := mark_C w4 120 5 (1, 2); have hc_ := trail_Mark.calls (fun k => k < w4.heap.size + 1) (some ⟨w4.heap.size, 0, none⟩) 1 [120] m0 0 _ (H0.out.1.of (below_step P4.out.2.2.2 hal)) ⟨some ⟨w4.heap.size, 0, none⟩, 1, rfl, Nat.le_refl _, by have h_ := Kd.C_F (Kd.heap_int _) hC5; simpa using h_⟩ H0.out.2.2.2.2.1; rw [show ([120] : List Int).length = 1 from rfl] at hc_; with_reducible refine hc_.mono ?_; rintro e w5 ⟨v5, rfl, hR5, hB5⟩; have hb45 := below_step hal hB5; have P5 := Aside0.mk (And.intro (P4.out.1.below hb45) (And.intro (P4.out.2.1.below hb45) (And.intro (P4.out.2.2.1.below hb45) (And.intro (IsB.of_R hR5) (below_step P4.out.2.2.2 hb45))))); clear hR5 hB5 hc_ hb45 hal hC5))
    | (go_at_call 18; (have hc_ := top_c w.heap.size w.heap.size vs1 [m0] w5 (H0.out.1.of P5.out.2.2.2.2) P5.out.1 H0.out.2.2.2.2.2.1 (by simp) (by have := H0.out.1.g0; have := H0.out.1.g1; omega) 1 (by simp) (by simp); rw [show ((1 : Nat) : Int) = 1 from rfl, H0.out.2.2.2.2.2.2.2.2.1] at hc_; with_reducible refine hc_.mono ?_; rintro e w6 ⟨v6, rfl, hR6, hB6⟩; have P6 := Aside0.mk (And.intro (P5.out.1.below hB6) (And.intro (P5.out.2.1.below hB6) (And.intro (P5.out.2.2.1.below hB6) (And.intro (P5.out.2.2.2.1.below hB6) (And.intro (IsB.of_R hR6) (below_step P5.out.2.2.2.2 hB6)))))); clear hR6 hB6 hc_))
    | (go_at_call 27; (have hc_ := way_c w.heap.size w.heap.size vs1 [m0] w6 (H0.out.1.of P6.out.2.2.2.2.2) P6.out.1 H0.out.2.2.2.2.2.1 (by simp) (by have := H0.out.1.g0; have := H0.out.1.g1; omega) 1 0 (by simp) (by simp); rw [show ((1 : Nat) : Int) = 1 from rfl, show ((0 : Nat) : Int) = 0 from rfl, H0.out.2.2.2.2.2.2.2.2.2] at hc_; with_reducible refine hc_.mono ?_; rintro e w7 ⟨v7, rfl, hN7, hB7⟩; obtain ⟨A7, c7, rfl⟩ := Kd.N_slice hN7; rw [List.length_nil]; have P7 := Aside0.mk (And.intro (P6.out.1.below hB7) (And.intro (P6.out.2.1.below hB7) (And.intro (P6.out.2.2.1.below hB7) (And.intro (P6.out.2.2.2.1.below hB7) (And.intro (P6.out.2.2.2.2.1.below hB7) (below_step P6.out.2.2.2.2.2 hB7)))))); clear hN7 hB7 hc_))
    | (go_at_call 21; (with_reducible refine (same_yes P7.out.2.1 P7.out.2.2.1 H0.out.2.2.2.2.2.2.2.1).mono ?_; rintro e w8 ⟨rfl, hB8⟩))
    | (go_at_call 21; (with_reducible refine (same_yes (P7.out.2.2.2.1.below hB8) (P7.out.2.2.2.2.1.below hB8) H0.out.2.2.2.1).mono ?_; rintro e w9 ⟨rfl, hB9⟩))
    | (go_at_call 16; (have hc_ := size_c w9 ((P7.out.1.below hB8).below hB9); with_reducible refine hc_.mono ?_; rintro e w10 ⟨rfl, hB10⟩; clear hc_)))
  go_ret
  exact ⟨rfl, below_step (below_step (below_step P7.out.2.2.2.2.2 hB8) hB9) hB10⟩
end Go.Proofs.YtcnpdapampclpaaDoor.X
