/- Several texts as one. -/
import Derived.Test.YtcnpdapampclpaaDoorPRax1
import Derived.Test.YtcnpdapampclpaaDoorJ2
import Derived.Test.YtcnpdapampclpaaDoorJ3
import Derived.Lib.SlBytesConst
set_option linter.unusedVariables false
namespace Go.Proofs.YtcnpdapampclpaaDoor.PRa
open Go.RowKit Go.Proofs.YtcnpdapampclpaaDoorW.PrintWords Go.Proofs.YtcnpdapampclpaaDoorW.PrintLast Go.Proofs.YtcnpdapampclpaaDoorW.PrintMore Go.Proofs.YtcnpdapampclpaaDoor.X Go.Proofs.YtcnpdapampclpaaDoor.H Go.Proofs.YtcnpdapampclpaaDoor.PPl Go.Proofs.YtcnpdapampclpaaDoor.PPm Go.Proofs.YtcnpdapampclpaaDoor.PPn
/-- How many bytes texts have, as far as most. -/
theorem size_l (l : List (List Int)) (m : Nat) (hm : m ≤ 10000) (hb : ∀ x ∈ l, x.length ≤ 140737488355328) : ∀ (d k i : Nat) (n : Int), i + d = l.length → 0 ≤ n → n ≤ m + 140737488355329 → i ≤ n →
    ∃ r, imprimaturref06_Size.l0 (k + d + 1) l m n i = some r ∧ (r ≤ m → n + (((l.drop i).map (fun x => x.length + 1)).sum : Nat) ≤ m ∧ r = n + (((l.drop i).map (fun x => x.length + 1)).sum : Nat)) := by
  intro d
  induction d with
  | zero =>
    intro k i n hi h0 h1 h2
    rw [imprimaturref06_Size.l0, if_neg (by omega)]
    exact ⟨n, rfl, fun h => by rw [List.drop_of_length_le (by omega)]; simpa using h⟩
  | succ d ih =>
    intro k i n hi h0 h1 h2
    rw [show k + (d + 1) + 1 = (k + d + 1) + 1 by omega, imprimaturref06_Size.l0, if_pos (by omega)]
    by_cases h : n ≤ m
    · have hx := hb (l.getD i []) (by rw [List.getD_eq_getElem?_getD, List.getElem?_eq_getElem (by omega)]; exact List.getElem_mem _)
      rw [if_pos h, if_pos (by omega), show rd_L1 l (i : Int) = l.getD i [] by unfold rd_L1; rw [Int.toNat_natCast], w64 (x := n + 1) (by omega) (by omega), w64 (x := n + 1 + ((l.getD i []).length : Int)) (by omega) (by omega), w64 (x := (i : Int) + 1) (by omega) (by omega), show (i : Int) + 1 = ((i + 1 : Nat) : Int) by omega]
      obtain ⟨r, hr, hs⟩ := ih k (i + 1) (n + 1 + ((l.getD i []).length : Int)) (by omega) (by omega) (by omega) (by omega)
      refine ⟨r, hr, fun hrm => ?_⟩
      have := hs hrm
      rw [List.drop_eq_getElem_cons (show i < l.length by omega), List.map_cons, List.sum_cons]
      have e : l[i] = l.getD i [] := by rw [List.getD_eq_getElem?_getD, List.getElem?_eq_getElem (by omega)]; rfl
      rw [e]
      omega
    · rw [if_neg h]
      exact ⟨n, rfl, fun h' => absurd h' h⟩
theorem sum_ge (l : List (List Int)) : l.length ≤ (l.map (fun x => x.length + 1)).sum := by
  induction l with
  | nil => simp
  | cons x l ih => simp only [List.map_cons, List.sum_cons, List.length_cons]; omega
theorem size_eq (l : List (List Int)) (m : Nat) (hm : m ≤ 10000) (hb : ∀ x ∈ l, x.length ≤ 140737488355328) (hl : l.length ≤ 5864062014805) (k : Nat) (hk : l.length < k) :
    ∃ r, imprimaturref06_Size.f k l m = some r ∧ (r ≤ m → l.length ≤ m ∧ (l.map (fun x => x.length + 1)).sum ≤ m) := by
  unfold imprimaturref06_Size.f
  obtain ⟨r, hr, hs⟩ := size_l l m hm hb l.length (k - l.length - 1) 0 0 (by omega) (by omega) (by omega) (by omega)
  rw [show k - l.length - 1 + l.length + 1 = k by omega] at hr
  refine ⟨r, hr, fun h => ?_⟩
  have := hs h
  have h2 := sum_ge l
  rw [List.drop_zero] at this
  omega
theorem same_dl (a b : List (List Int)) (ha : ∀ x ∈ a, BytesB x) (hb : ∀ x ∈ b, BytesB x) (hl : a.length = b.length) (hal : a.length ≤ 100000) : ∀ (d k i : Nat), i + d = a.length → imprimaturref06_Same.l0 (k + d + 1) a b i = some (decide (a.drop i = b.drop i)) := by
  intro d
  induction d with
  | zero =>
    intro k i hi
    rw [imprimaturref06_Same.l0, if_neg (by omega), List.drop_of_length_le (by omega), List.drop_of_length_le (by omega), decide_eq_true rfl]
  | succ d ih =>
    intro k i hi
    rw [show k + (d + 1) + 1 = (k + d + 1) + 1 by omega, imprimaturref06_Same.l0, if_pos (by omega), if_pos (by omega), if_pos (by omega), show rd_L1 a (i : Int) = a.getD i [] by unfold rd_L1; rw [Int.toNat_natCast], show rd_L1 b (i : Int) = b.getD i [] by unfold rd_L1; rw [Int.toNat_natCast]]
    have ea : a.drop i = a.getD i [] :: a.drop (i + 1) := by
      rw [List.drop_eq_getElem_cons (show i < a.length by omega), List.getD_eq_getElem?_getD, List.getElem?_eq_getElem (by omega)]; rfl
    have eb : b.drop i = b.getD i [] :: b.drop (i + 1) := by
      rw [List.drop_eq_getElem_cons (show i < b.length by omega), List.getD_eq_getElem?_getD, List.getElem?_eq_getElem (by omega)]; rfl
    rw [ea, eb]
    by_cases h : a.getD i [] = b.getD i []
    · rw [if_pos ((strs_eq (ha _ (getD_mem' (by omega))) (hb _ (getD_mem' (by omega)))).2 h), w64 (by omega) (by omega), show (i : Int) + 1 = ((i + 1 : Nat) : Int) by omega, ih k (i + 1) (by omega), h]
      congr 1
      rw [decide_eq_decide, List.cons.injEq]
      simp
    · rw [if_neg (fun e => h ((strs_eq (ha _ (getD_mem' (by omega))) (hb _ (getD_mem' (by omega)))).1 e)), decide_eq_false (fun e => h (List.cons.inj e).1)]
theorem same_dec (a b : List (List Int)) (ha : ∀ x ∈ a, BytesB x) (hb : ∀ x ∈ b, BytesB x) (hal : a.length ≤ 100000) (k : Nat) (hk : a.length < k) : imprimaturref06_Same.f k a b = some (decide (a = b)) := by
  unfold imprimaturref06_Same.f
  by_cases h : a.length = b.length
  · rw [if_pos (by omega)]
    have := same_dl a b ha hb h hal a.length (k - a.length - 1) 0 (by omega)
    rw [show k - a.length - 1 + a.length + 1 = k by omega] at this
    exact this
  · rw [if_neg (by omega), decide_eq_false (fun e => h (by rw [e]))]
theorem byte_of {x : Int} (h : (Lit.int .u8 x).wf = true) : 0 ≤ x ∧ x < 256 := by
  simp [Lit.wf, IntKind.min, IntKind.max, IntKind.bits, IntKind.signed] at h
  omega
def am (a n : Int) : Int := (imprimaturref01_Among.f a n).getD 0
theorem am_zero (a : Int) (n : Int) (h : n < 1) : imprimaturref01_Among.f a n = some 0 := by unfold imprimaturref01_Among.f; rw [if_pos h]
theorem am_eq (a : Int) (n : Nat) (h : 1 ≤ n) (h' : n ≤ 10000) : imprimaturref01_Among.f a n = some (am a n) ∧ 0 ≤ am a n ∧ am a n < n := by
  have hlt : Int.tmod a n < n := Int.tmod_lt_of_pos a (by omega)
  have hgt : -(n : Int) < Int.tmod a n := Int.lt_tmod_of_pos a (by omega)
  have he : imprimaturref01_Among.f a n = some (if Int.tmod a n < 0 then Int.tmod a n + n else Int.tmod a n) := by
    unfold imprimaturref01_Among.f
    rw [if_neg (by omega), if_neg (by omega)]
    split
    · rw [w64 (by omega) (by omega)]
    · rfl
  unfold am
  rw [he]
  refine ⟨rfl, ?_⟩
  simp only [Option.getD_some]
  split <;> omega
theorem row_bytes {l : List (List Int)} (g : ∀ x ∈ l, (∀ y ∈ x, (Lit.int .u8 y).wf = true) ∧ x.length * 1 ≤ 140737488351232) : ∀ x ∈ l, ∀ y ∈ x, 0 ≤ y ∧ y < 256 := fun x hx y hy => byte_of ((g x hx).1 y hy)
theorem row_len {l : List (List Int)} (g : ∀ x ∈ l, (∀ y ∈ x, (Lit.int .u8 y).wf = true) ∧ x.length * 1 ≤ 140737488351232) : ∀ x ∈ l, x.length ≤ 140737488355328 := fun x hx => by have := (g x hx).2; omega
end Go.Proofs.YtcnpdapampclpaaDoor.PRa
namespace Go.Proofs.YtcnpdapampclpaaDoor.X
open Go.RowKit Go.Proofs.YtcnpdapampclpaaDoor.H Go.Proofs.YtcnpdapampclpaaDoorW.PrintWords Go.Proofs.YtcnpdapampclpaaDoorW.PrintLast Go.Proofs.YtcnpdapampclpaaDoorW.PrintMore Go.Proofs.YtcnpdapampclpaaDoor.PPl Go.Proofs.YtcnpdapampclpaaDoor.PPm Go.Proofs.YtcnpdapampclpaaDoor.PPn Go.Proofs.YtcnpdapampclpaaDoor.PTp Go.Proofs.YtcnpdapampclpaaDoor.PRa
set_option linter.unusedVariables false
set_option linter.unusedSimpArgs false
theorem mark_C (w : World) (a : Int) (e : Nat) (m : Nat × Nat) : Kd.C (Kd.int .u8) (w.alloc (.cells #[.int .u8 a] e m)) (some ⟨w.heap.size, 0, none⟩) 1 [a] := by
  refine ⟨rfl, by decide, fun _ => ⟨_, rfl, fun j x hj => ?_⟩⟩
  have hj0 : j = 0 := by have := (List.getElem?_eq_some_iff.1 hj).1; simpa using this
  subst hj0
  obtain rfl : a = x := by simpa using hj
  refine ⟨[.int .u8 a], rfl, rfl, fun i u hu => ?_⟩
  have hi0 : i = 0 := by have := (List.getElem?_eq_some_iff.1 hu).1; simpa using this
  subst hi0
  obtain rfl : Value.int .u8 a = u := by simpa using hu
  exact (World.cell?_alloc_mark _ _ _ _ 0).trans rfl
theorem headof0 : trail_HeadOf.f 10 0 [] = some (headL 0 [], 0) := by
  have h := head_eq 9 0 [] (Nat.le_refl _) (by simp) (by simp)
  simp [trail_HeadOf.f, trail_HeadOf.j0, h]
theorem mark_eq {b : List Int} (hb : ∀ x ∈ b, 0 ≤ x ∧ x < 256) (hl : b.length ≤ 8192) : trail_Mark.f b = some (dig (16 :: b), 0) := by
  unfold trail_Mark.f
  rw [if_neg (by omega), digest1 (by decide) hb (by omega)]
  rfl
/-- Two rows of bytes compared. -/
theorem same_c {w : World} {va vb : Value} {a b : List Int} (ha : IsB w va a) (hb : IsB w vb b) (xa : ∀ x ∈ a, 0 ≤ x ∧ x < 256) (xb : ∀ x ∈ b, 0 ≤ x ∧ x < 256) :
    Calls Tryd.prog 21 #[va, vb] w fun e w' => e = .returned (.bool (decide (a = b))) ∧ Below w.heap.size w w' := by
  obtain ⟨A, c, rfl, h1, h2⟩ := ha
  obtain ⟨A', c', rfl, h3, h4⟩ := hb
  refine (imprimaturref01_SameBytes.calls A c a A' c' b (decide (a = b)) w h2 h1 h4 h3 (by unfold imprimaturref01_SameBytes.f; rw [strs_beq xa xb])).mono ?_
  rintro e w' ⟨rfl, hd⟩
  exact ⟨rfl, hd.below⟩
theorem same_yes {w : World} {va vb : Value} {a : List Int} (ha : IsB w va a) (hb : IsB w vb a) (xa : ∀ x ∈ a, 0 ≤ x ∧ x < 256) :
    Calls Tryd.prog 21 #[va, vb] w fun e w' => e = .returned (.bool true) ∧ Below w.heap.size w w' := by
  have h := same_c ha hb xa xa
  rwa [decide_eq_true rfl] at h
set_option maxRecDepth 100000 in
set_option maxHeartbeats 8000000 in
theorem known_c (w : World) (HG : Glb w) : Calls Tryd.prog 14 #[] w fun e w' => e = .returned (.bool true) ∧ Below w.heap.size w w' := by
  obtain ⟨m0, hm0⟩ : ∃ m0, m0 = dig (16 :: [120]) := ⟨_, rfl⟩
  have hm32 : m0.length = 32 := by rw [hm0]; exact dig_length _
  have hmb : ∀ x ∈ m0, 0 ≤ x ∧ x < 256 := by rw [hm0]; exact dig_bytes _
  have hmark := mark_eq (b := [120]) (by decide) (by decide)
  rw [← hm0] at hmark
  have hv1 : Lv [m0] := fun x hx => by rw [List.mem_singleton] at hx; subst hx; exact ⟨hm32, hmb⟩
  have h0 : (hdL [] 0).length = 32 := headL_length _ _
  have h0' : headL 0 [] = hdL [] 0 := rfl
  have h0b : ∀ x ∈ hdL [] 0, 0 ≤ x ∧ x < 256 := headL_bytes _ _
  have ht1 : topL ([m0].take 1) = m0 := topL_one rfl
  have hw1 : walkL ([m0].take 1) 0 = [] := walkL_one (by simp) _
  have H0 := Aside0.mk (And.intro HG (And.intro hm0 (And.intro hm32 (And.intro hmb (And.intro hmark (And.intro hv1 (And.intro h0 (And.intro h0b (And.intro ht1 hw1)))))))))
  clear HG hm0 hm32 hmb hmark hv1 h0 h0' h0b ht1 hw1
  have kc := fun (w : World) (C : Array Value) (n c : Nat) => Lib.run_convert_bytes_const (P := Tryd.prog) w 23 5 C n c Tryd.underlying23 Tryd.underlying5
  go_enter Tryd.func14, Tryd.ntmps14
  go_wp2_with (first
    | (go_at_call 24; with_reducible refine (new_c w).mono ?_; rintro e w1 ⟨rfl, hT1, hB1⟩; have T1 := Aside0.mk (And.intro (hT1.congrL (L' := levL []) (fun k _ => (levL_nil k).symm)) hB1); clear hT1 hB1)
    | (go_at_call 19; have hc_ := head_c w.heap.size w.heap.size vs0 [] w1 (H0.out.1.of T1.out.2) T1.out.1 Lv.nil (by decide) (by have := H0.out.1.g0; have := H0.out.1.g1; omega) 0 (Nat.le_refl _); rw [show ((0 : Nat) : Int) = 0 from rfl] at hc_; (with_reducible refine hc_.mono ?_; rintro e w2 ⟨v2, rfl, hR2, hB2⟩; obtain ⟨A2, c2, rfl, -, -⟩ := Kd.R_reads hR2; rw [H0.out.2.2.2.2.2.2.1] at hR2 ⊢; have P2 := Aside0.mk (And.intro hR2 hB2); clear hR2 hB2 hc_))
    | (go_at_call 20; (have hc_ := trail_HeadOf.calls 10 0 none 0 [] (headL 0 []) 0 w2 (H0.out.1.of (below_step T1.out.2 P2.out.2)) (Kd.C_nil _ _) (Nat.le_refl _) headof0; rw [List.length_nil] at hc_; with_reducible refine hc_.mono ?_; rintro e w3 ⟨v3, rfl, hR3, hB3⟩; rw [show headL 0 [] = hdL [] 0 from rfl] at hR3; have P3 := Aside0.mk (And.intro hR3 hB3); clear hR3 hB3 hc_))
    | (go_at_call 25; (have hal := below_alloc (Below.refl w3.heap.size w3) (.cells #[.int .u8 120] 5 (1, 2)); have hB3' := below_step (below_step (below_step T1.out.2 P2.out.2) P3.out.2) hal; have hb13 := (below_step (below_step P2.out.2 P3.out.2) hal); have hT3 := T1.out.1.below hb13; have hc_ := add_ok w.heap.size w.heap.size vs0 [] (some ⟨w3.heap.size, 0, none⟩) 1 [120] _ (H0.out.1.of hB3') hT3 Lv.nil (by decide) (mark_C w3 120 _ _) (by decide) (by decide) (by decide) (by have := H0.out.1.g0; have := H0.out.1.g1; omega); rw [show ([120] : List Int).length = 1 from rfl, List.nil_append, ← H0.out.2.1] at hc_; with_reducible refine hc_.mono ?_; rintro e w4 ⟨rfl, vs1, hT4, hF4, hO4⟩; have hown : ∀ k, w1.heap.size ≤ k → ¬ ownT w.heap.size vs0 k := (fun k hk ho => by have := T1.out.1.ownT_lt ho; omega); have hR24 := R_fr (Kd.R_below P2.out.1 (below_step P3.out.2 hal)) hF4 (fun k hk _ => hown k hk); have hR34 := R_fr (Kd.R_below P3.out.1 hal) hF4 (fun k hk _ => hown k (Nat.le_trans P2.out.2.size hk)); have P4 := Aside0.mk (And.intro hT4 (And.intro (IsB.of_R hR24) (And.intro (IsB.of_R hR34) (Fr.below hB3' hB3'.size (fun k hk => hT3.ownT_base hk) hF4)))); clear hT4 hF4 hO4 hc_ hb13 hB3' hal hT3 hown hR24 hR34))
    | (go_at_call 26; (have hal := below_alloc (Below.refl w4.heap.size w4) (.cells #[.int .u8 120] 5 (1, 2)); have hC5 := mark_C w4 120 5 (1, 2); have hc_ := trail_Mark.calls (fun k => k < w4.heap.size + 1) (some ⟨w4.heap.size, 0, none⟩) 1 [120] m0 0 _ (H0.out.1.of (below_step P4.out.2.2.2 hal)) ⟨some ⟨w4.heap.size, 0, none⟩, 1, rfl, Nat.le_refl _, by have h_ := Kd.C_F (Kd.heap_int _) hC5; simpa using h_⟩ H0.out.2.2.2.2.1; rw [show ([120] : List Int).length = 1 from rfl] at hc_; with_reducible refine hc_.mono ?_; rintro e w5 ⟨v5, rfl, hR5, hB5⟩; have hb45 := below_step hal hB5; have P5 := Aside0.mk (And.intro (P4.out.1.below hb45) (And.intro (P4.out.2.1.below hb45) (And.intro (P4.out.2.2.1.below hb45) (And.intro (IsB.of_R hR5) (below_step P4.out.2.2.2 hb45))))); clear hR5 hB5 hc_ hb45 hal hC5))
    | (go_at_call 18; (have hc_ := top_c w.heap.size w.heap.size vs1 [m0] w5 (H0.out.1.of P5.out.2.2.2.2) P5.out.1 H0.out.2.2.2.2.2.1 (by simp) (by have := H0.out.1.g0; have := H0.out.1.g1; omega) 1 (by simp) (by simp); rw [show ((1 : Nat) : Int) = 1 from rfl, H0.out.2.2.2.2.2.2.2.2.1] at hc_; with_reducible refine hc_.mono ?_; rintro e w6 ⟨v6, rfl, hR6, hB6⟩; have P6 := Aside0.mk (And.intro (P5.out.1.below hB6) (And.intro (P5.out.2.1.below hB6) (And.intro (P5.out.2.2.1.below hB6) (And.intro (P5.out.2.2.2.1.below hB6) (And.intro (IsB.of_R hR6) (below_step P5.out.2.2.2.2 hB6)))))); clear hR6 hB6 hc_))
    | (go_at_call 27; (have hc_ := way_c w.heap.size w.heap.size vs1 [m0] w6 (H0.out.1.of P6.out.2.2.2.2.2) P6.out.1 H0.out.2.2.2.2.2.1 (by simp) (by have := H0.out.1.g0; have := H0.out.1.g1; omega) 1 0 (by simp) (by simp); rw [show ((1 : Nat) : Int) = 1 from rfl, show ((0 : Nat) : Int) = 0 from rfl, H0.out.2.2.2.2.2.2.2.2.2] at hc_; with_reducible refine hc_.mono ?_; rintro e w7 ⟨v7, rfl, hN7, hB7⟩; obtain ⟨A7, c7, rfl⟩ := Kd.N_slice hN7; rw [List.length_nil]; have P7 := Aside0.mk (And.intro (P6.out.1.below hB7) (And.intro (P6.out.2.1.below hB7) (And.intro (P6.out.2.2.1.below hB7) (And.intro (P6.out.2.2.2.1.below hB7) (And.intro (P6.out.2.2.2.2.1.below hB7) (below_step P6.out.2.2.2.2.2 hB7)))))); clear hN7 hB7 hc_))
    | (go_at_call 21; (with_reducible refine (same_yes P7.out.2.1 P7.out.2.2.1 H0.out.2.2.2.2.2.2.2.1).mono ?_; rintro e w8 ⟨rfl, hB8⟩))
    | (go_at_call 21; (with_reducible refine (same_yes (P7.out.2.2.2.1.below hB8) (P7.out.2.2.2.2.1.below hB8) H0.out.2.2.2.1).mono ?_; rintro e w9 ⟨rfl, hB9⟩))
    | (go_at_call 16; (have hc_ := size_c w9 ((P7.out.1.below hB8).below hB9); with_reducible refine hc_.mono ?_; rintro e w10 ⟨rfl, hB10⟩; clear hc_)))
  go_ret
  exact ⟨rfl, below_step (below_step (below_step P7.out.2.2.2.2.2 hB8) hB9) hB10⟩
end Go.Proofs.YtcnpdapampclpaaDoor.X
namespace Go.Proofs.YtcnpdapampclpaaDoor.X
open Go.RowKit Go.Proofs.YtcnpdapampclpaaDoor.H Go.Proofs.YtcnpdapampclpaaDoorW.PrintWords Go.Proofs.YtcnpdapampclpaaDoorW.PrintLast Go.Proofs.YtcnpdapampclpaaDoorW.PrintMore Go.Proofs.YtcnpdapampclpaaDoor.PPl Go.Proofs.YtcnpdapampclpaaDoor.PPm Go.Proofs.YtcnpdapampclpaaDoor.PPn Go.Proofs.YtcnpdapampclpaaDoor.PTp Go.Proofs.YtcnpdapampclpaaDoor.PRa
set_option linter.unusedVariables false
set_option linter.unusedSimpArgs false
section
variable {w w1 : World} {v : Value} {A : Option Addr} {n c : Nat}
theorem IsN.C {l : List (List Int)} (h : IsN w (.slice A n c) l) : n = l.length ∧ l.length ≤ c ∧ Kd.C dB w A l.length l := by
  obtain ⟨A', c', e, h1, h2⟩ := h
  injection e with e1 e2 e3
  subst e1 e2 e3
  exact ⟨rfl, h1, h2⟩
theorem IsB.C {l : List Int} (h : IsB w (.slice A n c) l) : n = l.length ∧ l.length ≤ c ∧ Kd.C (Kd.int .u8) w A l.length l := by
  obtain ⟨A', c', e, h1, h2⟩ := h
  injection e with e1 e2 e3
  subst e1 e2 e3
  exact ⟨rfl, h1, h2⟩
theorem IsN.slice {l : List (List Int)} (h : IsN w v l) : ∃ A c, v = .slice A l.length c := by
  obtain ⟨A', c', e, h1, h2⟩ := h
  exact ⟨A', c', e⟩
theorem IsB.slice {l : List Int} (h : IsB w v l) : ∃ A c, v = .slice A l.length c := by
  obtain ⟨A', c', e, h1, h2⟩ := h
  exact ⟨A', c', e⟩
theorem IsN.V {l : List (List Int)} (h : IsN w v l) : ∃ A c, v = .slice A l.length c ∧ Kd.V dB 23 w w.heap.size (fun k => k < w.heap.size) v l := by
  obtain ⟨A', c', rfl, h1, h2⟩ := h
  exact ⟨A', c', rfl, Kd.V_mk h1 (Kd.C_F (Kd.heap_slice 5 (Kd.heap_int .u8)) h2)⟩
theorem IsB.V {l : List Int} (h : IsB w v l) : ∃ A c, v = .slice A l.length c ∧ Kd.V (Kd.int .u8) 5 w w.heap.size (fun k => k < w.heap.size) v l := by
  obtain ⟨A', c', rfl, h1, h2⟩ := h
  exact ⟨A', c', rfl, Kd.V_mk h1 (Kd.C_F (Kd.heap_int .u8) h2)⟩
theorem IsN.take {l : List (List Int)} (h : IsN w (.slice A n c) l) {m : Nat} (hm : m ≤ n) : IsN w (.slice A m c) (l.take m) := by
  obtain ⟨rfl, h1, h2⟩ := h.C
  have h3 := Kd.C_take (m := m) h2 hm
  have hl : (l.take m).length = m := by rw [List.length_take]; omega
  exact ⟨A, c, by rw [hl], by rw [hl]; omega, h3⟩
/-- The first elements, as the walk meets them. -/
theorem cut_row (A : Option Addr) (n c m : Nat) (hm : m ≤ n) (hc : n ≤ c) : ∀ W : World, (Instr.slice 22 (.slice A n c) none (some (.int .i64 (m : Int))) none).run Tryd.prog W = .ok (.slice A m c) W := by
  obtain ⟨i0, hi0, _, hsz, _⟩ := info_parts info_row
  have h := Go.Proofs.YtcnpdapampclpaaDoorW.PrintWords.cut_to (P := Tryd.prog) 22 23 .i64 Tryd.underlying22 hi0 A n c (m : Int) (by omega) (by omega) hc
  simpa using h
end
/-- many: what it lets through is small. -/
theorem many_c (A : Option Addr) (c : Nat) (l : List (List Int)) (w : World) (hC : Kd.C dB w A l.length l) (hc : l.length ≤ c) {r : Int} (hr : ∃ k, imprimaturref06_Size.f k l 900 = some r) :
    Calls Tryd.prog 13 #[.slice A l.length c] w fun e w' => e = .returned (.bool (decide (900 < r) || decide (40 < (l.length : Int)))) ∧ Below w.heap.size w w' := by
  obtain ⟨k, hk⟩ := hr
  have H0 := Aside0.mk (And.intro hC (And.intro hc hk))
  clear hC hc hk
  go_enter Tryd.func13, Tryd.ntmps13
  go_wp2_with (first
    | (go_at_call 33; with_reducible refine (imprimaturref06_Size.calls k A c l 900 r _ H0.out.1 H0.out.2.1 H0.out.2.2).mono ?_; rintro e w1 ⟨rfl, hD⟩; have hB := hD.below; clear hD))
  all_goals (go_ret; exact ⟨by simp_all, hB⟩)
section
variable {w w1 : World} {v : Value} {A : Option Addr} {n c : Nat}
theorem many_v {l : List (List Int)} (h : IsN w v l) {r : Int} (hr : ∃ k, imprimaturref06_Size.f k l 900 = some r) {b : Bool} (hb : (decide (900 < r) || decide (40 < (l.length : Int))) = b) :
    Calls Tryd.prog 13 #[v] w fun e w' => e = .returned (.bool b) ∧ Below w.heap.size w w' := by
  obtain ⟨A, c, rfl, h1, h2⟩ := h
  rw [← hb]
  exact many_c A c l w h2 h1 hr
theorem size_v {v : Value} {l : List (List Int)} {m : Int} (h : IsN w v l) {r : Int} (hr : ∃ k, imprimaturref06_Size.f k l m = some r) :
    Calls Tryd.prog 33 #[v, .int .i64 m] w fun e w' => e = .returned (.int .i64 r) ∧ Below w.heap.size w w' := by
  obtain ⟨A, c, rfl, h1, h2⟩ := h
  obtain ⟨k, hk⟩ := hr
  refine (imprimaturref06_Size.calls k A c l m r w h2 h1 hk).mono ?_
  rintro e w' ⟨rfl, hd⟩
  exact ⟨rfl, hd.below⟩
theorem mark_v {w : World} {v : Value} {b r : List Int} {e : Int} (HG : Glb w) (h : IsB w v b) (hf : trail_Mark.f b = some (r, e)) :
    Calls Tryd.prog 26 #[v] w fun e_ w' => ∃ v', e_ = .returned (.tuple #[v', .int .i64 e]) ∧ IsB w' v' r ∧ Below w.heap.size w w' := by
  obtain ⟨A, c, rfl, h1, h2⟩ := h
  refine (trail_Mark.calls (fun k => k < w.heap.size) A c b r e w HG ⟨A, c, rfl, h1, Kd.C_F (Kd.heap_int _) h2⟩ hf).mono ?_
  rintro e_ w' ⟨v', rfl, hR, hB⟩
  exact ⟨v', rfl, IsB.of_R hR, hB⟩
end
theorem sameN_c {w : World} {va vb : Value} {a b : List (List Int)} (ha : IsN w va a) (hb : IsN w vb b) (xa : Lv a) (xb : ∀ x ∈ b, ∀ y ∈ x, 0 ≤ y ∧ y < 256) (hl : a.length ≤ 4096) :
    Calls Tryd.prog 29 #[va, vb] w fun e w' => e = .returned (.bool (decide (a = b))) ∧ Below w.heap.size w w' := by
  obtain ⟨A, c, rfl, h1, h2⟩ := ha
  obtain ⟨A', c', rfl, h3, h4⟩ := hb
  refine (imprimaturref06_Same.calls 5000 A c a A' c' b (decide (a = b)) w h2 h1 h4 h3 (same_dec a b (fun x hx => (xa x hx).2) xb (by omega) 5000 (by omega))).mono ?_
  rintro e w' ⟨rfl, hd⟩
  exact ⟨rfl, hd.below⟩
theorem sameN_yes {w : World} {va vb : Value} {a : List (List Int)} (ha : IsN w va a) (hb : IsN w vb a) (xa : Lv a) (hl : a.length ≤ 4096) :
    Calls Tryd.prog 29 #[va, vb] w fun e w' => e = .returned (.bool true) ∧ Below w.heap.size w w' := by
  have h := sameN_c ha hb xa (fun x hx => (xa x hx).2) hl
  rwa [decide_eq_true rfl] at h
theorem len_le_sum {l : List (List Int)} {x : List Int} (h : x ∈ l) : x.length + 1 ≤ (l.map (fun x => x.length + 1)).sum := by
  induction l with
  | nil => cases h
  | cons y l ih =>
    rw [List.map_cons, List.sum_cons]
    rcases List.mem_cons.1 h with rfl | h
    · omega
    · have := ih h; omega
/-- What many lets through. -/
theorem small_of (l : List (List Int)) (hb : ∀ x ∈ l, x.length ≤ 140737488355328) (hl : l.length ≤ 5864062014805) : ∃ r : Int, (∃ k, imprimaturref06_Size.f k l 900 = some r) ∧ ((decide (900 < r) || decide (40 < (l.length : Int))) = false → l.length ≤ 40 ∧ ∀ x ∈ l, x.length ≤ 900) := by
  obtain ⟨r, hr, hs⟩ := size_eq l 900 (by decide) hb hl (l.length + 1) (by omega)
  refine ⟨r, ⟨l.length + 1, hr⟩, fun h => ?_⟩
  rw [Bool.or_eq_false_iff, decide_eq_false_iff_not, decide_eq_false_iff_not] at h
  have h2 := hs (by omega)
  exact ⟨by omega, fun x hx => by have := len_le_sum hx; omega⟩
end Go.Proofs.YtcnpdapampclpaaDoor.X
namespace Go.Proofs.YtcnpdapampclpaaDoor.X
open Go.RowKit Go.Proofs.YtcnpdapampclpaaDoor.H Go.Proofs.YtcnpdapampclpaaDoorW.PrintWords Go.Proofs.YtcnpdapampclpaaDoorW.PrintLast Go.Proofs.YtcnpdapampclpaaDoorW.PrintMore Go.Proofs.YtcnpdapampclpaaDoor.PPl Go.Proofs.YtcnpdapampclpaaDoor.PPm Go.Proofs.YtcnpdapampclpaaDoor.PPn Go.Proofs.YtcnpdapampclpaaDoor.PTp Go.Proofs.YtcnpdapampclpaaDoor.PRa
set_option linter.unusedVariables false
set_option linter.unusedSimpArgs false
structure LT (p : Nat) (M : List (List Int)) (w : World) : Prop where
  glb : Glb w
  ex : ∃ base vs, 1 < base ∧ TrailR base p M.length vs (levL M) w
  lv : Lv M
  le : M.length ≤ 4096
abbrev Bs (w' : World) (base : Nat) (v : Value) (x : List Int) : Prop := Kd.R (Kd.int .u8) 5 w' base (fun k => base ≤ k) v x
abbrev Ns (w' : World) (base : Nat) (v : Value) (x : List (List Int)) : Prop := Kd.N dB 23 w' base (fun k => base ≤ k) v x
section
variable {p : Nat} {M : List (List Int)} {w w1 : World}
theorem LT.below (h : LT p M w) (hb : Below w.heap.size w w1) : LT p M w1 := by
  obtain ⟨base, vs, h1, hT⟩ := h.ex
  exact ⟨h.glb.of hb, ⟨base, vs, h1, hT.below hb⟩, h.lv, h.le⟩
theorem LT.size (h : LT p M w) : Calls Tryd.prog 16 #[.pointer (some ⟨p, 0, none⟩)] w fun e w' => e = .returned (.int .i64 M.length) ∧ Below w.heap.size w w' := by
  obtain ⟨base, vs, h1, hT⟩ := h.ex
  exact size_c w hT
theorem LT.top (h : LT p M w) (n : Nat) (h1 : 1 ≤ n) (h2 : n ≤ M.length) : Calls Tryd.prog 18 #[.pointer (some ⟨p, 0, none⟩), .int .i64 n] w fun e w' => ∃ v, e = .returned (.tuple #[v, .int .i64 0]) ∧ Bs w' w.heap.size v (topL (M.take n)) ∧ Below w.heap.size w w' := by
  obtain ⟨base, vs, hb, hT⟩ := h.ex
  exact top_c base p vs M w h.glb hT h.lv h.le hb n h1 h2
theorem LT.top_no (h : LT p M w) (n : Int) (h1 : n < 1 ∨ (M.length : Int) < n) : Calls Tryd.prog 18 #[.pointer (some ⟨p, 0, none⟩), .int .i64 n] w fun e w' => e = .returned (.tuple #[.slice none 0 0, .int .i64 1]) ∧ Below w.heap.size w w' := by
  obtain ⟨base, vs, hb, hT⟩ := h.ex
  exact top_err base p vs M w hT n h1
theorem LT.head (h : LT p M w) (n : Nat) (h2 : n ≤ M.length) : Calls Tryd.prog 19 #[.pointer (some ⟨p, 0, none⟩), .int .i64 n] w fun e w' => ∃ v, e = .returned (.tuple #[v, .int .i64 0]) ∧ Bs w' w.heap.size v (hdL M n) ∧ Below w.heap.size w w' := by
  obtain ⟨base, vs, hb, hT⟩ := h.ex
  exact head_c base p vs M w h.glb hT h.lv h.le hb n h2
theorem LT.head_no (h : LT p M w) (n : Int) (h1 : n < 0 ∨ (M.length : Int) < n) : Calls Tryd.prog 19 #[.pointer (some ⟨p, 0, none⟩), .int .i64 n] w fun e w' => e = .returned (.tuple #[.slice none 0 0, .int .i64 1]) ∧ Below w.heap.size w w' := by
  obtain ⟨base, vs, hb, hT⟩ := h.ex
  exact head_err base p vs M w hT n h1
theorem LT.way (h : LT p M w) (n q : Nat) (h2 : n ≤ M.length) (hq : q < n) : Calls Tryd.prog 27 #[.pointer (some ⟨p, 0, none⟩), .int .i64 n, .int .i64 q] w fun e w' => ∃ v, e = .returned (.tuple #[v, .int .i64 0]) ∧ Ns w' w.heap.size v (walkL (M.take n) q) ∧ Below w.heap.size w w' := by
  obtain ⟨base, vs, hb, hT⟩ := h.ex
  exact way_c base p vs M w h.glb hT h.lv h.le hb n q h2 hq
theorem LT.way_no (h : LT p M w) (n q : Int) (h1 : n < 1 ∨ (M.length : Int) < n ∨ q < 0 ∨ n ≤ q) : Calls Tryd.prog 27 #[.pointer (some ⟨p, 0, none⟩), .int .i64 n, .int .i64 q] w fun e w' => e = .returned (.tuple #[.slice none 0 0, .int .i64 1]) ∧ Below w.heap.size w w' := by
  obtain ⟨base, vs, hb, hT⟩ := h.ex
  by_cases h3 : n < 1 ∨ (M.length : Int) < n
  · exact way_err base p vs M w hT n q h3
  · exact way_err2 base p vs M w hT n q (by omega) (by omega) (by omega)
end
theorem row_lt (A : Option Addr) (c : Nat) (l : List (List Int)) (w : World) (HG : Glb w) (hC : Kd.C dB w A l.length l) (hb : ∀ x ∈ l, (∀ y ∈ x, 0 ≤ y ∧ y < 256) ∧ x.length ≤ 8192) (hl : l.length ≤ 4096) :
    Calls Tryd.prog 15 #[.slice A l.length c] w fun e w' => e = .returned (.pointer (some ⟨w.heap.size, 0, none⟩)) ∧ LT w.heap.size (marks l) w' ∧ Below w.heap.size w w' := by
  refine (row_c A c l w HG hC hb hl).mono ?_
  rintro e w' ⟨vs, rfl, hT, hB⟩
  exact ⟨rfl, ⟨HG.of hB, ⟨w.heap.size, vs, by have := HG.g0; have := HG.g1; omega, hT⟩, marks_lv l, by rw [marks_length]; exact hl⟩, hB⟩
section
variable {w w1 : World} {v : Value} {A : Option Addr} {n c : Nat}
theorem row_v {l : List (List Int)} (HG : Glb w) (h : IsN w v l) (hb : ∀ x ∈ l, (∀ y ∈ x, 0 ≤ y ∧ y < 256) ∧ x.length ≤ 8192) (hl : l.length ≤ 4096) :
    Calls Tryd.prog 15 #[v] w fun e w' => e = .returned (.pointer (some ⟨w.heap.size, 0, none⟩)) ∧ LT w.heap.size (marks l) w' ∧ Below w.heap.size w w' := by
  obtain ⟨A, c, rfl, h1, h2⟩ := h
  exact row_lt A c l w HG h2 hb hl
end
end Go.Proofs.YtcnpdapampclpaaDoor.X
