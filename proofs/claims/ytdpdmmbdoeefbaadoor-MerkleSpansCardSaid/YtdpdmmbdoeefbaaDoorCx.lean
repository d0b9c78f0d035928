/- Whether a range's proof is right: the walk. -/
import Derived.Test.YtdpdmmbdoeefbaaDoorPu
import Derived.Test.YtdpdmmbdoeefbaaDoorPCutx3
namespace Go.Proofs.YtdpdmmbdoeefbaaDoor.X
open Go.RowKit H YtdpdmmbdoeefbaaDoorW.PrintWords YtdpdmmbdoeefbaaDoorW.PrintLast YtdpdmmbdoeefbaaDoorW.PrintMore PCut PCr
set_option linter.unusedVariables false
set_option linter.unusedSimpArgs false
def rgBad (root : List Int) (n f : Int) (lv pr : List (List Int)) : Prop := n < 1 ∨ 4096 < n ∨ lv.length = 0 ∨ f < 0 ∨ n < f + lv.length ∨ root.length ≠ 32 ∨ rgAll lv = false ∨ rgAll pr = false
def merkle_CheckRange.f (l0 : List Int) (a1 a2 : Int) (l3 l4 : List (List Int)) : Option Int := if isBytes l0 = true ∧ isBytes l3.flatten = true ∧ isBytes l4.flatten = true ∧ l3.length ≤ 20000 ∧ l4.length ≤ 20000 then some (rangeC l0 a1 a2 l3 l4) else none
theorem bytes_mem {l : List (List Int)} (h : isBytes l.flatten = true) : ∀ x ∈ l, BytesB x := fun x hx y hy => by have := List.all_eq_true.1 h y (List.mem_flatten.2 ⟨x, hx, hy⟩); simpa using this
theorem bytes_own {l : List Int} (h : isBytes l = true) : BytesB l := fun y hy => by have := List.all_eq_true.1 h y hy; simpa using this
theorem digest2_c (a0 : Int) (A : Option Addr) (c : Nat) (x1 x2 r : List Int) (w : World) (HG : Glb w) (hr : Kd.C dB w A 2 [x1, x2]) (hc : 2 ≤ c) (h : merkle_digest.f a0 [x1, x2] = some r) :
    Calls Tryd.prog 53 #[.int .u8 a0, .slice A 2 c] w fun e w' => ∃ v0_ : Value, e = .returned v0_ ∧ Kd.R (Kd.int .u8) 5 w' w.heap.size (fun _ => True) v0_ r ∧ Below w.heap.size w w' := merkle_digest.calls a0 A c [x1, x2] r w HG hr hc h
theorem below_join {s : Nat} {w w1 w2 : World} (h : Below s w w1) (k : Below s w1 w2) : Below s w w2 := ⟨k.os.trans h.os, k.tape.trans h.tape, k.output.trans h.output, Nat.le_trans h.size k.size, fun j hj => (k.block j hj).trans (h.block j hj)⟩
set_option maxRecDepth 100000 in
set_option maxHeartbeats 8000000 in
theorem merkle_CheckRange.calls (A0 : Option Addr) (c0 : Nat) (l0 : List Int) (a1 : Int) (a2 : Int) (A3 : Option Addr) (c3 : Nat) (l3 : List (List Int)) (A4 : Option Addr) (c4 : Nat) (l4 : List (List Int)) (r : Int) (w : World) (HG : Glb w) (hr0 : Kd.C (Kd.int .u8) w A0 l0.length l0) (hc0 : l0.length ≤ c0) (hr3 : Kd.C (Kd.slice 5 (Kd.int .u8)) w A3 l3.length l3) (hc3 : l3.length ≤ c3) (hr4 : Kd.C (Kd.slice 5 (Kd.int .u8)) w A4 l4.length l4) (hc4 : l4.length ≤ c4) (h : merkle_CheckRange.f l0 a1 a2 l3 l4 = some r) :
    Calls Tryd.prog 48 #[.slice A0 l0.length c0, .int .i64 a1, .int .i64 a2, .slice A3 l3.length c3, .slice A4 l4.length c4] w fun e w' => e = .returned (.int .i64 r) ∧ Below w.heap.size w w' := by
  unfold merkle_CheckRange.f at h
  split at h
  case isFalse => cases h
  rename_i hc
  obtain rfl := Option.some.inj h
  obtain ⟨hb0, hb3, hb4, hl3, hl4⟩ := hc
  have H0 := aM (And.intro HG (And.intro hr0 (And.intro hr3 (And.intro hr4 (And.intro (bytes_own hb0) (And.intro (bytes_mem hb3) (bytes_mem hb4)))))))
  have HC := aM (And.intro hc0 (And.intro hc3 (And.intro hc4 (And.intro hl3 hl4))))
  have HS3 := aM (sized_eq l3 30000 (by omega) (by omega))
  have HS4 := aM (sized_eq l4 30000 (by omega) (by omega))
  have HB := aM (Below.refl w.heap.size w)
  clear HG hr0 hr3 hr4 hb0 hb3 hb4 h hc0 hc3 hc4
  have hl3I : (l3.length : Int) ≤ 20000 := by omega
  go_enter Tryd.func48, Tryd.ntmps48
  go_upto_region 1 with (fail)
  go_cut [56] (fun v56 wc => ∃ x : Bool, v56 = .bool x ∧ Aside0 (x = true ↔ rgBad l0 a1 a2 l3 l4) ∧ Aside0 (Below w.heap.size w wc))
  case first =>
    by_cases c0 : a1 < 1
    · have hbad := aM (show rgBad l0 a1 a2 l3 l4 from (fun (h_ : a1 < 1) => (.inl h_)) c0)
      have c0b0 : decide (a1 < 1) = true := decide_eq_true c0
      clear c0
      go_wp2
      go_meet
      case rel => exact ⟨true, rfS, ⟨fun _ => hbad.out, fun _ => rfl⟩, ⟨bel⟩⟩
    have c0b0 : decide (a1 < 1) = false := decide_eq_false c0
    by_cases c1 : 4096 < a1
    · have hbad := aM (show rgBad l0 a1 a2 l3 l4 from (fun (h_ : 4096 < a1) => (.inr (.inl h_))) c1)
      have c1b0 : decide (4096 < a1) = true := decide_eq_true c1
      clear c1
      go_wp2
      go_meet
      case rel => exact ⟨true, rfS, ⟨fun _ => hbad.out, fun _ => rfl⟩, ⟨bel⟩⟩
    have c1b0 : decide (4096 < a1) = false := decide_eq_false c1
    by_cases c2 : (l3.length : Int) = 0
    · have hbad := aM (show rgBad l0 a1 a2 l3 l4 from (fun (h_ : (l3.length : Int) = 0) => (.inr (.inr (.inl (by omega))))) c2)
      have c2b0 : ((l3.length : Int) == 0) = true := beq_iff_eq.mpr c2
      clear c2
      go_wp2
      go_meet
      case rel => exact ⟨true, rfS, ⟨fun _ => hbad.out, fun _ => rfl⟩, ⟨bel⟩⟩
    have c2b0 : ((l3.length : Int) == 0) = false := beq_eq_false_iff_ne.mpr c2
    have c2b2 : ¬ (l3 = []) := fun h_ => c2 (by rw [h_]; rfl)
    by_cases c3 : a2 < 0
    · have hbad := aM (show rgBad l0 a1 a2 l3 l4 from (fun (h_ : a2 < 0) => (.inr (.inr (.inr (.inl h_))))) c3)
      have c3b0 : decide (a2 < 0) = true := decide_eq_true c3
      clear c3
      go_wp2
      go_meet
      case rel => exact ⟨true, rfS, ⟨fun _ => hbad.out, fun _ => rfl⟩, ⟨bel⟩⟩
    have c3b0 : decide (a2 < 0) = false := decide_eq_false c3
    by_cases c4 : a1 < (l3.length : Int)
    · have hbad := aM (show rgBad l0 a1 a2 l3 l4 from (fun (h_ : a1 < (l3.length : Int)) => (.inr (.inr (.inr (.inr (.inl (by omega))))))) c4)
      have c4b0 : decide (a1 < (l3.length : Int)) = true := decide_eq_true c4
      clear c4
      go_wp2
      go_meet
      case rel => exact ⟨true, rfS, ⟨fun _ => hbad.out, fun _ => rfl⟩, ⟨bel⟩⟩
    have c4b0 : decide (a1 < (l3.length : Int)) = false := decide_eq_false c4
    have hw5 : wrap64 (a1 - (l3.length : Int)) = a1 - (l3.length : Int) := (by unfold wrap64; omega)
    by_cases c5 : a1 - (l3.length : Int) < a2
    · have hbad := aM (show rgBad l0 a1 a2 l3 l4 from (fun (h_ : a1 - (l3.length : Int) < a2) => (.inr (.inr (.inr (.inr (.inl (by omega))))))) c5)
      have c5b0 : decide (a1 - (l3.length : Int) < a2) = true := decide_eq_true c5
      have c5b1 : decide (wrap64 (a1 - (l3.length : Int)) < a2) = true := (by rw [hw5]; exact c5b0)
      clear hw5
      clear c5
      go_wp2
      go_meet
      case rel => exact ⟨true, rfS, ⟨fun _ => hbad.out, fun _ => rfl⟩, ⟨bel⟩⟩
    have c5b0 : decide (a1 - (l3.length : Int) < a2) = false := decide_eq_false c5
    have c5b1 : decide (wrap64 (a1 - (l3.length : Int)) < a2) = false := (by rw [hw5]; exact c5b0)
    by_cases c6 : ¬ (l0.length : Int) = 32
    · have hbad := aM (show rgBad l0 a1 a2 l3 l4 from (fun (h_ : ¬ (l0.length : Int) = 32) => (.inr (.inr (.inr (.inr (.inr (.inl (by omega)))))))) c6)
      have c6b0 : ((l0.length : Int) == 32) = false := beq_eq_false_iff_ne.mpr c6
      have c6b1 : ((l0.length : Int) != 32) = true := bne_iff_ne.mpr c6
      clear c6
      go_wp2
      go_meet
      case rel => exact ⟨true, rfS, ⟨fun _ => hbad.out, fun _ => rfl⟩, ⟨bel⟩⟩
    replace c6 : (l0.length : Int) = 32 := Decidable.not_not.1 c6
    have c6b0 : ((l0.length : Int) == 32) = true := beq_iff_eq.mpr c6
    have c6b1 : ((l0.length : Int) != 32) = false := bne_eq_false_iff_eq.mpr c6
    have HK := aM (And.intro c0 (And.intro c1 (And.intro c2 (And.intro c3 (And.intro c4 (And.intro c5 c6))))))
    clear c0 c1 c3 c4 c5 c6 hw5
    cases hs3 : rgAll l3
    · rw [hs3] at HS3
      have hbad := aM (show rgBad l0 a1 a2 l3 l4 from .inr (.inr (.inr (.inr (.inr (.inr (.inl hs3)))))))
      clear hs3
      go_wp2_with (first | (go_at_call 69; (with_reducible refine (merkle_sized.calls 30000 _ _ l3 false _ ?side1 ?side2 HS3.out).mono ?_); (case side1 => exact cL (Kd.C_below H0.out.2.2.1 HB.out)); (case side2 => exact HC.out.2.1); rintro e w' ⟨rfl, ⟨nd, rfl⟩⟩))
      go_meet
      case rel => exact ⟨true, rfS, ⟨fun _ => hbad.out, fun _ => rfl⟩, ⟨bel⟩⟩
    rw [hs3] at HS3
    cases hs4 : rgAll l4
    · rw [hs4] at HS4
      have hbad := aM (show rgBad l0 a1 a2 l3 l4 from .inr (.inr (.inr (.inr (.inr (.inr (.inr hs4)))))))
      clear hs3 hs4
      go_wp2_with (first | (go_at_call 69; (with_reducible refine (merkle_sized.calls 30000 _ _ l3 true _ ?side1 ?side2 HS3.out).mono ?_); (case side1 => exact cL (Kd.C_below H0.out.2.2.1 HB.out)); (case side2 => exact HC.out.2.1); rintro e w' ⟨rfl, ⟨nd, rfl⟩⟩) | (go_at_call 69; (with_reducible refine (merkle_sized.calls 30000 _ _ l4 false _ ?side1 ?side2 HS4.out).mono ?_); (case side1 => exact cL (Kd.C_below H0.out.2.2.2.1 HB.out)); (case side2 => exact HC.out.2.2.1); rintro e w' ⟨rfl, ⟨nd, rfl⟩⟩))
      go_meet
      case rel => exact ⟨true, rfS, ⟨fun _ => hbad.out, fun _ => rfl⟩, ⟨bel⟩⟩
    rw [hs4] at HS4
    have hgood := aM (show ¬ rgBad l0 a1 a2 l3 l4 from fun h_ => by
      obtain ⟨k0, k1, k2, k3, k4, k5, k6⟩ := HK.out
      rcases h_ with h_ | h_ | h_ | h_ | h_ | h_ | h_ | h_
      · exact k0 h_
      · exact k1 h_
      · omega
      · exact k3 h_
      · omega
      · omega
      · rw [hs3] at h_; cases h_
      rw [hs4] at h_; cases h_)
    clear hs3 hs4
    go_wp2_with (first | (go_at_call 69; (with_reducible refine (merkle_sized.calls 30000 _ _ l3 true _ ?side1 ?side2 HS3.out).mono ?_); (case side1 => exact cL (Kd.C_below H0.out.2.2.1 HB.out)); (case side2 => exact HC.out.2.1); rintro e w' ⟨rfl, ⟨nd, rfl⟩⟩) | (go_at_call 69; (with_reducible refine (merkle_sized.calls 30000 _ _ l4 true _ ?side1 ?side2 HS4.out).mono ?_); (case side1 => exact cL (Kd.C_below H0.out.2.2.2.1 HB.out)); (case side2 => exact HC.out.2.2.1); rintro e w' ⟨rfl, ⟨nd, rfl⟩⟩))
    go_meet
    case rel => exact ⟨false, rfS, ⟨fun h_ => (by cases h_), fun h_ => absurd h_ hgood.out⟩, ⟨bel⟩⟩
  case rest =>
    clear HB
    obtain ⟨x, rfl, hx, HB⟩ := hcut
    by_cases hbad : rgBad l0 a1 a2 l3 l4
    · obtain rfl : x = true := hx.out.2 hbad
      have hC := aM (show rangeC l0 a1 a2 l3 l4 = 1 from (by unfold rangeC; exact if_pos hbad))
      clear hbad hx
      go_wp2
      go_ret
      exact ⟨by rw [hC.out]; rfl, HB.out⟩
    obtain rfl : x = false := Bool.eq_false_iff.2 (fun h_ => hbad (hx.out.1 h_))
    have hC := aM (show rangeC l0 a1 a2 l3 l4 = _ from (by unfold rangeC; exact if_neg hbad))
    clear hx
    have g0 : ¬ a1 < 1 := fun h_ => hbad (.inl h_)
    have g1 : ¬ 4096 < a1 := fun h_ => hbad (.inr (.inl h_))
    have g2 : l3.length ≠ 0 := fun h_ => hbad (.inr (.inr (.inl h_)))
    have g3 : ¬ a2 < 0 := fun h_ => hbad (.inr (.inr (.inr (.inl h_))))
    have g4 : ¬ a1 < a2 + l3.length := fun h_ => hbad (.inr (.inr (.inr (.inr (.inl h_)))))
    have g5 : l0.length = 32 := Decidable.not_not.1 fun h_ => hbad (.inr (.inr (.inr (.inr (.inr (.inl h_))))))
    have g6 : rgAll l3 = true := by cases h_ : rgAll l3; exact absurd (show rgBad l0 a1 a2 l3 l4 from .inr (.inr (.inr (.inr (.inr (.inr (.inl h_))))))) hbad; rfl
    have g7 : rgAll l4 = true := by cases h_ : rgAll l4; exact absurd (show rgBad l0 a1 a2 l3 l4 from .inr (.inr (.inr (.inr (.inr (.inr (.inr h_))))))) hbad; rfl
    clear hbad
    have hv := rgAll_lv g6 H0.out.2.2.2.2.2.1
    have hp := rgAll_lv g7 H0.out.2.2.2.2.2.2
    obtain ⟨n, rfl⟩ : ∃ j : Nat, a1 = (j : Int) := ⟨a1.toNat, by omega⟩
    obtain ⟨f, rfl⟩ : ∃ j : Nat, a2 = (j : Int) := ⟨a2.toNat, by omega⟩
    have gf : (f : Int) ≤ 4096 := by omega
    have gn : (n : Int) ≤ 4096 := by omega
    have hsum : wrap64 ((f : Int) + (l3.length : Int)) = ((f + l3.length : Nat) : Int) := by unfold wrap64; omega
    have hsum' : (f : Int) + (l3.length : Int) = ((f + l3.length : Nat) : Int) := by omega
    have hn9 : 0 + n ≤ 100000 := by omega
    have hf9 : f + l3.length ≤ 100000 := by omega
    have hn1 : 1 ≤ n := by omega
    obtain ⟨T, hT⟩ : ∃ T, T = climbT 0 n f l3 l4 := ⟨_, rfl⟩
    have hok := climbT_ok n 0 f l3 l4 hn1 hv hp
    have hrb : rangeB l0 n f l3 l4 = (T.2.2.2 && decide (T.2.1.length = 0) && decide (dig (2 :: (e8 n ++ T.1)) = l0)) := by rw [hT]; rfl
    rw [Int.toNat_natCast, Int.toNat_natCast, hrb] at hC
    have hpc := fun (p : Nat) (LV : Value) (hp1 : 1 < p) => part_c l3 hv f p LV hf9 hp1 n hn1 0 l4
    rw [← hT] at hok
    simp only [← hT] at hpc
    have he8 := eight_eq 20 n (by decide)
    obtain ⟨E, hE⟩ : ∃ E, E = e8 (n : Int) := ⟨_, rfl⟩
    have hE8 : E.length = 8 := by rw [hE]; exact e8_length _
    have hEb : BytesB E := by rw [hE]; exact e8_bytes _
    rw [← hE] at he8 hC hrb
    have hdd : merkle_digest.f 2 [E, T.1] = some (dig (2 :: (E ++ T.1))) := by
      have h7 := hok.1.1
      have hbb : isBytes (2 :: [E, T.1].flatten) = true := List.all_eq_true.2 fun x hx => decide_eq_true (by
        rw [show [E, T.1].flatten = E ++ T.1 by simp] at hx
        exact isBytes_cons (by decide) (isBytes_app hEb hok.1.2) x hx)
      unfold merkle_digest.f
      rw [if_pos ⟨hbb, by simp only [List.length_cons, List.flatten_cons, List.flatten_nil, List.length_append, List.length_nil]; omega⟩]
      simp
    obtain ⟨D, hD⟩ : ∃ D, D = dig (2 :: (E ++ T.1)) := ⟨_, rfl⟩
    have hD8 : D.length = 32 := by rw [hD]; exact dig_length _
    have hDb : BytesB D := by rw [hD]; exact dig_bytes _
    rw [← hD] at hdd hC
    have HH := aM (And.intro hpc (And.intro hok (And.intro he8 (And.intro hp (And.intro hn9 (And.intro hsum hsum'))))))
    have HL := aM (And.intro g5 (And.intro hdd (And.intro hD8 hDb)))
    clear hf9 hn1 hE hE8 hEb hD hD8 hDb hdd hv hp hT hok hrb hpc he8 hsum hsum' g0 g1 g2 g3 g4 g5 g6 g7 hl3 hl4 HS3 HS4 hn9
    go_upto_region 4 with (first | ((with_reducible refine gate_dst (N := 65) rfl ?_); refine box_event ?hg (N := 65) ?hd (cs := #[.int .i64 f, .int .i64 ((f + l3.length : Nat) : Int), .slice A3 l3.length c3, .slice A4 l4.length c4, .bool false]) (t := 85) ?hr ?_; (case hd => rfl); (case hg => rfl); (case hr => first | (go_simp; done) | (go_simp; rfl) | (simp only [← HH.out.2.2.2.2.2.1, ← HH.out.2.2.2.2.2.2]; go_simp; done) | (simp only [← HH.out.2.2.2.2.2.1, ← HH.out.2.2.2.2.2.2]; go_simp; rfl) | (simp only [← HH.out.2.2.2.2.2.2]; go_simp; rfl)); intro p hgb w2 hbox hb2; have HP0 := aM hgb; clear hgb))
    have hgb := HP0.out
    have HBw2 := below_step HB.out hb2
    have hp1 : 1 < p := (by rw [hgb]; first | exact Nat.lt_of_lt_of_le H0.out.1.g0 HB.out.size | exact Nat.lt_of_lt_of_le H0.out.1.g1 HB.out.size)
    have hsp : w.heap.size ≤ p := (by rw [hgb]; exact HB.out.size)
    have hn3 : Np w2 p (.slice A3 l3.length c3) l3 := (Kd.V_mk HC.out.2.1 (Kd.F_below (Kd.F_mono (Kd.C_F (Kd.heap_slice 5 (Kd.heap_int .u8)) (Kd.C_below H0.out.2.2.1 HB.out)) (fun k hk => Nat.ne_of_lt (by rw [hgb]; exact hk))) hb2))
    have hn4 : Np w2 p (.slice A4 l4.length c4) l4 := (Kd.V_mk HC.out.2.2.1 (Kd.F_below (Kd.F_mono (Kd.C_F (Kd.heap_slice 5 (Kd.heap_int .u8)) (Kd.C_below H0.out.2.2.2.1 HB.out)) (fun k hk => Nat.ne_of_lt (by rw [hgb]; exact hk))) hb2))
    have PC := HH.out.1 p (.slice A3 l3.length c3) hp1 (.slice A4 l4.length c4) false w2 HH.out.2.2.2.2.1 HH.out.2.2.2.1 (H0.out.1.of HBw2) hn3 hn4 ⟨hbox⟩
    rw [show ((0 : Nat) : Int) = 0 from rfl] at PC
    have PC' := aM PC
    have HX := aM (And.intro HBw2 (And.intro hsp hp1))
    clear PC hn3 hn4 HBw2 hp1 hsp hbox hb2 hgb
    go_upto_region 5 with (first | (go_at_call 70; go_loud (with_reducible refine (PC'.out).mono ?_); rintro e w5 ⟨v5, PV5, rfl, hB5, hN5, hC5, hg5⟩; have P5 := aM (And.intro hB5 (And.intro hN5 (And.intro hC5 (below_join HX.out.1 (below_of_grown hg5 HX.out.2.1 HX.out.1.size))))); clear hB5 hN5 hC5 hg5))
    obtain ⟨A5, c5, rfl⟩ := P5.out.1.slice
    obtain ⟨A6, c6, rfl, _⟩ := P5.out.2.1
    clear PC' HB
    have z4 := P5.out.2.2.1.c4
    have z3 := P5.out.2.2.1.c3
    have hlt5 := P5.out.2.2.1.lt
    cases hfit : T.2.2.2
    · rw [hfit] at z4 hC
      have z4' : w5.cell? ⟨p, 4, none⟩ = some (.bool true) := z4
      clear z4 hfit hlt5
      go_wp2
      go_ret
      exact ⟨by rw [hC.out]; rfl, P5.out.2.2.2⟩
    rw [hfit] at z4 hC
    have z4' : w5.cell? ⟨p, 4, none⟩ = some (.bool false) := z4
    clear z4 hfit
    by_cases hz : T.2.1.length = 0
    case neg =>
      rw [decide_eq_false hz] at hC
      obtain ⟨m, hm⟩ : ∃ m, m = T.2.1.length := ⟨_, rfl⟩
      rw [← hm] at hz z3
      have hz1 : decide (0 < (m : Int)) = true := decide_eq_true (by omega)
      have hz2 : (0 : Int) < (m : Int) := by omega
      clear hm hlt5 hz
      go_wp2
      go_ret
      exact ⟨by rw [hC.out]; rfl, P5.out.2.2.2⟩
    rw [decide_eq_true hz] at hC
    rw [hz] at z3
    clear hz
    by_cases hE : D = l0
    · have hq : bytes_Equal.f D l0 = some true := (by unfold bytes_Equal.f; rw [hE]; simp)
      rw [decide_eq_true hE] at hC
      clear hE
      have HQ := aM hq
      clear hq
      go_wp2_with (first
        | (go_at_call 55; (with_reducible refine (merkle_eight.calls 20 _ E _ HH.out.2.2.1).mono ?_); rintro e w7 ⟨v7, rfl, hR7, hb7⟩; have hB7 := Bp_of_R hR7 hlt5; obtain ⟨A7, c7, rfl⟩ := hB7.slice; have P7 := aM (And.intro hB7 (And.intro (P5.out.1.below hb7) (below_step P5.out.2.2.2 hb7))); clear hR7 hb7 hB7)
        | (go_at_call 53; (with_reducible refine (digest2_c 2 (some ⟨w7.heap.size, 0, none⟩) 2 E T.1 D _ (H0.out.1.of (below_step P7.out.2.2 (below_alloc (Below.refl _ _) _))) (row2 P7.out.1 P7.out.2.1) (Nat.le_refl 2) HL.out.2.1).mono ?_); rintro e w8 ⟨v8, rfl, hR8, hb8⟩; obtain ⟨A8, c8, rfl, hc8, hC8⟩ := Kd.R_reads hR8; have P8 := aM (And.intro hC8 (And.intro hc8 (below_step (below_step P7.out.2.2 (below_alloc (Below.refl _ _) _)) hb8))); clear hR8 hb8 hC8 hc8)
        | (go_at_call 54; (with_reducible refine (bytes_Equal.calls _ _ D _ _ l0 _ _ P8.out.1 P8.out.2.1 (Kd.C_below H0.out.2.1 P8.out.2.2) HC.out.1 HQ.out).mono ?_); rintro e w9 ⟨rfl, hd9⟩; obtain ⟨nd, rfl⟩ := hd9))
      go_ret
      exact ⟨by rw [hC.out]; rfl, (by repeat (first | (with_reducible first | exact P8.out.2.2 | apply below_alloc | apply pw_below_drewN | apply below_drew1) | exact P8.out.2.2))⟩
    have hq : bytes_Equal.f D l0 = some false := (by unfold bytes_Equal.f; rw [beq_eq_false_iff_ne.2 (fun h_ => hE ((strs_eq HL.out.2.2.2 H0.out.2.2.2.2.1).1 h_))])
    rw [decide_eq_false hE] at hC
    clear hE
    have HQ := aM hq
    clear hq
    go_wp2_with (first
      | (go_at_call 55; (with_reducible refine (merkle_eight.calls 20 _ E _ HH.out.2.2.1).mono ?_); rintro e w7 ⟨v7, rfl, hR7, hb7⟩; have hB7 := Bp_of_R hR7 hlt5; obtain ⟨A7, c7, rfl⟩ := hB7.slice; have P7 := aM (And.intro hB7 (And.intro (P5.out.1.below hb7) (below_step P5.out.2.2.2 hb7))); clear hR7 hb7 hB7)
      | (go_at_call 53; (with_reducible refine (digest2_c 2 (some ⟨w7.heap.size, 0, none⟩) 2 E T.1 D _ (H0.out.1.of (below_step P7.out.2.2 (below_alloc (Below.refl _ _) _))) (row2 P7.out.1 P7.out.2.1) (Nat.le_refl 2) HL.out.2.1).mono ?_); rintro e w8 ⟨v8, rfl, hR8, hb8⟩; obtain ⟨A8, c8, rfl, hc8, hC8⟩ := Kd.R_reads hR8; have P8 := aM (And.intro hC8 (And.intro hc8 (below_step (below_step P7.out.2.2 (below_alloc (Below.refl _ _) _)) hb8))); clear hR8 hb8 hC8 hc8)
      | (go_at_call 54; (with_reducible refine (bytes_Equal.calls _ _ D _ _ l0 _ _ P8.out.1 P8.out.2.1 (Kd.C_below H0.out.2.1 P8.out.2.2) HC.out.1 HQ.out).mono ?_); rintro e w9 ⟨rfl, hd9⟩; obtain ⟨nd, rfl⟩ := hd9))
    go_ret
    exact ⟨by rw [hC.out]; rfl, (by repeat (first | (with_reducible first | exact P8.out.2.2 | apply below_alloc | apply pw_below_drewN | apply below_drew1) | exact P8.out.2.2))⟩
end Go.Proofs.YtdpdmmbdoeefbaaDoor.X
