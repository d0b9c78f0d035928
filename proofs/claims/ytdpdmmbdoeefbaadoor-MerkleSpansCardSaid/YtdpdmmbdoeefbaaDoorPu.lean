/- What the climber's part comes to. -/
import Derived.Test.YtdpdmmbdoeefbaaDoorPt
import Derived.Test.YtdpdmmbdoeefbaaDoorMr
namespace Go.Proofs.YtdpdmmbdoeefbaaDoor.X
open Go.RowKit H YtdpdmmbdoeefbaaDoorW.PrintWords YtdpdmmbdoeefbaaDoorW.PrintLast YtdpdmmbdoeefbaaDoorW.PrintMore PCut PCr
set_option linter.unusedVariables false
theorem sh_and (s u v : Bool) : ((s || !u) || !v) = (s || !(u && v)) := by cases s <;> cases u <;> cases v <;> rfl
theorem Bp_of_R {w w1 : World} {p : Nat} {v : Value} {x : List Int} (h : Kd.R (Kd.int .u8) 5 w w1.heap.size (fun _ => True) v x) (hp : p < w1.heap.size) : Bp w p v x :=
  Kd.V_mono (Kd.R_V (Kd.R_bound h)) (fun k hk => fun e => by subst e; exact absurd hk.2.1 (Nat.not_le.2 hp))
theorem Bp_nil (w : World) (p : Nat) : Bp w p (.slice none 0 0) [] := Kd.V_nil _ _ _ 0 _
theorem part_c (lv : List (List Int)) (hv : Lv lv) (f p : Nat) (LV : Value) (hf9 : f + lv.length ≤ 100000) (hp1 : 1 < p) : ∀ (n : Nat), 1 ≤ n → ∀ (a : Nat) (pr : List (List Int)) (PV : Value) (sh : Bool) (w : World), a + n ≤ 100000 → Lv pr → Glb w → Np w p LV lv → Np w p PV pr → ClAt w p f ((f + lv.length : Nat) : Int) LV PV sh →
    Calls Tryd.prog 70 #[.pointer (some ⟨p, 0, none⟩), .agg #[.int .i64 a, .int .i64 n]] w fun e w' => ∃ v PV', e = .returned v ∧ Bp w' p v (climbT a n f lv pr).1 ∧ Np w' p PV' (climbT a n f lv pr).2.1 ∧ ClAt w' p f ((f + lv.length : Nat) : Int) LV PV' (sh || !(climbT a n f lv pr).2.2.2) ∧ w.grownBy w' (some p) := by
  intro n
  induction n using Nat.strongRecOn with
  | _ n ih =>
    intro h1 a pr PV sh w ha hpr HG hL hP hC
    have hout : ∀ w b, decide (a + n ≤ f ∨ f + lv.length ≤ a) = b → Calls Tryd.prog 81 #[.agg #[.int .i64 a, .int .i64 n], .int .i64 f, .int .i64 ((f + lv.length : Nat) : Int)] w fun e w' => e = .returned (.bool b) ∧ Below w.heap.size w w' := fun w b hb => by
      have h := outside_eq (a := a) (n := n) (f := f) (t := f + lv.length) (by omega)
      rw [hb] at h
      exact merkle_span_outside.calls _ _ _ _ _ w h
    by_cases ho : a + n ≤ f ∨ f + lv.length ≤ a
    · by_cases h0 : pr.length = 0
      · obtain rfl : pr = [] := List.length_eq_zero_iff.1 h0
        rw [climbT_none ho rfl]
        refine (part_none p f (f + lv.length) a n LV PV sh w hC hP (fun w => hout w true (decide_eq_true ho))).mono ?_
        rintro e w' ⟨rfl, hC', hg⟩
        exact ⟨_, PV, rfl, Bp_nil _ _, hP.grown hg, by rw [show (sh || !false) = true by cases sh <;> rfl]; exact hC', hg⟩
      rw [climbT_out ho h0]
      refine (part_out p f (f + lv.length) a n LV PV sh w hC hP (by omega) (fun w => hout w true (decide_eq_true ho))).mono ?_
      rintro e w' ⟨v, PV', rfl, hB, hN, hC', hg⟩
      exact ⟨_, PV', rfl, hB, hN, by rw [show (sh || !true) = sh by cases sh <;> rfl]; exact hC', hg⟩
    by_cases h2 : n ≤ 1
    · rw [climbT_leaf ho h2]
      refine (part_leaf p f (f + lv.length) a n lv (by omega) (by omega) (by omega) (by omega) LV PV sh w hC hL (fun w => hout w false (decide_eq_false ho))).mono ?_
      rintro e w' ⟨v, rfl, hB, hC', hg⟩
      exact ⟨_, PV, rfl, hB, hP.grown hg, by rw [show (sh || !true) = sh by cases sh <;> rfl]; exact hC', hg⟩
    have h3 := hf_pos n
    have h4 := hf_lt (n := n) (by omega)
    have u := climbT_ok (hf n) a f lv pr h3 hv hpr
    have v := climbT_ok (n - hf n) (a + hf n) f lv (climbT a (hf n) f lv pr).2.1 (by omega) hv u.2.1.1
    have i1 := ih (hf n) h4 h3 a pr PV sh
    have i2 := fun PV1 sh1 => ih (n - hf n) (by omega) (by omega) (a + hf n) (climbT a (hf n) f lv pr).2.1 PV1 sh1
    have hh := halves_eq (a := a) (n := n) (by omega) (by omega)
    rw [climbT_node ho (by omega)]
    have hbb : isBytes (1 :: [(climbT a (hf n) f lv pr).1, (climbT (a + hf n) (n - hf n) f lv (climbT a (hf n) f lv pr).2.1).1].flatten) = true := by
      rw [show [(climbT a (hf n) f lv pr).1, (climbT (a + hf n) (n - hf n) f lv (climbT a (hf n) f lv pr).2.1).1].flatten = (climbT a (hf n) f lv pr).1 ++ (climbT (a + hf n) (n - hf n) f lv (climbT a (hf n) f lv pr).2.1).1 by simp]
      exact List.all_eq_true.2 fun x hx => decide_eq_true (isBytes_cons (by decide) (isBytes_app u.1.2 v.1.2) x hx)
    have hdd : merkle_digest.f 1 [(climbT a (hf n) f lv pr).1, (climbT (a + hf n) (n - hf n) f lv (climbT a (hf n) f lv pr).2.1).1] = some (dig (1 :: ((climbT a (hf n) f lv pr).1 ++ (climbT (a + hf n) (n - hf n) f lv (climbT a (hf n) f lv pr).2.1).1))) := by
      have h7 := u.1.1
      have h8 := v.1.1
      unfold merkle_digest.f
      rw [if_pos ⟨hbb, by simp only [List.length_cons, List.flatten_cons, List.flatten_nil, List.length_append, List.length_nil]; omega⟩]
      simp
    refine (part_node p f (f + lv.length) a n LV PV sh w hC pr (climbT a (hf n) f lv pr).1 (climbT (a + hf n) (n - hf n) f lv (climbT a (hf n) f lv pr).2.1).1 (dig (1 :: ((climbT a (hf n) f lv pr).1 ++ (climbT (a + hf n) (n - hf n) f lv (climbT a (hf n) f lv pr).2.1).1))) (climbT a (hf n) f lv pr).2.1 (climbT (a + hf n) (n - hf n) f lv (climbT a (hf n) f lv pr).2.1).2.1 (sh || !(climbT a (hf n) f lv pr).2.2.2) ((sh || !(climbT a (hf n) f lv pr).2.2.2) || !(climbT (a + hf n) (n - hf n) f lv (climbT a (hf n) f lv pr).2.1).2.2.2) (hf n : Nat) ((a + hf n : Nat) : Int) ((n - hf n : Nat) : Int) (by omega) hP (fun w => merkle_span_halves.calls _ _ _ _ _ _ w hh) ?_ ?_ ?_ (fun w => hout w false (decide_eq_false ho))).mono ?_
    · intro w1 hg hC1
      exact i1 w1 (by omega) hpr (HG.grown hg hp1) (hL.grown hg) (hP.grown hg) hC1
    · intro w1 PV1 hg hN1 hC1
      exact i2 PV1 _ w1 (by omega) u.2.1.1 (HG.grown hg hp1) (hL.grown hg) hN1 hC1
    · intro w1 A c hg hrow hc
      have hlt := Nat.lt_of_lt_of_le hC.lt hg.size
      refine (merkle_digest.calls 1 A c _ _ w1 (HG.grown hg hp1) hrow hc hdd).mono ?_
      rintro e w' ⟨v0, rfl, hR, hB⟩
      exact ⟨_, rfl, Bp_of_R hR hlt, hB⟩
    rintro e w' ⟨v0, PV', rfl, hB, hN, hC', hg⟩
    exact ⟨_, PV', rfl, hB, hN, by rw [← sh_and]; exact hC', hg⟩
end Go.Proofs.YtdpdmmbdoeefbaaDoor.X
