/- The law Sha2Asks. -/
import Derived.Test.YtckjgipkdknmgaaDoorAs
namespace Go.Proofs.YtckjgipkdknmgaaDoor.PSum
open Go.RowKit Go.Proofs.YtckjgipkdknmgaaDoorW.PrintWords Go.Proofs.YtckjgipkdknmgaaDoorW.PrintMore Go.Proofs.YtckjgipkdknmgaaDoor.X Go.Proofs.YtckjgipkdknmgaaDoor.H
set_option maxRecDepth 100000 in
set_option maxHeartbeats 2000000 in
theorem asks_long (a : Option Addr) (ca : Nat) (la : List Int) (b : Option Addr) (cb : Nat) (lb : List Int) (c : Option Addr) (cc : Nat) (lc : List Int) (wide : Bool) (W : World) (HG : Glb W)
    (ra : Kd.C (Kd.int .u8) W a la.length la) (rb : Kd.C (Kd.int .u8) W b lb.length lb) (rc : Kd.C (Kd.int .u8) W c lc.length lc) (ha : la.length ≤ ca) (hb : lb.length ≤ cb) (hc : lc.length ≤ cc)
    (xs : (la.length : Int) > 600 ∨ (lb.length : Int) > 600 ∨ (lc.length : Int) > 600) :
    Calls Tryd.prog 4 #[.slice a la.length ca, .slice b lb.length cb, .slice c lc.length cc, .bool wide] W fun e w' => e = .returned (.bool true) ∧ Below W.heap.size W w' := by
  have H0 := Aside0.mk (And.intro HG (And.intro ra (And.intro rb rc)))
  by_cases xa : (la.length : Int) > 600
  · have HX := Aside0.mk (decide_eq_true xa).symm
    clear HG ra rb rc xs xa
    go_enter Tryd.func4, Tryd.ntmps4
    go_wp2_with (first
      | (go_at_call_of 16 (Value.slice a la.length ca); refine (long_c H0.out.2.1 ha true HX.out).mono ?_; rintro e w1 ⟨rfl, hB⟩; have HB1 := Aside0.mk hB; clear hB)
      | (go_at_call 12; refine (imprimaturlaw02_known.calls true _ (H0.out.1.of HB1.out) known_true).mono ?_; rintro e w2 ⟨rfl, hb⟩; have HB2 := Aside0.mk (below_step HB1.out hb); clear hb))
    go_ret
    exact ⟨rfl, HB2.out⟩
  by_cases xb : (lb.length : Int) > 600
  · have HX := Aside0.mk (And.intro (decide_eq_false xa).symm (decide_eq_true xb).symm)
    clear HG ra rb rc xs xa xb
    go_enter Tryd.func4, Tryd.ntmps4
    have T1 := Aside0.mk True.intro
    go_wp2_with (first
      | (go_at_call 16; have tk := T1; clear tk T1; refine (long_c H0.out.2.1 ha false HX.out.1).mono ?_; rintro e w1 ⟨rfl, hB⟩; have HB1 := Aside0.mk hB; clear hB)
      | (go_at_call 16; refine (long_c (Kd.C_below H0.out.2.2.1 HB1.out) hb true HX.out.2).mono ?_; rintro e w2 ⟨rfl, hB⟩; have HB2 := Aside0.mk (below_step HB1.out hB); clear hB)
      | (go_at_call 12; refine (imprimaturlaw02_known.calls true _ (H0.out.1.of HB2.out) known_true).mono ?_; rintro e w3 ⟨rfl, hb⟩; have HB3 := Aside0.mk (below_step HB2.out hb); clear hb))
    go_ret
    exact ⟨rfl, HB3.out⟩
  · have xc : (lc.length : Int) > 600 := xs.resolve_left xa |>.resolve_left xb
    have HX := Aside0.mk (And.intro (decide_eq_false xa).symm (And.intro (decide_eq_false xb).symm (decide_eq_true xc).symm))
    clear HG ra rb rc xs xa xb xc
    go_enter Tryd.func4, Tryd.ntmps4
    have T1 := Aside0.mk True.intro
    have T2 := Aside0.mk True.intro
    go_wp2_with (first
      | (go_at_call 16; have tk := T1; clear tk T1; refine (long_c H0.out.2.1 ha false HX.out.1).mono ?_; rintro e w1 ⟨rfl, hB⟩; have HB1 := Aside0.mk hB; clear hB)
      | (go_at_call 16; have tk := T2; clear tk T2; refine (long_c (Kd.C_below H0.out.2.2.1 HB1.out) hb false HX.out.2.1).mono ?_; rintro e w2 ⟨rfl, hB⟩; have HB2 := Aside0.mk (below_step HB1.out hB); clear hB)
      | (go_at_call 16; refine (long_c (Kd.C_below H0.out.2.2.2 HB2.out) hc true HX.out.2.2).mono ?_; rintro e w3 ⟨rfl, hB⟩; have HB3 := Aside0.mk (below_step HB2.out hB); clear hB)
      | (go_at_call 12; refine (imprimaturlaw02_known.calls true _ (H0.out.1.of HB3.out) known_true).mono ?_; rintro e w4 ⟨rfl, hb⟩; have HB4 := Aside0.mk (below_step HB3.out hb); clear hb))
    go_ret
    exact ⟨rfl, HB4.out⟩
theorem Sha2Asks_walk (a0 : Option Addr) (n0 c0 : Nat) (z0 : List Int) (a1 : Option Addr) (n1 c1 : Nat) (z1 : List Int) (a2 : Option Addr) (n2 c2 : Nat) (z2 : List Int) (wide : Bool) (W : World) (HG : Glb W)
    (h0 : (a0 = none ∧ n0 = 0 ∧ c0 = 0 ∧ z0 = []) ∨ ∃ x, a0 = some x ∧ n0 ≤ c0 ∧ c0 ≤ maxLen ∧ z0.length = c0 ∧ (∀ i, i < z0.length → W.cell? (x.add i) = some (.int .u8 (z0.getD i 0))) ∧ ∀ n ∈ z0, (Lit.int .u8 n).wf = true) (_y0 : n0 * 1 ≤ 140737488351232)
    (h1 : (a1 = none ∧ n1 = 0 ∧ c1 = 0 ∧ z1 = []) ∨ ∃ x, a1 = some x ∧ n1 ≤ c1 ∧ c1 ≤ maxLen ∧ z1.length = c1 ∧ (∀ i, i < z1.length → W.cell? (x.add i) = some (.int .u8 (z1.getD i 0))) ∧ ∀ n ∈ z1, (Lit.int .u8 n).wf = true) (_y1 : n1 * 1 ≤ 140737488351232)
    (h2 : (a2 = none ∧ n2 = 0 ∧ c2 = 0 ∧ z2 = []) ∨ ∃ x, a2 = some x ∧ n2 ≤ c2 ∧ c2 ≤ maxLen ∧ z2.length = c2 ∧ (∀ i, i < z2.length → W.cell? (x.add i) = some (.int .u8 (z2.getD i 0))) ∧ ∀ n ∈ z2, (Lit.int .u8 n).wf = true) (_y2 : n2 * 1 ≤ 140737488351232) :
    Calls Tryd.prog 4 #[.slice a0 n0 c0, .slice a1 n1 c1, .slice a2 n2 c2, .bool wide] W fun e w' => e = .returned (.bool true) ∧ Below W.heap.size W w' := by
  obtain ⟨la, rfl, ra, _, wa, ha⟩ := ReadsInt.ofRowC h0
  obtain ⟨lb, rfl, rb, _, wb, hb⟩ := ReadsInt.ofRowC h1
  obtain ⟨lc, rfl, rc, _, wc, hc⟩ := ReadsInt.ofRowC h2
  have ra' := Kd.C_of_reads (d := (0 : Int)) (h1 := fun _ => rfl) ra
  have rb' := Kd.C_of_reads (d := (0 : Int)) (h1 := fun _ => rfl) rb
  have rc' := Kd.C_of_reads (d := (0 : Int)) (h1 := fun _ => rfl) rc
  by_cases xs : (la.length : Int) > 600 ∨ (lb.length : Int) > 600 ∨ (lc.length : Int) > 600
  · exact asks_long _ _ la _ _ lb _ _ lc wide W HG ra' rb' rc' ha hb hc xs
  · exact asks_walk _ _ la _ _ lb _ _ lc wide W HG ra' rb' rc' ha hb hc (fun x hx => byte_of (wa x hx)) (fun x hx => byte_of (wb x hx)) (fun x hx => byte_of (wc x hx)) (fun h => xs (.inl h)) (fun h => xs (.inr (.inl h))) (fun h => xs (.inr (.inr h)))
end Go.Proofs.YtckjgipkdknmgaaDoor.PSum
