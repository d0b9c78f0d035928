/- A climber in memory: what the top of a part comes to. -/
import Derived.Test.YtdpdmmbdoeefbaaDoorPs
import Derived.Test.YtdpdmmbdoeefbaaDoorWC
namespace Go.Proofs.YtdpdmmbdoeefbaaDoor.X
open Go.RowKit YtdpdmmbdoeefbaaDoorW.PrintWords YtdpdmmbdoeefbaaDoorW.PrintLast YtdpdmmbdoeefbaaDoorW.PrintMore
set_option linter.unusedVariables false
def partR.T1 : Bool × List (List Nat × List Nat) := (true, [([], []), ([], []), ([1], [1]), ([2], [2]), ([3], [3]), ([], []), ([5], [5]), ([6], [6]), ([7], [7]), ([0, 4, 8], [0, 4, 8])])
def partR.B1 : List Nat := [0, 0, 2, 6, 14, 0, 32, 96, 224, 511]
theorem partR.tab1 : rtab .any (opsOf Tryd.f70 1) = partR.T1 := by kernel_rfl
theorem partR.bits1 : waitsOk partR.T1.2 partR.B1 = true := by kernel_rfl
def partR.T9 : Bool × List (List Nat × List Nat) := (true, [([], []), ([0], [0]), ([1], [1]), ([2], [2]), ([], []), ([4], [4]), ([], []), ([6], [6]), ([7], [7]), ([8], [8]), ([5, 9], [5, 9]), ([3, 10], [3, 10]), ([11], [11]), ([12, 0, 1, 2, 3, 4, 5, 6, 7, 8, 9, 10, 11, 12], [12])])
def partR.B9 : List Nat := [0, 1, 3, 7, 0, 16, 0, 64, 192, 448, 1008, 2047, 4095, 8191]
theorem partR.tab9 : rtab .any (opsOf Tryd.f70 9) = partR.T9 := by kernel_rfl
theorem partR.bits9 : waitsOk partR.T9.2 partR.B9 = true := by kernel_rfl

theorem info_row : (Tryd.prog.info? 22).map (fun i => (i.zero, i.size, i.bytes)) = some (some (.slice none 0 0), 1, 24) := by kernel_rfl
set_option maxRecDepth 100000 in
set_option maxHeartbeats 4000000 in
theorem part_none (p f t a n : Nat) (LV PV : Value) (sh : Bool) (w : World) (hc : ClAt w p f t LV PV sh) (hp : Np w p PV [])
    (hout : ∀ w, Calls Tryd.prog 81 #[.agg #[.int .i64 a, .int .i64 n], .int .i64 f, .int .i64 t] w fun e w' => e = .returned (.bool true) ∧ Below w.heap.size w w') :
    Calls Tryd.prog 70 #[.pointer (some ⟨p, 0, none⟩), .agg #[.int .i64 a, .int .i64 n]] w fun e w' => e = .returned (.slice none 0 0) ∧ ClAt w' p f t LV PV true ∧ w.grownBy w' (some p) := by
  obtain ⟨A, c, rfl, h1, h2⟩ := hp
  go_enter Tryd.func70, Tryd.ntmps70
  go_upto_region 1 with (first | ((with_reducible refine gate_dst (N := 3) rfl ?_); refine box_event ?hg (N := 3) ?hd (cs := #[.int .i64 a, .int .i64 n]) (t := 81) ?hr ?_; (case hd => rfl); (case hg => rfl); (case hr => first | (go_simp; done) | (go_simp; rfl)); intro gb hgb w2 hbox hb2; clear hgb))
  have hc2 := hc.below hb2
  have HK := aM (And.intro hc2 (And.intro hb2 hbox))
  refine start_ (n := 10) (S := fun w' => (w'.cell? ⟨gb, 0, none⟩ = some (.int .i64 a) ∧ w'.cell? ⟨gb, 1, none⟩ = some (.int .i64 n)) ∧ w'.cell? ⟨p, 0, none⟩ = some (.int .i64 f) ∧ w'.cell? ⟨p, 1, none⟩ = some (.int .i64 t)) (ds := []) (fl 10 0) (by kernel_rfl) rfl rfl ⟨⟨(blk_cell hbox 0).trans rfl, (blk_cell hbox 1).trans rfl⟩, hc2.c0, hc2.c1⟩ (fun hHeld => ?_)
  refine with_tabW partR.tab1 partR.bits1 (fun HT_ HW_ => ?_)
  refine tB 0 9 10 1 hHeld ?_
  refine pB 1 10 10 3 ?_
  refine pB 2 11 10 7 ?_
  refine pB 3 12 10 15 ?_
  refine tB 4 13 10 31 hHeld ?_
  refine pB 5 14 10 63 ?_
  refine pB 6 15 10 127 ?_
  refine pB 7 16 10 255 ?_
  refine tB 8 17 10 511 hHeld ?_
  refine one_ (i := 9) (N := some 18) (fl 10 1023) rfl rfl (one_of HT_.out (by kernel_rfl)) (by decide) (fun K hK => ?_)
  refine goes_ Tryd.func81 (by kernel_rfl) rfl #[.agg #[.int .i64 a, .int .i64 n], .int .i64 f, .int .i64 t] (by rfl) rfl rfl eqA ?_
  with_reducible refine (hout _).mono ?_
  rintro e w3 ⟨rfl, hb3⟩
  refine ⟨_, rfl, ?_⟩
  have hb23 : Below w2.heap.size w2 w3 := (by first | exact hb3 | exact below_step (below_drew1 (Below.refl _ _)) hb3)
  have hc3 := hc2.below hb23
  have HK3 := aM (And.intro hc3 (below_step hb2 hb23))
  refine hK.out _ _ ⟨⟨(blk_cell (blk_below hbox hb23) 0).trans rfl, (blk_cell (blk_below hbox hb23) 1).trans rfl⟩, hc3.c0, hc3.c1⟩ (fun hHeld => ?_)
  clear hK K
  refine normA (some 18) ?_
  refine done_ (done_of HT_.out (by kernel_rfl)) ?_
  have hc3_3 := hc3.c3
  have hc3_4 := hc3.c4
  have hc3_f := hc3.frozen 4
  clear hc2 hc hb2 hb3 hb23 hbox hHeld HK
  go_wp2
  go_ret
  exact ⟨rfl, HK3.out.1.setShort, grown_trans (grown_below HK3.out.2 p) (grown_set _ p 4 _)⟩
set_option maxRecDepth 100000 in
set_option maxHeartbeats 4000000 in
theorem part_out (p f t a n : Nat) (LV PV : Value) (sh : Bool) (w : World) (hc : ClAt w p f t LV PV sh) {pr : List (List Int)} (hp : Np w p PV pr) (h0 : 1 ≤ pr.length)
    (hout : ∀ w, Calls Tryd.prog 81 #[.agg #[.int .i64 a, .int .i64 n], .int .i64 f, .int .i64 t] w fun e w' => e = .returned (.bool true) ∧ Below w.heap.size w w') :
    Calls Tryd.prog 70 #[.pointer (some ⟨p, 0, none⟩), .agg #[.int .i64 a, .int .i64 n]] w fun e w' => ∃ v PV', e = .returned v ∧ Bp w' p v (pr.getD 0 []) ∧ Np w' p PV' (pr.drop 1) ∧ ClAt w' p f t LV PV' sh ∧ w.grownBy w' (some p) := by
  obtain ⟨ad, c, A1, c1, rfl, hlc, hcell, hl1, hB⟩ := hp.get (i := 0) (by omega)
  obtain ⟨i0, hi0, _, hsz, _⟩ := info_parts info_row
  obtain ⟨m, hm⟩ : ∃ m, m = pr.length := ⟨_, rfl⟩
  obtain ⟨b1, hb1⟩ : ∃ m, m = (pr.getD 0 []).length := ⟨_, rfl⟩
  rw [← hm] at hlc h0 hc hp
  rw [← hb1] at hcell hB hl1
  have hcut0 := cut_from (P := Tryd.prog) 23 22 .i64 Tryd.underlying23 hi0 1 hsz (some ad) m c 1 (by decide) (by omega)
  have hcp := hp.cut1 (by rw [← hm]; exact h0)
  obtain ⟨A2, hA2⟩ : ∃ A2, A2 = (if c = 1 then (some ad) else (some ad).map (·.add 1)) := ⟨_, rfl⟩
  obtain ⟨m2, hm2⟩ : ∃ m2, m2 = m - 1 := ⟨_, rfl⟩
  obtain ⟨c2, hc2'⟩ : ∃ m2, m2 = c - 1 := ⟨_, rfl⟩
  have hcut : ∀ W : World, (Instr.slice 23 (.slice (some ad) m c) (some (.int .i64 1)) none none).run Tryd.prog W = .ok (.slice A2 m2 c2) W := by
    intro W
    rw [hA2, hm2, hc2']
    exact hcut0 W
  rw [← hA2, ← hm2, ← hc2'] at hcp
  have HP := aM (And.intro hcp (And.intro hB hcell))
  have hm0 : ((m : Int) == 0) = false := beq_eq_false_iff_ne.2 (by omega)
  have hq0 : ((0 : Int) < (m : Int)) = True := eq_true (by omega)
  have hq1 : (0 < m) = True := eq_true (by omega)
  have hq2 : ((1 : Int) ≤ (m : Int)) = True := eq_true (by omega)
  clear hcut0 hcp hB hA2 hm2 hc2' hm hb1 hl1 hp hcell hlc hi0 hsz h0
  go_enter Tryd.func70, Tryd.ntmps70
  go_upto_region 1 with (first | ((with_reducible refine gate_dst (N := 3) rfl ?_); refine box_event ?hg (N := 3) ?hd (cs := #[.int .i64 a, .int .i64 n]) (t := 81) ?hr ?_; (case hd => rfl); (case hg => rfl); (case hr => first | (go_simp; done) | (go_simp; rfl)); intro gb hgb w2 hbox hb2; clear hgb))
  have hc2 := hc.below hb2
  have HK := aM (And.intro hc2 (And.intro hb2 hbox))
  refine start_ (n := 10) (S := fun w' => (w'.cell? ⟨gb, 0, none⟩ = some (.int .i64 a) ∧ w'.cell? ⟨gb, 1, none⟩ = some (.int .i64 n)) ∧ w'.cell? ⟨p, 0, none⟩ = some (.int .i64 f) ∧ w'.cell? ⟨p, 1, none⟩ = some (.int .i64 t)) (ds := []) (fl 10 0) (by kernel_rfl) rfl rfl ⟨⟨(blk_cell hbox 0).trans rfl, (blk_cell hbox 1).trans rfl⟩, hc2.c0, hc2.c1⟩ (fun hHeld => ?_)
  refine with_tabW partR.tab1 partR.bits1 (fun HT_ HW_ => ?_)
  refine tB 0 9 10 1 hHeld ?_
  refine pB 1 10 10 3 ?_
  refine pB 2 11 10 7 ?_
  refine pB 3 12 10 15 ?_
  refine tB 4 13 10 31 hHeld ?_
  refine pB 5 14 10 63 ?_
  refine pB 6 15 10 127 ?_
  refine pB 7 16 10 255 ?_
  refine tB 8 17 10 511 hHeld ?_
  refine one_ (i := 9) (N := some 18) (fl 10 1023) rfl rfl (one_of HT_.out (by kernel_rfl)) (by decide) (fun K hK => ?_)
  refine goes_ Tryd.func81 (by kernel_rfl) rfl #[.agg #[.int .i64 a, .int .i64 n], .int .i64 f, .int .i64 t] (by rfl) rfl rfl eqA ?_
  with_reducible refine (hout _).mono ?_
  rintro e w3 ⟨rfl, hb3⟩
  refine ⟨_, rfl, ?_⟩
  have hb23 : Below w2.heap.size w2 w3 := (by first | exact hb3 | exact below_step (below_drew1 (Below.refl _ _)) hb3)
  have hc3 := hc2.below hb23
  have HK3 := aM (And.intro hc3 (below_step hb2 hb23))
  refine hK.out _ _ ⟨⟨(blk_cell (blk_below hbox hb23) 0).trans rfl, (blk_cell (blk_below hbox hb23) 1).trans rfl⟩, hc3.c0, hc3.c1⟩ (fun hHeld => ?_)
  clear hK K
  refine normA (some 18) ?_
  refine done_ (done_of HT_.out (by kernel_rfl)) ?_
  have hc3_3 := hc3.c3
  have hc3_4 := hc3.c4
  have hc3_f := hc3.frozen 4
  clear hc2 hc hb2 hb3 hb23 hbox hHeld HK
  have hg23 := HK3.out.2
  have hx := (HP.out.2.2 |> fun h => (hg23.cell (World.block_lt_of_cell? _ _ h)).trans h)
  have hx' : w3.cell? ad = some (.slice A1 b1 c1) := by simpa [Addr.add] using hx
  have hc3_f3 := hc3.frozen 3
  clear hg23
  go_wp2
  go_ret
  have hgs := grown_trans (grown_below HK3.out.2 p) (grown_set w3 p 3 (.slice A2 m2 c2))
  exact ⟨_, _, rfl, HP.out.2.1.grown hgs, HP.out.1.grown hgs, HK3.out.1.setProof _, hgs⟩
set_option maxRecDepth 100000 in
set_option maxHeartbeats 4000000 in
theorem part_leaf (p f t a n : Nat) (lv : List (List Int)) (hn : n = 1) (hfa : f ≤ a) (ha : a < f + lv.length) (ha4 : a ≤ 100000) (LV PV : Value) (sh : Bool) (w : World) (hc : ClAt w p f t LV PV sh) (hL : Np w p LV lv)
    (hout : ∀ w, Calls Tryd.prog 81 #[.agg #[.int .i64 a, .int .i64 n], .int .i64 f, .int .i64 t] w fun e w' => e = .returned (.bool false) ∧ Below w.heap.size w w') :
    Calls Tryd.prog 70 #[.pointer (some ⟨p, 0, none⟩), .agg #[.int .i64 a, .int .i64 n]] w fun e w' => ∃ v, e = .returned v ∧ Bp w' p v (lv.getD (a - f) []) ∧ ClAt w' p f t LV PV sh ∧ w.grownBy w' (some p) := by
  obtain ⟨j, hj⟩ : ∃ j, j = a - f := ⟨_, rfl⟩
  rw [← hj]
  obtain ⟨ad, c, A1, c1, rfl, hlc, hcell, hl1, hB⟩ := hL.get (i := j) (by omega)
  obtain ⟨m, hm⟩ : ∃ m, m = lv.length := ⟨_, rfl⟩
  obtain ⟨b1, hb1⟩ : ∃ m, m = (lv.getD j []).length := ⟨_, rfl⟩
  rw [← hm] at hlc hc hL
  rw [← hb1] at hcell hB hl1
  have hsub : (a : Int) - (f : Int) = (j : Int) := by omega
  have HP := aM (And.intro hsub (And.intro hB hcell))
  have HW := aM (And.intro (show wrap64 (j : Int) = (j : Int) by unfold wrap64; omega) hm)
  have q0 : (0 ≤ (j : Int)) = True := eq_true (by omega)
  have q1 : ((j : Int) < (m : Int)) = True := eq_true (by omega)
  have q2 : (j < m) = True := eq_true (by omega)
  have haI : (a : Int) ≤ 100000 := by omega
  have hfI : (f : Int) ≤ 100000 := by omega
  have hn1 : ((n : Int) == 1) = true := beq_iff_eq.2 (by omega)
  clear hB hb1 hl1 hcell hlc hsub hL hm hj hn ha hfa ha4
  go_enter Tryd.func70, Tryd.ntmps70
  go_upto_region 1 with (first | ((with_reducible refine gate_dst (N := 3) rfl ?_); refine box_event ?hg (N := 3) ?hd (cs := #[.int .i64 a, .int .i64 n]) (t := 81) ?hr ?_; (case hd => rfl); (case hg => rfl); (case hr => first | (go_simp; done) | (go_simp; rfl)); intro gb hgb w2 hbox hb2; clear hgb))
  have hc2 := hc.below hb2
  have HK := aM (And.intro hc2 (And.intro hb2 hbox))
  refine start_ (n := 10) (S := fun w' => (w'.cell? ⟨gb, 0, none⟩ = some (.int .i64 a) ∧ w'.cell? ⟨gb, 1, none⟩ = some (.int .i64 n)) ∧ w'.cell? ⟨p, 0, none⟩ = some (.int .i64 f) ∧ w'.cell? ⟨p, 1, none⟩ = some (.int .i64 t)) (ds := []) (fl 10 0) (by kernel_rfl) rfl rfl ⟨⟨(blk_cell hbox 0).trans rfl, (blk_cell hbox 1).trans rfl⟩, hc2.c0, hc2.c1⟩ (fun hHeld => ?_)
  refine with_tabW partR.tab1 partR.bits1 (fun HT_ HW_ => ?_)
  refine tB 0 9 10 1 hHeld ?_
  refine pB 1 10 10 3 ?_
  refine pB 2 11 10 7 ?_
  refine pB 3 12 10 15 ?_
  refine tB 4 13 10 31 hHeld ?_
  refine pB 5 14 10 63 ?_
  refine pB 6 15 10 127 ?_
  refine pB 7 16 10 255 ?_
  refine tB 8 17 10 511 hHeld ?_
  refine one_ (i := 9) (N := some 18) (fl 10 1023) rfl rfl (one_of HT_.out (by kernel_rfl)) (by decide) (fun K hK => ?_)
  refine goes_ Tryd.func81 (by kernel_rfl) rfl #[.agg #[.int .i64 a, .int .i64 n], .int .i64 f, .int .i64 t] (by rfl) rfl rfl eqA ?_
  with_reducible refine (hout _).mono ?_
  rintro e w3 ⟨rfl, hb3⟩
  refine ⟨_, rfl, ?_⟩
  have hb23 : Below w2.heap.size w2 w3 := (by first | exact hb3 | exact below_step (below_drew1 (Below.refl _ _)) hb3)
  have hc3 := hc2.below hb23
  have HK3 := aM (And.intro hc3 (below_step hb2 hb23))
  refine hK.out _ _ ⟨⟨(blk_cell (blk_below hbox hb23) 0).trans rfl, (blk_cell (blk_below hbox hb23) 1).trans rfl⟩, hc3.c0, hc3.c1⟩ (fun hHeld => ?_)
  clear hK K
  refine normA (some 18) ?_
  refine done_ (done_of HT_.out (by kernel_rfl)) ?_
  have hg23 := HK3.out.2
  have hx := (HP.out.2.2 |> fun h => (hg23.cell (World.block_lt_of_cell? _ _ h)).trans h)
  have hbx := blk_below hbox hb23
  have hz0 : w3.cell? ⟨gb, 0, none⟩ = some (.int .i64 a) := (blk_cell hbx 0).trans rfl
  have hz1 : w3.cell? ⟨gb, 1, none⟩ = some (.int .i64 n) := (blk_cell hbx 1).trans rfl
  clear hg23 hc2 hc hb2 hb3 hb23 hbox hHeld HK
  go_upto_region 9 with (fail)
  refine start_ (n := 14) (S := fun w' => (w'.cell? ⟨gb, 0, none⟩ = some (.int .i64 a) ∧ w'.cell? (ad.add j) = some (.slice A1 b1 c1)) ∧ w'.cell? ⟨p, 0, none⟩ = some (.int .i64 f) ∧ w'.cell? ⟨p, 2, none⟩ = some (.slice (some ad) m c)) (ds := []) (fl 14 0) (by kernel_rfl) rfl rfl ⟨⟨hz0, hx⟩, hc3.c0, hc3.c2⟩ (fun hHeld => ?_)
  refine with_tabW partR.tab9 partR.bits9 (fun HT_ HW_ => ?_)
  refine pB 0 46 14 1 ?_
  refine pB 1 47 14 3 ?_
  refine pB 2 48 14 7 ?_
  refine tB 3 49 14 15 hHeld ?_
  refine pB 4 50 14 31 ?_
  refine tB 5 51 14 63 hHeld ?_
  refine pB 6 52 14 127 ?_
  refine pB 7 53 14 255 ?_
  refine pB 8 54 14 511 ?_
  refine tB 9 55 14 1023 hHeld ?_
  refine pB 10 56 14 2047 ?_
  rw [HP.out.1, HW.out.1]
  refine pB 11 57 14 4095 ?_
  refine tB 12 58 14 8191 hHeld ?_
  refine pB 13 4 14 16383 ?_
  refine done_ (done_of HT_.out (by kernel_rfl)) ?_
  go_wp2
  go_ret
  have hb9 : Below w3.heap.size w3 _ := below_drew1 (Below.refl _ _)
  have hgs := grown_below (below_step HK3.out.2 hb9) p
  exact ⟨_, rfl, HP.out.2.1.grown hgs, (by rw [← HW.out.2]; exact HK3.out.1.below hb9), hgs⟩
/-- Two rows, laid side by side. -/
theorem row2 {w : World} {p : Nat} {A1 A2 : Option Addr} {n1 n2 c1 c2 : Nat} {x1 x2 : List Int} (h1 : Bp w p (.slice A1 n1 c1) x1) (h2 : Bp w p (.slice A2 n2 c2) x2) :
    Kd.C dB (w.alloc (.cells #[.slice A1 n1 c1, .slice A2 n2 c2] 22)) (some ⟨w.heap.size, 0, none⟩) 2 [x1, x2] := by
  obtain ⟨A, c, e, hl1, hF1⟩ := h1
  injection e with e1 e2 e3
  subst e1 e2 e3
  obtain ⟨A, c, e, hl2, hF2⟩ := h2
  injection e with e1 e2 e3
  subst e1 e2 e3
  have K1 := Kd.C_below (Kd.F_now hF1) (below_alloc (Below.refl w.heap.size w) (.cells #[.slice A1 x1.length c1, .slice A2 x2.length c2] 22))
  have K2 := Kd.C_below (Kd.F_now hF2) (below_alloc (Below.refl w.heap.size w) (.cells #[.slice A1 x1.length c1, .slice A2 x2.length c2] 22))
  have h0 : ∀ j, (w.alloc (.cells #[.slice A1 x1.length c1, .slice A2 x2.length c2] 22)).cell? ((⟨w.heap.size, 0, none⟩ : Addr).add (j * 1 + 0)) = ([Value.slice A1 x1.length c1, .slice A2 x2.length c2])[j]? := fun j => by
    have h6 := blk_cell (Go.Proofs.YtdpdmmbdoeefbaaDoor.H.new1 w (.cells #[.slice A1 x1.length c1, .slice A2 x2.length c2] 22)) j
    rw [show j * 1 + 0 = j by omega, show (⟨w.heap.size, 0, none⟩ : Addr).add j = ⟨w.heap.size, j, none⟩ by simp [Addr.add]; intro h; exact h.symm]
    refine h6.trans ?_
    simp
  refine ⟨rfl, by decide, fun _ => ⟨_, rfl, fun j x hj => ?_⟩⟩
  rcases j with _ | _ | j
  · obtain rfl : x1 = x := by simpa using hj
    refine ⟨[.slice A1 x1.length c1], rfl, ⟨A1, c1, rfl, hl1, K1⟩, fun i u hu => ?_⟩
    have hi0 : i = 0 := by have := (List.getElem?_eq_some_iff.1 hu).1; simpa using this
    subst hi0
    obtain rfl : Value.slice A1 x1.length c1 = u := by simpa using hu
    exact h0 0
  · obtain rfl : x2 = x := by simpa using hj
    refine ⟨[.slice A2 x2.length c2], rfl, ⟨A2, c2, rfl, hl2, K2⟩, fun i u hu => ?_⟩
    have hi0 : i = 0 := by have := (List.getElem?_eq_some_iff.1 hu).1; simpa using this
    subst hi0
    obtain rfl : Value.slice A2 x2.length c2 = u := by simpa using hu
    exact h0 1
  simp at hj
set_option maxRecDepth 100000 in
set_option maxHeartbeats 4000000 in
theorem part_node (p f t a n : Nat) (LV PV : Value) (sh : Bool) (w : World) (hc : ClAt w p f t LV PV sh) (pr : List (List Int)) (x1 x2 y : List Int) (pr1 pr2 : List (List Int)) (sh1 sh2 : Bool) (h b m : Int) (hn : (n : Int) ≠ 1) (hP : Np w p PV pr)
    (hhalf : ∀ w, Calls Tryd.prog 83 #[.agg #[.int .i64 a, .int .i64 n]] w fun e w' => e = .returned (.tuple #[.agg #[.int .i64 a, .int .i64 h], .agg #[.int .i64 b, .int .i64 m]]) ∧ Below w.heap.size w w')
    (ih1 : ∀ w1, w.grownBy w1 (some p) → ClAt w1 p f t LV PV sh → Calls Tryd.prog 70 #[.pointer (some ⟨p, 0, none⟩), .agg #[.int .i64 a, .int .i64 h]] w1 fun e w' => ∃ v PV', e = .returned v ∧ Bp w' p v x1 ∧ Np w' p PV' pr1 ∧ ClAt w' p f t LV PV' sh1 ∧ w1.grownBy w' (some p))
    (ih2 : ∀ w1 PV1, w.grownBy w1 (some p) → Np w1 p PV1 pr1 → ClAt w1 p f t LV PV1 sh1 → Calls Tryd.prog 70 #[.pointer (some ⟨p, 0, none⟩), .agg #[.int .i64 b, .int .i64 m]] w1 fun e w' => ∃ v PV', e = .returned v ∧ Bp w' p v x2 ∧ Np w' p PV' pr2 ∧ ClAt w' p f t LV PV' sh2 ∧ w1.grownBy w' (some p))
    (hdig : ∀ w1 A c, w.grownBy w1 (some p) → Kd.C dB w1 A 2 [x1, x2] → 2 ≤ c → Calls Tryd.prog 53 #[.int .u8 1, .slice A 2 c] w1 fun e w' => ∃ v, e = .returned v ∧ Bp w' p v y ∧ Below w1.heap.size w1 w')
    (hout : ∀ w, Calls Tryd.prog 81 #[.agg #[.int .i64 a, .int .i64 n], .int .i64 f, .int .i64 t] w fun e w' => e = .returned (.bool false) ∧ Below w.heap.size w w') :
    Calls Tryd.prog 70 #[.pointer (some ⟨p, 0, none⟩), .agg #[.int .i64 a, .int .i64 n]] w fun e w' => ∃ v PV', e = .returned v ∧ Bp w' p v y ∧ Np w' p PV' pr2 ∧ ClAt w' p f t LV PV' sh2 ∧ w.grownBy w' (some p) := by
  have hn1 : ((n : Int) == 1) = false := beq_eq_false_iff_ne.2 hn
  have HI := aM (And.intro ih1 (And.intro ih2 hdig))
  clear ih1 ih2 hdig hn
  go_enter Tryd.func70, Tryd.ntmps70
  go_upto_region 1 with (first | ((with_reducible refine gate_dst (N := 3) rfl ?_); refine box_event ?hg (N := 3) ?hd (cs := #[.int .i64 a, .int .i64 n]) (t := 81) ?hr ?_; (case hd => rfl); (case hg => rfl); (case hr => first | (go_simp; done) | (go_simp; rfl)); intro gb hgb w2 hbox hb2; clear hgb))
  have hc2 := hc.below hb2
  have HK := aM (And.intro hc2 (And.intro hb2 hbox))
  refine start_ (n := 10) (S := fun w' => (w'.cell? ⟨gb, 0, none⟩ = some (.int .i64 a) ∧ w'.cell? ⟨gb, 1, none⟩ = some (.int .i64 n)) ∧ w'.cell? ⟨p, 0, none⟩ = some (.int .i64 f) ∧ w'.cell? ⟨p, 1, none⟩ = some (.int .i64 t)) (ds := []) (fl 10 0) (by kernel_rfl) rfl rfl ⟨⟨(blk_cell hbox 0).trans rfl, (blk_cell hbox 1).trans rfl⟩, hc2.c0, hc2.c1⟩ (fun hHeld => ?_)
  refine with_tabW partR.tab1 partR.bits1 (fun HT_ HW_ => ?_)
  refine tB 0 9 10 1 hHeld ?_
  refine pB 1 10 10 3 ?_
  refine pB 2 11 10 7 ?_
  refine pB 3 12 10 15 ?_
  refine tB 4 13 10 31 hHeld ?_
  refine pB 5 14 10 63 ?_
  refine pB 6 15 10 127 ?_
  refine pB 7 16 10 255 ?_
  refine tB 8 17 10 511 hHeld ?_
  refine one_ (i := 9) (N := some 18) (fl 10 1023) rfl rfl (one_of HT_.out (by kernel_rfl)) (by decide) (fun K hK => ?_)
  refine goes_ Tryd.func81 (by kernel_rfl) rfl #[.agg #[.int .i64 a, .int .i64 n], .int .i64 f, .int .i64 t] (by rfl) rfl rfl eqA ?_
  with_reducible refine (hout _).mono ?_
  rintro e w3 ⟨rfl, hb3⟩
  refine ⟨_, rfl, ?_⟩
  have hb23 : Below w2.heap.size w2 w3 := (by first | exact hb3 | exact below_step (below_drew1 (Below.refl _ _)) hb3)
  have hc3 := hc2.below hb23
  have HK3 := aM (And.intro hc3 (below_step hb2 hb23))
  refine hK.out _ _ ⟨⟨(blk_cell (blk_below hbox hb23) 0).trans rfl, (blk_cell (blk_below hbox hb23) 1).trans rfl⟩, hc3.c0, hc3.c1⟩ (fun hHeld => ?_)
  clear hK K
  refine normA (some 18) ?_
  refine done_ (done_of HT_.out (by kernel_rfl)) ?_
  have hbx := blk_below hbox hb23
  have hz0 : w3.cell? ⟨gb, 0, none⟩ = some (.int .i64 a) := (blk_cell hbx 0).trans rfl
  have hz1 : w3.cell? ⟨gb, 1, none⟩ = some (.int .i64 n) := (blk_cell hbx 1).trans rfl
  clear hc2 hc hb2 hb3 hb23 hbox hHeld HK
  go_upto_region 11 with (first
    | (go_at_call 83; with_reducible refine (hhalf _).mono ?_; rintro e w4 ⟨rfl, hb4⟩; have hz40 := (hb4.cell (World.block_lt_of_cell? _ _ hz0)).trans hz0; have hz41 := (hb4.cell (World.block_lt_of_cell? _ _ hz1)).trans hz1)
    | ((with_reducible refine gate_dst (N := 6) rfl ?_); refine box_event ?hg (N := 6) ?hd (cs := #[.int .i64 0, .int .i64 0]) (t := 81) ?hr ?_; (case hd => rfl); (case hg => rfl); (case hr => first | (go_simp; done) | (go_simp; rfl)); intro g6 hgg6 wg6 hbg6 hbbg6; have Hg6 := aM (And.intro hgg6 (And.intro hbg6 hbbg6));  clear hgg6 hbg6 hbbg6)
    | ((with_reducible refine gate_dst (N := 7) rfl ?_); refine box_event ?hg (N := 7) ?hd (cs := #[.int .i64 0, .int .i64 0]) (t := 81) ?hr ?_; (case hd => rfl); (case hg => rfl); (case hr => first | (go_simp; done) | (go_simp; rfl)); intro g7 hgg7 wg7 hbg7 hbbg7; have Hg7 := aM (And.intro hgg7 (And.intro hbg7 hbbg7)); have hlt67 := (blk_lt Hg6.out.2.1); have hne67 : g6 ≠ g7 := (by rw [Hg7.out.1]; exact Nat.ne_of_lt hlt67); have hne76 : g7 ≠ g6 := hne67.symm; have hfr60 := blk_frozen (blk_below Hg6.out.2.1 hbbg7) 0; have hfr61 := blk_frozen (blk_below Hg6.out.2.1 hbbg7) 1; have hce60 : wg7.cell? ⟨g6, 0, none⟩ = some (.int .i64 0) := (blk_cell (blk_below Hg6.out.2.1 hbbg7) 0).trans rfl; have hce61 : wg7.cell? ⟨g6, 1, none⟩ = some (.int .i64 0) := (blk_cell (blk_below Hg6.out.2.1 hbbg7) 1).trans rfl; have hce70 : wg7.cell? ⟨g7, 0, none⟩ = some (.int .i64 0) := (blk_cell Hg7.out.2.1 0).trans rfl; have hce71 : wg7.cell? ⟨g7, 1, none⟩ = some (.int .i64 0) := (blk_cell Hg7.out.2.1 1).trans rfl; have hfr70 := blk_frozen Hg7.out.2.1 0; have hfr71 := blk_frozen Hg7.out.2.1 1; clear hlt67;  clear hgg7 hbg7 hbbg7))
  clear hce60 hce61 hce70 hce71 hfr60 hfr61 hfr70 hfr71 hz0 hz1 hz40 hz41
  have hb37 : Below w3.heap.size w3 wg7 := below_step (below_step hb4 Hg6.out.2.2) Hg7.out.2.2
  have hB0 : Below w.heap.size w wg7 := below_step HK3.out.2 hb37
  have hg6 : w.heap.size ≤ g6 := by rw [Hg6.out.1]; exact Nat.le_trans HK3.out.2.size hb4.size
  have hg7 : w.heap.size ≤ g7 := by rw [Hg7.out.1]; exact Nat.le_trans (Nat.le_trans HK3.out.2.size hb4.size) Hg6.out.2.2.size
  have hb6 : (wg7.setCell ⟨g6, 0, none⟩ (.int .i64 a)).heap[g6]? = some (.cells #[.int .i64 a, .int .i64 0] 81 (0, 0)) := blk_put (blk_below Hg6.out.2.1 Hg7.out.2.2) 0 _ (by simp)
  have hb61 : ((wg7.setCell ⟨g6, 0, none⟩ (.int .i64 a)).setCell ⟨g6, 1, none⟩ (.int .i64 h)).heap[g6]? = some (.cells #[.int .i64 a, .int .i64 h] 81 (0, 0)) := blk_put hb6 1 _ (by simp)
  have hpl := HK3.out.1.lt
  have hp6 : p ≠ g6 := by rw [Hg6.out.1]; exact Nat.ne_of_lt (Nat.lt_of_lt_of_le hpl hb4.size)
  have hp7 : p ≠ g7 := by rw [Hg7.out.1]; exact Nat.ne_of_lt (Nat.lt_of_lt_of_le hpl (Nat.le_trans hb4.size Hg6.out.2.2.size))
  have hcw := blk_below HK3.out.1.blk hb37
  obtain ⟨W, hW⟩ : ∃ W, W = ((((wg7.setCell ⟨g6, 0, none⟩ (.int .i64 a)).setCell ⟨g6, 1, none⟩ (.int .i64 h)).setCell ⟨g7, 0, none⟩ (.int .i64 b)).setCell ⟨g7, 1, none⟩ (.int .i64 m)) := ⟨_, rfl⟩
  have hBW : Below w.heap.size w W := by rw [hW]; exact below_set (below_set (below_set (below_set hB0 hg6) hg6) hg7) hg7
  have hCW : W.heap[p]? = wg7.heap[p]? := by
    rw [hW, Below.heap_setCell _ _ _ _ hp7, Below.heap_setCell _ _ _ _ hp7, Below.heap_setCell _ _ _ _ hp6, Below.heap_setCell _ _ _ _ hp6]
  have hCW2 : ClAt W p f t LV PV sh := ⟨hCW.trans hcw⟩
  have h6W : W.heap[g6]? = some (.cells #[.int .i64 a, .int .i64 h] 81 (0, 0)) := by
    rw [hW, Below.heap_setCell _ _ _ _ hne67, Below.heap_setCell _ _ _ _ hne67]; exact hb61
  have hb7 : ((wg7.setCell ⟨g6, 0, none⟩ (.int .i64 a)).setCell ⟨g6, 1, none⟩ (.int .i64 h)).heap[g7]? = some (.cells #[.int .i64 0, .int .i64 0] 81 (0, 0)) := by
    rw [Below.heap_setCell _ _ _ _ hne76, Below.heap_setCell _ _ _ _ hne76]; exact Hg7.out.2.1
  have hb70 : (((wg7.setCell ⟨g6, 0, none⟩ (.int .i64 a)).setCell ⟨g6, 1, none⟩ (.int .i64 h)).setCell ⟨g7, 0, none⟩ (.int .i64 b)).heap[g7]? = some (.cells #[.int .i64 b, .int .i64 0] 81 (0, 0)) := blk_put hb7 0 _ (by simp)
  have h7W : W.heap[g7]? = some (.cells #[.int .i64 b, .int .i64 m] 81 (0, 0)) := by
    rw [hW]; exact blk_put hb70 1 _ (by simp)
  rw [← hW]
  clear hW hb6 hb61 hb7 hb70 hCW hcw
  have h60 : W.cell? ⟨g6, 0, none⟩ = some (.int .i64 a) := (blk_cell h6W 0).trans rfl
  have h61 : W.cell? ⟨g6, 1, none⟩ = some (.int .i64 h) := (blk_cell h6W 1).trans rfl
  have H70 := aM (show W.cell? ⟨g7, 0, none⟩ = some (.int .i64 b) from (blk_cell h7W 0).trans rfl)
  have H71 := aM (show W.cell? ⟨g7, 1, none⟩ = some (.int .i64 m) from (blk_cell h7W 1).trans rfl)
  have Hne := aM (show some g7 ≠ some p from fun e => hp7 (by injection e with e; exact e.symm))
  have HWg := aM (grown_below hBW p)
  have HC2 := aM hCW2
  have H7 := aM h7W
  clear hBW hCW2 h7W h6W hb37 hB0 hg6 hg7 hpl
  go_wp2_with (first
    | (go_at_call 70; with_reducible refine (HI.out.1 _ HWg.out HC2.out).mono ?_; rintro e w5 ⟨v5, PV5, rfl, hB5, hN5, hC5, hg5⟩; obtain ⟨A5, c5, rfl⟩ := hB5.slice; have h70 : w5.cell? ⟨g7, 0, none⟩ = some (.int .i64 b) := hg5.cell H70.out Hne.out; have h71 : w5.cell? ⟨g7, 1, none⟩ = some (.int .i64 m) := hg5.cell H71.out Hne.out; have H5 := aM (And.intro hB5 (And.intro hN5 (And.intro hC5 (grown_trans HWg.out hg5)))); clear hB5 hN5 hC5 hg5)
    | (go_at_call 70; with_reducible refine (HI.out.2.1 _ _ H5.out.2.2.2 H5.out.2.1 H5.out.2.2.1).mono ?_; rintro e w6 ⟨v6, PV6, rfl, hB6, hN6, hC6, hg6⟩; obtain ⟨A6, c6, rfl⟩ := hB6.slice; have H6 := aM (And.intro (H5.out.1.grown hg6) (And.intro hB6 (And.intro hN6 (And.intro hC6 (grown_trans H5.out.2.2.2 hg6))))); clear hB6 hN6 hC6 hg6)
    | (go_at_call 53; with_reducible refine (HI.out.2.2 _ (some ⟨w6.heap.size, 0, none⟩) 2 (grown_trans H6.out.2.2.2.2 (grown_below (below_alloc (Below.refl _ _) _) p)) (row2 H6.out.1 H6.out.2.1) (Nat.le_refl 2)).mono ?_; rintro e w8 ⟨v8, rfl, hB8, hb8⟩; obtain ⟨A8, c8, rfl⟩ := hB8.slice; have H8 := aM (And.intro hB8 (below_step (below_alloc (Below.refl _ _) _) hb8)); clear hB8 hb8))
  go_ret
  have hg8 := grown_below H8.out.2 p
  exact ⟨_, _, rfl, H8.out.1, H6.out.2.2.1.grown hg8, H6.out.2.2.2.1.below H8.out.2, grown_trans H6.out.2.2.2.2 hg8⟩
end Go.Proofs.YtdpdmmbdoeefbaaDoor.X
