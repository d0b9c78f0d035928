/- The law TopChunks: the walk. -/
import Derived.Test.YtbenedckmapjoaaDoorTc
namespace Go.Proofs.YtbenedckmapjoaaDoor.D
open Go.RowKit Go.Proofs.YtbenedckmapjoaaDoor.H Go.Proofs.YtbenedckmapjoaaDoor.X Go.Proofs.YtbenedckmapjoaaDoorW.PrintWords Go.Proofs.YtbenedckmapjoaaDoorW.PrintLast Go.Proofs.YtbenedckmapjoaaDoorW.PrintMore Go.Proofs.YtbenedckmapjoaaDoor.PCut Go.Proofs.YtbenedckmapjoaaDoor.PCa Go.Proofs.YtbenedckmapjoaaDoor.PCs Go.Proofs.YtbenedckmapjoaaDoor.PPw Go.Proofs.YtbenedckmapjoaaDoor.PPv
set_option linter.unusedVariables false
set_option linter.unusedSimpArgs false
theorem made_zeros (n : Nat) : madeCells (F.cells8 (List.replicate 64 0)) n = F.cells8 (List.replicate n 0) := by
  apply Array.ext
  · rw [size_madeCells]; simp [F.cells8]
  · intro i h1 h2
    rw [size_madeCells] at h1
    have hz : (F.cells8 (List.replicate 64 0)).size = 64 := by simp [F.cells8]
    have h3 : i % 64 < (F.cells8 (List.replicate 64 0)).size := by rw [hz]; exact Nat.mod_lt _ (by decide)
    simp only [madeCells, Array.getElem_map, Array.getElem_range, hz]
    rw [show (F.cells8 (List.replicate 64 0))[i % 64]! = (F.cells8 (List.replicate 64 0))[i % 64]'h3 from getElem!_pos (F.cells8 (List.replicate 64 0)) (i % 64) h3]
    simp only [F.cells8, List.map_replicate, List.getElem_toArray, List.getElem_replicate]
theorem mk100 (w : World) : (Instr.makeSlice 112 (.int .i64 ((100 : Nat) : Int)) (.int .i64 ((100 : Nat) : Int))).run Tryd.prog w = .ok (.slice (some ⟨w.heap.size, 0, none⟩) 100 100) (w.alloc (.cells (F.cells8 (List.replicate (100 * 64) 0)) 117)) := by
  have h : (Instr.makeSlice 112 (.int .i64 ((100 : Nat) : Int)) (.int .i64 ((100 : Nat) : Int))).run Tryd.prog w = .ok (.slice (some ⟨w.heap.size, 0, none⟩) 100 100) (w.alloc (.cells (madeCells (F.cells8 (List.replicate 64 0)) (100 * 64)) 117)) := by kernel_rfl
  rw [made_zeros] at h
  exact h
set_option maxRecDepth 100000 in
set_option maxHeartbeats 8000000 in
theorem chunks_w (A0 : Option Addr) (n0 c0 : Nat) (a1 : Int) (b0 : List Int) (w : World) (HG : Glb w) (hn : n0 = b0.length) (hr : Kd.C (Kd.int .u8) w A0 n0 b0) (hc : n0 ≤ c0) (hb : ∀ x ∈ b0, 0 ≤ x ∧ x < 256) (h1 : 0 ≤ a1 ∧ a1 < 65536) :
    Calls Tryd.prog 6 #[.slice A0 n0 c0, .int .u16 a1] w fun e w' => e = .returned (.bool true) ∧ Below w.heap.size w w' := by
  obtain ⟨b, hbe⟩ : ∃ b, b = b0.take 3000 := ⟨_, rfl⟩
  obtain ⟨n, hnn⟩ : ∃ n, n = min n0 3000 := ⟨_, rfl⟩
  have hmx := Kd.C_max hr
  have hbl : n = b.length := by rw [hbe, hnn, List.length_take, hn]; exact Nat.min_comm _ _
  have hbC : Kd.C (Kd.int .u8) w A0 n b := by
    have h0 := X.C_take hr (min n0 3000) (Nat.min_le_left _ _)
    rw [show b0.take (min n0 3000) = b0.take 3000 by
      rw [hn]
      rcases Nat.le_total b0.length 3000 with h | h
      · rw [Nat.min_eq_left h, List.take_of_length_le (Nat.le_refl _), List.take_of_length_le h]
      · rw [Nat.min_eq_right h]] at h0
    rw [hbe, hnn]
    exact h0
  have hbb : ∀ x ∈ b, 0 ≤ x ∧ x < 256 := fun x hx => hb x (by rw [hbe] at hx; exact List.mem_of_mem_take hx)
  have hb3 : b.length ≤ 3000 := by rw [hbe, List.length_take]; omega
  have hnc : n ≤ c0 := by omega
  obtain ⟨q, hq⟩ : ∃ q : Nat, 64 + a1 % 961 = (q : Int) := ⟨(64 + a1 % 961).toNat, by omega⟩
  have hq1 : 64 ≤ q := by omega
  have hq2 : q ≤ 1024 := by omega
  obtain ⟨ps, L, hcut, hof, hLl, hpl, hflat, hps, hLs, hfacts⟩ := chunk_facts b q hq1 hq2 hbb hb3
  have K1 := few_c A0 n0 c0 3000 (by decide) hc hmx w
  rw [← hnn] at K1
  have HK := Aside0.mk K1
  have HF := Aside0.mk (And.intro hcut (And.intro hof (And.intro hLl (And.intro hpl (And.intro hflat (And.intro hps (And.intro hLs hfacts)))))))
  have HB := Aside0.mk (And.intro hbl (And.intro hbC (And.intro hb3 (And.intro hnc HG))))
  have hqI : (q : Int) ≤ 1024 := by omega
  have hmod : Int.tmod a1 961 = a1 % 961 := Int.tmod_eq_emod_of_nonneg h1.1
  have ha0 := h1.1
  have ha1 := h1.2
  clear K1 hcut hof hLl hpl hflat hps hLs hfacts hbl hbC hbb hb3 hnc hbe hnn hmx hn hr hc hb h1 HG hq1 hq2
  go_enter Tryd.func6, Tryd.ntmps6
  go_upto_region 3 with (first
    | (go_at_call 12; refine HK.out.mono ?_; rintro e w1 ⟨rfl, hw1⟩; have hw1 := hw1.symm; subst hw1))
  go_upto_region 9 with (first
    | (go_at_call 31
       have hk := merkle_Cut.calls 30000 A0 c0 b q ps 0 w (by rw [← HB.out.1]; exact HB.out.2.1) (by rw [← HB.out.1]; exact HB.out.2.2.2.1) HF.out.1
       rw [← HB.out.1] at hk
       refine hk.mono ?_; clear hk; rintro e w2 ⟨v2, rfl, hS, hbe⟩
       obtain ⟨A2, c2, rfl, hc2, hN2⟩ := Nn.ofS hS
       have P2 : Aside0 (Nn w2 (.slice A2 ps.length c2) ps ∧ Below w.heap.size w w2) := ⟨⟨A2, c2, rfl, hc2, hN2⟩, hbe⟩
       clear hS hbe hc2 hN2)
    | (go_at_call 32
       have hk := merkle_Of.calls 30000 A0 c0 b q (rootL L) 0 w2 (HB.out.2.2.2.2.of P2.out.2) (by rw [← HB.out.1]; exact Kd.C_below HB.out.2.1 P2.out.2) (by rw [← HB.out.1]; exact HB.out.2.2.2.1) HF.out.2.1
       rw [← HB.out.1] at hk
       refine hk.mono ?_; clear hk; rintro e w3 ⟨v3, rfl, hR, hbe⟩
       obtain ⟨A3, c3, rfl, hc3, hN3⟩ := Bn.ofR hR
       have P3 : Aside0 (Nn w3 (.slice A2 ps.length c2) ps ∧ Bn w3 (.slice A3 (rootL L).length c3) (rootL L) ∧ Below w.heap.size w w3) := ⟨P2.out.1.mv (Mv.of hbe), ⟨A3, c3, rfl, hc3, hN3⟩, below_step P2.out.2 hbe⟩
       clear hR hbe hc3 hN3)
    | (go_at_call 25
       refine (new_c 100 (by decide) (by decide) mk100 w3).mono ?_; rintro e w4 ⟨p, gs, rfl, hD, hbe⟩
       have P4 : Aside0 (Nn w4 (.slice A2 ps.length c2) ps ∧ Bn w4 (.slice A3 (rootL L).length c3) (rootL L) ∧ Dk w3.heap.size p gs (.slice none 0 0) (.slice none 0 0) (DSt.new 100) w4 ∧ Below w.heap.size w w4 ∧ w.heap.size ≤ w3.heap.size) := ⟨P3.out.1.mv (Mv.of hbe), P3.out.2.1.mv (Mv.of hbe), hD, below_step P3.out.2.2 hbe, P3.out.2.2.size⟩
       clear hD hbe))
  obtain ⟨N, hN⟩ : ∃ N, N = ps.length := ⟨_, rfl⟩
  obtain ⟨R, hR⟩ : ∃ R, R = rootL L := ⟨_, rfl⟩
  obtain ⟨nR, hnR⟩ : ∃ nR, nR = R.length := ⟨_, rfl⟩
  have hNI : (N : Int) ≤ 100 := by have := HF.out.2.2.2.1; omega
  rw [← hN, ← hR, ← hnR] at P4 ⊢
  have HN := Lib.hid (And.intro hN (And.intro hR hnR))
  clear hN hR hnR P3 P2
  go_upto_region 10 with (fail)
  go_loopg [12, 13] N (fun j v t wr => ∃ (i : Nat) (vv : Value), vv = v ∧ i + j = N ∧ t = .int .i64 (i : Int) ∧ Aside0 (Lf wr w4.heap.size vv L i ∧ Below w4.heap.size w4 wr))
  case atStart => exact ⟨0, _, rfl, by omega, rfl, ⟨Lf.nil _ _ _, Below.refl _ _⟩⟩
  case round =>
    obtain ⟨i, v, rfl, hiN, rfl, P⟩ := hrel
    have HI := Lib.hid hiN
    clear hiN
    by_cases hi : i < N
    · have hiI : (i : Int) < (N : Int) := by omega
      obtain ⟨ad, Ai, ci, hA, hcell, hci, hFi⟩ := (P4.out.1.mv (Mv.of P.out.2)).get i (by rw [← HN.out.1]; exact hi)
      subst hA
      have hleaf := (HF.out.2.2.2.2.2.2.2 i (by rw [← HN.out.1]; exact hi)).1
      obtain ⟨x, hx⟩ : ∃ x, x = ps.getD i [] := ⟨_, rfl⟩
      obtain ⟨y, hy⟩ : ∃ y, y = L.getD i [] := ⟨_, rfl⟩
      rw [← hx] at hcell hci hFi hleaf
      rw [← hy] at hleaf
      obtain ⟨nx, hnx⟩ : ∃ nx, nx = x.length := ⟨_, rfl⟩
      have hk := merkle_Leaf.calls 30000 (i : Int) (NT wr) Ai ci x y 0 wr (HB.out.2.2.2.2.of (below_step P4.out.2.2.2.1 P.out.2)) (Kd.V_mk hci hFi) hleaf
      rw [← hnx] at hk hcell
      have HX := Aside0.mk (And.intro hk hy)
      clear hk hx hy hnx hci hFi hleaf
      go_upto_region 15 with (first
        | (go_at_call 33
           refine HX.out.1.mono ?_; rintro e w5 ⟨v5, rfl, hR, hbe⟩
           obtain ⟨A5, c5, rfl, hc5, hN5⟩ := F5_ofR hR
           have P5 : Aside0 (Lf w5 w4.heap.size v L i ∧ Below w4.heap.size w4 w5 ∧ y.length ≤ c5 ∧ Kd.F (Kd.int .u8) w5 (B5 w5) A5 y.length y) := ⟨P.out.1.mv (Mv.of hbe), below_step P.out.2 hbe, hc5, hN5⟩
           clear hR hbe hc5 hN5))
      obtain ⟨cs, hown, hcs⟩ := P5.out.1
      go_wp2_with (first
        | ((with_reducible refine gate_builtin (b := .append) (xs := #[.tmp 75, .tmp 77]) rfl ?_); at_builtin; refine print_append_cells (w0 := w4) w4.heap.size rfl (.tmp 75) (.tmp 77) 22 30 (.slice none 0 0) 1 24 rfl Tryd.underlying22 info_row rfl (by decide) (by decide) v i cs [.slice A5 y.length c5] rfl rfl rfl (fun u hu => by rw [List.mem_singleton] at hu; subst hu; rfl) hown P5.out.2.1 P5.out.2.1.size (by omega) ?_
           intro v7 w7 ho7 hb7 hg7 hat7
           have P7 : Aside0 (Lf w7 w4.heap.size v7 L (i + 1) ∧ Below w4.heap.size w4 w7) := ⟨by have hy := HX.out.2; subst hy; exact Lf.snoc hown hcs P5.out.2.2.1 P5.out.2.2.2 ho7 hg7, hb7⟩
           clear ho7 hb7 hg7 hat7))
      go_roundg (gk - 1)
      all_goals first
        | omega
        | exact ⟨i + 1, _, rfl, by have := HI.out; omega, by go_num, P7⟩
        | (have := HI.out; omega)
    · have hiI : ¬ (i : Int) < (N : Int) := by omega
      obtain rfl : i = N := by have := HI.out; omega
      obtain ⟨AL, cL, rfl, hcL, hCL⟩ := P.out.1.C (by rw [HN.out.1, HF.out.2.2.1]) (by omega)
      obtain ⟨w8, hw8⟩ : ∃ w8, w8 = wr := ⟨_, rfl⟩
      subst hw8
      have hLi : L.length = i := by rw [HF.out.2.2.1, HN.out.1]
      rw [hLi] at hcL hCL P ⊢
      have P8 : Aside0 (Kd.C dS w8 AL i L ∧ i ≤ cL ∧ Lf w8 w4.heap.size (.slice AL i cL) L i ∧ Nn w8 (.slice A2 i c2) ps ∧ Bn w8 (.slice A3 nR c3) R ∧ Dk w3.heap.size p gs (.slice none 0 0) (.slice none 0 0) (DSt.new 100) w8 ∧ Below w.heap.size w w8 ∧ w.heap.size ≤ w3.heap.size) :=
        ⟨hCL, hcL, P.out.1, P4.out.1.mv (Mv.of P.out.2), P4.out.2.1.mv (Mv.of P.out.2), P4.out.2.2.1.below P.out.2, below_step P4.out.2.2.2.1 P.out.2, P4.out.2.2.2.2⟩
      have HLi := Lib.hid hLi
      clear P P4 hcL hCL hLi hi hiI HI
      go_upto_region 18 with (fail)
      go_loopg [16, 17] i (fun j v t wz => ∃ (k : Nat) (vv hv : Value) (d : DSt), vv = v ∧ k + j = i ∧ t = .int .i64 (k : Int) ∧ Aside0 ((Dk w3.heap.size p gs hv (.slice none 0 0) d wz ∧ d.set = false ∧ d.down = false ∧ d.H = [] ∧ d.S.length = 100) ∧ Mv w8 wz ∧ Kd.R (Kd.int .u8) 5 wz w8.heap.size (fun k => w8.heap.size ≤ k) vv (cats ps k) ∧ Below w.heap.size w wz))
      case atStart => exact ⟨0, _, _, _, rfl, by omega, rfl, ⟨⟨P8.out.2.2.2.2.2.1, rfl, rfl, rfl, by unfold DSt.new; rw [List.length_replicate]⟩, Mv.refl _, Kd.R_nil _ _ _ _ _, P8.out.2.2.2.2.2.2.1⟩⟩
      case round =>
        obtain ⟨k, v, hv, d, rfl, hkN, rfl, P⟩ := hrel
        have HI := Lib.hid hkN
        clear hkN
        by_cases hk : k < i
        · have hkI : (k : Int) < (i : Int) := by omega
          have hm := P.out.2.1
          obtain ⟨ad, Ai, ci, hA, hcell, hci, hFi⟩ := (P8.out.2.2.2.1.mv hm).get k (by rw [← HN.out.1]; exact hk)
          subst hA
          have hxm : ps.getD k [] ∈ ps := by rw [List.getD_eq_getElem?_getD, List.getElem?_eq_getElem (by rw [← HN.out.1]; exact hk)]; exact List.getElem_mem _
          have hx1024 := (HF.out.2.2.2.2.2.1 _ hxm).1
          have hfacts := HF.out.2.2.2.2.2.2.2 k (by rw [← HN.out.1]; exact hk)
          have hcat := cats_succ ps k (by rw [← HN.out.1]; exact hk)
          have hcatl := cats_le ps (k + 1)
          rw [HF.out.2.2.2.2.1] at hcatl
          obtain ⟨x, hx⟩ : ∃ x, x = ps.getD k [] := ⟨_, rfl⟩
          obtain ⟨y, hy⟩ : ∃ y, y = L.getD k [] := ⟨_, rfl⟩
          have hy32 : y.length = 32 := by
            rw [hy]
            refine (HF.out.2.2.2.2.2.2.1 _ ?_).1
            rw [List.getD_eq_getElem?_getD, List.getElem?_eq_getElem (by rw [HLi.out]; exact hk)]
            exact List.getElem_mem _
          rw [← hx] at hcell hci hFi hx1024 hfacts hcat
          rw [← hy] at hfacts
          rw [← HN.out.1, ← HN.out.2.1] at hfacts
          obtain ⟨nx, hnx⟩ : ∃ nx, nx = x.length := ⟨_, rfl⟩
          rw [← hnx] at hx1024 hcell hci
          have hneed : needN nx ≤ d.S.length := by rw [P.out.1.2.2.2.2]; unfold needN; omega
          obtain ⟨r1, r2, r3, r4, r5, r6, r7, r8, r9⟩ := disk_round d x P.out.1.2.1 P.out.1.2.2.2.1 (by rw [← hnx]; exact hneed)
          rw [← hnx] at r1 r2 r3 r4 r5 r6 r7 r8 r9
          have ks := save_c P.out.1.1 P.out.1.2.2.1 0 x Ai nx ci hnx hci (by rw [hnx]; exact Kd.F_now hFi) (by rw [Nat.zero_add]; exact hneed) (by rw [P.out.1.2.2.2.1]; decide) (fun ad2 e h0 => by
            have hin := Kd.F_in hFi e (by rw [← hnx]; exact h0) (by decide)
            subst e
            exact ⟨C_block (Kd.F_now hFi) (by rw [← hnx]; exact h0), hin⟩)
          rw [r1, show ((0 : Nat) : Int) = 0 from rfl] at ks
          obtain ⟨d1, hd1⟩ : ∃ d1, d1 = (d.saves 0 x (needN nx)).1 := ⟨_, rfl⟩
          rw [← hd1] at ks r2 r3 r4 r5 r6 r7 r8 r9
          have kf := fun (w0 : World) (hv0 : Value) (h0 : Dk w3.heap.size p gs hv0 (.slice none 0 0) d1 w0) => flush_c h0 (by rw [r3]; exact P.out.1.2.2.1)
          rw [r4] at kf
          obtain ⟨d2, hd2⟩ : ∃ d2, d2 = d1.flush.1 := ⟨_, rfl⟩
          rw [← hd2] at kf r5 r6 r7 r8 r9
          have HS := Aside0.mk (And.intro ks kf)
          have HX := Aside0.mk (And.intro hnx (And.intro hfacts (And.intro hcat (And.intro hcatl (And.intro hy32 (And.intro hx1024 (And.intro r5 (And.intro r6 (And.intro (r7.trans P.out.1.2.2.1) (And.intro (r8.trans P.out.1.2.2.2.2) (And.intro r9 hx)))))))))))
          clear ks kf hm hxm hfacts hcat hcatl hy32 hx hy hnx hneed r1 r2 r3 r4 r5 r6 r7 r8 r9 hd1 hd2 hci hFi hx1024
          go_upto_region 22 with (first
            | (go_at_call 34
               refine HS.out.1.mono ?_; rintro e w11 ⟨rfl, ⟨hv1, hD⟩, hM, hbe⟩
               have P11 : Aside0 (Dk w3.heap.size p gs hv1 (.slice none 0 0) d1 w11 ∧ Mv w8 w11 ∧ Kd.R (Kd.int .u8) 5 w11 w8.heap.size (fun k => w8.heap.size ≤ k) v (cats ps k) ∧ Below w.heap.size w w11) := ⟨hD, P.out.2.1.trans hM, R_mv P.out.2.2.1 hM, P.out.2.2.2.trans (below_mono hbe P8.out.2.2.2.2.2.2.2)⟩
               clear hD hM hbe)
            | (go_at_call 35
               refine (HS.out.2 _ _ P11.out.1).mono ?_; rintro e w12 ⟨rfl, ⟨hv2, hD⟩, hM, hbe⟩
               have P12 : Aside0 (Dk w3.heap.size p gs hv2 (.slice none 0 0) d2 w12 ∧ Mv w8 w12 ∧ Kd.R (Kd.int .u8) 5 w12 w8.heap.size (fun k => w8.heap.size ≤ k) v (cats ps k) ∧ Below w.heap.size w w12) := ⟨hD, P11.out.2.1.trans hM, R_mv P11.out.2.2.1 hM, P11.out.2.2.2.trans (below_mono hbe P8.out.2.2.2.2.2.2.2)⟩
               clear hD hM hbe))
          clear HS P hcell P11
          obtain ⟨ad', Ai', ci', hA', hcell, _, _⟩ := (P8.out.2.2.2.1.mv P12.out.2.1).get k (by rw [← HN.out.1]; exact hk)
          injection hA' with hA'
          subst hA'
          rw [show (ps.getD k []).length = nx by rw [HX.out.1, HX.out.2.2.2.2.2.2.2.2.2.2.2]] at hcell
          have kl := load_c P12.out.1 HX.out.2.2.2.2.2.2.2.2.1 0 nx (by rw [Nat.zero_add, HX.out.2.2.2.2.2.2.2.2.2.1]; have := HX.out.2.2.2.2.2.1; unfold needN; omega)
          rw [HX.out.2.2.2.2.2.2.2.2.2.2.1, show ((0 : Nat) : Int) = 0 from rfl] at kl
          have HL2 := Aside0.mk kl
          clear kl
          go_upto_region 23 with (first
            | (go_at_call 36
               refine HL2.out.mono ?_; rintro e w13 ⟨v13, rfl, ⟨A13, rfl, _, hC⟩, hbe⟩
               have P13 : Aside0 (Kd.C (Kd.int .u8) w13 A13 nx x ∧ Dk w3.heap.size p gs hv2 (.slice none 0 0) d2 w13 ∧ Mv w8 w13 ∧ Kd.R (Kd.int .u8) 5 w13 w8.heap.size (fun k => w8.heap.size ≤ k) v (cats ps k) ∧ Below w.heap.size w w13) := ⟨hC, P12.out.1.below hbe, P12.out.2.1.below hbe, Kd.R_below P12.out.2.2.1 hbe, below_step P12.out.2.2.2 hbe⟩
               clear hC hbe))
          clear hcell HL2 P12
          obtain ⟨AL', cL', hsl, hcl', hCl⟩ := (P8.out.2.2.1.mv P13.out.2.2.1).C HLi.out.symm (by have := hNI; omega)
          injection hsl with hs1 hs2 hs3
          subst hs1 hs3
          have kp := merkle_Prove.calls 30000 AL cL L (k : Int) (walkL L k) 0 w13 (HB.out.2.2.2.2.of P13.out.2.2.2.2) hCl hcl' HX.out.2.1.2.1
          rw [HLi.out] at kp
          have HP2 := Aside0.mk kp
          clear kp hCl hcl' hs2
          go_upto_region 24 with (first
            | (go_at_call 37
               refine HP2.out.mono ?_; rintro e w14 ⟨v14, rfl, hS, hbe⟩
               obtain ⟨A14, c14, rfl, hc14, hF14⟩ := Kd.S_V (base' := 0) hS
               have P14 : Aside0 ((walkL L k).length ≤ c14 ∧ Kd.F dS w14 (fun _ => True) A14 (walkL L k).length (walkL L k) ∧ Kd.C (Kd.int .u8) w14 A13 nx x ∧ Dk w3.heap.size p gs hv2 (.slice none 0 0) d2 w14 ∧ Mv w8 w14 ∧ Kd.R (Kd.int .u8) 5 w14 w8.heap.size (fun k => w8.heap.size ≤ k) v (cats ps k) ∧ Below w.heap.size w w14) := ⟨hc14, hF14, Kd.C_below P13.out.1 hbe, P13.out.2.1.below hbe, P13.out.2.2.1.below hbe, Kd.R_below P13.out.2.2.2.1 hbe, below_step P13.out.2.2.2.2 hbe⟩
               clear hS hbe hc14 hF14))
          have kf2 := merkle_Leaf.calls 30000 (k : Int) (fun j => j < w14.heap.size) A13 nx x y 0 w14 (HB.out.2.2.2.2.of P14.out.2.2.2.2.2.2) (Kd.V_mk (by rw [← HX.out.1]; exact Nat.le_refl _) (Kd.C_F (Kd.heap_int .u8) (by rw [← HX.out.1]; exact P14.out.2.2.1))) HX.out.2.1.1
          rw [← HX.out.1] at kf2
          have HF2 := Aside0.mk kf2
          clear kf2 P13 HP2
          go_upto_region 25 with (first
            | (go_at_call 33
               refine HF2.out.mono ?_; rintro e w15 ⟨v15, rfl, hR, hbe⟩
               obtain ⟨A15, c15, rfl, hc15, hF15⟩ := Kd.R_V (base' := 0) hR
               have P15 : Aside0 ((y.length ≤ c15 ∧ Kd.F (Kd.int .u8) w15 (fun j => w14.heap.size ≤ j) A15 y.length y) ∧ ((walkL L k).length ≤ c14 ∧ Kd.F dS w15 (fun _ => True) A14 (walkL L k).length (walkL L k)) ∧ Kd.C (Kd.int .u8) w15 A13 nx x ∧ Dk w3.heap.size p gs hv2 (.slice none 0 0) d2 w15 ∧ Mv w8 w15 ∧ Kd.R (Kd.int .u8) 5 w15 w8.heap.size (fun k => w8.heap.size ≤ k) v (cats ps k) ∧ Below w.heap.size w w15) := ⟨⟨hc15, hF15⟩, ⟨P14.out.1, Kd.F_below P14.out.2.1 hbe⟩, Kd.C_below P14.out.2.2.1 hbe, P14.out.2.2.2.1.below hbe, P14.out.2.2.2.2.1.below hbe, Kd.R_below P14.out.2.2.2.2.2.1 hbe, below_step P14.out.2.2.2.2.2.2 hbe⟩
               clear hR hbe hc15 hF15))
          have hbn := (P8.out.2.2.2.2.1.mv P15.out.2.2.2.2.1).C
          have kc := merkle_Check.calls 30000 A3 c3 R (i : Int) (k : Int) (fun j => w14.heap.size ≤ j) A15 c15 y (fun _ => True) A14 c14 (walkL L k) 0 w15 (HB.out.2.2.2.2.of P15.out.2.2.2.2.2.2) (Kd.F_now hbn.2.2) hbn.2.1 (Kd.V_mk P15.out.1.1 P15.out.1.2) (Kd.V_mk P15.out.2.1.1 P15.out.2.1.2) HX.out.2.1.2.2
          rw [← HN.out.2.2] at kc
          have HC2 := Aside0.mk kc
          clear kc hbn P14 HF2
          go_upto_region 27 with (first
            | (go_at_call 38
               refine HC2.out.mono ?_; rintro e w16 ⟨rfl, hbe⟩
               have P16 : Aside0 (Kd.C (Kd.int .u8) w16 A13 nx x ∧ Dk w3.heap.size p gs hv2 (.slice none 0 0) d2 w16 ∧ Mv w8 w16 ∧ Kd.R (Kd.int .u8) 5 w16 w8.heap.size (fun k => w8.heap.size ≤ k) v (cats ps k) ∧ Below w.heap.size w w16 ∧ w8.heap.size ≤ w16.heap.size) := ⟨Kd.C_below P15.out.2.2.1 hbe, P15.out.2.2.2.1.below hbe, P15.out.2.2.2.2.1.below hbe, Kd.R_below P15.out.2.2.2.2.2.1 hbe, below_step P15.out.2.2.2.2.2.2 hbe, Nat.le_trans P15.out.2.2.2.2.1.size hbe.size⟩
               clear hbe))
          have hlen : (cats ps k).length + nx ≤ 3000 := by
            have h1 := HX.out.2.2.2.1
            rw [HX.out.2.2.1, List.length_append, ← HX.out.1] at h1
            have := HB.out.2.2.1
            omega
          clear P15 HC2
          go_wp2_with (first
            | ((with_reducible refine gate_builtin (b := .append) (xs := #[.tmp 135, .tmp 136]) rfl ?_); at_builtin; refine Kd.R_append_rows (Kd.int .u8) (w0 := w16) w8.heap.size rfl (.tmp 135) (.tmp 136) 30 5 (.int .u8 0) 1 rfl Tryd.underlying30 info_byte rfl (by decide) (by omega) v (cats ps k) x _ _ _ (fun k => w8.heap.size ≤ k) (fun _ => False) rfl rfl P16.out.2.2.2.1 P16.out.1 (fun _ _ h => h) (fun _ h => h.elim) (fun k hk => Nat.le_trans P16.out.2.2.2.2.2 hk) (Below.refl _ _) P16.out.2.2.2.2.2 (by omega) ?_
               intro v17 w17 ho hb hg hat
               have P17 : Aside0 (Dk w3.heap.size p gs hv2 (.slice none 0 0) d2 w17 ∧ Mv w8 w17 ∧ Kd.R (Kd.int .u8) 5 w17 w8.heap.size (fun k => w8.heap.size ≤ k) v17 (cats ps (k + 1)) ∧ Below w.heap.size w w17) := ⟨P16.out.2.1.grown hg (R_typed5 P16.out.2.2.2.1), P16.out.2.2.1.grown2 hg (fun j e => Kd.R_base P16.out.2.2.2.1 j e), by rw [HX.out.2.2.1]; exact ho, P16.out.2.2.2.2.1.trans (below_mono hb (Nat.le_trans P8.out.2.2.2.2.2.2.1.size (Nat.le_refl _)))⟩
               clear ho hb hg hat))
          go_roundg (gk - 1)
          all_goals first
            | omega
            | exact ⟨k + 1, _, _, _, rfl, by have := HI.out; omega, by go_num, ⟨⟨P17.out.1, HX.out.2.2.2.2.2.2.1, HX.out.2.2.2.2.2.2.2.2.1, HX.out.2.2.2.2.2.2.2.1, HX.out.2.2.2.2.2.2.2.2.2.1⟩, P17.out.2.1, P17.out.2.2.1, P17.out.2.2.2⟩⟩
            | (have := HI.out; omega)
        · have hkI : ¬ (k : Int) < (i : Int) := by omega
          have hki : k = i := by have := HI.out; omega
          have hall : cats ps k = b := by unfold cats; rw [hki, HN.out.1, List.take_length]; exact HF.out.2.2.2.2.1
          obtain ⟨Ax, cx, rfl, hcx, hCx⟩ := Kd.R_reads P.out.2.2.1
          rw [hall] at hcx hCx
          rw [hall, ← HB.out.1]
          have ko := merkle_Of.calls 30000 Ax cx b q (rootL L) 0 wr (HB.out.2.2.2.2.of P.out.2.2.2) hCx hcx HF.out.2.1
          rw [← HB.out.1, ← HN.out.2.1] at ko
          have P20 : Aside0 (Kd.C (Kd.int .u8) wr Ax b.length b ∧ b.length ≤ cx ∧ Bn wr (.slice A3 nR c3) R ∧ Below w.heap.size w wr) := ⟨hCx, hcx, P8.out.2.2.2.2.1.mv P.out.2.1, P.out.2.2.2⟩
          have HO := Aside0.mk ko
          clear ko hcx hCx hall P HI hk
          go_upto_region 29 with (first
            | (go_at_call 32
               refine HO.out.mono ?_; rintro e w21 ⟨v21, rfl, hR, hbe⟩
               obtain ⟨A21, c21, rfl, hc21, hC21⟩ := Kd.R_reads hR
               have P21 : Aside0 (Kd.C (Kd.int .u8) w21 A21 R.length R ∧ R.length ≤ c21 ∧ Kd.C (Kd.int .u8) w21 Ax b.length b ∧ b.length ≤ cx ∧ Bn w21 (.slice A3 nR c3) R ∧ Below w.heap.size w w21) := ⟨hC21, hc21, Kd.C_below P20.out.1 hbe, P20.out.2.1, P20.out.2.2.1.mv (Mv.of hbe), below_step P20.out.2.2.2 hbe⟩
               clear hR hbe hc21 hC21))
          rw [← HN.out.2.2]
          have k1 := imprimaturref01_SameBytes.calls Ax cx b A0 c0 b true w21 P21.out.2.2.1 P21.out.2.2.2.1 (by rw [← HB.out.1]; exact Kd.C_below HB.out.2.1 P21.out.2.2.2.2.2) (by rw [← HB.out.1]; exact HB.out.2.2.2.1) (same_own b)
          rw [← HB.out.1] at k1
          have TK1 := Aside0.mk k1
          clear k1
          have k2 := fun (w22 : World) (hbe : Below w21.heap.size w21 w22) => by
            have hbn := (P21.out.2.2.2.2.1.mv (Mv.of hbe)).C
            exact imprimaturref01_SameBytes.calls A21 c21 R A3 c3 R true w22 (Kd.C_below P21.out.1 hbe) P21.out.2.1 (Kd.F_now hbn.2.2) hbn.2.1 (same_own R)
          rw [← HN.out.2.2] at k2
          have TK2 := Aside0.mk k2
          clear k2 HO P20
          go_wp2_with (first
            | (go_at_call 22
               have tk := TK1
               clear TK1
               refine tk.out.mono ?_; rintro e w22 ⟨rfl, hd⟩
               have P22 : Aside0 (Below w21.heap.size w21 w22) := ⟨hd.below⟩
               clear hd tk)
            | (go_at_call 22
               have tk := TK2
               clear TK2
               refine (tk.out w22 P22.out).mono ?_; rintro e w23 ⟨rfl, hd⟩
               have P23 : Aside0 (Below w.heap.size w w23) := ⟨below_step (below_step P21.out.2.2.2.2.2 P22.out) hd.below⟩
               clear hd tk)
            | (go_at_call 10
               refine (imprimaturtop_awake.calls true w23 (HB.out.2.2.2.2.of P23.out) rfl).mono ?_; rintro e w24 ⟨rfl, hbe⟩
               have P24 : Aside0 (Below w.heap.size w w24) := ⟨below_step P23.out hbe⟩
               clear hbe))
          go_ret
          exact ⟨rfl, P24.out⟩
theorem TopChunks_walk (a0 : Option Addr) (len0 cap0 : Nat) (z0 : List Int) (a1 : Int) (w : World) (HG : Glb w) (w0 : (a0 = none ∧ len0 = 0 ∧ cap0 = 0 ∧ z0 = []) ∨ ∃ x, a0 = some x ∧ len0 ≤ cap0 ∧ cap0 ≤ maxLen ∧ z0.length = cap0 ∧ (∀ i, i < z0.length → w.cell? (x.add i) = some (.int .u8 (z0.getD i 0))) ∧ ∀ n ∈ z0, (Lit.int .u8 n).wf = true) (y0 : len0 * 1 ≤ 140737488351232) (w1 : (Lit.int .u16 a1).wf = true) : Calls Tryd.prog 6 #[.slice a0 len0 cap0, .int .u16 a1] w fun e w' => e = .returned (.bool true) ∧ Below w.heap.size w w' := by
  obtain ⟨l0, rfl, hr0, hm0, hw0, hc0⟩ := ReadsInt.ofRowC w0
  clear w0
  have HC0 := Kd.C_of_reads (d := 0) (h1 := fun _ => rfl) hr0
  have hb : ∀ x ∈ l0, 0 ≤ x ∧ x < 256 := by
    intro x hx
    have := hw0 x hx
    simp [Lit.wf, IntKind.min, IntKind.max, IntKind.bits, IntKind.signed] at this
    omega
  have g1 : 0 ≤ a1 ∧ a1 < 65536 := by
    simp [Lit.wf, IntKind.min, IntKind.max, IntKind.bits, IntKind.signed] at w1
    omega
  exact chunks_w a0 _ cap0 a1 l0 w HG rfl HC0 hc0 hb g1
end Go.Proofs.YtbenedckmapjoaaDoor.D
