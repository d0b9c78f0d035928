/- The law TopJournal: the walk. -/
import Derived.Test.YtbenedckmapjoaaDoorTi
import Derived.Test.YtbenedckmapjoaaDoorY7
import Derived.Deep.DeepCutAuto
namespace Go.Proofs.YtbenedckmapjoaaDoor.D
open Go.RowKit Go.Proofs.YtbenedckmapjoaaDoor.H Go.Proofs.YtbenedckmapjoaaDoor.X Go.Proofs.YtbenedckmapjoaaDoorW.PrintWords Go.Proofs.YtbenedckmapjoaaDoorW.PrintLast Go.Proofs.YtbenedckmapjoaaDoorW.PrintMore Go.Proofs.YtbenedckmapjoaaDoor.PSb
set_option linter.unusedVariables false
set_option linter.unusedSimpArgs false
theorem made_zeros30 (n : Nat) : madeCells (F.cells8 (List.replicate 64 0)) n = F.cells8 (List.replicate n 0) := by
  apply Array.ext
  · rw [size_madeCells]; simp [F.cells8]
  · intro i h1 h2
    rw [size_madeCells] at h1
    have hz : (F.cells8 (List.replicate 64 0)).size = 64 := by simp [F.cells8]
    have h3 : i % 64 < (F.cells8 (List.replicate 64 0)).size := by rw [hz]; exact Nat.mod_lt _ (by decide)
    simp only [madeCells, Array.getElem_map, Array.getElem_range, hz]
    rw [show (F.cells8 (List.replicate 64 0))[i % 64]! = (F.cells8 (List.replicate 64 0))[i % 64]'h3 from getElem!_pos (F.cells8 (List.replicate 64 0)) (i % 64) h3]
    simp only [F.cells8, List.map_replicate, List.getElem_toArray, List.getElem_replicate]
theorem mk30 (w : World) : (Instr.makeSlice 112 (.int .i64 ((30 : Nat) : Int)) (.int .i64 ((30 : Nat) : Int))).run Tryd.prog w = .ok (.slice (some ⟨w.heap.size, 0, none⟩) 30 30) (w.alloc (.cells (F.cells8 (List.replicate (30 * 64) 0)) 117)) := by
  have h : (Instr.makeSlice 112 (.int .i64 ((30 : Nat) : Int)) (.int .i64 ((30 : Nat) : Int))).run Tryd.prog w = .ok (.slice (some ⟨w.heap.size, 0, none⟩) 30 30) (w.alloc (.cells (madeCells (F.cells8 (List.replicate 64 0)) (30 * 64)) 117)) := by kernel_rfl
  rw [made_zeros30] at h
  exact h
theorem new30_S : (DSt.new 30).S = List.replicate 30 (List.replicate 64 0) := rfl
theorem new30_byt : Byt (DSt.new 30).S := fun j x hx => by
  rw [new30_S, List.getD_eq_getElem?_getD, List.getElem?_replicate] at hx
  split at hx
  · have := List.eq_of_mem_replicate (show x ∈ List.replicate 64 (0 : Int) from hx)
    omega
  · cases hx
theorem new30_newS : newS (DSt.new 30).S = none := by
  have h : ∀ k, k ≤ 1 → areaS (DSt.new 30).S k = none := fun k hk => areaS_zero _ k (by
    rw [new30_S, List.getD_eq_getElem?_getD, List.getElem?_replicate, if_pos (by omega)]; rfl)
  unfold newS
  rw [h 0 (by decide), h 1 (by decide)]
  rfl
theorem new30_ji : JI (DSt.new 30).S true [] 0 := ⟨by rw [new30_newS]; exact Int.le_refl _, Nat.le_refl _, .inl ⟨rfl, new30_newS⟩⟩
set_option maxRecDepth 100000 in
set_option maxHeartbeats 16000000 in
theorem journal_w (A0 : Option Addr) (n0 c0 : Nat) (l0 : List (List Int)) (A1 : Option Addr) (n1 c1 : Nat) (l1 : List Int) (A2 : Option Addr) (n2 c2 : Nat) (l2 : List Bool) (w : World) (HG : Glb w) (hn0 : n0 = l0.length) (hr0 : Kd.C (Kd.slice 5 (Kd.int .u8)) w A0 n0 l0) (hb0 : ∀ l ∈ l0, ∀ x ∈ l, 0 ≤ x ∧ x < 256) (hm0 : ∀ l ∈ l0, l.length ≤ 140737488351232)
    (hn1 : n1 = l1.length) (hr1 : Kd.C (Kd.int .u8) w A1 n1 l1) (hb1 : ∀ x ∈ l1, 0 ≤ x ∧ x < 256) (hn2 : n2 = l2.length) (hr2 : Kd.bool.C w A2 n2 l2) (hc2 : n2 ≤ c2) :
    Calls Tryd.prog 5 #[.slice A0 n0 c0, .slice A1 n1 c1, .slice A2 n2 c2] w fun e w' => e = .returned (.bool true) ∧ Below w.heap.size w w' := by
  have H0 := Aside0.mk (And.intro hn0 (And.intro hr0 (And.intro hb0 hm0)))
  have H1 := Aside0.mk (And.intro hn1 (And.intro hr1 hb1))
  have hmx2 := Kd.C_max hr2
  have hmx0 := Kd.C_max hr0
  have hmx1 := Kd.C_max hr1
  have HG0 := Aside0.mk HG
  have H2 := Aside0.mk (And.intro hn2 (And.intro hr2 hc2))
  have hc2I : (n2 : Int) ≤ (c2 : Int) := by omega
  have hmx2I : (n2 : Int) ≤ 9223372036854775807 := by omega
  have hmx0I : (n0 : Int) ≤ 9223372036854775807 := by omega
  have hmx1I : (n1 : Int) ≤ 9223372036854775807 := by omega
  clear hn0 hr0 hb0 hm0 hn1 hr1 hb1 HG hn2 hr2 hc2 hmx2 hmx0 hmx1
  go_enter Tryd.func5, Tryd.ntmps5
  go_upto_if 22 with (fail)
  go_cut [2] (fun s2 wx => wx = w ∧ ∃ (m : Nat) (ch : List Bool), s2 = .slice A2 m c2 ∧ Aside0 (m = ch.length ∧ ch.length ≤ 200 ∧ Kd.bool.C w A2 m ch))
  case first =>
    by_cases h2 : (200 : Int) < (n2 : Int)
    · obtain ⟨ad2, had2⟩ : ∃ ad, A2 = some ad := by obtain ⟨ad, e, _⟩ := H2.out.2.1.2.2 (by omega); exact ⟨ad, e⟩
      subst had2
      have h2c : (200 : Int) ≤ (c2 : Int) := by omega
      go_wp2
      go_meet
      case rel => exact ⟨rfl, 200, l2.take 200, rfl, ⟨by rw [List.length_take, ← H2.out.1]; omega, by rw [List.length_take]; omega, CB_take H2.out.2.1 200 (by omega)⟩⟩
    · go_wp2
      go_meet
      case rel => exact ⟨rfl, n2, l2, rfl, ⟨H2.out.1, by rw [← H2.out.1]; omega, H2.out.2.1⟩⟩
  case rest =>
  obtain ⟨hwc, m, ch, rfl, HC⟩ := hcut
  have hwc := hwc.symm
  subst hwc
  have hmI : (m : Int) ≤ 200 := by have := HC.out.1; have := HC.out.2.1; omega
  go_upto_region 10 with (first
    | (go_at_call 25; refine (new_c 30 (by decide) (by decide) mk30 w).mono ?_; rintro e w1 ⟨p, gs, rfl, hD, hbe⟩; have P1 := Aside0.mk (And.intro hD hbe); clear hD hbe)
    | (go_at_call 26; refine (open_c P1.out.1 (by rw [new30_S, List.length_replicate])).mono ?_; rintro e w2 ⟨s, rfl, hs, hbe⟩; have P2 : Aside0 (Dk w.heap.size p gs (.slice none 0 0) (.slice none 0 0) (DSt.new 30) w2 ∧ Sto s p w2 ∧ Below w.heap.size w w2) := ⟨P1.out.1.below hbe, hs, below_step P1.out.2 hbe⟩; clear hs hbe))
  go_loopg [11, 12, 13] 12 (fun j v f t wr => ∃ (i : Nat) (vv hv cv : Value) (d : DSt) (ff : Bool) (ML : List (List Int)), vv = v ∧ i + j = 12 ∧ f = .bool ff ∧ t = .int .i64 (i : Int) ∧ Aside0 ((Dk w.heap.size p gs hv cv d wr ∧ d.H = [] ∧ d.down = false ∧ d.S.length = 30 ∧ Byt d.S ∧ (∀ y ∈ ML, ∀ z ∈ y, 0 ≤ z ∧ z < 256)) ∧ JI d.S ff ML i ∧ Mf w.heap.size wr vv ML ∧ Sto s p wr ∧ Below w.heap.size w wr))
  case atStart => exact ⟨0, _, _, _, _, true, [], rfl, by omega, rfl, rfl, ⟨⟨P2.out.1, rfl, rfl, by rw [new30_S, List.length_replicate], new30_byt, fun y hy => by cases hy⟩, new30_ji, Mf.nil _ _, P2.out.2.1, P2.out.2.2⟩⟩
  case round =>
    clear P1 P2
    obtain ⟨i, v, hv, cv, d, ff, ML, rfl, hij, rfl, rfl, P⟩ := hrel
    have HI := Lib.hid hij
    clear hij
    by_cases hi : i < n0 ∧ i < 12
    · have hiI : (i : Int) < (n0 : Int) := by omega
      have hi12 : (i : Int) < 12 := by omega
      obtain ⟨wo, hwo⟩ : ∃ wo, wo = wr := ⟨_, rfl⟩
      subst hwo
      obtain ⟨gko, rfl⟩ : ∃ gko : Nat, gko = gk := ⟨_, rfl⟩
      go_upto_if 57 with (fail)
      go_cut [] from 44 to 125 (fun wx => ∃ (hv' cv' : Value) (d' : DSt), Aside0 (Dk w.heap.size p gs hv' cv' d' wx ∧ d'.H = [] ∧ d'.down = false ∧ d'.S = d.S ∧ Mv wo wx ∧ Below w.heap.size wo wx))
      case first =>
        by_cases h1 : i < n1
        · have h1I : (i : Int) < (n1 : Int) := by omega
          obtain ⟨ad1, hA1, hc1⟩ := C_cell (Kd.C_below H1.out.2.1 P.out.2.2.2.2) i h1
          subst hA1
          have hy0 := H1.out.2.2 (l1.getD i 0) (by rw [List.getD_eq_getElem?_getD, List.getElem?_eq_getElem (by rw [← H1.out.1]; exact h1)]; exact List.getElem_mem _)
          obtain ⟨y, hy⟩ : ∃ y, y = l1.getD i 0 := ⟨_, rfl⟩
          rw [← hy] at hc1 hy0
          have hyp := hy0.1
          have hyl := hy0.2
          have hmod : Int.tmod y 20 = y % 20 := Int.tmod_eq_emod_of_nonneg hy0.1
          obtain ⟨q, hq⟩ : ∃ q : Nat, y % 20 = (q : Int) := ⟨(y % 20).toNat, by omega⟩
          have hks := set_c P.out.1.1 q (by omega) ch A2 m c2 HC.out.1 (by have := HC.out.2.1; omega) (Kd.C_below HC.out.2.2 P.out.2.2.2.2)
          rw [← hq] at hks
          have HK := Aside0.mk hks
          clear hks hy hy0 hq h1
          go_wp2_with (first
            | (go_at_call 27; refine HK.out.mono ?_; rintro e wx ⟨rfl, ⟨cv', hD⟩, hM, hB⟩; have P3 := Aside0.mk (And.intro hD (And.intro hM hB)); clear hD hM hB))
          go_meet
          case rel => exact ⟨_, _, _, ⟨P3.out.1, P.out.1.2.1, P.out.1.2.2.1, rfl, P3.out.2⟩⟩
        · have h1I : ¬ (i : Int) < (n1 : Int) := by omega
          go_wp2
          go_meet
          case rel => exact ⟨_, _, _, ⟨P.out.1.1, P.out.1.2.1, P.out.1.2.2.1, rfl, Mv.refl _, Below.refl _ _⟩⟩
      case rest =>
      obtain ⟨hv', cv', d', P3⟩ := hcut
      obtain ⟨w3, hw3⟩ : ∃ w3, w3 = wc := ⟨_, rfl⟩
      subst hw3
      have hbw3 : Below w.heap.size w w3 := P.out.2.2.2.2.trans P3.out.2.2.2.2.2
      obtain ⟨ad, Ai, ci, hA0, hcell, hci, hCi⟩ := row_at H0.out.2.1 hbw3 i (by rw [← H0.out.1]; exact hi.1)
      subst hA0
      have hx0m : l0.getD i [] ∈ l0 := by rw [List.getD_eq_getElem?_getD, List.getElem?_eq_getElem (by rw [← H0.out.1]; exact hi.1)]; exact List.getElem_mem _
      have hx0b := H0.out.2.2.1 _ hx0m
      have hx0l := H0.out.2.2.2 _ hx0m
      obtain ⟨x0, hx0⟩ : ∃ q, q = l0.getD i [] := ⟨_, rfl⟩
      rw [← hx0] at hcell hci hCi hx0b hx0l
      obtain ⟨k0, hk0⟩ : ∃ k, k = x0.length := ⟨_, rfl⟩
      obtain ⟨nx, hnx⟩ : ∃ n, n = min k0 500 := ⟨_, rfl⟩
      obtain ⟨x, hx⟩ : ∃ x, x = x0.take 500 := ⟨_, rfl⟩
      rw [← hk0] at hcell hci hCi hx0l
      have hxl : x.length = nx := by rw [hx, hnx, List.length_take, ← hk0]; exact Nat.min_comm _ _
      have hnx5 : nx ≤ 500 := by omega
      have hnxc : nx ≤ ci := by omega
      have hCx : Kd.C (Kd.int .u8) w Ai nx x := by
        have h0 := CB_take hCi nx (by omega)
        rwa [show x0.take nx = x by
          rw [hx, hnx, hk0]
          rcases Nat.le_total x0.length 500 with h | h
          · rw [Nat.min_eq_left h, List.take_of_length_le (Nat.le_refl _), List.take_of_length_le h]
          · rw [Nat.min_eq_right h]] at h0
      have hxb : ∀ y ∈ x, 0 ≤ y ∧ y < 256 := fun y hy => hx0b y (by rw [hx] at hy; exact List.mem_of_mem_take hy)
      have hkeep : Keep w.heap.size w3 Ai nx := fun ad e hn => by
        subst e
        have := C_block hCx hn
        exact ⟨Nat.lt_of_lt_of_le this hbw3.size, fun w1 _ b => b.block _ this⟩
      have hRx : Rb w.heap.size w3 Ai x := ⟨by rw [hxl]; exact Kd.C_below hCx hbw3, fun ad e hn => .inl (by subst e; exact C_block hCx (by rw [← hxl]; exact hn))⟩
      have hS' : d'.S.length = 30 := by rw [P3.out.2.2.2.1]; exact P.out.1.2.2.2.1
      have hB' : Byt d'.S := by rw [P3.out.2.2.2.1]; exact P.out.1.2.2.2.2.1
      have hJ' : JI d'.S ff ML i := by rw [P3.out.2.2.2.1]; exact P.out.2.1
      have hg' : genN (newS d'.S) < 1000 := by have := hJ'.1; omega
      have kf := few_c Ai k0 ci 500 (by decide) hci (by omega) w3
      rw [← hnx] at kf
      have kp := put_c2 P3.out.1 (P.out.2.2.2.1.mv P3.out.2.2.2.2.1) (fun w1 hb => HG0.out.of (hbw3.trans hb)) P3.out.2.2.1 P3.out.2.1 hS' hB' x Ai nx ci hxl.symm hnxc (by omega) hxb (Kd.C_below hCx hbw3) hkeep hg'
      obtain ⟨r1, r2, r3⟩ := put_any d' x P3.out.2.1 P3.out.2.2.1 hS' (by omega) ⟨genN_pos _ hB', hg'⟩
      have r4 := put_byt d' x P3.out.2.1 P3.out.2.2.1 hS' (by omega) hB' hxb
      obtain ⟨hgen, hway⟩ := ji_next d' x ff ML i hJ' (putD d' x).1.S (putD d' x).2 (by
        rcases r3 with ⟨u1, _, u2⟩ | ⟨u1, _, u2⟩
        · exact .inl ⟨u1, u2⟩
        · exact .inr ⟨u1, u2⟩)
      obtain ⟨r, hr⟩ : ∃ r, r = putD d' x := ⟨_, rfl⟩
      rw [← hr] at kp r1 r2 r4 hgen hway
      have HF := Aside0.mk (And.intro kf kp)
      have HX := Aside0.mk (And.intro hxl (And.intro hxb (And.intro hnxc (And.intro hRx (And.intro hbw3 (And.intro r1 (And.intro r2 (And.intro r4 hgen))))))))
      have hnx5I : (nx : Int) ≤ 500 := by omega
      clear kf kp r1 r2 r3 r4 hgen hr hx0m hx0b hx0l hx0 hk0 hnx hx hxl hCx hCi hxb hkeep hRx hS' hB' hJ' hg' hbw3 hci hnxc hnx5
      rcases hway with ⟨he, hff, hnone⟩ | ⟨he, hne, hmem⟩ | ⟨he, hne, hmem⟩
      · rw [he] at HF
        subst hff
        have HW := Aside0.mk hnone
        clear he hnone
        go_upto_region 19 with (first
          | (go_at_call 12; refine HF.out.1.mono ?_; rintro e wf ⟨rfl, hwf⟩; have hwf := hwf.symm; subst hwf)
          | (go_at_call 28; refine HF.out.2.mono ?_; rintro e w4 ⟨rfl, hD, hM, hB⟩; have P4 : Aside0 ((∃ hv', Dk w.heap.size p gs hv' cv' r.1 w4) ∧ Mf w.heap.size w4 v ML ∧ Sto s p w4 ∧ Rb w.heap.size w4 Ai x ∧ Below w.heap.size w w4) := ⟨hD, (P.out.2.2.1.mv P3.out.2.2.2.2.1 P3.out.2.2.2.2.2).mv hM hB, (P.out.2.2.2.1.mv P3.out.2.2.2.2.1).mv hM, HX.out.2.2.2.1.mv hM hB, HX.out.2.2.2.2.1.trans hB⟩; clear hD hM hB))
        clear hcell
        obtain ⟨hv4, hD4⟩ := P4.out.1
        obtain ⟨cs, hown, hcs⟩ := P4.out.2.1
        have hMl : ML.length ≤ 12 := by have := P.out.2.1.2.1; omega
        obtain ⟨nM, hnM⟩ : ∃ n, n = ML.length := ⟨_, rfl⟩
        rw [← hnM] at hown hMl
        have hnMI : (nM : Int) ≤ 12 := by omega
        have HM := Aside0.mk (And.intro hD4 (And.intro hown (And.intro hcs hnM)))
        clear hD4 hown hcs hnM
        go_upto_region 20 with (first
          | ((with_reducible refine gate_builtin (b := .append) (xs := #[.tmp 77, .tmp 79]) rfl ?_); at_builtin; refine print_append_cells (w0 := w) w.heap.size rfl (.tmp 77) (.tmp 79) 22 30 (.slice none 0 0) 1 24 rfl Tryd.underlying22 info_row rfl (by decide) (by decide) v nM cs [.slice Ai nx ci] rfl rfl rfl (fun u hu => by rw [List.mem_singleton] at hu; subst hu; rfl) HM.out.2.1 P4.out.2.2.2.2 P4.out.2.2.2.2.size (by omega) ?_
             intro v5 w5 ho5 hb5 hg5 hat5
             have hty := fun k e => own_typed HM.out.2.1 k e
             obtain ⟨A5, q5, rfl⟩ := own_slice ho5
             have P5 : Aside0 (Dk w.heap.size p gs hv4 cv' r.1 w5 ∧ Mf w.heap.size w5 (.slice A5 (nM + 1) q5) (ML ++ [x]) ∧ Sto s p w5 ∧ Below w.heap.size w w5) := ⟨HM.out.1.grown1 hg5 hty, Mf.snoc (A := Ai) (c := ci) (by rw [← HM.out.2.2.2]; exact HM.out.2.1) HM.out.2.2.1 (by rw [HX.out.1]; exact HX.out.2.2.1) P4.out.2.2.2.1 (by rw [HX.out.1, ← HM.out.2.2.2]; exact ho5) hg5, P4.out.2.2.1.grown1 hg5 hty, hb5⟩
             clear ho5 hb5 hg5 hat5 hty))
        obtain ⟨MM, hMM⟩ : ∃ q, q = ML ++ [x] := ⟨_, rfl⟩
        have hMl2 : MM.length = nM + 1 := by rw [hMM, List.length_append, ← HM.out.2.2.2]; rfl
        rw [← hMM] at P5
        have hnMi : nM ≤ i := by rw [HM.out.2.2.2]; exact P.out.2.1.2.1
        have HL := Aside0.mk (And.intro hMl2 hnMi)
        have HMB : Aside0 (∀ y ∈ MM, ∀ z ∈ y, 0 ≤ z ∧ z < 256) := ⟨by rw [hMM]; intro y hy; rcases List.mem_append.1 hy with h | h; (exact P.out.1.2.2.2.2.2 y h); (rw [List.mem_singleton] at h; subst h; exact HX.out.2.1)⟩
        clear hMM hMl2 hnMi HM P4
        go_upto_region 24 with (first
          | (go_at_call 29; refine (start_c P5.out.1).mono ?_; rintro e w6 ⟨rfl, hD, hM, hB⟩; have P6 : Aside0 (Dk w.heap.size p gs hv4 (.slice none 0 0) r.1.start w6 ∧ Mf w.heap.size w6 (.slice A5 (nM + 1) q5) MM ∧ Sto s p w6 ∧ Below w.heap.size w w6) := ⟨hD, P5.out.2.1.mv hM hB, P5.out.2.2.1.mv hM, P5.out.2.2.2.trans hB⟩; clear hD hM hB)
          | (go_at_call 30; have kg := get_c P6.out.1 P6.out.2.2.1 (HG0.out.of P6.out.2.2.2) rfl HX.out.2.2.2.2.2.1 HX.out.2.2.2.2.2.2.1 HX.out.2.2.2.2.2.2.2.1
             rw [show r.1.start.S = r.1.S from rfl] at kg
             rw [HW.out] at kg
             simp only [recN, errN, List.length_nil] at kg
             refine kg.mono ?_; clear kg; rintro e w8 ⟨A8, rfl, hR, hB⟩; have P8 : Aside0 (Dk w.heap.size p gs hv4 (.slice none 0 0) r.1.start w8 ∧ Mf w.heap.size w8 (.slice A5 (nM + 1) q5) MM ∧ Sto s p w8 ∧ Below w.heap.size w w8) := ⟨P6.out.1.below hB, P6.out.2.1.mv (Mv.of hB) (below_le hB P6.out.2.2.2.size), P6.out.2.2.1.below hB, below_step P6.out.2.2.2 hB⟩; clear hR hB))
        clear P5 P6
        go_loopg [18, 19] (nM + 1) (fun j t u wz => ∃ (z : Nat), z + j = nM + 1 ∧ t = .bool true ∧ u = .int .i64 (z : Int) ∧ wz = w8)
        case atStart => exact ⟨0, by omega, rfl, rfl, rfl⟩
        case round =>
          obtain ⟨z, hz, rfl, rfl, rfl⟩ := hrel
          by_cases hzn : z < nM + 1
          · have hzI : (z : Int) < ((nM + 1 : Nat) : Int) := by omega
            go_wp2
            go_roundg (gk - 1)
            all_goals first
              | omega
              | exact ⟨z + 1, by omega, rfl, by go_num, rfl⟩
          · have hzI : ¬ (z : Int) < ((nM + 1 : Nat) : Int) := by omega
            clear hz hzn
            go_wp2
            go_roundg (gko - 1)
            all_goals first
              | (have := HI.out; omega)
              | exact ⟨i + 1, _, _, _, r.1.start, true, MM, rfl, by have := HI.out; omega, rfl, by go_num, ⟨⟨P8.out.1, HX.out.2.2.2.2.2.1, rfl, HX.out.2.2.2.2.2.2.1, HX.out.2.2.2.2.2.2.2.1, HMB.out⟩, ⟨HX.out.2.2.2.2.2.2.2.2, by rw [HL.out.1]; have := HL.out.2; omega, .inl ⟨rfl, HW.out⟩⟩, P8.out.2⟩⟩
      · rw [he] at HF
        have HW := Aside0.mk (And.intro hne hmem)
        clear he hne hmem
        go_upto_region 19 with (first
          | (go_at_call 12; refine HF.out.1.mono ?_; rintro e wf ⟨rfl, hwf⟩; have hwf := hwf.symm; subst hwf)
          | (go_at_call 28; refine HF.out.2.mono ?_; rintro e w4 ⟨rfl, hD, hM, hB⟩; have P4 : Aside0 ((∃ hv', Dk w.heap.size p gs hv' cv' r.1 w4) ∧ Mf w.heap.size w4 v ML ∧ Sto s p w4 ∧ Rb w.heap.size w4 Ai x ∧ Below w.heap.size w w4) := ⟨hD, (P.out.2.2.1.mv P3.out.2.2.2.2.1 P3.out.2.2.2.2.2).mv hM hB, (P.out.2.2.2.1.mv P3.out.2.2.2.2.1).mv hM, HX.out.2.2.2.1.mv hM hB, HX.out.2.2.2.2.1.trans hB⟩; clear hD hM hB))
        clear hcell
        obtain ⟨hv4, hD4⟩ := P4.out.1
        obtain ⟨cs, hown, hcs⟩ := P4.out.2.1
        have hMl : ML.length ≤ 12 := by have := P.out.2.1.2.1; omega
        obtain ⟨nM, hnM⟩ : ∃ n, n = ML.length := ⟨_, rfl⟩
        rw [← hnM] at hown hMl
        have hnMI : (nM : Int) ≤ 12 := by omega
        have HM := Aside0.mk (And.intro hD4 (And.intro hown (And.intro hcs hnM)))
        clear hD4 hown hcs hnM
        go_upto_region 20 with (first
          | ((with_reducible refine gate_builtin (b := .append) (xs := #[.tmp 77, .tmp 79]) rfl ?_); at_builtin; refine print_append_cells (w0 := w) w.heap.size rfl (.tmp 77) (.tmp 79) 22 30 (.slice none 0 0) 1 24 rfl Tryd.underlying22 info_row rfl (by decide) (by decide) v nM cs [.slice Ai nx ci] rfl rfl rfl (fun u hu => by rw [List.mem_singleton] at hu; subst hu; rfl) HM.out.2.1 P4.out.2.2.2.2 P4.out.2.2.2.2.size (by omega) ?_
             intro v5 w5 ho5 hb5 hg5 hat5
             have hty := fun k e => own_typed HM.out.2.1 k e
             obtain ⟨A5, q5, rfl⟩ := own_slice ho5
             have P5 : Aside0 (Dk w.heap.size p gs hv4 cv' r.1 w5 ∧ Mf w.heap.size w5 (.slice A5 (nM + 1) q5) (ML ++ [x]) ∧ Sto s p w5 ∧ Below w.heap.size w w5) := ⟨HM.out.1.grown1 hg5 hty, Mf.snoc (A := Ai) (c := ci) (by rw [← HM.out.2.2.2]; exact HM.out.2.1) HM.out.2.2.1 (by rw [HX.out.1]; exact HX.out.2.2.1) P4.out.2.2.2.1 (by rw [HX.out.1, ← HM.out.2.2.2]; exact ho5) hg5, P4.out.2.2.1.grown1 hg5 hty, hb5⟩
             clear ho5 hb5 hg5 hat5 hty))
        obtain ⟨MM, hMM⟩ : ∃ q, q = ML ++ [x] := ⟨_, rfl⟩
        have hMl2 : MM.length = nM + 1 := by rw [hMM, List.length_append, ← HM.out.2.2.2]; rfl
        rw [← hMM] at P5
        rw [← hMM] at HW
        have hnMi : nM ≤ i := by rw [HM.out.2.2.2]; exact P.out.2.1.2.1
        have HL := Aside0.mk (And.intro hMl2 hnMi)
        have HMB : Aside0 (∀ y ∈ MM, ∀ z ∈ y, 0 ≤ z ∧ z < 256) := ⟨by rw [hMM]; intro y hy; rcases List.mem_append.1 hy with h | h; (exact P.out.1.2.2.2.2.2 y h); (rw [List.mem_singleton] at h; subst h; exact HX.out.2.1)⟩
        clear hMM hMl2 hnMi HM P4
        go_upto_region 24 with (first
          | (go_at_call 29; refine (start_c P5.out.1).mono ?_; rintro e w6 ⟨rfl, hD, hM, hB⟩; have P6 : Aside0 (Dk w.heap.size p gs hv4 (.slice none 0 0) r.1.start w6 ∧ Mf w.heap.size w6 (.slice A5 (nM + 1) q5) MM ∧ Sto s p w6 ∧ Below w.heap.size w w6) := ⟨hD, P5.out.2.1.mv hM hB, P5.out.2.2.1.mv hM, P5.out.2.2.2.trans hB⟩; clear hD hM hB)
          | (go_at_call 30; have kg := get_c P6.out.1 P6.out.2.2.1 (HG0.out.of P6.out.2.2.2) rfl HX.out.2.2.2.2.2.1 HX.out.2.2.2.2.2.2.1 HX.out.2.2.2.2.2.2.2.1
             rw [show r.1.start.S = r.1.S from rfl] at kg
             rw [errN_some HW.out.1] at kg
             refine kg.mono ?_; clear kg; rintro e w8 ⟨A8, rfl, hR, hB⟩; have P8 : Aside0 (Dk w.heap.size p gs hv4 (.slice none 0 0) r.1.start w8 ∧ Mf w.heap.size w8 (.slice A5 (nM + 1) q5) MM ∧ Sto s p w8 ∧ Rb w.heap.size w8 A8 (recN (newS r.1.S)) ∧ Below w.heap.size w w8) := ⟨P6.out.1.below hB, P6.out.2.1.mv (Mv.of hB) (below_le hB P6.out.2.2.2.size), P6.out.2.2.1.below hB, Rb.ofRec hR, below_step P6.out.2.2.2 hB⟩; clear hR hB))
        clear P5 P6
        obtain ⟨R, hR⟩ : ∃ q, q = recN (newS r.1.S) := ⟨_, rfl⟩
        obtain ⟨nR, hnR⟩ : ∃ n, n = R.length := ⟨_, rfl⟩
        rw [← hR] at P8 HW ⊢
        rw [← hnR]
        have HR := Lib.hid (And.intro hR hnR)
        clear hR hnR
        go_loopg [18, 19] (nM + 1) (fun j t u wz => ∃ (z : Nat) (b : Bool), z + j = nM + 1 ∧ t = .bool b ∧ u = .int .i64 (z : Int) ∧ Aside0 (b = decide (R ∈ MM.take z) ∧ Below w8.heap.size w8 wz))
        case atStart => exact ⟨0, false, by omega, rfl, rfl, ⟨by simp, Below.refl _ _⟩⟩
        case round =>
          obtain ⟨z, b, hz, rfl, rfl, PZ⟩ := hrel
          obtain ⟨wz, hwz⟩ : ∃ wz, wz = wr := ⟨_, rfl⟩
          subst hwz
          have HZ := Lib.hid hz
          clear hz
          by_cases hzn : z < nM + 1
          · have hzI : (z : Int) < ((nM + 1 : Nat) : Int) := by omega
            have hsucc := take_mem_succ MM z (by rw [HL.out.1]; exact hzn) R
            cases b with
            | true =>
              go_wp2
              go_roundg (gk - 1)
              all_goals first
                | (have := HZ.out; omega)
                | exact ⟨z + 1, true, by have := HZ.out; omega, rfl, by go_num, ⟨by rw [hsucc, ← PZ.out.1]; rfl, PZ.out.2⟩⟩
            | false =>
              have hbw := below_le PZ.out.2 P8.out.2.2.2.2.size
              obtain ⟨adm, Am, cm, hAm, hcm, hlm, hRm⟩ := (P8.out.2.1.mv (Mv.of PZ.out.2) hbw).get z (by rw [HL.out.1]; exact hzn)
              subst hAm
              have hym : MM.getD z [] ∈ MM := by rw [List.getD_eq_getElem?_getD, List.getElem?_eq_getElem (by rw [HL.out.1]; exact hzn)]; exact List.getElem_mem _
              have hyb := HMB.out _ hym
              obtain ⟨y, hy⟩ : ∃ y, y = MM.getD z [] := ⟨_, rfl⟩
              rw [← hy] at hcm hlm hRm hyb hsucc
              obtain ⟨ny, hny⟩ : ∃ n, n = y.length := ⟨_, rfl⟩
              have hRz := P8.out.2.2.2.1.mv (Mv.of PZ.out.2) hbw
              have hks := imprimaturref01_SameBytes.calls A8 R.length R Am cm y (decide (R = y)) wz hRz.1 (Nat.le_refl _) hRm.1 hlm (by unfold imprimaturref01_SameBytes.f; rw [strs_beq (HMB.out _ HW.out.2) hyb])
              rw [← hny] at hks hcm
              rw [← HR.out.2] at hks
              have HKS := Aside0.mk (And.intro hks hsucc)
              clear hks hsucc hy hny hyb hym hRz hlm hRm hbw
              generalize decide (R = y) = bb at HKS
              go_wp2_with (first
                | (go_at_call 22; refine HKS.out.1.mono ?_; rintro e w9 ⟨rfl, hd⟩; have P9 := Aside0.mk (below_step PZ.out.2 hd.below); clear hd))
              go_roundg (gk - 1)
              all_goals first
                | (have := HZ.out; omega)
                | exact ⟨z + 1, bb, by have := HZ.out; omega, rfl, by go_num, ⟨by rw [HKS.out.2, ← PZ.out.1]; rfl, P9.out⟩⟩
          · have hzI : ¬ (z : Int) < ((nM + 1 : Nat) : Int) := by omega
            have hbt : b = true := by rw [PZ.out.1, List.take_of_length_le (by rw [HL.out.1]; omega)]; exact decide_eq_true HW.out.2
            subst hbt
            clear hzn
            have hbw := below_le PZ.out.2 P8.out.2.2.2.2.size
            have hal := below_alloc (Below.refl wz.heap.size wz) (.cells #[.slice A8 nR nR] 30)
            have hwz := below_step P8.out.2.2.2.2 PZ.out.2
            have P10 : Aside0 (Dk w.heap.size p gs hv4 (.slice none 0 0) r.1.start (wz.alloc (.cells #[.slice A8 nR nR] 30)) ∧ Mf w.heap.size (wz.alloc (.cells #[.slice A8 nR nR] 30)) (.slice (some ⟨wz.heap.size, 0, none⟩) 1 1) [R] ∧ Sto s p (wz.alloc (.cells #[.slice A8 nR nR] 30)) ∧ Below w.heap.size w (wz.alloc (.cells #[.slice A8 nR nR] 30))) := ⟨(P8.out.1.below PZ.out.2).below hal, Mf.one HR.out.2 (by rw [HR.out.2]; exact Nat.le_refl _) (P8.out.2.2.2.1.mv (Mv.of PZ.out.2) hbw) hwz.size, (P8.out.2.2.1.below PZ.out.2).below hal, below_step hwz hal⟩
            clear hbw hal hwz
            go_wp2
            go_roundg (gko - 1)
            all_goals first
              | (have := HI.out; omega)
              | exact ⟨i + 1, _, _, _, r.1.start, false, [R], rfl, by have := HI.out; omega, rfl, by go_num, ⟨⟨P10.out.1, HX.out.2.2.2.2.2.1, rfl, HX.out.2.2.2.2.2.2.1, HX.out.2.2.2.2.2.2.2.1, fun y hy => by rw [List.mem_singleton] at hy; subst hy; exact HMB.out _ HW.out.2⟩, ⟨HX.out.2.2.2.2.2.2.2.2, by show 1 ≤ i + 1; omega, .inr ⟨rfl, HW.out.1, by rw [HR.out.1]; rfl⟩⟩, P10.out.2⟩⟩
      · rw [he] at HF
        have HW := Aside0.mk (And.intro hne hmem)
        clear he hne hmem
        go_upto_region 19 with (first
          | (go_at_call 12; refine HF.out.1.mono ?_; rintro e wf ⟨rfl, hwf⟩; have hwf := hwf.symm; subst hwf)
          | (go_at_call 28; refine HF.out.2.mono ?_; rintro e w4 ⟨rfl, hD, hM, hB⟩; have P4 : Aside0 ((∃ hv', Dk w.heap.size p gs hv' cv' r.1 w4) ∧ Mf w.heap.size w4 (.slice none 0 0) ([] : List (List Int)) ∧ Sto s p w4 ∧ Rb w.heap.size w4 Ai x ∧ Below w.heap.size w w4) := ⟨hD, Mf.nil _ _, (P.out.2.2.2.1.mv P3.out.2.2.2.2.1).mv hM, HX.out.2.2.2.1.mv hM hB, HX.out.2.2.2.2.1.trans hB⟩; clear hD hM hB))
        clear hcell
        obtain ⟨hv4, hD4⟩ := P4.out.1
        obtain ⟨cs, hown, hcs⟩ := P4.out.2.1
        have hMl : ([] : List (List Int)).length ≤ 12 := by decide
        obtain ⟨nM, hnM⟩ : ∃ n, n = ([] : List (List Int)).length := ⟨_, rfl⟩
        rw [← hnM] at hown hMl
        have hnMI : (nM : Int) ≤ 12 := by omega
        have HM := Aside0.mk (And.intro hD4 (And.intro hown (And.intro hcs hnM)))
        clear hD4 hown hcs hnM
        go_upto_region 20 with (first
          | ((with_reducible refine gate_builtin (b := .append) (xs := #[.tmp 77, .tmp 79]) rfl ?_); at_builtin; refine print_append_cells (w0 := w) w.heap.size rfl (.tmp 77) (.tmp 79) 22 30 (.slice none 0 0) 1 24 rfl Tryd.underlying22 info_row rfl (by decide) (by decide) (.slice none 0 0) nM cs [.slice Ai nx ci] rfl rfl rfl (fun u hu => by rw [List.mem_singleton] at hu; subst hu; rfl) HM.out.2.1 P4.out.2.2.2.2 P4.out.2.2.2.2.size (by omega) ?_
             intro v5 w5 ho5 hb5 hg5 hat5
             have hty := fun k e => own_typed HM.out.2.1 k e
             obtain ⟨A5, q5, rfl⟩ := own_slice ho5
             have P5 : Aside0 (Dk w.heap.size p gs hv4 cv' r.1 w5 ∧ Mf w.heap.size w5 (.slice A5 (nM + 1) q5) (([] : List (List Int)) ++ [x]) ∧ Sto s p w5 ∧ Below w.heap.size w w5) := ⟨HM.out.1.grown1 hg5 hty, Mf.snoc (A := Ai) (c := ci) (by rw [← HM.out.2.2.2]; exact HM.out.2.1) HM.out.2.2.1 (by rw [HX.out.1]; exact HX.out.2.2.1) P4.out.2.2.2.1 (by rw [HX.out.1, ← HM.out.2.2.2]; exact ho5) hg5, P4.out.2.2.1.grown1 hg5 hty, hb5⟩
             clear ho5 hb5 hg5 hat5 hty))
        obtain ⟨MM, hMM⟩ : ∃ q, q = ([] : List (List Int)) ++ [x] := ⟨_, rfl⟩
        have hMl2 : MM.length = nM + 1 := by rw [hMM, List.length_append, ← HM.out.2.2.2]; rfl
        rw [← hMM] at P5
        rw [← hMM] at HW
        have hnMi : nM ≤ i := by rw [HM.out.2.2.2]; exact Nat.zero_le _
        have HL := Aside0.mk (And.intro hMl2 hnMi)
        have HMB : Aside0 (∀ y ∈ MM, ∀ z ∈ y, 0 ≤ z ∧ z < 256) := ⟨by rw [hMM]; intro y hy; rcases List.mem_append.1 hy with h | h; (cases h); (rw [List.mem_singleton] at h; subst h; exact HX.out.2.1)⟩
        clear hMM hMl2 hnMi HM P4
        go_upto_region 24 with (first
          | (go_at_call 29; refine (start_c P5.out.1).mono ?_; rintro e w6 ⟨rfl, hD, hM, hB⟩; have P6 : Aside0 (Dk w.heap.size p gs hv4 (.slice none 0 0) r.1.start w6 ∧ Mf w.heap.size w6 (.slice A5 (nM + 1) q5) MM ∧ Sto s p w6 ∧ Below w.heap.size w w6) := ⟨hD, P5.out.2.1.mv hM hB, P5.out.2.2.1.mv hM, P5.out.2.2.2.trans hB⟩; clear hD hM hB)
          | (go_at_call 30; have kg := get_c P6.out.1 P6.out.2.2.1 (HG0.out.of P6.out.2.2.2) rfl HX.out.2.2.2.2.2.1 HX.out.2.2.2.2.2.2.1 HX.out.2.2.2.2.2.2.2.1
             rw [show r.1.start.S = r.1.S from rfl] at kg
             rw [errN_some HW.out.1] at kg
             refine kg.mono ?_; clear kg; rintro e w8 ⟨A8, rfl, hR, hB⟩; have P8 : Aside0 (Dk w.heap.size p gs hv4 (.slice none 0 0) r.1.start w8 ∧ Mf w.heap.size w8 (.slice A5 (nM + 1) q5) MM ∧ Sto s p w8 ∧ Rb w.heap.size w8 A8 (recN (newS r.1.S)) ∧ Below w.heap.size w w8) := ⟨P6.out.1.below hB, P6.out.2.1.mv (Mv.of hB) (below_le hB P6.out.2.2.2.size), P6.out.2.2.1.below hB, Rb.ofRec hR, below_step P6.out.2.2.2 hB⟩; clear hR hB))
        clear P5 P6
        obtain ⟨R, hR⟩ : ∃ q, q = recN (newS r.1.S) := ⟨_, rfl⟩
        obtain ⟨nR, hnR⟩ : ∃ n, n = R.length := ⟨_, rfl⟩
        rw [← hR] at P8 HW ⊢
        rw [← hnR]
        have HR := Lib.hid (And.intro hR hnR)
        clear hR hnR
        go_loopg [18, 19] (nM + 1) (fun j t u wz => ∃ (z : Nat) (b : Bool), z + j = nM + 1 ∧ t = .bool b ∧ u = .int .i64 (z : Int) ∧ Aside0 (b = decide (R ∈ MM.take z) ∧ Below w8.heap.size w8 wz))
        case atStart => exact ⟨0, false, by omega, rfl, rfl, ⟨by simp, Below.refl _ _⟩⟩
        case round =>
          obtain ⟨z, b, hz, rfl, rfl, PZ⟩ := hrel
          obtain ⟨wz, hwz⟩ : ∃ wz, wz = wr := ⟨_, rfl⟩
          subst hwz
          have HZ := Lib.hid hz
          clear hz
          by_cases hzn : z < nM + 1
          · have hzI : (z : Int) < ((nM + 1 : Nat) : Int) := by omega
            have hsucc := take_mem_succ MM z (by rw [HL.out.1]; exact hzn) R
            cases b with
            | true =>
              go_wp2
              go_roundg (gk - 1)
              all_goals first
                | (have := HZ.out; omega)
                | exact ⟨z + 1, true, by have := HZ.out; omega, rfl, by go_num, ⟨by rw [hsucc, ← PZ.out.1]; rfl, PZ.out.2⟩⟩
            | false =>
              have hbw := below_le PZ.out.2 P8.out.2.2.2.2.size
              obtain ⟨adm, Am, cm, hAm, hcm, hlm, hRm⟩ := (P8.out.2.1.mv (Mv.of PZ.out.2) hbw).get z (by rw [HL.out.1]; exact hzn)
              subst hAm
              have hym : MM.getD z [] ∈ MM := by rw [List.getD_eq_getElem?_getD, List.getElem?_eq_getElem (by rw [HL.out.1]; exact hzn)]; exact List.getElem_mem _
              have hyb := HMB.out _ hym
              obtain ⟨y, hy⟩ : ∃ y, y = MM.getD z [] := ⟨_, rfl⟩
              rw [← hy] at hcm hlm hRm hyb hsucc
              obtain ⟨ny, hny⟩ : ∃ n, n = y.length := ⟨_, rfl⟩
              have hRz := P8.out.2.2.2.1.mv (Mv.of PZ.out.2) hbw
              have hks := imprimaturref01_SameBytes.calls A8 R.length R Am cm y (decide (R = y)) wz hRz.1 (Nat.le_refl _) hRm.1 hlm (by unfold imprimaturref01_SameBytes.f; rw [strs_beq (HMB.out _ HW.out.2) hyb])
              rw [← hny] at hks hcm
              rw [← HR.out.2] at hks
              have HKS := Aside0.mk (And.intro hks hsucc)
              clear hks hsucc hy hny hyb hym hRz hlm hRm hbw
              generalize decide (R = y) = bb at HKS
              go_wp2_with (first
                | (go_at_call 22; refine HKS.out.1.mono ?_; rintro e w9 ⟨rfl, hd⟩; have P9 := Aside0.mk (below_step PZ.out.2 hd.below); clear hd))
              go_roundg (gk - 1)
              all_goals first
                | (have := HZ.out; omega)
                | exact ⟨z + 1, bb, by have := HZ.out; omega, rfl, by go_num, ⟨by rw [HKS.out.2, ← PZ.out.1]; rfl, P9.out⟩⟩
          · have hzI : ¬ (z : Int) < ((nM + 1 : Nat) : Int) := by omega
            have hbt : b = true := by rw [PZ.out.1, List.take_of_length_le (by rw [HL.out.1]; omega)]; exact decide_eq_true HW.out.2
            subst hbt
            clear hzn
            have hbw := below_le PZ.out.2 P8.out.2.2.2.2.size
            have hal := below_alloc (Below.refl wz.heap.size wz) (.cells #[.slice A8 nR nR] 30)
            have hwz := below_step P8.out.2.2.2.2 PZ.out.2
            have P10 : Aside0 (Dk w.heap.size p gs hv4 (.slice none 0 0) r.1.start (wz.alloc (.cells #[.slice A8 nR nR] 30)) ∧ Mf w.heap.size (wz.alloc (.cells #[.slice A8 nR nR] 30)) (.slice (some ⟨wz.heap.size, 0, none⟩) 1 1) [R] ∧ Sto s p (wz.alloc (.cells #[.slice A8 nR nR] 30)) ∧ Below w.heap.size w (wz.alloc (.cells #[.slice A8 nR nR] 30))) := ⟨(P8.out.1.below PZ.out.2).below hal, Mf.one HR.out.2 (by rw [HR.out.2]; exact Nat.le_refl _) (P8.out.2.2.2.1.mv (Mv.of PZ.out.2) hbw) hwz.size, (P8.out.2.2.1.below PZ.out.2).below hal, below_step hwz hal⟩
            clear hbw hal hwz
            go_wp2
            go_roundg (gko - 1)
            all_goals first
              | (have := HI.out; omega)
              | exact ⟨i + 1, _, _, _, r.1.start, false, [R], rfl, by have := HI.out; omega, rfl, by go_num, ⟨⟨P10.out.1, HX.out.2.2.2.2.2.1, rfl, HX.out.2.2.2.2.2.2.1, HX.out.2.2.2.2.2.2.2.1, fun y hy => by rw [List.mem_singleton] at hy; subst hy; exact HMB.out _ HW.out.2⟩, ⟨HX.out.2.2.2.2.2.2.2.2, by show 1 ≤ i + 1; omega, .inr ⟨rfl, HW.out.1, by rw [HR.out.1]; rfl⟩⟩, P10.out.2⟩⟩
    · by_cases h1 : i < n0
      · have h1I : (i : Int) < (n0 : Int) := by omega
        have h2I : ¬ (i : Int) < 12 := by omega
        go_wp2_with (first
          | (go_at_call 10; refine (imprimaturtop_awake.calls true wr (HG0.out.of P.out.2.2.2.2) rfl).mono ?_; rintro e w24 ⟨rfl, hbe⟩; have P24 := Aside0.mk (below_step P.out.2.2.2.2 hbe); clear hbe))
        go_ret
        exact ⟨rfl, P24.out⟩
      · have h1I : ¬ (i : Int) < (n0 : Int) := by omega
        go_wp2_with (first
          | (go_at_call 10; refine (imprimaturtop_awake.calls true wr (HG0.out.of P.out.2.2.2.2) rfl).mono ?_; rintro e w24 ⟨rfl, hbe⟩; have P24 := Aside0.mk (below_step P.out.2.2.2.2 hbe); clear hbe))
        go_ret
        exact ⟨rfl, P24.out⟩
theorem TopJournal_walk (a0 : Option Addr) (cap0 : Nat) (x0 : List (List Int)) (a1 : Option Addr) (len1 cap1 : Nat) (z1 : List Int) (a2 : Option Addr) (cap2 : Nat) (x2 : List Bool) (w : World) (HG : Glb w)
    (w0 : Kd.C (Kd.slice 5 (Kd.int .u8)) w a0 x0.length x0) (c0 : x0.length ≤ cap0) (o0 : x0.length * 24 ≤ 140737488351232) (g0 : ∀ l ∈ x0, (∀ x ∈ l, (Lit.int .u8 x).wf = true) ∧ l.length * 1 ≤ 140737488351232)
    (w1 : (a1 = none ∧ len1 = 0 ∧ cap1 = 0 ∧ z1 = []) ∨ ∃ x, a1 = some x ∧ len1 ≤ cap1 ∧ cap1 ≤ maxLen ∧ z1.length = cap1 ∧ (∀ i, i < z1.length → w.cell? (x.add i) = some (.int .u8 (z1.getD i 0))) ∧ ∀ n ∈ z1, (Lit.int .u8 n).wf = true) (y1 : len1 * 1 ≤ 140737488351232)
    (w2 : Kd.bool.C w a2 x2.length x2) (c2 : x2.length ≤ cap2) :
    Calls Tryd.prog 5 #[.slice a0 x0.length cap0, .slice a1 len1 cap1, .slice a2 x2.length cap2] w fun e w' => e = .returned (.bool true) ∧ Below w.heap.size w w' := by
  obtain ⟨l1, rfl, hr1, hm1, hw1, hc1⟩ := ReadsInt.ofRowC w1
  clear w1
  have HC1 := Kd.C_of_reads (d := 0) (h1 := fun _ => rfl) hr1
  have wfb : ∀ x : Int, (Lit.int .u8 x).wf = true → 0 ≤ x ∧ x < 256 := by
    intro x h
    simp [Lit.wf, IntKind.min, IntKind.max, IntKind.bits, IntKind.signed] at h
    omega
  exact journal_w a0 _ cap0 x0 a1 _ cap1 l1 a2 _ cap2 x2 w HG rfl w0 (fun l hl x hx => wfb x ((g0 l hl).1 x hx)) (fun l hl => by have := (g0 l hl).2; omega) rfl HC1 (fun x hx => wfb x (hw1 x hx)) rfl w2 c2
end Go.Proofs.YtbenedckmapjoaaDoor.D
