/- The law Sha2Pieces: however a text is cut into pieces, its digest is the same. -/
import Derived.Test.YtckjgipkdknmgaaDoorAk
namespace Go.Proofs.YtckjgipkdknmgaaDoor.PSum
open Go.RowKit Go.Proofs.YtckjgipkdknmgaaDoorW.PrintWords Go.Proofs.YtckjgipkdknmgaaDoorW.PrintMore Go.Proofs.YtckjgipkdknmgaaDoor.X Go.Proofs.YtckjgipkdknmgaaDoor.H
/-- An element of a row of rows. -/
theorem elem_at {q : Nat} {k : IntKind} {w : World} {a : Option Addr} {xs : List (List Int)} (h : Kd.C (Kd.slice q (Kd.int k)) w a xs.length xs) {i : Nat} (hi : i < xs.length) :
    ∃ ad A c, a = some ad ∧ w.cell? (ad.add i) = some (.slice A (xs.getD i []).length c) ∧ (xs.getD i []).length ≤ c ∧ Kd.C (Kd.int k) w A (xs.getD i []).length (xs.getD i []) := by
  obtain ⟨ad, he, hc⟩ := h.2.2 (by omega)
  have hx : xs[i]? = some (xs.getD i []) := by rw [List.getD_eq_getElem?_getD, List.getElem?_eq_getElem hi]; rfl
  obtain ⟨cs, h1, ⟨A, c, rfl, h3, h4⟩, h5⟩ := hc i _ hx
  have h6 := h5 0 _ rfl
  rw [show i * (Kd.slice q (Kd.int k)).sz + 0 = i from by show i * 1 + 0 = i; omega] at h6
  exact ⟨ad, A, c, he, h6, h3, h4⟩
theorem bytes_mem {l : List Int} (h : ∀ i, 0 ≤ l.getD i 0 ∧ l.getD i 0 < 256) : ∀ x ∈ l, 0 ≤ x ∧ x < 256 := fun x hx => by
  obtain ⟨i, hi, rfl⟩ := List.mem_iff_getElem.1 hx
  have := h i
  rw [List.getD_eq_getElem?_getD, List.getElem?_eq_getElem hi] at this
  exact this
def tot (xs : List (List Int)) (i : Nat) : Nat := ((xs.take i).map (fun l => l.length + 1)).sum
theorem take_next {α : Type} (xs : List α) (d : α) (i : Nat) (hi : i < xs.length) : xs.take (i + 1) = xs.take i ++ [xs.getD i d] := by
  rw [List.take_add_one, List.getElem?_eq_getElem hi, List.getD_eq_getElem?_getD, List.getElem?_eq_getElem hi]
  rfl
theorem tot_succ (xs : List (List Int)) (i : Nat) (hi : i < xs.length) : tot xs (i + 1) = tot xs i + 1 + (xs.getD i []).length := by
  unfold tot
  rw [take_next xs [] i hi]
  simp
  omega
def cat (xs : List (List Int)) (i : Nat) : List Int := (xs.take i).flatten
theorem cat_succ (xs : List (List Int)) (i : Nat) (hi : i < xs.length) : cat xs (i + 1) = cat xs i ++ xs.getD i [] := by
  unfold cat
  rw [take_next xs [] i hi]
  simp
theorem cat_tot (xs : List (List Int)) (i : Nat) : (cat xs i).length ≤ tot xs i := by
  unfold cat tot
  generalize xs.take i = ys
  induction ys with
  | nil => simp
  | cons y ys ih => simp only [List.flatten_cons, List.length_append, List.map_cons, List.sum_cons]; omega
theorem tot_le (xs : List (List Int)) (i : Nat) : tot xs i ≤ tot xs xs.length := by
  unfold tot
  rw [List.take_length]
  generalize hy : xs.take i = ys
  have : xs = ys ++ xs.drop i := by rw [← hy, List.take_append_drop]
  rw [this, List.map_append, List.sum_append]
  omega
set_option maxRecDepth 100000 in
set_option maxHeartbeats 4000000 in
theorem Sha2Pieces_walk (a : Option Addr) (ca : Nat) (xs : List (List Int)) (wide : Bool) (W : World) (HG : Glb W) (ra : Kd.C (Kd.slice 5 (Kd.int .u8)) W a xs.length xs) (_hca : xs.length ≤ ca) (_hs : xs.length * 24 ≤ 140737488351232)
    (hx : ∀ l ∈ xs, (∀ x ∈ l, (Lit.int .u8 x).wf = true) ∧ l.length * 1 ≤ 140737488351232) :
    Calls Tryd.prog 11 #[.slice a xs.length ca, .bool wide] W fun e w' => e = .returned (.bool true) ∧ Below W.heap.size W w' := by
  obtain ⟨bits, hbits⟩ : ∃ bits : Int, bits = if wide then 512 else 256 := ⟨_, rfl⟩
  obtain ⟨dl, hdl⟩ : ∃ dl : Nat, dl = if wide then 64 else 32 := ⟨_, rfl⟩
  have HN := Aside0.mk (new_c wide KS SS)
  rw [← hbits] at HN
  have HW := Aside0.mk (which_c wide bits hbits)
  have HSM := Aside0.mk (fun base t p v w => hsum_c base wide dl hdl t p v w)
  have HD := Aside0.mk (digest_bytes wide KS SS)
  rw [← hdl] at HD
  have HBD : Aside0 ((bits = 512 ∧ dl = 64 ∧ wide = true) ∨ (bits = 256 ∧ dl = 32 ∧ wide = false)) := ⟨by cases wide; exact .inr ⟨hbits, hdl, rfl⟩; exact .inl ⟨hbits, hdl, rfl⟩⟩
  have hel : ∀ i, i < xs.length → (xs.getD i []).length ≤ 140737488351232 := fun i hi => by
    have := (hx (xs.getD i []) (by rw [List.getD_eq_getElem?_getD, List.getElem?_eq_getElem hi]; exact List.getElem_mem hi)).2
    omega
  have heb : ∀ i, i < xs.length → ∀ x ∈ xs.getD i [], 0 ≤ x ∧ x < 256 := fun i hi x hxx => byte_of ((hx (xs.getD i []) (by rw [List.getD_eq_getElem?_getD, List.getElem?_eq_getElem hi]; exact List.getElem_mem hi)).1 x hxx)
  have hxm := Kd.C_max ra
  have H0 := Aside0.mk (And.intro HG (And.intro ra (And.intro hel heb)))
  clear HG ra hx hbits hdl hel heb
  go_enter Tryd.func11, Tryd.ntmps11
  go_wp2_with fail
  go_loopg [5, 6] xs.length (fun m v5 v6 wr => ∃ i t : Nat, m + i = xs.length ∧ v5 = .int .i64 t ∧ v6 = .int .i64 i ∧ Aside0 (t = tot xs i ∧ t ≤ 140737488352100) ∧ Aside0 (Below W.heap.size W wr))
  case atStart => exact ⟨0, 0, by omega, rfl, rfl, ⟨by simp [tot], by omega⟩, ⟨Below.refl _ _⟩⟩
  case round =>
    obtain ⟨i, t, hmi, rfl, rfl, HT, HB⟩ := hrel
    by_cases hi : i < xs.length
    · have hiI : (i : Int) < xs.length := by omega
      by_cases h8 : t ≤ 800
      · have h8I : (t : Int) ≤ 800 := by omega
        obtain ⟨ad, A, c, rfl, hcell, hlc, hC⟩ := elem_at (Kd.C_below H0.out.2.1 HB.out) hi
        have hl := H0.out.2.2.1 i hi
        have htn := tot_succ xs i hi
        have HTN := Aside0.mk htn
        clear htn hC
        generalize hle : (xs.getD i []).length = ln at hcell hlc hl HTN
        clear hle
        go_wp2_with fail
        go_roundg (gk - 1)
        all_goals first
          | omega
          | exact ⟨i + 1, t + 1 + ln, by omega, by first | rfl | (congr 1; omega), by first | rfl | (congr 1; omega), ⟨by rw [HTN.out, HT.out.1], by omega⟩, ⟨by repeat (first | exact HB.out | apply below_drew1 | apply pw_below_drewN)⟩⟩
      · have h8I : ¬ (t : Int) ≤ 800 := by omega
        have h8J : (800 : Int) < t := by omega
        go_wp2_with (first
          | (go_at_call 12; refine (imprimaturlaw02_known.calls true _ (H0.out.1.of (by repeat (first | exact HB.out | apply below_drew1 | apply pw_below_drewN))) known_true).mono ?_; rintro e w2 ⟨rfl, hb⟩; have HB2 := Aside0.mk (below_step (by repeat (first | exact HB.out | apply below_drew1 | apply pw_below_drewN)) hb); clear hb))
        go_ret
        exact ⟨rfl, HB2.out⟩
    · have hiI : ¬ (i : Int) < xs.length := by omega
      obtain rfl : i = xs.length := by omega
      by_cases h8 : t ≤ 800
      · have h8I : ¬ (800 : Int) < t := by omega
        have HC8 : Aside0 (∀ j, (cat xs j).length ≤ 800) := ⟨fun j => by have h1 := cat_tot xs j; have h2 := tot_le xs j; have h3 := HT.out.1; omega⟩
        clear HT
        go_upto_region 11 with (first
          | (go_at_call 18; refine (HW.out _).mono ?_; rintro e w4 ⟨rfl, hB⟩; have HB4 := Aside0.mk (below_step (by repeat (first | exact HB.out | apply below_drew1 | apply pw_below_drewN)) hB); clear hB)
          | (go_at_call 17; refine (HN.out _ (H0.out.1.of HB4.out).laid (H0.out.1.of HB4.out).g0 (H0.out.1.of HB4.out).g1).mono ?_; rintro e w5 ⟨p, rfl, hH5, hB⟩; have P5 := Aside0.mk (And.intro (HashAt_lower hH5 HB4.out.size H0.out.1.g0 H0.out.1.g1) (below_step HB4.out hB)); clear hH5 hB))
        have hpW := P5.out.1.hbase
        clear HB HB4
        go_wp2_with fail
        go_loopg [9, 10] xs.length (fun m v9 v10 wr => ∃ (i n9 c9 : Nat) (A9 : Option Addr) (v : Value), m + i = xs.length ∧ v10 = .int .i64 i ∧ v9 = .slice A9 n9 c9 ∧ n9 ≤ 800 ∧ Aside0 (n9 = (cat xs i).length ∧ HashAt W.heap.size wide KS SS (cat xs i) p v wr ∧ Kd.R (Kd.int .u8) 5 wr W.heap.size (fun k => k ≠ p ∧ some k ≠ v.ownBlock) (.slice A9 n9 c9) (cat xs i) ∧ Below W.heap.size W wr))
        case atStart => exact ⟨0, 0, 0, none, .slice none 0 0, by omega, rfl, rfl, by omega, ⟨rfl, P5.out.1, Kd.R_nil _ _ _ _ _, P5.out.2⟩⟩
        case round =>
          obtain ⟨i, n9, c9, A9, v, hmi, rfl, rfl, hn9, P6⟩ := hrel
          clear P5
          by_cases hi : i < xs.length
          · have hiI : (i : Int) < xs.length := by omega
            obtain ⟨ad, A, c, rfl, hcell0, hlc, hC⟩ := elem_at H0.out.2.1 hi
            have hcell := (P6.out.2.2.2.cell (World.block_lt_of_cell? W _ hcell0)).trans hcell0
            have hadl := Aside0.mk (World.block_lt_of_cell? W _ hcell0)
            have hl := H0.out.2.2.1 i hi
            have hbb := H0.out.2.2.2 i hi
            have hcs := cat_succ xs i hi
            have hc8 := HC8.out (i + 1)
            obtain ⟨l, hll⟩ : ∃ l, l = xs.getD i [] := ⟨_, rfl⟩
            rw [← hll] at hcell hcell0 hlc hC hl hbb hcs
            obtain ⟨nl, hnl⟩ : ∃ nl, nl = l.length := ⟨_, rfl⟩
            rw [← hnl] at hcell hcell0 hlc hC hl
            have HCE := Aside0.mk hcell0
            have HL := Aside0.mk (And.intro hC (And.intro hbb (And.intro hcs (And.intro hnl hc8))))
            have hlen8 : n9 + nl ≤ 800 := by rw [P6.out.1, hnl, ← List.length_append, ← hcs]; exact hc8
            clear hC hbb hcs hnl hc8 hll hcell0
            go_upto_region 17 with (first
              | (go_at_call 19
                 have hw := write_c W.heap.size wide KS SS (cat xs i) p v A c l wr P6.out.2.1 (H0.out.1.of P6.out.2.2.2).laid (by rw [← HL.out.2.2.2.1]; exact Kd.C_below HL.out.1 P6.out.2.2.2) (fun hn ad2 e => by subst e; have := C_block HL.out.1 (by rw [HL.out.2.2.2.1]; exact hn); omega) (fun k hk hn ad2 e => by subst e; have := C_block HL.out.1 (by rw [HL.out.2.2.2.1]; exact hn); have := Kd.R_base P6.out.2.1.row k hk; omega) (getD_bytes HL.out.2.1) (by rw [← List.length_append, ← HL.out.2.2.1]; have := HL.out.2.2.2.2; omega)
                 rw [← HL.out.2.2.2.1, ← HL.out.2.2.1] at hw
                 refine hw.mono ?_
                 rintro e w7 ⟨rfl, v7, hH7, hv7, hF7⟩
                 have P7 := Aside0.mk (And.intro hH7 (And.intro hv7 (And.intro (R_weaken (b2 := W.heap.size) (ok2 := fun k => k ≠ p ∧ some k ≠ v7.ownBlock) (R_fr P6.out.2.2.1 hF7 (fun k hk => by have h1 := P6.out.2.2.1.1 k hk; rintro (h | h); exact h1.1 h; exact h1.2 h.symm)) (fun k hk => Kd.R_base P6.out.2.2.1 k hk) (fun k hk => ⟨(P6.out.2.2.1.1 k hk).1, fun h => by have h1 := hv7 k h.symm; have h2 := Kd.R_lt P6.out.2.2.1 k hk; omega⟩)) (Fr.below P6.out.2.2.2 P6.out.2.2.2.size (fun k hk => by rcases hk with rfl | hk; exact hpW; exact Kd.R_base P6.out.2.1.row k hk) hF7))))
                 have hcell7 := (P7.out.2.2.2.cell hadl.out).trans HCE.out
                 clear hH7 hv7 hF7 hw))
            go_wp2_with (first
              | (at_builtin; refine Kd.R_append_row (Value.int .u8) 0 (w0 := w7) W.heap.size rfl (.tmp 59) (.tmp 63) 23 5 (.int .u8 0) 1 rfl Tryd.underlying23 info_u8 rfl (by decide) (.slice A9 n9 c9) (cat xs i) l A nl c (fun k => k ≠ p ∧ some k ≠ v7.ownBlock) rfl rfl (fun k hk => by have h1 := blk_lt P7.out.1.cells; exact ⟨by omega, fun h => by have h2 := Kd.R_lt P7.out.1.row k h.symm; omega⟩) P7.out.2.2.1 (Kd.C_below HL.out.1 P7.out.2.2.2) (Below.refl _ _) P7.out.2.2.2.size (by rw [← P6.out.1]; omega) ?_
                 intro v8 w8 hown hB hg hat
                 rw [← HL.out.2.2.1] at hown
                 obtain ⟨A8, c8, rfl, hc8, hC8⟩ := Kd.R_reads hown
                 obtain ⟨n8, hn8⟩ : ∃ n8, n8 = (cat xs (i + 1)).length := ⟨_, rfl⟩
                 rw [← hn8] at hown hc8 hat ⊢
                 have P8 := Aside0.mk (And.intro hn8 (And.intro (HashAt_fr P7.out.1 (Fr.of_grown hg) (fun h => (P7.out.2.2.1.1 p h.symm).1 rfl) (fun k hk h => (P7.out.2.2.1.1 k h.symm).2 hk.symm)) (And.intro hown (Fr.below P7.out.2.2.2 P7.out.2.2.2.size (fun k hk => Kd.R_base P7.out.2.2.1 k hk.symm) (Fr.of_grown hg)))))
                 have hn8' : n8 ≤ 800 := by rw [hn8]; exact HC8.out _
                 clear hown hB hg hat hC8 hn8)
              | (go_at_call 32
                 refine (count_c W.heap.size wide KS SS (cat xs (i + 1)) p v7 w8 P8.out.2.1).mono ?_
                 rintro e w9 ⟨he, hb⟩
                 rw [← P8.out.1] at he
                 subst he
                 have P9 := Aside0.mk (And.intro P8.out.1 (And.intro (P8.out.2.1.below hb) (And.intro (R_moved P8.out.2.2.1 (fun k hk => hb.block k (Kd.R_lt P8.out.2.2.1 k hk))) (below_step P8.out.2.2.2 hb))))
                 clear hb))
            go_roundg (gk - 1)
            all_goals first
              | omega
              | exact ⟨i + 1, n8, c8, A8, v7, by omega, rfl, rfl, hn8', P9⟩
          · have hiI : ¬ (i : Int) < xs.length := by omega
            obtain rfl : i = xs.length := by omega
            have hc9 := (Kd.R_reads' P6.out.2.2.1).2.1
            go_upto_region 21 with (first
              | (go_at_call 24
                 have hs := imprimaturlaw02_sum.calls A9 c9 (cat xs xs.length) wide (digest wide KS SS (cat xs xs.length)) 0 wr (H0.out.1.of P6.out.2.2.2) (by rw [← P6.out.1]; exact R_C P6.out.2.2.1) (by rw [← P6.out.1]; exact hc9) (law_sum wide _ (bytes_mem P6.out.2.1.bytes) (by have := HC8.out xs.length; omega))
                 rw [← P6.out.1] at hs
                 refine hs.mono ?_
                 rintro e w10 ⟨v10, rfl, hR10, hB⟩
                 obtain ⟨A10, c10, rfl, hc10, hC10⟩ := Kd.R_reads hR10
                 rw [HD.out] at hR10 hc10 hC10 ⊢
                 have P10 := Aside0.mk (And.intro hC10 (And.intro (P6.out.2.1.below hB) (below_step P6.out.2.2.2 hB)))
                 clear hR10 hB hC10 hs))
            rcases HBD.out with ⟨rfl, rfl, rfl⟩ | ⟨rfl, rfl, rfl⟩
            all_goals have TK1 := Aside0.mk True.intro
            all_goals go_wp2_with (first
              | (go_at_call 20
                 refine (HSM.out W.heap.size (cat xs xs.length) p v w10 P10.out.2.1 (H0.out.1.of P10.out.2.2).laid).mono ?_
                 rintro e w11 ⟨A11, c11, rfl, hc11, hR11, hB⟩
                 have P11 := Aside0.mk (And.intro (R_C hR11) hB)
                 clear hR11 hB)
              | (go_at_call 15
                 refine (same_c (l := digest _ KS SS (cat xs xs.length)) (HD.out _).symm P11.out.1 hc11 (Kd.C_below P10.out.1 P11.out.2) hc10).mono ?_
                 rintro e w12 ⟨rfl, hB⟩
                 have HB12 := Aside0.mk (below_step P11.out.2 hB)
                 clear hB P11)
              | (go_at_call 33; have tk := TK1; clear tk TK1
                 refine (size_c W.heap.size _ KS SS (cat xs xs.length) p v w12 (P10.out.2.1.below HB12.out)).mono ?_
                 rintro e w13 ⟨rfl, hB⟩
                 have HB13 := Aside0.mk (below_step HB12.out hB)
                 clear hB)
              | (go_at_call 18; refine (HW.out w13).mono ?_; rintro e w14 ⟨rfl, hB⟩; have HB14 := Aside0.mk (below_step HB13.out hB); clear hB)
              | (go_at_call 33
                 refine (size_c W.heap.size _ KS SS (cat xs xs.length) p v w14 (P10.out.2.1.below HB14.out)).mono ?_
                 rintro e w15 ⟨rfl, hB⟩
                 have HB15 := Aside0.mk (below_step P10.out.2.2 (below_step HB14.out hB))
                 clear hB)
              | (go_at_call 12; refine (imprimaturlaw02_known.calls true _ (H0.out.1.of HB15.out) known_true).mono ?_; rintro e w16 ⟨rfl, hb⟩; have HB16 := Aside0.mk (below_step HB15.out hb); clear hb))
            all_goals go_ret
            all_goals exact ⟨rfl, HB16.out⟩
      · have h8J : (800 : Int) < t := by omega
        go_wp2_with (first
          | (go_at_call 12; refine (imprimaturlaw02_known.calls true _ (H0.out.1.of (by repeat (first | exact HB.out | apply below_drew1 | apply pw_below_drewN))) known_true).mono ?_; rintro e w2 ⟨rfl, hb⟩; have HB2 := Aside0.mk (below_step (by repeat (first | exact HB.out | apply below_drew1 | apply pw_below_drewN)) hb); clear hb))
        go_ret
        exact ⟨rfl, HB2.out⟩
end Go.Proofs.YtckjgipkdknmgaaDoor.PSum
