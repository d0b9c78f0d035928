/- The law Sha2Asks: the walk. -/
import Derived.Test.YtckjgipkdknmgaaDoorAk
namespace Go.Proofs.YtckjgipkdknmgaaDoor.PSum
open Go.RowKit Go.Proofs.YtckjgipkdknmgaaDoorW.PrintWords Go.Proofs.YtckjgipkdknmgaaDoorW.PrintMore Go.Proofs.YtckjgipkdknmgaaDoor.X Go.Proofs.YtckjgipkdknmgaaDoor.H
set_option maxRecDepth 100000 in
set_option maxHeartbeats 4000000 in
theorem asks_walk (a : Option Addr) (ca : Nat) (la : List Int) (b : Option Addr) (cb : Nat) (lb : List Int) (c : Option Addr) (cc : Nat) (lc : List Int) (wide : Bool) (W : World) (HG : Glb W)
    (ra : Kd.C (Kd.int .u8) W a la.length la) (rb : Kd.C (Kd.int .u8) W b lb.length lb) (rc : Kd.C (Kd.int .u8) W c lc.length lc) (ha : la.length ≤ ca) (hb : lb.length ≤ cb) (hc : lc.length ≤ cc)
    (ba : ∀ x ∈ la, 0 ≤ x ∧ x < 256) (bb : ∀ x ∈ lb, 0 ≤ x ∧ x < 256) (bc : ∀ x ∈ lc, 0 ≤ x ∧ x < 256) (xa : ¬ (la.length : Int) > 600) (xb : ¬ (lb.length : Int) > 600) (xc : ¬ (lc.length : Int) > 600) :
    Calls Tryd.prog 4 #[.slice a la.length ca, .slice b lb.length cb, .slice c lc.length cc, .bool wide] W fun e w' => e = .returned (.bool true) ∧ Below W.heap.size W w' := by
  obtain ⟨bits, hbits⟩ : ∃ bits : Int, bits = if wide then 512 else 256 := ⟨_, rfl⟩
  obtain ⟨dl, hdl⟩ : ∃ dl : Nat, dl = if wide then 64 else 32 := ⟨_, rfl⟩
  have hdp : 0 < dl ∧ dl ≤ 64 := by rw [hdl]; cases wide <;> simp
  have HN := Aside0.mk (new_c wide KS SS)
  rw [← hbits] at HN
  have HW := Aside0.mk (which_c wide bits hbits)
  have HRS := Aside0.mk (refsum_c wide dl hdl bits hbits)
  have HSM := Aside0.mk (fun base t p v w => hsum_c base wide dl hdl t p v w)
  have HD := Aside0.mk (digest_bytes wide KS SS)
  rw [← hdl] at HD
  have H0 := Aside0.mk (And.intro HG (And.intro ra (And.intro rb (And.intro rc (And.intro ba (And.intro bb bc))))))
  have hla : la.length ≤ 600 := by omega
  have hlb : lb.length ≤ 600 := by omega
  have hlc : lc.length ≤ 600 := by omega
  have xa' : false = decide ((la.length : Int) > 600) := (decide_eq_false xa).symm
  have xb' : false = decide ((lb.length : Int) > 600) := (decide_eq_false xb).symm
  have xc' : false = decide ((lc.length : Int) > 600) := (decide_eq_false xc).symm
  have HX := Aside0.mk (And.intro xa' (And.intro xb' xc'))
  clear HG ra rb rc ba bb bc xa xb xc xa' xb' xc' hbits hdl
  go_enter Tryd.func4, Tryd.ntmps4
  go_upto_region 6 with (first
    | (go_at_call_of 16 (Value.slice a la.length ca); refine (long_c H0.out.2.1 ha false HX.out.1).mono ?_; rintro e w1 ⟨rfl, hB⟩; have HB1 := Aside0.mk hB; clear hB)
    | (go_at_call_of 16 (Value.slice b lb.length cb); refine (long_c (Kd.C_below H0.out.2.2.1 HB1.out) hb false HX.out.2.1).mono ?_; rintro e w2 ⟨rfl, hB⟩; have HB2 := Aside0.mk (below_step HB1.out hB); clear hB)
    | (go_at_call_of 16 (Value.slice c lc.length cc); refine (long_c (Kd.C_below H0.out.2.2.2.1 HB2.out) hc false HX.out.2.2).mono ?_; rintro e w3 ⟨rfl, hB⟩; have HB3 := Aside0.mk (below_step HB2.out hB); clear hB)
    | (go_at_call 18; refine (HW.out _).mono ?_; rintro e w4 ⟨rfl, hB⟩; have HB4 := Aside0.mk (below_step HB3.out hB); clear hB)
    | (go_at_call 17; refine (HN.out _ (H0.out.1.of HB4.out).laid (H0.out.1.of HB4.out).g0 (H0.out.1.of HB4.out).g1).mono ?_; rintro e w5 ⟨p, rfl, hH5, hB⟩; have P5 := Aside0.mk (And.intro (HashAt_lower hH5 HB4.out.size H0.out.1.g0 H0.out.1.g1) (below_step HB4.out hB)); clear hH5 hB))
  have hpW := P5.out.1.hbase
  go_wp2_with (first
    | (go_at_call 19
       refine (write_c W.heap.size wide KS SS [] p (.slice none 0 0) a ca la w5 P5.out.1 (H0.out.1.of P5.out.2).laid (Kd.C_below H0.out.2.1 P5.out.2) (fun hn ad e => by subst e; have := C_block H0.out.2.1 hn; omega) (fun k hk => by cases hk) (getD_bytes H0.out.2.2.2.2.1) (by simp; omega)).mono ?_
       rintro e w6 ⟨rfl, v6, hH6, hv6, hF6⟩
       rw [List.nil_append] at hH6
       have P6 := Aside0.mk (And.intro hH6 (Fr.below P5.out.2 P5.out.2.size (fun k hk => by rcases hk with rfl | hk; exact hpW; cases hk) hF6))
       clear hH6 hv6 hF6)
    | (go_at_call 20
       refine (HSM.out W.heap.size la p v6 w6 P6.out.1 (H0.out.1.of P6.out.2).laid).mono ?_
       rintro e w7 ⟨A7, c7, rfl, hc7, hR7, hB7⟩
       have P7 := Aside0.mk (And.intro hR7 (And.intro (P6.out.1.below hB7) (below_step P6.out.2 hB7)))
       clear hR7 hB7))
  have hp6 := blk_lt P6.out.1.cells
  have hv6 := Aside0.mk (Kd.R_lt P6.out.1.row)
  obtain ⟨gx, cx, hex, hgx, hlx, _⟩ := Kd.R_form P7.out.1 (by rw [HD.out]; exact hdp.1)
  injection hex with e1 e2 e3
  subst e1 e3
  clear e2 P6
  go_loopg [12] dl (fun m v wr => ∃ (i : Nat) (l' : List Int), m + i = dl ∧ v = .int .i64 i ∧ Aside0 (l'.length = dl ∧ Kd.R (Kd.int .u8) 5 wr w6.heap.size (fun _ => True) (.slice (some ⟨gx, 0, none⟩) dl c7) l' ∧ HashAt W.heap.size wide KS SS la p v6 wr ∧ Below W.heap.size W wr))
  case atStart => exact ⟨0, _, by omega, rfl, ⟨HD.out _, P7.out.1, P7.out.2.1, P7.out.2.2⟩⟩
  case round =>
    obtain ⟨i, l', hmi, rfl, P8⟩ := hrel
    clear P7
    by_cases hge : i < dl
    · have hgeI : (i : Int) < dl := by omega
      obtain ⟨hx8, hf8⟩ := Kd.R_celln 0 P8.out.2.1 (i : Int) (by omega) (by omega)
      rw [Int.toNat_natCast] at hx8 hf8
      generalize hz : rdOf 0 l' (i : Int) = z8 at hx8
      go_wp2_with fail
      have hpx : p ≠ gx := by omega
      have hR9 := Kd.R_putn P8.out.2.1 (i : Int) ((z8 + 1) % 256)
      rw [Int.toNat_natCast] at hR9
      have hH9 : HashAt W.heap.size wide KS SS la p v6 (wr.setCell ⟨gx, i, none⟩ (.int .u8 ((z8 + 1) % 256))) := HashAt_fr P8.out.2.2.1 ((Fr.refl (fun k => k = gx) wr).setCell ⟨gx, i, none⟩ _ (.inl rfl)) hpx (fun k hk h => by have := hv6.out k hk; have h2 : k = gx := h; omega)
      have hB9 : Below W.heap.size W (wr.setCell ⟨gx, i, none⟩ (.int .u8 ((z8 + 1) % 256))) := below_set P8.out.2.2.2 (by show W.heap.size ≤ gx; omega)
      go_roundg (gk - 1)
      all_goals first
        | omega
        | exact ⟨i + 1, _, by omega, rfl, ⟨by rw [List.length_set]; exact P8.out.1, hR9, hH9, hB9⟩⟩
    · have hgeI : ¬ (i : Int) < dl := by omega
      have hpr := blk_lt P8.out.2.2.1.cells
      have hvr := Aside0.mk (Kd.R_lt P8.out.2.2.1.row)
      have P9 := Aside0.mk (And.intro P8.out.2.2.1 P8.out.2.2.2)
      clear P8 hv6
      go_upto_region 17 with (first
        | (go_at_call 21
           refine (copy_c W.heap.size wide KS SS la p v6 wr P9.out.1).mono ?_
           rintro e w10 ⟨p2, v2, rfl, hH10, hp2, hv2, hB10⟩
           have P10 := Aside0.mk (And.intro hH10 (And.intro (P9.out.1.below hB10) (below_step P9.out.2 hB10)))
           have hs10 := hB10.size
           have hv2' := Aside0.mk hv2
           have hl10 := Aside0.mk (Kd.R_lt hH10.row)
           have hp210 := blk_lt hH10.cells
           clear hH10 hB10 hv2)
        | (go_at_call_of 19 (Value.slice b lb.length cb)
           refine (write_c W.heap.size wide KS SS la p v6 b cb lb w10 P10.out.2.1 (H0.out.1.of P10.out.2.2).laid (Kd.C_below H0.out.2.2.1 P10.out.2.2) (fun hn ad e => by subst e; have := C_block H0.out.2.2.1 hn; omega) (fun k hk hn ad e => by subst e; have := C_block H0.out.2.2.1 hn; have := Kd.R_base P10.out.2.1.row k hk; omega) (getD_bytes H0.out.2.2.2.2.2.1) (by omega)).mono ?_
           rintro e w11 ⟨rfl, v11, hH11, hv11, hF11⟩
           have P11 := Aside0.mk (And.intro hH11 (And.intro (HashAt_fr P10.out.1 hF11 (by rintro (h | h); omega; have := hvr.out _ h; omega) (fun k hk => by have h1 := hv2'.out k hk; rintro (h | h); omega; have := hvr.out _ h; omega)) (Fr.below P10.out.2.2 P10.out.2.2.size (fun k hk => by rcases hk with rfl | hk; exact hpW; exact Kd.R_base P10.out.2.1.row k hk) hF11)))
           have hs11 := hF11.size
           have hv11' := Aside0.mk hv11
           clear hH11 hv11 hF11)
        | (go_at_call_of 19 (Value.slice c lc.length cc)
           refine (write_c W.heap.size wide KS SS la p2 v2 c cc lc w11 P11.out.2.1 (H0.out.1.of P11.out.2.2).laid (Kd.C_below H0.out.2.2.2.1 P11.out.2.2) (fun hn ad e => by subst e; have := C_block H0.out.2.2.2.1 hn; omega) (fun k hk hn ad e => by subst e; have := C_block H0.out.2.2.2.1 hn; have := hv2'.out k hk; omega) (getD_bytes H0.out.2.2.2.2.2.2) (by omega)).mono ?_
           rintro e w12 ⟨rfl, v12, hH12, hv12, hF12⟩
           have P12 := Aside0.mk (And.intro (HashAt_fr P11.out.1 hF12 (by rintro (h | h); omega; have := hv2'.out _ h; omega) (fun k hk => by have h1 := hv11'.out k hk; rintro (h | h); omega; have := hl10.out _ h; omega)) (And.intro hH12 (Fr.below P11.out.2.2 P11.out.2.2.size (fun k hk => by rcases hk with rfl | hk; omega; exact Kd.R_base P11.out.2.1.row k hk) hF12)))
           have hs12 := hF12.size
           have hv12' : Aside0 (∀ k, v12.ownBlock = some k → k ≠ p) := ⟨fun k hk => by have := hv12 k hk; omega⟩
           clear hH12 hv12 hF12))
      obtain ⟨ab, hab⟩ : ∃ ab, ab = la ++ lb := ⟨_, rfl⟩
      obtain ⟨ac, hac⟩ : ∃ ac, ac = la ++ lc := ⟨_, rfl⟩
      rw [← hab, ← hac] at P12
      have habl : ab.length ≤ 1200 := by rw [hab, List.length_append]; omega
      have hacl : ac.length ≤ 1200 := by rw [hac, List.length_append]; omega
      have HBY : Aside0 ((∀ x ∈ ab, 0 ≤ x ∧ x < 256) ∧ (∀ x ∈ ac, 0 ≤ x ∧ x < 256)) := ⟨⟨fun x hx => by rw [hab, List.mem_append] at hx; rcases hx with h | h; exact H0.out.2.2.2.2.1 x h; exact H0.out.2.2.2.2.2.1 x h, fun x hx => by rw [hac, List.mem_append] at hx; rcases hx with h | h; exact H0.out.2.2.2.2.1 x h; exact H0.out.2.2.2.2.2.2 x h⟩⟩
      have HAB := Aside0.mk (And.intro hab hac)
      clear hab hac
      go_upto_region 19 with (first
        | (at_builtin; refine Kd.R_append_row (Value.int .u8) 0 (w0 := w12) w12.heap.size rfl (.tmp 74) (.tmp 75) 23 5 (.int .u8 0) 1 rfl Tryd.underlying23 info_u8 rfl (by decide) (.slice none 0 0) [] la a la.length ca (fun _ => True) rfl rfl (fun _ _ => trivial) (Kd.R_nil _ _ _ _ _) (Kd.C_below H0.out.2.1 P12.out.2.2) (Below.refl _ _) (Nat.le_refl _) (by simp only [List.length_nil]; omega) ?_
           intro v13 w13 hown hB hg hat
           rw [List.nil_append] at hown
           have P13 := Aside0.mk (And.intro hown hB)
           clear hown hB hg hat)
        | (at_builtin; refine Kd.R_append_row (Value.int .u8) 0 (w0 := w12) w12.heap.size rfl (.tmp 76) (.tmp 77) 23 5 (.int .u8 0) 1 rfl Tryd.underlying23 info_u8 rfl (by decide) v13 la lb b lb.length cb (fun _ => True) rfl rfl (fun _ _ => trivial) P13.out.1 (Kd.C_below H0.out.2.2.1 (below_step P12.out.2.2 P13.out.2)) P13.out.2 P13.out.2.size (by omega) ?_
           intro v14 w14 hown hB hg hat
           rw [← HAB.out.1] at hown
           obtain ⟨A14, c14, rfl, hc14, hC14⟩ := Kd.R_reads hown
           obtain ⟨m14, hm14⟩ : ∃ m14, m14 = ab.length := ⟨_, rfl⟩
           rw [← hm14] at hown hc14 hC14 ⊢
           have P14 := Aside0.mk (And.intro hC14 (And.intro hm14 hB))
           clear hown hB hg hat hC14 hm14 P13))
      have HB14 := Aside0.mk (below_step P12.out.2.2 P14.out.2.2)
      go_upto_region 20 with (first
        | (at_builtin; refine Kd.R_append_row (Value.int .u8) 0 (w0 := w14) w14.heap.size rfl (.tmp 79) (.tmp 80) 23 5 (.int .u8 0) 1 rfl Tryd.underlying23 info_u8 rfl (by decide) (.slice none 0 0) [] la a la.length ca (fun _ => True) rfl rfl (fun _ _ => trivial) (Kd.R_nil _ _ _ _ _) (Kd.C_below H0.out.2.1 HB14.out) (Below.refl _ _) (Nat.le_refl _) (by simp only [List.length_nil]; omega) ?_
           intro v15 w15 hown hB hg hat
           rw [List.nil_append] at hown
           have P15 := Aside0.mk (And.intro hown hB)
           clear hown hB hg hat)
        | (at_builtin; refine Kd.R_append_row (Value.int .u8) 0 (w0 := w14) w14.heap.size rfl (.tmp 81) (.tmp 82) 23 5 (.int .u8 0) 1 rfl Tryd.underlying23 info_u8 rfl (by decide) v15 la lc c lc.length cc (fun _ => True) rfl rfl (fun _ _ => trivial) P15.out.1 (Kd.C_below H0.out.2.2.2.1 (below_step HB14.out P15.out.2)) P15.out.2 P15.out.2.size (by omega) ?_
           intro v16 w16 hown hB hg hat
           rw [← HAB.out.2] at hown
           obtain ⟨A16, c16, rfl, hc16, hC16⟩ := Kd.R_reads hown
           obtain ⟨m16, hm16⟩ : ∃ m16, m16 = ac.length := ⟨_, rfl⟩
           rw [← hm16] at hown hc16 hC16 ⊢
           have P16 := Aside0.mk (And.intro hC16 (And.intro hm16 (And.intro (Kd.C_below P14.out.1 hB) (below_step HB14.out hB))))
           have Q16 := Aside0.mk (And.intro (P12.out.1.below (below_step P14.out.2.2 hB)) (P12.out.2.1.below (below_step P14.out.2.2 hB)))
           clear hown hB hg hat hC16 hm16 P15))
      have hp12 := blk_lt P12.out.1.cells
      go_upto_region 21 with (first
        | (go_at_call 18; refine (HW.out w16).mono ?_; rintro e w17 ⟨rfl, hB⟩; have HB17 := Aside0.mk hB; clear hB)
        | (go_at_call 22
           refine (HRS.out ab A14 m14 c14 w17 P14.out.2.1 (Kd.C_below P16.out.2.2.1 HB17.out) hc14 HBY.out.1 (by rw [P14.out.2.1]; omega)).mono ?_
           rintro e w18 ⟨A18, c18, rfl, hc18, hR18, hB⟩
           have P18 := Aside0.mk (And.intro hR18 (below_step HB17.out hB))
           have hs18 := HB17.out.size
           clear hR18 hB))
      go_upto_region 22 with (first
        | (go_at_call 18; refine (HW.out w18).mono ?_; rintro e w19 ⟨rfl, hB⟩; have HB19 := Aside0.mk hB; clear hB)
        | (go_at_call 22
           refine (HRS.out ac A16 m16 c16 w19 P16.out.2.1 (Kd.C_below P16.out.1 (below_step P18.out.2 HB19.out)) hc16 HBY.out.2 (by rw [P16.out.2.1]; omega)).mono ?_
           rintro e w20 ⟨A20, c20, rfl, hc20, hR20, hB⟩
           have hB1 := below_step P18.out.2 (below_step HB19.out hB)
           have hs20 := HB19.out.size
           have hs20' := P18.out.2.size
           have P20 := Aside0.mk (And.intro (Q16.out.1.below hB1) (And.intro (Q16.out.2.below hB1) (And.intro (below_step P16.out.2.2.2 hB1) (And.intro (Kd.C_below (R_C P18.out.1) (below_step HB19.out hB)) (And.intro (R_weaken (b2 := w16.heap.size) (ok2 := fun _ => True) hR20 (fun k hk => by have := Kd.R_base hR20 k hk; omega) (fun _ _ => trivial)) (R_C hR20))))))
           clear hR20 hB hB1 P18 HB17 HB19))
      have hp16 := Aside0.mk (And.intro (blk_lt Q16.out.1.cells) (blk_lt Q16.out.2.cells))
      clear P14 P16 Q16 P12 HB14
      have TK1 := Aside0.mk True.intro
      have TK2 := Aside0.mk True.intro
      have TK3 := Aside0.mk True.intro
      have TK4 := Aside0.mk True.intro
      have TK5 := Aside0.mk True.intro
      have TK6 := Aside0.mk True.intro
      go_upto_region 24 with (first
        | (go_at_call_of 20 (Value.pointer (some ⟨p, 0, none⟩)); have tk := TK1; clear tk TK1
           refine (HSM.out W.heap.size ab p v11 w20 P20.out.1 (H0.out.1.of P20.out.2.2.1).laid).mono ?_
           rintro e w21 ⟨A21, c21, rfl, hc21, hR21, hB⟩
           have P21 := Aside0.mk (And.intro (R_C hR21) hB)
           clear hR21 hB)
        | (go_at_call 15; have tk := TK2; clear tk TK2
           refine (same_c (l := digest wide KS SS ab) (HD.out _).symm P21.out.1 hc21 (Kd.C_below P20.out.2.2.2.1 P21.out.2) hc18).mono ?_
           rintro e w22 ⟨rfl, hB⟩
           have HB22 := Aside0.mk (below_step P21.out.2 hB)
           clear hB P21)
        | (go_at_call_of 20 (Value.pointer (some ⟨p2, 0, none⟩)); have tk := TK3; clear tk TK3
           refine (HSM.out W.heap.size ac p2 v12 w22 (P20.out.2.1.below HB22.out) (H0.out.1.of (below_step P20.out.2.2.1 HB22.out)).laid).mono ?_
           rintro e w23 ⟨A23, c23, rfl, hc23, hR23, hB⟩
           have P23 := Aside0.mk (And.intro (R_C hR23) (below_step HB22.out hB))
           clear hR23 hB)
        | (go_at_call 15; have tk := TK4; clear tk TK4
           refine (same_c (l := digest wide KS SS ac) (HD.out _).symm P23.out.1 hc23 (Kd.C_below P20.out.2.2.2.2.2 P23.out.2) hc20).mono ?_
           rintro e w24 ⟨rfl, hB⟩
           have HB24 := Aside0.mk (below_step P23.out.2 hB)
           clear hB P23)
        | (go_at_call_of 20 (Value.pointer (some ⟨p, 0, none⟩)); have tk := TK5; clear tk TK5
           refine (HSM.out W.heap.size ab p v11 w24 (P20.out.1.below HB24.out) (H0.out.1.of (below_step P20.out.2.2.1 HB24.out)).laid).mono ?_
           rintro e w25 ⟨A25, c25, rfl, hc25, hR25, hB⟩
           have P25 := Aside0.mk (And.intro (R_C hR25) (below_step HB24.out hB))
           clear hR25 hB)
        | (go_at_call 15; have tk := TK6; clear tk TK6
           refine (same_c (l := digest wide KS SS ab) (HD.out _).symm P25.out.1 hc25 (Kd.C_below P20.out.2.2.2.1 P25.out.2) hc18).mono ?_
           rintro e w26 ⟨rfl, hB⟩
           have HB26 := Aside0.mk (below_step P25.out.2 hB)
           clear hB P25))
      have HB26W := Aside0.mk (below_step P20.out.2.2.1 HB26.out)
      have Z26 := Aside0.mk (R_moved P20.out.2.2.2.2.1 (fun k hk => HB26.out.block k (Kd.R_lt P20.out.2.2.2.2.1 k hk)))
      have H26 := Aside0.mk (And.intro (P20.out.1.below HB26.out) (P20.out.2.1.below HB26.out))
      have hw16 : p < w16.heap.size := hp16.out.1
      clear P20 HB26
      go_upto_region 26 with (first
        | (go_at_call 23
           refine (reset_hash W.heap.size wide ab p v11 w26 H26.out.1 (H0.out.1.of HB26W.out).laid).mono ?_
           rintro e w27 ⟨rfl, hH27, hF27⟩
           have P27 := Aside0.mk (And.intro hH27 (And.intro (HashAt_fr H26.out.2 hF27 (fun h => by have h2 : p2 = p := h; omega) (fun k hk h => hv12'.out k hk h)) (And.intro (Fr.below HB26W.out HB26W.out.size (fun k hk => by have h2 : k = p := hk; omega) hF27) (R_fr Z26.out hF27 (fun k hk h => by have h2 : k = p := h; have := Kd.R_base Z26.out k hk; omega)))))
           clear hH27 hF27)
        | (go_at_call 19
           refine (write_c W.heap.size wide KS SS [] p (.slice none 0 0) c cc lc w27 P27.out.1 (H0.out.1.of P27.out.2.2.1).laid (Kd.C_below H0.out.2.2.2.1 P27.out.2.2.1) (fun hn ad e => by subst e; have := C_block H0.out.2.2.2.1 hn; omega) (fun k hk => by cases hk) (getD_bytes H0.out.2.2.2.2.2.2) (by simp; omega)).mono ?_
           rintro e w28 ⟨rfl, v28, hH28, hv28, hF28⟩
           rw [List.nil_append] at hH28
           have P28 := Aside0.mk (And.intro hH28 (And.intro (HashAt_fr P27.out.2.1 hF28 (by rintro (h | h); omega; cases h) (fun k hk => by rintro (h | h); exact hv12'.out k hk h; cases h)) (And.intro (Fr.below P27.out.2.2.1 P27.out.2.2.1.size (fun k hk => by rcases hk with rfl | hk; exact hpW; cases hk) hF28) (R_fr P27.out.2.2.2 hF28 (fun k hk => by have := Kd.R_base P27.out.2.2.2 k hk; rintro (h | h); omega; cases h)))))
           clear hH28 hv28 hF28))
      clear H26 Z26 HB26W P27
      go_upto_region 27 with (first
        | (go_at_call 18; refine (HW.out w28).mono ?_; rintro e w29 ⟨rfl, hB⟩; have HB29 := Aside0.mk hB; clear hB)
        | (go_at_call 22
           refine (HRS.out lc c lc.length cc w29 rfl (Kd.C_below H0.out.2.2.2.1 (below_step P28.out.2.2.1 HB29.out)) hc H0.out.2.2.2.2.2.2 (by omega)).mono ?_
           rintro e w30 ⟨A30, c30, rfl, hc30, hR30, hB⟩
           have P30 := Aside0.mk (And.intro (R_C hR30) (below_step HB29.out hB))
           clear hR30 hB))
      have TL1 := Aside0.mk True.intro
      have TL2 := Aside0.mk True.intro
      have TL3 := Aside0.mk True.intro
      have TL4 := Aside0.mk True.intro
      go_wp2_with (first
        | (go_at_call_of 20 (Value.pointer (some ⟨p, 0, none⟩)); have tk := TL1; clear tk TL1
           refine (HSM.out W.heap.size lc p v28 w30 (P28.out.1.below P30.out.2) (H0.out.1.of (below_step P28.out.2.2.1 P30.out.2)).laid).mono ?_
           rintro e w31 ⟨A31, c31, rfl, hc31, hR31, hB⟩
           have P31 := Aside0.mk (And.intro (R_C hR31) hB)
           clear hR31 hB)
        | (go_at_call 15; have tk := TL2; clear tk TL2
           refine (same_c (l := digest wide KS SS lc) (HD.out _).symm P31.out.1 hc31 (Kd.C_below P30.out.1 P31.out.2) hc30).mono ?_
           rintro e w32 ⟨rfl, hB⟩
           have HB32 := Aside0.mk (below_step P30.out.2 (below_step P31.out.2 hB))
           clear hB P31)
        | (go_at_call_of 20 (Value.pointer (some ⟨p2, 0, none⟩)); have tk := TL3; clear tk TL3
           refine (HSM.out W.heap.size ac p2 v12 w32 (P28.out.2.1.below HB32.out) (H0.out.1.of (below_step P28.out.2.2.1 HB32.out)).laid).mono ?_
           rintro e w33 ⟨A33, c33, rfl, hc33, hR33, hB⟩
           have P33 := Aside0.mk (And.intro (R_C hR33) (below_step HB32.out hB))
           clear hR33 hB)
        | (go_at_call 15; have tk := TL4; clear tk TL4
           refine (same_c (l := digest wide KS SS ac) (HD.out _).symm P33.out.1 hc33 (Kd.C_below (R_C P28.out.2.2.2) P33.out.2) hc20).mono ?_
           rintro e w34 ⟨rfl, hB⟩
           have HB34 := Aside0.mk (below_step P28.out.2.2.1 (below_step P33.out.2 hB))
           clear hB P33)
        | (go_at_call 12; refine (imprimaturlaw02_known.calls true _ (H0.out.1.of HB34.out) known_true).mono ?_; rintro e w35 ⟨rfl, hb⟩; have HB35 := Aside0.mk (below_step HB34.out hb); clear hb))
      go_ret
      exact ⟨rfl, HB35.out⟩
end Go.Proofs.YtckjgipkdknmgaaDoor.PSum
