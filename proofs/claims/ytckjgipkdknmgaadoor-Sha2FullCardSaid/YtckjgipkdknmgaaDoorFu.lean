/- The law Sha2Full: so much, and no more. -/
import Derived.Test.YtckjgipkdknmgaaDoorSp
namespace Go.Proofs.YtckjgipkdknmgaaDoor.PSum
open Go.RowKit Go.Proofs.YtckjgipkdknmgaaDoorW.PrintWords Go.Proofs.YtckjgipkdknmgaaDoorW.PrintMore Go.Proofs.YtckjgipkdknmgaaDoor.X Go.Proofs.YtckjgipkdknmgaaDoor.H
/-- A row of m zeros is made. -/
theorem zeros_C {w : World} {g m : Nat} (h : w.heap[g]? = some (.cells (madeCells #[.int .u8 0] m) 5 (0, 0))) (hm : m ≤ 9223372036854775807) : Kd.C (Kd.int .u8) w (some ⟨g, 0, none⟩) m (List.replicate m 0) := by
  refine Kd.C_of_reads (enc := Value.int .u8) (d := 0) (h1 := fun _ => rfl) ⟨List.length_replicate, hm, fun hn => ⟨_, rfl, fun j hj => ?_⟩⟩
  rw [bytes8_made] at h
  rw [add_plain, blk_cell h, bytes8_get _ _ (by rw [List.length_replicate]; exact hj)]
theorem frC {S : Nat → Prop} {w w' : World} {A : Option Addr} {m : Nat} {l : List Int} (f : Fr S w w') (h : Kd.C (Kd.int .u8) w A m l) (hs : ∀ ad, A = some ad → ¬ S ad.block) : Kd.C (Kd.int .u8) w' A m l :=
  C_moved h (fun ad he hn => f.block _ (by subst he; exact C_block h hn) (hs ad he))
set_option maxRecDepth 100000 in
set_option maxHeartbeats 2000000 in
theorem Sha2Full_walk (n more : Int) (W : World) (HG : Glb W) (w0 : (Lit.int .u16 n).wf = true) (w1 : (Lit.int .u16 more).wf = true) :
    Calls Tryd.prog 9 #[.int .u16 n, .int .u16 more] W fun e w' => e = .returned (.bool true) ∧ Below W.heap.size W w' := by
  have HGG := Aside0.mk HG
  clear HG
  obtain ⟨n, rfl, hn1⟩ : ∃ k : Nat, n = (k : Int) ∧ k < 65536 := by
    simp [Lit.wf, IntKind.min, IntKind.max, IntKind.bits, IntKind.signed] at w0
    exact ⟨n.toNat, by omega, by omega⟩
  obtain ⟨more, rfl, hm1⟩ : ∃ k : Nat, more = (k : Int) ∧ k < 65536 := by
    simp [Lit.wf, IntKind.min, IntKind.max, IntKind.bits, IntKind.signed] at w1
    exact ⟨more.toNat, by omega, by omega⟩
  clear w0 w1
  have hmk1 : ∀ w : World, (Instr.makeSlice 23 (.int .i64 65536) (.int .i64 65536)).run Tryd.prog w = .ok (.slice (some ⟨w.heap.size, 0, none⟩) 65536 65536) (w.alloc (.cells (madeCells #[.int .u8 0] 65536) 5)) := print_make (P := Tryd.prog) 23 5 .u8 1 Tryd.underlying23 info_u8 (by decide) 65536 (by omega)
  have hmk2 : ∀ w : World, (Instr.makeSlice 23 (.int .i64 851970) (.int .i64 851970)).run Tryd.prog w = .ok (.slice (some ⟨w.heap.size, 0, none⟩) 851970 851970) (w.alloc (.cells (madeCells #[.int .u8 0] 851970) 5)) := print_make (P := Tryd.prog) 23 5 .u8 1 Tryd.underlying23 info_u8 (by decide) 851970 (by omega)
  have HM2 := Aside0.mk hmk2
  clear hmk2
  go_enter Tryd.func9, Tryd.ntmps9
  go_upto_region 5 with (first
    | (go_at_call 17; refine (new_c false KS SS _ HGG.out.laid HGG.out.g0 HGG.out.g1).mono ?_; rintro e w1 ⟨p, rfl, hH1, hb⟩; have P1 := Aside0.mk (And.intro hH1 hb); clear hH1 hb))
  obtain ⟨z, hz⟩ : ∃ z : List Int, z = List.replicate 65536 0 := ⟨_, rfl⟩
  have hzl : z.length = 65536 := by rw [hz]; exact List.length_replicate
  have hzb : ∀ i, 0 ≤ z.getD i 0 ∧ z.getD i 0 < 256 := getD_bytes (fun x hx => by rw [hz, List.mem_replicate] at hx; omega)
  have hpz : p < w1.heap.size := blk_lt P1.out.1.cells
  have P2 : Aside0 (HashAt W.heap.size false KS SS [] p (.slice none 0 0) (w1.alloc (.cells (madeCells #[.int .u8 0] 65536) 5)) ∧ Below W.heap.size W (w1.alloc (.cells (madeCells #[.int .u8 0] 65536) 5)) ∧ Kd.C (Kd.int .u8) (w1.alloc (.cells (madeCells #[.int .u8 0] 65536) 5)) (some ⟨w1.heap.size, 0, none⟩) 65536 z ∧ w1.heap.size < (w1.alloc (.cells (madeCells #[.int .u8 0] 65536) 5)).heap.size) :=
    ⟨P1.out.1.below (below_alloc (Below.refl _ _) _), below_alloc P1.out.2 _, by rw [hz]; exact zeros_C (new1 _ _) (by omega), by rw [World.size_alloc]; omega⟩
  have HZ := Aside0.mk (And.intro hzl hzb)
  clear hz hzl hzb hmk1 P1
  generalize w1.alloc (.cells (madeCells #[.int .u8 0] 65536) 5) = w2 at P2 ⊢
  generalize w1.heap.size = gp at P2 hpz ⊢
  go_wp2_with fail
  go_loopg [8] 3 (fun m v wr => ∃ (i : Nat) (t : List Int) (u : Value), m + i = 3 ∧ v = .int .i64 i ∧ Aside0 (t.length = 65536 * i ∧ HashAt W.heap.size false KS SS t p u wr ∧ (∀ k, u.ownBlock = some k → k ≠ gp) ∧ Below W.heap.size W wr ∧ Kd.C (Kd.int .u8) wr (some ⟨gp, 0, none⟩) 65536 z ∧ gp < wr.heap.size))
  case atStart => exact ⟨0, [], .slice none 0 0, by omega, rfl, ⟨by simp, P2.out.1, (fun k hk => by cases hk), P2.out.2.1, P2.out.2.2.1, P2.out.2.2.2⟩⟩
  case round =>
    obtain ⟨i, t, u, hmi, rfl, P3⟩ := hrel
    clear P2
    by_cases hge : i < 3
    · have hgeI : (i : Int) < 3 := by omega
      go_wp2_with (first
        | (go_at_call 19
           have hw := write_c W.heap.size false KS SS t p u (some ⟨gp, 0, none⟩) 65536 z wr P3.out.2.1 (HGG.out.of P3.out.2.2.2.1).laid (by rw [HZ.out.1]; exact P3.out.2.2.2.2.1) (fun _ ad e => by injection e with e; subst e; show gp ≠ p; omega) (fun k hk _ ad e => by injection e with e; subst e; exact fun e2 => P3.out.2.2.1 k hk e2.symm) HZ.out.2 (by rw [HZ.out.1, P3.out.1]; omega)
           rw [HZ.out.1] at hw
           refine hw.mono ?_
           rintro e w4 ⟨rfl, v4, hH4, hv4, hF4⟩
           have P4 := Aside0.mk (And.intro hH4 (And.intro hv4 hF4))
           clear hH4 hv4 hF4 hw))
      have hC4 : Kd.C (Kd.int .u8) w4 (some ⟨gp, 0, none⟩) 65536 z := frC P4.out.2.2 P3.out.2.2.2.2.1 (fun ad e => by injection e with e; subst e; intro h; rcases h with h | h; exact absurd (show gp = p from h) (by omega); exact P3.out.2.2.1 gp h rfl)
      have hB4 : Below W.heap.size W w4 := Fr.below P3.out.2.2.2.1 P3.out.2.2.2.1.size (fun k hk => by rcases hk with rfl | hk; exact P3.out.2.1.hbase; exact Kd.R_base P3.out.2.1.row k hk) P4.out.2.2
      have hs4 := P4.out.2.2.size
      have hg4 := P3.out.2.2.2.2.2
      go_roundg (gk - 1)
      all_goals first
        | omega
        | exact ⟨i + 1, t ++ z, v4, by omega, rfl, ⟨by rw [List.length_append, P3.out.1, HZ.out.1]; omega, P4.out.1, (fun k hk => by have := P4.out.2.1 k hk; omega), hB4, hC4, by omega⟩⟩
    · have hgeI : ¬ (i : Int) < 3 := by omega
      obtain rfl : i = 3 := by omega
      have hmk2 := HM2.out
      clear HM2
      have hW0 := P3.out.2.2.2.1.size
      go_upto_region 10 with fail
      obtain ⟨y, hy⟩ : ∃ y : List Int, y = List.replicate 851970 0 := ⟨_, rfl⟩
      have hyl : y.length = 851970 := by rw [hy]; exact List.length_replicate
      have hyb : ∀ i, 0 ≤ y.getD i 0 ∧ y.getD i 0 < 256 := getD_bytes (fun x hx => by rw [hy, List.mem_replicate] at hx; omega)
      have hpr := blk_lt P3.out.2.1.cells
      have P5 : Aside0 (HashAt W.heap.size false KS SS t p u (wr.alloc (.cells (madeCells #[.int .u8 0] 851970) 5)) ∧ Below W.heap.size W (wr.alloc (.cells (madeCells #[.int .u8 0] 851970) 5)) ∧ Kd.C (Kd.int .u8) (wr.alloc (.cells (madeCells #[.int .u8 0] 851970) 5)) (some ⟨gp, 0, none⟩) 65536 z ∧ Kd.C (Kd.int .u8) (wr.alloc (.cells (madeCells #[.int .u8 0] 851970) 5)) (some ⟨wr.heap.size, 0, none⟩) 851970 y ∧ wr.heap.size < (wr.alloc (.cells (madeCells #[.int .u8 0] 851970) 5)).heap.size ∧ (∀ k, u.ownBlock = some k → k ≠ gp ∧ k ≠ wr.heap.size) ∧ gp < wr.heap.size ∧ t.length = 196608) :=
        ⟨P3.out.2.1.below (below_alloc (Below.refl _ _) _), below_alloc P3.out.2.2.2.1 _, Kd.C_alloc P3.out.2.2.2.2.1 _, by rw [hy]; exact zeros_C (new1 _ _) (by omega), by rw [World.size_alloc]; omega, fun k hk => ⟨P3.out.2.2.1 k hk, by have := Kd.R_lt P3.out.2.1.row k hk; omega⟩, P3.out.2.2.2.2.2, by rw [P3.out.1]⟩
      have HY := Aside0.mk (And.intro hyl hyb)
      clear hy hyl hyb hmk2 P3
      generalize wr.alloc (.cells (madeCells #[.int .u8 0] 851970) 5) = w5 at P5 ⊢
      generalize wr.heap.size = gb at P5 hpr hW0 ⊢
      go_upto_region 12 with (first
        | (go_at_call 19; refine (writeLong_c W.heap.size false KS SS t p u (some ⟨gb, 0, none⟩) 851970 851970 w5 P5.out.1 (by rw [P5.out.2.2.2.2.2.2.2]; omega)).mono ?_; rintro e w6 ⟨rfl, hb⟩; have HB6 := Aside0.mk hb; clear hb)
        | (go_at_call 32; refine (count_c W.heap.size false KS SS t p u w6 (P5.out.1.below HB6.out)).mono ?_; rintro e w7 ⟨he, hb⟩; rw [P5.out.2.2.2.2.2.2.2] at he; replace he : e = .returned (.int .i64 196608) := he; subst he; have HB7 := Aside0.mk (below_step HB6.out hb); clear hb))
      have hn2 : (n : Int) ≤ 65536 := by omega
      have hn3 : n ≤ 65536 := by omega
      have hn4 : (0 : Int) ≤ n := by omega
      have H7 := Aside0.mk (P5.out.1.below HB7.out)
      have hL7 : Aside0 (Laid KS SS w7) := ⟨((HGG.out.of P5.out.2.1).of HB7.out).laid⟩
      have hzt : (z.take n).length = n := by rw [List.length_take, HZ.out.1]; omega
      have hCt : Aside0 (Kd.C (Kd.int .u8) w7 (some ⟨gp, 0, none⟩) (z.take n).length (z.take n)) := ⟨Kd.C_take (by rw [HZ.out.1]; exact Kd.C_below P5.out.2.2.1 HB7.out) (by rw [HZ.out.1]; omega)⟩
      rw [hzt] at hCt
      have hzb : Aside0 (∀ i, 0 ≤ (z.take n).getD i 0 ∧ (z.take n).getD i 0 < 256) := ⟨fun i => by
        rw [List.getD_eq_getElem?_getD, List.getElem?_take]
        split
        · rw [← List.getD_eq_getElem?_getD]; exact HZ.out.2 _
        · simp⟩
      have hgg : gp < gb := P5.out.2.2.2.2.2.2.1
      have htl := P5.out.2.2.2.2.2.2.2
      have hug := Aside0.mk P5.out.2.2.2.2.2.1
      go_upto_region 13 with (first
        | (go_at_call 19
           have hw := write_c W.heap.size false KS SS t p u (some ⟨gp, 0, none⟩) 65536 (z.take n) w7 H7.out hL7.out (by rw [hzt]; exact hCt.out) (fun _ ad e => by injection e with e; subst e; show gp ≠ p; omega) (fun k hk _ ad e => by injection e with e; subst e; exact fun e2 => (hug.out k hk).1 e2.symm) hzb.out (by rw [hzt, htl]; omega)
           rw [hzt] at hw
           refine hw.mono ?_
           rintro e w8 ⟨rfl, v8, hH8, hv8, hF8⟩
           have P8 := Aside0.mk (And.intro hH8 (And.intro hv8 hF8))
           clear hH8 hv8 hF8 hw))
      go_wp2_with fail
      obtain ⟨m, hm⟩ : ∃ m : Nat, m = 851968 - n + more % 3 := ⟨_, rfl⟩
      rw [← hm]
      have hL8 : Aside0 (Laid KS SS w8) := ⟨hL7.out.fr P8.out.2.2 (by rintro (h | h); have := P5.out.1.hbase; have := HGG.out.g0; omega; have := Kd.R_base P5.out.1.row _ h; have := HGG.out.g0; omega) (by rintro (h | h); have := P5.out.1.hbase; have := HGG.out.g1; omega; have := Kd.R_base P5.out.1.row _ h; have := HGG.out.g1; omega)⟩
      have htl8 : (t ++ z.take n).length = 196608 + n := by rw [List.length_append, hzt, htl]
      have hB8 : Aside0 (Below W.heap.size W w8) := ⟨Fr.below (below_step P5.out.2.1 HB7.out) (by have := P5.out.2.1.size; have := HB7.out.size; omega) (fun k hk => by rcases hk with rfl | hk; exact P5.out.1.hbase; exact Kd.R_base P5.out.1.row k hk) P8.out.2.2⟩
      by_cases hr : more % 3 = 0
      · have hyt : (y.take m).length = m := by rw [List.length_take, HY.out.1]; omega
        have hCy : Kd.C (Kd.int .u8) w7 (some ⟨gb, 0, none⟩) (y.take m).length (y.take m) := Kd.C_take (by rw [HY.out.1]; exact Kd.C_below P5.out.2.2.2.1 HB7.out) (by rw [HY.out.1]; omega)
        have hCy8 : Aside0 (Kd.C (Kd.int .u8) w8 (some ⟨gb, 0, none⟩) (y.take m).length (y.take m)) := ⟨frC P8.out.2.2 hCy (fun ad e => by injection e with e; subst e; intro h; rcases h with h | h; exact absurd (show gb = p from h) (by omega); exact (hug.out gb h).2 rfl)⟩
        have hyb : Aside0 (∀ i, 0 ≤ (y.take m).getD i 0 ∧ (y.take m).getD i 0 < 256) := ⟨fun i => by
          rw [List.getD_eq_getElem?_getD, List.getElem?_take]
          split
          · rw [← List.getD_eq_getElem?_getD]; exact HY.out.2 _
          · simp⟩
        have hsz7 := HB7.out.size
        have hgb5 := P5.out.2.2.2.2.1
        have hw := write_c W.heap.size false KS SS (t ++ z.take n) p v8 (some ⟨gb, 0, none⟩) 851970 (y.take m) w8 P8.out.1 hL8.out hCy8.out (fun _ ad e => by injection e with e; subst e; show gb ≠ p; omega) (fun k hk _ ad e => by injection e with e; subst e; have := P8.out.2.1 k hk; show gb ≠ k; omega) hyb.out (by rw [hyt, htl8]; omega)
        rw [hyt] at hw
        refine hw.mono ?_
        rintro e w9 ⟨rfl, v9, hH9, hv9, hF9⟩
        have HB9 : Aside0 (Below W.heap.size W w9) := ⟨Fr.below hB8.out hB8.out.size (fun k hk => by rcases hk with rfl | hk; exact P8.out.1.hbase; exact Kd.R_base P8.out.1.row k hk) hF9⟩
        clear hw hH9 hv9 hF9
        have hri : (more : Int) % 3 = 0 := by omega
        have hrt : Int.tmod (more : Int) 3 = 0 := by rw [Int.tmod_eq_emod_of_nonneg (by omega)]; omega
        go_wp2_with (first
          | (go_at_call 12; refine (imprimaturlaw02_known.calls true _ (HGG.out.of HB9.out) known_true).mono ?_; rintro e w10 ⟨rfl, hb⟩; have HB10 := Aside0.mk (below_step HB9.out hb); clear hb))
        go_ret
        exact ⟨rfl, HB10.out⟩
      · refine (writeLong_c W.heap.size false KS SS (t ++ z.take n) p v8 (some ⟨gb, 0, none⟩) m 851970 w8 P8.out.1 (by rw [htl8]; omega)).mono ?_
        rintro e w9 ⟨rfl, hb⟩
        have HB9 := Aside0.mk (below_step hB8.out hb)
        clear hb
        have hri : (0 : Int) < (more : Int) % 3 := by omega
        have hrt : (0 : Int) < Int.tmod (more : Int) 3 := by rw [Int.tmod_eq_emod_of_nonneg (by omega)]; omega
        have hrn : 0 < more % 3 := by omega
        go_wp2_with (first
          | (go_at_call 12; refine (imprimaturlaw02_known.calls true _ (HGG.out.of HB9.out) known_true).mono ?_; rintro e w10 ⟨rfl, hb⟩; have HB10 := Aside0.mk (below_step HB9.out hb); clear hb))
        go_ret
        exact ⟨rfl, HB10.out⟩
end Go.Proofs.YtckjgipkdknmgaaDoor.PSum
