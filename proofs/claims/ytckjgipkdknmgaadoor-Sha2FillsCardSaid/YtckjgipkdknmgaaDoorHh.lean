/- Write. -/
import Derived.Test.YtckjgipkdknmgaaDoorHg
namespace Go.Proofs.YtckjgipkdknmgaaDoor.H
open Go.RowKit Go.Proofs.YtckjgipkdknmgaaDoorW.PrintWords
theorem R_moved {k : IntKind} {e base : Nat} {w w' : World} {ok : Nat → Prop} {v : Value} {xs : List Int} (h : Kd.R (Kd.int k) e w base ok v xs) (hb : ∀ i, v.ownBlock = some i → w'.heap[i]? = w.heap[i]?) : Kd.R (Kd.int k) e w' base ok v xs := by
  have ho := Kd.own_of_R (enc := Value.int k) (h1 := fun _ => rfl) h
  refine Kd.R_of_own (enc := Value.int k) (h1 := fun _ => rfl) ⟨ho.1, ?_⟩ h.1
  rcases ho.2 with hn | ⟨g, cap, cur, rfl, h0, hg, h2⟩
  · exact .inl hn
  · exact .inr ⟨g, cap, cur, rfl, h0, by rw [hb g rfl]; exact hg, h2⟩
theorem R_cap {k : IntKind} {e base : Nat} {w : World} {ok : Nat → Prop} {A : Option Addr} {n c : Nat} {xs : List Int} (h : Kd.R (Kd.int k) e w base ok (.slice A n c) xs) : c ≤ 9223372036854775807 := by
  have ho := Kd.own_of_R (enc := Value.int k) (h1 := fun _ => rfl) h
  rcases ho.2 with ⟨hn, _⟩ | ⟨g, cap, cur, he, h0, hg, h2, h3, _⟩
  · injection hn with _ _ h3
    omega
  · injection he with _ _ h4
    simp only [maxLen] at h3
    omega
theorem R_weaken {k : IntKind} {e base b2 : Nat} {w : World} {ok ok2 : Nat → Prop} {v : Value} {xs : List Int} (h : Kd.R (Kd.int k) e w base ok v xs) (hb : ∀ i, v.ownBlock = some i → b2 ≤ i) (ho2 : ∀ i, v.ownBlock = some i → ok2 i) : Kd.R (Kd.int k) e w b2 ok2 v xs := by
  have ho := Kd.own_of_R (enc := Value.int k) (h1 := fun _ => rfl) h
  refine Kd.R_of_own (enc := Value.int k) (h1 := fun _ => rfl) ⟨ho.1, ?_⟩ ho2
  rcases ho.2 with hn | ⟨g, cap, cur, rfl, h0, hg, h2⟩
  · exact .inl hn
  · exact .inr ⟨g, cap, cur, rfl, hb g rfl, hg, h2⟩
theorem C_moved {k : IntKind} {w w' : World} {A : Option Addr} {m : Nat} {l : List Int} (hc : Kd.C (Kd.int k) w A m l) (ha : ∀ ad, A = some ad → 0 < m → w'.heap[ad.block]? = w.heap[ad.block]?) : Kd.C (Kd.int k) w' A m l := by
  refine ⟨hc.1, hc.2.1, fun hn => ?_⟩
  obtain ⟨ad, he, hq⟩ := hc.2.2 hn
  refine ⟨ad, he, fun j q hj => ?_⟩
  obtain ⟨cs, h1, h2, h3⟩ := hq j q hj
  refine ⟨cs, h1, h2, fun i u hu => ?_⟩
  have h4 := h3 i u hu
  have h5 := ha ad he hn
  unfold World.cell? at *
  rw [add_block, h5, ← add_block ad _]
  exact h4
theorem C_block {k : IntKind} {w : World} {ad : Addr} {m : Nat} {l : List Int} (hc : Kd.C (Kd.int k) w (some ad) m l) (hm : 0 < m) : ad.block < w.heap.size := by
  obtain ⟨ad', he, hq⟩ := Kd.at_int hc 0 (by omega) (by omega)
  injection he with he
  subst he
  have := World.block_lt_of_cell? w _ hq
  rwa [add_block] at this
theorem Fr.of_grown {w w' : World} {row : Option Nat} (h : w.grownBy w' row) : Fr (fun k => some k = row) w w' := ⟨h.os, h.tape, h.output, h.size, fun k hk hs => h.block k hk hs⟩
theorem bytes_append {t b : List Int} (ht : ∀ i, 0 ≤ t.getD i 0 ∧ t.getD i 0 < 256) (hb : ∀ i, 0 ≤ b.getD i 0 ∧ b.getD i 0 < 256) (i : Nat) : 0 ≤ (t ++ b).getD i 0 ∧ (t ++ b).getD i 0 < 256 := by
  rw [List.getD_eq_getElem?_getD, List.getElem?_append]
  split
  · rw [← List.getD_eq_getElem?_getD]; exact ht _
  · rw [← List.getD_eq_getElem?_getD]; exact hb _
theorem hash_newN (s : Array Value) (n n' : Int) (rest : Value) (x y : List Int) (hs : s.size = 15) : (hashV s n rest x y).setIfInBounds 15 (.int .i64 n') = hashV s n' rest x y := by
  unfold hashV
  rw [List.setIfInBounds_toArray, List.set_append_right _ _ (by rw [Array.length_toList, hs]; omega), Array.length_toList, hs]
  rfl
theorem setCell_off (w : World) (a : Addr) (v : Value) (k : Nat) (h : k ≠ a.block) : (w.setCell a v).heap[k]? = w.heap[k]? := Below.heap_setCell w a v k h
set_option maxRecDepth 100000 in
set_option maxHeartbeats 1000000 in
theorem write_c (base : Nat) (wide : Bool) (K S t : List Int) (p : Nat) (v : Value) (A : Option Addr) (c : Nat) (b : List Int) (w : World) (H : HashAt base wide K S t p v w) (L : Laid K S w)
    (hb : Kd.C (Kd.int .u8) w A b.length b) (ha : Away p A b.length) (ha2 : ∀ k, v.ownBlock = some k → Away k A b.length) (hbd : ∀ i, 0 ≤ b.getD i 0 ∧ b.getD i 0 < 256) (hm : t.length + b.length ≤ 1048576) :
    Calls Tryd.prog 19 #[.pointer (some ⟨p, 0, none⟩), .slice A b.length c] w fun e w' => e = .returned (.int .i64 0) ∧ ∃ v', HashAt base wide K S (t ++ b) p v' w' ∧ (∀ k, v'.ownBlock = some k → w.heap.size ≤ k) ∧ Fr (fun k => k = p ∨ v.ownBlock = some k) w w' := by
  have hd : decide ((1048576 : Int) - ↑t.length < ↑b.length) = false := decide_eq_false (by omega)
  have hmI : (↑t.length : Int) + ↑b.length ≤ 1048576 := by omega
  have hcells := H.cells
  have hs := shV_size wide
  have hbd2 := bytes_append H.bytes hbd
  have hps := blk_lt hcells
  have hB := H.hbase
  have hg0 := H.g0
  have hg1 := H.g1
  have c15 : w.cell? ⟨p, 15, none⟩ = some (.int .i64 t.length) := (blk_cell hcells 15).trans (hash_at15 _ _ _ _ _ hs)
  have f15 : w.frozen? ⟨p, 15, none⟩ = false := blk_frozen hcells _
  have HH := Aside0.mk (And.intro H (And.intro L (And.intro hb (And.intro ha (And.intro ha2 hbd2)))))
  clear H L hb ha ha2 hbd2 hbd hcells
  go_enter Tryd.func19, Tryd.ntmps19
  go_upto_region 6 with fail
  obtain ⟨H, L, hb, ha, ha2, hbd2⟩ := HH.out
  have hqb := bl_le wide t.length
  have hq2 : bl wide * (t.length / bl wide) ≤ (t ++ b).length := by rw [List.length_append]; omega
  have P1 : Aside0 ((w.setCell ⟨p, 15, none⟩ (.int .i64 (↑t.length + ↑b.length))).heap[p]? = some (.cells (hashV (shV wide) ((t ++ b).length : Nat) v (W32 wide K S (t ++ b) (t.length / bl wide)) (W64 wide K S (t ++ b) (t.length / bl wide))) 65 (0, 0)) ∧
      Kd.R (Kd.int .u8) 5 (w.setCell ⟨p, 15, none⟩ (.int .i64 (↑t.length + ↑b.length))) base (fun k => k ≠ p) v (t.drop (bl wide * (t.length / bl wide))) ∧ Kd.C (Kd.int .u8) (w.setCell ⟨p, 15, none⟩ (.int .i64 (↑t.length + ↑b.length))) A b.length b ∧ Fr (fun k => k = p) w (w.setCell ⟨p, 15, none⟩ (.int .i64 (↑t.length + ↑b.length)))) := ⟨by
    refine ⟨?_, R_moved H.row (fun i hi => setCell_off _ _ _ _ (H.row.1 i hi)), C_moved hb (fun ad he hn => setCell_off _ _ _ _ (ha hn ad he)), (Fr.refl _ _).setCell _ _ (.inl rfl)⟩
    rw [W32_congr wide K S t b _ hqb, W64_congr wide K S t b _ hqb]
    refine blk_put H.cells 15 _ ?_
    rw [List.length_append, Int.natCast_add]
    exact hash_newN _ _ _ _ _ _ hs⟩
  clear hb ha c15 f15
  generalize w.setCell ⟨p, 15, none⟩ (.int .i64 (↑t.length + ↑b.length)) = w1 at P1 ⊢
  have c16 : w1.cell? ⟨p, 16, none⟩ = some v := (blk_cell P1.out.1 16).trans (hash_at16 _ _ _ _ _ hs)
  have hsz1 : base ≤ w1.heap.size := by have := blk_lt P1.out.1; omega
  have hlr := bl_rest wide t
  have hlm := Nat.mod_le t.length (bl wide)
  have hdr : t.drop (bl wide * (t.length / bl wide)) ++ b = (t ++ b).drop (bl wide * (t.length / bl wide)) := (List.drop_append_of_le_length hqb).symm
  have HQ := Aside0.mk (And.intro hq2 (And.intro hlr (And.intro hlm (And.intro hdr hqb))))
  clear hq2 hlr hlm hdr hqb
  go_wp2_with (first
    | (at_builtin; refine Kd.R_append_row (Value.int .u8) 0 (w0 := w1) base rfl (.tmp 31) (.tmp 32) 23 5 (.int .u8 0) 1 rfl Tryd.underlying23 info_u8 rfl (by decide) v (t.drop (bl wide * (t.length / bl wide))) b A b.length c (fun k => k ≠ p) rfl rfl (fun k hk => by have := blk_lt P1.out.1; omega) P1.out.2.1 P1.out.2.2.1 (Below.refl _ _) hsz1 (by have := HQ.out; omega) ?_
       intro v1 w2 hown hB2 hg2 hat2
       rw [HQ.out.2.2.2.1] at hown
       have P2 := Aside0.mk (And.intro hown (And.intro hg2 hat2))
       clear hown hB2 hg2 hat2
       obtain ⟨A1, c1, rfl, hc1, hC1⟩ := Kd.R_reads P2.out.1
       have hcap := R_cap P2.out.1
       generalize hm1 : (List.drop (bl wide * (t.length / bl wide)) (t ++ b)).length = m1 at P2 hC1 hc1 ⊢
       have HC1 := Aside0.mk (And.intro hC1 hm1)
       clear hC1 hm1)
    )
  have hp2 : w2.heap[p]? = some (.cells (hashV (shV wide) ((t ++ b).length : Nat) v (W32 wide K S (t ++ b) (t.length / bl wide)) (W64 wide K S (t ++ b) (t.length / bl wide))) 65 (0, 0)) := (P2.out.2.1.block p (blk_lt P1.out.1) (fun e => P1.out.2.1.1 p e.symm rfl)).trans P1.out.1
  have hA1 : Away p A1 m1 := fun hp ad e => by subst e; exact P2.out.1.1 ad.block rfl
  have hK2 : ∀ i, i < 80 → w2.cell? ⟨0, i, none⟩ = some (.int .u64 (K.getD i 0)) := fun i hi => ((Fr.of_grown P2.out.2.1).cell (P1.out.2.2.2.cell (L.k i hi) (by show ¬ 0 = p; omega)) (fun e => by have h : base ≤ 0 := Kd.R_base P1.out.2.1 _ e.symm; omega))
  refine (take_c wide p (t.length / bl wide) ((t ++ b).length : Nat) v A1 m1 c1 (t ++ b) K S w2 HQ.out.1 (HC1.out.2.symm.trans (List.length_drop ..)) hp2 HC1.out.1 hc1 hcap hA1 hbd2 hK2 (by omega)).mono ?_
  rintro e w3 ⟨A3, c3, rfl, hc3, hC3, ha3, hp3, hF3⟩
  have hm3l : (t ++ b).length % bl wide ≤ 1048576 := by have := Nat.mod_le (t ++ b).length (bl wide); rw [List.length_append] at *; omega
  generalize hm3 : (t ++ b).length % bl wide = m3 at hc3 hC3 ha3 hm3l ⊢
  have P3 := Aside0.mk (And.intro hC3 (And.intro ha3 (And.intro hp3 hF3)))
  clear hC3 ha3 hp3 hF3 hm3
  go_wp2_with (first
    | (at_builtin; refine Kd.R_append_row (Value.int .u8) 0 (w0 := w3) base rfl _ (.tmp 34) 23 5 (.int .u8 0) 1 rfl Tryd.underlying23 info_u8 rfl (by decide) (.slice none 0 0) [] ((t ++ b).drop (bl wide * ((t ++ b).length / bl wide))) A3 m3 c3 (fun k => k ≠ p) rfl rfl (fun k hk => by have := blk_lt P3.out.2.2.1; omega) (Kd.R_nil _ _ _ _ _) P3.out.1 (Below.refl _ _) (by have := blk_lt P3.out.2.2.1; omega) (by simp only [List.length_nil]; omega) ?_
       intro v4 w4 hown4 hB4 hg4 hat4
       obtain ⟨A4, c4, rfl, hc4, hC4⟩ := Kd.R_reads hown4
       clear hc4 hC4
       generalize hm4 : ([] ++ List.drop (bl wide * ((t ++ b).length / bl wide)) (t ++ b) : List Int).length = m4 at hown4 hat4 ⊢
       have P4 := Aside0.mk (And.intro hown4 (And.intro hg4 hat4))
       clear hown4 hB4 hg4 hat4
       have hp4 := Aside0.mk ((P4.out.2.1.block p (blk_lt P3.out.2.2.1) (by intro e; cases e)).trans P3.out.2.2.1)
       have f16 : w4.frozen? ⟨p, 16, none⟩ = false := blk_frozen hp4.out _
       have c16' : w4.cell? ⟨p, 16, none⟩ = some v := (blk_cell hp4.out 16).trans (hash_at16 _ _ _ _ _ hs)))
  go_ret
  have hF : Fr (fun k => k = p ∨ v.ownBlock = some k) w w4 := (((P1.out.2.2.2.mono (fun i hi => Or.inl hi)).trans (Fr.of_grown P2.out.2.1) (fun i hi => .inl (.inr hi.symm))).trans P3.out.2.2.2 (fun i hi => .inl (.inl hi))).trans (Fr.of_grown P4.out.2.1) (fun i hi => by cases hi)
  have h4 : ∀ k, (Value.slice A4 m4 c4).ownBlock = some k → w.heap.size ≤ k := fun k hk => by
    rcases P4.out.2.2 with e | ⟨q, e, hq⟩
    · rw [e] at hk; cases hk
    · rw [e] at hk; injection hk with hk; subst hk
      have := P1.out.2.2.2.size
      have := P2.out.2.1.size
      have := P3.out.2.2.2.size
      omega
  refine ⟨rfl, .slice A4 m4 c4, ⟨?_, ?_, hB, hg0, hg1, by rw [List.length_append]; exact hm, hbd2⟩, h4, hF.setCell _ _ (.inl (.inl rfl))⟩
  · exact blk_put hp4.out 16 _ (hash_newRest _ _ _ _ _ _ hs)
  · exact R_moved P4.out.1 (fun i hi => setCell_off _ _ _ _ (P4.out.1.1 i hi))
end Go.Proofs.YtckjgipkdknmgaaDoor.H
