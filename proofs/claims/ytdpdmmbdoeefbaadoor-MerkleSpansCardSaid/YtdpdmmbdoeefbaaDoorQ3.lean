/- The narrow digest: part 3. -/
import Derived.Test.YtdpdmmbdoeefbaaDoorQ2
namespace Go.Proofs.YtdpdmmbdoeefbaaDoor.H
open Go.RowKit YtdpdmmbdoeefbaaDoorW.PrintWords
theorem R_cap {k : IntKind} {e base : Nat} {w : World} {ok : Nat → Prop} {A : Option Addr} {n c : Nat} {xs : List Int} (h : Kd.R (Kd.int k) e w base ok (.slice A n c) xs) : c ≤ 9223372036854775807 := by
  have ho := Kd.own_of_R (enc := Value.int k) (h1 := fun _ => rfl) h
  rcases ho.2 with ⟨hn, _⟩ | ⟨g, cap, cur, he, h0, hg, h2, h3, _⟩
  · injection hn with _ _ h3
    omega
  injection he with _ _ h4
  simp only [maxLen] at h3
  omega
theorem R_weaken {k : IntKind} {e base b2 : Nat} {w : World} {ok ok2 : Nat → Prop} {v : Value} {xs : List Int} (h : Kd.R (Kd.int k) e w base ok v xs) (hb : ∀ i, v.ownBlock = some i → b2 ≤ i) (ho2 : ∀ i, v.ownBlock = some i → ok2 i) : Kd.R (Kd.int k) e w b2 ok2 v xs := by
  have ho := Kd.own_of_R (enc := Value.int k) (h1 := fun _ => rfl) h
  refine Kd.R_of_own (enc := Value.int k) (h1 := fun _ => rfl) ⟨ho.1, ?_⟩ ho2
  rcases ho.2 with hn | ⟨g, cap, cur, rfl, h0, hg, h2⟩
  · exact .inl hn
  exact .inr ⟨g, cap, cur, rfl, hb g rfl, hg, h2⟩
theorem C_moved {k : IntKind} {w w' : World} {A : Option Addr} {m : Nat} {l : List Int} (hc : Kd.C (Kd.int k) w A m l) (ha : ∀ ad, A = some ad → 0 < m → w'.heap[ad.block]? = w.heap[ad.block]?) : Kd.C (Kd.int k) w' A m l := by
  refine ⟨hc.1, hc.2.1, fun hn => ?_⟩
  obtain ⟨ad, he, hq⟩ := hc.2.2 hn
  refine ⟨ad, he, fun j q hj => ?_⟩
  obtain ⟨cs, h1, h2, h3⟩ := hq j q hj
  refine ⟨cs, h1, h2, fun i u hu => ?_⟩
  have h4 := h3 i u hu
  have h5 := ha ad he hn
  unfold World.cell? at *
  rw [add_block, h5, ← add_block ad _]
  exact h4
theorem C_block {k : IntKind} {w : World} {ad : Addr} {m : Nat} {l : List Int} (hc : Kd.C (Kd.int k) w (some ad) m l) (hm : 0 < m) : ad.block < w.heap.size := by
  obtain ⟨ad', he, hq⟩ := Kd.at_int hc 0 (by omega) (by omega)
  injection he with he
  subst he
  have := World.block_lt_of_cell? w _ hq
  rwa [add_block] at this
theorem Fr.of_grown {w w' : World} {row : Option Nat} (h : w.grownBy w' row) : Fr (fun k => some k = row) w w' := ⟨h.os, h.tape, h.output, h.size, fun k hk hs => h.block k hk hs⟩
theorem bytes_append {t b : List Int} (ht : ∀ i, 0 ≤ t.getD i 0 ∧ t.getD i 0 < 256) (hb : ∀ i, 0 ≤ b.getD i 0 ∧ b.getD i 0 < 256) (i : Nat) : 0 ≤ (t ++ b).getD i 0 ∧ (t ++ b).getD i 0 < 256 := by
  rw [List.getD_eq_getElem?_getD, List.getElem?_append]
  split
  · rw [← List.getD_eq_getElem?_getD]; exact ht _
  rw [← List.getD_eq_getElem?_getD]; exact hb _
theorem hash_newN (s : Array Value) (n n' : Int) (rest : Value) (x y : List Int) (hs : s.size = 15) : (hashV s n rest x y).setIfInBounds 15 (.int .i64 n') = hashV s n' rest x y := by
  unfold hashV
  rw [List.setIfInBounds_toArray, List.set_append_right _ _ (by rw [Array.length_toList, hs]; omega), Array.length_toList, hs]
  rfl
theorem setCell_off (w : World) (a : Addr) (v : Value) (k : Nat) (h : k ≠ a.block) : (w.setCell a v).heap[k]? = w.heap[k]? := Below.heap_setCell w a v k h
set_option maxRecDepth 100000 in
set_option maxHeartbeats 1000000 in
theorem write_c (base : Nat) (wide : Bool) (K S t : List Int) (p : Nat) (v : Value) (A : Option Addr) (c : Nat) (b : List Int) (w : World) (H : HashAt base wide K S t p v w) (L : Laid K S w)
    (hb : Kd.C (Kd.int .u8) w A b.length b) (ha : Away p A b.length) (ha2 : ∀ k, v.ownBlock = some k → Away k A b.length) (hbd : ∀ i, 0 ≤ b.getD i 0 ∧ b.getD i 0 < 256) (hm : t.length + b.length ≤ 1048576) :
    Calls Tryd.prog 77 #[.pointer (some ⟨p, 0, none⟩), .slice A b.length c] w fun e w' => e = .returned (.int .i64 0) ∧ ∃ v', HashAt base wide K S (t ++ b) p v' w' ∧ (∀ k, v'.ownBlock = some k → w.heap.size ≤ k) ∧ Fr (fun k => k = p ∨ v.ownBlock = some k) w w' := by
  have hd : decide ((1048576 : Int) - ↑t.length < ↑b.length) = false := decide_eq_false (by omega)
  have hmI : (↑t.length : Int) + ↑b.length ≤ 1048576 := by omega
  have hcells := H.cells
  have hs := shV_size wide
  have hbd2 := bytes_append H.bytes hbd
  have hps := blk_lt hcells
  have hB := H.hbase
  have hg0 := H.g0
  have hg1 := H.g1
  have c15 : w.cell? ⟨p, 15, none⟩ = some (.int .i64 t.length) := (blk_cell hcells 15).trans (hash_at15 _ _ _ _ _ hs)
  have f15 : w.frozen? ⟨p, 15, none⟩ = false := blk_frozen hcells _
  have HH := Aside0.mk (And.intro H (And.intro L (And.intro hb (And.intro ha (And.intro ha2 hbd2)))))
  clear H L hb ha ha2 hbd2 hbd hcells
  go_enter Tryd.func77, Tryd.ntmps77
  go_upto_region 6 with fail
  obtain ⟨H, L, hb, ha, ha2, hbd2⟩ := HH.out
  have hqb := bl_le wide t.length
  have hq2 : bl wide * (t.length / bl wide) ≤ (t ++ b).length := by rw [List.length_append]; omega
  have P1 : Aside0 ((w.setCell ⟨p, 15, none⟩ (.int .i64 (↑t.length + ↑b.length))).heap[p]? = some (.cells (hashV (shV wide) ((t ++ b).length : Nat) v (W32 wide K S (t ++ b) (t.length / bl wide)) (W64 wide K S (t ++ b) (t.length / bl wide))) 109 (0, 0)) ∧
      Kd.R (Kd.int .u8) 5 (w.setCell ⟨p, 15, none⟩ (.int .i64 (↑t.length + ↑b.length))) base (fun k => k ≠ p) v (t.drop (bl wide * (t.length / bl wide))) ∧ Kd.C (Kd.int .u8) (w.setCell ⟨p, 15, none⟩ (.int .i64 (↑t.length + ↑b.length))) A b.length b ∧ Fr (fun k => k = p) w (w.setCell ⟨p, 15, none⟩ (.int .i64 (↑t.length + ↑b.length)))) := ⟨by
    refine ⟨?_, R_moved H.row (fun i hi => setCell_off _ _ _ _ (H.row.1 i hi)), C_moved hb (fun ad he hn => setCell_off _ _ _ _ (ha hn ad he)), (Fr.refl _ _).setCell _ _ (.inl rfl)⟩
    rw [W32_congr wide K S t b _ hqb, W64_congr wide K S t b _ hqb]
    refine blk_put H.cells 15 _ ?_
    rw [List.length_append, Int.natCast_add]
    exact hash_newN _ _ _ _ _ _ hs⟩
  clear hb ha c15 f15
  generalize w.setCell ⟨p, 15, none⟩ (.int .i64 (↑t.length + ↑b.length)) = w1 at P1 ⊢
  have c16 : w1.cell? ⟨p, 16, none⟩ = some v := (blk_cell P1.out.1 16).trans (hash_at16 _ _ _ _ _ hs)
  have hsz1 : base ≤ w1.heap.size := by have := blk_lt P1.out.1; omega
  have hlr := bl_rest wide t
  have hlm := Nat.mod_le t.length (bl wide)
  have hdr : t.drop (bl wide * (t.length / bl wide)) ++ b = (t ++ b).drop (bl wide * (t.length / bl wide)) := (List.drop_append_of_le_length hqb).symm
  have HQ := Aside0.mk (And.intro hq2 (And.intro hlr (And.intro hlm (And.intro hdr hqb))))
  clear hq2 hlr hlm hdr hqb
  go_wp2_with (first
    | (at_builtin; refine Kd.R_append_row (Value.int .u8) 0 (w0 := w1) base rfl (.tmp 31) (.tmp 32) 22 5 (.int .u8 0) 1 rfl Tryd.underlying22 info_u8 rfl (by decide) v (t.drop (bl wide * (t.length / bl wide))) b A b.length c (fun k => k ≠ p) rfl rfl (fun k hk => by have := blk_lt P1.out.1; omega) P1.out.2.1 P1.out.2.2.1 (Below.refl _ _) hsz1 (by have := HQ.out; omega) ?_
       intro v1 w2 hown hB2 hg2 hat2
       rw [HQ.out.2.2.2.1] at hown
       have P2 := Aside0.mk (And.intro hown (And.intro hg2 hat2))
       clear hown hB2 hg2 hat2
       obtain ⟨A1, c1, rfl, hc1, hC1⟩ := Kd.R_reads P2.out.1
       have hcap := R_cap P2.out.1
       generalize hm1 : (List.drop (bl wide * (t.length / bl wide)) (t ++ b)).length = m1 at P2 hC1 hc1 ⊢
       have HC1 := Aside0.mk (And.intro hC1 hm1)
       clear hC1 hm1)
    )
  have hp2 : w2.heap[p]? = some (.cells (hashV (shV wide) ((t ++ b).length : Nat) v (W32 wide K S (t ++ b) (t.length / bl wide)) (W64 wide K S (t ++ b) (t.length / bl wide))) 109 (0, 0)) := (P2.out.2.1.block p (blk_lt P1.out.1) (fun e => P1.out.2.1.1 p e.symm rfl)).trans P1.out.1
  have hA1 : Away p A1 m1 := fun hp ad e => by subst e; exact P2.out.1.1 ad.block rfl
  have hK2 : ∀ i, i < 80 → w2.cell? ⟨1, i, none⟩ = some (.int .u64 (K.getD i 0)) := fun i hi => ((Fr.of_grown P2.out.2.1).cell (P1.out.2.2.2.cell (L.k i hi) (by show ¬ 1 = p; omega)) (fun e => by have h : base ≤ 1 := Kd.R_base P1.out.2.1 _ e.symm; omega))
  refine (take_c wide p (t.length / bl wide) ((t ++ b).length : Nat) v A1 m1 c1 (t ++ b) K S w2 HQ.out.1 (HC1.out.2.symm.trans (List.length_drop ..)) hp2 HC1.out.1 hc1 hcap hA1 hbd2 hK2 (by omega)).mono ?_
  rintro e w3 ⟨A3, c3, rfl, hc3, hC3, ha3, hp3, hF3⟩
  have hm3l : (t ++ b).length % bl wide ≤ 1048576 := by have := Nat.mod_le (t ++ b).length (bl wide); rw [List.length_append] at *; omega
  generalize hm3 : (t ++ b).length % bl wide = m3 at hc3 hC3 ha3 hm3l ⊢
  have P3 := Aside0.mk (And.intro hC3 (And.intro ha3 (And.intro hp3 hF3)))
  clear hC3 ha3 hp3 hF3 hm3
  go_wp2_with (first
    | (at_builtin; refine Kd.R_append_row (Value.int .u8) 0 (w0 := w3) base rfl _ (.tmp 34) 22 5 (.int .u8 0) 1 rfl Tryd.underlying22 info_u8 rfl (by decide) (.slice none 0 0) [] ((t ++ b).drop (bl wide * ((t ++ b).length / bl wide))) A3 m3 c3 (fun k => k ≠ p) rfl rfl (fun k hk => by have := blk_lt P3.out.2.2.1; omega) (Kd.R_nil _ _ _ _ _) P3.out.1 (Below.refl _ _) (by have := blk_lt P3.out.2.2.1; omega) (by simp only [List.length_nil]; omega) ?_
       intro v4 w4 hown4 hB4 hg4 hat4
       obtain ⟨A4, c4, rfl, hc4, hC4⟩ := Kd.R_reads hown4
       clear hc4 hC4
       generalize hm4 : ([] ++ List.drop (bl wide * ((t ++ b).length / bl wide)) (t ++ b) : List Int).length = m4 at hown4 hat4 ⊢
       have P4 := Aside0.mk (And.intro hown4 (And.intro hg4 hat4))
       clear hown4 hB4 hg4 hat4
       have hp4 := Aside0.mk ((P4.out.2.1.block p (blk_lt P3.out.2.2.1) (by intro e; cases e)).trans P3.out.2.2.1)
       have f16 : w4.frozen? ⟨p, 16, none⟩ = false := blk_frozen hp4.out _
       have c16' : w4.cell? ⟨p, 16, none⟩ = some v := (blk_cell hp4.out 16).trans (hash_at16 _ _ _ _ _ hs)))
  go_ret
  have hF : Fr (fun k => k = p ∨ v.ownBlock = some k) w w4 := (((P1.out.2.2.2.mono (fun i hi => Or.inl hi)).trans (Fr.of_grown P2.out.2.1) (fun i hi => .inl (.inr hi.symm))).trans P3.out.2.2.2 (fun i hi => .inl (.inl hi))).trans (Fr.of_grown P4.out.2.1) (fun i hi => by cases hi)
  have h4 : ∀ k, (Value.slice A4 m4 c4).ownBlock = some k → w.heap.size ≤ k := fun k hk => by
    rcases P4.out.2.2 with e | ⟨q, e, hq⟩
    · rw [e] at hk; cases hk
    rw [e] at hk; injection hk with hk; subst hk
    have := P1.out.2.2.2.size
    have := P2.out.2.1.size
    have := P3.out.2.2.2.size
    omega
  refine ⟨rfl, .slice A4 m4 c4, ⟨?_, ?_, hB, hg0, hg1, by rw [List.length_append]; exact hm, hbd2⟩, h4, hF.setCell _ _ (.inl (.inl rfl))⟩
  · exact blk_put hp4.out 16 _ (hash_newRest _ _ _ _ _ _ hs)
  exact R_moved P4.out.1 (fun i hi => setCell_off _ _ _ _ (P4.out.1.1 i hi))
theorem hash_size (s : Array Value) (n : Int) (rest : Value) (x y : List Int) (hs : s.size = 15) (hx : x.length = 8) (hy : y.length = 8) : (hashV s n rest x y).size = 33 := by
  unfold hashV
  simp only [List.size_toArray, List.length_append, Array.length_toList, List.length_cons, List.length_map, hs, hx, hy]
theorem hash_one (wide : Bool) (n : Int) (A : Option Addr) (m c : Nat) (x y : List Int) : (hashV (shV wide) n (.slice A m c) x y).all (·.oneCell') = true := by
  unfold hashV
  rw [← Array.all_toList]
  simp [shV, narrowV, Value.oneCell']
set_option maxRecDepth 100000 in
set_option maxHeartbeats 1000000 in
theorem copy_c (base : Nat) (wide : Bool) (K S t : List Int) (p : Nat) (v : Value) (w : World) (H : HashAt base wide K S t p v w) :
    Calls Tryd.prog 87 #[.pointer (some ⟨p, 0, none⟩)] w fun e w' => ∃ p' v', e = .returned (.pointer (some ⟨p', 0, none⟩)) ∧ HashAt base wide K S t p' v' w' ∧ w.heap.size ≤ p' ∧ (∀ k, v'.ownBlock = some k → w.heap.size ≤ k) ∧ Below w.heap.size w w' := by
  obtain ⟨A, m, hv, hm, hC⟩ := Kd.R_reads H.row
  obtain ⟨n0, hn0⟩ : ∃ n0, n0 = (t.drop (bl wide * (t.length / bl wide))).length := ⟨_, rfl⟩
  rw [← hn0] at hv hm hC
  have hn0m : n0 ≤ 1048576 := by have := H.most; rw [hn0, List.length_drop]; omega
  subst hv
  have hcells := H.cells
  have hs := shV_size wide
  have hsz := hash_size (shV wide) t.length (.slice A n0 m) _ _ hs (W32_length wide K S t (t.length / bl wide)) (W64_length wide K S t (t.length / bl wide))
  have hi33 : (Tryd.prog.info? 109).map (·.size) = some (hashV (shV wide) t.length (.slice A n0 m) (W32 wide K S t (t.length / bl wide)) (W64 wide K S t (t.length / bl wide))).size := by rw [hsz]; kernel_rfl
  have hone := hash_one wide t.length A n0 m (W32 wide K S t (t.length / bl wide)) (W64 wide K S t (t.length / bl wide))
  have hp0 := blk_lt hcells
  have HH := Aside0.mk H
  have HC := Aside0.mk hcells
  have HI := Aside0.mk hi33
  have HO := Aside0.mk hone
  have HS := Aside0.mk hsz
  have H1 := Aside0.mk (fun v => hash_newRest (shV wide) t.length (.slice A n0 m) v (W32 wide K S t (t.length / bl wide)) (W64 wide K S t (t.length / bl wide)) hs)
  have H16 := Aside0.mk (hash_at16 (shV wide) t.length (.slice A n0 m) (W32 wide K S t (t.length / bl wide)) (W64 wide K S t (t.length / bl wide)) hs)
  have HR := Aside0.mk (And.intro hC hn0)
  clear H hi33 hone hsz hcells hC hn0
  generalize hG : hashV (shV wide) t.length (.slice A n0 m) (W32 wide K S t (t.length / bl wide)) (W64 wide K S t (t.length / bl wide)) = cs at HC HI HO HS H1 H16
  go_enter Tryd.func87, Tryd.ntmps87
  go_upto_region 4 with (first
    | (refine wpList_load_row rfl 109 (.tmp 7) rfl p (by rfl) 109 cs (0, 0) _ HC.out Tryd.underlying109 rfl HI.out ?_)
    | (refine wpList_store_row rfl 109 (.tmp 3) (.tmp 8) rfl w.heap.size cs (by rfl) (by rfl) 109 _ (new1 _ _) HI.out (by rw [HS.out]; rfl) HO.out ?_; rw [World.setRow_alloc_new]))
  have P1 : Aside0 ((w.alloc (.cells cs 109)).heap[w.heap.size]? = some (.cells cs 109 (0, 0)) ∧ (w.alloc (.cells cs 109)).heap[p]? = some (.cells cs 109 (0, 0)) ∧ Below w.heap.size w (w.alloc (.cells cs 109)) ∧ Kd.C (Kd.int .u8) (w.alloc (.cells cs 109)) A n0 (t.drop (bl wide * (t.length / bl wide)))) :=
    ⟨⟨new1 _ _, blk_alloc HC.out _, below_alloc (Below.refl _ _) _, Kd.C_alloc HR.out.1 _⟩⟩
  generalize w.alloc (.cells cs 109) = w1 at P1 ⊢
  have c16 : w1.cell? ⟨p, 16, none⟩ = some (.slice A n0 m) := (blk_cell P1.out.2.1 16).trans H16.out
  go_wp2_with (first
    | (at_builtin; refine Kd.R_append_row (Value.int .u8) 0 (w0 := w1) w1.heap.size rfl _ (.tmp 12) 22 5 (.int .u8 0) 1 rfl Tryd.underlying22 info_u8 rfl (by decide) (.slice none 0 0) [] (t.drop (bl wide * (t.length / bl wide))) A n0 m (fun k => w1.heap.size ≤ k) rfl rfl (fun k hk => hk) (Kd.R_nil _ _ _ _ _) P1.out.2.2.2 (Below.refl _ _) (Nat.le_refl _) (by simp only [List.length_nil]; omega) ?_
       intro v4 w4 hown4 hB4 hg4 hat4
       rw [List.nil_append] at hown4
       obtain ⟨A4, c4, rfl, hc4, hC4⟩ := Kd.R_reads hown4
       clear hc4 hC4
       generalize hm4 : (List.drop (bl wide * (t.length / bl wide)) t).length = m4 at hown4 hat4 ⊢
       have P4 := Aside0.mk (And.intro hown4 (And.intro hg4 (And.intro hat4 hB4)))
       clear hown4 hB4 hg4 hat4 hm4
       have hp4 := Aside0.mk ((P4.out.2.1.block w.heap.size (blk_lt P1.out.1) (by intro e; cases e)).trans P1.out.1)
       have f16 : w4.frozen? ⟨w.heap.size, 16, none⟩ = false := blk_frozen hp4.out _
       have c16' : w4.cell? ⟨w.heap.size, 16, none⟩ = some (.slice A n0 m) := (blk_cell hp4.out 16).trans H16.out))
  go_ret
  have hB := HH.out.hbase
  have hsz1 := blk_lt P1.out.1
  have hne : ∀ k, (Value.slice A4 m4 c4).ownBlock = some k → w1.heap.size ≤ k := P4.out.1.1
  refine ⟨w.heap.size, .slice A4 m4 c4, rfl, ⟨?_, ?_, by omega, HH.out.g0, HH.out.g1, HH.out.most, HH.out.bytes⟩, Nat.le_refl _, fun k hk => by have := hne k hk; omega, ?_⟩
  · have := blk_put hp4.out 16 (.slice A4 m4 c4) (H1.out _)
    exact this
  · refine R_weaken (R_moved P4.out.1 (fun i hi => setCell_off _ _ _ _ (by have := hne i hi; show i ≠ w.heap.size; omega))) (fun i hi => by have := hne i hi; omega) (fun i hi => by have := hne i hi; omega)
  exact below_set (below_step P1.out.2.2.1 P4.out.2.2.2) (Nat.le_refl _)
theorem HashAt.below {base : Nat} {wide : Bool} {K S t : List Int} {p : Nat} {v : Value} {w w' : World} (h : HashAt base wide K S t p v w) (hb : Below w.heap.size w w') : HashAt base wide K S t p v w' :=
  ⟨blk_below h.cells hb, R_moved h.row (fun i hi => hb.block i (Kd.R_lt h.row i hi)), h.hbase, h.g0, h.g1, h.most, h.bytes⟩
def padOf (_wide : Bool) (n : Int) : List Int := padS n (padLen32 n) 8
/-- A text's digest. -/
def digest (_wide : Bool) (K S t : List Int) : List Int := tell32 (W32 false K S (t ++ padOf false t.length) ((t ++ padOf false t.length).length / bl false)) 8
theorem set_bytes {l : List Int} (h : ∀ x ∈ l, 0 ≤ x ∧ x < 256) (i : Nat) (v : Int) (hv : 0 ≤ v ∧ v < 256) : ∀ x ∈ l.set i v, 0 ≤ x ∧ x < 256 := fun x hx => by
  rcases List.mem_or_eq_of_mem_set hx with h1 | h1
  · exact h x h1
  rw [h1]; exact hv
theorem padS_bytes (n : Int) (len : Nat) : ∀ i, ∀ x ∈ padS n len i, 0 ≤ x ∧ x < 256
  | 0 => set_bytes (fun x hx => by rw [List.mem_replicate] at hx; omega) _ _ (by omega)
  | i + 1 => set_bytes (padS_bytes n len i) _ _ (by omega)
theorem getD_bytes {l : List Int} (h : ∀ x ∈ l, 0 ≤ x ∧ x < 256) (i : Nat) : 0 ≤ l.getD i 0 ∧ l.getD i 0 < 256 := by
  rw [List.getD_eq_getElem?_getD]
  cases hx : l[i]? with
  | none => simp
  | some x => exact h x (List.mem_of_getElem? hx)
theorem padOf_length (wide : Bool) (n : Int) : (padOf wide n).length ≤ 145 := by
  unfold padOf
  rw [padS_length]
  simp [padLen32]; omega
/-- The state between copying and taking. -/
def SumP32 (base : Nat) (K S t : List Int) (p : Nat) (v : Value) (w w' : World) : Prop := HashAt base false K S t p v w' ∧ Below w.heap.size w w'
section
variable {base : Nat} {K S t : List Int} {p : Nat} {v : Value} {w w1 w2 : World}
theorem SumP32.drew (h : SumP32 base K S t p v w w1) : SumP32 base K S t p v w w1.drew := ⟨h.1.below (below_drew1 (Below.refl _ _)), below_drew1 h.2⟩
theorem SumP32.below (h : SumP32 base K S t p v w w1) (hb : Below w1.heap.size w1 w2) : SumP32 base K S t p v w w2 := ⟨h.1.below hb, below_step h.2 hb⟩
theorem SumP32.cells (h : SumP32 base K S t p v w w1) : SumP32 base K S t p v w w1 ∧ w1.cell? ⟨p, 15, none⟩ = some (.int .i64 t.length) ∧ w1.cell? ⟨p, 0, none⟩ = some (.int .i64 4) :=
  ⟨h, (blk_cell h.1.cells 15).trans (hash_at15 _ _ _ _ _ rfl), (blk_cell h.1.cells 0).trans rfl⟩
end
/-- The state when the words are told. -/
def TellP32 (w : World) (p : Nat) (n : Int) (rest : Value) (y z : List Int) (w' : World) : Prop := w'.heap[p]? = some (.cells (hashV narrowV n rest z y) 109 (0, 0)) ∧ Below w.heap.size w w'
section
variable {p : Nat} {n : Int} {rest : Value} {w w1 w2 : World} {y z : List Int}
theorem TellP32.drew (h : TellP32 w p n rest y z w1) : TellP32 w p n rest y z w1.drew := ⟨h.1, below_drew1 h.2⟩
theorem TellP32.below (h : TellP32 w p n rest y z w1) (hb : Below w1.heap.size w1 w2) : TellP32 w p n rest y z w2 := ⟨blk_below h.1 hb, below_step h.2 hb⟩
theorem TellP32.cells {z0 z1 z2 z3 z4 z5 z6 z7 y0 y1 y2 y3 y4 y5 y6 y7 : Int} (h : TellP32 w p n rest [y0, y1, y2, y3, y4, y5, y6, y7] [z0, z1, z2, z3, z4, z5, z6, z7] w1) : TellP32 w p n rest [y0, y1, y2, y3, y4, y5, y6, y7] [z0, z1, z2, z3, z4, z5, z6, z7] w1 ∧ w1.cell? ⟨p, 0, none⟩ = some (.int .i64 4) ∧ w1.cell? ⟨p, 1, none⟩ = some (.int .i64 32) ∧ w1.cell? ⟨p, 2, none⟩ = some (.int .i64 64) ∧ w1.cell? ⟨p, 3, none⟩ = some (.int .i64 7) ∧ w1.cell? ⟨p, 4, none⟩ = some (.int .i64 18) ∧ w1.cell? ⟨p, 5, none⟩ = some (.int .i64 3) ∧ w1.cell? ⟨p, 6, none⟩ = some (.int .i64 17) ∧ w1.cell? ⟨p, 7, none⟩ = some (.int .i64 19) ∧ w1.cell? ⟨p, 8, none⟩ = some (.int .i64 10) ∧ w1.cell? ⟨p, 9, none⟩ = some (.int .i64 2) ∧ w1.cell? ⟨p, 10, none⟩ = some (.int .i64 13) ∧ w1.cell? ⟨p, 11, none⟩ = some (.int .i64 22) ∧ w1.cell? ⟨p, 12, none⟩ = some (.int .i64 6) ∧ w1.cell? ⟨p, 13, none⟩ = some (.int .i64 11) ∧ w1.cell? ⟨p, 14, none⟩ = some (.int .i64 25) ∧ w1.cell? ⟨p, 17, none⟩ = some (.int .u32 z0) ∧ w1.cell? ⟨p, 18, none⟩ = some (.int .u32 z1) ∧ w1.cell? ⟨p, 19, none⟩ = some (.int .u32 z2) ∧ w1.cell? ⟨p, 20, none⟩ = some (.int .u32 z3) ∧ w1.cell? ⟨p, 21, none⟩ = some (.int .u32 z4) ∧ w1.cell? ⟨p, 22, none⟩ = some (.int .u32 z5) ∧ w1.cell? ⟨p, 23, none⟩ = some (.int .u32 z6) ∧ w1.cell? ⟨p, 24, none⟩ = some (.int .u32 z7) :=
  ⟨h, (blk_cell h.1 0).trans rfl, (blk_cell h.1 1).trans rfl, (blk_cell h.1 2).trans rfl, (blk_cell h.1 3).trans rfl, (blk_cell h.1 4).trans rfl, (blk_cell h.1 5).trans rfl, (blk_cell h.1 6).trans rfl, (blk_cell h.1 7).trans rfl, (blk_cell h.1 8).trans rfl, (blk_cell h.1 9).trans rfl, (blk_cell h.1 10).trans rfl, (blk_cell h.1 11).trans rfl, (blk_cell h.1 12).trans rfl, (blk_cell h.1 13).trans rfl, (blk_cell h.1 14).trans rfl, (blk_cell h.1 17).trans rfl, (blk_cell h.1 18).trans rfl, (blk_cell h.1 19).trans rfl, (blk_cell h.1 20).trans rfl, (blk_cell h.1 21).trans rfl, (blk_cell h.1 22).trans rfl, (blk_cell h.1 23).trans rfl, (blk_cell h.1 24).trans rfl⟩
end
set_option maxRecDepth 100000 in
set_option maxHeartbeats 1000000 in
theorem sum32_c (base : Nat) (K S t : List Int) (p : Nat) (v : Value) (w : World) (H : HashAt base false K S t p v w) (L : Laid K S w) :
    Calls Tryd.prog 78 #[.pointer (some ⟨p, 0, none⟩)] w fun e w' => ∃ r, e = .returned r ∧ Kd.R (Kd.int .u8) 5 w' w.heap.size (fun _ => True) r (digest false K S t) ∧ Below w.heap.size w w' := by
  have hps := blk_lt H.cells
  have hB := H.hbase
  have hg0 := H.g0
  have hg1 := H.g1
  have hmost := H.most
  have HH := Aside0.mk (And.intro H L)
  clear H L
  go_enter Tryd.func78, Tryd.ntmps78
  go_upto_region 4 with (go_at_call 87; refine (copy_c base false K S t p v _ HH.out.1).mono ?_; rintro e w1 ⟨p1, v1, rfl, hH1, hp1, hv1, hb1⟩; have P1 : Aside0 (SumP32 base K S t p1 v1 w w1) := ⟨⟨hH1, hb1⟩⟩; clear hH1 hb1)
  go_region_held3 (fun w' => SumP32 base K S t p1 v1 w w' ∧ w'.cell? ⟨p1, 15, none⟩ = some (.int .i64 t.length) ∧ w'.cell? ⟨p1, 0, none⟩ = some (.int .i64 4))
    (first | exact SumP32.cells P1.out.drew | exact SumP32.cells P1.out | exact SumP32.cells (SumP32.below P1.out.drew hb) | (go_split_ands; first | exact SumP32.cells (SumP32.below (by assumption) hb)))
    (first | (go_at_call 88; refine (Pad256_c t.length (by omega) (by omega) _).mono ?_; rintro e w2 ⟨vp, rfl, hop, hb⟩))
  go_split_ands
  have P2 : Aside0 (SumP32 base K S t p1 v1 w w2) := ⟨by assumption⟩
  have hpd : Kd.R (Kd.int .u8) 5 w2 w.heap.size (fun _ => True) vp (padOf false t.length) := R_weaken (Kd.R_of_own (enc := Value.int .u8) (h1 := fun _ => rfl) hop (fun _ _ => trivial)) (fun i hi => by have h1 := World.ownsRow.lt hop i hi; have h2 := P1.out.2.size; have h3 : w1.heap.size ≤ i := h1.1; omega) (fun _ _ => trivial)
  clear hop hb P1
  obtain ⟨Ap, cp, rfl, hcp, hCp⟩ := Kd.R_reads hpd
  have hpl := padOf_length false t.length
  generalize hlp : (padOf false t.length).length = lp at hcp hCp hpd hpl ⊢
  obtain ⟨Ar, cr, hvr, hcr, hCr⟩ := Kd.R_reads P2.out.1.row
  have hrl : (t.drop (bl false * (t.length / bl false))).length ≤ 1048576 := by rw [List.length_drop]; omega
  generalize hlr : (t.drop (bl false * (t.length / bl false))).length = lr at hvr hcr hCr hrl
  subst hvr
  have c16 : w2.cell? ⟨p1, 16, none⟩ = some (.slice Ar lr cr) := (blk_cell P2.out.1.cells 16).trans (hash_at16 _ _ _ _ _ rfl)
  have hsz2 := blk_lt P2.out.1.cells
  have hB1 := P2.out.1.hbase
  have hqb := bl_le false t.length
  have hdr : t.drop (bl false * (t.length / bl false)) ++ padOf false t.length = (t ++ padOf false t.length).drop (bl false * (t.length / bl false)) := (List.drop_append_of_le_length hqb).symm
  have hq2 : bl false * (t.length / bl false) ≤ (t ++ padOf false t.length).length := by rw [List.length_append]; omega
  have hbd2 := bytes_append P2.out.1.bytes (getD_bytes (padS_bytes t.length (padLen32 t.length) 8))
  have HQ := Aside0.mk (And.intro hCp (And.intro hlr (And.intro hdr (And.intro hq2 (And.intro hqb (And.intro hbd2 hlp))))))
  clear hCp hlr hdr hq2 hqb hbd2 hCr hpd hlp
  go_upto_region 7 with (first
    | (at_builtin; refine Kd.R_append_row (Value.int .u8) 0 (w0 := w2) base rfl (.tmp 28) (.tmp 29) 22 5 (.int .u8 0) 1 rfl Tryd.underlying22 info_u8 rfl (by decide) (.slice Ar lr cr) (t.drop (bl false * (t.length / bl false))) (padOf false t.length) Ap lp cp (fun k => k ≠ p1) rfl rfl (fun k hk => by omega) P2.out.1.row HQ.out.1 (Below.refl _ _) (by omega) (by have := HQ.out.2.1; omega) ?_
       intro v5 w5 hown5 hB5 hg5 hat5
       rw [HQ.out.2.2.1] at hown5
       obtain ⟨A5, c5, rfl, hc5, hC5⟩ := Kd.R_reads hown5
       have hcap := R_cap hown5
       generalize hm5 : (List.drop (bl false * (t.length / bl false)) (t ++ padOf false t.length)).length = m5 at hown5 hat5 hC5 hc5 ⊢
       have P5 := Aside0.mk (And.intro hown5 (And.intro hg5 (And.intro hat5 (And.intro hC5 hm5))))
       clear hown5 hB5 hg5 hat5 hC5 hm5)
    | (go_at_call 86
       have hp5 : w5.heap[p1]? = some (.cells (hashV (shV false) (t.length : Nat) (.slice Ar lr cr) (W32 false K S (t ++ padOf false t.length) (t.length / bl false)) (W64 false K S (t ++ padOf false t.length) (t.length / bl false))) 109 (0, 0)) := by
         rw [W32_congr false K S t _ _ HQ.out.2.2.2.2.1, W64_congr false K S t _ _ HQ.out.2.2.2.2.1]
         exact (P5.out.2.1.block p1 hsz2 (fun e => P2.out.1.row.1 p1 e.symm rfl)).trans P2.out.1.cells
       have hK5 : ∀ i, i < 80 → w5.cell? ⟨1, i, none⟩ = some (.int .u64 (K.getD i 0)) := fun i hi => (Fr.of_grown P5.out.2.1).cell ((HH.out.2.below P2.out.2 (by omega) (by omega)).k i hi) (fun e => by have h : base ≤ 1 := Kd.R_base P2.out.1.row _ e.symm; omega)
       refine (take_c false p1 (t.length / bl false) (t.length : Nat) (.slice Ar lr cr) A5 m5 c5 (t ++ padOf false t.length) K S w5 HQ.out.2.2.2.1 (P5.out.2.2.2.2.symm.trans (List.length_drop ..)) hp5 P5.out.2.2.2.1 hc5 hcap (fun hp ad e => by subst e; exact P5.out.1.1 ad.block rfl) HQ.out.2.2.2.2.2.1 hK5 (by omega)).mono ?_
       rintro e w6 ⟨A6, c6, rfl, hc6, hC6, ha6, hp6, hF6⟩
       have hB5 : Below w.heap.size w w5 := Fr.below P2.out.2 P2.out.2.size (fun i hi => hv1 i hi.symm) (Fr.of_grown P5.out.2.1)
       have hB6 : Below w.heap.size w w6 := Fr.below hB5 hB5.size (fun i hi => by rw [show i = p1 from hi]; exact hp1) hF6
       clear hC6 ha6 hF6 hc6 hp5 hK5 hB5
       have P6 := Aside0.mk (And.intro hp6 hB6)
       clear hp6 hB6
       have c0 : w6.cell? ⟨p1, 0, none⟩ = some (.int .i64 4) := (blk_cell P6.out.1 0).trans rfl))
  obtain ⟨z0, z1, z2, z3, z4, z5, z6, z7, hz⟩ := eight_of (W32_length false K S (t ++ padOf false t.length) ((t ++ padOf false t.length).length / bl false))
  obtain ⟨y0, y1, y2, y3, y4, y5, y6, y7, hy⟩ := eight_of (W64_length false K S (t ++ padOf false t.length) ((t ++ padOf false t.length).length / bl false))
  rw [hz, hy] at P6
  have P7 : Aside0 (TellP32 w p1 t.length (.slice Ar lr cr) [y0, y1, y2, y3, y4, y5, y6, y7] [z0, z1, z2, z3, z4, z5, z6, z7] w6) := ⟨P6.out⟩
  have HD : Aside0 (digest false K S t = tell32 [z0, z1, z2, z3, z4, z5, z6, z7] 8) := ⟨by unfold digest; rw [← hz]⟩
  have HT : Aside0 (∀ w', Calls Tryd.prog 89 #[.agg #[.int .i64 4, .int .i64 32, .int .i64 64, .int .i64 7, .int .i64 18, .int .i64 3, .int .i64 17, .int .i64 19, .int .i64 10, .int .i64 2, .int .i64 13, .int .i64 22, .int .i64 6, .int .i64 11, .int .i64 25], .agg #[.int .u32 z0, .int .u32 z1, .int .u32 z2, .int .u32 z3, .int .u32 z4, .int .u32 z5, .int .u32 z6, .int .u32 z7]] w' fun e w'' => ∃ v, e = .returned v ∧ w''.ownsRow w'.heap.size 5 1 v (tell32 [z0, z1, z2, z3, z4, z5, z6, z7] 8).length (nums .u8 (tell32 [z0, z1, z2, z3, z4, z5, z6, z7] 8)) ∧ Below w'.heap.size w' w'') := ⟨fun w' => tell32_c [z0, z1, z2, z3, z4, z5, z6, z7] rfl w'⟩
  generalize tell32 [z0, z1, z2, z3, z4, z5, z6, z7] 8 = dg at HD HT
  clear P6 c0 P5 HQ hz hy
  go_region_held3 (fun w' => TellP32 w p1 t.length (.slice Ar lr cr) [y0, y1, y2, y3, y4, y5, y6, y7] [z0, z1, z2, z3, z4, z5, z6, z7] w' ∧ w'.cell? ⟨p1, 0, none⟩ = some (.int .i64 4) ∧ w'.cell? ⟨p1, 1, none⟩ = some (.int .i64 32) ∧ w'.cell? ⟨p1, 2, none⟩ = some (.int .i64 64) ∧ w'.cell? ⟨p1, 3, none⟩ = some (.int .i64 7) ∧ w'.cell? ⟨p1, 4, none⟩ = some (.int .i64 18) ∧ w'.cell? ⟨p1, 5, none⟩ = some (.int .i64 3) ∧ w'.cell? ⟨p1, 6, none⟩ = some (.int .i64 17) ∧ w'.cell? ⟨p1, 7, none⟩ = some (.int .i64 19) ∧ w'.cell? ⟨p1, 8, none⟩ = some (.int .i64 10) ∧ w'.cell? ⟨p1, 9, none⟩ = some (.int .i64 2) ∧ w'.cell? ⟨p1, 10, none⟩ = some (.int .i64 13) ∧ w'.cell? ⟨p1, 11, none⟩ = some (.int .i64 22) ∧ w'.cell? ⟨p1, 12, none⟩ = some (.int .i64 6) ∧ w'.cell? ⟨p1, 13, none⟩ = some (.int .i64 11) ∧ w'.cell? ⟨p1, 14, none⟩ = some (.int .i64 25) ∧ w'.cell? ⟨p1, 17, none⟩ = some (.int .u32 z0) ∧ w'.cell? ⟨p1, 18, none⟩ = some (.int .u32 z1) ∧ w'.cell? ⟨p1, 19, none⟩ = some (.int .u32 z2) ∧ w'.cell? ⟨p1, 20, none⟩ = some (.int .u32 z3) ∧ w'.cell? ⟨p1, 21, none⟩ = some (.int .u32 z4) ∧ w'.cell? ⟨p1, 22, none⟩ = some (.int .u32 z5) ∧ w'.cell? ⟨p1, 23, none⟩ = some (.int .u32 z6) ∧ w'.cell? ⟨p1, 24, none⟩ = some (.int .u32 z7))
    (first | exact TellP32.cells P7.out.drew | exact TellP32.cells P7.out | exact TellP32.cells (TellP32.below P7.out.drew hb) | (go_split_ands; first | exact TellP32.cells (TellP32.below (by assumption) hb)))
    (first | (go_at_call 89; refine (HT.out _).mono ?_; rintro e w8 ⟨v8, rfl, ho8, hb⟩))
  go_split_ands
  have P8 : Aside0 (TellP32 w p1 t.length (.slice Ar lr cr) [y0, y1, y2, y3, y4, y5, y6, y7] [z0, z1, z2, z3, z4, z5, z6, z7] w8) := ⟨by assumption⟩
  go_wp2
  go_ret
  refine ⟨v8, rfl, ?_, P8.out.2⟩
  rw [HD.out]
  exact R_weaken (Kd.R_of_own (enc := Value.int .u8) (h1 := fun _ => rfl) ho8 (fun _ _ => trivial)) (fun i hi => by have h1 := World.ownsRow.lt ho8 i hi; have h2 := P7.out.2.size; have h3 : w6.heap.size ≤ i := h1.1; omega) (fun _ _ => trivial)
set_option maxRecDepth 100000 in
set_option maxHeartbeats 1000000 in
theorem new32_c (K S : List Int) (w : World) (L : Laid K S w) (h0 : 1 < w.heap.size) (h1 : 0 < w.heap.size) :
    Calls Tryd.prog 76 #[.int .i64 256] w fun e w' => ∃ p, e = .returned (.tuple #[.pointer (some ⟨p, 0, none⟩), .int .i64 0]) ∧ HashAt w.heap.size false K S [] p (.slice none 0 0) w' ∧ Below w.heap.size w w' := by
  go_enter Tryd.func76, Tryd.ntmps76
  go_wp2_with (first
    | (go_at_call 84; refine (of256_c _).mono ?_; rintro e w1 ⟨rfl, hb⟩; have HB := Aside0.mk hb; clear hb)
    | (refine wpList_store_row rfl 102 (.tmp 4) (.tmp 10) rfl w1.heap.size narrowV (by rfl) (by rfl) 102 _ (new1 _ _) (by kernel_rfl) (by rfl) narrowV_one ?_; rw [World.setRow_alloc_new])
    | (refine wpList_load_row rfl 102 (.tmp 4) rfl w1.heap.size (by rfl) 102 narrowV (0, 0) _ (new1 _ _) Tryd.underlying102 rfl (by kernel_rfl) ?_)
    | (go_at_call 85
       refine (reset_c (w1.heap.size + 1) narrowV 0 (.slice none 0 0) (List.replicate 8 0) (List.replicate 8 0) S _ rfl rfl rfl ((new2 w1 _ _).trans (by kernel_rfl)) (Laid.below (base := w.heap.size) L (below_alloc (below_alloc HB.out _) _) h0 h1).s (by have := HB.out.size; omega)).mono ?_
       rintro e w2 ⟨rfl, hp2, hF2⟩
       have P2 := Aside0.mk (And.intro hp2 (Fr.below (below_alloc (below_alloc HB.out _) _) (by have := HB.out.size; simp only [World.size_alloc]; omega) (fun i hi => by have := HB.out.size; have h3 : i = w1.heap.size + 1 := hi; omega) hF2))
       have HS1 := HB.out.size
       clear hp2 hF2))
  go_ret2
  have e0 : ([] : List Int).length / bl false = 0 := Nat.zero_div _
  refine ⟨w1.heap.size + 1, rfl, ⟨?_, ?_, by omega, h0, h1, by simp, fun i => by simp⟩, P2.out.2⟩
  · rw [e0, W32_none, W64_none]
    exact P2.out.1
  rw [List.drop_nil]
  exact Kd.R_nil _ _ _ _ _
end Go.Proofs.YtdpdmmbdoeefbaaDoor.H
