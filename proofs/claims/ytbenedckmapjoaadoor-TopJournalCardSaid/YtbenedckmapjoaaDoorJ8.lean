/- Sum of either width. -/
import Derived.Test.YtbenedckmapjoaaDoorJ7
namespace Go.Proofs.YtbenedckmapjoaaDoor.H
open Go.RowKit Go.Proofs.YtbenedckmapjoaaDoorW.PrintWords
theorem HashAt.below {base : Nat} {wide : Bool} {K S t : List Int} {p : Nat} {v : Value} {w w' : World} (h : HashAt base wide K S t p v w) (hb : Below w.heap.size w w') : HashAt base wide K S t p v w' :=
  ⟨blk_below h.cells hb, R_moved h.row (fun i hi => hb.block i (Kd.R_lt h.row i hi)), h.hbase, h.g0, h.g1, h.most, h.bytes⟩
def padOf (wide : Bool) (n : Int) : List Int := padS n (if wide then padLen64 n else padLen32 n) 8
/-- A text's digest. -/
def digest (wide : Bool) (K S t : List Int) : List Int := if wide then tell64 (W64 true K S (t ++ padOf true t.length) ((t ++ padOf true t.length).length / bl true)) 8 else tell32 (W32 false K S (t ++ padOf false t.length) ((t ++ padOf false t.length).length / bl false)) 8
theorem set_bytes {l : List Int} (h : ∀ x ∈ l, 0 ≤ x ∧ x < 256) (i : Nat) (v : Int) (hv : 0 ≤ v ∧ v < 256) : ∀ x ∈ l.set i v, 0 ≤ x ∧ x < 256 := fun x hx => by
  rcases List.mem_or_eq_of_mem_set hx with h1 | h1
  · exact h x h1
  · rw [h1]; exact hv
theorem padS_bytes (n : Int) (len : Nat) : ∀ i, ∀ x ∈ padS n len i, 0 ≤ x ∧ x < 256
  | 0 => set_bytes (fun x hx => by rw [List.mem_replicate] at hx; omega) _ _ (by omega)
  | i + 1 => set_bytes (padS_bytes n len i) _ _ (by omega)
theorem getD_bytes {l : List Int} (h : ∀ x ∈ l, 0 ≤ x ∧ x < 256) (i : Nat) : 0 ≤ l.getD i 0 ∧ l.getD i 0 < 256 := by
  rw [List.getD_eq_getElem?_getD]
  cases hx : l[i]? with
  | none => simp
  | some x => exact h x (List.mem_of_getElem? hx)
theorem padOf_length (wide : Bool) (n : Int) : (padOf wide n).length ≤ 145 := by
  unfold padOf
  rw [padS_length]
  cases wide <;> simp [padLen32, padLen64] <;> omega
/-- The state between copying and taking. -/
def SumP32 (base : Nat) (K S t : List Int) (p : Nat) (v : Value) (w w' : World) : Prop := HashAt base false K S t p v w' ∧ Below w.heap.size w w'
section
variable {base : Nat} {K S t : List Int} {p : Nat} {v : Value} {w w1 w2 : World}
theorem SumP32.drew (h : SumP32 base K S t p v w w1) : SumP32 base K S t p v w w1.drew := ⟨h.1.below (below_drew1 (Below.refl _ _)), below_drew1 h.2⟩
theorem SumP32.below (h : SumP32 base K S t p v w w1) (hb : Below w1.heap.size w1 w2) : SumP32 base K S t p v w w2 := ⟨h.1.below hb, below_step h.2 hb⟩
theorem SumP32.cells (h : SumP32 base K S t p v w w1) : SumP32 base K S t p v w w1 ∧ w1.cell? ⟨p, 15, none⟩ = some (.int .i64 t.length) ∧ w1.cell? ⟨p, 0, none⟩ = some (.int .i64 4) :=
  ⟨h, (blk_cell h.1.cells 15).trans (hash_at15 _ _ _ _ _ rfl), (blk_cell h.1.cells 0).trans rfl⟩
end
/-- The state when the words are told. -/
def TellP32 (w : World) (p : Nat) (n : Int) (rest : Value) (y z : List Int) (w' : World) : Prop := w'.heap[p]? = some (.cells (hashV narrowV n rest z y) 187 (0, 0)) ∧ Below w.heap.size w w'
section
variable {p : Nat} {n : Int} {rest : Value} {w w1 w2 : World} {y z : List Int}
theorem TellP32.drew (h : TellP32 w p n rest y z w1) : TellP32 w p n rest y z w1.drew := ⟨h.1, below_drew1 h.2⟩
theorem TellP32.below (h : TellP32 w p n rest y z w1) (hb : Below w1.heap.size w1 w2) : TellP32 w p n rest y z w2 := ⟨blk_below h.1 hb, below_step h.2 hb⟩
theorem TellP32.cells {z0 z1 z2 z3 z4 z5 z6 z7 y0 y1 y2 y3 y4 y5 y6 y7 : Int} (h : TellP32 w p n rest [y0, y1, y2, y3, y4, y5, y6, y7] [z0, z1, z2, z3, z4, z5, z6, z7] w1) : TellP32 w p n rest [y0, y1, y2, y3, y4, y5, y6, y7] [z0, z1, z2, z3, z4, z5, z6, z7] w1 ∧ w1.cell? ⟨p, 0, none⟩ = some (.int .i64 4) ∧ w1.cell? ⟨p, 1, none⟩ = some (.int .i64 32) ∧ w1.cell? ⟨p, 2, none⟩ = some (.int .i64 64) ∧ w1.cell? ⟨p, 3, none⟩ = some (.int .i64 7) ∧ w1.cell? ⟨p, 4, none⟩ = some (.int .i64 18) ∧ w1.cell? ⟨p, 5, none⟩ = some (.int .i64 3) ∧ w1.cell? ⟨p, 6, none⟩ = some (.int .i64 17) ∧ w1.cell? ⟨p, 7, none⟩ = some (.int .i64 19) ∧ w1.cell? ⟨p, 8, none⟩ = some (.int .i64 10) ∧ w1.cell? ⟨p, 9, none⟩ = some (.int .i64 2) ∧ w1.cell? ⟨p, 10, none⟩ = some (.int .i64 13) ∧ w1.cell? ⟨p, 11, none⟩ = some (.int .i64 22) ∧ w1.cell? ⟨p, 12, none⟩ = some (.int .i64 6) ∧ w1.cell? ⟨p, 13, none⟩ = some (.int .i64 11) ∧ w1.cell? ⟨p, 14, none⟩ = some (.int .i64 25) ∧ w1.cell? ⟨p, 17, none⟩ = some (.int .u32 z0) ∧ w1.cell? ⟨p, 18, none⟩ = some (.int .u32 z1) ∧ w1.cell? ⟨p, 19, none⟩ = some (.int .u32 z2) ∧ w1.cell? ⟨p, 20, none⟩ = some (.int .u32 z3) ∧ w1.cell? ⟨p, 21, none⟩ = some (.int .u32 z4) ∧ w1.cell? ⟨p, 22, none⟩ = some (.int .u32 z5) ∧ w1.cell? ⟨p, 23, none⟩ = some (.int .u32 z6) ∧ w1.cell? ⟨p, 24, none⟩ = some (.int .u32 z7) :=
  ⟨h, (blk_cell h.1 0).trans rfl, (blk_cell h.1 1).trans rfl, (blk_cell h.1 2).trans rfl, (blk_cell h.1 3).trans rfl, (blk_cell h.1 4).trans rfl, (blk_cell h.1 5).trans rfl, (blk_cell h.1 6).trans rfl, (blk_cell h.1 7).trans rfl, (blk_cell h.1 8).trans rfl, (blk_cell h.1 9).trans rfl, (blk_cell h.1 10).trans rfl, (blk_cell h.1 11).trans rfl, (blk_cell h.1 12).trans rfl, (blk_cell h.1 13).trans rfl, (blk_cell h.1 14).trans rfl, (blk_cell h.1 17).trans rfl, (blk_cell h.1 18).trans rfl, (blk_cell h.1 19).trans rfl, (blk_cell h.1 20).trans rfl, (blk_cell h.1 21).trans rfl, (blk_cell h.1 22).trans rfl, (blk_cell h.1 23).trans rfl, (blk_cell h.1 24).trans rfl⟩
end
set_option maxRecDepth 100000 in
set_option maxHeartbeats 1000000 in
theorem sum32_c (base : Nat) (K S t : List Int) (p : Nat) (v : Value) (w : World) (H : HashAt base false K S t p v w) (L : Laid K S w) :
    Calls Tryd.prog 100 #[.pointer (some ⟨p, 0, none⟩)] w fun e w' => ∃ r, e = .returned r ∧ Kd.R (Kd.int .u8) 5 w' w.heap.size (fun _ => True) r (digest false K S t) ∧ Below w.heap.size w w' := by
  have hps := blk_lt H.cells
  have hB := H.hbase
  have hg0 := H.g0
  have hg1 := H.g1
  have hmost := H.most
  have HH := Aside0.mk (And.intro H L)
  clear H L
  go_enter Tryd.func100, Tryd.ntmps100
  go_upto_region 4 with (go_at_call 130; refine (copy_c base false K S t p v _ HH.out.1).mono ?_; rintro e w1 ⟨p1, v1, rfl, hH1, hp1, hv1, hb1⟩; have P1 : Aside0 (SumP32 base K S t p1 v1 w w1) := ⟨⟨hH1, hb1⟩⟩; clear hH1 hb1)
  go_region_held3 (fun w' => SumP32 base K S t p1 v1 w w' ∧ w'.cell? ⟨p1, 15, none⟩ = some (.int .i64 t.length) ∧ w'.cell? ⟨p1, 0, none⟩ = some (.int .i64 4))
    (first | exact SumP32.cells P1.out.drew | exact SumP32.cells P1.out | exact SumP32.cells (SumP32.below P1.out.drew hb) | (go_split_ands; first | exact SumP32.cells (SumP32.below (by assumption) hb)))
    (first | (go_at_call 131; refine (Pad256_c t.length (by omega) (by omega) _).mono ?_; rintro e w2 ⟨vp, rfl, hop, hb⟩))
  go_split_ands
  have P2 : Aside0 (SumP32 base K S t p1 v1 w w2) := ⟨by assumption⟩
  have hpd : Kd.R (Kd.int .u8) 5 w2 w.heap.size (fun _ => True) vp (padOf false t.length) := R_weaken (Kd.R_of_own (enc := Value.int .u8) (h1 := fun _ => rfl) hop (fun _ _ => trivial)) (fun i hi => by have h1 := World.ownsRow.lt hop i hi; have h2 := P1.out.2.size; have h3 : w1.heap.size ≤ i := h1.1; omega) (fun _ _ => trivial)
  clear hop hb P1
  obtain ⟨Ap, cp, rfl, hcp, hCp⟩ := Kd.R_reads hpd
  have hpl := padOf_length false t.length
  generalize hlp : (padOf false t.length).length = lp at hcp hCp hpd hpl ⊢
  obtain ⟨Ar, cr, hvr, hcr, hCr⟩ := Kd.R_reads P2.out.1.row
  have hrl : (t.drop (bl false * (t.length / bl false))).length ≤ 1048576 := by rw [List.length_drop]; omega
  generalize hlr : (t.drop (bl false * (t.length / bl false))).length = lr at hvr hcr hCr hrl
  subst hvr
  have c16 : w2.cell? ⟨p1, 16, none⟩ = some (.slice Ar lr cr) := (blk_cell P2.out.1.cells 16).trans (hash_at16 _ _ _ _ _ rfl)
  have hsz2 := blk_lt P2.out.1.cells
  have hB1 := P2.out.1.hbase
  have hqb := bl_le false t.length
  have hdr : t.drop (bl false * (t.length / bl false)) ++ padOf false t.length = (t ++ padOf false t.length).drop (bl false * (t.length / bl false)) := (List.drop_append_of_le_length hqb).symm
  have hq2 : bl false * (t.length / bl false) ≤ (t ++ padOf false t.length).length := by rw [List.length_append]; omega
  have hbd2 := bytes_append P2.out.1.bytes (getD_bytes (padS_bytes t.length (if false then padLen64 t.length else padLen32 t.length) 8))
  have HQ := Aside0.mk (And.intro hCp (And.intro hlr (And.intro hdr (And.intro hq2 (And.intro hqb (And.intro hbd2 hlp))))))
  clear hCp hlr hdr hq2 hqb hbd2 hCr hpd hlp
  go_upto_region 7 with (first
    | (at_builtin; refine Kd.R_append_row (Value.int .u8) 0 (w0 := w2) base rfl (.tmp 28) (.tmp 29) 30 5 (.int .u8 0) 1 rfl Tryd.underlying30 info_u8 rfl (by decide) (.slice Ar lr cr) (t.drop (bl false * (t.length / bl false))) (padOf false t.length) Ap lp cp (fun k => k ≠ p1) rfl rfl (fun k hk => by omega) P2.out.1.row HQ.out.1 (Below.refl _ _) (by omega) (by have := HQ.out.2.1; omega) ?_
       intro v5 w5 hown5 hB5 hg5 hat5
       rw [HQ.out.2.2.1] at hown5
       obtain ⟨A5, c5, rfl, hc5, hC5⟩ := Kd.R_reads hown5
       have hcap := R_cap hown5
       generalize hm5 : (List.drop (bl false * (t.length / bl false)) (t ++ padOf false t.length)).length = m5 at hown5 hat5 hC5 hc5 ⊢
       have P5 := Aside0.mk (And.intro hown5 (And.intro hg5 (And.intro hat5 (And.intro hC5 hm5))))
       clear hown5 hB5 hg5 hat5 hC5 hm5)
    | (go_at_call 129
       have hp5 : w5.heap[p1]? = some (.cells (hashV (shV false) (t.length : Nat) (.slice Ar lr cr) (W32 false K S (t ++ padOf false t.length) (t.length / bl false)) (W64 false K S (t ++ padOf false t.length) (t.length / bl false))) 187 (0, 0)) := by
         rw [W32_congr false K S t _ _ HQ.out.2.2.2.2.1, W64_congr false K S t _ _ HQ.out.2.2.2.2.1]
         exact (P5.out.2.1.block p1 hsz2 (fun e => P2.out.1.row.1 p1 e.symm rfl)).trans P2.out.1.cells
       have hK5 : ∀ i, i < 80 → w5.cell? ⟨8, i, none⟩ = some (.int .u64 (K.getD i 0)) := fun i hi => (Fr.of_grown P5.out.2.1).cell ((HH.out.2.below P2.out.2 (by omega) (by omega)).k i hi) (fun e => by have h : base ≤ 8 := Kd.R_base P2.out.1.row _ e.symm; omega)
       refine (take_c false p1 (t.length / bl false) (t.length : Nat) (.slice Ar lr cr) A5 m5 c5 (t ++ padOf false t.length) K S w5 HQ.out.2.2.2.1 (P5.out.2.2.2.2.symm.trans (List.length_drop ..)) hp5 P5.out.2.2.2.1 hc5 hcap (fun hp ad e => by subst e; exact P5.out.1.1 ad.block rfl) HQ.out.2.2.2.2.2.1 hK5 (by omega)).mono ?_
       rintro e w6 ⟨A6, c6, rfl, hc6, hC6, ha6, hp6, hF6⟩
       have hB5 : Below w.heap.size w w5 := Fr.below P2.out.2 P2.out.2.size (fun i hi => hv1 i hi.symm) (Fr.of_grown P5.out.2.1)
       have hB6 : Below w.heap.size w w6 := Fr.below hB5 hB5.size (fun i hi => by rw [show i = p1 from hi]; exact hp1) hF6
       clear hC6 ha6 hF6 hc6 hp5 hK5 hB5
       have P6 := Aside0.mk (And.intro hp6 hB6)
       clear hp6 hB6
       have c0 : w6.cell? ⟨p1, 0, none⟩ = some (.int .i64 4) := (blk_cell P6.out.1 0).trans rfl))
  obtain ⟨z0, z1, z2, z3, z4, z5, z6, z7, hz⟩ := eight_of (W32_length false K S (t ++ padOf false t.length) ((t ++ padOf false t.length).length / bl false))
  obtain ⟨y0, y1, y2, y3, y4, y5, y6, y7, hy⟩ := eight_of (W64_length false K S (t ++ padOf false t.length) ((t ++ padOf false t.length).length / bl false))
  rw [hz, hy] at P6
  have P7 : Aside0 (TellP32 w p1 t.length (.slice Ar lr cr) [y0, y1, y2, y3, y4, y5, y6, y7] [z0, z1, z2, z3, z4, z5, z6, z7] w6) := ⟨P6.out⟩
  have HD : Aside0 (digest false K S t = tell32 [z0, z1, z2, z3, z4, z5, z6, z7] 8) := ⟨by unfold digest; rw [← hz]; rfl⟩
  have HT : Aside0 (∀ w', Calls Tryd.prog 132 #[.agg #[.int .i64 4, .int .i64 32, .int .i64 64, .int .i64 7, .int .i64 18, .int .i64 3, .int .i64 17, .int .i64 19, .int .i64 10, .int .i64 2, .int .i64 13, .int .i64 22, .int .i64 6, .int .i64 11, .int .i64 25], .agg #[.int .u32 z0, .int .u32 z1, .int .u32 z2, .int .u32 z3, .int .u32 z4, .int .u32 z5, .int .u32 z6, .int .u32 z7]] w' fun e w'' => ∃ v, e = .returned v ∧ w''.ownsRow w'.heap.size 5 1 v (tell32 [z0, z1, z2, z3, z4, z5, z6, z7] 8).length (nums .u8 (tell32 [z0, z1, z2, z3, z4, z5, z6, z7] 8)) ∧ Below w'.heap.size w' w'') := ⟨fun w' => tell32_c [z0, z1, z2, z3, z4, z5, z6, z7] rfl w'⟩
  generalize tell32 [z0, z1, z2, z3, z4, z5, z6, z7] 8 = dg at HD HT
  clear P6 c0 P5 HQ hz hy
  go_region_held3 (fun w' => TellP32 w p1 t.length (.slice Ar lr cr) [y0, y1, y2, y3, y4, y5, y6, y7] [z0, z1, z2, z3, z4, z5, z6, z7] w' ∧ w'.cell? ⟨p1, 0, none⟩ = some (.int .i64 4) ∧ w'.cell? ⟨p1, 1, none⟩ = some (.int .i64 32) ∧ w'.cell? ⟨p1, 2, none⟩ = some (.int .i64 64) ∧ w'.cell? ⟨p1, 3, none⟩ = some (.int .i64 7) ∧ w'.cell? ⟨p1, 4, none⟩ = some (.int .i64 18) ∧ w'.cell? ⟨p1, 5, none⟩ = some (.int .i64 3) ∧ w'.cell? ⟨p1, 6, none⟩ = some (.int .i64 17) ∧ w'.cell? ⟨p1, 7, none⟩ = some (.int .i64 19) ∧ w'.cell? ⟨p1, 8, none⟩ = some (.int .i64 10) ∧ w'.cell? ⟨p1, 9, none⟩ = some (.int .i64 2) ∧ w'.cell? ⟨p1, 10, none⟩ = some (.int .i64 13) ∧ w'.cell? ⟨p1, 11, none⟩ = some (.int .i64 22) ∧ w'.cell? ⟨p1, 12, none⟩ = some (.int .i64 6) ∧ w'.cell? ⟨p1, 13, none⟩ = some (.int .i64 11) ∧ w'.cell? ⟨p1, 14, none⟩ = some (.int .i64 25) ∧ w'.cell? ⟨p1, 17, none⟩ = some (.int .u32 z0) ∧ w'.cell? ⟨p1, 18, none⟩ = some (.int .u32 z1) ∧ w'.cell? ⟨p1, 19, none⟩ = some (.int .u32 z2) ∧ w'.cell? ⟨p1, 20, none⟩ = some (.int .u32 z3) ∧ w'.cell? ⟨p1, 21, none⟩ = some (.int .u32 z4) ∧ w'.cell? ⟨p1, 22, none⟩ = some (.int .u32 z5) ∧ w'.cell? ⟨p1, 23, none⟩ = some (.int .u32 z6) ∧ w'.cell? ⟨p1, 24, none⟩ = some (.int .u32 z7))
    (first | exact TellP32.cells P7.out.drew | exact TellP32.cells P7.out | exact TellP32.cells (TellP32.below P7.out.drew hb) | (go_split_ands; first | exact TellP32.cells (TellP32.below (by assumption) hb)))
    (first | (go_at_call 132; refine (HT.out _).mono ?_; rintro e w8 ⟨v8, rfl, ho8, hb⟩))
  go_split_ands
  have P8 : Aside0 (TellP32 w p1 t.length (.slice Ar lr cr) [y0, y1, y2, y3, y4, y5, y6, y7] [z0, z1, z2, z3, z4, z5, z6, z7] w8) := ⟨by assumption⟩
  go_wp2
  go_ret
  refine ⟨v8, rfl, ?_, P8.out.2⟩
  rw [HD.out]
  exact R_weaken (Kd.R_of_own (enc := Value.int .u8) (h1 := fun _ => rfl) ho8 (fun _ _ => trivial)) (fun i hi => by have h1 := World.ownsRow.lt ho8 i hi; have h2 := P7.out.2.size; have h3 : w6.heap.size ≤ i := h1.1; omega) (fun _ _ => trivial)
end Go.Proofs.YtbenedckmapjoaaDoor.H
namespace Go.Proofs.YtbenedckmapjoaaDoor.H
open Go.RowKit Go.Proofs.YtbenedckmapjoaaDoorW.PrintWords
/-- The state between copying and taking. -/
def SumP64 (base : Nat) (K S t : List Int) (p : Nat) (v : Value) (w w' : World) : Prop := HashAt base true K S t p v w' ∧ Below w.heap.size w w'
section
variable {base : Nat} {K S t : List Int} {p : Nat} {v : Value} {w w1 w2 : World}
theorem SumP64.drew (h : SumP64 base K S t p v w w1) : SumP64 base K S t p v w w1.drew := ⟨h.1.below (below_drew1 (Below.refl _ _)), below_drew1 h.2⟩
theorem SumP64.below (h : SumP64 base K S t p v w w1) (hb : Below w1.heap.size w1 w2) : SumP64 base K S t p v w w2 := ⟨h.1.below hb, below_step h.2 hb⟩
theorem SumP64.cells (h : SumP64 base K S t p v w w1) : SumP64 base K S t p v w w1 ∧ w1.cell? ⟨p, 15, none⟩ = some (.int .i64 t.length) ∧ w1.cell? ⟨p, 0, none⟩ = some (.int .i64 8) :=
  ⟨h, (blk_cell h.1.cells 15).trans (hash_at15 _ _ _ _ _ rfl), (blk_cell h.1.cells 0).trans rfl⟩
end
/-- The state when the words are told. -/
def TellP64 (w : World) (p : Nat) (n : Int) (rest : Value) (y z : List Int) (w' : World) : Prop := w'.heap[p]? = some (.cells (hashV wideV n rest y z) 187 (0, 0)) ∧ Below w.heap.size w w'
section
variable {p : Nat} {n : Int} {rest : Value} {w w1 w2 : World} {y z : List Int}
theorem TellP64.drew (h : TellP64 w p n rest y z w1) : TellP64 w p n rest y z w1.drew := ⟨h.1, below_drew1 h.2⟩
theorem TellP64.below (h : TellP64 w p n rest y z w1) (hb : Below w1.heap.size w1 w2) : TellP64 w p n rest y z w2 := ⟨blk_below h.1 hb, below_step h.2 hb⟩
theorem TellP64.cells {z0 z1 z2 z3 z4 z5 z6 z7 y0 y1 y2 y3 y4 y5 y6 y7 : Int} (h : TellP64 w p n rest [y0, y1, y2, y3, y4, y5, y6, y7] [z0, z1, z2, z3, z4, z5, z6, z7] w1) : TellP64 w p n rest [y0, y1, y2, y3, y4, y5, y6, y7] [z0, z1, z2, z3, z4, z5, z6, z7] w1 ∧ w1.cell? ⟨p, 0, none⟩ = some (.int .i64 8) ∧ w1.cell? ⟨p, 1, none⟩ = some (.int .i64 64) ∧ w1.cell? ⟨p, 2, none⟩ = some (.int .i64 80) ∧ w1.cell? ⟨p, 3, none⟩ = some (.int .i64 1) ∧ w1.cell? ⟨p, 4, none⟩ = some (.int .i64 8) ∧ w1.cell? ⟨p, 5, none⟩ = some (.int .i64 7) ∧ w1.cell? ⟨p, 6, none⟩ = some (.int .i64 19) ∧ w1.cell? ⟨p, 7, none⟩ = some (.int .i64 61) ∧ w1.cell? ⟨p, 8, none⟩ = some (.int .i64 6) ∧ w1.cell? ⟨p, 9, none⟩ = some (.int .i64 28) ∧ w1.cell? ⟨p, 10, none⟩ = some (.int .i64 34) ∧ w1.cell? ⟨p, 11, none⟩ = some (.int .i64 39) ∧ w1.cell? ⟨p, 12, none⟩ = some (.int .i64 14) ∧ w1.cell? ⟨p, 13, none⟩ = some (.int .i64 18) ∧ w1.cell? ⟨p, 14, none⟩ = some (.int .i64 41) ∧ w1.cell? ⟨p, 25, none⟩ = some (.int .u64 z0) ∧ w1.cell? ⟨p, 26, none⟩ = some (.int .u64 z1) ∧ w1.cell? ⟨p, 27, none⟩ = some (.int .u64 z2) ∧ w1.cell? ⟨p, 28, none⟩ = some (.int .u64 z3) ∧ w1.cell? ⟨p, 29, none⟩ = some (.int .u64 z4) ∧ w1.cell? ⟨p, 30, none⟩ = some (.int .u64 z5) ∧ w1.cell? ⟨p, 31, none⟩ = some (.int .u64 z6) ∧ w1.cell? ⟨p, 32, none⟩ = some (.int .u64 z7) :=
  ⟨h, (blk_cell h.1 0).trans rfl, (blk_cell h.1 1).trans rfl, (blk_cell h.1 2).trans rfl, (blk_cell h.1 3).trans rfl, (blk_cell h.1 4).trans rfl, (blk_cell h.1 5).trans rfl, (blk_cell h.1 6).trans rfl, (blk_cell h.1 7).trans rfl, (blk_cell h.1 8).trans rfl, (blk_cell h.1 9).trans rfl, (blk_cell h.1 10).trans rfl, (blk_cell h.1 11).trans rfl, (blk_cell h.1 12).trans rfl, (blk_cell h.1 13).trans rfl, (blk_cell h.1 14).trans rfl, (blk_cell h.1 25).trans rfl, (blk_cell h.1 26).trans rfl, (blk_cell h.1 27).trans rfl, (blk_cell h.1 28).trans rfl, (blk_cell h.1 29).trans rfl, (blk_cell h.1 30).trans rfl, (blk_cell h.1 31).trans rfl, (blk_cell h.1 32).trans rfl⟩
end
set_option maxRecDepth 100000 in
set_option maxHeartbeats 1000000 in
theorem sum64_c (base : Nat) (K S t : List Int) (p : Nat) (v : Value) (w : World) (H : HashAt base true K S t p v w) (L : Laid K S w) :
    Calls Tryd.prog 100 #[.pointer (some ⟨p, 0, none⟩)] w fun e w' => ∃ r, e = .returned r ∧ Kd.R (Kd.int .u8) 5 w' w.heap.size (fun _ => True) r (digest true K S t) ∧ Below w.heap.size w w' := by
  have hps := blk_lt H.cells
  have hB := H.hbase
  have hg0 := H.g0
  have hg1 := H.g1
  have hmost := H.most
  have HH := Aside0.mk (And.intro H L)
  clear H L
  go_enter Tryd.func100, Tryd.ntmps100
  go_upto_region 4 with (go_at_call 130; refine (copy_c base true K S t p v _ HH.out.1).mono ?_; rintro e w1 ⟨p1, v1, rfl, hH1, hp1, hv1, hb1⟩; have P1 : Aside0 (SumP64 base K S t p1 v1 w w1) := ⟨⟨hH1, hb1⟩⟩; clear hH1 hb1)
  go_region_held3 (fun w' => SumP64 base K S t p1 v1 w w' ∧ w'.cell? ⟨p1, 15, none⟩ = some (.int .i64 t.length) ∧ w'.cell? ⟨p1, 0, none⟩ = some (.int .i64 8))
    (first | exact SumP64.cells P1.out.drew | exact SumP64.cells P1.out | exact SumP64.cells (SumP64.below P1.out.drew hb) | (go_split_ands; first | exact SumP64.cells (SumP64.below (by assumption) hb)))
    (first | (go_at_call 131; refine (Pad512_c t.length (by omega) (by omega) _).mono ?_; rintro e w2 ⟨vp, rfl, hop, hb⟩))
  go_split_ands
  have P2 : Aside0 (SumP64 base K S t p1 v1 w w2) := ⟨by assumption⟩
  have hpd : Kd.R (Kd.int .u8) 5 w2 w.heap.size (fun _ => True) vp (padOf true t.length) := R_weaken (Kd.R_of_own (enc := Value.int .u8) (h1 := fun _ => rfl) hop (fun _ _ => trivial)) (fun i hi => by have h1 := World.ownsRow.lt hop i hi; have h2 := P1.out.2.size; have h3 : w1.heap.size ≤ i := h1.1; omega) (fun _ _ => trivial)
  clear hop hb P1
  obtain ⟨Ap, cp, rfl, hcp, hCp⟩ := Kd.R_reads hpd
  have hpl := padOf_length true t.length
  generalize hlp : (padOf true t.length).length = lp at hcp hCp hpd hpl ⊢
  obtain ⟨Ar, cr, hvr, hcr, hCr⟩ := Kd.R_reads P2.out.1.row
  have hrl : (t.drop (bl true * (t.length / bl true))).length ≤ 1048576 := by rw [List.length_drop]; omega
  generalize hlr : (t.drop (bl true * (t.length / bl true))).length = lr at hvr hcr hCr hrl
  subst hvr
  have c16 : w2.cell? ⟨p1, 16, none⟩ = some (.slice Ar lr cr) := (blk_cell P2.out.1.cells 16).trans (hash_at16 _ _ _ _ _ rfl)
  have hsz2 := blk_lt P2.out.1.cells
  have hB1 := P2.out.1.hbase
  have hqb := bl_le true t.length
  have hdr : t.drop (bl true * (t.length / bl true)) ++ padOf true t.length = (t ++ padOf true t.length).drop (bl true * (t.length / bl true)) := (List.drop_append_of_le_length hqb).symm
  have hq2 : bl true * (t.length / bl true) ≤ (t ++ padOf true t.length).length := by rw [List.length_append]; omega
  have hbd2 := bytes_append P2.out.1.bytes (getD_bytes (padS_bytes t.length (if true then padLen64 t.length else padLen32 t.length) 8))
  have HQ := Aside0.mk (And.intro hCp (And.intro hlr (And.intro hdr (And.intro hq2 (And.intro hqb (And.intro hbd2 hlp))))))
  clear hCp hlr hdr hq2 hqb hbd2 hCr hpd hlp
  go_upto_region 8 with (first
    | (at_builtin; refine Kd.R_append_row (Value.int .u8) 0 (w0 := w2) base rfl (.tmp 28) (.tmp 29) 30 5 (.int .u8 0) 1 rfl Tryd.underlying30 info_u8 rfl (by decide) (.slice Ar lr cr) (t.drop (bl true * (t.length / bl true))) (padOf true t.length) Ap lp cp (fun k => k ≠ p1) rfl rfl (fun k hk => by omega) P2.out.1.row HQ.out.1 (Below.refl _ _) (by omega) (by have := HQ.out.2.1; omega) ?_
       intro v5 w5 hown5 hB5 hg5 hat5
       rw [HQ.out.2.2.1] at hown5
       obtain ⟨A5, c5, rfl, hc5, hC5⟩ := Kd.R_reads hown5
       have hcap := R_cap hown5
       generalize hm5 : (List.drop (bl true * (t.length / bl true)) (t ++ padOf true t.length)).length = m5 at hown5 hat5 hC5 hc5 ⊢
       have P5 := Aside0.mk (And.intro hown5 (And.intro hg5 (And.intro hat5 (And.intro hC5 hm5))))
       clear hown5 hB5 hg5 hat5 hC5 hm5)
    | (go_at_call 129
       have hp5 : w5.heap[p1]? = some (.cells (hashV (shV true) (t.length : Nat) (.slice Ar lr cr) (W32 true K S (t ++ padOf true t.length) (t.length / bl true)) (W64 true K S (t ++ padOf true t.length) (t.length / bl true))) 187 (0, 0)) := by
         rw [W32_congr true K S t _ _ HQ.out.2.2.2.2.1, W64_congr true K S t _ _ HQ.out.2.2.2.2.1]
         exact (P5.out.2.1.block p1 hsz2 (fun e => P2.out.1.row.1 p1 e.symm rfl)).trans P2.out.1.cells
       have hK5 : ∀ i, i < 80 → w5.cell? ⟨8, i, none⟩ = some (.int .u64 (K.getD i 0)) := fun i hi => (Fr.of_grown P5.out.2.1).cell ((HH.out.2.below P2.out.2 (by omega) (by omega)).k i hi) (fun e => by have h : base ≤ 8 := Kd.R_base P2.out.1.row _ e.symm; omega)
       refine (take_c true p1 (t.length / bl true) (t.length : Nat) (.slice Ar lr cr) A5 m5 c5 (t ++ padOf true t.length) K S w5 HQ.out.2.2.2.1 (P5.out.2.2.2.2.symm.trans (List.length_drop ..)) hp5 P5.out.2.2.2.1 hc5 hcap (fun hp ad e => by subst e; exact P5.out.1.1 ad.block rfl) HQ.out.2.2.2.2.2.1 hK5 (by omega)).mono ?_
       rintro e w6 ⟨A6, c6, rfl, hc6, hC6, ha6, hp6, hF6⟩
       have hB5 : Below w.heap.size w w5 := Fr.below P2.out.2 P2.out.2.size (fun i hi => hv1 i hi.symm) (Fr.of_grown P5.out.2.1)
       have hB6 : Below w.heap.size w w6 := Fr.below hB5 hB5.size (fun i hi => by rw [show i = p1 from hi]; exact hp1) hF6
       clear hC6 ha6 hF6 hc6 hp5 hK5 hB5
       have P6 := Aside0.mk (And.intro hp6 hB6)
       clear hp6 hB6
       have c0 : w6.cell? ⟨p1, 0, none⟩ = some (.int .i64 8) := (blk_cell P6.out.1 0).trans rfl))
  obtain ⟨z0, z1, z2, z3, z4, z5, z6, z7, hz⟩ := eight_of (W64_length true K S (t ++ padOf true t.length) ((t ++ padOf true t.length).length / bl true))
  obtain ⟨y0, y1, y2, y3, y4, y5, y6, y7, hy⟩ := eight_of (W32_length true K S (t ++ padOf true t.length) ((t ++ padOf true t.length).length / bl true))
  rw [hz, hy] at P6
  have P7 : Aside0 (TellP64 w p1 t.length (.slice Ar lr cr) [y0, y1, y2, y3, y4, y5, y6, y7] [z0, z1, z2, z3, z4, z5, z6, z7] w6) := ⟨P6.out⟩
  have HD : Aside0 (digest true K S t = tell64 [z0, z1, z2, z3, z4, z5, z6, z7] 8) := ⟨by unfold digest; rw [← hz]; rfl⟩
  have HT : Aside0 (∀ w', Calls Tryd.prog 133 #[.agg #[.int .i64 8, .int .i64 64, .int .i64 80, .int .i64 1, .int .i64 8, .int .i64 7, .int .i64 19, .int .i64 61, .int .i64 6, .int .i64 28, .int .i64 34, .int .i64 39, .int .i64 14, .int .i64 18, .int .i64 41], .agg #[.int .u64 z0, .int .u64 z1, .int .u64 z2, .int .u64 z3, .int .u64 z4, .int .u64 z5, .int .u64 z6, .int .u64 z7]] w' fun e w'' => ∃ v, e = .returned v ∧ w''.ownsRow w'.heap.size 5 1 v (tell64 [z0, z1, z2, z3, z4, z5, z6, z7] 8).length (nums .u8 (tell64 [z0, z1, z2, z3, z4, z5, z6, z7] 8)) ∧ Below w'.heap.size w' w'') := ⟨fun w' => tell64_c [z0, z1, z2, z3, z4, z5, z6, z7] rfl w'⟩
  generalize tell64 [z0, z1, z2, z3, z4, z5, z6, z7] 8 = dg at HD HT
  clear P6 c0 P5 HQ hz hy
  go_region_held3 (fun w' => TellP64 w p1 t.length (.slice Ar lr cr) [y0, y1, y2, y3, y4, y5, y6, y7] [z0, z1, z2, z3, z4, z5, z6, z7] w' ∧ w'.cell? ⟨p1, 0, none⟩ = some (.int .i64 8) ∧ w'.cell? ⟨p1, 1, none⟩ = some (.int .i64 64) ∧ w'.cell? ⟨p1, 2, none⟩ = some (.int .i64 80) ∧ w'.cell? ⟨p1, 3, none⟩ = some (.int .i64 1) ∧ w'.cell? ⟨p1, 4, none⟩ = some (.int .i64 8) ∧ w'.cell? ⟨p1, 5, none⟩ = some (.int .i64 7) ∧ w'.cell? ⟨p1, 6, none⟩ = some (.int .i64 19) ∧ w'.cell? ⟨p1, 7, none⟩ = some (.int .i64 61) ∧ w'.cell? ⟨p1, 8, none⟩ = some (.int .i64 6) ∧ w'.cell? ⟨p1, 9, none⟩ = some (.int .i64 28) ∧ w'.cell? ⟨p1, 10, none⟩ = some (.int .i64 34) ∧ w'.cell? ⟨p1, 11, none⟩ = some (.int .i64 39) ∧ w'.cell? ⟨p1, 12, none⟩ = some (.int .i64 14) ∧ w'.cell? ⟨p1, 13, none⟩ = some (.int .i64 18) ∧ w'.cell? ⟨p1, 14, none⟩ = some (.int .i64 41) ∧ w'.cell? ⟨p1, 25, none⟩ = some (.int .u64 z0) ∧ w'.cell? ⟨p1, 26, none⟩ = some (.int .u64 z1) ∧ w'.cell? ⟨p1, 27, none⟩ = some (.int .u64 z2) ∧ w'.cell? ⟨p1, 28, none⟩ = some (.int .u64 z3) ∧ w'.cell? ⟨p1, 29, none⟩ = some (.int .u64 z4) ∧ w'.cell? ⟨p1, 30, none⟩ = some (.int .u64 z5) ∧ w'.cell? ⟨p1, 31, none⟩ = some (.int .u64 z6) ∧ w'.cell? ⟨p1, 32, none⟩ = some (.int .u64 z7))
    (first | exact TellP64.cells P7.out.drew | exact TellP64.cells P7.out | exact TellP64.cells (TellP64.below P7.out.drew hb) | (go_split_ands; first | exact TellP64.cells (TellP64.below (by assumption) hb)))
    (first | (go_at_call 133; refine (HT.out _).mono ?_; rintro e w8 ⟨v8, rfl, ho8, hb⟩))
  go_split_ands
  have P8 : Aside0 (TellP64 w p1 t.length (.slice Ar lr cr) [y0, y1, y2, y3, y4, y5, y6, y7] [z0, z1, z2, z3, z4, z5, z6, z7] w8) := ⟨by assumption⟩
  go_wp2
  go_ret
  refine ⟨v8, rfl, ?_, P8.out.2⟩
  rw [HD.out]
  exact R_weaken (Kd.R_of_own (enc := Value.int .u8) (h1 := fun _ => rfl) ho8 (fun _ _ => trivial)) (fun i hi => by have h1 := World.ownsRow.lt ho8 i hi; have h2 := P7.out.2.size; have h3 : w6.heap.size ≤ i := h1.1; omega) (fun _ _ => trivial)
end Go.Proofs.YtbenedckmapjoaaDoor.H
