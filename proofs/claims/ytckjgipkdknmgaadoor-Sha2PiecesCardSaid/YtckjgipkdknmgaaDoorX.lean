/- New, Sum256, Sum512; the contracts in the print's form. -/
import Derived.Test.YtckjgipkdknmgaaDoorJ8
namespace Go.Proofs.YtckjgipkdknmgaaDoor.H
open Go.RowKit Go.Proofs.YtckjgipkdknmgaaDoorW.PrintWords
set_option maxRecDepth 100000 in
set_option maxHeartbeats 1000000 in
theorem new32_c (K S : List Int) (w : World) (L : Laid K S w) (h0 : 0 < w.heap.size) (h1 : 1 < w.heap.size) :
    Calls Tryd.prog 17 #[.int .i64 256] w fun e w' => ∃ p, e = .returned (.tuple #[.pointer (some ⟨p, 0, none⟩), .int .i64 0]) ∧ HashAt w.heap.size false K S [] p (.slice none 0 0) w' ∧ Below w.heap.size w w' := by
  go_enter Tryd.func17, Tryd.ntmps17
  go_wp2_with (first
    | (go_at_call 35; refine (of256_c _).mono ?_; rintro e w1 ⟨rfl, hb⟩; have HB := Aside0.mk hb; clear hb)
    | (refine wpList_store_row rfl 58 (.tmp 4) (.tmp 10) rfl w1.heap.size narrowV (by rfl) (by rfl) 58 _ (new1 _ _) (by kernel_rfl) (by rfl) narrowV_one ?_; rw [World.setRow_alloc_new])
    | (refine wpList_load_row rfl 58 (.tmp 4) rfl w1.heap.size (by rfl) 58 narrowV (0, 0) _ (new1 _ _) Tryd.underlying58 rfl (by kernel_rfl) ?_)
    | (go_at_call 23
       refine (reset_c (w1.heap.size + 1) narrowV 0 (.slice none 0 0) (List.replicate 8 0) (List.replicate 8 0) S _ rfl rfl rfl ((new2 w1 _ _).trans (by kernel_rfl)) (Laid.below (base := w.heap.size) L (below_alloc (below_alloc HB.out _) _) h0 h1).s (by have := HB.out.size; omega)).mono ?_
       rintro e w2 ⟨rfl, hp2, hF2⟩
       have P2 := Aside0.mk (And.intro hp2 (Fr.below (below_alloc (below_alloc HB.out _) _) (by have := HB.out.size; simp only [World.size_alloc]; omega) (fun i hi => by have := HB.out.size; have h3 : i = w1.heap.size + 1 := hi; omega) hF2))
       have HS1 := HB.out.size
       clear hp2 hF2))
  go_ret2
  have e0 : ([] : List Int).length / bl false = 0 := Nat.zero_div _
  refine ⟨w1.heap.size + 1, rfl, ⟨?_, ?_, by omega, h0, h1, by simp, fun i => by simp⟩, P2.out.2⟩
  · rw [e0, W32_none, W64_none]
    exact P2.out.1
  · rw [List.drop_nil]
    exact Kd.R_nil _ _ _ _ _
set_option maxRecDepth 100000 in
set_option maxHeartbeats 1000000 in
theorem new64_c (K S : List Int) (w : World) (L : Laid K S w) (h0 : 0 < w.heap.size) (h1 : 1 < w.heap.size) :
    Calls Tryd.prog 17 #[.int .i64 512] w fun e w' => ∃ p, e = .returned (.tuple #[.pointer (some ⟨p, 0, none⟩), .int .i64 0]) ∧ HashAt w.heap.size true K S [] p (.slice none 0 0) w' ∧ Below w.heap.size w w' := by
  go_enter Tryd.func17, Tryd.ntmps17
  go_wp2_with (first
    | (go_at_call 35; refine (of512_c _).mono ?_; rintro e w1 ⟨rfl, hb⟩; have HB := Aside0.mk hb; clear hb)
    | (refine wpList_store_row rfl 58 (.tmp 4) (.tmp 10) rfl w1.heap.size wideV (by rfl) (by rfl) 58 _ (new1 _ _) (by kernel_rfl) (by rfl) wideV_one ?_; rw [World.setRow_alloc_new])
    | (refine wpList_load_row rfl 58 (.tmp 4) rfl w1.heap.size (by rfl) 58 wideV (0, 0) _ (new1 _ _) Tryd.underlying58 rfl (by kernel_rfl) ?_)
    | (go_at_call 23
       refine (reset_c (w1.heap.size + 1) wideV 0 (.slice none 0 0) (List.replicate 8 0) (List.replicate 8 0) S _ rfl rfl rfl ((new2 w1 _ _).trans (by kernel_rfl)) (Laid.below (base := w.heap.size) L (below_alloc (below_alloc HB.out _) _) h0 h1).s (by have := HB.out.size; omega)).mono ?_
       rintro e w2 ⟨rfl, hp2, hF2⟩
       have P2 := Aside0.mk (And.intro hp2 (Fr.below (below_alloc (below_alloc HB.out _) _) (by have := HB.out.size; simp only [World.size_alloc]; omega) (fun i hi => by have := HB.out.size; have h3 : i = w1.heap.size + 1 := hi; omega) hF2))
       have HS1 := HB.out.size
       clear hp2 hF2))
  go_ret2
  have e0 : ([] : List Int).length / bl true = 0 := Nat.zero_div _
  refine ⟨w1.heap.size + 1, rfl, ⟨?_, ?_, by omega, h0, h1, by simp, fun i => by simp⟩, P2.out.2⟩
  · rw [e0, W32_none, W64_none]
    exact P2.out.1
  · rw [List.drop_nil]
    exact Kd.R_nil _ _ _ _ _
theorem new_c (wide : Bool) (K S : List Int) (w : World) (L : Laid K S w) (h0 : 0 < w.heap.size) (h1 : 1 < w.heap.size) :
    Calls Tryd.prog 17 #[.int .i64 (if wide then 512 else 256)] w fun e w' => ∃ p, e = .returned (.tuple #[.pointer (some ⟨p, 0, none⟩), .int .i64 0]) ∧ HashAt w.heap.size wide K S [] p (.slice none 0 0) w' ∧ Below w.heap.size w w' := by
  cases wide
  · exact new32_c K S w L h0 h1
  · exact new64_c K S w L h0 h1
theorem sum_c (base : Nat) (wide : Bool) (K S t : List Int) (p : Nat) (v : Value) (w : World) (H : HashAt base wide K S t p v w) (L : Laid K S w) :
    Calls Tryd.prog 20 #[.pointer (some ⟨p, 0, none⟩)] w fun e w' => ∃ r, e = .returned r ∧ Kd.R (Kd.int .u8) 5 w' w.heap.size (fun _ => True) r (digest wide K S t) ∧ Below w.heap.size w w' := by
  cases wide
  · exact sum32_c base K S t p v w H L
  · exact sum64_c base K S t p v w H L
set_option maxRecDepth 100000 in
set_option maxHeartbeats 1000000 in
theorem writeLong_c (base : Nat) (wide : Bool) (K S t : List Int) (p : Nat) (v : Value) (A : Option Addr) (n c : Nat) (w : World) (H : HashAt base wide K S t p v w) (hm : 1048576 < t.length + n) :
    Calls Tryd.prog 19 #[.pointer (some ⟨p, 0, none⟩), .slice A n c] w fun e w' => e = .returned (.int .i64 2) ∧ Below w.heap.size w w' := by
  have hd : decide ((1048576 : Int) - ↑t.length < ↑n) = true := decide_eq_true (by omega)
  have hmI : (↑t.length : Int) ≤ 1048576 := by have := H.most; omega
  have c15 : w.cell? ⟨p, 15, none⟩ = some (.int .i64 t.length) := (blk_cell H.cells 15).trans (hash_at15 _ _ _ _ _ (shV_size wide))
  clear H
  go_enter Tryd.func19, Tryd.ntmps19
  go_wp2_with fail
  go_ret
  exact ⟨rfl, Below.refl _ _⟩
set_option maxRecDepth 100000 in
set_option maxHeartbeats 1000000 in
theorem count_c (base : Nat) (wide : Bool) (K S t : List Int) (p : Nat) (v : Value) (w : World) (H : HashAt base wide K S t p v w) :
    Calls Tryd.prog 32 #[.pointer (some ⟨p, 0, none⟩)] w fun e w' => e = .returned (.int .i64 t.length) ∧ Below w.heap.size w w' := by
  have c15 : w.cell? ⟨p, 15, none⟩ = some (.int .i64 t.length) := (blk_cell H.cells 15).trans (hash_at15 _ _ _ _ _ (shV_size wide))
  clear H
  go_enter Tryd.func32, Tryd.ntmps32
  go_wp2_with fail
  go_ret
  exact ⟨rfl, Below.refl _ _⟩
set_option maxRecDepth 100000 in
set_option maxHeartbeats 1000000 in
theorem size_c (base : Nat) (wide : Bool) (K S t : List Int) (p : Nat) (v : Value) (w : World) (H : HashAt base wide K S t p v w) :
    Calls Tryd.prog 33 #[.pointer (some ⟨p, 0, none⟩)] w fun e w' => e = .returned (.int .i64 (if wide then 64 else 32)) ∧ Below w.heap.size w w' := by
  cases wide
  · have c0 : w.cell? ⟨p, 0, none⟩ = some (.int .i64 4) := (blk_cell H.cells 0).trans rfl
    clear H
    go_enter Tryd.func33, Tryd.ntmps33
    go_wp2_with fail
    go_ret
    exact ⟨rfl, Below.refl _ _⟩
  · have c0 : w.cell? ⟨p, 0, none⟩ = some (.int .i64 8) := (blk_cell H.cells 0).trans rfl
    clear H
    go_enter Tryd.func33, Tryd.ntmps33
    go_wp2_with fail
    go_ret
    exact ⟨rfl, Below.refl _ _⟩
/-- What New, Write and Sum make of a text. -/
def sumOf (wide : Bool) (K S b : List Int) : List Int × Int := if b.length ≤ 1048576 then (digest wide K S b, 0) else ([], 2)
set_option maxRecDepth 100000 in
set_option maxHeartbeats 1000000 in
theorem sumAll_c (wide : Bool) (K S b : List Int) (A : Option Addr) (c : Nat) (w : World) (L : Laid K S w) (h0 : 0 < w.heap.size) (h1 : 1 < w.heap.size)
    (hb : Kd.C (Kd.int .u8) w A b.length b) (hbd : ∀ i, 0 ≤ b.getD i 0 ∧ b.getD i 0 < 256) :
    Calls Tryd.prog 53 #[.slice A b.length c, .int .i64 (if wide then 512 else 256)] w fun e w' => ∃ v, e = .returned (.tuple #[v, .int .i64 (sumOf wide K S b).2]) ∧ Kd.R (Kd.int .u8) 5 w' w.heap.size (fun _ => True) v (sumOf wide K S b).1 ∧ Below w.heap.size w w' := by
  have HH := Aside0.mk (And.intro L (And.intro h0 (And.intro h1 (And.intro hb hbd))))
  clear L h0 h1 hb hbd
  obtain ⟨bits, hbits⟩ : ∃ bits : Int, bits = if wide then 512 else 256 := ⟨_, rfl⟩
  rw [← hbits]
  have HN := Aside0.mk (new_c wide K S)
  rw [← hbits] at HN
  clear hbits
  generalize hr0 : sumOf wide K S b = r0
  have HR0 := Aside0.mk hr0
  clear hr0
  go_enter Tryd.func53, Tryd.ntmps53
  go_upto_region 3 with (go_at_call 17; refine (HN.out _ HH.out.1 HH.out.2.1 HH.out.2.2.1).mono ?_; rintro e w1 ⟨p, rfl, hH1, hb1⟩; have P1 := Aside0.mk (And.intro hH1 hb1); clear hH1 hb1)
  have hw1 := P1.out.2.size
  have hp1 := P1.out.1.hbase
  have L1 := Aside0.mk (HH.out.1.below P1.out.2 HH.out.2.1 HH.out.2.2.1)
  have hC1 : Aside0 (Kd.C (Kd.int .u8) w1 A b.length b) := ⟨Kd.C_below HH.out.2.2.2.1 P1.out.2⟩
  have hA : Aside0 (Away p A b.length) := ⟨fun hn ad he => by subst he; have := C_block HH.out.2.2.2.1 hn; omega⟩
  by_cases hm : b.length ≤ 1048576
  · have hr0 : r0 = (digest wide K S b, 0) := by rw [← HR0.out]; unfold sumOf; rw [if_pos hm]
    subst hr0
    clear HR0
    go_wp2_with (first
      | (go_at_call 19
         refine (write_c w.heap.size wide K S [] p (.slice none 0 0) A c b w1 P1.out.1 L1.out hC1.out hA.out (fun k hk => by cases hk) HH.out.2.2.2.2 (by simpa using hm)).mono ?_
         rintro e w2 ⟨rfl, v2, hH2, hv2, hF2⟩
         rw [List.nil_append] at hH2
         have hB2 : Below w.heap.size w w2 := Fr.below P1.out.2 P1.out.2.size (fun i hi => by rcases hi with hi | hi; omega; cases hi) hF2
         have P2 := Aside0.mk (And.intro hH2 hB2)
         clear hH2 hv2 hF2 hB2)
      | (go_at_call 20
         refine (sum_c w.heap.size wide K S b p v2 w2 P2.out.1 (HH.out.1.below P2.out.2 HH.out.2.1 HH.out.2.2.1)).mono ?_
         rintro e w3 ⟨r, rfl, hr, hb3⟩
         have P3 := Aside0.mk (And.intro hr hb3)
         clear hr hb3))
    go_ret2
    exact ⟨r, rfl, R_weaken P3.out.1 (fun i hi => by have h3 := Kd.R_base P3.out.1 i hi; have h4 := P2.out.2.size; omega) (fun _ _ => trivial), below_step P2.out.2 P3.out.2⟩
  · have hr0 : r0 = ([], 2) := by rw [← HR0.out]; unfold sumOf; rw [if_neg hm]
    subst hr0
    clear HR0
    go_wp2_with (first
      | (go_at_call 19
         refine (writeLong_c w.heap.size wide K S [] p (.slice none 0 0) A b.length c w1 P1.out.1 (by simp; omega)).mono ?_
         rintro e w2 ⟨rfl, hb2⟩
         have P2 := Aside0.mk (below_step P1.out.2 hb2)
         clear hb2))
    go_ret2
    exact ⟨.slice none 0 0, rfl, Kd.R_nil _ _ _ _ _, P2.out⟩
set_option maxRecDepth 100000 in
set_option maxHeartbeats 1000000 in
theorem Sum256_c (K S b : List Int) (A : Option Addr) (c : Nat) (w : World) (L : Laid K S w) (h0 : 0 < w.heap.size) (h1 : 1 < w.heap.size)
    (hb : Kd.C (Kd.int .u8) w A b.length b) (hbd : ∀ i, 0 ≤ b.getD i 0 ∧ b.getD i 0 < 256) :
    Calls Tryd.prog 34 #[.slice A b.length c] w fun e w' => ∃ v, e = .returned (.tuple #[v, .int .i64 (sumOf false K S b).2]) ∧ Kd.R (Kd.int .u8) 5 w' w.heap.size (fun _ => True) v (sumOf false K S b).1 ∧ Below w.heap.size w w' := by
  have HS := Aside0.mk (sumAll_c false K S b A c w L h0 h1 hb hbd)
  clear L h0 h1 hb hbd
  generalize sumOf false K S b = r at HS ⊢
  go_enter Tryd.func34, Tryd.ntmps34
  go_wp2_with (go_at_call 53; refine HS.out.mono ?_; rintro e w1 ⟨v, rfl, hr, hb1⟩; have P1 := Aside0.mk (And.intro hr hb1); clear hr hb1)
  go_ret2
  exact ⟨v, rfl, P1.out.1, P1.out.2⟩
set_option maxRecDepth 100000 in
set_option maxHeartbeats 1000000 in
theorem Sum512_c (K S b : List Int) (A : Option Addr) (c : Nat) (w : World) (L : Laid K S w) (h0 : 0 < w.heap.size) (h1 : 1 < w.heap.size)
    (hb : Kd.C (Kd.int .u8) w A b.length b) (hbd : ∀ i, 0 ≤ b.getD i 0 ∧ b.getD i 0 < 256) :
    Calls Tryd.prog 49 #[.slice A b.length c] w fun e w' => ∃ v, e = .returned (.tuple #[v, .int .i64 (sumOf true K S b).2]) ∧ Kd.R (Kd.int .u8) 5 w' w.heap.size (fun _ => True) v (sumOf true K S b).1 ∧ Below w.heap.size w w' := by
  have HS := Aside0.mk (sumAll_c true K S b A c w L h0 h1 hb hbd)
  clear L h0 h1 hb hbd
  generalize sumOf true K S b = r at HS ⊢
  go_enter Tryd.func49, Tryd.ntmps49
  go_wp2_with (go_at_call 53; refine HS.out.mono ?_; rintro e w1 ⟨v, rfl, hr, hb1⟩; have P1 := Aside0.mk (And.intro hr hb1); clear hr hb1)
  go_ret2
  exact ⟨v, rfl, P1.out.1, P1.out.2⟩
end Go.Proofs.YtckjgipkdknmgaaDoor.H
namespace Go.Proofs.YtckjgipkdknmgaaDoor.X
open Go.RowKit Go.Proofs.YtckjgipkdknmgaaDoorW.PrintWords Go.Proofs.YtckjgipkdknmgaaDoor.H
def KS : List Int := [4794697086780616226, 8158064640168781261, 13096744586834688815, 16840607885511220156, 4131703408338449720, 6480981068601479193, 10538285296894168987, 12329834152419229976, 15566598209576043074, 1334009975649890238, 2608012711638119052, 6128411473006802146, 8268148722764581231, 9286055187155687089, 11230858885718282805, 13951009754708518548, 16472876342353939154, 17275323862435702243, 1135362057144423861, 2597628984639134821, 3308224258029322869, 5365058923640841347, 6679025012923562964, 8573033837759648693, 10970295158949994411, 12119686244451234320, 12683024718118986047, 13788192230050041572, 14330467153632333762, 15395433587784984357, 489312712824947311, 1452737877330783856, 2861767655752347644, 3322285676063803686, 5560940570517711597, 5996557281743188959, 7280758554555802590, 8532644243296465576, 9350256976987008742, 10552545826968843579, 11727347734174303076, 12113106623233404929, 14000437183269869457, 14369950271660146224, 15101387698204529176, 15463397548674623760, 17586052441742319658, 1182934255886127544, 1847814050463011016, 2177327727835720531, 2830643537854262169, 3796741975233480872, 4115178125766777443, 5681478168544905931, 6601373596472566643, 7507060721942968483, 8399075790359081724, 8693463985226723168, 9568029438360202098, 10144078919501101548, 10430055236837252648, 11840083180663258601, 13761210420658862357, 14299343276471374635, 14566680578165727644, 15097957966210449927, 16922976911328602910, 17689382322260857208, 500013540394364858, 748580250866718886, 1242879168328830382, 1977374033974150939, 2944078676154940804, 3659926193048069267, 4368137639120453308, 4836135668995329356, 5532061633213252278, 6448918945643986474, 6902733635092675308, 7801388544844847127]
def SS : List Int := [7640891576956012808, 13503953896175478587, 4354685564936845355, 11912009170470909681, 5840696475078001361, 11170449401992604703, 2270897969802886507, 6620516959819538809]
/-- The two rows of numbers lie where the program laid them, below all that a call makes. -/
structure Glb (w : World) : Prop where
  laid : Laid KS SS w
  g0 : 0 < w.heap.size
  g1 : 1 < w.heap.size
theorem Glb.of {w W : World} (h : Glb w) (hb : Below w.heap.size w W) : Glb W := ⟨h.laid.below hb h.g0 h.g1, Nat.lt_of_lt_of_le h.g0 hb.size, Nat.lt_of_lt_of_le h.g1 hb.size⟩
def sha2_Pad.f (n bits : Int) : Option (List Int × Int) := if (bits ≠ 256 ∧ bits ≠ 512) ∨ n < 0 then some ([], 1) else if n > 1048576 then some ([], 2) else if bits = 256 then some (padS n (padLen32 n) 8, 0) else some (padS n (padLen64 n) 8, 0)
theorem sha2_Pad.calls (a0 a1 : Int) (r1 : List Int) (r2 : Int) (w : World) (h : sha2_Pad.f a0 a1 = some (r1, r2)) :
    Calls Tryd.prog 13 #[.int .i64 a0, .int .i64 a1] w fun e w' => ∃ v0_ : Value, e = .returned (.tuple #[v0_, .int .i64 r2]) ∧ Kd.R (Kd.int .u8) 5 w' w.heap.size (fun _ => True) v0_ r1 ∧ Below w.heap.size w w' := by
  unfold sha2_Pad.f at h
  split at h
  · obtain ⟨rfl, rfl⟩ := Prod.mk.inj (Option.some.inj h)
    rename_i hc
    exact (PadArg_c a0 a1 hc w).mono fun e w' ⟨he, hb⟩ => ⟨_, he, Kd.R_nil _ _ _ _ _, hb⟩
  split at h
  · obtain ⟨rfl, rfl⟩ := Prod.mk.inj (Option.some.inj h)
    exact (PadLong_c a0 a1 (by omega) (by omega) w).mono fun e w' ⟨he, hb⟩ => ⟨_, he, Kd.R_nil _ _ _ _ _, hb⟩
  split at h
  · obtain ⟨rfl, rfl⟩ := Prod.mk.inj (Option.some.inj h)
    rename_i h256
    subst h256
    exact (Pad256_c a0 (by omega) (by omega) w).mono fun e w' ⟨v, he, ho, hb⟩ => ⟨v, he, Kd.R_of_own (enc := Value.int .u8) (h1 := fun _ => rfl) ho (fun _ _ => trivial), hb⟩
  · obtain ⟨rfl, rfl⟩ := Prod.mk.inj (Option.some.inj h)
    obtain rfl : a1 = 512 := by omega
    exact (Pad512_c a0 (by omega) (by omega) w).mono fun e w' ⟨v, he, ho, hb⟩ => ⟨v, he, Kd.R_of_own (enc := Value.int .u8) (h1 := fun _ => rfl) ho (fun _ _ => trivial), hb⟩
def sha2_Const.f (a0 : Int) : Option (Int × Int) := if 0 ≤ a0 ∧ a0 < 80 then some (KS.getD a0.toNat 0, 0) else some (0, 1)
theorem sha2_Const.calls (a0 r1 r2 : Int) (w : World) (HG : Glb w) (h : sha2_Const.f a0 = some (r1, r2)) :
    Calls Tryd.prog 26 #[.int .i64 a0] w fun e w' => e = .returned (.tuple #[.int .u64 r1, .int .i64 r2]) ∧ Below w.heap.size w w' := by
  unfold sha2_Const.f at h
  split at h
  · rename_i hc
    obtain ⟨rfl, rfl⟩ := Prod.mk.inj (Option.some.inj h)
    obtain ⟨i, rfl⟩ := Int.eq_ofNat_of_zero_le hc.1
    exact Const_in i (by omega) KS w (HG.laid.k i (by omega))
  · obtain ⟨rfl, rfl⟩ := Prod.mk.inj (Option.some.inj h)
    exact Const_out a0 (by omega) w
def sha2_Start.f (a0 : Int) : Option (Int × Int) := if 0 ≤ a0 ∧ a0 < 8 then some (SS.getD a0.toNat 0, 0) else some (0, 1)
theorem sha2_Start.calls (a0 r1 r2 : Int) (w : World) (HG : Glb w) (h : sha2_Start.f a0 = some (r1, r2)) :
    Calls Tryd.prog 28 #[.int .i64 a0] w fun e w' => e = .returned (.tuple #[.int .u64 r1, .int .i64 r2]) ∧ Below w.heap.size w w' := by
  unfold sha2_Start.f at h
  split at h
  · rename_i hc
    obtain ⟨rfl, rfl⟩ := Prod.mk.inj (Option.some.inj h)
    obtain ⟨i, rfl⟩ := Int.eq_ofNat_of_zero_le hc.1
    exact Start_in i (by omega) SS w (HG.laid.s i (by omega))
  · obtain ⟨rfl, rfl⟩ := Prod.mk.inj (Option.some.inj h)
    exact Start_out a0 (by omega) w
def isBytes (l : List Int) : Bool := l.all (fun x => decide (0 ≤ x ∧ x < 256))
theorem isBytes_get {l : List Int} (h : isBytes l = true) : ∀ i, 0 ≤ l.getD i 0 ∧ l.getD i 0 < 256 := getD_bytes (fun x hx => by have := List.all_eq_true.1 h x hx; simpa using this)
def sha2_Sum256.f (l0 : List Int) : Option (List Int × Int) := if isBytes l0 = true then some (sumOf false KS SS l0) else none
theorem sha2_Sum256.calls (A0 : Option Addr) (c0 : Nat) (l0 r1 : List Int) (r2 : Int) (w : World) (HG : Glb w) (hr0 : Kd.C (Kd.int .u8) w A0 l0.length l0) (_hc0 : l0.length ≤ c0) (h : sha2_Sum256.f l0 = some (r1, r2)) :
    Calls Tryd.prog 34 #[.slice A0 l0.length c0] w fun e w' => ∃ v0_ : Value, e = .returned (.tuple #[v0_, .int .i64 r2]) ∧ Kd.R (Kd.int .u8) 5 w' w.heap.size (fun _ => True) v0_ r1 ∧ Below w.heap.size w w' := by
  unfold sha2_Sum256.f at h
  split at h
  · rename_i hc
    have h1 := Option.some.inj h
    have := Sum256_c KS SS l0 A0 c0 w HG.laid HG.g0 HG.g1 hr0 (isBytes_get hc)
    rw [h1] at this
    exact this
  · cases h
def sha2_Sum512.f (l0 : List Int) : Option (List Int × Int) := if isBytes l0 = true then some (sumOf true KS SS l0) else none
theorem sha2_Sum512.calls (A0 : Option Addr) (c0 : Nat) (l0 r1 : List Int) (r2 : Int) (w : World) (HG : Glb w) (hr0 : Kd.C (Kd.int .u8) w A0 l0.length l0) (_hc0 : l0.length ≤ c0) (h : sha2_Sum512.f l0 = some (r1, r2)) :
    Calls Tryd.prog 49 #[.slice A0 l0.length c0] w fun e w' => ∃ v0_ : Value, e = .returned (.tuple #[v0_, .int .i64 r2]) ∧ Kd.R (Kd.int .u8) 5 w' w.heap.size (fun _ => True) v0_ r1 ∧ Below w.heap.size w w' := by
  unfold sha2_Sum512.f at h
  split at h
  · rename_i hc
    have h1 := Option.some.inj h
    have := Sum512_c KS SS l0 A0 c0 w HG.laid HG.g0 HG.g1 hr0 (isBytes_get hc)
    rw [h1] at this
    exact this
  · cases h
end Go.Proofs.YtckjgipkdknmgaaDoor.X
