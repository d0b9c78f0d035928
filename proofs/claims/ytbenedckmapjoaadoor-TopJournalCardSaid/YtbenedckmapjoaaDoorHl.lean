/- New, Sum256, Sum512. -/
import Derived.Test.YtbenedckmapjoaaDoorJ8
namespace Go.Proofs.YtbenedckmapjoaaDoor.H
open Go.RowKit Go.Proofs.YtbenedckmapjoaaDoorW.PrintWords
set_option maxRecDepth 100000 in
set_option maxHeartbeats 1000000 in
theorem new32_c (K S : List Int) (w : World) (L : Laid K S w) (h0 : 8 < w.heap.size) (h1 : 7 < w.heap.size) :
    Calls Tryd.prog 98 #[.int .i64 256] w fun e w' => ∃ p, e = .returned (.tuple #[.pointer (some ⟨p, 0, none⟩), .int .i64 0]) ∧ HashAt w.heap.size false K S [] p (.slice none 0 0) w' ∧ Below w.heap.size w w' := by
  go_enter Tryd.func98, Tryd.ntmps98
  go_wp2_with (first
    | (go_at_call 127; refine (of256_c _).mono ?_; rintro e w1 ⟨rfl, hb⟩; have HB := Aside0.mk hb; clear hb)
    | (refine wpList_store_row rfl 180 (.tmp 4) (.tmp 10) rfl w1.heap.size narrowV (by rfl) (by rfl) 180 _ (new1 _ _) (by kernel_rfl) (by rfl) narrowV_one ?_; rw [World.setRow_alloc_new])
    | (refine wpList_load_row rfl 180 (.tmp 4) rfl w1.heap.size (by rfl) 180 narrowV (0, 0) _ (new1 _ _) Tryd.underlying180 rfl (by kernel_rfl) ?_)
    | (go_at_call 128
       refine (reset_c (w1.heap.size + 1) narrowV 0 (.slice none 0 0) (List.replicate 8 0) (List.replicate 8 0) S _ rfl rfl rfl ((new2 w1 _ _).trans (by kernel_rfl)) (Laid.below (base := w.heap.size) L (below_alloc (below_alloc HB.out _) _) h0 h1).s (by have := HB.out.size; omega)).mono ?_
       rintro e w2 ⟨rfl, hp2, hF2⟩
       have P2 := Aside0.mk (And.intro hp2 (Fr.below (below_alloc (below_alloc HB.out _) _) (by have := HB.out.size; simp only [World.size_alloc]; omega) (fun i hi => by have := HB.out.size; have h3 : i = w1.heap.size + 1 := hi; omega) hF2))
       have HS1 := HB.out.size
       clear hp2 hF2))
  go_ret2
  have e0 : ([] : List Int).length / bl false = 0 := Nat.zero_div _
  refine ⟨w1.heap.size + 1, rfl, ⟨?_, ?_, by omega, h0, h1, by simp, fun i => by simp⟩, P2.out.2⟩
  · rw [e0, W32_none, W64_none]
    exact P2.out.1
  · rw [List.drop_nil]
    exact Kd.R_nil _ _ _ _ _
set_option maxRecDepth 100000 in
set_option maxHeartbeats 1000000 in
theorem new64_c (K S : List Int) (w : World) (L : Laid K S w) (h0 : 8 < w.heap.size) (h1 : 7 < w.heap.size) :
    Calls Tryd.prog 98 #[.int .i64 512] w fun e w' => ∃ p, e = .returned (.tuple #[.pointer (some ⟨p, 0, none⟩), .int .i64 0]) ∧ HashAt w.heap.size true K S [] p (.slice none 0 0) w' ∧ Below w.heap.size w w' := by
  go_enter Tryd.func98, Tryd.ntmps98
  go_wp2_with (first
    | (go_at_call 127; refine (of512_c _).mono ?_; rintro e w1 ⟨rfl, hb⟩; have HB := Aside0.mk hb; clear hb)
    | (refine wpList_store_row rfl 180 (.tmp 4) (.tmp 10) rfl w1.heap.size wideV (by rfl) (by rfl) 180 _ (new1 _ _) (by kernel_rfl) (by rfl) wideV_one ?_; rw [World.setRow_alloc_new])
    | (refine wpList_load_row rfl 180 (.tmp 4) rfl w1.heap.size (by rfl) 180 wideV (0, 0) _ (new1 _ _) Tryd.underlying180 rfl (by kernel_rfl) ?_)
    | (go_at_call 128
       refine (reset_c (w1.heap.size + 1) wideV 0 (.slice none 0 0) (List.replicate 8 0) (List.replicate 8 0) S _ rfl rfl rfl ((new2 w1 _ _).trans (by kernel_rfl)) (Laid.below (base := w.heap.size) L (below_alloc (below_alloc HB.out _) _) h0 h1).s (by have := HB.out.size; omega)).mono ?_
       rintro e w2 ⟨rfl, hp2, hF2⟩
       have P2 := Aside0.mk (And.intro hp2 (Fr.below (below_alloc (below_alloc HB.out _) _) (by have := HB.out.size; simp only [World.size_alloc]; omega) (fun i hi => by have := HB.out.size; have h3 : i = w1.heap.size + 1 := hi; omega) hF2))
       have HS1 := HB.out.size
       clear hp2 hF2))
  go_ret2
  have e0 : ([] : List Int).length / bl true = 0 := Nat.zero_div _
  refine ⟨w1.heap.size + 1, rfl, ⟨?_, ?_, by omega, h0, h1, by simp, fun i => by simp⟩, P2.out.2⟩
  · rw [e0, W32_none, W64_none]
    exact P2.out.1
  · rw [List.drop_nil]
    exact Kd.R_nil _ _ _ _ _
theorem new_c (wide : Bool) (K S : List Int) (w : World) (L : Laid K S w) (h0 : 8 < w.heap.size) (h1 : 7 < w.heap.size) :
    Calls Tryd.prog 98 #[.int .i64 (if wide then 512 else 256)] w fun e w' => ∃ p, e = .returned (.tuple #[.pointer (some ⟨p, 0, none⟩), .int .i64 0]) ∧ HashAt w.heap.size wide K S [] p (.slice none 0 0) w' ∧ Below w.heap.size w w' := by
  cases wide
  · exact new32_c K S w L h0 h1
  · exact new64_c K S w L h0 h1
theorem sum_c (base : Nat) (wide : Bool) (K S t : List Int) (p : Nat) (v : Value) (w : World) (H : HashAt base wide K S t p v w) (L : Laid K S w) :
    Calls Tryd.prog 100 #[.pointer (some ⟨p, 0, none⟩)] w fun e w' => ∃ r, e = .returned r ∧ Kd.R (Kd.int .u8) 5 w' w.heap.size (fun _ => True) r (digest wide K S t) ∧ Below w.heap.size w w' := by
  cases wide
  · exact sum32_c base K S t p v w H L
  · exact sum64_c base K S t p v w H L
set_option maxRecDepth 100000 in
set_option maxHeartbeats 1000000 in
theorem writeLong_c (base : Nat) (wide : Bool) (K S t : List Int) (p : Nat) (v : Value) (A : Option Addr) (n c : Nat) (w : World) (H : HashAt base wide K S t p v w) (hm : 1048576 < t.length + n) :
    Calls Tryd.prog 99 #[.pointer (some ⟨p, 0, none⟩), .slice A n c] w fun e w' => e = .returned (.int .i64 2) ∧ Below w.heap.size w w' := by
  have hd : decide ((1048576 : Int) - ↑t.length < ↑n) = true := decide_eq_true (by omega)
  have hmI : (↑t.length : Int) ≤ 1048576 := by have := H.most; omega
  have c15 : w.cell? ⟨p, 15, none⟩ = some (.int .i64 t.length) := (blk_cell H.cells 15).trans (hash_at15 _ _ _ _ _ (shV_size wide))
  clear H
  go_enter Tryd.func99, Tryd.ntmps99
  go_wp2_with fail
  go_ret
  exact ⟨rfl, Below.refl _ _⟩
/-- What New, Write and Sum make of a text. -/
def sumOf (wide : Bool) (K S b : List Int) : List Int × Int := if b.length ≤ 1048576 then (digest wide K S b, 0) else ([], 2)
set_option maxRecDepth 100000 in
set_option maxHeartbeats 1000000 in
theorem sumAll_c (wide : Bool) (K S b : List Int) (A : Option Addr) (c : Nat) (w : World) (L : Laid K S w) (h0 : 8 < w.heap.size) (h1 : 7 < w.heap.size)
    (hb : Kd.C (Kd.int .u8) w A b.length b) (hbd : ∀ i, 0 ≤ b.getD i 0 ∧ b.getD i 0 < 256) :
    Calls Tryd.prog 47 #[.slice A b.length c, .int .i64 (if wide then 512 else 256)] w fun e w' => ∃ v, e = .returned (.tuple #[v, .int .i64 (sumOf wide K S b).2]) ∧ Kd.R (Kd.int .u8) 5 w' w.heap.size (fun _ => True) v (sumOf wide K S b).1 ∧ Below w.heap.size w w' := by
  have HH := Aside0.mk (And.intro L (And.intro h0 (And.intro h1 (And.intro hb hbd))))
  clear L h0 h1 hb hbd
  obtain ⟨bits, hbits⟩ : ∃ bits : Int, bits = if wide then 512 else 256 := ⟨_, rfl⟩
  rw [← hbits]
  have HN := Aside0.mk (new_c wide K S)
  rw [← hbits] at HN
  clear hbits
  generalize hr0 : sumOf wide K S b = r0
  have HR0 := Aside0.mk hr0
  clear hr0
  go_enter Tryd.func47, Tryd.ntmps47
  go_upto_region 3 with (go_at_call 98; refine (HN.out _ HH.out.1 HH.out.2.1 HH.out.2.2.1).mono ?_; rintro e w1 ⟨p, rfl, hH1, hb1⟩; have P1 := Aside0.mk (And.intro hH1 hb1); clear hH1 hb1)
  have hw1 := P1.out.2.size
  have hp1 := P1.out.1.hbase
  have L1 := Aside0.mk (HH.out.1.below P1.out.2 HH.out.2.1 HH.out.2.2.1)
  have hC1 : Aside0 (Kd.C (Kd.int .u8) w1 A b.length b) := ⟨Kd.C_below HH.out.2.2.2.1 P1.out.2⟩
  have hA : Aside0 (Away p A b.length) := ⟨fun hn ad he => by subst he; have := C_block HH.out.2.2.2.1 hn; omega⟩
  by_cases hm : b.length ≤ 1048576
  · have hr0 : r0 = (digest wide K S b, 0) := by rw [← HR0.out]; unfold sumOf; rw [if_pos hm]
    subst hr0
    clear HR0
    go_wp2_with (first
      | (go_at_call 99
         refine (write_c w.heap.size wide K S [] p (.slice none 0 0) A c b w1 P1.out.1 L1.out hC1.out hA.out (fun k hk => by cases hk) HH.out.2.2.2.2 (by simpa using hm)).mono ?_
         rintro e w2 ⟨rfl, v2, hH2, hv2, hF2⟩
         rw [List.nil_append] at hH2
         have hB2 : Below w.heap.size w w2 := Fr.below P1.out.2 P1.out.2.size (fun i hi => by rcases hi with hi | hi; omega; cases hi) hF2
         have P2 := Aside0.mk (And.intro hH2 hB2)
         clear hH2 hv2 hF2 hB2)
      | (go_at_call 100
         refine (sum_c w.heap.size wide K S b p v2 w2 P2.out.1 (HH.out.1.below P2.out.2 HH.out.2.1 HH.out.2.2.1)).mono ?_
         rintro e w3 ⟨r, rfl, hr, hb3⟩
         have P3 := Aside0.mk (And.intro hr hb3)
         clear hr hb3))
    go_ret2
    exact ⟨r, rfl, R_weaken P3.out.1 (fun i hi => by have h3 := Kd.R_base P3.out.1 i hi; have h4 := P2.out.2.size; omega) (fun _ _ => trivial), below_step P2.out.2 P3.out.2⟩
  · have hr0 : r0 = ([], 2) := by rw [← HR0.out]; unfold sumOf; rw [if_neg hm]
    subst hr0
    clear HR0
    go_wp2_with (first
      | (go_at_call 99
         refine (writeLong_c w.heap.size wide K S [] p (.slice none 0 0) A b.length c w1 P1.out.1 (by simp; omega)).mono ?_
         rintro e w2 ⟨rfl, hb2⟩
         have P2 := Aside0.mk (below_step P1.out.2 hb2)
         clear hb2))
    go_ret2
    exact ⟨.slice none 0 0, rfl, Kd.R_nil _ _ _ _ _, P2.out⟩
set_option maxRecDepth 100000 in
set_option maxHeartbeats 1000000 in
theorem Sum256_c (K S b : List Int) (A : Option Addr) (c : Nat) (w : World) (L : Laid K S w) (h0 : 8 < w.heap.size) (h1 : 7 < w.heap.size)
    (hb : Kd.C (Kd.int .u8) w A b.length b) (hbd : ∀ i, 0 ≤ b.getD i 0 ∧ b.getD i 0 < 256) :
    Calls Tryd.prog 41 #[.slice A b.length c] w fun e w' => ∃ v, e = .returned (.tuple #[v, .int .i64 (sumOf false K S b).2]) ∧ Kd.R (Kd.int .u8) 5 w' w.heap.size (fun _ => True) v (sumOf false K S b).1 ∧ Below w.heap.size w w' := by
  have HS := Aside0.mk (sumAll_c false K S b A c w L h0 h1 hb hbd)
  clear L h0 h1 hb hbd
  generalize sumOf false K S b = r at HS ⊢
  go_enter Tryd.func41, Tryd.ntmps41
  go_wp2_with (go_at_call 47; refine HS.out.mono ?_; rintro e w1 ⟨v, rfl, hr, hb1⟩; have P1 := Aside0.mk (And.intro hr hb1); clear hr hb1)
  go_ret2
  exact ⟨v, rfl, P1.out.1, P1.out.2⟩
set_option maxRecDepth 100000 in
set_option maxHeartbeats 1000000 in
theorem Sum512_c (K S b : List Int) (A : Option Addr) (c : Nat) (w : World) (L : Laid K S w) (h0 : 8 < w.heap.size) (h1 : 7 < w.heap.size)
    (hb : Kd.C (Kd.int .u8) w A b.length b) (hbd : ∀ i, 0 ≤ b.getD i 0 ∧ b.getD i 0 < 256) :
    Calls Tryd.prog 15 #[.slice A b.length c] w fun e w' => ∃ v, e = .returned (.tuple #[v, .int .i64 (sumOf true K S b).2]) ∧ Kd.R (Kd.int .u8) 5 w' w.heap.size (fun _ => True) v (sumOf true K S b).1 ∧ Below w.heap.size w w' := by
  have HS := Aside0.mk (sumAll_c true K S b A c w L h0 h1 hb hbd)
  clear L h0 h1 hb hbd
  generalize sumOf true K S b = r at HS ⊢
  go_enter Tryd.func15, Tryd.ntmps15
  go_wp2_with (go_at_call 47; refine HS.out.mono ?_; rintro e w1 ⟨v, rfl, hr, hb1⟩; have P1 := Aside0.mk (And.intro hr hb1); clear hr hb1)
  go_ret2
  exact ⟨v, rfl, P1.out.1, P1.out.2⟩

end Go.Proofs.YtbenedckmapjoaaDoor.H
