/- The law Sha2Asks: asking changes nothing, a copy goes on by itself. -/
import Derived.Test.YtckjgipkdknmgaaDoorSs
namespace Go.Proofs.YtckjgipkdknmgaaDoor.PSum
open Go.RowKit Go.Proofs.YtckjgipkdknmgaaDoorW.PrintWords Go.Proofs.YtckjgipkdknmgaaDoorW.PrintMore Go.Proofs.YtckjgipkdknmgaaDoor.X Go.Proofs.YtckjgipkdknmgaaDoor.H
theorem HashAt_fr {base : Nat} {wide : Bool} {K S t : List Int} {p : Nat} {v : Value} {w w' : World} {T : Nat → Prop} (h : HashAt base wide K S t p v w) (f : Fr T w w') (h1 : ¬ T p) (h2 : ∀ k, v.ownBlock = some k → ¬ T k) : HashAt base wide K S t p v w' :=
  ⟨f.blk h.cells h1, R_moved h.row (fun i hi => f.block i (Kd.R_lt h.row i hi) (h2 i hi)), h.hbase, h.g0, h.g1, h.most, h.bytes⟩
theorem R_fr {e base : Nat} {ok : Nat → Prop} {v : Value} {xs : List Int} {w w' : World} {T : Nat → Prop} (h : Kd.R (Kd.int .u8) e w base ok v xs) (f : Fr T w w') (h2 : ∀ k, v.ownBlock = some k → ¬ T k) : Kd.R (Kd.int .u8) e w' base ok v xs :=
  R_moved h (fun i hi => f.block i (Kd.R_lt h i hi) (h2 i hi))
theorem HashAt_lower {base b2 : Nat} {wide : Bool} {K S t : List Int} {p : Nat} {v : Value} {w : World} (h : HashAt base wide K S t p v w) (hb : b2 ≤ base) (g0 : 0 < b2) (g1 : 1 < b2) : HashAt b2 wide K S t p v w :=
  ⟨h.cells, Kd.R_lower h.row hb, Nat.le_trans hb h.hbase, g0, g1, h.most, h.bytes⟩
theorem R_C {e base : Nat} {ok : Nat → Prop} {A : Option Addr} {m c : Nat} {xs : List Int} {w : World} (h : Kd.R (Kd.int .u8) e w base ok (.slice A m c) xs) : Kd.C (Kd.int .u8) w A m xs := by
  obtain ⟨h1, _, h3⟩ := Kd.R_reads' h
  rw [← h1] at h3
  exact h3
theorem below_of_drawn {w w' : World} (h : Drawn0 w w') : Below w.heap.size w w' := h.below
theorem digest_bytes (wide : Bool) (K S t : List Int) : (digest wide K S t).length = (if wide then 64 else 32) := by
  unfold digest
  cases wide
  · exact tell32_length _ _
  · exact tell64_length _ _
theorem refsum_c (wide : Bool) (dl : Nat) (hdl : dl = if wide then 64 else 32) (bits : Int) (hbits : bits = if wide then 512 else 256) (b : List Int) (A : Option Addr) (m c : Nat) (w : World) (hm : m = b.length) (hb : Kd.C (Kd.int .u8) w A m b) (hc : m ≤ c) (hbd : ∀ x ∈ b, 0 ≤ x ∧ x < 256) (hl : m ≤ 1048576) :
    Calls Tryd.prog 22 #[.slice A m c, .int .i64 bits] w fun e w' => ∃ A' c', e = .returned (.tuple #[.slice A' dl c', .int .i64 0]) ∧ dl ≤ c' ∧ Kd.R (Kd.int .u8) 5 w' w.heap.size (fun _ => True) (.slice A' dl c') (digest wide KS SS b) ∧ Below w.heap.size w w' := by
  subst hm hbits hdl
  obtain ⟨N, hN⟩ := ref_sum wide b (getD_bytes hbd) hl
  refine (imprimaturref02_Sum.calls (0 + N) A c b _ _ _ w hb hc (hN 0)).mono ?_
  rintro e w' ⟨v, rfl, hR, hB⟩
  obtain ⟨A', c', rfl, hc', hC'⟩ := Kd.R_reads hR
  rw [digest_bytes] at *
  exact ⟨A', c', rfl, hc', hR, hB⟩
theorem same_c {l : List Int} {A0 A1 : Option Addr} {m c0 c1 : Nat} {w : World} (hm : m = l.length) (h0 : Kd.C (Kd.int .u8) w A0 m l) (hc0 : m ≤ c0) (h1 : Kd.C (Kd.int .u8) w A1 m l) (hc1 : m ≤ c1) :
    Calls Tryd.prog 15 #[.slice A0 m c0, .slice A1 m c1] w fun e w' => e = .returned (.bool true) ∧ Below w.heap.size w w' := by
  subst hm
  refine (imprimaturref01_SameBytes.calls A0 c0 l A1 c1 l true w h0 hc0 h1 hc1 (by unfold imprimaturref01_SameBytes.f; rw [strOf_same])).mono ?_
  exact fun e w' ⟨he, hd⟩ => ⟨he, hd.below⟩
theorem which_c (wide : Bool) (bits : Int) (hbits : bits = if wide then 512 else 256) (w : World) : Calls Tryd.prog 18 #[.bool wide] w fun e w' => e = .returned (.int .i64 bits) ∧ Below w.heap.size w w' := by
  subst hbits
  exact (imprimaturlaw02_which.calls wide _ w (law_which wide)).mono fun e w' ⟨he, hd⟩ => ⟨he, hd.below⟩
theorem hsum_c (base : Nat) (wide : Bool) (dl : Nat) (hdl : dl = if wide then 64 else 32) (t : List Int) (p : Nat) (v : Value) (w : World) (H : HashAt base wide KS SS t p v w) (L : Laid KS SS w) :
    Calls Tryd.prog 20 #[.pointer (some ⟨p, 0, none⟩)] w fun e w' => ∃ A' c', e = .returned (.slice A' dl c') ∧ dl ≤ c' ∧ Kd.R (Kd.int .u8) 5 w' w.heap.size (fun _ => True) (.slice A' dl c') (digest wide KS SS t) ∧ Below w.heap.size w w' := by
  subst hdl
  refine (sum_c base wide KS SS t p v w H L).mono ?_
  rintro e w' ⟨r, rfl, hR, hB⟩
  obtain ⟨A', c', rfl, hc', hC'⟩ := Kd.R_reads hR
  rw [digest_bytes] at *
  exact ⟨A', c', rfl, hc', hR, hB⟩
theorem long_c {l : List Int} {A : Option Addr} {c : Nat} {w : World} (h0 : Kd.C (Kd.int .u8) w A l.length l) (hc0 : l.length ≤ c) (r : Bool) (hr : r = decide ((l.length : Int) > 600)) :
    Calls Tryd.prog 16 #[.slice A l.length c] w fun e w' => e = .returned (.bool r) ∧ Below w.heap.size w w' := by
  subst hr
  exact (imprimaturlaw02_long.calls A c l _ w h0 hc0 rfl).mono fun e w' ⟨he, hd⟩ => ⟨he, hd.below⟩
theorem reset_hash (base : Nat) (wide : Bool) (t : List Int) (p : Nat) (v : Value) (w : World) (H : HashAt base wide KS SS t p v w) (L : Laid KS SS w) :
    Calls Tryd.prog 23 #[.pointer (some ⟨p, 0, none⟩)] w fun e w' => e = .returned (.tuple #[]) ∧ HashAt base wide KS SS [] p (.slice none 0 0) w' ∧ Fr (fun k => k = p) w w' := by
  refine (reset_c p (shV wide) t.length v _ _ SS w (shV_size wide) (W32_length wide KS SS t _) (W64_length wide KS SS t _) H.cells L.s (by have := H.hbase; have := H.g1; omega)).mono ?_
  rintro e w' ⟨rfl, hp, hF⟩
  have e0 : ([] : List Int).length / bl wide = 0 := Nat.zero_div _
  refine ⟨rfl, ⟨?_, ?_, H.hbase, H.g0, H.g1, by simp, fun i => by simp⟩, hF⟩
  · rw [e0, W32_none, W64_none]
    exact hp
  · rw [List.drop_nil]
    exact Kd.R_nil _ _ _ _ _
end Go.Proofs.YtckjgipkdknmgaaDoor.PSum
