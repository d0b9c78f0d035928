/- A trail of marks, at hand: what each question answers, whatever is asked. -/
import Derived.Test.YtcnpdapampclpaaDoorT8
import Derived.Test.YtcnpdapampclpaaDoorT9
namespace Go.Proofs.YtcnpdapampclpaaDoor.X
open Go.RowKit Go.Proofs.YtcnpdapampclpaaDoor.H Go.Proofs.YtcnpdapampclpaaDoorW.PrintWords Go.Proofs.YtcnpdapampclpaaDoorW.PrintLast Go.Proofs.YtcnpdapampclpaaDoorW.PrintMore Go.Proofs.YtcnpdapampclpaaDoor.PPl Go.Proofs.YtcnpdapampclpaaDoor.PPm Go.Proofs.YtcnpdapampclpaaDoor.PPn Go.Proofs.YtcnpdapampclpaaDoor.PPo Go.Proofs.YtcnpdapampclpaaDoor.PTp Go.Proofs.YtcnpdapampclpaaDoor.PRa
set_option linter.unusedVariables false
set_option linter.unusedSimpArgs false
structure LT (p : Nat) (M : List (List Int)) (w : World) : Prop where
  glb : Glb w
  ex : ∃ base vs, 1 < base ∧ TrailR base p M.length vs (levL M) w
  lv : Lv M
  le : M.length ≤ 4096
abbrev Bs (w' : World) (base : Nat) (v : Value) (x : List Int) : Prop := Kd.R (Kd.int .u8) 5 w' base (fun k => base ≤ k) v x
abbrev Ns (w' : World) (base : Nat) (v : Value) (x : List (List Int)) : Prop := Kd.N dB 23 w' base (fun k => base ≤ k) v x
section
variable {p : Nat} {M : List (List Int)} {w w1 : World}
theorem LT.below (h : LT p M w) (hb : Below w.heap.size w w1) : LT p M w1 := by
  obtain ⟨base, vs, h1, hT⟩ := h.ex
  exact ⟨h.glb.of hb, ⟨base, vs, h1, hT.below hb⟩, h.lv, h.le⟩
theorem LT.size (h : LT p M w) : Calls Tryd.prog 16 #[.pointer (some ⟨p, 0, none⟩)] w fun e w' => e = .returned (.int .i64 M.length) ∧ Below w.heap.size w w' := by
  obtain ⟨base, vs, h1, hT⟩ := h.ex
  exact size_c w hT
theorem LT.top (h : LT p M w) (n : Nat) (h1 : 1 ≤ n) (h2 : n ≤ M.length) : Calls Tryd.prog 18 #[.pointer (some ⟨p, 0, none⟩), .int .i64 n] w fun e w' => ∃ v, e = .returned (.tuple #[v, .int .i64 0]) ∧ Bs w' w.heap.size v (topL (M.take n)) ∧ Below w.heap.size w w' := by
  obtain ⟨base, vs, hb, hT⟩ := h.ex
  exact top_c base p vs M w h.glb hT h.lv h.le hb n h1 h2
theorem LT.top_no (h : LT p M w) (n : Int) (h1 : n < 1 ∨ (M.length : Int) < n) : Calls Tryd.prog 18 #[.pointer (some ⟨p, 0, none⟩), .int .i64 n] w fun e w' => e = .returned (.tuple #[.slice none 0 0, .int .i64 1]) ∧ Below w.heap.size w w' := by
  obtain ⟨base, vs, hb, hT⟩ := h.ex
  exact top_err base p vs M w hT n h1
theorem LT.head (h : LT p M w) (n : Nat) (h2 : n ≤ M.length) : Calls Tryd.prog 19 #[.pointer (some ⟨p, 0, none⟩), .int .i64 n] w fun e w' => ∃ v, e = .returned (.tuple #[v, .int .i64 0]) ∧ Bs w' w.heap.size v (hdL M n) ∧ Below w.heap.size w w' := by
  obtain ⟨base, vs, hb, hT⟩ := h.ex
  exact head_c base p vs M w h.glb hT h.lv h.le hb n h2
theorem LT.head_no (h : LT p M w) (n : Int) (h1 : n < 0 ∨ (M.length : Int) < n) : Calls Tryd.prog 19 #[.pointer (some ⟨p, 0, none⟩), .int .i64 n] w fun e w' => e = .returned (.tuple #[.slice none 0 0, .int .i64 1]) ∧ Below w.heap.size w w' := by
  obtain ⟨base, vs, hb, hT⟩ := h.ex
  exact head_err base p vs M w hT n h1
theorem LT.way (h : LT p M w) (n q : Nat) (h2 : n ≤ M.length) (hq : q < n) : Calls Tryd.prog 27 #[.pointer (some ⟨p, 0, none⟩), .int .i64 n, .int .i64 q] w fun e w' => ∃ v, e = .returned (.tuple #[v, .int .i64 0]) ∧ Ns w' w.heap.size v (walkL (M.take n) q) ∧ Below w.heap.size w w' := by
  obtain ⟨base, vs, hb, hT⟩ := h.ex
  exact way_c base p vs M w h.glb hT h.lv h.le hb n q h2 hq
theorem LT.way_no (h : LT p M w) (n q : Int) (h1 : n < 1 ∨ (M.length : Int) < n ∨ q < 0 ∨ n ≤ q) : Calls Tryd.prog 27 #[.pointer (some ⟨p, 0, none⟩), .int .i64 n, .int .i64 q] w fun e w' => e = .returned (.tuple #[.slice none 0 0, .int .i64 1]) ∧ Below w.heap.size w w' := by
  obtain ⟨base, vs, hb, hT⟩ := h.ex
  by_cases h3 : n < 1 ∨ (M.length : Int) < n
  · exact way_err base p vs M w hT n q h3
  · exact way_err2 base p vs M w hT n q (by omega) (by omega) (by omega)
theorem LT.bridge (h : LT p M w) (n m : Nat) (h2 : n ≤ M.length) (h1 : 1 ≤ m) (hm : m ≤ n) : Calls Tryd.prog 28 #[.pointer (some ⟨p, 0, none⟩), .int .i64 m, .int .i64 n] w fun e w' => ∃ v, e = .returned (.tuple #[v, .int .i64 0]) ∧ Ns w' w.heap.size v (bridgeL (M.take n) m true) ∧ Below w.heap.size w w' := by
  obtain ⟨base, vs, hb, hT⟩ := h.ex
  exact bridge_c base p vs M w h.glb hT h.lv h.le hb n m h2 h1 hm
theorem LT.bridge_no (h : LT p M w) (n m : Int) (h1 : n < 1 ∨ (M.length : Int) < n ∨ m < 1 ∨ n < m) : Calls Tryd.prog 28 #[.pointer (some ⟨p, 0, none⟩), .int .i64 m, .int .i64 n] w fun e w' => e = .returned (.tuple #[.slice none 0 0, .int .i64 1]) ∧ Below w.heap.size w w' := by
  obtain ⟨base, vs, hb, hT⟩ := h.ex
  by_cases h3 : n < 1 ∨ (M.length : Int) < n
  · exact bridge_err base p vs M w hT m n h3
  · exact bridge_err2 base p vs M w hT m n (by omega) (by omega) (by omega)
end
theorem row_lt (A : Option Addr) (c : Nat) (l : List (List Int)) (w : World) (HG : Glb w) (hC : Kd.C dB w A l.length l) (hb : ∀ x ∈ l, (∀ y ∈ x, 0 ≤ y ∧ y < 256) ∧ x.length ≤ 8192) (hl : l.length ≤ 4096) :
    Calls Tryd.prog 15 #[.slice A l.length c] w fun e w' => e = .returned (.pointer (some ⟨w.heap.size, 0, none⟩)) ∧ LT w.heap.size (marks l) w' ∧ Below w.heap.size w w' := by
  refine (row_c A c l w HG hC hb hl).mono ?_
  rintro e w' ⟨vs, rfl, hT, hB⟩
  exact ⟨rfl, ⟨HG.of hB, ⟨w.heap.size, vs, by have := HG.g0; have := HG.g1; omega, hT⟩, marks_lv l, by rw [marks_length]; exact hl⟩, hB⟩
section
variable {w w1 : World} {v : Value} {A : Option Addr} {n c : Nat}
theorem row_v {l : List (List Int)} (HG : Glb w) (h : IsN w v l) (hb : ∀ x ∈ l, (∀ y ∈ x, 0 ≤ y ∧ y < 256) ∧ x.length ≤ 8192) (hl : l.length ≤ 4096) :
    Calls Tryd.prog 15 #[v] w fun e w' => e = .returned (.pointer (some ⟨w.heap.size, 0, none⟩)) ∧ LT w.heap.size (marks l) w' ∧ Below w.heap.size w w' := by
  obtain ⟨A, c, rfl, h1, h2⟩ := h
  exact row_lt A c l w HG h2 hb hl
end
end Go.Proofs.YtcnpdapampclpaaDoor.X
