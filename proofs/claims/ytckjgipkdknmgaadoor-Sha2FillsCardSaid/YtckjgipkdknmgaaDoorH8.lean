/- Contracts of sha2's tell: the eight words as bytes. -/
import Derived.Test.YtckjgipkdknmgaaDoorH7
import Derived.OwnWalk
import Derived.Test.YtckjgipkdknmgaaDoorWMore
namespace Go.Proofs.YtckjgipkdknmgaaDoor.H
open Go.RowKit Go.Proofs.YtckjgipkdknmgaaDoorW.PrintWords
/-- The first j bytes of a word, the greatest first. -/
def em32 (x : Int) : Nat → List Int
  | 0 => []
  | j + 1 => em32 x j ++ [IntKind.u8.wrap (x / 2 ^ (8 * (3 - j)))]
theorem em32_succ (x : Int) (j : Nat) : em32 x (j + 1) = em32 x j ++ [IntKind.u8.wrap (x / 2 ^ (8 * (3 - j)))] := rfl
def tell32 (h : List Int) : Nat → List Int
  | 0 => []
  | n + 1 => tell32 h n ++ em32 (h.getD n 0) 4
theorem em32_length (x : Int) : ∀ j, (em32 x j).length = j
  | 0 => rfl
  | j + 1 => by unfold em32; rw [List.length_append, em32_length x j]; rfl
theorem tell32_length (h : List Int) : ∀ n, (tell32 h n).length = 4 * n
  | 0 => rfl
  | n + 1 => by unfold tell32; rw [List.length_append, em32_length, tell32_length h n]; omega
theorem own_made_cap (W : World) (base : Nat) (e : TypeId) (n : Nat) (cs : Array Value) (hb : base ≤ W.heap.size) (hc : cs.size = n) (hm : n ≤ maxLen) : (W.alloc (.cells cs e)).ownsRow base e 1 (.slice (some ⟨W.heap.size, 0, none⟩) 0 n) 0 [] :=
  ⟨rfl, .inr ⟨W.heap.size, n, cs, rfl, hb, new1 _ _, Nat.zero_le _, hm, by omega, by simp⟩⟩
set_option maxRecDepth 100000 in
theorem index32 (h : List Int) (hl : h.length = 8) (n : Nat) (hn : n < 8) : ∀ w : World, (Instr.index 62 (.agg (cells32 h)) (.int .i64 (n : Int))).run Tryd.prog w = .ok (.int .u32 (h.getD n 0)) w := by
  obtain ⟨h0, h1, h2, h3, h4, h5, h6, h7, rfl⟩ := eight_of hl
  intro w
  match n, hn with
  | 0, _ => (show _ = _; kernel_rfl)
  | 1, _ => (show _ = _; kernel_rfl)
  | 2, _ => (show _ = _; kernel_rfl)
  | 3, _ => (show _ = _; kernel_rfl)
  | 4, _ => (show _ = _; kernel_rfl)
  | 5, _ => (show _ = _; kernel_rfl)
  | 6, _ => (show _ = _; kernel_rfl)
  | 7, _ => (show _ = _; kernel_rfl)
theorem info_u8 : (Tryd.prog.info? 5).map (fun i => (i.zero, i.size, i.bytes)) = some (some (.int .u8 0), 1, 1) := by kernel_rfl
set_option maxRecDepth 100000 in
set_option maxHeartbeats 2000000 in
theorem tell32_c (h : List Int) (hl : h.length = 8) (w : World) : Calls Tryd.prog 38 #[.agg narrowV, .agg (cells32 h)] w fun e w' => ∃ v, e = .returned v ∧ w'.ownsRow w.heap.size 5 1 v (tell32 h 8).length (nums .u8 (tell32 h 8)) ∧ Below w.heap.size w w' := by
  have hmk : ∀ W : World, (Instr.makeSlice 23 (.int .i64 0) (.int .i64 32)).run Tryd.prog W = .ok (.slice (some ⟨W.heap.size, 0, none⟩) 0 32) (W.alloc (.cells (Array.replicate 32 (.int .u8 0)) 5)) := fun _ => by kernel_rfl
  have hs8 : (cells32 h).size = 8 := by simpa [cells32] using hl
  have H8 := Lib.hid hs8
  have hi8 : (Tryd.prog.info? 62).map (·.size) = some (cells32 h).size := by rw [hs8]; kernel_rfl
  have HI := Lib.hid hi8
  have HL := Lib.hid hl
  clear hs8 hi8 hl
  unfold narrowV
  go_enter Tryd.func38, Tryd.ntmps38
  go_wp2_with (refine wpList_load_row rfl 62 (.tmp 3) rfl (w.heap.size + 1) (by rfl) 62 (cells32 h) (0, 0) _ (blk_alloc (new2 _ _ _) _) Tryd.underlying62 rfl HI.out ?_)
  have O0 : Aside0 (World.ownsRow (((w.alloc (.cells narrowV 58)).alloc (.cells (cells32 h) 62)).alloc (.cells (Array.replicate 32 (.int .u8 0)) 5)) w.heap.size 5 1 (.slice (some ⟨w.heap.size + 1 + 1, 0, none⟩) 0 32) (tell32 h 0).length (nums .u8 (tell32 h 0))) := ⟨by
    have := own_made_cap ((w.alloc (.cells narrowV 58)).alloc (.cells (cells32 h) 62)) w.heap.size 5 32 (Array.replicate 32 (.int .u8 0)) (by simp; omega) (by simp) (by decide)
    simpa [tell32, nums] using this⟩
  have BA : Aside0 (Below w.heap.size w (((w.alloc (.cells narrowV 58)).alloc (.cells (cells32 h) 62)).alloc (.cells (Array.replicate 32 (.int .u8 0)) 5))) := ⟨below_alloc (below_alloc (below_alloc (Below.refl _ _) _) _) _⟩
  have S0 : Aside0 ((((w.alloc (.cells narrowV 58)).alloc (.cells (cells32 h) 62)).alloc (.cells (Array.replicate 32 (.int .u8 0)) 5)).heap[w.heap.size]? = some (.cells narrowV 58 (0, 0))) := ⟨blk_alloc (blk_alloc (new1 _ _) _) _⟩
  go_loopg [5, 14] 8 (fun m v t wr => ∃ n : Nat, n + m = 8 ∧ t = .int .i64 (n : Int) ∧ Aside0 (wr.ownsRow w.heap.size 5 1 v (tell32 h n).length (nums .u8 (tell32 h n))) ∧ Aside0 (v.ownBlock ≠ some w.heap.size) ∧ Aside0 (wr.heap[w.heap.size]? = some (.cells narrowV 58 (0, 0))) ∧ Aside0 (Below w.heap.size w wr))
  case atStart => exact ⟨0, by omega, rfl, O0, ⟨by simp [Value.ownBlock]; omega⟩, S0, BA⟩
  case round =>
    clear O0 BA S0
    obtain ⟨n, hn', rfl, HO, HNE, BS, HB⟩ := hrel
    have hn : n ≤ 8 := by omega
    have HN := Lib.hid hn'
    clear hn'
    by_cases hlt : n < 8
    · have hn0 : (0 : Int) ≤ (n : Int) := by omega
      have hn1 : (n : Int) < 8 := by omega
      have c0 : wr.cell? ⟨w.heap.size, 0, none⟩ = some (.int .i64 4) := (blk_cell BS.out 0).trans rfl
      have hix := index32 h HL.out n hlt
      generalize hX : h.getD n 0 = X at hix
      have HX := Lib.hid hX
      clear hX
      go_wp2
      have HO2 : Aside0 (wr.ownsRow w.heap.size 5 1 u5 (tell32 h n ++ em32 X 0).length (nums .u8 (tell32 h n ++ em32 X 0))) := ⟨by rw [show em32 X 0 = [] from rfl, List.append_nil]; exact HO.out⟩
      clear HO c0 hix
      obtain ⟨wo, rfl⟩ : ∃ wo : World, wo = wr := ⟨_, rfl⟩
      go_loopg [5, 8] 4 (fun m v t wr => ∃ j : Nat, j + m = 4 ∧ t = .int .i64 ((m : Int) - 1) ∧ Aside0 (wr.ownsRow w.heap.size 5 1 v (tell32 h n ++ em32 X j).length (nums .u8 (tell32 h n ++ em32 X j))) ∧ Aside0 (v.ownBlock ≠ some w.heap.size) ∧ Aside0 (wr.heap[w.heap.size]? = some (.cells narrowV 58 (0, 0))) ∧ Aside0 (Below w.heap.size w wr))
      case atStart => exact ⟨0, by omega, rfl, HO2, HNE, BS, HB⟩
      case round =>
        clear HO2 HNE BS HB
        obtain ⟨j, hj', rfl, HO, HNE, BS, HB⟩ := hrel
        cases gk with
        | zero =>
          obtain rfl : j = 4 := by omega
          rw [show (((0 : Nat) : Int) - 1) = (-1 : Int) from rfl]
          go_wp2
          have hN := HN.out
          go_roundg (7 - n)
          case measure => omega
          case rel =>
            refine ⟨n + 1, by omega, by go_num, ?_, HNE, BS, HB⟩
            unfold tell32
            rw [HX.out]
            exact HO
        | succ k =>
          have hk : k ≤ 3 := by omega
          have hjk : j = 3 - k := by omega
          have HJ := Lib.hid hjk
          have hxl : (tell32 h n ++ em32 X j).length ≤ 36 := by rw [List.length_append, tell32_length, em32_length]; omega
          have hsz : w.heap.size ≤ wr.heap.size := HB.out.size
          clear hj' hjk
          rw [show (((k + 1 : Nat) : Int) - 1) = (k : Int) by omega]
          go_wp2_with (at_builtin; refine print_append_num (w0 := w) w.heap.size rfl (.tmp 24) (.tmp 30) 23 5 .u8 1 rfl Tryd.underlying23 info_u8 (by decide) _ (tell32 h n ++ em32 X j) _ (by rfl) (by rfl) HO.out HB.out hsz (by omega) ?_; intro v1 w1 hown hB hg hat)
          have hy := hown
          clear hown
          go_roundg k
          case measure => omega
          case rel =>
            refine ⟨j + 1, by have := HJ.out; omega, by go_num, ⟨?_⟩, ⟨?_⟩, ⟨blk_grown BS.out hg (fun e => HNE.out e.symm)⟩, ⟨hB⟩⟩
            · rw [em32_succ, ← List.append_assoc, show 3 - j = k by have := HJ.out; omega]
              exact hy
            · rcases hat with hat | ⟨b, hat, hb⟩
              · rw [hat]; exact HNE.out
              · rw [hat]; have := blk_lt BS.out; intro e; injection e with e; omega
    · obtain rfl : n = 8 := by omega
      go_wp2
      go_ret
      exact ⟨_, rfl, HO.out, HB.out⟩
end Go.Proofs.YtckjgipkdknmgaaDoor.H
