/- Among, by values; own ways and bridges are right. -/
import Derived.Test.YtcnpdapampclpaaDoorTe
import Derived.Test.YtcnpdapampclpaaDoorTh
import Derived.Test.YtcnpdapampclpaaDoorTj
import Derived.Test.YtcnpdapampclpaaDoorP10
namespace Go.Proofs.YtcnpdapampclpaaDoor.X
open Go.RowKit Go.Proofs.YtcnpdapampclpaaDoor.H Go.Proofs.YtcnpdapampclpaaDoorW.PrintWords Go.Proofs.YtcnpdapampclpaaDoorW.PrintLast Go.Proofs.YtcnpdapampclpaaDoorW.PrintMore Go.Proofs.YtcnpdapampclpaaDoor.PPl Go.Proofs.YtcnpdapampclpaaDoor.PPm Go.Proofs.YtcnpdapampclpaaDoor.PPn Go.Proofs.YtcnpdapampclpaaDoor.PPo Go.Proofs.YtcnpdapampclpaaDoor.PPr Go.Proofs.YtcnpdapampclpaaDoor.PTp Go.Proofs.YtcnpdapampclpaaDoor.PTq Go.Proofs.YtcnpdapampclpaaDoor.PTr Go.Proofs.YtcnpdapampclpaaDoor.PRa
set_option linter.unusedVariables false
theorem among_v (w : World) (a : Int) (n : Nat) (h1 : 1 ≤ n) (h2 : n ≤ 10000) : Calls Tryd.prog 44 #[.int .i64 a, .int .i64 n] w fun e w' => e = .returned (.int .i64 (am a n)) ∧ Below w.heap.size w w' := by
  refine (imprimaturref01_Among.calls a n (am a n) w (am_eq a n h1 h2).1).mono ?_
  rintro e w' ⟨rfl, hd⟩
  exact ⟨rfl, hd.below⟩
theorem hdL_pos {M : List (List Int)} {n : Nat} (h : 1 ≤ n) : hdL M n = headL n (topL (M.take n)) := by
  unfold hdL
  rw [if_neg (by omega)]
theorem in_own' (M : List (List Int)) (n q : Nat) (hv : Lv M) (hn : n ≤ M.length) (hM : M.length ≤ 4096) (h1 : 1 ≤ n) (hq : q < n) : ∃ k, trail_In.f k (hdL M n) n q (M.getD q []) (walkL (M.take n) q) = some 0 := by
  have hl : (M.take n).length = n := by rw [List.length_take]; omega
  have hw := walkL_32 n (M.take n) q hl (hv.take n)
  have hlen := walkL_length n (M.take n) q hl
  have hp := pathL_length n q
  rw [hdL_pos h1]
  refine ⟨n + 32, ?_⟩
  rw [in_good h1 (by omega) hq ⟨headL_length _ _, headL_bytes _ _⟩ (hv _ (getD_mem' (by omega))) hw (by omega) (Nat.le_refl _), in_own M n q hv hn hq]
theorem begins_own' (M : List (List Int)) (n m : Nat) (hv : Lv M) (hn : n ≤ M.length) (hM : M.length ≤ 4096) (h1 : 1 ≤ m) (hm : m ≤ n) : ∃ k, trail_Begins.f k (hdL M m) m (topL (M.take m)) (hdL M n) n (bridgeL (M.take n) m true) = some 0 := by
  have hb := bridgeL_ok n (M.take n) m true (by rw [List.length_take]; omega) h1 hm (hv.take n)
  have ht := topL_32 (hv.take m) (by rw [List.length_take]; omega)
  rw [hdL_pos h1, hdL_pos (show 1 ≤ n by omega)]
  refine ⟨2 * n + 10, ?_⟩
  rw [begins_good h1 hm (by omega) ⟨headL_length _ _, headL_bytes _ _⟩ ht ⟨headL_length _ _, headL_bytes _ _⟩ hb.2 (by have := hb.1; omega) (Nat.le_refl _), begins_own M n m hn h1 hm]
theorem marks_get (l : List (List Int)) (q : Nat) (h : q < l.length) : (marks l).getD q [] = dig (16 :: l.getD q []) := by
  unfold marks
  rw [List.getD_eq_getElem?_getD, List.getElem?_map, List.getD_eq_getElem?_getD, List.getElem?_eq_getElem h]
  rfl
end Go.Proofs.YtcnpdapampclpaaDoor.X
