/- All that is digested: so many, so long; sizes of worlds. -/
import Derived.Test.YtcnpdapampclpaaDoorTn
namespace Go.Proofs.YtcnpdapampclpaaDoor.X
open Go.RowKit Go.Proofs.YtcnpdapampclpaaDoor.H Go.Proofs.YtcnpdapampclpaaDoorW.PrintWords Go.Proofs.YtcnpdapampclpaaDoorW.PrintLast Go.Proofs.YtcnpdapampclpaaDoorW.PrintMore Go.Proofs.YtcnpdapampclpaaDoor.PPl Go.Proofs.YtcnpdapampclpaaDoor.PPm Go.Proofs.YtcnpdapampclpaaDoor.PPn Go.Proofs.YtcnpdapampclpaaDoor.PTp Go.Proofs.YtcnpdapampclpaaDoor.PRa Go.Proofs.YtcnpdapampclpaaDoor.PRb Go.Proofs.YtcnpdapampclpaaDoor.PRd
set_option linter.unusedVariables false
def Sz (w : World) (s : Nat) : Prop := s ≤ w.heap.size
theorem Sz.below {w w1 : World} {s : Nat} (h : Sz w s) (hb : Below w.heap.size w w1) : Sz w1 s := Nat.le_trans h hb.size
theorem below_new {w w1 : World} (hg : w.grownBy w1 none) : Below w.heap.size w w1 := ⟨hg.os, hg.tape, hg.output, hg.size, fun k hk => hg.block k hk (by simp)⟩
theorem Nq.slice {w : World} {B s : Nat} {v : Value} {xs : List (List Int)} (h : Nq w B s v xs) : ∃ A c, v = .slice A xs.length c := by
  obtain ⟨b, h⟩ := h
  exact Kd.N_slice h
/-- All texts that are digested: so many, so long. -/
theorem all_ok (l : List (List Int)) (tx : List (List Int)) (hs : List (List Int)) (M : List (List Int)) (hv : Lv M) (hM : M.length ≤ 40) (hl : l.length ≤ 40) (hb : ∀ x ∈ l, BytesB x ∧ x.length ≤ 8192) (ht : tx.length ≤ 1100 ∧ ∀ t ∈ tx, BytesB t ∧ t.length ≤ 65) (hh : hs.length ≤ 3 ∧ ∀ t ∈ hs, BytesB t ∧ t.length ≤ 65) :
    (tx ++ hs ++ textsL M ++ mtexts l).length ≤ 10000 ∧ ∀ x ∈ tx ++ hs ++ textsL M ++ mtexts l, BytesB x ∧ x.length ≤ 1000000 := by
  have hx := textsL_ok M.length M rfl hv
  have hm : (mtexts l).length ≤ 42 := by unfold mtexts; simp; omega
  refine ⟨by simp only [List.length_append]; omega, fun x h => ?_⟩
  rcases List.mem_append.1 h with h | h
  · rcases List.mem_append.1 h with h | h
    · rcases List.mem_append.1 h with h | h
      · have := ht.2 x h; exact ⟨this.1, by omega⟩
      · have := hh.2 x h; exact ⟨this.1, by omega⟩
    · have := hx.2 x h; exact ⟨this.1, by omega⟩
  · unfold mtexts at h
    rcases List.mem_append.1 h with h | h
    · simp only [List.mem_cons, List.not_mem_nil, or_false] at h
      rcases h with rfl | rfl
      · exact ⟨isBytes_cons (by decide) (isBytes_app (e8_bytes _) (fun y hy => by cases hy)), by decide⟩
      · exact ⟨isBytes_cons (by decide) (by decide), by decide⟩
    · obtain ⟨y, hy, rfl⟩ := List.mem_map.1 h
      have := hb y hy
      exact ⟨isBytes_cons (by decide) this.1, by simp only [List.length_cons]; omega⟩
theorem head_ok {n : Nat} {x : List Int} (hb : BytesB x) (hl : x.length ≤ 32) : BytesB (18 :: (e8 n ++ x)) ∧ (18 :: (e8 n ++ x) : List Int).length ≤ 65 := ⟨isBytes_cons (by decide) (isBytes_app (e8_bytes _) hb), by have := e8_length n; simp only [List.length_cons, List.length_append]; omega⟩
end Go.Proofs.YtcnpdapampclpaaDoor.X
