/- What the reference climbs, gathered. -/
import Derived.Test.YtcnpdapampclpaaDoorTn
import Derived.Test.YtcnpdapampclpaaDoorTh
import Derived.Test.YtcnpdapampclpaaDoorP13
import Derived.Test.YtcnpdapampclpaaDoorP11
namespace Go.Proofs.YtcnpdapampclpaaDoor.X
open Go.RowKit Go.Proofs.YtcnpdapampclpaaDoor.H Go.Proofs.YtcnpdapampclpaaDoorW.PrintWords Go.Proofs.YtcnpdapampclpaaDoorW.PrintLast Go.Proofs.YtcnpdapampclpaaDoorW.PrintMore Go.Proofs.YtcnpdapampclpaaDoor.PPl Go.Proofs.YtcnpdapampclpaaDoor.PPm Go.Proofs.YtcnpdapampclpaaDoor.PPn Go.Proofs.YtcnpdapampclpaaDoor.PPr Go.Proofs.YtcnpdapampclpaaDoor.PTp Go.Proofs.YtcnpdapampclpaaDoor.PTq Go.Proofs.YtcnpdapampclpaaDoor.PRa Go.Proofs.YtcnpdapampclpaaDoor.PRb Go.Proofs.YtcnpdapampclpaaDoor.PRd Go.Proofs.YtcnpdapampclpaaDoor.PRe
set_option linter.unusedVariables false
theorem refup_q {w0 w : World} {B : Nat} {vk v2 v3 : Value} {M way : List (List Int)} {mark : List Int} {n q : Nat} (hb : Below w0.heap.size w0 w) (hle0 : w0.heap.size ≤ B) (VQ : Vq w B vk M) (h2 : IsB w v2 mark) (h3 : IsN w v3 way)
    (hm : mark.length = 32 ∧ BytesB mark) (hv : Lv way) (hl : way.length ≤ 5000) (h1 : 1 ≤ n) (hn : n ≤ 4096) (hq : q < n) :
    Calls Tryd.prog 36 #[.int .i64 n, .int .i64 q, v2, v3] w fun e w' => ∃ v0 v1, e = .returned (.tuple #[v0, v1, .bool (upT n q mark way).2.2]) ∧ (IsB w' v0 (upT n q mark way).1 ∧ Dg w0 w' B vk M v1 (upT n q mark way).2.1) ∧ Below w.heap.size w w' := by
  obtain ⟨A2, c2, rfl, hV2⟩ := h2.V
  obtain ⟨A3, c3, rfl, d1, d2⟩ := h3
  refine (imprimaturref20_Up.calls 5000 n q _ A2 c2 mark A3 c3 way (upT n q mark way).1 (upT n q mark way).2.1 (upT n q mark way).2.2 w hV2 d2 d1 (refup_f n q mark way 5000 hm hv (by omega) h1 hn hq (by omega))).mono ?_
  rintro e w' ⟨v0, v1, rfl, hV, hS, hB⟩
  have hq' := VQ.below hB
  obtain ⟨A', c', rfl, h1', h2'⟩ := hV
  exact ⟨_, v1, rfl, ⟨⟨A', c', rfl, h1', Kd.F_now h2'⟩, Dg.mk' (below_step hb hB) hle0 hq'.2 hq'.isN hq'.1 VQ.2 (Kd.S_N hS)⟩, hB⟩
def Sz (w : World) (s : Nat) : Prop := s ≤ w.heap.size
theorem Sz.below {w w1 : World} {s : Nat} (h : Sz w s) (hb : Below w.heap.size w w1) : Sz w1 s := Nat.le_trans h hb.size
theorem below_new {w w1 : World} (hg : w.grownBy w1 none) : Below w.heap.size w w1 := ⟨hg.os, hg.tape, hg.output, hg.size, fun k hk => hg.block k hk (by simp)⟩
theorem Nq.slice {w : World} {B s : Nat} {v : Value} {xs : List (List Int)} (h : Nq w B s v xs) : ∃ A c, v = .slice A xs.length c := by
  obtain ⟨b, h⟩ := h
  exact Kd.N_slice h
/-- All texts that are digested: so many, so long. -/
theorem all_ok (l : List (List Int)) (tx : List (List Int)) (hs : List (List Int)) (M : List (List Int)) (hv : Lv M) (hM : M.length ≤ 40) (hl : l.length ≤ 40) (hb : ∀ x ∈ l, BytesB x ∧ x.length ≤ 8192) (ht : tx.length ≤ 1100 ∧ ∀ t ∈ tx, BytesB t ∧ t.length ≤ 65) (hh : hs.length ≤ 3 ∧ ∀ t ∈ hs, BytesB t ∧ t.length ≤ 65) :
    (tx ++ hs ++ textsL M ++ mtexts l).length ≤ 10000 ∧ ∀ x ∈ tx ++ hs ++ textsL M ++ mtexts l, BytesB x ∧ x.length ≤ 1000000 := by
  have hx := textsL_ok M.length M rfl hv
  have hm : (mtexts l).length ≤ 42 := by unfold mtexts; simp; omega
  refine ⟨by simp only [List.length_append]; omega, fun x h => ?_⟩
  rcases List.mem_append.1 h with h | h
  · rcases List.mem_append.1 h with h | h
    · rcases List.mem_append.1 h with h | h
      · have := ht.2 x h; exact ⟨this.1, by omega⟩
      · have := hh.2 x h; exact ⟨this.1, by omega⟩
    · have := hx.2 x h; exact ⟨this.1, by omega⟩
  · unfold mtexts at h
    rcases List.mem_append.1 h with h | h
    · simp only [List.mem_cons, List.not_mem_nil, or_false] at h
      rcases h with rfl | rfl
      · exact ⟨isBytes_cons (by decide) (isBytes_app (e8_bytes _) (fun y hy => by cases hy)), by decide⟩
      · exact ⟨isBytes_cons (by decide) (by decide), by decide⟩
    · obtain ⟨y, hy, rfl⟩ := List.mem_map.1 h
      have := hb y hy
      exact ⟨isBytes_cons (by decide) this.1, by simp only [List.length_cons]; omega⟩
theorem head_ok {n : Nat} {x : List Int} (hb : BytesB x) (hl : x.length ≤ 32) : BytesB (18 :: (e8 n ++ x)) ∧ (18 :: (e8 n ++ x) : List Int).length ≤ 65 := ⟨isBytes_cons (by decide) (isBytes_app (e8_bytes _) hb), by have := e8_length n; simp only [List.length_cons, List.length_append]; omega⟩
/-- A clash there is, where something else is in the row. -/
theorem clash_only (l : List (List Int)) (n q : Nat) (mark : List Int) (way : List (List Int)) (hl1 : 1 ≤ l.length) (hl : l.length ≤ 40) (hb : ∀ x ∈ l, BytesB x ∧ x.length ≤ 8192) (hn : n ≤ 4096) (hq : q < n) (hm : mark.length = 32 ∧ BytesB mark) (hw : Lv way) (hwl : way.length ≤ 1000)
    (h : inL n q (headL (marks l).length (topL (marks l))) mark way = 0) (hne : ¬ (n = (marks l).length ∧ mark = (marks l).getD q [] ∧ way = walkL (marks l) q)) :
    ∃ k, imprimaturref06_Clash.f k ((upT n q mark way).2.1 ++ [18 :: (e8 n ++ (upT n q mark way).1), 18 :: (e8 (marks l).length ++ topL (marks l))] ++ textsL (marks l) ++ mtexts l) = some true := by
  have hML := marks_length l
  have u := upT_ok n q mark way hm hw
  have ht := topL_32 (marks_lv l) (by omega)
  have ok := all_ok l (upT n q mark way).2.1 [18 :: (e8 n ++ (upT n q mark way).1), 18 :: (e8 (marks l).length ++ topL (marks l))] (marks l) (marks_lv l) (by omega) hl hb ⟨by omega, u.2.2.1⟩ ⟨by simp, fun t h => by
    simp only [List.mem_cons, List.not_mem_nil, or_false] at h
    rcases h with rfl | rfl
    · exact head_ok u.1.2 u.1.1
    · exact head_ok ht.2 (by omega)⟩
  obtain ⟨b, hf, hI⟩ := clash_eq _ ok.1 ok.2 200000000 (Nat.le_refl _)
  cases b
  · exfalso
    exact hne (in_only (marks l) n q mark way (marks_lv l) (by omega) (by omega) hn hq hm hw h ((hI rfl).sub (fun x hx => List.mem_append.2 (.inl hx))))
  · exact ⟨_, hf⟩
end Go.Proofs.YtcnpdapampclpaaDoor.X
