/- What the reference tells of a bridge, gathered. -/
import Derived.Test.YtcnpdapampclpaaDoorTo
import Derived.Test.YtcnpdapampclpaaDoorTj
import Derived.Test.YtcnpdapampclpaaDoorP14
import Derived.Test.YtcnpdapampclpaaDoorP11b
namespace Go.Proofs.YtcnpdapampclpaaDoor.X
open Go.RowKit Go.Proofs.YtcnpdapampclpaaDoor.H Go.Proofs.YtcnpdapampclpaaDoorW.PrintWords Go.Proofs.YtcnpdapampclpaaDoorW.PrintLast Go.Proofs.YtcnpdapampclpaaDoorW.PrintMore Go.Proofs.YtcnpdapampclpaaDoor.PPl Go.Proofs.YtcnpdapampclpaaDoor.PPm Go.Proofs.YtcnpdapampclpaaDoor.PPn Go.Proofs.YtcnpdapampclpaaDoor.PPr Go.Proofs.YtcnpdapampclpaaDoor.PTp Go.Proofs.YtcnpdapampclpaaDoor.PTr Go.Proofs.YtcnpdapampclpaaDoor.PRa Go.Proofs.YtcnpdapampclpaaDoor.PRb Go.Proofs.YtcnpdapampclpaaDoor.PRd Go.Proofs.YtcnpdapampclpaaDoor.PRo
set_option linter.unusedVariables false
theorem told_q {w0 w : World} {B : Nat} {vk v2 v3 : Value} {M pr : List (List Int)} {top : List Int} {m n : Nat} (hb : Below w0.heap.size w0 w) (hle0 : w0.heap.size ≤ B) (VQ : Vq w B vk M) (h2 : IsB w v2 top) (h3 : IsN w v3 pr)
    (ht : top.length = 32 ∧ BytesB top) (hv : Lv pr) (hl : pr.length ≤ 5000) (h1 : 1 ≤ m) (hmn : m ≤ n) (hn : n ≤ 4096) :
    Calls Tryd.prog 43 #[.int .i64 m, .int .i64 n, v2, v3, .bool true] w fun e w' => ∃ v0 v1 v2, e = .returned (.tuple #[v0, v1, v2, .bool (toldT m n top pr true).2.2.2]) ∧ (IsB w' v1 (toldT m n top pr true).2.1 ∧ Dg w0 w' B vk M v2 (toldT m n top pr true).2.2.1) ∧ Below w.heap.size w w' := by
  obtain ⟨A2, c2, rfl, hV2⟩ := h2.V
  obtain ⟨A3, c3, rfl, hV3⟩ := h3.V
  refine (imprimaturref20_Told.calls 20000 m n _ A2 c2 top _ A3 c3 pr true (toldT m n top pr true).1 (toldT m n top pr true).2.1 (toldT m n top pr true).2.2.1 (toldT m n top pr true).2.2.2 w hV2 hV3 (told_f n m top pr true 20000 ht hv (by omega) h1 hmn hn (by omega))).mono ?_
  rintro e w' ⟨v0, v1, v2, rfl, hV0, hV, hS, hB⟩
  have hq' := VQ.below hB
  obtain ⟨A', c', rfl, h1', h2'⟩ := hV
  exact ⟨_, _, v2, rfl, ⟨⟨A', c', rfl, h1', Kd.F_now h2'⟩, Dg.mk' (below_step hb hB) hle0 hq'.2 hq'.isN hq'.1 VQ.2 (Kd.S_N hS)⟩, hB⟩
/-- A clash there is, where another beginning is told. -/
theorem clash_first (l : List (List Int)) (n m : Nat) (a top : List Int) (pr : List (List Int)) (hl1 : 1 ≤ l.length) (hl : l.length ≤ 40) (hb : ∀ x ∈ l, BytesB x ∧ x.length ≤ 8192) (hn : n ≤ 4096) (h1 : 1 ≤ m) (hmn : m ≤ n) (ht : top.length = 32 ∧ BytesB top) (hw : Lv pr) (hwl : pr.length ≤ 500)
    (h : bgL a m top (headL (marks l).length (topL (marks l))) n pr = 0) (hne : ¬ (n = (marks l).length ∧ top = topL ((marks l).take m) ∧ a = headL m (topL ((marks l).take m)))) :
    ∃ k, imprimaturref06_Clash.f k ((toldT m n top pr true).2.2.1 ++ [18 :: (e8 n ++ (toldT m n top pr true).2.1), 18 :: (e8 m ++ top), 18 :: (e8 (marks l).length ++ topL (marks l))] ++ textsL (marks l) ++ mtexts l) = some true := by
  have hML := marks_length l
  have u := toldT_ok n m top pr true ht hw h1 hmn
  have htp := topL_32 (marks_lv l) (by omega)
  have ok := all_ok l (toldT m n top pr true).2.2.1 [18 :: (e8 n ++ (toldT m n top pr true).2.1), 18 :: (e8 m ++ top), 18 :: (e8 (marks l).length ++ topL (marks l))] (marks l) (marks_lv l) (by omega) hl hb ⟨by omega, u.2.2.2⟩ ⟨by simp, fun t h => by
    simp only [List.mem_cons, List.not_mem_nil, or_false] at h
    rcases h with rfl | rfl | rfl
    · exact head_ok u.2.1.2 u.2.1.1
    · exact head_ok ht.2 (by omega)
    · exact head_ok htp.2 (by omega)⟩
  obtain ⟨b, hf, hI⟩ := clash_eq _ ok.1 ok.2 200000000 (Nat.le_refl _)
  cases b
  · exfalso
    exact hne (begins_only (marks l) n m a top pr (marks_lv l) (by omega) (by omega) hn h1 hmn ht hw h ((hI rfl).sub (fun x hx => List.mem_append.2 (.inl hx))))
  · exact ⟨_, hf⟩
end Go.Proofs.YtcnpdapampclpaaDoor.X
