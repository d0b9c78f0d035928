/- The laid numbers of the curve, for the rows. -/
import Derived.Test.YtbenedckmapjoaaDoorX
import Derived.Lib.LaidTab
namespace Go.Proofs.YtbenedckmapjoaaDoor.F
open Go.RowKit Go.Proofs.YtbenedckmapjoaaDoor.H Go.Proofs.YtbenedckmapjoaaDoorW.PrintWords Go.Proofs.YtbenedckmapjoaaDoorW.PrintLast Go.Proofs.YtbenedckmapjoaaDoorW.PrintMore Go.Deep
def cuL : List Int := [1859910466990425, 932731440258426, 1072319116312658, 1815898335770999, 633789495995903]
theorem cuL_e : enc cuN = cuL := by decide
theorem of_var {P : Program} {W : World} {name : String} {g : Nat} {l : List Int} (hg : P.globalNamed name = some g) (h : Lib.TabIs P W name .u64 l) : ∃ tt fr, W.heap[g]? = some (.cells (cells64 l) tt fr) := by
  unfold Lib.TabIs World.var? at h
  rw [hg] at h
  simp only [Option.bind_some] at h
  split at h
  · next cs tt fr e =>
    obtain rfl := Option.some.inj h
    exact ⟨tt, fr, e⟩
  · cases h
theorem Gb.of_tabs {P : Program} {W : World} (hx : P.globalNamed "imprimatur/ed.baseX" = some 1) (hy : P.globalNamed "imprimatur/ed.baseY" = some 2) (ht : P.globalNamed "imprimatur/ed.baseT" = some 3) (hc : P.globalNamed "imprimatur/ed.curve" = some 4)
    (tx : Lib.TabIs P W "imprimatur/ed.baseX" .u64 bX) (ty : Lib.TabIs P W "imprimatur/ed.baseY" .u64 bY) (tt : Lib.TabIs P W "imprimatur/ed.baseT" .u64 bT) (tc : Lib.TabIs P W "imprimatur/ed.curve" .u64 cuL) : Gb W := by
  refine ⟨of_var hx tx, of_var hy ty, of_var ht tt, ?_, ?_⟩
  · rw [cuL_e]; exact of_var hc tc
  · obtain ⟨a, b, e⟩ := of_var hc tc
    exact (Array.getElem?_eq_some_iff.1 e).1
end Go.Proofs.YtbenedckmapjoaaDoor.F
