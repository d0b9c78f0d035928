/- A parameter that is a slice of truths: as a list. -/
import Derived.Deep.Grids
import Derived.Test.YtbenedckmapjoaaDoorWT
namespace Go.Proofs.YtbenedckmapjoaaDoor.Rw
open Go Go.Deep Go.ChangeShapes Go.WideShapes Go.RowKit Go.Proofs.YtbenedckmapjoaaDoorW.PrintWords
theorem bools_of {H : Type} {enc : TypeId × Value → H} {P : Program} {W : World} {base : Nat} {held : Bool} {t e : TypeId} {a : Option Addr} {len cap : Nat} {d : DataW H} {p : List MemPlace}
    (ht : P.underlying t = some (.slice e)) (he : P.underlying e = some .bool) (ce : P.cellsOf e = 1)
    (h : DataW.Trod enc P W base (fun _ => true) held t (.slice a len cap) d p) :
    ∃ xs : List Bool, Kd.bool.C W a xs.length xs ∧ xs.length = len ∧ len ≤ cap := by
  obtain ⟨fuel, hf⟩ := h
  rcases open_bools ht he ce hf with ⟨hcs, _⟩ | ⟨ad, len', cap', B, hcs, hb, hl, hm, hx, hr⟩
  · simp [Value.cells] at hcs
    obtain ⟨rfl, rfl, rfl⟩ := hcs
    exact ⟨[], ⟨rfl, by simp, fun h => absurd h (by simp)⟩, rfl, Nat.le_refl _⟩
  · simp [Value.cells] at hcs
    obtain ⟨rfl, rfl, rfl⟩ := hcs
    have hll : ((List.range len).map B).length = len := by simp
    refine ⟨(List.range len).map B, Kd.C_of_reads (enc := Value.bool) (d := false) (h1 := fun _ => rfl) ⟨rfl, by rw [hll]; simp only [maxLen] at hm; omega, fun hn => ⟨ad, rfl, fun c hc => ?_⟩⟩, hll, hl⟩
    rw [hll] at hc
    rw [hr c (by omega), List.getD_eq_getElem?_getD, List.getElem?_map, List.getElem?_range hc]
    rfl
end Go.Proofs.YtbenedckmapjoaaDoor.Rw
