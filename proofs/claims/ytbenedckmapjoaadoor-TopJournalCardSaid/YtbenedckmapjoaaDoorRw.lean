/- A parameter that is a slice of slices of whole numbers: its rows, as lists; how long they may be. -/
import Derived.Deep.Matrix
import Derived.SizedLaws
import Derived.Test.YtbenedckmapjoaaDoorWT
namespace Go.Proofs.YtbenedckmapjoaaDoor.Rw
open Go Go.Deep Go.ChangeShapes Go.WideShapes Go.RowKit Go.Proofs.YtbenedckmapjoaaDoorW.PrintWords
theorem mem_weightsAll {H : Type} {P : Program} {e : TypeId} : ∀ {l : List (DataW H)} {d : DataW H} {n : Nat}, d ∈ l → n ∈ d.weights P e → n ∈ DataW.weightsAll P e l
  | [], _, _, h, _ => by cases h
  | x :: r, d, n, h, hn => by
    rcases List.mem_cons.1 h with rfl | h
    · simp only [DataW.weightsAll, List.mem_append]; exact .inl hn
    · simp only [DataW.weightsAll, List.mem_append]; exact .inr (mem_weightsAll h hn)
theorem rows_of {H : Type} {enc : TypeId × Value → H} {P : Program} {W : World} {base : Nat} {held : Bool} {t e q : TypeId} {k : IntKind} {bytes : Nat} {a : Option Addr} {len cap : Nat} {d : DataW H} {p : List MemPlace} {ts : List TypeId} {ds : List (DataW H)} {j : Nat}
    (ht : P.underlying t = some (.slice e)) (he : P.underlying e = some (.slice q)) (hq : P.underlying q = some (.int k)) (ce : P.cellsOf e = 1) (cq : P.cellsOf q = 1) (hbe : P.bytesOf e = 24) (hbq : P.bytesOf q = bytes)
    (h : DataW.Trod enc P W base (fun _ => true) held t (.slice a len cap) d p) (hsz : (DataW.weightsEach P ts ds).all (· ≤ reachBytes) = true) (hj : ts[j]? = some t) (hd : ds[j]? = some d) :
    ∃ xs : List (List Int), Kd.C (Kd.slice q (Kd.int k)) W a xs.length xs ∧ xs.length = len ∧ len ≤ cap ∧ len * 24 ≤ 140737488351232 ∧ ∀ l ∈ xs, (∀ x ∈ l, (Lit.int k x).wf = true) ∧ l.length * bytes ≤ 140737488351232 := by
  obtain ⟨fuel, hf⟩ := h
  rcases open_int_rows ht he hq ce cq hf with ⟨hcs, hx⟩ | ⟨ad, len', cap', A, L, C, Z, hcs, hb, hl, hm, hx, hr⟩
  · simp [Value.cells] at hcs
    obtain ⟨rfl, rfl, rfl⟩ := hcs
    exact ⟨[], ⟨rfl, by simp, fun h => absurd h (by simp)⟩, rfl, Nat.le_refl _, by simp, fun l hl => by cases hl⟩
  · simp [Value.cells] at hcs
    obtain ⟨rfl, rfl, rfl⟩ := hcs
    have hd' : d = .slice ((List.range len).map fun r => intRow k (A r) (L r) (Z r)) ((List.range (cap - len)).map fun j => intRow k (A (len + j)) (L (len + j)) (Z (len + j))) := congrArg Prod.fst hx
    have hw : ∀ n ∈ d.weights P t, n ≤ reachBytes := fun n hn => by simpa using List.all_eq_true.1 hsz _ (DataW.weights_mem_each hj hd n hn)
    have hR : reachBytes = 140737488351232 := rfl
    have hlen : len * 24 ≤ 140737488351232 := by
      have h1 := hw ((((List.range len).map fun r => (intRow k (A r) (L r) (Z r) : DataW H)).length + ((List.range (cap - len)).map fun j => (intRow k (A (len + j)) (L (len + j)) (Z (len + j)) : DataW H)).length) * P.bytesOf e) (by rw [hd']; simp [DataW.weights, ht])
      rw [hbe, List.length_map, List.length_map, List.length_range, List.length_range] at h1
      have h2 : len * 24 ≤ (len + (cap - len)) * 24 := Nat.mul_le_mul_right _ (by omega)
      omega
    have hin : ∀ r, r < len → (Z r).length * bytes ≤ 140737488351232 := by
      intro r hrl
      obtain ⟨_, r1, r2, r3, r4, r5, _⟩ := hr r (by omega)
      cases hA : A r with
      | none => rw [r3, r5 hA]; simp
      | some a' =>
        have h1 := hw ((((Z r).take (L r)).length + ((Z r).drop (L r)).length) * P.bytesOf q) (by
          rw [hd']
          simp only [DataW.weights, ht, List.mem_cons, List.mem_append]
          refine .inr (.inl (mem_weightsAll (List.mem_map.2 ⟨r, List.mem_range.2 hrl, rfl⟩) ?_))
          simp [intRow, hA, DataW.weights, he, lits])
        rw [hbq, List.length_take, List.length_drop] at h1
        have h2 : min (L r) (Z r).length + ((Z r).length - L r) = (Z r).length := by omega
        rw [h2] at h1
        omega
    refine ⟨(List.range len).map (fun r => (Z r).take (L r)), ⟨rfl, ?_, fun hn => ⟨ad, rfl, fun i p hp => ?_⟩⟩, by simp, hl, hlen, fun l hl' => ?_⟩
    · rw [List.length_map, List.length_range]; simp only [maxLen] at hm; omega
    · rw [List.getElem?_map] at hp
      obtain ⟨r, hr1, rfl⟩ := Option.map_eq_some_iff.1 hp
      obtain ⟨hi, he2⟩ := List.getElem?_eq_some_iff.1 hr1
      rw [List.length_range] at hi
      rw [List.getElem_range] at he2
      subst he2
      obtain ⟨q1, r1, r2, r3, r4, r5, r6⟩ := hr i (by omega)
      have hll : ((Z i).take (L i)).length = L i := by rw [List.length_take]; omega
      refine ⟨[.slice (A i) (L i) (C i)], rfl, ⟨A i, C i, by rw [hll], by rw [hll]; exact r1, ?_⟩, fun c u hc => ?_⟩
      · refine Kd.C_of_reads (enc := Value.int k) (d := 0) (h1 := fun _ => rfl) ⟨rfl, by rw [hll]; simp only [maxLen] at r2; omega, fun hn2 => ?_⟩
        rw [hll] at hn2
        cases hA : A i with
        | none => have := r5 hA; omega
        | some a' =>
          refine ⟨a', rfl, fun c hc => ?_⟩
          rw [hll] at hc
          rw [(r6 a' hA).2 c (by omega), List.getD_eq_getElem?_getD, List.getD_eq_getElem?_getD, List.getElem?_take, if_pos hc]
      · have hc0 : c = 0 := by
          rcases c with _ | c
          · rfl
          · simp at hc
        subst hc0
        simp only [List.getElem?_cons_zero, Option.some.injEq] at hc
        subst hc
        rw [show i * (Kd.slice q (Kd.int k)).sz + 0 = i from by show i * 1 + 0 = i; omega]
        exact q1
    · obtain ⟨r, hr1, rfl⟩ := List.mem_map.1 hl'
      have hrl := List.mem_range.1 hr1
      obtain ⟨_, r1, r2, r3, r4, _⟩ := hr r (by omega)
      refine ⟨fun x hx => r4 x (List.mem_of_mem_take hx), ?_⟩
      have h1 := hin r hrl
      rw [List.length_take]
      exact Nat.le_trans (Nat.mul_le_mul_right _ (Nat.min_le_right _ _)) h1
end Go.Proofs.YtbenedckmapjoaaDoor.Rw
