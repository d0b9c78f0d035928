/- Steps for the walks of the points' functions. -/
import Derived.Test.YtbenedckmapjoaaDoorPi
namespace Go.Proofs.YtbenedckmapjoaaDoor.F
open Go.RowKit Go.Proofs.YtbenedckmapjoaaDoor.H Go.Proofs.YtbenedckmapjoaaDoorW.PrintWords Go.Proofs.YtbenedckmapjoaaDoorW.PrintLast Go.Proofs.YtbenedckmapjoaaDoorW.PrintMore
set_option linter.unusedVariables false
set_option linter.unusedSimpArgs false
section
variable {P : Program} {ops : Array Oper} {Q : Exit → Act → World → Prop} {md : Region.Mode} {S : World → Prop} {ds : List Nat}
theorem callOk {i : Nat} {oi : Oper} {N : Nat} {f : FuncId} {fn : Func} {as_ : Array Operand} {ts : Array TypeId} (hi : ops[i]? = some oi) (hd : i ∉ ds) (hN : oi.dst = some N) (hf : P.funcs[f]? = some fn) (hname : (fn.name == "runtime.NumGoroutine") = false) (hb : fn.body.isSome = true)
    (hop : oi.op = .call { callee := .value (.func f), args := as_, argTypes := ts }) (args : Array Value) (v : Value) (tm : Array Value) (w : World) (hw : Region.wanted oi (yielded ops tm) = true) (hargs : as_.map (Act.eval ⟨tm, []⟩) = args)
    (hcl : ∀ w, Calls P f args w fun e w' => e = .returned v ∧ Below w.heap.size w w') :
    OpOk P ops Q ds i (fun a' w' => a' = ⟨tm.setIfInBounds N v, []⟩ ∧ Below w.heap.size w w') ⟨tm, []⟩ w :=
  ⟨oi, hi, hd, fun K hK => by
    rw [hN]
    exact goes_ (ops := ops) (Q := Q) hf hname hb args hw hN hop hargs ((hcl w).mono (by rintro e w' ⟨rfl, hb⟩; exact ⟨v, rfl, hK _ _ ⟨rfl, hb⟩⟩))⟩
theorem allocOk {i : Nat} {oi : Oper} {s : Nat} (hi : ops[i]? = some oi) (hd : i ∉ ds) (hN : oi.dst = some s) (z : Array Value) (tz : TypeId) (tm : Array Value) (w : World) (hw : Region.wanted oi (yielded ops tm) = true)
    (hrun : (execOp (Act.eval ⟨tm, []⟩) oi).run P w = .ok (.value (ptrV w.heap.size)) (w.alloc (.cells z tz))) :
    OpOk P ops Q ds i (fun a' w' => a' = ⟨tm.setIfInBounds s (ptrV w.heap.size), []⟩ ∧ w' = w.alloc (.cells z tz)) ⟨tm, []⟩ w :=
  ⟨oi, hi, hd, fun K hK => value_ (ops := ops) (Q := Q) (N := oi.dst) hw rfl hrun (by rw [hN]; exact hK _ _ ⟨rfl, rfl⟩)⟩
theorem phz {T : Bool × List (List Nat × List Nat)} (hT : rtab md ops = T) (n x y p : Nat) (base : List Bool) (cs al : List Nat) (hchk : phChk T.2 base cs al = true) (hx : (maskL base cs al 0 (List.replicate al.length false)).toArray = fl n x) (hy : (maskL base cs al cs.length (List.replicate al.length true)).toArray = fl n y) (hp : cs.length + al.length = p) (w0 : World) (T0 : Array Value) (cv : List (Nat × Value)) (sl : List Nat) (z : Array Value) (tz : TypeId)
    (hcv : cv.length = cs.length) (hsl : sl.length = al.length) (hnd : sl.Nodup) (hdis : ∀ x ∈ cv.map Prod.fst, x ∉ sl) (F : Nat)
    (hc : ∀ k, k < cs.length → ∀ (tm : Array Value) (w : World), (∀ s, s ∉ sl → tm.getD s undef = (setAll (cv.take k) T0).getD s undef) → Below w0.heap.size w0 w →
      OpOk P ops Q ds (cs.getD k 0) (fun a' w' => a' = ⟨tm.setIfInBounds (cv.getD k (0, undef)).1 (cv.getD k (0, undef)).2, []⟩ ∧ Below w.heap.size w w') ⟨tm, []⟩ w)
    (ha : ∀ j, j < al.length → ∀ (tm : Array Value) (w : World), OpOk P ops Q ds (al.getD j 0) (fun a' w' => a' = ⟨tm.setIfInBounds (sl.getD j 0) (ptrV w.heap.size), []⟩ ∧ w' = w.alloc (.cells z tz)) ⟨tm, []⟩ w)
    (w : World) (hw : Below w0.heap.size w0 w)
    (hend : ∀ (gs : List Nat) (w : World), gs.length = sl.length → Below w0.heap.size w0 w → (∀ j, j < gs.length → w0.heap.size ≤ gs.getD j 0 ∧ w.heap[gs.getD j 0]? = some (.cells z tz (0, 0))) → (∀ i j, i ≠ j → i < gs.length → j < gs.length → gs.getD i 0 ≠ gs.getD j 0) →
      wpAnyLast P md ops Q (fun w' => Below w0.heap.size w0 w') ds F (fl n y) ⟨setAd sl gs (List.replicate al.length true) (setAll cv T0), []⟩ w) :
    wpAnyLast P md ops Q (fun w' => Below w0.heap.size w0 w') ds (F + p) (fl n x) ⟨T0, []⟩ w := by
  rw [← hx, ← hp]
  refine phaseZ hT base cs al hchk w0 T0 cv sl z tz hcv hsl hnd (fun q hq => hdis _ (List.mem_map_of_mem hq)) F hc ha (fun gs w1 h1 h2 h3 h4 => ?_) w hw
  rw [hy]
  exact hend gs w1 h1 h2 (fun j hj => h3 j (by rw [← h1]; exact hj)) (fun i j hij hi hj => h4 i j hij (by rw [← h1]; exact hi) (by rw [← h1]; exact hj))
end
theorem list1 (l : List Nat) (h : l.length = 1) : ∃ a, l = [a] := by
  match l, h with
  | [a], _ => exact ⟨a, rfl⟩
theorem list2 (l : List Nat) (h : l.length = 2) : ∃ a b, l = [a, b] := by
  match l, h with
  | [a, b], _ => exact ⟨a, b, rfl⟩
theorem list3 (l : List Nat) (h : l.length = 3) : ∃ a b c, l = [a, b, c] := by
  match l, h with
  | [a, b, c], _ => exact ⟨a, b, c, rfl⟩
theorem list4 (l : List Nat) (h : l.length = 4) : ∃ a b c d, l = [a, b, c, d] := by
  match l, h with
  | [a, b, c, d], _ => exact ⟨a, b, c, d, rfl⟩
/-- Points in the first blocks (what comes in, and what goes out), elements behind. -/
structure PS (w : World) (n : Nat) (pl : List (List Int)) (gs : List Nat) (vs : List (List Int)) (w' : World) : Prop where
  len : pl.length = n + 1
  p : ∀ i, i < pl.length → PtAt (w.heap.size + i) (pl.getD i []) w'
  m : Mem (w.heap.size + n) gs vs w'
  b : Below w.heap.size w w'
  s : w.heap.size + n < w'.heap.size
theorem PS.below {w w1 w2 : World} {n : Nat} {pl : List (List Int)} {gs : List Nat} {vs : List (List Int)} (h : PS w n pl gs vs w1) (hb : Below w1.heap.size w1 w2) : PS w n pl gs vs w2 :=
  ⟨h.len, fun i hi => (h.p i hi).below hb, h.m.below hb, below_step h.b hb, Nat.lt_of_lt_of_le h.s hb.size⟩
theorem PS.put {w w1 : World} {n : Nat} {pl : List (List Int)} {gs : List Nat} {vs : List (List Int)} (h : PS w n pl gs vs w1) (i : Nat) (x : List Int) (hi : i < gs.length) : PS w n pl gs (vs.set i x) (w1.setRow (gs.getD i 0) (cells64 x)) := by
  have hl := h.m.lo i hi
  refine ⟨h.len, fun j hj => (h.p j hj).other ?_ _, h.m.put i x hi, below_setRow h.b (by omega) _, Nat.lt_of_lt_of_le h.s (below_setRow (Below.refl 0 w1) (Nat.zero_le _) _).size⟩
  have hn := h.len
  omega
theorem PS.app {w w1 w2 : World} {n : Nat} {pl : List (List Int)} {gs ns : List Nat} {vs : List (List Int)} {z : List Int} (h : PS w n pl gs vs w1) (hb : Below w1.heap.size w1 w2) (hn : ∀ j, j < ns.length → w1.heap.size ≤ ns.getD j 0 ∧ w2.heap[ns.getD j 0]? = some (.cells (cells64 z) 50 (0, 0)))
    (hne : ∀ i j, i ≠ j → i < ns.length → j < ns.length → ns.getD i 0 ≠ ns.getD j 0) : PS w n pl (gs ++ ns) (vs ++ List.replicate ns.length z) w2 :=
  ⟨h.len, fun i hi => (h.p i hi).below hb, h.m.app hb h.s hn hne, below_step h.b hb, Nat.lt_of_lt_of_le h.s hb.size⟩
theorem PS.new {w w1 : World} {n : Nat} {pl : List (List Int)} {gs : List Nat} {vs : List (List Int)} (h : PS w n pl gs vs w1) (x : List Int) : PS w n pl (gs ++ [w1.heap.size]) (vs ++ [x]) (w1.alloc (.cells (cells64 x) 50)) := by
  refine h.app (z := x) (ns := [w1.heap.size]) (below_alloc (Below.refl _ _) _) (fun j hj => ?_) (fun i j hij hi hj => ?_)
  · obtain rfl : j = 0 := by simpa using hj
    exact ⟨Nat.le_refl _, blk_new w1 _⟩
  · have h1 : i = 0 := by simpa using hi
    have h2 : j = 0 := by simpa using hj
    omega
end Go.Proofs.YtbenedckmapjoaaDoor.F
