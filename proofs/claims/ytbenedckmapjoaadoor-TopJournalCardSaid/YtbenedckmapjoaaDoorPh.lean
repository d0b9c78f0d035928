/- A region that draws its order, in which calls come up in a chain and new blocks are laid in any order among them. -/
import Derived.Test.YtbenedckmapjoaaDoorY6
namespace Go.Proofs.YtbenedckmapjoaaDoor.F
open Go.RowKit Go.Proofs.YtbenedckmapjoaaDoor.H Go.Proofs.YtbenedckmapjoaaDoorW.PrintWords Go.Proofs.YtbenedckmapjoaaDoorW.PrintLast Go.Proofs.YtbenedckmapjoaaDoorW.PrintMore
set_option linter.unusedVariables false
set_option linter.unusedSimpArgs false
section
variable {P : Program} {ops : Array Oper} {Q : Exit → Act → World → Prop} {md : Region.Mode} {S : World → Prop} {ds : List Nat}
/-- What has come up: what came ahead, the first k of the chain, of the blocks those in A. -/
def maskL (base : List Bool) (cs al : List Nat) (k : Nat) (A : List Bool) : List Bool := base.zipIdx.map fun x => x.1 || (cs.take k).contains x.2 || (al.zip A).contains (x.2, true)
def bools : Nat → List (List Bool)
  | 0 => [[]]
  | p + 1 => (bools p).map (false :: ·) ++ (bools p).map (true :: ·)
theorem mem_bools : ∀ (p : Nat) (A : List Bool), A.length = p → A ∈ bools p
  | 0, A, h => by rw [List.length_eq_zero_iff.1 h]; simp [bools]
  | p + 1, [], h => by simp at h
  | p + 1, b :: A, h => by
    have := mem_bools p A (by simpa using h)
    cases b <;> simp [bools, this]
/-- The check of a phase: what may come up next, and what has come up behind it. -/
def phOne (T : List (List Nat × List Nat)) (base : List Bool) (cs al : List Nat) (k : Nat) (A : List Bool) : Bool :=
  let l := maskL base cs al k A
  let r := readyT T l
  (k == cs.length && A == List.replicate al.length true) || ((r.all fun i => (decide (k < cs.length) && cs.getD k 0 == i && l.set i true == maskL base cs al (k + 1) A) || (List.range al.length).any fun j => A.getD j true == false && al.getD j 0 == i && l.set i true == maskL base cs al k (A.set j true)) && !r.isEmpty)
def phChk (T : List (List Nat × List Nat)) (base : List Bool) (cs al : List Nat) : Bool := (List.range (cs.length + 1)).all fun k => (bools al.length).all fun A => phOne T base cs al k A
/-- An operation that comes up: what is to be shown of it. -/
def OpOk (P : Program) (ops : Array Oper) (Q : Exit → Act → World → Prop) (ds : List Nat) (i : Nat) (J : Act → World → Prop) (a : Act) (w : World) : Prop :=
  ∃ oi, ops[i]? = some oi ∧ i ∉ ds ∧ ∀ K : Act → World → Prop, (∀ a' w', J a' w' → K a' w') → if Region.wanted oi (yielded ops a.tmps) = true then Oper.wp P oi a w K Q else K (a.put oi.dst undef) w
theorem phase_ {T : Bool × List (List Nat × List Nat)} (hT : rtab md ops = T) (base : List Bool) (cs al : List Nat) (hchk : phChk T.2 base cs al = true) (J : Nat → List Bool → Act → World → Prop) (F : Nat)
    (hJS : ∀ k A a w, J k A a w → S w)
    (hc : ∀ k A a w, k < cs.length → A.length = al.length → J k A a w → OpOk P ops Q ds (cs.getD k 0) (J (k + 1) A) a w)
    (ha : ∀ k A j a w, A.length = al.length → A[j]? = some false → J k A a w → OpOk P ops Q ds (al.getD j 0) (J k (A.set j true)) a w)
    (hend : ∀ a w, J cs.length (List.replicate al.length true) a w → wpAnyLast P md ops Q S ds F (maskL base cs al cs.length (List.replicate al.length true)).toArray a w) :
    ∀ n k A a w, n = (cs.length - k) + A.count false → k ≤ cs.length → A.length = al.length → J k A a w → wpAnyLast P md ops Q S ds (F + n) (maskL base cs al k A).toArray a w := by
  intro n
  induction n with
  | zero =>
    intro k A a w hn hk hA hJ
    have hk2 : k = cs.length := by omega
    have hA2 : A = List.replicate al.length true := by
      apply List.eq_replicate_iff.2
      refine ⟨hA, fun b hb => ?_⟩
      cases b with
      | true => rfl
      | false => exact absurd (List.count_pos_iff.2 hb) (by omega)
    subst hk2 hA2
    exact hend a w hJ
  | succ n ih =>
    intro k A a w hn hk hA hJ
    have h1 : phOne T.2 base cs al k A = true := by
      have := List.all_eq_true.1 (List.all_eq_true.1 hchk k (List.mem_range.2 (by omega))) A (mem_bools _ A hA)
      exact this
    have h1 : ((readyT T.2 (maskL base cs al k A)).all fun i => (decide (k < cs.length) && cs.getD k 0 == i && (maskL base cs al k A).set i true == maskL base cs al (k + 1) A) || (List.range al.length).any fun j => A.getD j true == false && al.getD j 0 == i && (maskL base cs al k A).set i true == maskL base cs al k (A.set j true)) = true ∧ (!(readyT T.2 (maskL base cs al k A)).isEmpty) = true := by
      unfold phOne at h1
      rcases Bool.or_eq_true_iff.1 h1 with h | h
      · exfalso
        have h := Bool.and_eq_true_iff.1 h
        have h2 : k = cs.length := by simpa using h.1
        have h3 : A = List.replicate al.length true := by simpa using h.2
        rw [h2, h3, List.count_replicate] at hn
        simp at hn
      · exact Bool.and_eq_true_iff.1 h
    have hr : Region.ready md ops (maskL base cs al k A).toArray = readyT T.2 (maskL base cs al k A) := by
      subst hT
      rw [ready_eq]
    have hne : readyT T.2 (maskL base cs al k A) ≠ [] := by
      intro e
      have h := h1.2
      rw [e] at h
      cases h
    rw [show F + (n + 1) = (F + n) + 1 by omega]
    refine wpAnyLast_ready hr hne (fun i hi => ?_)
    have h2 := List.all_eq_true.1 h1.1 i hi
    simp only [Bool.or_eq_true, Bool.and_eq_true, decide_eq_true_eq, beq_iff_eq] at h2
    rcases h2 with h2 | h2
    · obtain ⟨⟨h3, h4⟩, h5⟩ := h2
      obtain ⟨oi, o1, o2, o3⟩ := hc k A a w h3 hA hJ
      rw [h4] at o1 o2
      have hw : AllReadyL P md ops Q S ds (F + n) (maskL base cs al k A).toArray a w [i] := AllReadyL.cons o1 o2 (fun K hK => o3 K (fun a' w' hJ' => hK a' w' (hJS _ _ _ _ hJ') (fun _ => by
        rw [List.setIfInBounds_toArray, h5]
        exact ih (k + 1) A a' w' (by omega) (by omega) hA hJ'))) AllReadyL.nil
      exact hw i (by simp)
    · obtain ⟨j, hj1, hj2⟩ := List.any_eq_true.1 h2
      simp only [Bool.and_eq_true, beq_iff_eq] at hj2
      obtain ⟨⟨h3, h4⟩, h5⟩ := hj2
      have hjl : j < A.length := by rw [hA]; exact List.mem_range.1 hj1
      have h6 : A[j]? = some false := by
        rw [List.getD_eq_getElem?_getD, List.getElem?_eq_getElem hjl] at h3
        rw [List.getElem?_eq_getElem hjl]
        exact congrArg some h3
      obtain ⟨oi, o1, o2, o3⟩ := ha k A j a w hA h6 hJ
      rw [h4] at o1 o2
      have hcnt : (A.set j true).count false + 1 = A.count false := by
        have hg : A[j] = false := by rw [List.getElem?_eq_getElem hjl] at h6; exact Option.some.inj h6
        have := List.count_set (a := true) (b := false) hjl
        rw [hg] at this
        have hp : 0 < A.count false := List.count_pos_iff.2 (by rw [← hg]; exact List.getElem_mem hjl)
        simp at this
        omega
      have hw : AllReadyL P md ops Q S ds (F + n) (maskL base cs al k A).toArray a w [i] := AllReadyL.cons o1 o2 (fun K hK => o3 K (fun a' w' hJ' => hK a' w' (hJS _ _ _ _ hJ') (fun _ => by
        rw [List.setIfInBounds_toArray, h5]
        exact ih k (A.set j true) a' w' (by omega) hk (by rw [List.length_set]; exact hA) hJ'))) AllReadyL.nil
      exact hw i (by simp)
def setAll : List (Nat × Value) → Array Value → Array Value
  | [], t => t
  | x :: l, t => setAll l (t.setIfInBounds x.1 x.2)
def ptrV (g : Nat) : Value := .pointer (some ⟨g, 0, none⟩)
def setAd : List Nat → List Nat → List Bool → Array Value → Array Value
  | s :: sl, g :: gs, b :: bs, t => setAd sl gs bs (if b then t.setIfInBounds s (ptrV g) else t)
  | _, _, _, t => t
theorem setAll_snoc (l : List (Nat × Value)) (x : Nat × Value) : ∀ t, setAll (l ++ [x]) t = (setAll l t).setIfInBounds x.1 x.2 := by
  induction l with
  | nil => intro t; rfl
  | cons y l ih => intro t; exact ih _
theorem setComm (t : Array Value) {i j : Nat} (u v : Value) (h : i ≠ j) : (t.setIfInBounds i u).setIfInBounds j v = (t.setIfInBounds j v).setIfInBounds i u := Array.setIfInBounds_comm _ _ h
theorem setAd_comm (N : Nat) (v : Value) : ∀ (sl gs : List Nat) (A : List Bool) (t : Array Value), N ∉ sl → setAd sl gs A (t.setIfInBounds N v) = (setAd sl gs A t).setIfInBounds N v
  | [], gs, A, t, _ => by cases gs <;> cases A <;> rfl
  | s :: sl, [], A, t, _ => by cases A <;> rfl
  | s :: sl, g :: gs, [], t, _ => rfl
  | s :: sl, g :: gs, b :: bs, t, h => by
    have h1 : N ≠ s := fun e => h (by rw [e]; simp)
    have h2 : N ∉ sl := fun e => h (by simp [e])
    have ih := setAd_comm N v sl gs bs
    cases b with
    | false => exact ih t h2
    | true =>
      show setAd sl gs bs ((t.setIfInBounds N v).setIfInBounds s (ptrV g)) = (setAd sl gs bs (t.setIfInBounds s (ptrV g))).setIfInBounds N v
      rw [setComm t v (ptrV g) h1]
      exact ih _ h2
theorem setAd_getD (N : Nat) : ∀ (sl gs : List Nat) (A : List Bool) (t : Array Value), N ∉ sl → (setAd sl gs A t).getD N undef = t.getD N undef
  | [], gs, A, t, _ => by cases gs <;> cases A <;> rfl
  | s :: sl, [], A, t, _ => by cases A <;> rfl
  | s :: sl, g :: gs, [], t, _ => rfl
  | s :: sl, g :: gs, b :: bs, t, h => by
    have h1 : s ≠ N := fun e => h (by rw [← e]; simp)
    have h2 : N ∉ sl := fun e => h (by simp [e])
    have ih := setAd_getD N sl gs bs
    cases b with
    | false => exact ih t h2
    | true =>
      show (setAd sl gs bs (t.setIfInBounds s (ptrV g))).getD N undef = _
      rw [ih _ h2]
      simp only [Array.getD_eq_getD_getElem?, Array.getElem?_setIfInBounds_ne h1]
theorem setAd_set : ∀ (sl gs : List Nat) (A : List Bool) (t : Array Value) (j g : Nat), sl.Nodup → gs.length = sl.length → A[j]? = some false → j < sl.length →
    setAd sl (gs.set j g) (A.set j true) t = (setAd sl gs A t).setIfInBounds (sl.getD j 0) (ptrV g)
  | [], gs, A, t, j, g, _, _, _, hj => absurd hj (Nat.not_lt_zero _)
  | s :: sl, [], A, t, j, g, _, hl, _, _ => by cases hl
  | s :: sl, g0 :: gs, [], t, j, g, _, _, hA, _ => by cases hA
  | s :: sl, g0 :: gs, b :: bs, t, 0, g, hn, hl, hA, hj => by
    have hb : b = false := by simpa using hA
    subst hb
    have h2 : s ∉ sl := (List.nodup_cons.1 hn).1
    show setAd sl gs bs (t.setIfInBounds s (ptrV g)) = (setAd sl gs bs t).setIfInBounds s (ptrV g)
    exact setAd_comm s (ptrV g) sl gs bs t h2
  | s :: sl, g0 :: gs, b :: bs, t, j + 1, g, hn, hl, hA, hj => by
    have ih := setAd_set sl gs bs (if b then t.setIfInBounds s (ptrV g0) else t) j g (List.nodup_cons.1 hn).2 (by simpa using hl) (by simpa using hA) (by simpa using hj)
    exact ih
structure PhJ (w0 : World) (z : Array Value) (tz : TypeId) (T0 : Array Value) (cv : List (Nat × Value)) (sl : List Nat) (k : Nat) (A : List Bool) (a : Act) (w : World) : Prop where
  h : ∃ gs : List Nat, gs.length = sl.length ∧ a = ⟨setAd sl gs A (setAll (cv.take k) T0), []⟩ ∧ (∀ j, A[j]? = some true → w0.heap.size ≤ gs.getD j 0 ∧ w.heap[gs.getD j 0]? = some (.cells z tz (0, 0))) ∧ (∀ i j, i ≠ j → A[i]? = some true → A[j]? = some true → gs.getD i 0 ≠ gs.getD j 0)
  b : Below w0.heap.size w0 w
theorem getD_set_nat (l : List Nat) (i j : Nat) (v : Nat) (hi : i < l.length) : (l.set i v).getD j 0 = if i = j then v else l.getD j 0 := by
  rw [List.getD_eq_getElem?_getD, List.getD_eq_getElem?_getD, List.getElem?_set]
  by_cases h : i = j
  · subst h; simp [hi]
  · simp [h]
theorem getElem?_set_bool {A : List Bool} {i j : Nat} (h : (A.set i true)[j]? = some true) (hne : i ≠ j) : A[j]? = some true := by
  rw [List.getElem?_set, if_neg hne] at h
  exact h
theorem phaseZ {T : Bool × List (List Nat × List Nat)} (hT : rtab md ops = T) (base : List Bool) (cs al : List Nat) (hchk : phChk T.2 base cs al = true) (w0 : World) (T0 : Array Value) (cv : List (Nat × Value)) (sl : List Nat) (z : Array Value) (tz : TypeId)
    (hcv : cv.length = cs.length) (hsl : sl.length = al.length) (hnd : sl.Nodup) (hdis : ∀ x ∈ cv, x.1 ∉ sl) (F : Nat)
    (hc : ∀ k, k < cs.length → ∀ (tm : Array Value) (w : World), (∀ s, s ∉ sl → tm.getD s undef = (setAll (cv.take k) T0).getD s undef) → Below w0.heap.size w0 w →
      OpOk P ops Q ds (cs.getD k 0) (fun a' w' => a' = ⟨tm.setIfInBounds (cv.getD k (0, undef)).1 (cv.getD k (0, undef)).2, []⟩ ∧ Below w.heap.size w w') ⟨tm, []⟩ w)
    (ha : ∀ j, j < al.length → ∀ (tm : Array Value) (w : World), OpOk P ops Q ds (al.getD j 0) (fun a' w' => a' = ⟨tm.setIfInBounds (sl.getD j 0) (ptrV w.heap.size), []⟩ ∧ w' = w.alloc (.cells z tz)) ⟨tm, []⟩ w)
    (hend : ∀ (gs : List Nat) (w : World), gs.length = sl.length → Below w0.heap.size w0 w → (∀ j, j < sl.length → w0.heap.size ≤ gs.getD j 0 ∧ w.heap[gs.getD j 0]? = some (.cells z tz (0, 0))) → (∀ i j, i ≠ j → i < sl.length → j < sl.length → gs.getD i 0 ≠ gs.getD j 0) →
      wpAnyLast P md ops Q (fun w' => Below w0.heap.size w0 w') ds F (maskL base cs al cs.length (List.replicate al.length true)).toArray ⟨setAd sl gs (List.replicate al.length true) (setAll cv T0), []⟩ w)
    (w : World) (hw : Below w0.heap.size w0 w) : wpAnyLast P md ops Q (fun w' => Below w0.heap.size w0 w') ds (F + (cs.length + al.length)) (maskL base cs al 0 (List.replicate al.length false)).toArray ⟨T0, []⟩ w := by
  refine phase_ (S := fun w' => Below w0.heap.size w0 w') hT base cs al hchk (PhJ w0 z tz T0 cv sl) F (fun k A a w h => h.b) ?_ ?_ ?_ (cs.length + al.length) 0 (List.replicate al.length false) ⟨T0, []⟩ w (by rw [List.count_replicate]; simp) (Nat.zero_le _) (List.length_replicate ..) ?_
  · rintro k A a w hk hA ⟨⟨gs, h1, rfl, h2, h3⟩, h4⟩
    have hkc : k < cv.length := by omega
    have hx : cv[k]? = some (cv.getD k (0, undef)) := by rw [List.getD_eq_getElem?_getD, List.getElem?_eq_getElem hkc]; rfl
    obtain ⟨oi, o1, o2, o3⟩ := hc k hk (setAd sl gs A (setAll (cv.take k) T0)) w (fun s hs => setAd_getD s sl gs A _ hs) h4
    refine ⟨oi, o1, o2, fun K hK => o3 K ?_⟩
    rintro a' w' ⟨rfl, hb⟩
    refine hK _ _ ⟨⟨gs, h1, ?_, fun j hj => ⟨(h2 j hj).1, blk_below (h2 j hj).2 hb⟩, h3⟩, below_step h4 hb⟩
    have hm : cv.getD k (0, undef) ∈ cv := List.mem_of_getElem? hx
    rw [← setAd_comm _ _ sl gs A _ (hdis _ hm), List.take_add_one, hx]
    show _ = (⟨setAd sl gs A (setAll (cv.take k ++ [cv.getD k (0, undef)]) T0), []⟩ : Act)
    rw [setAll_snoc]
  · rintro k A j a w hA hj ⟨⟨gs, h1, rfl, h2, h3⟩, h4⟩
    have hjl : j < al.length := by rw [← hA]; exact (List.getElem?_eq_some_iff.1 hj).1
    obtain ⟨oi, o1, o2, o3⟩ := ha j hjl (setAd sl gs A (setAll (cv.take k) T0)) w
    refine ⟨oi, o1, o2, fun K hK => o3 K ?_⟩
    rintro a' w' ⟨rfl, rfl⟩
    have hb : Below w.heap.size w (w.alloc (.cells z tz)) := below_alloc (Below.refl _ _) _
    have hjg : j < gs.length := by omega
    refine hK _ _ ⟨⟨gs.set j w.heap.size, by rw [List.length_set]; exact h1, by rw [setAd_set sl gs A _ j w.heap.size hnd h1 hj (by omega)], fun i hi => ?_, fun i i2 hne hi hi2 => ?_⟩, below_step h4 hb⟩
    · rw [getD_set_nat _ _ _ _ hjg]
      split
      · exact ⟨h4.size, blk_new w _⟩
      · rename_i hne
        have := h2 i (getElem?_set_bool hi hne)
        exact ⟨this.1, blk_below this.2 hb⟩
    · rw [getD_set_nat _ _ _ _ hjg, getD_set_nat _ _ _ _ hjg]
      by_cases e1 : j = i
      · have e2 : j ≠ i2 := fun e => hne (e1.symm.trans e)
        rw [if_pos e1, if_neg e2]
        exact Nat.ne_of_gt (blk_lt (h2 i2 (getElem?_set_bool hi2 e2)).2)
      · rw [if_neg e1]
        by_cases e2 : j = i2
        · rw [if_pos e2]
          exact Nat.ne_of_lt (blk_lt (h2 i (getElem?_set_bool hi e1)).2)
        · rw [if_neg e2]
          exact h3 i i2 hne (getElem?_set_bool hi e1) (getElem?_set_bool hi2 e2)
  · rintro a w ⟨⟨gs, h1, rfl, h2, h3⟩, h4⟩
    have hrep : ∀ j, j < sl.length → (List.replicate al.length true)[j]? = some true := fun j hj => by rw [List.getElem?_replicate, if_pos (by omega)]
    rw [show cv.take cs.length = cv from by rw [← hcv]; exact List.take_length]
    exact hend gs w h1 h4 (fun j hj => h2 j (hrep j hj)) (fun i j hne hi hj => h3 i j hne (hrep i hi) (hrep j hj))
  · refine ⟨⟨List.replicate sl.length 0, List.length_replicate .., ?_, fun j hj => ?_, fun i j _ hi => ?_⟩, hw⟩
    · have : ∀ (sl gs : List Nat) (n : Nat) (t : Array Value), setAd sl gs (List.replicate n false) t = t := by
        intro sl
        induction sl with
        | nil => intro gs n t; cases gs <;> cases n <;> rfl
        | cons s sl ih =>
          intro gs n t
          cases gs with
          | nil => cases n <;> rfl
          | cons g gs =>
            cases n with
            | zero => rfl
            | succ n => exact ih gs n t
      rw [this]
      rfl
    · rw [List.getElem?_replicate] at hj
      split at hj <;> cases hj
    · rw [List.getElem?_replicate] at hi
      split at hi <;> cases hi
end
end Go.Proofs.YtbenedckmapjoaaDoor.F
