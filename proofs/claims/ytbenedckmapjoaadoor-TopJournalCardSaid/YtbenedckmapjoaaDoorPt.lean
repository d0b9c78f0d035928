/- The window of a point: the walk. -/
import Derived.Test.YtbenedckmapjoaaDoorPs
namespace Go.Proofs.YtbenedckmapjoaaDoor.F
open Go.RowKit Go.Proofs.YtbenedckmapjoaaDoor.H Go.Proofs.YtbenedckmapjoaaDoorW.PrintWords Go.Proofs.YtbenedckmapjoaaDoorW.PrintLast Go.Proofs.YtbenedckmapjoaaDoorW.PrintMore
set_option linter.unusedVariables false
set_option linter.unusedSimpArgs false
theorem below_setCells {B g : Nat} {w0 : World} (hg : B ≤ g) : ∀ (vs : List Value) (o : Nat) (w : World), Below B w0 w → Below B w0 (w.setCells g o vs)
  | [], _, _, h => h
  | v :: r, o, w, h => below_setCells hg r (o + 1) _ (h.setCell hg _)
theorem heap_setCells {g g' : Nat} (hg : g' ≠ g) : ∀ (vs : List Value) (o : Nat) (w : World), (w.setCells g o vs).heap[g']? = w.heap[g']?
  | [], _, _ => rfl
  | v :: r, o, w => (heap_setCells hg r (o + 1) _).trans (Below.heap_setCell _ _ _ _ hg)
theorem size20' {l : List Int} (h : l.length = 20) : (cells64 l).size = 20 := by simp [cells64, h]
theorem len64 (l : List Int) : (cells64 l).toList.length = l.length := by simp [cells64]
/-- Rows of points in a block that holds many. -/
structure WinR (g n : Nat) (f : Nat → List Int) (w : World) : Prop where
  p : ∀ i, i < n → w.rangeAt g (i * 20) (cells64 (f i)).toList
  t : w.there g 0 320
  l : ∀ i, (f i).length = 20
theorem WinR.below {g n : Nat} {f : Nat → List Int} {w w1 : World} (h : WinR g n f w) (hb : Below w.heap.size w w1) (hg : g < w.heap.size) : WinR g n f w1 :=
  ⟨fun i hi => rangeAt_below (h.p i hi) hb, fun j hj => by
    have h1 := h.t j hj
    obtain ⟨v, hv⟩ := Option.isSome_iff_exists.1 h1.1
    refine ⟨by rw [(hb.cell (World.block_lt_of_cell? _ _ hv)), hv]; rfl, ?_⟩
    rw [hb.frozen (World.block_lt_of_cell? _ _ hv)]
    exact h1.2, h.l⟩
theorem WinR.put {g n : Nat} {f : Nat → List Int} {w : World} (h : WinR g n f w) (hn : n < 16) : WinR g (n + 1) f (w.setCells g (n * 20) (cells64 (f n)).toList) := by
  refine ⟨fun i hi => ?_, World.there_setCells h.t _ _ _, h.l⟩
  by_cases e : i = n
  · subst e
    exact World.rangeAt_setCells_same _ _ _ _ (there_part h.t (by rw [len64, h.l]; omega))
  · exact World.rangeAt_setCells_apart (h.p i (by omega)) _ _ _ (.inr (.inl (by rw [len64, h.l]; omega)))
structure WSt (w : World) (pW : List Int) (f : Nat → List Int) (n : Nat) (w' : World) : Prop where
  p : PtAt w.heap.size pW w'
  z : w'.heap[w.heap.size + 1]? = some (.cells Tryd.zeroCells162 162 (0, 0))
  m : WinR (w.heap.size + 1 + 1) n f w'
  b : Below w.heap.size w w'
  s : w.heap.size + 1 + 1 < w'.heap.size
theorem WSt.below {w w1 w2 : World} {pW : List Int} {f : Nat → List Int} {n : Nat} (h : WSt w pW f n w1) (hb : Below w1.heap.size w1 w2) : WSt w pW f n w2 :=
  ⟨h.p.below hb, blk_below h.z hb, h.m.below hb h.s, below_step h.b hb, Nat.lt_of_lt_of_le h.s hb.size⟩
theorem WSt.put {w w1 : World} {pW : List Int} {f : Nat → List Int} {n : Nat} (h : WSt w pW f n w1) (hn : n < 16) : WSt w pW f (n + 1) (w1.setCells (w.heap.size + 1 + 1) (n * 20) (cells64 (f n)).toList) :=
  ⟨(heap_setCells (by omega) _ _ _).trans h.p, (heap_setCells (by omega) _ _ _).trans h.z, h.m.put hn, below_setCells (by omega) _ _ _ h.b, Nat.lt_of_lt_of_le h.s (below_setCells (B := 0) (w0 := w1) (Nat.zero_le _) _ _ _ (Below.refl _ _)).size⟩
theorem there_of {w : World} {g : Nat} {cs : Array Value} {t : TypeId} (h : w.heap[g]? = some (.cells cs t (0, 0))) (n : Nat) (hn : n ≤ cs.size) : w.there g 0 n := fun j hj => by
  refine ⟨?_, blk_frozen h _⟩
  rw [blk_cell h, Nat.zero_add, Array.getElem?_eq_getElem (by omega)]
  rfl
theorem WSt.of (w : World) (pW : List Int) (f : Nat → List Int) (hl : ∀ i, (f i).length = 20) : WSt w pW f 0 (((w.alloc (.cells (cells64 pW) 52)).alloc (.cells Tryd.zeroCells162 162)).alloc (.cells Tryd.zeroCells162 162)) :=
  ⟨blk_alloc (blk_alloc (new1 _ _) _) _, blk_alloc (new2 _ _ _) _, ⟨fun i hi => absurd hi (Nat.not_lt_zero _), there_of (new3 _ _ _ _) 320 (Nat.le_of_eq (show 320 = (Tryd.zeroCells162).size by kernel_rfl)), hl⟩, below_alloc (below_alloc (below_alloc (Below.refl _ _) _) _) _, by simp⟩
/-- The cells of points, one behind the other. -/
def flatR (f : Nat → List Int) : Nat → List Int
  | 0 => []
  | n + 1 => flatR f n ++ f n
theorem flatR_length {f : Nat → List Int} (h : ∀ i, (f i).length = 20) : ∀ n, (flatR f n).length = n * 20
  | 0 => rfl
  | n + 1 => by rw [flatR, List.length_append, flatR_length h n, h]; omega
theorem cells64_app (a b : List Int) : (cells64 (a ++ b)).toList = (cells64 a).toList ++ (cells64 b).toList := by simp [cells64]
theorem rangeAt_app {w : World} {g o : Nat} {a b : List Value} (ha : w.rangeAt g o a) (hb : w.rangeAt g (o + a.length) b) : w.rangeAt g o (a ++ b) := fun j v hv => by
  by_cases h : j < a.length
  · exact ha j v (by rw [← hv, List.getElem?_append_left h])
  · have := hb (j - a.length) v (by rw [← hv, List.getElem?_append_right (by omega)])
    rw [← this]
    congr 2
    omega
theorem rangeAt_part {w : World} {g o : Nat} {a b c : List Value} (h : w.rangeAt g o (a ++ (b ++ c))) : w.rangeAt g (o + a.length) b := fun j v hv => by
  have hj : j < b.length := (List.getElem?_eq_some_iff.1 hv).1
  rw [Nat.add_assoc]
  exact h (a.length + j) v (by rw [List.getElem?_append_right (by omega), List.getElem?_append_left (by omega), ← hv]; congr 1; omega)
theorem WinR.all {g : Nat} {f : Nat → List Int} {w : World} : ∀ {n : Nat}, WinR g n f w → w.rangeAt g 0 (cells64 (flatR f n)).toList
  | 0, h => fun j v hv => by simp [flatR, cells64] at hv
  | n + 1, h => by
    rw [flatR, cells64_app]
    refine rangeAt_app (WinR.all (n := n) ⟨fun i hi => h.p i (by omega), h.t, h.l⟩) ?_
    rw [len64, flatR_length h.l, Nat.zero_add]
    exact h.p n (by omega)
theorem flatR_split {f : Nat → List Int} : ∀ (n i : Nat), i < n → ∃ r, flatR f n = flatR f i ++ (f i ++ r)
  | 0, i, h => absurd h (Nat.not_lt_zero _)
  | n + 1, i, h => by
    by_cases e : i = n
    · subst e; exact ⟨[], by rw [flatR, List.append_nil]⟩
    · obtain ⟨r, hr⟩ := flatR_split n i (by omega)
      exact ⟨r ++ f n, by rw [flatR, hr, List.append_assoc, List.append_assoc]⟩
theorem rangeAt_flat {w : World} {g o n i : Nat} {f : Nat → List Int} (hl : ∀ i, (f i).length = 20) (h : w.rangeAt g o (cells64 (flatR f n)).toList) (hi : i < n) : w.rangeAt g (o + i * 20) (cells64 (f i)).toList := by
  obtain ⟨r, hr⟩ := flatR_split (f := f) n i hi
  rw [hr, cells64_app, cells64_app] at h
  have := rangeAt_part h
  rw [len64, flatR_length hl] at this
  exact this
theorem info320 : (Tryd.prog.info? 162).map (·.size) = some 320 := by kernel_rfl
theorem zsize320 : (Tryd.zeroCells162).size = 320 := by kernel_rfl
theorem run_put_mid {P : Program} {a : Act} {oi : Oper} (w : World) (ty : TypeId) (x y : Operand) (ho : oi.op = .store ty x y) (g o : Nat) (cells : Array Value) (hx : a.eval x = .pointer (some ⟨g, o, none⟩)) (hy : a.eval y = .agg cells)
    (ht : w.there g o cells.size) (hi : (P.info? ty).map (·.size) = some cells.size) (h1 : cells.all (·.oneCell') = true) : (execOp a.eval oi).run P w = .ok .skip (w.setCells g o cells.toList) := by
  unfold execOp
  simp only [ho, hx, hy, Instr.storeAt, Instr.sureAddr, Sem.run_bind, Sem.run_pure, Result.andThen_ok, run_storeVar_mid w g o ty cells ht hi h1]
def winR.T8 : Bool × List (List Nat × List Nat) := (true, [([], []), ([], []), ([1], [1]), ([2], [2]), ([3], [3]), ([], []), ([4, 5], [4, 5]), ([0, 0, 1, 2, 3, 4, 5, 6], [0]), ([7, 6, 6, 0, 1, 2, 3, 4, 5, 6], [6, 7])])
def winR.B8 : List Nat := [0, 0, 2, 6, 14, 0, 62, 127, 255]
theorem winR.tab8 : rtab .any (opsOf Tryd.f111 8) = winR.T8 := by kernel_rfl
theorem winR.bits8 : waitsOk winR.T8.2 winR.B8 = true := by kernel_rfl
set_option maxRecDepth 100000 in
set_option maxHeartbeats 8000000 in
theorem Win_w (pW W : List Int) (f : Nat → List Int) (hW : W = flatR f 16) (hlp : pW.length = 20) (hl : ∀ i, (f i).length = 20)
    (kZ : ∀ w : World, Calls Tryd.prog 60 #[] w fun e w' => e = .returned (.agg (cells64 (f 0))) ∧ Below w.heap.size w w')
    (kD : ∀ i, 0 < i → i < 16 → i % 2 = 0 → ∀ w : World, Calls Tryd.prog 112 #[.agg (cells64 (f (i / 2)))] w fun e w' => e = .returned (.agg (cells64 (f i))) ∧ Below w.heap.size w w')
    (kA : ∀ i, i < 16 → i % 2 = 1 → ∀ w : World, Gc w → Calls Tryd.prog 21 #[.agg (cells64 (f (i - 1))), .agg (cells64 pW)] w fun e w' => e = .returned (.agg (cells64 (f i))) ∧ Below w.heap.size w w')
    (w : World) (hG : Gc w) : Calls Tryd.prog 111 #[.agg (cells64 pW)] w fun e w' => e = .returned (.agg (cells64 W)) ∧ Below w.heap.size w w' := by
  have HG := Aside0.mk hG
  have hsW : (cells64 W).size = 320 := by rw [hW]; have := flatR_length hl 16; simp only [cells64, List.size_toArray, List.length_map]; omega
  have HW := Lib.hid (And.intro hW hsW)
  clear hW hsW
  have HL := Aside0.mk (And.intro (fun i => size20' (hl i)) (And.intro (size20' hlp) hl))
  have HK := Aside0.mk (And.intro kZ (And.intro kD kA))
  clear hG hl hlp kZ kD kA
  go_enter Tryd.func111, Tryd.ntmps111
  go_upto_region 2 with (fail)
  have P0 : Aside0 (WSt w pW f 0 (((w.alloc (.cells (cells64 pW) 52)).alloc (.cells Tryd.zeroCells162 162)).alloc (.cells Tryd.zeroCells162 162))) := ⟨WSt.of w pW f HL.out.2.2⟩
  generalize (((w.alloc (.cells (cells64 pW) 52)).alloc (.cells Tryd.zeroCells162 162)).alloc (.cells Tryd.zeroCells162 162)) = w0 at P0 ⊢
  go_upto_region 4 with (first
    | (go_at_call 60; refine (HK.out.1 _).mono ?_; rintro e w1 ⟨rfl, hbc⟩; have P1 := Aside0.mk (P0.out.below hbc); clear hbc)
    | (refine wpList_store_mid rfl 52 (.tmp 6) (.tmp 5) rfl (w.heap.size + 1 + 1) 0 (cells64 (f 0)) (by rfl) (by rfl) (there_part P1.out.m.t (by rw [HL.out.1]; decide)) (by rw [HL.out.1]; exact info20) (ones64 _) ?_))
  have P2 : Aside0 (WSt w pW f 1 (w1.setCells (w.heap.size + 1 + 1) 0 (cells64 (f 0)).toList)) := ⟨P1.out.put (by decide)⟩
  clear P0 P1
  generalize (w1.setCells (w.heap.size + 1 + 1) 0 (cells64 (f 0)).toList) = w2 at P2 ⊢
  go_loopg [4] 15 (fun m t wr => ∃ i : Nat, i + m = 16 ∧ 1 ≤ i ∧ t = .int .i64 (i : Int) ∧ Aside0 (WSt w pW f i wr))
  case atStart => exact ⟨1, by omega, by omega, rfl, P2⟩
  case round =>
    clear P2
    obtain ⟨i, him, hi1, rfl, P⟩ := hrel
    cases gk with
    | zero =>
      obtain rfl : i = 16 := by omega
      have hall := P.out.m.all
      rw [← HW.out.1] at hall
      have HA := Aside0.mk hall
      clear hall
      go_wp2_with (first
        | (refine wpList_load_at rfl 162 (.tmp 3) rfl (w.heap.size + 1 + 1) 0 (by rfl) (cells64 W) _ HA.out Tryd.underlying162 (by rfl) (by rw [HW.out.2]; exact info320) ?_)
        | (refine wpList_store_row rfl 162 (.tmp 2) (.tmp 29) rfl (w.heap.size + 1) (cells64 W) (by rfl) (by rfl) 162 Tryd.zeroCells162 P.out.z (by rw [HW.out.2]; exact info320) (by rw [HW.out.2]; exact zsize320) (ones64 _) ?_))
      refine bodyPost_ret (v := .agg (cells64 W)) (results_cell_row (by rfl) _ _ (w.heap.size + 1) 162 (cells64 W) (0, 0) _ (by rfl) (setRow_heap _ _ _ _ _ _ P.out.z) Tryd.underlying162 rfl (by rw [HW.out.2]; exact info320)) rfl ⟨rfl, below_setRow P.out.b (by omega) _⟩
    | succ m =>
      have hiI : (i : Int) < 16 := by omega
      rcases Nat.mod_two_eq_zero_or_one i with he | ho
      · obtain ⟨q, hq⟩ : ∃ q, q = i / 2 := ⟨_, rfl⟩
        have K := Aside0.mk (HK.out.2.1 i (by omega) (by omega) he)
        rw [← hq] at K
        have hdv : Int.tdiv (i : Int) 2 = (q : Int) := by rw [Int.tdiv_eq_ediv_of_nonneg (by omega)]; omega
        have hmd : Int.tmod (i : Int) 2 = 0 := by rw [Int.tmod_eq_emod_of_nonneg (by omega)]; omega
        have hq8 : (q : Int) < 16 := by omega
        have hq0 : (0 : Int) ≤ q := by omega
        have hr := Aside0.mk (P.out.m.p q (by omega))
        have hi16 : i < 16 := by omega
        have HI := Lib.hid (And.intro him (And.intro hi1 hi16))
        clear hq he him hi1 hi16
        go_wp2_with (first
          | (refine wpList_load_at rfl 52 (.tmp 17) rfl (w.heap.size + 1 + 1) (q * 20) (by rfl) (cells64 (f q)) _ hr.out Tryd.underlying52 (by rfl) (by rw [HL.out.1]; exact info20) ?_)
          | (go_at_call 112; refine (K.out _).mono ?_; rintro e w3 ⟨rfl, hbc⟩; have P3 := Aside0.mk (P.out.below hbc); clear hbc)
          | (refine wpList_store_mid rfl 52 (.tmp 20) (.tmp 19) rfl (w.heap.size + 1 + 1) (i * 20) (cells64 (f i)) (by rfl) (by rfl) (there_part P3.out.m.t (by rw [HL.out.1]; have := HI.out.2.2; omega)) (by rw [HL.out.1]; exact info20) (ones64 _) ?_))
        go_roundg m
        case measure => omega
        case rel => exact ⟨i + 1, by have := HI.out.1; omega, by omega, by go_num, ⟨P3.out.put HI.out.2.2⟩⟩
      · obtain ⟨q, hq⟩ : ∃ q, q = i - 1 := ⟨_, rfl⟩
        have K := Aside0.mk (HK.out.2.2 i (by omega) ho)
        rw [← hq] at K
        have hmd : Int.tmod (i : Int) 2 = 1 := by rw [Int.tmod_eq_emod_of_nonneg (by omega)]; omega
        have hsb : (i : Int) - 1 = (q : Int) := by omega
        have hq8 : (q : Int) < 16 := by omega
        have hq0 : (0 : Int) ≤ q := by omega
        have hr := Aside0.mk (P.out.m.p q (by omega))
        have hi16 : i < 16 := by omega
        have HI := Lib.hid (And.intro him (And.intro hi1 hi16))
        have hwq : wrap64 (q : Int) = (q : Int) := by unfold wrap64; omega
        clear hq ho him hi1 hi16
        go_upto_region 8 with (fail)
        refine start_ (n := 9) (S := fun w' => Below wr.heap.size wr w') (ds := [8]) (fl 9 0) (by kernel_rfl) rfl rfl (below_drew1 (Below.refl _ _)) (fun hHeld => ?_)
        refine with_tabW winR.tab8 winR.bits8 (fun HT_ HW_ => ?_)
        refine pB 0 21 9 1 ?_
        refine pB 1 22 9 3 ?_
        refine pB 2 23 9 7 ?_
        refine pB 3 24 9 15 ?_
        refine takeA (i := 4) (N := some 25) (v := .agg (cells64 (f q))) (fl 9 31) (take_ofW HT_.out HW_.out (by kernel_rfl)) hHeld ?_ (hy := fun w' s0 => run_atx w' 52 (.tmp 24) rfl (w.heap.size + 1 + 1) (q * 20) (by rfl) (f q) _ (rangeAt_below hr.out s0) Tryd.underlying52 (by rfl) (by rw [HL.out.1]; exact info20))
        refine takeA (i := 5) (N := some 26) (v := .agg (cells64 pW)) (fl 9 63) (take_ofW HT_.out HW_.out (by kernel_rfl)) hHeld ?_ (hy := fun w' s0 => run_row w' 52 (.tmp 1) rfl w.heap.size (by rfl) 52 (cells64 pW) (0, 0) _ (P.out.p.below s0) Tryd.underlying52 rfl (by rw [HL.out.2.1]; exact info20))
        refine one_ (i := 6) (N := some 27) (fl 9 127) rfl rfl (one_of HT_.out (by kernel_rfl)) (by decide) (fun K_ hK => ?_)
        refine goes_ Tryd.func21 (by kernel_rfl) rfl #[.agg (cells64 (f q)), .agg (cells64 pW)] (by rfl) rfl rfl eqA ?_
        with_reducible refine (K.out _ (HG.out.below (below_step P.out.b hHeld))).mono ?_
        rintro e w7 ⟨rfl, hb⟩
        refine ⟨_, rfl, ?_⟩
        have hHeld2 := below_step hHeld hb
        clear hHeld hb
        refine hK.out _ _ hHeld2 (fun hHeld => ?_)
        clear hK K_ hHeld2
        refine normA (some 27) ?_
        have P7 := Aside0.mk (P.out.below hHeld)
        refine pB 7 28 9 255 ?_
        refine last_ (i := 8) (N := none) (fl 9 511) rfl rfl (one_of HT_.out (by kernel_rfl)) (by decide) (fun K_ hK => ?_)
        refine skip_ (w1 := w7.setCells (w.heap.size + 1 + 1) (i * 20) (cells64 (f i)).toList) (by rfl) rfl (run_put_mid w7 52 (.tmp 28) (.tmp 27) rfl (w.heap.size + 1 + 1) (i * 20) (cells64 (f i)) (by rfl) (by rfl) (there_part P7.out.m.t (by rw [HL.out.1]; have := HI.out.2.2; omega)) (by rw [HL.out.1]; exact info20) (ones64 _)) ?_
        refine hK.out _ _ ?_
        clear hK K_ hHeld
        refine done_ (done_of HT_.out (by kernel_rfl)) ?_
        clear HT_ HW_
        go_wp2
        go_roundg m
        case measure => omega
        case rel => exact ⟨i + 1, by have := HI.out.1; omega, by omega, by go_num, ⟨P7.out.put HI.out.2.2⟩⟩
theorem PWindow (p : Pnt) (hp : p.ok) (w : World) (hG : Gc w) : Calls Tryd.prog 111 #[Vp p] w fun e w' => e = .returned (.agg (cells64 (flatR (fun i => (p.mul i).L) 16))) ∧ Below w.heap.size w w' :=
  Win_w p.L (flatR (fun i => (p.mul i).L) 16) (fun i => (p.mul i).L) rfl rfl (fun _ => rfl) (fun w => by rw [Pnt.mul]; exact PZero w)
    (fun i h0 _ he w => by rw [mul_even p i h0 he]; exact PDbl _ (mul_ok p _) w) (fun i _ ho w hG => by rw [mul_odd p i (by omega) ho]; exact PAdd _ _ (mul_ok p _) hp w hG) w hG
end Go.Proofs.YtbenedckmapjoaaDoor.F
