/- store: an area: its generation and its record. -/
import Derived.Test.YtbenedckmapjoaaDoorY9
import Derived.ChangeKeysEq
import Derived.OwnWalk
namespace Go.Proofs.YtbenedckmapjoaaDoor.D
open Go.RowKit Go.Proofs.YtbenedckmapjoaaDoor.F Go.Proofs.YtbenedckmapjoaaDoor.H Go.Proofs.YtbenedckmapjoaaDoor.X Go.Proofs.YtbenedckmapjoaaDoorW.PrintWords Go.Proofs.YtbenedckmapjoaaDoorW.PrintLast Go.Proofs.YtbenedckmapjoaaDoorW.PrintMore
set_option linter.unusedVariables false
set_option linter.unusedSimpArgs false
theorem run_items {P : Program} (w : World) (d : Nat) {e : TypeId} {k : IntKind} (hu : P.underlying e = some (.int k)) (he : P.plainKey e = true) (xs ys : List Int) : ∀ is : List Nat, (∀ i ∈ is, i < xs.length ∧ i < ys.length) →
    (Op.eqItems (d + 1) e 1 (xs.map (Value.int k)).toArray (ys.map (Value.int k)).toArray is).run P w = .ok (is.all fun i => xs.getD i 0 == ys.getD i 0) w
  | [], _ => by simp [Op.eqItems]
  | i :: is, h => by
    obtain ⟨h1, h2⟩ := h i (by simp)
    have hx : (xs.map (Value.int k)).toArray[i * 1]? = some (.int k (xs.getD i 0)) := by simp [List.getElem?_eq_getElem h1, List.getD_eq_getElem?_getD]
    have hy : (ys.map (Value.int k)).toArray[i * 1]? = some (.int k (ys.getD i 0)) := by simp [List.getElem?_eq_getElem h2, List.getD_eq_getElem?_getD]
    have h3 : (Op.equalIn (d + 1) e (.int k (xs.getD i 0)) (.int k (ys.getD i 0))).run P w = .ok (xs.getD i 0 == ys.getD i 0) w := by
      simp [Op.equalIn, run_underlying hu]
    have ih := run_items w d hu he xs ys is (fun j hj => h j (by simp [hj]))
    simp only [Op.eqItems, Sem.run_bind, run_part_plain w he hx, run_part_plain w he hy, h3, Result.andThen_ok]
    cases hb : xs.getD i 0 == ys.getD i 0
    · simp only [Bool.not_false, if_true, List.all_cons, hb, Bool.false_and]; rfl
    · simp only [Bool.not_true, Bool.false_eq_true, if_false, List.all_cons, hb, Bool.true_and]; exact ih
theorem all_getD (xs ys : List Int) (n : Nat) (hx : xs.length = n) (hy : ys.length = n) : ((List.range n).all fun i => xs.getD i 0 == ys.getD i 0) = decide (xs = ys) := by
  rw [Bool.eq_iff_iff]
  simp only [List.all_eq_true, List.mem_range, beq_iff_eq, decide_eq_true_eq]
  constructor
  · intro h
    refine List.ext_getElem (by omega) (fun i h1 h2 => ?_)
    have := h i (by omega)
    rwa [List.getD_eq_getElem?_getD, List.getD_eq_getElem?_getD, List.getElem?_eq_getElem h1, List.getElem?_eq_getElem h2] at this
  · rintro rfl i _
    rfl
theorem run_neq_row {P : Program} (w : World) {t e : TypeId} {n : Nat} {k : IntKind} {i : TypeInfo} (hu : P.underlying t = some (.array n e)) (hi : P.info? e = some i) (hc : P.cellsOf e = 1) (hk : P.underlying e = some (.int k)) (he : P.plainKey e = true) (xs ys : List Int) (hx : xs.length = n) (hy : ys.length = n) :
    (binOp .neq t (.agg (xs.map (Value.int k)).toArray) (.agg (ys.map (Value.int k)).toArray)).run P w = .ok (.bool (!decide (xs = ys))) w := by
  rw [run_neq_struct, show (10000 : Nat) = 9998 + 1 + 1 by rfl, run_equalIn_array w (9998 + 1) _ _ hu hi, hc, run_items w 9998 hk he xs ys _ (fun j hj => by have := List.mem_range.1 hj; omega), all_getD xs ys n hx hy]
  rfl
theorem run_eql_row {P : Program} (w : World) {t e : TypeId} {n : Nat} {k : IntKind} {i : TypeInfo} (hu : P.underlying t = some (.array n e)) (hi : P.info? e = some i) (hc : P.cellsOf e = 1) (hk : P.underlying e = some (.int k)) (he : P.plainKey e = true) (xs ys : List Int) (hx : xs.length = n) (hy : ys.length = n) :
    (binOp .eql t (.agg (xs.map (Value.int k)).toArray) (.agg (ys.map (Value.int k)).toArray)).run P w = .ok (.bool (decide (xs = ys))) w := by
  rw [run_eql_struct, show (10000 : Nat) = 9998 + 1 + 1 by rfl, run_equalIn_array w (9998 + 1) _ _ hu hi, hc, run_items w 9998 hk he xs ys _ (fun j hj => by have := List.mem_range.1 hj; omega), all_getD xs ys n hx hy]
  rfl
theorem neq_head (w : World) (a b : List Int) (ha : a.length = 64) (hb : b.length = 64) : (binOp .neq 124 (.agg (cells8 a)) (.agg (cells8 b))).run Tryd.prog w = .ok (.bool (!decide (a = b))) w := by
  obtain ⟨i, hi, _⟩ := Option.map_eq_some_iff.1 info1
  exact run_neq_row w Tryd.underlying124 hi (by kernel_rfl) Tryd.underlying5 (by kernel_rfl) a b ha hb
theorem cell_sub {w : World} {g : Nat} {h : List Int} {t : TypeId} (hb : w.heap[g]? = some (.cells (cells8 h) t (0, 0))) (o n : Nat) (ho : o + n ≤ h.length) : ∀ i, i < n → w.cell? ⟨g, o + i, none⟩ = some (.int .u8 (((h.drop o).take n).getD i 0)) := fun i hi => by
  rw [(blk_cell hb (o + i)).trans (cells8_get h (o + i) (by omega)), List.getD_eq_getElem?_getD, List.getD_eq_getElem?_getD, List.getElem?_take_of_lt hi, List.getElem?_drop]
/-- A record's row that is one's own. -/
def RecC (b : Nat) (w : World) (A : Option Addr) (l : List Int) : Prop := Kd.C (Kd.int .u8) w A l.length l ∧ (0 < l.length → ∃ g, A = some ⟨g, 0, none⟩ ∧ b ≤ g ∧ ∃ cells, w.heap[g]? = some (.cells cells 5 (0, 0)))
theorem RecC.nil (b : Nat) (w : World) : RecC b w none [] := ⟨Kd.C_nil _ _, fun h => absurd h (by decide)⟩
theorem RecC.below {b : Nat} {w w1 : World} {A : Option Addr} {l : List Int} (h : RecC b w A l) (hb : Below w.heap.size w w1) : RecC b w1 A l := ⟨Kd.C_below h.1 hb, fun hn => by obtain ⟨g, e1, e2, cells, e3⟩ := h.2 hn; exact ⟨g, e1, e2, cells, blk_below e3 hb⟩⟩
theorem RecC.lower {b b' : Nat} {w : World} {A : Option Addr} {l : List Int} (h : RecC b w A l) (hb : b' ≤ b) : RecC b' w A l := ⟨h.1, fun hn => by obtain ⟨g, e1, e2, e3⟩ := h.2 hn; exact ⟨g, e1, by omega, e3⟩⟩
def gA : Option (Int × List Int) → Int
  | none => 0
  | some (g, _) => g
def rA : Option (Int × List Int) → List Int
  | none => []
  | some (_, r) => r
def areaR.T1 : Bool × List (List Nat × List Nat) := (true, [([], []), ([0], [0]), ([1], [1]), ([2], [2]), ([], []), ([], []), ([4, 5], [4, 5]), ([3, 6, 6], [3, 6]), ([7], [7]), ([8], [8]), ([8], [8]), ([9, 7, 0, 1, 2, 3, 4, 5, 6, 7, 8, 9], [9]), ([10, 11, 0, 1, 2, 3, 4, 5, 6, 7, 8, 9, 10, 11], [10])])
def areaR.B1 : List Nat := [0, 1, 3, 7, 0, 0, 48, 127, 255, 511, 511, 1023, 4095]
theorem areaR.tab1 : rtab .any (opsOf Tryd.f115 1) = areaR.T1 := by kernel_rfl
theorem areaR.bits1 : waitsOk areaR.T1.2 areaR.B1 = true := by kernel_rfl
def areaR.T5 : Bool × List (List Nat × List Nat) := (true, [([], []), ([0], [0]), ([], []), ([2, 1], [2]), ([1, 3, 0, 1], [1]), ([3, 4, 0, 1, 2, 3, 4], [3])])
def areaR.B5 : List Nat := [0, 1, 0, 7, 15, 31]
theorem areaR.tab5 : rtab .any (opsOf Tryd.f115 5) = areaR.T5 := by kernel_rfl
theorem areaR.bits5 : waitsOk areaR.T5.2 areaR.B5 = true := by kernel_rfl
def areaR.T8 : Bool × List (List Nat × List Nat) := (true, [([], []), ([0], [0]), ([1], [1]), ([2], [2]), ([], []), ([], []), ([4, 5], [4, 5]), ([6], [6]), ([], []), ([8], [8]), ([3, 7, 9, 6], [3, 7, 9]), ([10], [10]), ([11], [11]), ([11], [11]), ([12, 10, 0, 1, 2, 3, 4, 5, 6, 7, 8, 9, 10, 11, 12], [12]), ([13, 14, 0, 1, 2, 3, 4, 5, 6, 7, 8, 9, 10, 11, 12, 13, 14], [13])])
def areaR.B8 : List Nat := [0, 1, 3, 7, 0, 0, 48, 112, 0, 256, 1023, 2047, 4095, 4095, 8191, 32767]
theorem areaR.tab8 : rtab .any (opsOf Tryd.f115 8) = areaR.T8 := by kernel_rfl
theorem areaR.bits8 : waitsOk areaR.T8.2 areaR.B8 = true := by kernel_rfl
def areaR.T9 : Bool × List (List Nat × List Nat) := (true, [([], []), ([0], [0]), ([1], [1]), ([2], [2]), ([2], [2]), ([2], [2]), ([4, 5, 2, 2], [2, 4, 5]), ([3, 6, 2], [2, 3, 6]), ([2, 7], [2, 7])])
def areaR.B9 : List Nat := [0, 1, 3, 7, 7, 7, 55, 127, 255]
theorem areaR.tab9 : rtab .any (opsOf Tryd.f115 9) = areaR.T9 := by kernel_rfl
theorem areaR.bits9 : waitsOk areaR.T9.2 areaR.B9 = true := by kernel_rfl
theorem headAt (g c : Nat) : ∀ w : World, (Instr.arrayAt 124 (.slice (some ⟨g, 0, none⟩) 64 c)).run Tryd.prog w = .ok (.pointer (some ⟨g, 0, none⟩)) w := fun w => by (show _ = _; kernel_rfl)
theorem infoHd : (Tryd.prog.info? 124).map (·.size) = some 64 := by kernel_rfl
set_option maxRecDepth 100000 in
set_option maxHeartbeats 8000000 in
theorem area_c {base p gs s : Nat} {hv cv : Value} {d : DSt} {w : World} (h : Dk base p gs hv cv d w) (hs : Sto s p w) (HG : Glb w) (hup : d.down = false) (hH : d.H = []) (hS : d.S.length = 30) (hB : Byt d.S) (k : Nat) (hk : k ≤ 1) :
    Calls Tryd.prog 115 #[.pointer (some ⟨s, 0, none⟩), .int .i64 k] w fun e w' => ∃ A, e = .returned (.tuple #[.int .u64 (gA (areaS d.S k)), .slice A (rA (areaS d.S k)).length (rA (areaS d.S k)).length, .bool (areaS d.S k).isSome]) ∧ RecC w.heap.size w' A (rA (areaS d.S k)) ∧ Below w.heap.size w w' := by
  have hkI : (k : Int) ≤ 1 := by omega
  obtain ⟨H, hHd⟩ : ∃ x, x = d.S.getD (2 + k * 10) [] := ⟨_, rfl⟩
  have hsee : d.see (2 + k * 10) = H := by unfold DSt.see; rw [hH, hHd]; rfl
  have h64 : H.length = 64 := by rw [← hsee]; exact h.see64 (by omega)
  have hHB : ∀ x ∈ H, 0 ≤ x ∧ x < 256 := by rw [hHd]; exact hB _
  obtain ⟨G, hG⟩ : ∃ x, x = genS H := ⟨_, rfl⟩
  obtain ⟨NL, hNL⟩ : ∃ x, x = lenS H := ⟨_, rfl⟩
  have hbd8 := numL_bound ((H.drop 4).take 8) (fun x hx => hHB x (List.mem_of_mem_drop (List.mem_of_mem_take hx))) 8 (by rw [List.length_take, List.length_drop, h64]; decide)
  rw [List.take_of_length_le (by rw [List.length_take, List.length_drop, h64]; decide)] at hbd8
  have hbd4 := numL_bound ((H.drop 12).take 4) (fun x hx => hHB x (List.mem_of_mem_drop (List.mem_of_mem_take hx))) 4 (by rw [List.length_take, List.length_drop, h64]; decide)
  rw [List.take_of_length_le (by rw [List.length_take, List.length_drop, h64]; decide)] at hbd4
  have hG2 : numL ((H.drop 4).take 8) = G := by rw [hG]; rfl
  have hN2 : numL ((H.drop 12).take 4) = (NL : Int) := by rw [hNL]; unfold lenS; omega
  rw [hG2] at hbd8
  rw [hN2] at hbd4
  have hG0 : 0 ≤ G ∧ G < 18446744073709551616 := ⟨hbd8.1, by have := hbd8.2; omega⟩
  have hNLI : (NL : Int) < 4294967296 := by have := hbd4.2; omega
  have hN0 : (0 : Int) ≤ (NL : Int) := by omega
  have hread := read_c h hup (2 + k * 10) (by omega)
  rw [hsee] at hread
  have hplace := place_c hs k hk
  obtain ⟨o, ho⟩ : ∃ o, o = areaS d.S k := ⟨_, rfl⟩
  have ho2 := ho
  unfold areaS at ho2
  rw [← hHd, ← hG, ← hNL] at ho2
  rw [← ho]
  have c0 := hs.cells.1
  have HX := Aside0.mk (And.intro h (And.intro hs (And.intro HG (And.intro hup (And.intro hH (And.intro hS (And.intro hB (And.intro hk (And.intro hread hplace)))))))))
  have HY := Aside0.mk (And.intro h64 (And.intro hHB (And.intro hG2 (And.intro hN2 (And.intro ho2 hsee)))))
  have hGp := hG0.1
  have hGl := hG0.2
  clear h hs HG hup hH hS hB hread hplace hsee h64 hHB hbd8 hbd4 hG hNL hG2 hN2 ho ho2 hHd hk hG0
  go_enter Tryd.func115, Tryd.ntmps115
  go_upto_region 1 with (fail)
  refine start_ (n := 13) (S := fun w' => w'.cell? ⟨s, 0, none⟩ = some (.pointer (some ⟨p, 0, none⟩))) (ds := []) (fl 13 0) (by kernel_rfl) rfl rfl c0 (fun hHeld => ?_)
  refine with_tabW areaR.tab1 areaR.bits1 (fun HT_ HW_ => ?_)
  refine pB 0 14 13 1 ?_
  refine pB 1 15 13 3 ?_
  refine pB 2 16 13 7 ?_
  refine tB 3 17 13 15 hHeld ?_
  refine pB 4 18 13 31 ?_
  refine pB 5 19 13 63 ?_
  have hd1 := below_drew1 (Below.refl w.heap.size w)
  refine one_ (i := 6) (N := some 20) (fl 13 127) rfl rfl (one_of HT_.out (by kernel_rfl)) (by decide) (fun K hK => ?_)
  refine goes_ Tryd.func72 (by kernel_rfl) rfl #[.pointer (some ⟨s, 0, none⟩), .int .i64 k] (by rfl) rfl rfl eqA ?_
  refine (place_c (HX.out.2.1.below hd1) k HX.out.2.2.2.2.2.2.2.1).mono ?_
  rintro e w2 ⟨rfl, hb2⟩
  have P2 := Aside0.mk (below_step hd1 hb2)
  clear hb2 hd1
  refine ⟨_, rfl, ?_⟩
  refine hK.out _ _ (HX.out.2.1.below P2.out).cells.1 (fun hHeld => ?_)
  clear hK K
  refine normA (some 20) ?_
  refine one_ (i := 7) (N := some 21) (fl 13 255) rfl rfl (one_of HT_.out (by kernel_rfl)) (by decide) (fun K hK => ?_)
  refine goes_ Tryd.func87 (by kernel_rfl) rfl #[.pointer (some ⟨p, 0, none⟩), .int .i64 ((2 + k * 10 : Nat) : Int)] (by rfl) rfl rfl eqA ?_
  have hread := read_c (HX.out.1.below P2.out) HX.out.2.2.2.1 (2 + k * 10) (by rw [HX.out.2.2.2.2.2.1]; have := HX.out.2.2.2.2.2.2.2.1; omega)
  refine hread.mono ?_
  clear hread
  rintro e w3 ⟨g3, rfl, hh3, hg3, hb3⟩
  rw [HY.out.2.2.2.2.2] at hh3
  refine ⟨_, rfl, ?_⟩
  refine hK.out _ _ (HX.out.2.1.below (below_step P2.out hb3)).cells.1 (fun hHeld => ?_)
  clear hK K
  have P3 := Aside0.mk (And.intro hh3 (below_step P2.out hb3))
  clear hh3 hg3 hb3 P2 hHeld
  refine normA (some 21) ?_
  refine pB 8 13 13 511 ?_
  refine pB 9 22 13 1023 ?_
  refine pB 10 23 13 2047 ?_
  refine pB 11 7 13 4095 ?_
  refine pB 12 8 13 8191 ?_
  refine done_ (done_of HT_.out (by kernel_rfl)) ?_
  clear HT_ HW_ c0
  have har := headAt g3 64
  have hz : ∀ w' : World, (w'.alloc (.cells #[.int .u8 0, .int .u8 0, .int .u8 0, .int .u8 0, .int .u8 0, .int .u8 0, .int .u8 0, .int .u8 0, .int .u8 0, .int .u8 0, .int .u8 0, .int .u8 0, .int .u8 0, .int .u8 0, .int .u8 0, .int .u8 0, .int .u8 0, .int .u8 0, .int .u8 0, .int .u8 0, .int .u8 0, .int .u8 0, .int .u8 0, .int .u8 0, .int .u8 0, .int .u8 0, .int .u8 0, .int .u8 0, .int .u8 0, .int .u8 0, .int .u8 0, .int .u8 0, .int .u8 0, .int .u8 0, .int .u8 0, .int .u8 0, .int .u8 0, .int .u8 0, .int .u8 0, .int .u8 0, .int .u8 0, .int .u8 0, .int .u8 0, .int .u8 0, .int .u8 0, .int .u8 0, .int .u8 0, .int .u8 0, .int .u8 0, .int .u8 0, .int .u8 0, .int .u8 0, .int .u8 0, .int .u8 0, .int .u8 0, .int .u8 0, .int .u8 0, .int .u8 0, .int .u8 0, .int .u8 0, .int .u8 0, .int .u8 0, .int .u8 0, .int .u8 0] 124)).heap[w'.heap.size]? = some (.cells (cells8 zero64) 124 (0, 0)) := fun w' => new1 _ _
  go_upto_region 5 with (first
    | (refine wpList_load_row rfl 124 (.tmp 27) rfl g3 (by rfl) 117 (cells8 H) (0, 0) _ P3.out.1 Tryd.underlying124 rfl (by rw [size8 HY.out.1]; exact infoHd) ?_)
    | (refine wpList_store_row rfl 124 (.tmp 9) (.tmp 28) rfl w3.heap.size (cells8 H) (by rfl) (by rfl) 124 (cells8 zero64) (hz w3) (by rw [size8 HY.out.1]; exact infoHd) (by rw [size8 HY.out.1]; rfl) (ones8 _) ?_))
  have P4 : Aside0 (((w3.alloc (.cells #[.int .u8 0, .int .u8 0, .int .u8 0, .int .u8 0, .int .u8 0, .int .u8 0, .int .u8 0, .int .u8 0, .int .u8 0, .int .u8 0, .int .u8 0, .int .u8 0, .int .u8 0, .int .u8 0, .int .u8 0, .int .u8 0, .int .u8 0, .int .u8 0, .int .u8 0, .int .u8 0, .int .u8 0, .int .u8 0, .int .u8 0, .int .u8 0, .int .u8 0, .int .u8 0, .int .u8 0, .int .u8 0, .int .u8 0, .int .u8 0, .int .u8 0, .int .u8 0, .int .u8 0, .int .u8 0, .int .u8 0, .int .u8 0, .int .u8 0, .int .u8 0, .int .u8 0, .int .u8 0, .int .u8 0, .int .u8 0, .int .u8 0, .int .u8 0, .int .u8 0, .int .u8 0, .int .u8 0, .int .u8 0, .int .u8 0, .int .u8 0, .int .u8 0, .int .u8 0, .int .u8 0, .int .u8 0, .int .u8 0, .int .u8 0, .int .u8 0, .int .u8 0, .int .u8 0, .int .u8 0, .int .u8 0, .int .u8 0, .int .u8 0, .int .u8 0] 124)).setRow w3.heap.size (cells8 H)).heap[w3.heap.size]? = some (.cells (cells8 H) 124 (0, 0)) ∧ Below w.heap.size w ((w3.alloc (.cells #[.int .u8 0, .int .u8 0, .int .u8 0, .int .u8 0, .int .u8 0, .int .u8 0, .int .u8 0, .int .u8 0, .int .u8 0, .int .u8 0, .int .u8 0, .int .u8 0, .int .u8 0, .int .u8 0, .int .u8 0, .int .u8 0, .int .u8 0, .int .u8 0, .int .u8 0, .int .u8 0, .int .u8 0, .int .u8 0, .int .u8 0, .int .u8 0, .int .u8 0, .int .u8 0, .int .u8 0, .int .u8 0, .int .u8 0, .int .u8 0, .int .u8 0, .int .u8 0, .int .u8 0, .int .u8 0, .int .u8 0, .int .u8 0, .int .u8 0, .int .u8 0, .int .u8 0, .int .u8 0, .int .u8 0, .int .u8 0, .int .u8 0, .int .u8 0, .int .u8 0, .int .u8 0, .int .u8 0, .int .u8 0, .int .u8 0, .int .u8 0, .int .u8 0, .int .u8 0, .int .u8 0, .int .u8 0, .int .u8 0, .int .u8 0, .int .u8 0, .int .u8 0, .int .u8 0, .int .u8 0, .int .u8 0, .int .u8 0, .int .u8 0, .int .u8 0] 124)).setRow w3.heap.size (cells8 H))) := ⟨setRow_heap _ _ _ _ _ _ (hz w3), below_setRow (below_alloc P3.out.2 _) P3.out.2.size _⟩
  generalize ((w3.alloc (.cells #[.int .u8 0, .int .u8 0, .int .u8 0, .int .u8 0, .int .u8 0, .int .u8 0, .int .u8 0, .int .u8 0, .int .u8 0, .int .u8 0, .int .u8 0, .int .u8 0, .int .u8 0, .int .u8 0, .int .u8 0, .int .u8 0, .int .u8 0, .int .u8 0, .int .u8 0, .int .u8 0, .int .u8 0, .int .u8 0, .int .u8 0, .int .u8 0, .int .u8 0, .int .u8 0, .int .u8 0, .int .u8 0, .int .u8 0, .int .u8 0, .int .u8 0, .int .u8 0, .int .u8 0, .int .u8 0, .int .u8 0, .int .u8 0, .int .u8 0, .int .u8 0, .int .u8 0, .int .u8 0, .int .u8 0, .int .u8 0, .int .u8 0, .int .u8 0, .int .u8 0, .int .u8 0, .int .u8 0, .int .u8 0, .int .u8 0, .int .u8 0, .int .u8 0, .int .u8 0, .int .u8 0, .int .u8 0, .int .u8 0, .int .u8 0, .int .u8 0, .int .u8 0, .int .u8 0, .int .u8 0, .int .u8 0, .int .u8 0, .int .u8 0, .int .u8 0] 124)).setRow w3.heap.size (cells8 H)) = w4 at P4 ⊢
  clear P3 har hz
  generalize w3.heap.size = g4 at P4 ⊢
  have P5 : Aside0 (w4.drew.heap[g4]? = some (.cells (cells8 H) 124 (0, 0)) ∧ Below w.heap.size w w4.drew) := ⟨blk_drew P4.out.1, below_step P4.out.2 (below_drew1 (Below.refl _ _))⟩
  refine start_ (n := 6) (S := fun _ => True) (ds := []) (fl 6 0) (by kernel_rfl) rfl rfl trivial (fun hHeld => ?_)
  clear P4 hHeld
  generalize w4.drew = w5 at P5 ⊢
  have n1 := number_c ((H.drop 4).take 8) (by rw [List.length_take]; omega) (fun x hx => HY.out.2.1 x (List.mem_of_mem_drop (List.mem_of_mem_take hx))) g4 4 8 60 (by rw [List.length_take, List.length_drop, HY.out.1]; decide) w5 (cell_sub P5.out.1 4 8 (by rw [HY.out.1]; decide))
  have n2 := number_c ((H.drop 12).take 4) (by rw [List.length_take]; omega) (fun x hx => HY.out.2.1 x (List.mem_of_mem_drop (List.mem_of_mem_take hx))) g4 12 4 52 (by rw [List.length_take, List.length_drop, HY.out.1]; decide) w5 (cell_sub P5.out.1 12 4 (by rw [HY.out.1]; decide))
  rw [HY.out.2.2.1] at n1
  rw [HY.out.2.2.2.1] at n2
  have HN := Aside0.mk (And.intro n1 n2)
  clear n1 n2
  refine with_tabW areaR.tab5 areaR.bits5 (fun HT_ HW_ => ?_)
  refine pB 0 29 6 1 ?_
  refine pB 2 31 6 5 ?_
  refine one_ (i := 1) (N := some 30) (fl 6 7) rfl rfl (one_of HT_.out (by kernel_rfl)) (by decide) (fun K hK => ?_)
  refine goes_ Tryd.func137 (by kernel_rfl) rfl #[.slice (some ⟨g4, 4, none⟩) 8 60] (by rfl) rfl rfl eqA ?_
  refine HN.out.1.mono ?_
  rintro e w6 ⟨rfl, hw6⟩
  have hw6 := hw6.symm
  subst hw6
  refine ⟨_, rfl, ?_⟩
  refine hK.out _ _ trivial (fun _ => ?_)
  clear hK K
  refine normA (some 30) ?_
  refine one_ (i := 3) (N := some 32) (fl 6 15) rfl rfl (one_of HT_.out (by kernel_rfl)) (by decide) (fun K hK => ?_)
  refine goes_ Tryd.func137 (by kernel_rfl) rfl #[.slice (some ⟨g4, 12, none⟩) 4 52] (by rfl) rfl rfl eqA ?_
  refine HN.out.2.mono ?_
  rintro e w7 ⟨rfl, hw7⟩
  have hw7 := hw7.symm
  subst hw7
  refine ⟨_, rfl, ?_⟩
  refine hK.out _ _ trivial (fun _ => ?_)
  clear hK K
  refine normA (some 32) ?_
  refine pB 4 10 6 31 ?_
  refine pB 5 11 6 63 ?_
  refine done_ (done_of HT_.out (by kernel_rfl)) ?_
  clear HT_ HW_ HN
  have ho := HY.out.2.2.2.2.1
  by_cases hg0 : G = 0
  · rw [if_pos (.inl hg0)] at ho
    subst ho
    have hgE : (G == 0) = true := by rw [hg0]; rfl
    go_wp2
    go_ret3
    exact ⟨none, rfl, RecC.nil _ _, P5.out.2⟩
  · by_cases hn : 576 < NL
    · rw [if_pos (.inr hn)] at ho
      subst ho
      have hnI : (576 : Int) < (NL : Int) := by omega
      go_wp2_with (first
        | (go_at_call 71; refine (room_c (HX.out.2.1.below P5.out.2)).mono ?_; rintro e w7 ⟨rfl, hw7⟩; have hw7 := hw7.symm; subst hw7))
      go_ret3
      exact ⟨none, rfl, RecC.nil _ _, P5.out.2⟩
    · rw [if_neg (by omega)] at ho
      have hnI : ¬ (576 : Int) < (NL : Int) := by omega
      have hN576 : NL ≤ 576 := by omega
      have hGb : (G == 0) = false := beq_eq_false_iff_ne.mpr hg0
      have hnb : decide ((576 : Int) < (NL : Int)) = false := decide_eq_false hnI
      clear hg0 hnI
      have HO := Aside0.mk (And.intro ho hN576)
      clear ho hN576 hn
      go_upto_region 8 with (first
        | (go_at_call 71; refine (room_c (HX.out.2.1.below P5.out.2)).mono ?_; rintro e w7 ⟨rfl, hw7⟩; have hw7 := hw7.symm; subst hw7))
      have hnI2 : (NL : Int) ≤ 576 := by have := HO.out.2; omega
      clear hGb hnb
      have hwn : wrap64 (NL : Int) = (NL : Int) := by unfold wrap64; omega
      have hwk : wrap64 (((2 + k * 10 : Nat) : Int) + 1) = ((2 + k * 10 + 1 : Nat) : Int) := by unfold wrap64; omega
      have P6 : Aside0 (w5.drew.heap[g4]? = some (.cells (cells8 H) 124 (0, 0)) ∧ Below w.heap.size w w5.drew) := ⟨blk_drew P5.out.1, below_step P5.out.2 (below_drew1 (Below.refl _ _))⟩
      refine start_ (n := 16) (S := fun w' => w'.cell? ⟨s, 0, none⟩ = some (.pointer (some ⟨p, 0, none⟩))) (ds := []) (fl 16 0) (by kernel_rfl) rfl rfl (HX.out.2.1.below P6.out.2).cells.1 (fun hHeld => ?_)
      clear P5
      generalize w5.drew = w6 at P6 hHeld ⊢
      refine with_tabW areaR.tab8 areaR.bits8 (fun HT_ HW_ => ?_)
      refine pB 0 43 16 1 ?_
      refine pB 1 44 16 3 ?_
      refine pB 2 45 16 7 ?_
      refine tB 3 46 16 15 hHeld ?_
      refine pB 4 47 16 31 ?_
      refine pB 5 48 16 63 ?_
      refine pB 8 51 16 319 ?_
      refine pB 9 52 16 831 (v := .int .i64 (NL : Int)) (hy := fun w' => by go_simp; exact (i64_w _).trans hwn) ?_
      refine one_ (i := 6) (N := some 49) (fl 16 895) rfl rfl (one_of HT_.out (by kernel_rfl)) (by decide) (fun K hK => ?_)
      refine goes_ Tryd.func72 (by kernel_rfl) rfl #[.pointer (some ⟨s, 0, none⟩), .int .i64 k] (by rfl) rfl rfl eqA ?_
      refine (place_c (HX.out.2.1.below P6.out.2) k HX.out.2.2.2.2.2.2.2.1).mono ?_
      rintro e w7 ⟨rfl, hb7⟩
      have P7 : Aside0 (w7.heap[g4]? = some (.cells (cells8 H) 124 (0, 0)) ∧ Below w.heap.size w w7) := ⟨blk_below P6.out.1 hb7, below_step P6.out.2 hb7⟩
      clear hb7 P6 hHeld
      refine ⟨_, rfl, ?_⟩
      refine hK.out _ _ (HX.out.2.1.below P7.out.2).cells.1 (fun hHeld => ?_)
      clear hK K
      refine normA (some 49) ?_
      refine pB 7 50 16 1023 (v := .int .i64 ((2 + k * 10 + 1 : Nat) : Int)) (hy := fun w' => by go_simp; exact (i64_w _).trans hwk) ?_
      refine one_ (i := 10) (N := some 53) (fl 16 2047) rfl rfl (one_of HT_.out (by kernel_rfl)) (by decide) (fun K hK => ?_)
      refine goes_ Tryd.func36 (by kernel_rfl) rfl #[.pointer (some ⟨p, 0, none⟩), .int .i64 ((2 + k * 10 + 1 : Nat) : Int), .int .i64 (NL : Int)] (by rfl) rfl rfl eqA ?_
      have hload := load_c (HX.out.1.below P7.out.2) HX.out.2.2.2.1 (2 + k * 10 + 1) NL (by rw [HX.out.2.2.2.2.2.1]; have := HX.out.2.2.2.2.2.2.2.1; have := HO.out.2; unfold needN; omega)
      rw [sees_secS d HX.out.2.2.2.2.1] at hload
      obtain ⟨r, hr⟩ : ∃ r, r = recS d.S k NL := ⟨_, rfl⟩
      rw [show (secS d.S (2 + k * 10 + 1) (needN NL)).take NL = r by rw [hr]; rfl] at hload
      have HO2 : Aside0 (o = if H = headL G r then some (G, r) else none) := ⟨by rw [hr]; exact HO.out.1⟩
      refine hload.mono ?_
      clear hload
      rintro e w8 ⟨v8, rfl, ⟨A8, rfl, hA8, hC8⟩, hb8⟩
      have hrl : r.length = NL := hC8.1
      refine ⟨_, rfl, ?_⟩
      have P8 : Aside0 (w8.heap[g4]? = some (.cells (cells8 H) 124 (0, 0)) ∧ Below w.heap.size w w8 ∧ RecC w.heap.size w8 A8 r) := ⟨blk_below P7.out.1 hb8, below_step P7.out.2 hb8, by rw [hrl]; exact hC8, fun hn => by rw [hrl] at hn; obtain ⟨g, e1, e2, e3⟩ := hA8 hn; exact ⟨g, e1, Nat.le_trans P7.out.2.size e2, e3⟩⟩
      refine hK.out _ _ (HX.out.2.1.below P8.out.2.1).cells.1 (fun hHeld => ?_)
      clear hK K hA8 hC8 hb8 P7 hHeld HO
      have HR := Lib.hid (And.intro hr hrl)
      clear hr hrl
      refine normA (some 53) ?_
      refine pB 11 42 16 4095 ?_
      refine pB 12 54 16 8191 ?_
      refine pB 13 55 16 16383 ?_
      refine pB 14 12 16 32767 ?_
      refine pB 15 8 16 65535 ?_
      refine done_ (done_of HT_.out (by kernel_rfl)) ?_
      clear HT_ HW_ hwn hwk
      have hrb : ∀ x ∈ r, 0 ≤ x ∧ x < 256 := by
        rw [HR.out.1]
        unfold recS
        exact fun x hx => secS_bytes _ HX.out.2.2.2.2.2.2.1 _ _ x (List.mem_of_mem_take hx)
      have HRB := Aside0.mk hrb
      clear hrb
      go_upto_region 9 with (fail)
      have P9 : Aside0 (w8.drew.heap[g4]? = some (.cells (cells8 H) 124 (0, 0)) ∧ Below w.heap.size w w8.drew ∧ RecC w.heap.size w8.drew A8 r) := ⟨blk_drew P8.out.1, below_step P8.out.2.1 (below_drew1 (Below.refl _ _)), P8.out.2.2.below (below_drew1 (Below.refl _ _))⟩
      have hrange : ∀ {w' : World}, w'.heap[g4]? = some (.cells (cells8 H) 124 (0, 0)) → w'.rangeAt g4 0 (cells8 H).toList := fun {w'} hb => by
        have := World.rangeAt_of_block hb 0 64
        rw [show ((cells8 H).extract 0 (0 + 64)).toList = (cells8 H).toList by rw [Array.toList_extract]; simp [cells8, List.extract_eq_take_drop]; exact List.take_of_length_le (by rw [List.length_map, HY.out.1]; exact Nat.le_refl _)] at this
        exact this
      have HRA := Aside0.mk (@hrange)
      refine start_ (n := 9) (S := fun w' => w'.rangeAt g4 0 (cells8 H).toList) (ds := []) (fl 9 0) (by kernel_rfl) rfl rfl (hrange P9.out.1) (fun hHeld => ?_)
      clear P8 hrange
      generalize w8.drew = w9 at P9 hHeld ⊢
      refine with_tabW areaR.tab9 areaR.bits9 (fun HT_ HW_ => ?_)
      refine pB 0 56 9 1 ?_
      refine pB 1 57 9 3 ?_
      refine pB 2 58 9 7 ?_
      refine takeA (i := 3) (N := some 59) (v := .agg (cells8 H)) (fl 9 15) (take_ofW HT_.out HW_.out (by kernel_rfl)) hHeld ?_ (hy := fun w' s0 => run_atA w' 124 (.tmp 9) rfl g4 0 (by rfl) (cells8 H) _ s0 Tryd.underlying124 (by rfl) (by rw [size8 HY.out.1]; exact infoHd))
      refine pB 4 60 9 31 ?_
      refine pB 5 61 9 63 ?_
      refine one_ (i := 6) (N := some 62) (fl 9 127) rfl rfl (one_of HT_.out (by kernel_rfl)) (by decide) (fun K hK => ?_)
      refine goes_ Tryd.func74 (by kernel_rfl) rfl #[.int .u64 G, .slice A8 NL NL] (by rfl) rfl rfl eqA ?_
      have hhd := headOf_c G ⟨hGp, hGl⟩ A8 NL NL r w9 (HX.out.2.2.1.of P9.out.2.1) HR.out.2.symm (by rw [← HR.out.2]; exact P9.out.2.2.1) HRB.out (by rw [HR.out.2]; omega)
      obtain ⟨H2, hH2⟩ : ∃ x, x = headL G r := ⟨_, rfl⟩
      rw [← hH2] at hhd HO2
      have h2l : H2.length = 64 := by rw [hH2]; exact headL_length _ _
      refine hhd.mono ?_
      clear hhd
      rintro e w10 ⟨rfl, hb10⟩
      refine ⟨_, rfl, ?_⟩
      have P10 : Aside0 (w10.heap[g4]? = some (.cells (cells8 H) 124 (0, 0)) ∧ Below w.heap.size w w10 ∧ RecC w.heap.size w10 A8 r) := ⟨blk_below P9.out.1 hb10, below_step P9.out.2.1 hb10, P9.out.2.2.below hb10⟩
      refine hK.out _ _ (HRA.out P10.out.1) (fun hHeld => ?_)
      clear hK K hb10 P9 hHeld HRA
      have hneq := fun w' => neq_head w' H H2 HY.out.1 h2l
      clear hH2
      refine normA (some 62) ?_
      by_cases he : H = H2
      · rw [show (!decide (H = H2)) = false by rw [decide_eq_true he]; rfl] at hneq
        rw [if_pos he] at HO2
        have ho3 := HO2.out
        subst ho3
        clear he
        refine pB 7 63 9 255 (v := .bool false) (hy := fun w' => by go_simp) ?_
        refine pB 8 64 9 511 ?_
        refine done_ (done_of HT_.out (by kernel_rfl)) ?_
        clear HT_ HW_ hneq
        go_wp2
        go_ret3
        exact ⟨A8, by rw [show (rA (some (G, r))).length = NL from HR.out.2]; rfl, P10.out.2.2, P10.out.2.1⟩
      · rw [show (!decide (H = H2)) = true by rw [decide_eq_false he]; rfl] at hneq
        rw [if_neg he] at HO2
        have ho3 := HO2.out
        subst ho3
        clear he
        refine pB 7 63 9 255 (v := .bool true) (hy := fun w' => by go_simp) ?_
        refine pB 8 64 9 511 ?_
        refine done_ (done_of HT_.out (by kernel_rfl)) ?_
        clear HT_ HW_ hneq
        go_wp2
        go_ret3
        exact ⟨none, rfl, RecC.nil _ _, P10.out.2.1⟩
end Go.Proofs.YtbenedckmapjoaaDoor.D
