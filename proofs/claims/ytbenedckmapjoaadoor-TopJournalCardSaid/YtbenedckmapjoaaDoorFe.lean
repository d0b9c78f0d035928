/- Products of weak elements. -/
import Derived.Test.YtbenedckmapjoaaDoorY4
import Derived.Test.YtbenedckmapjoaaDoorWC
namespace Go.Proofs.YtbenedckmapjoaaDoor.F
open Go.RowKit Go.Proofs.YtbenedckmapjoaaDoor.H Go.Proofs.YtbenedckmapjoaaDoorW.PrintWords Go.Proofs.YtbenedckmapjoaaDoorW.PrintLast Go.Proofs.YtbenedckmapjoaaDoorW.PrintMore
set_option linter.unusedVariables false
set_option linter.unusedSimpArgs false
def M64 : Int := 18446744073709551616
/-- Wide numbers, cell by cell. -/
def cellsW (l : List Int) : Array Value := (l.flatMap fun n => [Value.int .u64 (n / 18446744073709551616), .int .u64 (n % 18446744073709551616)]).toArray
theorem cellsW_hi : ∀ (l : List Int) (i : Nat), i < l.length → (cellsW l)[2 * i]? = some (.int .u64 (l.getD i 0 / 18446744073709551616)) := by
  intro l
  induction l with
  | nil => intro i h; exact absurd h (Nat.not_lt_zero _)
  | cons a l ih =>
    intro i h
    cases i with
    | zero => simp [cellsW]
    | succ i =>
      have := ih i (by simpa using h)
      simp only [cellsW, List.getElem?_toArray] at this ⊢
      rw [List.flatMap_cons, show 2 * (i + 1) = 2 * i + 1 + 1 by omega]
      simpa using this
theorem cellsW_lo : ∀ (l : List Int) (i : Nat), i < l.length → (cellsW l)[2 * i + 1]? = some (.int .u64 (l.getD i 0 % 18446744073709551616)) := by
  intro l
  induction l with
  | nil => intro i h; exact absurd h (Nat.not_lt_zero _)
  | cons a l ih =>
    intro i h
    cases i with
    | zero => simp [cellsW]
    | succ i =>
      have := ih i (by simpa using h)
      simp only [cellsW, List.getElem?_toArray] at this ⊢
      rw [List.flatMap_cons, show 2 * (i + 1) + 1 = (2 * i + 1) + 1 + 1 by omega]
      simpa using this
theorem cellsW_set : ∀ (l : List Int) (i : Nat) (n : Int), i < l.length → ((cellsW l).setIfInBounds (2 * i) (.int .u64 (n / 18446744073709551616))).setIfInBounds (2 * i + 1) (.int .u64 (n % 18446744073709551616)) = cellsW (l.set i n) := by
  intro l
  induction l with
  | nil => intro i n h; exact absurd h (Nat.not_lt_zero _)
  | cons a l ih =>
    intro i n h
    cases i with
    | zero => simp [cellsW]
    | succ i =>
      have := ih i n (by simpa using h)
      simp only [cellsW, List.setIfInBounds_toArray, Array.mk.injEq] at this ⊢
      rw [List.flatMap_cons, show 2 * (i + 1) = 2 * i + 1 + 1 by omega, show 2 * i + 1 + 1 + 1 = (2 * i + 1) + 1 + 1 by omega, List.set_cons_succ, List.flatMap_cons, ← this]
      simp
theorem cellsW_size (l : List Int) : (cellsW l).size = 2 * l.length := by
  induction l with
  | nil => rfl
  | cons a l ih =>
    simp only [cellsW, List.size_toArray, List.flatMap_cons, List.length_append, List.length_cons, List.length_nil] at ih ⊢
    omega
/-- The place and the factor of a product of limbs. -/
def mt (i k : Nat) : Nat := if i + k < 5 then i + k else i + k - 5
def mx (x : List Int) (i k : Nat) : Int := if i + k < 5 then x.getD i 0 else 19 * x.getD i 0
def mwI (x y : List Int) (i : Nat) (l : List Int) : Nat → List Int
  | 0 => l
  | k + 1 => (mwI x y i l k).set (mt i k) ((mwI x y i l k).getD (mt i k) 0 + mx x i k * y.getD k 0)
def mwO (x y : List Int) : Nat → List Int
  | 0 => [0, 0, 0, 0, 0]
  | i + 1 => mwI x y i (mwO x y i) 5
theorem mwI_length (x y : List Int) (i : Nat) (l : List Int) : ∀ k, (mwI x y i l k).length = l.length
  | 0 => rfl
  | k + 1 => by rw [mwI, List.length_set, mwI_length x y i l k]
theorem mwO_length (x y : List Int) : ∀ i, (mwO x y i).length = 5
  | 0 => rfl
  | i + 1 => by rw [mwO, mwI_length, mwO_length x y i]
/-- Limbs of at most 52 digits. -/
def Lim (x : List Int) : Prop := ∀ i, 0 ≤ x.getD i 0 ∧ x.getD i 0 < 4503599627370496
def Bd (B : Int) (l : List Int) : Prop := ∀ j, 0 ≤ l.getD j 0 ∧ l.getD j 0 ≤ B
theorem getD_set_list (l : List Int) (i j : Nat) (v : Int) : (l.set i v).getD j 0 = if i = j ∧ j < l.length then v else l.getD j 0 := by
  rw [List.getD_eq_getElem?_getD, List.getD_eq_getElem?_getD, List.getElem?_set]
  by_cases h : i = j
  · subst h
    by_cases h2 : i < l.length
    · simp [h2]
    · simp [h2]
  · simp [h]
theorem mx_bound {x : List Int} (hx : Lim x) (i k : Nat) : 0 ≤ mx x i k ∧ mx x i k < 85568392920039424 := by
  have := hx i
  unfold mx
  split <;> omega
theorem mprod_bound {x y : List Int} (hx : Lim x) (hy : Lim y) (i k : Nat) : 0 ≤ mx x i k * y.getD k 0 ∧ mx x i k * y.getD k 0 ≤ 649037107316853453566312041152512 := by
  have h1 := mx_bound hx i k
  have h2 := hy k
  refine ⟨Int.mul_nonneg h1.1 h2.1, ?_⟩
  exact Int.le_trans (Int.mul_le_mul (Int.le_of_lt h1.2) (Int.le_of_lt h2.2) h2.1 (by decide)) (by decide)
theorem mwI_bound {x y : List Int} (hx : Lim x) (hy : Lim y) (i : Nat) (l : List Int) (B : Int) (hB : 0 ≤ B) (hl : Bd B l) : ∀ k : Nat, Bd (B + 649037107316853453566312041152512 * (k : Int)) (mwI x y i l k)
  | 0 => fun j => by have := hl j; simp only [mwI]; omega
  | k + 1 => fun j => by
    have h1 := mwI_bound hx hy i l B hB hl k
    have h2 := mprod_bound hx hy i k
    have h3 := h1 j
    have h4 := h1 (mt i k)
    rw [mwI, getD_set_list]
    split <;> push_cast <;> omega
theorem mwO_bound {x y : List Int} (hx : Lim x) (hy : Lim y) : ∀ i : Nat, Bd (649037107316853453566312041152512 * (5 * (i : Int))) (mwO x y i)
  | 0 => fun j => by
    have : ([0, 0, 0, 0, 0] : List Int).getD j 0 = 0 := by
      match j with
      | 0 => rfl
      | 1 => rfl
      | 2 => rfl
      | 3 => rfl
      | 4 => rfl
      | j + 5 => rfl
    rw [mwO, this]
    simp
  | i + 1 => fun j => by
    have h := mwI_bound hx hy i (mwO x y i) _ (by omega) (mwO_bound hx hy i) 5 j
    rw [mwO]
    push_cast at h ⊢
    omega
structure MulAt (w : World) (x y W : List Int) (wr : World) : Prop where
  a : Arr w.heap.size x wr
  c : Arr (w.heap.size + 1) y wr
  z : Arr (w.heap.size + 1 + 1) [0, 0, 0, 0, 0] wr
  d : wr.heap[w.heap.size + 1 + 1 + 1]? = some (.cells (cellsW W) 194 (0, 0))
  b : Below w.heap.size w wr
theorem MulAt.below {w : World} {x y W : List Int} {wr w1 : World} (h : MulAt w x y W wr) (hb : Below wr.heap.size wr w1) : MulAt w x y W w1 := ⟨h.a.below hb, h.c.below hb, h.z.below hb, blk_below h.d hb, below_step h.b hb⟩
theorem MulAt.drew {w : World} {x y W : List Int} {wr : World} (h : MulAt w x y W wr) : MulAt w x y W wr.drew := ⟨h.a, h.c, h.z, h.d, below_drew1 h.b⟩
theorem MulAt.put {w : World} {x y W : List Int} {wr : World} (h : MulAt w x y W wr) (i : Nat) (n : Int) (hi : i < W.length) :
    MulAt w x y (W.set i n) ((wr.setCell ⟨w.heap.size + 1 + 1 + 1, i * 2, none⟩ (.int .u64 (n / 18446744073709551616))).setCell ⟨w.heap.size + 1 + 1 + 1, i * 2 + 1, none⟩ (.int .u64 (n % 18446744073709551616))) := by
  refine ⟨(h.a.other (by simp <;> omega) _).other (by simp <;> omega) _, (h.c.other (by simp <;> omega) _).other (by simp <;> omega) _, (h.z.other (by simp <;> omega) _).other (by simp <;> omega) _, ?_, below_set (below_set h.b (by show w.heap.size ≤ _; omega)) (by show w.heap.size ≤ _; omega)⟩
  have h1 := blk_put h.d (i * 2) (.int .u64 (n / 18446744073709551616)) rfl
  have h2 := blk_put h1 (i * 2 + 1) (.int .u64 (n % 18446744073709551616)) rfl
  rw [Nat.mul_comm i 2, cellsW_set W i n hi] at h2
  rw [Nat.mul_comm i 2]
  exact h2
theorem index5 (x : List Int) (hl : x.length = 5) (n : Nat) (hn : n < 5) : ∀ w : World, (Instr.index 50 (.agg (cells64 x)) (.int .i64 (n : Int))).run Tryd.prog w = .ok (.int .u64 (x.getD n 0)) w := by
  obtain ⟨a, b, c, d, e, rfl⟩ : ∃ a b c d e, x = [a, b, c, d, e] := by
    match x, hl with
    | [a, b, c, d, e], _ => exact ⟨a, b, c, d, e, rfl⟩
  intro w
  match n, hn with
  | 0, _ => (show _ = _; kernel_rfl)
  | 1, _ => (show _ = _; kernel_rfl)
  | 2, _ => (show _ = _; kernel_rfl)
  | 3, _ => (show _ = _; kernel_rfl)
  | 4, _ => (show _ = _; kernel_rfl)
theorem new4 (w : World) (o o' o'' o3 : Obj) : ((((w.alloc o).alloc o').alloc o'').alloc o3).heap[w.heap.size + 1 + 1 + 1]? = some o3 := by have := blk_new (((w.alloc o).alloc o').alloc o'') o3; simpa using this
theorem indexW (U : List Int) (hl : U.length = 5) (n : Nat) (hn : n < 5) : ∀ w : World, (Instr.index 194 (.agg (cellsW U)) (.int .i64 (n : Int))).run Tryd.prog w = .ok (.agg #[.int .u64 (U.getD n 0 / 18446744073709551616), .int .u64 (U.getD n 0 % 18446744073709551616)]) w := by
  obtain ⟨a, b, c, d, e, rfl⟩ : ∃ a b c d e, U = [a, b, c, d, e] := by
    match U, hl with
    | [a, b, c, d, e], _ => exact ⟨a, b, c, d, e, rfl⟩
  intro w
  match n, hn with
  | 0, _ => (show _ = _; kernel_rfl)
  | 1, _ => (show _ = _; kernel_rfl)
  | 2, _ => (show _ = _; kernel_rfl)
  | 3, _ => (show _ = _; kernel_rfl)
  | 4, _ => (show _ = _; kernel_rfl)
theorem above_d (h l n : Int) (hh : h = n / 18446744073709551616) (hl : l = n % 18446744073709551616) (hn0 : 0 ≤ n) (hn : n < 41538374868278621028243970633760768) (w : World) :
    Calls Tryd.prog 136 #[.agg #[.int .u64 h, .int .u64 l]] w fun e w' => e = .returned (.int .u64 (n / 2251799813685248)) ∧ Below w.heap.size w w' := by
  subst hh hl
  exact above_c n hn0 hn w
def zS (U : List Int) : Nat → List Int × Int
  | 0 => ([0, 0, 0, 0, 0], 0)
  | i + 1 => ((zS U i).1.set i ((U.getD i 0 + (zS U i).2) % 2251799813685248), (U.getD i 0 + (zS U i).2) / 2251799813685248)
theorem zS_length (U : List Int) : ∀ i, (zS U i).1.length = 5
  | 0 => rfl
  | i + 1 => by rw [zS, List.length_set, zS_length U i]
theorem zS_carry {U : List Int} (hU : Bd 18446744073709551616000000000000000 U) : ∀ i, 0 ≤ (zS U i).2 ∧ (zS U i).2 < 18446744073709551616
  | 0 => by simp [zS]
  | i + 1 => by
    have h := zS_carry hU i
    have h2 := hU i
    simp only [zS]
    omega
theorem zS_lim (U : List Int) : ∀ i j, 0 ≤ (zS U i).1.getD j 0 ∧ (zS U i).1.getD j 0 < 2251799813685248
  | 0, j => by
    have : ([0, 0, 0, 0, 0] : List Int).getD j 0 = 0 := by
      match j with
      | 0 => rfl
      | 1 => rfl
      | 2 => rfl
      | 3 => rfl
      | 4 => rfl
      | j + 5 => rfl
    simp only [zS, this]
    omega
  | i + 1, j => by
    have h := zS_lim U i j
    simp only [zS]
    rw [getD_set_list]
    split <;> omega
/-- What is left of a product's limbs when the last carry has gone through. -/
def mEnd (U : List Int) : List Int := ((zS U 5).1.set 0 (((zS U 5).2 * 19 + (zS U 5).1.getD 0 0) % 2251799813685248)).set 1 (IntKind.u64.wrap ((zS U 5).1.getD 1 0 + ((zS U 5).2 * 19 + (zS U 5).1.getD 0 0) / 2251799813685248))
theorem mEnd_length (U : List Int) : (mEnd U).length = 5 := by unfold mEnd; rw [List.length_set, List.length_set, zS_length]
structure MulB (w : World) (U O : List Int) (go : Nat) (wr : World) : Prop where
  d : wr.heap[w.heap.size + 1 + 1 + 1]? = some (.cells (cellsW U) 194 (0, 0))
  o : Arr go O wr
  z : Arr (w.heap.size + 1 + 1) [0, 0, 0, 0, 0] wr
  b : Below w.heap.size w wr
  g : w.heap.size + 1 + 1 + 1 < go
theorem MulB.below {w : World} {U O : List Int} {go : Nat} {wr w1 : World} (h : MulB w U O go wr) (hb : Below wr.heap.size wr w1) : MulB w U O go w1 := ⟨blk_below h.d hb, h.o.below hb, h.z.below hb, below_step h.b hb, h.g⟩
theorem MulB.put {w : World} {U O : List Int} {go : Nat} {wr : World} (h : MulB w U O go wr) (i : Nat) (y : Int) (hi : i < O.length) : MulB w U (O.set i y) go (wr.setCell ⟨go, i, none⟩ (.int .u64 y)) := by
  have := h.g
  exact ⟨(Below.heap_setCell _ _ _ _ (by simp <;> omega)).trans h.d, h.o.put i y hi, h.z.other (by simp <;> omega) _, below_set h.b (by show w.heap.size ≤ go; omega), h.g⟩
def mulR.T27 : Bool × List (List Nat × List Nat) := (true, [([], []), ([0], [0]), ([], []), ([2], [2]), ([1, 3], [1, 3]), ([0, 1, 2, 3, 4], []), ([5, 4, 3, 0, 1, 2, 3, 4], [4, 5])])
def mulR.B27 : List Nat := [0, 1, 0, 4, 15, 31, 63]
theorem mulR.tab27 : rtab .any (opsOf Tryd.f106 27) = mulR.T27 := by kernel_rfl
theorem mulR.bits27 : waitsOk mulR.T27.2 mulR.B27 = true := by kernel_rfl
set_option maxRecDepth 100000 in
set_option maxHeartbeats 8000000 in
theorem mul_c (x y : List Int) (hx : x.length = 5) (hy : y.length = 5) (hLx : Lim x) (hLy : Lim y) (w : World) :
    Calls Tryd.prog 106 #[El x, El y] w fun e w' => e = .returned (El (wk1 (wk1 (mEnd (mwO x y 5))))) ∧ Below w.heap.size w w' := by
  have hi8 : (Tryd.prog.info? 50).map (·.size) = some 5 := by kernel_rfl
  have hlx : (cells64 x).size = 5 := by simp [cells64, hx]
  have hly : (cells64 y).size = 5 := by simp [cells64, hy]
  have HI8 := Lib.hid hi8
  have HLX := Lib.hid hlx
  have HLY := Lib.hid hly
  have HX := Lib.hid (And.intro hx (And.intro hy (And.intro hLx hLy)))
  clear hx hy hlx hly hi8 hLx hLy
  unfold El
  go_enter Tryd.func106, Tryd.ntmps106
  go_upto_region 2 with (fail)
  have P0 : Aside0 (MulAt w x y (mwO x y 0) ((((w.alloc (.cells (cells64 x) 50)).alloc (.cells (cells64 y) 50)).alloc (.cells #[.int .u64 0, .int .u64 0, .int .u64 0, .int .u64 0, .int .u64 0] 50)).alloc (.cells #[.int .u64 0, .int .u64 0, .int .u64 0, .int .u64 0, .int .u64 0, .int .u64 0, .int .u64 0, .int .u64 0, .int .u64 0, .int .u64 0] 194))) := ⟨⟨blk_alloc (blk_alloc (blk_alloc (new1 _ _) _) _) _, blk_alloc (blk_alloc (new2 _ _ _) _) _, blk_alloc (new3 _ _ _ _) _, new4 _ _ _ _ _, below_alloc (below_alloc (below_alloc (below_alloc (Below.refl _ _) _) _) _) _⟩⟩
  generalize hWW : ((((w.alloc (.cells (cells64 x) 50)).alloc (.cells (cells64 y) 50)).alloc (.cells #[.int .u64 0, .int .u64 0, .int .u64 0, .int .u64 0, .int .u64 0] 50)).alloc (.cells #[.int .u64 0, .int .u64 0, .int .u64 0, .int .u64 0, .int .u64 0, .int .u64 0, .int .u64 0, .int .u64 0, .int .u64 0, .int .u64 0] 194)) = W0 at P0 ⊢
  clear hWW
  go_upto_region 3 with (refine wpList_load_row rfl 50 (.tmp 2) rfl w.heap.size (by rfl) 50 (cells64 x) (0, 0) _ P0.out.a Tryd.underlying50 rfl (by rw [HLX.out]; exact HI8.out) ?_)
  go_loopg [21] 5 (fun m t wr => ∃ i : Nat, i + m = 5 ∧ t = .int .i64 (i : Int) ∧ Aside0 (MulAt w x y (mwO x y i) wr))
  case atStart => exact ⟨0, by omega, rfl, P0⟩
  case round =>
    clear P0
    obtain ⟨i, hi', rfl, P⟩ := hrel
    have hi : i ≤ 5 := by omega
    have HI := Lib.hid hi'
    clear hi'
    by_cases hil : i < 5
    · have hi0 : (0 : Int) ≤ (i : Int) := by omega
      have hi1 : (i : Int) < 5 := by omega
      have hix := index5 x HX.out.1 i hil
      obtain ⟨A, hA⟩ : ∃ A, A = x.getD i 0 := ⟨_, rfl⟩
      rw [← hA] at hix
      have HA := Lib.hid hA
      clear hA
      obtain ⟨wo, rfl⟩ : ∃ wo : World, wo = wr := ⟨_, rfl⟩
      obtain ⟨gko, rfl⟩ : ∃ gko : Nat, gko = gk := ⟨_, rfl⟩
      go_upto_region 6 with (refine wpList_load_row rfl 50 (.tmp 3) rfl (w.heap.size + 1) (by rfl) 50 (cells64 y) (0, 0) _ P.out.c Tryd.underlying50 rfl (by rw [HLY.out]; exact HI8.out) ?_)
      go_loopg [26] 5 (fun m t wr => ∃ k : Nat, k + m = 5 ∧ t = .int .i64 (k : Int) ∧ Aside0 (MulAt w x y (mwI x y i (mwO x y i) k) wr))
      case atStart => exact ⟨0, by omega, rfl, P⟩
      case round =>
        clear P
        obtain ⟨k, hk', rfl, P⟩ := hrel
        have hk : k ≤ 5 := by omega
        have HK := Lib.hid hk'
        clear hk'
        by_cases hkl : k < 5
        · have hk0 : (0 : Int) ≤ (k : Int) := by omega
          have hk1 : (k : Int) < 5 := by omega
          have hiy := index5 y HX.out.2.1 k hkl
          have hmt : mt i k < 5 := by unfold mt; split <;> omega
          have hml : mt i k < (mwI x y i (mwO x y i) k).length := by rw [mwI_length, mwO_length]; exact hmt
          obtain ⟨N, hN⟩ : ∃ N, N = (mwI x y i (mwO x y i) k).getD (mt i k) 0 := ⟨_, rfl⟩
          obtain ⟨C, hC⟩ : ∃ C, C = y.getD k 0 := ⟨_, rfl⟩
          have ch := (blk_cell P.out.d (mt i k * 2)).trans ((Nat.mul_comm _ _ ▸ rfl : (cellsW (mwI x y i (mwO x y i) k))[mt i k * 2]? = (cellsW (mwI x y i (mwO x y i) k))[2 * mt i k]?).trans (cellsW_hi _ _ hml))
          have cl := (blk_cell P.out.d (mt i k * 2 + 1)).trans ((Nat.mul_comm _ _ ▸ rfl : (cellsW (mwI x y i (mwO x y i) k))[mt i k * 2 + 1]? = (cellsW (mwI x y i (mwO x y i) k))[2 * mt i k + 1]?).trans (cellsW_lo _ _ hml))
          rw [← hN] at ch cl
          rw [← hC] at hiy
          have fh := blk_frozen P.out.d (mt i k * 2)
          have fl := blk_frozen P.out.d (mt i k * 2 + 1)
          have hBd := mwI_bound HX.out.2.2.1 HX.out.2.2.2 i (mwO x y i) _ (by omega) (mwO_bound HX.out.2.2.1 HX.out.2.2.2 i) k (mt i k)
          have hpb := mprod_bound HX.out.2.2.1 HX.out.2.2.2 i k
          have hxb := HX.out.2.2.1 i
          have hyb := HX.out.2.2.2 k
          rw [← hN] at hBd
          rw [← hC] at hpb hyb
          rw [← HA.out] at hxb
          have HB := Lib.hid (show 0 ≤ N ∧ N + mx x i k * C < 340282366920938463463374607431768211456 from ⟨hBd.1, by omega⟩)
          have HY := Lib.hid (And.intro hxb hyb)
          have HNC := Lib.hid (And.intro hN (And.intro hC hml))
          clear hBd hpb hxb hyb hN hC hmt hml
          by_cases hik : i + k < 5
          · have hik1 : (i : Int) + (k : Int) < 5 := by omega
            have hm : mt i k = i + k := if_pos hik
            have HMX := Lib.hid (And.intro hm (show mx x i k = A by unfold mx; rw [if_pos hik, ← HA.out]))
            rw [hm] at ch cl fh fl
            clear hm
            go_wp2_with (first
              | (go_at_call 135; refine (wadd_c N A C HB.out.1 HY.out.1.1 (by have := HY.out.1.2; omega) HY.out.2.1 (by have := HY.out.2.2; omega) (by have := HB.out.2; rw [HMX.out.2] at this; exact this) _).mono ?_; rintro e w7 ⟨rfl, hb7⟩; unfold Wd; have ch7 := (hb7.cell (World.block_lt_of_cell? _ _ ch)).trans ch; have cl7 := (hb7.cell (World.block_lt_of_cell? _ _ cl)).trans cl; have fh7 := blk_frozen (blk_below P.out.d hb7) ((i + k) * 2); have fl7 := blk_frozen (blk_below P.out.d hb7) ((i + k) * 2 + 1)))
            go_roundg (gk - 1)
            case measure => have := HK.out; omega
            case rel =>
              refine ⟨k + 1, by have := HK.out; omega, by go_num, ⟨?_⟩⟩
              rw [mwI, HMX.out.1, HMX.out.2]
              have hNC := HNC.out
              rw [HMX.out.1] at hNC
              rw [← hNC.1, ← hNC.2.1]
              exact (P.out.below hb7).put (i + k) (N + A * C) hNC.2.2
          · obtain ⟨j, hj⟩ : ∃ j : Nat, i + k = j + 5 := ⟨i + k - 5, by omega⟩
            have hij : (i : Int) + (k : Int) = (j : Int) + 5 := by omega
            have hij5 : ¬ (i : Int) + (k : Int) < 5 := by omega
            have hij2 : (i : Int) + (k : Int) - 5 = (j : Int) := by omega
            have hj5 : (j : Int) < 5 := by omega
            have hm : mt i k = j := by unfold mt; rw [if_neg hik]; omega
            have hw19 : IntKind.u64.wrap (19 * A) = 19 * A := by have := HY.out.1; rw [wr64]; omega
            have HMX := Lib.hid (And.intro hm (And.intro (show mx x i k = 19 * A by unfold mx; rw [if_neg hik, ← HA.out]) hw19))
            rw [hm] at ch cl fh fl
            clear hm hik hw19
            obtain ⟨A9, hA9⟩ : ∃ A9, A9 = 19 * A := ⟨_, rfl⟩
            go_wp2_with (first
              | (go_at_call 135; rw [HMX.out.2.2]; refine (wadd_c N (19 * A) C HB.out.1 (by have := HY.out.1; omega) (by have := HY.out.1.2; omega) HY.out.2.1 (by have := HY.out.2.2; omega) (by have := HB.out.2; rw [HMX.out.2.1] at this; exact this) _).mono ?_; rintro e w7 ⟨rfl, hb7⟩; unfold Wd; have ch7 := (hb7.cell (World.block_lt_of_cell? _ _ ch)).trans ch; have cl7 := (hb7.cell (World.block_lt_of_cell? _ _ cl)).trans cl; have fh7 := blk_frozen (blk_below P.out.d hb7) (j * 2); have fl7 := blk_frozen (blk_below P.out.d hb7) (j * 2 + 1)))
            go_roundg (gk - 1)
            case measure => have := HK.out; omega
            case rel =>
              refine ⟨k + 1, by have := HK.out; omega, by go_num, ⟨?_⟩⟩
              rw [mwI, HMX.out.1, HMX.out.2.1]
              have hNC := HNC.out
              rw [HMX.out.1] at hNC
              rw [← hNC.1, ← hNC.2.1]
              exact (P.out.below hb7).put j (N + 19 * A * C) hNC.2.2
        · obtain rfl : k = 5 := by omega
          clear hkl hk HK
          go_wp2
          go_roundg (gko - 1)
          case measure => have := HI.out; omega
          case rel => exact ⟨i + 1, by have := HI.out; omega, by go_num, P⟩
    · obtain rfl : i = 5 := by omega
      obtain ⟨U, hU⟩ : ∃ U, U = mwO x y 5 := ⟨_, rfl⟩
      have hUl : U.length = 5 := by rw [hU]; exact mwO_length _ _ _
      have hUb : Bd 18446744073709551616000000000000000 U := fun j => by
        have := mwO_bound HX.out.2.2.1 HX.out.2.2.2 5 j
        rw [hU]
        push_cast at this
        omega
      rw [← hU] at P
      clear hil hi HI
      have hUs : (cellsW U).size = 10 := by rw [cellsW_size, hUl]
      have hi10 : (Tryd.prog.info? 194).map (·.size) = some 10 := by kernel_rfl
      have HU10 := Lib.hid (And.intro hUs hi10)
      have HUU := Lib.hid (And.intro hU (And.intro hUl hUb))
      clear hU hUl hUb hUs hi10
      go_upto_region 15 with (fail)
      have PB : Aside0 (MulB w U (zS U 0).1 wr.heap.size (wr.alloc (.cells #[.int .u64 0, .int .u64 0, .int .u64 0, .int .u64 0, .int .u64 0] 50))) := ⟨⟨blk_alloc P.out.d _, new1 _ _, P.out.z.alloc _, below_alloc P.out.b _, blk_lt P.out.d⟩⟩
      generalize (wr.alloc (.cells #[.int .u64 0, .int .u64 0, .int .u64 0, .int .u64 0, .int .u64 0] 50)) = W1 at PB ⊢
      clear P
      generalize wr.heap.size = go at PB ⊢
      go_upto_region 16 with (first | (refine wpList_load_row rfl 194 (.tmp 5) rfl (w.heap.size + 1 + 1 + 1) (by rfl) 194 (cellsW U) (0, 0) _ PB.out.d Tryd.underlying194 rfl (by rw [HU10.out.1]; exact HU10.out.2) ?_))
      go_loopg [11, 64] 5 (fun m c t wr => ∃ i : Nat, i + m = 5 ∧ c = .int .u64 (zS U i).2 ∧ t = .int .i64 (i : Int) ∧ Aside0 (MulB w U (zS U i).1 go wr))
      case atStart => exact ⟨0, by omega, rfl, rfl, PB⟩
      case round =>
        clear PB
        obtain ⟨i, hi', rfl, rfl, P⟩ := hrel
        have hi : i ≤ 5 := by omega
        have HI := Lib.hid hi'
        clear hi'
        by_cases hil : i < 5
        · have hi0 : (0 : Int) ≤ (i : Int) := by omega
          have hi1 : (i : Int) < 5 := by omega
          have hix := indexW U HUU.out.2.1 i hil
          have hn := HUU.out.2.2 i
          have hc := zS_carry HUU.out.2.2 i
          obtain ⟨N, hN⟩ : ∃ N, N = U.getD i 0 := ⟨_, rfl⟩
          obtain ⟨C, hC⟩ : ∃ C, C = (zS U i).2 := ⟨_, rfl⟩
          rw [← hN] at hix hn
          rw [← hC] at hc ⊢
          obtain ⟨h, hh⟩ : ∃ h, h = N / 18446744073709551616 := ⟨_, rfl⟩
          obtain ⟨l, hl⟩ : ∃ l, l = N % 18446744073709551616 := ⟨_, rfl⟩
          rw [← hh, ← hl] at hix
          have hA1 := Add64_run l C 0 (by omega) (by omega) (by omega) (by omega)
          obtain ⟨s, hs⟩ : ∃ q_, q_ = (l + C + 0) % 18446744073709551616 := ⟨_, rfl⟩
          obtain ⟨cy, hcy⟩ : ∃ q_, q_ = (l + C + 0) / 18446744073709551616 := ⟨_, rfl⟩
          rw [← hs, ← hcy] at hA1
          obtain ⟨n, hn9⟩ : ∃ n, n = N + C := ⟨_, rfl⟩
          have hw : IntKind.u64.wrap (h + cy) = n / 18446744073709551616 := by rw [wr64]; omega
          have hsn : s = n % 18446744073709551616 := by omega
          have ha51 : bits .and .u64 s 2251799813685247 = n % 2251799813685248 := by rw [and51 (by omega) (by omega)]; omega
          have hnb : 0 ≤ n ∧ n < 41538374868278621028243970633760768 := by omega
          have fo := P.out.o.frozen i
          have hol : i < (zS U i).1.length := by rw [zS_length]; exact hil
          have co := P.out.o.cell hol
          have HZ := Lib.hid (And.intro hN (And.intro hC (And.intro hn9 (And.intro hw (And.intro hsn (And.intro ha51 (And.intro hnb hol)))))))
          clear hn hc hN hC hh hl hs hcy hn9 hw hsn ha51 hnb hol
          go_upto_region 20 with (first | (simp only [hA1]))
          rw [HZ.out.2.2.2.1]
          have PX : Aside0 ((wr.alloc (.cells #[.int .u64 (n / 18446744073709551616), .int .u64 s] 193)).heap[wr.heap.size]? = some (.cells #[.int .u64 (n / 18446744073709551616), .int .u64 s] 193 (0, 0))) := ⟨new1 _ _⟩
          have P2 : Aside0 (MulB w U (zS U i).1 go (wr.alloc (.cells #[.int .u64 (n / 18446744073709551616), .int .u64 s] 193))) := ⟨P.out.below (below_alloc (Below.refl _ _) _)⟩
          have hgne : Aside0 (wr.heap.size ≠ go) := ⟨Nat.ne_of_gt P.out.o.lt⟩
          clear co fo P
          generalize (wr.alloc (.cells #[.int .u64 (n / 18446744073709551616), .int .u64 s] 193)) = W2 at PX P2 ⊢
          generalize wr.heap.size = gx at PX hgne ⊢
          have c0 := (blk_cell PX.out 0).trans rfl
          have c1 := (blk_cell PX.out 1).trans rfl
          have fo := P2.out.o.frozen i
          have co := P2.out.o.cell HZ.out.2.2.2.2.2.2.2
          go_upto_region 21 with (fail)
          rw [HZ.out.2.2.2.2.2.1]
          have P3 : Aside0 (MulB w U ((zS U i).1.set i (n % 2251799813685248)) go (W2.setCell ⟨go, i, none⟩ (.int .u64 (n % 2251799813685248)))) := ⟨P2.out.put i _ HZ.out.2.2.2.2.2.2.2⟩
          have PX3 : Aside0 ((W2.setCell ⟨go, i, none⟩ (.int .u64 (n % 2251799813685248))).heap[gx]? = some (.cells #[.int .u64 (n / 18446744073709551616), .int .u64 s] 193 (0, 0))) := ⟨(Below.heap_setCell _ _ _ _ hgne.out).trans PX.out⟩
          clear c0 c1 fo co P2 PX hgne
          generalize (W2.setCell ⟨go, i, none⟩ (.int .u64 (n % 2251799813685248))) = W3 at P3 PX3 ⊢
          have c0 := (blk_cell PX3.out 0).trans rfl
          have c1 := (blk_cell PX3.out 1).trans rfl
          go_wp2_with (first
            | (go_at_call 136; refine (above_d (n / 18446744073709551616) s n rfl HZ.out.2.2.2.2.1 HZ.out.2.2.2.2.2.2.1.1 HZ.out.2.2.2.2.2.2.1.2 _).mono ?_; rintro e w7 ⟨rfl, hb7⟩))
          go_roundg (gk - 1)
          case measure => have := HI.out; omega
          case rel =>
            refine ⟨i + 1, by have := HI.out; omega, ?_, by go_num, ⟨?_⟩⟩
            · rw [zS, ← HZ.out.1, ← HZ.out.2.1, ← HZ.out.2.2.1]
            · rw [zS, ← HZ.out.1, ← HZ.out.2.1, ← HZ.out.2.2.1]
              exact P3.out.below hb7
        · obtain rfl : i = 5 := by omega
          clear hil hi HI
          have hc := zS_carry HUU.out.2.2 5
          have ho0 := zS_lim U 5 0
          have hE : mEnd U = ((zS U 5).1.set 0 (((zS U 5).2 * 19 + (zS U 5).1.getD 0 0) % 2251799813685248)).set 1 (IntKind.u64.wrap ((zS U 5).1.getD 1 0 + ((zS U 5).2 * 19 + (zS U 5).1.getD 0 0) / 2251799813685248)) := rfl
          have hOl := zS_length U 5
          obtain ⟨C, hC⟩ : ∃ C, C = (zS U 5).2 := ⟨_, rfl⟩
          obtain ⟨O, hO⟩ : ∃ O, O = (zS U 5).1 := ⟨_, rfl⟩
          rw [← hC] at hc hE ⊢
          rw [← hO] at ho0 hE hOl P
          obtain ⟨o0, e0⟩ : ∃ v, v = O.getD 0 0 := ⟨_, rfl⟩
          obtain ⟨o1, e1⟩ : ∃ v, v = O.getD 1 0 := ⟨_, rfl⟩
          rw [← e0] at ho0 hE
          rw [← e1] at hE
          obtain ⟨h, hh⟩ : ∃ h, h = C * 19 / 18446744073709551616 := ⟨_, rfl⟩
          obtain ⟨l, hl⟩ : ∃ l, l = C * 19 % 18446744073709551616 := ⟨_, rfl⟩
          have hA1 := Add64_run l o0 0 (by omega) (by omega) (by omega) (by omega)
          obtain ⟨s, hs⟩ : ∃ q_, q_ = (l + o0 + 0) % 18446744073709551616 := ⟨_, rfl⟩
          obtain ⟨cy, hcy⟩ : ∃ q_, q_ = (l + o0 + 0) / 18446744073709551616 := ⟨_, rfl⟩
          rw [← hs, ← hcy] at hA1
          obtain ⟨n, hn9⟩ : ∃ n, n = C * 19 + o0 := ⟨_, rfl⟩
          have hw : IntKind.u64.wrap (h + cy) = n / 18446744073709551616 := by rw [wr64]; omega
          have hsn : s = n % 18446744073709551616 := by omega
          have ha51 : bits .and .u64 s 2251799813685247 = n % 2251799813685248 := by rw [and51 (by omega) (by omega)]; omega
          have hnb : 0 ≤ n ∧ n < 41538374868278621028243970633760768 := by omega
          rw [← hn9] at hE
          have c0 := P.out.o.cell (i := 0) (by omega)
          rw [← e0] at c0
          have HM := Lib.hid (And.intro hc.1 (And.intro hc.2 (And.intro hh hl)))
          have HZ := Lib.hid (And.intro hw (And.intro hsn (And.intro ha51 (And.intro hnb (And.intro hOl (And.intro hE (And.intro e0 e1)))))))
          clear hc hC ho0 hE hOl hO e0 e1 hh hl hs hcy hn9 hw hsn ha51 hnb
          go_upto_region 26 with (first
            | (go_at_call 126; refine (Mul64_c C 19 HM.out.1 HM.out.2.1 (by decide) (by decide) _).mono ?_; rintro e w1 ⟨rfl, rfl⟩; rw [← HM.out.2.2.1, ← HM.out.2.2.2])
            | (simp only [hA1]))
          rw [HZ.out.1]
          have PX : Aside0 ((w1.alloc (.cells #[.int .u64 (n / 18446744073709551616), .int .u64 s] 193)).heap[w1.heap.size]? = some (.cells #[.int .u64 (n / 18446744073709551616), .int .u64 s] 193 (0, 0))) := ⟨new1 _ _⟩
          have P2 : Aside0 (MulB w U O go (w1.alloc (.cells #[.int .u64 (n / 18446744073709551616), .int .u64 s] 193))) := ⟨P.out.below (below_alloc (Below.refl _ _) _)⟩
          have hgne : Aside0 (w1.heap.size ≠ go) := ⟨Nat.ne_of_gt P.out.o.lt⟩
          clear c0 P
          generalize (w1.alloc (.cells #[.int .u64 (n / 18446744073709551616), .int .u64 s] 193)) = W2 at PX P2 ⊢
          generalize w1.heap.size = gx at PX hgne ⊢
          have c0 := (blk_cell PX.out 0).trans rfl
          have c1 := (blk_cell PX.out 1).trans rfl
          have fo := P2.out.o.frozen 0
          have hOl := HZ.out.2.2.2.2.1
          have co := P2.out.o.cell (i := 0) (by omega)
          have HOl := Lib.hid hOl
          clear hOl
          go_upto_region 27 with (fail)
          rw [HZ.out.2.2.1]
          have P3 : Aside0 (MulB w U (O.set 0 (n % 2251799813685248)) go (W2.setCell ⟨go, 0, none⟩ (.int .u64 (n % 2251799813685248)))) := ⟨P2.out.put 0 _ (by rw [HOl.out]; decide)⟩
          have PX3 : Aside0 ((W2.setCell ⟨go, 0, none⟩ (.int .u64 (n % 2251799813685248))).heap[gx]? = some (.cells #[.int .u64 (n / 18446744073709551616), .int .u64 s] 193 (0, 0))) := ⟨(Below.heap_setCell _ _ _ _ hgne.out).trans PX.out⟩
          clear c0 c1 fo co P2 PX hgne
          generalize (W2.setCell ⟨go, 0, none⟩ (.int .u64 (n % 2251799813685248))) = W3 at P3 PX3 ⊢
          have c0 : W3.cell? ⟨gx, 0, none⟩ = some (.int .u64 (n / 18446744073709551616)) := (blk_cell PX3.out 0).trans rfl
          have c1 : W3.cell? ⟨gx, 1, none⟩ = some (.int .u64 s) := (blk_cell PX3.out 1).trans rfl
          have c2 := P3.out.o.cell (i := 1) (by rw [List.length_set, HOl.out]; decide)
          rw [getD_set_list, if_neg (by simp), ← HZ.out.2.2.2.2.2.2.2] at c2
          refine start_ (n := 7) (S := fun w' => (w'.cell? ⟨gx, 0, none⟩ = some (.int .u64 (n / 18446744073709551616)) ∧ w'.cell? ⟨gx, 1, none⟩ = some (.int .u64 s)) ∧ w'.cell? ⟨go, 1, none⟩ = some (.int .u64 o1)) (ds := [6]) (fl 7 0) (by kernel_rfl) rfl rfl ⟨⟨c0, c1⟩, c2⟩ (fun hHeld => ?_)
          refine with_tabW mulR.tab27 mulR.bits27 (fun HT_ HW_ => ?_)
          refine pB 0 110 7 1 ?_
          refine tB 1 111 7 3 hHeld ?_
          refine tB 2 112 7 7 hHeld ?_
          refine one_ (i := 3) (N := some 113) (fl 7 15) rfl rfl (one_of HT_.out (by kernel_rfl)) (by decide) (fun K hK => ?_)
          refine goes_ Tryd.func136 (by kernel_rfl) rfl #[.agg #[.int .u64 (n / 18446744073709551616), .int .u64 s]] (by rfl) rfl rfl eqA ?_
          with_reducible refine (above_d (n / 18446744073709551616) s n rfl HZ.out.2.1 HZ.out.2.2.2.1.1 HZ.out.2.2.2.1.2 _).mono ?_
          rintro e w7 ⟨rfl, hb7⟩
          refine ⟨_, rfl, ?_⟩
          have hb37 : Below W3.heap.size W3 w7 := (by first | exact hb7 | exact below_step (below_drew1 (Below.refl _ _)) hb7)
          have P7 : Aside0 (MulB w U (O.set 0 (n % 2251799813685248)) go w7) := ⟨P3.out.below hb37⟩
          have f7 := P7.out.o.frozen 1
          have e7 : w7.cell? ⟨go, 1, none⟩ = some (.int .u64 o1) := (hb37.cell (World.block_lt_of_cell? _ _ c2)).trans c2
          refine hK.out _ _ ⟨⟨(hb37.cell (World.block_lt_of_cell? _ _ c0)).trans c0, (hb37.cell (World.block_lt_of_cell? _ _ c1)).trans c1⟩, e7⟩ (fun hHeld => ?_)
          clear hK K c0 c1 c2 hb7 hb37
          refine normA (some 113) ?_
          refine pB 4 114 7 31 ?_
          refine pB 5 115 7 63 ?_
          refine last_ (i := 6) (N := none) (fl 7 127) rfl rfl (one_of HT_.out (by kernel_rfl)) (by decide) (fun K hK => ?_)
          refine skip_ (w1 := w7.setCell ⟨go, 1, none⟩ (.int .u64 (IntKind.u64.wrap (o1 + n / 2251799813685248)))) (by rfl) rfl (by go_simp) ?_
          refine hK.out _ _ ?_
          clear hK K
          refine done_ (done_of HT_.out (by kernel_rfl)) ?_
          have P8 : Aside0 (MulB w U (mEnd U) go (w7.setCell ⟨go, 1, none⟩ (.int .u64 (IntKind.u64.wrap (o1 + n / 2251799813685248))))) := ⟨by
            rw [HZ.out.2.2.2.2.2.1]
            exact P7.out.put 1 _ (by rw [List.length_set, HOl.out]; decide)⟩
          clear f7 e7 hHeld HT_ HW_ P7 P3 PX3
          generalize w7.setCell ⟨go, 1, none⟩ (.int .u64 (IntKind.u64.wrap (o1 + n / 2251799813685248))) = W8 at P8 ⊢
          obtain ⟨V, hV⟩ : ∃ V, V = mEnd U := ⟨_, rfl⟩
          obtain ⟨R, hR⟩ : ∃ R, R = wk1 (wk1 V) := ⟨_, rfl⟩
          have hVl : V.length = 5 := by rw [hV]; exact mEnd_length _
          have hVs : (cells64 V).size = 5 := by simp [cells64, hVl]
          have hRs : (cells64 R).size = 5 := by rw [hR]; simp [cells64, wk1_length, hVl]
          rw [← hV] at P8
          have HV := Lib.hid (And.intro hV (And.intro hR (And.intro hVl (And.intro hVs hRs))))
          clear hV hR hVl hVs hRs
          go_wp2_with (first
            | (refine wpList_load_row rfl 50 (.tmp 10) rfl go (by rfl) 50 (cells64 V) (0, 0) _ P8.out.o Tryd.underlying50 rfl (by rw [HV.out.2.2.2.1]; exact HI8.out) ?_)
            | (go_at_call 105; refine (weak_c V HV.out.2.2.1 _).mono ?_; rintro e w9 ⟨rfl, hb9⟩; rw [← HV.out.2.1]; unfold El; have P9 := Aside0.mk (P8.out.below hb9); clear hb9)
            | (refine wpList_store_row rfl 50 (.tmp 4) (.tmp 117) rfl (w.heap.size + 1 + 1) (cells64 R) (by rfl) (by rfl) 50 (cells64 [0, 0, 0, 0, 0]) P9.out.z (by rw [HV.out.2.2.2.2]; exact HI8.out) (by rw [HV.out.2.2.2.2]; rfl) (by simp [cells64, Value.oneCell']) ?_))
          refine bodyPost_ret (v := .agg (cells64 R)) (results_cell_row (by rfl) _ _ (w.heap.size + 1 + 1) 50 (cells64 R) (0, 0) _ (by rfl) (setRow_heap _ _ _ _ _ _ P9.out.z) Tryd.underlying50 rfl (by rw [HV.out.2.2.2.2]; exact HI8.out)) rfl ⟨by rw [HV.out.2.1, HV.out.1, HUU.out.1], below_setRow P9.out.b (by omega) _⟩
end Go.Proofs.YtbenedckmapjoaaDoor.F
