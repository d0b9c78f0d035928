/- Several texts as one. -/
import Derived.Test.YtbenedckmapjoaaDoorY3
import Derived.Test.YtbenedckmapjoaaDoorMd
import Derived.Lib.BufferWrite
namespace Go.Proofs.YtbenedckmapjoaaDoor.D
open Go.RowKit Go.Proofs.YtbenedckmapjoaaDoor.F Go.Proofs.YtbenedckmapjoaaDoor.H Go.Proofs.YtbenedckmapjoaaDoorW.PrintWords Go.Proofs.YtbenedckmapjoaaDoorW.PrintLast Go.Proofs.YtbenedckmapjoaaDoorW.PrintMore
set_option linter.unusedVariables false
theorem below_le {a b : Nat} {w w1 : World} (h : Below b w w1) (hab : a ≤ b) : Below a w w1 := ⟨h.os, h.tape, h.output, h.size, fun k hk => h.block k (Nat.lt_of_lt_of_le hk hab)⟩
def numL (l : List Int) : Int := l.foldl (fun n x => n * 256 + x) 0
theorem numL_snoc (l : List Int) (x : Int) : numL (l ++ [x]) = numL l * 256 + x := by unfold numL; rw [List.foldl_append]; rfl
theorem take_snoc (l : List Int) (i : Nat) (h : i < l.length) : l.take (i + 1) = l.take i ++ [l.getD i 0] := by
  rw [List.take_add_one, List.getElem?_eq_getElem h, List.getD_eq_getElem?_getD, List.getElem?_eq_getElem h]
  rfl
theorem numL_bound (l : List Int) (hb : ∀ x ∈ l, 0 ≤ x ∧ x < 256) : ∀ i, i ≤ l.length → 0 ≤ numL (l.take i) ∧ numL (l.take i) < ((256 ^ i : Nat) : Int)
  | 0, _ => by simp [numL]
  | i + 1, h => by
    have ih := numL_bound l hb i (by omega)
    have hx := hb (l.getD i 0) (by rw [List.getD_eq_getElem?_getD, List.getElem?_eq_getElem (by omega)]; exact List.getElem_mem _)
    rw [take_snoc l i (by omega), numL_snoc, Nat.pow_succ]
    omega
theorem numL_small (l : List Int) (hb : ∀ x ∈ l, 0 ≤ x ∧ x < 256) (i : Nat) (hi : i < l.length) (hl : l.length ≤ 8) : 0 ≤ numL (l.take i) ∧ numL (l.take i) < 72057594037927936 := by
  have h := numL_bound l hb i (by omega)
  have h2 : (256 : Nat) ^ i ≤ 72057594037927936 := Nat.le_trans (Nat.pow_le_pow_right (by decide) (show i ≤ 7 by omega)) (by decide)
  generalize 256 ^ i = z at h h2
  omega
set_option maxRecDepth 100000 in
set_option maxHeartbeats 4000000 in
theorem number_c (l : List Int) (hl : l.length ≤ 8) (hb : ∀ x ∈ l, 0 ≤ x ∧ x < 256) (g o n c : Nat) (hn : n = l.length) (w : World) (hC : ∀ i, i < n → w.cell? ⟨g, o + i, none⟩ = some (.int .u8 (l.getD i 0))) :
    Calls Tryd.prog 137 #[.slice (some ⟨g, o, none⟩) n c] w fun e w' => e = .returned (.int .u64 (numL l)) ∧ w' = w := by
  have H := Aside0.mk (And.intro hl (And.intro hb (And.intro hn hC)))
  clear hl hb hn hC
  go_enter Tryd.func137, Tryd.ntmps137
  go_upto_region 3 with (fail)
  go_loopg [3, 8] n (fun j v t wr => ∃ i : Nat, i + j = n ∧ v = .int .u64 (numL (l.take i)) ∧ t = .int .i64 (i : Int) ∧ wr = w)
  case atStart => exact ⟨0, by omega, rfl, rfl, rfl⟩
  case round =>
    obtain ⟨i, hi', rfl, rfl, rfl⟩ := hrel
    have HI := Lib.hid hi'
    clear hi'
    by_cases hi : i < n
    · have hiI : (i : Int) < (n : Int) := by omega
      have hi8 : (i : Int) < 8 := by have := H.out.1; have := H.out.2.2.1; omega
      have c1 := H.out.2.2.2 i hi
      obtain ⟨x, hx⟩ : ∃ x, x = l.getD i 0 := ⟨_, rfl⟩
      obtain ⟨v, hv⟩ : ∃ v, v = numL (l.take i) := ⟨_, rfl⟩
      rw [← hx] at c1
      rw [← hv]
      have HX := Lib.hid (And.intro hx hv)
      clear hx hv
      go_wp2
      go_roundg (gk - 1)
      case measure => have := HI.out; omega
      case rel =>
        obtain ⟨z1, z2⟩ := HX.out
        have hx := H.out.2.1 (l.getD i 0) (by rw [List.getD_eq_getElem?_getD, List.getElem?_eq_getElem (by rw [← H.out.2.2.1]; exact hi)]; exact List.getElem_mem _)
        have hv := numL_small l H.out.2.1 i (by rw [← H.out.2.2.1]; exact hi) H.out.1
        rw [← z1] at hx
        rw [← z2] at hv
        have h1 : IntKind.u64.wrap (v * 256) = v * 256 := by rw [wr64]; omega
        have h2 : IntKind.u64.wrap x = x := by rw [wr64]; omega
        have h3 : bits .or .u64 (v * 256) x = v * 256 + x := bits_join .u64 64 (by decide) (fun n h0 h1 => by rw [wr64]; omega) 8 _ _ (by omega) (by omega) (by omega) (by omega) (by omega) (by omega)
        refine ⟨i + 1, by have := HI.out; omega, ?_, by go_num, rfl⟩
        rw [h1, h2, h3, take_snoc l i (by rw [← H.out.2.2.1]; exact hi), numL_snoc, ← z1, ← z2]
    · have hiI : ¬ (i : Int) < (n : Int) := by omega
      go_wp2
      go_ret
      refine ⟨?_, rfl⟩
      have e : l.take i = l := List.take_of_length_le (by have := H.out.2.2.1; omega)
      rw [e]
      rfl
/-- Bytes with a number's last digits put in, the last one first. -/
def putS (h : List Int) (o n : Nat) (v : Int) : Nat → List Int
  | 0 => h
  | j + 1 => (putS h o n v j).set (o + (n - 1 - j)) (v / 256 ^ j % 256)
theorem putS_length (h : List Int) (o n : Nat) (v : Int) : ∀ j, (putS h o n v j).length = h.length
  | 0 => rfl
  | j + 1 => by rw [putS, List.length_set]; exact putS_length h o n v j
set_option maxRecDepth 100000 in
set_option maxHeartbeats 4000000 in
theorem put_c (h : List Int) (t : TypeId) (v : Int) (hv : 0 ≤ v ∧ v < 18446744073709551616) (g o n c B : Nat) (hn : o + n ≤ h.length) (hs : h.length ≤ 100000) (w : World) (hB : B ≤ g) (hC : w.heap[g]? = some (.cells (cells8 h) t (0, 0))) :
    Calls Tryd.prog 116 #[.slice (some ⟨g, o, none⟩) n c, .int .u64 v] w fun e w' => e = .returned (.tuple #[]) ∧ w'.heap[g]? = some (.cells (cells8 (putS h o n v n)) t (0, 0)) ∧ Below B w w' := by
  have hnI : (n : Int) ≤ 100000 := by omega
  have H := Aside0.mk (And.intro hv (And.intro hn (And.intro hs hB)))
  have P0 : Aside0 (w.heap[g]? = some (.cells (cells8 (putS h o n v 0)) t (0, 0)) ∧ Below B w w) := ⟨hC, Below.refl _ _⟩
  clear hv hn hs hB hC
  go_enter Tryd.func116, Tryd.ntmps116
  go_upto_region 1 with (fail)
  go_loopg [1, 4] n (fun j x t' wr => ∃ i : Nat, i + j = n ∧ x = .int .u64 (v / 256 ^ i) ∧ t' = .int .i64 ((j : Int) - 1) ∧ Aside0 (wr.heap[g]? = some (.cells (cells8 (putS h o n v i)) t (0, 0)) ∧ Below B w wr))
  case atStart => exact ⟨0, by omega, by simp, by go_num, P0⟩
  case round =>
    clear P0
    obtain ⟨i, hi', rfl, rfl, P⟩ := hrel
    have HI := Lib.hid hi'
    by_cases hi : 0 < gk
    · obtain ⟨q, hq⟩ : ∃ q : Nat, gk = q + 1 := ⟨gk - 1, by omega⟩
      subst hq
      have hqI : ((q + 1 : Nat) : Int) - 1 = (q : Int) := by omega
      have hqn : q < n := by omega
      have hq0 : (0 : Int) ≤ (q : Int) := by omega
      rw [hqI]
      have c1 : wr.cell? ⟨g, o + q, none⟩ = some (.int .u8 ((putS h o n v i).getD (o + q) 0)) := (blk_cell P.out.1 _).trans (cells8_get _ _ (by rw [putS_length]; have := H.out.2.1; omega))
      have f1 : wr.frozen? ⟨g, o + q, none⟩ = false := blk_frozen P.out.1 _
      obtain ⟨y, hy⟩ : ∃ y, y = v / 256 ^ i := ⟨_, rfl⟩
      rw [← hy]
      have HX := Lib.hid hy
      clear hy hi' hi hqI
      go_wp2
      go_roundg q
      case measure => omega
      case rel =>
        have h1 := HI.out
        have hq2 : n - 1 - i = q := by omega
        refine ⟨i + 1, by omega, ?_, rfl, ⟨?_, P.out.2.setCell H.out.2.2.2 _⟩⟩
        · rw [HX.out, Int.pow_succ, Int.ediv_ediv_of_nonneg (Int.pow_nonneg (by decide))]
        · rw [putS, hq2, HX.out]
          exact blk_put P.out.1 _ _ (cells8_set _ _ _)
    · have hiI : ¬ (0 : Int) ≤ ((gk : Int) - 1) := by omega
      go_wp2
      first | refine bodyPost_end (results_none rfl _ _ _) rfl ?_ | refine bodyPost_ret (results_none rfl _ _ _) rfl ?_
      obtain rfl : i = n := by omega
      exact ⟨rfl, P.out⟩
end Go.Proofs.YtbenedckmapjoaaDoor.D
namespace Go.Proofs.YtbenedckmapjoaaDoor.D
open Go.RowKit Go.Proofs.YtbenedckmapjoaaDoor.F Go.Proofs.YtbenedckmapjoaaDoor.H Go.Proofs.YtbenedckmapjoaaDoor.X Go.Proofs.YtbenedckmapjoaaDoorW.PrintWords Go.Proofs.YtbenedckmapjoaaDoorW.PrintLast Go.Proofs.YtbenedckmapjoaaDoorW.PrintMore
set_option linter.unusedVariables false
set_option maxRecDepth 100000 in
set_option maxHeartbeats 4000000 in
theorem sdigest_c (A1 A2 : Option Addr) (n1 c1 n2 c2 : Nat) (b1 b2 : List Int) (w : World) (HG : Glb w) (hn1 : n1 = b1.length) (hn2 : n2 = b2.length) (hC1 : Kd.C (Kd.int .u8) w A1 n1 b1) (hC2 : Kd.C (Kd.int .u8) w A2 n2 b2)
    (hb1 : ∀ x ∈ b1, 0 ≤ x ∧ x < 256) (hb2 : ∀ x ∈ b2, 0 ≤ x ∧ x < 256) (hl : b1.length + b2.length ≤ 1048576) :
    Calls Tryd.prog 117 #[.slice A1 n1 c1, .slice A2 n2 c2] w fun e w' => ∃ v, e = .returned v ∧ Kd.R (Kd.int .u8) 5 w' w.heap.size (fun _ => True) v (dig (b1 ++ b2)) ∧ Below w.heap.size w w' := by
  have H0 := Aside0.mk (And.intro HG (And.intro hn1 (And.intro hn2 (And.intro hC1 (And.intro hC2 (And.intro hb1 (And.intro hb2 hl)))))))
  clear HG hn1 hn2 hC1 hC2 hb1 hb2 hl
  go_enter Tryd.func117, Tryd.ntmps117
  go_upto_region 2 with (first
    | (go_at_call 98; refine (new32_c KS SS _ H0.out.1.laid H0.out.1.g0 H0.out.1.g1).mono ?_; rintro e w1 ⟨p, rfl, hH1, hB⟩; have P1 := Aside0.mk (And.intro hH1 hB); clear hH1 hB))
  go_upto_region 3 with (first
    | (go_at_call 99
       have hw := H.write_c w.heap.size false KS SS [] p (.slice none 0 0) A1 c1 b1 w1 P1.out.1 (H0.out.1.of P1.out.2).laid (by rw [← H0.out.2.1]; exact Kd.C_below H0.out.2.2.2.1 P1.out.2) (fun hn ad2 e => by subst e; have h1 := C_block H0.out.2.2.2.1 (by rw [H0.out.2.1]; exact hn); have h2 := P1.out.1.hbase; omega) (fun k hk hn ad2 e => by cases hk) (getD_bytes H0.out.2.2.2.2.2.1) (by have := H0.out.2.2.2.2.2.2.2; simp only [List.length_nil]; omega)
       rw [← H0.out.2.1] at hw
       refine hw.mono ?_
       rintro e w3 ⟨rfl, v3, hH3, hv3, hF3⟩
       have P3 := Aside0.mk (And.intro (show HashAt w.heap.size false KS SS b1 p v3 w3 from hH3) (And.intro (Fr.below P1.out.2 P1.out.2.size (fun k hk => by rcases hk with rfl | hk; exact P1.out.1.hbase; cases hk) hF3) hv3))
       clear hH3 hv3 hF3 hw P1))
  have hpW := P3.out.1.hbase
  go_upto_region 4 with (first
    | (go_at_call 99
       have hw := H.write_c w.heap.size false KS SS b1 p v3 A2 c2 b2 w3 P3.out.1 (H0.out.1.of P3.out.2.1).laid (by rw [← H0.out.2.2.1]; exact Kd.C_below H0.out.2.2.2.2.1 P3.out.2.1) (fun hn ad2 e => by subst e; have h1 := C_block H0.out.2.2.2.2.1 (by rw [H0.out.2.2.1]; exact hn); omega) (fun k hk hn ad2 e => by subst e; have h1 := C_block H0.out.2.2.2.2.1 (by rw [H0.out.2.2.1]; exact hn); have := Kd.R_base P3.out.1.row k hk; omega) (getD_bytes H0.out.2.2.2.2.2.2.1) H0.out.2.2.2.2.2.2.2
       rw [← H0.out.2.2.1] at hw
       refine hw.mono ?_
       rintro e w4 ⟨rfl, v4, hH4, hv4, hF4⟩
       have P4 := Aside0.mk (And.intro hH4 (Fr.below P3.out.2.1 P3.out.2.1.size (fun k hk => by rcases hk with rfl | hk; exact hpW; exact Kd.R_base P3.out.1.row k hk) hF4))
       clear hH4 hv4 hF4 hw P3))
  go_wp2_with (first
    | (go_at_call 100
       refine (sum32_c w.heap.size KS SS (b1 ++ b2) p v4 w4 P4.out.1 (H0.out.1.of P4.out.2).laid).mono ?_
       rintro e w11 ⟨v11, rfl, hR, hB⟩
       have P11 := Aside0.mk (And.intro (R_weaken (b2 := w.heap.size) (ok2 := fun _ => True) hR (fun k hk => by have h1 := Kd.R_base hR k hk; have h2 := P4.out.2.size; omega) (fun _ _ => trivial)) (below_step P4.out.2 hB))
       clear hR hB))
  go_ret
  exact ⟨v11, rfl, P11.out.1, P11.out.2⟩
end Go.Proofs.YtbenedckmapjoaaDoor.D
namespace Go.Proofs.YtbenedckmapjoaaDoor.D
open Go.RowKit Go.Proofs.YtbenedckmapjoaaDoor.F Go.Proofs.YtbenedckmapjoaaDoor.H Go.Proofs.YtbenedckmapjoaaDoor.X Go.Proofs.YtbenedckmapjoaaDoorW.PrintWords Go.Proofs.YtbenedckmapjoaaDoorW.PrintLast Go.Proofs.YtbenedckmapjoaaDoorW.PrintMore
set_option linter.unusedVariables false
set_option linter.unusedSimpArgs false
def zero64 : List Int := List.replicate 64 0
/-- A head without its digest. -/
def preH (g : Int) (n : Nat) : List Int := putS (putS ([73, 77, 80, 82] ++ List.replicate 60 0) 4 8 g 8) 12 4 (n : Int) 4
def genL (g : Int) (n : Nat) : List Int := ((preH g n).drop 4).take 8
def headL (g : Int) (r : List Int) : List Int := (preH g r.length).take 16 ++ X.dig (genL g r.length ++ r) ++ (preH g r.length).drop 48
theorem preH_length (g : Int) (n : Nat) : (preH g n).length = 64 := by unfold preH; rw [putS_length, putS_length]; rfl
theorem headL_length (g : Int) (r : List Int) : (headL g r).length = 64 := by
  unfold headL
  rw [List.length_append, List.length_append, List.length_take, List.length_drop, preH_length, dig_length]
  decide
/-- A part of a block of bytes. -/
theorem blk_Co {w : World} {g : Nat} {l : List Int} {t : TypeId} (h : w.heap[g]? = some (.cells (cells8 l) t (0, 0))) (o k : Nat) (hk : o + k ≤ l.length) (hl : l.length ≤ 100000) : Kd.C (Kd.int .u8) w (some ⟨g, o, none⟩) k ((l.drop o).take k) := by
  have hlen : ((l.drop o).take k).length = k := by rw [List.length_take, List.length_drop]; omega
  refine ⟨hlen, by show k ≤ 9223372036854775807; omega, fun _ => ⟨_, rfl, fun j x hj => ⟨[.int .u8 x], rfl, rfl, fun i u hu => ?_⟩⟩⟩
  have hi0 : i = 0 := by have := (List.getElem?_eq_some_iff.1 hu).1; simpa using this
  subst hi0
  obtain rfl : Value.int .u8 x = u := by simpa using hu
  have hj2 := (List.getElem?_eq_some_iff.1 hj).1
  rw [hlen] at hj2
  rw [List.getElem?_take_of_lt hj2, List.getElem?_drop] at hj
  have := (blk_cell h (o + j)).trans (cells8_get l (o + j) (by omega))
  rw [show l.getD (o + j) 0 = x by rw [List.getD_eq_getElem?_getD, hj]; rfl] at this
  rw [Addr.add_mid]
  rw [show o + (j * (Kd.int .u8).sz + 0) = o + j by show o + (j * 1 + 0) = o + j; omega]
  exact this
def headR.T5 : Bool × List (List Nat × List Nat) := (true, [([], []), ([], []), ([], []), ([1, 2], [1, 2]), ([0, 3, 3], [0, 3])])
def headR.B5 : List Nat := [0, 0, 0, 6, 15]
theorem headR.tab5 : rtab .any (opsOf Tryd.f74 5) = headR.T5 := by kernel_rfl
theorem headR.bits5 : waitsOk headR.T5.2 headR.B5 = true := by kernel_rfl
theorem imprRow : ((cells8 zero64).toList.take 0 ++ Lib.byteCells (⟨#[73, 77, 80, 82]⟩ : ByteArray).data.toList ++ (cells8 zero64).toList.drop (0 + (⟨#[73, 77, 80, 82]⟩ : ByteArray).size)).toArray = cells8 ([73, 77, 80, 82] ++ List.replicate 60 0) := by kernel_rfl
theorem row_put (l x : List Int) (o : Nat) : ((cells8 l).toList.take o ++ (cells8 x).toList ++ (cells8 l).toList.drop (o + (cells8 x).toList.length)).toArray = cells8 (l.take o ++ x ++ l.drop (o + x.length)) := by
  simp [cells8, List.map_take, List.map_drop]
theorem preH_bytes (g : Int) (n : Nat) : ∀ x ∈ preH g n, 0 ≤ x ∧ x < 256 := by
  have hp : ∀ (h : List Int) (o n : Nat) (v : Int), (∀ x ∈ h, 0 ≤ x ∧ x < 256) → ∀ j, ∀ x ∈ putS h o n v j, 0 ≤ x ∧ x < 256 := by
    intro h o n v hh j
    induction j with
    | zero => exact hh
    | succ j ih =>
      intro x hx
      rw [putS] at hx
      rcases List.mem_or_eq_of_mem_set hx with h1 | h1
      · exact ih x h1
      · subst h1; omega
  unfold preH
  refine hp _ _ _ _ (hp _ _ _ _ ?_ _) _
  intro x hx
  simp at hx
  omega
set_option maxRecDepth 100000 in
set_option maxHeartbeats 4000000 in
theorem headOf_c (g : Int) (hg : 0 ≤ g ∧ g < 18446744073709551616) (A : Option Addr) (n c : Nat) (r : List Int) (w : World) (HG : Glb w) (hn : n = r.length) (hC : Kd.C (Kd.int .u8) w A n r) (hb : ∀ x ∈ r, 0 ≤ x ∧ x < 256) (hl : r.length ≤ 100000) :
    Calls Tryd.prog 74 #[.int .u64 g, .slice A n c] w fun e w' => e = .returned (.agg (cells8 (headL g r))) ∧ Below w.heap.size w w' := by
  have H0 := Aside0.mk (And.intro HG (And.intro hg (And.intro hn (And.intro hC (And.intro hb hl)))))
  clear HG hg hn hC hb hl
  go_enter Tryd.func74, Tryd.ntmps74
  go_upto_region 2 with (fail)
  obtain ⟨g1, hg1⟩ : ∃ x, x = w.heap.size := ⟨_, rfl⟩
  have P0 : Aside0 (((w.alloc (.cells #[.int .u8 0, .int .u8 0, .int .u8 0, .int .u8 0, .int .u8 0, .int .u8 0, .int .u8 0, .int .u8 0, .int .u8 0, .int .u8 0, .int .u8 0, .int .u8 0, .int .u8 0, .int .u8 0, .int .u8 0, .int .u8 0, .int .u8 0, .int .u8 0, .int .u8 0, .int .u8 0, .int .u8 0, .int .u8 0, .int .u8 0, .int .u8 0, .int .u8 0, .int .u8 0, .int .u8 0, .int .u8 0, .int .u8 0, .int .u8 0, .int .u8 0, .int .u8 0, .int .u8 0, .int .u8 0, .int .u8 0, .int .u8 0, .int .u8 0, .int .u8 0, .int .u8 0, .int .u8 0, .int .u8 0, .int .u8 0, .int .u8 0, .int .u8 0, .int .u8 0, .int .u8 0, .int .u8 0, .int .u8 0, .int .u8 0, .int .u8 0, .int .u8 0, .int .u8 0, .int .u8 0, .int .u8 0, .int .u8 0, .int .u8 0, .int .u8 0, .int .u8 0, .int .u8 0, .int .u8 0, .int .u8 0, .int .u8 0, .int .u8 0, .int .u8 0] 124)).alloc (.cells #[.int .u8 0, .int .u8 0, .int .u8 0, .int .u8 0, .int .u8 0, .int .u8 0, .int .u8 0, .int .u8 0, .int .u8 0, .int .u8 0, .int .u8 0, .int .u8 0, .int .u8 0, .int .u8 0, .int .u8 0, .int .u8 0, .int .u8 0, .int .u8 0, .int .u8 0, .int .u8 0, .int .u8 0, .int .u8 0, .int .u8 0, .int .u8 0, .int .u8 0, .int .u8 0, .int .u8 0, .int .u8 0, .int .u8 0, .int .u8 0, .int .u8 0, .int .u8 0, .int .u8 0, .int .u8 0, .int .u8 0, .int .u8 0, .int .u8 0, .int .u8 0, .int .u8 0, .int .u8 0, .int .u8 0, .int .u8 0, .int .u8 0, .int .u8 0, .int .u8 0, .int .u8 0, .int .u8 0, .int .u8 0, .int .u8 0, .int .u8 0, .int .u8 0, .int .u8 0, .int .u8 0, .int .u8 0, .int .u8 0, .int .u8 0, .int .u8 0, .int .u8 0, .int .u8 0, .int .u8 0, .int .u8 0, .int .u8 0, .int .u8 0, .int .u8 0] 124)).heap[w.heap.size]? = some (.cells (cells8 zero64) 124 (0, 0)) ∧ ((w.alloc (.cells #[.int .u8 0, .int .u8 0, .int .u8 0, .int .u8 0, .int .u8 0, .int .u8 0, .int .u8 0, .int .u8 0, .int .u8 0, .int .u8 0, .int .u8 0, .int .u8 0, .int .u8 0, .int .u8 0, .int .u8 0, .int .u8 0, .int .u8 0, .int .u8 0, .int .u8 0, .int .u8 0, .int .u8 0, .int .u8 0, .int .u8 0, .int .u8 0, .int .u8 0, .int .u8 0, .int .u8 0, .int .u8 0, .int .u8 0, .int .u8 0, .int .u8 0, .int .u8 0, .int .u8 0, .int .u8 0, .int .u8 0, .int .u8 0, .int .u8 0, .int .u8 0, .int .u8 0, .int .u8 0, .int .u8 0, .int .u8 0, .int .u8 0, .int .u8 0, .int .u8 0, .int .u8 0, .int .u8 0, .int .u8 0, .int .u8 0, .int .u8 0, .int .u8 0, .int .u8 0, .int .u8 0, .int .u8 0, .int .u8 0, .int .u8 0, .int .u8 0, .int .u8 0, .int .u8 0, .int .u8 0, .int .u8 0, .int .u8 0, .int .u8 0, .int .u8 0] 124)).alloc (.cells #[.int .u8 0, .int .u8 0, .int .u8 0, .int .u8 0, .int .u8 0, .int .u8 0, .int .u8 0, .int .u8 0, .int .u8 0, .int .u8 0, .int .u8 0, .int .u8 0, .int .u8 0, .int .u8 0, .int .u8 0, .int .u8 0, .int .u8 0, .int .u8 0, .int .u8 0, .int .u8 0, .int .u8 0, .int .u8 0, .int .u8 0, .int .u8 0, .int .u8 0, .int .u8 0, .int .u8 0, .int .u8 0, .int .u8 0, .int .u8 0, .int .u8 0, .int .u8 0, .int .u8 0, .int .u8 0, .int .u8 0, .int .u8 0, .int .u8 0, .int .u8 0, .int .u8 0, .int .u8 0, .int .u8 0, .int .u8 0, .int .u8 0, .int .u8 0, .int .u8 0, .int .u8 0, .int .u8 0, .int .u8 0, .int .u8 0, .int .u8 0, .int .u8 0, .int .u8 0, .int .u8 0, .int .u8 0, .int .u8 0, .int .u8 0, .int .u8 0, .int .u8 0, .int .u8 0, .int .u8 0, .int .u8 0, .int .u8 0, .int .u8 0, .int .u8 0] 124)).heap[w.heap.size + 1]? = some (.cells (cells8 zero64) 124 (0, 0)) ∧ Below w.heap.size w ((w.alloc (.cells #[.int .u8 0, .int .u8 0, .int .u8 0, .int .u8 0, .int .u8 0, .int .u8 0, .int .u8 0, .int .u8 0, .int .u8 0, .int .u8 0, .int .u8 0, .int .u8 0, .int .u8 0, .int .u8 0, .int .u8 0, .int .u8 0, .int .u8 0, .int .u8 0, .int .u8 0, .int .u8 0, .int .u8 0, .int .u8 0, .int .u8 0, .int .u8 0, .int .u8 0, .int .u8 0, .int .u8 0, .int .u8 0, .int .u8 0, .int .u8 0, .int .u8 0, .int .u8 0, .int .u8 0, .int .u8 0, .int .u8 0, .int .u8 0, .int .u8 0, .int .u8 0, .int .u8 0, .int .u8 0, .int .u8 0, .int .u8 0, .int .u8 0, .int .u8 0, .int .u8 0, .int .u8 0, .int .u8 0, .int .u8 0, .int .u8 0, .int .u8 0, .int .u8 0, .int .u8 0, .int .u8 0, .int .u8 0, .int .u8 0, .int .u8 0, .int .u8 0, .int .u8 0, .int .u8 0, .int .u8 0, .int .u8 0, .int .u8 0, .int .u8 0, .int .u8 0] 124)).alloc (.cells #[.int .u8 0, .int .u8 0, .int .u8 0, .int .u8 0, .int .u8 0, .int .u8 0, .int .u8 0, .int .u8 0, .int .u8 0, .int .u8 0, .int .u8 0, .int .u8 0, .int .u8 0, .int .u8 0, .int .u8 0, .int .u8 0, .int .u8 0, .int .u8 0, .int .u8 0, .int .u8 0, .int .u8 0, .int .u8 0, .int .u8 0, .int .u8 0, .int .u8 0, .int .u8 0, .int .u8 0, .int .u8 0, .int .u8 0, .int .u8 0, .int .u8 0, .int .u8 0, .int .u8 0, .int .u8 0, .int .u8 0, .int .u8 0, .int .u8 0, .int .u8 0, .int .u8 0, .int .u8 0, .int .u8 0, .int .u8 0, .int .u8 0, .int .u8 0, .int .u8 0, .int .u8 0, .int .u8 0, .int .u8 0, .int .u8 0, .int .u8 0, .int .u8 0, .int .u8 0, .int .u8 0, .int .u8 0, .int .u8 0, .int .u8 0, .int .u8 0, .int .u8 0, .int .u8 0, .int .u8 0, .int .u8 0, .int .u8 0, .int .u8 0, .int .u8 0] 124))) := ⟨blk_alloc (new1 _ _) _, new2 _ _ _, below_alloc (below_alloc (Below.refl _ _) _) _⟩
  generalize ((w.alloc (.cells #[.int .u8 0, .int .u8 0, .int .u8 0, .int .u8 0, .int .u8 0, .int .u8 0, .int .u8 0, .int .u8 0, .int .u8 0, .int .u8 0, .int .u8 0, .int .u8 0, .int .u8 0, .int .u8 0, .int .u8 0, .int .u8 0, .int .u8 0, .int .u8 0, .int .u8 0, .int .u8 0, .int .u8 0, .int .u8 0, .int .u8 0, .int .u8 0, .int .u8 0, .int .u8 0, .int .u8 0, .int .u8 0, .int .u8 0, .int .u8 0, .int .u8 0, .int .u8 0, .int .u8 0, .int .u8 0, .int .u8 0, .int .u8 0, .int .u8 0, .int .u8 0, .int .u8 0, .int .u8 0, .int .u8 0, .int .u8 0, .int .u8 0, .int .u8 0, .int .u8 0, .int .u8 0, .int .u8 0, .int .u8 0, .int .u8 0, .int .u8 0, .int .u8 0, .int .u8 0, .int .u8 0, .int .u8 0, .int .u8 0, .int .u8 0, .int .u8 0, .int .u8 0, .int .u8 0, .int .u8 0, .int .u8 0, .int .u8 0, .int .u8 0, .int .u8 0] 124)).alloc (.cells #[.int .u8 0, .int .u8 0, .int .u8 0, .int .u8 0, .int .u8 0, .int .u8 0, .int .u8 0, .int .u8 0, .int .u8 0, .int .u8 0, .int .u8 0, .int .u8 0, .int .u8 0, .int .u8 0, .int .u8 0, .int .u8 0, .int .u8 0, .int .u8 0, .int .u8 0, .int .u8 0, .int .u8 0, .int .u8 0, .int .u8 0, .int .u8 0, .int .u8 0, .int .u8 0, .int .u8 0, .int .u8 0, .int .u8 0, .int .u8 0, .int .u8 0, .int .u8 0, .int .u8 0, .int .u8 0, .int .u8 0, .int .u8 0, .int .u8 0, .int .u8 0, .int .u8 0, .int .u8 0, .int .u8 0, .int .u8 0, .int .u8 0, .int .u8 0, .int .u8 0, .int .u8 0, .int .u8 0, .int .u8 0, .int .u8 0, .int .u8 0, .int .u8 0, .int .u8 0, .int .u8 0, .int .u8 0, .int .u8 0, .int .u8 0, .int .u8 0, .int .u8 0, .int .u8 0, .int .u8 0, .int .u8 0, .int .u8 0, .int .u8 0, .int .u8 0] 124)) = w1 at P0 ⊢
  have hcopy := Lib.run_copy_row_string (P := Tryd.prog) w1 30 9 3 5 (w.heap.size + 1) 0 64 64 ⟨#[73, 77, 80, 82]⟩ (cells8 zero64) 124 Tryd.underlying30 info1 P0.out.2.1 (by decide) (by decide)
  rw [imprRow] at hcopy
  go_upto_region 3 with (first
    | ((with_reducible refine gate_builtin (b := .copy) (xs := #[.tmp 6, .const (.string ⟨#[73, 77, 80, 82]⟩)]) rfl ?_); refine wpList_value (some 7) rfl rfl (v := goInt (⟨#[73, 77, 80, 82]⟩ : ByteArray).size) (w1 := w1.setRow (w.heap.size + 1) (cells8 ([73, 77, 80, 82] ++ List.replicate 60 0))) ?_ ?_; (· go_simp)))
  have P1 : Aside0 ((w1.setRow (w.heap.size + 1) (cells8 ([73, 77, 80, 82] ++ List.replicate 60 0))).heap[w.heap.size]? = some (.cells (cells8 zero64) 124 (0, 0)) ∧ (w1.setRow (w.heap.size + 1) (cells8 ([73, 77, 80, 82] ++ List.replicate 60 0))).heap[w.heap.size + 1]? = some (.cells (cells8 ([73, 77, 80, 82] ++ List.replicate 60 0)) 124 (0, 0)) ∧ Below w.heap.size w (w1.setRow (w.heap.size + 1) (cells8 ([73, 77, 80, 82] ++ List.replicate 60 0)))) := ⟨(setRow_other _ _ _ _ (by omega)).trans P0.out.1, setRow_heap _ _ _ _ _ _ P0.out.2.1, below_setRow P0.out.2.2 (by omega) _⟩
  generalize (w1.setRow (w.heap.size + 1) (cells8 ([73, 77, 80, 82] ++ List.replicate 60 0))) = w2 at P1 ⊢
  clear hcopy P0
  go_upto_region 4 with (first
    | (go_at_call 116
       refine (put_c ([73, 77, 80, 82] ++ List.replicate 60 0) 124 g H0.out.2.1 (w.heap.size + 1) 4 8 60 (w.heap.size + 1) (by decide) (by decide) w2 (Nat.le_refl _) P1.out.2.1).mono ?_
       rintro e w3 ⟨rfl, hh, hB⟩
       have P3 : Aside0 (w3.heap[w.heap.size]? = some (.cells (cells8 zero64) 124 (0, 0)) ∧ w3.heap[w.heap.size + 1]? = some (.cells (cells8 (putS ([73, 77, 80, 82] ++ List.replicate 60 0) 4 8 g 8)) 124 (0, 0)) ∧ Below w.heap.size w w3) := ⟨(hB.block _ (by omega)).trans P1.out.1, hh, P1.out.2.2.trans (below_le hB (by omega))⟩
       clear hh hB P1))
  have hnI : (n : Int) ≤ 100000 := by have := H0.out.2.2.1; have := H0.out.2.2.2.2.2; omega
  have hnw : IntKind.u64.wrap (n : Int) = (n : Int) := by rw [wr64]; omega
  go_upto_region 5 with (first
    | (go_at_call 116
       refine (put_c (putS ([73, 77, 80, 82] ++ List.replicate 60 0) 4 8 g 8) 124 (n : Int) (by omega) (w.heap.size + 1) 12 4 52 (w.heap.size + 1) (by rw [putS_length]; decide) (by rw [putS_length]; decide) w3 (Nat.le_refl _) P3.out.2.1).mono ?_
       rintro e w4 ⟨rfl, hh, hB⟩
       have P4 : Aside0 (w4.heap[w.heap.size]? = some (.cells (cells8 zero64) 124 (0, 0)) ∧ w4.heap[w.heap.size + 1]? = some (.cells (cells8 (preH g n)) 124 (0, 0)) ∧ Below w.heap.size w w4) := ⟨(hB.block _ (by omega)).trans P3.out.1, hh, P3.out.2.2.trans (below_le hB (by omega))⟩
       clear hh hB P3))
  obtain ⟨d, hd⟩ : ∃ d, d = X.dig (genL g n ++ r) := ⟨_, rfl⟩
  have hd32 : d.length = 32 := by rw [hd]; exact dig_length _
  have hgl : (genL g n).length = 8 := by unfold genL; rw [List.length_take, List.length_drop, preH_length]; decide
  have hgb : ∀ x ∈ genL g n, 0 ≤ x ∧ x < 256 := fun x hx => preH_bytes g n x (List.mem_of_mem_drop (List.mem_of_mem_take hx))
  have HD := Lib.hid (And.intro hd (And.intro hd32 (And.intro hgl hgb)))
  clear hd hd32 hgl hgb
  refine start_ (n := 5) (S := fun _ => True) (ds := []) (fl 5 0) (by kernel_rfl) rfl rfl trivial (fun hHeld => ?_)
  refine with_tabW headR.tab5 headR.bits5 (fun HT_ HW_ => ?_)
  refine pB 0 16 5 1 ?_
  refine pB 1 17 5 3 ?_
  refine pB 2 18 5 7 ?_
  refine one_ (i := 3) (N := some 19) (fl 5 15) rfl rfl (one_of HT_.out (by kernel_rfl)) (by decide) (fun K hK => ?_)
  refine goes_ Tryd.func117 (by kernel_rfl) rfl #[.slice (some ⟨w.heap.size + 1, 4, none⟩) 8 60, .slice A n c] (by rfl) rfl rfl eqA ?_
  have hb4 : Below w.heap.size w w4.drew := below_step (P4.out.2.2) (below_drew1 (Below.refl _ _))
  have hk := sdigest_c (some ⟨w.heap.size + 1, 4, none⟩) A 8 60 n c (genL g n) r w4.drew (H0.out.1.of hb4) HD.out.2.2.1.symm H0.out.2.2.1 (blk_Co (blk_drew P4.out.2.1) 4 8 (by rw [preH_length]; decide) (by rw [preH_length]; decide)) (Kd.C_below H0.out.2.2.2.1 hb4) HD.out.2.2.2 H0.out.2.2.2.2.1 (by rw [HD.out.2.2.1]; have := H0.out.2.2.2.2.2; omega)
  rw [← HD.out.1] at hk
  refine hk.mono ?_
  clear hk
  rintro e w5 ⟨v5, rfl, hR, hB⟩
  obtain ⟨g3, c3, rfl, _⟩ := Kd.R_form hR (by rw [HD.out.2.1]; decide)
  rw [HD.out.2.1] at hR ⊢
  have P5 : Aside0 (w5.heap[w.heap.size]? = some (.cells (cells8 zero64) 124 (0, 0)) ∧ w5.heap[w.heap.size + 1]? = some (.cells (cells8 (preH g n)) 124 (0, 0)) ∧ Below w.heap.size w w5 ∧ Kd.C (Kd.int .u8) w5 (some ⟨g3, 0, none⟩) 32 d) := ⟨blk_below (blk_drew P4.out.1) hB, blk_below (blk_drew P4.out.2.1) hB, below_step hb4 hB, R_C0 hR⟩
  clear hR hB hb4 P4
  refine ⟨_, rfl, ?_⟩
  refine hK.out _ _ trivial (fun hHeld => ?_)
  clear hK K
  refine normA (some 19) ?_
  refine one_ (i := 4) (N := some 20) (fl 5 31) rfl rfl (one_of HT_.out (by kernel_rfl)) (by decide) (fun K hK => ?_)
  have hsrc : ∀ j v, (cells8 d).toList[j]? = some v → w5.cell? ((⟨g3, 0, none⟩ : Addr).add j) = some v := by
    obtain ⟨ad, e1, e2⟩ := C_addr P5.out.2.2.2 (by decide)
    obtain rfl := Option.some.inj e1
    exact e2
  have hcopy := run_copy_row (P := Tryd.prog) w5 30 30 3 5 (w.heap.size + 1) 16 32 48 ⟨g3, 0, none⟩ 32 c3 (cells8 (preH g n)) 124 (cells8 d).toList Tryd.underlying30 info1 P5.out.2.1 (by rw [Array.length_toList, size8 HD.out.2.1]; rfl) hsrc (by rw [Array.length_toList, size8 HD.out.2.1, size8 (preH_length g n)]; decide) (fun v hv => by obtain ⟨x, _, rfl⟩ := List.mem_map.1 (by simpa [cells8] using hv); rfl)
  rw [row_put, HD.out.2.1] at hcopy
  refine value_ (v := goInt (cells8 d).toList.length) (w1 := w5.setRow (w.heap.size + 1) (cells8 ((preH g n).take 16 ++ d ++ (preH g n).drop (16 + 32)))) (by rfl) rfl (by go_simp) ?_
  refine hK.out _ _ trivial (fun _ => ?_)
  clear hK K hcopy hsrc hHeld
  refine normA (some 20) ?_
  refine done_ (done_of HT_.out (by kernel_rfl)) ?_
  clear HT_ HW_
  have hhl : ((preH g n).take 16 ++ d ++ (preH g n).drop (16 + 32)) = headL g r := by unfold headL; rw [← H0.out.2.2.1, ← HD.out.1]
  rw [hhl]
  have P6 : Aside0 ((w5.setRow (w.heap.size + 1) (cells8 (headL g r))).heap[w.heap.size]? = some (.cells (cells8 zero64) 124 (0, 0)) ∧ (w5.setRow (w.heap.size + 1) (cells8 (headL g r))).heap[w.heap.size + 1]? = some (.cells (cells8 (headL g r)) 124 (0, 0)) ∧ Below w.heap.size w (w5.setRow (w.heap.size + 1) (cells8 (headL g r)))) := ⟨(setRow_other _ _ _ _ (by omega)).trans P5.out.1, setRow_heap _ _ _ _ _ _ P5.out.2.1, below_setRow P5.out.2.2.1 (by omega) _⟩
  generalize (w5.setRow (w.heap.size + 1) (cells8 (headL g r))) = w6 at P6 ⊢
  clear P5 hhl
  obtain ⟨h, hh⟩ : ∃ h, h = headL g r := ⟨_, rfl⟩
  rw [← hh] at P6
  have hl64 : h.length = 64 := by rw [hh]; exact headL_length _ _
  have infoHd : (Tryd.prog.info? 124).map (·.size) = some 64 := by kernel_rfl
  go_wp2_with (first
    | (refine wpList_load_row rfl 124 (.tmp 5) rfl (w.heap.size + 1) (by rfl) 124 (cells8 h) (0, 0) _ P6.out.2.1 Tryd.underlying124 rfl (by rw [size8 hl64]; exact infoHd) ?_)
    | (refine wpList_store_row rfl 124 (.tmp 4) (.tmp 21) rfl w.heap.size (cells8 h) (by rfl) (by rfl) 124 (cells8 zero64) P6.out.1 (by rw [size8 hl64]; exact infoHd) (by rw [size8 hl64]; rfl) (ones8 _) ?_))
  refine bodyPost_ret (v := .agg (cells8 h)) (results_cell_row (by rfl) _ _ w.heap.size 124 (cells8 h) (0, 0) _ (by rfl) (setRow_heap _ _ _ _ _ _ P6.out.1) Tryd.underlying124 rfl (by rw [size8 hl64]; exact infoHd)) rfl ⟨by rw [hh], below_setRow P6.out.2.2 (Nat.le_refl _) _⟩
end Go.Proofs.YtbenedckmapjoaaDoor.D
