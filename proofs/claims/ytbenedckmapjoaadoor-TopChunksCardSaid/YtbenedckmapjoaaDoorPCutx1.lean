-- Written by a program of this session, after the print of the kit.
import Derived.Test.YtbenedckmapjoaaDoorWC
import Derived.Test.YtbenedckmapjoaaDoorPCutx0
namespace Go.Proofs.YtbenedckmapjoaaDoor.PCut
open Go.RowKit Go.Proofs.YtbenedckmapjoaaDoor.X Go.Proofs.YtbenedckmapjoaaDoorW.PrintWords Go.Proofs.YtbenedckmapjoaaDoorW.PrintLast Go.Proofs.YtbenedckmapjoaaDoorW.PrintMore
attribute [local go_sem] max2_int min2_int max_two min_two max_three min_three max_four min_four   -- for this text's walks alone
set_option linter.unusedVariables false
set_option linter.unusedSimpArgs false

/-! ### merkle_Count: function 75 -/
def merkle_Count.j0 : Nat → Int → Int → Bool → Option (Int × Int)
 | 0, _, _, _ => none
 | k + 1, x0, x1, x6 => if x6 = true then (some (0, 1)) else (if x0 > 131072 then (some (0, 2)) else (if x1 = 0 then (none) else (some (wrap64 (Int.tdiv (wrap64 ((wrap64 (x0 + x1)) - 1)) x1), 0))))
def merkle_Count.f (k : Nat) (a0 : Int) (a1 : Int) : Option (Int × Int) := if a0 < 0 then (merkle_Count.j0 k a0 a1 true) else (if a1 < 64 then (merkle_Count.j0 k a0 a1 true) else (merkle_Count.j0 k a0 a1 (decide (a1 > 1024))))
theorem merkle_Count.mono_l : ∀ k, (∀ y0 y1 y2, LeO (merkle_Count.j0 k y0 y1 y2) (merkle_Count.j0 (k + 1) y0 y1 y2))
 | 0 => fun _ _ _ r h => by simp [merkle_Count.j0] at h
 | k + 1 => by
  have ih0 := merkle_Count.mono_l k
  intro y0 y1 y2
  unfold merkle_Count.j0
  repeat' first
  | (with_reducible exact ih0 _ _ _)
  | (with_reducible exact LeO.refl _)
  | (with_reducible exact LeO.none _)
  | (with_reducible refine LeO.ite ?_ ?_)
  | (with_reducible refine LeO.bind ?_ (fun _ => ?_))
theorem merkle_Count.mono : ∀ a0 a1 k, LeO (merkle_Count.f k a0 a1) (merkle_Count.f (k + 1) a0 a1) := by
 intro a0 a1 k
 have ih0 := merkle_Count.mono_l k
 unfold merkle_Count.f
 repeat' first
   | (with_reducible exact ih0 _ _ _)
   | (with_reducible exact LeO.refl _)
   | (with_reducible exact LeO.none _)
   | (with_reducible refine LeO.ite ?_ ?_)
   | (with_reducible refine LeO.bind ?_ (fun _ => ?_))
set_option maxHeartbeats 8000000 in
set_option maxRecDepth 100000 in
theorem merkle_Count.calls (k : Nat) (a0 : Int) (a1 : Int) (r1 : Int) (r2 : Int) (w : World) (h : merkle_Count.f k a0 a1 = some (r1, r2)) :
  Calls Tryd.prog 75 #[.int .i64 a0, .int .i64 a1] w fun e w' => e = .returned (.tuple #[.int .i64 r1, .int .i64 r2]) ∧ Drawn0 w w' := by
 have H : (if a0 < 0 then (merkle_Count.j0 k a0 a1 true) else (if a1 < 64 then (merkle_Count.j0 k a0 a1 true) else (merkle_Count.j0 k a0 a1 (decide (a1 > 1024))))) = some (r1, r2) := h
 clear h
 have HC3 := aM H
 clear H
 go_enter Tryd.func75, Tryd.ntmps75
 go_upto_region 1 with (fail)
 go_cut [6] (fun v6 wc => ∃ (kq : Nat) (x6_2 : Bool), v6 = .bool x6_2 ∧ Aside0 (merkle_Count.j0 kq a0 a1 x6_2 = some (r1, r2)) ∧ Aside0 (kq ≤ k) ∧ Drawn0 w wc)
 case first =>
  have H := HC3.out
  clear HC3
  by_cases c4 : a0 < 0
  ·rw [if_pos c4] at H
   have c4b0 : decide (a0 < 0) = true := decide_eq_true c4
   clear c4
   (first | rw [c4b0] | (simp only [i64_w, i32_w]; rw [c4b0]) | skip)
   have H' := aM H
   clear H
   go_wp2
   go_meet
   case rel => exact ⟨_, (true), rfS, H', omL, by repeat (first | exact Drawn0.refl _ | apply Drawn0.step)⟩
  rw [if_neg c4] at H
  have c4b0 : decide (a0 < 0) = false := decide_eq_false c4
  clear c4
  (first | rw [c4b0] | (simp only [i64_w, i32_w]; rw [c4b0]) | skip)
  by_cases c5 : a1 < 64
  ·rw [if_pos c5] at H
   have c5b0 : decide (a1 < 64) = true := decide_eq_true c5
   clear c5
   have H' := aM H
   clear H
   go_wp2
   go_meet
   case rel => exact ⟨_, (true), rfS, H', omL, by repeat (first | exact Drawn0.refl _ | apply Drawn0.step)⟩
  rw [if_neg c5] at H
  have c5b0 : decide (a1 < 64) = false := decide_eq_false c5
  clear c5
  have H' := aM H
  clear H
  go_wp2
  go_meet
  case rel => exact ⟨_, (decide (a1 > 1024)), rfS, H', omL, by repeat (first | exact Drawn0.refl _ | apply Drawn0.step)⟩
 case rest =>
  clear HC3
  obtain ⟨kq, x6_2, rfl, HA, HJ2, ⟨mc2, rfl⟩⟩ := hcut
  cases kq with
  | zero => exact absurd HA.out (by simp [merkle_Count.j0])
  | succ kj2 =>
   have H := HA.out
   clear HA
   simp only [merkle_Count.j0] at H
   by_cases c6 : x6_2 = true
   ·subst c6
    have H1 : (some (0, 1)) = some (r1, r2) := by rw [if_pos rfl] at H; exact H
    clear H
    have H := H1
    clear H1
    simp only [Option.some.injEq, Prod.mk.injEq] at H
    obtain ⟨rfl, rfl⟩ := H
    go_wp2
    go_ret2
    exact ⟨by first | rfl | (simp; done) | (simp [*]; done), by repeat (first | exact Drawn0.refl _ | apply Drawn0.step)⟩
   replace c6 := Bool.eq_false_iff.mpr c6
   subst c6
   have H1 : (if a0 > 131072 then (some (0, 2)) else (if a1 = 0 then (none) else (some (wrap64 (Int.tdiv (wrap64 ((wrap64 (a0 + a1)) - 1)) a1), 0)))) = some (r1, r2) := by rw [if_neg (show ¬ (false = true) by decide)] at H; exact H
   clear H
   have H := H1
   clear H1
   by_cases c7 : a0 > 131072
   ·rw [if_pos c7] at H
    have c7b0 : decide (131072 < a0) = true := decide_eq_true c7
    clear c7
    simp only [Option.some.injEq, Prod.mk.injEq] at H
    obtain ⟨rfl, rfl⟩ := H
    go_wp2
    go_ret2
    exact ⟨by first | rfl | (simp; done) | (simp [*]; done), by repeat (first | exact Drawn0.refl _ | apply Drawn0.step)⟩
   rw [if_neg c7] at H
   have c7b0 : decide (131072 < a0) = false := decide_eq_false c7
   clear c7
   by_cases c8 : a1 = 0
   ·rw [if_pos c8] at H
    exact absurd H (by simp)
   rw [if_neg c8] at H
   have c8b0 : (a1 == 0) = false := beq_eq_false_iff_ne.mpr c8
   have c8b1 : (a1 != 0) = true := bne_iff_ne.mpr c8
   simp only [Option.some.injEq, Prod.mk.injEq] at H
   obtain ⟨rfl, rfl⟩ := H
   go_wp2
   go_ret2
   exact ⟨by first | rfl | (simp; done) | (simp [*]; done), by repeat (first | exact Drawn0.refl _ | apply Drawn0.step)⟩

/-! ### merkle_eight: function 78 -/
def merkle_eight.l0 : Nat → Int → List Int → Int → Int → Option (List Int)
 | 0, _, _, _, _ => none
 | k + 1, x0, x3, x7, x8 => if x8 < x7 then (if 0 ≤ (wrap64 (56 - (wrap64 (8 * x8)))) then (if 0 ≤ x8 then (if x8 < (x3.length : Int) then (merkle_eight.l0 k x0 (x3.set (x8 : Int).toNat ((shr .u64 (IntKind.u64.wrap (x0)) (wrap64 (56 - (wrap64 (8 * x8))))) % 256)) x7 (wrap64 (x8 + 1))) else (none)) else (none)) else (none)) else (some x3)
def merkle_eight.f (k : Nat) (a0 : Int) : Option (List Int) := if 8 ≤ 281474976710656 then ((some (List.replicate 8 0 : List Int)).bind fun y101 => (merkle_eight.l0 k a0 y101 (y101.length : Int) 0)) else (none)
theorem merkle_eight.mono_l : ∀ k, (∀ y0 y1 y2 y3, LeO (merkle_eight.l0 k y0 y1 y2 y3) (merkle_eight.l0 (k + 1) y0 y1 y2 y3))
 | 0 => fun _ _ _ _ r h => by simp [merkle_eight.l0] at h
 | k + 1 => by
  have ih0 := merkle_eight.mono_l k
  intro y0 y1 y2 y3
  unfold merkle_eight.l0
  repeat' first
  | (with_reducible exact ih0 _ _ _ _)
  | (with_reducible exact LeO.refl _)
  | (with_reducible exact LeO.none _)
  | (with_reducible refine LeO.ite ?_ ?_)
  | (with_reducible refine LeO.bind ?_ (fun _ => ?_))
theorem merkle_eight.mono : ∀ a0 k, LeO (merkle_eight.f k a0) (merkle_eight.f (k + 1) a0) := by
 intro a0 k
 have ih0 := merkle_eight.mono_l k
 unfold merkle_eight.f
 repeat' first
   | (with_reducible exact ih0 _ _ _ _)
   | (with_reducible exact LeO.refl _)
   | (with_reducible exact LeO.none _)
   | (with_reducible refine LeO.ite ?_ ?_)
   | (with_reducible refine LeO.bind ?_ (fun _ => ?_))
set_option maxHeartbeats 8000000 in
set_option maxRecDepth 100000 in
theorem merkle_eight.calls (k : Nat) (a0 : Int) (r : List Int) (w : World) (h : merkle_eight.f k a0 = some r) :
  Calls Tryd.prog 78 #[.int .i64 a0] w fun e w' => ∃ v0_ : Value, e = .returned (v0_) ∧ Kd.R (Kd.int .u8) 5 w' w.heap.size (fun _ => True) v0_ r ∧ Below w.heap.size w w' := by
 have HB := aM (Below.refl w.heap.size w)
 have H : (if 8 ≤ 281474976710656 then ((some (List.replicate 8 0 : List Int)).bind fun y101 => (merkle_eight.l0 k a0 y101 (y101.length : Int) 0)) else (none)) = some r := h
 clear h
 by_cases c2 : 8 ≤ 281474976710656
 rotate_left
 ·rw [if_neg c2] at H
  exact absurd H (by simp)

 rw [if_pos c2] at H
 have c2b0 := eq_true c2
 have c2b1 : decide (8 ≤ 281474976710656) = true := decide_eq_true c2
 clear c2
 obtain ⟨y101, hy101⟩ : ∃ y_ : List Int, y_ = (List.replicate 8 0) := ⟨_, rfl⟩
 replace H : (merkle_eight.l0 k a0 y101 (y101.length : Int) 0) = some r := hyA hy101 H
 have Ny101 := aM hy101
 clear hy101
 have H' := aM H
 clear H
 go_enter Tryd.func78, Tryd.ntmps78
 go_wp2_with (first | ((with_reducible refine gate_dst (N := 5) rfl ?_); refine Kd.R_make (Kd.int .u8) _ 5 rfl (N := 5) rfl 30 _ _ rfl 8 rfl rfl Tryd.underlying30 (.int .u8 0) 1 info5 rfl (by decide) (by omega) 0 (ok := fun _ => True) (okp := fun _ => True) rfl (fun _ hk => hk) trivial (by omega) (by omega) (Below.refl _ _) (Nat.le_refl _) ?_; intro v102 w3 ho4 hb hg_ hnew_; clear hg_ hnew_; (first | rw [← Ny101.out] at ho4 | (simp only [Int.reduceToNat] at ho4; rw [← Ny101.out] at ho4)); have HO103 := aM (Kd.R_lower ho4 (below_size bel)); replace HB := aM (below_step bel hb); clear hb ho4; obtain ⟨Ao5, co5, eo5⟩ := Kd.R_slice HO103.out; subst eo5))
 go_loopg [8] k (fun kq v8 w' => ∃ (x3_1 : List Int) (x8_1 : Int), v8 = .int .i64 x8_1 ∧ Aside0 (merkle_eight.l0 kq a0 x3_1 (y101.length : Int) x8_1 = some r) ∧ Aside0 (kq ≤ k) ∧ Aside0 (Kd.R (Kd.int .u8) 5 w' w.heap.size (fun _ => True) (.slice Ao5 y101.length co5) x3_1) ∧ Aside0 (Below w.heap.size w w'))
 case atStart => exact ⟨(y101), (0), rfS, H', ⟨Nat.le_refl _⟩, ⟨by (with_reducible repeat (first | apply Kd.R_alloc | apply Kd.R_drewN | apply Kd.R_drew)); exact HO103.out⟩, ⟨bel⟩⟩
 case round =>
  clear H'
  try clear c2
  try clear c2b0
  try clear c2b1
  obtain ⟨x3_1, x8_1, rfl, HA, HK1, HO_3, HB⟩ := hrel
  have hl3_1 := (Kd.R_reads' HO_3.out).1
  rw [hl3_1] at HO_3
  (try simp only [hl3_1])
  cases gk with
  | zero => exact absurd HA.out (by simp [merkle_eight.l0])
  | succ k1 =>
   have H := HA.out
   clear HA
   simp only [merkle_eight.l0] at H
   by_cases c6 : x8_1 < (y101.length : Int)
   rotate_left
   ·rw [if_neg c6] at H
    have c6b0 : decide (x8_1 < (y101.length : Int)) = false := decide_eq_false c6
    (try rw [hl3_1] at c6b0)
    clear c6
    obtain rfl := Option.some.inj H
    go_wp2
    go_ret
    exact ⟨_, erR, by (with_reducible repeat (first | apply Kd.R_alloc | apply Kd.R_drewN | apply Kd.R_drew)); exact HO_3.out, bel⟩
   rw [if_pos c6] at H
   have c6b0 : decide (x8_1 < (y101.length : Int)) = true := decide_eq_true c6
   clear c6
   obtain ⟨ji7, hji7⟩ : ∃ j_ : Int, (wrap64 (56 - (wrap64 (8 * x8_1)))) = j_ := ⟨_, rfl⟩
   replace H : (if 0 ≤ (ji7) then (if 0 ≤ x8_1 then (if x8_1 < (x3_1.length : Int) then (merkle_eight.l0 k1 a0 (x3_1.set (x8_1 : Int).toNat ((shr .u64 (IntKind.u64.wrap (a0)) (ji7)) % 256)) (y101.length : Int) (wrap64 (x8_1 + 1))) else (none)) else (none)) else (none)) = some r := by first | (rw [hji7] at H; exact H) | (simp only [hji7] at H ⊢; exact H)
   have hji7w : (IntKind.i64.wrap (56 - (wrap64 (8 * x8_1)))) = ji7 := (i64_w _).trans hji7
   by_cases c8 : 0 ≤ (ji7)
   rotate_left
   ·rw [if_neg c8] at H
    exact absurd H (by simp)
   rw [if_pos c8] at H
   have c8b0 := eq_true c8
   have c8b1 : decide (0 ≤ (ji7)) = true := decide_eq_true c8
   clear c8
   obtain ⟨ji9, hji9⟩ : ∃ j_ : Int, (shr .u64 (IntKind.u64.wrap (a0)) (ji7)) = j_ := ⟨_, rfl⟩
   replace H : (if 0 ≤ x8_1 then (if x8_1 < (x3_1.length : Int) then (merkle_eight.l0 k1 a0 (x3_1.set (x8_1 : Int).toNat ((ji9) % 256)) (y101.length : Int) (wrap64 (x8_1 + 1))) else (none)) else (none)) = some r := by first | (rw [hji9] at H; exact H) | (simp only [hji9] at H ⊢; exact H)
   have hji9_ : ((IntKind.u64.wrap (a0)) / 2 ^ min (ji7).toNat 64) = ji9 := hji9
   have hji9z : (ji7) ≤ 64 → ((IntKind.u64.wrap (a0)) / 2 ^ (ji7).toNat) = ji9 := shr_small hji9
   by_cases c10 : 0 ≤ x8_1
   rotate_left
   ·rw [if_neg c10] at H
    exact absurd H (by simp)
   rw [if_pos c10] at H
   have c10b0 : decide (0 ≤ x8_1) = true := decide_eq_true c10
   clear c10
   by_cases c11 : x8_1 < (x3_1.length : Int)
   rotate_left
   ·rw [if_neg c11] at H
    exact absurd H (by simp)
   rw [if_pos c11] at H
   have c11b0 : decide (x8_1 < (x3_1.length : Int)) = true := decide_eq_true c11
   clear c11
   obtain ⟨y104, hy104⟩ : ∃ y_ : List Int, y_ = (x3_1.set (x8_1 : Int).toNat ((ji9) % 256)) := ⟨_, rfl⟩
   replace H : (merkle_eight.l0 k1 a0 y104 (y101.length : Int) (wrap64 (x8_1 + 1))) = some r := hyA hy104 H
   have Ny104 := aM hy104
   clear hy104
   have H' := aM H
   clear H
   have p12 : 0 ≤ (x8_1 : Int) := of_decide_eq_true asm_
   have q12 : (x8_1 : Int) < ((x3_1.length : Int) : Int) := of_decide_eq_true asm_
   obtain ⟨go12, co12, eo12, gb12, gl12, cl12, HG12⟩ := Kd.R_form HO_3.out (by omega)
   (first | cases eo12 | (injection eo12 with ea_ en_ ec_; (first | subst ea_ | (injection ea_ with ea_; subst ea_)); subst ec_; clear en_))
   have GB12 := aM gb12
   have GG12 := aM HG12
   clear gb12 gl12 HG12
   obtain ⟨hx12_0, hf12_0⟩ := Kd.R_celln 0 HO_3.out (x8_1 : Int) p12 q12
   replace p12 := eq_true p12
   replace q12 := eq_true q12
   have HP13 := Kd.R_putg HO_3.out (x8_1 : Int) ((ji9) % 256)
   go_wp2_with (first | ((with_reducible refine gate_store (t := 5) (p := 20) rfl ?_); refine store_event (t := 5) (p := 20) (v := ?vo_w14) (w1 := (wr.setCell ⟨go12, (x8_1 : Int).toNat, none⟩ (.int .u8 ((ji9) % 256)))) ?hg ?ho ?hn ?hr ?_; (case ho => rfl); (case hg => rfl); (case hn => rfl); (case hr => first | (go_simp; done) | (go_simp; rfl)); intro w14 hw; have hg : wr.grownBy w14 (some go12) := (by rw [hw]; exact HP13.2); have hp_ : Kd.R (Kd.int .u8) 5 w14 w.heap.size (fun _ => True) (.slice (some ⟨go12, 0, none⟩) x3_1.length co5) y104 := (by rw [hw, Ny104.out]; exact HP13.1); clear HP13; replace HO_3 := aM (hp_); replace HB := aM ((by rw [hw]; exact below_set (HB.out) GB12.out : Below w.heap.size w w14)); clear hg hw hp_))
   (try simp only [← hl3_1])
   go_roundg k1
   case measure => have := HK1.out; omega
   case rel => exact ⟨(y104), (wrap64 (x8_1 + 1)), rfS, H', ⟨by have := HK1.out; omega⟩, ⟨by (try simp only [hl3_1]); (with_reducible repeat (first | apply Kd.R_alloc | apply Kd.R_drewN | apply Kd.R_drew)); exact HO_3.out⟩, ⟨bel⟩⟩
/-! ### merkle_Leaf: function 33 -/
def merkle_Leaf.f (k : Nat) (a0 : Int) (l1 : List Int) : Option (List Int × Int) := if a0 < 0 then (some (([] : List Int), 1)) else (if (l1.length : Int) > 1024 then (some (([] : List Int), 2)) else ((merkle_eight.f k a0).bind fun t105 => ((merkle_digest.f 0 (([t105, l1] : List (List Int)))).bind fun t111 => (some (t111, 0)))))
theorem merkle_Leaf.mono : ∀ a0 a1 k, LeO (merkle_Leaf.f k a0 a1) (merkle_Leaf.f (k + 1) a0 a1) := by
 intro a0 a1 k
 unfold merkle_Leaf.f
 repeat' first
   | (with_reducible exact merkle_eight.mono _ _)
   | (with_reducible exact LeO.refl _)
   | (with_reducible exact LeO.none _)
   | (with_reducible refine LeO.ite ?_ ?_)
   | (with_reducible refine LeO.bind ?_ (fun _ => ?_))
set_option maxHeartbeats 8000000 in
set_option maxRecDepth 100000 in
theorem merkle_Leaf.calls (k : Nat) (a0 : Int) (P1_ : Nat → Prop) (A1 : Option Addr) (c1 : Nat) (l1 : List Int) (r1 : List Int) (r2 : Int) (w : World) (HG : Glb w) (hs1 : Kd.V (Kd.int .u8) 5 w w.heap.size (fun k_ => P1_ k_) (.slice A1 l1.length c1) l1) (h : merkle_Leaf.f k a0 l1 = some (r1, r2)) :
  Calls Tryd.prog 33 #[.int .i64 a0, .slice A1 l1.length c1] w fun e w' => ∃ v0_ : Value, e = .returned (.tuple #[v0_, .int .i64 r2]) ∧ Kd.R (Kd.int .u8) 5 w' w.heap.size (fun k_ => (w.heap.size ≤ k_)) v0_ r1 ∧ Below w.heap.size w w' := by
 have HO1 := aM (show Kd.V (Kd.int .u8) 5 w w.heap.size (fun k_ => (P1_ k_ ∨ w.heap.size ≤ k_)) (.slice A1 l1.length c1) l1 from Kd.V_mono hs1 (fun k_ hk => .inl hk))
 have HB := aM (Below.refl w.heap.size w)
 have H : (if a0 < 0 then (some (([] : List Int), 1)) else (if (l1.length : Int) > 1024 then (some (([] : List Int), 2)) else ((merkle_eight.f k a0).bind fun t105 => ((merkle_digest.f 0 (([t105, l1] : List (List Int)))).bind fun t111 => (some (t111, 0)))))) = some (r1, r2) := h
 clear h
 by_cases c3 : a0 < 0
 ·rw [if_pos c3] at H
  have c3b0 : decide (a0 < 0) = true := decide_eq_true c3
  clear c3
  simp only [Option.some.injEq, Prod.mk.injEq] at H
  obtain ⟨rfl, rfl⟩ := H
  go_enter Tryd.func33, Tryd.ntmps33
  go_wp2
  go_ret2
  exact ⟨_, erR, by first | exact Kd.R_nil _ _ _ _ _ | exact Kd.N_nil _ _ _ _ _ | exact Kd.V_nil _ _ _ _ _ | exact Kd.Q_nil _ _ _ _ _ | exact Kd.S_nil _ _ _ _ _, bel⟩
 rw [if_neg c3] at H
 have c3b0 : decide (a0 < 0) = false := decide_eq_false c3
 clear c3
 by_cases c4 : (l1.length : Int) > 1024
 ·rw [if_pos c4] at H
  have c4b0 : decide (1024 < (l1.length : Int)) = true := decide_eq_true c4
  have c4b1 : decide (1024 < l1.length) = true := decide_eq_true (by omega)
  clear c4
  simp only [Option.some.injEq, Prod.mk.injEq] at H
  obtain ⟨rfl, rfl⟩ := H
  go_enter Tryd.func33, Tryd.ntmps33
  go_wp2
  go_ret2
  exact ⟨_, erR, by first | exact Kd.R_nil _ _ _ _ _ | exact Kd.N_nil _ _ _ _ _ | exact Kd.V_nil _ _ _ _ _ | exact Kd.Q_nil _ _ _ _ _ | exact Kd.S_nil _ _ _ _ _, bel⟩
 rw [if_neg c4] at H
 have c4b0 : decide (1024 < (l1.length : Int)) = false := decide_eq_false c4
 have c4b1 : decide (1024 < l1.length) = false := decide_eq_false (by omega)
 clear c4
 replace H := Option.bind_eq_some_iff.mp H
 obtain ⟨t105, A50, H⟩ := H
 replace H : ((merkle_digest.f 0 (([t105, l1] : List (List Int)))).bind fun t111 => (some (t111, 0))) = some (r1, r2) := H
 have A5 := aM A50
 clear A50
 obtain ⟨y108, hy108⟩ : ∃ y_ : List (List Int), y_ = (([t105, l1] : List (List Int))) := ⟨_, rfl⟩
 replace H : ((merkle_digest.f 0 y108).bind fun t111 => (some (t111, 0))) = some (r1, r2) := hyA hy108 H
 have Ny108 := aM hy108
 clear hy108
 replace H := Option.bind_eq_some_iff.mp H
 obtain ⟨t111, A60, H⟩ := H
 replace H : (some (t111, 0)) = some (r1, r2) := H
 have A6 := aM A60
 clear A60
 simp only [Option.some.injEq, Prod.mk.injEq] at H
 obtain ⟨rfl, rfl⟩ := H
 go_enter Tryd.func33, Tryd.ntmps33
 go_wp2_with (first | ((with_reducible refine gate_callee (f := 78) rfl ?_); refine goesL_ (some 14) rfl rfl Tryd.func78 (by kernel_rfl) rfl #[.int .i64 a0] rfl eqA ?_; (with_reducible refine (merkle_eight.calls k a0 t105 _ A5.out).mono ?_); rintro e w7 ⟨v106, rfl, ho0, hb⟩; refine ⟨_, rfl, ?_⟩; replace HO1 := aM (Kd.V_elder' (vL HO1.out) (Kd.R_base ho0) hb); have HO107 := aM (Kd.R_lower (Kd.R_newM (M := fun k_ => (w.heap.size ≤ k_)) ho0 (below_size bel) (fun k_ h_ => h_)) (below_size bel)); replace HB := aM (below_step bel hb); clear hb ho0; obtain ⟨Ao8, co8, eo8⟩ := Kd.R_slice HO107.out; subst eo8) | ((with_reducible refine gate_dst (N := 16) rfl ?_); refine Kd.N_lit (Kd.slice 5 (Kd.int .u8)) _ 30 ?hg (N' := 16) ?hd (xs := ([t105, l1] : List (List Int))) (inner := [.slice Ao8 t105.length co8, .slice A1 l1.length c1]) (ok := (fun k_ => (P1_ k_ ∨ w.heap.size ≤ k_))) (okp := (fun k_ => (P1_ k_ ∨ w.heap.size ≤ k_))) ?hr ?hp (fun _ hk => hk) ((show ∀ k_, w7.heap.size ≤ k_ → (fun k_ => (P1_ k_ ∨ w.heap.size ≤ k_)) k_ from fun k_ hk => (.inr (Nat.le_trans (below_size bel) hk))) _ (Nat.le_refl _)) (Below.refl _ _) (Nat.le_refl _) (by simp) ?_; (case hd => rfl); (case hg => rfl); (case hr => first | (go_simp; done) | (go_simp; rfl)); (case hp => exact (Reps.one (show Kd.FK (Kd.slice 5 (Kd.int .u8)) _ _ t105 [.slice Ao8 t105.length co8] from (Kd.FK_slice_mk (Kd.R_reads' (Kd.R_mono (ok' := (fun k_ => (P1_ k_ ∨ w.heap.size ≤ k_))) (HO107.out) (fun k_ hk => (.inr (hk.1))))).2.1 (Kd.R_F (Kd.R_mono (ok' := (fun k_ => (P1_ k_ ∨ w.heap.size ≤ k_))) (HO107.out) (fun k_ hk => (.inr (hk.1))))))) (Reps.one (show Kd.FK (Kd.slice 5 (Kd.int .u8)) _ _ l1 [.slice A1 l1.length c1] from (Kd.FK_slice_mk (Kd.V_reads' (Kd.V_mono (ok' := (fun k_ => (P1_ k_ ∨ w.heap.size ≤ k_))) (HO1.out) (fun k_ hk => hk.1))).2.1 (Kd.V_F (Kd.V_mono (ok' := (fun k_ => (P1_ k_ ∨ w.heap.size ≤ k_))) (HO1.out) (fun k_ hk => hk.1))))) (Reps.none _ _)))); intro v109 w9 ho10 hb hg_ hnew_; clear hg_ hnew_; (first | rw [← Ny108.out] at ho10 | (simp only [Int.reduceToNat] at ho10; rw [← Ny108.out] at ho10)); replace HO1 := aM (Kd.V_elder' (vL HO1.out) (Kd.N_base ho10) hb); have HO110 := aM (Kd.N_lower ho10 (below_size bel)); replace HB := aM (below_step bel hb); clear HO107; clear hb ho10; obtain ⟨Ao11, co11, eo11⟩ := Kd.N_slice HO110.out; subst eo11) | ((with_reducible refine gate_callee (f := 77) rfl ?_); refine goesL_ (some 17) rfl rfl Tryd.func77 (by kernel_rfl) rfl #[.int .u8 0, .slice Ao11 y108.length co11] rfl eqA ?_; (with_reducible refine (merkle_digest.calls 0 _ _ y108 t111 _ (Glb.of HG bel) ?side1 ?side2 A6.out).mono ?_); (case side1 => exact cL (Kd.N_reads' HO110.out).2.2); (case side2 => exact (Kd.N_reads' HO110.out).2.1); rintro e w12 ⟨v112, rfl, ho0, hb⟩; refine ⟨_, rfl, ?_⟩; replace HO1 := aM (Kd.V_elder' (vL HO1.out) (Kd.R_base ho0) hb); replace HO110 := aM (Kd.N_elder' (nL HO110.out) (Kd.R_base ho0) hb); have HO113 := aM (Kd.R_lower (Kd.R_newM (M := fun k_ => (w.heap.size ≤ k_)) ho0 (below_size bel) (fun k_ h_ => h_)) (below_size bel)); replace HB := aM (below_step bel hb); clear hb ho0))
 go_ret2
 exact ⟨_, erR, by (with_reducible repeat (first | apply Kd.R_alloc | apply Kd.R_drewN | apply Kd.R_drew)); exact Kd.R_mono HO113.out (fun _ hk => hk.1), bel⟩

/-! ### merkle_leaves: function 88 -/
def merkle_leaves.l0 : Nat → List (List Int) → Int → Int → Option (Int)
 | 0, _, _, _ => none
 | k + 1, x8, x9, x10 => if x10 < x9 then (if 0 ≤ x10 then (if x10 < (x8.length : Int) then (if ((rd_L1 x8 x10).length : Int) = 32 then (merkle_leaves.l0 k x8 x9 (wrap64 (x10 + 1))) else (some 1)) else (none)) else (none)) else (some 0)
def merkle_leaves.f (k : Nat) (l0 : List (List Int)) : Option (Int) := if (l0.length : Int) > 4096 then (some 2) else (merkle_leaves.l0 k l0 (l0.length : Int) 0)
theorem merkle_leaves.mono_l : ∀ k, (∀ y0 y1 y2, LeO (merkle_leaves.l0 k y0 y1 y2) (merkle_leaves.l0 (k + 1) y0 y1 y2))
 | 0 => fun _ _ _ r h => by simp [merkle_leaves.l0] at h
 | k + 1 => by
  have ih0 := merkle_leaves.mono_l k
  intro y0 y1 y2
  unfold merkle_leaves.l0
  repeat' first
  | (with_reducible exact ih0 _ _ _)
  | (with_reducible exact LeO.refl _)
  | (with_reducible exact LeO.none _)
  | (with_reducible refine LeO.ite ?_ ?_)
  | (with_reducible refine LeO.bind ?_ (fun _ => ?_))
theorem merkle_leaves.mono : ∀ a0 k, LeO (merkle_leaves.f k a0) (merkle_leaves.f (k + 1) a0) := by
 intro a0 k
 have ih0 := merkle_leaves.mono_l k
 unfold merkle_leaves.f
 repeat' first
   | (with_reducible exact ih0 _ _ _)
   | (with_reducible exact LeO.refl _)
   | (with_reducible exact LeO.none _)
   | (with_reducible refine LeO.ite ?_ ?_)
   | (with_reducible refine LeO.bind ?_ (fun _ => ?_))
set_option maxHeartbeats 8000000 in
set_option maxRecDepth 100000 in
theorem merkle_leaves.calls (k : Nat) (A0 : Option Addr) (c0 : Nat) (l0 : List (List Int)) (r : Int) (w : World) (hr0 : Kd.C (Kd.slice 5 (Kd.int .u8)) w A0 l0.length l0) (hc0 : l0.length ≤ c0) (h : merkle_leaves.f k l0 = some r) :
  Calls Tryd.prog 88 #[.slice A0 l0.length c0] w fun e w' => e = .returned (.int .i64 r) ∧ Drawn0 w w' := by
 have HR0 := aM hr0
 have HC0 := aM hc0
 clear hr0 hc0
 have H : (if (l0.length : Int) > 4096 then (some 2) else (merkle_leaves.l0 k l0 (l0.length : Int) 0)) = some r := h
 clear h
 by_cases c2 : (l0.length : Int) > 4096
 ·rw [if_pos c2] at H
  have c2b0 : decide (4096 < (l0.length : Int)) = true := decide_eq_true c2
  have c2b1 : decide (4096 < l0.length) = true := decide_eq_true (by omega)
  clear c2
  obtain rfl := Option.some.inj H
  go_enter Tryd.func88, Tryd.ntmps88
  go_wp2
  go_ret
  exact ⟨by first | rfl | (simp; done) | (simp [*]; done), by repeat (first | exact Drawn0.refl _ | apply Drawn0.step)⟩
 rw [if_neg c2] at H
 have c2b0 : decide (4096 < (l0.length : Int)) = false := decide_eq_false c2
 have c2b1 : decide (4096 < l0.length) = false := decide_eq_false (by omega)
 clear c2
 have H' := aM H
 clear H
 go_enter Tryd.func88, Tryd.ntmps88
 go_wp2
 go_loopg [10] k (fun kq v10 w' => ∃ (x10_1 : Int), v10 = .int .i64 x10_1 ∧ Aside0 (merkle_leaves.l0 kq l0 (l0.length : Int) x10_1 = some r) ∧ Aside0 (kq ≤ k) ∧ Drawn0 w w')
 case atStart => exact ⟨(0), rfS, H', ⟨Nat.le_refl _⟩, by repeat (first | exact Drawn0.refl _ | apply Drawn0.step)⟩
 case round =>
  clear H'
  try clear c2
  try clear c2b0
  try clear c2b1
  obtain ⟨x10_1, rfl, HA, HK1, ⟨m1, rfl⟩⟩ := hrel
  cases gk with
  | zero => exact absurd HA.out (by simp [merkle_leaves.l0])
  | succ k1 =>
   have H := HA.out
   clear HA
   simp only [merkle_leaves.l0] at H
   by_cases c3 : x10_1 < (l0.length : Int)
   rotate_left
   ·rw [if_neg c3] at H
    have c3b0 : decide (x10_1 < (l0.length : Int)) = false := decide_eq_false c3
    clear c3
    obtain rfl := Option.some.inj H
    go_wp2
    go_ret
    exact ⟨by first | rfl | (simp; done) | (simp [*]; done), by repeat (first | exact Drawn0.refl _ | apply Drawn0.step)⟩

   rw [if_pos c3] at H
   have c3b0 : decide (x10_1 < (l0.length : Int)) = true := decide_eq_true c3
   clear c3
   by_cases c4 : 0 ≤ x10_1
   rotate_left
   ·rw [if_neg c4] at H
    exact absurd H (by simp)
   rw [if_pos c4] at H
   have c4b0 : decide (0 ≤ x10_1) = true := decide_eq_true c4
   clear c4
   by_cases c5 : x10_1 < (l0.length : Int)
   rotate_left
   ·rw [if_neg c5] at H
    exact absurd H (by simp)
   rw [if_pos c5] at H
   have c5b0 : decide (x10_1 < (l0.length : Int)) = true := decide_eq_true c5
   clear c5
   by_cases c6 : ((rd_L1 l0 x10_1).length : Int) = 32
   ·rw [if_pos c6] at H
    have c6b0 : (((rd_L1 l0 x10_1).length : Int) == 32) = true := beq_iff_eq.mpr c6
    have c6b1 : (((rd_L1 l0 x10_1).length : Int) != 32) = false := bne_eq_false_iff_eq.mpr c6
    clear c6
    have H' := aM H
    clear H
    have p114 : 0 ≤ (x10_1 : Int) := of_decide_eq_true asm_
    have q114 : x10_1 < (l0.length : Int) := of_decide_eq_true asm_
    obtain ⟨ad114, A114_0, c114_0, e114, hx114_0, hl114_0, hi114_0⟩ := at_L1 HR0.out x10_1 p114 q114
    cases e114
    have HR114_0 := aM hi114_0
    have HC114_0 := aM hl114_0
    clear hi114_0 hl114_0
    replace p114 := eq_true p114
    replace q114 := eq_true q114
    go_wp2
    go_roundg k1
    case measure => have := HK1.out; omega
    case rel => exact ⟨(wrap64 (x10_1 + 1)), rfS, H', ⟨by have := HK1.out; omega⟩, by repeat (first | exact Drawn0.refl _ | apply Drawn0.step)⟩
   rw [if_neg c6] at H
   have c6b0 : (((rd_L1 l0 x10_1).length : Int) == 32) = false := beq_eq_false_iff_ne.mpr c6
   have c6b1 : (((rd_L1 l0 x10_1).length : Int) != 32) = true := bne_iff_ne.mpr c6
   obtain rfl := Option.some.inj H
   have p114 : 0 ≤ (x10_1 : Int) := of_decide_eq_true asm_
   have q114 : x10_1 < (l0.length : Int) := of_decide_eq_true asm_
   obtain ⟨ad114, A114_0, c114_0, e114, hx114_0, hl114_0, hi114_0⟩ := at_L1 HR0.out x10_1 p114 q114
   cases e114
   have HR114_0 := aM hi114_0
   have HC114_0 := aM hl114_0
   clear hi114_0 hl114_0
   replace p114 := eq_true p114
   replace q114 := eq_true q114
   go_wp2
   go_ret
   exact ⟨by first | rfl | (simp; done) | (simp [*]; done), by repeat (first | exact Drawn0.refl _ | apply Drawn0.step)⟩
/-! ### merkle_half: function 90 -/
def merkle_half.f (a0 : Int) : Option (Int) := (bits_Len.f (IntKind.u64.wrap (wrap64 (a0 - 1)))).bind fun t115 => (if 0 ≤ (wrap64 (t115 - 1)) then (some (shl .i64 1 (wrap64 (t115 - 1)))) else (none))
set_option maxHeartbeats 8000000 in
set_option maxRecDepth 100000 in
theorem merkle_half.calls (a0 : Int) (r : Int) (w : World) (h : merkle_half.f a0 = some r) :
  Calls Tryd.prog 90 #[.int .i64 a0] w fun e w' => e = .returned (.int .i64 r) ∧ Below w.heap.size w w' := by
 have HB := aM (Below.refl w.heap.size w)
 have H : ((bits_Len.f (IntKind.u64.wrap (wrap64 (a0 - 1)))).bind fun t115 => (if 0 ≤ (wrap64 (t115 - 1)) then (some (shl .i64 1 (wrap64 (t115 - 1)))) else (none))) = some r := h
 clear h
 replace H := Option.bind_eq_some_iff.mp H
 obtain ⟨t115, A20, H⟩ := H
 replace H : (if 0 ≤ (wrap64 (t115 - 1)) then (some (shl .i64 1 (wrap64 (t115 - 1)))) else (none)) = some r := H
 have A2 := aM A20
 clear A20
 obtain ⟨ji3, hji3⟩ : ∃ j_ : Int, (wrap64 (t115 - 1)) = j_ := ⟨_, rfl⟩
 replace H : (if 0 ≤ (ji3) then (some (shl .i64 1 (ji3))) else (none)) = some r := by first | (rw [hji3] at H; exact H) | (simp only [hji3] at H ⊢; exact H)
 (try rw [hji3] at A2)
 have hji3w : (IntKind.i64.wrap (t115 - 1)) = ji3 := (i64_w _).trans hji3
 by_cases c4 : 0 ≤ (ji3)
 rotate_left
 ·rw [if_neg c4] at H
  exact absurd H (by simp)

 rw [if_pos c4] at H
 have c4b0 := eq_true c4
 have c4b1 : decide (0 ≤ (ji3)) = true := decide_eq_true c4
 clear c4
 obtain ⟨ji5, hji5⟩ : ∃ j_ : Int, (shl .i64 1 (ji3)) = j_ := ⟨_, rfl⟩
 replace H : (some ji5) = some r := by first | (rw [hji5] at H; exact H) | (simp only [hji5] at H ⊢; exact H)
 (try rw [hji5] at A2)
 have hji5_ : (IntKind.i64.wrap (1 * 2 ^ min (ji3).toNat 64)) = ji5 := hji5
 have hji5z : (ji3) ≤ 64 → (IntKind.i64.wrap (1 * 2 ^ (ji3).toNat)) = ji5 := shl_small hji5
 have hji5u : (IntKind.i64.wrap (2 ^ min (ji3).toNat 64)) = ji5 := by have h_ := hji5_; rw [Int.one_mul] at h_; exact h_
 have hji5v : (ji3) ≤ 64 → (IntKind.i64.wrap (2 ^ (ji3).toNat)) = ji5 := fun hle_ => by have h_ := hji5z hle_; rw [Int.one_mul] at h_; exact h_
 have hji5y : (wrap64 (1 * 2 ^ min (ji3).toNat 64)) = ji5 := (i64_w _).symm.trans hji5_
 have hji5x : (ji3) ≤ 64 → (wrap64 (1 * 2 ^ (ji3).toNat)) = ji5 := fun h_ => (i64_w _).symm.trans (hji5z h_)
 obtain rfl := Option.some.inj H
 go_enter Tryd.func90, Tryd.ntmps90
 go_wp2_with (first | ((with_reducible refine gate_callee (f := 120) rfl ?_); refine goesL_ (some 6) rfl rfl Tryd.func120 (by kernel_rfl) rfl #[.int .u64 (IntKind.u64.wrap (wrap64 (a0 - 1)))] rfl eqA ?_; (with_reducible refine (bits_Len.calls (IntKind.u64.wrap (wrap64 (a0 - 1))) t115 _ A2.out).mono ?_); rintro e w6 ⟨rfl, hb⟩; refine ⟨_, rfl, ?_⟩; replace HB := aM (below_step bel hb); clear hb))
 go_ret
 exact ⟨by first | rfl | (simp [errW_none, errW_some] <;> rfl) | (simp only [← hji3, ← hji5]; first | rfl | (simp [errW_none, errW_some] <;> rfl)) | (simp [*, errW_none, errW_some] <;> rfl), bel⟩
/-! ### merkle_top: function 91 -/
def merkle_top.f : Nat → List (List Int) → Option (List Int)
 | 0, _ => none
 | k + 1, l0 => if (l0.length : Int) = 1 then (if 0 < (l0.length : Int) then (some (rd_L1 l0 0)) else (none)) else ((merkle_half.f (l0.length : Int)).bind fun t117 => (if 0 ≤ t117 then (if t117 ≤ (l0.length : Int) then ((merkle_top.f k (l0.take (t117 : Int).toNat)).bind fun t123 => ((merkle_top.f k (l0.drop (t117 : Int).toNat)).bind fun t131 => ((merkle_digest.f 1 (([t123, t131] : List (List Int)))).bind fun t137 => (some t137)))) else (none)) else (none)))
theorem merkle_top.mono_l : ∀ k, (∀ y0, LeO (merkle_top.f k y0) (merkle_top.f (k + 1) y0))
 | 0 => fun _ r h => by simp [merkle_top.f] at h
 | k + 1 => by
  have ih0 := merkle_top.mono_l k
  intro y0
  unfold merkle_top.f
  repeat' first
  | (with_reducible exact ih0 _)
  | (with_reducible exact LeO.refl _)
  | (with_reducible exact LeO.none _)
  | (with_reducible refine LeO.ite ?_ ?_)
  | (with_reducible refine LeO.bind ?_ (fun _ => ?_))
theorem merkle_top.mono : ∀ a0 k, LeO (merkle_top.f k a0) (merkle_top.f (k + 1) a0) := by
 intro a0 k
 have ih0 := merkle_top.mono_l k
 exact ih0 a0
def merkle_top.T4 : Bool × List (List Nat × List Nat) := (true, [([], []), ([], []), ([0, 1], [0, 1]), ([2], [2]), ([], []), ([], []), ([4, 5], [4, 5]), ([6, 3], [6]), ([3, 7], [3, 7]), ([8, 7], [8]), ([9, 9, 0, 1, 2, 3, 4, 5, 6, 7, 8, 9], [9])])
def merkle_top.B4 : List Nat := [0, 0, 3, 7, 0, 0, 48, 127, 255, 511, 1023]
theorem merkle_top.tab4 : rtab .any (opsOf Tryd.f91 4) = merkle_top.T4 := by kernel_rfl
theorem merkle_top.bits4 : waitsOk merkle_top.T4.2 merkle_top.B4 = true := by kernel_rfl
set_option maxHeartbeats 8000000 in
set_option maxRecDepth 100000 in
theorem merkle_top.calls (k : Nat) : ∀ (P0_ : Nat → Prop) (A0 : Option Addr) (c0 : Nat) (l0 : List (List Int)) (r : List Int) (w : World) (HG : Glb w) (hs0 : Kd.V (Kd.slice 5 (Kd.int .u8)) 30 w w.heap.size (fun k_ => P0_ k_) (.slice A0 l0.length c0) l0) (h : merkle_top.f k l0 = some r),
  Calls Tryd.prog 91 #[.slice A0 l0.length c0] w fun e w' => ∃ v0_ : Value, e = .returned (v0_) ∧ Kd.V (Kd.int .u8) 5 w' w.heap.size (fun k_ => (P0_ k_ ∨ w.heap.size ≤ k_)) v0_ r ∧ Below w.heap.size w w' := by
 induction k using Nat.strongRecOn with
 | _ k ih =>
 intro P0_ A0 c0 l0 r w HG hs0 h
 cases k with
 | zero => exact absurd h (by simp [merkle_top.f])
 | succ k =>
 simp only [merkle_top.f] at h
 have HO0 := aM (show Kd.V (Kd.slice 5 (Kd.int .u8)) 30 w w.heap.size (fun k_ => (P0_ k_ ∨ w.heap.size ≤ k_)) (.slice A0 l0.length c0) l0 from Kd.V_mono hs0 (fun k_ hk => .inl hk))
 have HB := aM (Below.refl w.heap.size w)
 have H : (if (l0.length : Int) = 1 then (if 0 < (l0.length : Int) then (some (rd_L1 l0 0)) else (none)) else ((merkle_half.f (l0.length : Int)).bind fun t117 => (if 0 ≤ t117 then (if t117 ≤ (l0.length : Int) then ((merkle_top.f k (l0.take (t117 : Int).toNat)).bind fun t123 => ((merkle_top.f k (l0.drop (t117 : Int).toNat)).bind fun t131 => ((merkle_digest.f 1 (([t123, t131] : List (List Int)))).bind fun t137 => (some t137)))) else (none)) else (none)))) = some r := h
 clear h
 by_cases c2 : (l0.length : Int) = 1
 ·rw [if_pos c2] at H
  have c2b0 : ((l0.length : Int) == 1) = true := beq_iff_eq.mpr c2
  have c2b1 : ((l0.length : Int) != 1) = false := bne_eq_false_iff_eq.mpr c2
  clear c2
  by_cases c3 : 0 < (l0.length : Int)
  rotate_left
  ·rw [if_neg c3] at H
   exact absurd H (by simp)
  rw [if_pos c3] at H
  have c3b0 : decide (0 < (l0.length : Int)) = true := decide_eq_true c3
  have c3b1 : decide (0 < l0.length) = true := decide_eq_true (by omega)
  clear c3
  obtain rfl := Option.some.inj H
  have p116 : 0 ≤ (0 : Int) := (by omega)
  have q116 : 0 < (l0.length : Int) := of_decide_eq_true asm_
  obtain ⟨ad116, A116_0, c116_0, e116, hx116_0, hl116_0, hi116_0⟩ := at_L1 (Kd.V_reads' HO0.out).2.2 0 p116 q116
  cases e116
  obtain ⟨ce116, hce116, hMe116, hcc116⟩ := Kd.V_get HO0.out [] 0 p116 (by first | exact q116 | exact of_decide_eq_true asm_ | (have e_ := (Kd.V_reads' HO0.out).1; omega))
  obtain ⟨ua116_0, uc116_0, rfl, ul116_0, ge116_0⟩ := Kd.FK_slice_open hMe116
  have hv116_0 := hcc116 0 _ rfl
  rw [Nat.add_zero, show ((Kd.slice 5 (Kd.int .u8))).sz = 1 from rfl, Nat.mul_one] at hv116_0
  replace hv116_0 := Option.some.inj (hv116_0.symm.trans hx116_0)
  injection hv116_0 with hva_ hvn_ hvc_
  rw [hva_] at ge116_0
  rw [hvc_] at ul116_0
  have HL116_0 := aM (show Kd.V (Kd.int .u8) 5 _ w.heap.size _ _ (rd_L1 l0 0) from Kd.V_mk ul116_0 ge116_0)
  clear hva_ hvn_ hvc_ ge116_0 ul116_0
  clear hcc116 hce116
  have qi116 : (0 < l0.length) = True := eq_true (by omega)
  (try rw [show ((0 : Int)).toNat = 0 from rfl] at hx116_0)
  (try rw [Addr.add_zero'] at hx116_0)
  have HR116_0 := aM hi116_0
  have HC116_0 := aM hl116_0
  clear hi116_0 hl116_0
  replace p116 := eq_true p116
  replace q116 := eq_true q116
  go_enter Tryd.func91, Tryd.ntmps91
  go_wp2
  go_ret
  exact ⟨_, erR, by (with_reducible repeat (first | apply Kd.V_alloc | apply Kd.V_drewN | apply Kd.V_drew)); exact HL116_0.out, bel⟩
 rw [if_neg c2] at H
 have c2b0 : ((l0.length : Int) == 1) = false := beq_eq_false_iff_ne.mpr c2
 have c2b1 : ((l0.length : Int) != 1) = true := bne_iff_ne.mpr c2
 replace H := Option.bind_eq_some_iff.mp H
 obtain ⟨t117, A40, H⟩ := H
 replace H : (if 0 ≤ t117 then (if t117 ≤ (l0.length : Int) then ((merkle_top.f k (l0.take (t117 : Int).toNat)).bind fun t123 => ((merkle_top.f k (l0.drop (t117 : Int).toNat)).bind fun t131 => ((merkle_digest.f 1 (([t123, t131] : List (List Int)))).bind fun t137 => (some t137)))) else (none)) else (none)) = some r := H
 have A4 := aM A40
 clear A40
 by_cases c5 : 0 ≤ t117
 rotate_left
 ·rw [if_neg c5] at H
  exact absurd H (by simp)

 rw [if_pos c5] at H
 have c5b0 := eq_true c5
 have c5b1 : decide (0 ≤ t117) = true := decide_eq_true c5
 clear c5
 by_cases c6 : t117 ≤ (l0.length : Int)
 rotate_left
 ·rw [if_neg c6] at H
  exact absurd H (by simp)
 rw [if_pos c6] at H
 have c6b0 := eq_true c6
 have c6b1 : decide (t117 ≤ (l0.length : Int)) = true := decide_eq_true c6
 clear c6
 obtain ⟨y118, hy118⟩ : ∃ y_ : List (List Int), y_ = (l0.take (t117 : Int).toNat) := ⟨_, rfl⟩
 replace H : ((merkle_top.f k y118).bind fun t123 => ((merkle_top.f k (l0.drop (t117 : Int).toNat)).bind fun t131 => ((merkle_digest.f 1 (([t123, t131] : List (List Int)))).bind fun t137 => (some t137)))) = some r := hyA hy118 H
 have Ny118 := aM hy118
 clear hy118
 replace H := Option.bind_eq_some_iff.mp H
 obtain ⟨t123, A70, H⟩ := H
 replace H : ((merkle_top.f k (l0.drop (t117 : Int).toNat)).bind fun t131 => ((merkle_digest.f 1 (([t123, t131] : List (List Int)))).bind fun t137 => (some t137))) = some r := H
 have A7 := aM A70
 clear A70
 have c8b0 := eq_true (of_decide_eq_true asm_ : 0 ≤ t117)
 have c9b0 := eq_true (of_decide_eq_true asm_ : t117 ≤ (l0.length : Int))
 obtain ⟨y126, hy126⟩ : ∃ y_ : List (List Int), y_ = (l0.drop (t117 : Int).toNat) := ⟨_, rfl⟩
 replace H : ((merkle_top.f k y126).bind fun t131 => ((merkle_digest.f 1 (([t123, t131] : List (List Int)))).bind fun t137 => (some t137))) = some r := hyA hy126 H
 have Ny126 := aM hy126
 clear hy126
 replace H := Option.bind_eq_some_iff.mp H
 obtain ⟨t131, A100, H⟩ := H
 replace H : ((merkle_digest.f 1 (([t123, t131] : List (List Int)))).bind fun t137 => (some t137)) = some r := H
 have A10 := aM A100
 clear A100
 obtain ⟨y134, hy134⟩ : ∃ y_ : List (List Int), y_ = (([t123, t131] : List (List Int))) := ⟨_, rfl⟩
 replace H : ((merkle_digest.f 1 y134).bind fun t137 => (some t137)) = some r := hyA hy134 H
 have Ny134 := aM hy134
 clear hy134
 replace H := Option.bind_eq_some_iff.mp H
 obtain ⟨t137, A110, H⟩ := H
 replace H : (some t137) = some r := H
 have A11 := aM A110
 clear A110
 obtain rfl := Option.some.inj H
 go_enter Tryd.func91, Tryd.ntmps91
 try go_wp2_with (first | ((with_reducible refine gate_callee (f := 90) rfl ?_); refine goesL_ (some 12) rfl rfl Tryd.func90 (by kernel_rfl) rfl #[.int .i64 (l0.length : Int)] rfl eqA ?_; (with_reducible refine (merkle_half.calls (l0.length : Int) t117 _ A4.out).mono ?_); rintro e w12 ⟨rfl, hb⟩; refine ⟨_, rfl, ?_⟩; replace HO0 := aM (Kd.V_below (vL HO0.out) hb); replace HB := aM (below_step bel hb); clear hb))
 replace HO0 := aM (Kd.V_drew HO0.out)
 replace HB := aM (below_drew1 HB.out)
 have q14 : (t117 : Int) ≤ ((l0.length : Int) : Int) := of_decide_eq_true asm_
 obtain ⟨i014, hi014, _, hsz14, _⟩ := info_parts info30
 have hroom14 : l0.length ≤ c0 := (Kd.V_reads' HO0.out).2.1
 have hC14 : Kd.F (Kd.slice 5 (Kd.int .u8)) _ _ A0 l0.length l0 := (Kd.V_at (base := w.heap.size) HO0.out).2.2
 have hcut14 := cut_to (P := Tryd.prog) 22 30 .i64 Tryd.underlying22 hi014 A0 l0.length c0 t117 (of_decide_eq_true asm_) q14 hroom14
 have hr14 := Kd.F_take (m := (t117 : Int).toNat) hC14 (by omega)
 have hy14 : y118.length = (t117 : Int).toNat := (by rw [Ny118.out, List.length_take]; omega)
 rw [← Ny118.out] at hr14
 rw [← hy14] at hcut14
 have HO122 := aM (show Kd.V (Kd.slice 5 (Kd.int .u8)) 30 _ w.heap.size _ (.slice A0 y118.length c0) y118 from Kd.V_mk (by omega) hr14)
 have HC122 := aM (show y118.length ≤ c0 from by omega)
 clear hr14 hC14 hroom14 hi014 hsz14
 have KY14 := aM hy14
 clear hy14
 replace q14 := eq_true q14
 have q15 : (t117 : Int) ≤ ((l0.length : Int) : Int) := of_decide_eq_true asm_
 obtain ⟨i015, hi015, _, hsz15, _⟩ := info_parts info30
 have hroom15 : l0.length ≤ c0 := (Kd.V_reads' HO0.out).2.1
 have hC15 : Kd.F (Kd.slice 5 (Kd.int .u8)) _ _ A0 l0.length l0 := (Kd.V_at (base := w.heap.size) HO0.out).2.2
 have q015 : (0 : Int) ≤ (t117 : Int) := of_decide_eq_true asm_
 have hcut15 := cut_from (P := Tryd.prog) 22 30 .i64 Tryd.underlying22 hi015 1 hsz15 A0 l0.length c0 t117 q015 q15
 have hr15 := Kd.F_cut (m := (t117 : Int).toNat) (c := c0) hC15 (by omega) hroom15
 obtain ⟨A15, hA15⟩ : ∃ A1, A1 = (if c0 = (t117 : Int).toNat then A0 else (A0 : Option Addr).map (·.add ((t117 : Int).toNat * 1))) := ⟨_, rfl⟩
 obtain ⟨c15, hc15⟩ : ∃ c1, c1 = c0 - (t117 : Int).toNat := ⟨_, rfl⟩
 have hy15 : y126.length = l0.length - (t117 : Int).toNat := (by rw [Ny126.out, List.length_drop] <;> omega)
 rw [show (l0).drop (t117 : Int).toNat = y126 from Ny126.out.symm] at hr15
 replace hr15 : Kd.F (Kd.slice 5 (Kd.int .u8)) _ _ A15 y126.length y126 := (by rw [hA15]; exact hr15)
 rw [← hy15, ← hA15, ← hc15] at hcut15
 have HO130 := aM (show Kd.V (Kd.slice 5 (Kd.int .u8)) 30 _ w.heap.size _ (.slice A15 y126.length c15) y126 from Kd.V_mk (by rw [hy15, hc15]; exact Nat.sub_le_sub_right hroom15 _) hr15)
 have HC130 := aM (show y126.length ≤ c15 from by rw [hy15, hc15]; exact Nat.sub_le_sub_right hroom15 _)
 clear hr15 hC15 hroom15 hi015 hsz15 hc15
 have KY15 := aM hy15
 have KA15 := aM hA15
 clear hy15 hA15
 replace q15 := eq_true q15
 refine start_ (n := 11) (S := fun w' => True) (ds := []) (fl 11 0) (by kernel_rfl) rfl rfl trivial (fun hHeld => ?_); refine with_tabW merkle_top.tab4 merkle_top.bits4 (fun HT_ HW_ => ?_)
 generalize w12.drew = w13 at HO0 HB HO122 HO130 hHeld ⊢
 refine pB 0 13 11 1 ?_
 refine pB 1 14 11 3 ?_
 refine pB 2 15 11 7 ?_
 refine pB 4 17 11 23 ?_
 refine pB 5 18 11 55 ?_
 refine pB 6 19 11 119 ?_
 refine one_ (i := 3) (N := some 16) (fl 11 127) rfl rfl (one_of HT_.out (by kernel_rfl)) (by decide) (fun K hK => ?_)
 refine goes_ Tryd.func91 (by kernel_rfl) rfl #[.slice A0 y118.length c0] (by rfl) rfl rfl eqA ?_
 with_reducible refine (ih k (by omega) (fun k_ => (P0_ k_ ∨ w.heap.size ≤ k_)) _ _ y118 t123 _ (Glb.of HG bel) ?side1 A7.out).mono ?_
 (case side1 => exact HO122.out)
 rintro e w16 ⟨v124, rfl, ho0, hb⟩
 refine ⟨_, rfl, ?_⟩
 replace HO0 := aM (Kd.V_below (vL HO0.out) hb)
 replace HO122 := aM (Kd.V_below (vL HO122.out) hb)
 replace HO130 := aM (Kd.V_below (vL HO130.out) hb)
 have HO125 := aM (Kd.V_lower (Kd.V_mono (ok' := fun k_ => (P0_ k_ ∨ w.heap.size ≤ k_)) ho0 (fun k_ hk_ => Or.elim hk_ (fun hs_ => hs_) (fun hn_ => (.inr (Nat.le_trans (below_size bel) hn_))))) (below_size bel))
 replace HB := aM (below_step bel hb)
 (try clear hb)
 (try clear hb2)
 (try clear hk)
 (try clear hi)
 (try clear ho0)
 refine hK.out _ _ trivial (fun hHeld => ?_)
 clear hK K
 refine normA (some 16) ?_
 refine one_ (i := 7) (N := some 20) (fl 11 255) rfl rfl (one_of HT_.out (by kernel_rfl)) (by decide) (fun K hK => ?_)
 refine goes_ Tryd.func91 (by kernel_rfl) rfl #[.slice A15 y126.length c15] (by rfl) rfl rfl eqA ?_
 with_reducible refine (ih k (by omega) (fun k_ => (P0_ k_ ∨ w.heap.size ≤ k_)) _ _ y126 t131 _ (Glb.of HG bel) ?side1 A10.out).mono ?_
 (case side1 => exact HO130.out)
 rintro e w17 ⟨v132, rfl, ho0, hb⟩
 refine ⟨_, rfl, ?_⟩
 replace HO0 := aM (Kd.V_below (vL HO0.out) hb)
 replace HO122 := aM (Kd.V_below (vL HO122.out) hb)
 replace HO130 := aM (Kd.V_below (vL HO130.out) hb)
 replace HO125 := aM (Kd.V_below (vL HO125.out) hb)
 have HO133 := aM (Kd.V_lower (Kd.V_mono (ok' := fun k_ => (P0_ k_ ∨ w.heap.size ≤ k_)) ho0 (fun k_ hk_ => Or.elim hk_ (fun hs_ => hs_) (fun hn_ => (.inr (Nat.le_trans (below_size bel) hn_))))) (below_size bel))
 replace HB := aM (below_step bel hb)
 (try clear hb)
 (try clear hb2)
 (try clear hk)
 (try clear hi)
 (try clear ho0)
 obtain ⟨Ao18, co18, eo18⟩ := Kd.V_slice HO125.out
 (first | subst eo18 | (injection eo18 with f1_ f2_ f3_; have f4_ := f1_.symm; have f5_ := f3_.symm; clear f1_ f2_ f3_; subst f4_; subst f5_))
 obtain ⟨Ao19, co19, eo19⟩ := Kd.V_slice HO133.out
 (first | subst eo19 | (injection eo19 with f1_ f2_ f3_; have f4_ := f1_.symm; have f5_ := f3_.symm; clear f1_ f2_ f3_; subst f4_; subst f5_))
 refine hK.out _ _ trivial (fun hHeld => ?_)
 clear hK K
 refine normA (some 20) ?_
 refine one_ (i := 8) (N := some 21) (fl 11 511) rfl rfl (one_of HT_.out (by kernel_rfl)) (by decide) (fun K hK => ?_)
 refine Kd.N_lit_step (Kd.slice 5 (Kd.int .u8)) _ 30 ?hg (N' := 21) ?hd (xs := ([t123, t131] : List (List Int))) (inner := [.slice Ao18 t123.length co18, .slice Ao19 t131.length co19]) (ok := (fun k_ => (P0_ k_ ∨ w.heap.size ≤ k_))) (okp := (fun k_ => (P0_ k_ ∨ w.heap.size ≤ k_))) ?hr ?hp (fun _ hk => hk) ((show ∀ k_, w17.heap.size ≤ k_ → (fun k_ => (P0_ k_ ∨ w.heap.size ≤ k_)) k_ from fun k_ hk => (.inr (Nat.le_trans (below_size bel) hk))) _ (Nat.le_refl _)) (Below.refl _ _) (Nat.le_refl _) (by simp) ?_; (case hd => rfl); (case hg => rfl); (case hr => first | (go_simp; done) | (go_simp; rfl)); (case hp => exact (Reps.one (show Kd.FK (Kd.slice 5 (Kd.int .u8)) _ _ t123 [.slice Ao18 t123.length co18] from (Kd.FK_slice_mk (Kd.V_reads' (Kd.V_mono (ok' := (fun k_ => (P0_ k_ ∨ w.heap.size ≤ k_))) (HO125.out) (fun k_ hk => hk))).2.1 (Kd.V_F (Kd.V_mono (ok' := (fun k_ => (P0_ k_ ∨ w.heap.size ≤ k_))) (HO125.out) (fun k_ hk => hk))))) (Reps.one (show Kd.FK (Kd.slice 5 (Kd.int .u8)) _ _ t131 [.slice Ao19 t131.length co19] from (Kd.FK_slice_mk (Kd.V_reads' (Kd.V_mono (ok' := (fun k_ => (P0_ k_ ∨ w.heap.size ≤ k_))) (HO133.out) (fun k_ hk => hk))).2.1 (Kd.V_F (Kd.V_mono (ok' := (fun k_ => (P0_ k_ ∨ w.heap.size ≤ k_))) (HO133.out) (fun k_ hk => hk))))) (Reps.none _ _))))
 intro v135 w20 ho21 hb hg_ hnew_
 clear hg_ hnew_
 (first | rw [← Ny134.out] at ho21 | (simp only [Int.reduceToNat] at ho21; rw [← Ny134.out] at ho21))
 replace HO0 := aM (Kd.V_elder' (vL HO0.out) (Kd.N_base ho21) hb)
 replace HO122 := aM (Kd.V_elder' (vL HO122.out) (Kd.N_base ho21) hb)
 replace HO130 := aM (Kd.V_elder' (vL HO130.out) (Kd.N_base ho21) hb)
 replace HO125 := aM (Kd.V_elder' (vL HO125.out) (Kd.N_base ho21) hb)
 replace HO133 := aM (Kd.V_elder' (vL HO133.out) (Kd.N_base ho21) hb)
 have HO136 := aM (Kd.N_lower ho21 (below_size bel))
 replace HB := aM (below_step bel hb)
 clear hb ho21
 obtain ⟨Ao22, co22, eo22⟩ := Kd.N_slice HO136.out
 (first | subst eo22 | (injection eo22 with f1_ f2_ f3_; have f4_ := f1_.symm; have f5_ := f3_.symm; clear f1_ f2_ f3_; subst f4_; subst f5_))
 refine hK.out _ _ trivial (fun hHeld => ?_)
 clear hK K
 refine normA (some 21) ?_
 refine one_ (i := 9) (N := some 22) (fl 11 1023) rfl rfl (one_of HT_.out (by kernel_rfl)) (by decide) (fun K hK => ?_)
 refine goes_ Tryd.func77 (by kernel_rfl) rfl #[.int .u8 1, .slice Ao22 y134.length co22] (by rfl) rfl rfl eqA ?_
 with_reducible refine (merkle_digest.calls 1 _ _ y134 t137 _ (Glb.of HG bel) ?side1 ?side2 A11.out).mono ?_
 (case side1 => exact cL (Kd.N_reads' HO136.out).2.2)
 (case side2 => exact (Kd.N_reads' HO136.out).2.1)
 rintro e w23 ⟨v138, rfl, ho0, hb⟩
 refine ⟨_, rfl, ?_⟩
 replace HO0 := aM (Kd.V_elder' (vL HO0.out) (Kd.R_base ho0) hb)
 replace HO122 := aM (Kd.V_elder' (vL HO122.out) (Kd.R_base ho0) hb)
 replace HO130 := aM (Kd.V_elder' (vL HO130.out) (Kd.R_base ho0) hb)
 replace HO125 := aM (Kd.V_elder' (vL HO125.out) (Kd.R_base ho0) hb)
 replace HO133 := aM (Kd.V_elder' (vL HO133.out) (Kd.R_base ho0) hb)
 replace HO136 := aM (Kd.N_elder' (nL HO136.out) (Kd.R_base ho0) hb)
 have HO139 := aM (Kd.R_lower (Kd.R_newM (M := fun k_ => (w.heap.size ≤ k_)) ho0 (below_size bel) (fun k_ h_ => h_)) (below_size bel))
 replace HB := aM (below_step bel hb)
 (try clear hb)
 (try clear hb2)
 (try clear hk)
 (try clear hi)
 (try clear ho0)
 refine hK.out _ _ trivial (fun hHeld => ?_)
 clear hK K
 refine normA (some 22) ?_
 refine pB 10 2 11 2047 ?_
 refine done_ (done_of HT_.out (by kernel_rfl)) ?_
 try go_wp2
 go_ret
 exact ⟨_, erR, Kd.V_mono (Kd.R_V (by (with_reducible repeat (first | apply Kd.R_alloc | apply Kd.R_drewN | apply Kd.R_drew)); exact Kd.R_mono HO139.out (fun _ hk => hk.1))) (fun k_ hk => by first | exact ⟨(.inr (hk.1)), hk.2⟩ | exact (.inr (hk))), bel⟩
end Go.Proofs.YtbenedckmapjoaaDoor.PCut
