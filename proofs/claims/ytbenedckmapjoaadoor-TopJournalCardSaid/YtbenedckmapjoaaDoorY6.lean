/- Several texts as one. -/
import Derived.Test.YtbenedckmapjoaaDoorFf
namespace Go.Proofs.YtbenedckmapjoaaDoor.F
open Go.RowKit Go.Proofs.YtbenedckmapjoaaDoor.H Go.Proofs.YtbenedckmapjoaaDoorW.PrintWords Go.Proofs.YtbenedckmapjoaaDoorW.PrintLast Go.Proofs.YtbenedckmapjoaaDoorW.PrintMore
set_option linter.unusedVariables false
set_option linter.unusedSimpArgs false
/-- The limbs of a number. -/
def enc (n : Int) : List Int := [n % 2251799813685248, n / 2251799813685248 % 2251799813685248, n / 5070602400912917605986812821504 % 2251799813685248, n / 11417981541647679048466287755595961091061972992 % 2251799813685248, n / 25711008708143844408671393477458601640355247900524685364822016]
theorem enc_val (n : Int) : val (enc n) = n := by unfold enc; rw [val5]; omega
theorem enc_lb {n : Int} (h0 : 0 ≤ n) (h1 : n < PP) : Lb 2251799813685248 (enc n) := by
  unfold PP at h1
  exact Lb.mk5 (by decide) (by omega) (by omega) (by omega) (by omega) (by omega)
theorem enc_w5 {n : Int} (h0 : 0 ≤ n) (h1 : n < PP) : W5 (enc n) := (enc_lb h0 h1).w5 (by decide)
theorem lb_enc {x : List Int} (h : Lb 2251799813685248 x) : x = enc (val x) := by
  obtain ⟨a, b, c, d, e, rfl⟩ := five h.1
  have ha : 0 ≤ a ∧ a < 2251799813685248 := h.2 0
  have hb : 0 ≤ b ∧ b < 2251799813685248 := h.2 1
  have hc : 0 ≤ c ∧ c < 2251799813685248 := h.2 2
  have hd : 0 ≤ d ∧ d < 2251799813685248 := h.2 3
  have he : 0 ≤ e ∧ e < 2251799813685248 := h.2 4
  obtain ⟨n, hn⟩ : ∃ n, n = val [a, b, c, d, e] := ⟨_, rfl⟩
  rw [← hn]
  rw [val5] at hn
  have e4 : n / 25711008708143844408671393477458601640355247900524685364822016 = e := by omega
  have e3 : n / 11417981541647679048466287755595961091061972992 % 2251799813685248 = d := by omega
  have e2 : n / 5070602400912917605986812821504 % 2251799813685248 = c := by omega
  have e1 : n / 2251799813685248 % 2251799813685248 = b := by omega
  have e0 : n % 2251799813685248 = a := by omega
  unfold enc
  rw [e0, e1, e2, e3, e4]
theorem val_nonneg {x : List Int} {B : Int} (h : Lb B x) : 0 ≤ val x := by
  obtain ⟨a, b, c, d, e, rfl⟩ := five h.1
  have ha : 0 ≤ a := (h.2 0).1
  have hb : 0 ≤ b := (h.2 1).1
  have hc : 0 ≤ c := (h.2 2).1
  have hd : 0 ≤ d := (h.2 3).1
  have he : 0 ≤ e := (h.2 4).1
  rw [val5]
  omega
theorem mod_of {a b : Int} (h : ∃ q, a = b + PP * q) : a % PP = b % PP := by
  obtain ⟨q, rfl⟩ := h
  exact Int.add_mul_emod_self_left _ _ _
theorem mod_lt (a : Int) : 0 ≤ a % PP ∧ a % PP < PP := ⟨Int.emod_nonneg _ (by decide), Int.emod_lt_of_pos _ (by decide)⟩
theorem red_eq {x : List Int} (h : W5 x) : red x = enc (val x % PP) := by
  obtain ⟨⟨h1, h2⟩, h3⟩ := red_ok h
  rw [mod_of h3, Int.emod_eq_of_lt (val_nonneg h1) h2]
  exact lb_enc h1
theorem mul_mod {x y x2 y2 : List Int} (hx : ∃ q, val x = val x2 + PP * q) (hy : ∃ q, val y = val y2 + PP * q) : val x * val y % PP = val x2 * val y2 % PP := by
  rw [Int.mul_emod, mod_of hx, mod_of hy, ← Int.mul_emod]
theorem Mul_n (x y : List Int) (hx : W5 x) (hy : W5 y) (w : World) :
    Calls Tryd.prog 57 #[.agg (cells64 x), .agg (cells64 y)] w fun e w' => e = .returned (.agg (cells64 (enc (val x * val y % PP)))) ∧ Below w.heap.size w w' := by
  have hx2 := wk2_ok hx
  have hy2 := wk2_ok hy
  have hm := mulL_ok hx2.1.1 hy2.1.1 (hx2.1.lim (by decide)) (hy2.1.lim (by decide))
  have h := Mul_c x y hx hy w
  rw [red_eq (hm.1.w5 (by decide)), ← mod_of hm.2, ← mul_mod hx2.2 hy2.2] at h
  exact h
theorem adS_raw (a0 a1 a2 a3 a4 b0 b1 b2 b3 b4 : Int) : adS [a0, a1, a2, a3, a4] [b0, b1, b2, b3, b4] 5 = [IntKind.u64.wrap (a0 + b0), IntKind.u64.wrap (a1 + b1), IntKind.u64.wrap (a2 + b2), IntKind.u64.wrap (a3 + b3), IntKind.u64.wrap (a4 + b4)] := rfl
theorem adS_ok {x y : List Int} (hx : Lb 2251799813685268 x) (hy : Lb 2251799813685268 y) : W5 (adS x y 5) ∧ val (adS x y 5) = val x + val y := by
  obtain ⟨a0, a1, a2, a3, a4, rfl⟩ := five hx.1
  obtain ⟨b0, b1, b2, b3, b4, rfl⟩ := five hy.1
  have c0 : 0 ≤ a0 ∧ a0 < 2251799813685268 := hx.2 0
  have c1 : 0 ≤ a1 ∧ a1 < 2251799813685268 := hx.2 1
  have c2 : 0 ≤ a2 ∧ a2 < 2251799813685268 := hx.2 2
  have c3 : 0 ≤ a3 ∧ a3 < 2251799813685268 := hx.2 3
  have c4 : 0 ≤ a4 ∧ a4 < 2251799813685268 := hx.2 4
  have d0 : 0 ≤ b0 ∧ b0 < 2251799813685268 := hy.2 0
  have d1 : 0 ≤ b1 ∧ b1 < 2251799813685268 := hy.2 1
  have d2 : 0 ≤ b2 ∧ b2 < 2251799813685268 := hy.2 2
  have d3 : 0 ≤ b3 ∧ b3 < 2251799813685268 := hy.2 3
  have d4 : 0 ≤ b4 ∧ b4 < 2251799813685268 := hy.2 4
  have k : ∀ u v : Int, 0 ≤ u → u < 2251799813685268 → 0 ≤ v → v < 2251799813685268 → IntKind.u64.wrap (u + v) = u + v := fun u v _ _ _ _ => by rw [wr64]; omega
  rw [adS_raw, k _ _ c0.1 c0.2 d0.1 d0.2, k _ _ c1.1 c1.2 d1.1 d1.2, k _ _ c2.1 c2.2 d2.1 d2.2, k _ _ c3.1 c3.2 d3.1 d3.2, k _ _ c4.1 c4.2 d4.1 d4.2]
  refine ⟨W5.mk5 (B := 18446744073709551616) (by decide) (by omega) (by omega) (by omega) (by omega) (by omega), ?_⟩
  rw [val5, val5, val5]
  omega
theorem sbS_raw (a0 a1 a2 a3 a4 b0 b1 b2 b3 b4 : Int) : sbS (fpS [a0, a1, a2, a3, a4] 4) [b0, b1, b2, b3, b4] 5 = [IntKind.u64.wrap (IntKind.u64.wrap (a0 + 9007199254740916) - b0), IntKind.u64.wrap (IntKind.u64.wrap (a1 + 9007199254740988) - b1), IntKind.u64.wrap (IntKind.u64.wrap (a2 + 9007199254740988) - b2), IntKind.u64.wrap (IntKind.u64.wrap (a3 + 9007199254740988) - b3), IntKind.u64.wrap (IntKind.u64.wrap (a4 + 9007199254740988) - b4)] := rfl
theorem sbS_ok {x y : List Int} (hx : Lb 2251799813685268 x) (hy : Lb 2251799813685268 y) : W5 (sbS (fpS x 4) y 5) ∧ val (sbS (fpS x 4) y 5) = val x - val y + PP * 4 := by
  obtain ⟨a0, a1, a2, a3, a4, rfl⟩ := five hx.1
  obtain ⟨b0, b1, b2, b3, b4, rfl⟩ := five hy.1
  have c0 : 0 ≤ a0 ∧ a0 < 2251799813685268 := hx.2 0
  have c1 : 0 ≤ a1 ∧ a1 < 2251799813685268 := hx.2 1
  have c2 : 0 ≤ a2 ∧ a2 < 2251799813685268 := hx.2 2
  have c3 : 0 ≤ a3 ∧ a3 < 2251799813685268 := hx.2 3
  have c4 : 0 ≤ a4 ∧ a4 < 2251799813685268 := hx.2 4
  have d0 : 0 ≤ b0 ∧ b0 < 2251799813685268 := hy.2 0
  have d1 : 0 ≤ b1 ∧ b1 < 2251799813685268 := hy.2 1
  have d2 : 0 ≤ b2 ∧ b2 < 2251799813685268 := hy.2 2
  have d3 : 0 ≤ b3 ∧ b3 < 2251799813685268 := hy.2 3
  have d4 : 0 ≤ b4 ∧ b4 < 2251799813685268 := hy.2 4
  have k0 : ∀ u v : Int, 0 ≤ u → u < 2251799813685268 → 0 ≤ v → v < 2251799813685268 → IntKind.u64.wrap (IntKind.u64.wrap (u + 9007199254740916) - v) = u + 9007199254740916 - v := fun u v _ _ _ _ => by rw [wr64, wr64]; omega
  have k : ∀ u v : Int, 0 ≤ u → u < 2251799813685268 → 0 ≤ v → v < 2251799813685268 → IntKind.u64.wrap (IntKind.u64.wrap (u + 9007199254740988) - v) = u + 9007199254740988 - v := fun u v _ _ _ _ => by rw [wr64, wr64]; omega
  rw [sbS_raw, k0 _ _ c0.1 c0.2 d0.1 d0.2, k _ _ c1.1 c1.2 d1.1 d1.2, k _ _ c2.1 c2.2 d2.1 d2.2, k _ _ c3.1 c3.2 d3.1 d3.2, k _ _ c4.1 c4.2 d4.1 d4.2]
  refine ⟨W5.mk5 (B := 18446744073709551616) (by decide) (by omega) (by omega) (by omega) (by omega) (by omega), ?_⟩
  rw [val5, val5, val5]
  unfold PP
  omega
theorem Add_n (x y : List Int) (hx : W5 x) (hy : W5 y) (w : World) :
    Calls Tryd.prog 56 #[.agg (cells64 x), .agg (cells64 y)] w fun e w' => e = .returned (.agg (cells64 (enc ((val x + val y) % PP)))) ∧ Below w.heap.size w w' := by
  have hx2 := wk2_ok hx
  have hy2 := wk2_ok hy
  have hm := adS_ok hx2.1 hy2.1
  have h := Add_c x y hx hy w
  rw [red_eq hm.1, hm.2, Int.add_emod, ← mod_of hx2.2, ← mod_of hy2.2, ← Int.add_emod] at h
  exact h
theorem Sub_n (x y : List Int) (hx : W5 x) (hy : W5 y) (w : World) :
    Calls Tryd.prog 54 #[.agg (cells64 x), .agg (cells64 y)] w fun e w' => e = .returned (.agg (cells64 (enc ((val x - val y) % PP)))) ∧ Below w.heap.size w w' := by
  have hx2 := wk2_ok hx
  have hy2 := wk2_ok hy
  have hm := sbS_ok hx2.1 hy2.1
  have h := Sub_c x y hx hy w
  rw [red_eq hm.1, hm.2, Int.add_mul_emod_self_left, Int.sub_emod, ← mod_of hx2.2, ← mod_of hy2.2, ← Int.sub_emod] at h
  exact h
/-- The same of small elements. -/
abbrev Nm (n : Int) : Value := .agg (cells64 (enc n))
theorem FMul (a b : Int) (ha : 0 ≤ a ∧ a < PP) (hb : 0 ≤ b ∧ b < PP) (w : World) : Calls Tryd.prog 57 #[Nm a, Nm b] w fun e w' => e = .returned (Nm (a * b % PP)) ∧ Below w.heap.size w w' := by
  have h := Mul_n (enc a) (enc b) (enc_w5 ha.1 ha.2) (enc_w5 hb.1 hb.2) w
  rw [enc_val, enc_val] at h
  exact h
theorem FAdd (a b : Int) (ha : 0 ≤ a ∧ a < PP) (hb : 0 ≤ b ∧ b < PP) (w : World) : Calls Tryd.prog 56 #[Nm a, Nm b] w fun e w' => e = .returned (Nm ((a + b) % PP)) ∧ Below w.heap.size w w' := by
  have h := Add_n (enc a) (enc b) (enc_w5 ha.1 ha.2) (enc_w5 hb.1 hb.2) w
  rw [enc_val, enc_val] at h
  exact h
theorem FSub (a b : Int) (ha : 0 ≤ a ∧ a < PP) (hb : 0 ≤ b ∧ b < PP) (w : World) : Calls Tryd.prog 54 #[Nm a, Nm b] w fun e w' => e = .returned (Nm ((a - b) % PP)) ∧ Below w.heap.size w w' := by
  have h := Sub_n (enc a) (enc b) (enc_w5 ha.1 ha.2) (enc_w5 hb.1 hb.2) w
  rw [enc_val, enc_val] at h
  exact h
end Go.Proofs.YtbenedckmapjoaaDoor.F
namespace Go.Proofs.YtbenedckmapjoaaDoor.F
open Go.RowKit Go.Proofs.YtbenedckmapjoaaDoor.H Go.Proofs.YtbenedckmapjoaaDoorW.PrintWords Go.Proofs.YtbenedckmapjoaaDoorW.PrintLast Go.Proofs.YtbenedckmapjoaaDoorW.PrintMore
set_option linter.unusedVariables false
set_option linter.unusedSimpArgs false
theorem size_enc (n : Int) : (cells64 (enc n)).size = 5 := rfl
set_option maxRecDepth 100000 in
set_option maxHeartbeats 4000000 in
theorem FSquare (a : Int) (ha : 0 ≤ a ∧ a < PP) (w : World) : Calls Tryd.prog 52 #[Nm a] w fun e w' => e = .returned (Nm (a * a % PP)) ∧ Below w.heap.size w w' := by
  have K := Aside0.mk (FMul a a ha ha)
  obtain ⟨r, hr⟩ : ∃ r, r = a * a % PP := ⟨_, rfl⟩
  rw [← hr] at K ⊢
  obtain ⟨x, hx⟩ : ∃ x, x = enc a := ⟨_, rfl⟩
  obtain ⟨y, hy⟩ : ∃ y, y = enc r := ⟨_, rfl⟩
  have hxs : (cells64 x).size = 5 := by rw [hx]; rfl
  have hys : (cells64 y).size = 5 := by rw [hy]; rfl
  unfold Nm at K ⊢
  rw [← hx, ← hy] at K
  rw [← hx, ← hy]
  have HX := Lib.hid (And.intro hxs hys)
  clear ha hr hx hy hxs hys
  go_enter Tryd.func52, Tryd.ntmps52
  go_wp2_with (first
    | (refine wpList_load_row rfl 50 (.tmp 1) rfl w.heap.size (by rfl) 50 (cells64 x) (0, 0) _ (blk_alloc (new1 _ _) _) Tryd.underlying50 rfl (by rw [HX.out.1]; exact info5) ?_)
    | (go_at_call 57; refine (K.out _).mono ?_; rintro e w3 ⟨rfl, hb3⟩; have B3 := Aside0.mk (And.intro (blk_below (new2 w (.cells (cells64 x) 50) (.cells (cells64 [0, 0, 0, 0, 0]) 50)) hb3) (below_step (below_alloc (below_alloc (Below.refl _ _) _) _) hb3)); clear hb3)
    | (refine wpList_store_row rfl 50 (.tmp 2) (.tmp 5) rfl (w.heap.size + 1) (cells64 y) (by rfl) (by rfl) 50 (cells64 [0, 0, 0, 0, 0]) B3.out.1 (by rw [HX.out.2]; exact info5) (by rw [HX.out.2]; rfl) (ones64 _) ?_))
  refine bodyPost_ret (v := .agg (cells64 y)) (results_cell_row (by rfl) _ _ (w.heap.size + 1) 50 (cells64 y) (0, 0) _ (by rfl) (setRow_heap _ _ _ _ _ _ B3.out.1) Tryd.underlying50 rfl (by rw [HX.out.2]; exact info5)) rfl ⟨rfl, below_setRow B3.out.2 (by omega) _⟩
set_option maxRecDepth 100000 in
set_option maxHeartbeats 4000000 in
theorem FNeg (a : Int) (ha : 0 ≤ a ∧ a < PP) (w : World) : Calls Tryd.prog 58 #[Nm a] w fun e w' => e = .returned (Nm ((0 - a) % PP)) ∧ Below w.heap.size w w' := by
  have K := Aside0.mk (FSub 0 a (by decide) ha)
  obtain ⟨r, hr⟩ : ∃ r, r = (0 - a) % PP := ⟨_, rfl⟩
  rw [← hr] at K ⊢
  obtain ⟨x, hx⟩ : ∃ x, x = enc a := ⟨_, rfl⟩
  obtain ⟨y, hy⟩ : ∃ y, y = enc r := ⟨_, rfl⟩
  have hxs : (cells64 x).size = 5 := by rw [hx]; rfl
  have hys : (cells64 y).size = 5 := by rw [hy]; rfl
  unfold Nm at K ⊢
  rw [show enc 0 = [0, 0, 0, 0, 0] by decide, show cells64 [0, 0, 0, 0, 0] = #[.int .u64 0, .int .u64 0, .int .u64 0, .int .u64 0, .int .u64 0] from rfl] at K
  rw [← hx, ← hy] at K
  rw [← hx, ← hy]
  have HX := Lib.hid (And.intro hxs hys)
  clear ha hr hx hy hxs hys
  go_enter Tryd.func58, Tryd.ntmps58
  go_wp2_with (first
    | (refine wpList_load_row rfl 50 (.tmp 1) rfl w.heap.size (by rfl) 50 (cells64 x) (0, 0) _ (blk_alloc (new1 _ _) _) Tryd.underlying50 rfl (by rw [HX.out.1]; exact info5) ?_)
    | (go_at_call 54; refine (K.out _).mono ?_; rintro e w3 ⟨rfl, hb3⟩; have B3 := Aside0.mk (And.intro (blk_below (new2 w (.cells (cells64 x) 50) (.cells (cells64 [0, 0, 0, 0, 0]) 50)) hb3) (below_step (below_alloc (below_alloc (Below.refl _ _) _) _) hb3)); clear hb3)
    | (refine wpList_store_row rfl 50 (.tmp 2) (.tmp 5) rfl (w.heap.size + 1) (cells64 y) (by rfl) (by rfl) 50 (cells64 [0, 0, 0, 0, 0]) B3.out.1 (by rw [HX.out.2]; exact info5) (by rw [HX.out.2]; rfl) (ones64 _) ?_))
  refine bodyPost_ret (v := .agg (cells64 y)) (results_cell_row (by rfl) _ _ (w.heap.size + 1) 50 (cells64 y) (0, 0) _ (by rfl) (setRow_heap _ _ _ _ _ _ B3.out.1) Tryd.underlying50 rfl (by rw [HX.out.2]; exact info5)) rfl ⟨rfl, below_setRow B3.out.2 (by omega) _⟩
theorem u8_and1 {x : Int} (h₀ : 0 ≤ x) (h₁ : x < 256) : bits .and .u8 x 1 = x % 2 := bits_mask .u8 8 (by decide) wraps_u8 1 (by decide) x h₀ h₁
theorem C_cell {k : IntKind} {w : World} {A : Option Addr} {xs : List Int} (h : Kd.C (Kd.int k) w A xs.length xs) {i : Nat} (hi : i < xs.length) : ∃ ad, A = some ad ∧ w.cell? (ad.add i) = some (.int k (xs.getD i 0)) := by
  obtain ⟨ad, he, hc⟩ := h.2.2 (by omega)
  have hx : xs[i]? = some (xs.getD i 0) := by rw [List.getD_eq_getElem?_getD, List.getElem?_eq_getElem hi]; rfl
  obtain ⟨cs, h1, h2, h3⟩ := hc i _ hx
  have h4 : cs = [.int k (xs.getD i 0)] := h2
  subst h4
  have h5 := h3 0 _ rfl
  rw [show i * (Kd.int k).sz + 0 = i from Nat.mul_one i] at h5
  exact ⟨ad, he, h5⟩
/-- A digit of bytes, the lowest first. -/
def dgt (l : List Int) (i : Nat) : Bool := l.getD (i / 8) 0 / 2 ^ (i % 8) % 2 == 1
/-- A number to the power of bytes: what comes of the lowest i digits that are left. -/
def pstep (b : Int) (l : List Int) (i : Nat) (acc : Int) : Int := if dgt l i then acc * acc % PP * b % PP else acc * acc % PP
def pwm (b : Int) (l : List Int) : Nat → Int → Int
  | 0, acc => acc
  | i + 1, acc => pwm b l i (pstep b l i acc)
structure PwAt (w : World) (x z : List Int) (g : Nat) (wr : World) : Prop where
  a : Arr w.heap.size x wr
  r : Arr (w.heap.size + 1) [0, 0, 0, 0, 0] wr
  o : Arr g z wr
  b : Below w.heap.size w wr
  g : w.heap.size + 1 < g
theorem PwAt.below {w wr w1 : World} {x z : List Int} {g : Nat} (h : PwAt w x z g wr) (hb : Below wr.heap.size wr w1) : PwAt w x z g w1 := ⟨h.a.below hb, h.r.below hb, h.o.below hb, below_step h.b hb, h.g⟩
theorem PwAt.row {w wr : World} {x z : List Int} {g : Nat} (h : PwAt w x z g wr) (z' : List Int) : PwAt w x z' g (wr.setRow g (cells64 z')) := by
  have := h.g
  exact ⟨(setRow_other _ _ _ _ (by omega)).trans h.a, (setRow_other _ _ _ _ (by omega)).trans h.r, setRow_heap _ _ _ _ _ _ h.o, below_setRow h.b (by omega) _, h.g⟩
set_option maxRecDepth 100000 in
set_option maxHeartbeats 4000000 in
theorem power_c (x l : List Int) (hx : Lb 2251799813685268 x) (A : Option Addr) (c : Nat) (hl : l.length ≤ 100) (hb : ∀ i, 0 ≤ l.getD i 0 ∧ l.getD i 0 < 256) (w : World) (hr : Kd.C (Kd.int .u8) w A l.length l) :
    Calls Tryd.prog 107 #[.agg (cells64 x), .slice A l.length c] w fun e w' => ∃ z, e = .returned (.agg (cells64 z)) ∧ Lb 2251799813685268 z ∧ val z % PP = pwm (val x % PP) l (8 * l.length) 1 ∧ Below w.heap.size w w' := by
  have HX := Lib.hid (And.intro hx (And.intro hb hl))
  have HR := Aside0.mk hr
  have hnI : (l.length : Int) ≤ 100 := by omega
  have KS := Aside0.mk (Small_c 1)
  rw [show [bits .and .u64 1 2251799813685247, 1 / 2251799813685248, 0, 0, 0] = [1, 0, 0, 0, 0] by decide +kernel] at KS
  obtain ⟨n, hn⟩ : ∃ n, n = l.length := ⟨_, rfl⟩
  rw [← hn] at hnI ⊢
  have HN := Lib.hid hn
  clear hx hb hl hr hn
  go_enter Tryd.func107, Tryd.ntmps107
  go_upto_region 2 with (first
    | (go_at_call 55; refine (KS.out _).mono ?_; rintro e w1 ⟨rfl, hb1⟩; unfold El; have B1 := Aside0.mk hb1; clear hb1)
    | (refine wpList_store_row rfl 50 (.tmp 5) (.tmp 7) rfl w1.heap.size (cells64 [1, 0, 0, 0, 0]) (by rfl) (by rfl) 50 (cells64 [0, 0, 0, 0, 0]) (new1 _ _) info5 (by rfl) (ones64 _) ?_; rw [World.setRow_alloc_new]))
  have P0 : Aside0 (∃ z, Lb 2251799813685268 z ∧ pwm (val x % PP) l (8 * n) (val z % PP) = pwm (val x % PP) l (8 * n) 1 ∧ PwAt w x z w1.heap.size (w1.alloc (.cells (cells64 [1, 0, 0, 0, 0]) 50))) := ⟨[1, 0, 0, 0, 0], Lb.mk5 (by decide) (by decide) (by decide) (by decide) (by decide) (by decide), by rw [show val [1, 0, 0, 0, 0] % PP = 1 by decide], blk_alloc (blk_below (blk_alloc (new1 _ _) _) B1.out) _, blk_alloc (blk_below (new2 w _ (.cells (cells64 [0, 0, 0, 0, 0]) 50)) B1.out) _, new1 _ _, below_alloc (below_step (below_alloc (below_alloc (Below.refl _ _) _) _) B1.out) _, blk_lt (blk_below (new2 _ _ _) B1.out)⟩
  generalize (w1.alloc (.cells (cells64 [1, 0, 0, 0, 0]) 50)) = W1 at P0 ⊢
  generalize w1.heap.size = g at P0 ⊢
  clear B1 KS
  go_upto_region 3 with (fail)
  go_loopg [6] (8 * n) (fun m t wr => t = .int .i64 ((m : Int) - 1) ∧ m ≤ 8 * n ∧ Aside0 (∃ z, Lb 2251799813685268 z ∧ pwm (val x % PP) l m (val z % PP) = pwm (val x % PP) l (8 * n) 1 ∧ PwAt w x z g wr))
  case atStart => exact ⟨by go_num, Nat.le_refl _, P0⟩
  case round =>
    clear P0
    obtain ⟨rfl, hm, z, hz, hp, P⟩ := hrel
    cases gk with
    | zero =>
      go_wp2_with (first
        | (refine wpList_load_row rfl 50 (.tmp 5) rfl g (by rfl) 50 (cells64 z) (0, 0) _ P.o Tryd.underlying50 rfl (by rw [size5 hz.1]; exact info5) ?_)
        | (refine wpList_store_row rfl 50 (.tmp 4) (.tmp 32) rfl (w.heap.size + 1) (cells64 z) (by rfl) (by rfl) 50 (cells64 [0, 0, 0, 0, 0]) P.r (by rw [size5 hz.1]; exact info5) (by rw [size5 hz.1]; rfl) (ones64 _) ?_))
      refine bodyPost_ret (v := .agg (cells64 z)) (results_cell_row (by rfl) _ _ (w.heap.size + 1) 50 (cells64 z) (0, 0) _ (by rfl) (setRow_heap _ _ _ _ _ _ P.r) Tryd.underlying50 rfl (by rw [size5 hz.1]; exact info5)) rfl ⟨z, rfl, hz, hp, below_setRow P.b (by omega) _⟩
    | succ i =>
      obtain ⟨q, r, hir, hr8⟩ : ∃ q r, i = 8 * q + r ∧ r < 8 := ⟨i / 8, i % 8, by omega, by omega⟩
      have hql : q < l.length := by have := HN.out; omega
      obtain ⟨ad, hA, hcell⟩ := C_cell HR.out hql
      have hA' := hA
      subst hA'
      have hd : dgt l i = (l.getD q 0 / 2 ^ r % 2 == 1) := by unfold dgt; rw [show i / 8 = q by omega, show i % 8 = r by omega]
      have hby := HX.out.2.1 q
      obtain ⟨B, hB⟩ : ∃ B, B = l.getD q 0 := ⟨_, rfl⟩
      rw [← hB] at hcell hd hby
      have hz1 := mulL_ok hz.1 hz.1 (hz.lim (by decide)) (hz.lim (by decide))
      have K1 := Aside0.mk (mul_d z z hz.1 hz.1 (hz.lim (by decide)) (hz.lim (by decide)))
      obtain ⟨z1, e1⟩ : ∃ z1, z1 = mulL z z := ⟨_, rfl⟩
      rw [← e1] at hz1 K1
      have K2 := Aside0.mk (mul_d z1 x hz1.1.1 HX.out.1.1 (hz1.1.lim (by decide)) (HX.out.1.lim (by decide)))
      have hz2 := mulL_ok hz1.1.1 HX.out.1.1 (hz1.1.lim (by decide)) (HX.out.1.lim (by decide))
      obtain ⟨z2, e2⟩ : ∃ z2, z2 = mulL z1 x := ⟨_, rfl⟩
      rw [← e2] at hz2 K2
      have hq8 : ((i : Int) + 1 - 1) = (i : Int) := by omega
      have hIm : (i : Int) < 800 := by omega
      have hdv : Int.tdiv (i : Int) 8 = (q : Int) := by rw [Int.tdiv_eq_ediv_of_nonneg (by omega)]; omega
      have hmd : Int.tmod (i : Int) 8 = (r : Int) := by rw [Int.tmod_eq_emod_of_nonneg (by omega)]; omega
      have hqn : (q : Int) < (n : Int) := by have := HN.out; omega
      have HZ := Aside0.mk (And.intro hz (And.intro hz1 (And.intro hz2 (And.intro hp (And.intro hd hby)))))
      have hr0 : (r : Int) < 8 := by omega
      clear hz hz1 hz2 hp hd hby e1 e2 hB hA hql hir hr8
      go_upto_region 6 with (first
        | (refine wpList_load_row rfl 50 (.tmp 5) rfl g (by rfl) 50 (cells64 z) (0, 0) _ P.o Tryd.underlying50 rfl (by rw [size5 HZ.out.1.1]; exact info5) ?_)
        | (go_at_call 106; refine (K1.out _).mono ?_; rintro e w5 ⟨rfl, hb5⟩; have P5 := Aside0.mk (P.below hb5); clear hb5)
        | (refine wpList_store_row rfl 50 (.tmp 5) (.tmp 18) rfl g (cells64 z1) (by rfl) (by rfl) 50 (cells64 z) P5.out.o (by rw [size5 HZ.out.2.1.1.1]; exact info5) (by rw [size5 HZ.out.2.1.1.1, size5 HZ.out.1.1]) (ones64 _) ?_))
      have P6 : Aside0 (PwAt w x z1 g (w5.setRow g (cells64 z1))) := ⟨P5.out.row z1⟩
      clear P5 P
      generalize w5.setRow g (cells64 z1) = w6 at P6 ⊢
      have hcell6 := (P6.out.b.cell (World.block_lt_of_cell? _ _ hcell)).trans hcell
      clear hcell
      have hv0 : 0 ≤ B / 2 ^ r ∧ B / 2 ^ r < 256 := by
        have h1 := HZ.out.2.2.2.2.2
        have h2 : (0 : Int) < 2 ^ r := Int.pow_pos (by decide)
        exact ⟨Int.ediv_nonneg h1.1 (Int.le_of_lt h2), Int.lt_of_le_of_lt (Int.ediv_le_self _ h1.1) h1.2⟩
      have hbit : (bits .and .u8 (B / 2 ^ r) 1 == 1) = dgt l i := by
        rw [HZ.out.2.2.2.2.1, u8_and1 hv0.1 hv0.2]
      have HB := Aside0.mk hbit
      clear hv0 hbit
      go_upto_if 28 with (fail)
      rw [HB.out]
      cases hdg : dgt l i
      · go_wp2
        go_roundg i
        case measure => omega
        case rel =>
          refine ⟨by go_num, by omega, ⟨z1, HZ.out.2.1.1, ?_, P6.out⟩⟩
          have hs : val z1 % PP = pstep (val x % PP) l i (val z % PP) := by
            unfold pstep
            rw [hdg, if_neg (by decide), ← mod_of HZ.out.2.1.2, Int.mul_emod]
          have := HZ.out.2.2.2.1
          rw [pwm] at this
          rw [hs]
          exact this
      · go_wp2_with (first
          | (refine wpList_load_row rfl 50 (.tmp 5) rfl g (by rfl) 50 (cells64 z1) (0, 0) _ P6.out.o Tryd.underlying50 rfl (by rw [size5 HZ.out.2.1.1.1]; exact info5) ?_)
          | (refine wpList_load_row rfl 50 (.tmp 2) rfl w.heap.size (by rfl) 50 (cells64 x) (0, 0) _ P6.out.a Tryd.underlying50 rfl (by rw [size5 HX.out.1.1]; exact info5) ?_)
          | (go_at_call 106; refine (K2.out _).mono ?_; rintro e w7 ⟨rfl, hb7⟩; have P7 := Aside0.mk (P6.out.below hb7); clear hb7)
          | (refine wpList_store_row rfl 50 (.tmp 5) (.tmp 31) rfl g (cells64 z2) (by rfl) (by rfl) 50 (cells64 z1) P7.out.o (by rw [size5 HZ.out.2.2.1.1.1]; exact info5) (by rw [size5 HZ.out.2.2.1.1.1, size5 HZ.out.2.1.1.1]) (ones64 _) ?_))
        go_roundg i
        case measure => omega
        case rel =>
          refine ⟨by go_num, by omega, ⟨z2, HZ.out.2.2.1.1, ?_, P7.out.row z2⟩⟩
          have hs : val z2 % PP = pstep (val x % PP) l i (val z % PP) := by
            unfold pstep
            rw [hdg, if_pos rfl, ← mod_of HZ.out.2.2.1.2, Int.mul_emod, ← mod_of HZ.out.2.1.2, Int.mul_emod (val z) (val z)]
          have := HZ.out.2.2.2.1
          rw [pwm] at this
          rw [hs]
          exact this
end Go.Proofs.YtbenedckmapjoaaDoor.F
namespace Go.Proofs.YtbenedckmapjoaaDoor.F
open Go.RowKit Go.Proofs.YtbenedckmapjoaaDoor.H Go.Proofs.YtbenedckmapjoaaDoorW.PrintWords Go.Proofs.YtbenedckmapjoaaDoorW.PrintLast Go.Proofs.YtbenedckmapjoaaDoorW.PrintMore
set_option linter.unusedVariables false
set_option linter.unusedSimpArgs false
/-- The bytes of p less 2. -/
def nearL : List Int := [235, 255, 255, 255, 255, 255, 255, 255, 255, 255, 255, 255, 255, 255, 255, 255, 255, 255, 255, 255, 255, 255, 255, 255, 255, 255, 255, 255, 255, 255, 255, 127]
def cells8 (l : List Int) : Array Value := (l.map (Value.int .u8)).toArray
theorem cells8_get (l : List Int) (i : Nat) (h : i < l.length) : (cells8 l)[i]? = some (.int .u8 (l.getD i 0)) := by simp [cells8, h]
theorem cells8_set (l : List Int) (i : Nat) (v : Int) : (cells8 l).setIfInBounds i (.int .u8 v) = cells8 (l.set i v) := by simp [cells8, List.map_set]
/-- Bytes in a block of their own. -/
def Byt (g : Nat) (l : List Int) (w : World) : Prop := w.heap[g]? = some (.cells (cells8 l) 5 (0, 0))
theorem Byt.cell {g : Nat} {l : List Int} {w : World} (h : Byt g l w) {i : Nat} (hi : i < l.length) : w.cell? ⟨g, i, none⟩ = some (.int .u8 (l.getD i 0)) := (blk_cell h i).trans (cells8_get _ _ hi)
theorem Byt.frozen {g : Nat} {l : List Int} {w : World} (h : Byt g l w) (i : Nat) : w.frozen? ⟨g, i, none⟩ = false := blk_frozen h i
theorem Byt.put {g : Nat} {l : List Int} {w : World} (h : Byt g l w) (i : Nat) (y : Int) : Byt g (l.set i y) (w.setCell ⟨g, i, none⟩ (.int .u8 y)) := blk_put h i _ (cells8_set l i y)
theorem Byt.below {g : Nat} {l : List Int} {w w1 : World} (h : Byt g l w) (hb : Below w.heap.size w w1) : Byt g l w1 := blk_below h hb
theorem Byt.C {g : Nat} {l : List Int} {w : World} (h : Byt g l w) (hl : l.length ≤ 100000) : Kd.C (Kd.int .u8) w (some ⟨g, 0, none⟩) l.length l := by
  refine ⟨rfl, by show l.length ≤ 9223372036854775807; omega, fun _ => ⟨_, rfl, fun j x hj => ⟨[.int .u8 x], rfl, rfl, fun i u hu => ?_⟩⟩⟩
  have hi0 : i = 0 := by have := (List.getElem?_eq_some_iff.1 hu).1; simpa using this
  subst hi0
  obtain rfl : Value.int .u8 x = u := by simpa using hu
  have hj2 := (List.getElem?_eq_some_iff.1 hj)
  have h6 := h.cell hj2.1
  rw [List.getD_eq_getElem?_getD, hj] at h6
  show w.cell? ((⟨g, 0, none⟩ : Addr).add (j * 1 + 0)) = _
  rw [show j * 1 + 0 = j by omega, show (⟨g, 0, none⟩ : Addr).add j = ⟨g, j, none⟩ by simp [Addr.add]; intro h; exact h.symm]
  exact h6
def nrL (i : Nat) : List Int := List.replicate i 255 ++ List.replicate (32 - i) 0
theorem nrL_succ : ∀ i : Fin 32, (nrL i.val).set i.val 255 = nrL (i.val + 1) := by decide
theorem nrL_length : ∀ i : Fin 33, (nrL i.val).length = 32 := by decide
set_option maxRecDepth 100000 in
set_option maxHeartbeats 4000000 in
theorem near_c (a b : Int) (w : World) : Calls Tryd.prog 108 #[.int .u8 a, .int .u8 b] w fun e w' => ∃ g, e = .returned (.slice (some ⟨g, 0, none⟩) 32 32) ∧ Byt g (((nrL 32).set 0 a).set 31 b) w' ∧ Below w.heap.size w w' := by
  have hmk : ∀ W : World, (Instr.makeSlice 30 (.int .i64 32) (.int .i64 32)).run Tryd.prog W = .ok (.slice (some ⟨W.heap.size, 0, none⟩) 32 32) (W.alloc (.cells (Array.replicate 32 (.int .u8 0)) 5)) := fun _ => by kernel_rfl
  go_enter Tryd.func108, Tryd.ntmps108
  go_upto_region 3 with (fail)
  have P0 : Aside0 (Byt w.heap.size (nrL 0) (w.alloc (.cells (Array.replicate 32 (.int .u8 0)) 5)) ∧ Below w.heap.size w (w.alloc (.cells (Array.replicate 32 (.int .u8 0)) 5))) := ⟨by
    have : cells8 (nrL 0) = Array.replicate 32 (.int .u8 0) := by rfl
    unfold Byt
    rw [this]
    exact new1 _ _, below_alloc (Below.refl _ _) _⟩
  generalize (w.alloc (.cells (Array.replicate 32 (.int .u8 0)) 5)) = W0 at P0 ⊢
  clear hmk
  go_loopg [10] 32 (fun m t wr => ∃ i : Nat, i + m = 32 ∧ t = .int .i64 (i : Int) ∧ Aside0 (Byt w.heap.size (nrL i) wr ∧ Below w.heap.size w wr))
  case atStart => exact ⟨0, by omega, rfl, P0⟩
  case round =>
    clear P0
    obtain ⟨i, hi', rfl, P⟩ := hrel
    have hi : i ≤ 32 := by omega
    have HI := Lib.hid hi'
    clear hi'
    have hln : (nrL i).length = 32 := nrL_length ⟨i, by omega⟩
    by_cases hil : i < 32
    · have hi0 : (0 : Int) ≤ (i : Int) := by omega
      have hi1 : (i : Int) < 32 := by omega
      have c1 := P.out.1.cell (i := i) (by omega)
      have f1 := P.out.1.frozen i
      clear hln
      go_wp2
      go_roundg (gk - 1)
      case measure => have := HI.out; omega
      case rel =>
        refine ⟨i + 1, by have := HI.out; omega, by go_num, ⟨?_, below_set P.out.2 (Nat.le_refl _)⟩⟩
        rw [← nrL_succ ⟨i, hil⟩]
        exact P.out.1.put i 255
    · obtain rfl : i = 32 := by omega
      have c0 := P.out.1.cell (i := 0) (by omega)
      have f0 := P.out.1.frozen 0
      have c31 := P.out.1.cell (i := 31) (by omega)
      have f31 := P.out.1.frozen 31
      clear hln
      go_wp2
      go_ret
      exact ⟨_, rfl, (P.out.1.put 0 a).put 31 b, below_set (below_set P.out.2 (Nat.le_refl _)) (Nat.le_refl _)⟩
theorem near_val : (((nrL 32).set 0 235).set 31 127) = nearL := by decide
theorem power_c' (x l : List Int) (hx : Lb 2251799813685268 x) (A : Option Addr) (c : Nat) (h32 : l.length = 32) (hl : l.length ≤ 100) (hb : ∀ i, 0 ≤ l.getD i 0 ∧ l.getD i 0 < 256) (w : World) (hr : Kd.C (Kd.int .u8) w A l.length l) :
    Calls Tryd.prog 107 #[.agg (cells64 x), .slice A 32 c] w fun e w' => ∃ z, e = .returned (.agg (cells64 z)) ∧ Lb 2251799813685268 z ∧ val z % PP = pwm (val x % PP) l (8 * l.length) 1 ∧ Below w.heap.size w w' := by
  have h := power_c x l hx A c hl hb w hr
  rw [h32] at h ⊢
  exact h
def inv (a : Int) : Int := pwm a nearL 256 1
set_option maxRecDepth 100000 in
set_option maxHeartbeats 4000000 in
theorem FInv (a : Int) (ha : 0 ≤ a ∧ a < PP) (w : World) : Calls Tryd.prog 62 #[Nm a] w fun e w' => e = .returned (Nm (inv a)) ∧ Below w.heap.size w w' := by
  obtain ⟨x, hx⟩ : ∃ x, x = enc a := ⟨_, rfl⟩
  have hx5 : x.length = 5 := by rw [hx]; rfl
  have hw := wk2_ok (enc_w5 ha.1 ha.2)
  have hva : val x % PP = a := by rw [hx, enc_val, Int.emod_eq_of_lt ha.1 ha.2]
  rw [← hx] at hw
  obtain ⟨y, hy⟩ : ∃ y, y = wk1 (wk1 x) := ⟨_, rfl⟩
  rw [← hy] at hw
  have hvy : val y % PP = a := by rw [← mod_of hw.2, hva]
  obtain ⟨L, hL⟩ : ∃ L, L = nearL := ⟨_, rfl⟩
  have hL32 : L.length = 32 := by rw [hL]; rfl
  have hLb : ∀ i, 0 ≤ L.getD i 0 ∧ L.getD i 0 < 256 := by
    rw [hL]
    intro i
    by_cases h : i < 32
    · have : ∀ j : Fin 32, 0 ≤ nearL.getD j.val 0 ∧ nearL.getD j.val 0 < 256 := by decide
      exact this ⟨i, h⟩
    · rw [List.getD_eq_getElem?_getD, List.getElem?_eq_none (by show 32 ≤ i; omega)]
      decide
  have hI : inv a = pwm (val y % PP) L (8 * L.length) 1 := by unfold inv; rw [hvy, hL32, hL]
  have hls : (cells64 x).size = 5 := size5 hx5
  have HX := Lib.hid (And.intro hx5 (And.intro hls (And.intro hw.1 (And.intro hL32 (And.intro hLb (And.intro hI hy))))))
  have HN := Aside0.mk hL
  unfold Nm
  rw [← hx]
  clear ha hx hx5 hw hva hy hvy hL hL32 hLb hI hls
  go_enter Tryd.func62, Tryd.ntmps62
  go_upto_region 1 with (fail)
  have B0 : Aside0 (Own w x ((w.alloc (.cells (cells64 x) 50)).alloc (.cells #[.int .u64 0, .int .u64 0, .int .u64 0, .int .u64 0, .int .u64 0] 50))) := ⟨⟨blk_alloc (new1 _ _) _, new2 _ _ _, below_alloc (below_alloc (Below.refl _ _) _) _⟩⟩
  generalize ((w.alloc (.cells (cells64 x) 50)).alloc (.cells #[.int .u64 0, .int .u64 0, .int .u64 0, .int .u64 0, .int .u64 0] 50)) = w0 at B0 ⊢
  go_wp2_with (first
    | (refine wpList_load_row rfl 50 (.tmp 1) rfl w.heap.size (by rfl) 50 (cells64 x) (0, 0) _ B0.out.a Tryd.underlying50 rfl (by rw [HX.out.2.1]; exact info5) ?_)
    | (go_at_call 105; refine (weak_d x HX.out.1 _).mono ?_; rintro e w1 ⟨rfl, hb1⟩; rw [← HX.out.2.2.2.2.2.2]; have B1 := Aside0.mk hb1; clear hb1)
    | (go_at_call 108; refine (near_c 235 127 _).mono ?_; rintro e w2 ⟨g2, rfl, hY2, hb2⟩; rw [near_val, ← HN.out] at hY2; have hC2 := hY2.C (by rw [HX.out.2.2.2.1]; decide); have B2 := Aside0.mk (And.intro hC2 (below_step B1.out hb2)); clear hb2 hC2 hY2)
    | (go_at_call 107; refine (power_c' y L HX.out.2.2.1 (some ⟨g2, 0, none⟩) 32 HX.out.2.2.2.1 (by rw [HX.out.2.2.2.1]; decide) HX.out.2.2.2.2.1 _ B2.out.1).mono ?_; rintro e w3 ⟨z, rfl, hz, hv, hb3⟩; have B3 := Aside0.mk (And.intro hz (And.intro hv (below_step B2.out.2 hb3))); clear hz hv hb3)
    | (go_at_call 104; refine (Reduce_d z B3.out.1.1 _).mono ?_; rintro e w4 ⟨rfl, hb4⟩; rw [red_eq (B3.out.1.w5 (by decide)), B3.out.2.1, ← HX.out.2.2.2.2.2.1]; have P4 := Aside0.mk (And.intro (Own.z B0.out) (below_step B3.out.2.2 hb4)); clear hb4)
    | (refine wpList_store_row rfl 50 (.tmp 2) (.tmp 7) rfl (w.heap.size + 1) (cells64 (enc (inv a))) (by rfl) (by rfl) 50 (cells64 [0, 0, 0, 0, 0]) (P4.out.1.below P4.out.2) (by rw [size_enc]; exact info5) (by rw [size_enc]; rfl) (ones64 _) ?_))
  refine bodyPost_ret (v := .agg (cells64 (enc (inv a)))) (results_cell_row (by rfl) _ _ (w.heap.size + 1) 50 (cells64 (enc (inv a))) (0, 0) _ (by rfl) (setRow_heap _ _ _ _ _ _ (P4.out.1.below P4.out.2)) Tryd.underlying50 rfl (by rw [size_enc]; exact info5)) rfl ⟨rfl, below_setRow (below_step B0.out.b P4.out.2) (by omega) _⟩
end Go.Proofs.YtbenedckmapjoaaDoor.F
namespace Go.Proofs.YtbenedckmapjoaaDoor.F
open Go.RowKit Go.Proofs.YtbenedckmapjoaaDoor.H Go.Proofs.YtbenedckmapjoaaDoorW.PrintWords Go.Proofs.YtbenedckmapjoaaDoorW.PrintLast Go.Proofs.YtbenedckmapjoaaDoorW.PrintMore
set_option linter.unusedVariables false
set_option linter.unusedSimpArgs false
theorem u64_and1 {x : Int} (h0 : 0 ≤ x) (h1 : x < 18446744073709551616) : bits .and .u64 x 1 = x % 2 :=
  bits_mask .u64 64 (by decide) (fun n h0 h1 => by rw [wr64]; omega) 1 (by decide) x h0 h1
theorem red_enc {a : Int} (ha : 0 ≤ a ∧ a < PP) : red (enc a) = enc a := by rw [red_eq (enc_w5 ha.1 ha.2), enc_val, Int.emod_eq_of_lt ha.1 ha.2]
theorem Reduce_e (a : Int) (ha : 0 ≤ a ∧ a < PP) (w : World) : Calls Tryd.prog 104 #[.agg (cells64 (enc a))] w fun e w' => e = .returned (.agg (cells64 (enc a))) ∧ Below w.heap.size w w' := by
  have h := Reduce_d (enc a) rfl w
  rw [red_enc ha] at h
  exact h
set_option maxRecDepth 100000 in
set_option maxHeartbeats 4000000 in
theorem FOdd (a : Int) (ha : 0 ≤ a ∧ a < PP) (w : World) : Calls Tryd.prog 64 #[Nm a] w fun e w' => e = .returned (.bool (a % 2 == 1)) ∧ Below w.heap.size w w' := by
  have K := Aside0.mk (Reduce_e a ha)
  have hix : ∀ w : World, (Instr.index 50 (.agg (cells64 (enc a))) (.int .i64 0)).run Tryd.prog w = .ok (.int .u64 ((enc a).getD 0 0)) w := index5 (enc a) rfl 0 (by decide)
  have hg : (enc a).getD 0 0 = a % 2251799813685248 := rfl
  rw [hg] at hix
  have hb : (bits .and .u64 (a % 2251799813685248) 1 == 1) = (a % 2 == 1) := by rw [u64_and1 (by omega) (by omega), Int.emod_emod_of_dvd _ (by decide)]
  obtain ⟨v, hv⟩ : ∃ v, v = a % 2251799813685248 := ⟨_, rfl⟩
  rw [← hv] at hix hb
  obtain ⟨x, hx⟩ : ∃ x, x = enc a := ⟨_, rfl⟩
  have hxs : (cells64 x).size = 5 := by rw [hx]; rfl
  unfold Nm
  rw [← hx] at K hix ⊢
  have HX := Lib.hid (And.intro hxs hb)
  clear ha hg hx hxs hb hv
  go_enter Tryd.func64, Tryd.ntmps64
  go_wp2_with (first
    | (refine wpList_load_row rfl 50 (.tmp 1) rfl w.heap.size (by rfl) 50 (cells64 x) (0, 0) _ (new1 _ _) Tryd.underlying50 rfl (by rw [HX.out.1]; exact info5) ?_)
    | (go_at_call 104; refine (K.out _).mono ?_; rintro e w3 ⟨rfl, hb3⟩; have B3 := Aside0.mk (below_step (below_alloc (Below.refl _ _) _) hb3); clear hb3))
  go_ret
  exact ⟨by rw [← HX.out.2]; rfl, B3.out⟩
/-- The lowest i digits of a number, in bytes. -/
def stB (a i : Nat) : List Int := (List.range 32).map fun j => ((a % 2 ^ i / 2 ^ (8 * j) % 256 : Nat) : Int)
theorem stB_length (a i : Nat) : (stB a i).length = 32 := by simp [stB]
theorem byteS (n i q r : Nat) (hi : i = 8 * q + r) (hr : r < 8) : (n % 2 ^ i / 2 ^ (8 * q) % 256) < 2 ^ r ∧ (n % 2 ^ (i + 1) / 2 ^ (8 * q) % 256) = n % 2 ^ i / 2 ^ (8 * q) % 256 + 2 ^ r * (n / 2 ^ i % 2) := by
  obtain ⟨A, hA⟩ : ∃ A, A = n / 2 ^ (8 * q) := ⟨_, rfl⟩
  have h1 : n % 2 ^ i / 2 ^ (8 * q) = A % 2 ^ r := by rw [hi, Nat.pow_add, Nat.mod_mul_right_div_self, hA]
  have h2 : n / 2 ^ i = A / 2 ^ r := by rw [hi, Nat.pow_add, ← Nat.div_div_eq_div_mul, hA]
  have h3 : n % 2 ^ (i + 1) / 2 ^ (8 * q) = A % 2 ^ (r + 1) := by rw [hi, show 8 * q + r + 1 = 8 * q + (r + 1) by omega, Nat.pow_add, Nat.mod_mul_right_div_self, hA]
  have h4 : A % 2 ^ (r + 1) = A % 2 ^ r + 2 ^ r * (A / 2 ^ r % 2) := Nat.mod_pow_succ
  have h5 : A % 2 ^ r < 2 ^ r := Nat.mod_lt _ (Nat.two_pow_pos r)
  have h6 : 2 ^ r ≤ 128 := Nat.pow_le_pow_right (by decide) (show r ≤ 7 by omega)
  have h7 : A % 2 ^ (r + 1) < 2 ^ (r + 1) := Nat.mod_lt _ (Nat.two_pow_pos _)
  have h8 : 2 ^ (r + 1) = 2 ^ r * 2 := Nat.pow_succ 2 r
  rw [h1, h2, h3, Nat.mod_eq_of_lt (show A % 2 ^ r < 256 by omega), Nat.mod_eq_of_lt (show A % 2 ^ (r + 1) < 256 by omega), h4]
  exact ⟨h5, rfl⟩
theorem byteO (n i j q r : Nat) (hi : i = 8 * q + r) (hr : r < 8) (hj : j ≠ q) : n % 2 ^ (i + 1) / 2 ^ (8 * j) % 256 = n % 2 ^ i / 2 ^ (8 * j) % 256 := by
  rcases Nat.lt_or_gt_of_ne hj with h | h
  · obtain ⟨m, hm⟩ : ∃ m, i = 8 * j + (8 + m) := ⟨i - 8 * j - 8, by omega⟩
    rw [Nat.mod_pow_succ, show 2 ^ i * (n / 2 ^ i % 2) = 2 ^ (8 * j) * (256 * (2 ^ m * (n / 2 ^ i % 2))) by rw [hm, Nat.pow_add, Nat.pow_add, show (2 : Nat) ^ 8 = 256 from rfl]; simp only [Nat.mul_assoc], Nat.add_mul_div_left _ _ (Nat.two_pow_pos _), Nat.add_mul_mod_self_left]
  · have h1 : 2 ^ (i + 1) ≤ 2 ^ (8 * j) := Nat.pow_le_pow_right (by decide) (by omega)
    have h2 : 2 ^ i ≤ 2 ^ (8 * j) := Nat.pow_le_pow_right (by decide) (by omega)
    rw [Nat.div_eq_of_lt (Nat.lt_of_lt_of_le (Nat.mod_lt _ (Nat.two_pow_pos _)) h1), Nat.div_eq_of_lt (Nat.lt_of_lt_of_le (Nat.mod_lt _ (Nat.two_pow_pos _)) h2)]
theorem u8_or_up {B : Nat} {r t : Nat} (hr : r < 8) (hB : B < 2 ^ r) (ht : t < 2) : bits .or .u8 (B : Int) ((2 ^ r * t : Nat) : Int) = ((B + 2 ^ r * t : Nat) : Int) := by
  have h6 : 2 ^ r ≤ 128 := Nat.pow_le_pow_right (by decide) (show r ≤ 7 by omega)
  have h7 : 2 ^ r * t ≤ 2 ^ r * 1 := Nat.mul_le_mul_left _ (by omega)
  rw [(bits_nat .u8 8 (by decide) wraps_u8 B (2 ^ r * t) (by omega) (by omega)).2, Nat.add_comm, Nat.two_pow_add_eq_or_of_lt hB, Nat.or_comm]
theorem stB_get (n i q : Nat) (hq : q < 32) : (stB n i).getD q 0 = ((n % 2 ^ i / 2 ^ (8 * q) % 256 : Nat) : Int) := by
  rw [List.getD_eq_getElem?_getD, List.getElem?_eq_getElem (by rw [stB_length]; exact hq)]
  simp [stB]
theorem stB_succ (n i q r : Nat) (hi : i = 8 * q + r) (hr : r < 8) (hq : q < 32) : stB n (i + 1) = (stB n i).set q (bits .or .u8 ((stB n i).getD q 0) ((2 ^ r * (n / 2 ^ i % 2) : Nat) : Int)) := by
  have hb := byteS n i q r hi hr
  apply List.ext_getElem
  · rw [List.length_set, stB_length, stB_length]
  · intro j h1 h2
    rw [stB_length] at h1
    rw [List.getElem_set]
    split
    · rename_i h
      subst h
      rw [stB_get n i q hq, u8_or_up hr hb.1 (Nat.mod_lt _ (by decide)), ← hb.2]
      simp [stB]
    · rename_i h
      have := byteO n i j q r hi hr (fun e => h e.symm)
      simp only [stB, List.getElem_map, List.getElem_range]
      rw [this]
/-- A digit of a limb is the number's digit. -/
theorem enc_digit (a : Int) (ha : 0 ≤ a ∧ a < PP) (n i p s : Nat) (hn : n = a.toNat) (hi : i = 51 * p + s) (hs : s < 51) (hp : p < 5) : (enc a).getD p 0 / 2 ^ s % 2 = ((n / 2 ^ i % 2 : Nat) : Int) ∧ 0 ≤ (enc a).getD p 0 ∧ (enc a).getD p 0 < 18446744073709551616 := by
  obtain ⟨m, rfl⟩ := Int.eq_ofNat_of_zero_le ha.1
  obtain rfl : n = m := by omega
  have hlt : n < 57896044618658097711785492504343953926634992332820282019728792003956564819949 := by have := ha.2; unfold PP at this; omega
  have key : ∃ M : Nat, (enc (n : Int)).getD p 0 = (M : Int) ∧ M < 2251799813685248 ∧ M / 2 ^ s % 2 = n / 2 ^ i % 2 := by
    have hd : ∀ K : Nat, (K % 2 ^ 51) / 2 ^ s % 2 = K / 2 ^ s % 2 := fun K => by
      obtain ⟨u, hu⟩ : ∃ u, 51 = s + (1 + u) := ⟨50 - s, by omega⟩
      rw [hu, Nat.pow_add, Nat.mod_mul_right_div_self, Nat.pow_add, Nat.pow_one, Nat.mod_mod_of_dvd _ (Nat.dvd_mul_right 2 _)]
    have h2 : n / 2 ^ i = n / 2 ^ (51 * p) / 2 ^ s := by rw [hi, Nat.pow_add, Nat.div_div_eq_div_mul]
    rw [h2]
    match p, hp with
    | 0, _ => exact ⟨n % 2 ^ 51, by show (n : Int) % 2251799813685248 = _; omega, by omega, by rw [hd]; simp⟩
    | 1, _ => exact ⟨n / 2 ^ 51 % 2 ^ 51, by show (n : Int) / 2251799813685248 % 2251799813685248 = _; omega, by omega, by rw [hd]⟩
    | 2, _ => exact ⟨n / 2 ^ 102 % 2 ^ 51, by show (n : Int) / 5070602400912917605986812821504 % 2251799813685248 = _; omega, by omega, by rw [hd]⟩
    | 3, _ => exact ⟨n / 2 ^ 153 % 2 ^ 51, by show (n : Int) / 11417981541647679048466287755595961091061972992 % 2251799813685248 = _; omega, by omega, by rw [hd]⟩
    | 4, _ => exact ⟨n / 2 ^ 204, by show (n : Int) / 25711008708143844408671393477458601640355247900524685364822016 = _; omega, by omega, rfl⟩
  obtain ⟨M, h1, h2, h3⟩ := key
  rw [h1]
  exact ⟨by rw [← h3]; norm_cast, by omega, by omega⟩
set_option maxRecDepth 100000 in
set_option maxHeartbeats 4000000 in
theorem FEncode (a : Int) (ha : 0 ≤ a ∧ a < PP) (w : World) : Calls Tryd.prog 63 #[Nm a] w fun e w' => ∃ g, e = .returned (.slice (some ⟨g, 0, none⟩) 32 32) ∧ Byt g (stB a.toNat 255) w' ∧ w.heap.size ≤ g ∧ Below w.heap.size w w' := by
  have hmk : ∀ W : World, (Instr.makeSlice 30 (.int .i64 32) (.int .i64 32)).run Tryd.prog W = .ok (.slice (some ⟨W.heap.size, 0, none⟩) 32 32) (W.alloc (.cells (Array.replicate 32 (.int .u8 0)) 5)) := fun _ => by kernel_rfl
  have K := Aside0.mk (Reduce_e a ha)
  obtain ⟨n, hn⟩ : ∃ n, n = a.toNat := ⟨_, rfl⟩
  rw [← hn]
  obtain ⟨x, hx⟩ : ∃ x, x = enc a := ⟨_, rfl⟩
  have hxs : (cells64 x).size = 5 := by rw [hx]; rfl
  unfold Nm
  rw [← hx] at K ⊢
  have HX := Lib.hid (And.intro hxs (And.intro ha (And.intro hn hx)))
  clear ha hn hx hxs
  go_enter Tryd.func63, Tryd.ntmps63
  go_upto_region 2 with (first
    | (refine wpList_load_row rfl 50 (.tmp 1) rfl w.heap.size (by rfl) 50 (cells64 x) (0, 0) _ (new1 _ _) Tryd.underlying50 rfl (by rw [HX.out.1]; exact info5) ?_)
    | (go_at_call 104; refine (K.out _).mono ?_; rintro e w3 ⟨rfl, hb3⟩; have B3 := Aside0.mk (And.intro (blk_below (new1 w (.cells (cells64 x) 50)) hb3) (below_step (below_alloc (Below.refl _ _) _) hb3)); clear hb3)
    | (refine wpList_store_row rfl 50 (.tmp 1) (.tmp 6) rfl w.heap.size (cells64 x) (by rfl) (by rfl) 50 (cells64 x) B3.out.1 (by rw [HX.out.1]; exact info5) rfl (ones64 _) ?_))
  have P0 : Aside0 (Arr w.heap.size x (w3.setRow w.heap.size (cells64 x)) ∧ Below w.heap.size w (w3.setRow w.heap.size (cells64 x))) := ⟨setRow_heap _ _ _ _ _ _ B3.out.1, below_setRow B3.out.2 (Nat.le_refl _) _⟩
  generalize w3.setRow w.heap.size (cells64 x) = W1 at P0 ⊢
  clear B3 K
  go_upto_region 4 with (fail)
  have P1 : Aside0 (Arr w.heap.size x (W1.alloc (.cells (Array.replicate 32 (.int .u8 0)) 5)) ∧ Byt W1.heap.size (stB n 0) (W1.alloc (.cells (Array.replicate 32 (.int .u8 0)) 5)) ∧ w.heap.size < W1.heap.size ∧ Below w.heap.size w (W1.alloc (.cells (Array.replicate 32 (.int .u8 0)) 5))) := ⟨P0.out.1.alloc _, by
    have : cells8 (stB n 0) = Array.replicate 32 (.int .u8 0) := by
      have : stB n 0 = List.replicate 32 0 := by
        unfold stB
        rw [show (fun j => ((n % 2 ^ 0 / 2 ^ (8 * j) % 256 : Nat) : Int)) = fun _ => (0 : Int) from funext fun j => by rw [Nat.pow_zero, Nat.mod_one, Nat.zero_div]; rfl]
        rfl
      rw [this]
      rfl
    unfold Byt
    rw [this]
    exact new1 _ _, P0.out.1.lt, below_alloc P0.out.2 _⟩
  generalize (W1.alloc (.cells (Array.replicate 32 (.int .u8 0)) 5)) = W2 at P1 ⊢
  generalize W1.heap.size = g at P1 ⊢
  clear P0 hmk
  go_loopg [8] 255 (fun m t wr => ∃ i : Nat, i + m = 255 ∧ t = .int .i64 (i : Int) ∧ Aside0 (Arr w.heap.size x wr ∧ Byt g (stB n i) wr ∧ w.heap.size < g ∧ Below w.heap.size w wr))
  case atStart => exact ⟨0, by omega, rfl, P1⟩
  case round =>
    clear P1
    obtain ⟨i, hi', rfl, P⟩ := hrel
    have hi : i ≤ 255 := by omega
    have HI := Lib.hid hi'
    clear hi'
    by_cases hil : i < 255
    · obtain ⟨q, r, hir, hr8⟩ : ∃ q r, i = 8 * q + r ∧ r < 8 := ⟨i / 8, i % 8, by omega, by omega⟩
      obtain ⟨p, s, hps, hs51⟩ : ∃ p s, i = 51 * p + s ∧ s < 51 := ⟨i / 51, i % 51, by omega, by omega⟩
      have hi1 : (i : Int) < 255 := by omega
      have hdv : Int.tdiv (i : Int) 8 = (q : Int) := by rw [Int.tdiv_eq_ediv_of_nonneg (by omega)]; omega
      have hmd : Int.tmod (i : Int) 8 = (r : Int) := by rw [Int.tmod_eq_emod_of_nonneg (by omega)]; omega
      have hdv2 : Int.tdiv (i : Int) 51 = (p : Int) := by rw [Int.tdiv_eq_ediv_of_nonneg (by omega)]; omega
      have hmd2 : Int.tmod (i : Int) 51 = (s : Int) := by rw [Int.tmod_eq_emod_of_nonneg (by omega)]; omega
      have hq : (q : Int) < 32 := by omega
      have hp : (p : Int) < 5 := by omega
      have hr0 : (r : Int) < 8 := by omega
      have hs0 : (s : Int) < 51 := by omega
      have c1 := P.out.2.1.cell (i := q) (by rw [stB_length]; omega)
      have f1 := P.out.2.1.frozen q
      have c2 := P.out.1.cell (i := p) (by rw [HX.out.2.2.2]; show p < 5; omega)
      obtain ⟨B, hB⟩ : ∃ B, B = (stB n i).getD q 0 := ⟨_, rfl⟩
      obtain ⟨L, hL⟩ : ∃ L, L = x.getD p 0 := ⟨_, rfl⟩
      rw [← hB] at c1
      rw [← hL] at c2
      have HZ := Lib.hid (And.intro hir (And.intro hr8 (And.intro hps (And.intro hs51 (And.intro hB hL)))))
      clear hir hr8 hps hs51 hB hL
      go_wp2
      go_region
      all_goals
        go_wp2
        go_roundg (gk - 1)
        case measure => have := HI.out; omega
        case rel =>
          refine ⟨i + 1, by have := HI.out; omega, by go_num, ⟨?_⟩⟩
          obtain ⟨z1, z2, z3, z4, z5, z6⟩ := HZ.out
          have hdg := enc_digit a HX.out.2.1 n i p s HX.out.2.2.1 z3 z4 (by omega)
          rw [← HX.out.2.2.2, ← z6] at hdg
          have hL0 : 0 ≤ L / 2 ^ s ∧ L / 2 ^ s < 18446744073709551616 := ⟨Int.ediv_nonneg hdg.2.1 (Int.le_of_lt (Int.pow_pos (by decide))), Int.lt_of_le_of_lt (Int.ediv_le_self _ hdg.2.1) hdg.2.2⟩
          have hval : bits .and .u64 (L / 2 ^ s) 1 % 256 * 2 ^ r % 256 = ((2 ^ r * (n / 2 ^ i % 2) : Nat) : Int) := by
            rw [u64_and1 hL0.1 hL0.2, hdg.1]
            have h6 : 2 ^ r ≤ 128 := Nat.pow_le_pow_right (by decide) (show r ≤ 7 by omega)
            have h7 : n / 2 ^ i % 2 < 2 := Nat.mod_lt _ (by decide)
            have h8 : 2 ^ r * (n / 2 ^ i % 2) ≤ 2 ^ r * 1 := Nat.mul_le_mul_left _ (by omega)
            generalize n / 2 ^ i % 2 = t at h7 h8 ⊢
            rw [show ((t : Nat) : Int) % 256 = (t : Int) by omega, Int.mul_comm]
            norm_cast
            omega
          rw [hval, stB_succ n i q r z1 z2 (by omega), ← z5]
          have h9 := P.out.2.2.1
          exact ⟨((P.out.1.other (by show _ ≠ g; omega) _)).drew, P.out.2.1.put q _, h9, below_drew1 (below_set P.out.2.2.2 (by show _ ≤ g; omega))⟩
    · obtain rfl : i = 255 := by omega
      go_wp2
      go_ret
      exact ⟨g, rfl, P.out.2.1, Nat.le_of_lt P.out.2.2.1, P.out.2.2.2⟩
end Go.Proofs.YtbenedckmapjoaaDoor.F
