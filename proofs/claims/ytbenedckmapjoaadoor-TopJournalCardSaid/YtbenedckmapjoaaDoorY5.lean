/- Several texts as one. -/
import Derived.Test.YtbenedckmapjoaaDoorFe
namespace Go.Proofs.YtbenedckmapjoaaDoor.F
open Go.RowKit Go.Proofs.YtbenedckmapjoaaDoor.H Go.Proofs.YtbenedckmapjoaaDoorW.PrintWords
set_option linter.unusedVariables false
set_option linter.unusedSimpArgs false
/-- The prime, and the number of five limbs. -/
def PP : Int := 57896044618658097711785492504343953926634992332820282019728792003956564819949
def val (x : List Int) : Int := x.getD 0 0 + 2251799813685248 * x.getD 1 0 + 5070602400912917605986812821504 * x.getD 2 0 + 11417981541647679048466287755595961091061972992 * x.getD 3 0 + 25711008708143844408671393477458601640355247900524685364822016 * x.getD 4 0
/-- Five words. -/
def W5 (x : List Int) : Prop := x.length = 5 ∧ ∀ i, 0 ≤ x.getD i 0 ∧ x.getD i 0 < 18446744073709551616
theorem five {x : List Int} (h : x.length = 5) : ∃ a b c d e, x = [a, b, c, d, e] := by
  match x, h with
  | [a, b, c, d, e], _ => exact ⟨a, b, c, d, e, rfl⟩
theorem W5.mk5 {a b c d e B : Int} (hB : B ≤ 18446744073709551616) (ha : 0 ≤ a ∧ a < B) (hb : 0 ≤ b ∧ b < B) (hc : 0 ≤ c ∧ c < B) (hd : 0 ≤ d ∧ d < B) (he : 0 ≤ e ∧ e < B) : W5 [a, b, c, d, e] :=
  ⟨rfl, fun i => by
    match i with
    | 0 => exact ⟨ha.1, Int.lt_of_lt_of_le ha.2 hB⟩
    | 1 => exact ⟨hb.1, Int.lt_of_lt_of_le hb.2 hB⟩
    | 2 => exact ⟨hc.1, Int.lt_of_lt_of_le hc.2 hB⟩
    | 3 => exact ⟨hd.1, Int.lt_of_lt_of_le hd.2 hB⟩
    | 4 => exact ⟨he.1, Int.lt_of_lt_of_le he.2 hB⟩
    | i + 5 => exact ⟨Int.le_refl 0, by show (0 : Int) < _; decide⟩⟩
theorem W5.all {a b c d e : Int} (h : W5 [a, b, c, d, e]) : (0 ≤ a ∧ a < 18446744073709551616) ∧ (0 ≤ b ∧ b < 18446744073709551616) ∧ (0 ≤ c ∧ c < 18446744073709551616) ∧ (0 ≤ d ∧ d < 18446744073709551616) ∧ (0 ≤ e ∧ e < 18446744073709551616) := ⟨h.2 0, h.2 1, h.2 2, h.2 3, h.2 4⟩
theorem wk1_raw (a b c d e : Int) : wk1 [a, b, c, d, e] = [IntKind.u64.wrap (IntKind.u64.wrap (bits .and .u64 a 2251799813685247 + 0) + IntKind.u64.wrap (19 * (e / 2251799813685248))), IntKind.u64.wrap (bits .and .u64 b 2251799813685247 + a / 2251799813685248), IntKind.u64.wrap (bits .and .u64 c 2251799813685247 + b / 2251799813685248), IntKind.u64.wrap (bits .and .u64 d 2251799813685247 + c / 2251799813685248), IntKind.u64.wrap (bits .and .u64 e 2251799813685247 + d / 2251799813685248)] := rfl
theorem wk1_eq {a b c d e : Int} (h : W5 [a, b, c, d, e]) : wk1 [a, b, c, d, e] = [a % 2251799813685248 + 19 * (e / 2251799813685248), b % 2251799813685248 + a / 2251799813685248, c % 2251799813685248 + b / 2251799813685248, d % 2251799813685248 + c / 2251799813685248, e % 2251799813685248 + d / 2251799813685248] := by
  obtain ⟨ha, hb, hc, hd, he⟩ := h.all
  rw [wk1_raw, and51 ha.1 ha.2, and51 hb.1 hb.2, and51 hc.1 hc.2, and51 hd.1 hd.2, and51 he.1 he.2]
  simp only [wr64]
  have e1 : ((a % 2251799813685248 + 0) % 18446744073709551616 + 19 * (e / 2251799813685248) % 18446744073709551616) % 18446744073709551616 = a % 2251799813685248 + 19 * (e / 2251799813685248) := by omega
  have e2 : (b % 2251799813685248 + a / 2251799813685248) % 18446744073709551616 = b % 2251799813685248 + a / 2251799813685248 := by omega
  have e3 : (c % 2251799813685248 + b / 2251799813685248) % 18446744073709551616 = c % 2251799813685248 + b / 2251799813685248 := by omega
  have e4 : (d % 2251799813685248 + c / 2251799813685248) % 18446744073709551616 = d % 2251799813685248 + c / 2251799813685248 := by omega
  have e5 : (e % 2251799813685248 + d / 2251799813685248) % 18446744073709551616 = e % 2251799813685248 + d / 2251799813685248 := by omega
  rw [e1, e2, e3, e4, e5]
theorem val5 (a b c d e : Int) : val [a, b, c, d, e] = a + 2251799813685248 * b + 5070602400912917605986812821504 * c + 11417981541647679048466287755595961091061972992 * d + 25711008708143844408671393477458601640355247900524685364822016 * e := rfl
/-- Limbs below a bound. -/
def Lb (B : Int) (x : List Int) : Prop := x.length = 5 ∧ ∀ i, 0 ≤ x.getD i 0 ∧ x.getD i 0 < B
theorem Lb.w5 {B : Int} {x : List Int} (h : Lb B x) (hB : B ≤ 18446744073709551616) : W5 x := ⟨h.1, fun i => ⟨(h.2 i).1, Int.lt_of_lt_of_le (h.2 i).2 hB⟩⟩
theorem Lb.mk5 {a b c d e B : Int} (h0 : 0 < B) (ha : 0 ≤ a ∧ a < B) (hb : 0 ≤ b ∧ b < B) (hc : 0 ≤ c ∧ c < B) (hd : 0 ≤ d ∧ d < B) (he : 0 ≤ e ∧ e < B) : Lb B [a, b, c, d, e] :=
  ⟨rfl, fun i => by
    match i with
    | 0 => exact ha
    | 1 => exact hb
    | 2 => exact hc
    | 3 => exact hd
    | 4 => exact he
    | i + 5 => exact ⟨Int.le_refl 0, h0⟩⟩
/-- One carrying: limbs of at most 51 digits and a little. -/
theorem wk1_ok {x : List Int} (h : W5 x) : Lb 2251799813840898 (wk1 x) ∧ ∃ q, val x = val (wk1 x) + PP * q := by
  obtain ⟨a, b, c, d, e, rfl⟩ := five h.1
  obtain ⟨ha, hb, hc, hd, he⟩ := h.all
  rw [wk1_eq h]
  refine ⟨Lb.mk5 (by decide) (by omega) (by omega) (by omega) (by omega) (by omega), e / 2251799813685248, ?_⟩
  rw [val5, val5]
  unfold PP
  omega
theorem wk2_ok {x : List Int} (h : W5 x) : Lb 2251799813685268 (wk1 (wk1 x)) ∧ ∃ q, val x = val (wk1 (wk1 x)) + PP * q := by
  obtain ⟨h1, q1, e1⟩ := wk1_ok h
  obtain ⟨h2, q2, e2⟩ := wk1_ok (h1.w5 (by decide))
  refine ⟨?_, q1 + q2, by rw [e1, e2, Int.mul_add]; omega⟩
  generalize wk1 x = y at h1
  obtain ⟨a, b, c, d, e, rfl⟩ := five h1.1
  have w := h1.w5 (by decide)
  have ha := h1.2 0
  have hb := h1.2 1
  have hc := h1.2 2
  have hd := h1.2 3
  have he := h1.2 4
  have ha : 0 ≤ a ∧ a < 2251799813840898 := ha
  have hb : 0 ≤ b ∧ b < 2251799813840898 := hb
  have hc : 0 ≤ c ∧ c < 2251799813840898 := hc
  have hd : 0 ≤ d ∧ d < 2251799813840898 := hd
  have he : 0 ≤ e ∧ e < 2251799813840898 := he
  rw [wk1_eq w]
  exact Lb.mk5 (by decide) (by omega) (by omega) (by omega) (by omega) (by omega)
theorem Lb.lim {B : Int} {x : List Int} (h : Lb B x) (hB : B ≤ 4503599627370496) : Lim x := fun i => ⟨(h.2 i).1, Int.lt_of_lt_of_le (h.2 i).2 hB⟩
theorem rq_raw (a b c d e : Int) : rq [a, b, c, d, e] 4 = IntKind.u64.wrap (e + IntKind.u64.wrap (d + IntKind.u64.wrap (c + IntKind.u64.wrap (b + IntKind.u64.wrap (a + 19) / 2251799813685248) / 2251799813685248) / 2251799813685248) / 2251799813685248) / 2251799813685248 := rfl
theorem rc_raw (a b c d e : Int) (q1 q2 q3 q4 : Int) (h1 : q1 = IntKind.u64.wrap (a + 0) / 2251799813685248) (h2 : q2 = IntKind.u64.wrap (b + q1) / 2251799813685248) (h3 : q3 = IntKind.u64.wrap (c + q2) / 2251799813685248) (h4 : q4 = IntKind.u64.wrap (d + q3) / 2251799813685248) :
    (rc [a, b, c, d, e] 5).1 = [bits .and .u64 (IntKind.u64.wrap (a + 0)) 2251799813685247, bits .and .u64 (IntKind.u64.wrap (b + q1)) 2251799813685247, bits .and .u64 (IntKind.u64.wrap (c + q2)) 2251799813685247, bits .and .u64 (IntKind.u64.wrap (d + q3)) 2251799813685247, bits .and .u64 (IntKind.u64.wrap (e + q4)) 2251799813685247] := by
  subst h4 h3 h2 h1
  rfl
/-- A small element: limbs of 51 digits, below p. -/
def Cn (x : List Int) : Prop := Lb 2251799813685248 x ∧ val x < PP
theorem cb {u p s : Int} (hu : 0 ≤ u ∧ u < 2251799813685268) (hp : 0 ≤ p ∧ p ≤ 19) (hs : s = (u + p) % 18446744073709551616) : s = u + p ∧ 0 ≤ s / 2251799813685248 ∧ s / 2251799813685248 ≤ 1 := by omega
/-- The plain carrying: what comes of sums a, b, .. when a carry goes through. -/
theorem red_plain (a b c d e q p1 p2 p3 p4 q1 q2 q3 q4 : Int) (ha : 0 ≤ a ∧ a < 2251799813685268) (hb : 0 ≤ b ∧ b < 2251799813685268) (hc : 0 ≤ c ∧ c < 2251799813685268) (hd : 0 ≤ d ∧ d < 2251799813685268) (he : 0 ≤ e ∧ e < 2251799813685268)
    (h1 : p1 = (a + 19) / 2251799813685248) (h2 : p2 = (b + p1) / 2251799813685248) (h3 : p3 = (c + p2) / 2251799813685248) (h4 : p4 = (d + p3) / 2251799813685248) (h5 : q = (e + p4) / 2251799813685248)
    (g1 : q1 = (a + 19 * q) / 2251799813685248) (g2 : q2 = (b + q1) / 2251799813685248) (g3 : q3 = (c + q2) / 2251799813685248) (g4 : q4 = (d + q3) / 2251799813685248) :
    val [a, b, c, d, e] = val [(a + 19 * q) % 2251799813685248, (b + q1) % 2251799813685248, (c + q2) % 2251799813685248, (d + q3) % 2251799813685248, (e + q4) % 2251799813685248] + PP * q ∧
    val [(a + 19 * q) % 2251799813685248, (b + q1) % 2251799813685248, (c + q2) % 2251799813685248, (d + q3) % 2251799813685248, (e + q4) % 2251799813685248] < PP := by
  have hq : q = 0 ∨ q = 1 := by omega
  have e1 : (a + 19 * q) % 2251799813685248 = a + 19 * q - 2251799813685248 * q1 := by omega
  have e2 : (b + q1) % 2251799813685248 = b + q1 - 2251799813685248 * q2 := by omega
  have e3 : (c + q2) % 2251799813685248 = c + q2 - 2251799813685248 * q3 := by omega
  have e4 : (d + q3) % 2251799813685248 = d + q3 - 2251799813685248 * q4 := by omega
  have f : (e + q4) / 2251799813685248 = q := by
    rcases hq with hq | hq
    · subst hq
      have : q1 ≤ p1 := by omega
      have : q2 ≤ p2 := by omega
      have : q3 ≤ p3 := by omega
      have : q4 ≤ p4 := by omega
      omega
    · subst hq
      have : q1 = p1 := by omega
      have : q2 = p2 := by omega
      have : q3 = p3 := by omega
      have : q4 = p4 := by omega
      omega
  have e5 : (e + q4) % 2251799813685248 = e + q4 - 2251799813685248 * q := by omega
  have r1 : 0 ≤ (a + 19 * q) % 2251799813685248 ∧ (a + 19 * q) % 2251799813685248 < 2251799813685248 := by omega
  have r2 : 0 ≤ (b + q1) % 2251799813685248 ∧ (b + q1) % 2251799813685248 < 2251799813685248 := by omega
  have r3 : 0 ≤ (c + q2) % 2251799813685248 ∧ (c + q2) % 2251799813685248 < 2251799813685248 := by omega
  have r4 : 0 ≤ (d + q3) % 2251799813685248 ∧ (d + q3) % 2251799813685248 < 2251799813685248 := by omega
  have r5 : 0 ≤ (e + q4) % 2251799813685248 ∧ (e + q4) % 2251799813685248 < 2251799813685248 := by omega
  have hv : val [a, b, c, d, e] = val [(a + 19 * q) % 2251799813685248, (b + q1) % 2251799813685248, (c + q2) % 2251799813685248, (d + q3) % 2251799813685248, (e + q4) % 2251799813685248] + PP * q := by
    rw [val5, val5, e1, e2, e3, e4, e5]
    unfold PP
    omega
  refine ⟨hv, ?_⟩
  rcases hq with hq | hq
  · -- below p: 19 more have no carry at the top
    subst hq
    have n1 : (a + 19) % 2251799813685248 = a + 19 - 2251799813685248 * p1 := by omega
    have n2 : (b + p1) % 2251799813685248 = b + p1 - 2251799813685248 * p2 := by omega
    have n3 : (c + p2) % 2251799813685248 = c + p2 - 2251799813685248 * p3 := by omega
    have n4 : (d + p3) % 2251799813685248 = d + p3 - 2251799813685248 * p4 := by omega
    have n5 : e + p4 < 2251799813685248 := by omega
    have m1 : (a + 19) % 2251799813685248 ≤ 2251799813685247 := by omega
    have m2 : (b + p1) % 2251799813685248 ≤ 2251799813685247 := by omega
    have m3 : (c + p2) % 2251799813685248 ≤ 2251799813685247 := by omega
    have m4 : (d + p3) % 2251799813685248 ≤ 2251799813685247 := by omega
    have hva : val [a, b, c, d, e] + 19 = (a + 19 - 2251799813685248 * p1) + 2251799813685248 * (b + p1 - 2251799813685248 * p2) + 5070602400912917605986812821504 * (c + p2 - 2251799813685248 * p3) + 11417981541647679048466287755595961091061972992 * (d + p3 - 2251799813685248 * p4) + 25711008708143844408671393477458601640355247900524685364822016 * (e + p4) := by rw [val5]; omega
    rw [n1] at m1
    rw [n2] at m2
    rw [n3] at m3
    rw [n4] at m4
    have : val [a, b, c, d, e] < PP := by unfold PP; omega
    omega
  · subst hq
    have hva : val [a, b, c, d, e] ≤ 2251799813685267 * (1 + 2251799813685248 + 5070602400912917605986812821504 + 11417981541647679048466287755595961091061972992 + 25711008708143844408671393477458601640355247900524685364822016) := by rw [val5]; omega
    unfold PP at hv ⊢
    omega
theorem red4_ok {y : List Int} (h : Lb 2251799813685268 y) : Cn (rc (rz y) 5).1 ∧ ∃ q, val y = val (rc (rz y) 5).1 + PP * q := by
  obtain ⟨a, b, c, d, e, rfl⟩ := five h.1
  have ha : 0 ≤ a ∧ a < 2251799813685268 := h.2 0
  have hb : 0 ≤ b ∧ b < 2251799813685268 := h.2 1
  have hc : 0 ≤ c ∧ c < 2251799813685268 := h.2 2
  have hd : 0 ≤ d ∧ d < 2251799813685268 := h.2 3
  have he : 0 ≤ e ∧ e < 2251799813685268 := h.2 4
  have ez : rz [a, b, c, d, e] = [IntKind.u64.wrap (a + IntKind.u64.wrap (19 * rq [a, b, c, d, e] 4)), b, c, d, e] := rfl
  obtain ⟨q, hq⟩ : ∃ q, q = rq [a, b, c, d, e] 4 := ⟨_, rfl⟩
  have eq := rq_raw a b c d e
  rw [← hq] at eq ez
  have s1 := cb ha (p := 19) (by decide) (wr64 _)
  rw [s1.1] at eq s1
  obtain ⟨p1, hp1⟩ : ∃ p, p = (a + 19) / 2251799813685248 := ⟨_, rfl⟩
  rw [← hp1] at eq s1
  have s2 := cb hb (p := p1) (by omega) (wr64 _)
  rw [s2.1] at eq s2
  obtain ⟨p2, hp2⟩ : ∃ p, p = (b + p1) / 2251799813685248 := ⟨_, rfl⟩
  rw [← hp2] at eq s2
  have s3 := cb hc (p := p2) (by omega) (wr64 _)
  rw [s3.1] at eq s3
  obtain ⟨p3, hp3⟩ : ∃ p, p = (c + p2) / 2251799813685248 := ⟨_, rfl⟩
  rw [← hp3] at eq s3
  have s4 := cb hd (p := p3) (by omega) (wr64 _)
  rw [s4.1] at eq s4
  obtain ⟨p4, hp4⟩ : ∃ p, p = (d + p3) / 2251799813685248 := ⟨_, rfl⟩
  rw [← hp4] at eq s4
  have s5 := cb he (p := p4) (by omega) (wr64 _)
  rw [s5.1] at eq s5
  rw [← eq] at s5
  have hw19 : IntKind.u64.wrap (19 * q) = 19 * q := by rw [wr64]; omega
  rw [hw19] at ez
  have t1 := cb ha (p := 19 * q) (by omega) (wr64 _)
  rw [t1.1] at ez t1
  rw [ez]
  have hw0 : IntKind.u64.wrap (a + 19 * q + 0) = a + 19 * q := by rw [Int.add_zero]; exact t1.1 ▸ (by rw [wr64]; omega)
  obtain ⟨q1, g1⟩ : ∃ p, p = (a + 19 * q) / 2251799813685248 := ⟨_, rfl⟩
  rw [← g1] at t1
  have t2 := cb hb (p := q1) (by omega) (wr64 _)
  rw [t2.1] at t2
  obtain ⟨q2, g2⟩ : ∃ p, p = (b + q1) / 2251799813685248 := ⟨_, rfl⟩
  rw [← g2] at t2
  have t3 := cb hc (p := q2) (by omega) (wr64 _)
  rw [t3.1] at t3
  obtain ⟨q3, g3⟩ : ∃ p, p = (c + q2) / 2251799813685248 := ⟨_, rfl⟩
  rw [← g3] at t3
  have t4 := cb hd (p := q3) (by omega) (wr64 _)
  rw [t4.1] at t4
  obtain ⟨q4, g4⟩ : ∃ p, p = (d + q3) / 2251799813685248 := ⟨_, rfl⟩
  rw [← g4] at t4
  have u2 := (cb hb (p := q1) (by omega) (wr64 _)).1
  have u3 := (cb hc (p := q2) (by omega) (wr64 _)).1
  have u4 := (cb hd (p := q3) (by omega) (wr64 _)).1
  have u5 := (cb he (p := q4) (by omega) (wr64 _)).1
  rw [rc_raw (a + 19 * q) b c d e q1 q2 q3 q4 (by rw [hw0]; exact g1) (by rw [u2]; exact g2) (by rw [u3]; exact g3) (by rw [u4]; exact g4), hw0, u2, u3, u4, u5,
    and51 (by omega) (by omega), and51 (by omega) (by omega), and51 (by omega) (by omega), and51 (by omega) (by omega), and51 (by omega) (by omega)]
  have hp := red_plain a b c d e q p1 p2 p3 p4 q1 q2 q3 q4 ha hb hc hd he hp1 hp2 hp3 hp4 eq g1 g2 g3 g4
  have r : ∀ v : Int, 0 ≤ v % 2251799813685248 ∧ v % 2251799813685248 < 2251799813685248 := fun v => by omega
  exact ⟨⟨Lb.mk5 (by decide) (r _) (r _) (r _) (r _) (r _), hp.2⟩, q, hp.1⟩
theorem red_ok {x : List Int} (h : W5 x) : Cn (red x) ∧ ∃ q, val x = val (red x) + PP * q := by
  obtain ⟨h1, q1, e1⟩ := wk2_ok h
  obtain ⟨h2, q2, e2⟩ := wk2_ok (h1.w5 (by decide))
  obtain ⟨h3, q3, e3⟩ := red4_ok h2
  refine ⟨h3, q1 + q2 + q3, ?_⟩
  unfold red
  rw [e1, e2, e3, Int.mul_add, Int.mul_add]
  omega
end Go.Proofs.YtbenedckmapjoaaDoor.F
namespace Go.Proofs.YtbenedckmapjoaaDoor.F
open Go.RowKit Go.Proofs.YtbenedckmapjoaaDoor.H Go.Proofs.YtbenedckmapjoaaDoorW.PrintWords
set_option linter.unusedVariables false
set_option linter.unusedSimpArgs false
def mulL (x y : List Int) : List Int := wk1 (wk1 (mEnd (mwO x y 5)))
set_option maxRecDepth 100000 in
theorem mwO_raw (a0 a1 a2 a3 a4 b0 b1 b2 b3 b4 : Int) : mwO [a0, a1, a2, a3, a4] [b0, b1, b2, b3, b4] 5 =
    [0 + a0 * b0 + 19 * a1 * b4 + 19 * a2 * b3 + 19 * a3 * b2 + 19 * a4 * b1, 0 + a0 * b1 + a1 * b0 + 19 * a2 * b4 + 19 * a3 * b3 + 19 * a4 * b2, 0 + a0 * b2 + a1 * b1 + a2 * b0 + 19 * a3 * b4 + 19 * a4 * b3, 0 + a0 * b3 + a1 * b2 + a2 * b1 + a3 * b0 + 19 * a4 * b4, 0 + a0 * b4 + a1 * b3 + a2 * b2 + a3 * b1 + a4 * b0] := by
  simp [mwO, mwI, mt, mx]
theorem mEnd_raw (a b c d e n1 n2 n3 n4 C : Int) (h1 : n1 = b + (a + 0) / 2251799813685248) (h2 : n2 = c + n1 / 2251799813685248) (h3 : n3 = d + n2 / 2251799813685248) (h4 : n4 = e + n3 / 2251799813685248) (hC : C = n4 / 2251799813685248) :
    mEnd [a, b, c, d, e] = [(C * 19 + (a + 0) % 2251799813685248) % 2251799813685248, IntKind.u64.wrap (n1 % 2251799813685248 + (C * 19 + (a + 0) % 2251799813685248) / 2251799813685248), n2 % 2251799813685248, n3 % 2251799813685248, n4 % 2251799813685248] := by
  subst hC h4 h3 h2 h1
  rfl
theorem mEnd_ok {U : List Int} (hl : U.length = 5) (hb : Bd 18446744073709551616000000000000000 U) : W5 (mEnd U) ∧ ∃ q, val U = val (mEnd U) + PP * q := by
  obtain ⟨a, b, c, d, e, rfl⟩ := five hl
  have ha : 0 ≤ a ∧ a ≤ 18446744073709551616000000000000000 := hb 0
  have hb1 : 0 ≤ b ∧ b ≤ 18446744073709551616000000000000000 := hb 1
  have hc : 0 ≤ c ∧ c ≤ 18446744073709551616000000000000000 := hb 2
  have hd : 0 ≤ d ∧ d ≤ 18446744073709551616000000000000000 := hb 3
  have he : 0 ≤ e ∧ e ≤ 18446744073709551616000000000000000 := hb 4
  obtain ⟨n1, h1⟩ : ∃ n, n = b + (a + 0) / 2251799813685248 := ⟨_, rfl⟩
  obtain ⟨n2, h2⟩ : ∃ n, n = c + n1 / 2251799813685248 := ⟨_, rfl⟩
  obtain ⟨n3, h3⟩ : ∃ n, n = d + n2 / 2251799813685248 := ⟨_, rfl⟩
  obtain ⟨n4, h4⟩ : ∃ n, n = e + n3 / 2251799813685248 := ⟨_, rfl⟩
  obtain ⟨C, hC⟩ : ∃ n, n = n4 / 2251799813685248 := ⟨_, rfl⟩
  rw [mEnd_raw a b c d e n1 n2 n3 n4 C h1 h2 h3 h4 hC]
  rw [Int.add_zero] at h1 ⊢
  have hC1 : 0 ≤ C ∧ C < 18446744073709551616 := by omega
  obtain ⟨r, hr⟩ : ∃ n, n = (C * 19 + a % 2251799813685248) / 2251799813685248 := ⟨_, rfl⟩
  have hr1 : 0 ≤ r ∧ r ≤ 1000000 := by omega
  have hw : IntKind.u64.wrap (n1 % 2251799813685248 + r) = n1 % 2251799813685248 + r := by rw [wr64]; omega
  rw [← hr, hw]
  refine ⟨W5.mk5 (B := 18446744073709551616) (by decide) (by omega) (by omega) (by omega) (by omega) (by omega), C, ?_⟩
  rw [val5, val5]
  unfold PP
  omega
theorem mulL_ok {x y : List Int} (hx : x.length = 5) (hy : y.length = 5) (hLx : Lim x) (hLy : Lim y) : Lb 2251799813685268 (mulL x y) ∧ ∃ q, val x * val y = val (mulL x y) + PP * q := by
  have hb : Bd 18446744073709551616000000000000000 (mwO x y 5) := fun j => by
    have := mwO_bound hLx hLy 5 j
    push_cast at this
    omega
  obtain ⟨h1, q1, e1⟩ := mEnd_ok (mwO_length x y 5) hb
  obtain ⟨h2, q2, e2⟩ := wk2_ok h1
  refine ⟨h2, ?_⟩
  have hv : ∃ q, val x * val y = val (mwO x y 5) + PP * q := by
    clear hb h1 e1 h2 e2
    obtain ⟨a0, a1, a2, a3, a4, rfl⟩ := five hx
    obtain ⟨b0, b1, b2, b3, b4, rfl⟩ := five hy
    rw [mwO_raw, val5, val5, val5]
    unfold PP
    exact ⟨(a1 * b4 + a2 * b3 + a3 * b2 + a4 * b1) + 2251799813685248 * (a2 * b4 + a3 * b3 + a4 * b2) + 5070602400912917605986812821504 * (a3 * b4 + a4 * b3) + 11417981541647679048466287755595961091061972992 * (a4 * b4), by grind⟩
  obtain ⟨q0, e0⟩ := hv
  refine ⟨q0 + q1 + q2, ?_⟩
  unfold mulL
  rw [e0, e1, e2, Int.mul_add, Int.mul_add]
  omega
end Go.Proofs.YtbenedckmapjoaaDoor.F
