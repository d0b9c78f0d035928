/- Several texts as one. -/
import Derived.Test.YtbenedckmapjoaaDoorY8
namespace Go.Proofs.YtbenedckmapjoaaDoor.D
open Go.RowKit Go.Proofs.YtbenedckmapjoaaDoor.F Go.Proofs.YtbenedckmapjoaaDoor.H Go.Proofs.YtbenedckmapjoaaDoor.X Go.Proofs.YtbenedckmapjoaaDoorW.PrintWords Go.Proofs.YtbenedckmapjoaaDoorW.PrintLast Go.Proofs.YtbenedckmapjoaaDoorW.PrintMore
set_option linter.unusedVariables false
set_option linter.unusedSimpArgs false
/-- The sectors with some of the sectors of b put from a on; and with all of them. -/
def Torn (S S' : List (List Int)) (a : Nat) (b : List Int) (q : Nat) : Prop := S'.length = S.length ∧ ∀ j, S'.getD j [] = S.getD j [] ∨ (a ≤ j ∧ j < a + q ∧ S'.getD j [] = sect b (j - a))
def Done (S S' : List (List Int)) (a : Nat) (b : List Int) (q : Nat) : Prop := S'.length = S.length ∧ ∀ j, S'.getD j [] = if a ≤ j ∧ j < a + q then sect b (j - a) else S.getD j []
theorem Hs_get2 (k : Nat) (b : List Int) (i j : Nat) (h : j < i) : (Hs k b i).getD j (0, []) = (((k + j : Nat) : Int), sect b j) := Hs_get k b i j h
theorem puts_torn (kp : Nat → Bool) (S : List (List Int)) (k q : Nat) (b : List Int) (hq : k + q ≤ S.length) : ∀ i, i ≤ q → ∀ j, (putsL kp (Hs k b q) S i).getD j [] = S.getD j [] ∨ (k ≤ j ∧ j < k + i ∧ (putsL kp (Hs k b q) S i).getD j [] = sect b (j - k))
  | 0, _, j => .inl rfl
  | i + 1, hi, j => by
    rw [putsL, Hs_get k b q i (by omega)]
    have e : (((k + i : Nat) : Int), sect b i).1.toNat = k + i := by show ((k + i : Nat) : Int).toNat = k + i; omega
    rw [e]
    have ih := puts_torn kp S k q b hq i (by omega) j
    split
    · rw [getD_set_gen _ _ (k + i) _ _ (by rw [putsL_length]; omega)]
      by_cases h : k + i = j
      · rw [if_pos h]
        exact .inr ⟨by omega, by omega, by rw [← h]; show sect b i = sect b (k + i - k); rw [show k + i - k = i by omega]⟩
      · rw [if_neg h]
        rcases ih with ih | ⟨h1, h2, h3⟩
        · exact .inl ih
        · exact .inr ⟨h1, by omega, h3⟩
    · rcases ih with ih | ⟨h1, h2, h3⟩
      · exact .inl ih
      · exact .inr ⟨h1, by omega, h3⟩
theorem puts_done (S : List (List Int)) (k q : Nat) (b : List Int) (hq : k + q ≤ S.length) : ∀ i, i ≤ q → ∀ j, (putsL (fun _ => true) (Hs k b q) S i).getD j [] = if k ≤ j ∧ j < k + i then sect b (j - k) else S.getD j []
  | 0, _, j => by rw [if_neg (by omega)]; rfl
  | i + 1, hi, j => by
    rw [putsL, if_pos rfl, Hs_get k b q i (by omega)]
    have e : (((k + i : Nat) : Int), sect b i).1.toNat = k + i := by show ((k + i : Nat) : Int).toNat = k + i; omega
    rw [e, getD_set_gen _ _ (k + i) _ _ (by rw [putsL_length]; omega), puts_done S k q b hq i (by omega) j]
    by_cases h : k + i = j
    · subst h
      rw [if_pos rfl, if_pos (by omega)]
      show sect b i = sect b (k + i - k)
      rw [show k + i - k = i by omega]
    · rw [if_neg h]
      by_cases h2 : k ≤ j ∧ j < k + i
      · rw [if_pos h2, if_pos (by omega)]
      · rw [if_neg h2, if_neg (by omega)]
theorem saves_any (d : DSt) (k : Nat) (b : List Int) (hH : d.H = []) (hd : d.down = false) : ∀ i, k + i ≤ d.S.length →
    ((d.saves k b i).2 = 0 ∧ (d.saves k b i).1.H = Hs k b i ∧ (d.saves k b i).1.S = d.S ∧ (d.saves k b i).1.down = false) ∨ ((d.saves k b i).2 = 60 ∧ (d.saves k b i).1.H = [] ∧ (d.saves k b i).1.down = true ∧ Torn d.S (d.saves k b i).1.S k b i)
  | 0, _ => .inl ⟨rfl, hH, rfl, hd⟩
  | i + 1, hi => by
    rcases saves_any d k b hH hd i (by omega) with ⟨h1, h2, h3, h4⟩ | ⟨h1, h2, h3, h4⟩
    · rw [DSt.saves, if_pos h1]
      obtain ⟨s1, s2, s3, s4, s5⟩ := stroke_same ((d.saves k b i).1.hold (k + i) (sect b i))
      have hH2 : ((d.saves k b i).1.hold (k + i) (sect b i)).stroke.H = Hs k b (i + 1) := by
        rw [s2, Hs, ← h2]; rfl
      have hS2 : ((d.saves k b i).1.hold (k + i) (sect b i)).stroke.S = d.S := s1.trans h3
      unfold DSt.write
      split
      · refine .inr ⟨rfl, rfl, rfl, ?_⟩
        unfold DSt.lost
        simp only
        rw [hH2, hS2, Hs_length]
        exact ⟨putsL_length _ _ _ _, fun j => puts_torn _ d.S k (i + 1) b hi (i + 1) (Nat.le_refl _) j⟩
      · exact .inl ⟨rfl, hH2, hS2, s3.trans h4⟩
    · rw [DSt.saves, if_neg (by rw [h1]; decide)]
      exact .inr ⟨h1, h2, h3, h4.1, fun j => by
        rcases h4.2 j with e | ⟨e1, e2, e3⟩
        · exact .inl e
        · exact .inr ⟨e1, by omega, e3⟩⟩
/-- Bytes written from a sector on, and flushed. -/
def stepD (d : DSt) (a : Nat) (b : List Int) : DSt × Int := if (d.saves a b (needN b.length)).2 = 0 then (d.saves a b (needN b.length)).1.flush else d.saves a b (needN b.length)
theorem step_any (d : DSt) (a : Nat) (b : List Int) (hH : d.H = []) (hd : d.down = false) (hq : a + needN b.length ≤ d.S.length) :
    (stepD d a b).1.H = [] ∧ ((stepD d a b).1.S.length = d.S.length) ∧ (((stepD d a b).2 = 0 ∧ (stepD d a b).1.down = false ∧ Done d.S (stepD d a b).1.S a b (needN b.length)) ∨ ((stepD d a b).2 = 60 ∧ (stepD d a b).1.down = true ∧ Torn d.S (stepD d a b).1.S a b (needN b.length))) := by
  unfold stepD
  rcases saves_any d a b hH hd (needN b.length) hq with ⟨h1, h2, h3, h4⟩ | ⟨h1, h2, h3, h4⟩
  · rw [if_pos h1]
    obtain ⟨s1, s2, s3, s4, s5⟩ := stroke_same (d.saves a b (needN b.length)).1
    have hH2 := s2.trans h2
    have hS2 := s1.trans h3
    unfold DSt.flush
    split
    · have hT : Torn d.S (d.saves a b (needN b.length)).1.stroke.lost.S a b (needN b.length) := by
        unfold DSt.lost
        simp only
        rw [hH2, hS2, Hs_length]
        exact ⟨putsL_length _ _ _ _, fun j => puts_torn _ d.S a _ b hq _ (Nat.le_refl _) j⟩
      exact ⟨rfl, hT.1, .inr ⟨rfl, rfl, hT⟩⟩
    · have hT : Done d.S (d.saves a b (needN b.length)).1.stroke.put.S a b (needN b.length) := by
        unfold DSt.put
        simp only
        rw [hH2, hS2, Hs_length]
        exact ⟨putsL_length _ _ _ _, fun j => puts_done d.S a _ b hq _ (Nat.le_refl _) j⟩
      exact ⟨rfl, hT.1, .inl ⟨rfl, s3.trans h4, hT⟩⟩
  · rw [if_neg (by rw [h1]; decide)]
    exact ⟨h2, h4.1, .inr ⟨h1, h3, h4⟩⟩
/-- Sectors one behind the other. -/
def secS (S : List (List Int)) (k : Nat) : Nat → List Int
  | 0 => []
  | i + 1 => secS S k i ++ S.getD (k + i) []
theorem secS_congr (S S' : List (List Int)) (k : Nat) : ∀ q, (∀ i, i < q → S'.getD (k + i) [] = S.getD (k + i) []) → secS S' k q = secS S k q
  | 0, _ => rfl
  | q + 1, h => by rw [secS, secS, secS_congr S S' k q (fun i hi => h i (by omega)), h q (by omega)]
theorem sees_secS (d : DSt) (hH : d.H = []) (k : Nat) : ∀ q, d.sees k q = secS d.S k q
  | 0 => rfl
  | q + 1 => by
    rw [DSt.sees, secS, sees_secS d hH k q]
    unfold DSt.see
    rw [hH]
    rfl
theorem secS_take (S : List (List Int)) (k : Nat) (b : List Int) : ∀ q, (∀ i, i < q → S.getD (k + i) [] = sect b i) → (∀ i, i < q → i * 64 ≤ b.length) → (secS S k q).length = q * 64 ∧ (secS S k q).take b.length = b.take (q * 64)
  | 0, _, _ => ⟨rfl, by rw [secS, List.take_nil, Nat.zero_mul, List.take_zero]⟩
  | q + 1, hd, hq => by
    obtain ⟨h1, h2⟩ := secS_take S k b q (fun i hi => hd i (by omega)) (fun i hi => hq i (by omega))
    have h3 := hq q (by omega)
    refine ⟨by rw [secS, List.length_append, h1, hd q (by omega), sect_length]; omega, ?_⟩
    rw [secS, List.take_append, h1, h2, hd q (by omega), sect_take b q h3]
    rw [show (q + 1) * 64 = q * 64 + 64 by omega, List.take_add]
/-- An area's generation and record. -/
def genS (h : List Int) : Int := numL ((h.drop 4).take 8)
def lenS (h : List Int) : Nat := (numL ((h.drop 12).take 4)).toNat
def recS (S : List (List Int)) (k n : Nat) : List Int := (secS S (2 + k * 10 + 1) (needN n)).take n
def areaS (S : List (List Int)) (k : Nat) : Option (Int × List Int) :=
  if genS (S.getD (2 + k * 10) []) = 0 ∨ 576 < lenS (S.getD (2 + k * 10) []) then none
  else if S.getD (2 + k * 10) [] = headL (genS (S.getD (2 + k * 10) [])) (recS S k (lenS (S.getD (2 + k * 10) []))) then some (genS (S.getD (2 + k * 10) []), recS S k (lenS (S.getD (2 + k * 10) []))) else none
theorem areaS_congr (S S' : List (List Int)) (k : Nat) (h : ∀ j, 2 + k * 10 ≤ j → j < 12 + k * 10 → S'.getD j [] = S.getD j []) : areaS S' k = areaS S k := by
  unfold areaS
  rw [h (2 + k * 10) (by omega) (by omega)]
  by_cases hc : genS (S.getD (2 + k * 10) []) = 0 ∨ 576 < lenS (S.getD (2 + k * 10) [])
  · rw [if_pos hc, if_pos hc]
  · rw [if_neg hc, if_neg hc]
    have e : recS S' k (lenS (S.getD (2 + k * 10) [])) = recS S k (lenS (S.getD (2 + k * 10) [])) := by
      unfold recS
      rw [secS_congr S S' _ _ (fun i hi => h _ (by omega) (by unfold needN at hi; omega))]
    rw [e]
theorem areaS_zero (S : List (List Int)) (k : Nat) (h : S.getD (2 + k * 10) [] = List.replicate 64 0) : areaS S k = none := by
  unfold areaS
  rw [h, if_pos (.inl (by decide))]
theorem preH_form (g : Int) (n : Nat) : ∃ t : List Int, preH g n = [73, 77, 80, 82, g / 256 ^ 7 % 256, g / 256 ^ 6 % 256, g / 256 ^ 5 % 256, g / 256 ^ 4 % 256, g / 256 ^ 3 % 256, g / 256 ^ 2 % 256, g / 256 ^ 1 % 256, g / 256 ^ 0 % 256, (n : Int) / 256 ^ 3 % 256, (n : Int) / 256 ^ 2 % 256, (n : Int) / 256 ^ 1 % 256, (n : Int) / 256 ^ 0 % 256] ++ t := ⟨List.replicate 48 0, by rfl⟩
theorem headL_form (g : Int) (r : List Int) : ∃ t : List Int, headL g r = [73, 77, 80, 82, g / 256 ^ 7 % 256, g / 256 ^ 6 % 256, g / 256 ^ 5 % 256, g / 256 ^ 4 % 256, g / 256 ^ 3 % 256, g / 256 ^ 2 % 256, g / 256 ^ 1 % 256, g / 256 ^ 0 % 256, (r.length : Int) / 256 ^ 3 % 256, (r.length : Int) / 256 ^ 2 % 256, (r.length : Int) / 256 ^ 1 % 256, (r.length : Int) / 256 ^ 0 % 256] ++ t := by
  obtain ⟨t, ht⟩ := preH_form g r.length
  unfold headL
  rw [ht]
  exact ⟨_, by rw [List.append_assoc]; rfl⟩
theorem genS_head (g : Int) (r : List Int) (hg : 0 ≤ g ∧ g < 18446744073709551616) : genS (headL g r) = g := by
  obtain ⟨t, ht⟩ := headL_form g r
  rw [ht]
  show numL [g / 256 ^ 7 % 256, g / 256 ^ 6 % 256, g / 256 ^ 5 % 256, g / 256 ^ 4 % 256, g / 256 ^ 3 % 256, g / 256 ^ 2 % 256, g / 256 ^ 1 % 256, g / 256 ^ 0 % 256] = g
  simp only [numL, List.foldl_cons, List.foldl_nil]
  omega
theorem lenS_head (g : Int) (r : List Int) (hr : r.length < 4294967296) : lenS (headL g r) = r.length := by
  obtain ⟨t, ht⟩ := headL_form g r
  rw [ht]
  show (numL [(r.length : Int) / 256 ^ 3 % 256, (r.length : Int) / 256 ^ 2 % 256, (r.length : Int) / 256 ^ 1 % 256, (r.length : Int) / 256 ^ 0 % 256]).toNat = r.length
  simp only [numL, List.foldl_cons, List.foldl_nil]
  omega
theorem areaS_new (S : List (List Int)) (k : Nat) (g : Int) (x : List Int) (hg : 0 < g ∧ g < 18446744073709551616) (hx : x.length ≤ 576) (h0 : S.getD (2 + k * 10) [] = headL g x) (hd : ∀ i, i < needN x.length → S.getD (2 + k * 10 + 1 + i) [] = sect x i) : areaS S k = some (g, x) := by
  unfold areaS
  rw [h0, genS_head g x (by omega), lenS_head g x (by omega), if_neg (by omega)]
  have e : recS S k x.length = x := by
    unfold recS
    have := (secS_take S (2 + k * 10 + 1) x (needN x.length) hd (fun i hi => by unfold needN at hi; omega)).2
    rw [this, List.take_of_length_le (by unfold needN; omega)]
  rw [e, if_pos rfl]
/-- The newest area, its generation, its record. -/
def newL : Option (Int × List Int) → Option (Int × List Int) → Option (Nat × Int × List Int)
  | none, none => none
  | none, some (g, r) => some (1, g, r)
  | some (g, r), none => some (0, g, r)
  | some (g, r), some (g1, r1) => if g < g1 then some (1, g1, r1) else some (0, g, r)
def newS (S : List (List Int)) : Option (Nat × Int × List Int) := newL (areaS S 0) (areaS S 1)
def genN : Option (Nat × Int × List Int) → Int
  | none => 0
  | some (_, g, _) => g
def toN : Option (Nat × Int × List Int) → Nat
  | some (0, _, _) => 1
  | _ => 0
/-- A record is put. -/
def putD (d : DSt) (x : List Int) : DSt × Int :=
  if (stepD d (2 + toN (newS d.S) * 10) (List.replicate 64 0)).2 = 0 then
    if (stepD (stepD d (2 + toN (newS d.S) * 10) (List.replicate 64 0)).1 (2 + toN (newS d.S) * 10 + 1) x).2 = 0 then
      stepD (stepD (stepD d (2 + toN (newS d.S) * 10) (List.replicate 64 0)).1 (2 + toN (newS d.S) * 10 + 1) x).1 (2 + toN (newS d.S) * 10) (headL (genN (newS d.S) + 1) x)
    else stepD (stepD d (2 + toN (newS d.S) * 10) (List.replicate 64 0)).1 (2 + toN (newS d.S) * 10 + 1) x
  else stepD d (2 + toN (newS d.S) * 10) (List.replicate 64 0)
theorem sect_own (b : List Int) (h : b.length = 64) : sect b 0 = b := by
  unfold sect
  rw [Nat.zero_mul, List.drop_zero, List.take_of_length_le (by omega), h, Nat.sub_self, List.replicate_zero, List.append_nil]
/-- What the other area's being gone, or the next generation, makes the newest. -/
theorem new_gone (S S' : List (List Int)) (hto : areaS S' (toN (newS S)) = none ∨ areaS S' (toN (newS S)) = areaS S (toN (newS S))) (hot : areaS S' (1 - toN (newS S)) = areaS S (1 - toN (newS S))) : newS S' = newS S := by
  rcases hto with hto | hto
  · unfold newS at hto hot ⊢
    cases h0 : areaS S 0 with
    | none =>
      cases h1 : areaS S 1 with
      | none => rw [h0, h1] at hto hot; simp only [newL, toN] at hto hot ⊢; rw [hto, hot, h1]
      | some p => rw [h0, h1] at hto hot; simp only [newL, toN] at hto hot ⊢; rw [hto, hot, h1]
    | some p =>
      cases h1 : areaS S 1 with
      | none => rw [h0, h1] at hto hot; simp only [newL, toN] at hto hot ⊢; rw [hto, hot, h0]
      | some q =>
        rw [h0, h1] at hto hot
        simp only [newL] at hto hot ⊢
        by_cases hl : p.1 < q.1
        · rw [if_pos hl] at hto hot ⊢
          simp only [toN] at hto hot
          rw [hto, hot, h1]
        · rw [if_neg hl] at hto hot ⊢
          simp only [toN] at hto hot
          rw [hto, hot, h0]
  · have h01 : areaS S' 0 = areaS S 0 ∧ areaS S' 1 = areaS S 1 := by
      have : toN (newS S) = 0 ∨ toN (newS S) = 1 := by
        unfold toN; split; exact .inr rfl; exact .inl rfl
      rcases this with e | e <;> rw [e] at hto hot
      · exact ⟨hto, hot⟩
      · exact ⟨hot, hto⟩
    unfold newS
    rw [h01.1, h01.2]
theorem new_next (S S' : List (List Int)) (x : List Int) (hto : areaS S' (toN (newS S)) = some (genN (newS S) + 1, x)) (hot : areaS S' (1 - toN (newS S)) = areaS S (1 - toN (newS S))) : newS S' = some (toN (newS S), genN (newS S) + 1, x) := by
  unfold newS at hto hot ⊢
  cases h0 : areaS S 0 with
  | none =>
    cases h1 : areaS S 1 with
    | none => rw [h0, h1] at hto hot; simp only [newL, toN, genN] at hto hot ⊢; rw [hto, hot, h1]
    | some p => rw [h0, h1] at hto hot; simp only [newL, toN, genN] at hto hot ⊢; rw [hto, hot, h1]; simp only; rw [if_neg (by omega)]
  | some p =>
    cases h1 : areaS S 1 with
    | none => rw [h0, h1] at hto hot; simp only [newL, toN, genN] at hto hot ⊢; rw [hto, hot, h0]; simp only; rw [if_pos (by omega)]
    | some q =>
      rw [h0, h1] at hto hot
      simp only [newL] at hto hot ⊢
      by_cases hl : p.1 < q.1
      · rw [if_pos hl] at hto hot ⊢
        simp only [toN, genN] at hto hot ⊢
        rw [hto, hot, h1]; simp only; rw [if_neg (by omega)]
      · rw [if_neg hl] at hto hot ⊢
        simp only [toN, genN] at hto hot ⊢
        rw [hto, hot, h0]; simp only; rw [if_pos (by omega)]
/-- A put, whole or torn: the newest record is what was put, or what it was. -/
theorem put_any (d : DSt) (x : List Int) (hH : d.H = []) (hd : d.down = false) (hS : d.S.length = 30) (hx : x.length ≤ 500) (hg : 0 ≤ genN (newS d.S) ∧ genN (newS d.S) < 1000) :
    (putD d x).1.H = [] ∧ (putD d x).1.S.length = 30 ∧ (((putD d x).2 = 0 ∧ (putD d x).1.down = false ∧ newS (putD d x).1.S = some (toN (newS d.S), genN (newS d.S) + 1, x)) ∨ ((putD d x).2 = 60 ∧ (putD d x).1.down = true ∧ (newS (putD d x).1.S = newS d.S ∨ newS (putD d x).1.S = some (toN (newS d.S), genN (newS d.S) + 1, x)))) := by
  have hk : toN (newS d.S) ≤ 1 := by unfold toN; split <;> decide
  have hgone := new_gone d.S
  have hnext := new_next d.S
  obtain ⟨k, hk2⟩ : ∃ k, k = toN (newS d.S) := ⟨_, rfl⟩
  obtain ⟨g, hg2⟩ : ∃ g, g = genN (newS d.S) := ⟨_, rfl⟩
  obtain ⟨n0, hn0⟩ : ∃ n0, n0 = newS d.S := ⟨_, rfl⟩
  unfold putD
  rw [← hg2, ← hk2] at hnext
  rw [← hk2] at hgone hk
  rw [← hg2] at hg
  rw [← hk2, ← hg2]
  rw [← hn0] at hgone ⊢
  clear hk2 hg2 hn0
  have nz : needN (List.replicate 64 (0 : Int)).length = 1 := by decide
  have nh : needN (headL (g + 1) x).length = 1 := by rw [headL_length]; decide
  have nx : needN x.length ≤ 8 := by unfold needN; omega
  obtain ⟨a1, a2, a3⟩ := step_any d (2 + k * 10) (List.replicate 64 0) hH hd (by rw [nz, hS]; omega)
  rw [nz] at a3
  obtain ⟨s1, hs1⟩ : ∃ s, s = stepD d (2 + k * 10) (List.replicate 64 0) := ⟨_, rfl⟩
  rw [← hs1] at a1 a2 a3 ⊢
  rcases a3 with ⟨b1, b2, b3⟩ | ⟨b1, b2, b3⟩
  · rw [if_pos b1]
    have z1 : s1.1.S.getD (2 + k * 10) [] = List.replicate 64 0 := by
      rw [b3.2, if_pos (by omega), Nat.sub_self]; exact sect_own _ (by decide)
    have o1 : ∀ j, j < 2 + k * 10 ∨ 12 + k * 10 ≤ j → s1.1.S.getD j [] = d.S.getD j [] := fun j hj => by rw [b3.2, if_neg (by omega)]
    obtain ⟨c1, c2, c3⟩ := step_any s1.1 (2 + k * 10 + 1) x a1 b2 (by rw [a2, hS]; omega)
    obtain ⟨s2, hs2⟩ : ∃ s, s = stepD s1.1 (2 + k * 10 + 1) x := ⟨_, rfl⟩
    rw [← hs2] at c1 c2 c3 ⊢
    rcases c3 with ⟨d1, d2, d3⟩ | ⟨d1, d2, d3⟩
    · rw [if_pos d1]
      have z2 : s2.1.S.getD (2 + k * 10) [] = List.replicate 64 0 := by rw [d3.2, if_neg (by omega)]; exact z1
      have o2 : ∀ j, j < 2 + k * 10 ∨ 12 + k * 10 ≤ j → s2.1.S.getD j [] = d.S.getD j [] := fun j hj => by rw [d3.2, if_neg (by omega)]; exact o1 j hj
      have r2 : ∀ i, i < needN x.length → s2.1.S.getD (2 + k * 10 + 1 + i) [] = sect x i := fun i hi => by rw [d3.2, if_pos (by omega)]; congr 1; omega
      obtain ⟨e1, e2, e3⟩ := step_any s2.1 (2 + k * 10) (headL (g + 1) x) c1 d2 (by rw [nh, c2, a2, hS]; omega)
      rw [nh] at e3
      obtain ⟨s3, hs3⟩ : ∃ s, s = stepD s2.1 (2 + k * 10) (headL (g + 1) x) := ⟨_, rfl⟩
      rw [← hs3] at e1 e2 e3 ⊢
      have hnew : s3.1.S.getD (2 + k * 10) [] = headL (g + 1) x → (∀ j, j ≠ 2 + k * 10 → s3.1.S.getD j [] = s2.1.S.getD j []) → newS s3.1.S = some (k, g + 1, x) := fun h0 h1 =>
        hnext s3.1.S x (areaS_new _ k (g + 1) x (by omega) (by omega) h0 (fun i hi => by rw [h1 _ (by omega)]; exact r2 i hi)) (areaS_congr _ _ _ (fun j hj hj2 => by rw [h1 _ (by omega)]; exact o2 j (by omega)))
      refine ⟨e1, by rw [e2, c2, a2, hS], ?_⟩
      rcases e3 with ⟨f1, f2, f3⟩ | ⟨f1, f2, f3⟩
      · exact .inl ⟨f1, f2, hnew (by rw [f3.2, if_pos (by omega), Nat.sub_self]; exact sect_own _ (headL_length _ _)) (fun j hj => by rw [f3.2, if_neg (by omega)])⟩
      · refine .inr ⟨f1, f2, ?_⟩
        have h1 : ∀ j, j ≠ 2 + k * 10 → s3.1.S.getD j [] = s2.1.S.getD j [] := fun j hj => by
          rcases f3.2 j with e | ⟨x1, x2, _⟩
          · exact e
          · omega
        rcases f3.2 (2 + k * 10) with e | ⟨x1, x2, e⟩
        · exact .inl (hgone s3.1.S (.inl (areaS_zero _ _ (e.trans z2))) (areaS_congr _ _ _ (fun j hj hj2 => by rw [h1 _ (by omega)]; exact o2 j (by omega))))
        · exact .inr (hnew (by rw [e, Nat.sub_self]; exact sect_own _ (headL_length _ _)) h1)
    · rw [if_neg (by rw [d1]; decide)]
      refine ⟨c1, by rw [c2, a2, hS], .inr ⟨d1, d2, .inl ?_⟩⟩
      have h1 : ∀ j, j < 2 + k * 10 + 1 ∨ 12 + k * 10 ≤ j → s2.1.S.getD j [] = s1.1.S.getD j [] := fun j hj => by
        rcases d3.2 j with e | ⟨x1, x2, _⟩
        · exact e
        · omega
      exact hgone s2.1.S (.inl (areaS_zero _ _ ((h1 _ (by omega)).trans z1))) (areaS_congr _ _ _ (fun j hj hj2 => by rw [h1 _ (by omega)]; exact o1 j (by omega)))
  · rw [if_neg (by rw [b1]; decide)]
    refine ⟨a1, by rw [a2, hS], .inr ⟨b1, b2, .inl ?_⟩⟩
    have h1 : ∀ j, j ≠ 2 + k * 10 → s1.1.S.getD j [] = d.S.getD j [] := fun j hj => by
      rcases b3.2 j with e | ⟨x1, x2, _⟩
      · exact e
      · omega
    refine hgone s1.1.S ?_ (areaS_congr _ _ _ (fun j hj hj2 => h1 j (by omega)))
    rcases b3.2 (2 + k * 10) with e | ⟨x1, x2, e⟩
    · exact .inr (areaS_congr _ _ _ (fun j hj hj2 => by by_cases h : j = 2 + k * 10; (rw [h]; exact e); exact h1 j h))
    · exact .inl (areaS_zero _ _ (by rw [e, Nat.sub_self]; exact sect_own _ (by decide)))
/-- Bytes. -/
def Byt (S : List (List Int)) : Prop := ∀ j, ∀ x ∈ S.getD j [], 0 ≤ x ∧ x < 256
theorem sect_bytes (b : List Int) (hb : ∀ x ∈ b, 0 ≤ x ∧ x < 256) (i : Nat) : ∀ x ∈ sect b i, 0 ≤ x ∧ x < 256 := by
  intro x hx
  unfold sect at hx
  rcases List.mem_append.1 hx with h | h
  · exact hb x (List.mem_of_mem_drop (List.mem_of_mem_take h))
  · have := List.eq_of_mem_replicate h
    omega
theorem Torn.byt {S S' : List (List Int)} {a q : Nat} {b : List Int} (h : Torn S S' a b q) (hS : Byt S) (hb : ∀ x ∈ b, 0 ≤ x ∧ x < 256) : Byt S' := fun j => by
  rcases h.2 j with e | ⟨_, _, e⟩ <;> rw [e]
  · exact hS j
  · exact sect_bytes b hb _
theorem Done.byt {S S' : List (List Int)} {a q : Nat} {b : List Int} (h : Done S S' a b q) (hS : Byt S) (hb : ∀ x ∈ b, 0 ≤ x ∧ x < 256) : Byt S' := fun j => by
  rw [h.2 j]
  split
  · exact sect_bytes b hb _
  · exact hS j
theorem step_byt (d : DSt) (a : Nat) (b : List Int) (hH : d.H = []) (hd : d.down = false) (hq : a + needN b.length ≤ d.S.length) (hS : Byt d.S) (hb : ∀ x ∈ b, 0 ≤ x ∧ x < 256) : Byt (stepD d a b).1.S := by
  rcases (step_any d a b hH hd hq).2.2 with ⟨_, _, h⟩ | ⟨_, _, h⟩
  · exact h.byt hS hb
  · exact h.byt hS hb
theorem headL_bytes (g : Int) (r : List Int) : ∀ x ∈ headL g r, 0 ≤ x ∧ x < 256 := by
  intro x hx
  unfold headL at hx
  rcases List.mem_append.1 hx with h | h
  · rcases List.mem_append.1 h with h | h
    · exact preH_bytes g _ x (List.mem_of_mem_take h)
    · exact X.dig_bytes _ x h
  · exact preH_bytes g _ x (List.mem_of_mem_drop h)
theorem zero_bytes : ∀ x ∈ List.replicate 64 (0 : Int), 0 ≤ x ∧ x < 256 := fun x hx => by have := List.eq_of_mem_replicate hx; omega
theorem secS_bytes (S : List (List Int)) (hS : Byt S) (k : Nat) : ∀ q, ∀ x ∈ secS S k q, 0 ≤ x ∧ x < 256
  | 0, x, h => by cases h
  | q + 1, x, h => by
    rw [secS] at h
    rcases List.mem_append.1 h with h | h
    · exact secS_bytes S hS k q x h
    · exact hS _ x h
theorem put_byt (d : DSt) (x : List Int) (hH : d.H = []) (hd : d.down = false) (hS : d.S.length = 30) (hx : x.length ≤ 500) (hB : Byt d.S) (hb : ∀ y ∈ x, 0 ≤ y ∧ y < 256) : Byt (putD d x).1.S := by
  have hk : toN (newS d.S) ≤ 1 := by unfold toN; split <;> decide
  have nz : needN (List.replicate 64 (0 : Int)).length = 1 := by decide
  have nh : needN (headL (genN (newS d.S) + 1) x).length = 1 := by rw [headL_length]; decide
  have nx : needN x.length ≤ 8 := by unfold needN; omega
  unfold putD
  generalize toN (newS d.S) = k at hk ⊢
  generalize genN (newS d.S) + 1 = g at nh ⊢
  have a0 := step_byt d (2 + k * 10) (List.replicate 64 0) hH hd (by rw [nz, hS]; omega) hB zero_bytes
  obtain ⟨a1, a2, a3⟩ := step_any d (2 + k * 10) (List.replicate 64 0) hH hd (by rw [nz, hS]; omega)
  split
  · rename_i h1
    have b2 : (stepD d (2 + k * 10) (List.replicate 64 0)).1.down = false := by
      rcases a3 with ⟨_, h, _⟩ | ⟨h, _⟩
      · exact h
      · rw [h1] at h; exact absurd h (by decide)
    have c0 := step_byt (stepD d (2 + k * 10) (List.replicate 64 0)).1 (2 + k * 10 + 1) x a1 b2 (by rw [a2, hS]; omega) a0 hb
    obtain ⟨c1, c2, c3⟩ := step_any (stepD d (2 + k * 10) (List.replicate 64 0)).1 (2 + k * 10 + 1) x a1 b2 (by rw [a2, hS]; omega)
    split
    · rename_i h2
      have d2 : (stepD (stepD d (2 + k * 10) (List.replicate 64 0)).1 (2 + k * 10 + 1) x).1.down = false := by
        rcases c3 with ⟨_, h, _⟩ | ⟨h, _⟩
        · exact h
        · rw [h2] at h; exact absurd h (by decide)
      exact step_byt _ _ _ c1 d2 (by rw [nh, c2, a2, hS]; omega) c0 (headL_bytes g x)
    · exact c0
  · exact a0
end Go.Proofs.YtbenedckmapjoaaDoor.D
namespace Go.Proofs.YtbenedckmapjoaaDoor.D
open Go.RowKit Go.Proofs.YtbenedckmapjoaaDoor.F Go.Proofs.YtbenedckmapjoaaDoor.H Go.Proofs.YtbenedckmapjoaaDoor.X Go.Proofs.YtbenedckmapjoaaDoorW.PrintWords Go.Proofs.YtbenedckmapjoaaDoorW.PrintLast Go.Proofs.YtbenedckmapjoaaDoorW.PrintMore
set_option linter.unusedVariables false
set_option linter.unusedSimpArgs false
/-- Where a store lies. -/
def Sto (s p : Nat) (w : World) : Prop := w.heap[s]? = some (.cells #[.pointer (some ⟨p, 0, none⟩), .int .i64 2, .int .i64 10] 120 (0, 0))
theorem Sto.below {s p : Nat} {w w1 : World} (h : Sto s p w) (hb : Below w.heap.size w w1) : Sto s p w1 := blk_below h hb
theorem Sto.mv {s p : Nat} {w w1 : World} (h : Sto s p w) (m : Mv w w1) : Sto s p w1 := (m.block s (blk_lt h) (fun cs t fr h' => by rw [show w.heap[s]? = _ from h] at h'; injection h' with h'; injection h' with _ h' _; subst h'; decide)).trans h
theorem Sto.cells {s p : Nat} {w : World} (h : Sto s p w) : w.cell? ⟨s, 0, none⟩ = some (.pointer (some ⟨p, 0, none⟩)) ∧ w.cell? ⟨s, 1, none⟩ = some (.int .i64 2) ∧ w.cell? ⟨s, 2, none⟩ = some (.int .i64 10) := ⟨(blk_cell h 0).trans rfl, (blk_cell h 1).trans rfl, (blk_cell h 2).trans rfl⟩
set_option maxRecDepth 100000 in
set_option maxHeartbeats 4000000 in
theorem room_c {s p : Nat} {w : World} (h : Sto s p w) : Calls Tryd.prog 71 #[.pointer (some ⟨s, 0, none⟩)] w fun e w' => e = .returned (.int .i64 576) ∧ w' = w := by
  have c2 := h.cells.2.2
  clear h
  go_enter Tryd.func71, Tryd.ntmps71
  go_wp2
  go_ret
  exact ⟨rfl, rfl⟩
set_option maxRecDepth 100000 in
set_option maxHeartbeats 4000000 in
theorem place_c {s p : Nat} {w : World} (h : Sto s p w) (k : Nat) (hk : k ≤ 1) : Calls Tryd.prog 72 #[.pointer (some ⟨s, 0, none⟩), .int .i64 (k : Int)] w fun e w' => e = .returned (.int .i64 ((2 + k * 10 : Nat) : Int)) ∧ Below w.heap.size w w' := by
  have c1 := h.cells.2.1
  have c2 := h.cells.2.2
  clear h
  have hkI : (k : Int) ≤ 1 := by omega
  go_enter Tryd.func72, Tryd.ntmps72
  go_wp2
  go_region
  all_goals
    go_wp2
    go_ret
    refine ⟨?_, below_drew1 (Below.refl _ _)⟩
    rw [show ((2 + k * 10 : Nat) : Int) = 2 + (k : Int) * 10 by omega]
    first | rfl | (simp only [i64_w]; congr 2; unfold wrap64; omega)
set_option maxRecDepth 100000 in
set_option maxHeartbeats 4000000 in
theorem sready_c {base p gs s : Nat} {hv cv : Value} {d : DSt} {w : World} (h : Dk base p gs hv cv d w) (hs : Sto s p w) : Calls Tryd.prog 69 #[.pointer (some ⟨s, 0, none⟩)] w fun e w' => e = .returned (.int .i64 d.ready) ∧ w' = w := by
  have c0 := hs.cells.1
  have HU := Aside0.mk (up_c h)
  have hr : d.ready = if d.down then 60 else 0 := rfl
  rw [hr]
  clear hs h hr
  cases hd : d.down <;>
  · rw [hd] at HU
    go_enter Tryd.func69, Tryd.ntmps69
    go_wp2_with (first
      | (go_at_call 114; refine HU.out.mono ?_; rintro e w1 ⟨rfl, hw⟩; have hw := hw.symm; subst hw))
    go_ret
    exact ⟨rfl, rfl⟩
/-- A row that no step of a disk changes. -/
def Keep (base : Nat) (w : World) (A : Option Addr) (n : Nat) : Prop := ∀ ad, A = some ad → 0 < n → ad.block < w.heap.size ∧ ∀ w1, Mv w w1 → Below base w w1 → w1.heap[ad.block]? = w.heap[ad.block]?
theorem Keep.move {base : Nat} {w w1 : World} {A : Option Addr} {n : Nat} (h : Keep base w A n) (m : Mv w w1) (b : Below base w w1) : Keep base w1 A n := fun ad e hn => by
  obtain ⟨h1, h2⟩ := h ad e hn
  exact ⟨Nat.lt_of_lt_of_le h1 m.size, fun w2 m2 b2 => (h2 w2 (m.trans m2) (b.trans b2)).trans (h2 w1 m b).symm⟩
theorem C_keep {w w1 : World} {A : Option Addr} {n : Nat} {b : List Int} (h : Kd.C (Kd.int .u8) w A n b) (hm : ∀ ad, A = some ad → 0 < n → w1.heap[ad.block]? = w.heap[ad.block]?) : Kd.C (Kd.int .u8) w1 A n b := by
  obtain ⟨h1, h2, h3⟩ := h
  refine ⟨h1, h2, fun hn => ?_⟩
  obtain ⟨ad, e, hc⟩ := h3 hn
  refine ⟨ad, e, fun i p hp => ?_⟩
  obtain ⟨cs, e1, e2, e3⟩ := hc i p hp
  refine ⟨cs, e1, e2, fun j u hu => ?_⟩
  have hb2 : (ad.add (i * (Kd.int .u8).sz + j)).block = ad.block := by unfold Addr.add; split <;> rfl
  exact (World.cell?_of_block (w := w) (w' := w1) (a := ad.add (i * (Kd.int .u8).sz + j)) (by rw [hb2]; exact hm ad e hn)).trans (e3 j u hu)
theorem Keep.C {base : Nat} {w w1 : World} {A : Option Addr} {n : Nat} {b : List Int} (h : Keep base w A n) (hC : Kd.C (Kd.int .u8) w A n b) (m : Mv w w1) (k : Below base w w1) : Kd.C (Kd.int .u8) w1 A n b := C_keep hC (fun ad e hn => (h ad e hn).2 w1 m k)
set_option maxRecDepth 100000 in
set_option maxHeartbeats 4000000 in
theorem step_c {base p gs s : Nat} {hv cv : Value} {d : DSt} {w : World} (h : Dk base p gs hv cv d w) (hs : Sto s p w) (hup : d.down = false) (hH : d.H = []) (k : Nat) (b : List Int) (A : Option Addr) (n c : Nat) (hn : n = b.length) (hc : n ≤ c) (hC : Kd.C (Kd.int .u8) w A n b) (hk : k + needN n ≤ d.S.length) (hA : Keep base w A n) :
    Calls Tryd.prog 73 #[.pointer (some ⟨s, 0, none⟩), .int .i64 k, .slice A n c] w fun e w' => e = .returned (.int .i64 (stepD d k b).2) ∧ (∃ hv', Dk base p gs hv' cv (stepD d k b).1 w') ∧ Mv w w' ∧ Below base w w' := by
  have ks := saveg_c h hup k b A n c hn hc hC hk (by rw [hH]; exact Nat.zero_le _) hA
  have hany := saves_any d k b hH hup (needN n) hk
  have hst : stepD d k b = if (d.saves k b (needN n)).2 = 0 then (d.saves k b (needN n)).1.flush else d.saves k b (needN n) := by unfold stepD; rw [hn]
  rw [hst]
  obtain ⟨r, hr⟩ : ∃ r, r = d.saves k b (needN n) := ⟨_, rfl⟩
  rw [← hr] at ks hany ⊢
  have HS := Aside0.mk (And.intro ks hs)
  have c0 := hs.cells.1
  clear ks hs h hup hH hn hc hC hk hA hst hr
  rcases hany with ⟨h1, _, _, h4⟩ | ⟨h1, _, _, _⟩
  · rw [if_pos h1]
    obtain ⟨q, hq⟩ : ∃ q, q = r.1.flush := ⟨_, rfl⟩
    rw [← hq]
    rw [h1] at HS
    have HQ := Aside0.mk (And.intro h4 hq)
    clear h4 hq h1
    go_enter Tryd.func73, Tryd.ntmps73
    go_upto_region 4 with (first
      | (go_at_call 34; refine HS.out.1.mono ?_; rintro e w2 ⟨rfl, ⟨hv2, hD⟩, hM, hB⟩; have c2 := (HS.out.2.mv hM).cells.1; have P2 := Aside0.mk (And.intro hD (And.intro hM hB)); clear hD hM hB))
    clear c0
    go_wp2_with (first
      | (go_at_call 35; have hf := flush_c P2.out.1 HQ.out.1; rw [← HQ.out.2] at hf; refine hf.mono ?_; clear hf; rintro e w3 ⟨rfl, ⟨hv3, hD⟩, hM, hB⟩; have P3 := Aside0.mk (And.intro hD (And.intro (P2.out.2.1.trans hM) (P2.out.2.2.trans hB))); clear hD hM hB))
    go_ret
    exact ⟨rfl, ⟨_, P3.out.1⟩, P3.out.2⟩
  · rw [if_neg (by rw [h1]; decide)]
    rw [h1] at HS
    rw [h1]
    go_enter Tryd.func73, Tryd.ntmps73
    go_wp2_with (first
      | (go_at_call 34; refine HS.out.1.mono ?_; rintro e w2 ⟨rfl, hD, hM, hB⟩; have P2 := Aside0.mk (And.intro hD (And.intro hM hB)); clear hD hM hB))
    go_ret
    exact ⟨rfl, P2.out⟩
end Go.Proofs.YtbenedckmapjoaaDoor.D
