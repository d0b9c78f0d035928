/- What stays over a trail's change; a trail out of entries. -/
import Derived.Test.YtcnpdapampclpaaDoorT2
namespace Go.Proofs.YtcnpdapampclpaaDoor.X
open Go.RowKit Go.Proofs.YtcnpdapampclpaaDoor.H Go.Proofs.YtcnpdapampclpaaDoorW.PrintWords Go.Proofs.YtcnpdapampclpaaDoorW.PrintLast Go.Proofs.YtcnpdapampclpaaDoorW.PrintMore Go.Proofs.YtcnpdapampclpaaDoor.PPl Go.Proofs.YtcnpdapampclpaaDoor.PTp
set_option linter.unusedVariables false
set_option linter.unusedSimpArgs false
section
variable {S : Nat → Prop} {w w1 : World} {base e : Nat} {ok : Nat → Prop} {v : Value}
theorem R_fr {xs : List Int} (h : Kd.R (Kd.int .u8) e w base ok v xs) (hf : Fr S w w1) (hS : ∀ k, base ≤ k → k < w.heap.size → ¬ S k) : Kd.R (Kd.int .u8) e w1 base ok v xs := by
  have h1 := Kd.R_tight rfl h
  refine Kd.R_mono (Kd.R_step h1 (fun k hk hlt => hf.block k hlt (hS k (Kd.R_base h k hk.symm) hlt))) (fun k hk => h.1 k hk.symm)
theorem N_fr {xs : List (List Int)} (h : Kd.N dB e w base ok v xs) (hf : Fr S w w1) (hS : ∀ k, ok k → k < w.heap.size → ¬ S k) : Kd.N dB e w1 base ok v xs := Kd.N_step h (fun k hk hlt => hf.block k hlt (hS k hk hlt))
/-- A row of bytes, as it is read. -/
def IsB (w : World) (v : Value) (a : List Int) : Prop := ∃ A c, v = .slice A a.length c ∧ a.length ≤ c ∧ Kd.C (Kd.int .u8) w A a.length a
/-- A row of rows, as it is read. -/
def IsN (w : World) (v : Value) (l : List (List Int)) : Prop := ∃ A c, v = .slice A l.length c ∧ l.length ≤ c ∧ Kd.C dB w A l.length l
theorem IsB.below {a : List Int} (h : IsB w v a) (hb : Below w.heap.size w w1) : IsB w1 v a := by
  obtain ⟨A, c, h1, h2, h3⟩ := h
  exact ⟨A, c, h1, h2, Kd.C_below h3 hb⟩
theorem IsN.below {l : List (List Int)} (h : IsN w v l) (hb : Below w.heap.size w w1) : IsN w1 v l := by
  obtain ⟨A, c, h1, h2, h3⟩ := h
  exact ⟨A, c, h1, h2, Kd.C_below h3 hb⟩
theorem IsB.of_R {a : List Int} (h : Kd.R (Kd.int .u8) e w base ok v a) : IsB w v a := Kd.R_reads h
theorem IsN.of_N {l : List (List Int)} (h : Kd.N dB e w base ok v l) : IsN w v l := Kd.N_reads h
theorem IsB.nil : IsB w (.slice none 0 0) [] := ⟨none, 0, rfl, Nat.le_refl _, Kd.C_nil _ _⟩
theorem IsN.nil : IsN w (.slice none 0 0) [] := ⟨none, 0, rfl, Nat.le_refl _, Kd.C_nil _ _⟩
end
/-- The marks of entries. -/
def marks (l : List (List Int)) : List (List Int) := l.map fun x => dig (16 :: x)
theorem marks_length (l : List (List Int)) : (marks l).length = l.length := List.length_map _
theorem marks_lv (l : List (List Int)) : Lv (marks l) := fun x hx => by
  obtain ⟨y, _, rfl⟩ := List.mem_map.1 hx
  exact ⟨dig_length _, dig_bytes _⟩
theorem marks_next (l : List (List Int)) (i : Nat) (hi : i < l.length) : marks (l.take (i + 1)) = marks (l.take i) ++ [dig (16 :: l.getD i [])] := by
  unfold marks
  rw [take_next l [] i hi, List.map_append]
  rfl
theorem levL_nil (k : Nat) : levL [] k = [] := by unfold levL; simp
theorem Lv.nil : Lv [] := fun x hx => by cases hx
set_option maxRecDepth 100000 in
set_option maxHeartbeats 8000000 in
theorem row_c (A : Option Addr) (c : Nat) (l : List (List Int)) (w : World) (HG : Glb w) (hC : Kd.C dB w A l.length l) (hb : ∀ x ∈ l, (∀ y ∈ x, 0 ≤ y ∧ y < 256) ∧ x.length ≤ 8192) (hl : l.length ≤ 4096) :
    Calls Tryd.prog 15 #[.slice A l.length c] w fun e w' => ∃ vs, e = .returned (.pointer (some ⟨w.heap.size, 0, none⟩)) ∧ TrailR w.heap.size w.heap.size (marks l).length vs (levL (marks l)) w' ∧ Below w.heap.size w w' := by
  have H0 := Aside0.mk (And.intro HG (And.intro hC hb))
  clear HG hC hb
  go_enter Tryd.func15, Tryd.ntmps15
  go_wp2_with (first
    | (go_at_call 24; with_reducible refine (new_c w).mono ?_; rintro e w1 ⟨rfl, hT1, hB1⟩; have T1 := Aside0.mk (And.intro (hT1.congrL (L' := levL []) (fun k _ => (levL_nil k).symm)) hB1); clear hT1 hB1))
  go_loopg [4] l.length (fun m v4 wr => ∃ (i : Nat) (vs : List Value), m + i = l.length ∧ v4 = .int .i64 i ∧ Aside0 (TrailR w.heap.size w.heap.size (marks (l.take i)).length vs (levL (marks (l.take i))) wr ∧ Below w.heap.size w wr))
  case atStart => exact ⟨0, vs0, by omega, rfl, T1⟩
  case round =>
    obtain ⟨i, vs, hmi, rfl, P⟩ := hrel
    clear T1
    by_cases hi : i < l.length
    · have hiI : (i : Int) < l.length := by omega
      obtain ⟨ad, A1, c1, rfl, hcell0, hlc, hC1⟩ := elem_at H0.out.2.1 hi
      have hcell := (P.out.2.cell (World.block_lt_of_cell? w _ hcell0)).trans hcell0
      have hbb := H0.out.2.2 (l.getD i []) (by rw [List.getD_eq_getElem?_getD, List.getElem?_eq_getElem hi]; exact List.getElem_mem hi)
      have hnext := marks_next l i hi
      have hml : (marks (l.take i)).length = i := by rw [marks_length, List.length_take]; omega
      have hlv := marks_lv (l.take i)
      have hadd := add_ok w.heap.size w.heap.size vs (marks (l.take i)) A1 c1 (l.getD i []) wr (H0.out.1.of P.out.2) P.out.1 hlv (by omega) (Kd.C_below hC1 P.out.2) hlc hbb.1 hbb.2 (by have := H0.out.1.g0; have := H0.out.1.g1; omega)
      rw [← hnext] at hadd
      obtain ⟨b, hb⟩ : ∃ b, b = (l.getD i []).length := ⟨_, rfl⟩
      rw [← hb] at hadd hcell
      have Q := Aside0.mk (And.intro hadd P)
      clear hadd hbb hnext hml hlv hcell0 hC1 hb P hlc
      go_wp2_with (first
        | (go_at_call 25; with_reducible refine Q.out.1.mono ?_; rintro e w2 ⟨rfl, vs2, hT2, hF2, hO2⟩; have P2 := Aside0.mk (And.intro hT2 (Fr.below Q.out.2.out.2 Q.out.2.out.2.size (fun k hk => Q.out.2.out.1.ownT_base hk) hF2)); clear hT2 hF2 hO2))
      go_roundg (gk - 1)
      all_goals first
        | omega
        | exact ⟨i + 1, vs2, by omega, rfl, P2⟩
    · have hiI : ¬ (i : Int) < l.length := by omega
      obtain rfl : i = l.length := by omega
      go_wp2
      go_ret
      have h := P.out
      rw [List.take_length] at h
      exact ⟨rfl, ⟨vs, h.1⟩, h.2⟩
end Go.Proofs.YtcnpdapampclpaaDoor.X
