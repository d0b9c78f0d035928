/- store: the newest area; Get, Put, Open. -/
import Derived.Test.YtbenedckmapjoaaDoorSe
import Derived.OwnWalk
namespace Go.Proofs.YtbenedckmapjoaaDoor.D
open Go.RowKit Go.Proofs.YtbenedckmapjoaaDoor.F Go.Proofs.YtbenedckmapjoaaDoor.H Go.Proofs.YtbenedckmapjoaaDoor.X Go.Proofs.YtbenedckmapjoaaDoorW.PrintWords Go.Proofs.YtbenedckmapjoaaDoorW.PrintLast Go.Proofs.YtbenedckmapjoaaDoorW.PrintMore
set_option linter.unusedVariables false
set_option linter.unusedSimpArgs false
def atN : Option (Nat × Int × List Int) → Int
  | none => -1
  | some (k, _, _) => (k : Int)
def recN : Option (Nat × Int × List Int) → List Int
  | none => []
  | some (_, _, r) => r
def errN : Option (Nat × Int × List Int) → Int
  | none => 70
  | some _ => 0
/-- The newest of some areas, one more looked at. -/
def moreN (o : Option (Nat × Int × List Int)) (k : Nat) : Option (Int × List Int) → Option (Nat × Int × List Int)
  | none => o
  | some (g, r) => if genN o < g then some (k, g, r) else o
def nI (S : List (List Int)) : Nat → Option (Nat × Int × List Int)
  | 0 => none
  | i + 1 => moreN (nI S i) i (areaS S i)
theorem genS_pos (h : List Int) (hb : ∀ x ∈ h, 0 ≤ x ∧ x < 256) : 0 ≤ genS h := by
  have := numL_bound ((h.drop 4).take 8) (fun x hx => hb x (List.mem_of_mem_drop (List.mem_of_mem_take hx))) ((h.drop 4).take 8).length (Nat.le_refl _)
  rw [List.take_length] at this
  exact this.1
theorem area_pos (S : List (List Int)) (hS : Byt S) (k : Nat) (g : Int) (r : List Int) (h : areaS S k = some (g, r)) : 0 < g := by
  unfold areaS at h
  have h0 := genS_pos (S.getD (2 + k * 10) []) (hS _)
  split at h
  · cases h
  · rename_i h1
    split at h
    · injection h with h
      injection h with h _
      omega
    · cases h
theorem moreN_lt {o : Option (Nat × Int × List Int)} {k : Nat} {g : Int} {r : List Int} (h : genN o < g) : moreN o k (some (g, r)) = some (k, g, r) := if_pos h
theorem moreN_ge {o : Option (Nat × Int × List Int)} {k : Nat} {g : Int} {r : List Int} (h : ¬ genN o < g) : moreN o k (some (g, r)) = o := if_neg h
theorem nI_two (S : List (List Int)) (hS : Byt S) : nI S 2 = newS S := by
  show moreN (moreN none 0 (areaS S 0)) 1 (areaS S 1) = newL (areaS S 0) (areaS S 1)
  have h0 := area_pos S hS 0
  have h1 := area_pos S hS 1
  generalize areaS S 0 = a at h0 ⊢
  generalize areaS S 1 = b at h1 ⊢
  rcases a with _ | ⟨g, r⟩ <;> rcases b with _ | ⟨g1, r1⟩
  · rfl
  · have := h1 g1 r1 rfl
    exact moreN_lt (o := none) this
  · have := h0 g r rfl
    exact moreN_lt (o := none) this
  · have := h0 g r rfl
    rw [moreN_lt (o := none) (k := 0) (r := r) (show genN none < g from this)]
    by_cases h : g < g1
    · exact (moreN_lt (o := some (0, g, r)) (k := 1) (r := r1) h).trans (if_pos h).symm
    · exact (moreN_ge (o := some (0, g, r)) (k := 1) (r := r1) h).trans (if_neg h).symm
theorem genN_pos (S : List (List Int)) (hS : Byt S) : 0 ≤ genN (newS S) := by
  have h0 := area_pos S hS 0
  have h1 := area_pos S hS 1
  unfold newS
  generalize areaS S 0 = a at h0 ⊢
  generalize areaS S 1 = b at h1 ⊢
  rcases a with _ | ⟨g, r⟩ <;> rcases b with _ | ⟨g1, r1⟩
  · exact Int.le_refl _
  · have := h1 g1 r1 rfl
    show 0 ≤ g1
    omega
  · have := h0 g r rfl
    show 0 ≤ g
    omega
  · have := h0 g r rfl
    have := h1 g1 r1 rfl
    by_cases h : g < g1
    · rw [show newL (some (g, r)) (some (g1, r1)) = some (1, g1, r1) from if_pos h]
      show 0 ≤ g1
      omega
    · rw [show newL (some (g, r)) (some (g1, r1)) = some (0, g, r) from if_neg h]
      show 0 ≤ g
      omega
set_option maxRecDepth 100000 in
set_option maxHeartbeats 8000000 in
theorem newest_c {base p gs s : Nat} {hv cv : Value} {d : DSt} {w : World} (h : Dk base p gs hv cv d w) (hs : Sto s p w) (HG : Glb w) (hup : d.down = false) (hH : d.H = []) (hS : d.S.length = 30) (hB : Byt d.S) :
    Calls Tryd.prog 70 #[.pointer (some ⟨s, 0, none⟩)] w fun e w' => ∃ A, e = .returned (.tuple #[.int .i64 (atN (newS d.S)), .int .u64 (genN (newS d.S)), .slice A (recN (newS d.S)).length (recN (newS d.S)).length]) ∧ RecC w.heap.size w' A (recN (newS d.S)) ∧ Below w.heap.size w w' := by
  rw [← nI_two d.S hB]
  have HX := Aside0.mk (And.intro h (And.intro hs (And.intro HG (And.intro hup (And.intro hH (And.intro hS hB))))))
  clear h hs HG hup hH hS hB
  go_enter Tryd.func70, Tryd.ntmps70
  go_upto_region 3 with (fail)
  go_loopg [5, 6, 7, 12] 2 (fun j a m r t wr => ∃ (i : Nat) (o : Option (Nat × Int × List Int)) (A : Option Addr), i + j = 2 ∧ a = .int .i64 (atN o) ∧ m = .int .u64 (genN o) ∧ r = .slice A (recN o).length (recN o).length ∧ t = .int .i64 (i : Int) ∧ Aside0 (o = nI d.S i ∧ RecC w.heap.size wr A (recN o) ∧ Below w.heap.size w wr))
  case atStart => exact ⟨0, none, none, by omega, rfl, rfl, rfl, rfl, ⟨rfl, RecC.nil _ _, Below.refl _ _⟩⟩
  case round =>
    obtain ⟨i, o, A, hi', rfl, rfl, rfl, rfl, P⟩ := hrel
    have HI := Lib.hid hi'
    clear hi'
    by_cases hi : i < 2
    · have hiI : (i : Int) < 2 := by omega
      have hk := area_c (HX.out.1.below P.out.2.2) (HX.out.2.1.below P.out.2.2) (HX.out.2.2.1.of P.out.2.2) HX.out.2.2.2.1 HX.out.2.2.2.2.1 HX.out.2.2.2.2.2.1 HX.out.2.2.2.2.2.2 i (by omega)
      have hnx : nI d.S (i + 1) = moreN o i (areaS d.S i) := by rw [P.out.1]; rfl
      generalize areaS d.S i = a at hk hnx
      rcases a with _ | ⟨g, r⟩
      · simp only [gA, rA, Option.isSome_none, List.length_nil] at hk
        have HK := Aside0.mk (And.intro hk hnx)
        clear hk hnx hi
        go_wp2_with (first
          | (go_at_call 115; refine HK.out.1.mono ?_; rintro e w2 ⟨A2, rfl, hR, hB⟩; have P2 := Aside0.mk (And.intro (P.out.2.1.below hB) (below_step P.out.2.2 hB)); clear hR hB))
        go_roundg (gk - 1)
        all_goals first
          | omega
          | exact ⟨i + 1, o, A, by have := HI.out; omega, rfl, rfl, rfl, by go_num, ⟨HK.out.2.symm, P2.out⟩⟩
          | (have := HI.out; omega)
      · simp only [gA, rA, Option.isSome_some] at hk
        have HK := Aside0.mk (And.intro hk hnx)
        clear hk hnx hi
        by_cases hg : genN o < g
        · go_wp2_with (first
            | (go_at_call 115; refine HK.out.1.mono ?_; rintro e w2 ⟨A2, rfl, hR, hB⟩; have P2 := Aside0.mk (And.intro (hR.lower P.out.2.2.size) (below_step P.out.2.2 hB)); clear hR hB))
          go_roundg (gk - 1)
          all_goals first
            | omega
            | exact ⟨i + 1, some (i, g, r), A2, by have := HI.out; omega, rfl, rfl, rfl, by go_num, ⟨by rw [HK.out.2]; exact (moreN_lt hg).symm, P2.out⟩⟩
            | (have := HI.out; omega)
        · have hgb : decide (genN o < g) = false := decide_eq_false hg
          have HG := Lib.hid hg
          clear hg
          go_wp2_with (first
            | (go_at_call 115; refine HK.out.1.mono ?_; rintro e w2 ⟨A2, rfl, hR, hB⟩; have P2 := Aside0.mk (And.intro (P.out.2.1.below hB) (below_step P.out.2.2 hB)); clear hR hB))
          go_roundg (gk - 1)
          case rel => exact ⟨i + 1, o, A, by have := HI.out; omega, rfl, rfl, rfl, by go_num, ⟨by rw [HK.out.2]; exact (moreN_ge (by have := HG.out; omega)).symm, P2.out⟩⟩
          case measure => have := HI.out; omega
    · have hiI : ¬ (i : Int) < 2 := by omega
      have hi2 : o = nI d.S 2 := by rw [P.out.1]; congr 1; have := HI.out; omega
      subst hi2
      clear hi
      go_wp2
      go_ret3
      exact ⟨A, rfl, P.out.2.1, P.out.2.2⟩
set_option maxRecDepth 100000 in
set_option maxHeartbeats 8000000 in
theorem get_c {base p gs s : Nat} {hv cv : Value} {d : DSt} {w : World} (h : Dk base p gs hv cv d w) (hs : Sto s p w) (HG : Glb w) (hup : d.down = false) (hH : d.H = []) (hS : d.S.length = 30) (hB : Byt d.S) :
    Calls Tryd.prog 30 #[.pointer (some ⟨s, 0, none⟩)] w fun e w' => ∃ A, e = .returned (.tuple #[.slice A (recN (newS d.S)).length (recN (newS d.S)).length, .int .i64 (errN (newS d.S))]) ∧ RecC w.heap.size w' A (recN (newS d.S)) ∧ Below w.heap.size w w' := by
  have k1 := sready_c h hs
  rw [show d.ready = 0 by unfold DSt.ready; rw [hup]; rfl] at k1
  have k2 := newest_c h hs HG hup hH hS hB
  have HK := Aside0.mk (And.intro k1 k2)
  clear k1 k2 h hs HG hup hH hS hB
  generalize newS d.S = o at HK ⊢
  rcases o with _ | ⟨k, g, r⟩
  · simp only [atN, genN, recN, errN, List.length_nil] at HK ⊢
    go_enter Tryd.func30, Tryd.ntmps30
    go_wp2_with (first
      | (go_at_call 69; refine HK.out.1.mono ?_; rintro e w2 ⟨rfl, hw⟩; have hw := hw.symm; subst hw)
      | (go_at_call 70; refine HK.out.2.mono ?_; rintro e w3 ⟨A3, rfl, hR, hB⟩; have P3 := Aside0.mk (And.intro hR hB); clear hR hB))
    go_ret2
    exact ⟨none, rfl, RecC.nil _ _, P3.out.2⟩
  · simp only [atN, genN, recN, errN] at HK ⊢
    have hk0 : ¬ (k : Int) < 0 := by omega
    go_enter Tryd.func30, Tryd.ntmps30
    go_wp2_with (first
      | (go_at_call 69; refine HK.out.1.mono ?_; rintro e w2 ⟨rfl, hw⟩; have hw := hw.symm; subst hw)
      | (go_at_call 70; refine HK.out.2.mono ?_; rintro e w3 ⟨A3, rfl, hR, hB⟩; have P3 := Aside0.mk (And.intro hR hB); clear hR hB))
    go_ret2
    exact ⟨A3, rfl, P3.out.1, P3.out.2⟩
theorem place0_c {s p : Nat} {w : World} (h : Sto s p w) (k : Nat) (hk : k = 2) : Calls Tryd.prog 72 #[.pointer (some ⟨s, 0, none⟩), .int .i64 0] w fun e w' => e = .returned (.int .i64 (k : Int)) ∧ Below w.heap.size w w' := by
  subst hk
  exact place_c h 0 (by decide)
theorem place1_c {s p : Nat} {w : World} (h : Sto s p w) (k : Nat) (hk : k = 12) : Calls Tryd.prog 72 #[.pointer (some ⟨s, 0, none⟩), .int .i64 1] w fun e w' => e = .returned (.int .i64 (k : Int)) ∧ Below w.heap.size w w' := by
  subst hk
  exact place_c h 1 (by decide)
theorem toN_or (o : Option (Nat × Int × List Int)) : (toN o = 1 ∧ atN o = 0) ∨ (toN o = 0 ∧ ¬ atN o = 0) := by
  rcases o with _ | ⟨_ | k, g, r⟩
  · exact .inr ⟨rfl, by simp [atN]⟩
  · exact .inl ⟨rfl, rfl⟩
  · exact .inr ⟨rfl, by simp only [atN]; omega⟩
theorem head_keep {base : Nat} {w : World} {g : Nat} {cs : Array Value} (h : w.heap[g]? = some (.cells cs 124 (0, 0))) (n : Nat) : Keep base w (some ⟨g, 0, none⟩) n := fun ad e _ => by
  obtain rfl := Option.some.inj e
  exact ⟨blk_lt h, fun w1 m _ => m.block _ (blk_lt h) (fun cs' t fr h' => by rw [h] at h'; injection h' with h'; injection h' with _ h' _; subst h'; decide)⟩
theorem head_C {w : World} {g : Nat} {l : List Int} (hl : l.length = 64) (h : w.heap[g]? = some (.cells (cells8 l) 124 (0, 0))) : Kd.C (Kd.int .u8) w (some ⟨g, 0, none⟩) 64 l := by
  have := blk_C h (by rw [hl]; decide)
  rwa [hl] at this
set_option maxRecDepth 100000 in
set_option maxHeartbeats 16000000 in
theorem put_c2 {base p gs s : Nat} {hv cv : Value} {d : DSt} {w : World} (h : Dk base p gs hv cv d w) (hs : Sto s p w) (HG : ∀ w1, Below base w w1 → Glb w1) (hup : d.down = false) (hH : d.H = []) (hS : d.S.length = 30) (hB : Byt d.S) (x : List Int) (A : Option Addr) (n c : Nat) (hn : n = x.length) (hc : n ≤ c) (hx : x.length ≤ 500) (hb : ∀ y ∈ x, 0 ≤ y ∧ y < 256) (hC : Kd.C (Kd.int .u8) w A n x) (hA : Keep base w A n) (hg : genN (newS d.S) < 1000) :
    Calls Tryd.prog 28 #[.pointer (some ⟨s, 0, none⟩), .slice A n c] w fun e w' => e = .returned (.int .i64 (putD d x).2) ∧ (∃ hv', Dk base p gs hv' cv (putD d x).1 w') ∧ Mv w w' ∧ Below base w w' := by
  have k1 := sready_c h hs
  rw [show d.ready = 0 by unfold DSt.ready; rw [hup]; rfl] at k1
  have k2 := newest_c h hs (HG w (Below.refl _ _)) hup hH hS hB
  have hg0 := genN_pos d.S hB
  have hlt := h.lt
  obtain ⟨tz, hto⟩ : ∃ tz : Nat, tz = 2 + toN (newS d.S) * 10 := ⟨_, rfl⟩
  have hto2 : tz + 10 ≤ 30 := by have := toN_or (newS d.S); omega
  obtain ⟨s1, hs1⟩ : ∃ q, q = stepD d tz (List.replicate 64 0) := ⟨_, rfl⟩
  obtain ⟨s2, hs2⟩ : ∃ q, q = stepD s1.1 (tz + 1) x := ⟨_, rfl⟩
  obtain ⟨s3, hs3⟩ : ∃ q, q = stepD s2.1 tz (headL (genN (newS d.S) + 1) x) := ⟨_, rfl⟩
  have hput : putD d x = if s1.2 = 0 then (if s2.2 = 0 then s3 else s2) else s1 := by unfold putD; rw [← hto, ← hs1, ← hs2, ← hs3]
  have nz : needN (List.replicate 64 (0 : Int)).length = 1 := by decide
  have nh : needN 64 = 1 := by decide
  have nx : needN x.length ≤ 8 := by unfold needN; omega
  obtain ⟨a1, a2, a3⟩ := step_any d tz (List.replicate 64 0) hH hup (by rw [nz, hS]; omega)
  rw [← hs1] at a1 a2 a3
  have ha : (s1.2 = 0 ∧ s1.1.down = false) ∨ s1.2 = 60 := by
    rcases a3 with ⟨u1, u2, _⟩ | ⟨u1, _⟩
    · exact .inl ⟨u1, u2⟩
    · exact .inr u1
  have hb2 : s1.1.down = false → s2.1.H = [] ∧ s2.1.S.length = 30 ∧ ((s2.2 = 0 ∧ s2.1.down = false) ∨ s2.2 = 60) := fun hd => by
    obtain ⟨b1, b2, b3⟩ := step_any s1.1 (tz + 1) x a1 hd (by rw [a2, hS]; omega)
    rw [← hs2] at b1 b2 b3
    refine ⟨b1, by rw [b2, a2, hS], ?_⟩
    rcases b3 with ⟨u1, u2, _⟩ | ⟨u1, _⟩
    · exact .inl ⟨u1, u2⟩
    · exact .inr u1
  rw [hput]
  have htw := toN_or (newS d.S)
  have hw1 : IntKind.u64.wrap (genN (newS d.S) + 1) = genN (newS d.S) + 1 := by rw [wr64]; omega
  have hgm : ¬ genN (newS d.S) = 18446744073709551615 := by omega
  have hnI : ¬ (576 : Int) < (n : Int) := by omega
  have hn5 : (n : Int) ≤ 500 := by omega
  have HX := Aside0.mk (And.intro h (And.intro hs (And.intro HG (And.intro hup (And.intro hH (And.intro hS (And.intro hx (And.intro hb (And.intro hC (And.intro hA (And.intro hn (And.intro hc (And.intro hlt hto2)))))))))))))
  have HY := Aside0.mk (And.intro hs1 (And.intro hs2 (And.intro hs3 (And.intro a1 (And.intro (a2.trans hS) (And.intro hb2 (And.intro nz (And.intro nh (And.intro nx hto)))))))))
  have HZ := Aside0.mk (And.intro hg0 hg)
  have HK := Aside0.mk (And.intro k1 k2)
  clear k1 k2 hlt hto hs1 hs2 hs3 hput nz nh nx a1 a2 a3 hb2 h hs HG hup hH hS hB hn hc hx hb hC hA hg hto2 hg0
  generalize hgo : newS d.S = o at *
  clear hgo
  have hz : ∀ w' : World, (w'.alloc (.cells #[.int .u8 0, .int .u8 0, .int .u8 0, .int .u8 0, .int .u8 0, .int .u8 0, .int .u8 0, .int .u8 0, .int .u8 0, .int .u8 0, .int .u8 0, .int .u8 0, .int .u8 0, .int .u8 0, .int .u8 0, .int .u8 0, .int .u8 0, .int .u8 0, .int .u8 0, .int .u8 0, .int .u8 0, .int .u8 0, .int .u8 0, .int .u8 0, .int .u8 0, .int .u8 0, .int .u8 0, .int .u8 0, .int .u8 0, .int .u8 0, .int .u8 0, .int .u8 0, .int .u8 0, .int .u8 0, .int .u8 0, .int .u8 0, .int .u8 0, .int .u8 0, .int .u8 0, .int .u8 0, .int .u8 0, .int .u8 0, .int .u8 0, .int .u8 0, .int .u8 0, .int .u8 0, .int .u8 0, .int .u8 0, .int .u8 0, .int .u8 0, .int .u8 0, .int .u8 0, .int .u8 0, .int .u8 0, .int .u8 0, .int .u8 0, .int .u8 0, .int .u8 0, .int .u8 0, .int .u8 0, .int .u8 0, .int .u8 0, .int .u8 0, .int .u8 0] 124)).heap[w'.heap.size]? = some (.cells (cells8 zero64) 124 (0, 0)) := fun w' => new1 _ _
  have hwt : wrap64 ((tz : Int) + 1) = ((tz + 1 : Nat) : Int) := by have := HX.out.2.2.2.2.2.2.2.2.2.2.2.2.2; unfold wrap64; omega
  have htI : (tz : Int) ≤ 20 := by have := HX.out.2.2.2.2.2.2.2.2.2.2.2.2.2; omega
  have hg0 := HZ.out.1
  have hgl := HZ.out.2
  rcases htw with ⟨ht1, ht2⟩ | ⟨ht1, ht2⟩
  · rcases ha with ⟨ha1, ha2⟩ | ha1
    · rw [if_pos ha1]
      obtain ⟨b1, b2, b3⟩ := HY.out.2.2.2.2.2.1 ha2
      have HB2 := Aside0.mk (And.intro b1 (And.intro b2 ha2))
      clear b1 b2 ha2
      rcases b3 with ⟨hb1, hb2⟩ | hb1
      · rw [if_pos hb1]
        have HB3 := Aside0.mk hb2
        clear hb2
        have hnb : decide ((576 : Int) < (n : Int)) = false := decide_eq_false hnI
        have hgmb : (genN o == 18446744073709551615) = false := beq_eq_false_iff_ne.mpr hgm
        have htb : (atN o == 0) = true := by rw [ht2]; rfl
        go_enter Tryd.func28, Tryd.ntmps28
        have TK1 := Aside0.mk trivial
        go_upto_region 11 with (first
          | (go_at_call 69; refine HK.out.1.mono ?_; rintro e w2 ⟨rfl, hw⟩; have hw := hw.symm; subst hw)
          | (go_at_call 70; refine HK.out.2.mono ?_; rintro e w3 ⟨A3, rfl, hR, hB⟩; have P3 := Aside0.mk hB; clear hR hB)
          | (go_at_call 71; refine (room_c (HX.out.2.1.below P3.out)).mono ?_; rintro e w4 ⟨rfl, hw⟩; have hw := hw.symm; subst hw)
          | (go_at_call 72; have tk := TK1; clear tk TK1; with_reducible refine (place0_c (HX.out.2.1.below P3.out) 2 rfl).mono ?_; rintro e w4 ⟨rfl, hB⟩; have P4 := Aside0.mk (below_step P3.out hB); clear hB)
          | (go_at_call 72; with_reducible refine (place1_c (HX.out.2.1.below P4.out) tz (by have := HY.out.2.2.2.2.2.2.2.2.2; rw [ht1] at this; omega)).mono ?_; rintro e w5 ⟨rfl, hB⟩; have P5 := Aside0.mk (below_step P4.out hB); clear hB))
        have P6 : Aside0 ((w5.alloc (.cells #[.int .u8 0, .int .u8 0, .int .u8 0, .int .u8 0, .int .u8 0, .int .u8 0, .int .u8 0, .int .u8 0, .int .u8 0, .int .u8 0, .int .u8 0, .int .u8 0, .int .u8 0, .int .u8 0, .int .u8 0, .int .u8 0, .int .u8 0, .int .u8 0, .int .u8 0, .int .u8 0, .int .u8 0, .int .u8 0, .int .u8 0, .int .u8 0, .int .u8 0, .int .u8 0, .int .u8 0, .int .u8 0, .int .u8 0, .int .u8 0, .int .u8 0, .int .u8 0, .int .u8 0, .int .u8 0, .int .u8 0, .int .u8 0, .int .u8 0, .int .u8 0, .int .u8 0, .int .u8 0, .int .u8 0, .int .u8 0, .int .u8 0, .int .u8 0, .int .u8 0, .int .u8 0, .int .u8 0, .int .u8 0, .int .u8 0, .int .u8 0, .int .u8 0, .int .u8 0, .int .u8 0, .int .u8 0, .int .u8 0, .int .u8 0, .int .u8 0, .int .u8 0, .int .u8 0, .int .u8 0, .int .u8 0, .int .u8 0, .int .u8 0, .int .u8 0] 124)).heap[w5.heap.size]? = some (.cells (cells8 zero64) 124 (0, 0)) ∧ Below w.heap.size w (w5.alloc (.cells #[.int .u8 0, .int .u8 0, .int .u8 0, .int .u8 0, .int .u8 0, .int .u8 0, .int .u8 0, .int .u8 0, .int .u8 0, .int .u8 0, .int .u8 0, .int .u8 0, .int .u8 0, .int .u8 0, .int .u8 0, .int .u8 0, .int .u8 0, .int .u8 0, .int .u8 0, .int .u8 0, .int .u8 0, .int .u8 0, .int .u8 0, .int .u8 0, .int .u8 0, .int .u8 0, .int .u8 0, .int .u8 0, .int .u8 0, .int .u8 0, .int .u8 0, .int .u8 0, .int .u8 0, .int .u8 0, .int .u8 0, .int .u8 0, .int .u8 0, .int .u8 0, .int .u8 0, .int .u8 0, .int .u8 0, .int .u8 0, .int .u8 0, .int .u8 0, .int .u8 0, .int .u8 0, .int .u8 0, .int .u8 0, .int .u8 0, .int .u8 0, .int .u8 0, .int .u8 0, .int .u8 0, .int .u8 0, .int .u8 0, .int .u8 0, .int .u8 0, .int .u8 0, .int .u8 0, .int .u8 0, .int .u8 0, .int .u8 0, .int .u8 0, .int .u8 0] 124))) := ⟨hz w5, below_alloc P5.out _⟩
        generalize (w5.alloc (.cells #[.int .u8 0, .int .u8 0, .int .u8 0, .int .u8 0, .int .u8 0, .int .u8 0, .int .u8 0, .int .u8 0, .int .u8 0, .int .u8 0, .int .u8 0, .int .u8 0, .int .u8 0, .int .u8 0, .int .u8 0, .int .u8 0, .int .u8 0, .int .u8 0, .int .u8 0, .int .u8 0, .int .u8 0, .int .u8 0, .int .u8 0, .int .u8 0, .int .u8 0, .int .u8 0, .int .u8 0, .int .u8 0, .int .u8 0, .int .u8 0, .int .u8 0, .int .u8 0, .int .u8 0, .int .u8 0, .int .u8 0, .int .u8 0, .int .u8 0, .int .u8 0, .int .u8 0, .int .u8 0, .int .u8 0, .int .u8 0, .int .u8 0, .int .u8 0, .int .u8 0, .int .u8 0, .int .u8 0, .int .u8 0, .int .u8 0, .int .u8 0, .int .u8 0, .int .u8 0, .int .u8 0, .int .u8 0, .int .u8 0, .int .u8 0, .int .u8 0, .int .u8 0, .int .u8 0, .int .u8 0, .int .u8 0, .int .u8 0, .int .u8 0, .int .u8 0] 124)) = w6 at P6 ⊢
        generalize w5.heap.size = g6 at P6 ⊢
        have hst := step_c (HX.out.1.below P6.out.2) (HX.out.2.1.below P6.out.2) HX.out.2.2.2.1 HX.out.2.2.2.2.1 tz (List.replicate 64 0) (some ⟨g6, 0, none⟩) 64 64 (by rw [List.length_replicate]) (by decide) (head_C rfl P6.out.1) (by rw [HY.out.2.2.2.2.2.2.2.1, HX.out.2.2.2.2.2.1]; have := HX.out.2.2.2.2.2.2.2.2.2.2.2.2.2; omega) (head_keep P6.out.1 64)
        rw [← HY.out.1] at hst
        have HS1 := Aside0.mk hst
        clear hst
        rw [ha1] at HS1
        go_upto_region 14 with (first
          | (go_at_call 73; with_reducible refine HS1.out.mono ?_; rintro e w7 ⟨rfl, hD, hM, hB⟩; have P7 := Aside0.mk (And.intro hD (And.intro ((Mv.of P6.out.2).trans hM) ((below_le P6.out.2 HX.out.2.2.2.2.2.2.2.2.2.2.2.2.1).trans hB))); clear hD hM hB))
        obtain ⟨hv7, hD7⟩ := P7.out.1
        have hst := step_c hD7 (HX.out.2.1.mv P7.out.2.1) HB2.out.2.2 HY.out.2.2.2.1 (tz + 1) x A n c HX.out.2.2.2.2.2.2.2.2.2.2.1 HX.out.2.2.2.2.2.2.2.2.2.2.2.1 (HX.out.2.2.2.2.2.2.2.2.2.1.C HX.out.2.2.2.2.2.2.2.2.1 P7.out.2.1 P7.out.2.2) (by rw [HY.out.2.2.2.2.1, HX.out.2.2.2.2.2.2.2.2.2.2.1]; have := HX.out.2.2.2.2.2.2.2.2.2.2.2.2.2; have := HY.out.2.2.2.2.2.2.2.2.1; omega) (HX.out.2.2.2.2.2.2.2.2.2.1.move P7.out.2.1 P7.out.2.2)
        rw [← HY.out.2.1, show ((tz + 1 : Nat) : Int) = (tz : Int) + 1 by omega] at hst
        have HS2 := Aside0.mk hst
        clear hst hD7
        rw [hb1] at HS2
        go_upto_region 17 with (first
          | (go_at_call 73; with_reducible refine HS2.out.mono ?_; rintro e w8 ⟨rfl, hD, hM, hB⟩; have P8 := Aside0.mk (And.intro hD (And.intro (P7.out.2.1.trans hM) (P7.out.2.2.trans hB))); clear hD hM hB))
        obtain ⟨hv8, hD8⟩ := P8.out.1
        obtain ⟨hl, hhl⟩ : ∃ l, l = headL (genN o + 1) x := ⟨_, rfl⟩
        have hl64 : hl.length = 64 := by rw [hhl]; exact headL_length _ _
        have khd := headOf_c (genN o + 1) ⟨by omega, by omega⟩ A n c x w8 (HX.out.2.2.1 w8 P8.out.2.2) HX.out.2.2.2.2.2.2.2.2.2.2.1 (HX.out.2.2.2.2.2.2.2.2.2.1.C HX.out.2.2.2.2.2.2.2.2.1 P8.out.2.1 P8.out.2.2) HX.out.2.2.2.2.2.2.2.1 (by have := HX.out.2.2.2.2.2.2.1; omega)
        rw [← hhl] at khd
        have HHD := Aside0.mk khd
        have HHL := Lib.hid hhl
        clear hhl
        clear khd
        go_upto_region 18 with (first
          | (go_at_call 74; with_reducible refine HHD.out.mono ?_; rintro e w9 ⟨rfl, hB⟩; have P9 := Aside0.mk hB; clear hB)
          | (refine wpList_store_row rfl 124 (.tmp 13) (.tmp 58) rfl w9.heap.size (cells8 hl) (by rfl) (by rfl) 124 (cells8 zero64) (hz w9) (by rw [size8 hl64]; exact infoHd) (by rw [size8 hl64]; rfl) (ones8 _) ?_))
        have B10 : Below w8.heap.size w8 ((w9.alloc (.cells #[.int .u8 0, .int .u8 0, .int .u8 0, .int .u8 0, .int .u8 0, .int .u8 0, .int .u8 0, .int .u8 0, .int .u8 0, .int .u8 0, .int .u8 0, .int .u8 0, .int .u8 0, .int .u8 0, .int .u8 0, .int .u8 0, .int .u8 0, .int .u8 0, .int .u8 0, .int .u8 0, .int .u8 0, .int .u8 0, .int .u8 0, .int .u8 0, .int .u8 0, .int .u8 0, .int .u8 0, .int .u8 0, .int .u8 0, .int .u8 0, .int .u8 0, .int .u8 0, .int .u8 0, .int .u8 0, .int .u8 0, .int .u8 0, .int .u8 0, .int .u8 0, .int .u8 0, .int .u8 0, .int .u8 0, .int .u8 0, .int .u8 0, .int .u8 0, .int .u8 0, .int .u8 0, .int .u8 0, .int .u8 0, .int .u8 0, .int .u8 0, .int .u8 0, .int .u8 0, .int .u8 0, .int .u8 0, .int .u8 0, .int .u8 0, .int .u8 0, .int .u8 0, .int .u8 0, .int .u8 0, .int .u8 0, .int .u8 0, .int .u8 0, .int .u8 0] 124)).setRow w9.heap.size (cells8 hl)) := below_setRow (below_alloc P9.out _) P9.out.size _
        have P10 : Aside0 (((w9.alloc (.cells #[.int .u8 0, .int .u8 0, .int .u8 0, .int .u8 0, .int .u8 0, .int .u8 0, .int .u8 0, .int .u8 0, .int .u8 0, .int .u8 0, .int .u8 0, .int .u8 0, .int .u8 0, .int .u8 0, .int .u8 0, .int .u8 0, .int .u8 0, .int .u8 0, .int .u8 0, .int .u8 0, .int .u8 0, .int .u8 0, .int .u8 0, .int .u8 0, .int .u8 0, .int .u8 0, .int .u8 0, .int .u8 0, .int .u8 0, .int .u8 0, .int .u8 0, .int .u8 0, .int .u8 0, .int .u8 0, .int .u8 0, .int .u8 0, .int .u8 0, .int .u8 0, .int .u8 0, .int .u8 0, .int .u8 0, .int .u8 0, .int .u8 0, .int .u8 0, .int .u8 0, .int .u8 0, .int .u8 0, .int .u8 0, .int .u8 0, .int .u8 0, .int .u8 0, .int .u8 0, .int .u8 0, .int .u8 0, .int .u8 0, .int .u8 0, .int .u8 0, .int .u8 0, .int .u8 0, .int .u8 0, .int .u8 0, .int .u8 0, .int .u8 0, .int .u8 0] 124)).setRow w9.heap.size (cells8 hl)).heap[w9.heap.size]? = some (.cells (cells8 hl) 124 (0, 0)) ∧ Dk base p gs hv8 cv s2.1 ((w9.alloc (.cells #[.int .u8 0, .int .u8 0, .int .u8 0, .int .u8 0, .int .u8 0, .int .u8 0, .int .u8 0, .int .u8 0, .int .u8 0, .int .u8 0, .int .u8 0, .int .u8 0, .int .u8 0, .int .u8 0, .int .u8 0, .int .u8 0, .int .u8 0, .int .u8 0, .int .u8 0, .int .u8 0, .int .u8 0, .int .u8 0, .int .u8 0, .int .u8 0, .int .u8 0, .int .u8 0, .int .u8 0, .int .u8 0, .int .u8 0, .int .u8 0, .int .u8 0, .int .u8 0, .int .u8 0, .int .u8 0, .int .u8 0, .int .u8 0, .int .u8 0, .int .u8 0, .int .u8 0, .int .u8 0, .int .u8 0, .int .u8 0, .int .u8 0, .int .u8 0, .int .u8 0, .int .u8 0, .int .u8 0, .int .u8 0, .int .u8 0, .int .u8 0, .int .u8 0, .int .u8 0, .int .u8 0, .int .u8 0, .int .u8 0, .int .u8 0, .int .u8 0, .int .u8 0, .int .u8 0, .int .u8 0, .int .u8 0, .int .u8 0, .int .u8 0, .int .u8 0] 124)).setRow w9.heap.size (cells8 hl)) ∧ Mv w ((w9.alloc (.cells #[.int .u8 0, .int .u8 0, .int .u8 0, .int .u8 0, .int .u8 0, .int .u8 0, .int .u8 0, .int .u8 0, .int .u8 0, .int .u8 0, .int .u8 0, .int .u8 0, .int .u8 0, .int .u8 0, .int .u8 0, .int .u8 0, .int .u8 0, .int .u8 0, .int .u8 0, .int .u8 0, .int .u8 0, .int .u8 0, .int .u8 0, .int .u8 0, .int .u8 0, .int .u8 0, .int .u8 0, .int .u8 0, .int .u8 0, .int .u8 0, .int .u8 0, .int .u8 0, .int .u8 0, .int .u8 0, .int .u8 0, .int .u8 0, .int .u8 0, .int .u8 0, .int .u8 0, .int .u8 0, .int .u8 0, .int .u8 0, .int .u8 0, .int .u8 0, .int .u8 0, .int .u8 0, .int .u8 0, .int .u8 0, .int .u8 0, .int .u8 0, .int .u8 0, .int .u8 0, .int .u8 0, .int .u8 0, .int .u8 0, .int .u8 0, .int .u8 0, .int .u8 0, .int .u8 0, .int .u8 0, .int .u8 0, .int .u8 0, .int .u8 0, .int .u8 0] 124)).setRow w9.heap.size (cells8 hl)) ∧ Below base w ((w9.alloc (.cells #[.int .u8 0, .int .u8 0, .int .u8 0, .int .u8 0, .int .u8 0, .int .u8 0, .int .u8 0, .int .u8 0, .int .u8 0, .int .u8 0, .int .u8 0, .int .u8 0, .int .u8 0, .int .u8 0, .int .u8 0, .int .u8 0, .int .u8 0, .int .u8 0, .int .u8 0, .int .u8 0, .int .u8 0, .int .u8 0, .int .u8 0, .int .u8 0, .int .u8 0, .int .u8 0, .int .u8 0, .int .u8 0, .int .u8 0, .int .u8 0, .int .u8 0, .int .u8 0, .int .u8 0, .int .u8 0, .int .u8 0, .int .u8 0, .int .u8 0, .int .u8 0, .int .u8 0, .int .u8 0, .int .u8 0, .int .u8 0, .int .u8 0, .int .u8 0, .int .u8 0, .int .u8 0, .int .u8 0, .int .u8 0, .int .u8 0, .int .u8 0, .int .u8 0, .int .u8 0, .int .u8 0, .int .u8 0, .int .u8 0, .int .u8 0, .int .u8 0, .int .u8 0, .int .u8 0, .int .u8 0, .int .u8 0, .int .u8 0, .int .u8 0, .int .u8 0] 124)).setRow w9.heap.size (cells8 hl))) := ⟨setRow_heap _ _ _ _ _ _ (hz w9), hD8.below B10, P8.out.2.1.below B10, below_step' P8.out.2.2 B10 (Nat.le_trans HX.out.2.2.2.2.2.2.2.2.2.2.2.2.1 P8.out.2.2.size)⟩
        clear B10 P9
        generalize ((w9.alloc (.cells #[.int .u8 0, .int .u8 0, .int .u8 0, .int .u8 0, .int .u8 0, .int .u8 0, .int .u8 0, .int .u8 0, .int .u8 0, .int .u8 0, .int .u8 0, .int .u8 0, .int .u8 0, .int .u8 0, .int .u8 0, .int .u8 0, .int .u8 0, .int .u8 0, .int .u8 0, .int .u8 0, .int .u8 0, .int .u8 0, .int .u8 0, .int .u8 0, .int .u8 0, .int .u8 0, .int .u8 0, .int .u8 0, .int .u8 0, .int .u8 0, .int .u8 0, .int .u8 0, .int .u8 0, .int .u8 0, .int .u8 0, .int .u8 0, .int .u8 0, .int .u8 0, .int .u8 0, .int .u8 0, .int .u8 0, .int .u8 0, .int .u8 0, .int .u8 0, .int .u8 0, .int .u8 0, .int .u8 0, .int .u8 0, .int .u8 0, .int .u8 0, .int .u8 0, .int .u8 0, .int .u8 0, .int .u8 0, .int .u8 0, .int .u8 0, .int .u8 0, .int .u8 0, .int .u8 0, .int .u8 0, .int .u8 0, .int .u8 0, .int .u8 0, .int .u8 0] 124)).setRow w9.heap.size (cells8 hl)) = w10 at P10 ⊢
        generalize w9.heap.size = g10 at P10 ⊢
        have hst := step_c P10.out.2.1 (HX.out.2.1.mv P10.out.2.2.1) HB3.out HB2.out.1 tz hl (some ⟨g10, 0, none⟩) 64 64 hl64.symm (by decide) (head_C hl64 P10.out.1) (by rw [HY.out.2.2.2.2.2.2.2.1, HB2.out.2.1]; have := HX.out.2.2.2.2.2.2.2.2.2.2.2.2.2; omega) (head_keep P10.out.1 64)
        rw [HHL.out, ← HY.out.2.2.1] at hst
        have HS3 := Aside0.mk hst
        clear hst
        go_wp2_with (first
          | (go_at_call 73; with_reducible refine HS3.out.mono ?_; rintro e w11 ⟨rfl, hD, hM, hB⟩; have P11 := Aside0.mk (And.intro hD (And.intro (P10.out.2.2.1.trans hM) (P10.out.2.2.2.trans hB))); clear hD hM hB))
        go_ret
        exact ⟨rfl, P11.out⟩
      · rw [if_neg (by rw [hb1]; decide)]
        have hnb : decide ((576 : Int) < (n : Int)) = false := decide_eq_false hnI
        have hgmb : (genN o == 18446744073709551615) = false := beq_eq_false_iff_ne.mpr hgm
        have htb : (atN o == 0) = true := by rw [ht2]; rfl
        go_enter Tryd.func28, Tryd.ntmps28
        have TK1 := Aside0.mk trivial
        go_upto_region 11 with (first
          | (go_at_call 69; refine HK.out.1.mono ?_; rintro e w2 ⟨rfl, hw⟩; have hw := hw.symm; subst hw)
          | (go_at_call 70; refine HK.out.2.mono ?_; rintro e w3 ⟨A3, rfl, hR, hB⟩; have P3 := Aside0.mk hB; clear hR hB)
          | (go_at_call 71; refine (room_c (HX.out.2.1.below P3.out)).mono ?_; rintro e w4 ⟨rfl, hw⟩; have hw := hw.symm; subst hw)
          | (go_at_call 72; have tk := TK1; clear tk TK1; with_reducible refine (place0_c (HX.out.2.1.below P3.out) 2 rfl).mono ?_; rintro e w4 ⟨rfl, hB⟩; have P4 := Aside0.mk (below_step P3.out hB); clear hB)
          | (go_at_call 72; with_reducible refine (place1_c (HX.out.2.1.below P4.out) tz (by have := HY.out.2.2.2.2.2.2.2.2.2; rw [ht1] at this; omega)).mono ?_; rintro e w5 ⟨rfl, hB⟩; have P5 := Aside0.mk (below_step P4.out hB); clear hB))
        have P6 : Aside0 ((w5.alloc (.cells #[.int .u8 0, .int .u8 0, .int .u8 0, .int .u8 0, .int .u8 0, .int .u8 0, .int .u8 0, .int .u8 0, .int .u8 0, .int .u8 0, .int .u8 0, .int .u8 0, .int .u8 0, .int .u8 0, .int .u8 0, .int .u8 0, .int .u8 0, .int .u8 0, .int .u8 0, .int .u8 0, .int .u8 0, .int .u8 0, .int .u8 0, .int .u8 0, .int .u8 0, .int .u8 0, .int .u8 0, .int .u8 0, .int .u8 0, .int .u8 0, .int .u8 0, .int .u8 0, .int .u8 0, .int .u8 0, .int .u8 0, .int .u8 0, .int .u8 0, .int .u8 0, .int .u8 0, .int .u8 0, .int .u8 0, .int .u8 0, .int .u8 0, .int .u8 0, .int .u8 0, .int .u8 0, .int .u8 0, .int .u8 0, .int .u8 0, .int .u8 0, .int .u8 0, .int .u8 0, .int .u8 0, .int .u8 0, .int .u8 0, .int .u8 0, .int .u8 0, .int .u8 0, .int .u8 0, .int .u8 0, .int .u8 0, .int .u8 0, .int .u8 0, .int .u8 0] 124)).heap[w5.heap.size]? = some (.cells (cells8 zero64) 124 (0, 0)) ∧ Below w.heap.size w (w5.alloc (.cells #[.int .u8 0, .int .u8 0, .int .u8 0, .int .u8 0, .int .u8 0, .int .u8 0, .int .u8 0, .int .u8 0, .int .u8 0, .int .u8 0, .int .u8 0, .int .u8 0, .int .u8 0, .int .u8 0, .int .u8 0, .int .u8 0, .int .u8 0, .int .u8 0, .int .u8 0, .int .u8 0, .int .u8 0, .int .u8 0, .int .u8 0, .int .u8 0, .int .u8 0, .int .u8 0, .int .u8 0, .int .u8 0, .int .u8 0, .int .u8 0, .int .u8 0, .int .u8 0, .int .u8 0, .int .u8 0, .int .u8 0, .int .u8 0, .int .u8 0, .int .u8 0, .int .u8 0, .int .u8 0, .int .u8 0, .int .u8 0, .int .u8 0, .int .u8 0, .int .u8 0, .int .u8 0, .int .u8 0, .int .u8 0, .int .u8 0, .int .u8 0, .int .u8 0, .int .u8 0, .int .u8 0, .int .u8 0, .int .u8 0, .int .u8 0, .int .u8 0, .int .u8 0, .int .u8 0, .int .u8 0, .int .u8 0, .int .u8 0, .int .u8 0, .int .u8 0] 124))) := ⟨hz w5, below_alloc P5.out _⟩
        generalize (w5.alloc (.cells #[.int .u8 0, .int .u8 0, .int .u8 0, .int .u8 0, .int .u8 0, .int .u8 0, .int .u8 0, .int .u8 0, .int .u8 0, .int .u8 0, .int .u8 0, .int .u8 0, .int .u8 0, .int .u8 0, .int .u8 0, .int .u8 0, .int .u8 0, .int .u8 0, .int .u8 0, .int .u8 0, .int .u8 0, .int .u8 0, .int .u8 0, .int .u8 0, .int .u8 0, .int .u8 0, .int .u8 0, .int .u8 0, .int .u8 0, .int .u8 0, .int .u8 0, .int .u8 0, .int .u8 0, .int .u8 0, .int .u8 0, .int .u8 0, .int .u8 0, .int .u8 0, .int .u8 0, .int .u8 0, .int .u8 0, .int .u8 0, .int .u8 0, .int .u8 0, .int .u8 0, .int .u8 0, .int .u8 0, .int .u8 0, .int .u8 0, .int .u8 0, .int .u8 0, .int .u8 0, .int .u8 0, .int .u8 0, .int .u8 0, .int .u8 0, .int .u8 0, .int .u8 0, .int .u8 0, .int .u8 0, .int .u8 0, .int .u8 0, .int .u8 0, .int .u8 0] 124)) = w6 at P6 ⊢
        generalize w5.heap.size = g6 at P6 ⊢
        have hst := step_c (HX.out.1.below P6.out.2) (HX.out.2.1.below P6.out.2) HX.out.2.2.2.1 HX.out.2.2.2.2.1 tz (List.replicate 64 0) (some ⟨g6, 0, none⟩) 64 64 (by rw [List.length_replicate]) (by decide) (head_C rfl P6.out.1) (by rw [HY.out.2.2.2.2.2.2.2.1, HX.out.2.2.2.2.2.1]; have := HX.out.2.2.2.2.2.2.2.2.2.2.2.2.2; omega) (head_keep P6.out.1 64)
        rw [← HY.out.1] at hst
        have HS1 := Aside0.mk hst
        clear hst
        rw [ha1] at HS1
        go_upto_region 14 with (first
          | (go_at_call 73; with_reducible refine HS1.out.mono ?_; rintro e w7 ⟨rfl, hD, hM, hB⟩; have P7 := Aside0.mk (And.intro hD (And.intro ((Mv.of P6.out.2).trans hM) ((below_le P6.out.2 HX.out.2.2.2.2.2.2.2.2.2.2.2.2.1).trans hB))); clear hD hM hB))
        obtain ⟨hv7, hD7⟩ := P7.out.1
        have hst := step_c hD7 (HX.out.2.1.mv P7.out.2.1) HB2.out.2.2 HY.out.2.2.2.1 (tz + 1) x A n c HX.out.2.2.2.2.2.2.2.2.2.2.1 HX.out.2.2.2.2.2.2.2.2.2.2.2.1 (HX.out.2.2.2.2.2.2.2.2.2.1.C HX.out.2.2.2.2.2.2.2.2.1 P7.out.2.1 P7.out.2.2) (by rw [HY.out.2.2.2.2.1, HX.out.2.2.2.2.2.2.2.2.2.2.1]; have := HX.out.2.2.2.2.2.2.2.2.2.2.2.2.2; have := HY.out.2.2.2.2.2.2.2.2.1; omega) (HX.out.2.2.2.2.2.2.2.2.2.1.move P7.out.2.1 P7.out.2.2)
        rw [← HY.out.2.1, show ((tz + 1 : Nat) : Int) = (tz : Int) + 1 by omega] at hst
        have HS2 := Aside0.mk hst
        clear hst hD7
        rw [hb1] at HS2
        go_wp2_with (first
          | (go_at_call 73; with_reducible refine HS2.out.mono ?_; rintro e w8 ⟨rfl, hD, hM, hB⟩; have P8 := Aside0.mk (And.intro hD (And.intro (P7.out.2.1.trans hM) (P7.out.2.2.trans hB))); clear hD hM hB))
        go_ret
        exact ⟨by rw [hb1]; rfl, P8.out⟩
    · rw [if_neg (by rw [ha1]; decide)]
      have hnb : decide ((576 : Int) < (n : Int)) = false := decide_eq_false hnI
      have hgmb : (genN o == 18446744073709551615) = false := beq_eq_false_iff_ne.mpr hgm
      have htb : (atN o == 0) = true := by rw [ht2]; rfl
      go_enter Tryd.func28, Tryd.ntmps28
      have TK1 := Aside0.mk trivial
      go_upto_region 11 with (first
        | (go_at_call 69; refine HK.out.1.mono ?_; rintro e w2 ⟨rfl, hw⟩; have hw := hw.symm; subst hw)
        | (go_at_call 70; refine HK.out.2.mono ?_; rintro e w3 ⟨A3, rfl, hR, hB⟩; have P3 := Aside0.mk hB; clear hR hB)
        | (go_at_call 71; refine (room_c (HX.out.2.1.below P3.out)).mono ?_; rintro e w4 ⟨rfl, hw⟩; have hw := hw.symm; subst hw)
        | (go_at_call 72; have tk := TK1; clear tk TK1; with_reducible refine (place0_c (HX.out.2.1.below P3.out) 2 rfl).mono ?_; rintro e w4 ⟨rfl, hB⟩; have P4 := Aside0.mk (below_step P3.out hB); clear hB)
        | (go_at_call 72; with_reducible refine (place1_c (HX.out.2.1.below P4.out) tz (by have := HY.out.2.2.2.2.2.2.2.2.2; rw [ht1] at this; omega)).mono ?_; rintro e w5 ⟨rfl, hB⟩; have P5 := Aside0.mk (below_step P4.out hB); clear hB))
      have P6 : Aside0 ((w5.alloc (.cells #[.int .u8 0, .int .u8 0, .int .u8 0, .int .u8 0, .int .u8 0, .int .u8 0, .int .u8 0, .int .u8 0, .int .u8 0, .int .u8 0, .int .u8 0, .int .u8 0, .int .u8 0, .int .u8 0, .int .u8 0, .int .u8 0, .int .u8 0, .int .u8 0, .int .u8 0, .int .u8 0, .int .u8 0, .int .u8 0, .int .u8 0, .int .u8 0, .int .u8 0, .int .u8 0, .int .u8 0, .int .u8 0, .int .u8 0, .int .u8 0, .int .u8 0, .int .u8 0, .int .u8 0, .int .u8 0, .int .u8 0, .int .u8 0, .int .u8 0, .int .u8 0, .int .u8 0, .int .u8 0, .int .u8 0, .int .u8 0, .int .u8 0, .int .u8 0, .int .u8 0, .int .u8 0, .int .u8 0, .int .u8 0, .int .u8 0, .int .u8 0, .int .u8 0, .int .u8 0, .int .u8 0, .int .u8 0, .int .u8 0, .int .u8 0, .int .u8 0, .int .u8 0, .int .u8 0, .int .u8 0, .int .u8 0, .int .u8 0, .int .u8 0, .int .u8 0] 124)).heap[w5.heap.size]? = some (.cells (cells8 zero64) 124 (0, 0)) ∧ Below w.heap.size w (w5.alloc (.cells #[.int .u8 0, .int .u8 0, .int .u8 0, .int .u8 0, .int .u8 0, .int .u8 0, .int .u8 0, .int .u8 0, .int .u8 0, .int .u8 0, .int .u8 0, .int .u8 0, .int .u8 0, .int .u8 0, .int .u8 0, .int .u8 0, .int .u8 0, .int .u8 0, .int .u8 0, .int .u8 0, .int .u8 0, .int .u8 0, .int .u8 0, .int .u8 0, .int .u8 0, .int .u8 0, .int .u8 0, .int .u8 0, .int .u8 0, .int .u8 0, .int .u8 0, .int .u8 0, .int .u8 0, .int .u8 0, .int .u8 0, .int .u8 0, .int .u8 0, .int .u8 0, .int .u8 0, .int .u8 0, .int .u8 0, .int .u8 0, .int .u8 0, .int .u8 0, .int .u8 0, .int .u8 0, .int .u8 0, .int .u8 0, .int .u8 0, .int .u8 0, .int .u8 0, .int .u8 0, .int .u8 0, .int .u8 0, .int .u8 0, .int .u8 0, .int .u8 0, .int .u8 0, .int .u8 0, .int .u8 0, .int .u8 0, .int .u8 0, .int .u8 0, .int .u8 0] 124))) := ⟨hz w5, below_alloc P5.out _⟩
      generalize (w5.alloc (.cells #[.int .u8 0, .int .u8 0, .int .u8 0, .int .u8 0, .int .u8 0, .int .u8 0, .int .u8 0, .int .u8 0, .int .u8 0, .int .u8 0, .int .u8 0, .int .u8 0, .int .u8 0, .int .u8 0, .int .u8 0, .int .u8 0, .int .u8 0, .int .u8 0, .int .u8 0, .int .u8 0, .int .u8 0, .int .u8 0, .int .u8 0, .int .u8 0, .int .u8 0, .int .u8 0, .int .u8 0, .int .u8 0, .int .u8 0, .int .u8 0, .int .u8 0, .int .u8 0, .int .u8 0, .int .u8 0, .int .u8 0, .int .u8 0, .int .u8 0, .int .u8 0, .int .u8 0, .int .u8 0, .int .u8 0, .int .u8 0, .int .u8 0, .int .u8 0, .int .u8 0, .int .u8 0, .int .u8 0, .int .u8 0, .int .u8 0, .int .u8 0, .int .u8 0, .int .u8 0, .int .u8 0, .int .u8 0, .int .u8 0, .int .u8 0, .int .u8 0, .int .u8 0, .int .u8 0, .int .u8 0, .int .u8 0, .int .u8 0, .int .u8 0, .int .u8 0] 124)) = w6 at P6 ⊢
      generalize w5.heap.size = g6 at P6 ⊢
      have hst := step_c (HX.out.1.below P6.out.2) (HX.out.2.1.below P6.out.2) HX.out.2.2.2.1 HX.out.2.2.2.2.1 tz (List.replicate 64 0) (some ⟨g6, 0, none⟩) 64 64 (by rw [List.length_replicate]) (by decide) (head_C rfl P6.out.1) (by rw [HY.out.2.2.2.2.2.2.2.1, HX.out.2.2.2.2.2.1]; have := HX.out.2.2.2.2.2.2.2.2.2.2.2.2.2; omega) (head_keep P6.out.1 64)
      rw [← HY.out.1] at hst
      have HS1 := Aside0.mk hst
      clear hst
      rw [ha1] at HS1
      go_wp2_with (first
        | (go_at_call 73; with_reducible refine HS1.out.mono ?_; rintro e w7 ⟨rfl, hD, hM, hB⟩; have P7 := Aside0.mk (And.intro hD (And.intro ((Mv.of P6.out.2).trans hM) ((below_le P6.out.2 HX.out.2.2.2.2.2.2.2.2.2.2.2.2.1).trans hB))); clear hD hM hB))
      go_ret
      exact ⟨by rw [ha1]; rfl, P7.out⟩
  · rcases ha with ⟨ha1, ha2⟩ | ha1
    · rw [if_pos ha1]
      obtain ⟨b1, b2, b3⟩ := HY.out.2.2.2.2.2.1 ha2
      have HB2 := Aside0.mk (And.intro b1 (And.intro b2 ha2))
      clear b1 b2 ha2
      rcases b3 with ⟨hb1, hb2⟩ | hb1
      · rw [if_pos hb1]
        have HB3 := Aside0.mk hb2
        clear hb2
        have hnb : decide ((576 : Int) < (n : Int)) = false := decide_eq_false hnI
        have hgmb : (genN o == 18446744073709551615) = false := beq_eq_false_iff_ne.mpr hgm
        have htb : (atN o == 0) = false := beq_eq_false_iff_ne.mpr ht2
        go_enter Tryd.func28, Tryd.ntmps28
        go_upto_region 11 with (first
          | (go_at_call 69; refine HK.out.1.mono ?_; rintro e w2 ⟨rfl, hw⟩; have hw := hw.symm; subst hw)
          | (go_at_call 70; refine HK.out.2.mono ?_; rintro e w3 ⟨A3, rfl, hR, hB⟩; have P3 := Aside0.mk hB; clear hR hB)
          | (go_at_call 71; refine (room_c (HX.out.2.1.below P3.out)).mono ?_; rintro e w4 ⟨rfl, hw⟩; have hw := hw.symm; subst hw)
          | (go_at_call 72; with_reducible refine (place0_c (HX.out.2.1.below P3.out) tz (by have := HY.out.2.2.2.2.2.2.2.2.2; rw [ht1] at this; omega)).mono ?_; rintro e w5 ⟨rfl, hB⟩; have P5 := Aside0.mk (below_step P3.out hB); clear hB))
        have P6 : Aside0 ((w5.alloc (.cells #[.int .u8 0, .int .u8 0, .int .u8 0, .int .u8 0, .int .u8 0, .int .u8 0, .int .u8 0, .int .u8 0, .int .u8 0, .int .u8 0, .int .u8 0, .int .u8 0, .int .u8 0, .int .u8 0, .int .u8 0, .int .u8 0, .int .u8 0, .int .u8 0, .int .u8 0, .int .u8 0, .int .u8 0, .int .u8 0, .int .u8 0, .int .u8 0, .int .u8 0, .int .u8 0, .int .u8 0, .int .u8 0, .int .u8 0, .int .u8 0, .int .u8 0, .int .u8 0, .int .u8 0, .int .u8 0, .int .u8 0, .int .u8 0, .int .u8 0, .int .u8 0, .int .u8 0, .int .u8 0, .int .u8 0, .int .u8 0, .int .u8 0, .int .u8 0, .int .u8 0, .int .u8 0, .int .u8 0, .int .u8 0, .int .u8 0, .int .u8 0, .int .u8 0, .int .u8 0, .int .u8 0, .int .u8 0, .int .u8 0, .int .u8 0, .int .u8 0, .int .u8 0, .int .u8 0, .int .u8 0, .int .u8 0, .int .u8 0, .int .u8 0, .int .u8 0] 124)).heap[w5.heap.size]? = some (.cells (cells8 zero64) 124 (0, 0)) ∧ Below w.heap.size w (w5.alloc (.cells #[.int .u8 0, .int .u8 0, .int .u8 0, .int .u8 0, .int .u8 0, .int .u8 0, .int .u8 0, .int .u8 0, .int .u8 0, .int .u8 0, .int .u8 0, .int .u8 0, .int .u8 0, .int .u8 0, .int .u8 0, .int .u8 0, .int .u8 0, .int .u8 0, .int .u8 0, .int .u8 0, .int .u8 0, .int .u8 0, .int .u8 0, .int .u8 0, .int .u8 0, .int .u8 0, .int .u8 0, .int .u8 0, .int .u8 0, .int .u8 0, .int .u8 0, .int .u8 0, .int .u8 0, .int .u8 0, .int .u8 0, .int .u8 0, .int .u8 0, .int .u8 0, .int .u8 0, .int .u8 0, .int .u8 0, .int .u8 0, .int .u8 0, .int .u8 0, .int .u8 0, .int .u8 0, .int .u8 0, .int .u8 0, .int .u8 0, .int .u8 0, .int .u8 0, .int .u8 0, .int .u8 0, .int .u8 0, .int .u8 0, .int .u8 0, .int .u8 0, .int .u8 0, .int .u8 0, .int .u8 0, .int .u8 0, .int .u8 0, .int .u8 0, .int .u8 0] 124))) := ⟨hz w5, below_alloc P5.out _⟩
        generalize (w5.alloc (.cells #[.int .u8 0, .int .u8 0, .int .u8 0, .int .u8 0, .int .u8 0, .int .u8 0, .int .u8 0, .int .u8 0, .int .u8 0, .int .u8 0, .int .u8 0, .int .u8 0, .int .u8 0, .int .u8 0, .int .u8 0, .int .u8 0, .int .u8 0, .int .u8 0, .int .u8 0, .int .u8 0, .int .u8 0, .int .u8 0, .int .u8 0, .int .u8 0, .int .u8 0, .int .u8 0, .int .u8 0, .int .u8 0, .int .u8 0, .int .u8 0, .int .u8 0, .int .u8 0, .int .u8 0, .int .u8 0, .int .u8 0, .int .u8 0, .int .u8 0, .int .u8 0, .int .u8 0, .int .u8 0, .int .u8 0, .int .u8 0, .int .u8 0, .int .u8 0, .int .u8 0, .int .u8 0, .int .u8 0, .int .u8 0, .int .u8 0, .int .u8 0, .int .u8 0, .int .u8 0, .int .u8 0, .int .u8 0, .int .u8 0, .int .u8 0, .int .u8 0, .int .u8 0, .int .u8 0, .int .u8 0, .int .u8 0, .int .u8 0, .int .u8 0, .int .u8 0] 124)) = w6 at P6 ⊢
        generalize w5.heap.size = g6 at P6 ⊢
        have hst := step_c (HX.out.1.below P6.out.2) (HX.out.2.1.below P6.out.2) HX.out.2.2.2.1 HX.out.2.2.2.2.1 tz (List.replicate 64 0) (some ⟨g6, 0, none⟩) 64 64 (by rw [List.length_replicate]) (by decide) (head_C rfl P6.out.1) (by rw [HY.out.2.2.2.2.2.2.2.1, HX.out.2.2.2.2.2.1]; have := HX.out.2.2.2.2.2.2.2.2.2.2.2.2.2; omega) (head_keep P6.out.1 64)
        rw [← HY.out.1] at hst
        have HS1 := Aside0.mk hst
        clear hst
        rw [ha1] at HS1
        go_upto_region 14 with (first
          | (go_at_call 73; with_reducible refine HS1.out.mono ?_; rintro e w7 ⟨rfl, hD, hM, hB⟩; have P7 := Aside0.mk (And.intro hD (And.intro ((Mv.of P6.out.2).trans hM) ((below_le P6.out.2 HX.out.2.2.2.2.2.2.2.2.2.2.2.2.1).trans hB))); clear hD hM hB))
        obtain ⟨hv7, hD7⟩ := P7.out.1
        have hst := step_c hD7 (HX.out.2.1.mv P7.out.2.1) HB2.out.2.2 HY.out.2.2.2.1 (tz + 1) x A n c HX.out.2.2.2.2.2.2.2.2.2.2.1 HX.out.2.2.2.2.2.2.2.2.2.2.2.1 (HX.out.2.2.2.2.2.2.2.2.2.1.C HX.out.2.2.2.2.2.2.2.2.1 P7.out.2.1 P7.out.2.2) (by rw [HY.out.2.2.2.2.1, HX.out.2.2.2.2.2.2.2.2.2.2.1]; have := HX.out.2.2.2.2.2.2.2.2.2.2.2.2.2; have := HY.out.2.2.2.2.2.2.2.2.1; omega) (HX.out.2.2.2.2.2.2.2.2.2.1.move P7.out.2.1 P7.out.2.2)
        rw [← HY.out.2.1, show ((tz + 1 : Nat) : Int) = (tz : Int) + 1 by omega] at hst
        have HS2 := Aside0.mk hst
        clear hst hD7
        rw [hb1] at HS2
        go_upto_region 17 with (first
          | (go_at_call 73; with_reducible refine HS2.out.mono ?_; rintro e w8 ⟨rfl, hD, hM, hB⟩; have P8 := Aside0.mk (And.intro hD (And.intro (P7.out.2.1.trans hM) (P7.out.2.2.trans hB))); clear hD hM hB))
        obtain ⟨hv8, hD8⟩ := P8.out.1
        obtain ⟨hl, hhl⟩ : ∃ l, l = headL (genN o + 1) x := ⟨_, rfl⟩
        have hl64 : hl.length = 64 := by rw [hhl]; exact headL_length _ _
        have khd := headOf_c (genN o + 1) ⟨by omega, by omega⟩ A n c x w8 (HX.out.2.2.1 w8 P8.out.2.2) HX.out.2.2.2.2.2.2.2.2.2.2.1 (HX.out.2.2.2.2.2.2.2.2.2.1.C HX.out.2.2.2.2.2.2.2.2.1 P8.out.2.1 P8.out.2.2) HX.out.2.2.2.2.2.2.2.1 (by have := HX.out.2.2.2.2.2.2.1; omega)
        rw [← hhl] at khd
        have HHD := Aside0.mk khd
        have HHL := Lib.hid hhl
        clear hhl
        clear khd
        go_upto_region 18 with (first
          | (go_at_call 74; with_reducible refine HHD.out.mono ?_; rintro e w9 ⟨rfl, hB⟩; have P9 := Aside0.mk hB; clear hB)
          | (refine wpList_store_row rfl 124 (.tmp 13) (.tmp 58) rfl w9.heap.size (cells8 hl) (by rfl) (by rfl) 124 (cells8 zero64) (hz w9) (by rw [size8 hl64]; exact infoHd) (by rw [size8 hl64]; rfl) (ones8 _) ?_))
        have B10 : Below w8.heap.size w8 ((w9.alloc (.cells #[.int .u8 0, .int .u8 0, .int .u8 0, .int .u8 0, .int .u8 0, .int .u8 0, .int .u8 0, .int .u8 0, .int .u8 0, .int .u8 0, .int .u8 0, .int .u8 0, .int .u8 0, .int .u8 0, .int .u8 0, .int .u8 0, .int .u8 0, .int .u8 0, .int .u8 0, .int .u8 0, .int .u8 0, .int .u8 0, .int .u8 0, .int .u8 0, .int .u8 0, .int .u8 0, .int .u8 0, .int .u8 0, .int .u8 0, .int .u8 0, .int .u8 0, .int .u8 0, .int .u8 0, .int .u8 0, .int .u8 0, .int .u8 0, .int .u8 0, .int .u8 0, .int .u8 0, .int .u8 0, .int .u8 0, .int .u8 0, .int .u8 0, .int .u8 0, .int .u8 0, .int .u8 0, .int .u8 0, .int .u8 0, .int .u8 0, .int .u8 0, .int .u8 0, .int .u8 0, .int .u8 0, .int .u8 0, .int .u8 0, .int .u8 0, .int .u8 0, .int .u8 0, .int .u8 0, .int .u8 0, .int .u8 0, .int .u8 0, .int .u8 0, .int .u8 0] 124)).setRow w9.heap.size (cells8 hl)) := below_setRow (below_alloc P9.out _) P9.out.size _
        have P10 : Aside0 (((w9.alloc (.cells #[.int .u8 0, .int .u8 0, .int .u8 0, .int .u8 0, .int .u8 0, .int .u8 0, .int .u8 0, .int .u8 0, .int .u8 0, .int .u8 0, .int .u8 0, .int .u8 0, .int .u8 0, .int .u8 0, .int .u8 0, .int .u8 0, .int .u8 0, .int .u8 0, .int .u8 0, .int .u8 0, .int .u8 0, .int .u8 0, .int .u8 0, .int .u8 0, .int .u8 0, .int .u8 0, .int .u8 0, .int .u8 0, .int .u8 0, .int .u8 0, .int .u8 0, .int .u8 0, .int .u8 0, .int .u8 0, .int .u8 0, .int .u8 0, .int .u8 0, .int .u8 0, .int .u8 0, .int .u8 0, .int .u8 0, .int .u8 0, .int .u8 0, .int .u8 0, .int .u8 0, .int .u8 0, .int .u8 0, .int .u8 0, .int .u8 0, .int .u8 0, .int .u8 0, .int .u8 0, .int .u8 0, .int .u8 0, .int .u8 0, .int .u8 0, .int .u8 0, .int .u8 0, .int .u8 0, .int .u8 0, .int .u8 0, .int .u8 0, .int .u8 0, .int .u8 0] 124)).setRow w9.heap.size (cells8 hl)).heap[w9.heap.size]? = some (.cells (cells8 hl) 124 (0, 0)) ∧ Dk base p gs hv8 cv s2.1 ((w9.alloc (.cells #[.int .u8 0, .int .u8 0, .int .u8 0, .int .u8 0, .int .u8 0, .int .u8 0, .int .u8 0, .int .u8 0, .int .u8 0, .int .u8 0, .int .u8 0, .int .u8 0, .int .u8 0, .int .u8 0, .int .u8 0, .int .u8 0, .int .u8 0, .int .u8 0, .int .u8 0, .int .u8 0, .int .u8 0, .int .u8 0, .int .u8 0, .int .u8 0, .int .u8 0, .int .u8 0, .int .u8 0, .int .u8 0, .int .u8 0, .int .u8 0, .int .u8 0, .int .u8 0, .int .u8 0, .int .u8 0, .int .u8 0, .int .u8 0, .int .u8 0, .int .u8 0, .int .u8 0, .int .u8 0, .int .u8 0, .int .u8 0, .int .u8 0, .int .u8 0, .int .u8 0, .int .u8 0, .int .u8 0, .int .u8 0, .int .u8 0, .int .u8 0, .int .u8 0, .int .u8 0, .int .u8 0, .int .u8 0, .int .u8 0, .int .u8 0, .int .u8 0, .int .u8 0, .int .u8 0, .int .u8 0, .int .u8 0, .int .u8 0, .int .u8 0, .int .u8 0] 124)).setRow w9.heap.size (cells8 hl)) ∧ Mv w ((w9.alloc (.cells #[.int .u8 0, .int .u8 0, .int .u8 0, .int .u8 0, .int .u8 0, .int .u8 0, .int .u8 0, .int .u8 0, .int .u8 0, .int .u8 0, .int .u8 0, .int .u8 0, .int .u8 0, .int .u8 0, .int .u8 0, .int .u8 0, .int .u8 0, .int .u8 0, .int .u8 0, .int .u8 0, .int .u8 0, .int .u8 0, .int .u8 0, .int .u8 0, .int .u8 0, .int .u8 0, .int .u8 0, .int .u8 0, .int .u8 0, .int .u8 0, .int .u8 0, .int .u8 0, .int .u8 0, .int .u8 0, .int .u8 0, .int .u8 0, .int .u8 0, .int .u8 0, .int .u8 0, .int .u8 0, .int .u8 0, .int .u8 0, .int .u8 0, .int .u8 0, .int .u8 0, .int .u8 0, .int .u8 0, .int .u8 0, .int .u8 0, .int .u8 0, .int .u8 0, .int .u8 0, .int .u8 0, .int .u8 0, .int .u8 0, .int .u8 0, .int .u8 0, .int .u8 0, .int .u8 0, .int .u8 0, .int .u8 0, .int .u8 0, .int .u8 0, .int .u8 0] 124)).setRow w9.heap.size (cells8 hl)) ∧ Below base w ((w9.alloc (.cells #[.int .u8 0, .int .u8 0, .int .u8 0, .int .u8 0, .int .u8 0, .int .u8 0, .int .u8 0, .int .u8 0, .int .u8 0, .int .u8 0, .int .u8 0, .int .u8 0, .int .u8 0, .int .u8 0, .int .u8 0, .int .u8 0, .int .u8 0, .int .u8 0, .int .u8 0, .int .u8 0, .int .u8 0, .int .u8 0, .int .u8 0, .int .u8 0, .int .u8 0, .int .u8 0, .int .u8 0, .int .u8 0, .int .u8 0, .int .u8 0, .int .u8 0, .int .u8 0, .int .u8 0, .int .u8 0, .int .u8 0, .int .u8 0, .int .u8 0, .int .u8 0, .int .u8 0, .int .u8 0, .int .u8 0, .int .u8 0, .int .u8 0, .int .u8 0, .int .u8 0, .int .u8 0, .int .u8 0, .int .u8 0, .int .u8 0, .int .u8 0, .int .u8 0, .int .u8 0, .int .u8 0, .int .u8 0, .int .u8 0, .int .u8 0, .int .u8 0, .int .u8 0, .int .u8 0, .int .u8 0, .int .u8 0, .int .u8 0, .int .u8 0, .int .u8 0] 124)).setRow w9.heap.size (cells8 hl))) := ⟨setRow_heap _ _ _ _ _ _ (hz w9), hD8.below B10, P8.out.2.1.below B10, below_step' P8.out.2.2 B10 (Nat.le_trans HX.out.2.2.2.2.2.2.2.2.2.2.2.2.1 P8.out.2.2.size)⟩
        clear B10 P9
        generalize ((w9.alloc (.cells #[.int .u8 0, .int .u8 0, .int .u8 0, .int .u8 0, .int .u8 0, .int .u8 0, .int .u8 0, .int .u8 0, .int .u8 0, .int .u8 0, .int .u8 0, .int .u8 0, .int .u8 0, .int .u8 0, .int .u8 0, .int .u8 0, .int .u8 0, .int .u8 0, .int .u8 0, .int .u8 0, .int .u8 0, .int .u8 0, .int .u8 0, .int .u8 0, .int .u8 0, .int .u8 0, .int .u8 0, .int .u8 0, .int .u8 0, .int .u8 0, .int .u8 0, .int .u8 0, .int .u8 0, .int .u8 0, .int .u8 0, .int .u8 0, .int .u8 0, .int .u8 0, .int .u8 0, .int .u8 0, .int .u8 0, .int .u8 0, .int .u8 0, .int .u8 0, .int .u8 0, .int .u8 0, .int .u8 0, .int .u8 0, .int .u8 0, .int .u8 0, .int .u8 0, .int .u8 0, .int .u8 0, .int .u8 0, .int .u8 0, .int .u8 0, .int .u8 0, .int .u8 0, .int .u8 0, .int .u8 0, .int .u8 0, .int .u8 0, .int .u8 0, .int .u8 0] 124)).setRow w9.heap.size (cells8 hl)) = w10 at P10 ⊢
        generalize w9.heap.size = g10 at P10 ⊢
        have hst := step_c P10.out.2.1 (HX.out.2.1.mv P10.out.2.2.1) HB3.out HB2.out.1 tz hl (some ⟨g10, 0, none⟩) 64 64 hl64.symm (by decide) (head_C hl64 P10.out.1) (by rw [HY.out.2.2.2.2.2.2.2.1, HB2.out.2.1]; have := HX.out.2.2.2.2.2.2.2.2.2.2.2.2.2; omega) (head_keep P10.out.1 64)
        rw [HHL.out, ← HY.out.2.2.1] at hst
        have HS3 := Aside0.mk hst
        clear hst
        go_wp2_with (first
          | (go_at_call 73; with_reducible refine HS3.out.mono ?_; rintro e w11 ⟨rfl, hD, hM, hB⟩; have P11 := Aside0.mk (And.intro hD (And.intro (P10.out.2.2.1.trans hM) (P10.out.2.2.2.trans hB))); clear hD hM hB))
        go_ret
        exact ⟨rfl, P11.out⟩
      · rw [if_neg (by rw [hb1]; decide)]
        have hnb : decide ((576 : Int) < (n : Int)) = false := decide_eq_false hnI
        have hgmb : (genN o == 18446744073709551615) = false := beq_eq_false_iff_ne.mpr hgm
        have htb : (atN o == 0) = false := beq_eq_false_iff_ne.mpr ht2
        go_enter Tryd.func28, Tryd.ntmps28
        go_upto_region 11 with (first
          | (go_at_call 69; refine HK.out.1.mono ?_; rintro e w2 ⟨rfl, hw⟩; have hw := hw.symm; subst hw)
          | (go_at_call 70; refine HK.out.2.mono ?_; rintro e w3 ⟨A3, rfl, hR, hB⟩; have P3 := Aside0.mk hB; clear hR hB)
          | (go_at_call 71; refine (room_c (HX.out.2.1.below P3.out)).mono ?_; rintro e w4 ⟨rfl, hw⟩; have hw := hw.symm; subst hw)
          | (go_at_call 72; with_reducible refine (place0_c (HX.out.2.1.below P3.out) tz (by have := HY.out.2.2.2.2.2.2.2.2.2; rw [ht1] at this; omega)).mono ?_; rintro e w5 ⟨rfl, hB⟩; have P5 := Aside0.mk (below_step P3.out hB); clear hB))
        have P6 : Aside0 ((w5.alloc (.cells #[.int .u8 0, .int .u8 0, .int .u8 0, .int .u8 0, .int .u8 0, .int .u8 0, .int .u8 0, .int .u8 0, .int .u8 0, .int .u8 0, .int .u8 0, .int .u8 0, .int .u8 0, .int .u8 0, .int .u8 0, .int .u8 0, .int .u8 0, .int .u8 0, .int .u8 0, .int .u8 0, .int .u8 0, .int .u8 0, .int .u8 0, .int .u8 0, .int .u8 0, .int .u8 0, .int .u8 0, .int .u8 0, .int .u8 0, .int .u8 0, .int .u8 0, .int .u8 0, .int .u8 0, .int .u8 0, .int .u8 0, .int .u8 0, .int .u8 0, .int .u8 0, .int .u8 0, .int .u8 0, .int .u8 0, .int .u8 0, .int .u8 0, .int .u8 0, .int .u8 0, .int .u8 0, .int .u8 0, .int .u8 0, .int .u8 0, .int .u8 0, .int .u8 0, .int .u8 0, .int .u8 0, .int .u8 0, .int .u8 0, .int .u8 0, .int .u8 0, .int .u8 0, .int .u8 0, .int .u8 0, .int .u8 0, .int .u8 0, .int .u8 0, .int .u8 0] 124)).heap[w5.heap.size]? = some (.cells (cells8 zero64) 124 (0, 0)) ∧ Below w.heap.size w (w5.alloc (.cells #[.int .u8 0, .int .u8 0, .int .u8 0, .int .u8 0, .int .u8 0, .int .u8 0, .int .u8 0, .int .u8 0, .int .u8 0, .int .u8 0, .int .u8 0, .int .u8 0, .int .u8 0, .int .u8 0, .int .u8 0, .int .u8 0, .int .u8 0, .int .u8 0, .int .u8 0, .int .u8 0, .int .u8 0, .int .u8 0, .int .u8 0, .int .u8 0, .int .u8 0, .int .u8 0, .int .u8 0, .int .u8 0, .int .u8 0, .int .u8 0, .int .u8 0, .int .u8 0, .int .u8 0, .int .u8 0, .int .u8 0, .int .u8 0, .int .u8 0, .int .u8 0, .int .u8 0, .int .u8 0, .int .u8 0, .int .u8 0, .int .u8 0, .int .u8 0, .int .u8 0, .int .u8 0, .int .u8 0, .int .u8 0, .int .u8 0, .int .u8 0, .int .u8 0, .int .u8 0, .int .u8 0, .int .u8 0, .int .u8 0, .int .u8 0, .int .u8 0, .int .u8 0, .int .u8 0, .int .u8 0, .int .u8 0, .int .u8 0, .int .u8 0, .int .u8 0] 124))) := ⟨hz w5, below_alloc P5.out _⟩
        generalize (w5.alloc (.cells #[.int .u8 0, .int .u8 0, .int .u8 0, .int .u8 0, .int .u8 0, .int .u8 0, .int .u8 0, .int .u8 0, .int .u8 0, .int .u8 0, .int .u8 0, .int .u8 0, .int .u8 0, .int .u8 0, .int .u8 0, .int .u8 0, .int .u8 0, .int .u8 0, .int .u8 0, .int .u8 0, .int .u8 0, .int .u8 0, .int .u8 0, .int .u8 0, .int .u8 0, .int .u8 0, .int .u8 0, .int .u8 0, .int .u8 0, .int .u8 0, .int .u8 0, .int .u8 0, .int .u8 0, .int .u8 0, .int .u8 0, .int .u8 0, .int .u8 0, .int .u8 0, .int .u8 0, .int .u8 0, .int .u8 0, .int .u8 0, .int .u8 0, .int .u8 0, .int .u8 0, .int .u8 0, .int .u8 0, .int .u8 0, .int .u8 0, .int .u8 0, .int .u8 0, .int .u8 0, .int .u8 0, .int .u8 0, .int .u8 0, .int .u8 0, .int .u8 0, .int .u8 0, .int .u8 0, .int .u8 0, .int .u8 0, .int .u8 0, .int .u8 0, .int .u8 0] 124)) = w6 at P6 ⊢
        generalize w5.heap.size = g6 at P6 ⊢
        have hst := step_c (HX.out.1.below P6.out.2) (HX.out.2.1.below P6.out.2) HX.out.2.2.2.1 HX.out.2.2.2.2.1 tz (List.replicate 64 0) (some ⟨g6, 0, none⟩) 64 64 (by rw [List.length_replicate]) (by decide) (head_C rfl P6.out.1) (by rw [HY.out.2.2.2.2.2.2.2.1, HX.out.2.2.2.2.2.1]; have := HX.out.2.2.2.2.2.2.2.2.2.2.2.2.2; omega) (head_keep P6.out.1 64)
        rw [← HY.out.1] at hst
        have HS1 := Aside0.mk hst
        clear hst
        rw [ha1] at HS1
        go_upto_region 14 with (first
          | (go_at_call 73; with_reducible refine HS1.out.mono ?_; rintro e w7 ⟨rfl, hD, hM, hB⟩; have P7 := Aside0.mk (And.intro hD (And.intro ((Mv.of P6.out.2).trans hM) ((below_le P6.out.2 HX.out.2.2.2.2.2.2.2.2.2.2.2.2.1).trans hB))); clear hD hM hB))
        obtain ⟨hv7, hD7⟩ := P7.out.1
        have hst := step_c hD7 (HX.out.2.1.mv P7.out.2.1) HB2.out.2.2 HY.out.2.2.2.1 (tz + 1) x A n c HX.out.2.2.2.2.2.2.2.2.2.2.1 HX.out.2.2.2.2.2.2.2.2.2.2.2.1 (HX.out.2.2.2.2.2.2.2.2.2.1.C HX.out.2.2.2.2.2.2.2.2.1 P7.out.2.1 P7.out.2.2) (by rw [HY.out.2.2.2.2.1, HX.out.2.2.2.2.2.2.2.2.2.2.1]; have := HX.out.2.2.2.2.2.2.2.2.2.2.2.2.2; have := HY.out.2.2.2.2.2.2.2.2.1; omega) (HX.out.2.2.2.2.2.2.2.2.2.1.move P7.out.2.1 P7.out.2.2)
        rw [← HY.out.2.1, show ((tz + 1 : Nat) : Int) = (tz : Int) + 1 by omega] at hst
        have HS2 := Aside0.mk hst
        clear hst hD7
        rw [hb1] at HS2
        go_wp2_with (first
          | (go_at_call 73; with_reducible refine HS2.out.mono ?_; rintro e w8 ⟨rfl, hD, hM, hB⟩; have P8 := Aside0.mk (And.intro hD (And.intro (P7.out.2.1.trans hM) (P7.out.2.2.trans hB))); clear hD hM hB))
        go_ret
        exact ⟨by rw [hb1]; rfl, P8.out⟩
    · rw [if_neg (by rw [ha1]; decide)]
      have hnb : decide ((576 : Int) < (n : Int)) = false := decide_eq_false hnI
      have hgmb : (genN o == 18446744073709551615) = false := beq_eq_false_iff_ne.mpr hgm
      have htb : (atN o == 0) = false := beq_eq_false_iff_ne.mpr ht2
      go_enter Tryd.func28, Tryd.ntmps28
      go_upto_region 11 with (first
        | (go_at_call 69; refine HK.out.1.mono ?_; rintro e w2 ⟨rfl, hw⟩; have hw := hw.symm; subst hw)
        | (go_at_call 70; refine HK.out.2.mono ?_; rintro e w3 ⟨A3, rfl, hR, hB⟩; have P3 := Aside0.mk hB; clear hR hB)
        | (go_at_call 71; refine (room_c (HX.out.2.1.below P3.out)).mono ?_; rintro e w4 ⟨rfl, hw⟩; have hw := hw.symm; subst hw)
        | (go_at_call 72; with_reducible refine (place0_c (HX.out.2.1.below P3.out) tz (by have := HY.out.2.2.2.2.2.2.2.2.2; rw [ht1] at this; omega)).mono ?_; rintro e w5 ⟨rfl, hB⟩; have P5 := Aside0.mk (below_step P3.out hB); clear hB))
      have P6 : Aside0 ((w5.alloc (.cells #[.int .u8 0, .int .u8 0, .int .u8 0, .int .u8 0, .int .u8 0, .int .u8 0, .int .u8 0, .int .u8 0, .int .u8 0, .int .u8 0, .int .u8 0, .int .u8 0, .int .u8 0, .int .u8 0, .int .u8 0, .int .u8 0, .int .u8 0, .int .u8 0, .int .u8 0, .int .u8 0, .int .u8 0, .int .u8 0, .int .u8 0, .int .u8 0, .int .u8 0, .int .u8 0, .int .u8 0, .int .u8 0, .int .u8 0, .int .u8 0, .int .u8 0, .int .u8 0, .int .u8 0, .int .u8 0, .int .u8 0, .int .u8 0, .int .u8 0, .int .u8 0, .int .u8 0, .int .u8 0, .int .u8 0, .int .u8 0, .int .u8 0, .int .u8 0, .int .u8 0, .int .u8 0, .int .u8 0, .int .u8 0, .int .u8 0, .int .u8 0, .int .u8 0, .int .u8 0, .int .u8 0, .int .u8 0, .int .u8 0, .int .u8 0, .int .u8 0, .int .u8 0, .int .u8 0, .int .u8 0, .int .u8 0, .int .u8 0, .int .u8 0, .int .u8 0] 124)).heap[w5.heap.size]? = some (.cells (cells8 zero64) 124 (0, 0)) ∧ Below w.heap.size w (w5.alloc (.cells #[.int .u8 0, .int .u8 0, .int .u8 0, .int .u8 0, .int .u8 0, .int .u8 0, .int .u8 0, .int .u8 0, .int .u8 0, .int .u8 0, .int .u8 0, .int .u8 0, .int .u8 0, .int .u8 0, .int .u8 0, .int .u8 0, .int .u8 0, .int .u8 0, .int .u8 0, .int .u8 0, .int .u8 0, .int .u8 0, .int .u8 0, .int .u8 0, .int .u8 0, .int .u8 0, .int .u8 0, .int .u8 0, .int .u8 0, .int .u8 0, .int .u8 0, .int .u8 0, .int .u8 0, .int .u8 0, .int .u8 0, .int .u8 0, .int .u8 0, .int .u8 0, .int .u8 0, .int .u8 0, .int .u8 0, .int .u8 0, .int .u8 0, .int .u8 0, .int .u8 0, .int .u8 0, .int .u8 0, .int .u8 0, .int .u8 0, .int .u8 0, .int .u8 0, .int .u8 0, .int .u8 0, .int .u8 0, .int .u8 0, .int .u8 0, .int .u8 0, .int .u8 0, .int .u8 0, .int .u8 0, .int .u8 0, .int .u8 0, .int .u8 0, .int .u8 0] 124))) := ⟨hz w5, below_alloc P5.out _⟩
      generalize (w5.alloc (.cells #[.int .u8 0, .int .u8 0, .int .u8 0, .int .u8 0, .int .u8 0, .int .u8 0, .int .u8 0, .int .u8 0, .int .u8 0, .int .u8 0, .int .u8 0, .int .u8 0, .int .u8 0, .int .u8 0, .int .u8 0, .int .u8 0, .int .u8 0, .int .u8 0, .int .u8 0, .int .u8 0, .int .u8 0, .int .u8 0, .int .u8 0, .int .u8 0, .int .u8 0, .int .u8 0, .int .u8 0, .int .u8 0, .int .u8 0, .int .u8 0, .int .u8 0, .int .u8 0, .int .u8 0, .int .u8 0, .int .u8 0, .int .u8 0, .int .u8 0, .int .u8 0, .int .u8 0, .int .u8 0, .int .u8 0, .int .u8 0, .int .u8 0, .int .u8 0, .int .u8 0, .int .u8 0, .int .u8 0, .int .u8 0, .int .u8 0, .int .u8 0, .int .u8 0, .int .u8 0, .int .u8 0, .int .u8 0, .int .u8 0, .int .u8 0, .int .u8 0, .int .u8 0, .int .u8 0, .int .u8 0, .int .u8 0, .int .u8 0, .int .u8 0, .int .u8 0] 124)) = w6 at P6 ⊢
      generalize w5.heap.size = g6 at P6 ⊢
      have hst := step_c (HX.out.1.below P6.out.2) (HX.out.2.1.below P6.out.2) HX.out.2.2.2.1 HX.out.2.2.2.2.1 tz (List.replicate 64 0) (some ⟨g6, 0, none⟩) 64 64 (by rw [List.length_replicate]) (by decide) (head_C rfl P6.out.1) (by rw [HY.out.2.2.2.2.2.2.2.1, HX.out.2.2.2.2.2.1]; have := HX.out.2.2.2.2.2.2.2.2.2.2.2.2.2; omega) (head_keep P6.out.1 64)
      rw [← HY.out.1] at hst
      have HS1 := Aside0.mk hst
      clear hst
      rw [ha1] at HS1
      go_wp2_with (first
        | (go_at_call 73; with_reducible refine HS1.out.mono ?_; rintro e w7 ⟨rfl, hD, hM, hB⟩; have P7 := Aside0.mk (And.intro hD (And.intro ((Mv.of P6.out.2).trans hM) ((below_le P6.out.2 HX.out.2.2.2.2.2.2.2.2.2.2.2.2.1).trans hB))); clear hD hM hB))
      go_ret
      exact ⟨by rw [ha1]; rfl, P7.out⟩
end Go.Proofs.YtbenedckmapjoaaDoor.D
