/- The digest of a mark and some texts, in the print's form. -/
import Derived.Test.YtbenedckmapjoaaDoorX
namespace Go.Proofs.YtbenedckmapjoaaDoor.X
open Go.RowKit Go.Proofs.YtbenedckmapjoaaDoorW.PrintWords Go.Proofs.YtbenedckmapjoaaDoor.H
def catm (a : Int) (xs : List (List Int)) (i : Nat) : List Int := a :: (xs.take i).flatten
theorem catm_succ (a : Int) (xs : List (List Int)) (i : Nat) (hi : i < xs.length) : catm a xs (i + 1) = catm a xs i ++ xs.getD i [] := by
  unfold catm
  rw [take_next xs [] i hi]
  simp
theorem catm_all (a : Int) (xs : List (List Int)) : catm a xs xs.length = a :: xs.flatten := by unfold catm; rw [List.take_length]
theorem catm_le (a : Int) (xs : List (List Int)) (i : Nat) : (catm a xs i).length ≤ (a :: xs.flatten).length := by
  unfold catm
  have : xs.flatten = (xs.take i).flatten ++ (xs.drop i).flatten := by rw [← List.flatten_append, List.take_append_drop]
  rw [this]
  simp only [List.length_cons, List.length_append]
  omega
/-- What a digest of a mark and texts is. -/
def dig (t : List Int) : List Int := digest false KS SS t
def merkle_digest.f (a0 : Int) (l1 : List (List Int)) : Option (List Int) := if isBytes (a0 :: l1.flatten) = true ∧ (a0 :: l1.flatten).length ≤ 1048576 then some (dig (a0 :: l1.flatten)) else none
set_option maxRecDepth 100000 in
set_option maxHeartbeats 4000000 in
theorem merkle_digest.calls (a0 : Int) (A1 : Option Addr) (c1 : Nat) (l1 : List (List Int)) (r : List Int) (w : World) (HG : Glb w) (hr1 : Kd.C (Kd.slice 5 (Kd.int .u8)) w A1 l1.length l1) (_hc1 : l1.length ≤ c1) (h : merkle_digest.f a0 l1 = some r) :
    Calls Tryd.prog 77 #[.int .u8 a0, .slice A1 l1.length c1] w fun e w' => ∃ v0_ : Value, e = .returned v0_ ∧ Kd.R (Kd.int .u8) 5 w' w.heap.size (fun _ => True) v0_ r ∧ Below w.heap.size w w' := by
  unfold merkle_digest.f at h
  split at h
  case isFalse => cases h
  rename_i hc
  obtain rfl := Option.some.inj h
  clear h
  have hby : ∀ x ∈ a0 :: l1.flatten, 0 ≤ x ∧ x < 256 := fun x hx => by have := List.all_eq_true.1 hc.1 x hx; simpa using this
  have ha0 := hby a0 (by simp)
  have hbe : ∀ i, i < l1.length → ∀ x ∈ l1.getD i [], 0 ≤ x ∧ x < 256 := fun i hi => flat_getD (fun x hx => hby x (by simp [hx])) hi
  have hbl : ∀ i, (catm a0 l1 i).length ≤ 1048576 := fun i => Nat.le_trans (catm_le a0 l1 i) hc.2
  have hbl2 : ∀ i, i < l1.length → (l1.getD i []).length ≤ 1048576 := fun i hi => by have := hbl (i + 1); rw [catm_succ _ _ _ hi, List.length_append] at this; omega
  have hxm := Kd.C_max hr1
  have H0 := Aside0.mk (And.intro HG (And.intro hr1 (And.intro hbe (And.intro hbl hbl2))))
  clear hr1 hby hbe hbl hbl2 hc
  go_enter Tryd.func77, Tryd.ntmps77
  go_wp2_with (first
    | (go_at_call 98; refine (new32_c KS SS _ H0.out.1.laid H0.out.1.g0 H0.out.1.g1).mono ?_; rintro e w1 ⟨p, rfl, hH1, hB⟩; have P1 := Aside0.mk (And.intro hH1 hB); clear hH1 hB)
    | (go_at_call 99
       have hbl0 := below_alloc (Below.refl w1.heap.size w1) (Obj.cells #[Value.int IntKind.u8 a0] 5)
       have P2 := Aside0.mk (And.intro (P1.out.1.below hbl0) (And.intro (one_C w1 a0 5) (below_step P1.out.2 hbl0)))
       have hp1 := blk_lt P1.out.1.cells
       have hw := write_c w.heap.size false KS SS [] p (.slice none 0 0) (some ⟨w1.heap.size, 0, none⟩) 1 [a0] (w1.alloc (Obj.cells #[Value.int IntKind.u8 a0] 5)) P2.out.1 (H0.out.1.of P2.out.2.2).laid P2.out.2.1 (fun hn ad2 e => by injection e with e; subst e; show w1.heap.size ≠ p; omega) (fun k hk hn ad2 e => by cases hk) (getD_bytes (fun x hx => by simp at hx; subst hx; exact ha0)) (by simp)
       refine hw.mono ?_
       rintro e w3 ⟨rfl, v3, hH3, hv3, hF3⟩
       have P3 := Aside0.mk (And.intro (show HashAt w.heap.size false KS SS (catm a0 l1 0) p v3 w3 from hH3) (Fr.below P2.out.2.2 P2.out.2.2.size (fun k hk => by rcases hk with rfl | hk; exact P2.out.1.hbase; cases hk) hF3))
       clear hH3 hv3 hF3 hw P1 P2 hbl0 hp1))
  have hpW := P3.out.1.hbase
  go_loopg [19] l1.length (fun m v19 wr => ∃ (i : Nat) (v : Value), m + i = l1.length ∧ v19 = .int .i64 i ∧ Aside0 (HashAt w.heap.size false KS SS (catm a0 l1 i) p v wr ∧ Below w.heap.size w wr))
  case atStart => exact ⟨0, v3, by omega, rfl, P3⟩
  case round =>
    obtain ⟨i, v, hmi, rfl, P6⟩ := hrel
    clear P3
    by_cases hi : i < l1.length
    · have hiI : (i : Int) < l1.length := by omega
      obtain ⟨ad, A, c, rfl, hcell0, hlc, hC⟩ := elem_at H0.out.2.1 hi
      have hcell := (P6.out.2.cell (World.block_lt_of_cell? w _ hcell0)).trans hcell0
      have hl := H0.out.2.2.2.2 i hi
      have hbb := H0.out.2.2.1 i hi
      have hcs := catm_succ a0 l1 i hi
      have hc8 := H0.out.2.2.2.1 (i + 1)
      obtain ⟨l, hll⟩ : ∃ l, l = l1.getD i [] := ⟨_, rfl⟩
      rw [← hll] at hcell hcell0 hlc hC hl hbb hcs
      obtain ⟨nl, hnl⟩ : ∃ nl, nl = l.length := ⟨_, rfl⟩
      rw [← hnl] at hcell hcell0 hlc hC hl
      have HL := Aside0.mk (And.intro hC (And.intro hbb (And.intro hcs (And.intro hnl hc8))))
      clear hC hbb hcs hnl hc8 hll hcell0
      go_wp2_with (first
        | (go_at_call 99
           have hw := write_c w.heap.size false KS SS (catm a0 l1 i) p v A c l wr P6.out.1 (H0.out.1.of P6.out.2).laid (by rw [← HL.out.2.2.2.1]; exact Kd.C_below HL.out.1 P6.out.2) (fun hn ad2 e => by subst e; have := C_block HL.out.1 (by rw [HL.out.2.2.2.1]; exact hn); omega) (fun k hk hn ad2 e => by subst e; have := C_block HL.out.1 (by rw [HL.out.2.2.2.1]; exact hn); have := Kd.R_base P6.out.1.row k hk; omega) (getD_bytes HL.out.2.1) (by rw [← List.length_append, ← HL.out.2.2.1]; have := HL.out.2.2.2.2; omega)
           rw [← HL.out.2.2.2.1, ← HL.out.2.2.1] at hw
           refine hw.mono ?_
           rintro e w7 ⟨rfl, v7, hH7, hv7, hF7⟩
           have P7 := Aside0.mk (And.intro hH7 (Fr.below P6.out.2 P6.out.2.size (fun k hk => by rcases hk with rfl | hk; exact hpW; exact Kd.R_base P6.out.1.row k hk) hF7))
           clear hH7 hv7 hF7 hw))
      go_roundg (gk - 1)
      all_goals first
        | omega
        | exact ⟨i + 1, v7, by omega, rfl, P7⟩
    · have hiI : ¬ (i : Int) < l1.length := by omega
      obtain rfl : i = l1.length := by omega
      go_wp2_with (first
        | (go_at_call 100
           refine (sum32_c w.heap.size KS SS (catm a0 l1 l1.length) p v wr P6.out.1 (H0.out.1.of P6.out.2).laid).mono ?_
           rintro e w11 ⟨v11, rfl, hR, hB⟩
           have P11 := Aside0.mk (And.intro (R_weaken (b2 := w.heap.size) (ok2 := fun _ => True) hR (fun k hk => by have h1 := Kd.R_base hR k hk; have h2 := P6.out.2.size; omega) (fun _ _ => trivial)) (below_step P6.out.2 hB))
           clear hR hB))
      go_ret
      rw [catm_all] at P11
      exact ⟨v11, rfl, P11.out.1, P11.out.2⟩
theorem digest_some {a : Int} {l : List (List Int)} (hb : isBytes (a :: l.flatten) = true) (hl : (a :: l.flatten).length ≤ 1048576) : merkle_digest.f a l = some (dig (a :: l.flatten)) := by unfold merkle_digest.f; rw [if_pos ⟨hb, hl⟩]
theorem isBytes_of {l : List Int} (h : ∀ x ∈ l, 0 ≤ x ∧ x < 256) : isBytes l = true := List.all_eq_true.2 fun x hx => decide_eq_true (h x hx)
theorem dig_length (t : List Int) : (dig t).length = 32 := tell32_length _ _
theorem em32_bytes (x : Int) : ∀ j, ∀ y ∈ em32 x j, 0 ≤ y ∧ y < 256
  | 0, y, hy => by cases hy
  | j + 1, y, hy => by
    rw [em32, List.mem_append] at hy
    rcases hy with hy | hy
    · exact em32_bytes x j y hy
    · rw [List.mem_singleton] at hy
      subst hy
      simp only [IntKind.wrap_u8]
      omega
theorem tell32_bytes (h : List Int) : ∀ n, ∀ y ∈ tell32 h n, 0 ≤ y ∧ y < 256
  | 0, y, hy => by cases hy
  | n + 1, y, hy => by
    rw [tell32, List.mem_append] at hy
    rcases hy with hy | hy
    · exact tell32_bytes h n y hy
    · exact em32_bytes _ _ y hy
theorem dig_bytes (t : List Int) : ∀ x ∈ dig t, 0 ≤ x ∧ x < 256 := tell32_bytes _ _
end Go.Proofs.YtbenedckmapjoaaDoor.X
