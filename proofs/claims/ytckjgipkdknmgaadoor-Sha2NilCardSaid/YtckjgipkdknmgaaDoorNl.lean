/- The law Sha2Nil: a hash that is not there. -/
import Derived.Test.YtckjgipkdknmgaaDoorSp
namespace Go.Proofs.YtckjgipkdknmgaaDoor.PSum
open Go.RowKit Go.Proofs.YtckjgipkdknmgaaDoorW.PrintWords Go.Proofs.YtckjgipkdknmgaaDoorW.PrintMore Go.Proofs.YtckjgipkdknmgaaDoor.X Go.Proofs.YtckjgipkdknmgaaDoor.H
set_option maxRecDepth 100000 in
theorem resetNil_c (w : World) : Calls Tryd.prog 23 #[.pointer none] w fun e w' => e = .returned (.tuple #[]) ∧ Below w.heap.size w w' := by
  go_enter Tryd.func23, Tryd.ntmps23
  go_wp2
  (try simp only [Exit.inBlock, Exit.then]); first | refine bodyPost_end (results_none rfl _ _ _) rfl ?_ | refine bodyPost_ret (results_none rfl _ _ _) rfl ?_
  exact ⟨rfl, Below.refl _ _⟩
set_option maxRecDepth 100000 in
theorem writeNil_c (v : Value) (w : World) : Calls Tryd.prog 19 #[.pointer none, v] w fun e w' => e = .returned (.int .i64 3) ∧ Below w.heap.size w w' := by
  go_enter Tryd.func19, Tryd.ntmps19
  go_wp2
  go_ret
  exact ⟨rfl, Below.refl _ _⟩
set_option maxRecDepth 100000 in
theorem sumNil_c (w : World) : Calls Tryd.prog 20 #[.pointer none] w fun e w' => e = .returned (.slice none 0 0) ∧ Below w.heap.size w w' := by
  go_enter Tryd.func20, Tryd.ntmps20
  go_wp2
  go_ret
  exact ⟨rfl, Below.refl _ _⟩
set_option maxRecDepth 100000 in
theorem sizeNil_c (w : World) : Calls Tryd.prog 33 #[.pointer none] w fun e w' => e = .returned (.int .i64 0) ∧ Below w.heap.size w w' := by
  go_enter Tryd.func33, Tryd.ntmps33
  go_wp2
  go_ret
  exact ⟨rfl, Below.refl _ _⟩
set_option maxRecDepth 100000 in
theorem countNil_c (w : World) : Calls Tryd.prog 32 #[.pointer none] w fun e w' => e = .returned (.int .i64 0) ∧ Below w.heap.size w w' := by
  go_enter Tryd.func32, Tryd.ntmps32
  go_wp2
  go_ret
  exact ⟨rfl, Below.refl _ _⟩
set_option maxRecDepth 100000 in
theorem copyNil_c (w : World) : Calls Tryd.prog 21 #[.pointer none] w fun e w' => e = .returned (.pointer none) ∧ Below w.heap.size w w' := by
  go_enter Tryd.func21, Tryd.ntmps21
  go_wp2
  go_ret
  exact ⟨rfl, Below.refl _ _⟩
theorem shape0_one : shape0.all (·.oneCell') = true := by simp [shape0, Value.oneCell']
set_option maxRecDepth 100000 in
set_option maxHeartbeats 1000000 in
theorem newNo_c (bits : Int) (h1 : bits ≠ 256) (h2 : bits ≠ 512) (w : World) : Calls Tryd.prog 17 #[.int .i64 bits] w fun e w' => e = .returned (.tuple #[.pointer none, .int .i64 1]) ∧ Below w.heap.size w w' := by
  go_enter Tryd.func17, Tryd.ntmps17
  go_wp2_with (first
    | (go_at_call 35; refine (ofNo_c _ _ h1 h2).mono ?_; rintro e w1 ⟨rfl, hb⟩; have HB := Aside0.mk hb; clear hb)
    | (refine wpList_store_row rfl 58 (.tmp 4) (.tmp 10) rfl w1.heap.size shape0 (by rfl) (by rfl) 58 _ (new1 _ _) (by kernel_rfl) (by rfl) shape0_one ?_; rw [World.setRow_alloc_new]))
  go_ret2
  exact ⟨rfl, below_alloc HB.out _⟩
/-- What New makes of any number. -/
theorem newAny_c (bits : Int) (w : World) (HG : Glb w) : Calls Tryd.prog 17 #[.int .i64 bits] w fun e w' => ∃ p x, e = .returned (.tuple #[.pointer p, .int .i64 x]) ∧ (x = if bits = 256 ∨ bits = 512 then 0 else 1) ∧ (p.isNone = true ↔ x ≠ 0) ∧ Below w.heap.size w w' := by
  by_cases h1 : bits = 256
  · subst h1
    exact (new_c false KS SS w HG.laid HG.g0 HG.g1).mono fun e w' ⟨p, he, _, hb⟩ => ⟨some ⟨p, 0, none⟩, 0, he, by simp, by simp, hb⟩
  by_cases h2 : bits = 512
  · subst h2
    exact (new_c true KS SS w HG.laid HG.g0 HG.g1).mono fun e w' ⟨p, he, _, hb⟩ => ⟨some ⟨p, 0, none⟩, 0, he, by simp, by simp, hb⟩
  · exact (newNo_c bits h1 h2 w).mono fun e w' ⟨he, hb⟩ => ⟨none, 1, he, by simp [h1, h2], by simp, hb⟩
set_option maxRecDepth 100000 in
set_option maxHeartbeats 2000000 in
theorem Sha2Nil_walk (a : Option Addr) (n c : Nat) (z : List Int) (bits : Int) (W : World) (HG : Glb W) (_h : (a = none ∧ n = 0 ∧ c = 0 ∧ z = []) ∨ ∃ x, a = some x ∧ n ≤ c ∧ c ≤ maxLen ∧ z.length = c ∧ (∀ i, i < z.length → W.cell? (x.add i) = some (.int .u8 (z.getD i 0))) ∧ ∀ n ∈ z, (Lit.int .u8 n).wf = true) (_y : n * 1 ≤ 140737488351232) (_w : (Lit.int .i64 bits).wf = true) :
    Calls Tryd.prog 10 #[.slice a n c, .int .i64 bits] W fun e w' => e = .returned (.bool true) ∧ Below W.heap.size W w' := by
  clear _h _y _w
  have HGG := Aside0.mk HG
  clear HG
  obtain ⟨x0, hx0⟩ : ∃ x0 : Int, x0 = if bits = 256 ∨ bits = 512 then 0 else 1 := ⟨_, rfl⟩
  have HX := Aside0.mk hx0
  clear hx0
  go_enter Tryd.func10, Tryd.ntmps10
  go_upto_region 5 with (first
    | (go_at_call 23; refine (resetNil_c _).mono ?_; rintro e w1 ⟨rfl, hb⟩; have HB := Aside0.mk hb; clear hb)
    | (go_at_call 17; refine (newAny_c bits _ (HGG.out.of HB.out)).mono ?_; rintro e w2 ⟨p, x, rfl, hx, hp, hb⟩; have HB2 := Aside0.mk (below_step HB.out hb); have HP := Aside0.mk (And.intro hx hp); clear hb HB hx hp))
  have hcase : ((bits = 256 ∨ bits = 512) ∧ x = 0 ∧ ∃ q, p = some q) ∨ (bits ≠ 256 ∧ bits ≠ 512 ∧ x = 1 ∧ p = none) := by
    obtain ⟨hx, hp⟩ := HP.out
    by_cases hb : bits = 256 ∨ bits = 512
    · rw [if_pos hb] at hx
      cases p with
      | none => exact absurd hx (hp.1 rfl)
      | some q => exact .inl ⟨hb, hx, q, rfl⟩
    · rw [if_neg hb] at hx
      cases p with
      | none => exact .inr ⟨fun h => hb (.inl h), fun h => hb (.inr h), hx, rfl⟩
      | some q => exact absurd (hp.2 (by omega)) (by simp)
  clear HP HX
  rcases hcase with ⟨hb, rfl, q, rfl⟩ | ⟨hb1, hb2, rfl, rfl⟩
  · rcases hb with rfl | rfl
    all_goals go_wp2_with (first
      | (go_at_call 19; refine (writeNil_c _ _).mono ?_; rintro e w3 ⟨rfl, hb⟩; have HB3 := Aside0.mk (below_step HB2.out hb); clear hb HB2)
      | (go_at_call 20; refine (sumNil_c _).mono ?_; rintro e w4 ⟨rfl, hb⟩; have HB4 := Aside0.mk (below_step HB3.out hb); clear hb HB3)
      | (go_at_call 33; refine (sizeNil_c _).mono ?_; rintro e w5 ⟨rfl, hb⟩; have HB5 := Aside0.mk (below_step HB4.out hb); clear hb HB4)
      | (go_at_call 32; refine (countNil_c _).mono ?_; rintro e w6 ⟨rfl, hb⟩; have HB6 := Aside0.mk (below_step HB5.out hb); clear hb HB5)
      | (go_at_call 21; refine (copyNil_c _).mono ?_; rintro e w7 ⟨rfl, hb⟩; have HB7 := Aside0.mk (below_step HB6.out hb); clear hb HB6)
      | (go_at_call 12; refine (imprimaturlaw02_known.calls true _ (HGG.out.of HB7.out) known_true).mono ?_; rintro e w8 ⟨rfl, hb⟩; have HB8 := Aside0.mk (below_step HB7.out hb); clear hb HB7))
    all_goals go_ret
    all_goals exact ⟨rfl, HB8.out⟩
  · have b1 : (bits != 256) = true := bne_iff_ne.2 hb1
    have b2 : (bits != 512) = true := bne_iff_ne.2 hb2
    go_wp2_with (first
      | (go_at_call 19; refine (writeNil_c _ _).mono ?_; rintro e w3 ⟨rfl, hb⟩; have HB3 := Aside0.mk (below_step HB2.out hb); clear hb HB2)
      | (go_at_call 20; refine (sumNil_c _).mono ?_; rintro e w4 ⟨rfl, hb⟩; have HB4 := Aside0.mk (below_step HB3.out hb); clear hb HB3)
      | (go_at_call 33; refine (sizeNil_c _).mono ?_; rintro e w5 ⟨rfl, hb⟩; have HB5 := Aside0.mk (below_step HB4.out hb); clear hb HB4)
      | (go_at_call 32; refine (countNil_c _).mono ?_; rintro e w6 ⟨rfl, hb⟩; have HB6 := Aside0.mk (below_step HB5.out hb); clear hb HB5)
      | (go_at_call 21; refine (copyNil_c _).mono ?_; rintro e w7 ⟨rfl, hb⟩; have HB7 := Aside0.mk (below_step HB6.out hb); clear hb HB6)
      | (go_at_call 12; refine (imprimaturlaw02_known.calls true _ (HGG.out.of HB7.out) known_true).mono ?_; rintro e w8 ⟨rfl, hb⟩; have HB8 := Aside0.mk (below_step HB7.out hb); clear hb HB7))
    go_ret
    exact ⟨rfl, HB8.out⟩
end Go.Proofs.YtckjgipkdknmgaaDoor.PSum
