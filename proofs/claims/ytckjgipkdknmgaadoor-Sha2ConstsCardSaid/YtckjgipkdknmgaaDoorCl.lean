/- Constants are the digits of roots. -/
import Derived.Test.YtckjgipkdknmgaaDoorPConx1
import Derived.Test.YtckjgipkdknmgaaDoorPConx2
namespace Go.Proofs.YtckjgipkdknmgaaDoor.PCon
open Go.RowKit Go.Proofs.YtckjgipkdknmgaaDoorW.PrintWords Go.Proofs.YtckjgipkdknmgaaDoorW.PrintMore Go.Proofs.YtckjgipkdknmgaaDoor.X Go.Proofs.YtckjgipkdknmgaaDoor.H
theorem known_true : imprimaturlaw02_known.f = some true := by decide +kernel
theorem roots3 : (List.range 80).all (fun i => imprimaturref02_Root.f 20000 i (KS.getD i 0) 3 == some true) = true := by decide +kernel
theorem roots2 : (List.range 8).all (fun i => imprimaturref02_Root.f 20000 i (SS.getD i 0) 2 == some true) = true := by decide +kernel
theorem root3 (i : Nat) (h : i < 80) : imprimaturref02_Root.f 20000 i (KS.getD i 0) 3 = some true := by
  have := List.all_eq_true.1 roots3 i (List.mem_range.2 h)
  simpa using this
theorem root2 (i : Nat) (h : i < 8) : imprimaturref02_Root.f 20000 i (SS.getD i 0) 2 = some true := by
  have := List.all_eq_true.1 roots2 i (List.mem_range.2 h)
  simpa using this
theorem among80 (a : Int) : ∃ i : Nat, i < 80 ∧ imprimaturref01_Among.f a 80 = some (i : Int) := by
  unfold imprimaturref01_Among.f
  rw [if_neg (by omega), if_neg (by omega)]
  have hlt : Int.tmod a 80 < 80 := Int.tmod_lt_of_pos a (by omega)
  have hgt : -80 < Int.tmod a 80 := by have := Int.lt_tmod_of_pos a (show (0 : Int) < 80 by omega); omega
  split
  · refine ⟨(Int.tmod a 80 + 80).toNat, by omega, ?_⟩
    congr 1
    unfold wrap64
    omega
  · exact ⟨(Int.tmod a 80).toNat, by omega, by congr 1; omega⟩
theorem ref_consts : imprimaturref02_constants.f = some KS := rfl
theorem ref_starts : imprimaturref02_starts.f = some SS := rfl
theorem const_both (i : Int) : ∃ r, sha2_Const.f i = some r ∧ imprimaturref02_Const.f i = some r := by
  unfold sha2_Const.f imprimaturref02_Const.f
  have hl : (KS.length : Int) = 80 := rfl
  by_cases h0 : i < 0
  · exact ⟨_, by rw [if_neg (by omega)], by rw [if_pos h0]⟩
  by_cases h1 : i > 79
  · exact ⟨_, by rw [if_neg (by omega)], by rw [if_neg h0, if_pos h1]⟩
  · exact ⟨_, by rw [if_pos (by omega)], by rw [if_neg h0, if_neg h1, ref_consts]; simp only [Option.bind_some]; rw [if_pos (by omega), if_pos (by omega)]; rfl⟩
theorem start_both (i : Int) : ∃ r, sha2_Start.f i = some r ∧ imprimaturref02_Start.f i = some r := by
  unfold sha2_Start.f imprimaturref02_Start.f
  have hl : (SS.length : Int) = 8 := rfl
  by_cases h0 : i < 0
  · exact ⟨_, by rw [if_neg (by omega)], by rw [if_pos h0]⟩
  by_cases h1 : i > 7
  · exact ⟨_, by rw [if_neg (by omega)], by rw [if_neg h0, if_pos h1]⟩
  · exact ⟨_, by rw [if_pos (by omega)], by rw [if_neg h0, if_neg h1, ref_starts]; simp only [Option.bind_some]; rw [if_pos (by omega), if_pos (by omega)]; rfl⟩
theorem consts_law (hkn : imprimaturlaw02_known.f = some true) (a : Int) : ∃ k, imprimaturlaw02_Sha2Consts.f k a = some true := by
  refine ⟨20000, ?_⟩
  obtain ⟨r, h1, h2⟩ := const_both a
  obtain ⟨s, h3, h4⟩ := start_both a
  obtain ⟨i, hi, h5⟩ := among80 a
  have h6 : sha2_Const.f (i : Int) = some (KS.getD i 0, 0) := by unfold sha2_Const.f; rw [if_pos (by omega)]; rfl
  have e8 : Int.tmod (i : Int) 8 = ((i % 8 : Nat) : Int) := by rw [Int.tmod_eq_emod_of_nonneg (by omega)]; omega
  have h7 : sha2_Start.f ((i % 8 : Nat) : Int) = some (SS.getD (i % 8) 0, 0) := by unfold sha2_Start.f; rw [if_pos (by omega)]; rfl
  unfold imprimaturlaw02_Sha2Consts.f
  simp only [h1, h2, h3, h4, h5, h6, e8, h7, Option.bind_some, if_true, root3 i hi, root2 (i % 8) (by omega), hkn]
theorem Sha2Consts_walk (a0 : Int) (W : World) (HG : Glb W) (_w0 : (Lit.int .i64 a0).wf = true) :
    Calls Tryd.prog 8 #[.int .i64 a0] W fun e w' => e = .returned (.bool true) ∧ Below W.heap.size W w' := by
  obtain ⟨k, h⟩ := consts_law known_true a0
  exact imprimaturlaw02_Sha2Consts.calls k a0 true W HG h
end Go.Proofs.YtckjgipkdknmgaaDoor.PCon
