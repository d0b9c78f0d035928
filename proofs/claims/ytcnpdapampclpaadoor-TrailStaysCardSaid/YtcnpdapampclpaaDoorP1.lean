/- Plain lemmas for one law. -/
import Derived.Test.YtcnpdapampclpaaDoorP0
import Derived.Test.YtcnpdapampclpaaDoorPTpx1
set_option linter.unusedVariables false
namespace Go.Proofs.YtcnpdapampclpaaDoor.PPm
open Go.RowKit Go.Proofs.YtcnpdapampclpaaDoorW.PrintWords Go.Proofs.YtcnpdapampclpaaDoorW.PrintLast Go.Proofs.YtcnpdapampclpaaDoorW.PrintMore Go.Proofs.YtcnpdapampclpaaDoor.X Go.Proofs.YtcnpdapampclpaaDoor.H Go.Proofs.YtcnpdapampclpaaDoor.PPl Go.Proofs.YtcnpdapampclpaaDoor.PTp
theorem w64 {x : Int} (h : -9223372036854775808 ≤ x) (h' : x ≤ 9223372036854775807) : wrap64 x = x := by unfold wrap64; omega
theorem bitLenAux_eq : ∀ (f x : Nat), 0 < x → x < 2 ^ f → Lib.bitLenAux f x = Nat.log2 x + 1 := by
 intro f
 induction f with
 | zero => intro x h1 h2; simp at h2; omega
 | succ f ih =>
  intro x h1 h2
  rw [Lib.bitLenAux, if_neg (by omega), Nat.log2_def]
  by_cases h : x ≥ 2
  ·rw [if_pos h, ih (x / 2) (by omega) (by rw [Nat.pow_succ] at h2; omega)]; omega
  ·obtain rfl : x = 1 := by omega
   cases f <;> rfl
theorem half_eq (n : Nat) (h : 2 ≤ n) (h' : n ≤ 1000000) : trail_half.f (n : Int) = some (hf n : Int) := by
 have e1 : wrap64 ((n : Int) - 1) = ((n - 1 : Nat) : Int) := by rw [w64 (by omega) (by omega)]; omega
 have e2 : IntKind.u64.wrap ((n - 1 : Nat) : Int) = ((n - 1 : Nat) : Int) := by show ((n - 1 : Nat) : Int) % 18446744073709551616 = _; omega
 have e64 : n - 1 < 2 ^ 64 := Nat.lt_trans (show n - 1 < 1048576 by omega) (by decide)
 have hb : Lib.bitLen (n - 1) = Nat.log2 (n - 1) + 1 := bitLenAux_eq 64 _ (by omega) e64
 have hl : Nat.log2 (n - 1) < 20 := by
  rw [Nat.log2_lt (by omega)]
  have : (2:Nat) ^ 20 = 1048576 := by decide
  omega
 unfold trail_half.f bits_Len.f
 rw [e1, e2, if_pos (by omega)]
 simp only [Option.bind_some]
 rw [Int.toNat_natCast, hb, show wrap64 (((Nat.log2 (n - 1) + 1 : Nat) : Int) - 1) = (Nat.log2 (n - 1) : Int) by rw [w64 (by omega) (by omega)]; omega, if_pos (by omega)]
 unfold shl
 rw [show min (Nat.log2 (n - 1) : Int).toNat IntKind.i64.bits = Nat.log2 (n - 1) by rw [Int.toNat_natCast]; exact Nat.min_eq_left (by show _ ≤ 64; omega), Int.one_mul]
 have e3 : ((2 : Int) ^ Nat.log2 (n - 1)) = (hf n : Int) := by unfold hf; rw [Int.natCast_pow]; rfl
 rw [e3]
 congr 1
 have h5 := hf_lt h
 exact IntWalk.i64_in (hf n : Int) (by omega)
/-- The head of a row of n marks of a top. -/
def headL (n : Int) (t : List Int) : List Int := dig (18 :: (e8 n ++ t))
theorem head_raw (k : Nat) (n : Int) (t : List Int) : trail_head.f (k + 9) n t = (trail_digest.f 18 [[shr .u64 (IntKind.u64.wrap n) ((56 : Nat) : Int) % 256, shr .u64 (IntKind.u64.wrap n) ((48 : Nat) : Int) % 256, shr .u64 (IntKind.u64.wrap n) ((40 : Nat) : Int) % 256, shr .u64 (IntKind.u64.wrap n) ((32 : Nat) : Int) % 256, shr .u64 (IntKind.u64.wrap n) ((24 : Nat) : Int) % 256, shr .u64 (IntKind.u64.wrap n) ((16 : Nat) : Int) % 256, shr .u64 (IntKind.u64.wrap n) ((8 : Nat) : Int) % 256, shr .u64 (IntKind.u64.wrap n) ((0 : Nat) : Int) % 256], t]).bind fun r => some r := by kernel_rfl
theorem head_eq (k : Nat) (n : Int) (t : List Int) (hk : 9 ≤ k) (ht : ∀ y ∈ t, 0 ≤ y ∧ y < 256) (hl : t.length ≤ 90000) : trail_head.f k n t = some (headL n t) := by
 obtain ⟨k, rfl⟩ : ∃ j, k = j + 9 := ⟨k - 9, by omega⟩
 rw [head_raw]
 simp only [shr64 _ _ (show (56 : Nat) < 64 by decide), shr64 _ _ (show (48 : Nat) < 64 by decide), shr64 _ _ (show (40 : Nat) < 64 by decide), shr64 _ _ (show (32 : Nat) < 64 by decide), shr64 _ _ (show (24 : Nat) < 64 by decide), shr64 _ _ (show (16 : Nat) < 64 by decide), shr64 _ _ (show (8 : Nat) < 64 by decide), shr64 _ _ (show (0 : Nat) < 64 by decide)]
 have h := digest2 (m := 18) (a := e8 n) (b := t) (by decide) (e8_bytes n) ht (by rw [e8_length]; omega)
 have he : e8 n = [IntKind.u64.wrap n / 2 ^ 56 % 256, IntKind.u64.wrap n / 2 ^ 48 % 256, IntKind.u64.wrap n / 2 ^ 40 % 256, IntKind.u64.wrap n / 2 ^ 32 % 256, IntKind.u64.wrap n / 2 ^ 24 % 256, IntKind.u64.wrap n / 2 ^ 16 % 256, IntKind.u64.wrap n / 2 ^ 8 % 256, IntKind.u64.wrap n / 2 ^ 0 % 256] := by
  unfold e8
  rw [show IntKind.u64.wrap n = n % 18446744073709551616 from rfl]
  simp
 rw [← he, h]
 rfl
theorem headL_length (n : Int) (t : List Int) : (headL n t).length = 32 := dig_length _
theorem headL_bytes (n : Int) (t : List Int) : ∀ x ∈ headL n t, 0 ≤ x ∧ x < 256 := dig_bytes _
end Go.Proofs.YtcnpdapampclpaaDoor.PPm
