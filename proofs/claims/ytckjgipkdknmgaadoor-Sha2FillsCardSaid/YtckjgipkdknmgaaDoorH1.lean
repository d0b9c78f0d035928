/- Contracts of sha2's words: turns and their sums. -/
import Derived.Test.YtckjgipkdknmgaaDoorProg
import Derived.WalkKit
import Derived.BigQuiet
import Derived.Deep.QuietTactic
import Derived.KernelRfl
import Derived.Test.YtckjgipkdknmgaaDoorWWords
namespace Go.Proofs.YtckjgipkdknmgaaDoor.H
open Go.RowKit Go.Proofs.YtckjgipkdknmgaaDoorW.PrintWords
/-- A word of 32 digits turned right. -/
def rot32 (x r : Int) : Int := bits .or .u32 (x / 2 ^ r.toNat) (x * 2 ^ (32 - r).toNat % 4294967296)
theorem turn32 (x r : Int) (w : World) (h1 : 0 ≤ r) (h2 : r ≤ 32) :
    Calls Tryd.prog 65 #[.int .u32 x, .int .i64 r, .int .i64 32] w fun e w' => e = .returned (.int .u32 (rot32 x r)) ∧ ∃ n, w' = w.drewN n := by
  go_enter Tryd.func65, Tryd.ntmps65
  go_wp2
  go_quiet (fail)
  go_wp2
  go_ret
  exact ⟨rfl, _, rfl⟩
def small32 (x a b c : Int) : Int := bits .xor .u32 (bits .xor .u32 (rot32 x a) (rot32 x b)) (x / 2 ^ c.toNat)
theorem small32_c (x a b c : Int) (w : World) (ha : 0 ≤ a) (ha' : a ≤ 32) (hb : 0 ≤ b) (hb' : b ≤ 32) (hc : 0 ≤ c) (hc' : c ≤ 32) :
    Calls Tryd.prog 64 #[.int .u32 x, .agg #[.int .i64 a, .int .i64 b, .int .i64 c], .int .i64 32] w fun e w' => e = .returned (.int .u32 (small32 x a b c)) ∧ Below w.heap.size w w' := by
  go_enter Tryd.func64, Tryd.ntmps64
  go_wp2
  go_quiet ((first | (go_at_call_of 65 (Value.int .i64 a); exact Calls.quiet_of (turn32 x a _ ha ha')) | (go_at_call_of 65 (Value.int .i64 b); exact Calls.quiet_of (turn32 x b _ hb hb'))))
  go_wp2
  go_ret
  exact ⟨rfl, pw_below_drewN ((Below.refl _ _).alloc (Nat.le_refl _) _) _⟩
def big32 (x a b c : Int) : Int := bits .xor .u32 (bits .xor .u32 (rot32 x a) (rot32 x b)) (rot32 x c)
theorem big32_c (x a b c : Int) (w : World) (ha : 0 ≤ a) (ha' : a ≤ 32) (hb : 0 ≤ b) (hb' : b ≤ 32) (hc : 0 ≤ c) (hc' : c ≤ 32) :
    Calls Tryd.prog 60 #[.int .u32 x, .agg #[.int .i64 a, .int .i64 b, .int .i64 c], .int .i64 32] w fun e w' => e = .returned (.int .u32 (big32 x a b c)) ∧ Below w.heap.size w w' := by
  go_enter Tryd.func60, Tryd.ntmps60
  go_wp2
  go_quiet ((first | (go_at_call_of 65 (Value.int .i64 a); exact Calls.quiet_of (turn32 x a _ ha ha')) | (go_at_call_of 65 (Value.int .i64 b); exact Calls.quiet_of (turn32 x b _ hb hb')) | (go_at_call_of 65 (Value.int .i64 c); exact Calls.quiet_of (turn32 x c _ hc hc'))))
  go_wp2
  go_ret
  exact ⟨rfl, pw_below_drewN ((Below.refl _ _).alloc (Nat.le_refl _) _) _⟩
/-- A word of 64 digits turned right. -/
def rot64 (x r : Int) : Int := bits .or .u64 (x / 2 ^ r.toNat) (x * 2 ^ (64 - r).toNat % 18446744073709551616)
theorem turn64 (x r : Int) (w : World) (h1 : 0 ≤ r) (h2 : r ≤ 64) :
    Calls Tryd.prog 67 #[.int .u64 x, .int .i64 r, .int .i64 64] w fun e w' => e = .returned (.int .u64 (rot64 x r)) ∧ ∃ n, w' = w.drewN n := by
  go_enter Tryd.func67, Tryd.ntmps67
  go_wp2
  go_quiet (fail)
  go_wp2
  go_ret
  exact ⟨rfl, _, rfl⟩
def small64 (x a b c : Int) : Int := bits .xor .u64 (bits .xor .u64 (rot64 x a) (rot64 x b)) (x / 2 ^ c.toNat)
theorem small64_c (x a b c : Int) (w : World) (ha : 0 ≤ a) (ha' : a ≤ 64) (hb : 0 ≤ b) (hb' : b ≤ 64) (hc : 0 ≤ c) (hc' : c ≤ 64) :
    Calls Tryd.prog 66 #[.int .u64 x, .agg #[.int .i64 a, .int .i64 b, .int .i64 c], .int .i64 64] w fun e w' => e = .returned (.int .u64 (small64 x a b c)) ∧ Below w.heap.size w w' := by
  go_enter Tryd.func66, Tryd.ntmps66
  go_wp2
  go_quiet ((first | (go_at_call_of 67 (Value.int .i64 a); exact Calls.quiet_of (turn64 x a _ ha ha')) | (go_at_call_of 67 (Value.int .i64 b); exact Calls.quiet_of (turn64 x b _ hb hb'))))
  go_wp2
  go_ret
  exact ⟨rfl, pw_below_drewN ((Below.refl _ _).alloc (Nat.le_refl _) _) _⟩
def big64 (x a b c : Int) : Int := bits .xor .u64 (bits .xor .u64 (rot64 x a) (rot64 x b)) (rot64 x c)
theorem big64_c (x a b c : Int) (w : World) (ha : 0 ≤ a) (ha' : a ≤ 64) (hb : 0 ≤ b) (hb' : b ≤ 64) (hc : 0 ≤ c) (hc' : c ≤ 64) :
    Calls Tryd.prog 62 #[.int .u64 x, .agg #[.int .i64 a, .int .i64 b, .int .i64 c], .int .i64 64] w fun e w' => e = .returned (.int .u64 (big64 x a b c)) ∧ Below w.heap.size w w' := by
  go_enter Tryd.func62, Tryd.ntmps62
  go_wp2
  go_quiet ((first | (go_at_call_of 67 (Value.int .i64 a); exact Calls.quiet_of (turn64 x a _ ha ha')) | (go_at_call_of 67 (Value.int .i64 b); exact Calls.quiet_of (turn64 x b _ hb hb')) | (go_at_call_of 67 (Value.int .i64 c); exact Calls.quiet_of (turn64 x c _ hc hc'))))
  go_wp2
  go_ret
  exact ⟨rfl, pw_below_drewN ((Below.refl _ _).alloc (Nat.le_refl _) _) _⟩
end Go.Proofs.YtckjgipkdknmgaaDoor.H
