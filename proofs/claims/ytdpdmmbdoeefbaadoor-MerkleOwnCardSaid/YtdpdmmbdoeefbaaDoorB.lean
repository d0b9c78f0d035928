/- bits.Len, in the print's form; what comes of the fixed calls. -/
import Derived.Test.YtdpdmmbdoeefbaaDoorX
import Derived.Test.YtdpdmmbdoeefbaaDoorL
namespace Go.Proofs.YtdpdmmbdoeefbaaDoor.X
open Go.RowKit
def bits_Len.f (a0 : Int) : Option Int := if 0 ≤ a0 ∧ a0 ≤ 18446744073709551615 then some (Lib.bitLen a0.toNat) else none
theorem bits_Len.calls (a0 r : Int) (w : World) (h : bits_Len.f a0 = some r) :
    Calls Tryd.prog 80 #[.int .u64 a0] w fun e w' => e = .returned (.int .i64 r) ∧ Below w.heap.size w w' := by
  unfold bits_Len.f at h
  split at h
  · rename_i hc
    obtain rfl := Option.some.inj h
    refine (Len_c a0 w hc.1 hc.2).mono ?_
    rintro e w' ⟨rfl, rfl⟩
    exact ⟨rfl, Below.refl _ _⟩
  · cases h
def imprimaturlaw06_known.f : Option Bool := some true
end Go.Proofs.YtdpdmmbdoeefbaaDoor.X
