/- bits.Len, in the print's form; what comes of the fixed calls. -/
import Derived.Test.YtcnpdapampclpaaDoorX
import Derived.Test.YtcnpdapampclpaaDoorL
namespace Go.Proofs.YtcnpdapampclpaaDoor.X
open Go.RowKit
def bits_Len.f (a0 : Int) : Option Int := if 0 ≤ a0 ∧ a0 ≤ 18446744073709551615 then some (Lib.bitLen a0.toNat) else none
theorem bits_Len.calls (a0 r : Int) (w : World) (h : bits_Len.f a0 = some r) :
    Calls Tryd.prog 65 #[.int .u64 a0] w fun e w' => e = .returned (.int .i64 r) ∧ Below w.heap.size w w' := by
  unfold bits_Len.f at h
  split at h
  · rename_i hc
    obtain rfl := Option.some.inj h
    refine (Len_c a0 w hc.1 hc.2).mono ?_
    rintro e w' ⟨rfl, rfl⟩
    exact ⟨rfl, Below.refl _ _⟩
  · cases h
def imprimaturlaw20_known.f : Option Bool := some true
end Go.Proofs.YtcnpdapampclpaaDoor.X
namespace Go.Proofs.YtcnpdapampclpaaDoor.PRf
end Go.Proofs.YtcnpdapampclpaaDoor.PRf
namespace Go.Proofs.YtcnpdapampclpaaDoor.PTp
end Go.Proofs.YtcnpdapampclpaaDoor.PTp
namespace Go.Proofs.YtcnpdapampclpaaDoor.PTq
end Go.Proofs.YtcnpdapampclpaaDoor.PTq
namespace Go.Proofs.YtcnpdapampclpaaDoor.PTr
end Go.Proofs.YtcnpdapampclpaaDoor.PTr
namespace Go.Proofs.YtcnpdapampclpaaDoor.PRa
end Go.Proofs.YtcnpdapampclpaaDoor.PRa
namespace Go.Proofs.YtcnpdapampclpaaDoor.PRb
end Go.Proofs.YtcnpdapampclpaaDoor.PRb
namespace Go.Proofs.YtcnpdapampclpaaDoor.PRc
end Go.Proofs.YtcnpdapampclpaaDoor.PRc
namespace Go.Proofs.YtcnpdapampclpaaDoor.PRd
end Go.Proofs.YtcnpdapampclpaaDoor.PRd
namespace Go.Proofs.YtcnpdapampclpaaDoor.PRe
end Go.Proofs.YtcnpdapampclpaaDoor.PRe
namespace Go.Proofs.YtcnpdapampclpaaDoor.PRg
end Go.Proofs.YtcnpdapampclpaaDoor.PRg
namespace Go.Proofs.YtcnpdapampclpaaDoor.PUp
end Go.Proofs.YtcnpdapampclpaaDoor.PUp
