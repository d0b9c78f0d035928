/- bits.Len, in the print's form; what comes of the fixed calls. -/
import Derived.Test.YtdpdmmbdoeefbaaDoorX
import Derived.Test.YtdpdmmbdoeefbaaDoorL
namespace Go.Proofs.YtdpdmmbdoeefbaaDoor.X
open Go.RowKit
def bits_Len.f (a0 : Int) : Option Int := if 0 ≤ a0 ∧ a0 ≤ 18446744073709551615 then some (Lib.bitLen a0.toNat) else none
theorem bits_Len.calls (a0 r : Int) (w : World) (h : bits_Len.f a0 = some r) :
    Calls Tryd.prog 80 #[.int .u64 a0] w fun e w' => e = .returned (.int .i64 r) ∧ Below w.heap.size w w' := by
  unfold bits_Len.f at h
  split at h
  · rename_i hc
    obtain rfl := Option.some.inj h
    refine (Len_c a0 w hc.1 hc.2).mono ?_
    rintro e w' ⟨rfl, rfl⟩
    exact ⟨rfl, Below.refl _ _⟩
  · cases h
def imprimaturlaw06_known.f : Option Bool := some true
end Go.Proofs.YtdpdmmbdoeefbaaDoor.X
namespace Go.Proofs.YtdpdmmbdoeefbaaDoor.PRf
end Go.Proofs.YtdpdmmbdoeefbaaDoor.PRf
namespace Go.Proofs.YtdpdmmbdoeefbaaDoor.PCut
end Go.Proofs.YtdpdmmbdoeefbaaDoor.PCut
namespace Go.Proofs.YtdpdmmbdoeefbaaDoor.PCa
end Go.Proofs.YtdpdmmbdoeefbaaDoor.PCa
namespace Go.Proofs.YtdpdmmbdoeefbaaDoor.PCs
end Go.Proofs.YtdpdmmbdoeefbaaDoor.PCs
namespace Go.Proofs.YtdpdmmbdoeefbaaDoor.PCo
end Go.Proofs.YtdpdmmbdoeefbaaDoor.PCo
namespace Go.Proofs.YtdpdmmbdoeefbaaDoor.PCr
end Go.Proofs.YtdpdmmbdoeefbaaDoor.PCr
namespace Go.Proofs.YtdpdmmbdoeefbaaDoor.PPw
end Go.Proofs.YtdpdmmbdoeefbaaDoor.PPw
namespace Go.Proofs.YtdpdmmbdoeefbaaDoor.PPv
end Go.Proofs.YtdpdmmbdoeefbaaDoor.PPv
namespace Go.Proofs.YtdpdmmbdoeefbaaDoor.PRa
end Go.Proofs.YtdpdmmbdoeefbaaDoor.PRa
namespace Go.Proofs.YtdpdmmbdoeefbaaDoor.PRb
end Go.Proofs.YtdpdmmbdoeefbaaDoor.PRb
namespace Go.Proofs.YtdpdmmbdoeefbaaDoor.PRc
end Go.Proofs.YtdpdmmbdoeefbaaDoor.PRc
namespace Go.Proofs.YtdpdmmbdoeefbaaDoor.PRd
end Go.Proofs.YtdpdmmbdoeefbaaDoor.PRd
namespace Go.Proofs.YtdpdmmbdoeefbaaDoor.PRe
end Go.Proofs.YtdpdmmbdoeefbaaDoor.PRe
namespace Go.Proofs.YtdpdmmbdoeefbaaDoor.PUp
end Go.Proofs.YtdpdmmbdoeefbaaDoor.PUp
namespace Go.Proofs.YtdpdmmbdoeefbaaDoor.PCl
end Go.Proofs.YtdpdmmbdoeefbaaDoor.PCl
