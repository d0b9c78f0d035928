/- bits.Len, in the print's form. -/
import Derived.Test.YtbenedckmapjoaaDoorMd
import Derived.Test.YtbenedckmapjoaaDoorL
namespace Go.Proofs.YtbenedckmapjoaaDoor.X
open Go.RowKit
def bits_Len.f (a0 : Int) : Option Int := if 0 ≤ a0 ∧ a0 ≤ 18446744073709551615 then some (Lib.bitLen a0.toNat) else none
theorem bits_Len.calls (a0 r : Int) (w : World) (h : bits_Len.f a0 = some r) :
    Calls Tryd.prog 120 #[.int .u64 a0] w fun e w' => e = .returned (.int .i64 r) ∧ Below w.heap.size w w' := by
  unfold bits_Len.f at h
  split at h
  · rename_i hc
    obtain rfl := Option.some.inj h
    refine (Len_c a0 w hc.1 hc.2).mono ?_
    rintro e w' ⟨rfl, rfl⟩
    exact ⟨rfl, Below.refl _ _⟩
  · cases h
end Go.Proofs.YtbenedckmapjoaaDoor.X
namespace Go.Proofs.YtbenedckmapjoaaDoor.PRf
end Go.Proofs.YtbenedckmapjoaaDoor.PRf
namespace Go.Proofs.YtbenedckmapjoaaDoor.PCut
end Go.Proofs.YtbenedckmapjoaaDoor.PCut
namespace Go.Proofs.YtbenedckmapjoaaDoor.PCa
end Go.Proofs.YtbenedckmapjoaaDoor.PCa
namespace Go.Proofs.YtbenedckmapjoaaDoor.PCs
end Go.Proofs.YtbenedckmapjoaaDoor.PCs
namespace Go.Proofs.YtbenedckmapjoaaDoor.PCo
end Go.Proofs.YtbenedckmapjoaaDoor.PCo
namespace Go.Proofs.YtbenedckmapjoaaDoor.PCr
end Go.Proofs.YtbenedckmapjoaaDoor.PCr
namespace Go.Proofs.YtbenedckmapjoaaDoor.PPw
end Go.Proofs.YtbenedckmapjoaaDoor.PPw
namespace Go.Proofs.YtbenedckmapjoaaDoor.PPv
end Go.Proofs.YtbenedckmapjoaaDoor.PPv
namespace Go.Proofs.YtbenedckmapjoaaDoor.PRa
end Go.Proofs.YtbenedckmapjoaaDoor.PRa
namespace Go.Proofs.YtbenedckmapjoaaDoor.PRb
end Go.Proofs.YtbenedckmapjoaaDoor.PRb
namespace Go.Proofs.YtbenedckmapjoaaDoor.PRc
end Go.Proofs.YtbenedckmapjoaaDoor.PRc
namespace Go.Proofs.YtbenedckmapjoaaDoor.PRd
end Go.Proofs.YtbenedckmapjoaaDoor.PRd
namespace Go.Proofs.YtbenedckmapjoaaDoor.PRe
end Go.Proofs.YtbenedckmapjoaaDoor.PRe
namespace Go.Proofs.YtbenedckmapjoaaDoor.PUp
end Go.Proofs.YtbenedckmapjoaaDoor.PUp
namespace Go.Proofs.YtbenedckmapjoaaDoor.PCl
end Go.Proofs.YtbenedckmapjoaaDoor.PCl
