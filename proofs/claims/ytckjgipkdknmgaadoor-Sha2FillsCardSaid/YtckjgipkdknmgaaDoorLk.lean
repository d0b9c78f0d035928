/- The known answers. -/
import Derived.Test.YtckjgipkdknmgaaDoorPAllx1
namespace Go.Proofs.YtckjgipkdknmgaaDoor.PAll
open Go.RowKit Go.Proofs.YtckjgipkdknmgaaDoorW.PrintWords Go.Proofs.YtckjgipkdknmgaaDoorW.PrintMore Go.Proofs.YtckjgipkdknmgaaDoor.X Go.Proofs.YtckjgipkdknmgaaDoor.H
theorem known_true : imprimaturlaw02_known.f = some true := by decide +kernel
end Go.Proofs.YtckjgipkdknmgaaDoor.PAll
