-- Written by a program of this session, after the print of the kit.
import Derived.Test.YtmdindopkcmloaaProg
import Derived.Below
import Derived.Deep.Draws
import Derived.Deep.AppendLies
import Derived.Maps.AppendAt
import Derived.OwnWalk
import Derived.Laws.BytesArg
import Derived.Laws.MakeOwn
import Derived.Laws.OwnMore
import Derived.Deep.OwnRows
import Derived.Tactics
import Derived.Lib.ConvBytes
import Derived.Laws.Slices
import Derived.WalkKit
import Derived.KernelRfl
import Derived.RowKit3
import Derived.Deep.LoopGhost
import Derived.Deep.QuietTactic
import Derived.BigQuiet
import Derived.WideLaws
import Derived.Deep.DeepCutAuto
import Derived.Deep.CutBlock
import Derived.Deep.RegionHeld3
import Derived.Laws.Rows
import Derived.Lib.AppendStr
import Derived.ArgAppend
import Derived.Laws.IdiomCopy
import Derived.OrdersHeld
import Derived.Laws.BitsLemmas
import Derived.RowKit
import Derived.Test.YtmdindopkcmloaaWWords
import Derived.Test.YtmdindopkcmloaaWLast
import Derived.Test.YtmdindopkcmloaaWTab
import Derived.Test.YtmdindopkcmloaaWFour
import Derived.Test.YtmdindopkcmloaaWQPut
import Derived.Test.YtmdindopkcmloaaWApart
import Derived.Test.YtmdindopkcmloaaWArr
import Derived.Test.YtmdindopkcmloaaWZeros
import Derived.Test.YtmdindopkcmloaaWFoot
import Derived.Test.YtmdindopkcmloaaWKept
import Derived.Test.YtmdindopkcmloaaWShare
import Derived.Test.YtmdindopkcmloaaWN
import Derived.Test.YtmdindopkcmloaaWFootNe
import Derived.Test.YtmdindopkcmloaaWAt
import Derived.Test.YtmdindopkcmloaaWEqStruct
import Derived.Test.YtmdindopkcmloaaWRepsOne
import Derived.Test.YtmdindopkcmloaaWInv
import Derived.Test.YtmdindopkcmloaaWInvWords
import Derived.Test.YtmdindopkcmloaaWGuard
import Derived.Test.YtmdindopkcmloaaWNEv
import Derived.Test.YtmdindopkcmloaaWMore
namespace Go.Proofs.Ytmdindopkcmloaa.PBeg
open Go.RowKit Go.Proofs.YtmdindopkcmloaaW.PrintWords Go.Proofs.YtmdindopkcmloaaW.PrintLast Go.Proofs.YtmdindopkcmloaaW.PrintMore
attribute [local go_sem] max2_int min2_int max_two min_two max_three min_three max_four min_four   -- for this text's walks alone
set_option linter.unusedVariables false
set_option linter.unusedSimpArgs false



def errW : Option Int → Value
  | none => .nilIface
  | some c => .iface 0 (.int .i64 c)
theorem errW_none : errW none = .nilIface := rfl
theorem errW_some (c : Int) : errW (some c) = .iface 0 (.int .i64 c) := rfl

theorem info2 : (Try.prog.info? 2).map (fun i => (i.zero, i.size, i.bytes)) = some (some (.int .i64 0), 1, 8) := by kernel_rfl
theorem info24 : (Try.prog.info? 24).map (fun i => (i.zero, i.size, i.bytes)) = some (some (.int .i64 0), 1, 8) := by kernel_rfl
-- the values' own types

end Go.Proofs.Ytmdindopkcmloaa.PBeg
