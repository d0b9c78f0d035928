-- Written by a program of this session, after the print of the kit.
import Derived.Test.YtdpdmmbdoeefbaaDoorProg
import Derived.Below
import Derived.Deep.Draws
import Derived.Deep.AppendLies
import Derived.Maps.AppendAt
import Derived.OwnWalk
import Derived.Laws.BytesArg
import Derived.Laws.MakeOwn
import Derived.Laws.OwnMore
import Derived.Deep.OwnRows
import Derived.Tactics
import Derived.Lib.ConvBytes
import Derived.Laws.Slices
import Derived.WalkKit
import Derived.KernelRfl
import Derived.RowKit3
import Derived.Deep.LoopGhost
import Derived.Deep.QuietTactic
import Derived.BigQuiet
import Derived.WideLaws
import Derived.Deep.DeepCutAuto
import Derived.Deep.CutBlock
import Derived.Deep.RegionHeld3
import Derived.Laws.Rows
import Derived.Lib.AppendStr
import Derived.ArgAppend
import Derived.Laws.IdiomCopy
import Derived.OrdersHeld
import Derived.Laws.BitsLemmas
import Derived.RowKit
import Derived.Test.YtdpdmmbdoeefbaaDoorB
import Derived.Test.YtdpdmmbdoeefbaaDoorK
import Derived.Test.YtdpdmmbdoeefbaaDoorPCutx4
import Derived.Test.YtdpdmmbdoeefbaaDoorPCutx5
import Derived.Test.YtdpdmmbdoeefbaaDoorWWords
import Derived.Test.YtdpdmmbdoeefbaaDoorWLast
import Derived.Test.YtdpdmmbdoeefbaaDoorWTab
import Derived.Test.YtdpdmmbdoeefbaaDoorWFour
import Derived.Test.YtdpdmmbdoeefbaaDoorWQPut
import Derived.Test.YtdpdmmbdoeefbaaDoorWApart
import Derived.Test.YtdpdmmbdoeefbaaDoorWArr
import Derived.Test.YtdpdmmbdoeefbaaDoorWZeros
import Derived.Test.YtdpdmmbdoeefbaaDoorWFoot
import Derived.Test.YtdpdmmbdoeefbaaDoorWKept
import Derived.Test.YtdpdmmbdoeefbaaDoorWShare
import Derived.Test.YtdpdmmbdoeefbaaDoorWN
import Derived.Test.YtdpdmmbdoeefbaaDoorWFootNe
import Derived.Test.YtdpdmmbdoeefbaaDoorWAt
import Derived.Test.YtdpdmmbdoeefbaaDoorWEqStruct
import Derived.Test.YtdpdmmbdoeefbaaDoorWRepsOne
import Derived.Test.YtdpdmmbdoeefbaaDoorWInv
import Derived.Test.YtdpdmmbdoeefbaaDoorWInvWords
import Derived.Test.YtdpdmmbdoeefbaaDoorWGuard
import Derived.Test.YtdpdmmbdoeefbaaDoorWNEv
import Derived.Test.YtdpdmmbdoeefbaaDoorWMoreMini
import Derived.Test.YtdpdmmbdoeefbaaDoorWMoreRest
namespace Go.Proofs.YtdpdmmbdoeefbaaDoor.PPu
open Go.RowKit Go.Proofs.YtdpdmmbdoeefbaaDoor.X Go.Proofs.YtdpdmmbdoeefbaaDoor.PCut Go.Proofs.YtdpdmmbdoeefbaaDoorW.PrintWords Go.Proofs.YtdpdmmbdoeefbaaDoorW.PrintLast Go.Proofs.YtdpdmmbdoeefbaaDoorW.PrintMore
attribute [local go_sem] max2_int min2_int max_two min_two max_three min_three max_four min_four   -- for this text's walks alone
set_option linter.unusedVariables false
set_option linter.unusedSimpArgs false



def errW : Option Int → Value
  | none => .nilIface
  | some c => .iface 0 (.int .i64 c)
theorem errW_none : errW none = .nilIface := rfl
theorem errW_some (c : Int) : errW (some c) = .iface 0 (.int .i64 c) := rfl

-- the values' own types

end Go.Proofs.YtdpdmmbdoeefbaaDoor.PPu
