-- Printed by a program of this session (wip/xprint.py) out of the translation; Lean checks it.
import Derived.Test.YtngbdlkcpkkeoaaProg
import Derived.Below
import Derived.Deep.Draws
import Derived.Deep.AppendLies
import Derived.Maps.AppendAt
import Derived.OwnWalk
import Derived.Laws.BytesArg
import Derived.Laws.MakeOwn
import Derived.Laws.OwnMore
import Derived.Deep.OwnRows
import Derived.Tactics
import Derived.Lib.ConvBytes
import Derived.Laws.Slices
import Derived.WalkKit
import Derived.KernelRfl
import Derived.RowKit3
import Derived.Deep.LoopGhost
import Derived.Deep.QuietTactic
import Derived.BigQuiet
import Derived.WideLaws
import Derived.Deep.DeepCutAuto
import Derived.Deep.CutBlock
import Derived.Deep.RegionHeld3
import Derived.Laws.Rows
import Derived.Lib.AppendStr
import Derived.ArgAppend
import Derived.Laws.IdiomCopy
import Derived.OrdersHeld
import Derived.Laws.BitsLemmas
import Derived.RowKit
import Derived.Test.YtngbdlkcpkkeoaaWWords
import Derived.Test.YtngbdlkcpkkeoaaWLast
import Derived.Test.YtngbdlkcpkkeoaaWTab
import Derived.Test.YtngbdlkcpkkeoaaWFour
import Derived.Test.YtngbdlkcpkkeoaaWQPut
import Derived.Test.YtngbdlkcpkkeoaaWApart
import Derived.Test.YtngbdlkcpkkeoaaWArr
import Derived.Test.YtngbdlkcpkkeoaaWZeros
import Derived.Test.YtngbdlkcpkkeoaaWFoot
import Derived.Test.YtngbdlkcpkkeoaaWKept
import Derived.Test.YtngbdlkcpkkeoaaWShare
import Derived.Test.YtngbdlkcpkkeoaaWN
import Derived.Test.YtngbdlkcpkkeoaaWFootNe
import Derived.Test.YtngbdlkcpkkeoaaWAt
import Derived.Test.YtngbdlkcpkkeoaaWEqStruct
import Derived.Test.YtngbdlkcpkkeoaaWRepsOne
import Derived.Test.YtngbdlkcpkkeoaaWInv
import Derived.Test.YtngbdlkcpkkeoaaWInvWords
import Derived.Test.YtngbdlkcpkkeoaaWGuard
import Derived.Test.YtngbdlkcpkkeoaaWNEv
import Derived.Test.YtngbdlkcpkkeoaaWMore
import Derived.Test.YtngbdlkcpkkeoaaXWords
import Derived.Test.YtngbdlkcpkkeoaaXLib
namespace Go.Proofs.Ytngbdlkcpkkeoaa.PFnExactNewField
open Go.RowKit Go.Proofs.YtngbdlkcpkkeoaaW.PrintWords Go.Proofs.YtngbdlkcpkkeoaaW.PrintLast Go.Proofs.YtngbdlkcpkkeoaaW.PrintMore
attribute [local go_sem] max2_int min2_int max_two min_two max_three min_three max_four min_four   -- for this text's walks alone
set_option linter.unusedVariables false
set_option linter.unusedSimpArgs false



def errW : Option Int → Value
  | none => .nilIface
  | some c => .iface 0 (.int .i64 c)
theorem errW_none : errW none = .nilIface := rfl
theorem errW_some (c : Int) : errW (some c) = .iface 0 (.int .i64 c) := rfl

theorem info3 : (Try.prog.info? 3).map (fun i => (i.zero, i.size, i.bytes)) = some (some (.int .i64 0), 1, 8) := by kernel_rfl
-- the values' own types



end Go.Proofs.Ytngbdlkcpkkeoaa.PFnExactNewField
