/- A function of the program as a Lean function, and the proof that the code comes to its answers; written by a program of this session, a changed copy of the print of the kit. -/
import Derived.Test.YtodojmgjjcgfpaaProg
import Derived.Below
import Derived.Deep.Draws
import Derived.Deep.AppendLies
import Derived.Maps.AppendAt
import Derived.OwnWalk
import Derived.Laws.BytesArg
import Derived.Laws.MakeOwn
import Derived.Laws.OwnMore
import Derived.Deep.OwnRows
import Derived.Tactics
import Derived.Lib.ConvBytes
import Derived.Laws.Slices
import Derived.WalkKit
import Derived.KernelRfl
import Derived.RowKit3
import Derived.Deep.LoopGhost
import Derived.Deep.QuietTactic
import Derived.BigQuiet
import Derived.WideLaws
import Derived.Deep.DeepCutAuto
import Derived.Deep.CutBlock
import Derived.Deep.RegionHeld3
import Derived.Laws.Rows
import Derived.Lib.AppendStr
import Derived.ArgAppend
import Derived.Laws.IdiomCopy
import Derived.OrdersHeld
import Derived.Laws.BitsLemmas
import Derived.RowKit
import Derived.Test.YtodojmgjjcgfpaaWWords
import Derived.Test.YtodojmgjjcgfpaaWLast
import Derived.Test.YtodojmgjjcgfpaaWTab
import Derived.Test.YtodojmgjjcgfpaaWFour
import Derived.Test.YtodojmgjjcgfpaaWQPut
import Derived.Test.YtodojmgjjcgfpaaWApart
import Derived.Test.YtodojmgjjcgfpaaWArr
import Derived.Test.YtodojmgjjcgfpaaWZeros
import Derived.Test.YtodojmgjjcgfpaaWFoot
import Derived.Test.YtodojmgjjcgfpaaWKept
import Derived.Test.YtodojmgjjcgfpaaWShare
import Derived.Test.YtodojmgjjcgfpaaWN
import Derived.Test.YtodojmgjjcgfpaaWFootNe
import Derived.Test.YtodojmgjjcgfpaaWAt
import Derived.Test.YtodojmgjjcgfpaaWEqStruct
import Derived.Test.YtodojmgjjcgfpaaWRepsOne
import Derived.Test.YtodojmgjjcgfpaaWInv
import Derived.Test.YtodojmgjjcgfpaaWInvWords
import Derived.Test.YtodojmgjjcgfpaaWGuard
import Derived.Test.YtodojmgjjcgfpaaWNEv
import Derived.Test.YtodojmgjjcgfpaaWMore
namespace Go.Proofs.Ytodojmgjjcgfpaa.P
open Go.RowKit Go.Proofs.YtodojmgjjcgfpaaW.PrintWords Go.Proofs.YtodojmgjjcgfpaaW.PrintLast Go.Proofs.YtodojmgjjcgfpaaW.PrintMore
attribute [local go_sem] max2_int min2_int max_two min_two max_three min_three max_four min_four   -- for this text's walks alone
set_option linter.unusedVariables false
set_option linter.unusedSimpArgs false



def errW : Option Int → Value
  | none => .nilIface
  | some c => .iface 0 (.int .i64 c)
theorem errW_none : errW none = .nilIface := rfl
theorem errW_some (c : Int) : errW (some c) = .iface 0 (.int .i64 c) := rfl

-- the values' own types

end Go.Proofs.Ytodojmgjjcgfpaa.P
