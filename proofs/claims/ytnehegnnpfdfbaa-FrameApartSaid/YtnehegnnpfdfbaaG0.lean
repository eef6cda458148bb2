/- What calls of the program's functions answer: contracts, printed by this session's program (wip/tools/gprint.py) or told by hand. -/
import Derived.Test.YtnehegnnpfdfbaaProg
import Derived.Below
import Derived.Deep.Draws
import Derived.Deep.AppendLies
import Derived.Maps.AppendAt
import Derived.OwnWalk
import Derived.Laws.BytesArg
import Derived.Laws.MakeOwn
import Derived.Laws.OwnMore
import Derived.Deep.OwnRows
import Derived.Tactics
import Derived.Lib.ConvBytes
import Derived.Laws.Slices
import Derived.WalkKit
import Derived.KernelRfl
import Derived.RowKit3
import Derived.Deep.LoopGhost
import Derived.Deep.QuietTactic
import Derived.BigQuiet
import Derived.WideLaws
import Derived.Deep.DeepCutAuto
import Derived.Deep.CutBlock
import Derived.Deep.RegionHeld3
import Derived.Laws.Rows
import Derived.Lib.AppendStr
import Derived.ArgAppend
import Derived.Laws.IdiomCopy
import Derived.OrdersHeld
import Derived.Laws.BitsLemmas
import Derived.RowKit
import Derived.Test.YtnehegnnpfdfbaaWWords
import Derived.Test.YtnehegnnpfdfbaaWLast
import Derived.Test.YtnehegnnpfdfbaaWTab
import Derived.Test.YtnehegnnpfdfbaaWFour
import Derived.Test.YtnehegnnpfdfbaaWQPut
import Derived.Test.YtnehegnnpfdfbaaWApart
import Derived.Test.YtnehegnnpfdfbaaWArr
import Derived.Test.YtnehegnnpfdfbaaWZeros
import Derived.Test.YtnehegnnpfdfbaaWFoot
import Derived.Test.YtnehegnnpfdfbaaWKept
import Derived.Test.YtnehegnnpfdfbaaWShare
import Derived.Test.YtnehegnnpfdfbaaWN
import Derived.Test.YtnehegnnpfdfbaaWFootNe
import Derived.Test.YtnehegnnpfdfbaaWAt
import Derived.Test.YtnehegnnpfdfbaaWEqStruct
import Derived.Test.YtnehegnnpfdfbaaWRepsOne
import Derived.Test.YtnehegnnpfdfbaaWInv
import Derived.Test.YtnehegnnpfdfbaaWInvWords
import Derived.Test.YtnehegnnpfdfbaaWGuard
import Derived.Test.YtnehegnnpfdfbaaWNEv
import Derived.Test.YtnehegnnpfdfbaaWMore
namespace Go.Proofs.Ytnehegnnpfdfbaa.G
open Go.RowKit Go.Proofs.YtnehegnnpfdfbaaW.PrintWords Go.Proofs.YtnehegnnpfdfbaaW.PrintLast Go.Proofs.YtnehegnnpfdfbaaW.PrintMore
attribute [local go_sem] max2_int min2_int max_two min_two max_three min_three max_four min_four   -- for this text's walks alone
set_option linter.unusedVariables false
set_option linter.unusedSimpArgs false



def errW : Option Int → Value
  | none => .nilIface
  | some c => .iface 0 (.int .i64 c)
theorem errW_none : errW none = .nilIface := rfl
theorem errW_some (c : Int) : errW (some c) = .iface 0 (.int .i64 c) := rfl

theorem info5 : (Try.prog.info? 5).map (fun i => (i.zero, i.size, i.bytes)) = some (some (.int .u8 0), 1, 1) := by kernel_rfl
-- the values' own types

end Go.Proofs.Ytnehegnnpfdfbaa.G
