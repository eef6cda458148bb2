/- What calls of the program's functions answer: contracts, printed by this session's program (wip/tools/gprint.py) or told by hand. -/
import Derived.Test.YtjnkgccabgiocaaProg
import Derived.Below
import Derived.Deep.Draws
import Derived.Deep.AppendLies
import Derived.Maps.AppendAt
import Derived.OwnWalk
import Derived.Laws.BytesArg
import Derived.Laws.MakeOwn
import Derived.Laws.OwnMore
import Derived.Deep.OwnRows
import Derived.Tactics
import Derived.Lib.ConvBytes
import Derived.Laws.Slices
import Derived.WalkKit
import Derived.KernelRfl
import Derived.RowKit3
import Derived.Deep.LoopGhost
import Derived.Deep.QuietTactic
import Derived.BigQuiet
import Derived.WideLaws
import Derived.Deep.DeepCutAuto
import Derived.Deep.CutBlock
import Derived.Deep.RegionHeld3
import Derived.Laws.Rows
import Derived.Lib.AppendStr
import Derived.ArgAppend
import Derived.Laws.IdiomCopy
import Derived.OrdersHeld
import Derived.Laws.BitsLemmas
import Derived.RowKit
import Derived.Test.YtjnkgccabgiocaaWWords
import Derived.Test.YtjnkgccabgiocaaWLast
import Derived.Test.YtjnkgccabgiocaaWTab
import Derived.Test.YtjnkgccabgiocaaWFour
import Derived.Test.YtjnkgccabgiocaaWQPut
import Derived.Test.YtjnkgccabgiocaaWApart
import Derived.Test.YtjnkgccabgiocaaWArr
import Derived.Test.YtjnkgccabgiocaaWZeros
import Derived.Test.YtjnkgccabgiocaaWFoot
import Derived.Test.YtjnkgccabgiocaaWKept
import Derived.Test.YtjnkgccabgiocaaWShare
import Derived.Test.YtjnkgccabgiocaaWN
import Derived.Test.YtjnkgccabgiocaaWFootNe
import Derived.Test.YtjnkgccabgiocaaWAt
import Derived.Test.YtjnkgccabgiocaaWEqStruct
import Derived.Test.YtjnkgccabgiocaaWRepsOne
import Derived.Test.YtjnkgccabgiocaaWInv
import Derived.Test.YtjnkgccabgiocaaWInvWords
import Derived.Test.YtjnkgccabgiocaaWGuard
import Derived.Test.YtjnkgccabgiocaaWNEv
import Derived.Test.YtjnkgccabgiocaaWMore
namespace Go.Proofs.Ytjnkgccabgiocaa.G
open Go.RowKit Go.Proofs.YtjnkgccabgiocaaW.PrintWords Go.Proofs.YtjnkgccabgiocaaW.PrintLast Go.Proofs.YtjnkgccabgiocaaW.PrintMore
attribute [local go_sem] max2_int min2_int max_two min_two max_three min_three max_four min_four   -- for this text's walks alone
set_option linter.unusedVariables false
set_option linter.unusedSimpArgs false



def errW : Option Int → Value
  | none => .nilIface
  | some c => .iface 0 (.int .i64 c)
theorem errW_none : errW none = .nilIface := rfl
theorem errW_some (c : Int) : errW (some c) = .iface 0 (.int .i64 c) := rfl

theorem info3 : (Try.prog.info? 3).map (fun i => (i.zero, i.size, i.bytes)) = some (some (.int .i64 0), 1, 8) := by kernel_rfl
theorem info5 : (Try.prog.info? 5).map (fun i => (i.zero, i.size, i.bytes)) = some (some (.int .u8 0), 1, 1) := by kernel_rfl
theorem info9 : (Try.prog.info? 9).map (fun i => (i.zero, i.size, i.bytes)) = some (some (.string ⟨#[]⟩), 1, 16) := by kernel_rfl
-- the values' own types

end Go.Proofs.Ytjnkgccabgiocaa.G
