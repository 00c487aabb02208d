/-
  The imports of the contracts of the plain functions.
-/
import Derived.Test.YtfcadniglmhclaaDoorProg
import Derived.Below
import Derived.Deep.Draws
import Derived.Deep.AppendLies
import Derived.Maps.AppendAt
import Derived.OwnWalk
import Derived.Laws.BytesArg
import Derived.Laws.MakeOwn
import Derived.Laws.OwnMore
import Derived.Deep.OwnRows
import Derived.Tactics
import Derived.Lib.ConvBytes
import Derived.Laws.Slices
import Derived.WalkKit
import Derived.KernelRfl
import Derived.RowKit3
import Derived.Deep.LoopGhost
import Derived.Deep.QuietTactic
import Derived.BigQuiet
import Derived.WideLaws
import Derived.Deep.DeepCutAuto
import Derived.Deep.CutBlock
import Derived.Deep.RegionHeld3
import Derived.Laws.Rows
import Derived.Lib.AppendStr
import Derived.ArgAppend
import Derived.Laws.IdiomCopy
import Derived.OrdersHeld
import Derived.Laws.BitsLemmas
import Derived.RowKit
import Derived.Test.YtfcadniglmhclaaDoorWWords
import Derived.Test.YtfcadniglmhclaaDoorWLast
import Derived.Test.YtfcadniglmhclaaDoorWTab
import Derived.Test.YtfcadniglmhclaaDoorWFour
import Derived.Test.YtfcadniglmhclaaDoorWQPut
import Derived.Test.YtfcadniglmhclaaDoorWApart
import Derived.Test.YtfcadniglmhclaaDoorWArr
import Derived.Test.YtfcadniglmhclaaDoorWZeros
import Derived.Test.YtfcadniglmhclaaDoorWFoot
import Derived.Test.YtfcadniglmhclaaDoorWKept
import Derived.Test.YtfcadniglmhclaaDoorWShare
import Derived.Test.YtfcadniglmhclaaDoorWN
import Derived.Test.YtfcadniglmhclaaDoorWFootNe
import Derived.Test.YtfcadniglmhclaaDoorWAt
import Derived.Test.YtfcadniglmhclaaDoorWEqStruct
import Derived.Test.YtfcadniglmhclaaDoorWRepsOne
import Derived.Test.YtfcadniglmhclaaDoorWInv
import Derived.Test.YtfcadniglmhclaaDoorWInvWords
import Derived.Test.YtfcadniglmhclaaDoorWGuard
import Derived.Test.YtfcadniglmhclaaDoorWNEv
import Derived.Test.YtfcadniglmhclaaDoorWMore
namespace Go.Proofs.YtfcadniglmhclaaDoor.R
open Go.RowKit Go.Proofs.YtfcadniglmhclaaDoorW.PrintWords Go.Proofs.YtfcadniglmhclaaDoorW.PrintLast Go.Proofs.YtfcadniglmhclaaDoorW.PrintMore
attribute [local go_sem] max2_int min2_int max_two min_two max_three min_three max_four min_four   -- for this text's walks alone
set_option linter.unusedVariables false
set_option linter.unusedSimpArgs false



def errW : Option Int → Value
  | none => .nilIface
  | some c => .iface 0 (.int .i64 c)
theorem errW_none : errW none = .nilIface := rfl
theorem errW_some (c : Int) : errW (some c) = .iface 0 (.int .i64 c) := rfl

theorem info5 : (Tryd.prog.info? 5).map (fun i => (i.zero, i.size, i.bytes)) = some (some (.int .u8 0), 1, 1) := by kernel_rfl
theorem info27 : (Tryd.prog.info? 27).map (fun i => (i.zero, i.size, i.bytes)) = some (some (.int .u64 0), 1, 8) := by kernel_rfl
-- the values' own types

end Go.Proofs.YtfcadniglmhclaaDoor.R
