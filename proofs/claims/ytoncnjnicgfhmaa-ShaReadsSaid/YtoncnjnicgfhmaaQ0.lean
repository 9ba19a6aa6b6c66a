/- Written by a program of this session (wip/tools/run.py over the kit's printer): for each Go function a Lean function with the same answers, and the proof that the machine's call comes to them. Not trusted: Lean checks it. -/
import Derived.Test.YtoncnjnicgfhmaaProg
import Derived.Below
import Derived.Deep.Draws
import Derived.Deep.AppendLies
import Derived.Maps.AppendAt
import Derived.OwnWalk
import Derived.Laws.BytesArg
import Derived.Laws.MakeOwn
import Derived.Laws.OwnMore
import Derived.Deep.OwnRows
import Derived.Tactics
import Derived.Lib.ConvBytes
import Derived.Laws.Slices
import Derived.WalkKit
import Derived.KernelRfl
import Derived.RowKit3
import Derived.Deep.LoopGhost
import Derived.Deep.QuietTactic
import Derived.BigQuiet
import Derived.WideLaws
import Derived.Deep.DeepCutAuto
import Derived.Deep.CutBlock
import Derived.Deep.RegionHeld3
import Derived.Laws.Rows
import Derived.Lib.AppendStr
import Derived.ArgAppend
import Derived.Laws.IdiomCopy
import Derived.OrdersHeld
import Derived.Laws.BitsLemmas
import Derived.RowKit
import Derived.Test.YtoncnjnicgfhmaaWWords
import Derived.Test.YtoncnjnicgfhmaaWLast
import Derived.Test.YtoncnjnicgfhmaaWTab
import Derived.Test.YtoncnjnicgfhmaaWFour
import Derived.Test.YtoncnjnicgfhmaaWQPut
import Derived.Test.YtoncnjnicgfhmaaWApart
import Derived.Test.YtoncnjnicgfhmaaWArr
import Derived.Test.YtoncnjnicgfhmaaWZeros
import Derived.Test.YtoncnjnicgfhmaaWFoot
import Derived.Test.YtoncnjnicgfhmaaWKept
import Derived.Test.YtoncnjnicgfhmaaWShare
import Derived.Test.YtoncnjnicgfhmaaWN
import Derived.Test.YtoncnjnicgfhmaaWFootNe
import Derived.Test.YtoncnjnicgfhmaaWAt
import Derived.Test.YtoncnjnicgfhmaaWEqStruct
import Derived.Test.YtoncnjnicgfhmaaWRepsOne
import Derived.Test.YtoncnjnicgfhmaaWInv
import Derived.Test.YtoncnjnicgfhmaaWInvWords
import Derived.Test.YtoncnjnicgfhmaaWGuard
import Derived.Test.YtoncnjnicgfhmaaWNEv
import Derived.Test.YtoncnjnicgfhmaaWMore
namespace Go.Proofs.Ytoncnjnicgfhmaa.Q
open Go.RowKit Go.Proofs.YtoncnjnicgfhmaaW.PrintWords Go.Proofs.YtoncnjnicgfhmaaW.PrintLast Go.Proofs.YtoncnjnicgfhmaaW.PrintMore
attribute [local go_sem] max2_int min2_int max_two min_two max_three min_three max_four min_four   -- for this text's walks alone
set_option linter.unusedVariables false
set_option linter.unusedSimpArgs false



def errW : Option Int → Value
  | none => .nilIface
  | some c => .iface 0 (.int .i64 c)
theorem errW_none : errW none = .nilIface := rfl
theorem errW_some (c : Int) : errW (some c) = .iface 0 (.int .i64 c) := rfl

theorem info5 : (Try.prog.info? 5).map (fun i => (i.zero, i.size, i.bytes)) = some (some (.int .u8 0), 1, 1) := by kernel_rfl
-- the values' own types

end Go.Proofs.Ytoncnjnicgfhmaa.Q
