-- a text that a program of this session wrote
import Derived.Test.YtbdcaadehfbnbaaDoorProg
import Derived.Test.YtbdcaadehfbnbaaDoorQFit
import Derived.Below
import Derived.Deep.Draws
import Derived.Deep.AppendLies
import Derived.Maps.AppendAt
import Derived.OwnWalk
import Derived.Laws.BytesArg
import Derived.Laws.MakeOwn
import Derived.Laws.OwnMore
import Derived.Deep.OwnRows
import Derived.Tactics
import Derived.Lib.ConvBytes
import Derived.Laws.Slices
import Derived.WalkKit
import Derived.KernelRfl
import Derived.RowKit3
import Derived.Deep.LoopGhost
import Derived.Deep.QuietTactic
import Derived.BigQuiet
import Derived.WideLaws
import Derived.Deep.DeepCutAuto
import Derived.Deep.CutBlock
import Derived.Deep.RegionHeld3
import Derived.Laws.Rows
import Derived.Lib.AppendStr
import Derived.ArgAppend
import Derived.Laws.IdiomCopy
import Derived.OrdersHeld
import Derived.Laws.BitsLemmas
import Derived.RowKit
import Derived.Test.YtbdcaadehfbnbaaDoorWWords
import Derived.Test.YtbdcaadehfbnbaaDoorWLast
import Derived.Test.YtbdcaadehfbnbaaDoorWTab
import Derived.Test.YtbdcaadehfbnbaaDoorWFour
import Derived.Test.YtbdcaadehfbnbaaDoorWQPut
import Derived.Test.YtbdcaadehfbnbaaDoorWApart
import Derived.Test.YtbdcaadehfbnbaaDoorWArr
import Derived.Test.YtbdcaadehfbnbaaDoorWZeros
import Derived.Test.YtbdcaadehfbnbaaDoorWFoot
import Derived.Test.YtbdcaadehfbnbaaDoorWKept
import Derived.Test.YtbdcaadehfbnbaaDoorWShare
import Derived.Test.YtbdcaadehfbnbaaDoorWN
import Derived.Test.YtbdcaadehfbnbaaDoorWFootNe
import Derived.Test.YtbdcaadehfbnbaaDoorWAt
import Derived.Test.YtbdcaadehfbnbaaDoorWEqStruct
import Derived.Test.YtbdcaadehfbnbaaDoorWRepsOne
import Derived.Test.YtbdcaadehfbnbaaDoorWInv
import Derived.Test.YtbdcaadehfbnbaaDoorWInvWords
import Derived.Test.YtbdcaadehfbnbaaDoorWGuard
import Derived.Test.YtbdcaadehfbnbaaDoorWNEv
import Derived.Test.YtbdcaadehfbnbaaDoorWMore
namespace Go.Proofs.YtbdcaadehfbnbaaDoor.GAddrWrites
open Go.RowKit Go.Proofs.YtbdcaadehfbnbaaDoorW.PrintWords Go.Proofs.YtbdcaadehfbnbaaDoorW.PrintLast Go.Proofs.YtbdcaadehfbnbaaDoorW.PrintMore
attribute [local go_sem] max2_int min2_int max_two min_two max_three min_three max_four min_four   -- for this text's walks alone
attribute [local go_sem high] Go.Proofs.YtbdcaadehfbnbaaDoor.Fit.run_string_add_fit
set_option linter.unusedVariables false
set_option linter.unusedSimpArgs false



def errW : Option Int → Value
 | none => .nilIface
 | some c => .iface 130 (.int .i64 c)
theorem errW_none : errW none = .nilIface := rfl
theorem errW_some (c : Int) : errW (some c) = .iface 130 (.int .i64 c) := rfl

theorem info3 : (Tryd.prog.info? 3).map (fun i => (i.zero, i.size, i.bytes)) = some (some (.int .i64 0), 1, 8) := by kernel_rfl
theorem info9 : (Tryd.prog.info? 9).map (fun i => (i.zero, i.size, i.bytes)) = some (some (.string ⟨#[]⟩), 1, 16) := by kernel_rfl
-- the values' own types

end Go.Proofs.YtbdcaadehfbnbaaDoor.GAddrWrites
