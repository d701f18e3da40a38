-- a text that a program of this session wrote
import Derived.Test.YthpohaafphaidaaProg
import Derived.Test.YthpohaafphaidaaQFit
import Derived.Below
import Derived.Deep.Draws
import Derived.Deep.AppendLies
import Derived.Maps.AppendAt
import Derived.OwnWalk
import Derived.Laws.BytesArg
import Derived.Laws.MakeOwn
import Derived.Laws.OwnMore
import Derived.Deep.OwnRows
import Derived.Tactics
import Derived.Lib.ConvBytes
import Derived.Laws.Slices
import Derived.WalkKit
import Derived.KernelRfl
import Derived.RowKit3
import Derived.Deep.LoopGhost
import Derived.Deep.QuietTactic
import Derived.BigQuiet
import Derived.WideLaws
import Derived.Deep.DeepCutAuto
import Derived.Deep.CutBlock
import Derived.Deep.RegionHeld3
import Derived.Laws.Rows
import Derived.Lib.AppendStr
import Derived.ArgAppend
import Derived.Laws.IdiomCopy
import Derived.OrdersHeld
import Derived.Laws.BitsLemmas
import Derived.RowKit
import Derived.Test.YthpohaafphaidaaWWords
import Derived.Test.YthpohaafphaidaaWLast
import Derived.Test.YthpohaafphaidaaWTab
import Derived.Test.YthpohaafphaidaaWFour
import Derived.Test.YthpohaafphaidaaWQPut
import Derived.Test.YthpohaafphaidaaWApart
import Derived.Test.YthpohaafphaidaaWArr
import Derived.Test.YthpohaafphaidaaWZeros
import Derived.Test.YthpohaafphaidaaWFoot
import Derived.Test.YthpohaafphaidaaWKept
import Derived.Test.YthpohaafphaidaaWShare
import Derived.Test.YthpohaafphaidaaWN
import Derived.Test.YthpohaafphaidaaWFootNe
import Derived.Test.YthpohaafphaidaaWAt
import Derived.Test.YthpohaafphaidaaWEqStruct
import Derived.Test.YthpohaafphaidaaWRepsOne
import Derived.Test.YthpohaafphaidaaWInv
import Derived.Test.YthpohaafphaidaaWInvWords
import Derived.Test.YthpohaafphaidaaWGuard
import Derived.Test.YthpohaafphaidaaWNEv
import Derived.Test.YthpohaafphaidaaWMore
namespace Go.Proofs.Ythpohaafphaidaa.GFaultReads
open Go.RowKit Go.Proofs.YthpohaafphaidaaW.PrintWords Go.Proofs.YthpohaafphaidaaW.PrintLast Go.Proofs.YthpohaafphaidaaW.PrintMore
attribute [local go_sem] max2_int min2_int max_two min_two max_three min_three max_four min_four   -- for this text's walks alone
attribute [local go_sem high] Go.Proofs.Ythpohaafphaidaa.Fit.run_string_add_fit
set_option linter.unusedVariables false
set_option linter.unusedSimpArgs false



def errW : Option Int → Value
 | none => .nilIface
 | some c => .iface 0 (.int .i64 c)
theorem errW_none : errW none = .nilIface := rfl
theorem errW_some (c : Int) : errW (some c) = .iface 0 (.int .i64 c) := rfl

theorem info5 : (Try.prog.info? 5).map (fun i => (i.zero, i.size, i.bytes)) = some (some (.int .u8 0), 1, 1) := by kernel_rfl
-- the values' own types

end Go.Proofs.Ythpohaafphaidaa.GFaultReads
