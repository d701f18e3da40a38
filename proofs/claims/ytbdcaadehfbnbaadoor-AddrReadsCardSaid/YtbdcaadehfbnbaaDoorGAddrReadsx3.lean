-- a text that a program of this session wrote
import Derived.Test.YtbdcaadehfbnbaaDoorGAddrReadsx0
import Derived.Test.YtbdcaadehfbnbaaDoorQVb
namespace Go.Proofs.YtbdcaadehfbnbaaDoor.GAddrReads
open Go.RowKit Go.Proofs.YtbdcaadehfbnbaaDoorW.PrintWords Go.Proofs.YtbdcaadehfbnbaaDoorW.PrintLast Go.Proofs.YtbdcaadehfbnbaaDoorW.PrintMore
attribute [local go_sem] max2_int min2_int max_two min_two max_three min_three max_four min_four   -- for this text's walks alone
attribute [local go_sem high] Go.Proofs.YtbdcaadehfbnbaaDoor.Fit.run_string_add_fit
set_option linter.unusedVariables false
set_option linter.unusedSimpArgs false

/-! ### strings_IndexByte: function 64 -/
def strings_IndexByte.f (a0 : ByteArray) (a1 : Int) : Option (Int) := Vb.indexF a0 a1
theorem strings_IndexByte.calls (a0 : ByteArray) (a1 : Int) (r : Int) (w : World) (h : strings_IndexByte.f a0 a1 = some r) :
  Calls Tryd.prog 64 #[.string a0, .int .u8 a1] w fun e w' => e = .returned (.int .i64 r) ∧ Below w.heap.size w w' := Vb.index_calls a0 a1 r w h


end Go.Proofs.YtbdcaadehfbnbaaDoor.GAddrReads
