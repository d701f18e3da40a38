-- a text that a program of this session wrote
import Derived.Test.YthpohaafphaidaaGFaultReadsx0
import Derived.Test.YthpohaafphaidaaGFaultReadsx6
import Derived.Test.YthpohaafphaidaaQVaFaultReads
namespace Go.Proofs.Ythpohaafphaidaa.GFaultReads
open Go.RowKit Go.Proofs.YthpohaafphaidaaW.PrintWords Go.Proofs.YthpohaafphaidaaW.PrintLast Go.Proofs.YthpohaafphaidaaW.PrintMore
attribute [local go_sem] max2_int min2_int max_two min_two max_three min_three max_four min_four   -- for this text's walks alone
attribute [local go_sem high] Go.Proofs.Ythpohaafphaidaa.Fit.run_string_add_fit
set_option linter.unusedVariables false
set_option linter.unusedSimpArgs false

/-! ### pkt_Head: function 35: by a contract of its own -/
def pkt_Head.f (k : Nat) (a0 : ByteArray) : Option (Int × Int × Int × Int × Int × Int × Bool × Bool × ByteArray × Int × Int) := if a0.size ≤ 1048576 then some (VaFaultReads.headv a0) else none
theorem pkt_Head.mono : ∀ a0 k, LeO (pkt_Head.f k a0) (pkt_Head.f (k + 1) a0) := fun _ _ => LeO.refl _
theorem pkt_Head.calls (k : Nat) (a0 : ByteArray) (r1 : Int) (r2 : Int) (r3 : Int) (r4 : Int) (r5 : Int) (r6 : Int) (r7 : Bool) (r8 : Bool) (r9 : ByteArray) (r10 : Int) (r11 : Int) (w : World) (h : pkt_Head.f k a0 = some (r1, r2, r3, r4, r5, r6, r7, r8, r9, r10, r11)) :
  Calls Try.prog 35 #[.string a0] w fun e w' => e = .returned (.tuple #[.agg #[.int .u32 r1, .int .u32 r2, .int .i64 r3, .int .i64 r4, .int .i64 r5, .int .i64 r6, .bool r7, .bool r8, .string r9], .int .i64 r10, .int .i64 r11]) ∧ Below w.heap.size w w' := by
 unfold pkt_Head.f at h
 by_cases c : a0.size ≤ 1048576
 ·rw [if_pos c] at h
  exact VaFaultReads.head_calls a0 c _ _ _ _ _ _ _ _ _ _ _ (Option.some.inj h) w
 ·rw [if_neg c] at h
  simp at h

end Go.Proofs.Ythpohaafphaidaa.GFaultReads
