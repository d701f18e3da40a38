/- some[Prefix] of a slice that came in. -/
import Derived.Test.YtbdcaadehfbnbaaDoorGPsetMakesx0
import Derived.LoopTactic
import Derived.IntWalk
namespace Go.Proofs.YtbdcaadehfbnbaaDoor.So
open Go.RowKit Go.Proofs.YtbdcaadehfbnbaaDoorW.PrintWords Go.Proofs.YtbdcaadehfbnbaaDoorW.PrintLast Go.Proofs.YtbdcaadehfbnbaaDoorW.PrintMore Go.Proofs.YtbdcaadehfbnbaaDoor.GPsetMakes
attribute [local go_sem] max2_int min2_int max_two min_two max_three min_three max_four min_four
set_option linter.unusedVariables false
set_option linter.unusedSimpArgs false
set_option maxHeartbeats 8000000 in
set_option maxRecDepth 100000 in
theorem some_calls (A : Option Addr) (c : Nat) (l : List S24) (a1 : Int) (w : World) (hr : Kd.C k24 w A l.length l) (hc : l.length ≤ c) (h0 : 0 ≤ a1) (h1 : a1 ≤ 1000) :
  Calls Tryd.prog 17 #[.slice A l.length c, .int .i64 a1] w fun e w' => e = .returned (.slice A (l.take a1.toNat).length c) ∧ w = w' := by
 have HB := Aside0.mk (Below.refl w.heap.size w)
 have hm : l.length ≤ 9223372036854775807 := hr.2.1
 obtain ⟨ji3, hji3⟩ : ∃ j_ : Int, (mn (l.length : Int) a1) = j_ := ⟨_, rfl⟩
 have hji3_ : (if a1 < (l.length : Int) then a1 else (l.length : Int)) = ji3 := hji3
 have g0 : 0 ≤ ji3 := by rw [← hji3_]; split <;> omega
 have g1 : ji3 ≤ (l.length : Int) := by rw [← hji3_]; split <;> omega
 have g2 : ji3 = ((l.take a1.toNat).length : Int) := by rw [← hji3_, List.length_take]; split <;> omega
 have g3 : l.take ji3.toNat = l.take a1.toNat := by
  rw [← hji3_]; split
  · rfl
  · rw [Int.toNat_natCast, List.take_of_length_le (Nat.le_refl _), List.take_of_length_le (by omega)]
 obtain ⟨i07, hi07, _, hsz7, _⟩ := info_parts info24
 have hcut7 := cut_to (P := Tryd.prog) 32 24 .i64 Tryd.underlying32 hi07 A l.length c ji3 g0 g1 hc
 have hC := Kd.C_take hr (m := ji3.toNat) (by omega)
 rw [g3] at hC
 have g4 : ji3.toNat = (l.take a1.toNat).length := by omega
 rw [g4] at hcut7
 have HC := Aside0.mk hC
 clear hC hr hi07 hsz7
 have c4b0 := eq_true g0
 have c4b1 : decide (0 ≤ (ji3)) = true := decide_eq_true g0
 have c5b0 := eq_true g1
 have c5b1 : decide ((ji3) ≤ (l.length : Int)) = true := decide_eq_true g1
 clear g0 g1 g2 g3 g4
 go_enter Tryd.func17, Tryd.ntmps17
 go_wp2
 go_ret
 exact ⟨by rw [List.length_take]; rfl, rfl⟩
end Go.Proofs.YtbdcaadehfbnbaaDoor.So
