/- The library's TrailingZeros64 and Len64 in the print's words. -/
import Derived.Test.YtbdcaadehfbnbaaDoorQSg
import Derived.Test.YtbdcaadehfbnbaaDoorWWords
import Derived.Test.YtbdcaadehfbnbaaDoorWLast
namespace Go.Proofs.YtbdcaadehfbnbaaDoor.Tz
open Go Go.RowKit Go.Proofs.YtbdcaadehfbnbaaDoorW.PrintWords Go.Proofs.YtbdcaadehfbnbaaDoorW.PrintLast
set_option linter.unusedVariables false
set_option linter.unusedSimpArgs false
/-- the library's table stands in its variable -/
def Ok (w : World) : Prop := TabAt 0 Lib.deBruijn64tab w
theorem Ok.on {w w' : World} (h : Ok w) (hb : Below w.heap.size w w') : Ok w' := by
  intro j hj
  have g := h j hj
  exact (hb.cell (p := ⟨0, j, none⟩) (World.block_lt_of_cell? w _ g)).trans g
def tzF (x : Int) : Option Int := if 0 ≤ x ∧ x < 18446744073709551616 then some (Lib.ctz 64 x.toNat : Int) else none
theorem tz_calls (x r : Int) (w : World) (hv : Ok w) (h : tzF x = some r) :
    Calls Tryd.prog 73 #[.int .u64 x] w fun e w' => e = .returned (.int .i64 r) ∧ Below w.heap.size w w' := by
  unfold tzF at h
  by_cases c : 0 ≤ x ∧ x < 18446744073709551616
  · rw [if_pos c] at h
    obtain rfl := Option.some.inj h
    obtain ⟨n, rfl⟩ := Int.eq_ofNat_of_zero_le c.1
    exact (Tryd.bits_TrailingZeros64 n (by omega) w (fun _ => hv)).mono fun e w' hh => ⟨hh.1, by rw [hh.2]; exact Below.refl _ _⟩
  · rw [if_neg c] at h; simp at h
def lenF (x : Int) : Option Int := if 0 ≤ x ∧ x ≤ 18446744073709551615 then some ((Lib.bitLen x.toNat : Int)) else none
theorem len_calls (x r : Int) (w : World) (h : lenF x = some r) :
    Calls Tryd.prog 74 #[.int .u64 x] w fun e w' => e = .returned (.int .i64 r) ∧ Below w.heap.size w w' := by
  unfold lenF at h
  by_cases c : 0 ≤ x ∧ x ≤ 18446744073709551615
  · rw [if_pos c] at h
    obtain rfl := Option.some.inj h
    exact (Tryd.bits_Len64 x w c.1 c.2).mono fun e w' hh => ⟨hh.1, by rw [hh.2]; exact Below.refl _ _⟩
  · rw [if_neg c] at h; simp at h
end Go.Proofs.YtbdcaadehfbnbaaDoor.Tz
