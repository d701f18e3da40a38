/- Plain facts on numbers, bits and rounds that the other texts of this claim use. -/
import Derived.Test.YtbdcaadehfbnbaaDoorWSized
import Derived.Test.YtbdcaadehfbnbaaDoorWMore
import Derived.Laws.BitsLemmas
namespace Go.Proofs.YtbdcaadehfbnbaaDoor.Pl
open Go.RowKit Go.Proofs.YtbdcaadehfbnbaaDoorW.PrintWords Go.Proofs.YtbdcaadehfbnbaaDoorW.PrintLast
theorem w64 {x : Int} (h0 : -9223372036854775808 ≤ x) (h1 : x ≤ 9223372036854775807) : wrap64 x = x := by unfold wrap64; omega
theorem wraps_i64 (n : Int) (h₀ : 0 ≤ n) (h₁ : n < 2 ^ 63) : IntKind.i64.wrap n = n := by rw [IntKind.wrap_i64]; omega
theorem and65535 {x : Int} (h0 : 0 ≤ x) (h1 : x < 9223372036854775808) : Go.bits .and .i64 x 65535 = x % 65536 := by
  have := bits_mask .i64 63 (by decide) wraps_i64 16 (by decide) x h0 (by omega)
  simpa using this
theorem xor65535 (n : Nat) (h : n ≤ 65535) : Go.bits .xor .i64 (n : Int) 65535 = 65535 - (n : Int) := by
  have h1 : (BitVec.ofInt 64 (n : Int)).toNat = n := by
    rw [BitVec.ofInt_natCast, BitVec.toNat_ofNat]; omega
  have h2 : (BitVec.ofInt 64 (65535 : Int)).toNat = 65535 := by decide
  have h3 : n ^^^ 65535 = 65535 - n := by
    apply Nat.eq_of_testBit_eq
    intro i
    have e : (65535 : Nat) = 2 ^ 16 - 1 := by decide
    have e2 : 65535 - n = 2 ^ 16 - (n + 1) := by omega
    rw [Nat.testBit_xor, e2, Nat.testBit_two_pow_sub_succ (by omega)]
    rw [e, Nat.testBit_two_pow_sub_one]
    by_cases hi : i < 16
    · simp [hi]
    · have : n.testBit i = false := Nat.testBit_lt_two_pow (Nat.lt_of_lt_of_le (show n < 2 ^ 16 by omega) (Nat.pow_le_pow_right (by decide) (by omega)))
      simp [hi, this]
  show IntKind.i64.wrap ((BitVec.ofInt 64 (n : Int) ^^^ BitVec.ofInt 64 (65535 : Int)).toNat : Int) = _
  rw [BitVec.toNat_xor, h1, h2, h3, wraps_i64 _ (by omega) (by omega)]
  omega
theorem Ev.pos {α : Type} {c : Prop} [Decidable c] {f g : Nat → Option α} {r : α} (h : c) (k : Ev f r) : Ev (fun n => if c then f n else g n) r := by
  simpa only [if_pos h] using k
theorem Ev.neg {α : Type} {c : Prop} [Decidable c] {f g : Nat → Option α} {r : α} (h : ¬ c) (k : Ev g r) : Ev (fun n => if c then f n else g n) r := by
  simpa only [if_neg h] using k
theorem Ev.val {α : Type} {a r : α} (h : a = r) : Ev (fun _ => some a) r := h ▸ Ev.now a
end Go.Proofs.YtbdcaadehfbnbaaDoor.Pl
