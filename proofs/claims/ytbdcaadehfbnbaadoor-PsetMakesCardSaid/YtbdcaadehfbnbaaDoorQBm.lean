/- Numbers of 32 bits and masks. Plain facts. -/
import Derived.Test.YtbdcaadehfbnbaaDoorQPl
namespace Go.Proofs.YtbdcaadehfbnbaaDoor.Bm
open Go.RowKit Go.Proofs.YtbdcaadehfbnbaaDoorW.PrintWords Go.Proofs.YtbdcaadehfbnbaaDoorW.PrintLast Go.Proofs.YtbdcaadehfbnbaaDoor.Pl
theorem wraps_u32 (n : Int) (h₀ : 0 ≤ n) (h₁ : n < 2 ^ 32) : IntKind.u32.wrap n = n := by rw [IntKind.wrap_u32]; omega
theorem wrap_u64 (n : Int) : IntKind.u64.wrap n = n % 18446744073709551616 := by simp [IntKind.wrap, IntKind.bits, IntKind.signed]
/-- how many addresses a prefix of n bits has -/
def B (n : Int) : Nat := 2 ^ (32 - n).toNat
theorem B_pos (n : Int) : 0 < B n := Nat.two_pow_pos _
theorem B_le (n : Int) (h : 0 ≤ n) : B n ≤ 4294967296 := by
  have : 2 ^ (32 - n).toNat ≤ 2 ^ 32 := Nat.pow_le_pow_right (by decide) (by omega)
  exact this
/-- the mask -/
def M (n : Int) : Nat := if n = 0 then 0 else 4294967296 - B n
theorem M_eq (n : Int) (h0 : 0 ≤ n) (h1 : n ≤ 32) : M n = 4294967296 - B n := by
  unfold M
  by_cases h : n = 0
  · subst h; rfl
  · rw [if_neg h]
theorem M_lt (n : Int) (h0 : 0 ≤ n) (h1 : n ≤ 32) : M n < 2 ^ 32 := by rw [M_eq n h0 h1]; have := B_pos n; omega
theorem shl_mask (n : Int) (h0 : 0 ≤ n) (h1 : n ≤ 32) : shl .u32 4294967295 (32 - n) = (M n : Int) := by
  have key : ∀ j : Fin 33, shl .u32 4294967295 (32 - (j.val : Int)) = (M (j.val : Int) : Int) := by decide +kernel
  have := key ⟨n.toNat, by omega⟩
  rw [show ((⟨n.toNat, by omega⟩ : Fin 33).val : Int) = n by show (n.toNat : Int) = n; omega] at this
  exact this
theorem and_high (a j : Nat) (ha : a < 2 ^ 32) (hj : j ≤ 32) : a &&& (4294967296 - 2 ^ j) = 2 ^ j * (a / 2 ^ j) := by
  have e : 4294967296 - 2 ^ j = 2 ^ j * (2 ^ (32 - j) - 1) := by
    rw [Nat.mul_sub, ← Nat.pow_add, show j + (32 - j) = 32 by omega, Nat.mul_one]
  rw [e]
  apply Nat.eq_of_testBit_eq
  intro i
  rw [Nat.testBit_and, Nat.testBit_two_pow_mul, Nat.testBit_two_pow_mul, Nat.testBit_two_pow_sub_one, Nat.testBit_div_two_pow]
  by_cases h1 : i ≥ j
  · have e2 : i - j + j = i := by omega
    simp only [h1, decide_true, Bool.true_and, e2]
    by_cases h2 : i < 32
    · have : i - j < 32 - j := by omega
      simp [this]
    · have : a.testBit i = false := Nat.testBit_lt_two_pow (Nat.lt_of_lt_of_le ha (Nat.pow_le_pow_right (by decide) (by omega)))
      simp [this]
  · simp [h1]
theorem and_mask (a n : Int) (h0 : 0 ≤ a) (h1 : a < 4294967296) (n0 : 0 ≤ n) (n1 : n ≤ 32) : Go.bits .and .u32 a (M n : Int) = a - a % (B n : Int) := by
  obtain ⟨x, rfl⟩ := Int.eq_ofNat_of_zero_le h0
  have hx : x < 2 ^ 32 := by omega
  rw [(bits_nat .u32 32 (by decide) wraps_u32 x (M n) hx (M_lt n n0 n1)).1, M_eq n n0 n1]
  unfold B
  rw [and_high x (32 - n).toNat hx (by omega)]
  have := Nat.div_add_mod x (2 ^ (32 - n).toNat)
  have e : ((x : Int) % ((2 ^ (32 - n).toNat : Nat) : Int)) = ((x % 2 ^ (32 - n).toNat : Nat) : Int) := rfl
  rw [e]; omega
theorem not_mask (a n : Int) (h0 : 0 ≤ a) (h1 : a < 4294967296) (n0 : 0 ≤ n) (n1 : n ≤ 32) : Go.bits .andNot .u32 a (M n : Int) = a % (B n : Int) := by
  have hM : ∀ j : Fin 33, (~~~ (BitVec.ofInt 32 (M (j.val : Int) : Int))) = BitVec.ofInt 32 ((2 : Int) ^ (32 - (j.val : Int)).toNat - 1) := by decide +kernel
  have hm := hM ⟨n.toNat, by omega⟩
  rw [show ((⟨n.toNat, by omega⟩ : Fin 33).val : Int) = n by show (n.toNat : Int) = n; omega] at hm
  have hh : Go.bits .andNot .u32 a (M n : Int) = Go.bits .and .u32 a ((2 : Int) ^ (32 - n).toNat - 1) := by
    show IntKind.u32.wrap (((BitVec.ofInt 32 a) &&& ~~~ (BitVec.ofInt 32 (M n : Int))).toNat : Int) = IntKind.u32.wrap (((BitVec.ofInt 32 a) &&& (BitVec.ofInt 32 ((2 : Int) ^ (32 - n).toNat - 1))).toNat : Int)
    rw [hm]
  rw [hh, bits_mask .u32 32 (by decide) wraps_u32 _ (by omega) a h0 (by omega)]
  unfold B; simp
end Go.Proofs.YtbdcaadehfbnbaaDoor.Bm
