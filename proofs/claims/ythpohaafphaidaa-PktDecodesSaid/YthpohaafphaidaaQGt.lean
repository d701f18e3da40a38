/- Numbers read out of strings: what the program's get and the reference's Value come to. -/
import Derived.Test.YthpohaafphaidaaQEn
import Derived.IntWalk
import Derived.LoopTactic
import Derived.Laws.BitsAllLaws
namespace Go.Proofs.Ythpohaafphaidaa.Gt
open Go.RowKit Go.Proofs.YthpohaafphaidaaW.PrintWords Go.Proofs.YthpohaafphaidaaW.PrintLast Go.Proofs.Ythpohaafphaidaa.Pl Go.Proofs.Ythpohaafphaidaa.Hd
set_option linter.unusedVariables false
set_option linter.unusedSimpArgs false
theorem bt_lit (s : ByteArray) (i : Nat) : ∀ h : i < s.size, ((s[i]'h).toNat : Int) = bt s i := fun h => bt_at s i (by simpa using h)
/-- the number of len bytes from at on -/
def bv (s : ByteArray) (a : Nat) : Nat → Int
  | 0 => 0
  | k + 1 => bv s a k * 256 + bt s ((a + k : Nat) : Int)
theorem bv_range (s : ByteArray) (a : Nat) (k : Nat) : 0 ≤ bv s a k ∧ bv s a k < 256 ^ k := by
  induction k with
  | zero => simp [bv]
  | succ k ih =>
    have := bt_range s ((a + k : Nat) : Int)
    simp only [bv, Int.pow_succ]
    omega
theorem bv_small (s : ByteArray) (a : Nat) (k : Nat) (hk : k ≤ 6) : 0 ≤ bv s a k ∧ bv s a k < 281474976710656 := by
  have h := bv_range s a k
  have h2 : (256 : Nat) ^ k ≤ 256 ^ 6 := Nat.pow_le_pow_right (by decide) hk
  have h3 : ((256 ^ k : Nat) : Int) = (256 : Int) ^ k := by simp
  omega
theorem join8 (x y : Int) (h0 : 0 ≤ x) (h1 : x < 281474976710656) (y0 : 0 ≤ y) (y1 : y ≤ 255) : Go.bits .or .i64 (x * 256) y = x * 256 + y :=
  bits_join .i64 63 (by decide) wraps_i64 8 (x * 256) y (by omega) (by omega) (by omega) y0 (by omega) (by omega)
theorem get_calls (s : ByteArray) (a len : Nat) (hs : s.size ≤ 1048576) (ha : a + len ≤ s.size) (hl : len ≤ 6) (w : World) :
    Calls Try.prog 48 #[.string s, .int .i64 a, .int .i64 len] w fun e w' => e = .returned (.int .i64 (bv s a len)) ∧ w = w' := by
  go_enter Try.func48, Try.ntmps48
  go_wp2
  go_loop [7, 10] (fun n i => ∃ k : Nat, k ≤ len ∧ i = .int .i64 k ∧ n = .int .i64 (bv s a k)) (fun _ i => len - (intOf i).toNat)
  case atStart => exact ⟨0, Nat.zero_le _, rfl, rfl⟩
  case round =>
    obtain ⟨k, hk, rfl, rfl⟩ := hrel
    have hb := bv_small s a k (by omega)
    have hr := bt_range s ((a + k : Nat) : Int)
    by_cases hlt : k < len
    · have ex : Go.bits .or .i64 (bv s a k * 256) (wrap64 ((s[a + k]'(by omega)).toNat : Int)) = bv s a (k + 1) := by
        rw [bt_lit s (a + k) (by omega), w64 (by omega) (by omega), join8 _ _ hb.1 hb.2 hr.1 hr.2]; rfl
      have EX := Lib.hid ex
      clear ex
      generalize bv s a k = n at hb EX ⊢
      go_wp2
      go_round
      case rel => exact ⟨k + 1, by omega, by go_num, by rw [← EX]⟩
      case measure => simp [intOf]; omega
    · obtain rfl : k = len := by omega
      go_wp2
      go_ret
      exact ⟨rfl, rfl⟩
theorem Value_calls (s : ByteArray) (hs : s.size ≤ 6) (w : World) :
    Calls Try.prog 49 #[.string s] w fun e w' => e = .returned (.int .i64 (bv s 0 s.size)) ∧ w = w' := by
  go_enter Try.func49, Try.ntmps49
  go_wp2
  go_loop [3, 7] (fun n i => ∃ k : Nat, k ≤ s.size ∧ i = .int .i64 k ∧ n = .int .i64 (bv s 0 k)) (fun _ i => s.size - (intOf i).toNat)
  case atStart => exact ⟨0, Nat.zero_le _, rfl, rfl⟩
  case round =>
    obtain ⟨k, hk, rfl, rfl⟩ := hrel
    have hb := bv_small s 0 k (by omega)
    have hr := bt_range s (k : Int)
    by_cases hlt : k < s.size
    · have ex : bv s 0 k * 256 + ((s[k]'hlt).toNat : Int) = bv s 0 (k + 1) := by
        rw [bt_lit s k hlt]; simp only [bv, Nat.zero_add]
      have hy : ((s[k]'hlt).toNat : Int) ≤ 255 := by rw [bt_lit s k hlt]; exact hr.2
      have EX := Lib.hid ex
      clear ex
      generalize bv s 0 k = n at hb EX ⊢
      go_wp2
      go_round
      case rel => exact ⟨k + 1, by omega, by go_num, by rw [← EX]⟩
      case measure => simp [intOf]; omega
    · obtain rfl : k = s.size := by omega
      go_wp2
      go_ret
      exact ⟨rfl, rfl⟩
theorem bt_extract (s : ByteArray) (a b i : Nat) (hi : a + i < b) (hb : b ≤ s.size) : bt (s.extract a b) (i : Int) = bt s ((a + i : Nat) : Int) := by
  rw [← bt_lit (s.extract a b) i (by rw [ByteArray.size_extract]; omega), ← bt_lit s (a + i) (by omega)]
  rw [ByteArray.getElem_extract]
theorem bv_extract (s : ByteArray) (a b : Nat) (hb : b ≤ s.size) : ∀ k, a + k ≤ b → bv (s.extract a b) 0 k = bv s a k := by
  intro k
  induction k with
  | zero => intro _; rfl
  | succ k ih =>
    intro hk
    simp only [bv, Nat.zero_add]
    rw [ih (by omega), bt_extract s a b k (by omega) hb]
/-- Value of a cut. -/
theorem Val_calls (s : ByteArray) (a b : Nat) (n : Nat) (hn : b = a + n) (hn6 : n ≤ 6) (hb : b ≤ s.size) (w : World) :
    Calls Try.prog 49 #[.string (s.extract a b)] w fun e w' => e = .returned (.int .i64 (bv s a n)) ∧ w = w' := by
  subst hn
  have hz : (s.extract a (a + n)).size = n := by rw [ByteArray.size_extract]; omega
  have h := Value_calls (s.extract a (a + n)) (by omega) w
  rw [hz, bv_extract s a (a + n) hb n (by omega)] at h
  exact h
end Go.Proofs.Ythpohaafphaidaa.Gt
