/- The law PktSums: what Fix and the closure word come to, and its walk. -/
import Derived.Test.YthpohaafphaidaaQEn
import Derived.Test.YthpohaafphaidaaQSmPktSums
namespace Go.Proofs.Ythpohaafphaidaa.LwPktSums
open Go.RowKit Go.Proofs.YthpohaafphaidaaW.PrintWords Go.Proofs.YthpohaafphaidaaW.PrintLast Go.Proofs.Ythpohaafphaidaa.Pl Go.Proofs.Ythpohaafphaidaa.Dg Go.Proofs.Ythpohaafphaidaa.SmPktEncodes Go.Proofs.Ythpohaafphaidaa.Tt Go.Proofs.Ythpohaafphaidaa.En
set_option linter.unusedVariables false
set_option linter.unusedSimpArgs false
theorem ofInt_mod (x : Int) : (BitVec.ofInt 64 x).toNat % 65536 = (x % 65536).toNat := by
  rw [BitVec.toNat_ofInt]; omega
theorem and_any (x : Int) : Go.bits .and .i64 x 65535 = x % 65536 := by
  show IntKind.i64.wrap ((BitVec.ofInt 64 x &&& BitVec.ofInt 64 65535).toNat : Int) = _
  rw [BitVec.toNat_and, show (BitVec.ofInt 64 (65535 : Int)).toNat = 2 ^ 16 - 1 from by decide, Nat.and_two_pow_sub_one_eq_mod, show (2 : Nat) ^ 16 = 65536 from rfl, ofInt_mod, IntKind.wrap_i64]
  omega
theorem nat_xor (n : Nat) (h : n ≤ 65535) : n ^^^ 65535 = 65535 - n := by
  apply Nat.eq_of_testBit_eq
  intro i
  have e2 : 65535 - n = 2 ^ 16 - (n + 1) := by omega
  rw [Nat.testBit_xor, e2, Nat.testBit_two_pow_sub_succ (by omega), show (65535 : Nat) = 2 ^ 16 - 1 from rfl, Nat.testBit_two_pow_sub_one]
  by_cases hi : i < 16
  · simp [hi]
  · have : n.testBit i = false := Nat.testBit_lt_two_pow (Nat.lt_of_lt_of_le (show n < 2 ^ 16 by omega) (Nat.pow_le_pow_right (by decide) (by omega)))
    simp [hi, this]
theorem xor_and (x : Int) : Go.bits .and .i64 (Go.bits .xor .i64 x 65535) 65535 = 65535 - x % 65536 := by
  rw [and_any]
  have h : Go.bits .xor .i64 x 65535 % 65536 = (((BitVec.ofInt 64 x ^^^ BitVec.ofInt 64 65535).toNat % 65536 : Nat) : Int) := by
    show IntKind.i64.wrap ((BitVec.ofInt 64 x ^^^ BitVec.ofInt 64 65535).toNat : Int) % 65536 = _
    rw [IntKind.wrap_i64]; omega
  rw [h, BitVec.toNat_xor, show (BitVec.ofInt 64 (65535 : Int)).toNat = 65535 from by decide, show (65536 : Nat) = 2 ^ 16 from rfl, Nat.xor_mod_two_pow, show (2 : Nat) ^ 16 = 65536 from rfl, ofInt_mod,
    show (65535 % 65536 : Nat) = 65535 from rfl, nat_xor _ (by omega)]
  omega
/-- the word that the fix of a checksum comes to -/
def fx (x y z : Int) : Nat := ((65535 - x % 65536) + (65535 - y % 65536) + z % 65536).toNat
theorem Fix_ev (x y z : Int) : Ev (fun k => Go.Proofs.Ythpohaafphaidaa.PPktSums.pkt_Fix.f k x y z) (ck (fx x y z)) := by
  unfold Go.Proofs.Ythpohaafphaidaa.PPktSums.pkt_Fix.f
  rw [xor_and, xor_and, and_any, w64 (x := 65535 - x % 65536 + (65535 - y % 65536)) (by omega) (by omega), w64 (by omega) (by omega)]
  have e : 65535 - x % 65536 + (65535 - y % 65536) + z % 65536 = ((fx x y z : Nat) : Int) := by unfold fx; omega
  rw [e]
  refine Ev.bind (Ev.congr (fun k => rfl) (SmPktSums.fold_ev (fx x y z) (by unfold fx; omega))) (Ev.val ?_)
  exact SmPktSums.ck_fv _
theorem Fix_calls (x y z : Int) (w : World) : Calls Try.prog 14 #[.int .i64 x, .int .i64 y, .int .i64 z] w fun e w' => e = .returned (.int .i64 (ck (fx x y z))) ∧ Below w.heap.size w w' := by
  obtain ⟨k, hk⟩ := (Fix_ev x y z).rounds
  refine (Go.Proofs.Ythpohaafphaidaa.PPktSums.pkt_Fix.calls k x y z _ w hk).mono fun e w' ⟨h, d⟩ => ⟨h, ?_⟩
  obtain ⟨n, rfl⟩ := d.out
  exact pw_below_drewN (Below.refl _ _) n
theorem Sum_calls (s : ByteArray) (hs : s.size ≤ 1048576) (w : World) : Calls Try.prog 10 #[.string s] w fun e w' => e = .returned (.int .i64 (ck (ps s s.size))) ∧ Below w.heap.size w w' := by
  obtain ⟨k, hk⟩ := (Sum_ev s hs).rounds
  refine (Go.Proofs.Ythpohaafphaidaa.PPktEncodes.pkt_Sum.calls k s _ w hk).mono fun e w' ⟨h, d⟩ => ⟨h, ?_⟩
  obtain ⟨n, rfl⟩ := d.out
  exact pw_below_drewN (Below.refl _ _) n
theorem begin_calls (s : ByteArray) (n : Nat) (hs : s.size ≤ 9223372036854775807) (w : World) : Calls Try.prog 9 #[.string s, .int .i64 n] w fun e w' => e = .returned (.string (cutb s n)) ∧ Below w.heap.size w w' :=
  Go.Proofs.Ythpohaafphaidaa.PPktEncodes.patchbaylaw2_begin.calls s n _ w (begin_eq s n hs)
theorem bt_str (l : List Int) (i : Nat) (hi : i < l.length) : bt (strOfNums l) (i : Int) = ((UInt8.ofNat (l[i]).toNat).toNat : Int) := by
  have hz : (i : Int).toNat < (strOfNums l).size := by rw [strOfNums_size]; simpa using hi
  rw [← bt_at (strOfNums l) i hz]
  have e : (strOfNums l)[(i : Int).toNat]'hz = UInt8.ofNat (l[i]).toNat := by
    show (strOfNums l).data[i]'_ = _
    simp [strOfNums]
  rw [e]
theorem u8_small (x : Int) (h0 : 0 ≤ x) (h1 : x < 256) : ((UInt8.ofNat x.toNat).toNat : Int) = x := by
  rw [UInt8.toNat_ofNat']; omega
theorem ps6 (x0 x1 x2 x3 x4 x5 : Int) (a0 : 0 ≤ x0) (b0 : x0 < 256) (a1 : 0 ≤ x1) (b1 : x1 < 256) (a2 : 0 ≤ x2) (b2 : x2 < 256) (a3 : 0 ≤ x3) (b3 : x3 < 256) (a4 : 0 ≤ x4) (b4 : x4 < 256) (a5 : 0 ≤ x5) (b5 : x5 < 256) :
    ps (strOfNums [x0, x1, x2, x3, x4, x5]) 6 = (x0 * 256 + x1 + (x2 * 256 + x3) + (x4 * 256 + x5)).toNat := by
  have f0 : bt (strOfNums [x0, x1, x2, x3, x4, x5]) ((0 : Nat) : Int) = x0 := (bt_str _ 0 (by simp)).trans (u8_small x0 a0 b0)
  have f1 : bt (strOfNums [x0, x1, x2, x3, x4, x5]) ((1 : Nat) : Int) = x1 := (bt_str _ 1 (by simp)).trans (u8_small x1 a1 b1)
  have f2 : bt (strOfNums [x0, x1, x2, x3, x4, x5]) ((2 : Nat) : Int) = x2 := (bt_str _ 2 (by simp)).trans (u8_small x2 a2 b2)
  have f3 : bt (strOfNums [x0, x1, x2, x3, x4, x5]) ((3 : Nat) : Int) = x3 := (bt_str _ 3 (by simp)).trans (u8_small x3 a3 b3)
  have f4 : bt (strOfNums [x0, x1, x2, x3, x4, x5]) ((4 : Nat) : Int) = x4 := (bt_str _ 4 (by simp)).trans (u8_small x4 a4 b4)
  have f5 : bt (strOfNums [x0, x1, x2, x3, x4, x5]) ((5 : Nat) : Int) = x5 := (bt_str _ 5 (by simp)).trans (u8_small x5 a5 b5)
  simp only [ps, f0, f1, f2, f3, f4, f5]
  simp only [Nat.zero_mod, if_true, show ¬ (1 % 2 = 0) by decide, show (2 % 2 = 0) by decide, show ¬ (3 % 2 = 0) by decide, show (4 % 2 = 0) by decide, show ¬ (5 % 2 = 0) by decide, if_false]
  omega
/-- the three words as one string -/
def wd (A B C : Int) : ByteArray := dg A 2 ++ dg B 2 ++ dg C 2
theorem wd_size (A B C : Int) : (wd A B C).size = 6 := by simp only [wd, ByteArray.size_append, dg_size]
theorem wd_ps (A B C : Int) (a0 : 0 ≤ A) (a1 : A < 65536) (b0 : 0 ≤ B) (b1 : B < 65536) (c0 : 0 ≤ C) (c1 : C < 65536) : ps (wd A B C) 6 = (A + B + C).toNat := by
  have e : wd A B C = strOfNums [A / 256 % 256, A % 256, B / 256 % 256, B % 256, C / 256 % 256, C % 256] := by
    simp only [wd, dg, dgl, ← strOfNums_append]; rfl
  rw [e]
  rw [ps6 _ _ _ _ _ _ (by omega) (by omega) (by omega) (by omega) (by omega) (by omega) (by omega) (by omega) (by omega) (by omega) (by omega) (by omega)]
  omega
/-- the closure: the low sixteen bits as two bytes -/
theorem word_calls (x : Int) (w : World) : Calls Try.prog 12 #[.int .i64 x] w fun e w' => e = .returned (.string (dg (x % 65536) 2)) ∧ Below w.heap.size w w' := by
  have ha := and_any x
  have h0 : 0 ≤ x % 65536 := by omega
  have h1 : x % 65536 < 9223372036854775808 := by omega
  generalize x % 65536 = y at ha h0 h1 ⊢
  go_enter Try.func12, Try.ntmps12
  go_wp2_with (first | (go_at_call 13; refine (Digits2 _ _ h0 h1).mono ?_; rintro e w' ⟨rfl, hb⟩))
  go_ret
  exact ⟨rfl, by assumption⟩
theorem word_small (x : Int) (h0 : 0 ≤ x) (h1 : x < 65536) (w : World) : Calls Try.prog 12 #[.int .i64 x] w fun e w' => e = .returned (.string (dg x 2)) ∧ Below w.heap.size w w' := by
  have h := word_calls x w
  rwa [show x % 65536 = x by omega] at h
theorem sum12 (w : World) : Calls Try.prog 10 #[.string ⟨#[1, 2]⟩] w fun e w' => e = .returned (.int .i64 65277) ∧ Below w.heap.size w w' := by
  have e : ck (ps (⟨#[1, 2]⟩ : ByteArray) (⟨#[1, 2]⟩ : ByteArray).size) = 65277 := by decide +kernel
  rw [← e]
  exact Sum_calls _ (by decide) w
theorem wd_calls (x y z : Int) (w : World) : Calls Try.prog 11 #[.string (dg (65535 - x % 65536) 2 ++ dg (65535 - y % 65536) 2 ++ dg (z % 65536) 2)] w fun e w' => e = .returned (.int .i64 (ck (fx x y z))) ∧ Below w.heap.size w w' := by
  have h := SumOf_calls (wd (65535 - x % 65536) (65535 - y % 65536) (z % 65536)) (by rw [wd_size]; omega) w
  rw [wd_size, wd_ps _ _ _ (by omega) (by omega) (by omega) (by omega) (by omega) (by omega)] at h
  exact h
set_option maxRecDepth 100000 in
set_option maxHeartbeats 1600000 in
theorem law (s : ByteArray) (hs : s.size ≤ 9223372036854775807) (x y z : Int) (w : World) :
    Calls Try.prog 3 #[.string s, .int .i64 x, .int .i64 y, .int .i64 z] w fun e w' => e = .returned (.bool true) ∧ Below w.heap.size w w' := by
  have hb := cutb_size s 40
  have ha := and_any x
  have hy := and_any y
  go_enter Try.func3, Try.ntmps3
  go_wp2_with fail
  refine (begin_calls s 40 hs _).mono ?_
  rintro e w1 ⟨rfl, hb1⟩
  generalize cutb s 40 = b at hb ⊢
  go_wp2_with fail
  refine (sum12 _).mono ?_
  rintro e w2 ⟨rfl, hb2⟩
  go_wp2_with fail
  refine (Sum_calls b (by omega) _).mono ?_
  rintro e w3 ⟨rfl, hb3⟩
  go_wp2_with fail
  refine (SumOf_calls b (by omega) _).mono ?_
  rintro e w4 ⟨rfl, hb4⟩
  have Z4 := Lib.hid (below_step (below_step (below_step hb1 hb2) hb3) hb4)
  clear hb1 hb2 hb3 hb4
  generalize ck (ps b b.size) = c0
  go_wp2_with fail
  refine (Fix_calls x y z _).mono ?_
  rintro e w5 ⟨rfl, hb5⟩
  go_wp2_with fail
  refine (word_small _ (by omega) (by omega) _).mono ?_
  rintro e w6 ⟨rfl, hb6⟩
  go_wp2_with fail
  refine (word_small _ (by omega) (by omega) _).mono ?_
  rintro e w7 ⟨rfl, hb7⟩
  have q0 : (dg (65535 - x % 65536) 2).size = 2 := dg_size _ _
  have q1 : (dg (65535 - y % 65536) 2).size = 2 := dg_size _ _
  have q2 : (dg (z % 65536) 2).size = 2 := dg_size _ _
  go_wp2_with fail
  refine (word_calls _ _).mono ?_
  rintro e w8 ⟨rfl, hb8⟩
  go_wp2_with fail
  refine (wd_calls x y z _).mono ?_
  rintro e w9 ⟨rfl, hb9⟩
  have Z9 := Lib.hid (below_step (below_step (below_step (below_step (below_step Z4 hb5) hb6) hb7) hb8) hb9)
  clear hb5 hb6 hb7 hb8 hb9
  go_wp2_with fail
  go_ret
  exact ⟨rfl, Z9⟩
end Go.Proofs.Ythpohaafphaidaa.LwPktSums
