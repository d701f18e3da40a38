/- What Head tells of a string. -/
import Derived.Test.YthpohaafphaidaaQGt
import Derived.Test.YthpohaafphaidaaQLwPktSums
import Derived.Test.YthpohaafphaidaaQLwPktEncodes
import Derived.Test.YthpohaafphaidaaQRg
namespace Go.Proofs.Ythpohaafphaidaa.He
open Go.RowKit Go.Proofs.YthpohaafphaidaaW.PrintWords Go.Proofs.YthpohaafphaidaaW.PrintLast Go.Proofs.Ythpohaafphaidaa.Pl Go.Proofs.Ythpohaafphaidaa.Gt Go.Proofs.Ythpohaafphaidaa.SmPktEncodes Go.Proofs.Ythpohaafphaidaa.LwPktSums
set_option linter.unusedVariables false
set_option linter.unusedSimpArgs false
/-- the head without its sum -/
def hs (s : ByteArray) : ByteArray := s.extract 0 10 ++ (⟨#[0, 0]⟩ : ByteArray) ++ s.extract 12 20
theorem hs_size (s : ByteArray) (h : 20 ≤ s.size) : (hs s).size = 20 := by
  simp only [hs, ByteArray.size_append, ByteArray.size_extract]
  have : (⟨#[0, 0]⟩ : ByteArray).size = 2 := rfl
  omega
theorem SumH_calls (s : ByteArray) (h : 20 ≤ s.size) (w : World) : Calls Try.prog 10 #[.string (s.extract 0 10 ++ (⟨#[0, 0]⟩ : ByteArray) ++ s.extract 12 20)] w fun e w' => e = .returned (.int .i64 (ck (ps (hs s) 20))) ∧ Below w.heap.size w w' := by
  have := Sum_calls (hs s) (by rw [hs_size s h]; omega) w
  rwa [hs_size s h] at this
theorem and_32768 (x : Int) (h0 : 0 ≤ x) (h1 : x < 65536) : Go.bits .and .i64 x 32768 = x / 32768 * 32768 := by
  obtain ⟨n, rfl⟩ := Int.eq_ofNat_of_zero_le h0
  rw [show (32768 : Int) = ((32768 : Nat) : Int) from rfl, (bits_nat .i64 63 (by decide) wraps_i64 n 32768 (by omega) (by omega)).1, show (32768 : Nat) = 2 ^ 15 from rfl, nat_bit]
  omega
theorem and_16384 (x : Int) (h0 : 0 ≤ x) (h1 : x < 32768) : Go.bits .and .i64 x 16384 = x / 16384 * 16384 := by
  obtain ⟨n, rfl⟩ := Int.eq_ofNat_of_zero_le h0
  rw [show (16384 : Int) = ((16384 : Nat) : Int) from rfl, (bits_nat .i64 63 (by decide) wraps_i64 n 16384 (by omega) (by omega)).1, show (16384 : Nat) = 2 ^ 14 from rfl, nat_bit]
  omega
theorem and_8192 (x : Int) (h0 : 0 ≤ x) (h1 : x < 32768) : Go.bits .and .i64 x 8192 = x / 8192 % 2 * 8192 := by
  obtain ⟨n, rfl⟩ := Int.eq_ofNat_of_zero_le h0
  rw [show (8192 : Int) = ((8192 : Nat) : Int) from rfl, (bits_nat .i64 63 (by decide) wraps_i64 n 8192 (by omega) (by omega)).1, show (8192 : Nat) = 2 ^ 13 from rfl, nat_bit]
  omega
theorem and_8191 (x : Int) (h0 : 0 ≤ x) (h1 : x < 32768) : Go.bits .and .i64 x 8191 = x % 8192 := by
  have := bits_mask .i64 63 (by decide) wraps_i64 13 (by decide) x h0 (by omega)
  simpa using this
theorem keepB {B : Nat} {W w1 w2 : World} {o : Obj} (hb : Below w1.heap.size w1 w2) (h : w1.heap[B]? = some o ∧ Below W.heap.size W w1) : w2.heap[B]? = some o ∧ Below W.heap.size W w2 := ⟨blk_below h.1 hb, below_step h.2 hb⟩
theorem keepA {B : Nat} {W w1 : World} {o : Obj} (h : w1.heap[B]? = some o ∧ Below W.heap.size W w1) (x : Obj) : (w1.alloc x).heap[B]? = some o ∧ Below W.heap.size W (w1.alloc x) := ⟨blk_alloc h.1 x, below_alloc h.2 x⟩
theorem keepAD {B : Nat} {W w1 : World} {o : Obj} (h : w1.drew.heap[B]? = some o ∧ Below W.heap.size W w1.drew) (x : Obj) : (w1.alloc x).drew.heap[B]? = some o ∧ Below W.heap.size W (w1.alloc x).drew := ⟨blk_alloc h.1 x, below_alloc h.2 x⟩
theorem keepD1 {B : Nat} {W w1 : World} {o : Obj} (h : w1.heap[B]? = some o) (z : Below W.heap.size W w1) : w1.drew.heap[B]? = some o ∧ Below W.heap.size W w1.drew := ⟨blk_drew h, below_drew1 z⟩
theorem keepD2 {B : Nat} {W w1 : World} {o : Obj} (h : w1.heap[B]? = some o) (z : Below W.heap.size W w1) (x : Obj) : (w1.alloc x).drew.heap[B]? = some o ∧ Below W.heap.size W (w1.alloc x).drew := ⟨blk_drew (blk_alloc h x), below_drew1 (below_alloc z x)⟩
/-- no packet -/
def zp : Value := .agg #[.int .u32 0, .int .u32 0, .int .i64 0, .int .i64 0, .int .i64 0, .int .i64 0, .bool false, .bool false, .string ⟨#[]⟩]
/-- the head's form is wrong -/
def bad (s : ByteArray) : Prop := bt s 0 ≠ 69 ∨ bt s 1 ≠ 0 ∨ bv s 2 2 < 20 ∨ 32768 ≤ bv s 6 2 ∨ bt s 8 = 0
set_option maxRecDepth 100000 in
theorem Head_short (s : ByteArray) (h : s.size < 20) (w : World) :
    Calls Try.prog 35 #[.string s] w fun e w' => e = .returned (.tuple #[zp, .int .i64 0, .int .i64 9]) ∧ Below w.heap.size w w' := by
  go_enter Try.func35, Try.ntmps35
  go_wp2
  exact bodyPost_ret (v := .tuple #[zp, .int .i64 0, .int .i64 9]) (by simp [results, Try.results35, go_sem, zp]) rfl ⟨rfl, (Below.refl _ _).alloc (Nat.le_refl _) _⟩
set_option maxRecDepth 100000 in
set_option maxHeartbeats 3200000 in
theorem Head_bad0 (s : ByteArray) (h20 : 20 ≤ s.size) (b0 b1 b8 n f : Int)
    (x0 : ∀ h : 0 < s.size, ((s[0]'h).toNat : Int) = b0) (x1 : ∀ h : 1 < s.size, ((s[1]'h).toNat : Int) = b1) (x8 : ∀ h : 8 < s.size, ((s[8]'h).toNat : Int) = b8)
    (f0 : 0 ≤ f) (f1 : f < 65536)
    (G1 : Hid (∀ w, Calls Try.prog 48 #[.string s, .int .i64 2, .int .i64 2] w fun e w' => e = .returned (.int .i64 n) ∧ w = w'))
    (G2 : Hid (∀ w, Calls Try.prog 48 #[.string s, .int .i64 6, .int .i64 2] w fun e w' => e = .returned (.int .i64 f) ∧ w = w'))
    (hb : b0 ≠ 69 ∨ b1 ≠ 0 ∨ n < 20 ∨ 32768 ≤ f ∨ b8 = 0) (w : World) :
    Calls Try.prog 35 #[.string s] w fun e w' => e = .returned (.tuple #[zp, .int .i64 0, .int .i64 3]) ∧ Below w.heap.size w w' := by
  have i0 : (0 : Int) < (s.size : Int) := by omega
  have i1 : (1 : Int) < (s.size : Int) := by omega
  have i8 : (8 : Int) < (s.size : Int) := by omega
  have ha := and_32768 f f0 f1
  have HB : Hid (b0 ≠ 69 ∨ b1 ≠ 0 ∨ n < 20 ∨ 32768 ≤ f ∨ b8 = 0) := hb
  clear hb
  go_enter Try.func35, Try.ntmps35
  go_wp2_with fail
  refine (G1 _).mono ?_
  rintro e w1 ⟨rfl, rfl⟩
  go_wp2_with fail
  refine (G2 _).mono ?_
  rintro e w1 ⟨rfl, rfl⟩
  have fin : ∀ w1 : World, True := fun _ => trivial
  by_cases c0 : b0 = 69
  · have d0 : (b0 != 69) = false := by simpa using c0
    by_cases c1 : b1 = 0
    · have d1 : (b1 != 0) = false := by simpa using c1
      by_cases c2 : n < 20
      · clear HB c0 c1
        go_wp2_with fail
        exact bodyPost_ret (v := .tuple #[zp, .int .i64 0, .int .i64 3]) (by simp [results, Try.results35, go_sem, zp]) rfl ⟨rfl, (Below.refl _ _).alloc (Nat.le_refl _) _⟩
      · by_cases c3 : 32768 ≤ f
        · have d3 : (f / 32768 * 32768 != 0) = true := by rw [bne_iff_ne]; omega
          clear HB c0 c1
          go_wp2_with fail
          exact bodyPost_ret (v := .tuple #[zp, .int .i64 0, .int .i64 3]) (by simp [results, Try.results35, go_sem, zp]) rfl ⟨rfl, (Below.refl _ _).alloc (Nat.le_refl _) _⟩
        · have d3 : (f / 32768 * 32768 != 0) = false := by rw [bne_eq_false_iff_eq]; omega
          have c4 : (b8 == 0) = true := by have := HB; rw [beq_iff_eq]; unfold Hid at this; omega
          clear HB c0 c1
          go_wp2_with fail
          exact bodyPost_ret (v := .tuple #[zp, .int .i64 0, .int .i64 3]) (by simp [results, Try.results35, go_sem, zp]) rfl ⟨rfl, (Below.refl _ _).alloc (Nat.le_refl _) _⟩
    · have d1 : (b1 != 0) = true := by simpa using c1
      clear HB c0 c1
      go_wp2_with fail
      exact bodyPost_ret (v := .tuple #[zp, .int .i64 0, .int .i64 3]) (by simp [results, Try.results35, go_sem, zp]) rfl ⟨rfl, (Below.refl _ _).alloc (Nat.le_refl _) _⟩
  · have d0 : (b0 != 69) = true := by simpa using c0
    clear HB c0
    go_wp2_with fail
    exact bodyPost_ret (v := .tuple #[zp, .int .i64 0, .int .i64 3]) (by simp [results, Try.results35, go_sem, zp]) rfl ⟨rfl, (Below.refl _ _).alloc (Nat.le_refl _) _⟩
theorem Head_bad (s : ByteArray) (h20 : 20 ≤ s.size) (hz : s.size ≤ 1048576) (hb : bad s) (w : World) :
    Calls Try.prog 35 #[.string s] w fun e w' => e = .returned (.tuple #[zp, .int .i64 0, .int .i64 3]) ∧ Below w.heap.size w w' :=
  Head_bad0 s h20 _ _ _ _ _ (bt_lit s 0) (bt_lit s 1) (bt_lit s 8) (bv_range s 6 2).1 (bv_range s 6 2).2 (fun w => get_calls s 2 2 hz (by omega) (by omega) w) (fun w => get_calls s 6 2 hz (by omega) (by omega) w) hb w
set_option maxRecDepth 100000 in
set_option maxHeartbeats 3200000 in
theorem Head_sum0 (s : ByteArray) (h20 : 20 ≤ s.size) (hz : s.size ≤ 1048576) (b8 n f g c : Int)
    (x0 : ∀ h : 0 < s.size, ((s[0]'h).toNat : Int) = 69) (x1 : ∀ h : 1 < s.size, ((s[1]'h).toNat : Int) = 0) (x8 : ∀ h : 8 < s.size, ((s[8]'h).toNat : Int) = b8)
    (f0 : 0 ≤ f) (f1 : f < 32768) (n0 : 20 ≤ n) (d8 : (b8 == 0) = false) (dg : (g != c) = true)
    (G1 : Hid (∀ w, Calls Try.prog 48 #[.string s, .int .i64 2, .int .i64 2] w fun e w' => e = .returned (.int .i64 n) ∧ w = w'))
    (G2 : Hid (∀ w, Calls Try.prog 48 #[.string s, .int .i64 6, .int .i64 2] w fun e w' => e = .returned (.int .i64 f) ∧ w = w'))
    (G3 : Hid (∀ w, Calls Try.prog 48 #[.string s, .int .i64 10, .int .i64 2] w fun e w' => e = .returned (.int .i64 g) ∧ w = w'))
    (G4 : Hid (∀ w, Calls Try.prog 10 #[.string (s.extract 0 10 ++ (⟨#[0, 0]⟩ : ByteArray) ++ s.extract 12 20)] w fun e w' => e = .returned (.int .i64 c) ∧ Below w.heap.size w w')) (w : World) :
    Calls Try.prog 35 #[.string s] w fun e w' => e = .returned (.tuple #[zp, .int .i64 0, .int .i64 8]) ∧ Below w.heap.size w w' := by
  have i0 : (0 : Int) < (s.size : Int) := by omega
  have i1 : (1 : Int) < (s.size : Int) := by omega
  have i8 : (8 : Int) < (s.size : Int) := by omega
  have i10 : (10 : Int) ≤ (s.size : Int) := by omega
  have i20 : (20 : Int) ≤ (s.size : Int) := by omega
  have ha := and_32768 f f0 (by omega)
  have d3 : (f / 32768 * 32768 != 0) = false := by rw [bne_eq_false_iff_eq]; omega
  have q1 : (9223372036854775807 < min 10 s.size + 2) = False := eq_false (by omega)
  have q2 : (9223372036854775807 < min 10 s.size + 2 + 8) = False := eq_false (by omega)
  go_enter Try.func35, Try.ntmps35
  go_wp2_with fail
  refine (G1 _).mono ?_
  rintro e w1 ⟨rfl, rfl⟩
  go_wp2_with fail
  refine (G2 _).mono ?_
  rintro e w1 ⟨rfl, rfl⟩
  go_wp2_with fail
  go_region_held3 (fun w' => w'.heap[w.heap.size]? = some (.cells #[.int .u32 0, .int .u32 0, .int .i64 0, .int .i64 0, .int .i64 0, .int .i64 0, .bool false, .bool false, .string ⟨#[]⟩] 30 (0, 0)) ∧ Below w.heap.size w w')
      (first | exact ⟨blk_drew (blk_new w _), ((Below.refl _ _).alloc (Nat.le_refl _) _).drew⟩ | exact keepB (by assumption) (by assumption) | assumption)
      (first | (go_at_call 48; refine (G3 _).mono ?_; rintro e w' ⟨rfl, rfl⟩) | (go_at_call 10; refine (G4 _).mono ?_; rintro e w' ⟨rfl, hb⟩))
  all_goals
    obtain ⟨B1, Z1⟩ := ‹_ ∧ Below w.heap.size w _›
    have Z2 := Lib.hid Z1
    obtain ⟨c0, c1, c2, c3, c4, c5, c6, c7, c8, cf, cl⟩ := LwPktEncodes.cells9 B1
    clear B1 Z1
    go_wp2_with fail
    exact bodyPost_ret (v := .tuple #[zp, .int .i64 0, .int .i64 8]) (by simp [results, Try.results35, go_sem, zp, c0, c1, c2, c3, c4, c5, c6, c7, c8, cf]) rfl ⟨rfl, LwPktEncodes.below9 _ _ _ _ _ _ _ _ _ Z2 (Nat.le_refl _)⟩
set_option maxRecDepth 100000 in
set_option maxHeartbeats 6400000 in
theorem Head_ok0 (s : ByteArray) (h20 : 20 ≤ s.size) (hz : s.size ≤ 1048576) (b8 b9 n f g sv dv iv : Int) (m h : Bool)
    (x0 : ∀ h : 0 < s.size, ((s[0]'h).toNat : Int) = 69) (x1 : ∀ h : 1 < s.size, ((s[1]'h).toNat : Int) = 0) (x8 : ∀ h : 8 < s.size, ((s[8]'h).toNat : Int) = b8) (x9 : ∀ h : 9 < s.size, ((s[9]'h).toNat : Int) = b9)
    (r8 : 0 ≤ b8 ∧ b8 ≤ 255) (r9 : 0 ≤ b9 ∧ b9 ≤ 255)
    (f0 : 0 ≤ f) (f1 : f < 32768) (n0 : 20 ≤ n) (d8 : (b8 == 0) = false) (s0 : 0 ≤ sv) (s1 : sv < 4294967296) (d0 : 0 ≤ dv) (d1 : dv < 4294967296)
    (hm : (f / 8192 % 2 * 8192 != 0) = m) (hh : (f / 16384 * 16384 != 0) = h)
    (G1 : Hid (∀ w, Calls Try.prog 48 #[.string s, .int .i64 2, .int .i64 2] w fun e w' => e = .returned (.int .i64 n) ∧ w = w'))
    (G2 : Hid (∀ w, Calls Try.prog 48 #[.string s, .int .i64 6, .int .i64 2] w fun e w' => e = .returned (.int .i64 f) ∧ w = w'))
    (G3 : Hid (∀ w, Calls Try.prog 48 #[.string s, .int .i64 10, .int .i64 2] w fun e w' => e = .returned (.int .i64 g) ∧ w = w'))
    (G5 : Hid (∀ w, Calls Try.prog 48 #[.string s, .int .i64 12, .int .i64 4] w fun e w' => e = .returned (.int .i64 sv) ∧ w = w'))
    (G6 : Hid (∀ w, Calls Try.prog 48 #[.string s, .int .i64 16, .int .i64 4] w fun e w' => e = .returned (.int .i64 dv) ∧ w = w'))
    (G7 : Hid (∀ w, Calls Try.prog 48 #[.string s, .int .i64 4, .int .i64 2] w fun e w' => e = .returned (.int .i64 iv) ∧ w = w'))
    (G4 : Hid (∀ w, Calls Try.prog 10 #[.string (s.extract 0 10 ++ (⟨#[0, 0]⟩ : ByteArray) ++ s.extract 12 20)] w fun e w' => e = .returned (.int .i64 g) ∧ Below w.heap.size w w')) (w : World) :
    Calls Try.prog 35 #[.string s] w fun e w' => e = .returned (.tuple #[.agg #[.int .u32 sv, .int .u32 dv, .int .i64 b9, .int .i64 b8, .int .i64 iv, .int .i64 (f % 8192 * 8), .bool m, .bool h, .string ⟨#[]⟩], .int .i64 n, .int .i64 0]) ∧ Below w.heap.size w w' := by
  have i0 : (0 : Int) < (s.size : Int) := by omega
  have i1 : (1 : Int) < (s.size : Int) := by omega
  have i8 : (8 : Int) < (s.size : Int) := by omega
  have i9 : (9 : Int) < (s.size : Int) := by omega
  have i10 : (10 : Int) ≤ (s.size : Int) := by omega
  have i20 : (20 : Int) ≤ (s.size : Int) := by omega
  have ha := and_32768 f f0 (by omega)
  have d3 : (f / 32768 * 32768 != 0) = false := by rw [bne_eq_false_iff_eq]; omega
  have q1 : (9223372036854775807 < min 10 s.size + 2) = False := eq_false (by omega)
  have q2 : (9223372036854775807 < min 10 s.size + 2 + 8) = False := eq_false (by omega)
  have a1 := and_8191 f f0 f1
  have a2 := and_8192 f f0 f1
  have a3 := and_16384 f f0 f1
  have W1 : IntKind.u32.wrap sv = sv := by rw [IntKind.wrap_u32]; omega
  have W2 : IntKind.u32.wrap dv = dv := by rw [IntKind.wrap_u32]; omega
  have W3 : IntKind.i64.wrap b8 = b8 := by rw [IntKind.wrap_i64]; omega
  have W4 : IntKind.i64.wrap b9 = b9 := by rw [IntKind.wrap_i64]; omega
  have W5 : IntKind.i64.wrap (f % 8192 * 8) = f % 8192 * 8 := by rw [IntKind.wrap_i64]; omega
  go_enter Try.func35, Try.ntmps35
  go_wp2_with fail
  refine (G1 _).mono ?_
  rintro e w1 ⟨rfl, rfl⟩
  go_wp2_with fail
  refine (G2 _).mono ?_
  rintro e w1 ⟨rfl, rfl⟩
  go_wp2_with fail
  go_region_held3 (fun w' => w'.heap[w.heap.size]? = some (.cells #[.int .u32 0, .int .u32 0, .int .i64 0, .int .i64 0, .int .i64 0, .int .i64 0, .bool false, .bool false, .string ⟨#[]⟩] 30 (0, 0)) ∧ Below w.heap.size w w')
      (first | exact ⟨blk_drew (blk_new w _), ((Below.refl _ _).alloc (Nat.le_refl _) _).drew⟩ | exact keepB (by assumption) (by assumption) | assumption)
      (first | (go_at_call 48; refine (G3 _).mono ?_; rintro e w' ⟨rfl, rfl⟩) | (go_at_call 10; refine (G4 _).mono ?_; rintro e w' ⟨rfl, hb⟩))
  obtain ⟨B1, Z1⟩ := ‹_ ∧ Below w.heap.size w _›
  rename_i w2 hb2
  clear hb2
  have B2 := Lib.hid B1
  have Z2 := Lib.hid Z1
  clear B1 Z1
  go_wp2_with fail
  refine Rg.start (n := 26) (S := (fun w' => w'.heap[w.heap.size]? = some (.cells #[.int .u32 0, .int .u32 0, .int .i64 0, .int .i64 0, .int .i64 0, .int .i64 0, .bool false, .bool false, .string ⟨#[]⟩] 30 (0, 0)) ∧ Below w.heap.size w w')) #[false, false, false, false, false, false, false, false, false, false, false, false, false, false, false, false, false, false, false, false, false, false, false, false, false, false] (by kernel_rfl) rfl rfl (keepD1 B2 Z2) (fun hS => ?_)
  refine Rg.tk (i := 0) (N := (some 52)) (v := ?_) (a' := ?_) #[true, false, false, false, false, false, false, false, false, false, false, false, false, false, false, false, false, false, false, false, false, false, false, false, false, false] rfl rfl (by kernel_rfl) (fun _ _ _ h => h) (Or.inl ⟨by rfl, ?_⟩) hS ?_ ?_
  rotate_left
  · intro w' hS'
    go_simp
    with_reducible rfl
  rotate_left
  · simp only [Act.put, List.setIfInBounds_toArray, List.set_cons_zero, List.set_cons_succ, i64_w, i32_w]
    rfl
  refine Rg.tkF (i := 1) (N := (some 53)) (a' := ?_) (.int .i64 sv) #[true, true, false, false, false, false, false, false, false, false, false, false, false, false, false, false, false, false, false, false, false, false, false, false, false, false] rfl rfl (by kernel_rfl) (fun _ _ _ h => h) Try.func48 (by kernel_rfl) rfl #[.string s, .int .i64 12, .int .i64 4] (by rfl) rfl (by (try simp only [List.map_toArray, List.map_cons, List.map_nil]); first | done | rfl) (fun w _ => G5 w) hS ?_ ?_
  rotate_left
  · simp only [Act.put, List.setIfInBounds_toArray, List.set_cons_zero, List.set_cons_succ, i64_w, i32_w]
    rfl
  refine Rg.tk (i := 2) (N := (some 54)) (v := ?_) (a' := ?_) #[true, true, true, false, false, false, false, false, false, false, false, false, false, false, false, false, false, false, false, false, false, false, false, false, false, false] rfl rfl (by kernel_rfl) (fun _ _ _ h => h) (Or.inl ⟨by rfl, ?_⟩) hS ?_ ?_
  rotate_left
  · intro w' hS'
    go_simp
    with_reducible rfl
  rotate_left
  · simp only [Act.put, List.setIfInBounds_toArray, List.set_cons_zero, List.set_cons_succ, i64_w, i32_w]
    rfl
  refine Rg.tk (i := 3) (N := (some 55)) (v := ?_) (a' := ?_) #[true, true, true, true, false, false, false, false, false, false, false, false, false, false, false, false, false, false, false, false, false, false, false, false, false, false] rfl rfl (by kernel_rfl) (fun _ _ _ h => h) (Or.inl ⟨by rfl, ?_⟩) hS ?_ ?_
  rotate_left
  · intro w' hS'
    go_simp
    with_reducible rfl
  rotate_left
  · simp only [Act.put, List.setIfInBounds_toArray, List.set_cons_zero, List.set_cons_succ, i64_w, i32_w]
    rfl
  refine Rg.tkF (i := 4) (N := (some 56)) (a' := ?_) (.int .i64 dv) #[true, true, true, true, true, false, false, false, false, false, false, false, false, false, false, false, false, false, false, false, false, false, false, false, false, false] rfl rfl (by kernel_rfl) (fun _ _ _ h => h) Try.func48 (by kernel_rfl) rfl #[.string s, .int .i64 16, .int .i64 4] (by rfl) rfl (by (try simp only [List.map_toArray, List.map_cons, List.map_nil]); first | done | rfl) (fun w _ => G6 w) hS ?_ ?_
  rotate_left
  · simp only [Act.put, List.setIfInBounds_toArray, List.set_cons_zero, List.set_cons_succ, i64_w, i32_w]
    rfl
  refine Rg.tk (i := 5) (N := (some 57)) (v := ?_) (a' := ?_) #[true, true, true, true, true, true, false, false, false, false, false, false, false, false, false, false, false, false, false, false, false, false, false, false, false, false] rfl rfl (by kernel_rfl) (fun _ _ _ h => h) (Or.inl ⟨by rfl, ?_⟩) hS ?_ ?_
  rotate_left
  · intro w' hS'
    go_simp
    with_reducible rfl
  rotate_left
  · simp only [Act.put, List.setIfInBounds_toArray, List.set_cons_zero, List.set_cons_succ, i64_w, i32_w]
    rfl
  refine Rg.tk (i := 6) (N := (some 58)) (v := ?_) (a' := ?_) #[true, true, true, true, true, true, true, false, false, false, false, false, false, false, false, false, false, false, false, false, false, false, false, false, false, false] rfl rfl (by kernel_rfl) (fun _ _ _ h => h) (Or.inl ⟨by rfl, ?_⟩) hS ?_ ?_
  rotate_left
  · intro w' hS'
    go_simp
    with_reducible rfl
  rotate_left
  · simp only [Act.put, List.setIfInBounds_toArray, List.set_cons_zero, List.set_cons_succ, i64_w, i32_w]
    rfl
  refine Rg.tk (i := 7) (N := (some 59)) (v := ?_) (a' := ?_) #[true, true, true, true, true, true, true, true, false, false, false, false, false, false, false, false, false, false, false, false, false, false, false, false, false, false] rfl rfl (by kernel_rfl) (fun _ _ _ h => h) (Or.inl ⟨by rfl, ?_⟩) hS ?_ ?_
  rotate_left
  · intro w' hS'
    go_simp
    with_reducible rfl
  rotate_left
  · simp only [Act.put, List.setIfInBounds_toArray, List.set_cons_zero, List.set_cons_succ, i64_w, i32_w]
    rfl
  refine Rg.tk (i := 8) (N := (some 60)) (v := ?_) (a' := ?_) #[true, true, true, true, true, true, true, true, true, false, false, false, false, false, false, false, false, false, false, false, false, false, false, false, false, false] rfl rfl (by kernel_rfl) (fun _ _ _ h => h) (Or.inl ⟨by rfl, ?_⟩) hS ?_ ?_
  rotate_left
  · intro w' hS'
    go_simp
    with_reducible rfl
  rotate_left
  · simp only [Act.put, List.setIfInBounds_toArray, List.set_cons_zero, List.set_cons_succ, i64_w, i32_w]
    rfl
  refine Rg.tk (i := 9) (N := (some 61)) (v := ?_) (a' := ?_) #[true, true, true, true, true, true, true, true, true, true, false, false, false, false, false, false, false, false, false, false, false, false, false, false, false, false] rfl rfl (by kernel_rfl) (fun _ _ _ h => h) (Or.inl ⟨by rfl, ?_⟩) hS ?_ ?_
  rotate_left
  · intro w' hS'
    go_simp
    with_reducible rfl
  rotate_left
  · simp only [Act.put, List.setIfInBounds_toArray, List.set_cons_zero, List.set_cons_succ, i64_w, i32_w]
    rfl
  refine Rg.tk (i := 10) (N := (some 62)) (v := ?_) (a' := ?_) #[true, true, true, true, true, true, true, true, true, true, true, false, false, false, false, false, false, false, false, false, false, false, false, false, false, false] rfl rfl (by kernel_rfl) (fun _ _ _ h => h) (Or.inl ⟨by rfl, ?_⟩) hS ?_ ?_
  rotate_left
  · intro w' hS'
    go_simp
    with_reducible rfl
  rotate_left
  · simp only [Act.put, List.setIfInBounds_toArray, List.set_cons_zero, List.set_cons_succ, i64_w, i32_w]
    rfl
  refine Rg.tk (i := 11) (N := (some 63)) (v := ?_) (a' := ?_) #[true, true, true, true, true, true, true, true, true, true, true, true, false, false, false, false, false, false, false, false, false, false, false, false, false, false] rfl rfl (by kernel_rfl) (fun _ _ _ h => h) (Or.inl ⟨by rfl, ?_⟩) hS ?_ ?_
  rotate_left
  · intro w' hS'
    go_simp
    with_reducible rfl
  rotate_left
  · simp only [Act.put, List.setIfInBounds_toArray, List.set_cons_zero, List.set_cons_succ, i64_w, i32_w]
    rfl
  refine Rg.tk (i := 12) (N := (some 64)) (v := ?_) (a' := ?_) #[true, true, true, true, true, true, true, true, true, true, true, true, true, false, false, false, false, false, false, false, false, false, false, false, false, false] rfl rfl (by kernel_rfl) (fun _ _ _ h => h) (Or.inl ⟨by rfl, ?_⟩) hS ?_ ?_
  rotate_left
  · intro w' hS'
    go_simp
    with_reducible rfl
  rotate_left
  · simp only [Act.put, List.setIfInBounds_toArray, List.set_cons_zero, List.set_cons_succ, i64_w, i32_w]
    rfl
  refine Rg.tkF (i := 13) (N := (some 65)) (a' := ?_) (.int .i64 iv) #[true, true, true, true, true, true, true, true, true, true, true, true, true, true, false, false, false, false, false, false, false, false, false, false, false, false] rfl rfl (by kernel_rfl) (fun _ _ _ h => h) Try.func48 (by kernel_rfl) rfl #[.string s, .int .i64 4, .int .i64 2] (by rfl) rfl (by (try simp only [List.map_toArray, List.map_cons, List.map_nil]); first | done | rfl) (fun w _ => G7 w) hS ?_ ?_
  rotate_left
  · simp only [Act.put, List.setIfInBounds_toArray, List.set_cons_zero, List.set_cons_succ, i64_w, i32_w]
    rfl
  refine Rg.tk (i := 14) (N := (some 66)) (v := ?_) (a' := ?_) #[true, true, true, true, true, true, true, true, true, true, true, true, true, true, true, false, false, false, false, false, false, false, false, false, false, false] rfl rfl (by kernel_rfl) (fun _ _ _ h => h) (Or.inl ⟨by rfl, ?_⟩) hS ?_ ?_
  rotate_left
  · intro w' hS'
    go_simp
    with_reducible rfl
  rotate_left
  · simp only [Act.put, List.setIfInBounds_toArray, List.set_cons_zero, List.set_cons_succ, i64_w, i32_w]
    rfl
  refine Rg.tk (i := 15) (N := (some 67)) (v := ?_) (a' := ?_) #[true, true, true, true, true, true, true, true, true, true, true, true, true, true, true, true, false, false, false, false, false, false, false, false, false, false] rfl rfl (by kernel_rfl) (fun _ _ _ h => h) (Or.inl ⟨by rfl, ?_⟩) hS ?_ ?_
  rotate_left
  · intro w' hS'
    go_simp
    with_reducible rfl
  rotate_left
  · simp only [Act.put, List.setIfInBounds_toArray, List.set_cons_zero, List.set_cons_succ, i64_w, i32_w]
    rfl
  refine Rg.tk (i := 16) (N := (some 68)) (v := ?_) (a' := ?_) #[true, true, true, true, true, true, true, true, true, true, true, true, true, true, true, true, true, false, false, false, false, false, false, false, false, false] rfl rfl (by kernel_rfl) (fun _ _ _ h => h) (Or.inl ⟨by rfl, ?_⟩) hS ?_ ?_
  rotate_left
  · intro w' hS'
    go_simp
    with_reducible rfl
  rotate_left
  · simp only [Act.put, List.setIfInBounds_toArray, List.set_cons_zero, List.set_cons_succ, i64_w, i32_w]
    rfl
  refine Rg.tk (i := 17) (N := (some 69)) (v := ?_) (a' := ?_) #[true, true, true, true, true, true, true, true, true, true, true, true, true, true, true, true, true, true, false, false, false, false, false, false, false, false] rfl rfl (by kernel_rfl) (fun _ _ _ h => h) (Or.inl ⟨by rfl, ?_⟩) hS ?_ ?_
  rotate_left
  · intro w' hS'
    go_simp
    with_reducible rfl
  rotate_left
  · simp only [Act.put, List.setIfInBounds_toArray, List.set_cons_zero, List.set_cons_succ, i64_w, i32_w]
    rfl
  refine Rg.tk (i := 18) (N := (some 70)) (v := ?_) (a' := ?_) #[true, true, true, true, true, true, true, true, true, true, true, true, true, true, true, true, true, true, true, false, false, false, false, false, false, false] rfl rfl (by kernel_rfl) (fun _ _ _ h => h) (Or.inl ⟨by rfl, ?_⟩) hS ?_ ?_
  rotate_left
  · intro w' hS'
    go_simp
    with_reducible rfl
  rotate_left
  · simp only [Act.put, List.setIfInBounds_toArray, List.set_cons_zero, List.set_cons_succ, i64_w, i32_w]
    rfl
  refine Rg.tk (i := 19) (N := (some 71)) (v := ?_) (a' := ?_) #[true, true, true, true, true, true, true, true, true, true, true, true, true, true, true, true, true, true, true, true, false, false, false, false, false, false] rfl rfl (by kernel_rfl) (fun _ _ _ h => h) (Or.inl ⟨by rfl, ?_⟩) hS ?_ ?_
  rotate_left
  · intro w' hS'
    go_simp
    with_reducible rfl
  rotate_left
  · simp only [Act.put, List.setIfInBounds_toArray, List.set_cons_zero, List.set_cons_succ, i64_w, i32_w]
    rfl
  refine Rg.tk (i := 20) (N := (some 72)) (v := ?_) (a' := ?_) #[true, true, true, true, true, true, true, true, true, true, true, true, true, true, true, true, true, true, true, true, true, false, false, false, false, false] rfl rfl (by kernel_rfl) (fun _ _ _ h => h) (Or.inl ⟨by rfl, ?_⟩) hS ?_ ?_
  rotate_left
  · intro w' hS'
    go_simp
    with_reducible rfl
  rotate_left
  · simp only [Act.put, List.setIfInBounds_toArray, List.set_cons_zero, List.set_cons_succ, i64_w, i32_w]
    rfl
  refine Rg.tk (i := 21) (N := (some 73)) (v := ?_) (a' := ?_) #[true, true, true, true, true, true, true, true, true, true, true, true, true, true, true, true, true, true, true, true, true, true, false, false, false, false] rfl rfl (by kernel_rfl) (fun _ _ _ h => h) (Or.inl ⟨by rfl, ?_⟩) hS ?_ ?_
  rotate_left
  · intro w' hS'
    go_simp
    with_reducible rfl
  rotate_left
  · simp only [Act.put, List.setIfInBounds_toArray, List.set_cons_zero, List.set_cons_succ, i64_w, i32_w]
    rfl
  refine Rg.tk (i := 22) (N := (some 74)) (v := ?_) (a' := ?_) #[true, true, true, true, true, true, true, true, true, true, true, true, true, true, true, true, true, true, true, true, true, true, true, false, false, false] rfl rfl (by kernel_rfl) (fun _ _ _ h => h) (Or.inl ⟨by rfl, ?_⟩) hS ?_ ?_
  rotate_left
  · intro w' hS'
    go_simp
    with_reducible rfl
  rotate_left
  · simp only [Act.put, List.setIfInBounds_toArray, List.set_cons_zero, List.set_cons_succ, i64_w, i32_w]
    rfl
  refine Rg.tk (i := 23) (N := (some 75)) (v := ?_) (a' := ?_) #[true, true, true, true, true, true, true, true, true, true, true, true, true, true, true, true, true, true, true, true, true, true, true, true, false, false] rfl rfl (by kernel_rfl) (fun _ _ _ h => h) (Or.inl ⟨by rfl, ?_⟩) hS ?_ ?_
  rotate_left
  · intro w' hS'
    go_simp
    with_reducible rfl
  rotate_left
  · simp only [Act.put, List.setIfInBounds_toArray, List.set_cons_zero, List.set_cons_succ, i64_w, i32_w]
    rfl
  refine Rg.go1 (i := 24) (N := (some 7)) #[true, true, true, true, true, true, true, true, true, true, true, true, true, true, true, true, true, true, true, true, true, true, true, true, true, false] rfl rfl (by kernel_rfl) (fun K hK => ?_)
  go_simp
  refine hK.out _ _ (keepD2 B2 Z2 _) (fun hS => ?_)
  clear hK K
  refine Rg.go1 (i := 25) (N := none) #[true, true, true, true, true, true, true, true, true, true, true, true, true, true, true, true, true, true, true, true, true, true, true, true, true, true] rfl rfl (by kernel_rfl) (fun K hK => ?_)
  go_simp
  refine hK.out _ _ (keepD2 B2 Z2 _) (fun hS => ?_)
  clear hK K
  refine Rg.fin (by kernel_rfl) ?_
  have Q3 := Lib.hid (blk_drew (blk_new w' (.cells #[.int .u32 sv, .int .u32 dv, .int .i64 b9, .int .i64 b8, .int .i64 iv, .int .i64 (f % 8192 * 8), .bool m, .bool h, .string ⟨#[]⟩] 30)))
  obtain ⟨B3, Z3⟩ := hS
  have ne : Hid (w.heap.size ≠ w'.heap.size) := by
    have := blk_lt B2
    show _ ≠ _
    omega
  clear B2 Z2
  generalize (w'.alloc (.cells #[.int .u32 sv, .int .u32 dv, .int .i64 b9, .int .i64 b8, .int .i64 iv, .int .i64 (f % 8192 * 8), .bool m, .bool h, .string ⟨#[]⟩] 30)).drew = W at Q3 B3 Z3 ⊢
  generalize w'.heap.size = q at Q3 ne ⊢
  have B4 := Lib.hid B3
  have Z4 := Lib.hid Z3
  clear B3 Z3
  obtain ⟨c0, c1, c2, c3, c4, c5, c6, c7, c8, cf, cl⟩ := LwPktEncodes.cells9 B4
  obtain ⟨q0, q1', q2', q3, q4, q5, q6, q7, q8, qf, ql⟩ := LwPktEncodes.cells9 Q3
  have n1 : (q = w.heap.size) = False := eq_false (Ne.symm ne)
  have n2 : (w.heap.size = q) = False := eq_false ne
  go_wp2_with fail
  exact bodyPost_ret (v := .tuple #[.agg #[.int .u32 sv, .int .u32 dv, .int .i64 b9, .int .i64 b8, .int .i64 iv, .int .i64 (f % 8192 * 8), .bool m, .bool h, .string ⟨#[]⟩], .int .i64 n, .int .i64 0]) (by simp [results, Try.results35, go_sem, c0, c1, c2, c3, c4, c5, c6, c7, c8, cf]) rfl ⟨rfl, LwPktEncodes.below9 _ _ _ _ _ _ _ _ _ Z4 (Nat.le_refl _)⟩
end Go.Proofs.Ythpohaafphaidaa.He
