/- What Decode and PacketRead tell of a string; Head and HeadRead tell the same. -/
import Derived.Test.YthpohaafphaidaaQHr
namespace Go.Proofs.Ythpohaafphaidaa.De
open Go.RowKit Go.Proofs.YthpohaafphaidaaW.PrintWords Go.Proofs.YthpohaafphaidaaW.PrintLast Go.Proofs.Ythpohaafphaidaa.Pl Go.Proofs.Ythpohaafphaidaa.Gt Go.Proofs.Ythpohaafphaidaa.SmPktEncodes Go.Proofs.Ythpohaafphaidaa.CkPktEncodes Go.Proofs.Ythpohaafphaidaa.LwPktSums Go.Proofs.Ythpohaafphaidaa.He Go.Proofs.Ythpohaafphaidaa.Hr Go.Proofs.Ythpohaafphaidaa.En
set_option linter.unusedVariables false
set_option linter.unusedSimpArgs false
theorem head2 (s : ByteArray) (h : 2 ≤ s.size) : ((s.extract 0 2).toList == [69, 0]) = (decide (bt s 0 = 69) && decide (bt s 1 = 0)) := by
  have e0 := bt_lit s 0 (by omega)
  have e1 := bt_lit s 1 (by omega)
  have x0 : bt s 0 = (s[0].toNat : Int) := e0.symm
  have x1 : bt s 1 = (s[1].toNat : Int) := e1.symm
  have hl : (s.extract 0 2).toList = [s[0], s[1]] := by
    rw [ByteArray.toList_eq]
    apply List.ext_getElem
    · simp; omega
    · intro i h1 h2
      have hi : i < 2 := by simpa using h2
      match i, hi with
      | 0, _ => simp; rfl
      | 1, _ => simp; rfl
  rw [hl, x0, x1]
  have u : ∀ (x : UInt8) (k : UInt8), (x == k) = decide ((x.toNat : Int) = (k.toNat : Int)) := by
    intro x k
    rw [Bool.eq_iff_iff]
    simp only [beq_iff_eq, decide_eq_true_eq]
    constructor
    · intro h; rw [h]
    · intro h; exact UInt8.toNat.inj (by omega)
  simp only [List.cons_beq_cons, u]
  simp
/-- Head and HeadRead tell the same. -/
theorem heads (s : ByteArray) (hz : s.size ≤ 1048576) : ∃ (a0 a1 a2 a3 a4 a5 : Int) (m h : Bool) (n e : Int), (e = 0 → 20 ≤ s.size) ∧
    (∀ w, Calls Try.prog 35 #[.string s] w fun x w' => x = .returned (.tuple #[.agg #[.int .u32 a0, .int .u32 a1, .int .i64 a2, .int .i64 a3, .int .i64 a4, .int .i64 a5, .bool m, .bool h, .string ⟨#[]⟩], .int .i64 n, .int .i64 e]) ∧ Below w.heap.size w w') ∧
    (∀ w, Calls Try.prog 36 #[.string s] w fun x w' => x = .returned (.tuple #[.agg #[.int .u32 a0, .int .u32 a1, .int .i64 a2, .int .i64 a3, .int .i64 a4, .int .i64 a5, .bool m, .bool h, .string ⟨#[]⟩], .int .i64 n, .int .i64 e]) ∧ Below w.heap.size w w') := by
  by_cases h20 : s.size < 20
  · exact ⟨0, 0, 0, 0, 0, 0, false, false, 0, 9, fun h => by omega, Head_short s h20, HeadRead_short s h20⟩
  · have h20 : 20 ≤ s.size := by omega
    have rn := bv_range s 2 2
    have rf := bv_range s 6 2
    have r8 := bt_range s 8
    have r9 := bt_range s 9
    have V1 := fun w => Val_calls s 2 4 2 rfl (by omega) (by omega) w
    have V2 := fun w => Val_calls s 6 8 2 rfl (by omega) (by omega) w
    have V3 := fun w => Val_calls s 10 12 2 rfl (by omega) (by omega) w
    have V4 : ∀ w, Calls Try.prog 11 #[.string (s.extract 0 10 ++ (⟨#[0, 0]⟩ : ByteArray) ++ s.extract 12 20)] w fun e w' => e = .returned (.int .i64 (ck (ps (hs s) 20))) ∧ Below w.heap.size w w' := fun w => Tt.SumOf20 (hs s) (hs_size s h20) w
    have V5 := fun w => Val_calls s 12 16 4 rfl (by omega) (by omega) w
    have V6 := fun w => Val_calls s 16 20 4 rfl (by omega) (by omega) w
    have V7 := fun w => Val_calls s 4 6 2 rfl (by omega) (by omega) w
    have b9 : bv s 9 1 = bt s 9 := by simp [bv]
    have b8 : bv s 8 1 = bt s 8 := by simp [bv]
    have V8 := fun w => Val_calls s 9 10 1 rfl (by omega) (by omega) w
    have V9 := fun w => Val_calls s 8 9 1 rfl (by omega) (by omega) w
    rw [b9] at V8
    rw [b8] at V9
    by_cases hb : bad s
    · refine ⟨0, 0, 0, 0, 0, 0, false, false, 0, 3, fun h => by omega, Head_bad s h20 hz hb, fun w => HeadRead_bad0 s h20 (bt s 8) _ _ _ rfl (bt_lit s 8) rf.1 rf.2 V1 V2 ?_ w⟩
      rw [head2 s (by omega)]
      unfold bad at hb
      rcases hb with h | h | h | h | h
      · exact .inl (by simp [h])
      · exact .inl (by simp [h])
      · exact .inr (.inl h)
      · exact .inr (.inr (.inl h))
      · exact .inr (.inr (.inr h))
    · have hb2 := hb
      unfold bad at hb
      have x0 : bt s 0 = 69 := by omega
      have x1 : bt s 1 = 0 := by omega
      have n0 : 20 ≤ bv s 2 2 := by omega
      have f1 : bv s 6 2 < 32768 := by omega
      have d8 : (bt s 8 == 0) = false := by rw [beq_eq_false_iff_ne]; omega
      have ht : ((s.extract 0 2).toList == [69, 0]) = true := by rw [head2 s (by omega)]; simp [x0, x1]
      have y0 : ∀ h : 0 < s.size, ((s[0]'h).toNat : Int) = 69 := fun h => (bt_lit s 0 h).trans x0
      have y1 : ∀ h : 1 < s.size, ((s[1]'h).toNat : Int) = 0 := fun h => (bt_lit s 1 h).trans x1
      have K1 := fun w => get_calls s 2 2 hz (by omega) (by omega) w
      have K2 := fun w => get_calls s 6 2 hz (by omega) (by omega) w
      have K3 := fun w => get_calls s 10 2 hz (by omega) (by omega) w
      have K5 := fun w => get_calls s 12 4 hz (by omega) (by omega) w
      have K6 := fun w => get_calls s 16 4 hz (by omega) (by omega) w
      have K7 := fun w => get_calls s 4 2 hz (by omega) (by omega) w
      have K4 : ∀ w, Calls Try.prog 10 #[.string (s.extract 0 10 ++ (⟨#[0, 0]⟩ : ByteArray) ++ s.extract 12 20)] w fun e w' => e = .returned (.int .i64 (ck (ps (hs s) 20))) ∧ Below w.heap.size w w' := fun w => SumH_calls s h20 w
      by_cases hc : bv s 10 2 = ck (ps (hs s) 20)
      · rw [← hc] at K4 V4
        have r5 := bv_range s 12 4
        have r6 := bv_range s 16 4
        have em : (bv s 6 2 / 8192 % 2 * 8192 != 0) = decide (8192 ≤ bv s 6 2 % 16384) := by
          rw [Bool.eq_iff_iff]; simp only [bne_iff_ne, ne_eq, decide_eq_true_eq]; omega
        have eh : (bv s 6 2 / 16384 * 16384 != 0) = decide (16384 ≤ bv s 6 2) := by
          rw [Bool.eq_iff_iff]; simp only [bne_iff_ne, ne_eq, decide_eq_true_eq]; omega
        exact ⟨bv s 12 4, bv s 16 4, bt s 9, bt s 8, bv s 4 2, bv s 6 2 % 8192 * 8, _, _, bv s 2 2, 0, fun _ => h20,
          fun w => Head_ok0 s h20 hz (bt s 8) (bt s 9) _ _ _ _ _ _ _ _ y0 y1 (bt_lit s 8) (bt_lit s 9) r8 r9 rf.1 f1 n0 d8 r5.1 r5.2 r6.1 r6.2 em eh K1 K2 K3 K5 K6 K7 K4 w,
          fun w => HeadRead_ok0 s h20 hz (bt s 8) (bt s 9) _ _ _ _ _ _ _ _ ht (bt_lit s 8) rf.1 f1 n0 d8 r5.1 r5.2 r6.1 r6.2 rfl rfl V1 V2 V3 V5 V6 V7 V8 V9 V4 w⟩
      · have dg : (bv s 10 2 != ck (ps (hs s) 20)) = true := by rw [bne_iff_ne]; exact hc
        exact ⟨0, 0, 0, 0, 0, 0, false, false, 0, 8, fun h => by omega,
          fun w => Head_sum0 s h20 hz (bt s 8) _ _ _ _ y0 y1 (bt_lit s 8) rf.1 f1 n0 d8 dg K1 K2 K3 K4 w,
          fun w => HeadRead_sum0 s h20 hz (bt s 8) _ _ _ _ ht (bt_lit s 8) rf.1 f1 n0 d8 dg V1 V2 V3 V4 w⟩
set_option maxRecDepth 100000 in
set_option maxHeartbeats 1600000 in
theorem Decode_err (s : ByteArray) (hz : s.size ≤ 1048576) (a0 a1 a2 a3 a4 a5 : Int) (m h : Bool) (n e : Int) (G : Hid (∀ w, Calls Try.prog 35 #[.string s] w fun x w' => x = .returned (.tuple #[.agg #[.int .u32 a0, .int .u32 a1, .int .i64 a2, .int .i64 a3, .int .i64 a4, .int .i64 a5, .bool m, .bool h, .string ⟨#[]⟩], .int .i64 n, .int .i64 e]) ∧ Below w.heap.size w w')) (k0 : (e == 0) = false) (k0' : (e != 0) = true) (w : World) :
    Calls Try.prog 37 #[.string s] w fun x w' => x = .returned (.tuple #[zp, .int .i64 e]) ∧ Below w.heap.size w w' := by
  go_enter Try.func37, Try.ntmps37
  go_wp2_with fail
  refine (G _).mono ?_
  rintro x w1 ⟨rfl, hb1⟩
  have B1 := Lib.hid (blk_below (blk_new w _) hb1)
  have Z1 := Lib.hid (below_step (below_alloc (Below.refl _ _) _) hb1)
  clear hb1
  obtain ⟨c0, c1, c2, c3, c4, c5, c6, c7, c8, cf, cl⟩ := LwPktEncodes.cells9 B1
  go_wp2_with fail
  have B9 := blk_alloc (LwPktEncodes.put9 (.int .u32 0) (.int .u32 0) (.int .i64 0) (.int .i64 0) (.int .i64 0) (.int .i64 0) (.bool false) (.bool false) (.string ⟨#[]⟩) B1) (.cells #[.int .u32 a0, .int .u32 a1, .int .i64 a2, .int .i64 a3, .int .i64 a4, .int .i64 a5, .bool m, .bool h, .string ⟨#[]⟩] 30)
  have Z9 := below_alloc (LwPktEncodes.below9 (.int .u32 0) (.int .u32 0) (.int .i64 0) (.int .i64 0) (.int .i64 0) (.int .i64 0) (.bool false) (.bool false) (.string ⟨#[]⟩) Z1 (Nat.le_refl w.heap.size)) (.cells #[.int .u32 a0, .int .u32 a1, .int .i64 a2, .int .i64 a3, .int .i64 a4, .int .i64 a5, .bool m, .bool h, .string ⟨#[]⟩] 30)
  obtain ⟨d0, d1, d2, d3, d4, d5, d6, d7, d8, df, dl⟩ := LwPktEncodes.cells9 B9
  exact bodyPost_ret (v := .tuple #[zp, .int .i64 e]) (by simp only [results, Try.results37]; simp [go_sem, zp, d0, d1, d2, d3, d4, d5, d6, d7, d8]) rfl ⟨rfl, Z9⟩
set_option maxRecDepth 100000 in
set_option maxHeartbeats 1600000 in
theorem Decode_less (s : ByteArray) (hz : s.size ≤ 1048576) (a0 a1 a2 a3 a4 a5 : Int) (m h : Bool) (n : Int) (G : Hid (∀ w, Calls Try.prog 35 #[.string s] w fun x w' => x = .returned (.tuple #[.agg #[.int .u32 a0, .int .u32 a1, .int .i64 a2, .int .i64 a3, .int .i64 a4, .int .i64 a5, .bool m, .bool h, .string ⟨#[]⟩], .int .i64 n, .int .i64 0]) ∧ Below w.heap.size w w')) (hl : (s.size : Int) < n) (w : World) :
    Calls Try.prog 37 #[.string s] w fun x w' => x = .returned (.tuple #[zp, .int .i64 9]) ∧ Below w.heap.size w w' := by
  go_enter Try.func37, Try.ntmps37
  go_wp2_with fail
  refine (G _).mono ?_
  rintro x w1 ⟨rfl, hb1⟩
  have B1 := Lib.hid (blk_below (blk_new w _) hb1)
  have Z1 := Lib.hid (below_step (below_alloc (Below.refl _ _) _) hb1)
  clear hb1
  obtain ⟨c0, c1, c2, c3, c4, c5, c6, c7, c8, cf, cl⟩ := LwPktEncodes.cells9 B1
  go_wp2_with fail
  have B9 := blk_alloc (LwPktEncodes.put9 (.int .u32 0) (.int .u32 0) (.int .i64 0) (.int .i64 0) (.int .i64 0) (.int .i64 0) (.bool false) (.bool false) (.string ⟨#[]⟩) B1) (.cells #[.int .u32 a0, .int .u32 a1, .int .i64 a2, .int .i64 a3, .int .i64 a4, .int .i64 a5, .bool m, .bool h, .string ⟨#[]⟩] 30)
  have Z9 := below_alloc (LwPktEncodes.below9 (.int .u32 0) (.int .u32 0) (.int .i64 0) (.int .i64 0) (.int .i64 0) (.int .i64 0) (.bool false) (.bool false) (.string ⟨#[]⟩) Z1 (Nat.le_refl w.heap.size)) (.cells #[.int .u32 a0, .int .u32 a1, .int .i64 a2, .int .i64 a3, .int .i64 a4, .int .i64 a5, .bool m, .bool h, .string ⟨#[]⟩] 30)
  obtain ⟨d0, d1, d2, d3, d4, d5, d6, d7, d8, df, dl⟩ := LwPktEncodes.cells9 B9
  exact bodyPost_ret (v := .tuple #[zp, .int .i64 9]) (by simp only [results, Try.results37]; simp [go_sem, zp, d0, d1, d2, d3, d4, d5, d6, d7, d8]) rfl ⟨rfl, Z9⟩
set_option maxRecDepth 100000 in
set_option maxHeartbeats 1600000 in
theorem Decode_more (s : ByteArray) (hz : s.size ≤ 1048576) (a0 a1 a2 a3 a4 a5 : Int) (m h : Bool) (n : Int) (G : Hid (∀ w, Calls Try.prog 35 #[.string s] w fun x w' => x = .returned (.tuple #[.agg #[.int .u32 a0, .int .u32 a1, .int .i64 a2, .int .i64 a3, .int .i64 a4, .int .i64 a5, .bool m, .bool h, .string ⟨#[]⟩], .int .i64 n, .int .i64 0]) ∧ Below w.heap.size w w')) (hl : n < (s.size : Int)) (w : World) :
    Calls Try.prog 37 #[.string s] w fun x w' => x = .returned (.tuple #[zp, .int .i64 3]) ∧ Below w.heap.size w w' := by
  go_enter Try.func37, Try.ntmps37
  go_wp2_with fail
  refine (G _).mono ?_
  rintro x w1 ⟨rfl, hb1⟩
  have B1 := Lib.hid (blk_below (blk_new w _) hb1)
  have Z1 := Lib.hid (below_step (below_alloc (Below.refl _ _) _) hb1)
  clear hb1
  obtain ⟨c0, c1, c2, c3, c4, c5, c6, c7, c8, cf, cl⟩ := LwPktEncodes.cells9 B1
  go_wp2_with fail
  have B9 := blk_alloc (LwPktEncodes.put9 (.int .u32 0) (.int .u32 0) (.int .i64 0) (.int .i64 0) (.int .i64 0) (.int .i64 0) (.bool false) (.bool false) (.string ⟨#[]⟩) B1) (.cells #[.int .u32 a0, .int .u32 a1, .int .i64 a2, .int .i64 a3, .int .i64 a4, .int .i64 a5, .bool m, .bool h, .string ⟨#[]⟩] 30)
  have Z9 := below_alloc (LwPktEncodes.below9 (.int .u32 0) (.int .u32 0) (.int .i64 0) (.int .i64 0) (.int .i64 0) (.int .i64 0) (.bool false) (.bool false) (.string ⟨#[]⟩) Z1 (Nat.le_refl w.heap.size)) (.cells #[.int .u32 a0, .int .u32 a1, .int .i64 a2, .int .i64 a3, .int .i64 a4, .int .i64 a5, .bool m, .bool h, .string ⟨#[]⟩] 30)
  obtain ⟨d0, d1, d2, d3, d4, d5, d6, d7, d8, df, dl⟩ := LwPktEncodes.cells9 B9
  exact bodyPost_ret (v := .tuple #[zp, .int .i64 3]) (by simp only [results, Try.results37]; simp [go_sem, zp, d0, d1, d2, d3, d4, d5, d6, d7, d8]) rfl ⟨rfl, Z9⟩
set_option maxRecDepth 100000 in
set_option maxHeartbeats 1600000 in
theorem Decode_no (s : ByteArray) (hz : s.size ≤ 1048576) (h20 : 20 ≤ s.size) (a0 a1 a2 a3 a4 a5 : Int) (m h : Bool) (G : Hid (∀ w, Calls Try.prog 35 #[.string s] w fun x w' => x = .returned (.tuple #[.agg #[.int .u32 a0, .int .u32 a1, .int .i64 a2, .int .i64 a3, .int .i64 a4, .int .i64 a5, .bool m, .bool h, .string ⟨#[]⟩], .int .i64 s.size, .int .i64 0]) ∧ Below w.heap.size w w')) (b : ByteArray) (hb : Hid (s.extract 20 s.size = b)) (hbz : b.size ≤ 1048576) (F : Int) (hF : Hid (pf a2 a3 a4 a5 m h b.size = F)) (k0 : (F == 0) = false) (k0' : (F != 0) = true) (w : World) :
    Calls Try.prog 37 #[.string s] w fun x w' => x = .returned (.tuple #[zp, .int .i64 F]) ∧ Below w.heap.size w w' := by
  have i20 : (20 : Int) ≤ (s.size : Int) := by omega
  go_enter Try.func37, Try.ntmps37
  go_wp2_with fail
  refine (G _).mono ?_
  rintro x w1 ⟨rfl, hb1⟩
  have B1 := Lib.hid (blk_below (blk_new w _) hb1)
  have Z1 := Lib.hid (below_step (below_alloc (Below.refl _ _) _) hb1)
  clear hb1
  obtain ⟨c0, c1, c2, c3, c4, c5, c6, c7, c8, cf, cl⟩ := LwPktEncodes.cells9 B1
  go_wp2_with fail
  rw [show s.extract 20 s.size = b from hb]
  have B2 := Lib.hid (blk_alloc B1 (.cells #[.int .u32 a0, .int .u32 a1, .int .i64 a2, .int .i64 a3, .int .i64 a4, .int .i64 a5, .bool m, .bool h, .string b] 30))
  have Q2 := Lib.hid (blk_new w1 (.cells #[.int .u32 a0, .int .u32 a1, .int .i64 a2, .int .i64 a3, .int .i64 a4, .int .i64 a5, .bool m, .bool h, .string b] 30))
  have Z2 := Lib.hid (below_alloc Z1 (.cells #[.int .u32 a0, .int .u32 a1, .int .i64 a2, .int .i64 a3, .int .i64 a4, .int .i64 a5, .bool m, .bool h, .string b] 30))
  have ne : Hid (w.heap.size ≠ w1.heap.size) := by have := cl; show _ ≠ _; omega
  clear B1 Z1 c0 c1 c2 c3 c4 c5 c6 c7 c8 cf cl
  generalize w1.heap.size = q at Q2 ne ⊢
  refine (Check_calls a0 a1 a2 a3 a4 a5 m h b hbz F hF _).mono ?_
  rintro x w3 ⟨rfl, hb3⟩
  have B3 := Lib.hid (blk_below B2 hb3)
  have Q3 := Lib.hid (blk_below Q2 hb3)
  have Z3 := Lib.hid (below_step Z2 hb3)
  clear hb3 B2 Q2 Z2
  obtain ⟨c0, c1, c2, c3, c4, c5, c6, c7, c8, cf, cl⟩ := LwPktEncodes.cells9 B3
  obtain ⟨q0, q1, q2, q3, q4, q5, q6, q7, q8, qf, ql⟩ := LwPktEncodes.cells9 Q3
  have n1 : (q = w.heap.size) = False := eq_false (Ne.symm ne)
  have n2 : (w.heap.size = q) = False := eq_false ne
  go_wp2_with fail
  have B9 := LwPktEncodes.put9 (.int .u32 0) (.int .u32 0) (.int .i64 0) (.int .i64 0) (.int .i64 0) (.int .i64 0) (.bool false) (.bool false) (.string ⟨#[]⟩) B3
  have Z9 := LwPktEncodes.below9 (.int .u32 0) (.int .u32 0) (.int .i64 0) (.int .i64 0) (.int .i64 0) (.int .i64 0) (.bool false) (.bool false) (.string ⟨#[]⟩) Z3 (Nat.le_refl w.heap.size)
  obtain ⟨d0, d1, d2, d3, d4, d5, d6, d7, d8, df, dl⟩ := LwPktEncodes.cells9 B9
  exact bodyPost_ret (v := .tuple #[zp, .int .i64 F]) (by simp only [results, Try.results37]; simp [go_sem, zp, d0, d1, d2, d3, d4, d5, d6, d7, d8]) rfl ⟨rfl, Z9⟩
set_option maxRecDepth 100000 in
set_option maxHeartbeats 1600000 in
theorem Decode_yes (s : ByteArray) (hz : s.size ≤ 1048576) (h20 : 20 ≤ s.size) (a0 a1 a2 a3 a4 a5 : Int) (m h : Bool) (G : Hid (∀ w, Calls Try.prog 35 #[.string s] w fun x w' => x = .returned (.tuple #[.agg #[.int .u32 a0, .int .u32 a1, .int .i64 a2, .int .i64 a3, .int .i64 a4, .int .i64 a5, .bool m, .bool h, .string ⟨#[]⟩], .int .i64 s.size, .int .i64 0]) ∧ Below w.heap.size w w')) (b : ByteArray) (hb : Hid (s.extract 20 s.size = b)) (hbz : b.size ≤ 1048576) (hF : Hid (pf a2 a3 a4 a5 m h b.size = 0)) (w : World) :
    Calls Try.prog 37 #[.string s] w fun x w' => x = .returned (.tuple #[.agg #[.int .u32 a0, .int .u32 a1, .int .i64 a2, .int .i64 a3, .int .i64 a4, .int .i64 a5, .bool m, .bool h, .string b], .int .i64 0]) ∧ Below w.heap.size w w' := by
  have i20 : (20 : Int) ≤ (s.size : Int) := by omega
  go_enter Try.func37, Try.ntmps37
  go_wp2_with fail
  refine (G _).mono ?_
  rintro x w1 ⟨rfl, hb1⟩
  have B1 := Lib.hid (blk_below (blk_new w _) hb1)
  have Z1 := Lib.hid (below_step (below_alloc (Below.refl _ _) _) hb1)
  clear hb1
  obtain ⟨c0, c1, c2, c3, c4, c5, c6, c7, c8, cf, cl⟩ := LwPktEncodes.cells9 B1
  go_wp2_with fail
  rw [show s.extract 20 s.size = b from hb]
  have B2 := Lib.hid (blk_alloc B1 (.cells #[.int .u32 a0, .int .u32 a1, .int .i64 a2, .int .i64 a3, .int .i64 a4, .int .i64 a5, .bool m, .bool h, .string b] 30))
  have Q2 := Lib.hid (blk_new w1 (.cells #[.int .u32 a0, .int .u32 a1, .int .i64 a2, .int .i64 a3, .int .i64 a4, .int .i64 a5, .bool m, .bool h, .string b] 30))
  have Z2 := Lib.hid (below_alloc Z1 (.cells #[.int .u32 a0, .int .u32 a1, .int .i64 a2, .int .i64 a3, .int .i64 a4, .int .i64 a5, .bool m, .bool h, .string b] 30))
  have ne : Hid (w.heap.size ≠ w1.heap.size) := by have := cl; show _ ≠ _; omega
  clear B1 Z1 c0 c1 c2 c3 c4 c5 c6 c7 c8 cf cl
  generalize w1.heap.size = q at Q2 ne ⊢
  refine (Check_calls a0 a1 a2 a3 a4 a5 m h b hbz 0 hF _).mono ?_
  rintro x w3 ⟨rfl, hb3⟩
  have B3 := Lib.hid (blk_below B2 hb3)
  have Q3 := Lib.hid (blk_below Q2 hb3)
  have Z3 := Lib.hid (below_step Z2 hb3)
  clear hb3 B2 Q2 Z2
  obtain ⟨c0, c1, c2, c3, c4, c5, c6, c7, c8, cf, cl⟩ := LwPktEncodes.cells9 B3
  obtain ⟨q0, q1, q2, q3, q4, q5, q6, q7, q8, qf, ql⟩ := LwPktEncodes.cells9 Q3
  have n1 : (q = w.heap.size) = False := eq_false (Ne.symm ne)
  have n2 : (w.heap.size = q) = False := eq_false ne
  go_wp2_with fail
  have B9 := LwPktEncodes.put9 (.int .u32 a0) (.int .u32 a1) (.int .i64 a2) (.int .i64 a3) (.int .i64 a4) (.int .i64 a5) (.bool m) (.bool h) (.string b) B3
  have Z9 := LwPktEncodes.below9 (.int .u32 a0) (.int .u32 a1) (.int .i64 a2) (.int .i64 a3) (.int .i64 a4) (.int .i64 a5) (.bool m) (.bool h) (.string b) Z3 (Nat.le_refl w.heap.size)
  obtain ⟨d0, d1, d2, d3, d4, d5, d6, d7, d8, df, dl⟩ := LwPktEncodes.cells9 B9
  exact bodyPost_ret (v := .tuple #[.agg #[.int .u32 a0, .int .u32 a1, .int .i64 a2, .int .i64 a3, .int .i64 a4, .int .i64 a5, .bool m, .bool h, .string b], .int .i64 0]) (by simp only [results, Try.results37]; simp [go_sem, zp, d0, d1, d2, d3, d4, d5, d6, d7, d8]) rfl ⟨rfl, Z9⟩
set_option maxRecDepth 100000 in
set_option maxHeartbeats 1600000 in
theorem PacketRead_err (s : ByteArray) (hz : s.size ≤ 1048576) (a0 a1 a2 a3 a4 a5 : Int) (m h : Bool) (n e : Int) (G : Hid (∀ w, Calls Try.prog 36 #[.string s] w fun x w' => x = .returned (.tuple #[.agg #[.int .u32 a0, .int .u32 a1, .int .i64 a2, .int .i64 a3, .int .i64 a4, .int .i64 a5, .bool m, .bool h, .string ⟨#[]⟩], .int .i64 n, .int .i64 e]) ∧ Below w.heap.size w w')) (k0 : (e == 0) = false) (k0' : (e != 0) = true) (w : World) :
    Calls Try.prog 38 #[.string s] w fun x w' => x = .returned (.tuple #[zp, .int .i64 e]) ∧ Below w.heap.size w w' := by
  go_enter Try.func38, Try.ntmps38
  go_wp2_with fail
  refine (G _).mono ?_
  rintro x w1 ⟨rfl, hb1⟩
  have B1 := Lib.hid (blk_below (blk_new w _) hb1)
  have Z1 := Lib.hid (below_step (below_alloc (Below.refl _ _) _) hb1)
  clear hb1
  obtain ⟨c0, c1, c2, c3, c4, c5, c6, c7, c8, cf, cl⟩ := LwPktEncodes.cells9 B1
  go_wp2_with fail
  have B9 := blk_alloc (LwPktEncodes.put9 (.int .u32 0) (.int .u32 0) (.int .i64 0) (.int .i64 0) (.int .i64 0) (.int .i64 0) (.bool false) (.bool false) (.string ⟨#[]⟩) B1) (.cells #[.int .u32 a0, .int .u32 a1, .int .i64 a2, .int .i64 a3, .int .i64 a4, .int .i64 a5, .bool m, .bool h, .string ⟨#[]⟩] 30)
  have Z9 := below_alloc (LwPktEncodes.below9 (.int .u32 0) (.int .u32 0) (.int .i64 0) (.int .i64 0) (.int .i64 0) (.int .i64 0) (.bool false) (.bool false) (.string ⟨#[]⟩) Z1 (Nat.le_refl w.heap.size)) (.cells #[.int .u32 a0, .int .u32 a1, .int .i64 a2, .int .i64 a3, .int .i64 a4, .int .i64 a5, .bool m, .bool h, .string ⟨#[]⟩] 30)
  obtain ⟨d0, d1, d2, d3, d4, d5, d6, d7, d8, df, dl⟩ := LwPktEncodes.cells9 B9
  exact bodyPost_ret (v := .tuple #[zp, .int .i64 e]) (by simp only [results, Try.results38]; simp [go_sem, zp, d0, d1, d2, d3, d4, d5, d6, d7, d8]) rfl ⟨rfl, Z9⟩
set_option maxRecDepth 100000 in
set_option maxHeartbeats 1600000 in
theorem PacketRead_less (s : ByteArray) (hz : s.size ≤ 1048576) (a0 a1 a2 a3 a4 a5 : Int) (m h : Bool) (n : Int) (G : Hid (∀ w, Calls Try.prog 36 #[.string s] w fun x w' => x = .returned (.tuple #[.agg #[.int .u32 a0, .int .u32 a1, .int .i64 a2, .int .i64 a3, .int .i64 a4, .int .i64 a5, .bool m, .bool h, .string ⟨#[]⟩], .int .i64 n, .int .i64 0]) ∧ Below w.heap.size w w')) (hl : (s.size : Int) < n) (w : World) :
    Calls Try.prog 38 #[.string s] w fun x w' => x = .returned (.tuple #[zp, .int .i64 9]) ∧ Below w.heap.size w w' := by
  go_enter Try.func38, Try.ntmps38
  go_wp2_with fail
  refine (G _).mono ?_
  rintro x w1 ⟨rfl, hb1⟩
  have B1 := Lib.hid (blk_below (blk_new w _) hb1)
  have Z1 := Lib.hid (below_step (below_alloc (Below.refl _ _) _) hb1)
  clear hb1
  obtain ⟨c0, c1, c2, c3, c4, c5, c6, c7, c8, cf, cl⟩ := LwPktEncodes.cells9 B1
  go_wp2_with fail
  have B9 := blk_alloc (LwPktEncodes.put9 (.int .u32 0) (.int .u32 0) (.int .i64 0) (.int .i64 0) (.int .i64 0) (.int .i64 0) (.bool false) (.bool false) (.string ⟨#[]⟩) B1) (.cells #[.int .u32 a0, .int .u32 a1, .int .i64 a2, .int .i64 a3, .int .i64 a4, .int .i64 a5, .bool m, .bool h, .string ⟨#[]⟩] 30)
  have Z9 := below_alloc (LwPktEncodes.below9 (.int .u32 0) (.int .u32 0) (.int .i64 0) (.int .i64 0) (.int .i64 0) (.int .i64 0) (.bool false) (.bool false) (.string ⟨#[]⟩) Z1 (Nat.le_refl w.heap.size)) (.cells #[.int .u32 a0, .int .u32 a1, .int .i64 a2, .int .i64 a3, .int .i64 a4, .int .i64 a5, .bool m, .bool h, .string ⟨#[]⟩] 30)
  obtain ⟨d0, d1, d2, d3, d4, d5, d6, d7, d8, df, dl⟩ := LwPktEncodes.cells9 B9
  exact bodyPost_ret (v := .tuple #[zp, .int .i64 9]) (by simp only [results, Try.results38]; simp [go_sem, zp, d0, d1, d2, d3, d4, d5, d6, d7, d8]) rfl ⟨rfl, Z9⟩
set_option maxRecDepth 100000 in
set_option maxHeartbeats 1600000 in
theorem PacketRead_more (s : ByteArray) (hz : s.size ≤ 1048576) (a0 a1 a2 a3 a4 a5 : Int) (m h : Bool) (n : Int) (G : Hid (∀ w, Calls Try.prog 36 #[.string s] w fun x w' => x = .returned (.tuple #[.agg #[.int .u32 a0, .int .u32 a1, .int .i64 a2, .int .i64 a3, .int .i64 a4, .int .i64 a5, .bool m, .bool h, .string ⟨#[]⟩], .int .i64 n, .int .i64 0]) ∧ Below w.heap.size w w')) (hl : n < (s.size : Int)) (w : World) :
    Calls Try.prog 38 #[.string s] w fun x w' => x = .returned (.tuple #[zp, .int .i64 3]) ∧ Below w.heap.size w w' := by
  go_enter Try.func38, Try.ntmps38
  go_wp2_with fail
  refine (G _).mono ?_
  rintro x w1 ⟨rfl, hb1⟩
  have B1 := Lib.hid (blk_below (blk_new w _) hb1)
  have Z1 := Lib.hid (below_step (below_alloc (Below.refl _ _) _) hb1)
  clear hb1
  obtain ⟨c0, c1, c2, c3, c4, c5, c6, c7, c8, cf, cl⟩ := LwPktEncodes.cells9 B1
  go_wp2_with fail
  have B9 := blk_alloc (LwPktEncodes.put9 (.int .u32 0) (.int .u32 0) (.int .i64 0) (.int .i64 0) (.int .i64 0) (.int .i64 0) (.bool false) (.bool false) (.string ⟨#[]⟩) B1) (.cells #[.int .u32 a0, .int .u32 a1, .int .i64 a2, .int .i64 a3, .int .i64 a4, .int .i64 a5, .bool m, .bool h, .string ⟨#[]⟩] 30)
  have Z9 := below_alloc (LwPktEncodes.below9 (.int .u32 0) (.int .u32 0) (.int .i64 0) (.int .i64 0) (.int .i64 0) (.int .i64 0) (.bool false) (.bool false) (.string ⟨#[]⟩) Z1 (Nat.le_refl w.heap.size)) (.cells #[.int .u32 a0, .int .u32 a1, .int .i64 a2, .int .i64 a3, .int .i64 a4, .int .i64 a5, .bool m, .bool h, .string ⟨#[]⟩] 30)
  obtain ⟨d0, d1, d2, d3, d4, d5, d6, d7, d8, df, dl⟩ := LwPktEncodes.cells9 B9
  exact bodyPost_ret (v := .tuple #[zp, .int .i64 3]) (by simp only [results, Try.results38]; simp [go_sem, zp, d0, d1, d2, d3, d4, d5, d6, d7, d8]) rfl ⟨rfl, Z9⟩
set_option maxRecDepth 100000 in
set_option maxHeartbeats 1600000 in
theorem PacketRead_no (s : ByteArray) (hz : s.size ≤ 1048576) (h20 : 20 ≤ s.size) (a0 a1 a2 a3 a4 a5 : Int) (m h : Bool) (G : Hid (∀ w, Calls Try.prog 36 #[.string s] w fun x w' => x = .returned (.tuple #[.agg #[.int .u32 a0, .int .u32 a1, .int .i64 a2, .int .i64 a3, .int .i64 a4, .int .i64 a5, .bool m, .bool h, .string ⟨#[]⟩], .int .i64 s.size, .int .i64 0]) ∧ Below w.heap.size w w')) (b : ByteArray) (hb : Hid (s.extract 20 s.size = b)) (hbz : b.size ≤ 1048576) (F : Int) (hF : Hid (pf a2 a3 a4 a5 m h b.size = F)) (k0 : (F == 0) = false) (k0' : (F != 0) = true) (w : World) :
    Calls Try.prog 38 #[.string s] w fun x w' => x = .returned (.tuple #[zp, .int .i64 F]) ∧ Below w.heap.size w w' := by
  have i20 : (20 : Int) ≤ (s.size : Int) := by omega
  go_enter Try.func38, Try.ntmps38
  go_wp2_with fail
  refine (G _).mono ?_
  rintro x w1 ⟨rfl, hb1⟩
  have B1 := Lib.hid (blk_below (blk_new w _) hb1)
  have Z1 := Lib.hid (below_step (below_alloc (Below.refl _ _) _) hb1)
  clear hb1
  obtain ⟨c0, c1, c2, c3, c4, c5, c6, c7, c8, cf, cl⟩ := LwPktEncodes.cells9 B1
  go_wp2_with fail
  rw [show s.extract 20 s.size = b from hb]
  have B2 := Lib.hid (blk_alloc B1 (.cells #[.int .u32 a0, .int .u32 a1, .int .i64 a2, .int .i64 a3, .int .i64 a4, .int .i64 a5, .bool m, .bool h, .string b] 30))
  have Q2 := Lib.hid (blk_new w1 (.cells #[.int .u32 a0, .int .u32 a1, .int .i64 a2, .int .i64 a3, .int .i64 a4, .int .i64 a5, .bool m, .bool h, .string b] 30))
  have Z2 := Lib.hid (below_alloc Z1 (.cells #[.int .u32 a0, .int .u32 a1, .int .i64 a2, .int .i64 a3, .int .i64 a4, .int .i64 a5, .bool m, .bool h, .string b] 30))
  have ne : Hid (w.heap.size ≠ w1.heap.size) := by have := cl; show _ ≠ _; omega
  clear B1 Z1 c0 c1 c2 c3 c4 c5 c6 c7 c8 cf cl
  generalize w1.heap.size = q at Q2 ne ⊢
  refine (Fault_calls a0 a1 a2 a3 a4 a5 m h b hbz F hF _).mono ?_
  rintro x w3 ⟨rfl, hb3⟩
  have B3 := Lib.hid (blk_below B2 hb3)
  have Q3 := Lib.hid (blk_below Q2 hb3)
  have Z3 := Lib.hid (below_step Z2 hb3)
  clear hb3 B2 Q2 Z2
  obtain ⟨c0, c1, c2, c3, c4, c5, c6, c7, c8, cf, cl⟩ := LwPktEncodes.cells9 B3
  obtain ⟨q0, q1, q2, q3, q4, q5, q6, q7, q8, qf, ql⟩ := LwPktEncodes.cells9 Q3
  have n1 : (q = w.heap.size) = False := eq_false (Ne.symm ne)
  have n2 : (w.heap.size = q) = False := eq_false ne
  go_wp2_with fail
  have B9 := LwPktEncodes.put9 (.int .u32 0) (.int .u32 0) (.int .i64 0) (.int .i64 0) (.int .i64 0) (.int .i64 0) (.bool false) (.bool false) (.string ⟨#[]⟩) B3
  have Z9 := LwPktEncodes.below9 (.int .u32 0) (.int .u32 0) (.int .i64 0) (.int .i64 0) (.int .i64 0) (.int .i64 0) (.bool false) (.bool false) (.string ⟨#[]⟩) Z3 (Nat.le_refl w.heap.size)
  obtain ⟨d0, d1, d2, d3, d4, d5, d6, d7, d8, df, dl⟩ := LwPktEncodes.cells9 B9
  exact bodyPost_ret (v := .tuple #[zp, .int .i64 F]) (by simp only [results, Try.results38]; simp [go_sem, zp, d0, d1, d2, d3, d4, d5, d6, d7, d8]) rfl ⟨rfl, Z9⟩
set_option maxRecDepth 100000 in
set_option maxHeartbeats 1600000 in
theorem PacketRead_yes (s : ByteArray) (hz : s.size ≤ 1048576) (h20 : 20 ≤ s.size) (a0 a1 a2 a3 a4 a5 : Int) (m h : Bool) (G : Hid (∀ w, Calls Try.prog 36 #[.string s] w fun x w' => x = .returned (.tuple #[.agg #[.int .u32 a0, .int .u32 a1, .int .i64 a2, .int .i64 a3, .int .i64 a4, .int .i64 a5, .bool m, .bool h, .string ⟨#[]⟩], .int .i64 s.size, .int .i64 0]) ∧ Below w.heap.size w w')) (b : ByteArray) (hb : Hid (s.extract 20 s.size = b)) (hbz : b.size ≤ 1048576) (hF : Hid (pf a2 a3 a4 a5 m h b.size = 0)) (w : World) :
    Calls Try.prog 38 #[.string s] w fun x w' => x = .returned (.tuple #[.agg #[.int .u32 a0, .int .u32 a1, .int .i64 a2, .int .i64 a3, .int .i64 a4, .int .i64 a5, .bool m, .bool h, .string b], .int .i64 0]) ∧ Below w.heap.size w w' := by
  have i20 : (20 : Int) ≤ (s.size : Int) := by omega
  go_enter Try.func38, Try.ntmps38
  go_wp2_with fail
  refine (G _).mono ?_
  rintro x w1 ⟨rfl, hb1⟩
  have B1 := Lib.hid (blk_below (blk_new w _) hb1)
  have Z1 := Lib.hid (below_step (below_alloc (Below.refl _ _) _) hb1)
  clear hb1
  obtain ⟨c0, c1, c2, c3, c4, c5, c6, c7, c8, cf, cl⟩ := LwPktEncodes.cells9 B1
  go_wp2_with fail
  rw [show s.extract 20 s.size = b from hb]
  have B2 := Lib.hid (blk_alloc B1 (.cells #[.int .u32 a0, .int .u32 a1, .int .i64 a2, .int .i64 a3, .int .i64 a4, .int .i64 a5, .bool m, .bool h, .string b] 30))
  have Q2 := Lib.hid (blk_new w1 (.cells #[.int .u32 a0, .int .u32 a1, .int .i64 a2, .int .i64 a3, .int .i64 a4, .int .i64 a5, .bool m, .bool h, .string b] 30))
  have Z2 := Lib.hid (below_alloc Z1 (.cells #[.int .u32 a0, .int .u32 a1, .int .i64 a2, .int .i64 a3, .int .i64 a4, .int .i64 a5, .bool m, .bool h, .string b] 30))
  have ne : Hid (w.heap.size ≠ w1.heap.size) := by have := cl; show _ ≠ _; omega
  clear B1 Z1 c0 c1 c2 c3 c4 c5 c6 c7 c8 cf cl
  generalize w1.heap.size = q at Q2 ne ⊢
  refine (Fault_calls a0 a1 a2 a3 a4 a5 m h b hbz 0 hF _).mono ?_
  rintro x w3 ⟨rfl, hb3⟩
  have B3 := Lib.hid (blk_below B2 hb3)
  have Q3 := Lib.hid (blk_below Q2 hb3)
  have Z3 := Lib.hid (below_step Z2 hb3)
  clear hb3 B2 Q2 Z2
  obtain ⟨c0, c1, c2, c3, c4, c5, c6, c7, c8, cf, cl⟩ := LwPktEncodes.cells9 B3
  obtain ⟨q0, q1, q2, q3, q4, q5, q6, q7, q8, qf, ql⟩ := LwPktEncodes.cells9 Q3
  have n1 : (q = w.heap.size) = False := eq_false (Ne.symm ne)
  have n2 : (w.heap.size = q) = False := eq_false ne
  go_wp2_with fail
  have B9 := LwPktEncodes.put9 (.int .u32 a0) (.int .u32 a1) (.int .i64 a2) (.int .i64 a3) (.int .i64 a4) (.int .i64 a5) (.bool m) (.bool h) (.string b) B3
  have Z9 := LwPktEncodes.below9 (.int .u32 a0) (.int .u32 a1) (.int .i64 a2) (.int .i64 a3) (.int .i64 a4) (.int .i64 a5) (.bool m) (.bool h) (.string b) Z3 (Nat.le_refl w.heap.size)
  obtain ⟨d0, d1, d2, d3, d4, d5, d6, d7, d8, df, dl⟩ := LwPktEncodes.cells9 B9
  exact bodyPost_ret (v := .tuple #[.agg #[.int .u32 a0, .int .u32 a1, .int .i64 a2, .int .i64 a3, .int .i64 a4, .int .i64 a5, .bool m, .bool h, .string b], .int .i64 0]) (by simp only [results, Try.results38]; simp [go_sem, zp, d0, d1, d2, d3, d4, d5, d6, d7, d8]) rfl ⟨rfl, Z9⟩
end Go.Proofs.Ythpohaafphaidaa.De
