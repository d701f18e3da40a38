/- The walk of the law PktEncodes. -/
import Derived.Test.YthpohaafphaidaaQEn
import Derived.Test.YthpohaafphaidaaPPktEncodesx1
namespace Go.Proofs.Ythpohaafphaidaa.LwPktEncodes
open Go.RowKit Go.Proofs.YthpohaafphaidaaW.PrintWords Go.Proofs.YthpohaafphaidaaW.PrintLast Go.Proofs.Ythpohaafphaidaa.Pl Go.Proofs.Ythpohaafphaidaa.PPktEncodes Go.Proofs.Ythpohaafphaidaa.Dg Go.Proofs.Ythpohaafphaidaa.SmPktEncodes Go.Proofs.Ythpohaafphaidaa.CkPktEncodes Go.Proofs.Ythpohaafphaidaa.Hd Go.Proofs.Ythpohaafphaidaa.Tx Go.Proofs.Ythpohaafphaidaa.Tt Go.Proofs.Ythpohaafphaidaa.En
set_option linter.unusedVariables false
set_option linter.unusedSimpArgs false
attribute [local go_sem high] Go.Proofs.Ythpohaafphaidaa.PPktEncodes.eqA30
theorem cells9 {w : World} {B : Nat} {T : TypeId} {v0 v1 v2 v3 v4 v5 v6 v7 v8 : Value} (h : w.heap[B]? = some (.cells #[v0, v1, v2, v3, v4, v5, v6, v7, v8] T (0, 0))) :
    w.cell? ⟨B, 0, none⟩ = some v0 ∧ w.cell? ⟨B, 1, none⟩ = some v1 ∧ w.cell? ⟨B, 2, none⟩ = some v2 ∧ w.cell? ⟨B, 3, none⟩ = some v3 ∧ w.cell? ⟨B, 4, none⟩ = some v4 ∧ w.cell? ⟨B, 5, none⟩ = some v5 ∧ w.cell? ⟨B, 6, none⟩ = some v6 ∧ w.cell? ⟨B, 7, none⟩ = some v7 ∧ w.cell? ⟨B, 8, none⟩ = some v8 ∧ (∀ j, w.frozen? ⟨B, j, none⟩ = false) ∧ B < w.heap.size :=
  ⟨blk_cell h 0, blk_cell h 1, blk_cell h 2, blk_cell h 3, blk_cell h 4, blk_cell h 5, blk_cell h 6, blk_cell h 7, blk_cell h 8, fun j => blk_frozen h j, blk_lt h⟩
theorem put9 {w : World} {B : Nat} {T : TypeId} {v0 v1 v2 v3 v4 v5 v6 v7 v8 : Value} (u0 u1 u2 u3 u4 u5 u6 u7 u8 : Value) (h : w.heap[B]? = some (.cells #[v0, v1, v2, v3, v4, v5, v6, v7, v8] T (0, 0))) :
    (((((((((w.setCell ⟨B, 0, none⟩ u0).setCell ⟨B, 1, none⟩ u1).setCell ⟨B, 2, none⟩ u2).setCell ⟨B, 3, none⟩ u3).setCell ⟨B, 4, none⟩ u4).setCell ⟨B, 5, none⟩ u5).setCell ⟨B, 6, none⟩ u6).setCell ⟨B, 7, none⟩ u7).setCell ⟨B, 8, none⟩ u8).heap[B]? = some (.cells #[u0, u1, u2, u3, u4, u5, u6, u7, u8] T (0, 0)) := by
  refine blk_put (cs := #[u0, u1, u2, u3, u4, u5, u6, u7, v8]) ?_ 8 u8 rfl
  refine blk_put (cs := #[u0, u1, u2, u3, u4, u5, u6, v7, v8]) ?_ 7 u7 rfl
  refine blk_put (cs := #[u0, u1, u2, u3, u4, u5, v6, v7, v8]) ?_ 6 u6 rfl
  refine blk_put (cs := #[u0, u1, u2, u3, u4, v5, v6, v7, v8]) ?_ 5 u5 rfl
  refine blk_put (cs := #[u0, u1, u2, u3, v4, v5, v6, v7, v8]) ?_ 4 u4 rfl
  refine blk_put (cs := #[u0, u1, u2, v3, v4, v5, v6, v7, v8]) ?_ 3 u3 rfl
  refine blk_put (cs := #[u0, u1, v2, v3, v4, v5, v6, v7, v8]) ?_ 2 u2 rfl
  refine blk_put (cs := #[u0, v1, v2, v3, v4, v5, v6, v7, v8]) ?_ 1 u1 rfl
  exact blk_put h 0 u0 rfl
theorem below9 {n : Nat} {W w : World} {B : Nat} (u0 u1 u2 u3 u4 u5 u6 u7 u8 : Value) (h : Below n W w) (hB : n ≤ B) : Below n W (((((((((w.setCell ⟨B, 0, none⟩ u0).setCell ⟨B, 1, none⟩ u1).setCell ⟨B, 2, none⟩ u2).setCell ⟨B, 3, none⟩ u3).setCell ⟨B, 4, none⟩ u4).setCell ⟨B, 5, none⟩ u5).setCell ⟨B, 6, none⟩ u6).setCell ⟨B, 7, none⟩ u7).setCell ⟨B, 8, none⟩ u8) :=
  ((((((((h.setCell hB _).setCell hB _).setCell hB _).setCell hB _).setCell hB _).setCell hB _).setCell hB _).setCell hB _).setCell hB _
set_option maxRecDepth 100000 in
set_option maxHeartbeats 1600000 in
theorem law_no (a0 a1 a2 a3 a4 a5 : Int) (m h : Bool) (s : ByteArray) (hs : s.size ≤ 9223372036854775807) (w : World) (s0 : 0 ≤ a0) (s1 : a0 < 4294967296) (d0 : 0 ≤ a1) (d1 : a1 < 4294967296)
   (b : ByteArray) (hb : b.size ≤ 24) (eb : Hid (cutb s 24 = b)) (F : Int) (hF : Hid (pf a2 a3 a4 a5 m h b.size = F)) (h0 : (F == 0) = false) (h0' : (F != 0) = true) :
    Calls Try.prog 5 #[.agg #[.int .u32 a0, .int .u32 a1, .int .i64 a2, .int .i64 a3, .int .i64 a4, .int .i64 a5, .bool m, .bool h, .string s]] w
      fun e w' => e = .returned (.bool true) ∧ Below w.heap.size w w' := by
  go_enter Try.func5, Try.ntmps5
  go_wp2_with fail
  refine (pktLives_calls _).mono ?_
  rintro e w1 ⟨rfl, hb1⟩
  have B1 := Lib.hid (blk_below (blk_new w _) hb1)
  have Z1 := Lib.hid (below_step (below_alloc (Below.refl _ _) _) hb1)
  clear hb1
  have C := cells9 B1
  obtain ⟨c0, c1, c2, c3, c4, c5, c6, c7, c8, cf, cl⟩ := C
  go_wp2_with fail
  refine (bare_calls a0 a1 a2 a3 a4 a5 m h s 24 hs _).mono ?_
  rintro e w2 ⟨rfl, hb2⟩
  have B2 := Lib.hid (blk_below B1 hb2)
  have Z2 := Lib.hid (below_step Z1 hb2)
  clear hb2 c0 c1 c2 c3 c4 c5 c6 c7 c8 cf cl B1 Z1
  have C := cells9 B2
  obtain ⟨c0, c1, c2, c3, c4, c5, c6, c7, c8, cf, cl⟩ := C
  rw [show cutb s 24 = b from eb]
  go_wp2_with fail
  have B3 := Lib.hid (put9 (.int .u32 a0) (.int .u32 a1) (.int .i64 a2) (.int .i64 a3) (.int .i64 a4) (.int .i64 a5) (.bool m) (.bool h) (.string b) B2)
  have Z3 := Lib.hid (below9 (.int .u32 a0) (.int .u32 a1) (.int .i64 a2) (.int .i64 a3) (.int .i64 a4) (.int .i64 a5) (.bool m) (.bool h) (.string b) Z2 (Nat.le_refl _))
  clear B2 Z2 c0 c1 c2 c3 c4 c5 c6 c7 c8 cf cl
  refine (Fault_calls a0 a1 a2 a3 a4 a5 m h b (by omega) F hF _).mono ?_
  rintro e w4 ⟨rfl, hb4⟩
  have B4 := Lib.hid (blk_below B3 hb4)
  have Z4 := Lib.hid (below_step Z3 hb4)
  clear hb4 B3 Z3
  have C := cells9 B4
  obtain ⟨c0, c1, c2, c3, c4, c5, c6, c7, c8, cf, cl⟩ := C
  go_wp2_with fail
  refine (Encode_calls a0 a1 a2 a3 a4 a5 m h b (by omega) s0 s1 d0 d1 ⟨#[]⟩ F (by unfold told; rw [if_neg (by rw [show pf a2 a3 a4 a5 m h b.size = F from hF]; simpa using h0), show pf a2 a3 a4 a5 m h b.size = F from hF]) _).mono ?_
  rintro e w5 ⟨rfl, hb5⟩
  have B5 := Lib.hid (blk_below B4 hb5)
  have Z5 := Lib.hid (below_step Z4 hb5)
  clear hb5 B4 Z4 c0 c1 c2 c3 c4 c5 c6 c7 c8 cf cl
  have C := cells9 B5
  obtain ⟨c0, c1, c2, c3, c4, c5, c6, c7, c8, cf, cl⟩ := C
  go_wp2_with fail
  refine (Hop_no a0 a1 a2 a3 a4 a5 m h b (by omega) F hF (by simpa using h0) _).mono ?_
  rintro e w6 ⟨rfl, hb6⟩
  have B6 := Lib.hid (blk_below B5 hb6)
  have Z6 := Lib.hid (below_step Z5 hb6)
  clear hb6 B5 Z5 c0 c1 c2 c3 c4 c5 c6 c7 c8 cf cl
  have C := cells9 B6
  obtain ⟨c0, c1, c2, c3, c4, c5, c6, c7, c8, cf, cl⟩ := C
  go_wp2_with fail
  have B7 := Lib.hid (blk_alloc B6 (.cells #[.int .u32 0, .int .u32 0, .int .i64 0, .int .i64 0, .int .i64 0, .int .i64 0, .bool false, .bool false, .string ⟨#[]⟩] 30))
  have Q7 := Lib.hid (blk_new w6 (.cells #[.int .u32 0, .int .u32 0, .int .i64 0, .int .i64 0, .int .i64 0, .int .i64 0, .bool false, .bool false, .string ⟨#[]⟩] 30))
  have Z7 := Lib.hid (below_alloc Z6 (.cells #[.int .u32 0, .int .u32 0, .int .i64 0, .int .i64 0, .int .i64 0, .int .i64 0, .bool false, .bool false, .string ⟨#[]⟩] 30))
  clear B6 Z6 c0 c1 c2 c3 c4 c5 c6 c7 c8 cf cl
  refine (Check_calls a0 a1 a2 a3 a4 a5 m h b (by omega) F hF _).mono ?_
  rintro e w8 ⟨rfl, hb8⟩
  have Q8 := Lib.hid (blk_below Q7 hb8)
  have Z8 := Lib.hid (below_step Z7 hb8)
  clear hb8 B7 Q7 Z7
  have C := cells9 Q8
  obtain ⟨c0, c1, c2, c3, c4, c5, c6, c7, c8, cf, cl⟩ := C
  go_wp2_with fail
  go_ret
  exact ⟨rfl, Z8⟩
set_option maxRecDepth 100000 in
set_option maxHeartbeats 1600000 in
theorem law_one (a0 a1 a2 a4 a5 : Int) (m h : Bool) (s : ByteArray) (hs : s.size ≤ 9223372036854775807) (w : World) (s0 : 0 ≤ a0) (s1 : a0 < 4294967296) (d0 : 0 ≤ a1) (d1 : a1 < 4294967296)
   (b : ByteArray) (hb : b.size ≤ 24) (eb : Hid (cutb s 24 = b)) (hF : Hid (pf a2 1 a4 a5 m h b.size = 0)) :
    Calls Try.prog 5 #[.agg #[.int .u32 a0, .int .u32 a1, .int .i64 a2, .int .i64 1, .int .i64 a4, .int .i64 a5, .bool m, .bool h, .string s]] w
      fun e w' => e = .returned (.bool true) ∧ Below w.heap.size w w' := by
  have FT := Lib.hid (fits_of s0 s1 d0 d1 hF)
  go_enter Try.func5, Try.ntmps5
  go_wp2_with fail
  refine (pktLives_calls _).mono ?_
  rintro e w1 ⟨rfl, hb1⟩
  have B1 := Lib.hid (blk_below (blk_new w _) hb1)
  have Z1 := Lib.hid (below_step (below_alloc (Below.refl _ _) _) hb1)
  clear hb1
  have C := cells9 B1
  obtain ⟨c0, c1, c2, c3, c4, c5, c6, c7, c8, cf, cl⟩ := C
  go_wp2_with fail
  refine (bare_calls a0 a1 a2 1 a4 a5 m h s 24 hs _).mono ?_
  rintro e w2 ⟨rfl, hb2⟩
  have B2 := Lib.hid (blk_below B1 hb2)
  have Z2 := Lib.hid (below_step Z1 hb2)
  clear hb2 c0 c1 c2 c3 c4 c5 c6 c7 c8 cf cl B1 Z1
  have C := cells9 B2
  obtain ⟨c0, c1, c2, c3, c4, c5, c6, c7, c8, cf, cl⟩ := C
  rw [show cutb s 24 = b from eb]
  go_wp2_with fail
  have B3 := Lib.hid (put9 (.int .u32 a0) (.int .u32 a1) (.int .i64 a2) (.int .i64 1) (.int .i64 a4) (.int .i64 a5) (.bool m) (.bool h) (.string b) B2)
  have Z3 := Lib.hid (below9 (.int .u32 a0) (.int .u32 a1) (.int .i64 a2) (.int .i64 1) (.int .i64 a4) (.int .i64 a5) (.bool m) (.bool h) (.string b) Z2 (Nat.le_refl _))
  clear B2 Z2 c0 c1 c2 c3 c4 c5 c6 c7 c8 cf cl
  refine (Fault_calls a0 a1 a2 1 a4 a5 m h b (by omega) 0 hF _).mono ?_
  rintro e w4 ⟨rfl, hb4⟩
  have B4 := Lib.hid (blk_below B3 hb4)
  have Z4 := Lib.hid (below_step Z3 hb4)
  clear hb4 B3 Z3
  have C := cells9 B4
  obtain ⟨c0, c1, c2, c3, c4, c5, c6, c7, c8, cf, cl⟩ := C
  go_wp2_with fail
  refine (Encode_calls a0 a1 a2 1 a4 a5 m h b (by omega) s0 s1 d0 d1 (enc a0 a1 a2 1 a4 a5 m h b) 0 (by unfold told; rw [if_pos (show pf a2 1 a4 a5 m h b.size = 0 from hF)]) _).mono ?_
  rintro e w5 ⟨rfl, hb5⟩
  have B5 := Lib.hid (blk_below B4 hb5)
  have Z5 := Lib.hid (below_step Z4 hb5)
  clear hb5 B4 Z4 c0 c1 c2 c3 c4 c5 c6 c7 c8 cf cl
  have C := cells9 B5
  obtain ⟨c0, c1, c2, c3, c4, c5, c6, c7, c8, cf, cl⟩ := C
  have PT := Lib.hid (fun w => PacketText_calls a0 a1 a2 1 a4 a5 m h b w FT)
  generalize enc a0 a1 a2 1 a4 a5 m h b = E at PT ⊢
  go_wp2_with fail
  refine (Hop_one a0 a1 a2 a4 a5 m h b (by omega) hF _).mono ?_
  rintro e w6 ⟨rfl, hb6⟩
  have B6 := Lib.hid (blk_below B5 hb6)
  have Z6 := Lib.hid (below_step Z5 hb6)
  clear hb6 B5 Z5 c0 c1 c2 c3 c4 c5 c6 c7 c8 cf cl
  have C := cells9 B6
  obtain ⟨c0, c1, c2, c3, c4, c5, c6, c7, c8, cf, cl⟩ := C
  go_wp2_with fail
  have B7 := Lib.hid (blk_alloc B6 (.cells #[.int .u32 0, .int .u32 0, .int .i64 0, .int .i64 0, .int .i64 0, .int .i64 0, .bool false, .bool false, .string ⟨#[]⟩] 30))
  have Q7 := Lib.hid (blk_new w6 (.cells #[.int .u32 0, .int .u32 0, .int .i64 0, .int .i64 0, .int .i64 0, .int .i64 0, .bool false, .bool false, .string ⟨#[]⟩] 30))
  have Z7 := Lib.hid (below_alloc Z6 (.cells #[.int .u32 0, .int .u32 0, .int .i64 0, .int .i64 0, .int .i64 0, .int .i64 0, .bool false, .bool false, .string ⟨#[]⟩] 30))
  have ne : Hid (w.heap.size ≠ w6.heap.size) := by have := cl; show _ ≠ _; omega
  clear B6 Z6 c0 c1 c2 c3 c4 c5 c6 c7 c8 cf cl
  generalize w6.heap.size = q at Q7 ne ⊢
  refine (Check_calls a0 a1 a2 1 a4 a5 m h b (by omega) 0 hF _).mono ?_
  rintro e w8 ⟨rfl, hb8⟩
  have B8 := Lib.hid (blk_below B7 hb8)
  have Q8 := Lib.hid (blk_below Q7 hb8)
  have Z8 := Lib.hid (below_step Z7 hb8)
  clear hb8 B7 Q7 Z7
  have C := cells9 B8
  obtain ⟨c0, c1, c2, c3, c4, c5, c6, c7, c8, cf, cl⟩ := C
  go_wp2_with fail
  refine (PT _).mono ?_
  rintro e w9 ⟨rfl, hb9⟩
  have B9 := Lib.hid (blk_below B8 hb9)
  have Q9 := Lib.hid (blk_below Q8 hb9)
  have Z9 := Lib.hid (below_step Z8 hb9)
  clear hb9 B8 Q8 Z8 c0 c1 c2 c3 c4 c5 c6 c7 c8 cf cl PT
  have C := cells9 B9
  obtain ⟨c0, c1, c2, c3, c4, c5, c6, c7, c8, cf, cl⟩ := C
  have CQ := cells9 Q9
  obtain ⟨q0, q1, q2, q3, q4, q5, q6, q7, q8, qf, ql⟩ := CQ
  go_wp2_with fail
  go_ret
  exact ⟨rfl, Z9⟩
set_option maxRecDepth 100000 in
set_option maxHeartbeats 1600000 in
theorem law_yes (a0 a1 a2 a3 a4 a5 : Int) (m h : Bool) (s : ByteArray) (hs : s.size ≤ 9223372036854775807) (w : World) (s0 : 0 ≤ a0) (s1 : a0 < 4294967296) (d0 : 0 ≤ a1) (d1 : a1 < 4294967296)
   (b : ByteArray) (hb : b.size ≤ 24) (eb : Hid (cutb s 24 = b)) (hF : Hid (pf a2 a3 a4 a5 m h b.size = 0)) (h2 : 2 ≤ a3) (h3 : a3 ≤ 255) (h1 : (a3 == 1) = false) :
    Calls Try.prog 5 #[.agg #[.int .u32 a0, .int .u32 a1, .int .i64 a2, .int .i64 a3, .int .i64 a4, .int .i64 a5, .bool m, .bool h, .string s]] w
      fun e w' => e = .returned (.bool true) ∧ Below w.heap.size w w' := by
  have FT := Lib.hid (fits_of s0 s1 d0 d1 hF)
  go_enter Try.func5, Try.ntmps5
  go_wp2_with fail
  refine (pktLives_calls _).mono ?_
  rintro e w1 ⟨rfl, hb1⟩
  have B1 := Lib.hid (blk_below (blk_new w _) hb1)
  have Z1 := Lib.hid (below_step (below_alloc (Below.refl _ _) _) hb1)
  clear hb1
  have C := cells9 B1
  obtain ⟨c0, c1, c2, c3, c4, c5, c6, c7, c8, cf, cl⟩ := C
  go_wp2_with fail
  refine (bare_calls a0 a1 a2 a3 a4 a5 m h s 24 hs _).mono ?_
  rintro e w2 ⟨rfl, hb2⟩
  have B2 := Lib.hid (blk_below B1 hb2)
  have Z2 := Lib.hid (below_step Z1 hb2)
  clear hb2 c0 c1 c2 c3 c4 c5 c6 c7 c8 cf cl B1 Z1
  have C := cells9 B2
  obtain ⟨c0, c1, c2, c3, c4, c5, c6, c7, c8, cf, cl⟩ := C
  rw [show cutb s 24 = b from eb]
  go_wp2_with fail
  have B3 := Lib.hid (put9 (.int .u32 a0) (.int .u32 a1) (.int .i64 a2) (.int .i64 a3) (.int .i64 a4) (.int .i64 a5) (.bool m) (.bool h) (.string b) B2)
  have Z3 := Lib.hid (below9 (.int .u32 a0) (.int .u32 a1) (.int .i64 a2) (.int .i64 a3) (.int .i64 a4) (.int .i64 a5) (.bool m) (.bool h) (.string b) Z2 (Nat.le_refl _))
  clear B2 Z2 c0 c1 c2 c3 c4 c5 c6 c7 c8 cf cl
  refine (Fault_calls a0 a1 a2 a3 a4 a5 m h b (by omega) 0 hF _).mono ?_
  rintro e w4 ⟨rfl, hb4⟩
  have B4 := Lib.hid (blk_below B3 hb4)
  have Z4 := Lib.hid (below_step Z3 hb4)
  clear hb4 B3 Z3
  have C := cells9 B4
  obtain ⟨c0, c1, c2, c3, c4, c5, c6, c7, c8, cf, cl⟩ := C
  go_wp2_with fail
  refine (Encode_calls a0 a1 a2 a3 a4 a5 m h b (by omega) s0 s1 d0 d1 (enc a0 a1 a2 a3 a4 a5 m h b) 0 (by unfold told; rw [if_pos (show pf a2 a3 a4 a5 m h b.size = 0 from hF)]) _).mono ?_
  rintro e w5 ⟨rfl, hb5⟩
  have B5 := Lib.hid (blk_below B4 hb5)
  have Z5 := Lib.hid (below_step Z4 hb5)
  clear hb5 B4 Z4 c0 c1 c2 c3 c4 c5 c6 c7 c8 cf cl
  have C := cells9 B5
  obtain ⟨c0, c1, c2, c3, c4, c5, c6, c7, c8, cf, cl⟩ := C
  have PT := Lib.hid (fun w => PacketText_calls a0 a1 a2 a3 a4 a5 m h b w FT)
  generalize enc a0 a1 a2 a3 a4 a5 m h b = E at PT ⊢
  go_wp2_with fail
  refine (Hop_yes a0 a1 a2 a3 a4 a5 m h b (by omega) hF h2 h3 _).mono ?_
  rintro e w6 ⟨rfl, hb6⟩
  have B6 := Lib.hid (blk_below B5 hb6)
  have Z6 := Lib.hid (below_step Z5 hb6)
  clear hb6 B5 Z5 c0 c1 c2 c3 c4 c5 c6 c7 c8 cf cl
  have C := cells9 B6
  obtain ⟨c0, c1, c2, c3, c4, c5, c6, c7, c8, cf, cl⟩ := C
  go_wp2_with fail
  have B7 := Lib.hid (blk_alloc B6 (.cells #[.int .u32 a0, .int .u32 a1, .int .i64 a2, .int .i64 (a3 - 1), .int .i64 a4, .int .i64 a5, .bool m, .bool h, .string b] 30))
  have Q7 := Lib.hid (blk_new w6 (.cells #[.int .u32 a0, .int .u32 a1, .int .i64 a2, .int .i64 (a3 - 1), .int .i64 a4, .int .i64 a5, .bool m, .bool h, .string b] 30))
  have Z7 := Lib.hid (below_alloc Z6 (.cells #[.int .u32 a0, .int .u32 a1, .int .i64 a2, .int .i64 (a3 - 1), .int .i64 a4, .int .i64 a5, .bool m, .bool h, .string b] 30))
  have ne : Hid (w.heap.size ≠ w6.heap.size) := by have := cl; show _ ≠ _; omega
  clear B6 Z6 c0 c1 c2 c3 c4 c5 c6 c7 c8 cf cl
  generalize w6.heap.size = q at Q7 ne ⊢
  refine (Check_calls a0 a1 a2 a3 a4 a5 m h b (by omega) 0 hF _).mono ?_
  rintro e w8 ⟨rfl, hb8⟩
  have B8 := Lib.hid (blk_below B7 hb8)
  have Q8 := Lib.hid (blk_below Q7 hb8)
  have Z8 := Lib.hid (below_step Z7 hb8)
  clear hb8 B7 Q7 Z7
  have C := cells9 B8
  obtain ⟨c0, c1, c2, c3, c4, c5, c6, c7, c8, cf, cl⟩ := C
  go_wp2_with fail
  refine (PT _).mono ?_
  rintro e w9 ⟨rfl, hb9⟩
  have B9 := Lib.hid (blk_below B8 hb9)
  have Q9 := Lib.hid (blk_below Q8 hb9)
  have Z9 := Lib.hid (below_step Z8 hb9)
  clear hb9 B8 Q8 Z8 c0 c1 c2 c3 c4 c5 c6 c7 c8 cf cl PT
  have C := cells9 B9
  obtain ⟨c0, c1, c2, c3, c4, c5, c6, c7, c8, cf, cl⟩ := C
  have CQ := cells9 Q9
  obtain ⟨q0, q1, q2, q3, q4, q5, q6, q7, q8, qf, ql⟩ := CQ
  have n1 : (q = w.heap.size) = False := eq_false (Ne.symm ne)
  have n2 : (w.heap.size = q) = False := eq_false ne
  go_wp2_with fail
  go_ret
  exact ⟨rfl, Z9.setCell (Nat.le_refl _) _⟩
end Go.Proofs.Ythpohaafphaidaa.LwPktEncodes
