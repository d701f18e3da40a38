/- The walk of the law PktDecodes. -/
import Derived.Test.YthpohaafphaidaaQDe
namespace Go.Proofs.Ythpohaafphaidaa.LwPktDecodes
open Go.RowKit Go.Proofs.YthpohaafphaidaaW.PrintWords Go.Proofs.YthpohaafphaidaaW.PrintLast Go.Proofs.Ythpohaafphaidaa.Pl Go.Proofs.Ythpohaafphaidaa.CkPktEncodes Go.Proofs.Ythpohaafphaidaa.LwPktSums Go.Proofs.Ythpohaafphaidaa.De Go.Proofs.Ythpohaafphaidaa.En Go.Proofs.Ythpohaafphaidaa.He
set_option linter.unusedVariables false
set_option linter.unusedSimpArgs false
attribute [local go_sem high] Go.Proofs.Ythpohaafphaidaa.PPktEncodes.eqA30
/-- nine stores into one block leave another. -/
theorem far9 {w : World} {B q : Nat} {o : Obj} (u0 u1 u2 u3 u4 u5 u6 u7 u8 : Value) (h : w.heap[q]? = some o) (ne : B ≠ q) : (((((((((w.setCell ⟨B, 0, none⟩ u0).setCell ⟨B, 1, none⟩ u1).setCell ⟨B, 2, none⟩ u2).setCell ⟨B, 3, none⟩ u3).setCell ⟨B, 4, none⟩ u4).setCell ⟨B, 5, none⟩ u5).setCell ⟨B, 6, none⟩ u6).setCell ⟨B, 7, none⟩ u7).setCell ⟨B, 8, none⟩ u8).heap[q]? = some o := by
  have e : ∀ (x : World) (j : Nat) (u : Value), x.heap[q]? = some o → (x.setCell ⟨B, j, none⟩ u).heap[q]? = some o := fun x j u hx => (Below.heap_setCell x ⟨B, j, none⟩ u q (fun e => ne e.symm)).trans hx
  exact e _ 8 _ (e _ 7 _ (e _ 6 _ (e _ 5 _ (e _ 4 _ (e _ 3 _ (e _ 2 _ (e _ 1 _ (e _ 0 _ h))))))))
/-- Decode and PacketRead tell the same. -/
theorem decodes (s : ByteArray) (hz : s.size ≤ 1048576) : ∃ (b0 b1 b2 b3 b4 b5 : Int) (m' h' : Bool) (b : ByteArray) (e : Int),
    (∀ w, Calls Try.prog 37 #[.string s] w fun x w' => x = .returned (.tuple #[.agg #[.int .u32 b0, .int .u32 b1, .int .i64 b2, .int .i64 b3, .int .i64 b4, .int .i64 b5, .bool m', .bool h', .string b], .int .i64 e]) ∧ Below w.heap.size w w') ∧
    (∀ w, Calls Try.prog 38 #[.string s] w fun x w' => x = .returned (.tuple #[.agg #[.int .u32 b0, .int .u32 b1, .int .i64 b2, .int .i64 b3, .int .i64 b4, .int .i64 b5, .bool m', .bool h', .string b], .int .i64 e]) ∧ Below w.heap.size w w') := by
  obtain ⟨a0, a1, a2, a3, a4, a5, m, h, n, e, h20, G1, G2⟩ := heads s hz
  by_cases k0 : e = 0
  · subst k0
    have h20 := h20 rfl
    have hbz : (s.extract 20 s.size).size ≤ 1048576 := by rw [ByteArray.size_extract]; omega
    by_cases hl : (s.size : Int) < n
    · exact ⟨0, 0, 0, 0, 0, 0, false, false, ⟨#[]⟩, 9, fun w => Decode_less s hz a0 a1 a2 a3 a4 a5 m h n G1 hl w, fun w => PacketRead_less s hz a0 a1 a2 a3 a4 a5 m h n G2 hl w⟩
    · by_cases hl2 : n < (s.size : Int)
      · exact ⟨0, 0, 0, 0, 0, 0, false, false, ⟨#[]⟩, 3, fun w => Decode_more s hz a0 a1 a2 a3 a4 a5 m h n G1 hl2 w, fun w => PacketRead_more s hz a0 a1 a2 a3 a4 a5 m h n G2 hl2 w⟩
      · obtain rfl : n = (s.size : Int) := by omega
        by_cases hF : pf a2 a3 a4 a5 m h (s.extract 20 s.size).size = 0
        · exact ⟨a0, a1, a2, a3, a4, a5, m, h, s.extract 20 s.size, 0, fun w => Decode_yes s hz h20 a0 a1 a2 a3 a4 a5 m h G1 _ rfl hbz hF w, fun w => PacketRead_yes s hz h20 a0 a1 a2 a3 a4 a5 m h G2 _ rfl hbz hF w⟩
        · exact ⟨0, 0, 0, 0, 0, 0, false, false, ⟨#[]⟩, pf a2 a3 a4 a5 m h (s.extract 20 s.size).size, fun w => Decode_no s hz h20 a0 a1 a2 a3 a4 a5 m h G1 _ rfl hbz _ rfl (by simpa using hF) (by simpa using hF) w, fun w => PacketRead_no s hz h20 a0 a1 a2 a3 a4 a5 m h G2 _ rfl hbz _ rfl (by simpa using hF) (by simpa using hF) w⟩
  · exact ⟨0, 0, 0, 0, 0, 0, false, false, ⟨#[]⟩, e, fun w => Decode_err s hz a0 a1 a2 a3 a4 a5 m h n e G1 (by simpa using k0) (by simpa using k0) w, fun w => PacketRead_err s hz a0 a1 a2 a3 a4 a5 m h n e G2 (by simpa using k0) (by simpa using k0) w⟩
set_option maxRecDepth 100000 in
set_option maxHeartbeats 1600000 in
theorem law (s : ByteArray) (hs : s.size ≤ 9223372036854775807) (w : World) :
    Calls Try.prog 7 #[.string s] w fun e w' => e = .returned (.bool true) ∧ Below w.heap.size w w' := by
  have hb := cutb_size s 40
  obtain ⟨a0, a1, a2, a3, a4, a5, m, h, n, e, h20, G1, G2⟩ := heads (cutb s 40) (by omega)
  obtain ⟨b0, b1, b2, b3, b4, b5, m', h', b, f, G3, G4⟩ := decodes (cutb s 40) (by omega)
  have G0 := begin_calls s 40 hs
  clear h20
  generalize cutb s 40 = c at hb G0 G1 G2 G3 G4
  have H0 := Lib.hid G0
  have H1 := Lib.hid G1
  have H2 := Lib.hid G2
  have H3 := Lib.hid G3
  have H4 := Lib.hid G4
  clear G0 G1 G2 G3 G4
  go_enter Try.func7, Try.ntmps7
  go_wp2_with fail
  refine (pktLives_calls _).mono ?_
  rintro x w1 ⟨rfl, hb1⟩
  go_wp2_with fail
  refine (H0 _).mono ?_
  rintro x w2 ⟨rfl, hb2⟩
  go_wp2_with fail
  refine (H1 _).mono ?_
  rintro x w3 ⟨rfl, hb3⟩
  have Z3 := Lib.hid (below_step (below_step hb1 hb2) hb3)
  clear hb1 hb2 hb3
  go_wp2_with fail
  have B3 := Lib.hid (blk_new w3 (.cells #[.int .u32 a0, .int .u32 a1, .int .i64 a2, .int .i64 a3, .int .i64 a4, .int .i64 a5, .bool m, .bool h, .string ⟨#[]⟩] 30))
  have Z4 := Lib.hid (below_alloc Z3 (.cells #[.int .u32 a0, .int .u32 a1, .int .i64 a2, .int .i64 a3, .int .i64 a4, .int .i64 a5, .bool m, .bool h, .string ⟨#[]⟩] 30))
  have g3 := Lib.hid (below_size Z3)
  clear Z3
  generalize w3.heap.size = k at B3 g3 ⊢
  refine (H2 _).mono ?_
  rintro x w4 ⟨rfl, hb4⟩
  have B4 := Lib.hid (blk_below B3 hb4)
  have Z5 := Lib.hid (below_step Z4 hb4)
  clear hb4 B3 Z4
  obtain ⟨c0, c1, c2, c3, c4, c5, c6, c7, c8, cf, cl⟩ := LwPktEncodes.cells9 B4
  go_wp2_with fail
  have ne : Hid (k ≠ w4.heap.size) := by have := cl; show _ ≠ _; omega
  have B5 := Lib.hid (blk_alloc B4 (.cells #[.int .u32 a0, .int .u32 a1, .int .i64 a2, .int .i64 a3, .int .i64 a4, .int .i64 a5, .bool m, .bool h, .string ⟨#[]⟩] 30))
  have Q5 := Lib.hid (blk_new w4 (.cells #[.int .u32 a0, .int .u32 a1, .int .i64 a2, .int .i64 a3, .int .i64 a4, .int .i64 a5, .bool m, .bool h, .string ⟨#[]⟩] 30))
  have Z6 := Lib.hid (below_alloc Z5 (.cells #[.int .u32 a0, .int .u32 a1, .int .i64 a2, .int .i64 a3, .int .i64 a4, .int .i64 a5, .bool m, .bool h, .string ⟨#[]⟩] 30))
  have g4 := Lib.hid (below_size Z5)
  clear B4 Z5 c0 c1 c2 c3 c4 c5 c6 c7 c8 cf cl
  generalize w4.heap.size = q at Q5 ne g4 ⊢
  refine (H3 _).mono ?_
  rintro x w5 ⟨rfl, hb5⟩
  have B6 := Lib.hid (blk_below B5 hb5)
  have Q6 := Lib.hid (blk_below Q5 hb5)
  have Z7 := Lib.hid (below_step Z6 hb5)
  clear hb5 B5 Q5 Z6
  obtain ⟨c0, c1, c2, c3, c4, c5, c6, c7, c8, cf, cl⟩ := LwPktEncodes.cells9 B6
  obtain ⟨q0, q1, q2, q3, q4, q5, q6, q7, q8, qf, ql⟩ := LwPktEncodes.cells9 Q6
  have n1 : (q = k) = False := eq_false (Ne.symm ne)
  have n2 : (k = q) = False := eq_false ne
  go_wp2_with fail
  have B7 := Lib.hid (LwPktEncodes.put9 (.int .u32 b0) (.int .u32 b1) (.int .i64 b2) (.int .i64 b3) (.int .i64 b4) (.int .i64 b5) (.bool m') (.bool h') (.string b) B6)
  have Q7 := Lib.hid (far9 (.int .u32 b0) (.int .u32 b1) (.int .i64 b2) (.int .i64 b3) (.int .i64 b4) (.int .i64 b5) (.bool m') (.bool h') (.string b) Q6 ne)
  have Z8 := Lib.hid (LwPktEncodes.below9 (.int .u32 b0) (.int .u32 b1) (.int .i64 b2) (.int .i64 b3) (.int .i64 b4) (.int .i64 b5) (.bool m') (.bool h') (.string b) Z7 g3)
  clear B6 Q6 Z7 c0 c1 c2 c3 c4 c5 c6 c7 c8 cf cl q0 q1 q2 q3 q4 q5 q6 q7 q8 qf ql
  refine (H4 _).mono ?_
  rintro x w6 ⟨rfl, hb6⟩
  have B8 := Lib.hid (blk_below B7 hb6)
  have Q8 := Lib.hid (blk_below Q7 hb6)
  have Z9 := Lib.hid (below_step Z8 hb6)
  clear hb6 B7 Q7 Z8
  obtain ⟨c0, c1, c2, c3, c4, c5, c6, c7, c8, cf, cl⟩ := LwPktEncodes.cells9 B8
  obtain ⟨q0, q1, q2, q3, q4, q5, q6, q7, q8, qf, ql⟩ := LwPktEncodes.cells9 Q8
  go_wp2_with fail
  go_ret
  exact ⟨rfl, LwPktEncodes.below9 _ _ _ _ _ _ _ _ _ Z9 g4⟩
end Go.Proofs.Ythpohaafphaidaa.LwPktDecodes
