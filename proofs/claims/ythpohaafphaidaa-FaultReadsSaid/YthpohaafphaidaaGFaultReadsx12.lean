-- a text that a program of this session wrote
import Derived.Test.YthpohaafphaidaaQF9
import Derived.Test.YthpohaafphaidaaQF7
import Derived.Test.YthpohaafphaidaaGFaultReadsx0
import Derived.Test.YthpohaafphaidaaGFaultReadsx10
import Derived.Test.YthpohaafphaidaaGFaultReadsx11
namespace Go.Proofs.Ythpohaafphaidaa.GFaultReads
open Go.RowKit Go.Proofs.YthpohaafphaidaaW.PrintWords Go.Proofs.YthpohaafphaidaaW.PrintLast Go.Proofs.YthpohaafphaidaaW.PrintMore
attribute [local go_sem] max2_int min2_int max_two min_two max_three min_three max_four min_four   -- for this text's walks alone
attribute [local go_sem high] Go.Proofs.Ythpohaafphaidaa.Fit.run_string_add_fit
set_option linter.unusedVariables false
set_option linter.unusedSimpArgs false

/-! ### patchbayref2_NoteOf: function 40 -/
def patchbayref2_NoteOf.j0 : Nat → Bool → Int → Int → Int → Int → Int → Int → Bool → Bool → ByteArray → Option (Int × Int × Int × Int × Int × Int × ByteArray × Int)
 | 0, _, _, _, _, _, _, _, _, _, _ => none
 | k + 1, x32, x172000, x172001, x172002, x172003, x172004, x172005, x172006, x172007, x172008 => if x32 = true then (some (0, 0, 0, 0, 0, 0, (⟨#[]⟩ : ByteArray), 3)) else (if 0 < (x172008.size : Int) then (if 4 ≤ (x172008.size : Int) then (if (wrap64 (bt x172008 0)) = 9 then (if 0 ≤ 2 then (if 2 ≤ ((x172008.extract 4 x172008.size).size : Int) then ((patchbayref2_Value.f k ((x172008.extract 4 x172008.size).extract 0 2)).bind fun t173 => (if 2 ≤ 4 then (if 4 ≤ ((x172008.extract 4 x172008.size).size : Int) then ((patchbayref2_Value.f k ((x172008.extract 4 x172008.size).extract 2 4)).bind fun t174 => (if 4 ≤ (mn 12 ((x172008.extract 4 x172008.size).size : Int)) then (if (mn 12 ((x172008.extract 4 x172008.size).size : Int)) ≤ ((x172008.extract 4 x172008.size).size : Int) then (some (9, x172000, x172001, 1, t173, t174, (x172008.extract 4 x172008.size).extract 4 ((mn 12 ((x172008.extract 4 x172008.size).size : Int)) : Int).toNat, 0)) else (none)) else (none))) else (none)) else (none))) else (none)) else (none)) else ((patchbayref2_HeadRead.f k (x172008.extract 4 x172008.size)).bind fun bt175 => (if (wrap64 (bt x172008 0)) < 1 then (some (0, 0, 0, 0, 0, 0, (⟨#[]⟩ : ByteArray), 3)) else (if (wrap64 (bt x172008 0)) > 6 then (some (0, 0, 0, 0, 0, 0, (⟨#[]⟩ : ByteArray), 3)) else (if bt175.2.2.2.2.2.2.2.2.2.2 = 0 then (if ((x172008.extract 4 x172008.size).size : Int) = (mn 28 bt175.2.2.2.2.2.2.2.2.2.1) then (if 20 ≤ ((x172008.extract 4 x172008.size).size : Int) then (some (wrap64 (bt x172008 0), bt175.1, bt175.2.1, bt175.2.2.1, bt175.2.2.2.2.1, bt175.2.2.2.2.2.1, (x172008.extract 4 x172008.size).extract 20 (x172008.extract 4 x172008.size).size, 0)) else (none)) else (some (0, 0, 0, 0, 0, 0, (⟨#[]⟩ : ByteArray), 3))) else (some (0, 0, 0, 0, 0, 0, (⟨#[]⟩ : ByteArray), 3))))))) else (none)) else (none))
def patchbayref2_NoteOf.f (k : Nat) (a0_0 : Int) (a0_1 : Int) (a0_2 : Int) (a0_3 : Int) (a0_4 : Int) (a0_5 : Int) (a0_6 : Bool) (a0_7 : Bool) (a0_8 : ByteArray) : Option (Int × Int × Int × Int × Int × Int × ByteArray × Int) := if a0_2 = 1 then (if a0_5 > 0 then (patchbayref2_NoteOf.j0 k true a0_0 a0_1 a0_2 a0_3 a0_4 a0_5 a0_6 a0_7 a0_8) else (if a0_6 = true then (patchbayref2_NoteOf.j0 k true a0_0 a0_1 a0_2 a0_3 a0_4 a0_5 a0_6 a0_7 a0_8) else (if (a0_8.size : Int) < 8 then (patchbayref2_NoteOf.j0 k true a0_0 a0_1 a0_2 a0_3 a0_4 a0_5 a0_6 a0_7 a0_8) else (if 1 ≤ 4 then (if 4 ≤ (a0_8.size : Int) then (patchbayref2_NoteOf.j0 k ((a0_8.extract 1 4).toList != ([0, 0, 0] : List UInt8)) a0_0 a0_1 a0_2 a0_3 a0_4 a0_5 a0_6 a0_7 a0_8) else (none)) else (none))))) else (patchbayref2_NoteOf.j0 k true a0_0 a0_1 a0_2 a0_3 a0_4 a0_5 a0_6 a0_7 a0_8)
theorem patchbayref2_NoteOf.mono_l : ∀ k, (∀ y0 y1 y2 y3 y4 y5 y6 y7 y8 y9, LeO (patchbayref2_NoteOf.j0 k y0 y1 y2 y3 y4 y5 y6 y7 y8 y9) (patchbayref2_NoteOf.j0 (k + 1) y0 y1 y2 y3 y4 y5 y6 y7 y8 y9))
 | 0 => fun _ _ _ _ _ _ _ _ _ _ r h => by simp [patchbayref2_NoteOf.j0] at h
 | k + 1 => by
  have ih0 := patchbayref2_NoteOf.mono_l k
  ·intro y0 y1 y2 y3 y4 y5 y6 y7 y8 y9
   unfold patchbayref2_NoteOf.j0
   repeat' first
   | (with_reducible exact ih0 _ _ _ _ _ _ _ _ _ _)
   | (with_reducible exact patchbayref2_HeadRead.mono _ _)
   | (with_reducible exact patchbayref2_Value.mono _ _)
   | (with_reducible exact LeO.refl _)
   | (with_reducible exact LeO.none _)
   | (with_reducible refine LeO.ite ?_ ?_)
   | (with_reducible refine LeO.bind ?_ (fun _ => ?_))
   | exact ih0 _ _ _ _ _ _ _ _ _ _
   | exact patchbayref2_HeadRead.mono _ _
   | exact patchbayref2_Value.mono _ _
   | exact LeO.none _
   | refine LeO.ite ?_ ?_
   | refine LeO.bind ?_ (fun _ => ?_)
theorem patchbayref2_NoteOf.mono : ∀ a0 a1 a2 a3 a4 a5 a6 a7 a8 k, LeO (patchbayref2_NoteOf.f k a0 a1 a2 a3 a4 a5 a6 a7 a8) (patchbayref2_NoteOf.f (k + 1) a0 a1 a2 a3 a4 a5 a6 a7 a8) := by
 intro a0 a1 a2 a3 a4 a5 a6 a7 a8 k
 have ih0 := patchbayref2_NoteOf.mono_l k
 unfold patchbayref2_NoteOf.f
 repeat' first
   | (with_reducible exact ih0 _ _ _ _ _ _ _ _ _ _)
   | (with_reducible exact patchbayref2_HeadRead.mono _ _)
   | (with_reducible exact patchbayref2_Value.mono _ _)
   | (with_reducible exact LeO.refl _)
   | (with_reducible exact LeO.none _)
   | (with_reducible refine LeO.ite ?_ ?_)
   | (with_reducible refine LeO.bind ?_ (fun _ => ?_))
   | exact ih0 _ _ _ _ _ _ _ _ _ _
   | exact patchbayref2_HeadRead.mono _ _
   | exact patchbayref2_Value.mono _ _
   | exact LeO.none _
   | refine LeO.ite ?_ ?_
   | refine LeO.bind ?_ (fun _ => ?_)
def patchbayref2_NoteOf.T3 : Bool × List (List Nat × List Nat) := (true, [([], []), ([0], [0]), ([1], [1]), ([2], [2]), ([], []), ([4], [4]), ([5], [5]), ([3, 0, 1, 2, 3], [3]), ([6, 7, 0, 1, 2, 3, 4, 5, 6, 7], [6])])
def patchbayref2_NoteOf.B3 : List Nat := [0, 1, 3, 7, 0, 16, 48, 15, 255]
theorem patchbayref2_NoteOf.tab3 : rtab .any (opsOf Try.f40 3) = patchbayref2_NoteOf.T3 := by kernel_rfl
theorem patchbayref2_NoteOf.bits3 : waitsOk patchbayref2_NoteOf.T3.2 patchbayref2_NoteOf.B3 = true := by kernel_rfl
def patchbayref2_NoteOf.T5 : Bool × List (List Nat × List Nat) := (true, [([], []), ([0], [0]), ([], []), ([2], [2]), ([], []), ([4], [4]), ([5], [5]), ([], []), ([7], [7]), ([8, 6], [8]), ([], []), ([], []), ([11], [11]), ([12], [12]), ([10, 13], [10, 13]), ([1, 3, 6, 9, 14], [1, 3, 6, 9, 14]), ([15, 9, 0, 1, 2, 3, 4, 5, 6, 7, 8, 9, 10, 11, 12, 13, 14, 15], [15]), ([16, 0, 1, 2, 3, 4, 5, 6, 7, 8, 9, 10, 11, 12, 13, 14, 15, 16], [])])
def patchbayref2_NoteOf.B5 : List Nat := [0, 1, 0, 4, 0, 16, 48, 0, 128, 496, 0, 0, 2048, 6144, 15360, 32767, 65535, 131071]
theorem patchbayref2_NoteOf.tab5 : rtab .any (opsOf Try.f40 5) = patchbayref2_NoteOf.T5 := by kernel_rfl
theorem patchbayref2_NoteOf.bits5 : waitsOk patchbayref2_NoteOf.T5.2 patchbayref2_NoteOf.B5 = true := by kernel_rfl
def patchbayref2_NoteOf.T9 : Bool × List (List Nat × List Nat) := (true, [([], []), ([], []), ([1], [1]), ([], []), ([3], [3]), ([], []), ([5], [5]), ([], []), ([7], [7]), ([], []), ([9], [9]), ([], []), ([11], [11]), ([0, 2, 4, 6, 8, 10, 12], [0, 2, 4, 6, 8, 10, 12]), ([13, 0, 1, 2, 3, 4, 5, 6, 7, 8, 9, 10, 11, 12, 13], [13]), ([14, 0, 1, 2, 3, 4, 5, 6, 7, 8, 9, 10, 11, 12, 13, 14], [])])
def patchbayref2_NoteOf.B9 : List Nat := [0, 0, 2, 0, 8, 0, 32, 0, 128, 0, 512, 0, 2048, 8191, 16383, 32767]
theorem patchbayref2_NoteOf.tab9 : rtab .any (opsOf Try.f40 9) = patchbayref2_NoteOf.T9 := by kernel_rfl
theorem patchbayref2_NoteOf.bits9 : waitsOk patchbayref2_NoteOf.T9.2 patchbayref2_NoteOf.B9 = true := by kernel_rfl
set_option maxHeartbeats 20000000 in
set_option maxRecDepth 100000 in
theorem patchbayref2_NoteOf.calls (k : Nat) (a0_0 : Int) (a0_1 : Int) (a0_2 : Int) (a0_3 : Int) (a0_4 : Int) (a0_5 : Int) (a0_6 : Bool) (a0_7 : Bool) (a0_8 : ByteArray) (r1 : Int) (r2 : Int) (r3 : Int) (r4 : Int) (r5 : Int) (r6 : Int) (r7 : ByteArray) (r8 : Int) (w : World) (h : patchbayref2_NoteOf.f k a0_0 a0_1 a0_2 a0_3 a0_4 a0_5 a0_6 a0_7 a0_8 = some (r1, r2, r3, r4, r5, r6, r7, r8)) :
  Calls Try.prog 40 #[.agg #[.int .u32 a0_0, .int .u32 a0_1, .int .i64 a0_2, .int .i64 a0_3, .int .i64 a0_4, .int .i64 a0_5, .bool a0_6, .bool a0_7, .string a0_8]] w fun e w' => e = .returned (.tuple #[.agg #[.int .i64 r1, .int .u32 r2, .int .u32 r3, .int .i64 r4, .int .i64 r5, .int .i64 r6, .string r7], .int .i64 r8]) ∧ Below w.heap.size w w' := by
 have hu30 := Try.underlying30
 have hu63 := Try.underlying63
 have HB := Aside0.mk (Below.refl w.heap.size w)
 have H : (if a0_2 = 1 then (if a0_5 > 0 then (patchbayref2_NoteOf.j0 k true a0_0 a0_1 a0_2 a0_3 a0_4 a0_5 a0_6 a0_7 a0_8) else (if a0_6 = true then (patchbayref2_NoteOf.j0 k true a0_0 a0_1 a0_2 a0_3 a0_4 a0_5 a0_6 a0_7 a0_8) else (if (a0_8.size : Int) < 8 then (patchbayref2_NoteOf.j0 k true a0_0 a0_1 a0_2 a0_3 a0_4 a0_5 a0_6 a0_7 a0_8) else (if 1 ≤ 4 then (if 4 ≤ (a0_8.size : Int) then (patchbayref2_NoteOf.j0 k ((a0_8.extract 1 4).toList != ([0, 0, 0] : List UInt8)) a0_0 a0_1 a0_2 a0_3 a0_4 a0_5 a0_6 a0_7 a0_8) else (none)) else (none))))) else (patchbayref2_NoteOf.j0 k true a0_0 a0_1 a0_2 a0_3 a0_4 a0_5 a0_6 a0_7 a0_8)) = some (r1, r2, r3, r4, r5, r6, r7, r8) := h
 clear h
 have HC2 := Aside0.mk H
 clear H
 go_enter Try.func40, Try.ntmps40
 go_upto_region 1 with (first | ((with_reducible refine gate_dst (N := 1) rfl ?_); (try (refine gate_guard (by rfl) ?_; dsimp only)); refine box_event ?hg (N := 1) ?hd (cs := #[.int .u32 a0_0, .int .u32 a0_1, .int .i64 a0_2, .int .i64 a0_3, .int .i64 a0_4, .int .i64 a0_5, .bool a0_6, .bool a0_7, .string a0_8]) (t := 30) ?hr ?_; (case hd => rfl); (case hg => rfl); (case hr => first | (go_simp; done) | (go_simp; rfl)); intro gb171 hg w3 hbox hb; have n0_ := Aside0.mk (below_step (Fit.bl HB.out) hb); have n1_ := Aside0.mk (hbox); have n2_ := Aside0.mk ((by rw [hg]; exact (below_size (Fit.bl HB.out)) : w.heap.size ≤ gb171)); have n3_ := Aside0.mk ((by rw [hg]; exact (below_size (Fit.bl HB.out)) : w.heap.size ≤ gb171)); clear HB; have HB := n0_; have BK171 := n1_; have GW171 := n2_; have GE171 := n3_; clear n0_ n1_ n2_ n3_; clear hb hbox hg) | ((with_reducible refine gate_dst (N := 2) rfl ?_); (try (refine gate_guard (by rfl) ?_; dsimp only)); refine box_event ?hg (N := 2) ?hd (cs := #[.int .i64 0, .int .u32 0, .int .u32 0, .int .i64 0, .int .i64 0, .int .i64 0, .string (⟨#[]⟩ : ByteArray)]) (t := 63) ?hr ?_; (case hd => rfl); (case hg => rfl); (case hr => first | (go_simp; done) | (go_simp; rfl)); intro gb172 hg w4 hbox hb; have n0_ := Aside0.mk (blk_below (g := gb171) (Fit.pk BK171.out) hb); have n1_ := Aside0.mk (below_step (Fit.bl HB.out) hb); have n2_ := Aside0.mk (hbox); have n3_ := Aside0.mk ((by rw [hg]; exact (below_size (Fit.bl HB.out)) : w.heap.size ≤ gb172)); have n4_ := Aside0.mk ((by rw [hg]; exact (below_size (Fit.bl HB.out)) : w.heap.size ≤ gb172)); have n5_ := Aside0.mk ((by rw [hg]; exact Nat.ne_of_lt (blk_lt (g := gb171) (Fit.pk BK171.out)) : gb171 ≠ gb172)); have n6_ := Aside0.mk ((by rw [hg]; exact Nat.ne_of_gt (blk_lt (g := gb171) (Fit.pk BK171.out)) : gb172 ≠ gb171)); clear BK171; clear HB; have BK171 := n0_; have HB := n1_; have BK172 := n2_; have GW172 := n3_; have GE172 := n4_; have NB171_172 := n5_; have NB172_171 := n6_; clear n0_ n1_ n2_ n3_ n4_ n5_ n6_; clear hb hbox hg))
 (try simp only [Act.put, List.setIfInBounds_toArray, List.set_cons_zero, List.set_cons_succ])
 go_cut [32] (fun v32 wc => ∃ (kq : Nat) (x32_1 : Bool), v32 = .bool x32_1 ∧ Aside0 (patchbayref2_NoteOf.j0 kq x32_1 a0_0 a0_1 a0_2 a0_3 a0_4 a0_5 a0_6 a0_7 a0_8 = some (r1, r2, r3, r4, r5, r6, r7, r8)) ∧ Aside0 (kq ≤ k) ∧ Aside0 (wc.heap[gb171]? = some (.cells #[.int .u32 a0_0, .int .u32 a0_1, .int .i64 a0_2, .int .i64 a0_3, .int .i64 a0_4, .int .i64 a0_5, .bool a0_6, .bool a0_7, .string a0_8] 30 (0, 0))) ∧ Aside0 (wc.heap[gb172]? = some (.cells #[.int .i64 0, .int .u32 0, .int .u32 0, .int .i64 0, .int .i64 0, .int .i64 0, .string (⟨#[]⟩ : ByteArray)] 63 (0, 0))) ∧ Aside0 (Below w.heap.size w wc))
 case first =>
  have H := HC2.out
  clear HC2
  by_cases c5 : a0_2 = 1
  ·rw [if_pos c5] at H
   have c5b0 : (a0_2 == 1) = true := beq_iff_eq.mpr c5
   have c5b1 : (a0_2 != 1) = false := bne_eq_false_iff_eq.mpr c5
   clear c5
   (first | rw [c5b0] | (simp only [i64_w, i32_w]; rw [c5b0]) | skip)
   by_cases c6 : a0_5 > 0
   ·rw [if_pos c6] at H
    have c6b0 : decide (0 < a0_5) = true := decide_eq_true c6
    clear c6
    have H' := Aside0.mk H
    clear H
    have hnb7 := NB171_172.out
    have hnc7 := NB172_171.out
    obtain ⟨hcz8_0, hcz8_1, hcz8_2, hcz8_3, hcz8_4, hcz8_5, hcz8_6, hcz8_7, hcz8_8, hfz8_0⟩ := Fit.cells9 BK171.out
    go_wp2
    go_meet
    case rel => exact ⟨_, (true), (by first | rfl | (simp; done) | (simp [*]; done)), H', ⟨by first | omega | exact Nat.le_refl _⟩, ⟨by (with_reducible repeat first | apply blk_drewN | apply blk_drew | apply blk_alloc); exact BK171.out⟩, ⟨by (with_reducible repeat first | apply blk_drewN | apply blk_drew | apply blk_alloc); exact BK172.out⟩, ⟨Fit.bl HB.out⟩⟩
   ·rw [if_neg c6] at H
    have c6b0 : decide (0 < a0_5) = false := decide_eq_false c6
    clear c6
    by_cases c9 : a0_6 = true
    ·subst c9
     have H1 : (patchbayref2_NoteOf.j0 k true a0_0 a0_1 a0_2 a0_3 a0_4 a0_5 true a0_7 a0_8) = some (r1, r2, r3, r4, r5, r6, r7, r8) := by rw [if_pos rfl] at H; exact H
     clear H
     have H := H1
     clear H1
     have H' := Aside0.mk H
     clear H
     have hnb10 := NB171_172.out
     have hnc10 := NB172_171.out
     obtain ⟨hcz11_0, hcz11_1, hcz11_2, hcz11_3, hcz11_4, hcz11_5, hcz11_6, hcz11_7, hcz11_8, hfz11_0⟩ := Fit.cells9 BK171.out
     go_wp2
     go_meet
     case rel => exact ⟨_, (true), (by first | rfl | (simp; done) | (simp [*]; done)), H', ⟨by first | omega | exact Nat.le_refl _⟩, ⟨by (with_reducible repeat first | apply blk_drewN | apply blk_drew | apply blk_alloc); exact BK171.out⟩, ⟨by (with_reducible repeat first | apply blk_drewN | apply blk_drew | apply blk_alloc); exact BK172.out⟩, ⟨Fit.bl HB.out⟩⟩
    ·replace c9 := Bool.eq_false_iff.mpr c9
     subst c9
     have H1 : (if (a0_8.size : Int) < 8 then (patchbayref2_NoteOf.j0 k true a0_0 a0_1 a0_2 a0_3 a0_4 a0_5 false a0_7 a0_8) else (if 1 ≤ 4 then (if 4 ≤ (a0_8.size : Int) then (patchbayref2_NoteOf.j0 k ((a0_8.extract 1 4).toList != ([0, 0, 0] : List UInt8)) a0_0 a0_1 a0_2 a0_3 a0_4 a0_5 false a0_7 a0_8) else (none)) else (none))) = some (r1, r2, r3, r4, r5, r6, r7, r8) := by rw [if_neg (show ¬ (false = true) by decide)] at H; exact H
     clear H
     have H := H1
     clear H1
     by_cases c12 : (a0_8.size : Int) < 8
     ·rw [if_pos c12] at H
      have c12b0 : decide ((a0_8.size : Int) < 8) = true := decide_eq_true c12
      have c12b1 : decide (a0_8.size < 8) = true := decide_eq_true (by omega)
      clear c12
      have H' := Aside0.mk H
      clear H
      have hnb13 := NB171_172.out
      have hnc13 := NB172_171.out
      obtain ⟨hcz14_0, hcz14_1, hcz14_2, hcz14_3, hcz14_4, hcz14_5, hcz14_6, hcz14_7, hcz14_8, hfz14_0⟩ := Fit.cells9 BK171.out
      go_wp2
      go_meet
      case rel => exact ⟨_, (true), (by first | rfl | (simp; done) | (simp [*]; done)), H', ⟨by first | omega | exact Nat.le_refl _⟩, ⟨by (with_reducible repeat first | apply blk_drewN | apply blk_drew | apply blk_alloc); exact BK171.out⟩, ⟨by (with_reducible repeat first | apply blk_drewN | apply blk_drew | apply blk_alloc); exact BK172.out⟩, ⟨Fit.bl HB.out⟩⟩
     ·rw [if_neg c12] at H
      have c12b0 : decide ((a0_8.size : Int) < 8) = false := decide_eq_false c12
      have c12b1 : decide (a0_8.size < 8) = false := decide_eq_false (by omega)
      clear c12
      by_cases c15 : 1 ≤ 4
      ·rw [if_pos c15] at H
       have c15b0 := eq_true c15
       have c15b1 : decide (1 ≤ 4) = true := decide_eq_true c15
       clear c15
       by_cases c16 : 4 ≤ (a0_8.size : Int)
       ·rw [if_pos c16] at H
        have c16b0 := eq_true c16
        have c16b1 : decide (4 ≤ (a0_8.size : Int)) = true := decide_eq_true c16
        clear c16
        have H' := Aside0.mk H
        clear H
        have hnb17 := NB171_172.out
        have hnc17 := NB172_171.out
        obtain ⟨hcz18_0, hcz18_1, hcz18_2, hcz18_3, hcz18_4, hcz18_5, hcz18_6, hcz18_7, hcz18_8, hfz18_0⟩ := Fit.cells9 BK171.out
        go_wp2
        go_meet
        case rel => exact ⟨_, (((a0_8.extract 1 4).toList != ([0, 0, 0] : List UInt8))), (by first | rfl | (simp; done) | (simp [*]; done)), H', ⟨by first | omega | exact Nat.le_refl _⟩, ⟨by (with_reducible repeat first | apply blk_drewN | apply blk_drew | apply blk_alloc); exact BK171.out⟩, ⟨by (with_reducible repeat first | apply blk_drewN | apply blk_drew | apply blk_alloc); exact BK172.out⟩, ⟨Fit.bl HB.out⟩⟩
       ·rw [if_neg c16] at H
        exact absurd H (by simp)
      ·rw [if_neg c15] at H
       exact absurd H (by simp)
  ·rw [if_neg c5] at H
   have c5b0 : (a0_2 == 1) = false := beq_eq_false_iff_ne.mpr c5
   have c5b1 : (a0_2 != 1) = true := bne_iff_ne.mpr c5
   (first | rw [c5b0] | (simp only [i64_w, i32_w]; rw [c5b0]) | skip)
   have H' := Aside0.mk H
   clear H
   have hnb19 := NB171_172.out
   have hnc19 := NB172_171.out
   obtain ⟨hcz20_0, hcz20_1, hcz20_2, hcz20_3, hcz20_4, hcz20_5, hcz20_6, hcz20_7, hcz20_8, hfz20_0⟩ := Fit.cells9 BK171.out
   go_wp2
   go_meet
   case rel => exact ⟨_, (true), (by first | rfl | (simp; done) | (simp [*]; done)), H', ⟨by first | omega | exact Nat.le_refl _⟩, ⟨by (with_reducible repeat first | apply blk_drewN | apply blk_drew | apply blk_alloc); exact BK171.out⟩, ⟨by (with_reducible repeat first | apply blk_drewN | apply blk_drew | apply blk_alloc); exact BK172.out⟩, ⟨Fit.bl HB.out⟩⟩
 case rest =>
  clear HC2
  try clear c1
  try clear p2
  try clear c4
  try clear c5
  try clear c5b0
  try clear c5b1
  try clear c6
  try clear c6b0
  try clear c7
  try clear c9
  try clear c10
  try clear c12
  try clear c12b0
  try clear c12b1
  try clear c13
  try clear c15
  try clear c15b0
  try clear c15b1
  try clear c16
  try clear c16b0
  try clear c16b1
  try clear c17
  try clear c19
  try clear hcz11_0
  try clear hcz11_1
  try clear hcz11_2
  try clear hcz11_3
  try clear hcz11_4
  try clear hcz11_5
  try clear hcz11_6
  try clear hcz11_7
  try clear hcz11_8
  try clear hcz14_0
  try clear hcz14_1
  try clear hcz14_2
  try clear hcz14_3
  try clear hcz14_4
  try clear hcz14_5
  try clear hcz14_6
  try clear hcz14_7
  try clear hcz14_8
  try clear hcz18_0
  try clear hcz18_1
  try clear hcz18_2
  try clear hcz18_3
  try clear hcz18_4
  try clear hcz18_5
  try clear hcz18_6
  try clear hcz18_7
  try clear hcz18_8
  try clear hcz20_0
  try clear hcz20_1
  try clear hcz20_2
  try clear hcz20_3
  try clear hcz20_4
  try clear hcz20_5
  try clear hcz20_6
  try clear hcz20_7
  try clear hcz20_8
  try clear hcz8_0
  try clear hcz8_1
  try clear hcz8_2
  try clear hcz8_3
  try clear hcz8_4
  try clear hcz8_5
  try clear hcz8_6
  try clear hcz8_7
  try clear hcz8_8
  try clear hfz11_0
  try clear hfz14_0
  try clear hfz18_0
  try clear hfz20_0
  try clear hfz8_0
  obtain ⟨kq, x32_1, rfl, HA, HJ1, BK171, BK172, HB⟩ := hcut
  cases kq with
  | zero => exact absurd HA.out (by simp [patchbayref2_NoteOf.j0])
  | succ kj1 =>
   have H := HA.out
   clear HA
   simp only [patchbayref2_NoteOf.j0] at H
   by_cases c21 : x32_1 = true
   ·subst c21
    have H1 : (some (0, 0, 0, 0, 0, 0, (⟨#[]⟩ : ByteArray), 3)) = some (r1, r2, r3, r4, r5, r6, r7, r8) := by rw [if_pos rfl] at H; exact H
    clear H
    have H := H1
    clear H1
    simp only [Option.some.injEq, Prod.mk.injEq] at H
    obtain ⟨rfl, rfl, rfl, rfl, rfl, rfl, rfl, rfl⟩ := H
    have hnb22 := NB172_171.out
    have hnc22 := NB171_172.out
    obtain ⟨hcz23_0, hcz23_1, hcz23_2, hcz23_3, hcz23_4, hcz23_5, hcz23_6, hfz23_0⟩ := Fit.cells7 BK172.out
    go_wp2
    refine bodyPost_ret (results_ct rfl _ _ gb172 63 #[.int .i64 0, .int .u32 0, .int .u32 0, .int .i64 0, .int .i64 0, .int .i64 0, .string (⟨#[]⟩ : ByteArray)] (0, 0) _ rfl (Fit.put7 (BK172.out)) Try.underlying63 rfl (by kernel_rfl)) rfl ?_
    exact ⟨by first | rfl | (simp [errW_none, errW_some] <;> rfl) | (simp [*, errW_none, errW_some] <;> rfl), Fit.bl HB.out⟩
   ·replace c21 := Bool.eq_false_iff.mpr c21
    subst c21
    have H1 : (if 0 < (a0_8.size : Int) then (if 4 ≤ (a0_8.size : Int) then (if (wrap64 (bt a0_8 0)) = 9 then (if 0 ≤ 2 then (if 2 ≤ ((a0_8.extract 4 a0_8.size).size : Int) then ((patchbayref2_Value.f kj1 ((a0_8.extract 4 a0_8.size).extract 0 2)).bind fun t173 => (if 2 ≤ 4 then (if 4 ≤ ((a0_8.extract 4 a0_8.size).size : Int) then ((patchbayref2_Value.f kj1 ((a0_8.extract 4 a0_8.size).extract 2 4)).bind fun t174 => (if 4 ≤ (mn 12 ((a0_8.extract 4 a0_8.size).size : Int)) then (if (mn 12 ((a0_8.extract 4 a0_8.size).size : Int)) ≤ ((a0_8.extract 4 a0_8.size).size : Int) then (some (9, a0_0, a0_1, 1, t173, t174, (a0_8.extract 4 a0_8.size).extract 4 ((mn 12 ((a0_8.extract 4 a0_8.size).size : Int)) : Int).toNat, 0)) else (none)) else (none))) else (none)) else (none))) else (none)) else (none)) else ((patchbayref2_HeadRead.f kj1 (a0_8.extract 4 a0_8.size)).bind fun bt175 => (if (wrap64 (bt a0_8 0)) < 1 then (some (0, 0, 0, 0, 0, 0, (⟨#[]⟩ : ByteArray), 3)) else (if (wrap64 (bt a0_8 0)) > 6 then (some (0, 0, 0, 0, 0, 0, (⟨#[]⟩ : ByteArray), 3)) else (if bt175.2.2.2.2.2.2.2.2.2.2 = 0 then (if ((a0_8.extract 4 a0_8.size).size : Int) = (mn 28 bt175.2.2.2.2.2.2.2.2.2.1) then (if 20 ≤ ((a0_8.extract 4 a0_8.size).size : Int) then (some (wrap64 (bt a0_8 0), bt175.1, bt175.2.1, bt175.2.2.1, bt175.2.2.2.2.1, bt175.2.2.2.2.2.1, (a0_8.extract 4 a0_8.size).extract 20 (a0_8.extract 4 a0_8.size).size, 0)) else (none)) else (some (0, 0, 0, 0, 0, 0, (⟨#[]⟩ : ByteArray), 3))) else (some (0, 0, 0, 0, 0, 0, (⟨#[]⟩ : ByteArray), 3))))))) else (none)) else (none)) = some (r1, r2, r3, r4, r5, r6, r7, r8) := by rw [if_neg (show ¬ (false = true) by decide)] at H; exact H
    clear H
    have H := H1
    clear H1
    by_cases c24 : 0 < (a0_8.size : Int)
    ·rw [if_pos c24] at H
     have c24b0 : decide (0 < (a0_8.size : Int)) = true := decide_eq_true c24
     have c24b1 : decide (0 < a0_8.size) = true := decide_eq_true (by omega)
     clear c24
     by_cases c26 : 4 ≤ (a0_8.size : Int)
     ·rw [if_pos c26] at H
      have c26b0 := eq_true c26
      have c26b1 : decide (4 ≤ (a0_8.size : Int)) = true := decide_eq_true c26
      clear c26
      by_cases c27 : (wrap64 (bt a0_8 0)) = 9
      ·rw [if_pos c27] at H
       have c27b0 : ((wrap64 (bt a0_8 0)) == 9) = true := beq_iff_eq.mpr c27
       have c27b1 : ((wrap64 (bt a0_8 0)) != 9) = false := bne_eq_false_iff_eq.mpr c27
       clear c27
       by_cases c28 : 0 ≤ 2
       ·rw [if_pos c28] at H
        have c28b0 := eq_true c28
        have c28b1 : decide (0 ≤ 2) = true := decide_eq_true c28
        clear c28
        by_cases c29 : 2 ≤ ((a0_8.extract 4 a0_8.size).size : Int)
        ·rw [if_pos c29] at H
         have c29b0 := eq_true c29
         have c29b1 : decide (2 ≤ ((a0_8.extract 4 a0_8.size).size : Int)) = true := decide_eq_true c29
         (try (have c29n0 := c29b0; simp only [ByteArray.size_extract, Nat.min_self, Nat.sub_zero] at c29n0))
         (try (have c29n1 := c29b1; simp only [ByteArray.size_extract, Nat.min_self, Nat.sub_zero] at c29n1))
         clear c29
         replace H := Option.bind_eq_some_iff.mp H
         obtain ⟨t173, A300, H⟩ := H
         replace H : (if 2 ≤ 4 then (if 4 ≤ ((a0_8.extract 4 a0_8.size).size : Int) then ((patchbayref2_Value.f kj1 ((a0_8.extract 4 a0_8.size).extract 2 4)).bind fun t174 => (if 4 ≤ (mn 12 ((a0_8.extract 4 a0_8.size).size : Int)) then (if (mn 12 ((a0_8.extract 4 a0_8.size).size : Int)) ≤ ((a0_8.extract 4 a0_8.size).size : Int) then (some (9, a0_0, a0_1, 1, t173, t174, (a0_8.extract 4 a0_8.size).extract 4 ((mn 12 ((a0_8.extract 4 a0_8.size).size : Int)) : Int).toNat, 0)) else (none)) else (none))) else (none)) else (none)) = some (r1, r2, r3, r4, r5, r6, r7, r8) := H
         have A30 := Aside0.mk A300
         clear A300
         by_cases c31 : 2 ≤ 4
         ·rw [if_pos c31] at H
          have c31b0 := eq_true c31
          have c31b1 : decide (2 ≤ 4) = true := decide_eq_true c31
          clear c31
          by_cases c32 : 4 ≤ ((a0_8.extract 4 a0_8.size).size : Int)
          ·rw [if_pos c32] at H
           have c32b0 := eq_true c32
           have c32b1 : decide (4 ≤ ((a0_8.extract 4 a0_8.size).size : Int)) = true := decide_eq_true c32
           (try (have c32n0 := c32b0; simp only [ByteArray.size_extract, Nat.min_self, Nat.sub_zero] at c32n0))
           (try (have c32n1 := c32b1; simp only [ByteArray.size_extract, Nat.min_self, Nat.sub_zero] at c32n1))
           clear c32
           replace H := Option.bind_eq_some_iff.mp H
           obtain ⟨t174, A330, H⟩ := H
           replace H : (if 4 ≤ (mn 12 ((a0_8.extract 4 a0_8.size).size : Int)) then (if (mn 12 ((a0_8.extract 4 a0_8.size).size : Int)) ≤ ((a0_8.extract 4 a0_8.size).size : Int) then (some (9, a0_0, a0_1, 1, t173, t174, (a0_8.extract 4 a0_8.size).extract 4 ((mn 12 ((a0_8.extract 4 a0_8.size).size : Int)) : Int).toNat, 0)) else (none)) else (none)) = some (r1, r2, r3, r4, r5, r6, r7, r8) := H
           have A33 := Aside0.mk A330
           clear A330
           obtain ⟨ji34, hji34⟩ : ∃ j_ : Int, (mn 12 ((a0_8.extract 4 a0_8.size).size : Int)) = j_ := ⟨_, rfl⟩
           replace H : (if 4 ≤ (ji34) then (if (ji34) ≤ ((a0_8.extract 4 a0_8.size).size : Int) then (some (9, a0_0, a0_1, 1, t173, t174, (a0_8.extract 4 a0_8.size).extract 4 ((ji34) : Int).toNat, 0)) else (none)) else (none)) = some (r1, r2, r3, r4, r5, r6, r7, r8) := by first | (rw [hji34] at H; exact H) | (simp only [hji34] at H ⊢; exact H)
           (try rw [hji34] at A30)
           (try rw [hji34] at A33)
           have hji34_ : (if ((a0_8.extract 4 a0_8.size).size : Int) < 12 then ((a0_8.extract 4 a0_8.size).size : Int) else 12) = ji34 := hji34
           (try (have hji34n := hji34_; simp only [ByteArray.size_extract, Nat.min_self, Nat.sub_zero] at hji34n))
           by_cases c35 : 4 ≤ (ji34)
           ·rw [if_pos c35] at H
            have c35b0 := eq_true c35
            have c35b1 : decide (4 ≤ (ji34)) = true := decide_eq_true c35
            clear c35
            by_cases c36 : (ji34) ≤ ((a0_8.extract 4 a0_8.size).size : Int)
            ·rw [if_pos c36] at H
             have c36b0 := eq_true c36
             have c36b1 : decide ((ji34) ≤ ((a0_8.extract 4 a0_8.size).size : Int)) = true := decide_eq_true c36
             (try (have c36n0 := c36b0; simp only [ByteArray.size_extract, Nat.min_self, Nat.sub_zero] at c36n0))
             (try (have c36n1 := c36b1; simp only [ByteArray.size_extract, Nat.min_self, Nat.sub_zero] at c36n1))
             clear c36
             simp only [Option.some.injEq, Prod.mk.injEq] at H
             obtain ⟨rfl, rfl, rfl, rfl, rfl, rfl, rfl, rfl⟩ := H
             try go_wp2
             have n0_ := Aside0.mk (blk_drew BK171.out)
             have n1_ := Aside0.mk (blk_drew BK172.out)
             have n2_ := Aside0.mk (below_drew1 HB.out)
             clear BK171
             clear BK172
             clear HB
             have BK171 := n0_
             have BK172 := n1_
             have HB := n2_
             clear n0_ n1_ n2_
             have p25 : 0 ≤ (0 : Int) := (by omega)
             have q25 : 0 < a0_8.size := (by have : (0 : Int) < (a0_8.size : Int) := of_decide_eq_true (by first | (with_reducible assumption) | assumption); omega)
             have hx25 : ∀ h : 0 < a0_8.size, ((a0_8[0]'h).toNat : Int) = bt a0_8 0 := bt_at a0_8 0
             clear p25
             have qi25 : (0 < (a0_8.size : Int)) = True := eq_true (of_decide_eq_true (by first | (with_reducible assumption) | assumption))
             replace q25 := eq_true q25
             refine start_ (n := 9) (S := fun w' => w'.cell? ⟨gb171, 0, none⟩ = some (.int .u32 a0_0) ∧ w'.cell? ⟨gb171, 1, none⟩ = some (.int .u32 a0_1) ∧ w'.cell? ⟨gb171, 2, none⟩ = some (.int .i64 a0_2) ∧ w'.cell? ⟨gb171, 3, none⟩ = some (.int .i64 a0_3) ∧ w'.cell? ⟨gb171, 4, none⟩ = some (.int .i64 a0_4) ∧ w'.cell? ⟨gb171, 5, none⟩ = some (.int .i64 a0_5) ∧ w'.cell? ⟨gb171, 6, none⟩ = some (.bool a0_6) ∧ w'.cell? ⟨gb171, 7, none⟩ = some (.bool a0_7) ∧ w'.cell? ⟨gb171, 8, none⟩ = some (.string a0_8)) (ds := []) #[false, false, false, false, false, false, false, false, false] (by kernel_rfl) rfl rfl ⟨(blk_cell BK171.out 0).trans rfl, (blk_cell BK171.out 1).trans rfl, (blk_cell BK171.out 2).trans rfl, (blk_cell BK171.out 3).trans rfl, (blk_cell BK171.out 4).trans rfl, (blk_cell BK171.out 5).trans rfl, (blk_cell BK171.out 6).trans rfl, (blk_cell BK171.out 7).trans rfl, (blk_cell BK171.out 8).trans rfl⟩ (fun hHeld => ?_); refine with_tabW patchbayref2_NoteOf.tab3 patchbayref2_NoteOf.bits3 (fun HT_ HW_ => ?_)
             generalize wc.drew = w37 at BK171 BK172 HB hHeld ⊢
             refine pure_ (i := 0) (N := some 34) (v := ?_) (a' := ?_) #[true, false, false, false, false, false, false, false, false] rfl rfl (any_of HT_.out (by kernel_rfl)) (fun _ _ _ h => h) (Or.inl ⟨by rfl, ?_⟩) ?_ ?_
             rotate_left
             ·intro w'
              go_simp
              with_reducible rfl
             rotate_left
             ·simp only [Act.put, List.setIfInBounds_toArray, List.set_cons_zero, List.set_cons_succ, i64_w, i32_w]
              rfl
             refine pure_ (i := 4) (N := some 38) (v := ?_) (a' := ?_) #[true, false, false, false, true, false, false, false, false] rfl rfl (any_of HT_.out (by kernel_rfl)) (fun _ _ _ h => h) (Or.inl ⟨by rfl, ?_⟩) ?_ ?_
             rotate_left
             ·intro w'
              go_simp
              with_reducible rfl
             rotate_left
             ·simp only [Act.put, List.setIfInBounds_toArray, List.set_cons_zero, List.set_cons_succ, i64_w, i32_w]
              rfl
             refine take_ (i := 1) (N := some 35) (v := ?_) (a' := ?_) #[true, true, false, false, true, false, false, false, false] rfl rfl (take_ofW HT_.out HW_.out (by kernel_rfl)) (fun _ _ _ h => h) (Or.inl ⟨by rfl, ?_⟩) hHeld ?_ ?_
             rotate_left
             ·rintro w' ⟨s0, s1, s2, s3, s4, s5, s6, s7, s8⟩
              go_simp
              with_reducible rfl
             rotate_left
             ·simp only [Act.put, List.setIfInBounds_toArray, List.set_cons_zero, List.set_cons_succ, i64_w, i32_w]
              rfl
             refine take_ (i := 2) (N := some 36) (v := ?_) (a' := ?_) #[true, true, true, false, true, false, false, false, false] rfl rfl (take_ofW HT_.out HW_.out (by kernel_rfl)) (fun _ _ _ h => h) (Or.inl ⟨by rfl, ?_⟩) hHeld ?_ ?_
             rotate_left
             ·rintro w' ⟨s0, s1, s2, s3, s4, s5, s6, s7, s8⟩
              go_simp
              with_reducible rfl
             rotate_left
             ·simp only [Act.put, List.setIfInBounds_toArray, List.set_cons_zero, List.set_cons_succ, i64_w, i32_w]
              rfl
             refine pure_ (i := 3) (N := some 37) (v := ?_) (a' := ?_) #[true, true, true, true, true, false, false, false, false] rfl rfl (any_of HT_.out (by kernel_rfl)) (fun _ _ _ h => h) (Or.inl ⟨by rfl, ?_⟩) ?_ ?_
             rotate_left
             ·intro w'
              go_simp
              with_reducible rfl
             rotate_left
             ·simp only [Act.put, List.setIfInBounds_toArray, List.set_cons_zero, List.set_cons_succ, i64_w, i32_w]
              rfl
             refine pure_ (i := 7) (N := some 4) (v := ?_) (a' := ?_) #[true, true, true, true, true, false, false, true, false] rfl rfl (any_of HT_.out (by kernel_rfl)) (fun _ _ _ h => h) (Or.inl ⟨by rfl, ?_⟩) ?_ ?_
             rotate_left
             ·intro w'
              go_simp
              with_reducible rfl
             rotate_left
             ·simp only [Act.put, List.setIfInBounds_toArray, List.set_cons_zero, List.set_cons_succ, i64_w, i32_w]
              rfl
             refine take_ (i := 5) (N := some 39) (v := ?_) (a' := ?_) #[true, true, true, true, true, true, false, true, false] rfl rfl (take_ofW HT_.out HW_.out (by kernel_rfl)) (fun _ _ _ h => h) (Or.inl ⟨by rfl, ?_⟩) hHeld ?_ ?_
             rotate_left
             ·rintro w' ⟨s0, s1, s2, s3, s4, s5, s6, s7, s8⟩
              go_simp
              with_reducible rfl
             rotate_left
             ·simp only [Act.put, List.setIfInBounds_toArray, List.set_cons_zero, List.set_cons_succ, i64_w, i32_w]
              rfl
             refine pure_ (i := 6) (N := some 40) (v := ?_) (a' := ?_) #[true, true, true, true, true, true, true, true, false] rfl rfl (any_of HT_.out (by kernel_rfl)) (fun _ _ _ h => h) (Or.inl ⟨by rfl, ?_⟩) ?_ ?_
             rotate_left
             ·intro w'
              go_simp
              with_reducible rfl
             rotate_left
             ·simp only [Act.put, List.setIfInBounds_toArray, List.set_cons_zero, List.set_cons_succ, i64_w, i32_w]
              rfl
             refine pure_ (i := 8) (N := some 5) (v := ?_) (a' := ?_) #[true, true, true, true, true, true, true, true, true] rfl rfl (any_of HT_.out (by kernel_rfl)) (fun _ _ _ h => h) (Or.inl ⟨by rfl, ?_⟩) ?_ ?_
             rotate_left
             ·intro w'
              go_simp
              with_reducible rfl
             rotate_left
             ·simp only [Act.put, List.setIfInBounds_toArray, List.set_cons_zero, List.set_cons_succ, i64_w, i32_w]
              rfl
             refine done_ (done_of HT_.out (by kernel_rfl)) ?_
             try go_wp2
             have n0_ := Aside0.mk (blk_drew BK171.out)
             have n1_ := Aside0.mk (blk_drew BK172.out)
             have n2_ := Aside0.mk (below_drew1 HB.out)
             clear BK171
             clear BK172
             clear HB
             have BK171 := n0_
             have BK172 := n1_
             have HB := n2_
             clear n0_ n1_ n2_
             refine start_ (n := 18) (S := fun w' => w'.cell? ⟨gb171, 0, none⟩ = some (.int .u32 a0_0) ∧ w'.cell? ⟨gb171, 1, none⟩ = some (.int .u32 a0_1) ∧ w'.cell? ⟨gb171, 2, none⟩ = some (.int .i64 a0_2) ∧ w'.cell? ⟨gb171, 3, none⟩ = some (.int .i64 a0_3) ∧ w'.cell? ⟨gb171, 4, none⟩ = some (.int .i64 a0_4) ∧ w'.cell? ⟨gb171, 5, none⟩ = some (.int .i64 a0_5) ∧ w'.cell? ⟨gb171, 6, none⟩ = some (.bool a0_6) ∧ w'.cell? ⟨gb171, 7, none⟩ = some (.bool a0_7) ∧ w'.cell? ⟨gb171, 8, none⟩ = some (.string a0_8)) (ds := []) #[false, false, false, false, false, false, false, false, false, false, false, false, false, false, false, false, false, false] (by kernel_rfl) rfl rfl ⟨(blk_cell BK171.out 0).trans rfl, (blk_cell BK171.out 1).trans rfl, (blk_cell BK171.out 2).trans rfl, (blk_cell BK171.out 3).trans rfl, (blk_cell BK171.out 4).trans rfl, (blk_cell BK171.out 5).trans rfl, (blk_cell BK171.out 6).trans rfl, (blk_cell BK171.out 7).trans rfl, (blk_cell BK171.out 8).trans rfl⟩ (fun hHeld => ?_); refine with_tabW patchbayref2_NoteOf.tab5 patchbayref2_NoteOf.bits5 (fun HT_ HW_ => ?_)
             generalize w37.drew = w38 at BK171 BK172 HB hHeld ⊢
             refine pure_ (i := 0) (N := some 43) (v := ?_) (a' := ?_) #[true, false, false, false, false, false, false, false, false, false, false, false, false, false, false, false, false, false] rfl rfl (any_of HT_.out (by kernel_rfl)) (fun _ _ _ h => h) (Or.inl ⟨by rfl, ?_⟩) ?_ ?_
             rotate_left
             ·intro w'
              go_simp
              with_reducible rfl
             rotate_left
             ·simp only [Act.put, List.setIfInBounds_toArray, List.set_cons_zero, List.set_cons_succ, i64_w, i32_w]
              rfl
             refine pure_ (i := 2) (N := some 45) (v := ?_) (a' := ?_) #[true, false, true, false, false, false, false, false, false, false, false, false, false, false, false, false, false, false] rfl rfl (any_of HT_.out (by kernel_rfl)) (fun _ _ _ h => h) (Or.inl ⟨by rfl, ?_⟩) ?_ ?_
             rotate_left
             ·intro w'
              go_simp
              with_reducible rfl
             rotate_left
             ·simp only [Act.put, List.setIfInBounds_toArray, List.set_cons_zero, List.set_cons_succ, i64_w, i32_w]
              rfl
             refine pure_ (i := 4) (N := some 47) (v := ?_) (a' := ?_) #[true, false, true, false, true, false, false, false, false, false, false, false, false, false, false, false, false, false] rfl rfl (any_of HT_.out (by kernel_rfl)) (fun _ _ _ h => h) (Or.inl ⟨by rfl, ?_⟩) ?_ ?_
             rotate_left
             ·intro w'
              go_simp
              with_reducible rfl
             rotate_left
             ·simp only [Act.put, List.setIfInBounds_toArray, List.set_cons_zero, List.set_cons_succ, i64_w, i32_w]
              rfl
             refine pure_ (i := 5) (N := some 48) (v := ?_) (a' := ?_) #[true, false, true, false, true, true, false, false, false, false, false, false, false, false, false, false, false, false] rfl rfl (any_of HT_.out (by kernel_rfl)) (fun _ _ _ h => h) (Or.inl ⟨by rfl, ?_⟩) ?_ ?_
             rotate_left
             ·intro w'
              go_simp
              with_reducible rfl
             rotate_left
             ·simp only [Act.put, List.setIfInBounds_toArray, List.set_cons_zero, List.set_cons_succ, i64_w, i32_w]
              rfl
             refine pure_ (i := 7) (N := some 50) (v := ?_) (a' := ?_) #[true, false, true, false, true, true, false, true, false, false, false, false, false, false, false, false, false, false] rfl rfl (any_of HT_.out (by kernel_rfl)) (fun _ _ _ h => h) (Or.inl ⟨by rfl, ?_⟩) ?_ ?_
             rotate_left
             ·intro w'
              go_simp
              with_reducible rfl
             rotate_left
             ·simp only [Act.put, List.setIfInBounds_toArray, List.set_cons_zero, List.set_cons_succ, i64_w, i32_w]
              rfl
             refine pure_ (i := 8) (N := some 51) (v := ?_) (a' := ?_) #[true, false, true, false, true, true, false, true, true, false, false, false, false, false, false, false, false, false] rfl rfl (any_of HT_.out (by kernel_rfl)) (fun _ _ _ h => h) (Or.inl ⟨by rfl, ?_⟩) ?_ ?_
             rotate_left
             ·intro w'
              go_simp
              with_reducible rfl
             rotate_left
             ·simp only [Act.put, List.setIfInBounds_toArray, List.set_cons_zero, List.set_cons_succ, i64_w, i32_w]
              rfl
             refine pure_ (i := 10) (N := some 53) (v := ?_) (a' := ?_) #[true, false, true, false, true, true, false, true, true, false, true, false, false, false, false, false, false, false] rfl rfl (any_of HT_.out (by kernel_rfl)) (fun _ _ _ h => h) (Or.inl ⟨by rfl, ?_⟩) ?_ ?_
             rotate_left
             ·intro w'
              go_simp
              with_reducible rfl
             rotate_left
             ·simp only [Act.put, List.setIfInBounds_toArray, List.set_cons_zero, List.set_cons_succ, i64_w, i32_w]
              rfl
             refine pure_ (i := 11) (N := some 54) (v := ?_) (a' := ?_) #[true, false, true, false, true, true, false, true, true, false, true, true, false, false, false, false, false, false] rfl rfl (any_of HT_.out (by kernel_rfl)) (fun _ _ _ h => h) (Or.inl ⟨by rfl, ?_⟩) ?_ ?_
             rotate_left
             ·intro w'
              go_simp
              with_reducible rfl
             rotate_left
             ·simp only [Act.put, List.setIfInBounds_toArray, List.set_cons_zero, List.set_cons_succ, i64_w, i32_w]
              rfl
             refine pure_ (i := 12) (N := some 55) (v := ?_) (a' := ?_) #[true, false, true, false, true, true, false, true, true, false, true, true, true, false, false, false, false, false] rfl rfl (any_of HT_.out (by kernel_rfl)) (fun _ _ _ h => h) (Or.inl ⟨by rfl, ?_⟩) ?_ ?_
             rotate_left
             ·intro w'
              go_simp
              with_reducible rfl
             rotate_left
             ·simp only [Act.put, List.setIfInBounds_toArray, List.set_cons_zero, List.set_cons_succ, i64_w, i32_w]
              rfl
             refine pure_ (i := 13) (N := some 56) (v := ?_) (a' := ?_) #[true, false, true, false, true, true, false, true, true, false, true, true, true, true, false, false, false, false] rfl rfl (any_of HT_.out (by kernel_rfl)) (fun _ _ _ h => h) (Or.inl ⟨by rfl, ?_⟩) ?_ ?_
             rotate_left
             ·intro w'
              go_simp
              with_reducible rfl
             rotate_left
             ·simp only [Act.put, List.setIfInBounds_toArray, List.set_cons_zero, List.set_cons_succ, i64_w, i32_w]
              rfl
             refine pure_ (i := 14) (N := some 57) (v := ?_) (a' := ?_) #[true, false, true, false, true, true, false, true, true, false, true, true, true, true, true, false, false, false] rfl rfl (any_of HT_.out (by kernel_rfl)) (fun _ _ _ h => h) (Or.inl ⟨by rfl, ?_⟩) ?_ ?_
             rotate_left
             ·intro w'
              go_simp
              with_reducible rfl
             rotate_left
             ·simp only [Act.put, List.setIfInBounds_toArray, List.set_cons_zero, List.set_cons_succ, i64_w, i32_w]
              rfl
             refine take_ (i := 1) (N := some 44) (v := ?_) (a' := ?_) #[true, true, true, false, true, true, false, true, true, false, true, true, true, true, true, false, false, false] rfl rfl (take_ofW HT_.out HW_.out (by kernel_rfl)) (fun _ _ _ h => h) (Or.inl ⟨by rfl, ?_⟩) hHeld ?_ ?_
             rotate_left
             ·rintro w' ⟨s0, s1, s2, s3, s4, s5, s6, s7, s8⟩
              go_simp
              with_reducible rfl
             rotate_left
             ·simp only [Act.put, List.setIfInBounds_toArray, List.set_cons_zero, List.set_cons_succ, i64_w, i32_w]
              rfl
             refine take_ (i := 3) (N := some 46) (v := ?_) (a' := ?_) #[true, true, true, true, true, true, false, true, true, false, true, true, true, true, true, false, false, false] rfl rfl (take_ofW HT_.out HW_.out (by kernel_rfl)) (fun _ _ _ h => h) (Or.inl ⟨by rfl, ?_⟩) hHeld ?_ ?_
             rotate_left
             ·rintro w' ⟨s0, s1, s2, s3, s4, s5, s6, s7, s8⟩
              go_simp
              with_reducible rfl
             rotate_left
             ·simp only [Act.put, List.setIfInBounds_toArray, List.set_cons_zero, List.set_cons_succ, i64_w, i32_w]
              rfl
             refine one_ (i := 6) (N := some 49) #[true, true, true, true, true, true, true, true, true, false, true, true, true, true, true, false, false, false] rfl rfl (one_of HT_.out (by kernel_rfl)) (by decide) (fun K hK => ?_)
             refine goes_ Try.func49 (by kernel_rfl) rfl #[.string ((a0_8.extract 4 a0_8.size).extract 0 2)] (by rfl) rfl rfl (by (try simp only [List.map_toArray, List.map_cons, List.map_nil]); first | done | rfl | (simp only [List.length_drop, List.length_take]; rfl)) ?_
             with_reducible refine (patchbayref2_Value.calls kj1 ((a0_8.extract 4 a0_8.size).extract 0 2) t173 _ A30.out).mono ?_
             rintro e w' ⟨rfl, ⟨nd, rfl⟩⟩
             refine ⟨_, rfl, ?_⟩
             refine hK.out _ _ ⟨(blk_cell BK171.out 0).trans rfl, (blk_cell BK171.out 1).trans rfl, (blk_cell BK171.out 2).trans rfl, (blk_cell BK171.out 3).trans rfl, (blk_cell BK171.out 4).trans rfl, (blk_cell BK171.out 5).trans rfl, (blk_cell BK171.out 6).trans rfl, (blk_cell BK171.out 7).trans rfl, (blk_cell BK171.out 8).trans rfl⟩ (fun hHeld => ?_)
             clear hK K
             refine norm_ (a' := ?_) ?_ ?_
             rotate_left
             ·show Act.put _ (some 49) _ = _
              simp only [Act.put, List.setIfInBounds_toArray, List.set_cons_zero, List.set_cons_succ, i64_w, i32_w]
              rfl
             refine one_ (i := 9) (N := some 52) #[true, true, true, true, true, true, true, true, true, true, true, true, true, true, true, false, false, false] rfl rfl (one_of HT_.out (by kernel_rfl)) (by decide) (fun K hK => ?_)
             refine goes_ Try.func49 (by kernel_rfl) rfl #[.string ((a0_8.extract 4 a0_8.size).extract 2 4)] (by rfl) rfl rfl (by (try simp only [List.map_toArray, List.map_cons, List.map_nil]); first | done | rfl | (simp only [List.length_drop, List.length_take]; rfl)) ?_
             with_reducible refine (patchbayref2_Value.calls kj1 ((a0_8.extract 4 a0_8.size).extract 2 4) t174 _ A33.out).mono ?_
             rintro e w' ⟨rfl, ⟨nd, rfl⟩⟩
             refine ⟨_, rfl, ?_⟩
             refine hK.out _ _ ⟨(blk_cell BK171.out 0).trans rfl, (blk_cell BK171.out 1).trans rfl, (blk_cell BK171.out 2).trans rfl, (blk_cell BK171.out 3).trans rfl, (blk_cell BK171.out 4).trans rfl, (blk_cell BK171.out 5).trans rfl, (blk_cell BK171.out 6).trans rfl, (blk_cell BK171.out 7).trans rfl, (blk_cell BK171.out 8).trans rfl⟩ (fun hHeld => ?_)
             clear hK K
             refine norm_ (a' := ?_) ?_ ?_
             rotate_left
             ·show Act.put _ (some 52) _ = _
              simp only [Act.put, List.setIfInBounds_toArray, List.set_cons_zero, List.set_cons_succ, i64_w, i32_w]
              rfl
             refine pure_ (i := 15) (N := some 58) (v := ?_) (a' := ?_) #[true, true, true, true, true, true, true, true, true, true, true, true, true, true, true, true, false, false] rfl rfl (any_of HT_.out (by kernel_rfl)) (fun _ _ _ h => h) (Or.inl ⟨by rfl, ?_⟩) ?_ ?_
             rotate_left
             ·intro w'
              go_simp
              with_reducible rfl
             rotate_left
             ·simp only [Act.put, List.setIfInBounds_toArray, List.set_cons_zero, List.set_cons_succ, i64_w, i32_w]
              rfl
             refine one_ (i := 16) (N := none) #[true, true, true, true, true, true, true, true, true, true, true, true, true, true, true, true, true, false] rfl rfl (one_of HT_.out (by kernel_rfl)) (by decide) (fun K hK => ?_)
             have hs39 : w38.cell? ⟨gb172, 0, none⟩ = some (.int .i64 0) := (blk_cell BK172.out 0).trans rfl
             have hfs39 := blk_frozen BK172.out 0
             have hns39_0 := NB171_172.out
             have hms39_0 := NB172_171.out
             have hs40 : w38.cell? ⟨gb172, 1, none⟩ = some (.int .u32 0) := (blk_cell BK172.out 1).trans rfl
             have hfs40 := blk_frozen BK172.out 1
             have hns40_0 := NB171_172.out
             have hms40_0 := NB172_171.out
             have hs41 : w38.cell? ⟨gb172, 2, none⟩ = some (.int .u32 0) := (blk_cell BK172.out 2).trans rfl
             have hfs41 := blk_frozen BK172.out 2
             have hns41_0 := NB171_172.out
             have hms41_0 := NB172_171.out
             have hs42 : w38.cell? ⟨gb172, 3, none⟩ = some (.int .i64 0) := (blk_cell BK172.out 3).trans rfl
             have hfs42 := blk_frozen BK172.out 3
             have hns42_0 := NB171_172.out
             have hms42_0 := NB172_171.out
             have hs43 : w38.cell? ⟨gb172, 4, none⟩ = some (.int .i64 0) := (blk_cell BK172.out 4).trans rfl
             have hfs43 := blk_frozen BK172.out 4
             have hns43_0 := NB171_172.out
             have hms43_0 := NB172_171.out
             have hs44 : w38.cell? ⟨gb172, 5, none⟩ = some (.int .i64 0) := (blk_cell BK172.out 5).trans rfl
             have hfs44 := blk_frozen BK172.out 5
             have hns44_0 := NB171_172.out
             have hms44_0 := NB172_171.out
             have hs45 : w38.cell? ⟨gb172, 6, none⟩ = some (.string (⟨#[]⟩ : ByteArray)) := (blk_cell BK172.out 6).trans rfl
             have hfs45 := blk_frozen BK172.out 6
             have hns45_0 := NB171_172.out
             have hms45_0 := NB172_171.out
             refine skip_ (w1 := ?_) (by rfl) rfl ?_ ?_
             rotate_left
             ·go_simp
              rfl
             refine hK.out _ _ ⟨((cell_far (p := ⟨gb172, _, none⟩) NB171_172.out _).trans (((cell_far (p := ⟨gb172, _, none⟩) NB171_172.out _).trans (((cell_far (p := ⟨gb172, _, none⟩) NB171_172.out _).trans (((cell_far (p := ⟨gb172, _, none⟩) NB171_172.out _).trans (((cell_far (p := ⟨gb172, _, none⟩) NB171_172.out _).trans (((cell_far (p := ⟨gb172, _, none⟩) NB171_172.out _).trans (((cell_far (p := ⟨gb172, _, none⟩) NB171_172.out _).trans (hHeld.1)))))))))))))), ((cell_far (p := ⟨gb172, _, none⟩) NB171_172.out _).trans (((cell_far (p := ⟨gb172, _, none⟩) NB171_172.out _).trans (((cell_far (p := ⟨gb172, _, none⟩) NB171_172.out _).trans (((cell_far (p := ⟨gb172, _, none⟩) NB171_172.out _).trans (((cell_far (p := ⟨gb172, _, none⟩) NB171_172.out _).trans (((cell_far (p := ⟨gb172, _, none⟩) NB171_172.out _).trans (((cell_far (p := ⟨gb172, _, none⟩) NB171_172.out _).trans (hHeld.2.1)))))))))))))), ((cell_far (p := ⟨gb172, _, none⟩) NB171_172.out _).trans (((cell_far (p := ⟨gb172, _, none⟩) NB171_172.out _).trans (((cell_far (p := ⟨gb172, _, none⟩) NB171_172.out _).trans (((cell_far (p := ⟨gb172, _, none⟩) NB171_172.out _).trans (((cell_far (p := ⟨gb172, _, none⟩) NB171_172.out _).trans (((cell_far (p := ⟨gb172, _, none⟩) NB171_172.out _).trans (((cell_far (p := ⟨gb172, _, none⟩) NB171_172.out _).trans (hHeld.2.2.1)))))))))))))), ((cell_far (p := ⟨gb172, _, none⟩) NB171_172.out _).trans (((cell_far (p := ⟨gb172, _, none⟩) NB171_172.out _).trans (((cell_far (p := ⟨gb172, _, none⟩) NB171_172.out _).trans (((cell_far (p := ⟨gb172, _, none⟩) NB171_172.out _).trans (((cell_far (p := ⟨gb172, _, none⟩) NB171_172.out _).trans (((cell_far (p := ⟨gb172, _, none⟩) NB171_172.out _).trans (((cell_far (p := ⟨gb172, _, none⟩) NB171_172.out _).trans (hHeld.2.2.2.1)))))))))))))), ((cell_far (p := ⟨gb172, _, none⟩) NB171_172.out _).trans (((cell_far (p := ⟨gb172, _, none⟩) NB171_172.out _).trans (((cell_far (p := ⟨gb172, _, none⟩) NB171_172.out _).trans (((cell_far (p := ⟨gb172, _, none⟩) NB171_172.out _).trans (((cell_far (p := ⟨gb172, _, none⟩) NB171_172.out _).trans (((cell_far (p := ⟨gb172, _, none⟩) NB171_172.out _).trans (((cell_far (p := ⟨gb172, _, none⟩) NB171_172.out _).trans (hHeld.2.2.2.2.1)))))))))))))), ((cell_far (p := ⟨gb172, _, none⟩) NB171_172.out _).trans (((cell_far (p := ⟨gb172, _, none⟩) NB171_172.out _).trans (((cell_far (p := ⟨gb172, _, none⟩) NB171_172.out _).trans (((cell_far (p := ⟨gb172, _, none⟩) NB171_172.out _).trans (((cell_far (p := ⟨gb172, _, none⟩) NB171_172.out _).trans (((cell_far (p := ⟨gb172, _, none⟩) NB171_172.out _).trans (((cell_far (p := ⟨gb172, _, none⟩) NB171_172.out _).trans (hHeld.2.2.2.2.2.1)))))))))))))), ((cell_far (p := ⟨gb172, _, none⟩) NB171_172.out _).trans (((cell_far (p := ⟨gb172, _, none⟩) NB171_172.out _).trans (((cell_far (p := ⟨gb172, _, none⟩) NB171_172.out _).trans (((cell_far (p := ⟨gb172, _, none⟩) NB171_172.out _).trans (((cell_far (p := ⟨gb172, _, none⟩) NB171_172.out _).trans (((cell_far (p := ⟨gb172, _, none⟩) NB171_172.out _).trans (((cell_far (p := ⟨gb172, _, none⟩) NB171_172.out _).trans (hHeld.2.2.2.2.2.2.1)))))))))))))), ((cell_far (p := ⟨gb172, _, none⟩) NB171_172.out _).trans (((cell_far (p := ⟨gb172, _, none⟩) NB171_172.out _).trans (((cell_far (p := ⟨gb172, _, none⟩) NB171_172.out _).trans (((cell_far (p := ⟨gb172, _, none⟩) NB171_172.out _).trans (((cell_far (p := ⟨gb172, _, none⟩) NB171_172.out _).trans (((cell_far (p := ⟨gb172, _, none⟩) NB171_172.out _).trans (((cell_far (p := ⟨gb172, _, none⟩) NB171_172.out _).trans (hHeld.2.2.2.2.2.2.2.1)))))))))))))), ((cell_far (p := ⟨gb172, _, none⟩) NB171_172.out _).trans (((cell_far (p := ⟨gb172, _, none⟩) NB171_172.out _).trans (((cell_far (p := ⟨gb172, _, none⟩) NB171_172.out _).trans (((cell_far (p := ⟨gb172, _, none⟩) NB171_172.out _).trans (((cell_far (p := ⟨gb172, _, none⟩) NB171_172.out _).trans (((cell_far (p := ⟨gb172, _, none⟩) NB171_172.out _).trans (((cell_far (p := ⟨gb172, _, none⟩) NB171_172.out _).trans (hHeld.2.2.2.2.2.2.2.2))))))))))))))⟩ (fun hHeld => ?_)
             clear hK K
             refine pure_ (i := 17) (N := some 3) (v := ?_) (a' := ?_) #[true, true, true, true, true, true, true, true, true, true, true, true, true, true, true, true, true, true] rfl rfl (any_of HT_.out (by kernel_rfl)) (fun _ _ _ h => h) (Or.inl ⟨by rfl, ?_⟩) ?_ ?_
             rotate_left
             ·intro w'
              go_simp
              with_reducible rfl
             rotate_left
             ·simp only [Act.put, List.setIfInBounds_toArray, List.set_cons_zero, List.set_cons_succ, i64_w, i32_w]
              rfl
             refine done_ (done_of HT_.out (by kernel_rfl)) ?_
             try go_wp2
             refine bodyPost_ret (results_ct rfl _ _ gb172 63 #[.int .i64 9, .int .u32 a0_0, .int .u32 a0_1, .int .i64 1, .int .i64 t173, .int .i64 t174, .string ((a0_8.extract 4 a0_8.size).extract 4 ((ji34) : Int).toNat)] (0, 0) _ rfl (Fit.put7 (BK172.out)) Try.underlying63 rfl (by kernel_rfl)) rfl ?_
             exact ⟨by first | rfl | (simp [errW_none, errW_some] <;> rfl) | (simp only [← hji34]; first | rfl | (simp [errW_none, errW_some] <;> rfl)) | (simp [*, errW_none, errW_some] <;> rfl), Fit.bl HB.out⟩
            ·rw [if_neg c36] at H
             exact absurd H (by simp)
           ·rw [if_neg c35] at H
            exact absurd H (by simp)
          ·rw [if_neg c32] at H
           exact absurd H (by simp)
         ·rw [if_neg c31] at H
          exact absurd H (by simp)
        ·rw [if_neg c29] at H
         exact absurd H (by simp)
       ·rw [if_neg c28] at H
        exact absurd H (by simp)
      ·rw [if_neg c27] at H
       have c27b0 : ((wrap64 (bt a0_8 0)) == 9) = false := beq_eq_false_iff_ne.mpr c27
       have c27b1 : ((wrap64 (bt a0_8 0)) != 9) = true := bne_iff_ne.mpr c27
       replace H := Option.bind_eq_some_iff.mp H
       obtain ⟨⟨t175, t176, t177, t178, t179, t180, t181, t182, t183, t184, t185⟩, A460, H⟩ := H
       replace H : (if (wrap64 (bt a0_8 0)) < 1 then (some (0, 0, 0, 0, 0, 0, (⟨#[]⟩ : ByteArray), 3)) else (if (wrap64 (bt a0_8 0)) > 6 then (some (0, 0, 0, 0, 0, 0, (⟨#[]⟩ : ByteArray), 3)) else (if t185 = 0 then (if ((a0_8.extract 4 a0_8.size).size : Int) = (mn 28 t184) then (if 20 ≤ ((a0_8.extract 4 a0_8.size).size : Int) then (some (wrap64 (bt a0_8 0), t175, t176, t177, t179, t180, (a0_8.extract 4 a0_8.size).extract 20 (a0_8.extract 4 a0_8.size).size, 0)) else (none)) else (some (0, 0, 0, 0, 0, 0, (⟨#[]⟩ : ByteArray), 3))) else (some (0, 0, 0, 0, 0, 0, (⟨#[]⟩ : ByteArray), 3))))) = some (r1, r2, r3, r4, r5, r6, r7, r8) := H
       have A46 := Aside0.mk A460
       clear A460
       by_cases c47 : (wrap64 (bt a0_8 0)) < 1
       ·rw [if_pos c47] at H
        have c47b0 : decide ((wrap64 (bt a0_8 0)) < 1) = true := decide_eq_true c47
        clear c47
        simp only [Option.some.injEq, Prod.mk.injEq] at H
        obtain ⟨rfl, rfl, rfl, rfl, rfl, rfl, rfl, rfl⟩ := H
        try go_wp2
        have n0_ := Aside0.mk (blk_drew BK171.out)
        have n1_ := Aside0.mk (blk_drew BK172.out)
        have n2_ := Aside0.mk (below_drew1 HB.out)
        clear BK171
        clear BK172
        clear HB
        have BK171 := n0_
        have BK172 := n1_
        have HB := n2_
        clear n0_ n1_ n2_
        have p25 : 0 ≤ (0 : Int) := (by omega)
        have q25 : 0 < a0_8.size := (by have : (0 : Int) < (a0_8.size : Int) := of_decide_eq_true (by first | (with_reducible assumption) | assumption); omega)
        have hx25 : ∀ h : 0 < a0_8.size, ((a0_8[0]'h).toNat : Int) = bt a0_8 0 := bt_at a0_8 0
        clear p25
        have qi25 : (0 < (a0_8.size : Int)) = True := eq_true (of_decide_eq_true (by first | (with_reducible assumption) | assumption))
        replace q25 := eq_true q25
        refine start_ (n := 9) (S := fun w' => w'.cell? ⟨gb171, 0, none⟩ = some (.int .u32 a0_0) ∧ w'.cell? ⟨gb171, 1, none⟩ = some (.int .u32 a0_1) ∧ w'.cell? ⟨gb171, 2, none⟩ = some (.int .i64 a0_2) ∧ w'.cell? ⟨gb171, 3, none⟩ = some (.int .i64 a0_3) ∧ w'.cell? ⟨gb171, 4, none⟩ = some (.int .i64 a0_4) ∧ w'.cell? ⟨gb171, 5, none⟩ = some (.int .i64 a0_5) ∧ w'.cell? ⟨gb171, 6, none⟩ = some (.bool a0_6) ∧ w'.cell? ⟨gb171, 7, none⟩ = some (.bool a0_7) ∧ w'.cell? ⟨gb171, 8, none⟩ = some (.string a0_8)) (ds := []) #[false, false, false, false, false, false, false, false, false] (by kernel_rfl) rfl rfl ⟨(blk_cell BK171.out 0).trans rfl, (blk_cell BK171.out 1).trans rfl, (blk_cell BK171.out 2).trans rfl, (blk_cell BK171.out 3).trans rfl, (blk_cell BK171.out 4).trans rfl, (blk_cell BK171.out 5).trans rfl, (blk_cell BK171.out 6).trans rfl, (blk_cell BK171.out 7).trans rfl, (blk_cell BK171.out 8).trans rfl⟩ (fun hHeld => ?_); refine with_tabW patchbayref2_NoteOf.tab3 patchbayref2_NoteOf.bits3 (fun HT_ HW_ => ?_)
        generalize wc.drew = w48 at BK171 BK172 HB hHeld ⊢
        refine pure_ (i := 0) (N := some 34) (v := ?_) (a' := ?_) #[true, false, false, false, false, false, false, false, false] rfl rfl (any_of HT_.out (by kernel_rfl)) (fun _ _ _ h => h) (Or.inl ⟨by rfl, ?_⟩) ?_ ?_
        rotate_left
        ·intro w'
         go_simp
         with_reducible rfl
        rotate_left
        ·simp only [Act.put, List.setIfInBounds_toArray, List.set_cons_zero, List.set_cons_succ, i64_w, i32_w]
         rfl
        refine pure_ (i := 4) (N := some 38) (v := ?_) (a' := ?_) #[true, false, false, false, true, false, false, false, false] rfl rfl (any_of HT_.out (by kernel_rfl)) (fun _ _ _ h => h) (Or.inl ⟨by rfl, ?_⟩) ?_ ?_
        rotate_left
        ·intro w'
         go_simp
         with_reducible rfl
        rotate_left
        ·simp only [Act.put, List.setIfInBounds_toArray, List.set_cons_zero, List.set_cons_succ, i64_w, i32_w]
         rfl
        refine take_ (i := 1) (N := some 35) (v := ?_) (a' := ?_) #[true, true, false, false, true, false, false, false, false] rfl rfl (take_ofW HT_.out HW_.out (by kernel_rfl)) (fun _ _ _ h => h) (Or.inl ⟨by rfl, ?_⟩) hHeld ?_ ?_
        rotate_left
        ·rintro w' ⟨s0, s1, s2, s3, s4, s5, s6, s7, s8⟩
         go_simp
         with_reducible rfl
        rotate_left
        ·simp only [Act.put, List.setIfInBounds_toArray, List.set_cons_zero, List.set_cons_succ, i64_w, i32_w]
         rfl
        refine take_ (i := 2) (N := some 36) (v := ?_) (a' := ?_) #[true, true, true, false, true, false, false, false, false] rfl rfl (take_ofW HT_.out HW_.out (by kernel_rfl)) (fun _ _ _ h => h) (Or.inl ⟨by rfl, ?_⟩) hHeld ?_ ?_
        rotate_left
        ·rintro w' ⟨s0, s1, s2, s3, s4, s5, s6, s7, s8⟩
         go_simp
         with_reducible rfl
        rotate_left
        ·simp only [Act.put, List.setIfInBounds_toArray, List.set_cons_zero, List.set_cons_succ, i64_w, i32_w]
         rfl
        refine pure_ (i := 3) (N := some 37) (v := ?_) (a' := ?_) #[true, true, true, true, true, false, false, false, false] rfl rfl (any_of HT_.out (by kernel_rfl)) (fun _ _ _ h => h) (Or.inl ⟨by rfl, ?_⟩) ?_ ?_
        rotate_left
        ·intro w'
         go_simp
         with_reducible rfl
        rotate_left
        ·simp only [Act.put, List.setIfInBounds_toArray, List.set_cons_zero, List.set_cons_succ, i64_w, i32_w]
         rfl
        refine pure_ (i := 7) (N := some 4) (v := ?_) (a' := ?_) #[true, true, true, true, true, false, false, true, false] rfl rfl (any_of HT_.out (by kernel_rfl)) (fun _ _ _ h => h) (Or.inl ⟨by rfl, ?_⟩) ?_ ?_
        rotate_left
        ·intro w'
         go_simp
         with_reducible rfl
        rotate_left
        ·simp only [Act.put, List.setIfInBounds_toArray, List.set_cons_zero, List.set_cons_succ, i64_w, i32_w]
         rfl
        refine take_ (i := 5) (N := some 39) (v := ?_) (a' := ?_) #[true, true, true, true, true, true, false, true, false] rfl rfl (take_ofW HT_.out HW_.out (by kernel_rfl)) (fun _ _ _ h => h) (Or.inl ⟨by rfl, ?_⟩) hHeld ?_ ?_
        rotate_left
        ·rintro w' ⟨s0, s1, s2, s3, s4, s5, s6, s7, s8⟩
         go_simp
         with_reducible rfl
        rotate_left
        ·simp only [Act.put, List.setIfInBounds_toArray, List.set_cons_zero, List.set_cons_succ, i64_w, i32_w]
         rfl
        refine pure_ (i := 6) (N := some 40) (v := ?_) (a' := ?_) #[true, true, true, true, true, true, true, true, false] rfl rfl (any_of HT_.out (by kernel_rfl)) (fun _ _ _ h => h) (Or.inl ⟨by rfl, ?_⟩) ?_ ?_
        rotate_left
        ·intro w'
         go_simp
         with_reducible rfl
        rotate_left
        ·simp only [Act.put, List.setIfInBounds_toArray, List.set_cons_zero, List.set_cons_succ, i64_w, i32_w]
         rfl
        refine pure_ (i := 8) (N := some 5) (v := ?_) (a' := ?_) #[true, true, true, true, true, true, true, true, true] rfl rfl (any_of HT_.out (by kernel_rfl)) (fun _ _ _ h => h) (Or.inl ⟨by rfl, ?_⟩) ?_ ?_
        rotate_left
        ·intro w'
         go_simp
         with_reducible rfl
        rotate_left
        ·simp only [Act.put, List.setIfInBounds_toArray, List.set_cons_zero, List.set_cons_succ, i64_w, i32_w]
         rfl
        refine done_ (done_of HT_.out (by kernel_rfl)) ?_
        try go_wp2_with (first | ((with_reducible refine gate_callee (f := 36) rfl ?_); refine goesL_ (some 61) rfl rfl Try.func36 (by kernel_rfl) rfl #[.string (a0_8.extract 4 a0_8.size)] rfl (by (try simp only [List.map_toArray, List.map_cons, List.map_nil]); first | done | rfl | (simp only [List.length_drop, List.length_take]; rfl)) ?_; (with_reducible refine (patchbayref2_HeadRead.calls kj1 (a0_8.extract 4 a0_8.size) t175 t176 t177 t178 t179 t180 t181 t182 t183 t184 t185 _ A46.out).mono ?_); rintro e w49 ⟨rfl, hb⟩; refine ⟨_, rfl, ?_⟩; have n0_ := Aside0.mk (blk_below (g := gb171) (Fit.pk BK171.out) hb); have n1_ := Aside0.mk (blk_below (g := gb172) (Fit.pk BK172.out) hb); have n2_ := Aside0.mk (below_step (Fit.bl HB.out) hb); clear BK171; clear BK172; clear HB; have BK171 := n0_; have BK172 := n1_; have HB := n2_; clear n0_ n1_ n2_; (try clear hb); (try clear hb2); (try clear hk); (try clear hi)) | ((with_reducible refine gate_dst (N := 6) rfl ?_); (try (refine gate_guard (by rfl) ?_; dsimp only)); refine box_event ?hg (N := 6) ?hd (cs := #[.int .u32 0, .int .u32 0, .int .i64 0, .int .i64 0, .int .i64 0, .int .i64 0, .bool false, .bool false, .string (⟨#[]⟩ : ByteArray)]) (t := 30) ?hr ?_; (case hd => rfl); (case hg => rfl); (case hr => first | (go_simp; done) | (go_simp; rfl)); intro gb186 hg w50 hbox hb; have n0_ := Aside0.mk (blk_below (g := gb171) (Fit.pk BK171.out) hb); have n1_ := Aside0.mk (blk_below (g := gb172) (Fit.pk BK172.out) hb); have n2_ := Aside0.mk (below_step (Fit.bl HB.out) hb); have n3_ := Aside0.mk (hbox); have n4_ := Aside0.mk ((by rw [hg]; exact (below_size (Fit.bl HB.out)) : w.heap.size ≤ gb186)); have n5_ := Aside0.mk ((by rw [hg]; exact (below_size (Fit.bl HB.out)) : w.heap.size ≤ gb186)); have n6_ := Aside0.mk ((by rw [hg]; exact Nat.ne_of_lt (blk_lt (g := gb171) (Fit.pk BK171.out)) : gb171 ≠ gb186)); have n7_ := Aside0.mk ((by rw [hg]; exact Nat.ne_of_gt (blk_lt (g := gb171) (Fit.pk BK171.out)) : gb186 ≠ gb171)); have n8_ := Aside0.mk ((by rw [hg]; exact Nat.ne_of_lt (blk_lt (g := gb172) (Fit.pk BK172.out)) : gb172 ≠ gb186)); have n9_ := Aside0.mk ((by rw [hg]; exact Nat.ne_of_gt (blk_lt (g := gb172) (Fit.pk BK172.out)) : gb186 ≠ gb172)); clear BK171; clear BK172; clear HB; have BK171 := n0_; have BK172 := n1_; have HB := n2_; have BK186 := n3_; have GW186 := n4_; have GE186 := n5_; have NB171_186 := n6_; have NB186_171 := n7_; have NB172_186 := n8_; have NB186_172 := n9_; clear n0_ n1_ n2_ n3_ n4_ n5_ n6_ n7_ n8_ n9_; clear hb hbox hg; have hnb51 := NB186_171.out; have hnc51 := NB171_186.out; have hnb52 := NB186_172.out; have hnc52 := NB172_186.out; obtain ⟨hcz53_0, hcz53_1, hcz53_2, hcz53_3, hcz53_4, hcz53_5, hcz53_6, hcz53_7, hcz53_8, hfz53_0⟩ := Fit.cells9 BK186.out; have hnb54 := NB172_171.out; have hnc54 := NB171_172.out; obtain ⟨hcz55_0, hcz55_1, hcz55_2, hcz55_3, hcz55_4, hcz55_5, hcz55_6, hfz55_0⟩ := Fit.cells7 BK172.out))
        refine bodyPost_ret (results_ct rfl _ _ gb172 63 #[.int .i64 0, .int .u32 0, .int .u32 0, .int .i64 0, .int .i64 0, .int .i64 0, .string (⟨#[]⟩ : ByteArray)] (0, 0) _ rfl (Fit.put7 (Fit.far9i (BK172.out) NB186_172.out)) Try.underlying63 rfl (by kernel_rfl)) rfl ?_
        exact ⟨by first | rfl | (simp [errW_none, errW_some] <;> rfl) | (simp [*, errW_none, errW_some] <;> rfl), Fit.bl HB.out⟩
       ·rw [if_neg c47] at H
        have c47b0 : decide ((wrap64 (bt a0_8 0)) < 1) = false := decide_eq_false c47
        clear c47
        by_cases c56 : (wrap64 (bt a0_8 0)) > 6
        ·rw [if_pos c56] at H
         have c56b0 : decide (6 < (wrap64 (bt a0_8 0))) = true := decide_eq_true c56
         clear c56
         simp only [Option.some.injEq, Prod.mk.injEq] at H
         obtain ⟨rfl, rfl, rfl, rfl, rfl, rfl, rfl, rfl⟩ := H
         try go_wp2
         have n0_ := Aside0.mk (blk_drew BK171.out)
         have n1_ := Aside0.mk (blk_drew BK172.out)
         have n2_ := Aside0.mk (below_drew1 HB.out)
         clear BK171
         clear BK172
         clear HB
         have BK171 := n0_
         have BK172 := n1_
         have HB := n2_
         clear n0_ n1_ n2_
         have p25 : 0 ≤ (0 : Int) := (by omega)
         have q25 : 0 < a0_8.size := (by have : (0 : Int) < (a0_8.size : Int) := of_decide_eq_true (by first | (with_reducible assumption) | assumption); omega)
         have hx25 : ∀ h : 0 < a0_8.size, ((a0_8[0]'h).toNat : Int) = bt a0_8 0 := bt_at a0_8 0
         clear p25
         have qi25 : (0 < (a0_8.size : Int)) = True := eq_true (of_decide_eq_true (by first | (with_reducible assumption) | assumption))
         replace q25 := eq_true q25
         refine start_ (n := 9) (S := fun w' => w'.cell? ⟨gb171, 0, none⟩ = some (.int .u32 a0_0) ∧ w'.cell? ⟨gb171, 1, none⟩ = some (.int .u32 a0_1) ∧ w'.cell? ⟨gb171, 2, none⟩ = some (.int .i64 a0_2) ∧ w'.cell? ⟨gb171, 3, none⟩ = some (.int .i64 a0_3) ∧ w'.cell? ⟨gb171, 4, none⟩ = some (.int .i64 a0_4) ∧ w'.cell? ⟨gb171, 5, none⟩ = some (.int .i64 a0_5) ∧ w'.cell? ⟨gb171, 6, none⟩ = some (.bool a0_6) ∧ w'.cell? ⟨gb171, 7, none⟩ = some (.bool a0_7) ∧ w'.cell? ⟨gb171, 8, none⟩ = some (.string a0_8)) (ds := []) #[false, false, false, false, false, false, false, false, false] (by kernel_rfl) rfl rfl ⟨(blk_cell BK171.out 0).trans rfl, (blk_cell BK171.out 1).trans rfl, (blk_cell BK171.out 2).trans rfl, (blk_cell BK171.out 3).trans rfl, (blk_cell BK171.out 4).trans rfl, (blk_cell BK171.out 5).trans rfl, (blk_cell BK171.out 6).trans rfl, (blk_cell BK171.out 7).trans rfl, (blk_cell BK171.out 8).trans rfl⟩ (fun hHeld => ?_); refine with_tabW patchbayref2_NoteOf.tab3 patchbayref2_NoteOf.bits3 (fun HT_ HW_ => ?_)
         generalize wc.drew = w57 at BK171 BK172 HB hHeld ⊢
         refine pure_ (i := 0) (N := some 34) (v := ?_) (a' := ?_) #[true, false, false, false, false, false, false, false, false] rfl rfl (any_of HT_.out (by kernel_rfl)) (fun _ _ _ h => h) (Or.inl ⟨by rfl, ?_⟩) ?_ ?_
         rotate_left
         ·intro w'
          go_simp
          with_reducible rfl
         rotate_left
         ·simp only [Act.put, List.setIfInBounds_toArray, List.set_cons_zero, List.set_cons_succ, i64_w, i32_w]
          rfl
         refine pure_ (i := 4) (N := some 38) (v := ?_) (a' := ?_) #[true, false, false, false, true, false, false, false, false] rfl rfl (any_of HT_.out (by kernel_rfl)) (fun _ _ _ h => h) (Or.inl ⟨by rfl, ?_⟩) ?_ ?_
         rotate_left
         ·intro w'
          go_simp
          with_reducible rfl
         rotate_left
         ·simp only [Act.put, List.setIfInBounds_toArray, List.set_cons_zero, List.set_cons_succ, i64_w, i32_w]
          rfl
         refine take_ (i := 1) (N := some 35) (v := ?_) (a' := ?_) #[true, true, false, false, true, false, false, false, false] rfl rfl (take_ofW HT_.out HW_.out (by kernel_rfl)) (fun _ _ _ h => h) (Or.inl ⟨by rfl, ?_⟩) hHeld ?_ ?_
         rotate_left
         ·rintro w' ⟨s0, s1, s2, s3, s4, s5, s6, s7, s8⟩
          go_simp
          with_reducible rfl
         rotate_left
         ·simp only [Act.put, List.setIfInBounds_toArray, List.set_cons_zero, List.set_cons_succ, i64_w, i32_w]
          rfl
         refine take_ (i := 2) (N := some 36) (v := ?_) (a' := ?_) #[true, true, true, false, true, false, false, false, false] rfl rfl (take_ofW HT_.out HW_.out (by kernel_rfl)) (fun _ _ _ h => h) (Or.inl ⟨by rfl, ?_⟩) hHeld ?_ ?_
         rotate_left
         ·rintro w' ⟨s0, s1, s2, s3, s4, s5, s6, s7, s8⟩
          go_simp
          with_reducible rfl
         rotate_left
         ·simp only [Act.put, List.setIfInBounds_toArray, List.set_cons_zero, List.set_cons_succ, i64_w, i32_w]
          rfl
         refine pure_ (i := 3) (N := some 37) (v := ?_) (a' := ?_) #[true, true, true, true, true, false, false, false, false] rfl rfl (any_of HT_.out (by kernel_rfl)) (fun _ _ _ h => h) (Or.inl ⟨by rfl, ?_⟩) ?_ ?_
         rotate_left
         ·intro w'
          go_simp
          with_reducible rfl
         rotate_left
         ·simp only [Act.put, List.setIfInBounds_toArray, List.set_cons_zero, List.set_cons_succ, i64_w, i32_w]
          rfl
         refine pure_ (i := 7) (N := some 4) (v := ?_) (a' := ?_) #[true, true, true, true, true, false, false, true, false] rfl rfl (any_of HT_.out (by kernel_rfl)) (fun _ _ _ h => h) (Or.inl ⟨by rfl, ?_⟩) ?_ ?_
         rotate_left
         ·intro w'
          go_simp
          with_reducible rfl
         rotate_left
         ·simp only [Act.put, List.setIfInBounds_toArray, List.set_cons_zero, List.set_cons_succ, i64_w, i32_w]
          rfl
         refine take_ (i := 5) (N := some 39) (v := ?_) (a' := ?_) #[true, true, true, true, true, true, false, true, false] rfl rfl (take_ofW HT_.out HW_.out (by kernel_rfl)) (fun _ _ _ h => h) (Or.inl ⟨by rfl, ?_⟩) hHeld ?_ ?_
         rotate_left
         ·rintro w' ⟨s0, s1, s2, s3, s4, s5, s6, s7, s8⟩
          go_simp
          with_reducible rfl
         rotate_left
         ·simp only [Act.put, List.setIfInBounds_toArray, List.set_cons_zero, List.set_cons_succ, i64_w, i32_w]
          rfl
         refine pure_ (i := 6) (N := some 40) (v := ?_) (a' := ?_) #[true, true, true, true, true, true, true, true, false] rfl rfl (any_of HT_.out (by kernel_rfl)) (fun _ _ _ h => h) (Or.inl ⟨by rfl, ?_⟩) ?_ ?_
         rotate_left
         ·intro w'
          go_simp
          with_reducible rfl
         rotate_left
         ·simp only [Act.put, List.setIfInBounds_toArray, List.set_cons_zero, List.set_cons_succ, i64_w, i32_w]
          rfl
         refine pure_ (i := 8) (N := some 5) (v := ?_) (a' := ?_) #[true, true, true, true, true, true, true, true, true] rfl rfl (any_of HT_.out (by kernel_rfl)) (fun _ _ _ h => h) (Or.inl ⟨by rfl, ?_⟩) ?_ ?_
         rotate_left
         ·intro w'
          go_simp
          with_reducible rfl
         rotate_left
         ·simp only [Act.put, List.setIfInBounds_toArray, List.set_cons_zero, List.set_cons_succ, i64_w, i32_w]
          rfl
         refine done_ (done_of HT_.out (by kernel_rfl)) ?_
         try go_wp2_with (first | ((with_reducible refine gate_callee (f := 36) rfl ?_); refine goesL_ (some 61) rfl rfl Try.func36 (by kernel_rfl) rfl #[.string (a0_8.extract 4 a0_8.size)] rfl (by (try simp only [List.map_toArray, List.map_cons, List.map_nil]); first | done | rfl | (simp only [List.length_drop, List.length_take]; rfl)) ?_; (with_reducible refine (patchbayref2_HeadRead.calls kj1 (a0_8.extract 4 a0_8.size) t175 t176 t177 t178 t179 t180 t181 t182 t183 t184 t185 _ A46.out).mono ?_); rintro e w58 ⟨rfl, hb⟩; refine ⟨_, rfl, ?_⟩; have n0_ := Aside0.mk (blk_below (g := gb171) (Fit.pk BK171.out) hb); have n1_ := Aside0.mk (blk_below (g := gb172) (Fit.pk BK172.out) hb); have n2_ := Aside0.mk (below_step (Fit.bl HB.out) hb); clear BK171; clear BK172; clear HB; have BK171 := n0_; have BK172 := n1_; have HB := n2_; clear n0_ n1_ n2_; (try clear hb); (try clear hb2); (try clear hk); (try clear hi)) | ((with_reducible refine gate_dst (N := 6) rfl ?_); (try (refine gate_guard (by rfl) ?_; dsimp only)); refine box_event ?hg (N := 6) ?hd (cs := #[.int .u32 0, .int .u32 0, .int .i64 0, .int .i64 0, .int .i64 0, .int .i64 0, .bool false, .bool false, .string (⟨#[]⟩ : ByteArray)]) (t := 30) ?hr ?_; (case hd => rfl); (case hg => rfl); (case hr => first | (go_simp; done) | (go_simp; rfl)); intro gb186 hg w59 hbox hb; have n0_ := Aside0.mk (blk_below (g := gb171) (Fit.pk BK171.out) hb); have n1_ := Aside0.mk (blk_below (g := gb172) (Fit.pk BK172.out) hb); have n2_ := Aside0.mk (below_step (Fit.bl HB.out) hb); have n3_ := Aside0.mk (hbox); have n4_ := Aside0.mk ((by rw [hg]; exact (below_size (Fit.bl HB.out)) : w.heap.size ≤ gb186)); have n5_ := Aside0.mk ((by rw [hg]; exact (below_size (Fit.bl HB.out)) : w.heap.size ≤ gb186)); have n6_ := Aside0.mk ((by rw [hg]; exact Nat.ne_of_lt (blk_lt (g := gb171) (Fit.pk BK171.out)) : gb171 ≠ gb186)); have n7_ := Aside0.mk ((by rw [hg]; exact Nat.ne_of_gt (blk_lt (g := gb171) (Fit.pk BK171.out)) : gb186 ≠ gb171)); have n8_ := Aside0.mk ((by rw [hg]; exact Nat.ne_of_lt (blk_lt (g := gb172) (Fit.pk BK172.out)) : gb172 ≠ gb186)); have n9_ := Aside0.mk ((by rw [hg]; exact Nat.ne_of_gt (blk_lt (g := gb172) (Fit.pk BK172.out)) : gb186 ≠ gb172)); clear BK171; clear BK172; clear HB; have BK171 := n0_; have BK172 := n1_; have HB := n2_; have BK186 := n3_; have GW186 := n4_; have GE186 := n5_; have NB171_186 := n6_; have NB186_171 := n7_; have NB172_186 := n8_; have NB186_172 := n9_; clear n0_ n1_ n2_ n3_ n4_ n5_ n6_ n7_ n8_ n9_; clear hb hbox hg; have hnb60 := NB186_171.out; have hnc60 := NB171_186.out; have hnb61 := NB186_172.out; have hnc61 := NB172_186.out; obtain ⟨hcz62_0, hcz62_1, hcz62_2, hcz62_3, hcz62_4, hcz62_5, hcz62_6, hcz62_7, hcz62_8, hfz62_0⟩ := Fit.cells9 BK186.out; have hnb63 := NB172_171.out; have hnc63 := NB171_172.out; obtain ⟨hcz64_0, hcz64_1, hcz64_2, hcz64_3, hcz64_4, hcz64_5, hcz64_6, hfz64_0⟩ := Fit.cells7 BK172.out))
         refine bodyPost_ret (results_ct rfl _ _ gb172 63 #[.int .i64 0, .int .u32 0, .int .u32 0, .int .i64 0, .int .i64 0, .int .i64 0, .string (⟨#[]⟩ : ByteArray)] (0, 0) _ rfl (Fit.put7 (Fit.far9i (BK172.out) NB186_172.out)) Try.underlying63 rfl (by kernel_rfl)) rfl ?_
         exact ⟨by first | rfl | (simp [errW_none, errW_some] <;> rfl) | (simp [*, errW_none, errW_some] <;> rfl), Fit.bl HB.out⟩
        ·rw [if_neg c56] at H
         have c56b0 : decide (6 < (wrap64 (bt a0_8 0))) = false := decide_eq_false c56
         clear c56
         by_cases c65 : t185 = 0
         ·rw [if_pos c65] at H
          have c65b0 : (t185 == 0) = true := beq_iff_eq.mpr c65
          have c65b1 : (t185 != 0) = false := bne_eq_false_iff_eq.mpr c65
          clear c65
          obtain ⟨ji66, hji66⟩ : ∃ j_ : Int, (mn 28 t184) = j_ := ⟨_, rfl⟩
          replace H : (if ((a0_8.extract 4 a0_8.size).size : Int) = (ji66) then (if 20 ≤ ((a0_8.extract 4 a0_8.size).size : Int) then (some (wrap64 (bt a0_8 0), t175, t176, t177, t179, t180, (a0_8.extract 4 a0_8.size).extract 20 (a0_8.extract 4 a0_8.size).size, 0)) else (none)) else (some (0, 0, 0, 0, 0, 0, (⟨#[]⟩ : ByteArray), 3))) = some (r1, r2, r3, r4, r5, r6, r7, r8) := by first | (rw [hji66] at H; exact H) | (simp only [hji66] at H ⊢; exact H)
          (try rw [hji66] at A46)
          (try (have hji66h : ji66 ≤ 28 := by (rw [← hji66]; unfold mn; (repeat' split) <;> omega)))
          (try (have hji66g : ji66 ≤ 64 := by omega))
          have hji66_ : (if t184 < 28 then t184 else 28) = ji66 := hji66
          by_cases c67 : ((a0_8.extract 4 a0_8.size).size : Int) = (ji66)
          ·rw [if_pos c67] at H
           have c67b0 : (((a0_8.extract 4 a0_8.size).size : Int) == (ji66)) = true := beq_iff_eq.mpr c67
           have c67b1 : (((a0_8.extract 4 a0_8.size).size : Int) != (ji66)) = false := bne_eq_false_iff_eq.mpr c67
           (try (have c67n0 := c67b0; simp only [ByteArray.size_extract, Nat.min_self, Nat.sub_zero] at c67n0))
           (try (have c67n1 := c67b1; simp only [ByteArray.size_extract, Nat.min_self, Nat.sub_zero] at c67n1))
           clear c67
           by_cases c68 : 20 ≤ ((a0_8.extract 4 a0_8.size).size : Int)
           ·rw [if_pos c68] at H
            have c68b0 := eq_true c68
            have c68b1 : decide (20 ≤ ((a0_8.extract 4 a0_8.size).size : Int)) = true := decide_eq_true c68
            (try (have c68n0 := c68b0; simp only [ByteArray.size_extract, Nat.min_self, Nat.sub_zero] at c68n0))
            (try (have c68n1 := c68b1; simp only [ByteArray.size_extract, Nat.min_self, Nat.sub_zero] at c68n1))
            clear c68
            simp only [Option.some.injEq, Prod.mk.injEq] at H
            obtain ⟨rfl, rfl, rfl, rfl, rfl, rfl, rfl, rfl⟩ := H
            try go_wp2
            have n0_ := Aside0.mk (blk_drew BK171.out)
            have n1_ := Aside0.mk (blk_drew BK172.out)
            have n2_ := Aside0.mk (below_drew1 HB.out)
            clear BK171
            clear BK172
            clear HB
            have BK171 := n0_
            have BK172 := n1_
            have HB := n2_
            clear n0_ n1_ n2_
            have p25 : 0 ≤ (0 : Int) := (by omega)
            have q25 : 0 < a0_8.size := (by have : (0 : Int) < (a0_8.size : Int) := of_decide_eq_true (by first | (with_reducible assumption) | assumption); omega)
            have hx25 : ∀ h : 0 < a0_8.size, ((a0_8[0]'h).toNat : Int) = bt a0_8 0 := bt_at a0_8 0
            clear p25
            have qi25 : (0 < (a0_8.size : Int)) = True := eq_true (of_decide_eq_true (by first | (with_reducible assumption) | assumption))
            replace q25 := eq_true q25
            refine start_ (n := 9) (S := fun w' => w'.cell? ⟨gb171, 0, none⟩ = some (.int .u32 a0_0) ∧ w'.cell? ⟨gb171, 1, none⟩ = some (.int .u32 a0_1) ∧ w'.cell? ⟨gb171, 2, none⟩ = some (.int .i64 a0_2) ∧ w'.cell? ⟨gb171, 3, none⟩ = some (.int .i64 a0_3) ∧ w'.cell? ⟨gb171, 4, none⟩ = some (.int .i64 a0_4) ∧ w'.cell? ⟨gb171, 5, none⟩ = some (.int .i64 a0_5) ∧ w'.cell? ⟨gb171, 6, none⟩ = some (.bool a0_6) ∧ w'.cell? ⟨gb171, 7, none⟩ = some (.bool a0_7) ∧ w'.cell? ⟨gb171, 8, none⟩ = some (.string a0_8)) (ds := []) #[false, false, false, false, false, false, false, false, false] (by kernel_rfl) rfl rfl ⟨(blk_cell BK171.out 0).trans rfl, (blk_cell BK171.out 1).trans rfl, (blk_cell BK171.out 2).trans rfl, (blk_cell BK171.out 3).trans rfl, (blk_cell BK171.out 4).trans rfl, (blk_cell BK171.out 5).trans rfl, (blk_cell BK171.out 6).trans rfl, (blk_cell BK171.out 7).trans rfl, (blk_cell BK171.out 8).trans rfl⟩ (fun hHeld => ?_); refine with_tabW patchbayref2_NoteOf.tab3 patchbayref2_NoteOf.bits3 (fun HT_ HW_ => ?_)
            generalize wc.drew = w69 at BK171 BK172 HB hHeld ⊢
            refine pure_ (i := 0) (N := some 34) (v := ?_) (a' := ?_) #[true, false, false, false, false, false, false, false, false] rfl rfl (any_of HT_.out (by kernel_rfl)) (fun _ _ _ h => h) (Or.inl ⟨by rfl, ?_⟩) ?_ ?_
            rotate_left
            ·intro w'
             go_simp
             with_reducible rfl
            rotate_left
            ·simp only [Act.put, List.setIfInBounds_toArray, List.set_cons_zero, List.set_cons_succ, i64_w, i32_w]
             rfl
            refine pure_ (i := 4) (N := some 38) (v := ?_) (a' := ?_) #[true, false, false, false, true, false, false, false, false] rfl rfl (any_of HT_.out (by kernel_rfl)) (fun _ _ _ h => h) (Or.inl ⟨by rfl, ?_⟩) ?_ ?_
            rotate_left
            ·intro w'
             go_simp
             with_reducible rfl
            rotate_left
            ·simp only [Act.put, List.setIfInBounds_toArray, List.set_cons_zero, List.set_cons_succ, i64_w, i32_w]
             rfl
            refine take_ (i := 1) (N := some 35) (v := ?_) (a' := ?_) #[true, true, false, false, true, false, false, false, false] rfl rfl (take_ofW HT_.out HW_.out (by kernel_rfl)) (fun _ _ _ h => h) (Or.inl ⟨by rfl, ?_⟩) hHeld ?_ ?_
            rotate_left
            ·rintro w' ⟨s0, s1, s2, s3, s4, s5, s6, s7, s8⟩
             go_simp
             with_reducible rfl
            rotate_left
            ·simp only [Act.put, List.setIfInBounds_toArray, List.set_cons_zero, List.set_cons_succ, i64_w, i32_w]
             rfl
            refine take_ (i := 2) (N := some 36) (v := ?_) (a' := ?_) #[true, true, true, false, true, false, false, false, false] rfl rfl (take_ofW HT_.out HW_.out (by kernel_rfl)) (fun _ _ _ h => h) (Or.inl ⟨by rfl, ?_⟩) hHeld ?_ ?_
            rotate_left
            ·rintro w' ⟨s0, s1, s2, s3, s4, s5, s6, s7, s8⟩
             go_simp
             with_reducible rfl
            rotate_left
            ·simp only [Act.put, List.setIfInBounds_toArray, List.set_cons_zero, List.set_cons_succ, i64_w, i32_w]
             rfl
            refine pure_ (i := 3) (N := some 37) (v := ?_) (a' := ?_) #[true, true, true, true, true, false, false, false, false] rfl rfl (any_of HT_.out (by kernel_rfl)) (fun _ _ _ h => h) (Or.inl ⟨by rfl, ?_⟩) ?_ ?_
            rotate_left
            ·intro w'
             go_simp
             with_reducible rfl
            rotate_left
            ·simp only [Act.put, List.setIfInBounds_toArray, List.set_cons_zero, List.set_cons_succ, i64_w, i32_w]
             rfl
            refine pure_ (i := 7) (N := some 4) (v := ?_) (a' := ?_) #[true, true, true, true, true, false, false, true, false] rfl rfl (any_of HT_.out (by kernel_rfl)) (fun _ _ _ h => h) (Or.inl ⟨by rfl, ?_⟩) ?_ ?_
            rotate_left
            ·intro w'
             go_simp
             with_reducible rfl
            rotate_left
            ·simp only [Act.put, List.setIfInBounds_toArray, List.set_cons_zero, List.set_cons_succ, i64_w, i32_w]
             rfl
            refine take_ (i := 5) (N := some 39) (v := ?_) (a' := ?_) #[true, true, true, true, true, true, false, true, false] rfl rfl (take_ofW HT_.out HW_.out (by kernel_rfl)) (fun _ _ _ h => h) (Or.inl ⟨by rfl, ?_⟩) hHeld ?_ ?_
            rotate_left
            ·rintro w' ⟨s0, s1, s2, s3, s4, s5, s6, s7, s8⟩
             go_simp
             with_reducible rfl
            rotate_left
            ·simp only [Act.put, List.setIfInBounds_toArray, List.set_cons_zero, List.set_cons_succ, i64_w, i32_w]
             rfl
            refine pure_ (i := 6) (N := some 40) (v := ?_) (a' := ?_) #[true, true, true, true, true, true, true, true, false] rfl rfl (any_of HT_.out (by kernel_rfl)) (fun _ _ _ h => h) (Or.inl ⟨by rfl, ?_⟩) ?_ ?_
            rotate_left
            ·intro w'
             go_simp
             with_reducible rfl
            rotate_left
            ·simp only [Act.put, List.setIfInBounds_toArray, List.set_cons_zero, List.set_cons_succ, i64_w, i32_w]
             rfl
            refine pure_ (i := 8) (N := some 5) (v := ?_) (a' := ?_) #[true, true, true, true, true, true, true, true, true] rfl rfl (any_of HT_.out (by kernel_rfl)) (fun _ _ _ h => h) (Or.inl ⟨by rfl, ?_⟩) ?_ ?_
            rotate_left
            ·intro w'
             go_simp
             with_reducible rfl
            rotate_left
            ·simp only [Act.put, List.setIfInBounds_toArray, List.set_cons_zero, List.set_cons_succ, i64_w, i32_w]
             rfl
            refine done_ (done_of HT_.out (by kernel_rfl)) ?_
            go_upto_region 7 with (first | ((with_reducible refine gate_callee (f := 36) rfl ?_); refine goesL_ (some 61) rfl rfl Try.func36 (by kernel_rfl) rfl #[.string (a0_8.extract 4 a0_8.size)] rfl (by (try simp only [List.map_toArray, List.map_cons, List.map_nil]); first | done | rfl | (simp only [List.length_drop, List.length_take]; rfl)) ?_; (with_reducible refine (patchbayref2_HeadRead.calls kj1 (a0_8.extract 4 a0_8.size) t175 t176 t177 t178 t179 t180 t181 t182 t183 t184 t185 _ A46.out).mono ?_); rintro e w70 ⟨rfl, hb⟩; refine ⟨_, rfl, ?_⟩; have n0_ := Aside0.mk (blk_below (g := gb171) (Fit.pk BK171.out) hb); have n1_ := Aside0.mk (blk_below (g := gb172) (Fit.pk BK172.out) hb); have n2_ := Aside0.mk (below_step (Fit.bl HB.out) hb); clear BK171; clear BK172; clear HB; have BK171 := n0_; have BK172 := n1_; have HB := n2_; clear n0_ n1_ n2_; (try clear hb); (try clear hb2); (try clear hk); (try clear hi)) | ((with_reducible refine gate_dst (N := 6) rfl ?_); (try (refine gate_guard (by rfl) ?_; dsimp only)); refine box_event ?hg (N := 6) ?hd (cs := #[.int .u32 0, .int .u32 0, .int .i64 0, .int .i64 0, .int .i64 0, .int .i64 0, .bool false, .bool false, .string (⟨#[]⟩ : ByteArray)]) (t := 30) ?hr ?_; (case hd => rfl); (case hg => rfl); (case hr => first | (go_simp; done) | (go_simp; rfl)); intro gb186 hg w71 hbox hb; have n0_ := Aside0.mk (blk_below (g := gb171) (Fit.pk BK171.out) hb); have n1_ := Aside0.mk (blk_below (g := gb172) (Fit.pk BK172.out) hb); have n2_ := Aside0.mk (below_step (Fit.bl HB.out) hb); have n3_ := Aside0.mk (hbox); have n4_ := Aside0.mk ((by rw [hg]; exact (below_size (Fit.bl HB.out)) : w.heap.size ≤ gb186)); have n5_ := Aside0.mk ((by rw [hg]; exact (below_size (Fit.bl HB.out)) : w.heap.size ≤ gb186)); have n6_ := Aside0.mk ((by rw [hg]; exact Nat.ne_of_lt (blk_lt (g := gb171) (Fit.pk BK171.out)) : gb171 ≠ gb186)); have n7_ := Aside0.mk ((by rw [hg]; exact Nat.ne_of_gt (blk_lt (g := gb171) (Fit.pk BK171.out)) : gb186 ≠ gb171)); have n8_ := Aside0.mk ((by rw [hg]; exact Nat.ne_of_lt (blk_lt (g := gb172) (Fit.pk BK172.out)) : gb172 ≠ gb186)); have n9_ := Aside0.mk ((by rw [hg]; exact Nat.ne_of_gt (blk_lt (g := gb172) (Fit.pk BK172.out)) : gb186 ≠ gb172)); clear BK171; clear BK172; clear HB; have BK171 := n0_; have BK172 := n1_; have HB := n2_; have BK186 := n3_; have GW186 := n4_; have GE186 := n5_; have NB171_186 := n6_; have NB186_171 := n7_; have NB172_186 := n8_; have NB186_172 := n9_; clear n0_ n1_ n2_ n3_ n4_ n5_ n6_ n7_ n8_ n9_; clear hb hbox hg; have hnb72 := NB186_171.out; have hnc72 := NB171_186.out; have hnb73 := NB186_172.out; have hnc73 := NB172_186.out; obtain ⟨hcz74_0, hcz74_1, hcz74_2, hcz74_3, hcz74_4, hcz74_5, hcz74_6, hcz74_7, hcz74_8, hfz74_0⟩ := Fit.cells9 BK186.out))
            (try simp only [Act.put, List.setIfInBounds_toArray, List.set_cons_zero, List.set_cons_succ])
            have n0_ : Aside0 ((((((((((w71.setCell ⟨gb186, 0, none⟩ (.int .u32 t175)).setCell ⟨gb186, 1, none⟩ (.int .u32 t176)).setCell ⟨gb186, 2, none⟩ (.int .i64 t177)).setCell ⟨gb186, 3, none⟩ (.int .i64 t178)).setCell ⟨gb186, 4, none⟩ (.int .i64 t179)).setCell ⟨gb186, 5, none⟩ (.int .i64 t180)).setCell ⟨gb186, 6, none⟩ (.bool t181)).setCell ⟨gb186, 7, none⟩ (.bool t182)).setCell ⟨gb186, 8, none⟩ (.string t183)).heap[gb171]? = some (.cells #[.int .u32 a0_0, .int .u32 a0_1, .int .i64 a0_2, .int .i64 a0_3, .int .i64 a0_4, .int .i64 a0_5, .bool a0_6, .bool a0_7, .string a0_8] 30 (0, 0))) := ⟨Fit.far9 (.int .u32 t175) (.int .u32 t176) (.int .i64 t177) (.int .i64 t178) (.int .i64 t179) (.int .i64 t180) (.bool t181) (.bool t182) (.string t183) BK171.out NB186_171.out⟩
            have n1_ : Aside0 ((((((((((w71.setCell ⟨gb186, 0, none⟩ (.int .u32 t175)).setCell ⟨gb186, 1, none⟩ (.int .u32 t176)).setCell ⟨gb186, 2, none⟩ (.int .i64 t177)).setCell ⟨gb186, 3, none⟩ (.int .i64 t178)).setCell ⟨gb186, 4, none⟩ (.int .i64 t179)).setCell ⟨gb186, 5, none⟩ (.int .i64 t180)).setCell ⟨gb186, 6, none⟩ (.bool t181)).setCell ⟨gb186, 7, none⟩ (.bool t182)).setCell ⟨gb186, 8, none⟩ (.string t183)).heap[gb172]? = some (.cells #[.int .i64 0, .int .u32 0, .int .u32 0, .int .i64 0, .int .i64 0, .int .i64 0, .string (⟨#[]⟩ : ByteArray)] 63 (0, 0))) := ⟨Fit.far9 (.int .u32 t175) (.int .u32 t176) (.int .i64 t177) (.int .i64 t178) (.int .i64 t179) (.int .i64 t180) (.bool t181) (.bool t182) (.string t183) BK172.out NB186_172.out⟩
            have n2_ : Aside0 ((((((((((w71.setCell ⟨gb186, 0, none⟩ (.int .u32 t175)).setCell ⟨gb186, 1, none⟩ (.int .u32 t176)).setCell ⟨gb186, 2, none⟩ (.int .i64 t177)).setCell ⟨gb186, 3, none⟩ (.int .i64 t178)).setCell ⟨gb186, 4, none⟩ (.int .i64 t179)).setCell ⟨gb186, 5, none⟩ (.int .i64 t180)).setCell ⟨gb186, 6, none⟩ (.bool t181)).setCell ⟨gb186, 7, none⟩ (.bool t182)).setCell ⟨gb186, 8, none⟩ (.string t183)).heap[gb186]? = some (.cells #[.int .u32 t175, .int .u32 t176, .int .i64 t177, .int .i64 t178, .int .i64 t179, .int .i64 t180, .bool t181, .bool t182, .string t183] 30 (0, 0))) := ⟨Fit.put9 (.int .u32 t175) (.int .u32 t176) (.int .i64 t177) (.int .i64 t178) (.int .i64 t179) (.int .i64 t180) (.bool t181) (.bool t182) (.string t183) BK186.out⟩
            have n3_ : Aside0 (Below w.heap.size w (((((((((w71.setCell ⟨gb186, 0, none⟩ (.int .u32 t175)).setCell ⟨gb186, 1, none⟩ (.int .u32 t176)).setCell ⟨gb186, 2, none⟩ (.int .i64 t177)).setCell ⟨gb186, 3, none⟩ (.int .i64 t178)).setCell ⟨gb186, 4, none⟩ (.int .i64 t179)).setCell ⟨gb186, 5, none⟩ (.int .i64 t180)).setCell ⟨gb186, 6, none⟩ (.bool t181)).setCell ⟨gb186, 7, none⟩ (.bool t182)).setCell ⟨gb186, 8, none⟩ (.string t183))) := ⟨Fit.bl HB.out⟩
            (try clear BK171)
            (try clear BK172)
            (try clear BK186)
            (try clear HB)
            generalize (((((((((w71.setCell ⟨gb186, 0, none⟩ (.int .u32 t175)).setCell ⟨gb186, 1, none⟩ (.int .u32 t176)).setCell ⟨gb186, 2, none⟩ (.int .i64 t177)).setCell ⟨gb186, 3, none⟩ (.int .i64 t178)).setCell ⟨gb186, 4, none⟩ (.int .i64 t179)).setCell ⟨gb186, 5, none⟩ (.int .i64 t180)).setCell ⟨gb186, 6, none⟩ (.bool t181)).setCell ⟨gb186, 7, none⟩ (.bool t182)).setCell ⟨gb186, 8, none⟩ (.string t183)) = w75 at n0_ n1_ n2_ n3_ ⊢
            have BK171 := n0_
            have BK172 := n1_
            have BK186 := n2_
            have HB := n3_
            clear n0_ n1_ n2_ n3_
            go_wp2
            have n0_ := Aside0.mk (blk_drew BK171.out)
            have n1_ := Aside0.mk (blk_drew BK172.out)
            have n2_ := Aside0.mk (blk_drew BK186.out)
            have n3_ := Aside0.mk (below_drew1 HB.out)
            clear BK171
            clear BK172
            clear BK186
            clear HB
            have BK171 := n0_
            have BK172 := n1_
            have BK186 := n2_
            have HB := n3_
            clear n0_ n1_ n2_ n3_
            refine start_ (n := 16) (S := fun w' => w'.cell? ⟨gb186, 0, none⟩ = some (.int .u32 t175) ∧ w'.cell? ⟨gb186, 1, none⟩ = some (.int .u32 t176) ∧ w'.cell? ⟨gb186, 2, none⟩ = some (.int .i64 t177) ∧ w'.cell? ⟨gb186, 3, none⟩ = some (.int .i64 t178) ∧ w'.cell? ⟨gb186, 4, none⟩ = some (.int .i64 t179) ∧ w'.cell? ⟨gb186, 5, none⟩ = some (.int .i64 t180) ∧ w'.cell? ⟨gb186, 6, none⟩ = some (.bool t181) ∧ w'.cell? ⟨gb186, 7, none⟩ = some (.bool t182) ∧ w'.cell? ⟨gb186, 8, none⟩ = some (.string t183)) (ds := []) #[false, false, false, false, false, false, false, false, false, false, false, false, false, false, false, false] (by kernel_rfl) rfl rfl ⟨(blk_cell BK186.out 0).trans rfl, (blk_cell BK186.out 1).trans rfl, (blk_cell BK186.out 2).trans rfl, (blk_cell BK186.out 3).trans rfl, (blk_cell BK186.out 4).trans rfl, (blk_cell BK186.out 5).trans rfl, (blk_cell BK186.out 6).trans rfl, (blk_cell BK186.out 7).trans rfl, (blk_cell BK186.out 8).trans rfl⟩ (fun hHeld => ?_); refine with_tabW patchbayref2_NoteOf.tab9 patchbayref2_NoteOf.bits9 (fun HT_ HW_ => ?_)
            generalize w75.drew = w76 at BK171 BK172 BK186 HB hHeld ⊢
            refine pure_ (i := 0) (N := some 83) (v := ?_) (a' := ?_) #[true, false, false, false, false, false, false, false, false, false, false, false, false, false, false, false] rfl rfl (any_of HT_.out (by kernel_rfl)) (fun _ _ _ h => h) (Or.inl ⟨by rfl, ?_⟩) ?_ ?_
            rotate_left
            ·intro w'
             go_simp
             with_reducible rfl
            rotate_left
            ·simp only [Act.put, List.setIfInBounds_toArray, List.set_cons_zero, List.set_cons_succ, i64_w, i32_w]
             rfl
            refine pure_ (i := 1) (N := some 84) (v := ?_) (a' := ?_) #[true, true, false, false, false, false, false, false, false, false, false, false, false, false, false, false] rfl rfl (any_of HT_.out (by kernel_rfl)) (fun _ _ _ h => h) (Or.inl ⟨by rfl, ?_⟩) ?_ ?_
            rotate_left
            ·intro w'
             go_simp
             with_reducible rfl
            rotate_left
            ·simp only [Act.put, List.setIfInBounds_toArray, List.set_cons_zero, List.set_cons_succ, i64_w, i32_w]
             rfl
            refine pure_ (i := 3) (N := some 86) (v := ?_) (a' := ?_) #[true, true, false, true, false, false, false, false, false, false, false, false, false, false, false, false] rfl rfl (any_of HT_.out (by kernel_rfl)) (fun _ _ _ h => h) (Or.inl ⟨by rfl, ?_⟩) ?_ ?_
            rotate_left
            ·intro w'
             go_simp
             with_reducible rfl
            rotate_left
            ·simp only [Act.put, List.setIfInBounds_toArray, List.set_cons_zero, List.set_cons_succ, i64_w, i32_w]
             rfl
            refine pure_ (i := 5) (N := some 88) (v := ?_) (a' := ?_) #[true, true, false, true, false, true, false, false, false, false, false, false, false, false, false, false] rfl rfl (any_of HT_.out (by kernel_rfl)) (fun _ _ _ h => h) (Or.inl ⟨by rfl, ?_⟩) ?_ ?_
            rotate_left
            ·intro w'
             go_simp
             with_reducible rfl
            rotate_left
            ·simp only [Act.put, List.setIfInBounds_toArray, List.set_cons_zero, List.set_cons_succ, i64_w, i32_w]
             rfl
            refine pure_ (i := 7) (N := some 90) (v := ?_) (a' := ?_) #[true, true, false, true, false, true, false, true, false, false, false, false, false, false, false, false] rfl rfl (any_of HT_.out (by kernel_rfl)) (fun _ _ _ h => h) (Or.inl ⟨by rfl, ?_⟩) ?_ ?_
            rotate_left
            ·intro w'
             go_simp
             with_reducible rfl
            rotate_left
            ·simp only [Act.put, List.setIfInBounds_toArray, List.set_cons_zero, List.set_cons_succ, i64_w, i32_w]
             rfl
            refine pure_ (i := 9) (N := some 92) (v := ?_) (a' := ?_) #[true, true, false, true, false, true, false, true, false, true, false, false, false, false, false, false] rfl rfl (any_of HT_.out (by kernel_rfl)) (fun _ _ _ h => h) (Or.inl ⟨by rfl, ?_⟩) ?_ ?_
            rotate_left
            ·intro w'
             go_simp
             with_reducible rfl
            rotate_left
            ·simp only [Act.put, List.setIfInBounds_toArray, List.set_cons_zero, List.set_cons_succ, i64_w, i32_w]
             rfl
            refine pure_ (i := 11) (N := some 94) (v := ?_) (a' := ?_) #[true, true, false, true, false, true, false, true, false, true, false, true, false, false, false, false] rfl rfl (any_of HT_.out (by kernel_rfl)) (fun _ _ _ h => h) (Or.inl ⟨by rfl, ?_⟩) ?_ ?_
            rotate_left
            ·intro w'
             go_simp
             with_reducible rfl
            rotate_left
            ·simp only [Act.put, List.setIfInBounds_toArray, List.set_cons_zero, List.set_cons_succ, i64_w, i32_w]
             rfl
            refine pure_ (i := 12) (N := some 95) (v := ?_) (a' := ?_) #[true, true, false, true, false, true, false, true, false, true, false, true, true, false, false, false] rfl rfl (any_of HT_.out (by kernel_rfl)) (fun _ _ _ h => h) (Or.inl ⟨by rfl, ?_⟩) ?_ ?_
            rotate_left
            ·intro w'
             go_simp
             with_reducible rfl
            rotate_left
            ·simp only [Act.put, List.setIfInBounds_toArray, List.set_cons_zero, List.set_cons_succ, i64_w, i32_w]
             rfl
            refine take_ (i := 2) (N := some 85) (v := ?_) (a' := ?_) #[true, true, true, true, false, true, false, true, false, true, false, true, true, false, false, false] rfl rfl (take_ofW HT_.out HW_.out (by kernel_rfl)) (fun _ _ _ h => h) (Or.inl ⟨by rfl, ?_⟩) hHeld ?_ ?_
            rotate_left
            ·rintro w' ⟨s0, s1, s2, s3, s4, s5, s6, s7, s8⟩
             go_simp
             with_reducible rfl
            rotate_left
            ·simp only [Act.put, List.setIfInBounds_toArray, List.set_cons_zero, List.set_cons_succ, i64_w, i32_w]
             rfl
            refine take_ (i := 4) (N := some 87) (v := ?_) (a' := ?_) #[true, true, true, true, true, true, false, true, false, true, false, true, true, false, false, false] rfl rfl (take_ofW HT_.out HW_.out (by kernel_rfl)) (fun _ _ _ h => h) (Or.inl ⟨by rfl, ?_⟩) hHeld ?_ ?_
            rotate_left
            ·rintro w' ⟨s0, s1, s2, s3, s4, s5, s6, s7, s8⟩
             go_simp
             with_reducible rfl
            rotate_left
            ·simp only [Act.put, List.setIfInBounds_toArray, List.set_cons_zero, List.set_cons_succ, i64_w, i32_w]
             rfl
            refine take_ (i := 6) (N := some 89) (v := ?_) (a' := ?_) #[true, true, true, true, true, true, true, true, false, true, false, true, true, false, false, false] rfl rfl (take_ofW HT_.out HW_.out (by kernel_rfl)) (fun _ _ _ h => h) (Or.inl ⟨by rfl, ?_⟩) hHeld ?_ ?_
            rotate_left
            ·rintro w' ⟨s0, s1, s2, s3, s4, s5, s6, s7, s8⟩
             go_simp
             with_reducible rfl
            rotate_left
            ·simp only [Act.put, List.setIfInBounds_toArray, List.set_cons_zero, List.set_cons_succ, i64_w, i32_w]
             rfl
            refine take_ (i := 8) (N := some 91) (v := ?_) (a' := ?_) #[true, true, true, true, true, true, true, true, true, true, false, true, true, false, false, false] rfl rfl (take_ofW HT_.out HW_.out (by kernel_rfl)) (fun _ _ _ h => h) (Or.inl ⟨by rfl, ?_⟩) hHeld ?_ ?_
            rotate_left
            ·rintro w' ⟨s0, s1, s2, s3, s4, s5, s6, s7, s8⟩
             go_simp
             with_reducible rfl
            rotate_left
            ·simp only [Act.put, List.setIfInBounds_toArray, List.set_cons_zero, List.set_cons_succ, i64_w, i32_w]
             rfl
            refine take_ (i := 10) (N := some 93) (v := ?_) (a' := ?_) #[true, true, true, true, true, true, true, true, true, true, true, true, true, false, false, false] rfl rfl (take_ofW HT_.out HW_.out (by kernel_rfl)) (fun _ _ _ h => h) (Or.inl ⟨by rfl, ?_⟩) hHeld ?_ ?_
            rotate_left
            ·rintro w' ⟨s0, s1, s2, s3, s4, s5, s6, s7, s8⟩
             go_simp
             with_reducible rfl
            rotate_left
            ·simp only [Act.put, List.setIfInBounds_toArray, List.set_cons_zero, List.set_cons_succ, i64_w, i32_w]
             rfl
            refine pure_ (i := 13) (N := some 96) (v := ?_) (a' := ?_) #[true, true, true, true, true, true, true, true, true, true, true, true, true, true, false, false] rfl rfl (any_of HT_.out (by kernel_rfl)) (fun _ _ _ h => h) (Or.inl ⟨by rfl, ?_⟩) ?_ ?_
            rotate_left
            ·intro w'
             go_simp
             with_reducible rfl
            rotate_left
            ·simp only [Act.put, List.setIfInBounds_toArray, List.set_cons_zero, List.set_cons_succ, i64_w, i32_w]
             rfl
            refine one_ (i := 14) (N := none) #[true, true, true, true, true, true, true, true, true, true, true, true, true, true, true, false] rfl rfl (one_of HT_.out (by kernel_rfl)) (by decide) (fun K hK => ?_)
            have hs77 : w76.cell? ⟨gb172, 0, none⟩ = some (.int .i64 0) := (blk_cell BK172.out 0).trans rfl
            have hfs77 := blk_frozen BK172.out 0
            have hns77_0 := NB171_172.out
            have hns77_2 := NB186_172.out
            have hms77_0 := NB172_171.out
            have hms77_2 := NB172_186.out
            have hs78 : w76.cell? ⟨gb172, 1, none⟩ = some (.int .u32 0) := (blk_cell BK172.out 1).trans rfl
            have hfs78 := blk_frozen BK172.out 1
            have hns78_0 := NB171_172.out
            have hns78_2 := NB186_172.out
            have hms78_0 := NB172_171.out
            have hms78_2 := NB172_186.out
            have hs79 : w76.cell? ⟨gb172, 2, none⟩ = some (.int .u32 0) := (blk_cell BK172.out 2).trans rfl
            have hfs79 := blk_frozen BK172.out 2
            have hns79_0 := NB171_172.out
            have hns79_2 := NB186_172.out
            have hms79_0 := NB172_171.out
            have hms79_2 := NB172_186.out
            have hs80 : w76.cell? ⟨gb172, 3, none⟩ = some (.int .i64 0) := (blk_cell BK172.out 3).trans rfl
            have hfs80 := blk_frozen BK172.out 3
            have hns80_0 := NB171_172.out
            have hns80_2 := NB186_172.out
            have hms80_0 := NB172_171.out
            have hms80_2 := NB172_186.out
            have hs81 : w76.cell? ⟨gb172, 4, none⟩ = some (.int .i64 0) := (blk_cell BK172.out 4).trans rfl
            have hfs81 := blk_frozen BK172.out 4
            have hns81_0 := NB171_172.out
            have hns81_2 := NB186_172.out
            have hms81_0 := NB172_171.out
            have hms81_2 := NB172_186.out
            have hs82 : w76.cell? ⟨gb172, 5, none⟩ = some (.int .i64 0) := (blk_cell BK172.out 5).trans rfl
            have hfs82 := blk_frozen BK172.out 5
            have hns82_0 := NB171_172.out
            have hns82_2 := NB186_172.out
            have hms82_0 := NB172_171.out
            have hms82_2 := NB172_186.out
            have hs83 : w76.cell? ⟨gb172, 6, none⟩ = some (.string (⟨#[]⟩ : ByteArray)) := (blk_cell BK172.out 6).trans rfl
            have hfs83 := blk_frozen BK172.out 6
            have hns83_0 := NB171_172.out
            have hns83_2 := NB186_172.out
            have hms83_0 := NB172_171.out
            have hms83_2 := NB172_186.out
            refine skip_ (w1 := ?_) (by rfl) rfl ?_ ?_
            rotate_left
            ·go_simp
             rfl
            refine hK.out _ _ ⟨((cell_far (p := ⟨gb172, _, none⟩) NB186_172.out _).trans (((cell_far (p := ⟨gb172, _, none⟩) NB186_172.out _).trans (((cell_far (p := ⟨gb172, _, none⟩) NB186_172.out _).trans (((cell_far (p := ⟨gb172, _, none⟩) NB186_172.out _).trans (((cell_far (p := ⟨gb172, _, none⟩) NB186_172.out _).trans (((cell_far (p := ⟨gb172, _, none⟩) NB186_172.out _).trans (((cell_far (p := ⟨gb172, _, none⟩) NB186_172.out _).trans (hHeld.1)))))))))))))), ((cell_far (p := ⟨gb172, _, none⟩) NB186_172.out _).trans (((cell_far (p := ⟨gb172, _, none⟩) NB186_172.out _).trans (((cell_far (p := ⟨gb172, _, none⟩) NB186_172.out _).trans (((cell_far (p := ⟨gb172, _, none⟩) NB186_172.out _).trans (((cell_far (p := ⟨gb172, _, none⟩) NB186_172.out _).trans (((cell_far (p := ⟨gb172, _, none⟩) NB186_172.out _).trans (((cell_far (p := ⟨gb172, _, none⟩) NB186_172.out _).trans (hHeld.2.1)))))))))))))), ((cell_far (p := ⟨gb172, _, none⟩) NB186_172.out _).trans (((cell_far (p := ⟨gb172, _, none⟩) NB186_172.out _).trans (((cell_far (p := ⟨gb172, _, none⟩) NB186_172.out _).trans (((cell_far (p := ⟨gb172, _, none⟩) NB186_172.out _).trans (((cell_far (p := ⟨gb172, _, none⟩) NB186_172.out _).trans (((cell_far (p := ⟨gb172, _, none⟩) NB186_172.out _).trans (((cell_far (p := ⟨gb172, _, none⟩) NB186_172.out _).trans (hHeld.2.2.1)))))))))))))), ((cell_far (p := ⟨gb172, _, none⟩) NB186_172.out _).trans (((cell_far (p := ⟨gb172, _, none⟩) NB186_172.out _).trans (((cell_far (p := ⟨gb172, _, none⟩) NB186_172.out _).trans (((cell_far (p := ⟨gb172, _, none⟩) NB186_172.out _).trans (((cell_far (p := ⟨gb172, _, none⟩) NB186_172.out _).trans (((cell_far (p := ⟨gb172, _, none⟩) NB186_172.out _).trans (((cell_far (p := ⟨gb172, _, none⟩) NB186_172.out _).trans (hHeld.2.2.2.1)))))))))))))), ((cell_far (p := ⟨gb172, _, none⟩) NB186_172.out _).trans (((cell_far (p := ⟨gb172, _, none⟩) NB186_172.out _).trans (((cell_far (p := ⟨gb172, _, none⟩) NB186_172.out _).trans (((cell_far (p := ⟨gb172, _, none⟩) NB186_172.out _).trans (((cell_far (p := ⟨gb172, _, none⟩) NB186_172.out _).trans (((cell_far (p := ⟨gb172, _, none⟩) NB186_172.out _).trans (((cell_far (p := ⟨gb172, _, none⟩) NB186_172.out _).trans (hHeld.2.2.2.2.1)))))))))))))), ((cell_far (p := ⟨gb172, _, none⟩) NB186_172.out _).trans (((cell_far (p := ⟨gb172, _, none⟩) NB186_172.out _).trans (((cell_far (p := ⟨gb172, _, none⟩) NB186_172.out _).trans (((cell_far (p := ⟨gb172, _, none⟩) NB186_172.out _).trans (((cell_far (p := ⟨gb172, _, none⟩) NB186_172.out _).trans (((cell_far (p := ⟨gb172, _, none⟩) NB186_172.out _).trans (((cell_far (p := ⟨gb172, _, none⟩) NB186_172.out _).trans (hHeld.2.2.2.2.2.1)))))))))))))), ((cell_far (p := ⟨gb172, _, none⟩) NB186_172.out _).trans (((cell_far (p := ⟨gb172, _, none⟩) NB186_172.out _).trans (((cell_far (p := ⟨gb172, _, none⟩) NB186_172.out _).trans (((cell_far (p := ⟨gb172, _, none⟩) NB186_172.out _).trans (((cell_far (p := ⟨gb172, _, none⟩) NB186_172.out _).trans (((cell_far (p := ⟨gb172, _, none⟩) NB186_172.out _).trans (((cell_far (p := ⟨gb172, _, none⟩) NB186_172.out _).trans (hHeld.2.2.2.2.2.2.1)))))))))))))), ((cell_far (p := ⟨gb172, _, none⟩) NB186_172.out _).trans (((cell_far (p := ⟨gb172, _, none⟩) NB186_172.out _).trans (((cell_far (p := ⟨gb172, _, none⟩) NB186_172.out _).trans (((cell_far (p := ⟨gb172, _, none⟩) NB186_172.out _).trans (((cell_far (p := ⟨gb172, _, none⟩) NB186_172.out _).trans (((cell_far (p := ⟨gb172, _, none⟩) NB186_172.out _).trans (((cell_far (p := ⟨gb172, _, none⟩) NB186_172.out _).trans (hHeld.2.2.2.2.2.2.2.1)))))))))))))), ((cell_far (p := ⟨gb172, _, none⟩) NB186_172.out _).trans (((cell_far (p := ⟨gb172, _, none⟩) NB186_172.out _).trans (((cell_far (p := ⟨gb172, _, none⟩) NB186_172.out _).trans (((cell_far (p := ⟨gb172, _, none⟩) NB186_172.out _).trans (((cell_far (p := ⟨gb172, _, none⟩) NB186_172.out _).trans (((cell_far (p := ⟨gb172, _, none⟩) NB186_172.out _).trans (((cell_far (p := ⟨gb172, _, none⟩) NB186_172.out _).trans (hHeld.2.2.2.2.2.2.2.2))))))))))))))⟩ (fun hHeld => ?_)
            clear hK K
            refine pure_ (i := 15) (N := some 3) (v := ?_) (a' := ?_) #[true, true, true, true, true, true, true, true, true, true, true, true, true, true, true, true] rfl rfl (any_of HT_.out (by kernel_rfl)) (fun _ _ _ h => h) (Or.inl ⟨by rfl, ?_⟩) ?_ ?_
            rotate_left
            ·intro w'
             go_simp
             with_reducible rfl
            rotate_left
            ·simp only [Act.put, List.setIfInBounds_toArray, List.set_cons_zero, List.set_cons_succ, i64_w, i32_w]
             rfl
            refine done_ (done_of HT_.out (by kernel_rfl)) ?_
            try go_wp2
            refine bodyPost_ret (results_ct rfl _ _ gb172 63 #[.int .i64 (wrap64 (bt a0_8 0)), .int .u32 t175, .int .u32 t176, .int .i64 t177, .int .i64 t179, .int .i64 t180, .string ((a0_8.extract 4 a0_8.size).extract 20 (a0_8.size - 4))] (0, 0) _ rfl (Fit.put7 (BK172.out)) Try.underlying63 rfl (by kernel_rfl)) rfl ?_
            exact ⟨by (try rw [show (a0_8.extract 4 a0_8.size).size = a0_8.size - 4 from by rw [ByteArray.size_extract, Nat.min_self]]); first | rfl | (simp [errW_none, errW_some] <;> rfl) | (simp only [← hji66]; first | rfl | (simp [errW_none, errW_some] <;> rfl)) | (simp [*, errW_none, errW_some] <;> rfl), Fit.bl HB.out⟩
           ·rw [if_neg c68] at H
            exact absurd H (by simp)
          ·rw [if_neg c67] at H
           have c67b0 : (((a0_8.extract 4 a0_8.size).size : Int) == (ji66)) = false := beq_eq_false_iff_ne.mpr c67
           have c67b1 : (((a0_8.extract 4 a0_8.size).size : Int) != (ji66)) = true := bne_iff_ne.mpr c67
           (try (have c67n0 := c67b0; simp only [ByteArray.size_extract, Nat.min_self, Nat.sub_zero] at c67n0))
           (try (have c67n1 := c67b1; simp only [ByteArray.size_extract, Nat.min_self, Nat.sub_zero] at c67n1))
           simp only [Option.some.injEq, Prod.mk.injEq] at H
           obtain ⟨rfl, rfl, rfl, rfl, rfl, rfl, rfl, rfl⟩ := H
           try go_wp2
           have n0_ := Aside0.mk (blk_drew BK171.out)
           have n1_ := Aside0.mk (blk_drew BK172.out)
           have n2_ := Aside0.mk (below_drew1 HB.out)
           clear BK171
           clear BK172
           clear HB
           have BK171 := n0_
           have BK172 := n1_
           have HB := n2_
           clear n0_ n1_ n2_
           have p25 : 0 ≤ (0 : Int) := (by omega)
           have q25 : 0 < a0_8.size := (by have : (0 : Int) < (a0_8.size : Int) := of_decide_eq_true (by first | (with_reducible assumption) | assumption); omega)
           have hx25 : ∀ h : 0 < a0_8.size, ((a0_8[0]'h).toNat : Int) = bt a0_8 0 := bt_at a0_8 0
           clear p25
           have qi25 : (0 < (a0_8.size : Int)) = True := eq_true (of_decide_eq_true (by first | (with_reducible assumption) | assumption))
           replace q25 := eq_true q25
           refine start_ (n := 9) (S := fun w' => w'.cell? ⟨gb171, 0, none⟩ = some (.int .u32 a0_0) ∧ w'.cell? ⟨gb171, 1, none⟩ = some (.int .u32 a0_1) ∧ w'.cell? ⟨gb171, 2, none⟩ = some (.int .i64 a0_2) ∧ w'.cell? ⟨gb171, 3, none⟩ = some (.int .i64 a0_3) ∧ w'.cell? ⟨gb171, 4, none⟩ = some (.int .i64 a0_4) ∧ w'.cell? ⟨gb171, 5, none⟩ = some (.int .i64 a0_5) ∧ w'.cell? ⟨gb171, 6, none⟩ = some (.bool a0_6) ∧ w'.cell? ⟨gb171, 7, none⟩ = some (.bool a0_7) ∧ w'.cell? ⟨gb171, 8, none⟩ = some (.string a0_8)) (ds := []) #[false, false, false, false, false, false, false, false, false] (by kernel_rfl) rfl rfl ⟨(blk_cell BK171.out 0).trans rfl, (blk_cell BK171.out 1).trans rfl, (blk_cell BK171.out 2).trans rfl, (blk_cell BK171.out 3).trans rfl, (blk_cell BK171.out 4).trans rfl, (blk_cell BK171.out 5).trans rfl, (blk_cell BK171.out 6).trans rfl, (blk_cell BK171.out 7).trans rfl, (blk_cell BK171.out 8).trans rfl⟩ (fun hHeld => ?_); refine with_tabW patchbayref2_NoteOf.tab3 patchbayref2_NoteOf.bits3 (fun HT_ HW_ => ?_)
           generalize wc.drew = w84 at BK171 BK172 HB hHeld ⊢
           refine pure_ (i := 0) (N := some 34) (v := ?_) (a' := ?_) #[true, false, false, false, false, false, false, false, false] rfl rfl (any_of HT_.out (by kernel_rfl)) (fun _ _ _ h => h) (Or.inl ⟨by rfl, ?_⟩) ?_ ?_
           rotate_left
           ·intro w'
            go_simp
            with_reducible rfl
           rotate_left
           ·simp only [Act.put, List.setIfInBounds_toArray, List.set_cons_zero, List.set_cons_succ, i64_w, i32_w]
            rfl
           refine pure_ (i := 4) (N := some 38) (v := ?_) (a' := ?_) #[true, false, false, false, true, false, false, false, false] rfl rfl (any_of HT_.out (by kernel_rfl)) (fun _ _ _ h => h) (Or.inl ⟨by rfl, ?_⟩) ?_ ?_
           rotate_left
           ·intro w'
            go_simp
            with_reducible rfl
           rotate_left
           ·simp only [Act.put, List.setIfInBounds_toArray, List.set_cons_zero, List.set_cons_succ, i64_w, i32_w]
            rfl
           refine take_ (i := 1) (N := some 35) (v := ?_) (a' := ?_) #[true, true, false, false, true, false, false, false, false] rfl rfl (take_ofW HT_.out HW_.out (by kernel_rfl)) (fun _ _ _ h => h) (Or.inl ⟨by rfl, ?_⟩) hHeld ?_ ?_
           rotate_left
           ·rintro w' ⟨s0, s1, s2, s3, s4, s5, s6, s7, s8⟩
            go_simp
            with_reducible rfl
           rotate_left
           ·simp only [Act.put, List.setIfInBounds_toArray, List.set_cons_zero, List.set_cons_succ, i64_w, i32_w]
            rfl
           refine take_ (i := 2) (N := some 36) (v := ?_) (a' := ?_) #[true, true, true, false, true, false, false, false, false] rfl rfl (take_ofW HT_.out HW_.out (by kernel_rfl)) (fun _ _ _ h => h) (Or.inl ⟨by rfl, ?_⟩) hHeld ?_ ?_
           rotate_left
           ·rintro w' ⟨s0, s1, s2, s3, s4, s5, s6, s7, s8⟩
            go_simp
            with_reducible rfl
           rotate_left
           ·simp only [Act.put, List.setIfInBounds_toArray, List.set_cons_zero, List.set_cons_succ, i64_w, i32_w]
            rfl
           refine pure_ (i := 3) (N := some 37) (v := ?_) (a' := ?_) #[true, true, true, true, true, false, false, false, false] rfl rfl (any_of HT_.out (by kernel_rfl)) (fun _ _ _ h => h) (Or.inl ⟨by rfl, ?_⟩) ?_ ?_
           rotate_left
           ·intro w'
            go_simp
            with_reducible rfl
           rotate_left
           ·simp only [Act.put, List.setIfInBounds_toArray, List.set_cons_zero, List.set_cons_succ, i64_w, i32_w]
            rfl
           refine pure_ (i := 7) (N := some 4) (v := ?_) (a' := ?_) #[true, true, true, true, true, false, false, true, false] rfl rfl (any_of HT_.out (by kernel_rfl)) (fun _ _ _ h => h) (Or.inl ⟨by rfl, ?_⟩) ?_ ?_
           rotate_left
           ·intro w'
            go_simp
            with_reducible rfl
           rotate_left
           ·simp only [Act.put, List.setIfInBounds_toArray, List.set_cons_zero, List.set_cons_succ, i64_w, i32_w]
            rfl
           refine take_ (i := 5) (N := some 39) (v := ?_) (a' := ?_) #[true, true, true, true, true, true, false, true, false] rfl rfl (take_ofW HT_.out HW_.out (by kernel_rfl)) (fun _ _ _ h => h) (Or.inl ⟨by rfl, ?_⟩) hHeld ?_ ?_
           rotate_left
           ·rintro w' ⟨s0, s1, s2, s3, s4, s5, s6, s7, s8⟩
            go_simp
            with_reducible rfl
           rotate_left
           ·simp only [Act.put, List.setIfInBounds_toArray, List.set_cons_zero, List.set_cons_succ, i64_w, i32_w]
            rfl
           refine pure_ (i := 6) (N := some 40) (v := ?_) (a' := ?_) #[true, true, true, true, true, true, true, true, false] rfl rfl (any_of HT_.out (by kernel_rfl)) (fun _ _ _ h => h) (Or.inl ⟨by rfl, ?_⟩) ?_ ?_
           rotate_left
           ·intro w'
            go_simp
            with_reducible rfl
           rotate_left
           ·simp only [Act.put, List.setIfInBounds_toArray, List.set_cons_zero, List.set_cons_succ, i64_w, i32_w]
            rfl
           refine pure_ (i := 8) (N := some 5) (v := ?_) (a' := ?_) #[true, true, true, true, true, true, true, true, true] rfl rfl (any_of HT_.out (by kernel_rfl)) (fun _ _ _ h => h) (Or.inl ⟨by rfl, ?_⟩) ?_ ?_
           rotate_left
           ·intro w'
            go_simp
            with_reducible rfl
           rotate_left
           ·simp only [Act.put, List.setIfInBounds_toArray, List.set_cons_zero, List.set_cons_succ, i64_w, i32_w]
            rfl
           refine done_ (done_of HT_.out (by kernel_rfl)) ?_
           try go_wp2_with (first | ((with_reducible refine gate_callee (f := 36) rfl ?_); refine goesL_ (some 61) rfl rfl Try.func36 (by kernel_rfl) rfl #[.string (a0_8.extract 4 a0_8.size)] rfl (by (try simp only [List.map_toArray, List.map_cons, List.map_nil]); first | done | rfl | (simp only [List.length_drop, List.length_take]; rfl)) ?_; (with_reducible refine (patchbayref2_HeadRead.calls kj1 (a0_8.extract 4 a0_8.size) t175 t176 t177 t178 t179 t180 t181 t182 t183 t184 t185 _ A46.out).mono ?_); rintro e w85 ⟨rfl, hb⟩; refine ⟨_, rfl, ?_⟩; have n0_ := Aside0.mk (blk_below (g := gb171) (Fit.pk BK171.out) hb); have n1_ := Aside0.mk (blk_below (g := gb172) (Fit.pk BK172.out) hb); have n2_ := Aside0.mk (below_step (Fit.bl HB.out) hb); clear BK171; clear BK172; clear HB; have BK171 := n0_; have BK172 := n1_; have HB := n2_; clear n0_ n1_ n2_; (try clear hb); (try clear hb2); (try clear hk); (try clear hi)) | ((with_reducible refine gate_dst (N := 6) rfl ?_); (try (refine gate_guard (by rfl) ?_; dsimp only)); refine box_event ?hg (N := 6) ?hd (cs := #[.int .u32 0, .int .u32 0, .int .i64 0, .int .i64 0, .int .i64 0, .int .i64 0, .bool false, .bool false, .string (⟨#[]⟩ : ByteArray)]) (t := 30) ?hr ?_; (case hd => rfl); (case hg => rfl); (case hr => first | (go_simp; done) | (go_simp; rfl)); intro gb186 hg w86 hbox hb; have n0_ := Aside0.mk (blk_below (g := gb171) (Fit.pk BK171.out) hb); have n1_ := Aside0.mk (blk_below (g := gb172) (Fit.pk BK172.out) hb); have n2_ := Aside0.mk (below_step (Fit.bl HB.out) hb); have n3_ := Aside0.mk (hbox); have n4_ := Aside0.mk ((by rw [hg]; exact (below_size (Fit.bl HB.out)) : w.heap.size ≤ gb186)); have n5_ := Aside0.mk ((by rw [hg]; exact (below_size (Fit.bl HB.out)) : w.heap.size ≤ gb186)); have n6_ := Aside0.mk ((by rw [hg]; exact Nat.ne_of_lt (blk_lt (g := gb171) (Fit.pk BK171.out)) : gb171 ≠ gb186)); have n7_ := Aside0.mk ((by rw [hg]; exact Nat.ne_of_gt (blk_lt (g := gb171) (Fit.pk BK171.out)) : gb186 ≠ gb171)); have n8_ := Aside0.mk ((by rw [hg]; exact Nat.ne_of_lt (blk_lt (g := gb172) (Fit.pk BK172.out)) : gb172 ≠ gb186)); have n9_ := Aside0.mk ((by rw [hg]; exact Nat.ne_of_gt (blk_lt (g := gb172) (Fit.pk BK172.out)) : gb186 ≠ gb172)); clear BK171; clear BK172; clear HB; have BK171 := n0_; have BK172 := n1_; have HB := n2_; have BK186 := n3_; have GW186 := n4_; have GE186 := n5_; have NB171_186 := n6_; have NB186_171 := n7_; have NB172_186 := n8_; have NB186_172 := n9_; clear n0_ n1_ n2_ n3_ n4_ n5_ n6_ n7_ n8_ n9_; clear hb hbox hg; have hnb87 := NB186_171.out; have hnc87 := NB171_186.out; have hnb88 := NB186_172.out; have hnc88 := NB172_186.out; obtain ⟨hcz89_0, hcz89_1, hcz89_2, hcz89_3, hcz89_4, hcz89_5, hcz89_6, hcz89_7, hcz89_8, hfz89_0⟩ := Fit.cells9 BK186.out; have hnb90 := NB172_171.out; have hnc90 := NB171_172.out; obtain ⟨hcz91_0, hcz91_1, hcz91_2, hcz91_3, hcz91_4, hcz91_5, hcz91_6, hfz91_0⟩ := Fit.cells7 BK172.out))
           refine bodyPost_ret (results_ct rfl _ _ gb172 63 #[.int .i64 0, .int .u32 0, .int .u32 0, .int .i64 0, .int .i64 0, .int .i64 0, .string (⟨#[]⟩ : ByteArray)] (0, 0) _ rfl (Fit.put7 (Fit.far9i (BK172.out) NB186_172.out)) Try.underlying63 rfl (by kernel_rfl)) rfl ?_
           exact ⟨by first | rfl | (simp [errW_none, errW_some] <;> rfl) | (simp only [← hji66]; first | rfl | (simp [errW_none, errW_some] <;> rfl)) | (simp [*, errW_none, errW_some] <;> rfl), Fit.bl HB.out⟩
         ·rw [if_neg c65] at H
          have c65b0 : (t185 == 0) = false := beq_eq_false_iff_ne.mpr c65
          have c65b1 : (t185 != 0) = true := bne_iff_ne.mpr c65
          simp only [Option.some.injEq, Prod.mk.injEq] at H
          obtain ⟨rfl, rfl, rfl, rfl, rfl, rfl, rfl, rfl⟩ := H
          try go_wp2
          have n0_ := Aside0.mk (blk_drew BK171.out)
          have n1_ := Aside0.mk (blk_drew BK172.out)
          have n2_ := Aside0.mk (below_drew1 HB.out)
          clear BK171
          clear BK172
          clear HB
          have BK171 := n0_
          have BK172 := n1_
          have HB := n2_
          clear n0_ n1_ n2_
          have p25 : 0 ≤ (0 : Int) := (by omega)
          have q25 : 0 < a0_8.size := (by have : (0 : Int) < (a0_8.size : Int) := of_decide_eq_true (by first | (with_reducible assumption) | assumption); omega)
          have hx25 : ∀ h : 0 < a0_8.size, ((a0_8[0]'h).toNat : Int) = bt a0_8 0 := bt_at a0_8 0
          clear p25
          have qi25 : (0 < (a0_8.size : Int)) = True := eq_true (of_decide_eq_true (by first | (with_reducible assumption) | assumption))
          replace q25 := eq_true q25
          refine start_ (n := 9) (S := fun w' => w'.cell? ⟨gb171, 0, none⟩ = some (.int .u32 a0_0) ∧ w'.cell? ⟨gb171, 1, none⟩ = some (.int .u32 a0_1) ∧ w'.cell? ⟨gb171, 2, none⟩ = some (.int .i64 a0_2) ∧ w'.cell? ⟨gb171, 3, none⟩ = some (.int .i64 a0_3) ∧ w'.cell? ⟨gb171, 4, none⟩ = some (.int .i64 a0_4) ∧ w'.cell? ⟨gb171, 5, none⟩ = some (.int .i64 a0_5) ∧ w'.cell? ⟨gb171, 6, none⟩ = some (.bool a0_6) ∧ w'.cell? ⟨gb171, 7, none⟩ = some (.bool a0_7) ∧ w'.cell? ⟨gb171, 8, none⟩ = some (.string a0_8)) (ds := []) #[false, false, false, false, false, false, false, false, false] (by kernel_rfl) rfl rfl ⟨(blk_cell BK171.out 0).trans rfl, (blk_cell BK171.out 1).trans rfl, (blk_cell BK171.out 2).trans rfl, (blk_cell BK171.out 3).trans rfl, (blk_cell BK171.out 4).trans rfl, (blk_cell BK171.out 5).trans rfl, (blk_cell BK171.out 6).trans rfl, (blk_cell BK171.out 7).trans rfl, (blk_cell BK171.out 8).trans rfl⟩ (fun hHeld => ?_); refine with_tabW patchbayref2_NoteOf.tab3 patchbayref2_NoteOf.bits3 (fun HT_ HW_ => ?_)
          generalize wc.drew = w92 at BK171 BK172 HB hHeld ⊢
          refine pure_ (i := 0) (N := some 34) (v := ?_) (a' := ?_) #[true, false, false, false, false, false, false, false, false] rfl rfl (any_of HT_.out (by kernel_rfl)) (fun _ _ _ h => h) (Or.inl ⟨by rfl, ?_⟩) ?_ ?_
          rotate_left
          ·intro w'
           go_simp
           with_reducible rfl
          rotate_left
          ·simp only [Act.put, List.setIfInBounds_toArray, List.set_cons_zero, List.set_cons_succ, i64_w, i32_w]
           rfl
          refine pure_ (i := 4) (N := some 38) (v := ?_) (a' := ?_) #[true, false, false, false, true, false, false, false, false] rfl rfl (any_of HT_.out (by kernel_rfl)) (fun _ _ _ h => h) (Or.inl ⟨by rfl, ?_⟩) ?_ ?_
          rotate_left
          ·intro w'
           go_simp
           with_reducible rfl
          rotate_left
          ·simp only [Act.put, List.setIfInBounds_toArray, List.set_cons_zero, List.set_cons_succ, i64_w, i32_w]
           rfl
          refine take_ (i := 1) (N := some 35) (v := ?_) (a' := ?_) #[true, true, false, false, true, false, false, false, false] rfl rfl (take_ofW HT_.out HW_.out (by kernel_rfl)) (fun _ _ _ h => h) (Or.inl ⟨by rfl, ?_⟩) hHeld ?_ ?_
          rotate_left
          ·rintro w' ⟨s0, s1, s2, s3, s4, s5, s6, s7, s8⟩
           go_simp
           with_reducible rfl
          rotate_left
          ·simp only [Act.put, List.setIfInBounds_toArray, List.set_cons_zero, List.set_cons_succ, i64_w, i32_w]
           rfl
          refine take_ (i := 2) (N := some 36) (v := ?_) (a' := ?_) #[true, true, true, false, true, false, false, false, false] rfl rfl (take_ofW HT_.out HW_.out (by kernel_rfl)) (fun _ _ _ h => h) (Or.inl ⟨by rfl, ?_⟩) hHeld ?_ ?_
          rotate_left
          ·rintro w' ⟨s0, s1, s2, s3, s4, s5, s6, s7, s8⟩
           go_simp
           with_reducible rfl
          rotate_left
          ·simp only [Act.put, List.setIfInBounds_toArray, List.set_cons_zero, List.set_cons_succ, i64_w, i32_w]
           rfl
          refine pure_ (i := 3) (N := some 37) (v := ?_) (a' := ?_) #[true, true, true, true, true, false, false, false, false] rfl rfl (any_of HT_.out (by kernel_rfl)) (fun _ _ _ h => h) (Or.inl ⟨by rfl, ?_⟩) ?_ ?_
          rotate_left
          ·intro w'
           go_simp
           with_reducible rfl
          rotate_left
          ·simp only [Act.put, List.setIfInBounds_toArray, List.set_cons_zero, List.set_cons_succ, i64_w, i32_w]
           rfl
          refine pure_ (i := 7) (N := some 4) (v := ?_) (a' := ?_) #[true, true, true, true, true, false, false, true, false] rfl rfl (any_of HT_.out (by kernel_rfl)) (fun _ _ _ h => h) (Or.inl ⟨by rfl, ?_⟩) ?_ ?_
          rotate_left
          ·intro w'
           go_simp
           with_reducible rfl
          rotate_left
          ·simp only [Act.put, List.setIfInBounds_toArray, List.set_cons_zero, List.set_cons_succ, i64_w, i32_w]
           rfl
          refine take_ (i := 5) (N := some 39) (v := ?_) (a' := ?_) #[true, true, true, true, true, true, false, true, false] rfl rfl (take_ofW HT_.out HW_.out (by kernel_rfl)) (fun _ _ _ h => h) (Or.inl ⟨by rfl, ?_⟩) hHeld ?_ ?_
          rotate_left
          ·rintro w' ⟨s0, s1, s2, s3, s4, s5, s6, s7, s8⟩
           go_simp
           with_reducible rfl
          rotate_left
          ·simp only [Act.put, List.setIfInBounds_toArray, List.set_cons_zero, List.set_cons_succ, i64_w, i32_w]
           rfl
          refine pure_ (i := 6) (N := some 40) (v := ?_) (a' := ?_) #[true, true, true, true, true, true, true, true, false] rfl rfl (any_of HT_.out (by kernel_rfl)) (fun _ _ _ h => h) (Or.inl ⟨by rfl, ?_⟩) ?_ ?_
          rotate_left
          ·intro w'
           go_simp
           with_reducible rfl
          rotate_left
          ·simp only [Act.put, List.setIfInBounds_toArray, List.set_cons_zero, List.set_cons_succ, i64_w, i32_w]
           rfl
          refine pure_ (i := 8) (N := some 5) (v := ?_) (a' := ?_) #[true, true, true, true, true, true, true, true, true] rfl rfl (any_of HT_.out (by kernel_rfl)) (fun _ _ _ h => h) (Or.inl ⟨by rfl, ?_⟩) ?_ ?_
          rotate_left
          ·intro w'
           go_simp
           with_reducible rfl
          rotate_left
          ·simp only [Act.put, List.setIfInBounds_toArray, List.set_cons_zero, List.set_cons_succ, i64_w, i32_w]
           rfl
          refine done_ (done_of HT_.out (by kernel_rfl)) ?_
          try go_wp2_with (first | ((with_reducible refine gate_callee (f := 36) rfl ?_); refine goesL_ (some 61) rfl rfl Try.func36 (by kernel_rfl) rfl #[.string (a0_8.extract 4 a0_8.size)] rfl (by (try simp only [List.map_toArray, List.map_cons, List.map_nil]); first | done | rfl | (simp only [List.length_drop, List.length_take]; rfl)) ?_; (with_reducible refine (patchbayref2_HeadRead.calls kj1 (a0_8.extract 4 a0_8.size) t175 t176 t177 t178 t179 t180 t181 t182 t183 t184 t185 _ A46.out).mono ?_); rintro e w93 ⟨rfl, hb⟩; refine ⟨_, rfl, ?_⟩; have n0_ := Aside0.mk (blk_below (g := gb171) (Fit.pk BK171.out) hb); have n1_ := Aside0.mk (blk_below (g := gb172) (Fit.pk BK172.out) hb); have n2_ := Aside0.mk (below_step (Fit.bl HB.out) hb); clear BK171; clear BK172; clear HB; have BK171 := n0_; have BK172 := n1_; have HB := n2_; clear n0_ n1_ n2_; (try clear hb); (try clear hb2); (try clear hk); (try clear hi)) | ((with_reducible refine gate_dst (N := 6) rfl ?_); (try (refine gate_guard (by rfl) ?_; dsimp only)); refine box_event ?hg (N := 6) ?hd (cs := #[.int .u32 0, .int .u32 0, .int .i64 0, .int .i64 0, .int .i64 0, .int .i64 0, .bool false, .bool false, .string (⟨#[]⟩ : ByteArray)]) (t := 30) ?hr ?_; (case hd => rfl); (case hg => rfl); (case hr => first | (go_simp; done) | (go_simp; rfl)); intro gb186 hg w94 hbox hb; have n0_ := Aside0.mk (blk_below (g := gb171) (Fit.pk BK171.out) hb); have n1_ := Aside0.mk (blk_below (g := gb172) (Fit.pk BK172.out) hb); have n2_ := Aside0.mk (below_step (Fit.bl HB.out) hb); have n3_ := Aside0.mk (hbox); have n4_ := Aside0.mk ((by rw [hg]; exact (below_size (Fit.bl HB.out)) : w.heap.size ≤ gb186)); have n5_ := Aside0.mk ((by rw [hg]; exact (below_size (Fit.bl HB.out)) : w.heap.size ≤ gb186)); have n6_ := Aside0.mk ((by rw [hg]; exact Nat.ne_of_lt (blk_lt (g := gb171) (Fit.pk BK171.out)) : gb171 ≠ gb186)); have n7_ := Aside0.mk ((by rw [hg]; exact Nat.ne_of_gt (blk_lt (g := gb171) (Fit.pk BK171.out)) : gb186 ≠ gb171)); have n8_ := Aside0.mk ((by rw [hg]; exact Nat.ne_of_lt (blk_lt (g := gb172) (Fit.pk BK172.out)) : gb172 ≠ gb186)); have n9_ := Aside0.mk ((by rw [hg]; exact Nat.ne_of_gt (blk_lt (g := gb172) (Fit.pk BK172.out)) : gb186 ≠ gb172)); clear BK171; clear BK172; clear HB; have BK171 := n0_; have BK172 := n1_; have HB := n2_; have BK186 := n3_; have GW186 := n4_; have GE186 := n5_; have NB171_186 := n6_; have NB186_171 := n7_; have NB172_186 := n8_; have NB186_172 := n9_; clear n0_ n1_ n2_ n3_ n4_ n5_ n6_ n7_ n8_ n9_; clear hb hbox hg; have hnb95 := NB186_171.out; have hnc95 := NB171_186.out; have hnb96 := NB186_172.out; have hnc96 := NB172_186.out; obtain ⟨hcz97_0, hcz97_1, hcz97_2, hcz97_3, hcz97_4, hcz97_5, hcz97_6, hcz97_7, hcz97_8, hfz97_0⟩ := Fit.cells9 BK186.out; have hnb98 := NB172_171.out; have hnc98 := NB171_172.out; obtain ⟨hcz99_0, hcz99_1, hcz99_2, hcz99_3, hcz99_4, hcz99_5, hcz99_6, hfz99_0⟩ := Fit.cells7 BK172.out))
          refine bodyPost_ret (results_ct rfl _ _ gb172 63 #[.int .i64 0, .int .u32 0, .int .u32 0, .int .i64 0, .int .i64 0, .int .i64 0, .string (⟨#[]⟩ : ByteArray)] (0, 0) _ rfl (Fit.put7 (Fit.far9i (BK172.out) NB186_172.out)) Try.underlying63 rfl (by kernel_rfl)) rfl ?_
          exact ⟨by first | rfl | (simp [errW_none, errW_some] <;> rfl) | (simp [*, errW_none, errW_some] <;> rfl), Fit.bl HB.out⟩
     ·rw [if_neg c26] at H
      exact absurd H (by simp)
    ·rw [if_neg c24] at H
     exact absurd H (by simp)

end Go.Proofs.Ythpohaafphaidaa.GFaultReads
