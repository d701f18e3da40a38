-- a text that a program of this session wrote
import Derived.Test.YthpohaafphaidaaQF9
import Derived.Test.YthpohaafphaidaaQF7
import Derived.Test.YthpohaafphaidaaGFaultReadsx0
import Derived.Test.YthpohaafphaidaaGFaultReadsx5
import Derived.Test.YthpohaafphaidaaGFaultReadsx7
import Derived.Test.YthpohaafphaidaaGFaultReadsx8
namespace Go.Proofs.Ythpohaafphaidaa.GFaultReads
open Go.RowKit Go.Proofs.YthpohaafphaidaaW.PrintWords Go.Proofs.YthpohaafphaidaaW.PrintLast Go.Proofs.YthpohaafphaidaaW.PrintMore
attribute [local go_sem] max2_int min2_int max_two min_two max_three min_three max_four min_four   -- for this text's walks alone
attribute [local go_sem high] Go.Proofs.Ythpohaafphaidaa.Fit.run_string_add_fit
set_option linter.unusedVariables false
set_option linter.unusedSimpArgs false

/-! ### fault_Read: function 39 -/
def fault_Read.j0 : Nat → Bool → Int → Int → Int → Int → Int → Int → Bool → Bool → ByteArray → Option (Int × Int × Int × Int × Int × Int × ByteArray × Int)
 | 0, _, _, _, _, _, _, _, _, _, _ => none
 | k + 1, x59, x136000, x136001, x136002, x136003, x136004, x136005, x136006, x136007, x136008 => if x59 = true then (some (0, 0, 0, 0, 0, 0, (⟨#[]⟩ : ByteArray), 3)) else (if 4 ≤ (x136008.size : Int) then ((pkt_Head.f k (x136008.extract 4 x136008.size)).bind fun bt147 => (if bt147.2.2.2.2.2.2.2.2.2.2 = 0 then (if ((x136008.extract 4 x136008.size).size : Int) = (mn bt147.2.2.2.2.2.2.2.2.2.1 28) then (if 0 < (x136008.size : Int) then (if 20 ≤ ((x136008.extract 4 x136008.size).size : Int) then ((strings_Clone.f ((x136008.extract 4 x136008.size).extract 20 (x136008.extract 4 x136008.size).size)).bind fun t159 => (some (wrap64 (bt x136008 0), bt147.1, bt147.2.1, bt147.2.2.1, bt147.2.2.2.2.1, bt147.2.2.2.2.2.1, t159, 0))) else (none)) else (none)) else (some (0, 0, 0, 0, 0, 0, (⟨#[]⟩ : ByteArray), 3))) else (some (0, 0, 0, 0, 0, 0, (⟨#[]⟩ : ByteArray), 3)))) else (none))
def fault_Read.f (k : Nat) (a0_0 : Int) (a0_1 : Int) (a0_2 : Int) (a0_3 : Int) (a0_4 : Int) (a0_5 : Int) (a0_6 : Bool) (a0_7 : Bool) (a0_8 : ByteArray) : Option (Int × Int × Int × Int × Int × Int × ByteArray × Int) := (pkt_Check.f k a0_0 a0_1 a0_2 a0_3 a0_4 a0_5 a0_6 a0_7 a0_8).bind fun t137 => (if t137 = 0 then ((fault_reply.f a0_0 a0_1 a0_2 a0_3 a0_4 a0_5 a0_6 a0_7 a0_8).bind fun bt138 => (if bt138.2.2.2.2.2.2.2 = true then (some (bt138.1, bt138.2.1, bt138.2.2.1, bt138.2.2.2.1, bt138.2.2.2.2.1, bt138.2.2.2.2.2.1, bt138.2.2.2.2.2.2.1, 0)) else (if a0_2 = 1 then (if a0_5 > 0 then (fault_Read.j0 k true a0_0 a0_1 a0_2 a0_3 a0_4 a0_5 a0_6 a0_7 a0_8) else (if a0_6 = true then (fault_Read.j0 k true a0_0 a0_1 a0_2 a0_3 a0_4 a0_5 a0_6 a0_7 a0_8) else (if (a0_8.size : Int) < 24 then (fault_Read.j0 k true a0_0 a0_1 a0_2 a0_3 a0_4 a0_5 a0_6 a0_7 a0_8) else (if 0 < (a0_8.size : Int) then (if (bt a0_8 0) < 1 then (fault_Read.j0 k true a0_0 a0_1 a0_2 a0_3 a0_4 a0_5 a0_6 a0_7 a0_8) else (if (bt a0_8 0) > 6 then (fault_Read.j0 k true a0_0 a0_1 a0_2 a0_3 a0_4 a0_5 a0_6 a0_7 a0_8) else (if 1 ≤ 4 then (if 4 ≤ (a0_8.size : Int) then (fault_Read.j0 k ((a0_8.extract 1 4).toList != ([0, 0, 0] : List UInt8)) a0_0 a0_1 a0_2 a0_3 a0_4 a0_5 a0_6 a0_7 a0_8) else (none)) else (none)))) else (none))))) else (fault_Read.j0 k true a0_0 a0_1 a0_2 a0_3 a0_4 a0_5 a0_6 a0_7 a0_8)))) else (some (0, 0, 0, 0, 0, 0, (⟨#[]⟩ : ByteArray), t137)))
theorem fault_Read.mono_l : ∀ k, (∀ y0 y1 y2 y3 y4 y5 y6 y7 y8 y9, LeO (fault_Read.j0 k y0 y1 y2 y3 y4 y5 y6 y7 y8 y9) (fault_Read.j0 (k + 1) y0 y1 y2 y3 y4 y5 y6 y7 y8 y9))
 | 0 => fun _ _ _ _ _ _ _ _ _ _ r h => by simp [fault_Read.j0] at h
 | k + 1 => by
  have ih0 := fault_Read.mono_l k
  ·intro y0 y1 y2 y3 y4 y5 y6 y7 y8 y9
   unfold fault_Read.j0
   repeat' first
   | (with_reducible exact ih0 _ _ _ _ _ _ _ _ _ _)
   | (with_reducible exact pkt_Check.mono _ _ _ _ _ _ _ _ _ _)
   | (with_reducible exact pkt_Head.mono _ _)
   | (with_reducible exact LeO.refl _)
   | (with_reducible exact LeO.none _)
   | (with_reducible refine LeO.ite ?_ ?_)
   | (with_reducible refine LeO.bind ?_ (fun _ => ?_))
   | exact ih0 _ _ _ _ _ _ _ _ _ _
   | exact pkt_Check.mono _ _ _ _ _ _ _ _ _ _
   | exact pkt_Head.mono _ _
   | exact LeO.none _
   | refine LeO.ite ?_ ?_
   | refine LeO.bind ?_ (fun _ => ?_)
theorem fault_Read.mono : ∀ a0 a1 a2 a3 a4 a5 a6 a7 a8 k, LeO (fault_Read.f k a0 a1 a2 a3 a4 a5 a6 a7 a8) (fault_Read.f (k + 1) a0 a1 a2 a3 a4 a5 a6 a7 a8) := by
 intro a0 a1 a2 a3 a4 a5 a6 a7 a8 k
 have ih0 := fault_Read.mono_l k
 unfold fault_Read.f
 repeat' first
   | (with_reducible exact ih0 _ _ _ _ _ _ _ _ _ _)
   | (with_reducible exact pkt_Check.mono _ _ _ _ _ _ _ _ _ _)
   | (with_reducible exact pkt_Head.mono _ _)
   | (with_reducible exact LeO.refl _)
   | (with_reducible exact LeO.none _)
   | (with_reducible refine LeO.ite ?_ ?_)
   | (with_reducible refine LeO.bind ?_ (fun _ => ?_))
   | exact ih0 _ _ _ _ _ _ _ _ _ _
   | exact pkt_Check.mono _ _ _ _ _ _ _ _ _ _
   | exact pkt_Head.mono _ _
   | exact LeO.none _
   | refine LeO.ite ?_ ?_
   | refine LeO.bind ?_ (fun _ => ?_)
def fault_Read.T13 : Bool × List (List Nat × List Nat) := (true, [([], []), ([0], [0]), ([1], [1]), ([2], [2]), ([], []), ([4], [4]), ([], []), ([6], [6]), ([], []), ([8], [8]), ([], []), ([10], [10]), ([], []), ([12], [12]), ([], []), ([14], [14]), ([15], [15]), ([3, 5, 7, 9, 11, 13, 16], [3, 5, 7, 9, 11, 13, 16]), ([17, 16, 0, 1, 2, 3, 4, 5, 6, 7, 8, 9, 10, 11, 12, 13, 14, 15, 16, 17], [17]), ([18, 0, 1, 2, 3, 4, 5, 6, 7, 8, 9, 10, 11, 12, 13, 14, 15, 16, 17, 18], [])])
def fault_Read.B13 : List Nat := [0, 1, 3, 7, 0, 16, 0, 64, 0, 256, 0, 1024, 0, 4096, 0, 16384, 49152, 131071, 262143, 524287]
theorem fault_Read.tab13 : rtab .any (opsOf Try.f39 13) = fault_Read.T13 := by kernel_rfl
theorem fault_Read.bits13 : waitsOk fault_Read.T13.2 fault_Read.B13 = true := by kernel_rfl
set_option maxHeartbeats 20000000 in
set_option maxRecDepth 100000 in
theorem fault_Read.calls (k : Nat) (a0_0 : Int) (a0_1 : Int) (a0_2 : Int) (a0_3 : Int) (a0_4 : Int) (a0_5 : Int) (a0_6 : Bool) (a0_7 : Bool) (a0_8 : ByteArray) (r1 : Int) (r2 : Int) (r3 : Int) (r4 : Int) (r5 : Int) (r6 : Int) (r7 : ByteArray) (r8 : Int) (w : World) (h : fault_Read.f k a0_0 a0_1 a0_2 a0_3 a0_4 a0_5 a0_6 a0_7 a0_8 = some (r1, r2, r3, r4, r5, r6, r7, r8)) :
  Calls Try.prog 39 #[.agg #[.int .u32 a0_0, .int .u32 a0_1, .int .i64 a0_2, .int .i64 a0_3, .int .i64 a0_4, .int .i64 a0_5, .bool a0_6, .bool a0_7, .string a0_8]] w fun e w' => e = .returned (.tuple #[.agg #[.int .i64 r1, .int .u32 r2, .int .u32 r3, .int .i64 r4, .int .i64 r5, .int .i64 r6, .string r7], .int .i64 r8]) ∧ Below w.heap.size w w' := by
 have hu30 := Try.underlying30
 have hu63 := Try.underlying63
 have HB := Aside0.mk (Below.refl w.heap.size w)
 have H : ((pkt_Check.f k a0_0 a0_1 a0_2 a0_3 a0_4 a0_5 a0_6 a0_7 a0_8).bind fun t137 => (if t137 = 0 then ((fault_reply.f a0_0 a0_1 a0_2 a0_3 a0_4 a0_5 a0_6 a0_7 a0_8).bind fun bt138 => (if bt138.2.2.2.2.2.2.2 = true then (some (bt138.1, bt138.2.1, bt138.2.2.1, bt138.2.2.2.1, bt138.2.2.2.2.1, bt138.2.2.2.2.2.1, bt138.2.2.2.2.2.2.1, 0)) else (if a0_2 = 1 then (if a0_5 > 0 then (fault_Read.j0 k true a0_0 a0_1 a0_2 a0_3 a0_4 a0_5 a0_6 a0_7 a0_8) else (if a0_6 = true then (fault_Read.j0 k true a0_0 a0_1 a0_2 a0_3 a0_4 a0_5 a0_6 a0_7 a0_8) else (if (a0_8.size : Int) < 24 then (fault_Read.j0 k true a0_0 a0_1 a0_2 a0_3 a0_4 a0_5 a0_6 a0_7 a0_8) else (if 0 < (a0_8.size : Int) then (if (bt a0_8 0) < 1 then (fault_Read.j0 k true a0_0 a0_1 a0_2 a0_3 a0_4 a0_5 a0_6 a0_7 a0_8) else (if (bt a0_8 0) > 6 then (fault_Read.j0 k true a0_0 a0_1 a0_2 a0_3 a0_4 a0_5 a0_6 a0_7 a0_8) else (if 1 ≤ 4 then (if 4 ≤ (a0_8.size : Int) then (fault_Read.j0 k ((a0_8.extract 1 4).toList != ([0, 0, 0] : List UInt8)) a0_0 a0_1 a0_2 a0_3 a0_4 a0_5 a0_6 a0_7 a0_8) else (none)) else (none)))) else (none))))) else (fault_Read.j0 k true a0_0 a0_1 a0_2 a0_3 a0_4 a0_5 a0_6 a0_7 a0_8)))) else (some (0, 0, 0, 0, 0, 0, (⟨#[]⟩ : ByteArray), t137)))) = some (r1, r2, r3, r4, r5, r6, r7, r8) := h
 clear h
 replace H := Option.bind_eq_some_iff.mp H
 obtain ⟨t137, A20, H⟩ := H
 replace H : (if t137 = 0 then ((fault_reply.f a0_0 a0_1 a0_2 a0_3 a0_4 a0_5 a0_6 a0_7 a0_8).bind fun bt138 => (if bt138.2.2.2.2.2.2.2 = true then (some (bt138.1, bt138.2.1, bt138.2.2.1, bt138.2.2.2.1, bt138.2.2.2.2.1, bt138.2.2.2.2.2.1, bt138.2.2.2.2.2.2.1, 0)) else (if a0_2 = 1 then (if a0_5 > 0 then (fault_Read.j0 k true a0_0 a0_1 a0_2 a0_3 a0_4 a0_5 a0_6 a0_7 a0_8) else (if a0_6 = true then (fault_Read.j0 k true a0_0 a0_1 a0_2 a0_3 a0_4 a0_5 a0_6 a0_7 a0_8) else (if (a0_8.size : Int) < 24 then (fault_Read.j0 k true a0_0 a0_1 a0_2 a0_3 a0_4 a0_5 a0_6 a0_7 a0_8) else (if 0 < (a0_8.size : Int) then (if (bt a0_8 0) < 1 then (fault_Read.j0 k true a0_0 a0_1 a0_2 a0_3 a0_4 a0_5 a0_6 a0_7 a0_8) else (if (bt a0_8 0) > 6 then (fault_Read.j0 k true a0_0 a0_1 a0_2 a0_3 a0_4 a0_5 a0_6 a0_7 a0_8) else (if 1 ≤ 4 then (if 4 ≤ (a0_8.size : Int) then (fault_Read.j0 k ((a0_8.extract 1 4).toList != ([0, 0, 0] : List UInt8)) a0_0 a0_1 a0_2 a0_3 a0_4 a0_5 a0_6 a0_7 a0_8) else (none)) else (none)))) else (none))))) else (fault_Read.j0 k true a0_0 a0_1 a0_2 a0_3 a0_4 a0_5 a0_6 a0_7 a0_8)))) else (some (0, 0, 0, 0, 0, 0, (⟨#[]⟩ : ByteArray), t137))) = some (r1, r2, r3, r4, r5, r6, r7, r8) := H
 have A2 := Aside0.mk A20
 clear A20
 by_cases c3 : t137 = 0
 ·rw [if_pos c3] at H
  have c3b0 : (t137 == 0) = true := beq_iff_eq.mpr c3
  have c3b1 : (t137 != 0) = false := bne_eq_false_iff_eq.mpr c3
  clear c3
  replace H := Option.bind_eq_some_iff.mp H
  obtain ⟨⟨t138, t139, t140, t141, t142, t143, t144, t145⟩, A40, H⟩ := H
  replace H : (if t145 = true then (some (t138, t139, t140, t141, t142, t143, t144, 0)) else (if a0_2 = 1 then (if a0_5 > 0 then (fault_Read.j0 k true a0_0 a0_1 a0_2 a0_3 a0_4 a0_5 a0_6 a0_7 a0_8) else (if a0_6 = true then (fault_Read.j0 k true a0_0 a0_1 a0_2 a0_3 a0_4 a0_5 a0_6 a0_7 a0_8) else (if (a0_8.size : Int) < 24 then (fault_Read.j0 k true a0_0 a0_1 a0_2 a0_3 a0_4 a0_5 a0_6 a0_7 a0_8) else (if 0 < (a0_8.size : Int) then (if (bt a0_8 0) < 1 then (fault_Read.j0 k true a0_0 a0_1 a0_2 a0_3 a0_4 a0_5 a0_6 a0_7 a0_8) else (if (bt a0_8 0) > 6 then (fault_Read.j0 k true a0_0 a0_1 a0_2 a0_3 a0_4 a0_5 a0_6 a0_7 a0_8) else (if 1 ≤ 4 then (if 4 ≤ (a0_8.size : Int) then (fault_Read.j0 k ((a0_8.extract 1 4).toList != ([0, 0, 0] : List UInt8)) a0_0 a0_1 a0_2 a0_3 a0_4 a0_5 a0_6 a0_7 a0_8) else (none)) else (none)))) else (none))))) else (fault_Read.j0 k true a0_0 a0_1 a0_2 a0_3 a0_4 a0_5 a0_6 a0_7 a0_8))) = some (r1, r2, r3, r4, r5, r6, r7, r8) := H
  have A4 := Aside0.mk A40
  clear A40
  by_cases c5 : t145 = true
  ·subst c5
   have H1 : (some (t138, t139, t140, t141, t142, t143, t144, 0)) = some (r1, r2, r3, r4, r5, r6, r7, r8) := by rw [if_pos rfl] at H; exact H
   clear H
   have H := H1
   clear H1
   simp only [Option.some.injEq, Prod.mk.injEq] at H
   obtain ⟨rfl, rfl, rfl, rfl, rfl, rfl, rfl, rfl⟩ := H
   go_enter Try.func39, Try.ntmps39
   go_wp2_with (first | ((with_reducible refine gate_dst (N := 1) rfl ?_); (try (refine gate_guard (by rfl) ?_; dsimp only)); refine box_event ?hg (N := 1) ?hd (cs := #[.int .u32 a0_0, .int .u32 a0_1, .int .i64 a0_2, .int .i64 a0_3, .int .i64 a0_4, .int .i64 a0_5, .bool a0_6, .bool a0_7, .string a0_8]) (t := 30) ?hr ?_; (case hd => rfl); (case hg => rfl); (case hr => first | (go_simp; done) | (go_simp; rfl)); intro gb135 hg w6 hbox hb; have n0_ := Aside0.mk (below_step (Fit.bl HB.out) hb); have n1_ := Aside0.mk (hbox); have n2_ := Aside0.mk ((by rw [hg]; exact (below_size (Fit.bl HB.out)) : w.heap.size ≤ gb135)); have n3_ := Aside0.mk ((by rw [hg]; exact (below_size (Fit.bl HB.out)) : w.heap.size ≤ gb135)); clear HB; have HB := n0_; have BK135 := n1_; have GW135 := n2_; have GE135 := n3_; clear n0_ n1_ n2_ n3_; clear hb hbox hg) | ((with_reducible refine gate_dst (N := 2) rfl ?_); (try (refine gate_guard (by rfl) ?_; dsimp only)); refine box_event ?hg (N := 2) ?hd (cs := #[.int .i64 0, .int .u32 0, .int .u32 0, .int .i64 0, .int .i64 0, .int .i64 0, .string (⟨#[]⟩ : ByteArray)]) (t := 63) ?hr ?_; (case hd => rfl); (case hg => rfl); (case hr => first | (go_simp; done) | (go_simp; rfl)); intro gb136 hg w7 hbox hb; have n0_ := Aside0.mk (blk_below (g := gb135) (Fit.pk BK135.out) hb); have n1_ := Aside0.mk (below_step (Fit.bl HB.out) hb); have n2_ := Aside0.mk (hbox); have n3_ := Aside0.mk ((by rw [hg]; exact (below_size (Fit.bl HB.out)) : w.heap.size ≤ gb136)); have n4_ := Aside0.mk ((by rw [hg]; exact (below_size (Fit.bl HB.out)) : w.heap.size ≤ gb136)); have n5_ := Aside0.mk ((by rw [hg]; exact Nat.ne_of_lt (blk_lt (g := gb135) (Fit.pk BK135.out)) : gb135 ≠ gb136)); have n6_ := Aside0.mk ((by rw [hg]; exact Nat.ne_of_gt (blk_lt (g := gb135) (Fit.pk BK135.out)) : gb136 ≠ gb135)); clear BK135; clear HB; have BK135 := n0_; have HB := n1_; have BK136 := n2_; have GW136 := n3_; have GE136 := n4_; have NB135_136 := n5_; have NB136_135 := n6_; clear n0_ n1_ n2_ n3_ n4_ n5_ n6_; clear hb hbox hg; have hnb8 := NB135_136.out; have hnc8 := NB136_135.out; obtain ⟨hcz9_0, hcz9_1, hcz9_2, hcz9_3, hcz9_4, hcz9_5, hcz9_6, hcz9_7, hcz9_8, hfz9_0⟩ := Fit.cells9 BK135.out) | ((with_reducible refine gate_callee (f := 26) rfl ?_); refine goesL_ (some 12) rfl rfl Try.func26 (by kernel_rfl) rfl #[.agg #[.int .u32 a0_0, .int .u32 a0_1, .int .i64 a0_2, .int .i64 a0_3, .int .i64 a0_4, .int .i64 a0_5, .bool a0_6, .bool a0_7, .string a0_8]] rfl (by (try simp only [List.map_toArray, List.map_cons, List.map_nil]); first | done | rfl | (simp only [List.length_drop, List.length_take]; rfl)) ?_; (with_reducible refine (pkt_Check.calls k a0_0 a0_1 a0_2 a0_3 a0_4 a0_5 a0_6 a0_7 a0_8 t137 _ A2.out).mono ?_); rintro e w10 ⟨rfl, hb⟩; refine ⟨_, rfl, ?_⟩; have n0_ := Aside0.mk (blk_below (g := gb135) (Fit.pk BK135.out) hb); have n1_ := Aside0.mk (blk_below (g := gb136) (Fit.pk BK136.out) hb); have n2_ := Aside0.mk (below_step (Fit.bl HB.out) hb); clear BK135; clear BK136; clear HB; have BK135 := n0_; have BK136 := n1_; have HB := n2_; clear n0_ n1_ n2_; (try clear hb); (try clear hb2); (try clear hk); (try clear hi); obtain ⟨hcz11_0, hcz11_1, hcz11_2, hcz11_3, hcz11_4, hcz11_5, hcz11_6, hcz11_7, hcz11_8, hfz11_0⟩ := Fit.cells9 BK135.out) | ((with_reducible refine gate_callee (f := 50) rfl ?_); refine goesL_ (some 19) rfl rfl Try.func50 (by kernel_rfl) rfl #[.agg #[.int .u32 a0_0, .int .u32 a0_1, .int .i64 a0_2, .int .i64 a0_3, .int .i64 a0_4, .int .i64 a0_5, .bool a0_6, .bool a0_7, .string a0_8]] rfl (by (try simp only [List.map_toArray, List.map_cons, List.map_nil]); first | done | rfl | (simp only [List.length_drop, List.length_take]; rfl)) ?_; (with_reducible refine (fault_reply.calls a0_0 a0_1 a0_2 a0_3 a0_4 a0_5 a0_6 a0_7 a0_8 t138 t139 t140 t141 t142 t143 t144 true _ A4.out).mono ?_); rintro e w12 ⟨rfl, hb⟩; refine ⟨_, rfl, ?_⟩; have n0_ := Aside0.mk (blk_below (g := gb135) (Fit.pk BK135.out) hb); have n1_ := Aside0.mk (blk_below (g := gb136) (Fit.pk BK136.out) hb); have n2_ := Aside0.mk (below_step (Fit.bl HB.out) hb); clear BK135; clear BK136; clear HB; have BK135 := n0_; have BK136 := n1_; have HB := n2_; clear n0_ n1_ n2_; (try clear hb); (try clear hb2); (try clear hk); (try clear hi)) | ((with_reducible refine gate_dst (N := 5) rfl ?_); (try (refine gate_guard (by rfl) ?_; dsimp only)); refine box_event ?hg (N := 5) ?hd (cs := #[.int .i64 0, .int .u32 0, .int .u32 0, .int .i64 0, .int .i64 0, .int .i64 0, .string (⟨#[]⟩ : ByteArray)]) (t := 63) ?hr ?_; (case hd => rfl); (case hg => rfl); (case hr => first | (go_simp; done) | (go_simp; rfl)); intro gb146 hg w13 hbox hb; have n0_ := Aside0.mk (blk_below (g := gb135) (Fit.pk BK135.out) hb); have n1_ := Aside0.mk (blk_below (g := gb136) (Fit.pk BK136.out) hb); have n2_ := Aside0.mk (below_step (Fit.bl HB.out) hb); have n3_ := Aside0.mk (hbox); have n4_ := Aside0.mk ((by rw [hg]; exact (below_size (Fit.bl HB.out)) : w.heap.size ≤ gb146)); have n5_ := Aside0.mk ((by rw [hg]; exact (below_size (Fit.bl HB.out)) : w.heap.size ≤ gb146)); have n6_ := Aside0.mk ((by rw [hg]; exact Nat.ne_of_lt (blk_lt (g := gb135) (Fit.pk BK135.out)) : gb135 ≠ gb146)); have n7_ := Aside0.mk ((by rw [hg]; exact Nat.ne_of_gt (blk_lt (g := gb135) (Fit.pk BK135.out)) : gb146 ≠ gb135)); have n8_ := Aside0.mk ((by rw [hg]; exact Nat.ne_of_lt (blk_lt (g := gb136) (Fit.pk BK136.out)) : gb136 ≠ gb146)); have n9_ := Aside0.mk ((by rw [hg]; exact Nat.ne_of_gt (blk_lt (g := gb136) (Fit.pk BK136.out)) : gb146 ≠ gb136)); clear BK135; clear BK136; clear HB; have BK135 := n0_; have BK136 := n1_; have HB := n2_; have BK146 := n3_; have GW146 := n4_; have GE146 := n5_; have NB135_146 := n6_; have NB146_135 := n7_; have NB136_146 := n8_; have NB146_136 := n9_; clear n0_ n1_ n2_ n3_ n4_ n5_ n6_ n7_ n8_ n9_; clear hb hbox hg; have hnb14 := NB146_135.out; have hnc14 := NB135_146.out; have hnb15 := NB146_136.out; have hnc15 := NB136_146.out; obtain ⟨hcz16_0, hcz16_1, hcz16_2, hcz16_3, hcz16_4, hcz16_5, hcz16_6, hfz16_0⟩ := Fit.cells7 BK146.out; obtain ⟨hcz17_0, hcz17_1, hcz17_2, hcz17_3, hcz17_4, hcz17_5, hcz17_6, hfz17_0⟩ := Fit.cells7 BK136.out))
   refine bodyPost_ret (results_ct rfl _ _ gb136 63 #[.int .i64 t138, .int .u32 t139, .int .u32 t140, .int .i64 t141, .int .i64 t142, .int .i64 t143, .string t144] (0, 0) _ rfl (Fit.put7 (Fit.far7 (BK136.out) NB146_136.out)) Try.underlying63 rfl (by kernel_rfl)) rfl ?_
   exact ⟨by first | rfl | (simp [errW_none, errW_some] <;> rfl) | (simp [*, errW_none, errW_some] <;> rfl), Fit.bl HB.out⟩
  ·replace c5 := Bool.eq_false_iff.mpr c5
   subst c5
   have H1 : (if a0_2 = 1 then (if a0_5 > 0 then (fault_Read.j0 k true a0_0 a0_1 a0_2 a0_3 a0_4 a0_5 a0_6 a0_7 a0_8) else (if a0_6 = true then (fault_Read.j0 k true a0_0 a0_1 a0_2 a0_3 a0_4 a0_5 a0_6 a0_7 a0_8) else (if (a0_8.size : Int) < 24 then (fault_Read.j0 k true a0_0 a0_1 a0_2 a0_3 a0_4 a0_5 a0_6 a0_7 a0_8) else (if 0 < (a0_8.size : Int) then (if (bt a0_8 0) < 1 then (fault_Read.j0 k true a0_0 a0_1 a0_2 a0_3 a0_4 a0_5 a0_6 a0_7 a0_8) else (if (bt a0_8 0) > 6 then (fault_Read.j0 k true a0_0 a0_1 a0_2 a0_3 a0_4 a0_5 a0_6 a0_7 a0_8) else (if 1 ≤ 4 then (if 4 ≤ (a0_8.size : Int) then (fault_Read.j0 k ((a0_8.extract 1 4).toList != ([0, 0, 0] : List UInt8)) a0_0 a0_1 a0_2 a0_3 a0_4 a0_5 a0_6 a0_7 a0_8) else (none)) else (none)))) else (none))))) else (fault_Read.j0 k true a0_0 a0_1 a0_2 a0_3 a0_4 a0_5 a0_6 a0_7 a0_8)) = some (r1, r2, r3, r4, r5, r6, r7, r8) := by rw [if_neg (show ¬ (false = true) by decide)] at H; exact H
   clear H
   have H := H1
   clear H1
   have HC18 := Aside0.mk H
   clear H
   go_enter Try.func39, Try.ntmps39
   go_upto_region 7 with (first | ((with_reducible refine gate_dst (N := 1) rfl ?_); (try (refine gate_guard (by rfl) ?_; dsimp only)); refine box_event ?hg (N := 1) ?hd (cs := #[.int .u32 a0_0, .int .u32 a0_1, .int .i64 a0_2, .int .i64 a0_3, .int .i64 a0_4, .int .i64 a0_5, .bool a0_6, .bool a0_7, .string a0_8]) (t := 30) ?hr ?_; (case hd => rfl); (case hg => rfl); (case hr => first | (go_simp; done) | (go_simp; rfl)); intro gb135 hg w19 hbox hb; have n0_ := Aside0.mk (below_step (Fit.bl HB.out) hb); have n1_ := Aside0.mk (hbox); have n2_ := Aside0.mk ((by rw [hg]; exact (below_size (Fit.bl HB.out)) : w.heap.size ≤ gb135)); have n3_ := Aside0.mk ((by rw [hg]; exact (below_size (Fit.bl HB.out)) : w.heap.size ≤ gb135)); clear HB; have HB := n0_; have BK135 := n1_; have GW135 := n2_; have GE135 := n3_; clear n0_ n1_ n2_ n3_; clear hb hbox hg) | ((with_reducible refine gate_dst (N := 2) rfl ?_); (try (refine gate_guard (by rfl) ?_; dsimp only)); refine box_event ?hg (N := 2) ?hd (cs := #[.int .i64 0, .int .u32 0, .int .u32 0, .int .i64 0, .int .i64 0, .int .i64 0, .string (⟨#[]⟩ : ByteArray)]) (t := 63) ?hr ?_; (case hd => rfl); (case hg => rfl); (case hr => first | (go_simp; done) | (go_simp; rfl)); intro gb136 hg w20 hbox hb; have n0_ := Aside0.mk (blk_below (g := gb135) (Fit.pk BK135.out) hb); have n1_ := Aside0.mk (below_step (Fit.bl HB.out) hb); have n2_ := Aside0.mk (hbox); have n3_ := Aside0.mk ((by rw [hg]; exact (below_size (Fit.bl HB.out)) : w.heap.size ≤ gb136)); have n4_ := Aside0.mk ((by rw [hg]; exact (below_size (Fit.bl HB.out)) : w.heap.size ≤ gb136)); have n5_ := Aside0.mk ((by rw [hg]; exact Nat.ne_of_lt (blk_lt (g := gb135) (Fit.pk BK135.out)) : gb135 ≠ gb136)); have n6_ := Aside0.mk ((by rw [hg]; exact Nat.ne_of_gt (blk_lt (g := gb135) (Fit.pk BK135.out)) : gb136 ≠ gb135)); clear BK135; clear HB; have BK135 := n0_; have HB := n1_; have BK136 := n2_; have GW136 := n3_; have GE136 := n4_; have NB135_136 := n5_; have NB136_135 := n6_; clear n0_ n1_ n2_ n3_ n4_ n5_ n6_; clear hb hbox hg; have hnb21 := NB135_136.out; have hnc21 := NB136_135.out; obtain ⟨hcz22_0, hcz22_1, hcz22_2, hcz22_3, hcz22_4, hcz22_5, hcz22_6, hcz22_7, hcz22_8, hfz22_0⟩ := Fit.cells9 BK135.out) | ((with_reducible refine gate_callee (f := 26) rfl ?_); refine goesL_ (some 12) rfl rfl Try.func26 (by kernel_rfl) rfl #[.agg #[.int .u32 a0_0, .int .u32 a0_1, .int .i64 a0_2, .int .i64 a0_3, .int .i64 a0_4, .int .i64 a0_5, .bool a0_6, .bool a0_7, .string a0_8]] rfl (by (try simp only [List.map_toArray, List.map_cons, List.map_nil]); first | done | rfl | (simp only [List.length_drop, List.length_take]; rfl)) ?_; (with_reducible refine (pkt_Check.calls k a0_0 a0_1 a0_2 a0_3 a0_4 a0_5 a0_6 a0_7 a0_8 t137 _ A2.out).mono ?_); rintro e w23 ⟨rfl, hb⟩; refine ⟨_, rfl, ?_⟩; have n0_ := Aside0.mk (blk_below (g := gb135) (Fit.pk BK135.out) hb); have n1_ := Aside0.mk (blk_below (g := gb136) (Fit.pk BK136.out) hb); have n2_ := Aside0.mk (below_step (Fit.bl HB.out) hb); clear BK135; clear BK136; clear HB; have BK135 := n0_; have BK136 := n1_; have HB := n2_; clear n0_ n1_ n2_; (try clear hb); (try clear hb2); (try clear hk); (try clear hi); obtain ⟨hcz24_0, hcz24_1, hcz24_2, hcz24_3, hcz24_4, hcz24_5, hcz24_6, hcz24_7, hcz24_8, hfz24_0⟩ := Fit.cells9 BK135.out) | ((with_reducible refine gate_callee (f := 50) rfl ?_); refine goesL_ (some 19) rfl rfl Try.func50 (by kernel_rfl) rfl #[.agg #[.int .u32 a0_0, .int .u32 a0_1, .int .i64 a0_2, .int .i64 a0_3, .int .i64 a0_4, .int .i64 a0_5, .bool a0_6, .bool a0_7, .string a0_8]] rfl (by (try simp only [List.map_toArray, List.map_cons, List.map_nil]); first | done | rfl | (simp only [List.length_drop, List.length_take]; rfl)) ?_; (with_reducible refine (fault_reply.calls a0_0 a0_1 a0_2 a0_3 a0_4 a0_5 a0_6 a0_7 a0_8 t138 t139 t140 t141 t142 t143 t144 false _ A4.out).mono ?_); rintro e w25 ⟨rfl, hb⟩; refine ⟨_, rfl, ?_⟩; have n0_ := Aside0.mk (blk_below (g := gb135) (Fit.pk BK135.out) hb); have n1_ := Aside0.mk (blk_below (g := gb136) (Fit.pk BK136.out) hb); have n2_ := Aside0.mk (below_step (Fit.bl HB.out) hb); clear BK135; clear BK136; clear HB; have BK135 := n0_; have BK136 := n1_; have HB := n2_; clear n0_ n1_ n2_; (try clear hb); (try clear hb2); (try clear hk); (try clear hi)) | ((with_reducible refine gate_dst (N := 5) rfl ?_); (try (refine gate_guard (by rfl) ?_; dsimp only)); refine box_event ?hg (N := 5) ?hd (cs := #[.int .i64 0, .int .u32 0, .int .u32 0, .int .i64 0, .int .i64 0, .int .i64 0, .string (⟨#[]⟩ : ByteArray)]) (t := 63) ?hr ?_; (case hd => rfl); (case hg => rfl); (case hr => first | (go_simp; done) | (go_simp; rfl)); intro gb146 hg w26 hbox hb; have n0_ := Aside0.mk (blk_below (g := gb135) (Fit.pk BK135.out) hb); have n1_ := Aside0.mk (blk_below (g := gb136) (Fit.pk BK136.out) hb); have n2_ := Aside0.mk (below_step (Fit.bl HB.out) hb); have n3_ := Aside0.mk (hbox); have n4_ := Aside0.mk ((by rw [hg]; exact (below_size (Fit.bl HB.out)) : w.heap.size ≤ gb146)); have n5_ := Aside0.mk ((by rw [hg]; exact (below_size (Fit.bl HB.out)) : w.heap.size ≤ gb146)); have n6_ := Aside0.mk ((by rw [hg]; exact Nat.ne_of_lt (blk_lt (g := gb135) (Fit.pk BK135.out)) : gb135 ≠ gb146)); have n7_ := Aside0.mk ((by rw [hg]; exact Nat.ne_of_gt (blk_lt (g := gb135) (Fit.pk BK135.out)) : gb146 ≠ gb135)); have n8_ := Aside0.mk ((by rw [hg]; exact Nat.ne_of_lt (blk_lt (g := gb136) (Fit.pk BK136.out)) : gb136 ≠ gb146)); have n9_ := Aside0.mk ((by rw [hg]; exact Nat.ne_of_gt (blk_lt (g := gb136) (Fit.pk BK136.out)) : gb146 ≠ gb136)); clear BK135; clear BK136; clear HB; have BK135 := n0_; have BK136 := n1_; have HB := n2_; have BK146 := n3_; have GW146 := n4_; have GE146 := n5_; have NB135_146 := n6_; have NB146_135 := n7_; have NB136_146 := n8_; have NB146_136 := n9_; clear n0_ n1_ n2_ n3_ n4_ n5_ n6_ n7_ n8_ n9_; clear hb hbox hg; have hnb27 := NB146_135.out; have hnc27 := NB135_146.out; have hnb28 := NB146_136.out; have hnc28 := NB136_146.out; obtain ⟨hcz29_0, hcz29_1, hcz29_2, hcz29_3, hcz29_4, hcz29_5, hcz29_6, hfz29_0⟩ := Fit.cells7 BK146.out))
   (try simp only [Act.put, List.setIfInBounds_toArray, List.set_cons_zero, List.set_cons_succ])
   have n0_ : Aside0 ((((((((w26.setCell ⟨gb146, 0, none⟩ (.int .i64 t138)).setCell ⟨gb146, 1, none⟩ (.int .u32 t139)).setCell ⟨gb146, 2, none⟩ (.int .u32 t140)).setCell ⟨gb146, 3, none⟩ (.int .i64 t141)).setCell ⟨gb146, 4, none⟩ (.int .i64 t142)).setCell ⟨gb146, 5, none⟩ (.int .i64 t143)).setCell ⟨gb146, 6, none⟩ (.string t144)).heap[gb135]? = some (.cells #[.int .u32 a0_0, .int .u32 a0_1, .int .i64 a0_2, .int .i64 a0_3, .int .i64 a0_4, .int .i64 a0_5, .bool a0_6, .bool a0_7, .string a0_8] 30 (0, 0))) := ⟨Fit.far7 BK135.out NB146_135.out⟩
   have n1_ : Aside0 ((((((((w26.setCell ⟨gb146, 0, none⟩ (.int .i64 t138)).setCell ⟨gb146, 1, none⟩ (.int .u32 t139)).setCell ⟨gb146, 2, none⟩ (.int .u32 t140)).setCell ⟨gb146, 3, none⟩ (.int .i64 t141)).setCell ⟨gb146, 4, none⟩ (.int .i64 t142)).setCell ⟨gb146, 5, none⟩ (.int .i64 t143)).setCell ⟨gb146, 6, none⟩ (.string t144)).heap[gb136]? = some (.cells #[.int .i64 0, .int .u32 0, .int .u32 0, .int .i64 0, .int .i64 0, .int .i64 0, .string (⟨#[]⟩ : ByteArray)] 63 (0, 0))) := ⟨Fit.far7 BK136.out NB146_136.out⟩
   have n2_ : Aside0 ((((((((w26.setCell ⟨gb146, 0, none⟩ (.int .i64 t138)).setCell ⟨gb146, 1, none⟩ (.int .u32 t139)).setCell ⟨gb146, 2, none⟩ (.int .u32 t140)).setCell ⟨gb146, 3, none⟩ (.int .i64 t141)).setCell ⟨gb146, 4, none⟩ (.int .i64 t142)).setCell ⟨gb146, 5, none⟩ (.int .i64 t143)).setCell ⟨gb146, 6, none⟩ (.string t144)).heap[gb146]? = some (.cells #[.int .i64 t138, .int .u32 t139, .int .u32 t140, .int .i64 t141, .int .i64 t142, .int .i64 t143, .string t144] 63 (0, 0))) := ⟨Fit.put7 BK146.out⟩
   have n3_ : Aside0 (Below w.heap.size w (((((((w26.setCell ⟨gb146, 0, none⟩ (.int .i64 t138)).setCell ⟨gb146, 1, none⟩ (.int .u32 t139)).setCell ⟨gb146, 2, none⟩ (.int .u32 t140)).setCell ⟨gb146, 3, none⟩ (.int .i64 t141)).setCell ⟨gb146, 4, none⟩ (.int .i64 t142)).setCell ⟨gb146, 5, none⟩ (.int .i64 t143)).setCell ⟨gb146, 6, none⟩ (.string t144))) := ⟨Fit.below7 HB.out GE146.out⟩
   clear BK135 BK136 BK146 HB
   generalize (((((((w26.setCell ⟨gb146, 0, none⟩ (.int .i64 t138)).setCell ⟨gb146, 1, none⟩ (.int .u32 t139)).setCell ⟨gb146, 2, none⟩ (.int .u32 t140)).setCell ⟨gb146, 3, none⟩ (.int .i64 t141)).setCell ⟨gb146, 4, none⟩ (.int .i64 t142)).setCell ⟨gb146, 5, none⟩ (.int .i64 t143)).setCell ⟨gb146, 6, none⟩ (.string t144)) = w27 at n0_ n1_ n2_ n3_ ⊢
   have BK135 := n0_
   have BK136 := n1_
   have BK146 := n2_
   have HB := n3_
   clear n0_ n1_ n2_ n3_
   go_cut [59] (fun v59 wc => ∃ (kq : Nat) (x59_17 : Bool), v59 = .bool x59_17 ∧ Aside0 (fault_Read.j0 kq x59_17 a0_0 a0_1 a0_2 a0_3 a0_4 a0_5 a0_6 a0_7 a0_8 = some (r1, r2, r3, r4, r5, r6, r7, r8)) ∧ Aside0 (kq ≤ k) ∧ Aside0 (wc.heap[gb135]? = some (.cells #[.int .u32 a0_0, .int .u32 a0_1, .int .i64 a0_2, .int .i64 a0_3, .int .i64 a0_4, .int .i64 a0_5, .bool a0_6, .bool a0_7, .string a0_8] 30 (0, 0))) ∧ Aside0 (wc.heap[gb136]? = some (.cells #[.int .i64 0, .int .u32 0, .int .u32 0, .int .i64 0, .int .i64 0, .int .i64 0, .string (⟨#[]⟩ : ByteArray)] 63 (0, 0))) ∧ Aside0 (wc.heap[gb146]? = some (.cells #[.int .i64 t138, .int .u32 t139, .int .u32 t140, .int .i64 t141, .int .i64 t142, .int .i64 t143, .string t144] 63 (0, 0))) ∧ Aside0 (Below w.heap.size w wc))
   case first =>
    have H := HC18.out
    clear HC18
    by_cases c30 : a0_2 = 1
    ·rw [if_pos c30] at H
     have c30b0 : (a0_2 == 1) = true := beq_iff_eq.mpr c30
     have c30b1 : (a0_2 != 1) = false := bne_eq_false_iff_eq.mpr c30
     clear c30
     (first | rw [c30b0] | (simp only [i64_w, i32_w]; rw [c30b0]) | skip)
     by_cases c31 : a0_5 > 0
     ·rw [if_pos c31] at H
      have c31b0 : decide (0 < a0_5) = true := decide_eq_true c31
      clear c31
      have H' := Aside0.mk H
      clear H
      have hnb32 := NB135_136.out
      have hnc32 := NB136_135.out
      have hnb33 := NB135_146.out
      have hnc33 := NB146_135.out
      obtain ⟨hcz34_0, hcz34_1, hcz34_2, hcz34_3, hcz34_4, hcz34_5, hcz34_6, hcz34_7, hcz34_8, hfz34_0⟩ := Fit.cells9 BK135.out
      go_wp2
      go_meet
      case rel => exact ⟨_, (true), (by first | rfl | (simp; done) | (simp [*]; done)), H', ⟨by first | omega | exact Nat.le_refl _⟩, BK135, BK136, BK146, HB⟩
     ·rw [if_neg c31] at H
      have c31b0 : decide (0 < a0_5) = false := decide_eq_false c31
      clear c31
      by_cases c35 : a0_6 = true
      ·subst c35
       have H1 : (fault_Read.j0 k true a0_0 a0_1 a0_2 a0_3 a0_4 a0_5 true a0_7 a0_8) = some (r1, r2, r3, r4, r5, r6, r7, r8) := by rw [if_pos rfl] at H; exact H
       clear H
       have H := H1
       clear H1
       have H' := Aside0.mk H
       clear H
       have hnb36 := NB135_136.out
       have hnc36 := NB136_135.out
       have hnb37 := NB135_146.out
       have hnc37 := NB146_135.out
       obtain ⟨hcz38_0, hcz38_1, hcz38_2, hcz38_3, hcz38_4, hcz38_5, hcz38_6, hcz38_7, hcz38_8, hfz38_0⟩ := Fit.cells9 BK135.out
       go_wp2
       go_meet
       case rel => exact ⟨_, (true), (by first | rfl | (simp; done) | (simp [*]; done)), H', ⟨by first | omega | exact Nat.le_refl _⟩, BK135, BK136, BK146, HB⟩
      ·replace c35 := Bool.eq_false_iff.mpr c35
       subst c35
       have H1 : (if (a0_8.size : Int) < 24 then (fault_Read.j0 k true a0_0 a0_1 a0_2 a0_3 a0_4 a0_5 false a0_7 a0_8) else (if 0 < (a0_8.size : Int) then (if (bt a0_8 0) < 1 then (fault_Read.j0 k true a0_0 a0_1 a0_2 a0_3 a0_4 a0_5 false a0_7 a0_8) else (if (bt a0_8 0) > 6 then (fault_Read.j0 k true a0_0 a0_1 a0_2 a0_3 a0_4 a0_5 false a0_7 a0_8) else (if 1 ≤ 4 then (if 4 ≤ (a0_8.size : Int) then (fault_Read.j0 k ((a0_8.extract 1 4).toList != ([0, 0, 0] : List UInt8)) a0_0 a0_1 a0_2 a0_3 a0_4 a0_5 false a0_7 a0_8) else (none)) else (none)))) else (none))) = some (r1, r2, r3, r4, r5, r6, r7, r8) := by rw [if_neg (show ¬ (false = true) by decide)] at H; exact H
       clear H
       have H := H1
       clear H1
       by_cases c39 : (a0_8.size : Int) < 24
       ·rw [if_pos c39] at H
        have c39b0 : decide ((a0_8.size : Int) < 24) = true := decide_eq_true c39
        have c39b1 : decide (a0_8.size < 24) = true := decide_eq_true (by omega)
        clear c39
        have H' := Aside0.mk H
        clear H
        have hnb40 := NB135_136.out
        have hnc40 := NB136_135.out
        have hnb41 := NB135_146.out
        have hnc41 := NB146_135.out
        obtain ⟨hcz42_0, hcz42_1, hcz42_2, hcz42_3, hcz42_4, hcz42_5, hcz42_6, hcz42_7, hcz42_8, hfz42_0⟩ := Fit.cells9 BK135.out
        go_wp2
        go_meet
        case rel => exact ⟨_, (true), (by first | rfl | (simp; done) | (simp [*]; done)), H', ⟨by first | omega | exact Nat.le_refl _⟩, BK135, BK136, BK146, HB⟩
       ·rw [if_neg c39] at H
        have c39b0 : decide ((a0_8.size : Int) < 24) = false := decide_eq_false c39
        have c39b1 : decide (a0_8.size < 24) = false := decide_eq_false (by omega)
        clear c39
        by_cases c43 : 0 < (a0_8.size : Int)
        ·rw [if_pos c43] at H
         have c43b0 : decide (0 < (a0_8.size : Int)) = true := decide_eq_true c43
         have c43b1 : decide (0 < a0_8.size) = true := decide_eq_true (by omega)
         clear c43
         by_cases c45 : (bt a0_8 0) < 1
         ·rw [if_pos c45] at H
          have c45b0 : decide ((bt a0_8 0) < 1) = true := decide_eq_true c45
          clear c45
          have H' := Aside0.mk H
          clear H
          have hnb46 := NB135_136.out
          have hnc46 := NB136_135.out
          have hnb47 := NB135_146.out
          have hnc47 := NB146_135.out
          obtain ⟨hcz48_0, hcz48_1, hcz48_2, hcz48_3, hcz48_4, hcz48_5, hcz48_6, hcz48_7, hcz48_8, hfz48_0⟩ := Fit.cells9 BK135.out
          have p44 : 0 ≤ (0 : Int) := (by omega)
          have q44 : 0 < a0_8.size := (by have : (0 : Int) < (a0_8.size : Int) := of_decide_eq_true (by first | (with_reducible assumption) | assumption); omega)
          have hx44 : ∀ h : 0 < a0_8.size, ((a0_8[0]'h).toNat : Int) = bt a0_8 0 := bt_at a0_8 0
          clear p44
          have qi44 : (0 < (a0_8.size : Int)) = True := eq_true (of_decide_eq_true (by first | (with_reducible assumption) | assumption))
          replace q44 := eq_true q44
          go_wp2
          go_meet
          case rel => exact ⟨_, (true), (by first | rfl | (simp; done) | (simp [*]; done)), H', ⟨by first | omega | exact Nat.le_refl _⟩, BK135, BK136, BK146, HB⟩
         ·rw [if_neg c45] at H
          have c45b0 : decide ((bt a0_8 0) < 1) = false := decide_eq_false c45
          clear c45
          by_cases c50 : (bt a0_8 0) > 6
          ·rw [if_pos c50] at H
           have c50b0 : decide (6 < (bt a0_8 0)) = true := decide_eq_true c50
           clear c50
           have H' := Aside0.mk H
           clear H
           have hnb51 := NB135_136.out
           have hnc51 := NB136_135.out
           have hnb52 := NB135_146.out
           have hnc52 := NB146_135.out
           obtain ⟨hcz53_0, hcz53_1, hcz53_2, hcz53_3, hcz53_4, hcz53_5, hcz53_6, hcz53_7, hcz53_8, hfz53_0⟩ := Fit.cells9 BK135.out
           have p44 : 0 ≤ (0 : Int) := (by omega)
           have q44 : 0 < a0_8.size := (by have : (0 : Int) < (a0_8.size : Int) := of_decide_eq_true (by first | (with_reducible assumption) | assumption); omega)
           have hx44 : ∀ h : 0 < a0_8.size, ((a0_8[0]'h).toNat : Int) = bt a0_8 0 := bt_at a0_8 0
           clear p44
           have qi44 : (0 < (a0_8.size : Int)) = True := eq_true (of_decide_eq_true (by first | (with_reducible assumption) | assumption))
           replace q44 := eq_true q44
           have p49 : 0 ≤ (0 : Int) := (by omega)
           have q49 : 0 < a0_8.size := (by have : (0 : Int) < (a0_8.size : Int) := of_decide_eq_true (by first | (with_reducible assumption) | assumption); omega)
           have hx49 : ∀ h : 0 < a0_8.size, ((a0_8[0]'h).toNat : Int) = bt a0_8 0 := bt_at a0_8 0
           clear p49
           have qi49 : (0 < (a0_8.size : Int)) = True := eq_true (of_decide_eq_true (by first | (with_reducible assumption) | assumption))
           replace q49 := eq_true q49
           go_wp2
           go_meet
           case rel => exact ⟨_, (true), (by first | rfl | (simp; done) | (simp [*]; done)), H', ⟨by first | omega | exact Nat.le_refl _⟩, BK135, BK136, BK146, HB⟩
          ·rw [if_neg c50] at H
           have c50b0 : decide (6 < (bt a0_8 0)) = false := decide_eq_false c50
           clear c50
           by_cases c54 : 1 ≤ 4
           ·rw [if_pos c54] at H
            have c54b0 := eq_true c54
            have c54b1 : decide (1 ≤ 4) = true := decide_eq_true c54
            clear c54
            by_cases c55 : 4 ≤ (a0_8.size : Int)
            ·rw [if_pos c55] at H
             have c55b0 := eq_true c55
             have c55b1 : decide (4 ≤ (a0_8.size : Int)) = true := decide_eq_true c55
             clear c55
             have H' := Aside0.mk H
             clear H
             have hnb56 := NB135_136.out
             have hnc56 := NB136_135.out
             have hnb57 := NB135_146.out
             have hnc57 := NB146_135.out
             obtain ⟨hcz58_0, hcz58_1, hcz58_2, hcz58_3, hcz58_4, hcz58_5, hcz58_6, hcz58_7, hcz58_8, hfz58_0⟩ := Fit.cells9 BK135.out
             have p44 : 0 ≤ (0 : Int) := (by omega)
             have q44 : 0 < a0_8.size := (by have : (0 : Int) < (a0_8.size : Int) := of_decide_eq_true (by first | (with_reducible assumption) | assumption); omega)
             have hx44 : ∀ h : 0 < a0_8.size, ((a0_8[0]'h).toNat : Int) = bt a0_8 0 := bt_at a0_8 0
             clear p44
             have qi44 : (0 < (a0_8.size : Int)) = True := eq_true (of_decide_eq_true (by first | (with_reducible assumption) | assumption))
             replace q44 := eq_true q44
             have p49 : 0 ≤ (0 : Int) := (by omega)
             have q49 : 0 < a0_8.size := (by have : (0 : Int) < (a0_8.size : Int) := of_decide_eq_true (by first | (with_reducible assumption) | assumption); omega)
             have hx49 : ∀ h : 0 < a0_8.size, ((a0_8[0]'h).toNat : Int) = bt a0_8 0 := bt_at a0_8 0
             clear p49
             have qi49 : (0 < (a0_8.size : Int)) = True := eq_true (of_decide_eq_true (by first | (with_reducible assumption) | assumption))
             replace q49 := eq_true q49
             go_wp2
             go_meet
             case rel => exact ⟨_, (((a0_8.extract 1 4).toList != ([0, 0, 0] : List UInt8))), (by first | rfl | (simp; done) | (simp [*]; done)), H', ⟨by first | omega | exact Nat.le_refl _⟩, BK135, BK136, BK146, HB⟩
            ·rw [if_neg c55] at H
             exact absurd H (by simp)
           ·rw [if_neg c54] at H
            exact absurd H (by simp)
        ·rw [if_neg c43] at H
         exact absurd H (by simp)
    ·rw [if_neg c30] at H
     have c30b0 : (a0_2 == 1) = false := beq_eq_false_iff_ne.mpr c30
     have c30b1 : (a0_2 != 1) = true := bne_iff_ne.mpr c30
     (first | rw [c30b0] | (simp only [i64_w, i32_w]; rw [c30b0]) | skip)
     have H' := Aside0.mk H
     clear H
     have hnb59 := NB135_136.out
     have hnc59 := NB136_135.out
     have hnb60 := NB135_146.out
     have hnc60 := NB146_135.out
     obtain ⟨hcz61_0, hcz61_1, hcz61_2, hcz61_3, hcz61_4, hcz61_5, hcz61_6, hcz61_7, hcz61_8, hfz61_0⟩ := Fit.cells9 BK135.out
     go_wp2
     go_meet
     case rel => exact ⟨_, (true), (by first | rfl | (simp; done) | (simp [*]; done)), H', ⟨by first | omega | exact Nat.le_refl _⟩, BK135, BK136, BK146, HB⟩
   case rest =>
    clear HC18
    try clear c1
    try clear c2
    try clear p2
    try clear c3
    try clear c3b0
    try clear c3b1
    try clear c4
    try clear p4
    try clear q4
    try clear hx4
    try clear qi4
    try clear c5
    try clear c6
    try clear c8
    try clear c14
    try clear c15
    try clear c21
    try clear c26
    try clear c27
    try clear c28
    try clear c30
    try clear c30b0
    try clear c30b1
    try clear c31
    try clear c31b0
    try clear c32
    try clear c33
    try clear c35
    try clear c36
    try clear c37
    try clear c39
    try clear c39b0
    try clear c39b1
    try clear c40
    try clear c41
    try clear c43
    try clear c43b0
    try clear c43b1
    try clear p44
    try clear q44
    try clear hx44
    try clear qi44
    try clear c45
    try clear c45b0
    try clear c46
    try clear c47
    try clear p49
    try clear q49
    try clear hx49
    try clear qi49
    try clear c50
    try clear c50b0
    try clear c51
    try clear c52
    try clear c54
    try clear c54b0
    try clear c54b1
    try clear c55
    try clear c55b0
    try clear c55b1
    try clear c56
    try clear c57
    try clear c59
    try clear c60
    try clear hcz11_0
    try clear hcz11_1
    try clear hcz11_2
    try clear hcz11_3
    try clear hcz11_4
    try clear hcz11_5
    try clear hcz11_6
    try clear hcz11_7
    try clear hcz11_8
    try clear hcz16_0
    try clear hcz16_1
    try clear hcz16_2
    try clear hcz16_3
    try clear hcz16_4
    try clear hcz16_5
    try clear hcz16_6
    try clear hcz17_0
    try clear hcz17_1
    try clear hcz17_2
    try clear hcz17_3
    try clear hcz17_4
    try clear hcz17_5
    try clear hcz17_6
    try clear hcz22_0
    try clear hcz22_1
    try clear hcz22_2
    try clear hcz22_3
    try clear hcz22_4
    try clear hcz22_5
    try clear hcz22_6
    try clear hcz22_7
    try clear hcz22_8
    try clear hcz24_0
    try clear hcz24_1
    try clear hcz24_2
    try clear hcz24_3
    try clear hcz24_4
    try clear hcz24_5
    try clear hcz24_6
    try clear hcz24_7
    try clear hcz24_8
    try clear hcz29_0
    try clear hcz29_1
    try clear hcz29_2
    try clear hcz29_3
    try clear hcz29_4
    try clear hcz29_5
    try clear hcz29_6
    try clear hcz34_0
    try clear hcz34_1
    try clear hcz34_2
    try clear hcz34_3
    try clear hcz34_4
    try clear hcz34_5
    try clear hcz34_6
    try clear hcz34_7
    try clear hcz34_8
    try clear hcz38_0
    try clear hcz38_1
    try clear hcz38_2
    try clear hcz38_3
    try clear hcz38_4
    try clear hcz38_5
    try clear hcz38_6
    try clear hcz38_7
    try clear hcz38_8
    try clear hcz42_0
    try clear hcz42_1
    try clear hcz42_2
    try clear hcz42_3
    try clear hcz42_4
    try clear hcz42_5
    try clear hcz42_6
    try clear hcz42_7
    try clear hcz42_8
    try clear hcz48_0
    try clear hcz48_1
    try clear hcz48_2
    try clear hcz48_3
    try clear hcz48_4
    try clear hcz48_5
    try clear hcz48_6
    try clear hcz48_7
    try clear hcz48_8
    try clear hcz53_0
    try clear hcz53_1
    try clear hcz53_2
    try clear hcz53_3
    try clear hcz53_4
    try clear hcz53_5
    try clear hcz53_6
    try clear hcz53_7
    try clear hcz53_8
    try clear hcz58_0
    try clear hcz58_1
    try clear hcz58_2
    try clear hcz58_3
    try clear hcz58_4
    try clear hcz58_5
    try clear hcz58_6
    try clear hcz58_7
    try clear hcz58_8
    try clear hcz61_0
    try clear hcz61_1
    try clear hcz61_2
    try clear hcz61_3
    try clear hcz61_4
    try clear hcz61_5
    try clear hcz61_6
    try clear hcz61_7
    try clear hcz61_8
    try clear hcz9_0
    try clear hcz9_1
    try clear hcz9_2
    try clear hcz9_3
    try clear hcz9_4
    try clear hcz9_5
    try clear hcz9_6
    try clear hcz9_7
    try clear hcz9_8
    try clear hfz11_0
    try clear hfz16_0
    try clear hfz17_0
    try clear hfz22_0
    try clear hfz24_0
    try clear hfz29_0
    try clear hfz34_0
    try clear hfz38_0
    try clear hfz42_0
    try clear hfz48_0
    try clear hfz53_0
    try clear hfz58_0
    try clear hfz61_0
    try clear hfz9_0
    try clear p44
    try clear p49
    try clear q44
    try clear q49
    obtain ⟨kq, x59_17, rfl, HA, HJ17, BK135, BK136, BK146, HB⟩ := hcut
    cases kq with
    | zero => exact absurd HA.out (by simp [fault_Read.j0])
    | succ kj17 =>
     have H := HA.out
     clear HA
     simp only [fault_Read.j0] at H
     by_cases c62 : x59_17 = true
     ·subst c62
      have H1 : (some (0, 0, 0, 0, 0, 0, (⟨#[]⟩ : ByteArray), 3)) = some (r1, r2, r3, r4, r5, r6, r7, r8) := by rw [if_pos rfl] at H; exact H
      clear H
      have H := H1
      clear H1
      simp only [Option.some.injEq, Prod.mk.injEq] at H
      obtain ⟨rfl, rfl, rfl, rfl, rfl, rfl, rfl, rfl⟩ := H
      have hnb63 := NB136_135.out
      have hnc63 := NB135_136.out
      have hnb64 := NB136_146.out
      have hnc64 := NB146_136.out
      obtain ⟨hcz65_0, hcz65_1, hcz65_2, hcz65_3, hcz65_4, hcz65_5, hcz65_6, hfz65_0⟩ := Fit.cells7 BK136.out
      go_wp2
      refine bodyPost_ret (results_ct rfl _ _ gb136 63 #[.int .i64 0, .int .u32 0, .int .u32 0, .int .i64 0, .int .i64 0, .int .i64 0, .string (⟨#[]⟩ : ByteArray)] (0, 0) _ rfl (Fit.put7 (BK136.out)) Try.underlying63 rfl (by kernel_rfl)) rfl ?_
      exact ⟨by first | rfl | (simp [errW_none, errW_some] <;> rfl) | (simp [*, errW_none, errW_some] <;> rfl), Fit.bl HB.out⟩
     ·replace c62 := Bool.eq_false_iff.mpr c62
      subst c62
      have H1 : (if 4 ≤ (a0_8.size : Int) then ((pkt_Head.f kj17 (a0_8.extract 4 a0_8.size)).bind fun bt147 => (if bt147.2.2.2.2.2.2.2.2.2.2 = 0 then (if ((a0_8.extract 4 a0_8.size).size : Int) = (mn bt147.2.2.2.2.2.2.2.2.2.1 28) then (if 0 < (a0_8.size : Int) then (if 20 ≤ ((a0_8.extract 4 a0_8.size).size : Int) then ((strings_Clone.f ((a0_8.extract 4 a0_8.size).extract 20 (a0_8.extract 4 a0_8.size).size)).bind fun t159 => (some (wrap64 (bt a0_8 0), bt147.1, bt147.2.1, bt147.2.2.1, bt147.2.2.2.2.1, bt147.2.2.2.2.2.1, t159, 0))) else (none)) else (none)) else (some (0, 0, 0, 0, 0, 0, (⟨#[]⟩ : ByteArray), 3))) else (some (0, 0, 0, 0, 0, 0, (⟨#[]⟩ : ByteArray), 3)))) else (none)) = some (r1, r2, r3, r4, r5, r6, r7, r8) := by rw [if_neg (show ¬ (false = true) by decide)] at H; exact H
      clear H
      have H := H1
      clear H1
      by_cases c66 : 4 ≤ (a0_8.size : Int)
      ·rw [if_pos c66] at H
       have c66b0 := eq_true c66
       have c66b1 : decide (4 ≤ (a0_8.size : Int)) = true := decide_eq_true c66
       clear c66
       replace H := Option.bind_eq_some_iff.mp H
       obtain ⟨⟨t147, t148, t149, t150, t151, t152, t153, t154, t155, t156, t157⟩, A670, H⟩ := H
       replace H : (if t157 = 0 then (if ((a0_8.extract 4 a0_8.size).size : Int) = (mn t156 28) then (if 0 < (a0_8.size : Int) then (if 20 ≤ ((a0_8.extract 4 a0_8.size).size : Int) then ((strings_Clone.f ((a0_8.extract 4 a0_8.size).extract 20 (a0_8.extract 4 a0_8.size).size)).bind fun t159 => (some (wrap64 (bt a0_8 0), t147, t148, t149, t151, t152, t159, 0))) else (none)) else (none)) else (some (0, 0, 0, 0, 0, 0, (⟨#[]⟩ : ByteArray), 3))) else (some (0, 0, 0, 0, 0, 0, (⟨#[]⟩ : ByteArray), 3))) = some (r1, r2, r3, r4, r5, r6, r7, r8) := H
       have A67 := Aside0.mk A670
       clear A670
       by_cases c68 : t157 = 0
       ·rw [if_pos c68] at H
        have c68b0 : (t157 == 0) = true := beq_iff_eq.mpr c68
        have c68b1 : (t157 != 0) = false := bne_eq_false_iff_eq.mpr c68
        clear c68
        obtain ⟨ji69, hji69⟩ : ∃ j_ : Int, (mn t156 28) = j_ := ⟨_, rfl⟩
        replace H : (if ((a0_8.extract 4 a0_8.size).size : Int) = (ji69) then (if 0 < (a0_8.size : Int) then (if 20 ≤ ((a0_8.extract 4 a0_8.size).size : Int) then ((strings_Clone.f ((a0_8.extract 4 a0_8.size).extract 20 (a0_8.extract 4 a0_8.size).size)).bind fun t159 => (some (wrap64 (bt a0_8 0), t147, t148, t149, t151, t152, t159, 0))) else (none)) else (none)) else (some (0, 0, 0, 0, 0, 0, (⟨#[]⟩ : ByteArray), 3))) = some (r1, r2, r3, r4, r5, r6, r7, r8) := by first | (rw [hji69] at H; exact H) | (simp only [hji69] at H ⊢; exact H)
        (try rw [hji69] at A67)
        (try (have hji69h : ji69 ≤ 28 := by (rw [← hji69]; unfold mn; (repeat' split) <;> omega)))
        (try (have hji69g : ji69 ≤ 64 := by omega))
        have hji69_ : (if 28 < t156 then 28 else t156) = ji69 := hji69
        by_cases c70 : ((a0_8.extract 4 a0_8.size).size : Int) = (ji69)
        ·rw [if_pos c70] at H
         have c70b0 : (((a0_8.extract 4 a0_8.size).size : Int) == (ji69)) = true := beq_iff_eq.mpr c70
         have c70b1 : (((a0_8.extract 4 a0_8.size).size : Int) != (ji69)) = false := bne_eq_false_iff_eq.mpr c70
         (try (have c70n0 := c70b0; simp only [ByteArray.size_extract, Nat.min_self, Nat.sub_zero] at c70n0))
         (try (have c70n1 := c70b1; simp only [ByteArray.size_extract, Nat.min_self, Nat.sub_zero] at c70n1))
         clear c70
         by_cases c71 : 0 < (a0_8.size : Int)
         ·rw [if_pos c71] at H
          have c71b0 : decide (0 < (a0_8.size : Int)) = true := decide_eq_true c71
          have c71b1 : decide (0 < a0_8.size) = true := decide_eq_true (by omega)
          clear c71
          by_cases c73 : 20 ≤ ((a0_8.extract 4 a0_8.size).size : Int)
          ·rw [if_pos c73] at H
           have c73b0 := eq_true c73
           have c73b1 : decide (20 ≤ ((a0_8.extract 4 a0_8.size).size : Int)) = true := decide_eq_true c73
           (try (have c73n0 := c73b0; simp only [ByteArray.size_extract, Nat.min_self, Nat.sub_zero] at c73n0))
           (try (have c73n1 := c73b1; simp only [ByteArray.size_extract, Nat.min_self, Nat.sub_zero] at c73n1))
           clear c73
           replace H := Option.bind_eq_some_iff.mp H
           obtain ⟨t159, A740, H⟩ := H
           replace H : (some (wrap64 (bt a0_8 0), t147, t148, t149, t151, t152, t159, 0)) = some (r1, r2, r3, r4, r5, r6, r7, r8) := H
           have A74 := Aside0.mk A740
           clear A740
           have A74 : Aside0 (strings_Clone.f ((a0_8.extract 4 a0_8.size).extract 20 (a0_8.size - 4)) = some t159) := ⟨by have h := A74.out; rw [show (a0_8.extract 4 a0_8.size).size = a0_8.size - 4 from by rw [ByteArray.size_extract, Nat.min_self]] at h; exact h⟩
           simp only [Option.some.injEq, Prod.mk.injEq] at H
           obtain ⟨rfl, rfl, rfl, rfl, rfl, rfl, rfl, rfl⟩ := H
           have hnb75 := NB135_136.out
           have hnc75 := NB136_135.out
           have hnb76 := NB135_146.out
           have hnc76 := NB146_135.out
           obtain ⟨hcz77_0, hcz77_1, hcz77_2, hcz77_3, hcz77_4, hcz77_5, hcz77_6, hcz77_7, hcz77_8, hfz77_0⟩ := Fit.cells9 BK135.out
           go_upto_region 11 with (first | ((with_reducible refine gate_callee (f := 35) rfl ?_); refine goesL_ (some 66) rfl rfl Try.func35 (by kernel_rfl) rfl #[.string (a0_8.extract 4 a0_8.size)] rfl (by (try simp only [List.map_toArray, List.map_cons, List.map_nil]); first | done | rfl | (simp only [List.length_drop, List.length_take]; rfl)) ?_; (with_reducible refine (pkt_Head.calls kj17 (a0_8.extract 4 a0_8.size) t147 t148 t149 t150 t151 t152 t153 t154 t155 t156 t157 _ A67.out).mono ?_); rintro e w78 ⟨rfl, hb⟩; refine ⟨_, rfl, ?_⟩; have n0_ := Aside0.mk (blk_below (g := gb135) (Fit.pk BK135.out) hb); have n1_ := Aside0.mk (blk_below (g := gb136) (Fit.pk BK136.out) hb); have n2_ := Aside0.mk (blk_below (g := gb146) (Fit.pk BK146.out) hb); have n3_ := Aside0.mk (below_step (Fit.bl HB.out) hb); clear BK135; clear BK136; clear BK146; clear HB; have BK135 := n0_; have BK136 := n1_; have BK146 := n2_; have HB := n3_; clear n0_ n1_ n2_ n3_; (try clear hb); (try clear hb2); (try clear hk); (try clear hi)) | ((with_reducible refine gate_dst (N := 8) rfl ?_); (try (refine gate_guard (by rfl) ?_; dsimp only)); refine box_event ?hg (N := 8) ?hd (cs := #[.int .u32 0, .int .u32 0, .int .i64 0, .int .i64 0, .int .i64 0, .int .i64 0, .bool false, .bool false, .string (⟨#[]⟩ : ByteArray)]) (t := 30) ?hr ?_; (case hd => rfl); (case hg => rfl); (case hr => first | (go_simp; done) | (go_simp; rfl)); intro gb158 hg w79 hbox hb; have n0_ := Aside0.mk (blk_below (g := gb135) (Fit.pk BK135.out) hb); have n1_ := Aside0.mk (blk_below (g := gb136) (Fit.pk BK136.out) hb); have n2_ := Aside0.mk (blk_below (g := gb146) (Fit.pk BK146.out) hb); have n3_ := Aside0.mk (below_step (Fit.bl HB.out) hb); have n4_ := Aside0.mk (hbox); have n5_ := Aside0.mk ((by rw [hg]; exact (below_size (Fit.bl HB.out)) : w.heap.size ≤ gb158)); have n6_ := Aside0.mk ((by rw [hg]; exact (below_size (Fit.bl HB.out)) : w.heap.size ≤ gb158)); have n7_ := Aside0.mk ((by rw [hg]; exact Nat.ne_of_lt (blk_lt (g := gb135) (Fit.pk BK135.out)) : gb135 ≠ gb158)); have n8_ := Aside0.mk ((by rw [hg]; exact Nat.ne_of_gt (blk_lt (g := gb135) (Fit.pk BK135.out)) : gb158 ≠ gb135)); have n9_ := Aside0.mk ((by rw [hg]; exact Nat.ne_of_lt (blk_lt (g := gb136) (Fit.pk BK136.out)) : gb136 ≠ gb158)); have n10_ := Aside0.mk ((by rw [hg]; exact Nat.ne_of_gt (blk_lt (g := gb136) (Fit.pk BK136.out)) : gb158 ≠ gb136)); have n11_ := Aside0.mk ((by rw [hg]; exact Nat.ne_of_lt (blk_lt (g := gb146) (Fit.pk BK146.out)) : gb146 ≠ gb158)); have n12_ := Aside0.mk ((by rw [hg]; exact Nat.ne_of_gt (blk_lt (g := gb146) (Fit.pk BK146.out)) : gb158 ≠ gb146)); clear BK135; clear BK136; clear BK146; clear HB; have BK135 := n0_; have BK136 := n1_; have BK146 := n2_; have HB := n3_; have BK158 := n4_; have GW158 := n5_; have GE158 := n6_; have NB135_158 := n7_; have NB158_135 := n8_; have NB136_158 := n9_; have NB158_136 := n10_; have NB146_158 := n11_; have NB158_146 := n12_; clear n0_ n1_ n2_ n3_ n4_ n5_ n6_ n7_ n8_ n9_ n10_ n11_ n12_; clear hb hbox hg; have hnb80 := NB158_135.out; have hnc80 := NB135_158.out; have hnb81 := NB158_136.out; have hnc81 := NB136_158.out; have hnb82 := NB158_146.out; have hnc82 := NB146_158.out; obtain ⟨hcz83_0, hcz83_1, hcz83_2, hcz83_3, hcz83_4, hcz83_5, hcz83_6, hcz83_7, hcz83_8, hfz83_0⟩ := Fit.cells9 BK158.out))
           (try simp only [Act.put, List.setIfInBounds_toArray, List.set_cons_zero, List.set_cons_succ])
           have n0_ : Aside0 ((((((((((w79.setCell ⟨gb158, 0, none⟩ (.int .u32 t147)).setCell ⟨gb158, 1, none⟩ (.int .u32 t148)).setCell ⟨gb158, 2, none⟩ (.int .i64 t149)).setCell ⟨gb158, 3, none⟩ (.int .i64 t150)).setCell ⟨gb158, 4, none⟩ (.int .i64 t151)).setCell ⟨gb158, 5, none⟩ (.int .i64 t152)).setCell ⟨gb158, 6, none⟩ (.bool t153)).setCell ⟨gb158, 7, none⟩ (.bool t154)).setCell ⟨gb158, 8, none⟩ (.string t155)).heap[gb135]? = some (.cells #[.int .u32 a0_0, .int .u32 a0_1, .int .i64 a0_2, .int .i64 a0_3, .int .i64 a0_4, .int .i64 a0_5, .bool a0_6, .bool a0_7, .string a0_8] 30 (0, 0))) := ⟨Fit.far9 (.int .u32 t147) (.int .u32 t148) (.int .i64 t149) (.int .i64 t150) (.int .i64 t151) (.int .i64 t152) (.bool t153) (.bool t154) (.string t155) BK135.out NB158_135.out⟩
           have n1_ : Aside0 ((((((((((w79.setCell ⟨gb158, 0, none⟩ (.int .u32 t147)).setCell ⟨gb158, 1, none⟩ (.int .u32 t148)).setCell ⟨gb158, 2, none⟩ (.int .i64 t149)).setCell ⟨gb158, 3, none⟩ (.int .i64 t150)).setCell ⟨gb158, 4, none⟩ (.int .i64 t151)).setCell ⟨gb158, 5, none⟩ (.int .i64 t152)).setCell ⟨gb158, 6, none⟩ (.bool t153)).setCell ⟨gb158, 7, none⟩ (.bool t154)).setCell ⟨gb158, 8, none⟩ (.string t155)).heap[gb136]? = some (.cells #[.int .i64 0, .int .u32 0, .int .u32 0, .int .i64 0, .int .i64 0, .int .i64 0, .string (⟨#[]⟩ : ByteArray)] 63 (0, 0))) := ⟨Fit.far9 (.int .u32 t147) (.int .u32 t148) (.int .i64 t149) (.int .i64 t150) (.int .i64 t151) (.int .i64 t152) (.bool t153) (.bool t154) (.string t155) BK136.out NB158_136.out⟩
           have n2_ : Aside0 ((((((((((w79.setCell ⟨gb158, 0, none⟩ (.int .u32 t147)).setCell ⟨gb158, 1, none⟩ (.int .u32 t148)).setCell ⟨gb158, 2, none⟩ (.int .i64 t149)).setCell ⟨gb158, 3, none⟩ (.int .i64 t150)).setCell ⟨gb158, 4, none⟩ (.int .i64 t151)).setCell ⟨gb158, 5, none⟩ (.int .i64 t152)).setCell ⟨gb158, 6, none⟩ (.bool t153)).setCell ⟨gb158, 7, none⟩ (.bool t154)).setCell ⟨gb158, 8, none⟩ (.string t155)).heap[gb146]? = some (.cells #[.int .i64 t138, .int .u32 t139, .int .u32 t140, .int .i64 t141, .int .i64 t142, .int .i64 t143, .string t144] 63 (0, 0))) := ⟨Fit.far9 (.int .u32 t147) (.int .u32 t148) (.int .i64 t149) (.int .i64 t150) (.int .i64 t151) (.int .i64 t152) (.bool t153) (.bool t154) (.string t155) BK146.out NB158_146.out⟩
           have n3_ : Aside0 ((((((((((w79.setCell ⟨gb158, 0, none⟩ (.int .u32 t147)).setCell ⟨gb158, 1, none⟩ (.int .u32 t148)).setCell ⟨gb158, 2, none⟩ (.int .i64 t149)).setCell ⟨gb158, 3, none⟩ (.int .i64 t150)).setCell ⟨gb158, 4, none⟩ (.int .i64 t151)).setCell ⟨gb158, 5, none⟩ (.int .i64 t152)).setCell ⟨gb158, 6, none⟩ (.bool t153)).setCell ⟨gb158, 7, none⟩ (.bool t154)).setCell ⟨gb158, 8, none⟩ (.string t155)).heap[gb158]? = some (.cells #[.int .u32 t147, .int .u32 t148, .int .i64 t149, .int .i64 t150, .int .i64 t151, .int .i64 t152, .bool t153, .bool t154, .string t155] 30 (0, 0))) := ⟨Fit.put9 (.int .u32 t147) (.int .u32 t148) (.int .i64 t149) (.int .i64 t150) (.int .i64 t151) (.int .i64 t152) (.bool t153) (.bool t154) (.string t155) BK158.out⟩
           have n4_ : Aside0 (Below w.heap.size w (((((((((w79.setCell ⟨gb158, 0, none⟩ (.int .u32 t147)).setCell ⟨gb158, 1, none⟩ (.int .u32 t148)).setCell ⟨gb158, 2, none⟩ (.int .i64 t149)).setCell ⟨gb158, 3, none⟩ (.int .i64 t150)).setCell ⟨gb158, 4, none⟩ (.int .i64 t151)).setCell ⟨gb158, 5, none⟩ (.int .i64 t152)).setCell ⟨gb158, 6, none⟩ (.bool t153)).setCell ⟨gb158, 7, none⟩ (.bool t154)).setCell ⟨gb158, 8, none⟩ (.string t155))) := ⟨Fit.bl HB.out⟩
           (try clear BK135)
           (try clear BK136)
           (try clear BK146)
           (try clear BK158)
           (try clear HB)
           generalize (((((((((w79.setCell ⟨gb158, 0, none⟩ (.int .u32 t147)).setCell ⟨gb158, 1, none⟩ (.int .u32 t148)).setCell ⟨gb158, 2, none⟩ (.int .i64 t149)).setCell ⟨gb158, 3, none⟩ (.int .i64 t150)).setCell ⟨gb158, 4, none⟩ (.int .i64 t151)).setCell ⟨gb158, 5, none⟩ (.int .i64 t152)).setCell ⟨gb158, 6, none⟩ (.bool t153)).setCell ⟨gb158, 7, none⟩ (.bool t154)).setCell ⟨gb158, 8, none⟩ (.string t155)) = w84 at n0_ n1_ n2_ n3_ n4_ ⊢
           have BK135 := n0_
           have BK136 := n1_
           have BK146 := n2_
           have BK158 := n3_
           have HB := n4_
           clear n0_ n1_ n2_ n3_ n4_
           go_wp2
           have n0_ := Aside0.mk (blk_drew BK135.out)
           have n1_ := Aside0.mk (blk_drew BK136.out)
           have n2_ := Aside0.mk (blk_drew BK146.out)
           have n3_ := Aside0.mk (blk_drew BK158.out)
           have n4_ := Aside0.mk (below_drew1 HB.out)
           clear BK135
           clear BK136
           clear BK146
           clear BK158
           clear HB
           have BK135 := n0_
           have BK136 := n1_
           have BK146 := n2_
           have BK158 := n3_
           have HB := n4_
           clear n0_ n1_ n2_ n3_ n4_
           have p72 : 0 ≤ (0 : Int) := (by omega)
           have q72 : 0 < a0_8.size := (by have : (0 : Int) < (a0_8.size : Int) := of_decide_eq_true (by first | (with_reducible assumption) | assumption); omega)
           have hx72 : ∀ h : 0 < a0_8.size, ((a0_8[0]'h).toNat : Int) = bt a0_8 0 := bt_at a0_8 0
           clear p72
           have qi72 : (0 < (a0_8.size : Int)) = True := eq_true (of_decide_eq_true (by first | (with_reducible assumption) | assumption))
           replace q72 := eq_true q72
           refine start_ (n := 20) (S := fun w' => w'.cell? ⟨gb135, 0, none⟩ = some (.int .u32 a0_0) ∧ w'.cell? ⟨gb135, 1, none⟩ = some (.int .u32 a0_1) ∧ w'.cell? ⟨gb135, 2, none⟩ = some (.int .i64 a0_2) ∧ w'.cell? ⟨gb135, 3, none⟩ = some (.int .i64 a0_3) ∧ w'.cell? ⟨gb135, 4, none⟩ = some (.int .i64 a0_4) ∧ w'.cell? ⟨gb135, 5, none⟩ = some (.int .i64 a0_5) ∧ w'.cell? ⟨gb135, 6, none⟩ = some (.bool a0_6) ∧ w'.cell? ⟨gb135, 7, none⟩ = some (.bool a0_7) ∧ w'.cell? ⟨gb135, 8, none⟩ = some (.string a0_8) ∧ w'.cell? ⟨gb158, 0, none⟩ = some (.int .u32 t147) ∧ w'.cell? ⟨gb158, 1, none⟩ = some (.int .u32 t148) ∧ w'.cell? ⟨gb158, 2, none⟩ = some (.int .i64 t149) ∧ w'.cell? ⟨gb158, 3, none⟩ = some (.int .i64 t150) ∧ w'.cell? ⟨gb158, 4, none⟩ = some (.int .i64 t151) ∧ w'.cell? ⟨gb158, 5, none⟩ = some (.int .i64 t152) ∧ w'.cell? ⟨gb158, 6, none⟩ = some (.bool t153) ∧ w'.cell? ⟨gb158, 7, none⟩ = some (.bool t154) ∧ w'.cell? ⟨gb158, 8, none⟩ = some (.string t155)) (ds := []) #[false, false, false, false, false, false, false, false, false, false, false, false, false, false, false, false, false, false, false, false] (by kernel_rfl) rfl rfl ⟨(blk_cell BK135.out 0).trans rfl, (blk_cell BK135.out 1).trans rfl, (blk_cell BK135.out 2).trans rfl, (blk_cell BK135.out 3).trans rfl, (blk_cell BK135.out 4).trans rfl, (blk_cell BK135.out 5).trans rfl, (blk_cell BK135.out 6).trans rfl, (blk_cell BK135.out 7).trans rfl, (blk_cell BK135.out 8).trans rfl, (blk_cell BK158.out 0).trans rfl, (blk_cell BK158.out 1).trans rfl, (blk_cell BK158.out 2).trans rfl, (blk_cell BK158.out 3).trans rfl, (blk_cell BK158.out 4).trans rfl, (blk_cell BK158.out 5).trans rfl, (blk_cell BK158.out 6).trans rfl, (blk_cell BK158.out 7).trans rfl, (blk_cell BK158.out 8).trans rfl⟩ (fun hHeld => ?_); refine with_tabW fault_Read.tab13 fault_Read.bits13 (fun HT_ HW_ => ?_)
           generalize w84.drew = w85 at BK135 BK136 BK146 BK158 HB hHeld ⊢
           refine pure_ (i := 0) (N := some 80) (v := ?_) (a' := ?_) #[true, false, false, false, false, false, false, false, false, false, false, false, false, false, false, false, false, false, false, false] rfl rfl (any_of HT_.out (by kernel_rfl)) (fun _ _ _ h => h) (Or.inl ⟨by rfl, ?_⟩) ?_ ?_
           rotate_left
           ·intro w'
            go_simp
            with_reducible rfl
           rotate_left
           ·simp only [Act.put, List.setIfInBounds_toArray, List.set_cons_zero, List.set_cons_succ, i64_w, i32_w]
            rfl
           refine pure_ (i := 4) (N := some 84) (v := ?_) (a' := ?_) #[true, false, false, false, true, false, false, false, false, false, false, false, false, false, false, false, false, false, false, false] rfl rfl (any_of HT_.out (by kernel_rfl)) (fun _ _ _ h => h) (Or.inl ⟨by rfl, ?_⟩) ?_ ?_
           rotate_left
           ·intro w'
            go_simp
            with_reducible rfl
           rotate_left
           ·simp only [Act.put, List.setIfInBounds_toArray, List.set_cons_zero, List.set_cons_succ, i64_w, i32_w]
            rfl
           refine pure_ (i := 6) (N := some 86) (v := ?_) (a' := ?_) #[true, false, false, false, true, false, true, false, false, false, false, false, false, false, false, false, false, false, false, false] rfl rfl (any_of HT_.out (by kernel_rfl)) (fun _ _ _ h => h) (Or.inl ⟨by rfl, ?_⟩) ?_ ?_
           rotate_left
           ·intro w'
            go_simp
            with_reducible rfl
           rotate_left
           ·simp only [Act.put, List.setIfInBounds_toArray, List.set_cons_zero, List.set_cons_succ, i64_w, i32_w]
            rfl
           refine pure_ (i := 8) (N := some 88) (v := ?_) (a' := ?_) #[true, false, false, false, true, false, true, false, true, false, false, false, false, false, false, false, false, false, false, false] rfl rfl (any_of HT_.out (by kernel_rfl)) (fun _ _ _ h => h) (Or.inl ⟨by rfl, ?_⟩) ?_ ?_
           rotate_left
           ·intro w'
            go_simp
            with_reducible rfl
           rotate_left
           ·simp only [Act.put, List.setIfInBounds_toArray, List.set_cons_zero, List.set_cons_succ, i64_w, i32_w]
            rfl
           refine pure_ (i := 10) (N := some 90) (v := ?_) (a' := ?_) #[true, false, false, false, true, false, true, false, true, false, true, false, false, false, false, false, false, false, false, false] rfl rfl (any_of HT_.out (by kernel_rfl)) (fun _ _ _ h => h) (Or.inl ⟨by rfl, ?_⟩) ?_ ?_
           rotate_left
           ·intro w'
            go_simp
            with_reducible rfl
           rotate_left
           ·simp only [Act.put, List.setIfInBounds_toArray, List.set_cons_zero, List.set_cons_succ, i64_w, i32_w]
            rfl
           refine pure_ (i := 12) (N := some 92) (v := ?_) (a' := ?_) #[true, false, false, false, true, false, true, false, true, false, true, false, true, false, false, false, false, false, false, false] rfl rfl (any_of HT_.out (by kernel_rfl)) (fun _ _ _ h => h) (Or.inl ⟨by rfl, ?_⟩) ?_ ?_
           rotate_left
           ·intro w'
            go_simp
            with_reducible rfl
           rotate_left
           ·simp only [Act.put, List.setIfInBounds_toArray, List.set_cons_zero, List.set_cons_succ, i64_w, i32_w]
            rfl
           refine pure_ (i := 14) (N := some 94) (v := ?_) (a' := ?_) #[true, false, false, false, true, false, true, false, true, false, true, false, true, false, true, false, false, false, false, false] rfl rfl (any_of HT_.out (by kernel_rfl)) (fun _ _ _ h => h) (Or.inl ⟨by rfl, ?_⟩) ?_ ?_
           rotate_left
           ·intro w'
            go_simp
            with_reducible rfl
           rotate_left
           ·simp only [Act.put, List.setIfInBounds_toArray, List.set_cons_zero, List.set_cons_succ, i64_w, i32_w]
            rfl
           refine pure_ (i := 15) (N := some 95) (v := ?_) (a' := ?_) #[true, false, false, false, true, false, true, false, true, false, true, false, true, false, true, true, false, false, false, false] rfl rfl (any_of HT_.out (by kernel_rfl)) (fun _ _ _ h => h) (Or.inl ⟨by rfl, ?_⟩) ?_ ?_
           rotate_left
           ·intro w'
            go_simp
            with_reducible rfl
           rotate_left
           ·simp only [Act.put, List.setIfInBounds_toArray, List.set_cons_zero, List.set_cons_succ, i64_w, i32_w]
            rfl
           refine take_ (i := 1) (N := some 81) (v := ?_) (a' := ?_) #[true, true, false, false, true, false, true, false, true, false, true, false, true, false, true, true, false, false, false, false] rfl rfl (take_ofW HT_.out HW_.out (by kernel_rfl)) (fun _ _ _ h => h) (Or.inl ⟨by rfl, ?_⟩) hHeld ?_ ?_
           rotate_left
           ·rintro w' ⟨s0, s1, s2, s3, s4, s5, s6, s7, s8, s9, s10, s11, s12, s13, s14, s15, s16, s17⟩
            go_simp
            with_reducible rfl
           rotate_left
           ·simp only [Act.put, List.setIfInBounds_toArray, List.set_cons_zero, List.set_cons_succ, i64_w, i32_w]
            rfl
           refine take_ (i := 2) (N := some 82) (v := ?_) (a' := ?_) #[true, true, true, false, true, false, true, false, true, false, true, false, true, false, true, true, false, false, false, false] rfl rfl (take_ofW HT_.out HW_.out (by kernel_rfl)) (fun _ _ _ h => h) (Or.inl ⟨by rfl, ?_⟩) hHeld ?_ ?_
           rotate_left
           ·rintro w' ⟨s0, s1, s2, s3, s4, s5, s6, s7, s8, s9, s10, s11, s12, s13, s14, s15, s16, s17⟩
            go_simp
            with_reducible rfl
           rotate_left
           ·simp only [Act.put, List.setIfInBounds_toArray, List.set_cons_zero, List.set_cons_succ, i64_w, i32_w]
            rfl
           refine pure_ (i := 3) (N := some 83) (v := ?_) (a' := ?_) #[true, true, true, true, true, false, true, false, true, false, true, false, true, false, true, true, false, false, false, false] rfl rfl (any_of HT_.out (by kernel_rfl)) (fun _ _ _ h => h) (Or.inl ⟨by rfl, ?_⟩) ?_ ?_
           rotate_left
           ·intro w'
            go_simp
            with_reducible rfl
           rotate_left
           ·simp only [Act.put, List.setIfInBounds_toArray, List.set_cons_zero, List.set_cons_succ, i64_w, i32_w]
            rfl
           refine take_ (i := 5) (N := some 85) (v := ?_) (a' := ?_) #[true, true, true, true, true, true, true, false, true, false, true, false, true, false, true, true, false, false, false, false] rfl rfl (take_ofW HT_.out HW_.out (by kernel_rfl)) (fun _ _ _ h => h) (Or.inl ⟨by rfl, ?_⟩) hHeld ?_ ?_
           rotate_left
           ·rintro w' ⟨s0, s1, s2, s3, s4, s5, s6, s7, s8, s9, s10, s11, s12, s13, s14, s15, s16, s17⟩
            go_simp
            with_reducible rfl
           rotate_left
           ·simp only [Act.put, List.setIfInBounds_toArray, List.set_cons_zero, List.set_cons_succ, i64_w, i32_w]
            rfl
           refine take_ (i := 7) (N := some 87) (v := ?_) (a' := ?_) #[true, true, true, true, true, true, true, true, true, false, true, false, true, false, true, true, false, false, false, false] rfl rfl (take_ofW HT_.out HW_.out (by kernel_rfl)) (fun _ _ _ h => h) (Or.inl ⟨by rfl, ?_⟩) hHeld ?_ ?_
           rotate_left
           ·rintro w' ⟨s0, s1, s2, s3, s4, s5, s6, s7, s8, s9, s10, s11, s12, s13, s14, s15, s16, s17⟩
            go_simp
            with_reducible rfl
           rotate_left
           ·simp only [Act.put, List.setIfInBounds_toArray, List.set_cons_zero, List.set_cons_succ, i64_w, i32_w]
            rfl
           refine take_ (i := 9) (N := some 89) (v := ?_) (a' := ?_) #[true, true, true, true, true, true, true, true, true, true, true, false, true, false, true, true, false, false, false, false] rfl rfl (take_ofW HT_.out HW_.out (by kernel_rfl)) (fun _ _ _ h => h) (Or.inl ⟨by rfl, ?_⟩) hHeld ?_ ?_
           rotate_left
           ·rintro w' ⟨s0, s1, s2, s3, s4, s5, s6, s7, s8, s9, s10, s11, s12, s13, s14, s15, s16, s17⟩
            go_simp
            with_reducible rfl
           rotate_left
           ·simp only [Act.put, List.setIfInBounds_toArray, List.set_cons_zero, List.set_cons_succ, i64_w, i32_w]
            rfl
           refine take_ (i := 11) (N := some 91) (v := ?_) (a' := ?_) #[true, true, true, true, true, true, true, true, true, true, true, true, true, false, true, true, false, false, false, false] rfl rfl (take_ofW HT_.out HW_.out (by kernel_rfl)) (fun _ _ _ h => h) (Or.inl ⟨by rfl, ?_⟩) hHeld ?_ ?_
           rotate_left
           ·rintro w' ⟨s0, s1, s2, s3, s4, s5, s6, s7, s8, s9, s10, s11, s12, s13, s14, s15, s16, s17⟩
            go_simp
            with_reducible rfl
           rotate_left
           ·simp only [Act.put, List.setIfInBounds_toArray, List.set_cons_zero, List.set_cons_succ, i64_w, i32_w]
            rfl
           refine take_ (i := 13) (N := some 93) (v := ?_) (a' := ?_) #[true, true, true, true, true, true, true, true, true, true, true, true, true, true, true, true, false, false, false, false] rfl rfl (take_ofW HT_.out HW_.out (by kernel_rfl)) (fun _ _ _ h => h) (Or.inl ⟨by rfl, ?_⟩) hHeld ?_ ?_
           rotate_left
           ·rintro w' ⟨s0, s1, s2, s3, s4, s5, s6, s7, s8, s9, s10, s11, s12, s13, s14, s15, s16, s17⟩
            go_simp
            with_reducible rfl
           rotate_left
           ·simp only [Act.put, List.setIfInBounds_toArray, List.set_cons_zero, List.set_cons_succ, i64_w, i32_w]
            rfl
           refine one_ (i := 16) (N := some 96) #[true, true, true, true, true, true, true, true, true, true, true, true, true, true, true, true, true, false, false, false] rfl rfl (one_of HT_.out (by kernel_rfl)) (by decide) (fun K hK => ?_)
           refine goes_ Try.func51 (by kernel_rfl) rfl #[.string ((a0_8.extract 4 a0_8.size).extract 20 (a0_8.size - 4))] (by rfl) rfl rfl (by (try simp only [List.map_toArray, List.map_cons, List.map_nil]); first | done | rfl | (simp only [List.length_drop, List.length_take]; rfl)) ?_
           with_reducible refine (strings_Clone.calls ((a0_8.extract 4 a0_8.size).extract 20 (a0_8.size - 4)) t159 _ A74.out).mono ?_
           rintro e w86 ⟨rfl, hb⟩
           refine ⟨_, rfl, ?_⟩
           have n0_ := Aside0.mk (blk_below (g := gb135) (Fit.pk BK135.out) hb)
           have n1_ := Aside0.mk (blk_below (g := gb136) (Fit.pk BK136.out) hb)
           have n2_ := Aside0.mk (blk_below (g := gb146) (Fit.pk BK146.out) hb)
           have n3_ := Aside0.mk (blk_below (g := gb158) (Fit.pk BK158.out) hb)
           have n4_ := Aside0.mk (below_step (Fit.bl HB.out) hb)
           clear BK135
           clear BK136
           clear BK146
           clear BK158
           clear HB
           have BK135 := n0_
           have BK136 := n1_
           have BK146 := n2_
           have BK158 := n3_
           have HB := n4_
           clear n0_ n1_ n2_ n3_ n4_
           (try clear hb)
           (try clear hb2)
           (try clear hk)
           (try clear hi)
           refine hK.out _ _ ⟨(blk_cell BK135.out 0).trans rfl, (blk_cell BK135.out 1).trans rfl, (blk_cell BK135.out 2).trans rfl, (blk_cell BK135.out 3).trans rfl, (blk_cell BK135.out 4).trans rfl, (blk_cell BK135.out 5).trans rfl, (blk_cell BK135.out 6).trans rfl, (blk_cell BK135.out 7).trans rfl, (blk_cell BK135.out 8).trans rfl, (blk_cell BK158.out 0).trans rfl, (blk_cell BK158.out 1).trans rfl, (blk_cell BK158.out 2).trans rfl, (blk_cell BK158.out 3).trans rfl, (blk_cell BK158.out 4).trans rfl, (blk_cell BK158.out 5).trans rfl, (blk_cell BK158.out 6).trans rfl, (blk_cell BK158.out 7).trans rfl, (blk_cell BK158.out 8).trans rfl⟩ (fun hHeld => ?_)
           clear hK K
           refine norm_ (a' := ?_) ?_ ?_
           rotate_left
           ·show Act.put _ (some 96) _ = _
            simp only [Act.put, List.setIfInBounds_toArray, List.set_cons_zero, List.set_cons_succ, i64_w, i32_w]
            rfl
           refine pure_ (i := 17) (N := some 97) (v := ?_) (a' := ?_) #[true, true, true, true, true, true, true, true, true, true, true, true, true, true, true, true, true, true, false, false] rfl rfl (any_of HT_.out (by kernel_rfl)) (fun _ _ _ h => h) (Or.inl ⟨by rfl, ?_⟩) ?_ ?_
           rotate_left
           ·intro w'
            go_simp
            with_reducible rfl
           rotate_left
           ·simp only [Act.put, List.setIfInBounds_toArray, List.set_cons_zero, List.set_cons_succ, i64_w, i32_w]
            rfl
           refine one_ (i := 18) (N := none) #[true, true, true, true, true, true, true, true, true, true, true, true, true, true, true, true, true, true, true, false] rfl rfl (one_of HT_.out (by kernel_rfl)) (by decide) (fun K hK => ?_)
           have hs87 : w86.cell? ⟨gb136, 0, none⟩ = some (.int .i64 0) := (blk_cell BK136.out 0).trans rfl
           have hfs87 := blk_frozen BK136.out 0
           have hns87_0 := NB135_136.out
           have hns87_2 := NB146_136.out
           have hns87_3 := NB158_136.out
           have hms87_0 := NB136_135.out
           have hms87_2 := NB136_146.out
           have hms87_3 := NB136_158.out
           have hs88 : w86.cell? ⟨gb136, 1, none⟩ = some (.int .u32 0) := (blk_cell BK136.out 1).trans rfl
           have hfs88 := blk_frozen BK136.out 1
           have hns88_0 := NB135_136.out
           have hns88_2 := NB146_136.out
           have hns88_3 := NB158_136.out
           have hms88_0 := NB136_135.out
           have hms88_2 := NB136_146.out
           have hms88_3 := NB136_158.out
           have hs89 : w86.cell? ⟨gb136, 2, none⟩ = some (.int .u32 0) := (blk_cell BK136.out 2).trans rfl
           have hfs89 := blk_frozen BK136.out 2
           have hns89_0 := NB135_136.out
           have hns89_2 := NB146_136.out
           have hns89_3 := NB158_136.out
           have hms89_0 := NB136_135.out
           have hms89_2 := NB136_146.out
           have hms89_3 := NB136_158.out
           have hs90 : w86.cell? ⟨gb136, 3, none⟩ = some (.int .i64 0) := (blk_cell BK136.out 3).trans rfl
           have hfs90 := blk_frozen BK136.out 3
           have hns90_0 := NB135_136.out
           have hns90_2 := NB146_136.out
           have hns90_3 := NB158_136.out
           have hms90_0 := NB136_135.out
           have hms90_2 := NB136_146.out
           have hms90_3 := NB136_158.out
           have hs91 : w86.cell? ⟨gb136, 4, none⟩ = some (.int .i64 0) := (blk_cell BK136.out 4).trans rfl
           have hfs91 := blk_frozen BK136.out 4
           have hns91_0 := NB135_136.out
           have hns91_2 := NB146_136.out
           have hns91_3 := NB158_136.out
           have hms91_0 := NB136_135.out
           have hms91_2 := NB136_146.out
           have hms91_3 := NB136_158.out
           have hs92 : w86.cell? ⟨gb136, 5, none⟩ = some (.int .i64 0) := (blk_cell BK136.out 5).trans rfl
           have hfs92 := blk_frozen BK136.out 5
           have hns92_0 := NB135_136.out
           have hns92_2 := NB146_136.out
           have hns92_3 := NB158_136.out
           have hms92_0 := NB136_135.out
           have hms92_2 := NB136_146.out
           have hms92_3 := NB136_158.out
           have hs93 : w86.cell? ⟨gb136, 6, none⟩ = some (.string (⟨#[]⟩ : ByteArray)) := (blk_cell BK136.out 6).trans rfl
           have hfs93 := blk_frozen BK136.out 6
           have hns93_0 := NB135_136.out
           have hns93_2 := NB146_136.out
           have hns93_3 := NB158_136.out
           have hms93_0 := NB136_135.out
           have hms93_2 := NB136_146.out
           have hms93_3 := NB136_158.out
           refine skip_ (w1 := ?_) (by rfl) rfl ?_ ?_
           rotate_left
           ·go_simp
            rfl
           refine hK.out _ _ ⟨((cell_far (p := ⟨gb136, _, none⟩) NB135_136.out _).trans (((cell_far (p := ⟨gb136, _, none⟩) NB135_136.out _).trans (((cell_far (p := ⟨gb136, _, none⟩) NB135_136.out _).trans (((cell_far (p := ⟨gb136, _, none⟩) NB135_136.out _).trans (((cell_far (p := ⟨gb136, _, none⟩) NB135_136.out _).trans (((cell_far (p := ⟨gb136, _, none⟩) NB135_136.out _).trans (((cell_far (p := ⟨gb136, _, none⟩) NB135_136.out _).trans (hHeld.1)))))))))))))), ((cell_far (p := ⟨gb136, _, none⟩) NB135_136.out _).trans (((cell_far (p := ⟨gb136, _, none⟩) NB135_136.out _).trans (((cell_far (p := ⟨gb136, _, none⟩) NB135_136.out _).trans (((cell_far (p := ⟨gb136, _, none⟩) NB135_136.out _).trans (((cell_far (p := ⟨gb136, _, none⟩) NB135_136.out _).trans (((cell_far (p := ⟨gb136, _, none⟩) NB135_136.out _).trans (((cell_far (p := ⟨gb136, _, none⟩) NB135_136.out _).trans (hHeld.2.1)))))))))))))), ((cell_far (p := ⟨gb136, _, none⟩) NB135_136.out _).trans (((cell_far (p := ⟨gb136, _, none⟩) NB135_136.out _).trans (((cell_far (p := ⟨gb136, _, none⟩) NB135_136.out _).trans (((cell_far (p := ⟨gb136, _, none⟩) NB135_136.out _).trans (((cell_far (p := ⟨gb136, _, none⟩) NB135_136.out _).trans (((cell_far (p := ⟨gb136, _, none⟩) NB135_136.out _).trans (((cell_far (p := ⟨gb136, _, none⟩) NB135_136.out _).trans (hHeld.2.2.1)))))))))))))), ((cell_far (p := ⟨gb136, _, none⟩) NB135_136.out _).trans (((cell_far (p := ⟨gb136, _, none⟩) NB135_136.out _).trans (((cell_far (p := ⟨gb136, _, none⟩) NB135_136.out _).trans (((cell_far (p := ⟨gb136, _, none⟩) NB135_136.out _).trans (((cell_far (p := ⟨gb136, _, none⟩) NB135_136.out _).trans (((cell_far (p := ⟨gb136, _, none⟩) NB135_136.out _).trans (((cell_far (p := ⟨gb136, _, none⟩) NB135_136.out _).trans (hHeld.2.2.2.1)))))))))))))), ((cell_far (p := ⟨gb136, _, none⟩) NB135_136.out _).trans (((cell_far (p := ⟨gb136, _, none⟩) NB135_136.out _).trans (((cell_far (p := ⟨gb136, _, none⟩) NB135_136.out _).trans (((cell_far (p := ⟨gb136, _, none⟩) NB135_136.out _).trans (((cell_far (p := ⟨gb136, _, none⟩) NB135_136.out _).trans (((cell_far (p := ⟨gb136, _, none⟩) NB135_136.out _).trans (((cell_far (p := ⟨gb136, _, none⟩) NB135_136.out _).trans (hHeld.2.2.2.2.1)))))))))))))), ((cell_far (p := ⟨gb136, _, none⟩) NB135_136.out _).trans (((cell_far (p := ⟨gb136, _, none⟩) NB135_136.out _).trans (((cell_far (p := ⟨gb136, _, none⟩) NB135_136.out _).trans (((cell_far (p := ⟨gb136, _, none⟩) NB135_136.out _).trans (((cell_far (p := ⟨gb136, _, none⟩) NB135_136.out _).trans (((cell_far (p := ⟨gb136, _, none⟩) NB135_136.out _).trans (((cell_far (p := ⟨gb136, _, none⟩) NB135_136.out _).trans (hHeld.2.2.2.2.2.1)))))))))))))), ((cell_far (p := ⟨gb136, _, none⟩) NB135_136.out _).trans (((cell_far (p := ⟨gb136, _, none⟩) NB135_136.out _).trans (((cell_far (p := ⟨gb136, _, none⟩) NB135_136.out _).trans (((cell_far (p := ⟨gb136, _, none⟩) NB135_136.out _).trans (((cell_far (p := ⟨gb136, _, none⟩) NB135_136.out _).trans (((cell_far (p := ⟨gb136, _, none⟩) NB135_136.out _).trans (((cell_far (p := ⟨gb136, _, none⟩) NB135_136.out _).trans (hHeld.2.2.2.2.2.2.1)))))))))))))), ((cell_far (p := ⟨gb136, _, none⟩) NB135_136.out _).trans (((cell_far (p := ⟨gb136, _, none⟩) NB135_136.out _).trans (((cell_far (p := ⟨gb136, _, none⟩) NB135_136.out _).trans (((cell_far (p := ⟨gb136, _, none⟩) NB135_136.out _).trans (((cell_far (p := ⟨gb136, _, none⟩) NB135_136.out _).trans (((cell_far (p := ⟨gb136, _, none⟩) NB135_136.out _).trans (((cell_far (p := ⟨gb136, _, none⟩) NB135_136.out _).trans (hHeld.2.2.2.2.2.2.2.1)))))))))))))), ((cell_far (p := ⟨gb136, _, none⟩) NB135_136.out _).trans (((cell_far (p := ⟨gb136, _, none⟩) NB135_136.out _).trans (((cell_far (p := ⟨gb136, _, none⟩) NB135_136.out _).trans (((cell_far (p := ⟨gb136, _, none⟩) NB135_136.out _).trans (((cell_far (p := ⟨gb136, _, none⟩) NB135_136.out _).trans (((cell_far (p := ⟨gb136, _, none⟩) NB135_136.out _).trans (((cell_far (p := ⟨gb136, _, none⟩) NB135_136.out _).trans (hHeld.2.2.2.2.2.2.2.2.1)))))))))))))), ((cell_far (p := ⟨gb136, _, none⟩) NB158_136.out _).trans (((cell_far (p := ⟨gb136, _, none⟩) NB158_136.out _).trans (((cell_far (p := ⟨gb136, _, none⟩) NB158_136.out _).trans (((cell_far (p := ⟨gb136, _, none⟩) NB158_136.out _).trans (((cell_far (p := ⟨gb136, _, none⟩) NB158_136.out _).trans (((cell_far (p := ⟨gb136, _, none⟩) NB158_136.out _).trans (((cell_far (p := ⟨gb136, _, none⟩) NB158_136.out _).trans (hHeld.2.2.2.2.2.2.2.2.2.1)))))))))))))), ((cell_far (p := ⟨gb136, _, none⟩) NB158_136.out _).trans (((cell_far (p := ⟨gb136, _, none⟩) NB158_136.out _).trans (((cell_far (p := ⟨gb136, _, none⟩) NB158_136.out _).trans (((cell_far (p := ⟨gb136, _, none⟩) NB158_136.out _).trans (((cell_far (p := ⟨gb136, _, none⟩) NB158_136.out _).trans (((cell_far (p := ⟨gb136, _, none⟩) NB158_136.out _).trans (((cell_far (p := ⟨gb136, _, none⟩) NB158_136.out _).trans (hHeld.2.2.2.2.2.2.2.2.2.2.1)))))))))))))), ((cell_far (p := ⟨gb136, _, none⟩) NB158_136.out _).trans (((cell_far (p := ⟨gb136, _, none⟩) NB158_136.out _).trans (((cell_far (p := ⟨gb136, _, none⟩) NB158_136.out _).trans (((cell_far (p := ⟨gb136, _, none⟩) NB158_136.out _).trans (((cell_far (p := ⟨gb136, _, none⟩) NB158_136.out _).trans (((cell_far (p := ⟨gb136, _, none⟩) NB158_136.out _).trans (((cell_far (p := ⟨gb136, _, none⟩) NB158_136.out _).trans (hHeld.2.2.2.2.2.2.2.2.2.2.2.1)))))))))))))), ((cell_far (p := ⟨gb136, _, none⟩) NB158_136.out _).trans (((cell_far (p := ⟨gb136, _, none⟩) NB158_136.out _).trans (((cell_far (p := ⟨gb136, _, none⟩) NB158_136.out _).trans (((cell_far (p := ⟨gb136, _, none⟩) NB158_136.out _).trans (((cell_far (p := ⟨gb136, _, none⟩) NB158_136.out _).trans (((cell_far (p := ⟨gb136, _, none⟩) NB158_136.out _).trans (((cell_far (p := ⟨gb136, _, none⟩) NB158_136.out _).trans (hHeld.2.2.2.2.2.2.2.2.2.2.2.2.1)))))))))))))), ((cell_far (p := ⟨gb136, _, none⟩) NB158_136.out _).trans (((cell_far (p := ⟨gb136, _, none⟩) NB158_136.out _).trans (((cell_far (p := ⟨gb136, _, none⟩) NB158_136.out _).trans (((cell_far (p := ⟨gb136, _, none⟩) NB158_136.out _).trans (((cell_far (p := ⟨gb136, _, none⟩) NB158_136.out _).trans (((cell_far (p := ⟨gb136, _, none⟩) NB158_136.out _).trans (((cell_far (p := ⟨gb136, _, none⟩) NB158_136.out _).trans (hHeld.2.2.2.2.2.2.2.2.2.2.2.2.2.1)))))))))))))), ((cell_far (p := ⟨gb136, _, none⟩) NB158_136.out _).trans (((cell_far (p := ⟨gb136, _, none⟩) NB158_136.out _).trans (((cell_far (p := ⟨gb136, _, none⟩) NB158_136.out _).trans (((cell_far (p := ⟨gb136, _, none⟩) NB158_136.out _).trans (((cell_far (p := ⟨gb136, _, none⟩) NB158_136.out _).trans (((cell_far (p := ⟨gb136, _, none⟩) NB158_136.out _).trans (((cell_far (p := ⟨gb136, _, none⟩) NB158_136.out _).trans (hHeld.2.2.2.2.2.2.2.2.2.2.2.2.2.2.1)))))))))))))), ((cell_far (p := ⟨gb136, _, none⟩) NB158_136.out _).trans (((cell_far (p := ⟨gb136, _, none⟩) NB158_136.out _).trans (((cell_far (p := ⟨gb136, _, none⟩) NB158_136.out _).trans (((cell_far (p := ⟨gb136, _, none⟩) NB158_136.out _).trans (((cell_far (p := ⟨gb136, _, none⟩) NB158_136.out _).trans (((cell_far (p := ⟨gb136, _, none⟩) NB158_136.out _).trans (((cell_far (p := ⟨gb136, _, none⟩) NB158_136.out _).trans (hHeld.2.2.2.2.2.2.2.2.2.2.2.2.2.2.2.1)))))))))))))), ((cell_far (p := ⟨gb136, _, none⟩) NB158_136.out _).trans (((cell_far (p := ⟨gb136, _, none⟩) NB158_136.out _).trans (((cell_far (p := ⟨gb136, _, none⟩) NB158_136.out _).trans (((cell_far (p := ⟨gb136, _, none⟩) NB158_136.out _).trans (((cell_far (p := ⟨gb136, _, none⟩) NB158_136.out _).trans (((cell_far (p := ⟨gb136, _, none⟩) NB158_136.out _).trans (((cell_far (p := ⟨gb136, _, none⟩) NB158_136.out _).trans (hHeld.2.2.2.2.2.2.2.2.2.2.2.2.2.2.2.2.1)))))))))))))), ((cell_far (p := ⟨gb136, _, none⟩) NB158_136.out _).trans (((cell_far (p := ⟨gb136, _, none⟩) NB158_136.out _).trans (((cell_far (p := ⟨gb136, _, none⟩) NB158_136.out _).trans (((cell_far (p := ⟨gb136, _, none⟩) NB158_136.out _).trans (((cell_far (p := ⟨gb136, _, none⟩) NB158_136.out _).trans (((cell_far (p := ⟨gb136, _, none⟩) NB158_136.out _).trans (((cell_far (p := ⟨gb136, _, none⟩) NB158_136.out _).trans (hHeld.2.2.2.2.2.2.2.2.2.2.2.2.2.2.2.2.2))))))))))))))⟩ (fun hHeld => ?_)
           clear hK K
           refine pure_ (i := 19) (N := some 3) (v := ?_) (a' := ?_) #[true, true, true, true, true, true, true, true, true, true, true, true, true, true, true, true, true, true, true, true] rfl rfl (any_of HT_.out (by kernel_rfl)) (fun _ _ _ h => h) (Or.inl ⟨by rfl, ?_⟩) ?_ ?_
           rotate_left
           ·intro w'
            go_simp
            with_reducible rfl
           rotate_left
           ·simp only [Act.put, List.setIfInBounds_toArray, List.set_cons_zero, List.set_cons_succ, i64_w, i32_w]
            rfl
           refine done_ (done_of HT_.out (by kernel_rfl)) ?_
           try go_wp2
           refine bodyPost_ret (results_ct rfl _ _ gb136 63 #[.int .i64 (wrap64 (bt a0_8 0)), .int .u32 t147, .int .u32 t148, .int .i64 t149, .int .i64 t151, .int .i64 t152, .string t159] (0, 0) _ rfl (Fit.put7 (BK136.out)) Try.underlying63 rfl (by kernel_rfl)) rfl ?_
           exact ⟨by first | rfl | (simp [errW_none, errW_some] <;> rfl) | (simp only [← hji69]; first | rfl | (simp [errW_none, errW_some] <;> rfl)) | (simp [*, errW_none, errW_some] <;> rfl), Fit.bl HB.out⟩
          ·rw [if_neg c73] at H
           exact absurd H (by simp)
         ·rw [if_neg c71] at H
          exact absurd H (by simp)
        ·rw [if_neg c70] at H
         have c70b0 : (((a0_8.extract 4 a0_8.size).size : Int) == (ji69)) = false := beq_eq_false_iff_ne.mpr c70
         have c70b1 : (((a0_8.extract 4 a0_8.size).size : Int) != (ji69)) = true := bne_iff_ne.mpr c70
         (try (have c70n0 := c70b0; simp only [ByteArray.size_extract, Nat.min_self, Nat.sub_zero] at c70n0))
         (try (have c70n1 := c70b1; simp only [ByteArray.size_extract, Nat.min_self, Nat.sub_zero] at c70n1))
         simp only [Option.some.injEq, Prod.mk.injEq] at H
         obtain ⟨rfl, rfl, rfl, rfl, rfl, rfl, rfl, rfl⟩ := H
         have hnb94 := NB135_136.out
         have hnc94 := NB136_135.out
         have hnb95 := NB135_146.out
         have hnc95 := NB146_135.out
         obtain ⟨hcz96_0, hcz96_1, hcz96_2, hcz96_3, hcz96_4, hcz96_5, hcz96_6, hcz96_7, hcz96_8, hfz96_0⟩ := Fit.cells9 BK135.out
         go_wp2_with (first | ((with_reducible refine gate_callee (f := 35) rfl ?_); refine goesL_ (some 66) rfl rfl Try.func35 (by kernel_rfl) rfl #[.string (a0_8.extract 4 a0_8.size)] rfl (by (try simp only [List.map_toArray, List.map_cons, List.map_nil]); first | done | rfl | (simp only [List.length_drop, List.length_take]; rfl)) ?_; (with_reducible refine (pkt_Head.calls kj17 (a0_8.extract 4 a0_8.size) t147 t148 t149 t150 t151 t152 t153 t154 t155 t156 t157 _ A67.out).mono ?_); rintro e w97 ⟨rfl, hb⟩; refine ⟨_, rfl, ?_⟩; have n0_ := Aside0.mk (blk_below (g := gb135) (Fit.pk BK135.out) hb); have n1_ := Aside0.mk (blk_below (g := gb136) (Fit.pk BK136.out) hb); have n2_ := Aside0.mk (blk_below (g := gb146) (Fit.pk BK146.out) hb); have n3_ := Aside0.mk (below_step (Fit.bl HB.out) hb); clear BK135; clear BK136; clear BK146; clear HB; have BK135 := n0_; have BK136 := n1_; have BK146 := n2_; have HB := n3_; clear n0_ n1_ n2_ n3_; (try clear hb); (try clear hb2); (try clear hk); (try clear hi)) | ((with_reducible refine gate_dst (N := 8) rfl ?_); (try (refine gate_guard (by rfl) ?_; dsimp only)); refine box_event ?hg (N := 8) ?hd (cs := #[.int .u32 0, .int .u32 0, .int .i64 0, .int .i64 0, .int .i64 0, .int .i64 0, .bool false, .bool false, .string (⟨#[]⟩ : ByteArray)]) (t := 30) ?hr ?_; (case hd => rfl); (case hg => rfl); (case hr => first | (go_simp; done) | (go_simp; rfl)); intro gb158 hg w98 hbox hb; have n0_ := Aside0.mk (blk_below (g := gb135) (Fit.pk BK135.out) hb); have n1_ := Aside0.mk (blk_below (g := gb136) (Fit.pk BK136.out) hb); have n2_ := Aside0.mk (blk_below (g := gb146) (Fit.pk BK146.out) hb); have n3_ := Aside0.mk (below_step (Fit.bl HB.out) hb); have n4_ := Aside0.mk (hbox); have n5_ := Aside0.mk ((by rw [hg]; exact (below_size (Fit.bl HB.out)) : w.heap.size ≤ gb158)); have n6_ := Aside0.mk ((by rw [hg]; exact (below_size (Fit.bl HB.out)) : w.heap.size ≤ gb158)); have n7_ := Aside0.mk ((by rw [hg]; exact Nat.ne_of_lt (blk_lt (g := gb135) (Fit.pk BK135.out)) : gb135 ≠ gb158)); have n8_ := Aside0.mk ((by rw [hg]; exact Nat.ne_of_gt (blk_lt (g := gb135) (Fit.pk BK135.out)) : gb158 ≠ gb135)); have n9_ := Aside0.mk ((by rw [hg]; exact Nat.ne_of_lt (blk_lt (g := gb136) (Fit.pk BK136.out)) : gb136 ≠ gb158)); have n10_ := Aside0.mk ((by rw [hg]; exact Nat.ne_of_gt (blk_lt (g := gb136) (Fit.pk BK136.out)) : gb158 ≠ gb136)); have n11_ := Aside0.mk ((by rw [hg]; exact Nat.ne_of_lt (blk_lt (g := gb146) (Fit.pk BK146.out)) : gb146 ≠ gb158)); have n12_ := Aside0.mk ((by rw [hg]; exact Nat.ne_of_gt (blk_lt (g := gb146) (Fit.pk BK146.out)) : gb158 ≠ gb146)); clear BK135; clear BK136; clear BK146; clear HB; have BK135 := n0_; have BK136 := n1_; have BK146 := n2_; have HB := n3_; have BK158 := n4_; have GW158 := n5_; have GE158 := n6_; have NB135_158 := n7_; have NB158_135 := n8_; have NB136_158 := n9_; have NB158_136 := n10_; have NB146_158 := n11_; have NB158_146 := n12_; clear n0_ n1_ n2_ n3_ n4_ n5_ n6_ n7_ n8_ n9_ n10_ n11_ n12_; clear hb hbox hg; have hnb99 := NB158_135.out; have hnc99 := NB135_158.out; have hnb100 := NB158_136.out; have hnc100 := NB136_158.out; have hnb101 := NB158_146.out; have hnc101 := NB146_158.out; obtain ⟨hcz102_0, hcz102_1, hcz102_2, hcz102_3, hcz102_4, hcz102_5, hcz102_6, hcz102_7, hcz102_8, hfz102_0⟩ := Fit.cells9 BK158.out; have hnb103 := NB136_146.out; have hnc103 := NB146_136.out; obtain ⟨hcz104_0, hcz104_1, hcz104_2, hcz104_3, hcz104_4, hcz104_5, hcz104_6, hfz104_0⟩ := Fit.cells7 BK136.out))
         refine bodyPost_ret (results_ct rfl _ _ gb136 63 #[.int .i64 0, .int .u32 0, .int .u32 0, .int .i64 0, .int .i64 0, .int .i64 0, .string (⟨#[]⟩ : ByteArray)] (0, 0) _ rfl (Fit.put7 (Fit.far9i (BK136.out) NB158_136.out)) Try.underlying63 rfl (by kernel_rfl)) rfl ?_
         exact ⟨by first | rfl | (simp [errW_none, errW_some] <;> rfl) | (simp only [← hji69]; first | rfl | (simp [errW_none, errW_some] <;> rfl)) | (simp [*, errW_none, errW_some] <;> rfl), Fit.bl HB.out⟩
       ·rw [if_neg c68] at H
        have c68b0 : (t157 == 0) = false := beq_eq_false_iff_ne.mpr c68
        have c68b1 : (t157 != 0) = true := bne_iff_ne.mpr c68
        simp only [Option.some.injEq, Prod.mk.injEq] at H
        obtain ⟨rfl, rfl, rfl, rfl, rfl, rfl, rfl, rfl⟩ := H
        have hnb105 := NB135_136.out
        have hnc105 := NB136_135.out
        have hnb106 := NB135_146.out
        have hnc106 := NB146_135.out
        obtain ⟨hcz107_0, hcz107_1, hcz107_2, hcz107_3, hcz107_4, hcz107_5, hcz107_6, hcz107_7, hcz107_8, hfz107_0⟩ := Fit.cells9 BK135.out
        go_wp2_with (first | ((with_reducible refine gate_callee (f := 35) rfl ?_); refine goesL_ (some 66) rfl rfl Try.func35 (by kernel_rfl) rfl #[.string (a0_8.extract 4 a0_8.size)] rfl (by (try simp only [List.map_toArray, List.map_cons, List.map_nil]); first | done | rfl | (simp only [List.length_drop, List.length_take]; rfl)) ?_; (with_reducible refine (pkt_Head.calls kj17 (a0_8.extract 4 a0_8.size) t147 t148 t149 t150 t151 t152 t153 t154 t155 t156 t157 _ A67.out).mono ?_); rintro e w108 ⟨rfl, hb⟩; refine ⟨_, rfl, ?_⟩; have n0_ := Aside0.mk (blk_below (g := gb135) (Fit.pk BK135.out) hb); have n1_ := Aside0.mk (blk_below (g := gb136) (Fit.pk BK136.out) hb); have n2_ := Aside0.mk (blk_below (g := gb146) (Fit.pk BK146.out) hb); have n3_ := Aside0.mk (below_step (Fit.bl HB.out) hb); clear BK135; clear BK136; clear BK146; clear HB; have BK135 := n0_; have BK136 := n1_; have BK146 := n2_; have HB := n3_; clear n0_ n1_ n2_ n3_; (try clear hb); (try clear hb2); (try clear hk); (try clear hi)) | ((with_reducible refine gate_dst (N := 8) rfl ?_); (try (refine gate_guard (by rfl) ?_; dsimp only)); refine box_event ?hg (N := 8) ?hd (cs := #[.int .u32 0, .int .u32 0, .int .i64 0, .int .i64 0, .int .i64 0, .int .i64 0, .bool false, .bool false, .string (⟨#[]⟩ : ByteArray)]) (t := 30) ?hr ?_; (case hd => rfl); (case hg => rfl); (case hr => first | (go_simp; done) | (go_simp; rfl)); intro gb158 hg w109 hbox hb; have n0_ := Aside0.mk (blk_below (g := gb135) (Fit.pk BK135.out) hb); have n1_ := Aside0.mk (blk_below (g := gb136) (Fit.pk BK136.out) hb); have n2_ := Aside0.mk (blk_below (g := gb146) (Fit.pk BK146.out) hb); have n3_ := Aside0.mk (below_step (Fit.bl HB.out) hb); have n4_ := Aside0.mk (hbox); have n5_ := Aside0.mk ((by rw [hg]; exact (below_size (Fit.bl HB.out)) : w.heap.size ≤ gb158)); have n6_ := Aside0.mk ((by rw [hg]; exact (below_size (Fit.bl HB.out)) : w.heap.size ≤ gb158)); have n7_ := Aside0.mk ((by rw [hg]; exact Nat.ne_of_lt (blk_lt (g := gb135) (Fit.pk BK135.out)) : gb135 ≠ gb158)); have n8_ := Aside0.mk ((by rw [hg]; exact Nat.ne_of_gt (blk_lt (g := gb135) (Fit.pk BK135.out)) : gb158 ≠ gb135)); have n9_ := Aside0.mk ((by rw [hg]; exact Nat.ne_of_lt (blk_lt (g := gb136) (Fit.pk BK136.out)) : gb136 ≠ gb158)); have n10_ := Aside0.mk ((by rw [hg]; exact Nat.ne_of_gt (blk_lt (g := gb136) (Fit.pk BK136.out)) : gb158 ≠ gb136)); have n11_ := Aside0.mk ((by rw [hg]; exact Nat.ne_of_lt (blk_lt (g := gb146) (Fit.pk BK146.out)) : gb146 ≠ gb158)); have n12_ := Aside0.mk ((by rw [hg]; exact Nat.ne_of_gt (blk_lt (g := gb146) (Fit.pk BK146.out)) : gb158 ≠ gb146)); clear BK135; clear BK136; clear BK146; clear HB; have BK135 := n0_; have BK136 := n1_; have BK146 := n2_; have HB := n3_; have BK158 := n4_; have GW158 := n5_; have GE158 := n6_; have NB135_158 := n7_; have NB158_135 := n8_; have NB136_158 := n9_; have NB158_136 := n10_; have NB146_158 := n11_; have NB158_146 := n12_; clear n0_ n1_ n2_ n3_ n4_ n5_ n6_ n7_ n8_ n9_ n10_ n11_ n12_; clear hb hbox hg; have hnb110 := NB158_135.out; have hnc110 := NB135_158.out; have hnb111 := NB158_136.out; have hnc111 := NB136_158.out; have hnb112 := NB158_146.out; have hnc112 := NB146_158.out; obtain ⟨hcz113_0, hcz113_1, hcz113_2, hcz113_3, hcz113_4, hcz113_5, hcz113_6, hcz113_7, hcz113_8, hfz113_0⟩ := Fit.cells9 BK158.out; have hnb114 := NB136_146.out; have hnc114 := NB146_136.out; obtain ⟨hcz115_0, hcz115_1, hcz115_2, hcz115_3, hcz115_4, hcz115_5, hcz115_6, hfz115_0⟩ := Fit.cells7 BK136.out))
        refine bodyPost_ret (results_ct rfl _ _ gb136 63 #[.int .i64 0, .int .u32 0, .int .u32 0, .int .i64 0, .int .i64 0, .int .i64 0, .string (⟨#[]⟩ : ByteArray)] (0, 0) _ rfl (Fit.put7 (Fit.far9i (BK136.out) NB158_136.out)) Try.underlying63 rfl (by kernel_rfl)) rfl ?_
        exact ⟨by first | rfl | (simp [errW_none, errW_some] <;> rfl) | (simp [*, errW_none, errW_some] <;> rfl), Fit.bl HB.out⟩
      ·rw [if_neg c66] at H
       exact absurd H (by simp)
 ·rw [if_neg c3] at H
  have c3b0 : (t137 == 0) = false := beq_eq_false_iff_ne.mpr c3
  have c3b1 : (t137 != 0) = true := bne_iff_ne.mpr c3
  simp only [Option.some.injEq, Prod.mk.injEq] at H
  obtain ⟨rfl, rfl, rfl, rfl, rfl, rfl, rfl, rfl⟩ := H
  go_enter Try.func39, Try.ntmps39
  go_wp2_with (first | ((with_reducible refine gate_dst (N := 1) rfl ?_); (try (refine gate_guard (by rfl) ?_; dsimp only)); refine box_event ?hg (N := 1) ?hd (cs := #[.int .u32 a0_0, .int .u32 a0_1, .int .i64 a0_2, .int .i64 a0_3, .int .i64 a0_4, .int .i64 a0_5, .bool a0_6, .bool a0_7, .string a0_8]) (t := 30) ?hr ?_; (case hd => rfl); (case hg => rfl); (case hr => first | (go_simp; done) | (go_simp; rfl)); intro gb135 hg w116 hbox hb; have n0_ := Aside0.mk (below_step (Fit.bl HB.out) hb); have n1_ := Aside0.mk (hbox); have n2_ := Aside0.mk ((by rw [hg]; exact (below_size (Fit.bl HB.out)) : w.heap.size ≤ gb135)); have n3_ := Aside0.mk ((by rw [hg]; exact (below_size (Fit.bl HB.out)) : w.heap.size ≤ gb135)); clear HB; have HB := n0_; have BK135 := n1_; have GW135 := n2_; have GE135 := n3_; clear n0_ n1_ n2_ n3_; clear hb hbox hg) | ((with_reducible refine gate_dst (N := 2) rfl ?_); (try (refine gate_guard (by rfl) ?_; dsimp only)); refine box_event ?hg (N := 2) ?hd (cs := #[.int .i64 0, .int .u32 0, .int .u32 0, .int .i64 0, .int .i64 0, .int .i64 0, .string (⟨#[]⟩ : ByteArray)]) (t := 63) ?hr ?_; (case hd => rfl); (case hg => rfl); (case hr => first | (go_simp; done) | (go_simp; rfl)); intro gb136 hg w117 hbox hb; have n0_ := Aside0.mk (blk_below (g := gb135) (Fit.pk BK135.out) hb); have n1_ := Aside0.mk (below_step (Fit.bl HB.out) hb); have n2_ := Aside0.mk (hbox); have n3_ := Aside0.mk ((by rw [hg]; exact (below_size (Fit.bl HB.out)) : w.heap.size ≤ gb136)); have n4_ := Aside0.mk ((by rw [hg]; exact (below_size (Fit.bl HB.out)) : w.heap.size ≤ gb136)); have n5_ := Aside0.mk ((by rw [hg]; exact Nat.ne_of_lt (blk_lt (g := gb135) (Fit.pk BK135.out)) : gb135 ≠ gb136)); have n6_ := Aside0.mk ((by rw [hg]; exact Nat.ne_of_gt (blk_lt (g := gb135) (Fit.pk BK135.out)) : gb136 ≠ gb135)); clear BK135; clear HB; have BK135 := n0_; have HB := n1_; have BK136 := n2_; have GW136 := n3_; have GE136 := n4_; have NB135_136 := n5_; have NB136_135 := n6_; clear n0_ n1_ n2_ n3_ n4_ n5_ n6_; clear hb hbox hg; have hnb118 := NB135_136.out; have hnc118 := NB136_135.out; obtain ⟨hcz119_0, hcz119_1, hcz119_2, hcz119_3, hcz119_4, hcz119_5, hcz119_6, hcz119_7, hcz119_8, hfz119_0⟩ := Fit.cells9 BK135.out) | ((with_reducible refine gate_callee (f := 26) rfl ?_); refine goesL_ (some 12) rfl rfl Try.func26 (by kernel_rfl) rfl #[.agg #[.int .u32 a0_0, .int .u32 a0_1, .int .i64 a0_2, .int .i64 a0_3, .int .i64 a0_4, .int .i64 a0_5, .bool a0_6, .bool a0_7, .string a0_8]] rfl (by (try simp only [List.map_toArray, List.map_cons, List.map_nil]); first | done | rfl | (simp only [List.length_drop, List.length_take]; rfl)) ?_; (with_reducible refine (pkt_Check.calls k a0_0 a0_1 a0_2 a0_3 a0_4 a0_5 a0_6 a0_7 a0_8 t137 _ A2.out).mono ?_); rintro e w120 ⟨rfl, hb⟩; refine ⟨_, rfl, ?_⟩; have n0_ := Aside0.mk (blk_below (g := gb135) (Fit.pk BK135.out) hb); have n1_ := Aside0.mk (blk_below (g := gb136) (Fit.pk BK136.out) hb); have n2_ := Aside0.mk (below_step (Fit.bl HB.out) hb); clear BK135; clear BK136; clear HB; have BK135 := n0_; have BK136 := n1_; have HB := n2_; clear n0_ n1_ n2_; (try clear hb); (try clear hb2); (try clear hk); (try clear hi); obtain ⟨hcz121_0, hcz121_1, hcz121_2, hcz121_3, hcz121_4, hcz121_5, hcz121_6, hfz121_0⟩ := Fit.cells7 BK136.out))
  refine bodyPost_ret (results_ct rfl _ _ gb136 63 #[.int .i64 0, .int .u32 0, .int .u32 0, .int .i64 0, .int .i64 0, .int .i64 0, .string (⟨#[]⟩ : ByteArray)] (0, 0) _ rfl (Fit.put7 (BK136.out)) Try.underlying63 rfl (by kernel_rfl)) rfl ?_
  exact ⟨by first | rfl | (simp [errW_none, errW_some] <;> rfl) | (simp [*, errW_none, errW_some] <;> rfl), Fit.bl HB.out⟩

end Go.Proofs.Ythpohaafphaidaa.GFaultReads
