-- a text that a program of this session wrote
import Derived.Test.YtbdcaadehfbnbaaDoorGAddrHoldsx0
import Derived.Test.YtbdcaadehfbnbaaDoorGAddrHoldsx1
import Derived.Test.YtbdcaadehfbnbaaDoorGAddrHoldsx2
import Derived.Test.YtbdcaadehfbnbaaDoorQVk
namespace Go.Proofs.YtbdcaadehfbnbaaDoor.GAddrHolds
open Go.RowKit Go.Proofs.YtbdcaadehfbnbaaDoorW.PrintWords Go.Proofs.YtbdcaadehfbnbaaDoorW.PrintLast Go.Proofs.YtbdcaadehfbnbaaDoorW.PrintMore
attribute [local go_sem] max2_int min2_int max_two min_two max_three min_three max_four min_four   -- for this text's walks alone
attribute [local go_sem high] Go.Proofs.YtbdcaadehfbnbaaDoor.Fit.run_string_add_fit
set_option linter.unusedVariables false
set_option linter.unusedSimpArgs false

/-! ### addr_Compare: function 15 -/
def addr_Compare.f (k : Nat) (a0_0 : Int) (a0_1 : Int) (a1_0 : Int) (a1_1 : Int) : Option (Int) := (cmp_Compare_uint32.f a0_0 a1_0).bind fun t141 => ((cmp_Compare_int.f a0_1 a1_1).bind fun t142 => ((cmp_Or_int.f k (([t141, t142] : List Int))).bind fun t146 => (some t146)))
theorem addr_Compare.mono : ∀ a0 a1 a2 a3 k, LeO (addr_Compare.f k a0 a1 a2 a3) (addr_Compare.f (k + 1) a0 a1 a2 a3) := by
 intro a0 a1 a2 a3 k
 unfold addr_Compare.f
 repeat' first
   | (with_reducible exact cmp_Or_int.mono _ _)
   | (with_reducible exact LeO.refl _)
   | (with_reducible exact LeO.none _)
   | (with_reducible refine LeO.ite ?_ ?_)
   | (with_reducible refine LeO.bind ?_ (fun _ => ?_))
   | exact cmp_Or_int.mono _ _
   | exact LeO.none _
   | refine LeO.ite ?_ ?_
   | refine LeO.bind ?_ (fun _ => ?_)
def addr_Compare.T1 : Bool × List (List Nat × List Nat) := (true, [([], []), ([0], [0]), ([], []), ([2], [2]), ([1, 3], [1, 3]), ([], []), ([5], [5]), ([], []), ([7], [7]), ([6, 8, 4], [6, 8]), ([4, 9], [4, 9]), ([10, 9], [10]), ([11, 11, 0, 1, 2, 3, 4, 5, 6, 7, 8, 9, 10, 11], [11])])
def addr_Compare.B1 : List Nat := [0, 1, 0, 4, 15, 0, 32, 0, 128, 511, 1023, 2047, 4095]
theorem addr_Compare.tab1 : rtab .any (opsOf Tryd.f15 1) = addr_Compare.T1 := by kernel_rfl
theorem addr_Compare.bits1 : waitsOk addr_Compare.T1.2 addr_Compare.B1 = true := by kernel_rfl
set_option maxHeartbeats 8000000 in
set_option maxRecDepth 100000 in
theorem addr_Compare.calls (k : Nat) (a0_0 : Int) (a0_1 : Int) (a1_0 : Int) (a1_1 : Int) (r : Int) (w : World) (h : addr_Compare.f k a0_0 a0_1 a1_0 a1_1 = some r) :
  Calls Tryd.prog 15 #[.agg #[.int .u32 a0_0, .int .i64 a0_1], .agg #[.int .u32 a1_0, .int .i64 a1_1]] w fun e w' => e = .returned (.int .i64 r) ∧ Below w.heap.size w w' := by
 have hu24 := Tryd.underlying24
 have HB := Aside0.mk (Below.refl w.heap.size w)
 have H : ((cmp_Compare_uint32.f a0_0 a1_0).bind fun t141 => ((cmp_Compare_int.f a0_1 a1_1).bind fun t142 => ((cmp_Or_int.f k (([t141, t142] : List Int))).bind fun t146 => (some t146)))) = some r := h
 clear h
 replace H := Option.bind_eq_some_iff.mp H
 obtain ⟨t141, A30, H⟩ := H
 replace H : ((cmp_Compare_int.f a0_1 a1_1).bind fun t142 => ((cmp_Or_int.f k (([t141, t142] : List Int))).bind fun t146 => (some t146))) = some r := H
 have A3 := Aside0.mk A30
 clear A30
 replace H := Option.bind_eq_some_iff.mp H
 obtain ⟨t142, A40, H⟩ := H
 replace H : ((cmp_Or_int.f k (([t141, t142] : List Int))).bind fun t146 => (some t146)) = some r := H
 have A4 := Aside0.mk A40
 clear A40
 obtain ⟨y143, hy143⟩ : ∃ y_ : List Int, y_ = (([t141, t142] : List Int)) := ⟨_, rfl⟩
 replace H : ((cmp_Or_int.f k y143).bind fun t146 => (some t146)) = some r := by first | (rw [hy143]; with_reducible exact H) | (have H2_ := (Option.bind_some _ _).symm.trans H; rw [hy143]; with_reducible exact H2_) | (have H2_ := (Option.bind_some _ _).symm.trans H; with_reducible exact H2_) | with_reducible exact H | (rw [hy143]; exact H) | exact H
 have Ny143 := Aside0.mk hy143
 clear hy143
 replace H := Option.bind_eq_some_iff.mp H
 obtain ⟨t146, A50, H⟩ := H
 replace H : (some t146) = some r := H
 have A5 := Aside0.mk A50
 clear A50
 obtain rfl := Option.some.inj H
 go_enter Tryd.func15, Tryd.ntmps15
 try go_wp2_with (first | ((with_reducible refine gate_dst (N := 2) rfl ?_); refine box_event ?hg (N := 2) ?hd (cs := #[.int .u32 a0_0, .int .i64 a0_1]) (t := 24) ?hr ?_; (case hd => rfl); (case hg => rfl); (case hr => first | (go_simp; done) | (go_simp; rfl)); intro gb139 hg w6 hbox hb; have n0_ := Aside0.mk (below_step (Fit.bl HB.out) hb); have n1_ := Aside0.mk (hbox); have n2_ := Aside0.mk ((by rw [hg]; exact (below_size (Fit.bl HB.out)) : w.heap.size ≤ gb139)); have n3_ := Aside0.mk ((by rw [hg]; exact (below_size (Fit.bl HB.out)) : w.heap.size ≤ gb139)); clear HB; have HB := n0_; have BK139 := n1_; have GW139 := n2_; have GE139 := n3_; clear n0_ n1_ n2_ n3_; clear hb hbox hg) | ((with_reducible refine gate_dst (N := 3) rfl ?_); refine box_event ?hg (N := 3) ?hd (cs := #[.int .u32 a1_0, .int .i64 a1_1]) (t := 24) ?hr ?_; (case hd => rfl); (case hg => rfl); (case hr => first | (go_simp; done) | (go_simp; rfl)); intro gb140 hg w7 hbox hb; have n0_ := Aside0.mk (blk_below (g := gb139) (Fit.pk BK139.out) hb); have n1_ := Aside0.mk (below_step (Fit.bl HB.out) hb); have n2_ := Aside0.mk (hbox); have n3_ := Aside0.mk ((by rw [hg]; exact (below_size (Fit.bl HB.out)) : w.heap.size ≤ gb140)); have n4_ := Aside0.mk ((by rw [hg]; exact (below_size (Fit.bl HB.out)) : w.heap.size ≤ gb140)); have n5_ := Aside0.mk ((by rw [hg]; exact Nat.ne_of_lt (blk_lt (g := gb139) (Fit.pk BK139.out)) : gb139 ≠ gb140)); have n6_ := Aside0.mk ((by rw [hg]; exact Nat.ne_of_gt (blk_lt (g := gb139) (Fit.pk BK139.out)) : gb140 ≠ gb139)); clear BK139; clear HB; have BK139 := n0_; have HB := n1_; have BK140 := n2_; have GW140 := n3_; have GE140 := n4_; have NB139_140 := n5_; have NB140_139 := n6_; clear n0_ n1_ n2_ n3_ n4_ n5_ n6_; clear hb hbox hg))
 have n0_ := Aside0.mk (blk_drew BK139.out)
 have n1_ := Aside0.mk (blk_drew BK140.out)
 have n2_ := Aside0.mk (below_drew1 HB.out)
 clear BK139
 clear BK140
 clear HB
 have BK139 := n0_
 have BK140 := n1_
 have HB := n2_
 clear n0_ n1_ n2_
 refine start_ (n := 13) (S := fun w' => w'.cell? ⟨gb139, 0, none⟩ = some (.int .u32 a0_0) ∧ w'.cell? ⟨gb139, 1, none⟩ = some (.int .i64 a0_1) ∧ w'.cell? ⟨gb140, 0, none⟩ = some (.int .u32 a1_0) ∧ w'.cell? ⟨gb140, 1, none⟩ = some (.int .i64 a1_1)) (ds := []) #[false, false, false, false, false, false, false, false, false, false, false, false, false] (by kernel_rfl) rfl rfl ⟨(blk_cell BK139.out 0).trans rfl, (blk_cell BK139.out 1).trans rfl, (blk_cell BK140.out 0).trans rfl, (blk_cell BK140.out 1).trans rfl⟩ (fun hHeld => ?_); refine with_tabW addr_Compare.tab1 addr_Compare.bits1 (fun HT_ HW_ => ?_)
 generalize w7.drew = w8 at BK139 BK140 HB hHeld ⊢
 refine pure_ (i := 0) (N := some 5) (v := ?_) (a' := ?_) #[true, false, false, false, false, false, false, false, false, false, false, false, false] rfl rfl (any_of HT_.out (by kernel_rfl)) (fun _ _ _ h => h) (Or.inl ⟨by rfl, ?_⟩) ?_ ?_
 rotate_left
 ·intro w'
  go_simp
  with_reducible rfl
 rotate_left
 ·simp only [Act.put, List.setIfInBounds_toArray, List.set_cons_zero, List.set_cons_succ, i64_w, i32_w]
  rfl
 refine pure_ (i := 2) (N := some 7) (v := ?_) (a' := ?_) #[true, false, true, false, false, false, false, false, false, false, false, false, false] rfl rfl (any_of HT_.out (by kernel_rfl)) (fun _ _ _ h => h) (Or.inl ⟨by rfl, ?_⟩) ?_ ?_
 rotate_left
 ·intro w'
  go_simp
  with_reducible rfl
 rotate_left
 ·simp only [Act.put, List.setIfInBounds_toArray, List.set_cons_zero, List.set_cons_succ, i64_w, i32_w]
  rfl
 refine pure_ (i := 5) (N := some 10) (v := ?_) (a' := ?_) #[true, false, true, false, false, true, false, false, false, false, false, false, false] rfl rfl (any_of HT_.out (by kernel_rfl)) (fun _ _ _ h => h) (Or.inl ⟨by rfl, ?_⟩) ?_ ?_
 rotate_left
 ·intro w'
  go_simp
  with_reducible rfl
 rotate_left
 ·simp only [Act.put, List.setIfInBounds_toArray, List.set_cons_zero, List.set_cons_succ, i64_w, i32_w]
  rfl
 refine pure_ (i := 7) (N := some 12) (v := ?_) (a' := ?_) #[true, false, true, false, false, true, false, true, false, false, false, false, false] rfl rfl (any_of HT_.out (by kernel_rfl)) (fun _ _ _ h => h) (Or.inl ⟨by rfl, ?_⟩) ?_ ?_
 rotate_left
 ·intro w'
  go_simp
  with_reducible rfl
 rotate_left
 ·simp only [Act.put, List.setIfInBounds_toArray, List.set_cons_zero, List.set_cons_succ, i64_w, i32_w]
  rfl
 refine take_ (i := 1) (N := some 6) (v := ?_) (a' := ?_) #[true, true, true, false, false, true, false, true, false, false, false, false, false] rfl rfl (take_ofW HT_.out HW_.out (by kernel_rfl)) (fun _ _ _ h => h) (Or.inl ⟨by rfl, ?_⟩) hHeld ?_ ?_
 rotate_left
 ·rintro w' ⟨s0, s1, s2, s3⟩
  go_simp
  with_reducible rfl
 rotate_left
 ·simp only [Act.put, List.setIfInBounds_toArray, List.set_cons_zero, List.set_cons_succ, i64_w, i32_w]
  rfl
 refine take_ (i := 3) (N := some 8) (v := ?_) (a' := ?_) #[true, true, true, true, false, true, false, true, false, false, false, false, false] rfl rfl (take_ofW HT_.out HW_.out (by kernel_rfl)) (fun _ _ _ h => h) (Or.inl ⟨by rfl, ?_⟩) hHeld ?_ ?_
 rotate_left
 ·rintro w' ⟨s0, s1, s2, s3⟩
  go_simp
  with_reducible rfl
 rotate_left
 ·simp only [Act.put, List.setIfInBounds_toArray, List.set_cons_zero, List.set_cons_succ, i64_w, i32_w]
  rfl
 refine take_ (i := 6) (N := some 11) (v := ?_) (a' := ?_) #[true, true, true, true, false, true, true, true, false, false, false, false, false] rfl rfl (take_ofW HT_.out HW_.out (by kernel_rfl)) (fun _ _ _ h => h) (Or.inl ⟨by rfl, ?_⟩) hHeld ?_ ?_
 rotate_left
 ·rintro w' ⟨s0, s1, s2, s3⟩
  go_simp
  with_reducible rfl
 rotate_left
 ·simp only [Act.put, List.setIfInBounds_toArray, List.set_cons_zero, List.set_cons_succ, i64_w, i32_w]
  rfl
 refine take_ (i := 8) (N := some 13) (v := ?_) (a' := ?_) #[true, true, true, true, false, true, true, true, true, false, false, false, false] rfl rfl (take_ofW HT_.out HW_.out (by kernel_rfl)) (fun _ _ _ h => h) (Or.inl ⟨by rfl, ?_⟩) hHeld ?_ ?_
 rotate_left
 ·rintro w' ⟨s0, s1, s2, s3⟩
  go_simp
  with_reducible rfl
 rotate_left
 ·simp only [Act.put, List.setIfInBounds_toArray, List.set_cons_zero, List.set_cons_succ, i64_w, i32_w]
  rfl
 refine one_ (i := 4) (N := some 9) #[true, true, true, true, true, true, true, true, true, false, false, false, false] rfl rfl (one_of HT_.out (by kernel_rfl)) (by decide) (fun K hK => ?_)
 refine goes_ Tryd.func46 (by kernel_rfl) rfl #[.int .u32 a0_0, .int .u32 a1_0] (by rfl) rfl rfl (by (try simp only [List.map_toArray, List.map_cons, List.map_nil]); first | done | rfl | (simp only [List.length_drop, List.length_take]; rfl)) ?_
 with_reducible refine (cmp_Compare_uint32.calls a0_0 a1_0 t141 _ A3.out).mono ?_
 rintro e w' ⟨rfl, ⟨nd, rfl⟩⟩
 refine ⟨_, rfl, ?_⟩
 refine hK.out _ _ ⟨(blk_cell BK139.out 0).trans rfl, (blk_cell BK139.out 1).trans rfl, (blk_cell BK140.out 0).trans rfl, (blk_cell BK140.out 1).trans rfl⟩ (fun hHeld => ?_)
 clear hK K
 refine norm_ (a' := ?_) ?_ ?_
 rotate_left
 ·show Act.put _ (some 9) _ = _
  simp only [Act.put, List.setIfInBounds_toArray, List.set_cons_zero, List.set_cons_succ, i64_w, i32_w]
  rfl
 refine one_ (i := 9) (N := some 14) #[true, true, true, true, true, true, true, true, true, true, false, false, false] rfl rfl (one_of HT_.out (by kernel_rfl)) (by decide) (fun K hK => ?_)
 refine goes_ Tryd.func47 (by kernel_rfl) rfl #[.int .i64 a0_1, .int .i64 a1_1] (by rfl) rfl rfl (by (try simp only [List.map_toArray, List.map_cons, List.map_nil]); first | done | rfl | (simp only [List.length_drop, List.length_take]; rfl)) ?_
 with_reducible refine (cmp_Compare_int.calls a0_1 a1_1 t142 _ A4.out).mono ?_
 rintro e w' ⟨rfl, ⟨nd, rfl⟩⟩
 refine ⟨_, rfl, ?_⟩
 refine hK.out _ _ ⟨(blk_cell BK139.out 0).trans rfl, (blk_cell BK139.out 1).trans rfl, (blk_cell BK140.out 0).trans rfl, (blk_cell BK140.out 1).trans rfl⟩ (fun hHeld => ?_)
 clear hK K
 refine norm_ (a' := ?_) ?_ ?_
 rotate_left
 ·show Act.put _ (some 14) _ = _
  simp only [Act.put, List.setIfInBounds_toArray, List.set_cons_zero, List.set_cons_succ, i64_w, i32_w]
  rfl
 refine one_ (i := 10) (N := some 15) #[true, true, true, true, true, true, true, true, true, true, true, false, false] rfl rfl (one_of HT_.out (by kernel_rfl)) (by decide) (fun K hK => ?_)
 refine Kd.R_lit_step (Kd.int .i64) _ 3 ?hg (N := 15) ?hd (xs := ([t141, t142] : List Int)) (inner := [.int .i64 t141, .int .i64 t142]) (ok := fun _ => True) (okp := fun _ => True) ?hr ?hp (fun _ hk => hk) trivial (Below.refl _ _) (Nat.le_refl _) (by simp) ?_; (case hd => rfl); (case hg => rfl); (case hr => first | (go_simp; done) | (go_simp; rfl)); (case hp => exact (Reps.one (show Kd.M (Kd.int .i64) _ _ _ t141 [.int .i64 t141] from rfl) (Reps.one (show Kd.M (Kd.int .i64) _ _ _ t142 [.int .i64 t142] from rfl) (Reps.none _ _))))
 intro v144 w9 ho10 hb hg_ hnew_
 clear hg_ hnew_
 (first | rw [← Ny143.out] at ho10 | (simp only [Int.reduceToNat] at ho10; rw [← Ny143.out] at ho10))
 have n0_ := Aside0.mk (Kd.R_lower ho10 (below_size (Fit.bl HB.out)))
 have n1_ := Aside0.mk (blk_below (g := gb139) (Fit.pk BK139.out) hb)
 have n2_ := Aside0.mk (blk_below (g := gb140) (Fit.pk BK140.out) hb)
 have n3_ := Aside0.mk (below_step (Fit.bl HB.out) hb)
 clear BK139
 clear BK140
 clear HB
 have HO145 := n0_
 have BK139 := n1_
 have BK140 := n2_
 have HB := n3_
 clear n0_ n1_ n2_ n3_
 clear hb ho10
 obtain ⟨Ao11, co11, eo11⟩ := Kd.R_slice HO145.out
 (first | subst eo11 | (injection eo11 with f1_ f2_ f3_; have f4_ := f1_.symm; have f5_ := f3_.symm; clear f1_ f2_ f3_; subst f4_; subst f5_))
 refine hK.out _ _ ⟨(blk_cell BK139.out 0).trans rfl, (blk_cell BK139.out 1).trans rfl, (blk_cell BK140.out 0).trans rfl, (blk_cell BK140.out 1).trans rfl⟩ (fun hHeld => ?_)
 clear hK K
 refine norm_ (a' := ?_) ?_ ?_
 rotate_left
 ·show Act.put _ (some 15) _ = _
  simp only [Act.put, List.setIfInBounds_toArray, List.set_cons_zero, List.set_cons_succ, i64_w, i32_w]
  rfl
 refine one_ (i := 11) (N := some 16) #[true, true, true, true, true, true, true, true, true, true, true, true, false] rfl rfl (one_of HT_.out (by kernel_rfl)) (by decide) (fun K hK => ?_)
 refine goes_ Tryd.func45 (by kernel_rfl) rfl #[.slice Ao11 y143.length co11] (by rfl) rfl rfl (by (try simp only [List.map_toArray, List.map_cons, List.map_nil]); first | done | rfl | (simp only [List.length_drop, List.length_take]; rfl)) ?_
 with_reducible refine (cmp_Or_int.calls k _ _ y143 t146 _ ?side1 ?side2 A5.out).mono ?_
 (case side1 => repeat (first | exact (Kd.R_reads' HO145.out).2.2 | (with_reducible refine Kd.C_alloc ?_ _) | (with_reducible refine Kd.C_drewN ?_ _) | (with_reducible refine Kd.C_drew ?_)))
 (case side2 => exact (Kd.R_reads' HO145.out).2.1)
 rintro e w' ⟨rfl, ⟨nd, rfl⟩⟩
 refine ⟨_, rfl, ?_⟩
 refine hK.out _ _ ⟨(blk_cell BK139.out 0).trans rfl, (blk_cell BK139.out 1).trans rfl, (blk_cell BK140.out 0).trans rfl, (blk_cell BK140.out 1).trans rfl⟩ (fun hHeld => ?_)
 clear hK K
 refine norm_ (a' := ?_) ?_ ?_
 rotate_left
 ·show Act.put _ (some 16) _ = _
  simp only [Act.put, List.setIfInBounds_toArray, List.set_cons_zero, List.set_cons_succ, i64_w, i32_w]
  rfl
 refine pure_ (i := 12) (N := some 4) (v := ?_) (a' := ?_) #[true, true, true, true, true, true, true, true, true, true, true, true, true] rfl rfl (any_of HT_.out (by kernel_rfl)) (fun _ _ _ h => h) (Or.inl ⟨by rfl, ?_⟩) ?_ ?_
 rotate_left
 ·intro w'
  go_simp
  with_reducible rfl
 rotate_left
 ·simp only [Act.put, List.setIfInBounds_toArray, List.set_cons_zero, List.set_cons_succ, i64_w, i32_w]
  rfl
 refine done_ (done_of HT_.out (by kernel_rfl)) ?_
 try go_wp2
 go_ret
 exact ⟨by first | rfl | (simp [errW_none, errW_some] <;> rfl) | (simp [*, errW_none, errW_some] <;> rfl), Fit.bl HB.out⟩


/-! ### patchbaylaw2_AddrHolds: function 3 -/
mutual
def patchbaylaw2_AddrHolds.j0 : Nat → Int → Bool → Bool → Int → Int → Int → Int → Option (Bool)
 | 0, _, _, _, _, _, _, _ => none
 | k + 1, x2, x7, x8, x148000, x148001, x149000, x149001 => (patchbayref2_Less.f x148000 x148001 x149000 x149001).bind fun t152 => (if t152 = true then (patchbaylaw2_AddrHolds.j1 k x2 x7 x8 (-1) x148000 x148001 x149000 x149001) else (patchbaylaw2_AddrHolds.j1 k x2 x7 x8 0 x148000 x148001 x149000 x149001))
def patchbaylaw2_AddrHolds.j1 : Nat → Int → Bool → Bool → Int → Int → Int → Int → Int → Option (Bool)
 | 0, _, _, _, _, _, _, _, _ => none
 | k + 1, x2, x7, x8, x9, x148000, x148001, x149000, x149001 => (patchbayref2_Less.f x149000 x149001 x148000 x148001).bind fun t153 => (if t153 = true then (patchbaylaw2_AddrHolds.j2 k x2 x7 x8 1 x148000 x148001 x149000 x149001) else (patchbaylaw2_AddrHolds.j2 k x2 x7 x8 x9 x148000 x148001 x149000 x149001))
def patchbaylaw2_AddrHolds.j2 : Nat → Int → Bool → Bool → Int → Int → Int → Int → Int → Option (Bool)
 | 0, _, _, _, _, _, _, _, _ => none
 | k + 1, x2, x7, x8, x9, x148000, x148001, x149000, x149001 => (addr_Has.f x148000 x148001 x2).bind fun t154 => (if x7 = true then ((patchbayref2_In.f k x148000 x148001 x2).bind fun t155 => (if (t154 == t155) = true then ((addr_Within.f x148000 x148001 x149000 x149001).bind fun t156 => (if x8 = true then ((patchbayref2_Below.f k x148000 x148001 x149000 x149001).bind fun t157 => (if (t156 == t157) = true then ((addr_Compare.f k x148000 x148001 x149000 x149001).bind fun t158 => (some (t158 == x9))) else (some false))) else (if (t156 == false) = true then ((addr_Compare.f k x148000 x148001 x149000 x149001).bind fun t159 => (some (t159 == x9))) else (some false)))) else (some false))) else (if (t154 == false) = true then ((addr_Within.f x148000 x148001 x149000 x149001).bind fun t160 => (if x8 = true then ((patchbayref2_Below.f k x148000 x148001 x149000 x149001).bind fun t161 => (if (t160 == t161) = true then ((addr_Compare.f k x148000 x148001 x149000 x149001).bind fun t162 => (some (t162 == x9))) else (some false))) else (if (t160 == false) = true then ((addr_Compare.f k x148000 x148001 x149000 x149001).bind fun t163 => (some (t163 == x9))) else (some false)))) else (some false)))
end
def patchbaylaw2_AddrHolds.f (k : Nat) (a0_0 : Int) (a0_1 : Int) (a1_0 : Int) (a1_1 : Int) (a2 : Int) : Option (Bool) := (patchbaylaw2_addrLives.f k).bind fun t149 => (if t149 = true then ((patchbayref2_PrefixFault.f k a0_0 a0_1).bind fun t150 => (if t150 = 0 then ((patchbayref2_PrefixFault.f k a1_0 a1_1).bind fun t151 => (patchbaylaw2_AddrHolds.j0 k a2 (t150 == 0) (t151 == 0) a0_0 a0_1 a1_0 a1_1)) else (patchbaylaw2_AddrHolds.j0 k a2 (t150 == 0) false a0_0 a0_1 a1_0 a1_1))) else (some false))
theorem patchbaylaw2_AddrHolds.mono_l : ∀ k, (∀ y0 y1 y2 y3 y4 y5 y6, LeO (patchbaylaw2_AddrHolds.j0 k y0 y1 y2 y3 y4 y5 y6) (patchbaylaw2_AddrHolds.j0 (k + 1) y0 y1 y2 y3 y4 y5 y6)) ∧ (∀ y0 y1 y2 y3 y4 y5 y6 y7, LeO (patchbaylaw2_AddrHolds.j1 k y0 y1 y2 y3 y4 y5 y6 y7) (patchbaylaw2_AddrHolds.j1 (k + 1) y0 y1 y2 y3 y4 y5 y6 y7)) ∧ (∀ y0 y1 y2 y3 y4 y5 y6 y7, LeO (patchbaylaw2_AddrHolds.j2 k y0 y1 y2 y3 y4 y5 y6 y7) (patchbaylaw2_AddrHolds.j2 (k + 1) y0 y1 y2 y3 y4 y5 y6 y7))
 | 0 => ⟨fun _ _ _ _ _ _ _ r h => by simp [patchbaylaw2_AddrHolds.j0] at h, fun _ _ _ _ _ _ _ _ r h => by simp [patchbaylaw2_AddrHolds.j1] at h, fun _ _ _ _ _ _ _ _ r h => by simp [patchbaylaw2_AddrHolds.j2] at h⟩
 | k + 1 => by
  obtain ⟨ih0, ih1, ih2⟩ := patchbaylaw2_AddrHolds.mono_l k
  refine ⟨?_, ?_, ?_⟩
  ·intro y0 y1 y2 y3 y4 y5 y6
   unfold patchbaylaw2_AddrHolds.j0
   repeat' first
   | (with_reducible exact ih0 _ _ _ _ _ _ _)
   | (with_reducible exact ih1 _ _ _ _ _ _ _ _)
   | (with_reducible exact ih2 _ _ _ _ _ _ _ _)
   | (with_reducible exact addr_Compare.mono _ _ _ _ _)
   | (with_reducible exact patchbaylaw2_addrLives.mono _)
   | (with_reducible exact patchbayref2_Below.mono _ _ _ _ _)
   | (with_reducible exact patchbayref2_In.mono _ _ _ _)
   | (with_reducible exact patchbayref2_PrefixFault.mono _ _ _)
   | (with_reducible exact LeO.refl _)
   | (with_reducible exact LeO.none _)
   | (with_reducible refine LeO.ite ?_ ?_)
   | (with_reducible refine LeO.bind ?_ (fun _ => ?_))
   | exact ih0 _ _ _ _ _ _ _
   | exact ih1 _ _ _ _ _ _ _ _
   | exact ih2 _ _ _ _ _ _ _ _
   | exact addr_Compare.mono _ _ _ _ _
   | exact patchbaylaw2_addrLives.mono _
   | exact patchbayref2_Below.mono _ _ _ _ _
   | exact patchbayref2_In.mono _ _ _ _
   | exact patchbayref2_PrefixFault.mono _ _ _
   | exact LeO.none _
   | refine LeO.ite ?_ ?_
   | refine LeO.bind ?_ (fun _ => ?_)
  ·intro y0 y1 y2 y3 y4 y5 y6 y7
   unfold patchbaylaw2_AddrHolds.j1
   repeat' first
   | (with_reducible exact ih0 _ _ _ _ _ _ _)
   | (with_reducible exact ih1 _ _ _ _ _ _ _ _)
   | (with_reducible exact ih2 _ _ _ _ _ _ _ _)
   | (with_reducible exact addr_Compare.mono _ _ _ _ _)
   | (with_reducible exact patchbaylaw2_addrLives.mono _)
   | (with_reducible exact patchbayref2_Below.mono _ _ _ _ _)
   | (with_reducible exact patchbayref2_In.mono _ _ _ _)
   | (with_reducible exact patchbayref2_PrefixFault.mono _ _ _)
   | (with_reducible exact LeO.refl _)
   | (with_reducible exact LeO.none _)
   | (with_reducible refine LeO.ite ?_ ?_)
   | (with_reducible refine LeO.bind ?_ (fun _ => ?_))
   | exact ih0 _ _ _ _ _ _ _
   | exact ih1 _ _ _ _ _ _ _ _
   | exact ih2 _ _ _ _ _ _ _ _
   | exact addr_Compare.mono _ _ _ _ _
   | exact patchbaylaw2_addrLives.mono _
   | exact patchbayref2_Below.mono _ _ _ _ _
   | exact patchbayref2_In.mono _ _ _ _
   | exact patchbayref2_PrefixFault.mono _ _ _
   | exact LeO.none _
   | refine LeO.ite ?_ ?_
   | refine LeO.bind ?_ (fun _ => ?_)
  ·intro y0 y1 y2 y3 y4 y5 y6 y7
   unfold patchbaylaw2_AddrHolds.j2
   repeat' first
   | (with_reducible exact ih0 _ _ _ _ _ _ _)
   | (with_reducible exact ih1 _ _ _ _ _ _ _ _)
   | (with_reducible exact ih2 _ _ _ _ _ _ _ _)
   | (with_reducible exact addr_Compare.mono _ _ _ _ _)
   | (with_reducible exact patchbaylaw2_addrLives.mono _)
   | (with_reducible exact patchbayref2_Below.mono _ _ _ _ _)
   | (with_reducible exact patchbayref2_In.mono _ _ _ _)
   | (with_reducible exact patchbayref2_PrefixFault.mono _ _ _)
   | (with_reducible exact LeO.refl _)
   | (with_reducible exact LeO.none _)
   | (with_reducible refine LeO.ite ?_ ?_)
   | (with_reducible refine LeO.bind ?_ (fun _ => ?_))
   | exact ih0 _ _ _ _ _ _ _
   | exact ih1 _ _ _ _ _ _ _ _
   | exact ih2 _ _ _ _ _ _ _ _
   | exact addr_Compare.mono _ _ _ _ _
   | exact patchbaylaw2_addrLives.mono _
   | exact patchbayref2_Below.mono _ _ _ _ _
   | exact patchbayref2_In.mono _ _ _ _
   | exact patchbayref2_PrefixFault.mono _ _ _
   | exact LeO.none _
   | refine LeO.ite ?_ ?_
   | refine LeO.bind ?_ (fun _ => ?_)
theorem patchbaylaw2_AddrHolds.mono : ∀ a0 a1 a2 a3 a4 k, LeO (patchbaylaw2_AddrHolds.f k a0 a1 a2 a3 a4) (patchbaylaw2_AddrHolds.f (k + 1) a0 a1 a2 a3 a4) := by
 intro a0 a1 a2 a3 a4 k
 obtain ⟨ih0, ih1, ih2⟩ := patchbaylaw2_AddrHolds.mono_l k
 unfold patchbaylaw2_AddrHolds.f
 repeat' first
   | (with_reducible exact ih0 _ _ _ _ _ _ _)
   | (with_reducible exact ih1 _ _ _ _ _ _ _ _)
   | (with_reducible exact ih2 _ _ _ _ _ _ _ _)
   | (with_reducible exact addr_Compare.mono _ _ _ _ _)
   | (with_reducible exact patchbaylaw2_addrLives.mono _)
   | (with_reducible exact patchbayref2_Below.mono _ _ _ _ _)
   | (with_reducible exact patchbayref2_In.mono _ _ _ _)
   | (with_reducible exact patchbayref2_PrefixFault.mono _ _ _)
   | (with_reducible exact LeO.refl _)
   | (with_reducible exact LeO.none _)
   | (with_reducible refine LeO.ite ?_ ?_)
   | (with_reducible refine LeO.bind ?_ (fun _ => ?_))
   | exact ih0 _ _ _ _ _ _ _
   | exact ih1 _ _ _ _ _ _ _ _
   | exact ih2 _ _ _ _ _ _ _ _
   | exact addr_Compare.mono _ _ _ _ _
   | exact patchbaylaw2_addrLives.mono _
   | exact patchbayref2_Below.mono _ _ _ _ _
   | exact patchbayref2_In.mono _ _ _ _
   | exact patchbayref2_PrefixFault.mono _ _ _
   | exact LeO.none _
   | refine LeO.ite ?_ ?_
   | refine LeO.bind ?_ (fun _ => ?_)
set_option maxHeartbeats 8000000 in
set_option maxRecDepth 100000 in
theorem patchbaylaw2_AddrHolds.calls (k : Nat) (a0_0 : Int) (a0_1 : Int) (a1_0 : Int) (a1_1 : Int) (a2 : Int) (r : Bool) (w : World) (HVw : Vk.Ok w) (h : patchbaylaw2_AddrHolds.f k a0_0 a0_1 a1_0 a1_1 a2 = some r) :
  Calls Tryd.prog 3 #[.agg #[.int .u32 a0_0, .int .i64 a0_1], .agg #[.int .u32 a1_0, .int .i64 a1_1], .int .u32 a2] w fun e w' => e = .returned (.bool r) ∧ Below w.heap.size w w' := by
 have HV := Aside0.mk HVw
 clear HVw
 have hu24 := Tryd.underlying24
 have HB := Aside0.mk (Below.refl w.heap.size w)
 have H : ((patchbaylaw2_addrLives.f k).bind fun t149 => (if t149 = true then ((patchbayref2_PrefixFault.f k a0_0 a0_1).bind fun t150 => (if t150 = 0 then ((patchbayref2_PrefixFault.f k a1_0 a1_1).bind fun t151 => (patchbaylaw2_AddrHolds.j0 k a2 (t150 == 0) (t151 == 0) a0_0 a0_1 a1_0 a1_1)) else (patchbaylaw2_AddrHolds.j0 k a2 (t150 == 0) false a0_0 a0_1 a1_0 a1_1))) else (some false))) = some r := h
 clear h
 replace H := Option.bind_eq_some_iff.mp H
 obtain ⟨t149, A40, H⟩ := H
 replace H : (if t149 = true then ((patchbayref2_PrefixFault.f k a0_0 a0_1).bind fun t150 => (if t150 = 0 then ((patchbayref2_PrefixFault.f k a1_0 a1_1).bind fun t151 => (patchbaylaw2_AddrHolds.j0 k a2 (t150 == 0) (t151 == 0) a0_0 a0_1 a1_0 a1_1)) else (patchbaylaw2_AddrHolds.j0 k a2 (t150 == 0) false a0_0 a0_1 a1_0 a1_1))) else (some false)) = some r := H
 have A4 := Aside0.mk A40
 clear A40
 by_cases c5 : t149 = true
 ·subst c5
  have H1 : ((patchbayref2_PrefixFault.f k a0_0 a0_1).bind fun t150 => (if t150 = 0 then ((patchbayref2_PrefixFault.f k a1_0 a1_1).bind fun t151 => (patchbaylaw2_AddrHolds.j0 k a2 (t150 == 0) (t151 == 0) a0_0 a0_1 a1_0 a1_1)) else (patchbaylaw2_AddrHolds.j0 k a2 (t150 == 0) false a0_0 a0_1 a1_0 a1_1))) = some r := by rw [if_pos rfl] at H; exact H
  clear H
  have H := H1
  clear H1
  replace H := Option.bind_eq_some_iff.mp H
  obtain ⟨t150, A60, H⟩ := H
  replace H : (if t150 = 0 then ((patchbayref2_PrefixFault.f k a1_0 a1_1).bind fun t151 => (patchbaylaw2_AddrHolds.j0 k a2 (t150 == 0) (t151 == 0) a0_0 a0_1 a1_0 a1_1)) else (patchbaylaw2_AddrHolds.j0 k a2 (t150 == 0) false a0_0 a0_1 a1_0 a1_1)) = some r := H
  have A6 := Aside0.mk A60
  clear A60
  have HC7 := Aside0.mk H
  clear H
  go_enter Tryd.func3, Tryd.ntmps3
  go_upto_region 4 with (first | ((with_reducible refine gate_dst (N := 3) rfl ?_); refine box_event ?hg (N := 3) ?hd (cs := #[.int .u32 a0_0, .int .i64 a0_1]) (t := 24) ?hr ?_; (case hd => rfl); (case hg => rfl); (case hr => first | (go_simp; done) | (go_simp; rfl)); intro gb147 hg w8 hbox hb; have n0_ := Aside0.mk (below_step (Fit.bl HB.out) hb); have n1_ := Aside0.mk (hbox); have n2_ := Aside0.mk ((by rw [hg]; exact (below_size (Fit.bl HB.out)) : w.heap.size ≤ gb147)); have n3_ := Aside0.mk ((by rw [hg]; exact (below_size (Fit.bl HB.out)) : w.heap.size ≤ gb147)); clear HB; have HB := n0_; have BK147 := n1_; have GW147 := n2_; have GE147 := n3_; clear n0_ n1_ n2_ n3_; clear hb hbox hg) | ((with_reducible refine gate_dst (N := 4) rfl ?_); refine box_event ?hg (N := 4) ?hd (cs := #[.int .u32 a1_0, .int .i64 a1_1]) (t := 24) ?hr ?_; (case hd => rfl); (case hg => rfl); (case hr => first | (go_simp; done) | (go_simp; rfl)); intro gb148 hg w9 hbox hb; have n0_ := Aside0.mk (blk_below (g := gb147) (Fit.pk BK147.out) hb); have n1_ := Aside0.mk (below_step (Fit.bl HB.out) hb); have n2_ := Aside0.mk (hbox); have n3_ := Aside0.mk ((by rw [hg]; exact (below_size (Fit.bl HB.out)) : w.heap.size ≤ gb148)); have n4_ := Aside0.mk ((by rw [hg]; exact (below_size (Fit.bl HB.out)) : w.heap.size ≤ gb148)); have n5_ := Aside0.mk ((by rw [hg]; exact Nat.ne_of_lt (blk_lt (g := gb147) (Fit.pk BK147.out)) : gb147 ≠ gb148)); have n6_ := Aside0.mk ((by rw [hg]; exact Nat.ne_of_gt (blk_lt (g := gb147) (Fit.pk BK147.out)) : gb148 ≠ gb147)); clear BK147; clear HB; have BK147 := n0_; have HB := n1_; have BK148 := n2_; have GW148 := n3_; have GE148 := n4_; have NB147_148 := n5_; have NB148_147 := n6_; clear n0_ n1_ n2_ n3_ n4_ n5_ n6_; clear hb hbox hg) | ((with_reducible refine gate_callee (f := 8) rfl ?_); refine goesL_ (some 10) rfl rfl Tryd.func8 (by kernel_rfl) rfl #[] rfl (by (try simp only [List.map_toArray, List.map_cons, List.map_nil]); first | done | rfl | (simp only [List.length_drop, List.length_take]; rfl)) ?_; (with_reducible refine (patchbaylaw2_addrLives.calls k  true _ ?sideV A4.out).mono ?_); (case sideV => exact HV.out.on (Fit.bl HB.out)); rintro e w10 ⟨rfl, hb⟩; refine ⟨_, rfl, ?_⟩; have n0_ := Aside0.mk (blk_below (g := gb147) (Fit.pk BK147.out) hb); have n1_ := Aside0.mk (blk_below (g := gb148) (Fit.pk BK148.out) hb); have n2_ := Aside0.mk (below_step (Fit.bl HB.out) hb); clear BK147; clear BK148; clear HB; have BK147 := n0_; have BK148 := n1_; have HB := n2_; clear n0_ n1_ n2_; (try clear hb); (try clear hb2); (try clear hk); (try clear hi); have hnb11 := NB147_148.out; have hnc11 := NB148_147.out; obtain ⟨hcz12_0, hcz12_1, hfz12_0⟩ := Fit.cells2 BK147.out) | ((with_reducible refine gate_callee (f := 9) rfl ?_); refine goesL_ (some 13) rfl rfl Tryd.func9 (by kernel_rfl) rfl #[.agg #[.int .u32 a0_0, .int .i64 a0_1]] rfl (by (try simp only [List.map_toArray, List.map_cons, List.map_nil]); first | done | rfl | (simp only [List.length_drop, List.length_take]; rfl)) ?_; (with_reducible refine (patchbayref2_PrefixFault.calls k a0_0 a0_1 t150 _ A6.out).mono ?_); rintro e w13 ⟨rfl, hb⟩; refine ⟨_, rfl, ?_⟩; have n0_ := Aside0.mk (blk_below (g := gb147) (Fit.pk BK147.out) hb); have n1_ := Aside0.mk (blk_below (g := gb148) (Fit.pk BK148.out) hb); have n2_ := Aside0.mk (below_step (Fit.bl HB.out) hb); clear BK147; clear BK148; clear HB; have BK147 := n0_; have BK148 := n1_; have HB := n2_; clear n0_ n1_ n2_; (try clear hb); (try clear hb2); (try clear hk); (try clear hi)))
  (try simp only [Act.put, List.setIfInBounds_toArray, List.set_cons_zero, List.set_cons_succ])
  go_cut [7, 8] (fun v7 v8 wc => ∃ (kq : Nat) (x8_6 : Bool), v7 = .bool (t150 == 0) ∧ v8 = .bool x8_6 ∧ Aside0 (patchbaylaw2_AddrHolds.j0 kq a2 (t150 == 0) x8_6 a0_0 a0_1 a1_0 a1_1 = some r) ∧ Aside0 (kq ≤ k) ∧ Aside0 (wc.heap[gb147]? = some (.cells #[.int .u32 a0_0, .int .i64 a0_1] 24 (0, 0))) ∧ Aside0 (wc.heap[gb148]? = some (.cells #[.int .u32 a1_0, .int .i64 a1_1] 24 (0, 0))) ∧ Aside0 (Below w.heap.size w wc))
  case first =>
   have H := HC7.out
   clear HC7
   by_cases c14 : t150 = 0
   ·rw [if_pos c14] at H
    have c14b0 : (t150 == 0) = true := beq_iff_eq.mpr c14
    have c14b1 : (t150 != 0) = false := bne_eq_false_iff_eq.mpr c14
    clear c14
    (first | rw [c14b0] | (simp only [i64_w, i32_w]; rw [c14b0]) | skip)
    replace H := Option.bind_eq_some_iff.mp H
    obtain ⟨t151, A150, H⟩ := H
    replace H : (patchbaylaw2_AddrHolds.j0 k a2 (t150 == 0) (t151 == 0) a0_0 a0_1 a1_0 a1_1) = some r := H
    have A15 := Aside0.mk A150
    clear A150
    have H' := Aside0.mk H
    clear H
    have hnb16 := NB148_147.out
    have hnc16 := NB147_148.out
    obtain ⟨hcz17_0, hcz17_1, hfz17_0⟩ := Fit.cells2 BK148.out
    go_wp2_with (first | (go_at_call 9; (with_reducible refine (patchbayref2_PrefixFault.calls k a1_0 a1_1 t151 _ A15.out).mono ?_); rintro e w18 ⟨rfl, hb⟩; have n0_ := Aside0.mk (blk_below (g := gb147) (Fit.pk BK147.out) hb); have n1_ := Aside0.mk (blk_below (g := gb148) (Fit.pk BK148.out) hb); have n2_ := Aside0.mk (below_step (Fit.bl HB.out) hb); clear BK147; clear BK148; clear HB; have BK147 := n0_; have BK148 := n1_; have HB := n2_; clear n0_ n1_ n2_; (try clear hb); (try clear hb2); (try clear hk); (try clear hi)))
    go_meet
    case rel => exact ⟨_, ((t151 == 0)), (by first | rfl | (simp; done) | (simp [*]; done)), (by first | rfl | (simp; done) | (simp [*]; done)), H', ⟨by first | omega | exact Nat.le_refl _⟩, ⟨by (with_reducible repeat first | apply blk_drewN | apply blk_drew | apply blk_alloc); exact BK147.out⟩, ⟨by (with_reducible repeat first | apply blk_drewN | apply blk_drew | apply blk_alloc); exact BK148.out⟩, ⟨Fit.bl HB.out⟩⟩
   ·rw [if_neg c14] at H
    have c14b0 : (t150 == 0) = false := beq_eq_false_iff_ne.mpr c14
    have c14b1 : (t150 != 0) = true := bne_iff_ne.mpr c14
    (first | rw [c14b0] | (simp only [i64_w, i32_w]; rw [c14b0]) | skip)
    have H' := Aside0.mk H
    clear H
    go_wp2
    go_meet
    case rel => exact ⟨_, (false), (by first | rfl | (simp; done) | (simp [*]; done)), (by first | rfl | (simp; done) | (simp [*]; done)), H', ⟨by first | omega | exact Nat.le_refl _⟩, ⟨by (with_reducible repeat first | apply blk_drewN | apply blk_drew | apply blk_alloc); exact BK147.out⟩, ⟨by (with_reducible repeat first | apply blk_drewN | apply blk_drew | apply blk_alloc); exact BK148.out⟩, ⟨Fit.bl HB.out⟩⟩
  case rest =>
   clear HC7
   try clear c1
   try clear p2
   try clear c3
   try clear c5
   try clear c8
   try clear c9
   try clear c11
   try clear c14
   try clear c14b0
   try clear c14b1
   try clear c16
   try clear hcz12_0
   try clear hcz12_1
   try clear hcz17_0
   try clear hcz17_1
   try clear hfz12_0
   try clear hfz17_0
   obtain ⟨kq, x8_6, rfl, rfl, HA, HJ6, BK147, BK148, HB⟩ := hcut
   cases kq with
   | zero => exact absurd HA.out (by simp [patchbaylaw2_AddrHolds.j0])
   | succ kj6 =>
    have H := HA.out
    clear HA
    simp only [patchbaylaw2_AddrHolds.j0] at H
    replace H := Option.bind_eq_some_iff.mp H
    obtain ⟨t152, A190, H⟩ := H
    replace H : (if t152 = true then (patchbaylaw2_AddrHolds.j1 kj6 a2 (t150 == 0) x8_6 (-1) a0_0 a0_1 a1_0 a1_1) else (patchbaylaw2_AddrHolds.j1 kj6 a2 (t150 == 0) x8_6 0 a0_0 a0_1 a1_0 a1_1)) = some r := H
    have A19 := Aside0.mk A190
    clear A190
    have HC20 := Aside0.mk H
    clear H
    have hnb21 := NB147_148.out
    have hnc21 := NB148_147.out
    obtain ⟨hcz22_0, hcz22_1, hfz22_0⟩ := Fit.cells2 BK147.out
    obtain ⟨hcz23_0, hcz23_1, hfz23_0⟩ := Fit.cells2 BK148.out
    go_upto_if 23 with (first | ((with_reducible refine gate_callee (f := 10) rfl ?_); refine goesL_ (some 23) rfl rfl Tryd.func10 (by kernel_rfl) rfl #[.agg #[.int .u32 a0_0, .int .i64 a0_1], .agg #[.int .u32 a1_0, .int .i64 a1_1]] rfl (by (try simp only [List.map_toArray, List.map_cons, List.map_nil]); first | done | rfl | (simp only [List.length_drop, List.length_take]; rfl)) ?_; (with_reducible refine (patchbayref2_Less.calls a0_0 a0_1 a1_0 a1_1 t152 _ A19.out).mono ?_); rintro e w24 ⟨rfl, hb⟩; refine ⟨_, rfl, ?_⟩; have n0_ := Aside0.mk (blk_below (g := gb147) (Fit.pk BK147.out) hb); have n1_ := Aside0.mk (blk_below (g := gb148) (Fit.pk BK148.out) hb); have n2_ := Aside0.mk (below_step (Fit.bl HB.out) hb); clear BK147; clear BK148; clear HB; have BK147 := n0_; have BK148 := n1_; have HB := n2_; clear n0_ n1_ n2_; (try clear hb); (try clear hb2); (try clear hk); (try clear hi)))
    (try simp only [Act.put, List.setIfInBounds_toArray, List.set_cons_zero, List.set_cons_succ])
    go_cut [9] (fun v9 wc => ∃ (kq : Nat) (x9_19 : Int), v9 = .int .i64 x9_19 ∧ Aside0 (patchbaylaw2_AddrHolds.j1 kq a2 (t150 == 0) x8_6 x9_19 a0_0 a0_1 a1_0 a1_1 = some r) ∧ Aside0 (kq ≤ kj6) ∧ Aside0 (wc.heap[gb147]? = some (.cells #[.int .u32 a0_0, .int .i64 a0_1] 24 (0, 0))) ∧ Aside0 (wc.heap[gb148]? = some (.cells #[.int .u32 a1_0, .int .i64 a1_1] 24 (0, 0))) ∧ Aside0 (Below w.heap.size w wc))
    case first =>
     have H := HC20.out
     clear HC20
     by_cases c25 : t152 = true
     ·subst c25
      have H1 : (patchbaylaw2_AddrHolds.j1 kj6 a2 (t150 == 0) x8_6 (-1) a0_0 a0_1 a1_0 a1_1) = some r := by rw [if_pos rfl] at H; exact H
      clear H
      have H := H1
      clear H1
      have H' := Aside0.mk H
      clear H
      go_wp2
      go_meet
      case rel => exact ⟨_, ((-1)), (by first | rfl | (simp; done) | (simp [*]; done)), H', ⟨by have := HJ6.out; first | omega | exact Nat.le_refl _⟩, ⟨by (with_reducible repeat first | apply blk_drewN | apply blk_drew | apply blk_alloc); exact BK147.out⟩, ⟨by (with_reducible repeat first | apply blk_drewN | apply blk_drew | apply blk_alloc); exact BK148.out⟩, ⟨Fit.bl HB.out⟩⟩
     ·replace c25 := Bool.eq_false_iff.mpr c25
      subst c25
      have H1 : (patchbaylaw2_AddrHolds.j1 kj6 a2 (t150 == 0) x8_6 0 a0_0 a0_1 a1_0 a1_1) = some r := by rw [if_neg (show ¬ (false = true) by decide)] at H; exact H
      clear H
      have H := H1
      clear H1
      have H' := Aside0.mk H
      clear H
      go_wp2
      go_meet
      case rel => exact ⟨_, (0), (by first | rfl | (simp; done) | (simp [*]; done)), H', ⟨by have := HJ6.out; first | omega | exact Nat.le_refl _⟩, ⟨by (with_reducible repeat first | apply blk_drewN | apply blk_drew | apply blk_alloc); exact BK147.out⟩, ⟨by (with_reducible repeat first | apply blk_drewN | apply blk_drew | apply blk_alloc); exact BK148.out⟩, ⟨Fit.bl HB.out⟩⟩
    case rest =>
     clear HC20
     try clear c1
     try clear c2
     try clear p2
     try clear c3
     try clear c5
     try clear c8
     try clear c9
     try clear c10
     try clear c11
     try clear c14
     try clear c14b0
     try clear c14b1
     try clear c16
     try clear c21
     try clear c25
     try clear hcz12_0
     try clear hcz12_1
     try clear hcz17_0
     try clear hcz17_1
     try clear hcz22_0
     try clear hcz22_1
     try clear hcz23_0
     try clear hcz23_1
     try clear hfz12_0
     try clear hfz17_0
     try clear hfz22_0
     try clear hfz23_0
     try clear p2
     obtain ⟨kq, x9_19, rfl, HA, HJ19, BK147, BK148, HB⟩ := hcut
     cases kq with
     | zero => exact absurd HA.out (by simp [patchbaylaw2_AddrHolds.j1])
     | succ kj19 =>
      have H := HA.out
      clear HA
      simp only [patchbaylaw2_AddrHolds.j1] at H
      replace H := Option.bind_eq_some_iff.mp H
      obtain ⟨t153, A260, H⟩ := H
      replace H : (if t153 = true then (patchbaylaw2_AddrHolds.j2 kj19 a2 (t150 == 0) x8_6 1 a0_0 a0_1 a1_0 a1_1) else (patchbaylaw2_AddrHolds.j2 kj19 a2 (t150 == 0) x8_6 x9_19 a0_0 a0_1 a1_0 a1_1)) = some r := H
      have A26 := Aside0.mk A260
      clear A260
      have HC27 := Aside0.mk H
      clear H
      have hnb28 := NB148_147.out
      have hnc28 := NB147_148.out
      obtain ⟨hcz29_0, hcz29_1, hfz29_0⟩ := Fit.cells2 BK148.out
      obtain ⟨hcz30_0, hcz30_1, hfz30_0⟩ := Fit.cells2 BK147.out
      go_upto_if 26 with (first | ((with_reducible refine gate_callee (f := 10) rfl ?_); refine goesL_ (some 26) rfl rfl Tryd.func10 (by kernel_rfl) rfl #[.agg #[.int .u32 a1_0, .int .i64 a1_1], .agg #[.int .u32 a0_0, .int .i64 a0_1]] rfl (by (try simp only [List.map_toArray, List.map_cons, List.map_nil]); first | done | rfl | (simp only [List.length_drop, List.length_take]; rfl)) ?_; (with_reducible refine (patchbayref2_Less.calls a1_0 a1_1 a0_0 a0_1 t153 _ A26.out).mono ?_); rintro e w31 ⟨rfl, hb⟩; refine ⟨_, rfl, ?_⟩; have n0_ := Aside0.mk (blk_below (g := gb147) (Fit.pk BK147.out) hb); have n1_ := Aside0.mk (blk_below (g := gb148) (Fit.pk BK148.out) hb); have n2_ := Aside0.mk (below_step (Fit.bl HB.out) hb); clear BK147; clear BK148; clear HB; have BK147 := n0_; have BK148 := n1_; have HB := n2_; clear n0_ n1_ n2_; (try clear hb); (try clear hb2); (try clear hk); (try clear hi)))
      (try simp only [Act.put, List.setIfInBounds_toArray, List.set_cons_zero, List.set_cons_succ])
      go_cut [9] (fun v9 wc => ∃ (kq : Nat) (x9_26 : Int), v9 = .int .i64 x9_26 ∧ Aside0 (patchbaylaw2_AddrHolds.j2 kq a2 (t150 == 0) x8_6 x9_26 a0_0 a0_1 a1_0 a1_1 = some r) ∧ Aside0 (kq ≤ kj19) ∧ Aside0 (wc.heap[gb147]? = some (.cells #[.int .u32 a0_0, .int .i64 a0_1] 24 (0, 0))) ∧ Aside0 (wc.heap[gb148]? = some (.cells #[.int .u32 a1_0, .int .i64 a1_1] 24 (0, 0))) ∧ Aside0 (Below w.heap.size w wc))
      case first =>
       have H := HC27.out
       clear HC27
       by_cases c32 : t153 = true
       ·subst c32
        have H1 : (patchbaylaw2_AddrHolds.j2 kj19 a2 (t150 == 0) x8_6 1 a0_0 a0_1 a1_0 a1_1) = some r := by rw [if_pos rfl] at H; exact H
        clear H
        have H := H1
        clear H1
        have H' := Aside0.mk H
        clear H
        go_wp2
        go_meet
        case rel => exact ⟨_, (1), (by first | rfl | (simp; done) | (simp [*]; done)), H', ⟨by have := HJ6.out; have := HJ19.out; first | omega | exact Nat.le_refl _⟩, ⟨by (with_reducible repeat first | apply blk_drewN | apply blk_drew | apply blk_alloc); exact BK147.out⟩, ⟨by (with_reducible repeat first | apply blk_drewN | apply blk_drew | apply blk_alloc); exact BK148.out⟩, ⟨Fit.bl HB.out⟩⟩
       ·replace c32 := Bool.eq_false_iff.mpr c32
        subst c32
        have H1 : (patchbaylaw2_AddrHolds.j2 kj19 a2 (t150 == 0) x8_6 x9_19 a0_0 a0_1 a1_0 a1_1) = some r := by rw [if_neg (show ¬ (false = true) by decide)] at H; exact H
        clear H
        have H := H1
        clear H1
        have H' := Aside0.mk H
        clear H
        go_wp2
        go_meet
        case rel => exact ⟨_, (x9_19), (by first | rfl | (simp; done) | (simp [*]; done)), H', ⟨by have := HJ6.out; have := HJ19.out; first | omega | exact Nat.le_refl _⟩, ⟨by (with_reducible repeat first | apply blk_drewN | apply blk_drew | apply blk_alloc); exact BK147.out⟩, ⟨by (with_reducible repeat first | apply blk_drewN | apply blk_drew | apply blk_alloc); exact BK148.out⟩, ⟨Fit.bl HB.out⟩⟩
      case rest =>
       clear HC27
       try clear c1
       try clear c2
       try clear p2
       try clear c3
       try clear c5
       try clear c8
       try clear c9
       try clear c10
       try clear c11
       try clear c14
       try clear c14b0
       try clear c14b1
       try clear c16
       try clear c21
       try clear c25
       try clear c28
       try clear c32
       try clear hcz12_0
       try clear hcz12_1
       try clear hcz17_0
       try clear hcz17_1
       try clear hcz22_0
       try clear hcz22_1
       try clear hcz23_0
       try clear hcz23_1
       try clear hcz29_0
       try clear hcz29_1
       try clear hcz30_0
       try clear hcz30_1
       try clear hfz12_0
       try clear hfz17_0
       try clear hfz22_0
       try clear hfz23_0
       try clear hfz29_0
       try clear hfz30_0
       try clear p2
       obtain ⟨kq, x9_26, rfl, HA, HJ26, BK147, BK148, HB⟩ := hcut
       cases kq with
       | zero => exact absurd HA.out (by simp [patchbaylaw2_AddrHolds.j2])
       | succ kj26 =>
        have H := HA.out
        clear HA
        simp only [patchbaylaw2_AddrHolds.j2] at H
        replace H := Option.bind_eq_some_iff.mp H
        obtain ⟨t154, A330, H⟩ := H
        replace H : (if (t150 == 0) = true then ((patchbayref2_In.f kj26 a0_0 a0_1 a2).bind fun t155 => (if (t154 == t155) = true then ((addr_Within.f a0_0 a0_1 a1_0 a1_1).bind fun t156 => (if x8_6 = true then ((patchbayref2_Below.f kj26 a0_0 a0_1 a1_0 a1_1).bind fun t157 => (if (t156 == t157) = true then ((addr_Compare.f kj26 a0_0 a0_1 a1_0 a1_1).bind fun t158 => (some (t158 == x9_26))) else (some false))) else (if (t156 == false) = true then ((addr_Compare.f kj26 a0_0 a0_1 a1_0 a1_1).bind fun t159 => (some (t159 == x9_26))) else (some false)))) else (some false))) else (if (t154 == false) = true then ((addr_Within.f a0_0 a0_1 a1_0 a1_1).bind fun t160 => (if x8_6 = true then ((patchbayref2_Below.f kj26 a0_0 a0_1 a1_0 a1_1).bind fun t161 => (if (t160 == t161) = true then ((addr_Compare.f kj26 a0_0 a0_1 a1_0 a1_1).bind fun t162 => (some (t162 == x9_26))) else (some false))) else (if (t160 == false) = true then ((addr_Compare.f kj26 a0_0 a0_1 a1_0 a1_1).bind fun t163 => (some (t163 == x9_26))) else (some false)))) else (some false))) = some r := H
        have A33 := Aside0.mk A330
        clear A330
        by_cases c34 : (t150 == 0) = true
        ·rw [if_pos c34] at H
         have c34b0 : (t150 == 0) = true := c34
         (try (have c34b1 : decide (t150 = 0) = true := by simpa using c34))
         (try (have c34b2 : (t150 == 0) = true := by simpa using c34))
         clear c34
         replace H := Option.bind_eq_some_iff.mp H
         obtain ⟨t155, A350, H⟩ := H
         replace H : (if (t154 == t155) = true then ((addr_Within.f a0_0 a0_1 a1_0 a1_1).bind fun t156 => (if x8_6 = true then ((patchbayref2_Below.f kj26 a0_0 a0_1 a1_0 a1_1).bind fun t157 => (if (t156 == t157) = true then ((addr_Compare.f kj26 a0_0 a0_1 a1_0 a1_1).bind fun t158 => (some (t158 == x9_26))) else (some false))) else (if (t156 == false) = true then ((addr_Compare.f kj26 a0_0 a0_1 a1_0 a1_1).bind fun t159 => (some (t159 == x9_26))) else (some false)))) else (some false)) = some r := H
         have A35 := Aside0.mk A350
         clear A350
         by_cases c36 : (t154 == t155) = true
         ·rw [if_pos c36] at H
          have c36b0 : (t154 == t155) = true := c36
          (try (have c36b1 : decide (t154 = t155) = true := by simpa using c36))
          (try (have c36b2 : (t154 == t155) = true := by simpa using c36))
          clear c36
          replace H := Option.bind_eq_some_iff.mp H
          obtain ⟨t156, A370, H⟩ := H
          replace H : (if x8_6 = true then ((patchbayref2_Below.f kj26 a0_0 a0_1 a1_0 a1_1).bind fun t157 => (if (t156 == t157) = true then ((addr_Compare.f kj26 a0_0 a0_1 a1_0 a1_1).bind fun t158 => (some (t158 == x9_26))) else (some false))) else (if (t156 == false) = true then ((addr_Compare.f kj26 a0_0 a0_1 a1_0 a1_1).bind fun t159 => (some (t159 == x9_26))) else (some false))) = some r := H
          have A37 := Aside0.mk A370
          clear A370
          by_cases c38 : x8_6 = true
          ·subst c38
           have H1 : ((patchbayref2_Below.f kj26 a0_0 a0_1 a1_0 a1_1).bind fun t157 => (if (t156 == t157) = true then ((addr_Compare.f kj26 a0_0 a0_1 a1_0 a1_1).bind fun t158 => (some (t158 == x9_26))) else (some false))) = some r := by rw [if_pos rfl] at H; exact H
           clear H
           have H := H1
           clear H1
           replace H := Option.bind_eq_some_iff.mp H
           obtain ⟨t157, A390, H⟩ := H
           replace H : (if (t156 == t157) = true then ((addr_Compare.f kj26 a0_0 a0_1 a1_0 a1_1).bind fun t158 => (some (t158 == x9_26))) else (some false)) = some r := H
           have A39 := Aside0.mk A390
           clear A390
           by_cases c40 : (t156 == t157) = true
           ·rw [if_pos c40] at H
            have c40b0 : (t156 == t157) = true := c40
            (try (have c40b1 : decide (t156 = t157) = true := by simpa using c40))
            (try (have c40b2 : (t156 == t157) = true := by simpa using c40))
            clear c40
            replace H := Option.bind_eq_some_iff.mp H
            obtain ⟨t158, A410, H⟩ := H
            replace H : (some (t158 == x9_26)) = some r := H
            have A41 := Aside0.mk A410
            clear A410
            obtain rfl := Option.some.inj H
            have hnb42 := NB147_148.out
            have hnc42 := NB148_147.out
            obtain ⟨hcz43_0, hcz43_1, hfz43_0⟩ := Fit.cells2 BK147.out
            go_wp2_with (first | ((with_reducible refine gate_callee (f := 11) rfl ?_); refine goesL_ (some 29) rfl rfl Tryd.func11 (by kernel_rfl) rfl #[.agg #[.int .u32 a0_0, .int .i64 a0_1], .int .u32 a2] rfl (by (try simp only [List.map_toArray, List.map_cons, List.map_nil]); first | done | rfl | (simp only [List.length_drop, List.length_take]; rfl)) ?_; (with_reducible refine (addr_Has.calls a0_0 a0_1 a2 t154 _ A33.out).mono ?_); rintro e w44 ⟨rfl, hb⟩; refine ⟨_, rfl, ?_⟩; have n0_ := Aside0.mk (blk_below (g := gb147) (Fit.pk BK147.out) hb); have n1_ := Aside0.mk (blk_below (g := gb148) (Fit.pk BK148.out) hb); have n2_ := Aside0.mk (below_step (Fit.bl HB.out) hb); clear BK147; clear BK148; clear HB; have BK147 := n0_; have BK148 := n1_; have HB := n2_; clear n0_ n1_ n2_; (try clear hb); (try clear hb2); (try clear hk); (try clear hi); obtain ⟨hcz45_0, hcz45_1, hfz45_0⟩ := Fit.cells2 BK147.out) | (go_at_call 12; (with_reducible refine (patchbayref2_In.calls kj26 a0_0 a0_1 a2 t155 _ A35.out).mono ?_); rintro e w46 ⟨rfl, hb⟩; have n0_ := Aside0.mk (blk_below (g := gb147) (Fit.pk BK147.out) hb); have n1_ := Aside0.mk (blk_below (g := gb148) (Fit.pk BK148.out) hb); have n2_ := Aside0.mk (below_step (Fit.bl HB.out) hb); clear BK147; clear BK148; clear HB; have BK147 := n0_; have BK148 := n1_; have HB := n2_; clear n0_ n1_ n2_; (try clear hb); (try clear hb2); (try clear hk); (try clear hi); obtain ⟨hcz47_0, hcz47_1, hfz47_0⟩ := Fit.cells2 BK147.out; obtain ⟨hcz48_0, hcz48_1, hfz48_0⟩ := Fit.cells2 BK148.out) | (go_at_call 13; (with_reducible refine (addr_Within.calls a0_0 a0_1 a1_0 a1_1 t156 _ A37.out).mono ?_); rintro e w49 ⟨rfl, hb⟩; have n0_ := Aside0.mk (blk_below (g := gb147) (Fit.pk BK147.out) hb); have n1_ := Aside0.mk (blk_below (g := gb148) (Fit.pk BK148.out) hb); have n2_ := Aside0.mk (below_step (Fit.bl HB.out) hb); clear BK147; clear BK148; clear HB; have BK147 := n0_; have BK148 := n1_; have HB := n2_; clear n0_ n1_ n2_; (try clear hb); (try clear hb2); (try clear hk); (try clear hi); obtain ⟨hcz50_0, hcz50_1, hfz50_0⟩ := Fit.cells2 BK147.out; obtain ⟨hcz51_0, hcz51_1, hfz51_0⟩ := Fit.cells2 BK148.out) | (go_at_call 14; (with_reducible refine (patchbayref2_Below.calls kj26 a0_0 a0_1 a1_0 a1_1 t157 _ A39.out).mono ?_); rintro e w52 ⟨rfl, hb⟩; have n0_ := Aside0.mk (blk_below (g := gb147) (Fit.pk BK147.out) hb); have n1_ := Aside0.mk (blk_below (g := gb148) (Fit.pk BK148.out) hb); have n2_ := Aside0.mk (below_step (Fit.bl HB.out) hb); clear BK147; clear BK148; clear HB; have BK147 := n0_; have BK148 := n1_; have HB := n2_; clear n0_ n1_ n2_; (try clear hb); (try clear hb2); (try clear hk); (try clear hi); obtain ⟨hcz53_0, hcz53_1, hfz53_0⟩ := Fit.cells2 BK147.out; obtain ⟨hcz54_0, hcz54_1, hfz54_0⟩ := Fit.cells2 BK148.out) | (go_at_call 15; (with_reducible refine (addr_Compare.calls kj26 a0_0 a0_1 a1_0 a1_1 t158 _ A41.out).mono ?_); rintro e w55 ⟨rfl, hb⟩; have n0_ := Aside0.mk (blk_below (g := gb147) (Fit.pk BK147.out) hb); have n1_ := Aside0.mk (blk_below (g := gb148) (Fit.pk BK148.out) hb); have n2_ := Aside0.mk (below_step (Fit.bl HB.out) hb); clear BK147; clear BK148; clear HB; have BK147 := n0_; have BK148 := n1_; have HB := n2_; clear n0_ n1_ n2_; (try clear hb); (try clear hb2); (try clear hk); (try clear hi)))
            go_ret
            exact ⟨by first | rfl | (simp [errW_none, errW_some] <;> rfl) | (simp [*, errW_none, errW_some] <;> rfl), Fit.bl HB.out⟩
           ·rw [if_neg c40] at H
            have c40b0 : (t156 == t157) = false := by simpa using c40
            (try (have c40b1 : decide (t156 = t157) = false := by simpa using c40))
            (try (have c40b2 : (t156 == t157) = false := by simpa using c40))
            (try (have c40b3 : ¬ (t156 = t157) := by simpa using c40))
            clear c40
            obtain rfl := Option.some.inj H
            have hnb56 := NB147_148.out
            have hnc56 := NB148_147.out
            obtain ⟨hcz57_0, hcz57_1, hfz57_0⟩ := Fit.cells2 BK147.out
            go_wp2_with (first | ((with_reducible refine gate_callee (f := 11) rfl ?_); refine goesL_ (some 29) rfl rfl Tryd.func11 (by kernel_rfl) rfl #[.agg #[.int .u32 a0_0, .int .i64 a0_1], .int .u32 a2] rfl (by (try simp only [List.map_toArray, List.map_cons, List.map_nil]); first | done | rfl | (simp only [List.length_drop, List.length_take]; rfl)) ?_; (with_reducible refine (addr_Has.calls a0_0 a0_1 a2 t154 _ A33.out).mono ?_); rintro e w58 ⟨rfl, hb⟩; refine ⟨_, rfl, ?_⟩; have n0_ := Aside0.mk (blk_below (g := gb147) (Fit.pk BK147.out) hb); have n1_ := Aside0.mk (blk_below (g := gb148) (Fit.pk BK148.out) hb); have n2_ := Aside0.mk (below_step (Fit.bl HB.out) hb); clear BK147; clear BK148; clear HB; have BK147 := n0_; have BK148 := n1_; have HB := n2_; clear n0_ n1_ n2_; (try clear hb); (try clear hb2); (try clear hk); (try clear hi); obtain ⟨hcz59_0, hcz59_1, hfz59_0⟩ := Fit.cells2 BK147.out) | (go_at_call 12; (with_reducible refine (patchbayref2_In.calls kj26 a0_0 a0_1 a2 t155 _ A35.out).mono ?_); rintro e w60 ⟨rfl, hb⟩; have n0_ := Aside0.mk (blk_below (g := gb147) (Fit.pk BK147.out) hb); have n1_ := Aside0.mk (blk_below (g := gb148) (Fit.pk BK148.out) hb); have n2_ := Aside0.mk (below_step (Fit.bl HB.out) hb); clear BK147; clear BK148; clear HB; have BK147 := n0_; have BK148 := n1_; have HB := n2_; clear n0_ n1_ n2_; (try clear hb); (try clear hb2); (try clear hk); (try clear hi); obtain ⟨hcz61_0, hcz61_1, hfz61_0⟩ := Fit.cells2 BK147.out; obtain ⟨hcz62_0, hcz62_1, hfz62_0⟩ := Fit.cells2 BK148.out) | (go_at_call 13; (with_reducible refine (addr_Within.calls a0_0 a0_1 a1_0 a1_1 t156 _ A37.out).mono ?_); rintro e w63 ⟨rfl, hb⟩; have n0_ := Aside0.mk (blk_below (g := gb147) (Fit.pk BK147.out) hb); have n1_ := Aside0.mk (blk_below (g := gb148) (Fit.pk BK148.out) hb); have n2_ := Aside0.mk (below_step (Fit.bl HB.out) hb); clear BK147; clear BK148; clear HB; have BK147 := n0_; have BK148 := n1_; have HB := n2_; clear n0_ n1_ n2_; (try clear hb); (try clear hb2); (try clear hk); (try clear hi); obtain ⟨hcz64_0, hcz64_1, hfz64_0⟩ := Fit.cells2 BK147.out; obtain ⟨hcz65_0, hcz65_1, hfz65_0⟩ := Fit.cells2 BK148.out) | (go_at_call 14; (with_reducible refine (patchbayref2_Below.calls kj26 a0_0 a0_1 a1_0 a1_1 t157 _ A39.out).mono ?_); rintro e w66 ⟨rfl, hb⟩; have n0_ := Aside0.mk (blk_below (g := gb147) (Fit.pk BK147.out) hb); have n1_ := Aside0.mk (blk_below (g := gb148) (Fit.pk BK148.out) hb); have n2_ := Aside0.mk (below_step (Fit.bl HB.out) hb); clear BK147; clear BK148; clear HB; have BK147 := n0_; have BK148 := n1_; have HB := n2_; clear n0_ n1_ n2_; (try clear hb); (try clear hb2); (try clear hk); (try clear hi)))
            go_ret
            exact ⟨by first | rfl | (simp [errW_none, errW_some] <;> rfl) | (simp [*, errW_none, errW_some] <;> rfl), Fit.bl HB.out⟩
          ·replace c38 := Bool.eq_false_iff.mpr c38
           subst c38
           have H1 : (if (t156 == false) = true then ((addr_Compare.f kj26 a0_0 a0_1 a1_0 a1_1).bind fun t159 => (some (t159 == x9_26))) else (some false)) = some r := by rw [if_neg (show ¬ (false = true) by decide)] at H; exact H
           clear H
           have H := H1
           clear H1
           by_cases c67 : (t156 == false) = true
           ·rw [if_pos c67] at H
            have c67b0 : (t156 == false) = true := c67
            (try (have c67b1 : decide (t156 = false) = true := by simpa using c67))
            (try (have c67b2 : (t156 == false) = true := by simpa using c67))
            clear c67
            replace H := Option.bind_eq_some_iff.mp H
            obtain ⟨t159, A680, H⟩ := H
            replace H : (some (t159 == x9_26)) = some r := H
            have A68 := Aside0.mk A680
            clear A680
            obtain rfl := Option.some.inj H
            have hnb69 := NB147_148.out
            have hnc69 := NB148_147.out
            obtain ⟨hcz70_0, hcz70_1, hfz70_0⟩ := Fit.cells2 BK147.out
            go_wp2_with (first | ((with_reducible refine gate_callee (f := 11) rfl ?_); refine goesL_ (some 29) rfl rfl Tryd.func11 (by kernel_rfl) rfl #[.agg #[.int .u32 a0_0, .int .i64 a0_1], .int .u32 a2] rfl (by (try simp only [List.map_toArray, List.map_cons, List.map_nil]); first | done | rfl | (simp only [List.length_drop, List.length_take]; rfl)) ?_; (with_reducible refine (addr_Has.calls a0_0 a0_1 a2 t154 _ A33.out).mono ?_); rintro e w71 ⟨rfl, hb⟩; refine ⟨_, rfl, ?_⟩; have n0_ := Aside0.mk (blk_below (g := gb147) (Fit.pk BK147.out) hb); have n1_ := Aside0.mk (blk_below (g := gb148) (Fit.pk BK148.out) hb); have n2_ := Aside0.mk (below_step (Fit.bl HB.out) hb); clear BK147; clear BK148; clear HB; have BK147 := n0_; have BK148 := n1_; have HB := n2_; clear n0_ n1_ n2_; (try clear hb); (try clear hb2); (try clear hk); (try clear hi); obtain ⟨hcz72_0, hcz72_1, hfz72_0⟩ := Fit.cells2 BK147.out) | (go_at_call 12; (with_reducible refine (patchbayref2_In.calls kj26 a0_0 a0_1 a2 t155 _ A35.out).mono ?_); rintro e w73 ⟨rfl, hb⟩; have n0_ := Aside0.mk (blk_below (g := gb147) (Fit.pk BK147.out) hb); have n1_ := Aside0.mk (blk_below (g := gb148) (Fit.pk BK148.out) hb); have n2_ := Aside0.mk (below_step (Fit.bl HB.out) hb); clear BK147; clear BK148; clear HB; have BK147 := n0_; have BK148 := n1_; have HB := n2_; clear n0_ n1_ n2_; (try clear hb); (try clear hb2); (try clear hk); (try clear hi); obtain ⟨hcz74_0, hcz74_1, hfz74_0⟩ := Fit.cells2 BK147.out; obtain ⟨hcz75_0, hcz75_1, hfz75_0⟩ := Fit.cells2 BK148.out) | (go_at_call 13; (with_reducible refine (addr_Within.calls a0_0 a0_1 a1_0 a1_1 t156 _ A37.out).mono ?_); rintro e w76 ⟨rfl, hb⟩; have n0_ := Aside0.mk (blk_below (g := gb147) (Fit.pk BK147.out) hb); have n1_ := Aside0.mk (blk_below (g := gb148) (Fit.pk BK148.out) hb); have n2_ := Aside0.mk (below_step (Fit.bl HB.out) hb); clear BK147; clear BK148; clear HB; have BK147 := n0_; have BK148 := n1_; have HB := n2_; clear n0_ n1_ n2_; (try clear hb); (try clear hb2); (try clear hk); (try clear hi); obtain ⟨hcz77_0, hcz77_1, hfz77_0⟩ := Fit.cells2 BK147.out; obtain ⟨hcz78_0, hcz78_1, hfz78_0⟩ := Fit.cells2 BK148.out) | (go_at_call 15; (with_reducible refine (addr_Compare.calls kj26 a0_0 a0_1 a1_0 a1_1 t159 _ A68.out).mono ?_); rintro e w79 ⟨rfl, hb⟩; have n0_ := Aside0.mk (blk_below (g := gb147) (Fit.pk BK147.out) hb); have n1_ := Aside0.mk (blk_below (g := gb148) (Fit.pk BK148.out) hb); have n2_ := Aside0.mk (below_step (Fit.bl HB.out) hb); clear BK147; clear BK148; clear HB; have BK147 := n0_; have BK148 := n1_; have HB := n2_; clear n0_ n1_ n2_; (try clear hb); (try clear hb2); (try clear hk); (try clear hi)))
            go_ret
            exact ⟨by first | rfl | (simp [errW_none, errW_some] <;> rfl) | (simp [*, errW_none, errW_some] <;> rfl), Fit.bl HB.out⟩
           ·rw [if_neg c67] at H
            have c67b0 : (t156 == false) = false := by simpa using c67
            (try (have c67b1 : decide (t156 = false) = false := by simpa using c67))
            (try (have c67b2 : (t156 == false) = false := by simpa using c67))
            (try (have c67b3 : ¬ (t156 = false) := by simpa using c67))
            clear c67
            obtain rfl := Option.some.inj H
            have hnb80 := NB147_148.out
            have hnc80 := NB148_147.out
            obtain ⟨hcz81_0, hcz81_1, hfz81_0⟩ := Fit.cells2 BK147.out
            go_wp2_with (first | ((with_reducible refine gate_callee (f := 11) rfl ?_); refine goesL_ (some 29) rfl rfl Tryd.func11 (by kernel_rfl) rfl #[.agg #[.int .u32 a0_0, .int .i64 a0_1], .int .u32 a2] rfl (by (try simp only [List.map_toArray, List.map_cons, List.map_nil]); first | done | rfl | (simp only [List.length_drop, List.length_take]; rfl)) ?_; (with_reducible refine (addr_Has.calls a0_0 a0_1 a2 t154 _ A33.out).mono ?_); rintro e w82 ⟨rfl, hb⟩; refine ⟨_, rfl, ?_⟩; have n0_ := Aside0.mk (blk_below (g := gb147) (Fit.pk BK147.out) hb); have n1_ := Aside0.mk (blk_below (g := gb148) (Fit.pk BK148.out) hb); have n2_ := Aside0.mk (below_step (Fit.bl HB.out) hb); clear BK147; clear BK148; clear HB; have BK147 := n0_; have BK148 := n1_; have HB := n2_; clear n0_ n1_ n2_; (try clear hb); (try clear hb2); (try clear hk); (try clear hi); obtain ⟨hcz83_0, hcz83_1, hfz83_0⟩ := Fit.cells2 BK147.out) | (go_at_call 12; (with_reducible refine (patchbayref2_In.calls kj26 a0_0 a0_1 a2 t155 _ A35.out).mono ?_); rintro e w84 ⟨rfl, hb⟩; have n0_ := Aside0.mk (blk_below (g := gb147) (Fit.pk BK147.out) hb); have n1_ := Aside0.mk (blk_below (g := gb148) (Fit.pk BK148.out) hb); have n2_ := Aside0.mk (below_step (Fit.bl HB.out) hb); clear BK147; clear BK148; clear HB; have BK147 := n0_; have BK148 := n1_; have HB := n2_; clear n0_ n1_ n2_; (try clear hb); (try clear hb2); (try clear hk); (try clear hi); obtain ⟨hcz85_0, hcz85_1, hfz85_0⟩ := Fit.cells2 BK147.out; obtain ⟨hcz86_0, hcz86_1, hfz86_0⟩ := Fit.cells2 BK148.out) | (go_at_call 13; (with_reducible refine (addr_Within.calls a0_0 a0_1 a1_0 a1_1 t156 _ A37.out).mono ?_); rintro e w87 ⟨rfl, hb⟩; have n0_ := Aside0.mk (blk_below (g := gb147) (Fit.pk BK147.out) hb); have n1_ := Aside0.mk (blk_below (g := gb148) (Fit.pk BK148.out) hb); have n2_ := Aside0.mk (below_step (Fit.bl HB.out) hb); clear BK147; clear BK148; clear HB; have BK147 := n0_; have BK148 := n1_; have HB := n2_; clear n0_ n1_ n2_; (try clear hb); (try clear hb2); (try clear hk); (try clear hi)))
            go_ret
            exact ⟨by first | rfl | (simp [errW_none, errW_some] <;> rfl) | (simp [*, errW_none, errW_some] <;> rfl), Fit.bl HB.out⟩
         ·rw [if_neg c36] at H
          have c36b0 : (t154 == t155) = false := by simpa using c36
          (try (have c36b1 : decide (t154 = t155) = false := by simpa using c36))
          (try (have c36b2 : (t154 == t155) = false := by simpa using c36))
          (try (have c36b3 : ¬ (t154 = t155) := by simpa using c36))
          clear c36
          obtain rfl := Option.some.inj H
          have hnb88 := NB147_148.out
          have hnc88 := NB148_147.out
          obtain ⟨hcz89_0, hcz89_1, hfz89_0⟩ := Fit.cells2 BK147.out
          go_wp2_with (first | ((with_reducible refine gate_callee (f := 11) rfl ?_); refine goesL_ (some 29) rfl rfl Tryd.func11 (by kernel_rfl) rfl #[.agg #[.int .u32 a0_0, .int .i64 a0_1], .int .u32 a2] rfl (by (try simp only [List.map_toArray, List.map_cons, List.map_nil]); first | done | rfl | (simp only [List.length_drop, List.length_take]; rfl)) ?_; (with_reducible refine (addr_Has.calls a0_0 a0_1 a2 t154 _ A33.out).mono ?_); rintro e w90 ⟨rfl, hb⟩; refine ⟨_, rfl, ?_⟩; have n0_ := Aside0.mk (blk_below (g := gb147) (Fit.pk BK147.out) hb); have n1_ := Aside0.mk (blk_below (g := gb148) (Fit.pk BK148.out) hb); have n2_ := Aside0.mk (below_step (Fit.bl HB.out) hb); clear BK147; clear BK148; clear HB; have BK147 := n0_; have BK148 := n1_; have HB := n2_; clear n0_ n1_ n2_; (try clear hb); (try clear hb2); (try clear hk); (try clear hi); obtain ⟨hcz91_0, hcz91_1, hfz91_0⟩ := Fit.cells2 BK147.out) | (go_at_call 12; (with_reducible refine (patchbayref2_In.calls kj26 a0_0 a0_1 a2 t155 _ A35.out).mono ?_); rintro e w92 ⟨rfl, hb⟩; have n0_ := Aside0.mk (blk_below (g := gb147) (Fit.pk BK147.out) hb); have n1_ := Aside0.mk (blk_below (g := gb148) (Fit.pk BK148.out) hb); have n2_ := Aside0.mk (below_step (Fit.bl HB.out) hb); clear BK147; clear BK148; clear HB; have BK147 := n0_; have BK148 := n1_; have HB := n2_; clear n0_ n1_ n2_; (try clear hb); (try clear hb2); (try clear hk); (try clear hi)))
          go_ret
          exact ⟨by first | rfl | (simp [errW_none, errW_some] <;> rfl) | (simp [*, errW_none, errW_some] <;> rfl), Fit.bl HB.out⟩
        ·rw [if_neg c34] at H
         have c34b0 : (t150 == 0) = false := by simpa using c34
         (try (have c34b1 : decide (t150 = 0) = false := by simpa using c34))
         (try (have c34b2 : (t150 == 0) = false := by simpa using c34))
         (try (have c34b3 : ¬ (t150 = 0) := by simpa using c34))
         clear c34
         by_cases c93 : (t154 == false) = true
         ·rw [if_pos c93] at H
          have c93b0 : (t154 == false) = true := c93
          (try (have c93b1 : decide (t154 = false) = true := by simpa using c93))
          (try (have c93b2 : (t154 == false) = true := by simpa using c93))
          clear c93
          replace H := Option.bind_eq_some_iff.mp H
          obtain ⟨t160, A940, H⟩ := H
          replace H : (if x8_6 = true then ((patchbayref2_Below.f kj26 a0_0 a0_1 a1_0 a1_1).bind fun t161 => (if (t160 == t161) = true then ((addr_Compare.f kj26 a0_0 a0_1 a1_0 a1_1).bind fun t162 => (some (t162 == x9_26))) else (some false))) else (if (t160 == false) = true then ((addr_Compare.f kj26 a0_0 a0_1 a1_0 a1_1).bind fun t163 => (some (t163 == x9_26))) else (some false))) = some r := H
          have A94 := Aside0.mk A940
          clear A940
          by_cases c95 : x8_6 = true
          ·subst c95
           have H1 : ((patchbayref2_Below.f kj26 a0_0 a0_1 a1_0 a1_1).bind fun t161 => (if (t160 == t161) = true then ((addr_Compare.f kj26 a0_0 a0_1 a1_0 a1_1).bind fun t162 => (some (t162 == x9_26))) else (some false))) = some r := by rw [if_pos rfl] at H; exact H
           clear H
           have H := H1
           clear H1
           replace H := Option.bind_eq_some_iff.mp H
           obtain ⟨t161, A960, H⟩ := H
           replace H : (if (t160 == t161) = true then ((addr_Compare.f kj26 a0_0 a0_1 a1_0 a1_1).bind fun t162 => (some (t162 == x9_26))) else (some false)) = some r := H
           have A96 := Aside0.mk A960
           clear A960
           by_cases c97 : (t160 == t161) = true
           ·rw [if_pos c97] at H
            have c97b0 : (t160 == t161) = true := c97
            (try (have c97b1 : decide (t160 = t161) = true := by simpa using c97))
            (try (have c97b2 : (t160 == t161) = true := by simpa using c97))
            clear c97
            replace H := Option.bind_eq_some_iff.mp H
            obtain ⟨t162, A980, H⟩ := H
            replace H : (some (t162 == x9_26)) = some r := H
            have A98 := Aside0.mk A980
            clear A980
            obtain rfl := Option.some.inj H
            have hnb99 := NB147_148.out
            have hnc99 := NB148_147.out
            obtain ⟨hcz100_0, hcz100_1, hfz100_0⟩ := Fit.cells2 BK147.out
            go_wp2_with (first | ((with_reducible refine gate_callee (f := 11) rfl ?_); refine goesL_ (some 29) rfl rfl Tryd.func11 (by kernel_rfl) rfl #[.agg #[.int .u32 a0_0, .int .i64 a0_1], .int .u32 a2] rfl (by (try simp only [List.map_toArray, List.map_cons, List.map_nil]); first | done | rfl | (simp only [List.length_drop, List.length_take]; rfl)) ?_; (with_reducible refine (addr_Has.calls a0_0 a0_1 a2 t154 _ A33.out).mono ?_); rintro e w101 ⟨rfl, hb⟩; refine ⟨_, rfl, ?_⟩; have n0_ := Aside0.mk (blk_below (g := gb147) (Fit.pk BK147.out) hb); have n1_ := Aside0.mk (blk_below (g := gb148) (Fit.pk BK148.out) hb); have n2_ := Aside0.mk (below_step (Fit.bl HB.out) hb); clear BK147; clear BK148; clear HB; have BK147 := n0_; have BK148 := n1_; have HB := n2_; clear n0_ n1_ n2_; (try clear hb); (try clear hb2); (try clear hk); (try clear hi); obtain ⟨hcz102_0, hcz102_1, hfz102_0⟩ := Fit.cells2 BK147.out; obtain ⟨hcz103_0, hcz103_1, hfz103_0⟩ := Fit.cells2 BK148.out) | (go_at_call 13; (with_reducible refine (addr_Within.calls a0_0 a0_1 a1_0 a1_1 t160 _ A94.out).mono ?_); rintro e w104 ⟨rfl, hb⟩; have n0_ := Aside0.mk (blk_below (g := gb147) (Fit.pk BK147.out) hb); have n1_ := Aside0.mk (blk_below (g := gb148) (Fit.pk BK148.out) hb); have n2_ := Aside0.mk (below_step (Fit.bl HB.out) hb); clear BK147; clear BK148; clear HB; have BK147 := n0_; have BK148 := n1_; have HB := n2_; clear n0_ n1_ n2_; (try clear hb); (try clear hb2); (try clear hk); (try clear hi); obtain ⟨hcz105_0, hcz105_1, hfz105_0⟩ := Fit.cells2 BK147.out; obtain ⟨hcz106_0, hcz106_1, hfz106_0⟩ := Fit.cells2 BK148.out) | (go_at_call 14; (with_reducible refine (patchbayref2_Below.calls kj26 a0_0 a0_1 a1_0 a1_1 t161 _ A96.out).mono ?_); rintro e w107 ⟨rfl, hb⟩; have n0_ := Aside0.mk (blk_below (g := gb147) (Fit.pk BK147.out) hb); have n1_ := Aside0.mk (blk_below (g := gb148) (Fit.pk BK148.out) hb); have n2_ := Aside0.mk (below_step (Fit.bl HB.out) hb); clear BK147; clear BK148; clear HB; have BK147 := n0_; have BK148 := n1_; have HB := n2_; clear n0_ n1_ n2_; (try clear hb); (try clear hb2); (try clear hk); (try clear hi); obtain ⟨hcz108_0, hcz108_1, hfz108_0⟩ := Fit.cells2 BK147.out; obtain ⟨hcz109_0, hcz109_1, hfz109_0⟩ := Fit.cells2 BK148.out) | (go_at_call 15; (with_reducible refine (addr_Compare.calls kj26 a0_0 a0_1 a1_0 a1_1 t162 _ A98.out).mono ?_); rintro e w110 ⟨rfl, hb⟩; have n0_ := Aside0.mk (blk_below (g := gb147) (Fit.pk BK147.out) hb); have n1_ := Aside0.mk (blk_below (g := gb148) (Fit.pk BK148.out) hb); have n2_ := Aside0.mk (below_step (Fit.bl HB.out) hb); clear BK147; clear BK148; clear HB; have BK147 := n0_; have BK148 := n1_; have HB := n2_; clear n0_ n1_ n2_; (try clear hb); (try clear hb2); (try clear hk); (try clear hi)))
            go_ret
            exact ⟨by first | rfl | (simp [errW_none, errW_some] <;> rfl) | (simp [*, errW_none, errW_some] <;> rfl), Fit.bl HB.out⟩
           ·rw [if_neg c97] at H
            have c97b0 : (t160 == t161) = false := by simpa using c97
            (try (have c97b1 : decide (t160 = t161) = false := by simpa using c97))
            (try (have c97b2 : (t160 == t161) = false := by simpa using c97))
            (try (have c97b3 : ¬ (t160 = t161) := by simpa using c97))
            clear c97
            obtain rfl := Option.some.inj H
            have hnb111 := NB147_148.out
            have hnc111 := NB148_147.out
            obtain ⟨hcz112_0, hcz112_1, hfz112_0⟩ := Fit.cells2 BK147.out
            go_wp2_with (first | ((with_reducible refine gate_callee (f := 11) rfl ?_); refine goesL_ (some 29) rfl rfl Tryd.func11 (by kernel_rfl) rfl #[.agg #[.int .u32 a0_0, .int .i64 a0_1], .int .u32 a2] rfl (by (try simp only [List.map_toArray, List.map_cons, List.map_nil]); first | done | rfl | (simp only [List.length_drop, List.length_take]; rfl)) ?_; (with_reducible refine (addr_Has.calls a0_0 a0_1 a2 t154 _ A33.out).mono ?_); rintro e w113 ⟨rfl, hb⟩; refine ⟨_, rfl, ?_⟩; have n0_ := Aside0.mk (blk_below (g := gb147) (Fit.pk BK147.out) hb); have n1_ := Aside0.mk (blk_below (g := gb148) (Fit.pk BK148.out) hb); have n2_ := Aside0.mk (below_step (Fit.bl HB.out) hb); clear BK147; clear BK148; clear HB; have BK147 := n0_; have BK148 := n1_; have HB := n2_; clear n0_ n1_ n2_; (try clear hb); (try clear hb2); (try clear hk); (try clear hi); obtain ⟨hcz114_0, hcz114_1, hfz114_0⟩ := Fit.cells2 BK147.out; obtain ⟨hcz115_0, hcz115_1, hfz115_0⟩ := Fit.cells2 BK148.out) | (go_at_call 13; (with_reducible refine (addr_Within.calls a0_0 a0_1 a1_0 a1_1 t160 _ A94.out).mono ?_); rintro e w116 ⟨rfl, hb⟩; have n0_ := Aside0.mk (blk_below (g := gb147) (Fit.pk BK147.out) hb); have n1_ := Aside0.mk (blk_below (g := gb148) (Fit.pk BK148.out) hb); have n2_ := Aside0.mk (below_step (Fit.bl HB.out) hb); clear BK147; clear BK148; clear HB; have BK147 := n0_; have BK148 := n1_; have HB := n2_; clear n0_ n1_ n2_; (try clear hb); (try clear hb2); (try clear hk); (try clear hi); obtain ⟨hcz117_0, hcz117_1, hfz117_0⟩ := Fit.cells2 BK147.out; obtain ⟨hcz118_0, hcz118_1, hfz118_0⟩ := Fit.cells2 BK148.out) | (go_at_call 14; (with_reducible refine (patchbayref2_Below.calls kj26 a0_0 a0_1 a1_0 a1_1 t161 _ A96.out).mono ?_); rintro e w119 ⟨rfl, hb⟩; have n0_ := Aside0.mk (blk_below (g := gb147) (Fit.pk BK147.out) hb); have n1_ := Aside0.mk (blk_below (g := gb148) (Fit.pk BK148.out) hb); have n2_ := Aside0.mk (below_step (Fit.bl HB.out) hb); clear BK147; clear BK148; clear HB; have BK147 := n0_; have BK148 := n1_; have HB := n2_; clear n0_ n1_ n2_; (try clear hb); (try clear hb2); (try clear hk); (try clear hi)))
            go_ret
            exact ⟨by first | rfl | (simp [errW_none, errW_some] <;> rfl) | (simp [*, errW_none, errW_some] <;> rfl), Fit.bl HB.out⟩
          ·replace c95 := Bool.eq_false_iff.mpr c95
           subst c95
           have H1 : (if (t160 == false) = true then ((addr_Compare.f kj26 a0_0 a0_1 a1_0 a1_1).bind fun t163 => (some (t163 == x9_26))) else (some false)) = some r := by rw [if_neg (show ¬ (false = true) by decide)] at H; exact H
           clear H
           have H := H1
           clear H1
           by_cases c120 : (t160 == false) = true
           ·rw [if_pos c120] at H
            have c120b0 : (t160 == false) = true := c120
            (try (have c120b1 : decide (t160 = false) = true := by simpa using c120))
            (try (have c120b2 : (t160 == false) = true := by simpa using c120))
            clear c120
            replace H := Option.bind_eq_some_iff.mp H
            obtain ⟨t163, A1210, H⟩ := H
            replace H : (some (t163 == x9_26)) = some r := H
            have A121 := Aside0.mk A1210
            clear A1210
            obtain rfl := Option.some.inj H
            have hnb122 := NB147_148.out
            have hnc122 := NB148_147.out
            obtain ⟨hcz123_0, hcz123_1, hfz123_0⟩ := Fit.cells2 BK147.out
            go_wp2_with (first | ((with_reducible refine gate_callee (f := 11) rfl ?_); refine goesL_ (some 29) rfl rfl Tryd.func11 (by kernel_rfl) rfl #[.agg #[.int .u32 a0_0, .int .i64 a0_1], .int .u32 a2] rfl (by (try simp only [List.map_toArray, List.map_cons, List.map_nil]); first | done | rfl | (simp only [List.length_drop, List.length_take]; rfl)) ?_; (with_reducible refine (addr_Has.calls a0_0 a0_1 a2 t154 _ A33.out).mono ?_); rintro e w124 ⟨rfl, hb⟩; refine ⟨_, rfl, ?_⟩; have n0_ := Aside0.mk (blk_below (g := gb147) (Fit.pk BK147.out) hb); have n1_ := Aside0.mk (blk_below (g := gb148) (Fit.pk BK148.out) hb); have n2_ := Aside0.mk (below_step (Fit.bl HB.out) hb); clear BK147; clear BK148; clear HB; have BK147 := n0_; have BK148 := n1_; have HB := n2_; clear n0_ n1_ n2_; (try clear hb); (try clear hb2); (try clear hk); (try clear hi); obtain ⟨hcz125_0, hcz125_1, hfz125_0⟩ := Fit.cells2 BK147.out; obtain ⟨hcz126_0, hcz126_1, hfz126_0⟩ := Fit.cells2 BK148.out) | (go_at_call 13; (with_reducible refine (addr_Within.calls a0_0 a0_1 a1_0 a1_1 t160 _ A94.out).mono ?_); rintro e w127 ⟨rfl, hb⟩; have n0_ := Aside0.mk (blk_below (g := gb147) (Fit.pk BK147.out) hb); have n1_ := Aside0.mk (blk_below (g := gb148) (Fit.pk BK148.out) hb); have n2_ := Aside0.mk (below_step (Fit.bl HB.out) hb); clear BK147; clear BK148; clear HB; have BK147 := n0_; have BK148 := n1_; have HB := n2_; clear n0_ n1_ n2_; (try clear hb); (try clear hb2); (try clear hk); (try clear hi); obtain ⟨hcz128_0, hcz128_1, hfz128_0⟩ := Fit.cells2 BK147.out; obtain ⟨hcz129_0, hcz129_1, hfz129_0⟩ := Fit.cells2 BK148.out) | (go_at_call 15; (with_reducible refine (addr_Compare.calls kj26 a0_0 a0_1 a1_0 a1_1 t163 _ A121.out).mono ?_); rintro e w130 ⟨rfl, hb⟩; have n0_ := Aside0.mk (blk_below (g := gb147) (Fit.pk BK147.out) hb); have n1_ := Aside0.mk (blk_below (g := gb148) (Fit.pk BK148.out) hb); have n2_ := Aside0.mk (below_step (Fit.bl HB.out) hb); clear BK147; clear BK148; clear HB; have BK147 := n0_; have BK148 := n1_; have HB := n2_; clear n0_ n1_ n2_; (try clear hb); (try clear hb2); (try clear hk); (try clear hi)))
            go_ret
            exact ⟨by first | rfl | (simp [errW_none, errW_some] <;> rfl) | (simp [*, errW_none, errW_some] <;> rfl), Fit.bl HB.out⟩
           ·rw [if_neg c120] at H
            have c120b0 : (t160 == false) = false := by simpa using c120
            (try (have c120b1 : decide (t160 = false) = false := by simpa using c120))
            (try (have c120b2 : (t160 == false) = false := by simpa using c120))
            (try (have c120b3 : ¬ (t160 = false) := by simpa using c120))
            clear c120
            obtain rfl := Option.some.inj H
            have hnb131 := NB147_148.out
            have hnc131 := NB148_147.out
            obtain ⟨hcz132_0, hcz132_1, hfz132_0⟩ := Fit.cells2 BK147.out
            go_wp2_with (first | ((with_reducible refine gate_callee (f := 11) rfl ?_); refine goesL_ (some 29) rfl rfl Tryd.func11 (by kernel_rfl) rfl #[.agg #[.int .u32 a0_0, .int .i64 a0_1], .int .u32 a2] rfl (by (try simp only [List.map_toArray, List.map_cons, List.map_nil]); first | done | rfl | (simp only [List.length_drop, List.length_take]; rfl)) ?_; (with_reducible refine (addr_Has.calls a0_0 a0_1 a2 t154 _ A33.out).mono ?_); rintro e w133 ⟨rfl, hb⟩; refine ⟨_, rfl, ?_⟩; have n0_ := Aside0.mk (blk_below (g := gb147) (Fit.pk BK147.out) hb); have n1_ := Aside0.mk (blk_below (g := gb148) (Fit.pk BK148.out) hb); have n2_ := Aside0.mk (below_step (Fit.bl HB.out) hb); clear BK147; clear BK148; clear HB; have BK147 := n0_; have BK148 := n1_; have HB := n2_; clear n0_ n1_ n2_; (try clear hb); (try clear hb2); (try clear hk); (try clear hi); obtain ⟨hcz134_0, hcz134_1, hfz134_0⟩ := Fit.cells2 BK147.out; obtain ⟨hcz135_0, hcz135_1, hfz135_0⟩ := Fit.cells2 BK148.out) | (go_at_call 13; (with_reducible refine (addr_Within.calls a0_0 a0_1 a1_0 a1_1 t160 _ A94.out).mono ?_); rintro e w136 ⟨rfl, hb⟩; have n0_ := Aside0.mk (blk_below (g := gb147) (Fit.pk BK147.out) hb); have n1_ := Aside0.mk (blk_below (g := gb148) (Fit.pk BK148.out) hb); have n2_ := Aside0.mk (below_step (Fit.bl HB.out) hb); clear BK147; clear BK148; clear HB; have BK147 := n0_; have BK148 := n1_; have HB := n2_; clear n0_ n1_ n2_; (try clear hb); (try clear hb2); (try clear hk); (try clear hi)))
            go_ret
            exact ⟨by first | rfl | (simp [errW_none, errW_some] <;> rfl) | (simp [*, errW_none, errW_some] <;> rfl), Fit.bl HB.out⟩
         ·rw [if_neg c93] at H
          have c93b0 : (t154 == false) = false := by simpa using c93
          (try (have c93b1 : decide (t154 = false) = false := by simpa using c93))
          (try (have c93b2 : (t154 == false) = false := by simpa using c93))
          (try (have c93b3 : ¬ (t154 = false) := by simpa using c93))
          clear c93
          obtain rfl := Option.some.inj H
          have hnb137 := NB147_148.out
          have hnc137 := NB148_147.out
          obtain ⟨hcz138_0, hcz138_1, hfz138_0⟩ := Fit.cells2 BK147.out
          go_wp2_with (first | ((with_reducible refine gate_callee (f := 11) rfl ?_); refine goesL_ (some 29) rfl rfl Tryd.func11 (by kernel_rfl) rfl #[.agg #[.int .u32 a0_0, .int .i64 a0_1], .int .u32 a2] rfl (by (try simp only [List.map_toArray, List.map_cons, List.map_nil]); first | done | rfl | (simp only [List.length_drop, List.length_take]; rfl)) ?_; (with_reducible refine (addr_Has.calls a0_0 a0_1 a2 t154 _ A33.out).mono ?_); rintro e w139 ⟨rfl, hb⟩; refine ⟨_, rfl, ?_⟩; have n0_ := Aside0.mk (blk_below (g := gb147) (Fit.pk BK147.out) hb); have n1_ := Aside0.mk (blk_below (g := gb148) (Fit.pk BK148.out) hb); have n2_ := Aside0.mk (below_step (Fit.bl HB.out) hb); clear BK147; clear BK148; clear HB; have BK147 := n0_; have BK148 := n1_; have HB := n2_; clear n0_ n1_ n2_; (try clear hb); (try clear hb2); (try clear hk); (try clear hi)))
          go_ret
          exact ⟨by first | rfl | (simp [errW_none, errW_some] <;> rfl) | (simp [*, errW_none, errW_some] <;> rfl), Fit.bl HB.out⟩
 ·replace c5 := Bool.eq_false_iff.mpr c5
  subst c5
  have H1 : (some false) = some r := by rw [if_neg (show ¬ (false = true) by decide)] at H; exact H
  clear H
  have H := H1
  clear H1
  obtain rfl := Option.some.inj H
  go_enter Tryd.func3, Tryd.ntmps3
  go_wp2_with (first | ((with_reducible refine gate_dst (N := 3) rfl ?_); refine box_event ?hg (N := 3) ?hd (cs := #[.int .u32 a0_0, .int .i64 a0_1]) (t := 24) ?hr ?_; (case hd => rfl); (case hg => rfl); (case hr => first | (go_simp; done) | (go_simp; rfl)); intro gb147 hg w140 hbox hb; have n0_ := Aside0.mk (below_step (Fit.bl HB.out) hb); have n1_ := Aside0.mk (hbox); have n2_ := Aside0.mk ((by rw [hg]; exact (below_size (Fit.bl HB.out)) : w.heap.size ≤ gb147)); have n3_ := Aside0.mk ((by rw [hg]; exact (below_size (Fit.bl HB.out)) : w.heap.size ≤ gb147)); clear HB; have HB := n0_; have BK147 := n1_; have GW147 := n2_; have GE147 := n3_; clear n0_ n1_ n2_ n3_; clear hb hbox hg) | ((with_reducible refine gate_dst (N := 4) rfl ?_); refine box_event ?hg (N := 4) ?hd (cs := #[.int .u32 a1_0, .int .i64 a1_1]) (t := 24) ?hr ?_; (case hd => rfl); (case hg => rfl); (case hr => first | (go_simp; done) | (go_simp; rfl)); intro gb148 hg w141 hbox hb; have n0_ := Aside0.mk (blk_below (g := gb147) (Fit.pk BK147.out) hb); have n1_ := Aside0.mk (below_step (Fit.bl HB.out) hb); have n2_ := Aside0.mk (hbox); have n3_ := Aside0.mk ((by rw [hg]; exact (below_size (Fit.bl HB.out)) : w.heap.size ≤ gb148)); have n4_ := Aside0.mk ((by rw [hg]; exact (below_size (Fit.bl HB.out)) : w.heap.size ≤ gb148)); have n5_ := Aside0.mk ((by rw [hg]; exact Nat.ne_of_lt (blk_lt (g := gb147) (Fit.pk BK147.out)) : gb147 ≠ gb148)); have n6_ := Aside0.mk ((by rw [hg]; exact Nat.ne_of_gt (blk_lt (g := gb147) (Fit.pk BK147.out)) : gb148 ≠ gb147)); clear BK147; clear HB; have BK147 := n0_; have HB := n1_; have BK148 := n2_; have GW148 := n3_; have GE148 := n4_; have NB147_148 := n5_; have NB148_147 := n6_; clear n0_ n1_ n2_ n3_ n4_ n5_ n6_; clear hb hbox hg) | ((with_reducible refine gate_callee (f := 8) rfl ?_); refine goesL_ (some 10) rfl rfl Tryd.func8 (by kernel_rfl) rfl #[] rfl (by (try simp only [List.map_toArray, List.map_cons, List.map_nil]); first | done | rfl | (simp only [List.length_drop, List.length_take]; rfl)) ?_; (with_reducible refine (patchbaylaw2_addrLives.calls k  false _ ?sideV A4.out).mono ?_); (case sideV => exact HV.out.on (Fit.bl HB.out)); rintro e w142 ⟨rfl, hb⟩; refine ⟨_, rfl, ?_⟩; have n0_ := Aside0.mk (blk_below (g := gb147) (Fit.pk BK147.out) hb); have n1_ := Aside0.mk (blk_below (g := gb148) (Fit.pk BK148.out) hb); have n2_ := Aside0.mk (below_step (Fit.bl HB.out) hb); clear BK147; clear BK148; clear HB; have BK147 := n0_; have BK148 := n1_; have HB := n2_; clear n0_ n1_ n2_; (try clear hb); (try clear hb2); (try clear hk); (try clear hi)))
  go_ret
  exact ⟨by first | rfl | (simp [errW_none, errW_some] <;> rfl) | (simp [*, errW_none, errW_some] <;> rfl), Fit.bl HB.out⟩


end Go.Proofs.YtbdcaadehfbnbaaDoor.GAddrHolds
