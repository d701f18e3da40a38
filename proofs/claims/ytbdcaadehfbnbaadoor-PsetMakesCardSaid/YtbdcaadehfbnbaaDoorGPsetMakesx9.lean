-- a text that a program of this session wrote
import Derived.Test.YtbdcaadehfbnbaaDoorGPsetMakesx0
import Derived.Test.YtbdcaadehfbnbaaDoorGPsetMakesx5
import Derived.Test.YtbdcaadehfbnbaaDoorGPsetMakesx6
import Derived.Test.YtbdcaadehfbnbaaDoorQTz
import Derived.Test.YtbdcaadehfbnbaaDoorQCk
namespace Go.Proofs.YtbdcaadehfbnbaaDoor.GPsetMakes
open Go.RowKit Go.Proofs.YtbdcaadehfbnbaaDoorW.PrintWords Go.Proofs.YtbdcaadehfbnbaaDoorW.PrintLast Go.Proofs.YtbdcaadehfbnbaaDoorW.PrintMore
attribute [local go_sem] max2_int min2_int max_two min_two max_three min_three max_four min_four   -- for this text's walks alone
attribute [local go_sem high] Go.Proofs.YtbdcaadehfbnbaaDoor.Fit.run_string_add_fit
set_option linter.unusedVariables false
set_option linter.unusedSimpArgs false

/-! ### patchbayref2_within: function 54 -/
mutual
def patchbayref2_within.j0 : Nat → Int → Int → Int → Bool → Int → Int → Option ((List (S24)))
 | 0, _, _, _, _, _, _ => none
 | k + 1, x1, x2, x7, x18, x282000, x282001 => if x18 = true then (some ([] : List (S24))) else (if x1 ≤ x282000 then (patchbayref2_within.j1 k x1 x2 (decide (x7 ≤ x2)) x282000 x282001) else (patchbayref2_within.j1 k x1 x2 false x282000 x282001))
def patchbayref2_within.j1 : Nat → Int → Int → Bool → Int → Int → Option ((List (S24)))
 | 0, _, _, _, _, _ => none
 | k + 1, x1, x2, x28, x282000, x282001 => if x28 = true then (some (([(⟨x282000, x282001⟩ : S24)] : List (S24)))) else ((patchbayref2_halves.f k x282000 x282001).bind fun bt286 => ((some (([] : List (S24)) : List (S24))).bind fun y292 => ((patchbayref2_within.f k bt286.1 bt286.2.1 x1 x2).bind fun t295 => (if y292.length + t295.length < 8796093022208 then ((some (y292 ++ t295 : List (S24))).bind fun y298 => ((patchbayref2_within.f k bt286.2.2.1 bt286.2.2.2 x1 x2).bind fun t301 => (if y298.length + t301.length < 8796093022208 then (some (y298 ++ t301)) else (none)))) else (none)))))
def patchbayref2_within.f : Nat → Int → Int → Int → Int → Option ((List (S24)))
 | 0, _, _, _, _ => none
 | k + 1, a0_0, a0_1, a1, a2 => (patchbayref2_Block.f k a0_1).bind fun t282 => (if ((a0_0 + (IntKind.u64.wrap (t282 - 1))) % 4294967296) < a1 then (patchbayref2_within.j0 k a1 a2 ((a0_0 + (IntKind.u64.wrap (t282 - 1))) % 4294967296) true a0_0 a0_1) else (patchbayref2_within.j0 k a1 a2 ((a0_0 + (IntKind.u64.wrap (t282 - 1))) % 4294967296) (decide (a0_0 > a2)) a0_0 a0_1))
end
theorem patchbayref2_within.mono_l : ∀ k, (∀ y0 y1 y2 y3, LeO (patchbayref2_within.f k y0 y1 y2 y3) (patchbayref2_within.f (k + 1) y0 y1 y2 y3)) ∧ (∀ y0 y1 y2 y3 y4 y5, LeO (patchbayref2_within.j0 k y0 y1 y2 y3 y4 y5) (patchbayref2_within.j0 (k + 1) y0 y1 y2 y3 y4 y5)) ∧ (∀ y0 y1 y2 y3 y4, LeO (patchbayref2_within.j1 k y0 y1 y2 y3 y4) (patchbayref2_within.j1 (k + 1) y0 y1 y2 y3 y4))
 | 0 => ⟨fun _ _ _ _ r h => by simp [patchbayref2_within.f] at h, fun _ _ _ _ _ _ r h => by simp [patchbayref2_within.j0] at h, fun _ _ _ _ _ r h => by simp [patchbayref2_within.j1] at h⟩
 | k + 1 => by
  obtain ⟨ih0, ih1, ih2⟩ := patchbayref2_within.mono_l k
  refine ⟨?_, ?_, ?_⟩
  ·intro y0 y1 y2 y3
   unfold patchbayref2_within.f
   repeat' first
   | (with_reducible exact ih0 _ _ _ _)
   | (with_reducible exact ih1 _ _ _ _ _ _)
   | (with_reducible exact ih2 _ _ _ _ _)
   | (with_reducible exact patchbayref2_Block.mono _ _)
   | (with_reducible exact patchbayref2_halves.mono _ _ _)
   | (with_reducible exact LeO.refl _)
   | (with_reducible exact LeO.none _)
   | (with_reducible refine LeO.ite ?_ ?_)
   | (with_reducible refine LeO.bind ?_ (fun _ => ?_))
   | exact ih0 _ _ _ _
   | exact ih1 _ _ _ _ _ _
   | exact ih2 _ _ _ _ _
   | exact patchbayref2_Block.mono _ _
   | exact patchbayref2_halves.mono _ _ _
   | exact LeO.none _
   | refine LeO.ite ?_ ?_
   | refine LeO.bind ?_ (fun _ => ?_)
  ·intro y0 y1 y2 y3 y4 y5
   unfold patchbayref2_within.j0
   repeat' first
   | (with_reducible exact ih0 _ _ _ _)
   | (with_reducible exact ih1 _ _ _ _ _ _)
   | (with_reducible exact ih2 _ _ _ _ _)
   | (with_reducible exact patchbayref2_Block.mono _ _)
   | (with_reducible exact patchbayref2_halves.mono _ _ _)
   | (with_reducible exact LeO.refl _)
   | (with_reducible exact LeO.none _)
   | (with_reducible refine LeO.ite ?_ ?_)
   | (with_reducible refine LeO.bind ?_ (fun _ => ?_))
   | exact ih0 _ _ _ _
   | exact ih1 _ _ _ _ _ _
   | exact ih2 _ _ _ _ _
   | exact patchbayref2_Block.mono _ _
   | exact patchbayref2_halves.mono _ _ _
   | exact LeO.none _
   | refine LeO.ite ?_ ?_
   | refine LeO.bind ?_ (fun _ => ?_)
  ·intro y0 y1 y2 y3 y4
   unfold patchbayref2_within.j1
   repeat' first
   | (with_reducible exact ih0 _ _ _ _)
   | (with_reducible exact ih1 _ _ _ _ _ _)
   | (with_reducible exact ih2 _ _ _ _ _)
   | (with_reducible exact patchbayref2_Block.mono _ _)
   | (with_reducible exact patchbayref2_halves.mono _ _ _)
   | (with_reducible exact LeO.refl _)
   | (with_reducible exact LeO.none _)
   | (with_reducible refine LeO.ite ?_ ?_)
   | (with_reducible refine LeO.bind ?_ (fun _ => ?_))
   | exact ih0 _ _ _ _
   | exact ih1 _ _ _ _ _ _
   | exact ih2 _ _ _ _ _
   | exact patchbayref2_Block.mono _ _
   | exact patchbayref2_halves.mono _ _ _
   | exact LeO.none _
   | refine LeO.ite ?_ ?_
   | refine LeO.bind ?_ (fun _ => ?_)
theorem patchbayref2_within.mono : ∀ a0 a1 a2 a3 k, LeO (patchbayref2_within.f k a0 a1 a2 a3) (patchbayref2_within.f (k + 1) a0 a1 a2 a3) := by
 intro a0 a1 a2 a3 k
 obtain ⟨ih0, ih1, ih2⟩ := patchbayref2_within.mono_l k
 exact ih0 a0 a1 a2 a3
def patchbayref2_within.T1 : Bool × List (List Nat × List Nat) := (true, [([], []), ([0], [0]), ([], []), ([2], [2]), ([3], [3]), ([4], [4]), ([5], [5]), ([1, 6], [1, 6]), ([7, 4, 0, 1, 2, 3, 4, 5, 6, 7], [7])])
def patchbayref2_within.B1 : List Nat := [0, 1, 0, 4, 12, 28, 60, 127, 255]
theorem patchbayref2_within.tab1 : rtab .any (opsOf Tryd.f54 1) = patchbayref2_within.T1 := by kernel_rfl
theorem patchbayref2_within.bits1 : waitsOk patchbayref2_within.T1.2 patchbayref2_within.B1 = true := by kernel_rfl
def patchbayref2_within.T7 : Bool × List (List Nat × List Nat) := (true, [([], []), ([], []), ([], []), ([], []), ([1, 2, 3], [1, 2, 3]), ([0, 4, 4], [0, 4]), ([], []), ([], []), ([], []), ([6, 7, 8, 5], [6, 7, 8]), ([5, 9, 9], [5, 9]), ([10, 10, 0, 1, 2, 3, 4, 5, 6, 7, 8, 9, 10], [10])])
def patchbayref2_within.B7 : List Nat := [0, 0, 0, 0, 14, 31, 0, 0, 0, 511, 1023, 2047]
theorem patchbayref2_within.tab7 : rtab .any (opsOf Tryd.f54 7) = patchbayref2_within.T7 := by kernel_rfl
theorem patchbayref2_within.bits7 : waitsOk patchbayref2_within.T7.2 patchbayref2_within.B7 = true := by kernel_rfl
set_option maxHeartbeats 8000000 in
set_option maxRecDepth 100000 in
theorem patchbayref2_within.calls (k : Nat) : ∀ (a0_0 : Int) (a0_1 : Int) (a1 : Int) (a2 : Int) (r : List (S24)) (w : World) (h : patchbayref2_within.f k a0_0 a0_1 a1 a2 = some r),
  Calls Tryd.prog 54 #[.agg #[.int .u32 a0_0, .int .i64 a0_1], .int .u32 a1, .int .u32 a2] w fun e w' => ∃ v0_ : Value, e = .returned (v0_) ∧ Kd.R k24 24 w' w.heap.size (fun _ => True) v0_ r ∧ Below w.heap.size w w' := by
 induction k using Nat.strongRecOn with
 | _ k ih =>
 intro a0_0 a0_1 a1 a2 r w h
 cases k with
 | zero => exact absurd h (by simp [patchbayref2_within.f])
 | succ k =>
 simp only [patchbayref2_within.f] at h
 have hu24 := Tryd.underlying24
 have HB := Aside0.mk (Below.refl w.heap.size w)
 have H : ((patchbayref2_Block.f k a0_1).bind fun t282 => (if ((a0_0 + (IntKind.u64.wrap (t282 - 1))) % 4294967296) < a1 then (patchbayref2_within.j0 k a1 a2 ((a0_0 + (IntKind.u64.wrap (t282 - 1))) % 4294967296) true a0_0 a0_1) else (patchbayref2_within.j0 k a1 a2 ((a0_0 + (IntKind.u64.wrap (t282 - 1))) % 4294967296) (decide (a0_0 > a2)) a0_0 a0_1))) = some r := h
 clear h
 replace H := Option.bind_eq_some_iff.mp H
 obtain ⟨t282, A40, H⟩ := H
 replace H : (if ((a0_0 + (IntKind.u64.wrap (t282 - 1))) % 4294967296) < a1 then (patchbayref2_within.j0 k a1 a2 ((a0_0 + (IntKind.u64.wrap (t282 - 1))) % 4294967296) true a0_0 a0_1) else (patchbayref2_within.j0 k a1 a2 ((a0_0 + (IntKind.u64.wrap (t282 - 1))) % 4294967296) (decide (a0_0 > a2)) a0_0 a0_1)) = some r := H
 have A4 := Aside0.mk A40
 clear A40
 have HC5 := Aside0.mk H
 clear H
 go_enter Tryd.func54, Tryd.ntmps54
 try go_wp2_with (first | ((with_reducible refine gate_dst (N := 3) rfl ?_); refine box_event ?hg (N := 3) ?hd (cs := #[.int .u32 a0_0, .int .i64 a0_1]) (t := 24) ?hr ?_; (case hd => rfl); (case hg => rfl); (case hr => first | (go_simp; done) | (go_simp; rfl)); intro gb281 hg w6 hbox hb; have n0_ := Aside0.mk (below_step (Fit.bl HB.out) hb); have n1_ := Aside0.mk (hbox); have n2_ := Aside0.mk ((by rw [hg]; exact (below_size (Fit.bl HB.out)) : w.heap.size ≤ gb281)); have n3_ := Aside0.mk ((by rw [hg]; exact (below_size (Fit.bl HB.out)) : w.heap.size ≤ gb281)); clear HB; have HB := n0_; have BK281 := n1_; have GW281 := n2_; have GE281 := n3_; clear n0_ n1_ n2_ n3_; clear hb hbox hg))
 have n0_ := Aside0.mk (blk_drew BK281.out)
 have n1_ := Aside0.mk (below_drew1 HB.out)
 clear BK281
 clear HB
 have BK281 := n0_
 have HB := n1_
 clear n0_ n1_
 refine start_ (n := 9) (S := fun w' => w'.cell? ⟨gb281, 0, none⟩ = some (.int .u32 a0_0) ∧ w'.cell? ⟨gb281, 1, none⟩ = some (.int .i64 a0_1)) (ds := []) #[false, false, false, false, false, false, false, false, false] (by kernel_rfl) rfl rfl ⟨(blk_cell BK281.out 0).trans rfl, (blk_cell BK281.out 1).trans rfl⟩ (fun hHeld => ?_); refine with_tabW patchbayref2_within.tab1 patchbayref2_within.bits1 (fun HT_ HW_ => ?_)
 generalize w6.drew = w7 at BK281 HB hHeld ⊢
 refine pure_ (i := 0) (N := some 10) (v := ?_) (a' := ?_) #[true, false, false, false, false, false, false, false, false] rfl rfl (any_of HT_.out (by kernel_rfl)) (fun _ _ _ h => h) (Or.inl ⟨by rfl, ?_⟩) ?_ ?_
 rotate_left
 ·intro w'
  go_simp
  with_reducible rfl
 rotate_left
 ·simp only [Act.put, List.setIfInBounds_toArray, List.set_cons_zero, List.set_cons_succ, i64_w, i32_w]
  rfl
 refine pure_ (i := 2) (N := some 12) (v := ?_) (a' := ?_) #[true, false, true, false, false, false, false, false, false] rfl rfl (any_of HT_.out (by kernel_rfl)) (fun _ _ _ h => h) (Or.inl ⟨by rfl, ?_⟩) ?_ ?_
 rotate_left
 ·intro w'
  go_simp
  with_reducible rfl
 rotate_left
 ·simp only [Act.put, List.setIfInBounds_toArray, List.set_cons_zero, List.set_cons_succ, i64_w, i32_w]
  rfl
 refine take_ (i := 1) (N := some 11) (v := ?_) (a' := ?_) #[true, true, true, false, false, false, false, false, false] rfl rfl (take_ofW HT_.out HW_.out (by kernel_rfl)) (fun _ _ _ h => h) (Or.inl ⟨by rfl, ?_⟩) hHeld ?_ ?_
 rotate_left
 ·rintro w' ⟨s0, s1⟩
  go_simp
  with_reducible rfl
 rotate_left
 ·simp only [Act.put, List.setIfInBounds_toArray, List.set_cons_zero, List.set_cons_succ, i64_w, i32_w]
  rfl
 refine take_ (i := 3) (N := some 13) (v := ?_) (a' := ?_) #[true, true, true, true, false, false, false, false, false] rfl rfl (take_ofW HT_.out HW_.out (by kernel_rfl)) (fun _ _ _ h => h) (Or.inl ⟨by rfl, ?_⟩) hHeld ?_ ?_
 rotate_left
 ·rintro w' ⟨s0, s1⟩
  go_simp
  with_reducible rfl
 rotate_left
 ·simp only [Act.put, List.setIfInBounds_toArray, List.set_cons_zero, List.set_cons_succ, i64_w, i32_w]
  rfl
 refine one_ (i := 4) (N := some 14) #[true, true, true, true, true, false, false, false, false] rfl rfl (one_of HT_.out (by kernel_rfl)) (by decide) (fun K hK => ?_)
 refine goes_ Tryd.func44 (by kernel_rfl) rfl #[.int .i64 a0_1] (by rfl) rfl rfl (by (try simp only [List.map_toArray, List.map_cons, List.map_nil]); first | done | rfl | (simp only [List.length_drop, List.length_take]; rfl)) ?_
 with_reducible refine (patchbayref2_Block.calls k a0_1 t282 _ A4.out).mono ?_
 rintro e w' ⟨rfl, ⟨nd, rfl⟩⟩
 refine ⟨_, rfl, ?_⟩
 refine hK.out _ _ ⟨(blk_cell BK281.out 0).trans rfl, (blk_cell BK281.out 1).trans rfl⟩ (fun hHeld => ?_)
 clear hK K
 refine norm_ (a' := ?_) ?_ ?_
 rotate_left
 ·show Act.put _ (some 14) _ = _
  simp only [Act.put, List.setIfInBounds_toArray, List.set_cons_zero, List.set_cons_succ, i64_w, i32_w]
  rfl
 refine pure_ (i := 5) (N := some 15) (v := ?_) (a' := ?_) #[true, true, true, true, true, true, false, false, false] rfl rfl (any_of HT_.out (by kernel_rfl)) (fun _ _ _ h => h) (Or.inl ⟨by rfl, ?_⟩) ?_ ?_
 rotate_left
 ·intro w'
  go_simp
  with_reducible rfl
 rotate_left
 ·simp only [Act.put, List.setIfInBounds_toArray, List.set_cons_zero, List.set_cons_succ, i64_w, i32_w]
  rfl
 refine pure_ (i := 6) (N := some 16) (v := ?_) (a' := ?_) #[true, true, true, true, true, true, true, false, false] rfl rfl (any_of HT_.out (by kernel_rfl)) (fun _ _ _ h => h) (Or.inl ⟨by rfl, ?_⟩) ?_ ?_
 rotate_left
 ·intro w'
  go_simp
  with_reducible rfl
 rotate_left
 ·simp only [Act.put, List.setIfInBounds_toArray, List.set_cons_zero, List.set_cons_succ, i64_w, i32_w]
  rfl
 refine pure_ (i := 7) (N := some 17) (v := ?_) (a' := ?_) #[true, true, true, true, true, true, true, true, false] rfl rfl (any_of HT_.out (by kernel_rfl)) (fun _ _ _ h => h) (Or.inl ⟨by rfl, ?_⟩) ?_ ?_
 rotate_left
 ·intro w'
  go_simp
  with_reducible rfl
 rotate_left
 ·simp only [Act.put, List.setIfInBounds_toArray, List.set_cons_zero, List.set_cons_succ, i64_w, i32_w]
  rfl
 refine pure_ (i := 8) (N := some 7) (v := ?_) (a' := ?_) #[true, true, true, true, true, true, true, true, true] rfl rfl (any_of HT_.out (by kernel_rfl)) (fun _ _ _ h => h) (Or.inl ⟨by rfl, ?_⟩) ?_ ?_
 rotate_left
 ·intro w'
  go_simp
  with_reducible rfl
 rotate_left
 ·simp only [Act.put, List.setIfInBounds_toArray, List.set_cons_zero, List.set_cons_succ, i64_w, i32_w]
  rfl
 refine done_ (done_of HT_.out (by kernel_rfl)) ?_
 go_upto_region 2 with (fail)
 have hw_ : IntKind.u32.wrap (a0_0 + IntKind.u32.wrap (IntKind.u64.wrap (t282 - 1))) = (a0_0 + IntKind.u64.wrap (t282 - 1)) % 4294967296 := by rw [IntKind.wrap_u32, IntKind.wrap_u32]; omega
 rw [hw_]
 clear hw_
 go_cut [18] (fun v18 wc => ∃ (kq : Nat) (x18_4 : Bool), v18 = .bool x18_4 ∧ Aside0 (patchbayref2_within.j0 kq a1 a2 ((a0_0 + (IntKind.u64.wrap (t282 - 1))) % 4294967296) x18_4 a0_0 a0_1 = some r) ∧ Aside0 (kq ≤ k) ∧ Aside0 (wc.heap[gb281]? = some (.cells #[.int .u32 a0_0, .int .i64 a0_1] 24 (0, 0))) ∧ Aside0 (Below w.heap.size w wc))
 case first =>
  have H := HC5.out
  clear HC5
  by_cases c8 : ((a0_0 + (IntKind.u64.wrap (t282 - 1))) % 4294967296) < a1
  ·rw [if_pos c8] at H
   have c8b0 : decide (((a0_0 + (IntKind.u64.wrap (t282 - 1))) % 4294967296) < a1) = true := decide_eq_true c8
   clear c8
   (first | rw [c8b0] | (simp only [i64_w, i32_w]; rw [c8b0]) | skip)
   have H' := Aside0.mk H
   clear H
   go_wp2
   go_meet
   case rel => exact ⟨_, (true), (by first | rfl | (simp; done) | (simp [*]; done)), H', ⟨by first | omega | exact Nat.le_refl _⟩, ⟨by (with_reducible repeat first | apply blk_drewN | apply blk_drew | apply blk_alloc); exact BK281.out⟩, ⟨Fit.bl HB.out⟩⟩
  ·rw [if_neg c8] at H
   have c8b0 : decide (((a0_0 + (IntKind.u64.wrap (t282 - 1))) % 4294967296) < a1) = false := decide_eq_false c8
   clear c8
   (first | rw [c8b0] | (simp only [i64_w, i32_w]; rw [c8b0]) | skip)
   have H' := Aside0.mk H
   clear H
   obtain ⟨hcz9_0, hcz9_1, hfz9_0⟩ := Fit.cells2 BK281.out
   go_wp2
   go_meet
   case rel => exact ⟨_, (decide (a0_0 > a2)), (by first | rfl | (simp; done) | (simp [*]; done)), H', ⟨by first | omega | exact Nat.le_refl _⟩, ⟨by (with_reducible repeat first | apply blk_drewN | apply blk_drew | apply blk_alloc); exact BK281.out⟩, ⟨Fit.bl HB.out⟩⟩
 case rest =>
  clear HC5
  try clear p2
  try clear c4
  try clear c5
  try clear c8
  try clear c8b0
  try clear hcz9_0
  try clear hcz9_1
  try clear hfz9_0
  obtain ⟨kq, x18_4, rfl, HA, HJ4, BK281, HB⟩ := hcut
  cases kq with
  | zero => exact absurd HA.out (by simp [patchbayref2_within.j0])
  | succ kj4 =>
   have H := HA.out
   clear HA
   simp only [patchbayref2_within.j0] at H
   by_cases c10 : x18_4 = true
   ·subst c10
    have H1 : (some ([] : List (S24))) = some r := by rw [if_pos rfl] at H; exact H
    clear H
    have H := H1
    clear H1
    obtain rfl := Option.some.inj H
    go_wp2
    go_ret
    exact ⟨_, by first | rfl | (simp [errW_none, errW_some] <;> rfl) | (simp [*, errW_none, errW_some] <;> rfl), by first | exact Kd.R_nil _ _ _ _ _ | exact Kd.N_nil _ _ _ _ _ | exact Kd.V_nil _ _ _ _ _ | exact Kd.Q_nil _ _ _ _ _ | exact Kd.S_nil _ _ _ _ _, Fit.bl HB.out⟩
   ·replace c10 := Bool.eq_false_iff.mpr c10
    subst c10
    have H1 : (if a1 ≤ a0_0 then (patchbayref2_within.j1 kj4 a1 a2 (decide (((a0_0 + (IntKind.u64.wrap (t282 - 1))) % 4294967296) ≤ a2)) a0_0 a0_1) else (patchbayref2_within.j1 kj4 a1 a2 false a0_0 a0_1)) = some r := by rw [if_neg (show ¬ (false = true) by decide)] at H; exact H
    clear H
    have H := H1
    clear H1
    have HC11 := Aside0.mk H
    clear H
    go_upto_region 4 with (fail)
    go_cut [28] (fun v28 wc => ∃ (kq : Nat) (x28_10 : Bool), v28 = .bool x28_10 ∧ Aside0 (patchbayref2_within.j1 kq a1 a2 x28_10 a0_0 a0_1 = some r) ∧ Aside0 (kq ≤ kj4) ∧ Aside0 (wc.heap[gb281]? = some (.cells #[.int .u32 a0_0, .int .i64 a0_1] 24 (0, 0))) ∧ Aside0 (Below w.heap.size w wc))
    case first =>
     have H := HC11.out
     clear HC11
     by_cases c12 : a1 ≤ a0_0
     ·rw [if_pos c12] at H
      have c12b0 : decide (a1 ≤ a0_0) = true := decide_eq_true c12
      clear c12
      (first | rw [c12b0] | (simp only [i64_w, i32_w]; rw [c12b0]) | skip)
      have H' := Aside0.mk H
      clear H
      obtain ⟨hcz13_0, hcz13_1, hfz13_0⟩ := Fit.cells2 BK281.out
      go_wp2
      go_meet
      case rel => exact ⟨_, (decide (((a0_0 + (IntKind.u64.wrap (t282 - 1))) % 4294967296) ≤ a2)), (by first | rfl | (simp; done) | (simp [*]; done)), H', ⟨by have := HJ4.out; first | omega | exact Nat.le_refl _⟩, ⟨by (with_reducible repeat first | apply blk_drewN | apply blk_drew | apply blk_alloc); exact BK281.out⟩, ⟨Fit.bl HB.out⟩⟩
     ·rw [if_neg c12] at H
      have c12b0 : decide (a1 ≤ a0_0) = false := decide_eq_false c12
      clear c12
      (first | rw [c12b0] | (simp only [i64_w, i32_w]; rw [c12b0]) | skip)
      have H' := Aside0.mk H
      clear H
      obtain ⟨hcz14_0, hcz14_1, hfz14_0⟩ := Fit.cells2 BK281.out
      go_wp2
      go_meet
      case rel => exact ⟨_, (false), (by first | rfl | (simp; done) | (simp [*]; done)), H', ⟨by have := HJ4.out; first | omega | exact Nat.le_refl _⟩, ⟨by (with_reducible repeat first | apply blk_drewN | apply blk_drew | apply blk_alloc); exact BK281.out⟩, ⟨Fit.bl HB.out⟩⟩
    case rest =>
     clear HC11
     try clear c1
     try clear p2
     try clear c4
     try clear c5
     try clear c8
     try clear c8b0
     try clear c10
     try clear c12
     try clear c12b0
     try clear hcz13_0
     try clear hcz13_1
     try clear hcz14_0
     try clear hcz14_1
     try clear hcz9_0
     try clear hcz9_1
     try clear hfz13_0
     try clear hfz14_0
     try clear hfz9_0
     try clear p2
     obtain ⟨kq, x28_10, rfl, HA, HJ10, BK281, HB⟩ := hcut
     cases kq with
     | zero => exact absurd HA.out (by simp [patchbayref2_within.j1])
     | succ kj10 =>
      have H := HA.out
      clear HA
      simp only [patchbayref2_within.j1] at H
      by_cases c15 : x28_10 = true
      ·subst c15
       have H1 : (some (([(⟨a0_0, a0_1⟩ : S24)] : List (S24)))) = some r := by rw [if_pos rfl] at H; exact H
       clear H
       have H := H1
       clear H1
       obtain ⟨y283, hy283⟩ : ∃ y_ : List (S24), y_ = (([(⟨a0_0, a0_1⟩ : S24)] : List (S24))) := ⟨_, rfl⟩
       replace H : (some y283) = some r := by first | (rw [hy283]; with_reducible exact H) | (have H2_ := (Option.bind_some _ _).symm.trans H; rw [hy283]; with_reducible exact H2_) | (have H2_ := (Option.bind_some _ _).symm.trans H; with_reducible exact H2_) | with_reducible exact H | (rw [hy283]; exact H) | exact H
       have Ny283 := Aside0.mk hy283
       clear hy283
       obtain rfl := Option.some.inj H
       obtain ⟨hcz16_0, hcz16_1, hfz16_0⟩ := Fit.cells2 BK281.out
       go_wp2_with (first | ((with_reducible refine gate_dst (N := 39) rfl ?_); refine Kd.R_lit k24 _ 24 ?hg (N := 39) ?hd (xs := ([(⟨a0_0, a0_1⟩ : S24)] : List (S24))) (inner := [.int .u32 a0_0, .int .i64 a0_1]) (ok := fun _ => True) (okp := fun _ => True) ?hr ?hp (fun _ hk => hk) trivial (Below.refl _ _) (Nat.le_refl _) (by simp) ?_; (case hd => rfl); (case hg => rfl); (case hr => first | (go_simp; done) | (go_simp; rfl)); (case hp => exact (Reps.c2 (show Kd.M k24 _ _ _ (⟨a0_0, a0_1⟩ : S24) [.int .u32 a0_0, .int .i64 a0_1] from (k24_mkM _ _ _ (⟨a0_0, a0_1⟩ : S24) )) (Reps.none _ _))); intro v284 w17 ho18 hb hg_ hnew_; clear hg_ hnew_; (first | rw [← Ny283.out] at ho18 | (simp only [Int.reduceToNat] at ho18; rw [← Ny283.out] at ho18)); have n0_ := Aside0.mk (Kd.R_lower (Kd.R_newB ho18 (g := gb281) (o := .cells #[.int .u32 a0_0, .int .i64 a0_1] 24 (0, 0)) (Fit.pk BK281.out)) (below_size (Fit.bl HB.out))); have n1_ := Aside0.mk (blk_below (g := gb281) (Fit.pk BK281.out) hb); have n2_ := Aside0.mk (below_step (Fit.bl HB.out) hb); clear BK281; clear HB; have HO285 := n0_; have BK281 := n1_; have HB := n2_; clear n0_ n1_ n2_; clear hb ho18))
       go_ret
       exact ⟨_, by first | rfl | (simp [errW_none, errW_some] <;> rfl) | (simp [*, errW_none, errW_some] <;> rfl), by (with_reducible repeat (first | apply Kd.R_alloc | apply Kd.R_drewN | apply Kd.R_drew)); exact Kd.R_mono HO285.out (fun _ hk => trivial), Fit.bl HB.out⟩
      ·replace c15 := Bool.eq_false_iff.mpr c15
       subst c15
       have H1 : ((patchbayref2_halves.f kj10 a0_0 a0_1).bind fun bt286 => ((some (([] : List (S24)) : List (S24))).bind fun y292 => ((patchbayref2_within.f kj10 bt286.1 bt286.2.1 a1 a2).bind fun t295 => (if y292.length + t295.length < 8796093022208 then ((some (y292 ++ t295 : List (S24))).bind fun y298 => ((patchbayref2_within.f kj10 bt286.2.2.1 bt286.2.2.2 a1 a2).bind fun t301 => (if y298.length + t301.length < 8796093022208 then (some (y298 ++ t301)) else (none)))) else (none))))) = some r := by rw [if_neg (show ¬ (false = true) by decide)] at H; exact H
       clear H
       have H := H1
       clear H1
       replace H := Option.bind_eq_some_iff.mp H
       obtain ⟨⟨t286, t287, t288, t289⟩, A190, H⟩ := H
       replace H : ((some (([] : List (S24)) : List (S24))).bind fun y292 => ((patchbayref2_within.f kj10 t286 t287 a1 a2).bind fun t295 => (if y292.length + t295.length < 8796093022208 then ((some (y292 ++ t295 : List (S24))).bind fun y298 => ((patchbayref2_within.f kj10 t288 t289 a1 a2).bind fun t301 => (if y298.length + t301.length < 8796093022208 then (some (y298 ++ t301)) else (none)))) else (none)))) = some r := H
       have A19 := Aside0.mk A190
       clear A190
       obtain ⟨y292, hy292⟩ : ∃ y_ : List (S24), y_ = (([] : List (S24))) := ⟨_, rfl⟩
       replace H : ((patchbayref2_within.f kj10 t286 t287 a1 a2).bind fun t295 => (if y292.length + t295.length < 8796093022208 then ((some (y292 ++ t295 : List (S24))).bind fun y298 => ((patchbayref2_within.f kj10 t288 t289 a1 a2).bind fun t301 => (if y298.length + t301.length < 8796093022208 then (some (y298 ++ t301)) else (none)))) else (none))) = some r := by first | (rw [hy292]; with_reducible exact H) | (have H2_ := (Option.bind_some _ _).symm.trans H; rw [hy292]; with_reducible exact H2_) | (have H2_ := (Option.bind_some _ _).symm.trans H; with_reducible exact H2_) | with_reducible exact H | (rw [hy292]; exact H) | exact H
       have Ny292 := Aside0.mk hy292
       clear hy292
       replace H := Option.bind_eq_some_iff.mp H
       obtain ⟨t295, A200, H⟩ := H
       replace H : (if y292.length + t295.length < 8796093022208 then ((some (y292 ++ t295 : List (S24))).bind fun y298 => ((patchbayref2_within.f kj10 t288 t289 a1 a2).bind fun t301 => (if y298.length + t301.length < 8796093022208 then (some (y298 ++ t301)) else (none)))) else (none)) = some r := H
       have A20 := Aside0.mk A200
       clear A200
       by_cases c21 : y292.length + t295.length < 8796093022208
       ·rw [if_pos c21] at H
        have LMc21 := Aside0.mk c21
        clear c21
        obtain ⟨y298, hy298⟩ : ∃ y_ : List (S24), y_ = (y292 ++ t295) := ⟨_, rfl⟩
        replace H : ((patchbayref2_within.f kj10 t288 t289 a1 a2).bind fun t301 => (if y298.length + t301.length < 8796093022208 then (some (y298 ++ t301)) else (none))) = some r := by first | (rw [hy298]; with_reducible exact H) | (have H2_ := (Option.bind_some _ _).symm.trans H; rw [hy298]; with_reducible exact H2_) | (have H2_ := (Option.bind_some _ _).symm.trans H; with_reducible exact H2_) | with_reducible exact H | (rw [hy298]; exact H) | exact H
        have Ny298 := Aside0.mk hy298
        clear hy298
        replace H := Option.bind_eq_some_iff.mp H
        obtain ⟨t301, A220, H⟩ := H
        replace H : (if y298.length + t301.length < 8796093022208 then (some (y298 ++ t301)) else (none)) = some r := H
        have A22 := Aside0.mk A220
        clear A220
        by_cases c23 : y298.length + t301.length < 8796093022208
        ·rw [if_pos c23] at H
         have LMc23 := Aside0.mk c23
         clear c23
         obtain ⟨y304, hy304⟩ : ∃ y_ : List (S24), y_ = (y298 ++ t301) := ⟨_, rfl⟩
         replace H : (some y304) = some r := by first | (rw [hy304]; with_reducible exact H) | (have H2_ := (Option.bind_some _ _).symm.trans H; rw [hy304]; with_reducible exact H2_) | (have H2_ := (Option.bind_some _ _).symm.trans H; with_reducible exact H2_) | with_reducible exact H | (rw [hy304]; exact H) | exact H
         have Ny304 := Aside0.mk hy304
         clear hy304
         obtain rfl := Option.some.inj H
         obtain ⟨hcz24_0, hcz24_1, hfz24_0⟩ := Fit.cells2 BK281.out
         try go_wp2_with (first | ((with_reducible refine gate_callee (f := 75) rfl ?_); refine goesL_ (some 42) rfl rfl Tryd.func75 (by kernel_rfl) rfl #[.agg #[.int .u32 a0_0, .int .i64 a0_1]] rfl (by (try simp only [List.map_toArray, List.map_cons, List.map_nil]); first | done | rfl | (simp only [List.length_drop, List.length_take]; rfl)) ?_; (with_reducible refine (patchbayref2_halves.calls kj10 a0_0 a0_1 t286 t287 t288 t289 _ A19.out).mono ?_); rintro e w25 ⟨rfl, hb⟩; refine ⟨_, rfl, ?_⟩; have n0_ := Aside0.mk (blk_below (g := gb281) (Fit.pk BK281.out) hb); have n1_ := Aside0.mk (below_step (Fit.bl HB.out) hb); clear BK281; clear HB; have BK281 := n0_; have HB := n1_; clear n0_ n1_; (try clear hb); (try clear hb2); (try clear hk); (try clear hi)) | ((with_reducible refine gate_dst (N := 8) rfl ?_); refine box_event ?hg (N := 8) ?hd (cs := #[.int .u32 0, .int .i64 0]) (t := 24) ?hr ?_; (case hd => rfl); (case hg => rfl); (case hr => first | (go_simp; done) | (go_simp; rfl)); intro gb290 hg w26 hbox hb; have n0_ := Aside0.mk (blk_below (g := gb281) (Fit.pk BK281.out) hb); have n1_ := Aside0.mk (below_step (Fit.bl HB.out) hb); have n2_ := Aside0.mk (hbox); have n3_ := Aside0.mk ((by rw [hg]; exact (below_size (Fit.bl HB.out)) : w.heap.size ≤ gb290)); have n4_ := Aside0.mk ((by rw [hg]; exact (below_size (Fit.bl HB.out)) : w.heap.size ≤ gb290)); have n5_ := Aside0.mk ((by rw [hg]; exact Nat.ne_of_lt (blk_lt (g := gb281) (Fit.pk BK281.out)) : gb281 ≠ gb290)); have n6_ := Aside0.mk ((by rw [hg]; exact Nat.ne_of_gt (blk_lt (g := gb281) (Fit.pk BK281.out)) : gb290 ≠ gb281)); clear BK281; clear HB; have BK281 := n0_; have HB := n1_; have BK290 := n2_; have GW290 := n3_; have GE290 := n4_; have NB281_290 := n5_; have NB290_281 := n6_; clear n0_ n1_ n2_ n3_ n4_ n5_ n6_; clear hb hbox hg) | ((with_reducible refine gate_dst (N := 9) rfl ?_); refine box_event ?hg (N := 9) ?hd (cs := #[.int .u32 0, .int .i64 0]) (t := 24) ?hr ?_; (case hd => rfl); (case hg => rfl); (case hr => first | (go_simp; done) | (go_simp; rfl)); intro gb291 hg w27 hbox hb; have n0_ := Aside0.mk (blk_below (g := gb281) (Fit.pk BK281.out) hb); have n1_ := Aside0.mk (blk_below (g := gb290) (Fit.pk BK290.out) hb); have n2_ := Aside0.mk (below_step (Fit.bl HB.out) hb); have n3_ := Aside0.mk (hbox); have n4_ := Aside0.mk ((by rw [hg]; exact (below_size (Fit.bl HB.out)) : w.heap.size ≤ gb291)); have n5_ := Aside0.mk ((by rw [hg]; exact (below_size (Fit.bl HB.out)) : w.heap.size ≤ gb291)); have n6_ := Aside0.mk ((by rw [hg]; exact Nat.ne_of_lt (blk_lt (g := gb281) (Fit.pk BK281.out)) : gb281 ≠ gb291)); have n7_ := Aside0.mk ((by rw [hg]; exact Nat.ne_of_gt (blk_lt (g := gb281) (Fit.pk BK281.out)) : gb291 ≠ gb281)); have n8_ := Aside0.mk ((by rw [hg]; exact Nat.ne_of_lt (blk_lt (g := gb290) (Fit.pk BK290.out)) : gb290 ≠ gb291)); have n9_ := Aside0.mk ((by rw [hg]; exact Nat.ne_of_gt (blk_lt (g := gb290) (Fit.pk BK290.out)) : gb291 ≠ gb290)); clear BK281; clear BK290; clear HB; have BK281 := n0_; have BK290 := n1_; have HB := n2_; have BK291 := n3_; have GW291 := n4_; have GE291 := n5_; have NB281_291 := n6_; have NB291_281 := n7_; have NB290_291 := n8_; have NB291_290 := n9_; clear n0_ n1_ n2_ n3_ n4_ n5_ n6_ n7_ n8_ n9_; clear hb hbox hg; have hnb28 := NB290_281.out; have hnc28 := NB281_290.out; have hnb29 := NB290_291.out; have hnc29 := NB291_290.out; obtain ⟨hcz30_0, hcz30_1, hfz30_0⟩ := Fit.cells2 BK290.out; have hnb31 := NB291_281.out; have hnc31 := NB281_291.out; obtain ⟨hcz32_0, hcz32_1, hfz32_0⟩ := Fit.cells2 BK291.out))
         have n0_ : Aside0 (((((w27.setCell ⟨gb290, 0, none⟩ (.int .u32 t286)).setCell ⟨gb290, 1, none⟩ (.int .i64 t287)).setCell ⟨gb291, 0, none⟩ (.int .u32 t288)).setCell ⟨gb291, 1, none⟩ (.int .i64 t289)).heap[gb281]? = some (.cells #[.int .u32 a0_0, .int .i64 a0_1] 24 (0, 0))) := ⟨by (with_reducible repeat first | apply blk_drewN | apply blk_drew | apply blk_alloc); refine blk_far ?_ NB281_291.out _; (with_reducible repeat first | apply blk_drewN | apply blk_drew | apply blk_alloc); refine blk_far ?_ NB281_291.out _; (with_reducible repeat first | apply blk_drewN | apply blk_drew | apply blk_alloc); refine blk_far ?_ NB281_290.out _; (with_reducible repeat first | apply blk_drewN | apply blk_drew | apply blk_alloc); refine blk_far ?_ NB281_290.out _; (with_reducible repeat first | apply blk_drewN | apply blk_drew | apply blk_alloc); exact BK281.out⟩
         have n1_ : Aside0 (((((w27.setCell ⟨gb290, 0, none⟩ (.int .u32 t286)).setCell ⟨gb290, 1, none⟩ (.int .i64 t287)).setCell ⟨gb291, 0, none⟩ (.int .u32 t288)).setCell ⟨gb291, 1, none⟩ (.int .i64 t289)).heap[gb290]? = some (.cells #[.int .u32 t286, .int .i64 t287] 24 (0, 0))) := ⟨by (with_reducible repeat first | apply blk_drewN | apply blk_drew | apply blk_alloc); refine blk_far ?_ NB290_291.out _; (with_reducible repeat first | apply blk_drewN | apply blk_drew | apply blk_alloc); refine blk_far ?_ NB290_291.out _; (with_reducible repeat first | apply blk_drewN | apply blk_drew | apply blk_alloc); refine blk_put (cs := #[.int .u32 t286, .int .i64 0]) ?_ 1 _ rfl; (with_reducible repeat first | apply blk_drewN | apply blk_drew | apply blk_alloc); refine blk_put (cs := #[.int .u32 0, .int .i64 0]) ?_ 0 _ rfl; (with_reducible repeat first | apply blk_drewN | apply blk_drew | apply blk_alloc); exact BK290.out⟩
         have n2_ : Aside0 (((((w27.setCell ⟨gb290, 0, none⟩ (.int .u32 t286)).setCell ⟨gb290, 1, none⟩ (.int .i64 t287)).setCell ⟨gb291, 0, none⟩ (.int .u32 t288)).setCell ⟨gb291, 1, none⟩ (.int .i64 t289)).heap[gb291]? = some (.cells #[.int .u32 t288, .int .i64 t289] 24 (0, 0))) := ⟨by (with_reducible repeat first | apply blk_drewN | apply blk_drew | apply blk_alloc); refine blk_put (cs := #[.int .u32 t288, .int .i64 0]) ?_ 1 _ rfl; (with_reducible repeat first | apply blk_drewN | apply blk_drew | apply blk_alloc); refine blk_put (cs := #[.int .u32 0, .int .i64 0]) ?_ 0 _ rfl; (with_reducible repeat first | apply blk_drewN | apply blk_drew | apply blk_alloc); refine blk_far ?_ NB291_290.out _; (with_reducible repeat first | apply blk_drewN | apply blk_drew | apply blk_alloc); refine blk_far ?_ NB291_290.out _; (with_reducible repeat first | apply blk_drewN | apply blk_drew | apply blk_alloc); exact BK291.out⟩
         have n3_ : Aside0 (Below w.heap.size w ((((w27.setCell ⟨gb290, 0, none⟩ (.int .u32 t286)).setCell ⟨gb290, 1, none⟩ (.int .i64 t287)).setCell ⟨gb291, 0, none⟩ (.int .u32 t288)).setCell ⟨gb291, 1, none⟩ (.int .i64 t289))) := ⟨Fit.bl HB.out⟩
         (try clear BK281)
         (try clear BK290)
         (try clear BK291)
         (try clear HB)
         generalize ((((w27.setCell ⟨gb290, 0, none⟩ (.int .u32 t286)).setCell ⟨gb290, 1, none⟩ (.int .i64 t287)).setCell ⟨gb291, 0, none⟩ (.int .u32 t288)).setCell ⟨gb291, 1, none⟩ (.int .i64 t289)) = w33 at n0_ n1_ n2_ n3_ ⊢
         have BK281 := n0_
         have BK290 := n1_
         have BK291 := n2_
         have HB := n3_
         clear n0_ n1_ n2_ n3_
         have n0_ := Aside0.mk (blk_drew BK281.out)
         have n1_ := Aside0.mk (blk_drew BK290.out)
         have n2_ := Aside0.mk (blk_drew BK291.out)
         have n3_ := Aside0.mk (below_drew1 HB.out)
         clear BK281
         clear BK290
         clear BK291
         clear HB
         have BK281 := n0_
         have BK290 := n1_
         have BK291 := n2_
         have HB := n3_
         clear n0_ n1_ n2_ n3_
         refine start_ (n := 12) (S := fun w' => w'.cell? ⟨gb290, 0, none⟩ = some (.int .u32 t286) ∧ w'.cell? ⟨gb290, 1, none⟩ = some (.int .i64 t287) ∧ w'.cell? ⟨gb291, 0, none⟩ = some (.int .u32 t288) ∧ w'.cell? ⟨gb291, 1, none⟩ = some (.int .i64 t289)) (ds := []) #[false, false, false, false, false, false, false, false, false, false, false, false] (by kernel_rfl) rfl rfl ⟨(blk_cell BK290.out 0).trans rfl, (blk_cell BK290.out 1).trans rfl, (blk_cell BK291.out 0).trans rfl, (blk_cell BK291.out 1).trans rfl⟩ (fun hHeld => ?_); refine with_tabW patchbayref2_within.tab7 patchbayref2_within.bits7 (fun HT_ HW_ => ?_)
         generalize w33.drew = w34 at BK281 BK290 BK291 HB hHeld ⊢
         refine pure_ (i := 2) (N := some 47) (v := ?_) (a' := ?_) #[false, false, true, false, false, false, false, false, false, false, false, false] rfl rfl (any_of HT_.out (by kernel_rfl)) (fun _ _ _ h => h) (Or.inl ⟨by rfl, ?_⟩) ?_ ?_
         rotate_left
         ·intro w'
          go_simp
          with_reducible rfl
         rotate_left
         ·simp only [Act.put, List.setIfInBounds_toArray, List.set_cons_zero, List.set_cons_succ, i64_w, i32_w]
          rfl
         refine pure_ (i := 3) (N := some 48) (v := ?_) (a' := ?_) #[false, false, true, true, false, false, false, false, false, false, false, false] rfl rfl (any_of HT_.out (by kernel_rfl)) (fun _ _ _ h => h) (Or.inl ⟨by rfl, ?_⟩) ?_ ?_
         rotate_left
         ·intro w'
          go_simp
          with_reducible rfl
         rotate_left
         ·simp only [Act.put, List.setIfInBounds_toArray, List.set_cons_zero, List.set_cons_succ, i64_w, i32_w]
          rfl
         refine pure_ (i := 7) (N := some 52) (v := ?_) (a' := ?_) #[false, false, true, true, false, false, false, true, false, false, false, false] rfl rfl (any_of HT_.out (by kernel_rfl)) (fun _ _ _ h => h) (Or.inl ⟨by rfl, ?_⟩) ?_ ?_
         rotate_left
         ·intro w'
          go_simp
          with_reducible rfl
         rotate_left
         ·simp only [Act.put, List.setIfInBounds_toArray, List.set_cons_zero, List.set_cons_succ, i64_w, i32_w]
          rfl
         refine pure_ (i := 8) (N := some 53) (v := ?_) (a' := ?_) #[false, false, true, true, false, false, false, true, true, false, false, false] rfl rfl (any_of HT_.out (by kernel_rfl)) (fun _ _ _ h => h) (Or.inl ⟨by rfl, ?_⟩) ?_ ?_
         rotate_left
         ·intro w'
          go_simp
          with_reducible rfl
         rotate_left
         ·simp only [Act.put, List.setIfInBounds_toArray, List.set_cons_zero, List.set_cons_succ, i64_w, i32_w]
          rfl
         refine take_ (i := 1) (N := some 46) (v := ?_) (a' := ?_) #[false, true, true, true, false, false, false, true, true, false, false, false] rfl rfl (take_ofW HT_.out HW_.out (by kernel_rfl)) (fun _ _ _ h => h) (Or.inl ⟨by rfl, ?_⟩) hHeld ?_ ?_
         rotate_left
         ·rintro w' ⟨s0, s1, s2, s3⟩
          go_simp
          with_reducible rfl
         rotate_left
         ·simp only [Act.put, List.setIfInBounds_toArray, List.set_cons_zero, List.set_cons_succ, i64_w, i32_w]
          rfl
         refine take_ (i := 6) (N := some 51) (v := ?_) (a' := ?_) #[false, true, true, true, false, false, true, true, true, false, false, false] rfl rfl (take_ofW HT_.out HW_.out (by kernel_rfl)) (fun _ _ _ h => h) (Or.inl ⟨by rfl, ?_⟩) hHeld ?_ ?_
         rotate_left
         ·rintro w' ⟨s0, s1, s2, s3⟩
          go_simp
          with_reducible rfl
         rotate_left
         ·simp only [Act.put, List.setIfInBounds_toArray, List.set_cons_zero, List.set_cons_succ, i64_w, i32_w]
          rfl
         refine join_ (σ := Value × Value) 4 #[true, true, true, true, true, false, true, true, true, false, false, false] (fun s_ => [(45, s_.1), (49, s_.2)]) (fun s_ w' => (w'.cell? ⟨gb290, 0, none⟩ = some (.int .u32 t286) ∧ w'.cell? ⟨gb290, 1, none⟩ = some (.int .i64 t287) ∧ w'.cell? ⟨gb291, 0, none⟩ = some (.int .u32 t288) ∧ w'.cell? ⟨gb291, 1, none⟩ = some (.int .i64 t289)) ∧ (Kd.R k24 24 w' w.heap.size (fun k_ => some k_ ≠ (s_.2 : Value).ownBlock ∧ k_ ≠ gb281 ∧ k_ ≠ gb290 ∧ k_ ≠ gb291) s_.1 y292) ∧ (Kd.R k24 24 w' w.heap.size (fun k_ => some k_ ≠ (s_.1 : Value).ownBlock ∧ k_ ≠ gb281 ∧ k_ ≠ gb290 ∧ k_ ≠ gb291) s_.2 t295) ∧ (w'.heap[gb281]? = some (.cells #[.int .u32 a0_0, .int .i64 a0_1] 24 (0, 0))) ∧ (w'.heap[gb290]? = some (.cells #[.int .u32 t286, .int .i64 t287] 24 (0, 0))) ∧ (w'.heap[gb291]? = some (.cells #[.int .u32 t288, .int .i64 t289] 24 (0, 0))) ∧ (Below w.heap.size w w')) ?_ ?_
         rotate_left
         ·intro hCont
          refine two_ (i := 0) (j := 4) (Ni := some 45) (Nj := some 49) #[true, true, true, true, false, false, true, true, true, false, false, false] #[false, true, true, true, true, false, true, true, true, false, false, false] rfl rfl rfl rfl (two_of HT_.out (by kernel_rfl)) (by decide) (by decide) (fun K hK => ?_) (fun K hK => ?_)
          ·skip
           refine Kd.R_lit_step k24 _ 24 ?hg (N := 45) ?hd (xs := ([] : List (S24))) (inner := []) (ok := fun _ => True) (okp := fun _ => True) ?hr ?hp (fun _ hk => hk) trivial (Below.refl _ _) (Nat.le_refl _) (by simp) ?_; (case hd => rfl); (case hg => rfl); (case hr => first | (go_simp; done) | (go_simp; rfl)); (case hp => exact (Reps.none _ _))
           intro v293 w35 ho36 hb hg_ hnew_
           clear hg_ hnew_
           (first | rw [← Ny292.out] at ho36 | (simp only [Int.reduceToNat] at ho36; rw [← Ny292.out] at ho36))
           have n0_ := Aside0.mk (Kd.R_lower (Kd.R_newB (Kd.R_newB (Kd.R_newB ho36 (g := gb281) (o := .cells #[.int .u32 a0_0, .int .i64 a0_1] 24 (0, 0)) (Fit.pk BK281.out)) (g := gb290) (o := .cells #[.int .u32 t286, .int .i64 t287] 24 (0, 0)) (Fit.pk BK290.out)) (g := gb291) (o := .cells #[.int .u32 t288, .int .i64 t289] 24 (0, 0)) (Fit.pk BK291.out)) (below_size (Fit.bl HB.out)))
           have n1_ := Aside0.mk (blk_below (g := gb281) (Fit.pk BK281.out) hb)
           have n2_ := Aside0.mk (blk_below (g := gb290) (Fit.pk BK290.out) hb)
           have n3_ := Aside0.mk (blk_below (g := gb291) (Fit.pk BK291.out) hb)
           have n4_ := Aside0.mk (below_step (Fit.bl HB.out) hb)
           clear BK281
           clear BK290
           clear BK291
           clear HB
           have HO294 := n0_
           have BK281 := n1_
           have BK290 := n2_
           have BK291 := n3_
           have HB := n4_
           clear n0_ n1_ n2_ n3_ n4_
           clear hb ho36
           refine hK.out _ _ ⟨(blk_cell BK290.out 0).trans rfl, (blk_cell BK290.out 1).trans rfl, (blk_cell BK291.out 0).trans rfl, (blk_cell BK291.out 1).trans rfl⟩ (fun hHeld => ?_)
           clear hK K
           refine norm_ (a' := ?_) ?_ ?_
           rotate_left
           ·show Act.put _ (some 45) _ = _
            simp only [Act.put, List.setIfInBounds_toArray, List.set_cons_zero, List.set_cons_succ, i64_w, i32_w]
            rfl
           refine one_ (i := 4) (N := some 49) #[true, true, true, true, true, false, true, true, true, false, false, false] rfl rfl (one_of HT_.out (by kernel_rfl)) (by decide) (fun K hK => ?_)
           refine goes_ Tryd.func54 (by kernel_rfl) rfl #[.agg #[.int .u32 t286, .int .i64 t287], .int .u32 a1, .int .u32 a2] (by rfl) rfl rfl (by (try simp only [List.map_toArray, List.map_cons, List.map_nil]); first | done | rfl | (simp only [List.length_drop, List.length_take]; rfl)) ?_
           with_reducible refine (ih kj10 (by have := HJ4.out; have := HJ10.out; omega) t286 t287 a1 a2 t295 _ A20.out).mono ?_
           rintro e w37 ⟨v296, rfl, ho0, hb⟩
           refine ⟨_, rfl, ?_⟩
           have n0_ := Aside0.mk (Kd.R_elder' (by (with_reducible repeat (first | apply Kd.R_alloc | apply Kd.R_drewN | apply Kd.R_drew)); exact HO294.out) (Kd.R_base ho0) hb)
           have n1_ := Aside0.mk (Kd.R_lower (Kd.R_newB (Kd.R_newB (Kd.R_newB (Kd.R_new' ho0 (Kd.R_lt (by (with_reducible repeat (first | apply Kd.R_alloc | apply Kd.R_drewN | apply Kd.R_drew)); exact HO294.out))) (g := gb281) (o := .cells #[.int .u32 a0_0, .int .i64 a0_1] 24 (0, 0)) (Fit.pk BK281.out)) (g := gb290) (o := .cells #[.int .u32 t286, .int .i64 t287] 24 (0, 0)) (Fit.pk BK290.out)) (g := gb291) (o := .cells #[.int .u32 t288, .int .i64 t289] 24 (0, 0)) (Fit.pk BK291.out)) (below_size (Fit.bl HB.out)))
           have n2_ := Aside0.mk (blk_below (g := gb281) (Fit.pk BK281.out) hb)
           have n3_ := Aside0.mk (blk_below (g := gb290) (Fit.pk BK290.out) hb)
           have n4_ := Aside0.mk (blk_below (g := gb291) (Fit.pk BK291.out) hb)
           have n5_ := Aside0.mk (below_step (Fit.bl HB.out) hb)
           clear HO294
           clear BK281
           clear BK290
           clear BK291
           clear HB
           have HO294 := n0_
           have HO297 := n1_
           have BK281 := n2_
           have BK290 := n3_
           have BK291 := n4_
           have HB := n5_
           clear n0_ n1_ n2_ n3_ n4_ n5_
           (try clear hb)
           (try clear hb2)
           (try clear hk)
           (try clear hi)
           (try clear ho0)
           refine hK.out _ _ ⟨(blk_cell BK290.out 0).trans rfl, (blk_cell BK290.out 1).trans rfl, (blk_cell BK291.out 0).trans rfl, (blk_cell BK291.out 1).trans rfl⟩ (fun hHeld => ?_)
           clear hK K
           refine norm_ (a' := ?_) ?_ ?_
           rotate_left
           ·show Act.put _ (some 49) _ = _
            simp only [Act.put, List.setIfInBounds_toArray, List.set_cons_zero, List.set_cons_succ, i64_w, i32_w]
            rfl
           exact norm_ (by simp only [putAll, Act.put, List.setIfInBounds_toArray, List.set_cons_zero, List.set_cons_succ]) (hCont (v293, v296) _ ⟨hHeld, (by (with_reducible repeat (first | apply Kd.R_alloc | apply Kd.R_drewN | apply Kd.R_drew)); exact Kd.R_mono HO294.out (fun _ hk => ⟨hk.2, ⟨hk.1.1.1.2, ⟨hk.1.1.2, hk.1.2⟩⟩⟩)), (by (with_reducible repeat (first | apply Kd.R_alloc | apply Kd.R_drewN | apply Kd.R_drew)); exact Kd.R_mono HO297.out (fun _ hk => ⟨hk.1.1.1.2, ⟨hk.1.1.2, ⟨hk.1.2, hk.2⟩⟩⟩)), (Fit.pk BK281.out), (Fit.pk BK290.out), (Fit.pk BK291.out), (Fit.bl HB.out)⟩)
          ·skip
           refine goes_ Tryd.func54 (by kernel_rfl) rfl #[.agg #[.int .u32 t286, .int .i64 t287], .int .u32 a1, .int .u32 a2] (by rfl) rfl rfl (by (try simp only [List.map_toArray, List.map_cons, List.map_nil]); first | done | rfl | (simp only [List.length_drop, List.length_take]; rfl)) ?_
           with_reducible refine (ih kj10 (by have := HJ4.out; have := HJ10.out; omega) t286 t287 a1 a2 t295 _ A20.out).mono ?_
           rintro e w35 ⟨v296, rfl, ho0, hb⟩
           refine ⟨_, rfl, ?_⟩
           have n0_ := Aside0.mk (Kd.R_lower (Kd.R_newB (Kd.R_newB (Kd.R_newB ho0 (g := gb281) (o := .cells #[.int .u32 a0_0, .int .i64 a0_1] 24 (0, 0)) (Fit.pk BK281.out)) (g := gb290) (o := .cells #[.int .u32 t286, .int .i64 t287] 24 (0, 0)) (Fit.pk BK290.out)) (g := gb291) (o := .cells #[.int .u32 t288, .int .i64 t289] 24 (0, 0)) (Fit.pk BK291.out)) (below_size (Fit.bl HB.out)))
           have n1_ := Aside0.mk (blk_below (g := gb281) (Fit.pk BK281.out) hb)
           have n2_ := Aside0.mk (blk_below (g := gb290) (Fit.pk BK290.out) hb)
           have n3_ := Aside0.mk (blk_below (g := gb291) (Fit.pk BK291.out) hb)
           have n4_ := Aside0.mk (below_step (Fit.bl HB.out) hb)
           clear BK281
           clear BK290
           clear BK291
           clear HB
           have HO297 := n0_
           have BK281 := n1_
           have BK290 := n2_
           have BK291 := n3_
           have HB := n4_
           clear n0_ n1_ n2_ n3_ n4_
           (try clear hb)
           (try clear hb2)
           (try clear hk)
           (try clear hi)
           (try clear ho0)
           refine hK.out _ _ ⟨(blk_cell BK290.out 0).trans rfl, (blk_cell BK290.out 1).trans rfl, (blk_cell BK291.out 0).trans rfl, (blk_cell BK291.out 1).trans rfl⟩ (fun hHeld => ?_)
           clear hK K
           refine norm_ (a' := ?_) ?_ ?_
           rotate_left
           ·show Act.put _ (some 49) _ = _
            simp only [Act.put, List.setIfInBounds_toArray, List.set_cons_zero, List.set_cons_succ, i64_w, i32_w]
            rfl
           refine one_ (i := 0) (N := some 45) #[true, true, true, true, true, false, true, true, true, false, false, false] rfl rfl (one_of HT_.out (by kernel_rfl)) (by decide) (fun K hK => ?_)
           refine Kd.R_lit_step k24 _ 24 ?hg (N := 45) ?hd (xs := ([] : List (S24))) (inner := []) (ok := fun _ => True) (okp := fun _ => True) ?hr ?hp (fun _ hk => hk) trivial (Below.refl _ _) (Nat.le_refl _) (by simp) ?_; (case hd => rfl); (case hg => rfl); (case hr => first | (go_simp; done) | (go_simp; rfl)); (case hp => exact (Reps.none _ _))
           intro v293 w36 ho37 hb hg_ hnew_
           clear hg_ hnew_
           (first | rw [← Ny292.out] at ho37 | (simp only [Int.reduceToNat] at ho37; rw [← Ny292.out] at ho37))
           have n0_ := Aside0.mk (Kd.R_elder' (by (with_reducible repeat (first | apply Kd.R_alloc | apply Kd.R_drewN | apply Kd.R_drew)); exact HO297.out) (Kd.R_base ho37) hb)
           have n1_ := Aside0.mk (Kd.R_lower (Kd.R_newB (Kd.R_newB (Kd.R_newB (Kd.R_new' ho37 (Kd.R_lt (by (with_reducible repeat (first | apply Kd.R_alloc | apply Kd.R_drewN | apply Kd.R_drew)); exact HO297.out))) (g := gb281) (o := .cells #[.int .u32 a0_0, .int .i64 a0_1] 24 (0, 0)) (Fit.pk BK281.out)) (g := gb290) (o := .cells #[.int .u32 t286, .int .i64 t287] 24 (0, 0)) (Fit.pk BK290.out)) (g := gb291) (o := .cells #[.int .u32 t288, .int .i64 t289] 24 (0, 0)) (Fit.pk BK291.out)) (below_size (Fit.bl HB.out)))
           have n2_ := Aside0.mk (blk_below (g := gb281) (Fit.pk BK281.out) hb)
           have n3_ := Aside0.mk (blk_below (g := gb290) (Fit.pk BK290.out) hb)
           have n4_ := Aside0.mk (blk_below (g := gb291) (Fit.pk BK291.out) hb)
           have n5_ := Aside0.mk (below_step (Fit.bl HB.out) hb)
           clear HO297
           clear BK281
           clear BK290
           clear BK291
           clear HB
           have HO297 := n0_
           have HO294 := n1_
           have BK281 := n2_
           have BK290 := n3_
           have BK291 := n4_
           have HB := n5_
           clear n0_ n1_ n2_ n3_ n4_ n5_
           clear hb ho37
           refine hK.out _ _ ⟨(blk_cell BK290.out 0).trans rfl, (blk_cell BK290.out 1).trans rfl, (blk_cell BK291.out 0).trans rfl, (blk_cell BK291.out 1).trans rfl⟩ (fun hHeld => ?_)
           clear hK K
           refine norm_ (a' := ?_) ?_ ?_
           rotate_left
           ·show Act.put _ (some 45) _ = _
            simp only [Act.put, List.setIfInBounds_toArray, List.set_cons_zero, List.set_cons_succ, i64_w, i32_w]
            rfl
           exact norm_ (by simp only [putAll, Act.put, List.setIfInBounds_toArray, List.set_cons_zero, List.set_cons_succ]) (hCont (v293, v296) _ ⟨hHeld, (by (with_reducible repeat (first | apply Kd.R_alloc | apply Kd.R_drewN | apply Kd.R_drew)); exact Kd.R_mono HO294.out (fun _ hk => ⟨hk.1.1.1.2, ⟨hk.1.1.2, ⟨hk.1.2, hk.2⟩⟩⟩)), (by (with_reducible repeat (first | apply Kd.R_alloc | apply Kd.R_drewN | apply Kd.R_drew)); exact Kd.R_mono HO297.out (fun _ hk => ⟨hk.2, ⟨hk.1.1.1.2, ⟨hk.1.1.2, hk.1.2⟩⟩⟩)), (Fit.pk BK281.out), (Fit.pk BK290.out), (Fit.pk BK291.out), (Fit.bl HB.out)⟩)
         rintro ⟨v293, v296⟩ w38 ⟨hS_, h0_, h1_, h2_, h3_, h4_, h5_⟩
         have n0_ : Aside0 (Kd.R k24 24 w38 w.heap.size (fun k_ => some k_ ≠ (v296 : Value).ownBlock ∧ k_ ≠ gb281 ∧ k_ ≠ gb290 ∧ k_ ≠ gb291) v293 y292) := ⟨h0_⟩
         have n1_ : Aside0 (Kd.R k24 24 w38 w.heap.size (fun k_ => some k_ ≠ (v293 : Value).ownBlock ∧ k_ ≠ gb281 ∧ k_ ≠ gb290 ∧ k_ ≠ gb291) v296 t295) := ⟨h1_⟩
         have n2_ : Aside0 (w38.heap[gb281]? = some (.cells #[.int .u32 a0_0, .int .i64 a0_1] 24 (0, 0))) := ⟨h2_⟩
         have n3_ : Aside0 (w38.heap[gb290]? = some (.cells #[.int .u32 t286, .int .i64 t287] 24 (0, 0))) := ⟨h3_⟩
         have n4_ : Aside0 (w38.heap[gb291]? = some (.cells #[.int .u32 t288, .int .i64 t289] 24 (0, 0))) := ⟨h4_⟩
         have n5_ : Aside0 (Below w.heap.size w w38) := ⟨h5_⟩
         clear BK281
         clear BK290
         clear BK291
         clear HB
         clear h0_ h1_ h2_ h3_ h4_ h5_
         have HO294 := n0_
         have HO297 := n1_
         have BK281 := n2_
         have BK290 := n3_
         have BK291 := n4_
         have HB := n5_
         clear n0_ n1_ n2_ n3_ n4_ n5_
         have hHeld : w38.cell? ⟨gb290, 0, none⟩ = some (.int .u32 t286) ∧ w38.cell? ⟨gb290, 1, none⟩ = some (.int .i64 t287) ∧ w38.cell? ⟨gb291, 0, none⟩ = some (.int .u32 t288) ∧ w38.cell? ⟨gb291, 1, none⟩ = some (.int .i64 t289) := hS_
         obtain ⟨Ao40, co40, eo40⟩ := Kd.R_slice HO297.out
         (first | subst eo40 | (injection eo40 with f1_ f2_ f3_; have f4_ := f1_.symm; have f5_ := f3_.symm; clear f1_ f2_ f3_; subst f4_; subst f5_))
         refine norm_ (a' := ?_) ?_ ?_
         rotate_left
         ·simp only [putAll, Act.put, List.setIfInBounds_toArray, List.set_cons_zero, List.set_cons_succ]
          rfl
         refine one_ (i := 5) (N := some 50) #[true, true, true, true, true, true, true, true, true, false, false, false] rfl rfl (one_of HT_.out (by kernel_rfl)) (by decide) (fun K hK => ?_)
         refine Kd.R_append_rows_step k24 (w0 := w) w.heap.size (by rfl) (.tmp 45) (.tmp 49) 32 24 (.agg #[(.int .u32 0), (.int .i64 0)]) 16 rfl Tryd.underlying32 info24 rfl (by decide) (by omega) v293 y292 t295 _ _ _ (fun k_ => some k_ ≠ (.slice Ao40 t295.length co40 : Value).ownBlock ∧ k_ ≠ gb281 ∧ k_ ≠ gb290 ∧ k_ ≠ gb291) (fun _ => False) rfl rfl ?aO ?aR (fun _ _ h => h) (fun _ h => h.elim) ?aF ?aB ?aS ?aL ?_
         (case aR => repeat (first | exact (Kd.R_reads' HO297.out).2.2 | (with_reducible refine Kd.C_alloc ?_ _) | (with_reducible refine Kd.C_drewN ?_ _) | (with_reducible refine Kd.C_drew ?_)))
         (case aB => exact (Fit.bl HB.out))
         (case aF => exact (fun k_ hk => ⟨Kd.fresh' (Kd.R_lt (by (with_reducible repeat (first | apply Kd.R_alloc | apply Kd.R_drewN | apply Kd.R_drew)); exact HO297.out)) k_ hk, Kd.freshB (g := gb281) (o := .cells #[.int .u32 a0_0, .int .i64 a0_1] 24 (0, 0)) (Fit.pk BK281.out) k_ hk, Kd.freshB (g := gb290) (o := .cells #[.int .u32 t286, .int .i64 t287] 24 (0, 0)) (Fit.pk BK290.out) k_ hk, Kd.freshB (g := gb291) (o := .cells #[.int .u32 t288, .int .i64 t289] 24 (0, 0)) (Fit.pk BK291.out) k_ hk⟩))
         (case aO => exact (by (with_reducible repeat (first | apply Kd.R_alloc | apply Kd.R_drewN | apply Kd.R_drew)); exact HO294.out))
         (case aS => exact (below_size (Fit.bl HB.out)))
         (case aL => have := LMc21.out; omega)
         intro v299 w39 ho hb hg hat
         rw [← Ny298.out] at ho
         have n0_ := Aside0.mk (blk_grown (g := gb281) (o := .cells #[.int .u32 a0_0, .int .i64 a0_1] 24 (0, 0)) (Fit.pk BK281.out) hg (Kd.R_away HO294.out (fun _ hk => hk.2.1)))
         have n1_ := Aside0.mk (blk_grown (g := gb290) (o := .cells #[.int .u32 t286, .int .i64 t287] 24 (0, 0)) (Fit.pk BK290.out) hg (Kd.R_away HO294.out (fun _ hk => hk.2.2.1)))
         have n2_ := Aside0.mk (blk_grown (g := gb291) (o := .cells #[.int .u32 t288, .int .i64 t289] 24 (0, 0)) (Fit.pk BK291.out) hg (Kd.R_away HO294.out (fun _ hk => hk.2.2.2)))
         have n3_ := Aside0.mk (Kd.R_after (ok := (fun k_ => k_ ≠ gb281 ∧ k_ ≠ gb290 ∧ k_ ≠ gb291)) (by (with_reducible repeat (first | apply Kd.R_alloc | apply Kd.R_drewN | apply Kd.R_drew)); exact Kd.R_mono HO297.out (fun _ hk => ⟨⟨hk.2.1, ⟨hk.2.2.1, hk.2.2.2⟩⟩, hk.1⟩)) hg hat)
         have n4_ := Aside0.mk (hb)
         have n5_ := Aside0.mk (ho)
         clear BK281
         clear BK290
         clear BK291
         clear HO297
         clear HB
         clear HO294
         have BK281 := n0_
         have BK290 := n1_
         have BK291 := n2_
         have HO297 := n3_
         have HB := n4_
         have HO300 := n5_
         clear n0_ n1_ n2_ n3_ n4_ n5_
         clear ho hb hg hat
         refine hK.out _ _ ⟨(blk_cell BK290.out 0).trans rfl, (blk_cell BK290.out 1).trans rfl, (blk_cell BK291.out 0).trans rfl, (blk_cell BK291.out 1).trans rfl⟩ (fun hHeld => ?_)
         clear hK K
         refine norm_ (a' := ?_) ?_ ?_
         rotate_left
         ·show Act.put _ (some 50) _ = _
          simp only [Act.put, List.setIfInBounds_toArray, List.set_cons_zero, List.set_cons_succ, i64_w, i32_w]
          rfl
         refine one_ (i := 9) (N := some 54) #[true, true, true, true, true, true, true, true, true, true, false, false] rfl rfl (one_of HT_.out (by kernel_rfl)) (by decide) (fun K hK => ?_)
         refine goes_ Tryd.func54 (by kernel_rfl) rfl #[.agg #[.int .u32 t288, .int .i64 t289], .int .u32 a1, .int .u32 a2] (by rfl) rfl rfl (by (try simp only [List.map_toArray, List.map_cons, List.map_nil]); first | done | rfl | (simp only [List.length_drop, List.length_take]; rfl)) ?_
         with_reducible refine (ih kj10 (by have := HJ4.out; have := HJ10.out; omega) t288 t289 a1 a2 t301 _ A22.out).mono ?_
         rintro e w41 ⟨v302, rfl, ho0, hb⟩
         refine ⟨_, rfl, ?_⟩
         have n0_ := Aside0.mk (Kd.R_elder' (by (with_reducible repeat (first | apply Kd.R_alloc | apply Kd.R_drewN | apply Kd.R_drew)); exact HO297.out) (Kd.R_base ho0) hb)
         have n1_ := Aside0.mk (Kd.R_elder' (by (with_reducible repeat (first | apply Kd.R_alloc | apply Kd.R_drewN | apply Kd.R_drew)); exact HO300.out) (Kd.R_base ho0) hb)
         have n2_ := Aside0.mk (Kd.R_lower (Kd.R_newB (Kd.R_newB (Kd.R_newB (Kd.R_new' (Kd.R_new' ho0 (Kd.R_lt (by (with_reducible repeat (first | apply Kd.R_alloc | apply Kd.R_drewN | apply Kd.R_drew)); exact HO297.out))) (Kd.R_lt (by (with_reducible repeat (first | apply Kd.R_alloc | apply Kd.R_drewN | apply Kd.R_drew)); exact HO300.out))) (g := gb281) (o := .cells #[.int .u32 a0_0, .int .i64 a0_1] 24 (0, 0)) (Fit.pk BK281.out)) (g := gb290) (o := .cells #[.int .u32 t286, .int .i64 t287] 24 (0, 0)) (Fit.pk BK290.out)) (g := gb291) (o := .cells #[.int .u32 t288, .int .i64 t289] 24 (0, 0)) (Fit.pk BK291.out)) (below_size (Fit.bl HB.out)))
         have n3_ := Aside0.mk (blk_below (g := gb281) (Fit.pk BK281.out) hb)
         have n4_ := Aside0.mk (blk_below (g := gb290) (Fit.pk BK290.out) hb)
         have n5_ := Aside0.mk (blk_below (g := gb291) (Fit.pk BK291.out) hb)
         have n6_ := Aside0.mk (below_step (Fit.bl HB.out) hb)
         clear HO297
         clear HO300
         clear BK281
         clear BK290
         clear BK291
         clear HB
         have HO297 := n0_
         have HO300 := n1_
         have HO303 := n2_
         have BK281 := n3_
         have BK290 := n4_
         have BK291 := n5_
         have HB := n6_
         clear n0_ n1_ n2_ n3_ n4_ n5_ n6_
         (try clear hb)
         (try clear hb2)
         (try clear hk)
         (try clear hi)
         (try clear ho0)
         obtain ⟨Ao43, co43, eo43⟩ := Kd.R_slice HO303.out
         (first | subst eo43 | (injection eo43 with f1_ f2_ f3_; have f4_ := f1_.symm; have f5_ := f3_.symm; clear f1_ f2_ f3_; subst f4_; subst f5_))
         refine hK.out _ _ ⟨(blk_cell BK290.out 0).trans rfl, (blk_cell BK290.out 1).trans rfl, (blk_cell BK291.out 0).trans rfl, (blk_cell BK291.out 1).trans rfl⟩ (fun hHeld => ?_)
         clear hK K
         refine norm_ (a' := ?_) ?_ ?_
         rotate_left
         ·show Act.put _ (some 54) _ = _
          simp only [Act.put, List.setIfInBounds_toArray, List.set_cons_zero, List.set_cons_succ, i64_w, i32_w]
          rfl
         refine one_ (i := 10) (N := some 55) #[true, true, true, true, true, true, true, true, true, true, true, false] rfl rfl (one_of HT_.out (by kernel_rfl)) (by decide) (fun K hK => ?_)
         refine Kd.R_append_rows_step k24 (w0 := w) w.heap.size (by rfl) (.tmp 50) (.tmp 54) 32 24 (.agg #[(.int .u32 0), (.int .i64 0)]) 16 rfl Tryd.underlying32 info24 rfl (by decide) (by omega) v299 y298 t301 _ _ _ (fun k_ => some k_ ≠ (.slice Ao40 t295.length co40 : Value).ownBlock ∧ some k_ ≠ (.slice Ao43 t301.length co43 : Value).ownBlock ∧ k_ ≠ gb281 ∧ k_ ≠ gb290 ∧ k_ ≠ gb291) (fun _ => False) rfl rfl ?aO ?aR (fun _ _ h => h) (fun _ h => h.elim) ?aF ?aB ?aS ?aL ?_
         (case aR => repeat (first | exact (Kd.R_reads' HO303.out).2.2 | (with_reducible refine Kd.C_alloc ?_ _) | (with_reducible refine Kd.C_drewN ?_ _) | (with_reducible refine Kd.C_drew ?_)))
         (case aB => exact (Fit.bl HB.out))
         (case aF => exact (fun k_ hk => ⟨Kd.fresh' (Kd.R_lt (by (with_reducible repeat (first | apply Kd.R_alloc | apply Kd.R_drewN | apply Kd.R_drew)); exact HO297.out)) k_ hk, Kd.fresh' (Kd.R_lt (by (with_reducible repeat (first | apply Kd.R_alloc | apply Kd.R_drewN | apply Kd.R_drew)); exact HO303.out)) k_ hk, Kd.freshB (g := gb281) (o := .cells #[.int .u32 a0_0, .int .i64 a0_1] 24 (0, 0)) (Fit.pk BK281.out) k_ hk, Kd.freshB (g := gb290) (o := .cells #[.int .u32 t286, .int .i64 t287] 24 (0, 0)) (Fit.pk BK290.out) k_ hk, Kd.freshB (g := gb291) (o := .cells #[.int .u32 t288, .int .i64 t289] 24 (0, 0)) (Fit.pk BK291.out) k_ hk⟩))
         (case aO => exact (by (with_reducible repeat (first | apply Kd.R_alloc | apply Kd.R_drewN | apply Kd.R_drew)); exact Kd.R_mono HO300.out (fun _ hk => ⟨hk.1.1, ⟨hk.2, ⟨hk.1.2.1, ⟨hk.1.2.2.1, hk.1.2.2.2⟩⟩⟩⟩)))
         (case aS => exact (below_size (Fit.bl HB.out)))
         (case aL => have := LMc23.out; omega)
         intro v305 w42 ho hb hg hat
         rw [← Ny304.out] at ho
         have n0_ := Aside0.mk (blk_grown (g := gb281) (o := .cells #[.int .u32 a0_0, .int .i64 a0_1] 24 (0, 0)) (Fit.pk BK281.out) hg (Kd.R_away HO300.out (fun _ hk => hk.1.2.1)))
         have n1_ := Aside0.mk (blk_grown (g := gb290) (o := .cells #[.int .u32 t286, .int .i64 t287] 24 (0, 0)) (Fit.pk BK290.out) hg (Kd.R_away HO300.out (fun _ hk => hk.1.2.2.1)))
         have n2_ := Aside0.mk (blk_grown (g := gb291) (o := .cells #[.int .u32 t288, .int .i64 t289] 24 (0, 0)) (Fit.pk BK291.out) hg (Kd.R_away HO300.out (fun _ hk => hk.1.2.2.2)))
         have n3_ := Aside0.mk (Kd.R_after (ok := (fun k_ => some k_ ≠ (.slice Ao43 t301.length co43 : Value).ownBlock ∧ k_ ≠ gb281 ∧ k_ ≠ gb290 ∧ k_ ≠ gb291)) (by (with_reducible repeat (first | apply Kd.R_alloc | apply Kd.R_drewN | apply Kd.R_drew)); exact Kd.R_mono HO297.out (fun _ hk => ⟨⟨hk.2, ⟨hk.1.1.1, ⟨hk.1.1.2.1, hk.1.1.2.2⟩⟩⟩, hk.1.2⟩)) hg hat)
         have n4_ := Aside0.mk (Kd.R_after (ok := (fun k_ => some k_ ≠ (.slice Ao40 t295.length co40 : Value).ownBlock ∧ k_ ≠ gb281 ∧ k_ ≠ gb290 ∧ k_ ≠ gb291)) (by (with_reducible repeat (first | apply Kd.R_alloc | apply Kd.R_drewN | apply Kd.R_drew)); exact Kd.R_mono HO303.out (fun _ hk => ⟨⟨hk.1.1.1.1.2, ⟨hk.1.1.2, ⟨hk.1.2, hk.2⟩⟩⟩, hk.1.1.1.2⟩)) hg hat)
         have n5_ := Aside0.mk (hb)
         have n6_ := Aside0.mk (ho)
         clear BK281
         clear BK290
         clear BK291
         clear HO297
         clear HO303
         clear HB
         clear HO300
         have BK281 := n0_
         have BK290 := n1_
         have BK291 := n2_
         have HO297 := n3_
         have HO303 := n4_
         have HB := n5_
         have HO306 := n6_
         clear n0_ n1_ n2_ n3_ n4_ n5_ n6_
         clear ho hb hg hat
         refine hK.out _ _ ⟨(blk_cell BK290.out 0).trans rfl, (blk_cell BK290.out 1).trans rfl, (blk_cell BK291.out 0).trans rfl, (blk_cell BK291.out 1).trans rfl⟩ (fun hHeld => ?_)
         clear hK K
         refine norm_ (a' := ?_) ?_ ?_
         rotate_left
         ·show Act.put _ (some 55) _ = _
          simp only [Act.put, List.setIfInBounds_toArray, List.set_cons_zero, List.set_cons_succ, i64_w, i32_w]
          rfl
         refine pure_ (i := 11) (N := some 6) (v := ?_) (a' := ?_) #[true, true, true, true, true, true, true, true, true, true, true, true] rfl rfl (any_of HT_.out (by kernel_rfl)) (fun _ _ _ h => h) (Or.inl ⟨by rfl, ?_⟩) ?_ ?_
         rotate_left
         ·intro w'
          go_simp
          with_reducible rfl
         rotate_left
         ·simp only [Act.put, List.setIfInBounds_toArray, List.set_cons_zero, List.set_cons_succ, i64_w, i32_w]
          rfl
         refine done_ (done_of HT_.out (by kernel_rfl)) ?_
         try go_wp2
         go_ret
         exact ⟨_, by first | rfl | (simp [errW_none, errW_some] <;> rfl) | (simp [*, errW_none, errW_some] <;> rfl), by (with_reducible repeat (first | apply Kd.R_alloc | apply Kd.R_drewN | apply Kd.R_drew)); exact Kd.R_mono HO306.out (fun _ hk => trivial), Fit.bl HB.out⟩
        ·rw [if_neg c23] at H
         exact absurd H (by simp)
       ·rw [if_neg c21] at H
        exact absurd H (by simp)


/-! ### patchbayref2_SetRange: function 25 -/
def patchbayref2_SetRange.f (k : Nat) (a0 : Int) (a1 : Int) : Option ((List (S24))) := (patchbayref2_within.f k 0 0 a0 a1).bind fun t307 => (some t307)
theorem patchbayref2_SetRange.mono : ∀ a0 a1 k, LeO (patchbayref2_SetRange.f k a0 a1) (patchbayref2_SetRange.f (k + 1) a0 a1) := by
 intro a0 a1 k
 unfold patchbayref2_SetRange.f
 repeat' first
   | (with_reducible exact patchbayref2_within.mono _ _ _ _ _)
   | (with_reducible exact LeO.refl _)
   | (with_reducible exact LeO.none _)
   | (with_reducible refine LeO.ite ?_ ?_)
   | (with_reducible refine LeO.bind ?_ (fun _ => ?_))
   | exact patchbayref2_within.mono _ _ _ _ _
   | exact LeO.none _
   | refine LeO.ite ?_ ?_
   | refine LeO.bind ?_ (fun _ => ?_)
set_option maxHeartbeats 8000000 in
set_option maxRecDepth 100000 in
theorem patchbayref2_SetRange.calls (k : Nat) (a0 : Int) (a1 : Int) (r : List (S24)) (w : World) (h : patchbayref2_SetRange.f k a0 a1 = some r) :
  Calls Tryd.prog 25 #[.int .u32 a0, .int .u32 a1] w fun e w' => ∃ v0_ : Value, e = .returned (v0_) ∧ Kd.R k24 24 w' w.heap.size (fun _ => True) v0_ r ∧ Below w.heap.size w w' := by
 have hu24 := Tryd.underlying24
 have HB := Aside0.mk (Below.refl w.heap.size w)
 have H : ((patchbayref2_within.f k 0 0 a0 a1).bind fun t307 => (some t307)) = some r := h
 clear h
 replace H := Option.bind_eq_some_iff.mp H
 obtain ⟨t307, A30, H⟩ := H
 replace H : (some t307) = some r := H
 have A3 := Aside0.mk A30
 clear A30
 obtain rfl := Option.some.inj H
 go_enter Tryd.func25, Tryd.ntmps25
 go_wp2_with (first | ((with_reducible refine gate_callee (f := 54) rfl ?_); refine goesL_ (some 8) rfl rfl Tryd.func54 (by kernel_rfl) rfl #[.agg #[.int .u32 0, .int .i64 0], .int .u32 a0, .int .u32 a1] rfl (by (try simp only [List.map_toArray, List.map_cons, List.map_nil]); first | done | rfl | (simp only [List.length_drop, List.length_take]; rfl)) ?_; (with_reducible refine (patchbayref2_within.calls k 0 0 a0 a1 t307 _ A3.out).mono ?_); rintro e w4 ⟨v308, rfl, ho0, hb⟩; refine ⟨_, rfl, ?_⟩; have n0_ := Aside0.mk (Kd.R_lower ho0 (below_size (Fit.bl HB.out))); have n1_ := Aside0.mk (below_step (Fit.bl HB.out) hb); clear HB; have HO309 := n0_; have HB := n1_; clear n0_ n1_; (try clear hb); (try clear hb2); (try clear hk); (try clear hi); (try clear ho0)))
 go_ret
 exact ⟨_, by first | rfl | (simp [errW_none, errW_some] <;> rfl) | (simp [*, errW_none, errW_some] <;> rfl), by (with_reducible repeat (first | apply Kd.R_alloc | apply Kd.R_drewN | apply Kd.R_drew)); exact HO309.out, Fit.bl HB.out⟩


end Go.Proofs.YtbdcaadehfbnbaaDoor.GPsetMakes
