-- a text that a program of this session wrote
import Derived.Test.YthpohaafphaidaaGCutSaysx0
import Derived.Test.YthpohaafphaidaaGCutSaysx2
import Derived.Test.YthpohaafphaidaaQPl
namespace Go.Proofs.Ythpohaafphaidaa.GCutSays
open Go.RowKit Go.Proofs.YthpohaafphaidaaW.PrintWords Go.Proofs.YthpohaafphaidaaW.PrintLast Go.Proofs.YthpohaafphaidaaW.PrintMore
attribute [local go_sem] max2_int min2_int max_two min_two max_three min_three max_four min_four   -- for this text's walks alone
attribute [local go_sem high] Go.Proofs.Ythpohaafphaidaa.Fit.run_string_add_fit
set_option linter.unusedVariables false
set_option linter.unusedSimpArgs false

/-! ### cut_wrong: function 42 -/
def cut_wrong.j0 : Nat → Int → Bool → Int → Int → Int → Int → Int → Int → Bool → Bool → ByteArray → Option (Int)
 | 0, _, _, _, _, _, _, _, _, _, _, _ => none
 | k + 1, x1, x12, x103000, x103001, x103002, x103003, x103004, x103005, x103006, x103007, x103008 => if x12 = true then (some 10) else (if x103007 = true then (if (wrap64 (20 + (x103008.size : Int))) > x1 then (some 14) else (some 0)) else (some 0))
def cut_wrong.f (k : Nat) (a0_0 : Int) (a0_1 : Int) (a0_2 : Int) (a0_3 : Int) (a0_4 : Int) (a0_5 : Int) (a0_6 : Bool) (a0_7 : Bool) (a0_8 : ByteArray) (a1 : Int) : Option (Int) := (pkt_Check.f k a0_0 a0_1 a0_2 a0_3 a0_4 a0_5 a0_6 a0_7 a0_8).bind fun t103 => (if t103 = 0 then (if a1 < 28 then (cut_wrong.j0 k a1 true a0_0 a0_1 a0_2 a0_3 a0_4 a0_5 a0_6 a0_7 a0_8) else (cut_wrong.j0 k a1 (decide (a1 > 1520)) a0_0 a0_1 a0_2 a0_3 a0_4 a0_5 a0_6 a0_7 a0_8)) else (some t103))
theorem cut_wrong.mono_l : ∀ k, (∀ y0 y1 y2 y3 y4 y5 y6 y7 y8 y9 y10, LeO (cut_wrong.j0 k y0 y1 y2 y3 y4 y5 y6 y7 y8 y9 y10) (cut_wrong.j0 (k + 1) y0 y1 y2 y3 y4 y5 y6 y7 y8 y9 y10))
 | 0 => fun _ _ _ _ _ _ _ _ _ _ _ r h => by simp [cut_wrong.j0] at h
 | k + 1 => by
  have ih0 := cut_wrong.mono_l k
  ·intro y0 y1 y2 y3 y4 y5 y6 y7 y8 y9 y10
   unfold cut_wrong.j0
   repeat' first
   | (with_reducible exact ih0 _ _ _ _ _ _ _ _ _ _ _)
   | (with_reducible exact pkt_Check.mono _ _ _ _ _ _ _ _ _ _)
   | (with_reducible exact LeO.refl _)
   | (with_reducible exact LeO.none _)
   | (with_reducible refine LeO.ite ?_ ?_)
   | (with_reducible refine LeO.bind ?_ (fun _ => ?_))
   | exact ih0 _ _ _ _ _ _ _ _ _ _ _
   | exact pkt_Check.mono _ _ _ _ _ _ _ _ _ _
   | exact LeO.none _
   | refine LeO.ite ?_ ?_
   | refine LeO.bind ?_ (fun _ => ?_)
theorem cut_wrong.mono : ∀ a0 a1 a2 a3 a4 a5 a6 a7 a8 a9 k, LeO (cut_wrong.f k a0 a1 a2 a3 a4 a5 a6 a7 a8 a9) (cut_wrong.f (k + 1) a0 a1 a2 a3 a4 a5 a6 a7 a8 a9) := by
 intro a0 a1 a2 a3 a4 a5 a6 a7 a8 a9 k
 have ih0 := cut_wrong.mono_l k
 unfold cut_wrong.f
 repeat' first
   | (with_reducible exact ih0 _ _ _ _ _ _ _ _ _ _ _)
   | (with_reducible exact pkt_Check.mono _ _ _ _ _ _ _ _ _ _)
   | (with_reducible exact LeO.refl _)
   | (with_reducible exact LeO.none _)
   | (with_reducible refine LeO.ite ?_ ?_)
   | (with_reducible refine LeO.bind ?_ (fun _ => ?_))
   | exact ih0 _ _ _ _ _ _ _ _ _ _ _
   | exact pkt_Check.mono _ _ _ _ _ _ _ _ _ _
   | exact LeO.none _
   | refine LeO.ite ?_ ?_
   | refine LeO.bind ?_ (fun _ => ?_)
set_option maxHeartbeats 8000000 in
set_option maxRecDepth 100000 in
theorem cut_wrong.calls (k : Nat) (a0_0 : Int) (a0_1 : Int) (a0_2 : Int) (a0_3 : Int) (a0_4 : Int) (a0_5 : Int) (a0_6 : Bool) (a0_7 : Bool) (a0_8 : ByteArray) (a1 : Int) (r : Int) (w : World) (h : cut_wrong.f k a0_0 a0_1 a0_2 a0_3 a0_4 a0_5 a0_6 a0_7 a0_8 a1 = some r) :
  Calls Try.prog 42 #[.agg #[.int .u32 a0_0, .int .u32 a0_1, .int .i64 a0_2, .int .i64 a0_3, .int .i64 a0_4, .int .i64 a0_5, .bool a0_6, .bool a0_7, .string a0_8], .int .i64 a1] w fun e w' => e = .returned (.int .i64 r) ∧ Below w.heap.size w w' := by
 have hu30 := Try.underlying30
 have HB := Aside0.mk (Below.refl w.heap.size w)
 have H : ((pkt_Check.f k a0_0 a0_1 a0_2 a0_3 a0_4 a0_5 a0_6 a0_7 a0_8).bind fun t103 => (if t103 = 0 then (if a1 < 28 then (cut_wrong.j0 k a1 true a0_0 a0_1 a0_2 a0_3 a0_4 a0_5 a0_6 a0_7 a0_8) else (cut_wrong.j0 k a1 (decide (a1 > 1520)) a0_0 a0_1 a0_2 a0_3 a0_4 a0_5 a0_6 a0_7 a0_8)) else (some t103))) = some r := h
 clear h
 replace H := Option.bind_eq_some_iff.mp H
 obtain ⟨t103, A30, H⟩ := H
 replace H : (if t103 = 0 then (if a1 < 28 then (cut_wrong.j0 k a1 true a0_0 a0_1 a0_2 a0_3 a0_4 a0_5 a0_6 a0_7 a0_8) else (cut_wrong.j0 k a1 (decide (a1 > 1520)) a0_0 a0_1 a0_2 a0_3 a0_4 a0_5 a0_6 a0_7 a0_8)) else (some t103)) = some r := H
 have A3 := Aside0.mk A30
 clear A30
 by_cases c4 : t103 = 0
 ·rw [if_pos c4] at H
  have c4b0 : (t103 == 0) = true := beq_iff_eq.mpr c4
  have c4b1 : (t103 != 0) = false := bne_eq_false_iff_eq.mpr c4
  clear c4
  have HC5 := Aside0.mk H
  clear H
  go_enter Try.func42, Try.ntmps42
  go_upto_region 4 with (first | ((with_reducible refine gate_dst (N := 2) rfl ?_); (try (refine gate_guard (by rfl) ?_; dsimp only)); refine box_event ?hg (N := 2) ?hd (cs := #[.int .u32 a0_0, .int .u32 a0_1, .int .i64 a0_2, .int .i64 a0_3, .int .i64 a0_4, .int .i64 a0_5, .bool a0_6, .bool a0_7, .string a0_8]) (t := 30) ?hr ?_; (case hd => rfl); (case hg => rfl); (case hr => first | (go_simp; done) | (go_simp; rfl)); intro gb102 hg w6 hbox hb; have n0_ := Aside0.mk (below_step (Fit.bl HB.out) hb); have n1_ := Aside0.mk (hbox); have n2_ := Aside0.mk ((by rw [hg]; exact (below_size (Fit.bl HB.out)) : w.heap.size ≤ gb102)); have n3_ := Aside0.mk ((by rw [hg]; exact (below_size (Fit.bl HB.out)) : w.heap.size ≤ gb102)); clear HB; have HB := n0_; have BK102 := n1_; have GW102 := n2_; have GE102 := n3_; clear n0_ n1_ n2_ n3_; clear hb hbox hg; obtain ⟨hcz7_0, hcz7_1, hcz7_2, hcz7_3, hcz7_4, hcz7_5, hcz7_6, hcz7_7, hcz7_8, hfz7_0⟩ := Fit.cells9 BK102.out) | ((with_reducible refine gate_callee (f := 26) rfl ?_); refine goesL_ (some 7) rfl rfl Try.func26 (by kernel_rfl) rfl #[.agg #[.int .u32 a0_0, .int .u32 a0_1, .int .i64 a0_2, .int .i64 a0_3, .int .i64 a0_4, .int .i64 a0_5, .bool a0_6, .bool a0_7, .string a0_8]] rfl (by (try simp only [List.map_toArray, List.map_cons, List.map_nil]); first | done | rfl | (simp only [List.length_drop, List.length_take]; rfl)) ?_; (with_reducible refine (pkt_Check.calls k a0_0 a0_1 a0_2 a0_3 a0_4 a0_5 a0_6 a0_7 a0_8 t103 _ A3.out).mono ?_); rintro e w8 ⟨rfl, hb⟩; refine ⟨_, rfl, ?_⟩; have n0_ := Aside0.mk (blk_below (g := gb102) (Fit.pk BK102.out) hb); have n1_ := Aside0.mk (below_step (Fit.bl HB.out) hb); clear BK102; clear HB; have BK102 := n0_; have HB := n1_; clear n0_ n1_; (try clear hb); (try clear hb2); (try clear hk); (try clear hi)))
  (try simp only [Act.put, List.setIfInBounds_toArray, List.set_cons_zero, List.set_cons_succ])
  go_cut [12] (fun v12 wc => ∃ (kq : Nat) (x12_4 : Bool), v12 = .bool x12_4 ∧ Aside0 (cut_wrong.j0 kq a1 x12_4 a0_0 a0_1 a0_2 a0_3 a0_4 a0_5 a0_6 a0_7 a0_8 = some r) ∧ Aside0 (kq ≤ k) ∧ Aside0 (wc.heap[gb102]? = some (.cells #[.int .u32 a0_0, .int .u32 a0_1, .int .i64 a0_2, .int .i64 a0_3, .int .i64 a0_4, .int .i64 a0_5, .bool a0_6, .bool a0_7, .string a0_8] 30 (0, 0))) ∧ Aside0 (Below w.heap.size w wc))
  case first =>
   have H := HC5.out
   clear HC5
   by_cases c9 : a1 < 28
   ·rw [if_pos c9] at H
    have c9b0 : decide (a1 < 28) = true := decide_eq_true c9
    clear c9
    (first | rw [c9b0] | (simp only [i64_w, i32_w]; rw [c9b0]) | skip)
    have H' := Aside0.mk H
    clear H
    go_wp2
    go_meet
    case rel => exact ⟨_, (true), (by first | rfl | (simp; done) | (simp [*]; done)), H', ⟨by first | omega | exact Nat.le_refl _⟩, ⟨by (with_reducible repeat first | apply blk_drewN | apply blk_drew | apply blk_alloc); exact BK102.out⟩, ⟨Fit.bl HB.out⟩⟩
   ·rw [if_neg c9] at H
    have c9b0 : decide (a1 < 28) = false := decide_eq_false c9
    clear c9
    (first | rw [c9b0] | (simp only [i64_w, i32_w]; rw [c9b0]) | skip)
    have H' := Aside0.mk H
    clear H
    go_wp2
    go_meet
    case rel => exact ⟨_, (decide (a1 > 1520)), (by first | rfl | (simp; done) | (simp [*]; done)), H', ⟨by first | omega | exact Nat.le_refl _⟩, ⟨by (with_reducible repeat first | apply blk_drewN | apply blk_drew | apply blk_alloc); exact BK102.out⟩, ⟨Fit.bl HB.out⟩⟩
  case rest =>
   clear HC5
   try clear c2
   try clear p2
   try clear c4
   try clear c4b0
   try clear c4b1
   try clear c9
   try clear c9b0
   try clear hcz7_0
   try clear hcz7_1
   try clear hcz7_2
   try clear hcz7_3
   try clear hcz7_4
   try clear hcz7_5
   try clear hcz7_6
   try clear hcz7_7
   try clear hcz7_8
   try clear hfz7_0
   obtain ⟨kq, x12_4, rfl, HA, HJ4, BK102, HB⟩ := hcut
   cases kq with
   | zero => exact absurd HA.out (by simp [cut_wrong.j0])
   | succ kj4 =>
    have H := HA.out
    clear HA
    simp only [cut_wrong.j0] at H
    by_cases c10 : x12_4 = true
    ·subst c10
     have H1 : (some 10) = some r := by rw [if_pos rfl] at H; exact H
     clear H
     have H := H1
     clear H1
     obtain rfl := Option.some.inj H
     go_wp2
     go_ret
     exact ⟨by first | rfl | (simp [errW_none, errW_some] <;> rfl) | (simp [*, errW_none, errW_some] <;> rfl), Fit.bl HB.out⟩
    ·replace c10 := Bool.eq_false_iff.mpr c10
     subst c10
     have H1 : (if a0_7 = true then (if (wrap64 (20 + (a0_8.size : Int))) > a1 then (some 14) else (some 0)) else (some 0)) = some r := by rw [if_neg (show ¬ (false = true) by decide)] at H; exact H
     clear H
     have H := H1
     clear H1
     by_cases c11 : a0_7 = true
     ·subst c11
      have H1 : (if (wrap64 (20 + (a0_8.size : Int))) > a1 then (some 14) else (some 0)) = some r := by rw [if_pos rfl] at H; exact H
      clear H
      have H := H1
      clear H1
      by_cases c12 : (wrap64 (20 + (a0_8.size : Int))) > a1
      ·rw [if_pos c12] at H
       have c12b0 : decide (a1 < (wrap64 (20 + (a0_8.size : Int)))) = true := decide_eq_true c12
       clear c12
       obtain rfl := Option.some.inj H
       obtain ⟨hcz13_0, hcz13_1, hcz13_2, hcz13_3, hcz13_4, hcz13_5, hcz13_6, hcz13_7, hcz13_8, hfz13_0⟩ := Fit.cells9 BK102.out
       go_wp2
       go_ret
       exact ⟨by first | rfl | (simp [errW_none, errW_some] <;> rfl) | (simp [*, errW_none, errW_some] <;> rfl), Fit.bl HB.out⟩
      ·rw [if_neg c12] at H
       have c12b0 : decide (a1 < (wrap64 (20 + (a0_8.size : Int)))) = false := decide_eq_false c12
       clear c12
       obtain rfl := Option.some.inj H
       obtain ⟨hcz14_0, hcz14_1, hcz14_2, hcz14_3, hcz14_4, hcz14_5, hcz14_6, hcz14_7, hcz14_8, hfz14_0⟩ := Fit.cells9 BK102.out
       go_wp2
       go_ret
       exact ⟨by first | rfl | (simp [errW_none, errW_some] <;> rfl) | (simp [*, errW_none, errW_some] <;> rfl), Fit.bl HB.out⟩
     ·replace c11 := Bool.eq_false_iff.mpr c11
      subst c11
      have H1 : (some 0) = some r := by rw [if_neg (show ¬ (false = true) by decide)] at H; exact H
      clear H
      have H := H1
      clear H1
      obtain rfl := Option.some.inj H
      obtain ⟨hcz15_0, hcz15_1, hcz15_2, hcz15_3, hcz15_4, hcz15_5, hcz15_6, hcz15_7, hcz15_8, hfz15_0⟩ := Fit.cells9 BK102.out
      go_wp2
      go_ret
      exact ⟨by first | rfl | (simp [errW_none, errW_some] <;> rfl) | (simp [*, errW_none, errW_some] <;> rfl), Fit.bl HB.out⟩
 ·rw [if_neg c4] at H
  have c4b0 : (t103 == 0) = false := beq_eq_false_iff_ne.mpr c4
  have c4b1 : (t103 != 0) = true := bne_iff_ne.mpr c4
  obtain rfl := Option.some.inj H
  go_enter Try.func42, Try.ntmps42
  go_wp2_with (first | ((with_reducible refine gate_dst (N := 2) rfl ?_); (try (refine gate_guard (by rfl) ?_; dsimp only)); refine box_event ?hg (N := 2) ?hd (cs := #[.int .u32 a0_0, .int .u32 a0_1, .int .i64 a0_2, .int .i64 a0_3, .int .i64 a0_4, .int .i64 a0_5, .bool a0_6, .bool a0_7, .string a0_8]) (t := 30) ?hr ?_; (case hd => rfl); (case hg => rfl); (case hr => first | (go_simp; done) | (go_simp; rfl)); intro gb102 hg w16 hbox hb; have n0_ := Aside0.mk (below_step (Fit.bl HB.out) hb); have n1_ := Aside0.mk (hbox); have n2_ := Aside0.mk ((by rw [hg]; exact (below_size (Fit.bl HB.out)) : w.heap.size ≤ gb102)); have n3_ := Aside0.mk ((by rw [hg]; exact (below_size (Fit.bl HB.out)) : w.heap.size ≤ gb102)); clear HB; have HB := n0_; have BK102 := n1_; have GW102 := n2_; have GE102 := n3_; clear n0_ n1_ n2_ n3_; clear hb hbox hg; obtain ⟨hcz17_0, hcz17_1, hcz17_2, hcz17_3, hcz17_4, hcz17_5, hcz17_6, hcz17_7, hcz17_8, hfz17_0⟩ := Fit.cells9 BK102.out) | ((with_reducible refine gate_callee (f := 26) rfl ?_); refine goesL_ (some 7) rfl rfl Try.func26 (by kernel_rfl) rfl #[.agg #[.int .u32 a0_0, .int .u32 a0_1, .int .i64 a0_2, .int .i64 a0_3, .int .i64 a0_4, .int .i64 a0_5, .bool a0_6, .bool a0_7, .string a0_8]] rfl (by (try simp only [List.map_toArray, List.map_cons, List.map_nil]); first | done | rfl | (simp only [List.length_drop, List.length_take]; rfl)) ?_; (with_reducible refine (pkt_Check.calls k a0_0 a0_1 a0_2 a0_3 a0_4 a0_5 a0_6 a0_7 a0_8 t103 _ A3.out).mono ?_); rintro e w18 ⟨rfl, hb⟩; refine ⟨_, rfl, ?_⟩; have n0_ := Aside0.mk (blk_below (g := gb102) (Fit.pk BK102.out) hb); have n1_ := Aside0.mk (below_step (Fit.bl HB.out) hb); clear BK102; clear HB; have BK102 := n0_; have HB := n1_; clear n0_ n1_; (try clear hb); (try clear hb2); (try clear hk); (try clear hi)))
  go_ret
  exact ⟨by first | rfl | (simp [errW_none, errW_some] <;> rfl) | (simp [*, errW_none, errW_some] <;> rfl), Fit.bl HB.out⟩

/-! ### cut_Cut: function 18 -/
def cut_Cut.l0 : Nat → Int → List (S30) → Int → Int → Int → Int → Int → Int → Bool → Bool → ByteArray → Option ((List (S30)) × Int)
 | 0, _, _, _, _, _, _, _, _, _, _, _ => none
 | k + 1, x1, x7, x105000, x105001, x105002, x105003, x105004, x105005, x105006, x105007, x105008 => if (wrap64 (20 + (x105008.size : Int))) > x1 then (if 0 ≤ (wrap64 ((wrap64 (Int.tdiv (wrap64 (x1 - 20)) 8)) * 8)) then (if (wrap64 ((wrap64 (Int.tdiv (wrap64 (x1 - 20)) 8)) * 8)) ≤ (x105008.size : Int) then (if x7.length < 2199023255552 then (cut_Cut.l0 k x1 (x7 ++ [(⟨x105000, x105001, x105002, x105003, x105004, x105005, true, x105007, x105008.extract 0 ((wrap64 ((wrap64 (Int.tdiv (wrap64 (x1 - 20)) 8)) * 8)) : Int).toNat⟩ : S30)]) x105000 x105001 x105002 x105003 x105004 (wrap64 (x105005 + (wrap64 ((wrap64 (Int.tdiv (wrap64 (x1 - 20)) 8)) * 8)))) x105006 x105007 (x105008.extract ((wrap64 ((wrap64 (Int.tdiv (wrap64 (x1 - 20)) 8)) * 8)) : Int).toNat x105008.size)) else (none)) else (none)) else (none)) else (if x7.length < 2199023255552 then (some ((x7 ++ [(⟨x105000, x105001, x105002, x105003, x105004, x105005, x105006, x105007, x105008⟩ : S30)]), 0)) else (none))
def cut_Cut.f (k : Nat) (a0_0 : Int) (a0_1 : Int) (a0_2 : Int) (a0_3 : Int) (a0_4 : Int) (a0_5 : Int) (a0_6 : Bool) (a0_7 : Bool) (a0_8 : ByteArray) (a1 : Int) : Option ((List (S30)) × Int) := (cut_wrong.f k a0_0 a0_1 a0_2 a0_3 a0_4 a0_5 a0_6 a0_7 a0_8 a1).bind fun t105 => (if t105 = 0 then (cut_Cut.l0 k a1 ([] : List (S30)) a0_0 a0_1 a0_2 a0_3 a0_4 a0_5 a0_6 a0_7 a0_8) else (some (([] : List (S30)), t105)))
theorem cut_Cut.mono_l : ∀ k, (∀ y0 y1 y2 y3 y4 y5 y6 y7 y8 y9 y10, LeO (cut_Cut.l0 k y0 y1 y2 y3 y4 y5 y6 y7 y8 y9 y10) (cut_Cut.l0 (k + 1) y0 y1 y2 y3 y4 y5 y6 y7 y8 y9 y10))
 | 0 => fun _ _ _ _ _ _ _ _ _ _ _ r h => by simp [cut_Cut.l0] at h
 | k + 1 => by
  have ih0 := cut_Cut.mono_l k
  ·intro y0 y1 y2 y3 y4 y5 y6 y7 y8 y9 y10
   unfold cut_Cut.l0
   repeat' first
   | (with_reducible exact ih0 _ _ _ _ _ _ _ _ _ _ _)
   | (with_reducible exact cut_wrong.mono _ _ _ _ _ _ _ _ _ _ _)
   | (with_reducible exact LeO.refl _)
   | (with_reducible exact LeO.none _)
   | (with_reducible refine LeO.ite ?_ ?_)
   | (with_reducible refine LeO.bind ?_ (fun _ => ?_))
   | exact ih0 _ _ _ _ _ _ _ _ _ _ _
   | exact cut_wrong.mono _ _ _ _ _ _ _ _ _ _ _
   | exact LeO.none _
   | refine LeO.ite ?_ ?_
   | refine LeO.bind ?_ (fun _ => ?_)
theorem cut_Cut.mono : ∀ a0 a1 a2 a3 a4 a5 a6 a7 a8 a9 k, LeO (cut_Cut.f k a0 a1 a2 a3 a4 a5 a6 a7 a8 a9) (cut_Cut.f (k + 1) a0 a1 a2 a3 a4 a5 a6 a7 a8 a9) := by
 intro a0 a1 a2 a3 a4 a5 a6 a7 a8 a9 k
 have ih0 := cut_Cut.mono_l k
 unfold cut_Cut.f
 repeat' first
   | (with_reducible exact ih0 _ _ _ _ _ _ _ _ _ _ _)
   | (with_reducible exact cut_wrong.mono _ _ _ _ _ _ _ _ _ _ _)
   | (with_reducible exact LeO.refl _)
   | (with_reducible exact LeO.none _)
   | (with_reducible refine LeO.ite ?_ ?_)
   | (with_reducible refine LeO.bind ?_ (fun _ => ?_))
   | exact ih0 _ _ _ _ _ _ _ _ _ _ _
   | exact cut_wrong.mono _ _ _ _ _ _ _ _ _ _ _
   | exact LeO.none _
   | refine LeO.ite ?_ ?_
   | refine LeO.bind ?_ (fun _ => ?_)
def cut_Cut.T10 : Bool × List (List Nat × List Nat) := (true, [([], []), ([0], [0]), ([], []), ([1, 2], [1, 2]), ([], []), ([4], [4]), ([], []), ([5, 6], [5, 6]), ([0, 1, 2, 3, 4, 5], []), ([8, 3, 0, 1, 2, 3, 4, 5], [3, 8]), ([0, 1, 2, 3, 4, 5, 6, 7, 8, 9], []), ([10, 7, 9, 0, 1, 2, 3, 4, 5, 6, 7, 8, 9], [7, 10])])
def cut_Cut.B10 : List Nat := [0, 1, 0, 7, 0, 16, 0, 112, 63, 319, 1023, 2047]
theorem cut_Cut.tab10 : rtab .any (opsOf Try.f18 10) = cut_Cut.T10 := by kernel_rfl
theorem cut_Cut.bits10 : waitsOk cut_Cut.T10.2 cut_Cut.B10 = true := by kernel_rfl
theorem wrong_j0 (k : Nat) (a1 : Int) (b : Bool) (x0 x1 x2 x3 x4 x5 : Int) (m h : Bool) (s : ByteArray) (g : cut_wrong.j0 k a1 b x0 x1 x2 x3 x4 x5 m h s = some 0) : b = false := by
 cases k with
 | zero => simp [cut_wrong.j0] at g
 | succ k =>
  cases b
  · rfl
  · simp [cut_wrong.j0] at g
theorem wrong_bounds (k : Nat) (a0 a1 a2 a3 a4 a5 : Int) (m h : Bool) (s : ByteArray) (n : Int) (g : cut_wrong.f k a0 a1 a2 a3 a4 a5 m h s n = some 0) : 28 ≤ n ∧ n ≤ 1520 ∧ pkt_Check.f k a0 a1 a2 a3 a4 a5 m h s = some 0 := by
 unfold cut_wrong.f at g
 obtain ⟨t, ht, g⟩ := Option.bind_eq_some_iff.mp g
 by_cases c : t = 0
 · subst c
   rw [if_pos rfl] at g
   by_cases c1 : n < 28
   · rw [if_pos c1] at g
     exact absurd (wrong_j0 _ _ _ _ _ _ _ _ _ _ _ _ g) (by simp)
   · rw [if_neg c1] at g
     have := wrong_j0 _ _ _ _ _ _ _ _ _ _ _ _ g
     have := of_decide_eq_false this
     exact ⟨by omega, by omega, ht⟩
 · rw [if_neg c] at g
   injection g with g
   exact absurd g c
theorem check_j1 (k : Nat) (b : Bool) (x0 x1 x2 x3 x4 x5 : Int) (m h : Bool) (s : ByteArray) (g : pkt_Check.j1 k b x0 x1 x2 x3 x4 x5 m h s = some 0) : b = false := by
 cases k with
 | zero => simp [pkt_Check.j1] at g
 | succ k =>
  cases b
  · rfl
  · simp [pkt_Check.j1] at g
theorem check_j0 (k : Nat) (b : Bool) (x0 x1 x2 x3 x4 x5 : Int) (m h : Bool) (s : ByteArray) (g : pkt_Check.j0 k b x0 x1 x2 x3 x4 x5 m h s = some 0) : b = false ∧ (s.size : Int) ≤ 1500 := by
 cases k with
 | zero => simp [pkt_Check.j0] at g
 | succ k =>
  cases b
  · refine ⟨rfl, ?_⟩
    simp only [pkt_Check.j0, Bool.false_eq_true, if_false] at g
    by_cases c : (s.size : Int) > 1500
    · rw [if_pos c] at g
      exact absurd (check_j1 _ _ _ _ _ _ _ _ _ _ _ g) (by simp)
    · omega
  · simp [pkt_Check.j0] at g
theorem check_bounds (k : Nat) (a0 a1 a2 a3 a4 a5 : Int) (m h : Bool) (s : ByteArray) (g : pkt_Check.f k a0 a1 a2 a3 a4 a5 m h s = some 0) : 0 ≤ a5 ∧ a5 ≤ 65528 ∧ (s.size : Int) ≤ 1500 := by
 unfold pkt_Check.f at g
 split at g
 · exact absurd (check_j0 _ _ _ _ _ _ _ _ _ _ _ g).1 (by simp)
 split at g
 · exact absurd (check_j0 _ _ _ _ _ _ _ _ _ _ _ g).1 (by simp)
 split at g
 · exact absurd (check_j0 _ _ _ _ _ _ _ _ _ _ _ g).1 (by simp)
 split at g
 · exact absurd (check_j0 _ _ _ _ _ _ _ _ _ _ _ g).1 (by simp)
 split at g
 · exact absurd (check_j0 _ _ _ _ _ _ _ _ _ _ _ g).1 (by simp)
 split at g
 · exact absurd (check_j0 _ _ _ _ _ _ _ _ _ _ _ g).1 (by simp)
 split at g
 · exact absurd (check_j0 _ _ _ _ _ _ _ _ _ _ _ g).1 (by simp)
 · have q := check_j0 _ _ _ _ _ _ _ _ _ _ _ g
   have := of_decide_eq_false q.1
   exact ⟨by omega, by omega, q.2⟩
set_option maxHeartbeats 8000000 in
set_option maxRecDepth 100000 in
theorem cut_Cut.calls (k : Nat) (a0_0 : Int) (a0_1 : Int) (a0_2 : Int) (a0_3 : Int) (a0_4 : Int) (a0_5 : Int) (a0_6 : Bool) (a0_7 : Bool) (a0_8 : ByteArray) (a1 : Int) (r1 : List (S30)) (r2 : Int) (w : World) (h : cut_Cut.f k a0_0 a0_1 a0_2 a0_3 a0_4 a0_5 a0_6 a0_7 a0_8 a1 = some (r1, r2)) :
  Calls Try.prog 18 #[.agg #[.int .u32 a0_0, .int .u32 a0_1, .int .i64 a0_2, .int .i64 a0_3, .int .i64 a0_4, .int .i64 a0_5, .bool a0_6, .bool a0_7, .string a0_8], .int .i64 a1] w fun e w' => ∃ v0_ : Value, e = .returned (.tuple #[v0_, .int .i64 r2]) ∧ Kd.R k30 30 w' w.heap.size (fun _ => True) v0_ r1 ∧ Below w.heap.size w w' := by
 have hu30 := Try.underlying30
 have HB := Aside0.mk (Below.refl w.heap.size w)
 have H : ((cut_wrong.f k a0_0 a0_1 a0_2 a0_3 a0_4 a0_5 a0_6 a0_7 a0_8 a1).bind fun t105 => (if t105 = 0 then (cut_Cut.l0 k a1 ([] : List (S30)) a0_0 a0_1 a0_2 a0_3 a0_4 a0_5 a0_6 a0_7 a0_8) else (some (([] : List (S30)), t105)))) = some (r1, r2) := h
 clear h
 replace H := Option.bind_eq_some_iff.mp H
 obtain ⟨t105, A30, H⟩ := H
 replace H : (if t105 = 0 then (cut_Cut.l0 k a1 ([] : List (S30)) a0_0 a0_1 a0_2 a0_3 a0_4 a0_5 a0_6 a0_7 a0_8) else (some (([] : List (S30)), t105))) = some (r1, r2) := H
 have A3 := Aside0.mk A30
 clear A30
 by_cases c4 : t105 = 0
 ·rw [if_pos c4] at H
  have c4b0 : (t105 == 0) = true := beq_iff_eq.mpr c4
  have c4b1 : (t105 != 0) = false := bne_eq_false_iff_eq.mpr c4
  have ⟨nlo_, nhi_, hck_⟩ := wrong_bounds k a0_0 a0_1 a0_2 a0_3 a0_4 a0_5 a0_6 a0_7 a0_8 a1 (by rw [← c4]; exact A3.out)
  have ⟨olo_, ohi_, slo_⟩ := check_bounds k a0_0 a0_1 a0_2 a0_3 a0_4 a0_5 a0_6 a0_7 a0_8 hck_
  clear hck_
  clear c4
  have H' := Aside0.mk H
  clear H
  go_enter Try.func18, Try.ntmps18
  go_wp2_with (first | ((with_reducible refine gate_dst (N := 2) rfl ?_); refine box_event ?hg (N := 2) ?hd (cs := #[.int .u32 a0_0, .int .u32 a0_1, .int .i64 a0_2, .int .i64 a0_3, .int .i64 a0_4, .int .i64 a0_5, .bool a0_6, .bool a0_7, .string a0_8]) (t := 30) ?hr ?_; (case hd => rfl); (case hg => rfl); (case hr => first | (go_simp; done) | (go_simp; rfl)); intro gb104 hg w5 hbox hb; have n0_ := Aside0.mk (below_step (Fit.bl HB.out) hb); have n1_ := Aside0.mk (hbox); have n2_ := Aside0.mk ((by rw [hg]; exact (below_size (Fit.bl HB.out)) : w.heap.size ≤ gb104)); have n3_ := Aside0.mk ((by rw [hg]; exact (below_size (Fit.bl HB.out)) : w.heap.size ≤ gb104)); clear HB; have HB := n0_; have BK104 := n1_; have GW104 := n2_; have GE104 := n3_; clear n0_ n1_ n2_ n3_; clear hb hbox hg; obtain ⟨hcz6_0, hcz6_1, hcz6_2, hcz6_3, hcz6_4, hcz6_5, hcz6_6, hcz6_7, hcz6_8, hfz6_0⟩ := Fit.cells9 BK104.out) | ((with_reducible refine gate_callee (f := 42) rfl ?_); refine goesL_ (some 12) rfl rfl Try.func42 (by kernel_rfl) rfl #[.agg #[.int .u32 a0_0, .int .u32 a0_1, .int .i64 a0_2, .int .i64 a0_3, .int .i64 a0_4, .int .i64 a0_5, .bool a0_6, .bool a0_7, .string a0_8], .int .i64 a1] rfl (by (try simp only [List.map_toArray, List.map_cons, List.map_nil]); first | done | rfl | (simp only [List.length_drop, List.length_take]; rfl)) ?_; (with_reducible refine (cut_wrong.calls k a0_0 a0_1 a0_2 a0_3 a0_4 a0_5 a0_6 a0_7 a0_8 a1 t105 _ A3.out).mono ?_); rintro e w7 ⟨rfl, hb⟩; refine ⟨_, rfl, ?_⟩; have n0_ := Aside0.mk (blk_below (g := gb104) (Fit.pk BK104.out) hb); have n1_ := Aside0.mk (below_step (Fit.bl HB.out) hb); clear BK104; clear HB; have BK104 := n0_; have HB := n1_; clear n0_ n1_; (try clear hb); (try clear hb2); (try clear hk); (try clear hi)))
  go_loopg [7] k (fun kq v7 w' => ∃ (x7_1 : List (S30)) (x105005_1 : Int) (x105008_1 : ByteArray), Aside0 (0 ≤ x105005_1 ∧ x105005_1 + (x105008_1.size : Int) ≤ 67028 ∧ (x105008_1.size : Int) ≤ 1500) ∧ Aside0 (cut_Cut.l0 kq a1 x7_1 a0_0 a0_1 a0_2 a0_3 a0_4 x105005_1 a0_6 a0_7 x105008_1 = some (r1, r2)) ∧ Aside0 (kq ≤ k) ∧ Aside0 (Kd.R k30 30 w' w.heap.size (fun k_ => k_ ≠ gb104) v7 x7_1) ∧ Aside0 (w'.heap[gb104]? = some (.cells #[.int .u32 a0_0, .int .u32 a0_1, .int .i64 a0_2, .int .i64 a0_3, .int .i64 a0_4, .int .i64 x105005_1, .bool a0_6, .bool a0_7, .string x105008_1] 30 (0, 0))) ∧ Aside0 (Below w.heap.size w w'))
  case atStart => exact ⟨(([] : List (S30))), (a0_5), (a0_8), ⟨⟨olo_, by omega, slo_⟩⟩, H', ⟨Nat.le_refl _⟩, ⟨by first | exact Kd.R_nil _ _ _ _ _ | exact Kd.N_nil _ _ _ _ _ | exact Kd.V_nil _ _ _ _ _ | exact Kd.Q_nil _ _ _ _ _ | exact Kd.S_nil _ _ _ _ _⟩, ⟨by (with_reducible repeat first | apply blk_drewN | apply blk_drew | apply blk_alloc); exact BK104.out⟩, ⟨Fit.bl HB.out⟩⟩
  case round =>
   clear H'
   try clear c1
   try clear p2
   try clear c4
   try clear c4b0
   try clear c4b1
   try clear hcz6_0
   try clear hcz6_1
   try clear hcz6_2
   try clear hcz6_3
   try clear hcz6_4
   try clear hcz6_5
   try clear hcz6_6
   try clear hcz6_7
   try clear hcz6_8
   try clear hfz6_0
   obtain ⟨x7_1, x105005_1, x105008_1, HQ, HA, HK1, HO_7, BK104, HB⟩ := hrel
   obtain ⟨q0_, q1_, q2_⟩ := HQ.out
   clear HQ
   cases gk with
   | zero => exact absurd HA.out (by simp [cut_Cut.l0])
   | succ k1 =>
    have H := HA.out
    clear HA
    simp only [cut_Cut.l0] at H
    have e1_ : wrap64 (20 + (x105008_1.size : Int)) = 20 + (x105008_1.size : Int) := Go.Proofs.Ythpohaafphaidaa.Pl.w64 (by omega) (by omega)
    have e2_ : wrap64 ((wrap64 (Int.tdiv (wrap64 (a1 - 20)) 8)) * 8) = (a1 - 20) / 8 * 8 := by rw [Go.Proofs.Ythpohaafphaidaa.Pl.w64 (x := a1 - 20) (by omega) (by omega), Int.tdiv_eq_ediv_of_nonneg (by omega), Go.Proofs.Ythpohaafphaidaa.Pl.w64 (x := (a1 - 20) / 8) (by omega) (by omega), Go.Proofs.Ythpohaafphaidaa.Pl.w64 (by omega) (by omega)]
    rw [e1_] at H
    (try rw [e2_] at H)
    clear e1_ e2_
    by_cases c8 : (20 + (x105008_1.size : Int)) > a1
    ·rw [if_pos c8] at H
     have c8b0 : decide (a1 < (20 + (x105008_1.size : Int))) = true := decide_eq_true c8
     clear c8
     obtain ⟨ji9, hji9⟩ : ∃ j_ : Int, ((a1 - 20) / 8 * 8) = j_ := ⟨_, rfl⟩
     have jlo_ : 8 ≤ ji9 := by omega
     have jhi_ : ji9 ≤ 1500 := by omega
     replace H : (if 0 ≤ (ji9) then (if (ji9) ≤ (x105008_1.size : Int) then (if x7_1.length < 2199023255552 then (cut_Cut.l0 k1 a1 (x7_1 ++ [(⟨a0_0, a0_1, a0_2, a0_3, a0_4, x105005_1, true, a0_7, x105008_1.extract 0 ((ji9) : Int).toNat⟩ : S30)]) a0_0 a0_1 a0_2 a0_3 a0_4 (wrap64 (x105005_1 + (ji9))) a0_6 a0_7 (x105008_1.extract ((ji9) : Int).toNat x105008_1.size)) else (none)) else (none)) else (none)) = some (r1, r2) := by first | (rw [hji9] at H; exact H) | (simp only [hji9] at H ⊢; exact H)
     by_cases c10 : 0 ≤ (ji9)
     ·rw [if_pos c10] at H
      have c10b0 := eq_true c10
      have c10b1 : decide (0 ≤ (ji9)) = true := decide_eq_true c10
      clear c10
      by_cases c11 : (ji9) ≤ (x105008_1.size : Int)
      ·rw [if_pos c11] at H
       have c11b0 := eq_true c11
       have c11b1 : decide ((ji9) ≤ (x105008_1.size : Int)) = true := decide_eq_true c11
       clear c11
       by_cases c12 : x7_1.length < 2199023255552
       ·rw [if_pos c12] at H
        have LMc12 := Aside0.mk c12
        clear c12
        obtain ⟨y107, hy107⟩ : ∃ y_ : List (S30), y_ = (x7_1 ++ [(⟨a0_0, a0_1, a0_2, a0_3, a0_4, x105005_1, true, a0_7, x105008_1.extract 0 ((ji9) : Int).toNat⟩ : S30)]) := ⟨_, rfl⟩
        replace H : (cut_Cut.l0 k1 a1 y107 a0_0 a0_1 a0_2 a0_3 a0_4 (wrap64 (x105005_1 + (ji9))) a0_6 a0_7 (x105008_1.extract ((ji9) : Int).toNat x105008_1.size)) = some (r1, r2) := by first | (rw [hy107]; with_reducible exact H) | (have H2_ := (Option.bind_some _ _).symm.trans H; rw [hy107]; with_reducible exact H2_) | (have H2_ := (Option.bind_some _ _).symm.trans H; with_reducible exact H2_) | with_reducible exact H | (rw [hy107]; exact H) | exact H
        have Ny107 := Aside0.mk hy107
        clear hy107
        have c13b0 := eq_true (of_decide_eq_true (by first | (with_reducible assumption) | assumption) : 0 ≤ (ji9))
        have c14b0 := eq_true (of_decide_eq_true (by first | (with_reducible assumption) | assumption) : (ji9) ≤ (x105008_1.size : Int))
        have H' := Aside0.mk H
        clear H
        obtain ⟨hcz15_0, hcz15_1, hcz15_2, hcz15_3, hcz15_4, hcz15_5, hcz15_6, hcz15_7, hcz15_8, hfz15_0⟩ := Fit.cells9 BK104.out
        go_upto_region 8 with (first | ((with_reducible refine gate_dst (N := 9) rfl ?_); refine box_event ?hg (N := 9) ?hd (cs := #[.int .u32 0, .int .u32 0, .int .i64 0, .int .i64 0, .int .i64 0, .int .i64 0, .bool false, .bool false, .string (⟨#[]⟩ : ByteArray)]) (t := 30) ?hr ?_; (case hd => rfl); (case hg => rfl); (case hr => first | (go_simp; done) | (go_simp; rfl)); intro gb106 hg w16 hbox hb; have n0_ := Aside0.mk (Kd.R_below (Kd.R_elderB (by (with_reducible repeat (first | apply Kd.R_alloc | apply Kd.R_drewN | apply Kd.R_drew)); exact HO_7.out) gb106 (Nat.le_of_eq hg.symm)) hb); have n1_ := Aside0.mk (blk_below (g := gb104) (Fit.pk BK104.out) hb); have n2_ := Aside0.mk (below_step (Fit.bl HB.out) hb); have n3_ := Aside0.mk (hbox); have n4_ := Aside0.mk ((by rw [hg]; exact (below_size (Fit.bl HB.out)) : w.heap.size ≤ gb106)); have n5_ := Aside0.mk ((by rw [hg]; exact (below_size (Fit.bl HB.out)) : w.heap.size ≤ gb106)); have n6_ := Aside0.mk ((by rw [hg]; exact Nat.ne_of_lt (blk_lt (g := gb104) (Fit.pk BK104.out)) : gb104 ≠ gb106)); have n7_ := Aside0.mk ((by rw [hg]; exact Nat.ne_of_gt (blk_lt (g := gb104) (Fit.pk BK104.out)) : gb106 ≠ gb104)); clear HO_7; clear BK104; clear HB; have HO_7 := n0_; have BK104 := n1_; have HB := n2_; have BK106 := n3_; have GW106 := n4_; have GE106 := n5_; have NB104_106 := n6_; have NB106_104 := n7_; clear n0_ n1_ n2_ n3_ n4_ n5_ n6_ n7_; clear hb hbox hg; have hnb17 := NB106_104.out; have hnc17 := NB104_106.out; obtain ⟨hcz18_0, hcz18_1, hcz18_2, hcz18_3, hcz18_4, hcz18_5, hcz18_6, hcz18_7, hcz18_8, hfz18_0⟩ := Fit.cells9 BK106.out; obtain ⟨hcz19_0, hcz19_1, hcz19_2, hcz19_3, hcz19_4, hcz19_5, hcz19_6, hcz19_7, hcz19_8, hfz19_0⟩ := Fit.cells9 BK104.out))
        (try simp only [Act.put, List.setIfInBounds_toArray, List.set_cons_zero, List.set_cons_succ])
        have n0_ : Aside0 ((((((((((w16.setCell ⟨gb106, 0, none⟩ (.int .u32 a0_0)).setCell ⟨gb106, 1, none⟩ (.int .u32 a0_1)).setCell ⟨gb106, 2, none⟩ (.int .i64 a0_2)).setCell ⟨gb106, 3, none⟩ (.int .i64 a0_3)).setCell ⟨gb106, 4, none⟩ (.int .i64 a0_4)).setCell ⟨gb106, 5, none⟩ (.int .i64 x105005_1)).setCell ⟨gb106, 6, none⟩ (.bool a0_6)).setCell ⟨gb106, 7, none⟩ (.bool a0_7)).setCell ⟨gb106, 8, none⟩ (.string x105008_1)).heap[gb104]? = some (.cells #[.int .u32 a0_0, .int .u32 a0_1, .int .i64 a0_2, .int .i64 a0_3, .int .i64 a0_4, .int .i64 x105005_1, .bool a0_6, .bool a0_7, .string x105008_1] 30 (0, 0))) := ⟨(blk_far (blk_far (blk_far (blk_far (blk_far (blk_far (blk_far (blk_far (blk_far BK104.out NB104_106.out (p := ⟨gb106, 0, none⟩) (.int .u32 a0_0)) NB104_106.out (p := ⟨gb106, 1, none⟩) (.int .u32 a0_1)) NB104_106.out (p := ⟨gb106, 2, none⟩) (.int .i64 a0_2)) NB104_106.out (p := ⟨gb106, 3, none⟩) (.int .i64 a0_3)) NB104_106.out (p := ⟨gb106, 4, none⟩) (.int .i64 a0_4)) NB104_106.out (p := ⟨gb106, 5, none⟩) (.int .i64 x105005_1)) NB104_106.out (p := ⟨gb106, 6, none⟩) (.bool a0_6)) NB104_106.out (p := ⟨gb106, 7, none⟩) (.bool a0_7)) NB104_106.out (p := ⟨gb106, 8, none⟩) (.string x105008_1))⟩
        have n1_ : Aside0 ((((((((((w16.setCell ⟨gb106, 0, none⟩ (.int .u32 a0_0)).setCell ⟨gb106, 1, none⟩ (.int .u32 a0_1)).setCell ⟨gb106, 2, none⟩ (.int .i64 a0_2)).setCell ⟨gb106, 3, none⟩ (.int .i64 a0_3)).setCell ⟨gb106, 4, none⟩ (.int .i64 a0_4)).setCell ⟨gb106, 5, none⟩ (.int .i64 x105005_1)).setCell ⟨gb106, 6, none⟩ (.bool a0_6)).setCell ⟨gb106, 7, none⟩ (.bool a0_7)).setCell ⟨gb106, 8, none⟩ (.string x105008_1)).heap[gb106]? = some (.cells #[.int .u32 a0_0, .int .u32 a0_1, .int .i64 a0_2, .int .i64 a0_3, .int .i64 a0_4, .int .i64 x105005_1, .bool a0_6, .bool a0_7, .string x105008_1] 30 (0, 0))) := ⟨(blk_put (blk_put (blk_put (blk_put (blk_put (blk_put (blk_put (blk_put (blk_put BK106.out 0 (.int .u32 a0_0) rfl) 1 (.int .u32 a0_1) rfl) 2 (.int .i64 a0_2) rfl) 3 (.int .i64 a0_3) rfl) 4 (.int .i64 a0_4) rfl) 5 (.int .i64 x105005_1) rfl) 6 (.bool a0_6) rfl) 7 (.bool a0_7) rfl) 8 (.string x105008_1) rfl)⟩
        have n2_ : Aside0 (Below w.heap.size w (((((((((w16.setCell ⟨gb106, 0, none⟩ (.int .u32 a0_0)).setCell ⟨gb106, 1, none⟩ (.int .u32 a0_1)).setCell ⟨gb106, 2, none⟩ (.int .i64 a0_2)).setCell ⟨gb106, 3, none⟩ (.int .i64 a0_3)).setCell ⟨gb106, 4, none⟩ (.int .i64 a0_4)).setCell ⟨gb106, 5, none⟩ (.int .i64 x105005_1)).setCell ⟨gb106, 6, none⟩ (.bool a0_6)).setCell ⟨gb106, 7, none⟩ (.bool a0_7)).setCell ⟨gb106, 8, none⟩ (.string x105008_1))) := ⟨(Below.setCell (Below.setCell (Below.setCell (Below.setCell (Below.setCell (Below.setCell (Below.setCell (Below.setCell (Below.setCell HB.out (p := ⟨gb106, 0, none⟩) (by exact GE106.out) (.int .u32 a0_0)) (p := ⟨gb106, 1, none⟩) (by exact GE106.out) (.int .u32 a0_1)) (p := ⟨gb106, 2, none⟩) (by exact GE106.out) (.int .i64 a0_2)) (p := ⟨gb106, 3, none⟩) (by exact GE106.out) (.int .i64 a0_3)) (p := ⟨gb106, 4, none⟩) (by exact GE106.out) (.int .i64 a0_4)) (p := ⟨gb106, 5, none⟩) (by exact GE106.out) (.int .i64 x105005_1)) (p := ⟨gb106, 6, none⟩) (by exact GE106.out) (.bool a0_6)) (p := ⟨gb106, 7, none⟩) (by exact GE106.out) (.bool a0_7)) (p := ⟨gb106, 8, none⟩) (by exact GE106.out) (.string x105008_1))⟩
        have n3_ : Aside0 (Kd.R k30 30 (((((((((w16.setCell ⟨gb106, 0, none⟩ (.int .u32 a0_0)).setCell ⟨gb106, 1, none⟩ (.int .u32 a0_1)).setCell ⟨gb106, 2, none⟩ (.int .i64 a0_2)).setCell ⟨gb106, 3, none⟩ (.int .i64 a0_3)).setCell ⟨gb106, 4, none⟩ (.int .i64 a0_4)).setCell ⟨gb106, 5, none⟩ (.int .i64 x105005_1)).setCell ⟨gb106, 6, none⟩ (.bool a0_6)).setCell ⟨gb106, 7, none⟩ (.bool a0_7)).setCell ⟨gb106, 8, none⟩ (.string x105008_1)) w.heap.size (fun k_ => k_ ≠ gb104 ∧ k_ ≠ gb106) u7 x7_1) := ⟨Kd.R_mono (Kd.R_far (p := ⟨gb106, 8, none⟩) (Kd.R_far (p := ⟨gb106, 7, none⟩) (Kd.R_far (p := ⟨gb106, 6, none⟩) (Kd.R_far (p := ⟨gb106, 5, none⟩) (Kd.R_far (p := ⟨gb106, 4, none⟩) (Kd.R_far (p := ⟨gb106, 3, none⟩) (Kd.R_far (p := ⟨gb106, 2, none⟩) (Kd.R_far (p := ⟨gb106, 1, none⟩) (Kd.R_far (p := ⟨gb106, 0, none⟩) (Kd.R_mono HO_7.out (fun k_ hk => (⟨hk, hk.2⟩ : _ ∧ k_ ≠ gb106))) (fun _ hk => hk.2) (.int .u32 a0_0)) (fun _ hk => hk.2) (.int .u32 a0_1)) (fun _ hk => hk.2) (.int .i64 a0_2)) (fun _ hk => hk.2) (.int .i64 a0_3)) (fun _ hk => hk.2) (.int .i64 a0_4)) (fun _ hk => hk.2) (.int .i64 x105005_1)) (fun _ hk => hk.2) (.bool a0_6)) (fun _ hk => hk.2) (.bool a0_7)) (fun _ hk => hk.2) (.string x105008_1)) (fun _ hk => hk.1)⟩
        clear BK104 BK106 HB HO_7
        generalize (((((((((w16.setCell ⟨gb106, 0, none⟩ (.int .u32 a0_0)).setCell ⟨gb106, 1, none⟩ (.int .u32 a0_1)).setCell ⟨gb106, 2, none⟩ (.int .i64 a0_2)).setCell ⟨gb106, 3, none⟩ (.int .i64 a0_3)).setCell ⟨gb106, 4, none⟩ (.int .i64 a0_4)).setCell ⟨gb106, 5, none⟩ (.int .i64 x105005_1)).setCell ⟨gb106, 6, none⟩ (.bool a0_6)).setCell ⟨gb106, 7, none⟩ (.bool a0_7)).setCell ⟨gb106, 8, none⟩ (.string x105008_1)) = w17 at n0_ n1_ n2_ n3_ ⊢
        have BK104 := n0_
        have BK106 := n1_
        have HB := n2_
        have HO_7 := n3_
        clear n0_ n1_ n2_ n3_
        obtain ⟨hca1_0, hca1_1, hca1_2, hca1_3, hca1_4, hca1_5, hca1_6, hca1_7, hca1_8, hfa1⟩ := Fit.cells9 BK104.out
        obtain ⟨hca2_0, hca2_1, hca2_2, hca2_3, hca2_4, hca2_5, hca2_6, hca2_7, hca2_8, hfa2⟩ := Fit.cells9 BK106.out
        go_upto_region 9 with (fail)
        (try simp only [Act.put, List.setIfInBounds_toArray, List.set_cons_zero, List.set_cons_succ])
        have n0_ : Aside0 (((w17.setCell ⟨gb106, 8, none⟩ (.string (x105008_1.extract 0 ((ji9) : Int).toNat))).setCell ⟨gb106, 6, none⟩ (.bool true)).heap[gb104]? = some (.cells #[.int .u32 a0_0, .int .u32 a0_1, .int .i64 a0_2, .int .i64 a0_3, .int .i64 a0_4, .int .i64 x105005_1, .bool a0_6, .bool a0_7, .string x105008_1] 30 (0, 0))) := ⟨(blk_far (blk_far BK104.out NB104_106.out (p := ⟨gb106, 8, none⟩) (.string (x105008_1.extract 0 ((ji9) : Int).toNat))) NB104_106.out (p := ⟨gb106, 6, none⟩) (.bool true))⟩
        have n1_ : Aside0 (((w17.setCell ⟨gb106, 8, none⟩ (.string (x105008_1.extract 0 ((ji9) : Int).toNat))).setCell ⟨gb106, 6, none⟩ (.bool true)).heap[gb106]? = some (.cells #[.int .u32 a0_0, .int .u32 a0_1, .int .i64 a0_2, .int .i64 a0_3, .int .i64 a0_4, .int .i64 x105005_1, .bool true, .bool a0_7, .string (x105008_1.extract 0 ((ji9) : Int).toNat)] 30 (0, 0))) := ⟨(blk_put (blk_put BK106.out 8 (.string (x105008_1.extract 0 ((ji9) : Int).toNat)) rfl) 6 (.bool true) rfl)⟩
        have n2_ : Aside0 (Below w.heap.size w ((w17.setCell ⟨gb106, 8, none⟩ (.string (x105008_1.extract 0 ((ji9) : Int).toNat))).setCell ⟨gb106, 6, none⟩ (.bool true))) := ⟨(Below.setCell (Below.setCell HB.out (p := ⟨gb106, 8, none⟩) (by exact GE106.out) (.string (x105008_1.extract 0 ((ji9) : Int).toNat))) (p := ⟨gb106, 6, none⟩) (by exact GE106.out) (.bool true))⟩
        have n3_ : Aside0 (Kd.R k30 30 ((w17.setCell ⟨gb106, 8, none⟩ (.string (x105008_1.extract 0 ((ji9) : Int).toNat))).setCell ⟨gb106, 6, none⟩ (.bool true)) w.heap.size (fun k_ => k_ ≠ gb104 ∧ k_ ≠ gb106) u7 x7_1) := ⟨Kd.R_mono (Kd.R_far (p := ⟨gb106, 6, none⟩) (Kd.R_far (p := ⟨gb106, 8, none⟩) (Kd.R_mono HO_7.out (fun k_ hk => (⟨hk, hk.2⟩ : _ ∧ k_ ≠ gb106))) (fun _ hk => hk.2) (.string (x105008_1.extract 0 ((ji9) : Int).toNat))) (fun _ hk => hk.2) (.bool true)) (fun _ hk => hk.1)⟩
        clear BK104 BK106 HB HO_7
        generalize ((w17.setCell ⟨gb106, 8, none⟩ (.string (x105008_1.extract 0 ((ji9) : Int).toNat))).setCell ⟨gb106, 6, none⟩ (.bool true)) = w18 at n0_ n1_ n2_ n3_ ⊢
        have BK104 := n0_
        have BK106 := n1_
        have HB := n2_
        have HO_7 := n3_
        clear n0_ n1_ n2_ n3_
        obtain ⟨hcb1_0, hcb1_1, hcb1_2, hcb1_3, hcb1_4, hcb1_5, hcb1_6, hcb1_7, hcb1_8, hfb1⟩ := Fit.cells9 BK104.out
        obtain ⟨hcb2_0, hcb2_1, hcb2_2, hcb2_3, hcb2_4, hcb2_5, hcb2_6, hcb2_7, hcb2_8, hfb2⟩ := Fit.cells9 BK106.out
        go_wp2_with (first | ((with_reducible refine gate_builtin (b := .append) (xs := #[.tmp 33, .tmp 35]) rfl ?_); at_builtin; refine Kd.R_append k30 (w0 := w) w.heap.size rfl (.tmp 33) (.tmp 35) 35 30 (.agg #[(.int .u32 0), (.int .u32 0), (.int .i64 0), (.int .i64 0), (.int .i64 0), (.int .i64 0), (.bool false), (.bool false), (.string ⟨#[]⟩)]) 64 rfl Try.underlying35 info30 rfl (by decide) (by omega) u7 x7_1 (⟨a0_0, a0_1, a0_2, a0_3, a0_4, x105005_1, true, a0_7, x105008_1.extract 0 ((ji9) : Int).toNat⟩ : S30) [.int .u32 a0_0, .int .u32 a0_1, .int .i64 a0_2, .int .i64 a0_3, .int .i64 a0_4, .int .i64 x105005_1, .bool true, .bool a0_7, .string (x105008_1.extract 0 ((ji9) : Int).toNat)] (fun k_ => k_ ≠ gb104 ∧ k_ ≠ gb106) (fun _ => False) rfl (by first | rfl | (go_simp; done) | (go_simp; rfl)) ?aP (fun _ hk => hk.elim) ?aF ?aO ?aB ?aS ?aL ?_; (case aP => exact k30_mkM _ _ _ (⟨a0_0, a0_1, a0_2, a0_3, a0_4, x105005_1, true, a0_7, x105008_1.extract 0 ((ji9) : Int).toNat⟩ : S30)); (case aB => exact (Fit.bl HB.out)); (case aF => exact (fun k_ hk => ⟨Kd.freshB (g := gb104) (o := .cells #[.int .u32 a0_0, .int .u32 a0_1, .int .i64 a0_2, .int .i64 a0_3, .int .i64 a0_4, .int .i64 x105005_1, .bool a0_6, .bool a0_7, .string x105008_1] 30 (0, 0)) (Fit.pk BK104.out) k_ hk, Kd.freshB (g := gb106) (o := .cells #[.int .u32 a0_0, .int .u32 a0_1, .int .i64 a0_2, .int .i64 a0_3, .int .i64 a0_4, .int .i64 x105005_1, .bool true, .bool a0_7, .string (x105008_1.extract 0 ((ji9) : Int).toNat)] 30 (0, 0)) (Fit.pk BK106.out) k_ hk⟩)); (case aO => exact (by (with_reducible repeat (first | apply Kd.R_alloc | apply Kd.R_drewN | apply Kd.R_drew)); exact HO_7.out)); (case aS => exact (below_size (Fit.bl HB.out))); (case aL => have := LMc12.out; omega); intro v108 w20 ho hb hg hat; rw [← Ny107.out] at ho; have n0_ := Aside0.mk (blk_grown (g := gb104) (o := .cells #[.int .u32 a0_0, .int .u32 a0_1, .int .i64 a0_2, .int .i64 a0_3, .int .i64 a0_4, .int .i64 x105005_1, .bool a0_6, .bool a0_7, .string x105008_1] 30 (0, 0)) (Fit.pk BK104.out) hg (Kd.R_away HO_7.out (fun _ hk => hk.1))); have n1_ := Aside0.mk (blk_grown (g := gb106) (o := .cells #[.int .u32 a0_0, .int .u32 a0_1, .int .i64 a0_2, .int .i64 a0_3, .int .i64 a0_4, .int .i64 x105005_1, .bool true, .bool a0_7, .string (x105008_1.extract 0 ((ji9) : Int).toNat)] 30 (0, 0)) (Fit.pk BK106.out) hg (Kd.R_away HO_7.out (fun _ hk => hk.2))); have n2_ := Aside0.mk (hb); have n3_ := Aside0.mk (ho); clear BK104; clear BK106; clear HB; clear HO_7; have BK104 := n0_; have BK106 := n1_; have HB := n2_; have HO109 := n3_; clear n0_ n1_ n2_ n3_; clear ho hb hg hat))
        have n0_ := Aside0.mk (Kd.R_drew HO109.out)
        have n1_ := Aside0.mk (blk_drew BK104.out)
        have n2_ := Aside0.mk (blk_drew BK106.out)
        have n3_ := Aside0.mk (below_drew1 HB.out)
        clear HO109
        clear BK104
        clear BK106
        clear HB
        have HO109 := n0_
        have BK104 := n1_
        have BK106 := n2_
        have HB := n3_
        clear n0_ n1_ n2_ n3_
        refine start_ (n := 12) (S := fun w' => w'.cell? ⟨gb104, 0, none⟩ = some (.int .u32 a0_0) ∧ w'.cell? ⟨gb104, 1, none⟩ = some (.int .u32 a0_1) ∧ w'.cell? ⟨gb104, 2, none⟩ = some (.int .i64 a0_2) ∧ w'.cell? ⟨gb104, 3, none⟩ = some (.int .i64 a0_3) ∧ w'.cell? ⟨gb104, 4, none⟩ = some (.int .i64 a0_4) ∧ w'.cell? ⟨gb104, 5, none⟩ = some (.int .i64 x105005_1) ∧ w'.cell? ⟨gb104, 6, none⟩ = some (.bool a0_6) ∧ w'.cell? ⟨gb104, 7, none⟩ = some (.bool a0_7) ∧ w'.cell? ⟨gb104, 8, none⟩ = some (.string x105008_1)) (ds := [9, 11]) #[false, false, false, false, false, false, false, false, false, false, false, false] (by kernel_rfl) rfl rfl ⟨(blk_cell BK104.out 0).trans rfl, (blk_cell BK104.out 1).trans rfl, (blk_cell BK104.out 2).trans rfl, (blk_cell BK104.out 3).trans rfl, (blk_cell BK104.out 4).trans rfl, (blk_cell BK104.out 5).trans rfl, (blk_cell BK104.out 6).trans rfl, (blk_cell BK104.out 7).trans rfl, (blk_cell BK104.out 8).trans rfl⟩ (fun hHeld => ?_); refine with_tabW cut_Cut.tab10 cut_Cut.bits10 (fun HT_ HW_ => ?_)
        generalize w20.drew = w21 at HO109 BK104 BK106 HB hHeld ⊢
        refine pure_ (i := 0) (N := some 37) (v := ?_) (a' := ?_) #[true, false, false, false, false, false, false, false, false, false, false, false] rfl rfl (any_of HT_.out (by kernel_rfl)) (fun _ _ _ h => h) (Or.inl ⟨by rfl, ?_⟩) ?_ ?_
        rotate_left
        ·intro w'
         go_simp
         with_reducible rfl
        rotate_left
        ·simp only [Act.put, List.setIfInBounds_toArray, List.set_cons_zero, List.set_cons_succ, i64_w, i32_w]
         rfl
        refine pure_ (i := 2) (N := some 39) (v := ?_) (a' := ?_) #[true, false, true, false, false, false, false, false, false, false, false, false] rfl rfl (any_of HT_.out (by kernel_rfl)) (fun _ _ _ h => h) (Or.inl ⟨by rfl, ?_⟩) ?_ ?_
        rotate_left
        ·intro w'
         go_simp
         with_reducible rfl
        rotate_left
        ·simp only [Act.put, List.setIfInBounds_toArray, List.set_cons_zero, List.set_cons_succ, i64_w, i32_w]
         rfl
        refine pure_ (i := 4) (N := some 41) (v := ?_) (a' := ?_) #[true, false, true, false, true, false, false, false, false, false, false, false] rfl rfl (any_of HT_.out (by kernel_rfl)) (fun _ _ _ h => h) (Or.inl ⟨by rfl, ?_⟩) ?_ ?_
        rotate_left
        ·intro w'
         go_simp
         with_reducible rfl
        rotate_left
        ·simp only [Act.put, List.setIfInBounds_toArray, List.set_cons_zero, List.set_cons_succ, i64_w, i32_w]
         rfl
        refine pure_ (i := 6) (N := some 43) (v := ?_) (a' := ?_) #[true, false, true, false, true, false, true, false, false, false, false, false] rfl rfl (any_of HT_.out (by kernel_rfl)) (fun _ _ _ h => h) (Or.inl ⟨by rfl, ?_⟩) ?_ ?_
        rotate_left
        ·intro w'
         go_simp
         with_reducible rfl
        rotate_left
        ·simp only [Act.put, List.setIfInBounds_toArray, List.set_cons_zero, List.set_cons_succ, i64_w, i32_w]
         rfl
        refine take_ (i := 1) (N := some 38) (v := ?_) (a' := ?_) #[true, true, true, false, true, false, true, false, false, false, false, false] rfl rfl (take_ofW HT_.out HW_.out (by kernel_rfl)) (fun _ _ _ h => h) (Or.inl ⟨by rfl, ?_⟩) hHeld ?_ ?_
        rotate_left
        ·rintro w' ⟨s0, s1, s2, s3, s4, s5, s6, s7, s8⟩
         go_simp
         with_reducible rfl
        rotate_left
        ·simp only [Act.put, List.setIfInBounds_toArray, List.set_cons_zero, List.set_cons_succ, i64_w, i32_w]
         rfl
        refine pure_ (i := 3) (N := some 40) (v := ?_) (a' := ?_) #[true, true, true, true, true, false, true, false, false, false, false, false] rfl rfl (any_of HT_.out (by kernel_rfl)) (fun _ _ _ h => h) (Or.inl ⟨by rfl, ?_⟩) ?_ ?_
        rotate_left
        ·intro w'
         go_simp
         with_reducible rfl
        rotate_left
        ·simp only [Act.put, List.setIfInBounds_toArray, List.set_cons_zero, List.set_cons_succ, i64_w, i32_w]
         rfl
        refine take_ (i := 5) (N := some 42) (v := ?_) (a' := ?_) #[true, true, true, true, true, true, true, false, false, false, false, false] rfl rfl (take_ofW HT_.out HW_.out (by kernel_rfl)) (fun _ _ _ h => h) (Or.inl ⟨by rfl, ?_⟩) hHeld ?_ ?_
        rotate_left
        ·rintro w' ⟨s0, s1, s2, s3, s4, s5, s6, s7, s8⟩
         go_simp
         with_reducible rfl
        rotate_left
        ·simp only [Act.put, List.setIfInBounds_toArray, List.set_cons_zero, List.set_cons_succ, i64_w, i32_w]
         rfl
        refine pure_ (i := 7) (N := some 44) (v := ?_) (a' := ?_) #[true, true, true, true, true, true, true, true, false, false, false, false] rfl rfl (any_of HT_.out (by kernel_rfl)) (fun _ _ _ h => h) (Or.inl ⟨by rfl, ?_⟩) ?_ ?_
        rotate_left
        ·intro w'
         go_simp
         with_reducible rfl
        rotate_left
        ·simp only [Act.put, List.setIfInBounds_toArray, List.set_cons_zero, List.set_cons_succ, i64_w, i32_w]
         rfl
        refine pure_ (i := 8) (N := some 45) (v := ?_) (a' := ?_) #[true, true, true, true, true, true, true, true, true, false, false, false] rfl rfl (any_of HT_.out (by kernel_rfl)) (fun _ _ _ h => h) (Or.inl ⟨by rfl, ?_⟩) ?_ ?_
        rotate_left
        ·intro w'
         go_simp
         with_reducible rfl
        rotate_left
        ·simp only [Act.put, List.setIfInBounds_toArray, List.set_cons_zero, List.set_cons_succ, i64_w, i32_w]
         rfl
        refine last_ (i := 9) (N := none) #[true, true, true, true, true, true, true, true, true, true, false, false] rfl rfl (one_of HT_.out (by kernel_rfl)) (by decide) (fun K hK => ?_)
        have hs22 : w21.cell? ⟨gb104, 8, none⟩ = some (.string x105008_1) := (blk_cell BK104.out 8).trans rfl
        have hfs22 := blk_frozen BK104.out 8
        have hns22_1 := NB106_104.out
        have hms22_1 := NB104_106.out
        refine skip_ (w1 := ?_) (by rfl) rfl ?_ ?_
        rotate_left
        ·go_simp
         rfl
        refine hK.out _ _ ?_
        clear hK K
        refine pure_ (i := 10) (N := some 46) (v := ?_) (a' := ?_) #[true, true, true, true, true, true, true, true, true, true, true, false] rfl rfl (any_of HT_.out (by kernel_rfl)) (fun _ _ _ h => h) (Or.inl ⟨by rfl, ?_⟩) ?_ ?_
        rotate_left
        ·intro w'
         go_simp
         with_reducible rfl
        rotate_left
        ·simp only [Act.put, List.setIfInBounds_toArray, List.set_cons_zero, List.set_cons_succ, i64_w, i32_w]
         rfl
        refine last_ (i := 11) (N := none) #[true, true, true, true, true, true, true, true, true, true, true, true] rfl rfl (one_of HT_.out (by kernel_rfl)) (by decide) (fun K hK => ?_)
        have hs23 : w21.cell? ⟨gb104, 5, none⟩ = some (.int .i64 x105005_1) := (blk_cell BK104.out 5).trans rfl
        have hfs23 := blk_frozen BK104.out 5
        have hns23_1 := NB106_104.out
        have hms23_1 := NB104_106.out
        refine skip_ (w1 := ?_) (by rfl) rfl ?_ ?_
        rotate_left
        ·go_simp
         rfl
        refine hK.out _ _ ?_
        clear hK K
        refine done_ (done_of HT_.out (by kernel_rfl)) ?_
        try go_wp2
        go_roundg k1
        case measure => have := HK1.out; omega
        case rel => exact ⟨(y107), (wrap64 (x105005_1 + (ji9))), (x105008_1.extract ((ji9) : Int).toNat x105008_1.size), ⟨by have q3_ := of_eq_true c11b0; rw [Go.Proofs.Ythpohaafphaidaa.Pl.w64 (x := x105005_1 + ji9) (by omega) (by omega), ByteArray.size_extract]; omega⟩, H', ⟨by have := HK1.out; omega⟩, ⟨by (with_reducible repeat (first | apply Kd.R_alloc | apply Kd.R_drewN | apply Kd.R_drew)); exact Kd.R_mono (Kd.R_far (p := ⟨gb104, 5, none⟩) (Kd.R_far (p := ⟨gb104, 8, none⟩) (Kd.R_mono HO109.out (fun k_ hk => (⟨hk, hk.1⟩ : _ ∧ k_ ≠ gb104))) (fun _ hk => hk.2) (.string (x105008_1.extract ((ji9) : Int).toNat x105008_1.size))) (fun _ hk => hk.2) (.int .i64 (wrap64 (x105005_1 + (ji9))))) (fun _ hk => hk.1.1)⟩, ⟨by (with_reducible repeat first | apply blk_drewN | apply blk_drew | apply blk_alloc); refine blk_put (cs := #[.int .u32 a0_0, .int .u32 a0_1, .int .i64 a0_2, .int .i64 a0_3, .int .i64 a0_4, .int .i64 x105005_1, .bool a0_6, .bool a0_7, .string (x105008_1.extract ((ji9) : Int).toNat x105008_1.size)]) ?_ 5 _ rfl; (with_reducible repeat first | apply blk_drewN | apply blk_drew | apply blk_alloc); refine blk_put (cs := #[.int .u32 a0_0, .int .u32 a0_1, .int .i64 a0_2, .int .i64 a0_3, .int .i64 a0_4, .int .i64 x105005_1, .bool a0_6, .bool a0_7, .string x105008_1]) ?_ 8 _ rfl; (with_reducible repeat first | apply blk_drewN | apply blk_drew | apply blk_alloc); exact BK104.out⟩, ⟨Fit.bl HB.out⟩⟩
       ·rw [if_neg c12] at H
        exact absurd H (by simp)
      ·rw [if_neg c11] at H
       exact absurd H (by simp)
     ·rw [if_neg c10] at H
      exact absurd H (by simp)
    ·rw [if_neg c8] at H
     have c8b0 : decide (a1 < (20 + (x105008_1.size : Int))) = false := decide_eq_false c8
     clear c8
     by_cases c24 : x7_1.length < 2199023255552
     ·rw [if_pos c24] at H
      have LMc24 := Aside0.mk c24
      clear c24
      obtain ⟨y110, hy110⟩ : ∃ y_ : List (S30), y_ = (x7_1 ++ [(⟨a0_0, a0_1, a0_2, a0_3, a0_4, x105005_1, a0_6, a0_7, x105008_1⟩ : S30)]) := ⟨_, rfl⟩
      replace H : (some (y110, 0)) = some (r1, r2) := by first | (rw [hy110]; with_reducible exact H) | (have H2_ := (Option.bind_some _ _).symm.trans H; rw [hy110]; with_reducible exact H2_) | (have H2_ := (Option.bind_some _ _).symm.trans H; with_reducible exact H2_) | with_reducible exact H | (rw [hy110]; exact H) | exact H
      have Ny110 := Aside0.mk hy110
      clear hy110
      simp only [Option.some.injEq, Prod.mk.injEq] at H
      obtain ⟨rfl, rfl⟩ := H
      obtain ⟨hcz25_0, hcz25_1, hcz25_2, hcz25_3, hcz25_4, hcz25_5, hcz25_6, hcz25_7, hcz25_8, hfz25_0⟩ := Fit.cells9 BK104.out
      go_wp2_with (first | ((with_reducible refine gate_builtin (b := .append) (xs := #[.tmp 47, .tmp 49]) rfl ?_); at_builtin; refine Kd.R_append k30 (w0 := w) w.heap.size rfl (.tmp 47) (.tmp 49) 35 30 (.agg #[(.int .u32 0), (.int .u32 0), (.int .i64 0), (.int .i64 0), (.int .i64 0), (.int .i64 0), (.bool false), (.bool false), (.string ⟨#[]⟩)]) 64 rfl Try.underlying35 info30 rfl (by decide) (by omega) u7 x7_1 (⟨a0_0, a0_1, a0_2, a0_3, a0_4, x105005_1, a0_6, a0_7, x105008_1⟩ : S30) [.int .u32 a0_0, .int .u32 a0_1, .int .i64 a0_2, .int .i64 a0_3, .int .i64 a0_4, .int .i64 x105005_1, .bool a0_6, .bool a0_7, .string x105008_1] (fun k_ => k_ ≠ gb104) (fun _ => False) rfl rfl ?aP (fun _ hk => hk.elim) ?aF ?aO ?aB ?aS ?aL ?_; (case aP => exact k30_mkM _ _ _ (⟨a0_0, a0_1, a0_2, a0_3, a0_4, x105005_1, a0_6, a0_7, x105008_1⟩ : S30)); (case aB => exact (Fit.bl HB.out)); (case aF => exact (fun k_ hk => Kd.freshB (g := gb104) (o := .cells #[.int .u32 a0_0, .int .u32 a0_1, .int .i64 a0_2, .int .i64 a0_3, .int .i64 a0_4, .int .i64 x105005_1, .bool a0_6, .bool a0_7, .string x105008_1] 30 (0, 0)) (Fit.pk BK104.out) k_ hk)); (case aO => exact (by (with_reducible repeat (first | apply Kd.R_alloc | apply Kd.R_drewN | apply Kd.R_drew)); exact HO_7.out)); (case aS => exact (below_size (Fit.bl HB.out))); (case aL => have := LMc24.out; omega); intro v111 w26 ho hb hg hat; rw [← Ny110.out] at ho; have n0_ := Aside0.mk (blk_grown (g := gb104) (o := .cells #[.int .u32 a0_0, .int .u32 a0_1, .int .i64 a0_2, .int .i64 a0_3, .int .i64 a0_4, .int .i64 x105005_1, .bool a0_6, .bool a0_7, .string x105008_1] 30 (0, 0)) (Fit.pk BK104.out) hg (Kd.R_away HO_7.out (fun _ hk => hk))); have n1_ := Aside0.mk (hb); have n2_ := Aside0.mk (ho); clear BK104; clear HB; clear HO_7; have BK104 := n0_; have HB := n1_; have HO112 := n2_; clear n0_ n1_ n2_; clear ho hb hg hat))
      go_ret2
      exact ⟨_, by first | rfl | (simp [errW_none, errW_some] <;> rfl) | (simp [*, errW_none, errW_some] <;> rfl), by (with_reducible repeat (first | apply Kd.R_alloc | apply Kd.R_drewN | apply Kd.R_drew)); exact Kd.R_mono HO112.out (fun _ hk => trivial), Fit.bl HB.out⟩
     ·rw [if_neg c24] at H
      exact absurd H (by simp)
 ·rw [if_neg c4] at H
  have c4b0 : (t105 == 0) = false := beq_eq_false_iff_ne.mpr c4
  have c4b1 : (t105 != 0) = true := bne_iff_ne.mpr c4
  simp only [Option.some.injEq, Prod.mk.injEq] at H
  obtain ⟨rfl, rfl⟩ := H
  go_enter Try.func18, Try.ntmps18
  go_wp2_with (first | ((with_reducible refine gate_dst (N := 2) rfl ?_); refine box_event ?hg (N := 2) ?hd (cs := #[.int .u32 a0_0, .int .u32 a0_1, .int .i64 a0_2, .int .i64 a0_3, .int .i64 a0_4, .int .i64 a0_5, .bool a0_6, .bool a0_7, .string a0_8]) (t := 30) ?hr ?_; (case hd => rfl); (case hg => rfl); (case hr => first | (go_simp; done) | (go_simp; rfl)); intro gb104 hg w27 hbox hb; have n0_ := Aside0.mk (below_step (Fit.bl HB.out) hb); have n1_ := Aside0.mk (hbox); have n2_ := Aside0.mk ((by rw [hg]; exact (below_size (Fit.bl HB.out)) : w.heap.size ≤ gb104)); have n3_ := Aside0.mk ((by rw [hg]; exact (below_size (Fit.bl HB.out)) : w.heap.size ≤ gb104)); clear HB; have HB := n0_; have BK104 := n1_; have GW104 := n2_; have GE104 := n3_; clear n0_ n1_ n2_ n3_; clear hb hbox hg; obtain ⟨hcz28_0, hcz28_1, hcz28_2, hcz28_3, hcz28_4, hcz28_5, hcz28_6, hcz28_7, hcz28_8, hfz28_0⟩ := Fit.cells9 BK104.out) | ((with_reducible refine gate_callee (f := 42) rfl ?_); refine goesL_ (some 12) rfl rfl Try.func42 (by kernel_rfl) rfl #[.agg #[.int .u32 a0_0, .int .u32 a0_1, .int .i64 a0_2, .int .i64 a0_3, .int .i64 a0_4, .int .i64 a0_5, .bool a0_6, .bool a0_7, .string a0_8], .int .i64 a1] rfl (by (try simp only [List.map_toArray, List.map_cons, List.map_nil]); first | done | rfl | (simp only [List.length_drop, List.length_take]; rfl)) ?_; (with_reducible refine (cut_wrong.calls k a0_0 a0_1 a0_2 a0_3 a0_4 a0_5 a0_6 a0_7 a0_8 a1 t105 _ A3.out).mono ?_); rintro e w29 ⟨rfl, hb⟩; refine ⟨_, rfl, ?_⟩; have n0_ := Aside0.mk (blk_below (g := gb104) (Fit.pk BK104.out) hb); have n1_ := Aside0.mk (below_step (Fit.bl HB.out) hb); clear BK104; clear HB; have BK104 := n0_; have HB := n1_; clear n0_ n1_; (try clear hb); (try clear hb2); (try clear hk); (try clear hi)))
  go_ret2
  exact ⟨_, by first | rfl | (simp [errW_none, errW_some] <;> rfl) | (simp [*, errW_none, errW_some] <;> rfl), by first | exact Kd.R_nil _ _ _ _ _ | exact Kd.N_nil _ _ _ _ _ | exact Kd.V_nil _ _ _ _ _ | exact Kd.Q_nil _ _ _ _ _ | exact Kd.S_nil _ _ _ _ _, Fit.bl HB.out⟩

/-! ### patchbaylaw2_cutLives: function 15 -/
def patchbaylaw2_cutLives.f (k : Nat)  : Option (Bool) := (cut_Cut.f k 0 0 0 1 0 0 false false (⟨#[97, 98, 99, 100, 101, 102, 103, 104, 105]⟩ : ByteArray) 28).bind fun bt113 => (if bt113.2 = 0 then (some ((bt113.1.length : Int) == 2)) else (some false))
theorem patchbaylaw2_cutLives.mono : ∀ k, LeO (patchbaylaw2_cutLives.f k ) (patchbaylaw2_cutLives.f (k + 1) ) := by
 intro  k
 unfold patchbaylaw2_cutLives.f
 repeat' first
   | (with_reducible exact cut_Cut.mono _ _ _ _ _ _ _ _ _ _ _)
   | (with_reducible exact LeO.refl _)
   | (with_reducible exact LeO.none _)
   | (with_reducible refine LeO.ite ?_ ?_)
   | (with_reducible refine LeO.bind ?_ (fun _ => ?_))
   | exact cut_Cut.mono _ _ _ _ _ _ _ _ _ _ _
   | exact LeO.none _
   | refine LeO.ite ?_ ?_
   | refine LeO.bind ?_ (fun _ => ?_)
set_option maxHeartbeats 8000000 in
set_option maxRecDepth 100000 in
theorem patchbaylaw2_cutLives.calls (k : Nat)  (r : Bool) (w : World) (h : patchbaylaw2_cutLives.f k  = some r) :
  Calls Try.prog 15 #[] w fun e w' => e = .returned (.bool r) ∧ Below w.heap.size w w' := by
 have hu30 := Try.underlying30
 have HB := Aside0.mk (Below.refl w.heap.size w)
 have H : ((cut_Cut.f k 0 0 0 1 0 0 false false (⟨#[97, 98, 99, 100, 101, 102, 103, 104, 105]⟩ : ByteArray) 28).bind fun bt113 => (if bt113.2 = 0 then (some ((bt113.1.length : Int) == 2)) else (some false))) = some r := h
 clear h
 replace H := Option.bind_eq_some_iff.mp H
 obtain ⟨⟨t113, t116⟩, A10, H⟩ := H
 replace H : (if t116 = 0 then (some ((t113.length : Int) == 2)) else (some false)) = some r := H
 have A1 := Aside0.mk A10
 clear A10
 by_cases c2 : t116 = 0
 ·rw [if_pos c2] at H
  have c2b0 : (t116 == 0) = true := beq_iff_eq.mpr c2
  have c2b1 : (t116 != 0) = false := bne_eq_false_iff_eq.mpr c2
  clear c2
  obtain rfl := Option.some.inj H
  go_enter Try.func15, Try.ntmps15
  go_wp2_with (first | ((with_reducible refine gate_callee (f := 18) rfl ?_); refine goesL_ (some 5) rfl rfl Try.func18 (by kernel_rfl) rfl #[.agg #[.int .u32 0, .int .u32 0, .int .i64 0, .int .i64 1, .int .i64 0, .int .i64 0, .bool false, .bool false, .string (⟨#[97, 98, 99, 100, 101, 102, 103, 104, 105]⟩ : ByteArray)], .int .i64 28] rfl (by (try simp only [List.map_toArray, List.map_cons, List.map_nil]); first | done | rfl | (simp only [List.length_drop, List.length_take]; rfl)) ?_; (with_reducible refine (cut_Cut.calls k 0 0 0 1 0 0 false false (⟨#[97, 98, 99, 100, 101, 102, 103, 104, 105]⟩ : ByteArray) 28 t113 t116 _ A1.out).mono ?_); rintro e w3 ⟨v114, rfl, ho0, hb⟩; refine ⟨_, rfl, ?_⟩; have n0_ := Aside0.mk (Kd.R_lower ho0 (below_size (Fit.bl HB.out))); have n1_ := Aside0.mk (below_step (Fit.bl HB.out) hb); clear HB; have HO115 := n0_; have HB := n1_; clear n0_ n1_; (try clear hb); (try clear hb2); (try clear hk); (try clear hi); (try clear ho0); obtain ⟨Ao4, co4, eo4⟩ := Kd.R_slice HO115.out; subst eo4))
  go_ret
  exact ⟨by first | rfl | (simp [errW_none, errW_some] <;> rfl) | (simp [*, errW_none, errW_some] <;> rfl), Fit.bl HB.out⟩
 ·rw [if_neg c2] at H
  have c2b0 : (t116 == 0) = false := beq_eq_false_iff_ne.mpr c2
  have c2b1 : (t116 != 0) = true := bne_iff_ne.mpr c2
  obtain rfl := Option.some.inj H
  go_enter Try.func15, Try.ntmps15
  go_wp2_with (first | ((with_reducible refine gate_callee (f := 18) rfl ?_); refine goesL_ (some 5) rfl rfl Try.func18 (by kernel_rfl) rfl #[.agg #[.int .u32 0, .int .u32 0, .int .i64 0, .int .i64 1, .int .i64 0, .int .i64 0, .bool false, .bool false, .string (⟨#[97, 98, 99, 100, 101, 102, 103, 104, 105]⟩ : ByteArray)], .int .i64 28] rfl (by (try simp only [List.map_toArray, List.map_cons, List.map_nil]); first | done | rfl | (simp only [List.length_drop, List.length_take]; rfl)) ?_; (with_reducible refine (cut_Cut.calls k 0 0 0 1 0 0 false false (⟨#[97, 98, 99, 100, 101, 102, 103, 104, 105]⟩ : ByteArray) 28 t113 t116 _ A1.out).mono ?_); rintro e w5 ⟨v114, rfl, ho0, hb⟩; refine ⟨_, rfl, ?_⟩; have n0_ := Aside0.mk (Kd.R_lower ho0 (below_size (Fit.bl HB.out))); have n1_ := Aside0.mk (below_step (Fit.bl HB.out) hb); clear HB; have HO115 := n0_; have HB := n1_; clear n0_ n1_; (try clear hb); (try clear hb2); (try clear hk); (try clear hi); (try clear ho0)))
  go_ret
  exact ⟨by first | rfl | (simp [errW_none, errW_some] <;> rfl) | (simp [*, errW_none, errW_some] <;> rfl), Fit.bl HB.out⟩

/-! ### patchbaylaw2_begin: function 9 -/
def patchbaylaw2_begin.f (a0 : ByteArray) (a1 : Int) : Option (ByteArray) := if 0 ≤ (mn (a0.size : Int) a1) then (if (mn (a0.size : Int) a1) ≤ (a0.size : Int) then (some (a0.extract 0 ((mn (a0.size : Int) a1) : Int).toNat)) else (none)) else (none)
set_option maxHeartbeats 8000000 in
set_option maxRecDepth 100000 in
theorem patchbaylaw2_begin.calls (a0 : ByteArray) (a1 : Int) (r : ByteArray) (w : World) (h : patchbaylaw2_begin.f a0 a1 = some r) :
  Calls Try.prog 9 #[.string a0, .int .i64 a1] w fun e w' => e = .returned (.string r) ∧ Below w.heap.size w w' := by
 have HB := Aside0.mk (Below.refl w.heap.size w)
 have H : (if 0 ≤ (mn (a0.size : Int) a1) then (if (mn (a0.size : Int) a1) ≤ (a0.size : Int) then (some (a0.extract 0 ((mn (a0.size : Int) a1) : Int).toNat)) else (none)) else (none)) = some r := h
 clear h
 obtain ⟨ji3, hji3⟩ : ∃ j_ : Int, (mn (a0.size : Int) a1) = j_ := ⟨_, rfl⟩
 replace H : (if 0 ≤ (ji3) then (if (ji3) ≤ (a0.size : Int) then (some (a0.extract 0 ((ji3) : Int).toNat)) else (none)) else (none)) = some r := by first | (rw [hji3] at H; exact H) | (simp only [hji3] at H ⊢; exact H)
 have hji3_ : (if a1 < (a0.size : Int) then a1 else (a0.size : Int)) = ji3 := hji3
 by_cases c4 : 0 ≤ (ji3)
 ·rw [if_pos c4] at H
  have c4b0 := eq_true c4
  have c4b1 : decide (0 ≤ (ji3)) = true := decide_eq_true c4
  clear c4
  by_cases c5 : (ji3) ≤ (a0.size : Int)
  ·rw [if_pos c5] at H
   have c5b0 := eq_true c5
   have c5b1 : decide ((ji3) ≤ (a0.size : Int)) = true := decide_eq_true c5
   clear c5
   obtain rfl := Option.some.inj H
   go_enter Try.func9, Try.ntmps9
   go_wp2
   go_ret
   exact ⟨by first | rfl | (simp [errW_none, errW_some] <;> rfl) | (simp only [← hji3]; first | rfl | (simp [errW_none, errW_some] <;> rfl)) | (simp [*, errW_none, errW_some] <;> rfl), Fit.bl HB.out⟩
  ·rw [if_neg c5] at H
   exact absurd H (by simp)
 ·rw [if_neg c4] at H
  exact absurd H (by simp)

/-! ### patchbaylaw2_bare: function 16 -/
def patchbaylaw2_bare.f (a0_0 : Int) (a0_1 : Int) (a0_2 : Int) (a0_3 : Int) (a0_4 : Int) (a0_5 : Int) (a0_6 : Bool) (a0_7 : Bool) (a0_8 : ByteArray) (a1 : Int) : Option (Int × Int × Int × Int × Int × Int × Bool × Bool × ByteArray) := (patchbaylaw2_begin.f a0_8 a1).bind fun t119 => (some (a0_0, a0_1, a0_2, a0_3, a0_4, a0_5, a0_6, a0_7, t119))
set_option maxHeartbeats 8000000 in
set_option maxRecDepth 100000 in
theorem patchbaylaw2_bare.calls (a0_0 : Int) (a0_1 : Int) (a0_2 : Int) (a0_3 : Int) (a0_4 : Int) (a0_5 : Int) (a0_6 : Bool) (a0_7 : Bool) (a0_8 : ByteArray) (a1 : Int) (r1 : Int) (r2 : Int) (r3 : Int) (r4 : Int) (r5 : Int) (r6 : Int) (r7 : Bool) (r8 : Bool) (r9 : ByteArray) (w : World) (h : patchbaylaw2_bare.f a0_0 a0_1 a0_2 a0_3 a0_4 a0_5 a0_6 a0_7 a0_8 a1 = some (r1, r2, r3, r4, r5, r6, r7, r8, r9)) :
  Calls Try.prog 16 #[.agg #[.int .u32 a0_0, .int .u32 a0_1, .int .i64 a0_2, .int .i64 a0_3, .int .i64 a0_4, .int .i64 a0_5, .bool a0_6, .bool a0_7, .string a0_8], .int .i64 a1] w fun e w' => e = .returned (.agg #[.int .u32 r1, .int .u32 r2, .int .i64 r3, .int .i64 r4, .int .i64 r5, .int .i64 r6, .bool r7, .bool r8, .string r9]) ∧ Below w.heap.size w w' := by
 have hu30 := Try.underlying30
 have HB := Aside0.mk (Below.refl w.heap.size w)
 have H : ((patchbaylaw2_begin.f a0_8 a1).bind fun t119 => (some (a0_0, a0_1, a0_2, a0_3, a0_4, a0_5, a0_6, a0_7, t119))) = some (r1, r2, r3, r4, r5, r6, r7, r8, r9) := h
 clear h
 replace H := Option.bind_eq_some_iff.mp H
 obtain ⟨t119, A30, H⟩ := H
 replace H : (some (a0_0, a0_1, a0_2, a0_3, a0_4, a0_5, a0_6, a0_7, t119)) = some (r1, r2, r3, r4, r5, r6, r7, r8, r9) := H
 have A3 := Aside0.mk A30
 clear A30
 simp only [Option.some.injEq, Prod.mk.injEq] at H
 obtain ⟨rfl, rfl, rfl, rfl, rfl, rfl, rfl, rfl, rfl⟩ := H
 go_enter Try.func16, Try.ntmps16
 go_wp2_with (first | ((with_reducible refine gate_dst (N := 2) rfl ?_); refine box_event ?hg (N := 2) ?hd (cs := #[.int .u32 a0_0, .int .u32 a0_1, .int .i64 a0_2, .int .i64 a0_3, .int .i64 a0_4, .int .i64 a0_5, .bool a0_6, .bool a0_7, .string a0_8]) (t := 30) ?hr ?_; (case hd => rfl); (case hg => rfl); (case hr => first | (go_simp; done) | (go_simp; rfl)); intro gb117 hg w4 hbox hb; have n0_ := Aside0.mk (below_step (Fit.bl HB.out) hb); have n1_ := Aside0.mk (hbox); have n2_ := Aside0.mk ((by rw [hg]; exact (below_size (Fit.bl HB.out)) : w.heap.size ≤ gb117)); have n3_ := Aside0.mk ((by rw [hg]; exact (below_size (Fit.bl HB.out)) : w.heap.size ≤ gb117)); clear HB; have HB := n0_; have BK117 := n1_; have GW117 := n2_; have GE117 := n3_; clear n0_ n1_ n2_ n3_; clear hb hbox hg) | ((with_reducible refine gate_dst (N := 4) rfl ?_); refine box_event ?hg (N := 4) ?hd (cs := #[.int .u32 0, .int .u32 0, .int .i64 0, .int .i64 0, .int .i64 0, .int .i64 0, .bool false, .bool false, .string (⟨#[]⟩ : ByteArray)]) (t := 30) ?hr ?_; (case hd => rfl); (case hg => rfl); (case hr => first | (go_simp; done) | (go_simp; rfl)); intro gb118 hg w5 hbox hb; have n0_ := Aside0.mk (blk_below (g := gb117) (Fit.pk BK117.out) hb); have n1_ := Aside0.mk (below_step (Fit.bl HB.out) hb); have n2_ := Aside0.mk (hbox); have n3_ := Aside0.mk ((by rw [hg]; exact (below_size (Fit.bl HB.out)) : w.heap.size ≤ gb118)); have n4_ := Aside0.mk ((by rw [hg]; exact (below_size (Fit.bl HB.out)) : w.heap.size ≤ gb118)); have n5_ := Aside0.mk ((by rw [hg]; exact Nat.ne_of_lt (blk_lt (g := gb117) (Fit.pk BK117.out)) : gb117 ≠ gb118)); have n6_ := Aside0.mk ((by rw [hg]; exact Nat.ne_of_gt (blk_lt (g := gb117) (Fit.pk BK117.out)) : gb118 ≠ gb117)); clear BK117; clear HB; have BK117 := n0_; have HB := n1_; have BK118 := n2_; have GW118 := n3_; have GE118 := n4_; have NB117_118 := n5_; have NB118_117 := n6_; clear n0_ n1_ n2_ n3_ n4_ n5_ n6_; clear hb hbox hg; have hnb6 := NB117_118.out; have hnc6 := NB118_117.out; obtain ⟨hcz7_0, hcz7_1, hcz7_2, hcz7_3, hcz7_4, hcz7_5, hcz7_6, hcz7_7, hcz7_8, hfz7_0⟩ := Fit.cells9 BK117.out) | ((with_reducible refine gate_callee (f := 9) rfl ?_); refine goesL_ (some 8) rfl rfl Try.func9 (by kernel_rfl) rfl #[.string a0_8, .int .i64 a1] rfl (by (try simp only [List.map_toArray, List.map_cons, List.map_nil]); first | done | rfl | (simp only [List.length_drop, List.length_take]; rfl)) ?_; (with_reducible refine (patchbaylaw2_begin.calls a0_8 a1 t119 _ A3.out).mono ?_); rintro e w8 ⟨rfl, hb⟩; refine ⟨_, rfl, ?_⟩; have n0_ := Aside0.mk (blk_below (g := gb117) (Fit.pk BK117.out) hb); have n1_ := Aside0.mk (blk_below (g := gb118) (Fit.pk BK118.out) hb); have n2_ := Aside0.mk (below_step (Fit.bl HB.out) hb); clear BK117; clear BK118; clear HB; have BK117 := n0_; have BK118 := n1_; have HB := n2_; clear n0_ n1_ n2_; (try clear hb); (try clear hb2); (try clear hk); (try clear hi); obtain ⟨hcz9_0, hcz9_1, hcz9_2, hcz9_3, hcz9_4, hcz9_5, hcz9_6, hcz9_7, hcz9_8, hfz9_0⟩ := Fit.cells9 BK117.out; obtain ⟨hcz10_0, hcz10_1, hcz10_2, hcz10_3, hcz10_4, hcz10_5, hcz10_6, hcz10_7, hcz10_8, hfz10_0⟩ := Fit.cells9 BK118.out))
 refine bodyPost_ret (results_cell_row rfl _ _ gb118 30 #[.int .u32 a0_0, .int .u32 a0_1, .int .i64 a0_2, .int .i64 a0_3, .int .i64 a0_4, .int .i64 a0_5, .bool a0_6, .bool a0_7, .string t119] (0, 0) _ rfl (by (with_reducible repeat first | apply blk_drewN | apply blk_drew | apply blk_alloc); refine blk_put (cs := #[.int .u32 a0_0, .int .u32 a0_1, .int .i64 a0_2, .int .i64 a0_3, .int .i64 a0_4, .int .i64 a0_5, .bool a0_6, .bool a0_7, .string (⟨#[]⟩ : ByteArray)]) ?_ 8 _ rfl; (with_reducible repeat first | apply blk_drewN | apply blk_drew | apply blk_alloc); refine blk_put (cs := #[.int .u32 a0_0, .int .u32 a0_1, .int .i64 a0_2, .int .i64 a0_3, .int .i64 a0_4, .int .i64 a0_5, .bool a0_6, .bool false, .string (⟨#[]⟩ : ByteArray)]) ?_ 7 _ rfl; (with_reducible repeat first | apply blk_drewN | apply blk_drew | apply blk_alloc); refine blk_put (cs := #[.int .u32 a0_0, .int .u32 a0_1, .int .i64 a0_2, .int .i64 a0_3, .int .i64 a0_4, .int .i64 a0_5, .bool false, .bool false, .string (⟨#[]⟩ : ByteArray)]) ?_ 6 _ rfl; (with_reducible repeat first | apply blk_drewN | apply blk_drew | apply blk_alloc); refine blk_put (cs := #[.int .u32 a0_0, .int .u32 a0_1, .int .i64 a0_2, .int .i64 a0_3, .int .i64 a0_4, .int .i64 0, .bool false, .bool false, .string (⟨#[]⟩ : ByteArray)]) ?_ 5 _ rfl; (with_reducible repeat first | apply blk_drewN | apply blk_drew | apply blk_alloc); refine blk_put (cs := #[.int .u32 a0_0, .int .u32 a0_1, .int .i64 a0_2, .int .i64 a0_3, .int .i64 0, .int .i64 0, .bool false, .bool false, .string (⟨#[]⟩ : ByteArray)]) ?_ 4 _ rfl; (with_reducible repeat first | apply blk_drewN | apply blk_drew | apply blk_alloc); refine blk_put (cs := #[.int .u32 a0_0, .int .u32 a0_1, .int .i64 a0_2, .int .i64 0, .int .i64 0, .int .i64 0, .bool false, .bool false, .string (⟨#[]⟩ : ByteArray)]) ?_ 3 _ rfl; (with_reducible repeat first | apply blk_drewN | apply blk_drew | apply blk_alloc); refine blk_put (cs := #[.int .u32 a0_0, .int .u32 a0_1, .int .i64 0, .int .i64 0, .int .i64 0, .int .i64 0, .bool false, .bool false, .string (⟨#[]⟩ : ByteArray)]) ?_ 2 _ rfl; (with_reducible repeat first | apply blk_drewN | apply blk_drew | apply blk_alloc); refine blk_put (cs := #[.int .u32 a0_0, .int .u32 0, .int .i64 0, .int .i64 0, .int .i64 0, .int .i64 0, .bool false, .bool false, .string (⟨#[]⟩ : ByteArray)]) ?_ 1 _ rfl; (with_reducible repeat first | apply blk_drewN | apply blk_drew | apply blk_alloc); refine blk_put (cs := #[.int .u32 0, .int .u32 0, .int .i64 0, .int .i64 0, .int .i64 0, .int .i64 0, .bool false, .bool false, .string (⟨#[]⟩ : ByteArray)]) ?_ 0 _ rfl; (with_reducible repeat first | apply blk_drewN | apply blk_drew | apply blk_alloc); refine blk_far ?_ NB118_117.out _; (with_reducible repeat first | apply blk_drewN | apply blk_drew | apply blk_alloc); exact BK118.out) Try.underlying30 rfl (by kernel_rfl)) rfl ?_
 exact ⟨by first | rfl | (simp [errW_none, errW_some] <;> rfl) | (simp [*, errW_none, errW_some] <;> rfl), Fit.bl HB.out⟩

end Go.Proofs.Ythpohaafphaidaa.GCutSays
