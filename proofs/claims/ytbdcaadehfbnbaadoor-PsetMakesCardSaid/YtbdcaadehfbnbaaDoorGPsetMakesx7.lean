-- a text that a program of this session wrote
import Derived.Test.YtbdcaadehfbnbaaDoorGPsetMakesx0
import Derived.Test.YtbdcaadehfbnbaaDoorGPsetMakesx1
import Derived.Test.YtbdcaadehfbnbaaDoorGPsetMakesx6
import Derived.Test.YtbdcaadehfbnbaaDoorQTz
import Derived.Test.YtbdcaadehfbnbaaDoorQCk
namespace Go.Proofs.YtbdcaadehfbnbaaDoor.GPsetMakes
open Go.RowKit Go.Proofs.YtbdcaadehfbnbaaDoorW.PrintWords Go.Proofs.YtbdcaadehfbnbaaDoorW.PrintLast Go.Proofs.YtbdcaadehfbnbaaDoorW.PrintMore
attribute [local go_sem] max2_int min2_int max_two min_two max_three min_three max_four min_four   -- for this text's walks alone
attribute [local go_sem high] Go.Proofs.YtbdcaadehfbnbaaDoor.Fit.run_string_add_fit
set_option linter.unusedVariables false
set_option linter.unusedSimpArgs false

attribute [local go_sem high] eqA24
/-! ### patchbayref2_cover: function 53 -/
mutual
def patchbayref2_cover.l0 : Nat → List (S24) → List (S24) → Int → Int → Int → Int → Option ((List (S24)))
 | 0, _, _, _, _, _, _ => none
 | k + 1, x5, x12, x13, x14, x203000, x203001 => if x14 < x13 then (if 0 ≤ x14 then (if x14 < (x12.length : Int) then ((patchbayref2_Below.f k x203000 x203001 ((rd_T24 x12 x14).f0) ((rd_T24 x12 x14).f1)).bind fun t205 => (if t205 = true then (some (([(⟨x203000, x203001⟩ : S24)] : List (S24)))) else ((patchbayref2_Below.f k ((rd_T24 x12 x14).f0) ((rd_T24 x12 x14).f1) x203000 x203001).bind fun t209 => (if t209 = true then (if x5.length < 8796093022208 then (patchbayref2_cover.l0 k (x5 ++ [(⟨(rd_T24 x12 x14).f0, (rd_T24 x12 x14).f1⟩ : S24)]) x12 x13 (wrap64 (x14 + 1)) x203000 x203001) else (none)) else (patchbayref2_cover.l0 k x5 x12 x13 (wrap64 (x14 + 1)) x203000 x203001))))) else (none)) else (none)) else (if (x5.length : Int) = 0 then (some ([] : List (S24))) else ((patchbayref2_halves.f k x203000 x203001).bind fun bt213 => ((patchbayref2_cover.f k bt213.1 bt213.2.1 x5).bind fun t219 => ((patchbayref2_cover.f k bt213.2.2.1 bt213.2.2.2 x5).bind fun t222 => (if (t219.length : Int) = 1 then (if (t222.length : Int) = 1 then (if 0 < (t219.length : Int) then (if (((rd_T24 t219 0).f0) == bt213.1 && (((rd_T24 t219 0).f1) == bt213.2.1)) = true then (if 0 < (t222.length : Int) then (if (((rd_T24 t222 0).f0) == bt213.2.2.1 && (((rd_T24 t222 0).f1) == bt213.2.2.2)) = true then (some (([(⟨x203000, x203001⟩ : S24)] : List (S24)))) else ((some (([] : List (S24)) : List (S24))).bind fun y230 => (if y230.length + t219.length < 8796093022208 then ((some (y230 ++ t219 : List (S24))).bind fun y233 => (if y233.length + t222.length < 8796093022208 then (some (y233 ++ t222)) else (none))) else (none)))) else (none)) else ((some (([] : List (S24)) : List (S24))).bind fun y239 => (if y239.length + t219.length < 8796093022208 then ((some (y239 ++ t219 : List (S24))).bind fun y242 => (if y242.length + t222.length < 8796093022208 then (some (y242 ++ t222)) else (none))) else (none)))) else (none)) else ((some (([] : List (S24)) : List (S24))).bind fun y248 => (if y248.length + t219.length < 8796093022208 then ((some (y248 ++ t219 : List (S24))).bind fun y251 => (if y251.length + t222.length < 8796093022208 then (some (y251 ++ t222)) else (none))) else (none)))) else ((some (([] : List (S24)) : List (S24))).bind fun y257 => (if y257.length + t219.length < 8796093022208 then ((some (y257 ++ t219 : List (S24))).bind fun y260 => (if y260.length + t222.length < 8796093022208 then (some (y260 ++ t222)) else (none))) else (none))))))))
def patchbayref2_cover.f : Nat → Int → Int → List (S24) → Option ((List (S24)))
 | 0, _, _, _ => none
 | k + 1, a0_0, a0_1, l1 => patchbayref2_cover.l0 k ([] : List (S24)) l1 (l1.length : Int) 0 a0_0 a0_1
end
theorem patchbayref2_cover.mono_l : ∀ k, (∀ y0 y1 y2, LeO (patchbayref2_cover.f k y0 y1 y2) (patchbayref2_cover.f (k + 1) y0 y1 y2)) ∧ (∀ y0 y1 y2 y3 y4 y5, LeO (patchbayref2_cover.l0 k y0 y1 y2 y3 y4 y5) (patchbayref2_cover.l0 (k + 1) y0 y1 y2 y3 y4 y5))
 | 0 => ⟨fun _ _ _ r h => by simp [patchbayref2_cover.f] at h, fun _ _ _ _ _ _ r h => by simp [patchbayref2_cover.l0] at h⟩
 | k + 1 => by
  obtain ⟨ih0, ih1⟩ := patchbayref2_cover.mono_l k
  refine ⟨?_, ?_⟩
  ·intro y0 y1 y2
   unfold patchbayref2_cover.f
   repeat' first
   | (with_reducible exact ih0 _ _ _)
   | (with_reducible exact ih1 _ _ _ _ _ _)
   | (with_reducible exact patchbayref2_Below.mono _ _ _ _ _)
   | (with_reducible exact patchbayref2_halves.mono _ _ _)
   | (with_reducible exact LeO.refl _)
   | (with_reducible exact LeO.none _)
   | (with_reducible refine LeO.ite ?_ ?_)
   | (with_reducible refine LeO.bind ?_ (fun _ => ?_))
   | exact ih0 _ _ _
   | exact ih1 _ _ _ _ _ _
   | exact patchbayref2_Below.mono _ _ _ _ _
   | exact patchbayref2_halves.mono _ _ _
   | exact LeO.none _
   | refine LeO.ite ?_ ?_
   | refine LeO.bind ?_ (fun _ => ?_)
  ·intro y0 y1 y2 y3 y4 y5
   unfold patchbayref2_cover.l0
   repeat' first
   | (with_reducible exact ih0 _ _ _)
   | (with_reducible exact ih1 _ _ _ _ _ _)
   | (with_reducible exact patchbayref2_Below.mono _ _ _ _ _)
   | (with_reducible exact patchbayref2_halves.mono _ _ _)
   | (with_reducible exact LeO.refl _)
   | (with_reducible exact LeO.none _)
   | (with_reducible refine LeO.ite ?_ ?_)
   | (with_reducible refine LeO.bind ?_ (fun _ => ?_))
   | exact ih0 _ _ _
   | exact ih1 _ _ _ _ _ _
   | exact patchbayref2_Below.mono _ _ _ _ _
   | exact patchbayref2_halves.mono _ _ _
   | exact LeO.none _
   | refine LeO.ite ?_ ?_
   | refine LeO.bind ?_ (fun _ => ?_)
theorem patchbayref2_cover.mono : ∀ a0 a1 a2 k, LeO (patchbayref2_cover.f k a0 a1 a2) (patchbayref2_cover.f (k + 1) a0 a1 a2) := by
 intro a0 a1 a2 k
 obtain ⟨ih0, ih1⟩ := patchbayref2_cover.mono_l k
 exact ih0 a0 a1 a2
def patchbayref2_cover.T13 : Bool × List (List Nat × List Nat) := (true, [([], []), ([], []), ([0, 1], [0, 1]), ([], []), ([], []), ([3, 4, 2], [3, 4]), ([2, 5, 0, 1, 2], [2]), ([5, 6, 0, 1, 2, 3, 4, 5, 6], [5])])
def patchbayref2_cover.B13 : List Nat := [0, 0, 3, 0, 0, 31, 63, 127]
theorem patchbayref2_cover.tab13 : rtab .any (opsOf Tryd.f53 13) = patchbayref2_cover.T13 := by kernel_rfl
theorem patchbayref2_cover.bits13 : waitsOk patchbayref2_cover.T13.2 patchbayref2_cover.B13 = true := by kernel_rfl
def patchbayref2_cover.T14 : Bool × List (List Nat × List Nat) := (true, [([], []), ([0], [0]), ([1], [1]), ([2], [2]), ([3], [3]), ([4, 3], [3, 4]), ([5, 3], [3, 5]), ([3, 6], [3, 6]), ([7, 3], [7]), ([8], [8]), ([9, 8], [8, 9]), ([10, 8], [8, 10]), ([8], [8]), ([11, 12, 8], [8, 11, 12]), ([8, 13], [8, 13]), ([14, 8], [14]), ([15], [15]), ([16, 15], [15, 16]), ([17, 15], [15, 17]), ([15], [15]), ([18, 19, 15], [15, 18, 19]), ([15, 20], [15, 20])])
def patchbayref2_cover.B14 : List Nat := [0, 1, 3, 7, 15, 31, 63, 127, 255, 511, 1023, 2047, 511, 8191, 16383, 32767, 65535, 131071, 262143, 65535, 1048575, 2097151]
theorem patchbayref2_cover.tab14 : rtab .any (opsOf Tryd.f53 14) = patchbayref2_cover.T14 := by kernel_rfl
theorem patchbayref2_cover.bits14 : waitsOk patchbayref2_cover.T14.2 patchbayref2_cover.B14 = true := by kernel_rfl
set_option maxHeartbeats 8000000 in
set_option maxRecDepth 100000 in
theorem patchbayref2_cover.calls (k : Nat) : ∀ (a0_0 : Int) (a0_1 : Int) (A1 : Option Addr) (c1 : Nat) (l1 : List (S24)) (r : List (S24)) (w : World) (hr1 : Kd.C k24 w A1 l1.length l1) (hc1 : l1.length ≤ c1) (h : patchbayref2_cover.f k a0_0 a0_1 l1 = some r),
  Calls Tryd.prog 53 #[.agg #[.int .u32 a0_0, .int .i64 a0_1], .slice A1 l1.length c1] w fun e w' => ∃ v0_ : Value, e = .returned (v0_) ∧ Kd.R k24 24 w' w.heap.size (fun _ => True) v0_ r ∧ Below w.heap.size w w' := by
 induction k using Nat.strongRecOn with
 | _ k ih =>
 intro a0_0 a0_1 A1 c1 l1 r w hr1 hc1 h
 cases k with
 | zero => exact absurd h (by simp [patchbayref2_cover.f])
 | succ k =>
 simp only [patchbayref2_cover.f] at h
 have hu24 := Tryd.underlying24
 have HR1 := Aside0.mk hr1
 have HC1 := Aside0.mk hc1
 clear hr1 hc1
 have HB := Aside0.mk (Below.refl w.heap.size w)
 have H : (patchbayref2_cover.l0 k ([] : List (S24)) l1 (l1.length : Int) 0 a0_0 a0_1) = some r := h
 clear h
 have H' := Aside0.mk H
 clear H
 go_enter Tryd.func53, Tryd.ntmps53
 go_wp2_with (first | ((with_reducible refine gate_dst (N := 2) rfl ?_); (try (refine gate_guard (by rfl) ?_; dsimp only)); refine box_event ?hg (N := 2) ?hd (cs := #[.int .u32 a0_0, .int .i64 a0_1]) (t := 24) ?hr ?_; (case hd => rfl); (case hg => rfl); (case hr => first | (go_simp; done) | (go_simp; rfl)); intro gb202 hg w3 hbox hb; have n0_ := Aside0.mk (below_step (Fit.bl HB.out) hb); have n1_ := Aside0.mk (hbox); have n2_ := Aside0.mk ((by rw [hg]; exact (below_size (Fit.bl HB.out)) : w.heap.size ≤ gb202)); have n3_ := Aside0.mk ((by rw [hg]; exact (below_size (Fit.bl HB.out)) : w.heap.size ≤ gb202)); clear HB; have HB := n0_; have BK202 := n1_; have GW202 := n2_; have GE202 := n3_; clear n0_ n1_ n2_ n3_; clear hb hbox hg))
 go_loopg [5, 14] k (fun kq v5 v14 w' => ∃ (x5_1 : List (S24)) (x14_1 : Int), v14 = .int .i64 x14_1 ∧ Aside0 (patchbayref2_cover.l0 kq x5_1 l1 (l1.length : Int) x14_1 a0_0 a0_1 = some r) ∧ Aside0 (kq ≤ k) ∧ Aside0 (Kd.R k24 24 w' w.heap.size (fun k_ => k_ ≠ gb202) v5 x5_1) ∧ Aside0 (w'.heap[gb202]? = some (.cells #[.int .u32 a0_0, .int .i64 a0_1] 24 (0, 0))) ∧ Aside0 (Below w.heap.size w w'))
 case atStart => exact ⟨(([] : List (S24))), (0), (by first | rfl | (simp; done) | (simp [*]; done)), H', ⟨Nat.le_refl _⟩, ⟨by first | exact Kd.R_nil _ _ _ _ _ | exact Kd.N_nil _ _ _ _ _ | exact Kd.V_nil _ _ _ _ _ | exact Kd.Q_nil _ _ _ _ _ | exact Kd.S_nil _ _ _ _ _⟩, ⟨by (with_reducible repeat first | apply blk_drewN | apply blk_drew | apply blk_alloc); exact BK202.out⟩, ⟨Fit.bl HB.out⟩⟩
 case round =>
  clear H'
  try clear c1
  try clear p2
  obtain ⟨x5_1, x14_1, rfl, HA, HK1, HO_5, BK202, HB⟩ := hrel
  cases gk with
  | zero => exact absurd HA.out (by simp [patchbayref2_cover.l0])
  | succ k1 =>
   have H := HA.out
   clear HA
   simp only [patchbayref2_cover.l0] at H
   by_cases c4 : x14_1 < (l1.length : Int)
   ·rw [if_pos c4] at H
    have c4b0 : decide (x14_1 < (l1.length : Int)) = true := decide_eq_true c4
    clear c4
    by_cases c5 : 0 ≤ x14_1
    ·rw [if_pos c5] at H
     have c5b0 : decide (0 ≤ x14_1) = true := decide_eq_true c5
     clear c5
     by_cases c6 : x14_1 < (l1.length : Int)
     ·rw [if_pos c6] at H
      have c6b0 : decide (x14_1 < (l1.length : Int)) = true := decide_eq_true c6
      clear c6
      replace H := Option.bind_eq_some_iff.mp H
      obtain ⟨t205, A70, H⟩ := H
      replace H : (if t205 = true then (some (([(⟨a0_0, a0_1⟩ : S24)] : List (S24)))) else ((patchbayref2_Below.f k1 ((rd_T24 l1 x14_1).f0) ((rd_T24 l1 x14_1).f1) a0_0 a0_1).bind fun t209 => (if t209 = true then (if x5_1.length < 8796093022208 then (patchbayref2_cover.l0 k1 (x5_1 ++ [(⟨(rd_T24 l1 x14_1).f0, (rd_T24 l1 x14_1).f1⟩ : S24)]) l1 (l1.length : Int) (wrap64 (x14_1 + 1)) a0_0 a0_1) else (none)) else (patchbayref2_cover.l0 k1 x5_1 l1 (l1.length : Int) (wrap64 (x14_1 + 1)) a0_0 a0_1)))) = some r := H
      have A7 := Aside0.mk A70
      clear A70
      by_cases c8 : t205 = true
      ·subst c8
       have H1 : (some (([(⟨a0_0, a0_1⟩ : S24)] : List (S24)))) = some r := by rw [if_pos rfl] at H; exact H
       clear H
       have H := H1
       clear H1
       obtain ⟨y206, hy206⟩ : ∃ y_ : List (S24), y_ = (([(⟨a0_0, a0_1⟩ : S24)] : List (S24))) := ⟨_, rfl⟩
       replace H : (some y206) = some r := by first | (rw [hy206]; with_reducible exact H) | (have H2_ := (Option.bind_some _ _).symm.trans H; rw [hy206]; with_reducible exact H2_) | (have H2_ := (Option.bind_some _ _).symm.trans H; with_reducible exact H2_) | with_reducible exact H | (rw [hy206]; exact H) | exact H
       have Ny206 := Aside0.mk hy206
       clear hy206
       obtain rfl := Option.some.inj H
       have p203 : 0 ≤ (x14_1 : Int) := of_decide_eq_true (by first | (with_reducible assumption) | assumption)
       have q203 : x14_1 < (l1.length : Int) := of_decide_eq_true (by first | (with_reducible assumption) | assumption)
       obtain ⟨ad203, e203, hx203_0, hx203_1⟩ := at_T24 HR1.out x14_1 p203 q203
       cases e203
       replace hx203_0 := (HB.out.cell (World.block_lt_of_cell? w _ hx203_0)).trans hx203_0
       replace hx203_1 := (HB.out.cell (World.block_lt_of_cell? w _ hx203_1)).trans hx203_1
       replace p203 := eq_true p203
       replace q203 := eq_true q203
       go_wp2_with (first | ((with_reducible refine gate_dst (N := 7) rfl ?_); (try (refine gate_guard (by rfl) ?_; dsimp only)); refine box_event ?hg (N := 7) ?hd (cs := #[.int .u32 0, .int .i64 0]) (t := 24) ?hr ?_; (case hd => rfl); (case hg => rfl); (case hr => first | (go_simp; done) | (go_simp; rfl)); intro gb204 hg w9 hbox hb; have n0_ := Aside0.mk (Kd.R_below (Kd.R_elderB (by (with_reducible repeat (first | apply Kd.R_alloc | apply Kd.R_drewN | apply Kd.R_drew)); exact HO_5.out) gb204 (Nat.le_of_eq hg.symm)) hb); have n1_ := Aside0.mk (blk_below (g := gb202) (Fit.pk BK202.out) hb); have n2_ := Aside0.mk (below_step (Fit.bl HB.out) hb); have n3_ := Aside0.mk (hbox); have n4_ := Aside0.mk ((by rw [hg]; exact (below_size (Fit.bl HB.out)) : w.heap.size ≤ gb204)); have n5_ := Aside0.mk ((by rw [hg]; exact (below_size (Fit.bl HB.out)) : w.heap.size ≤ gb204)); have n6_ := Aside0.mk ((by rw [hg]; exact Nat.ne_of_lt (blk_lt (g := gb202) (Fit.pk BK202.out)) : gb202 ≠ gb204)); have n7_ := Aside0.mk ((by rw [hg]; exact Nat.ne_of_gt (blk_lt (g := gb202) (Fit.pk BK202.out)) : gb204 ≠ gb202)); clear HO_5; clear BK202; clear HB; have HO_5 := n0_; have BK202 := n1_; have HB := n2_; have BK204 := n3_; have GW204 := n4_; have GE204 := n5_; have NB202_204 := n6_; have NB204_202 := n7_; clear n0_ n1_ n2_ n3_ n4_ n5_ n6_ n7_; clear hb hbox hg; have hnb10 := NB204_202.out; have hnc10 := NB202_204.out; obtain ⟨hcz11_0, hcz11_1, hfz11_0⟩ := Fit.cells2 BK204.out; obtain ⟨hcz12_0, hcz12_1, hfz12_0⟩ := Fit.cells2 BK202.out) | ((with_reducible refine gate_callee (f := 14) rfl ?_); refine goesL_ (some 20) rfl rfl Tryd.func14 (by kernel_rfl) rfl #[.agg #[.int .u32 a0_0, .int .i64 a0_1], .agg #[.int .u32 ((rd_T24 l1 x14_1).f0), .int .i64 ((rd_T24 l1 x14_1).f1)]] rfl (by (try simp only [List.map_toArray, List.map_cons, List.map_nil]); first | done | rfl | (simp only [List.length_drop, List.length_take]; rfl)) ?_; (with_reducible refine (patchbayref2_Below.calls k1 a0_0 a0_1 ((rd_T24 l1 x14_1).f0) ((rd_T24 l1 x14_1).f1) true _ A7.out).mono ?_); rintro e w13 ⟨rfl, hb⟩; refine ⟨_, rfl, ?_⟩; have n0_ := Aside0.mk (Kd.R_below (by (with_reducible repeat (first | apply Kd.R_alloc | apply Kd.R_drewN | apply Kd.R_drew)); exact (Kd.R_mono (Kd.R_far (p := ⟨gb204, 1, none⟩) (Kd.R_far (p := ⟨gb204, 0, none⟩) (Kd.R_mono HO_5.out (fun k_ hk => (⟨hk, hk.2⟩ : _ ∧ k_ ≠ gb204))) (fun _ hk => hk.2) (.int .u32 ((rd_T24 l1 x14_1).f0))) (fun _ hk => hk.2) (.int .i64 ((rd_T24 l1 x14_1).f1))) (fun _ h_ => h_.1))) hb); have n1_ := Aside0.mk (blk_below (g := gb202) (o := .cells #[.int .u32 a0_0, .int .i64 a0_1] 24 (0, 0)) (by (with_reducible repeat first | apply blk_drewN | apply blk_drew | apply blk_alloc); refine blk_far ?_ NB202_204.out _; (with_reducible repeat first | apply blk_drewN | apply blk_drew | apply blk_alloc); refine blk_far ?_ NB202_204.out _; (with_reducible repeat first | apply blk_drewN | apply blk_drew | apply blk_alloc); exact BK202.out) hb); have n2_ := Aside0.mk (blk_below (g := gb204) (o := .cells #[.int .u32 ((rd_T24 l1 x14_1).f0), .int .i64 ((rd_T24 l1 x14_1).f1)] 24 (0, 0)) (by (with_reducible repeat first | apply blk_drewN | apply blk_drew | apply blk_alloc); refine blk_put (cs := #[.int .u32 ((rd_T24 l1 x14_1).f0), .int .i64 0]) ?_ 1 _ rfl; (with_reducible repeat first | apply blk_drewN | apply blk_drew | apply blk_alloc); refine blk_put (cs := #[.int .u32 0, .int .i64 0]) ?_ 0 _ rfl; (with_reducible repeat first | apply blk_drewN | apply blk_drew | apply blk_alloc); exact BK204.out) hb); have n3_ := Aside0.mk (below_step (Fit.bl HB.out) hb); clear HO_5; clear BK202; clear BK204; clear HB; have HO_5 := n0_; have BK202 := n1_; have BK204 := n2_; have HB := n3_; clear n0_ n1_ n2_ n3_; (try clear hb); (try clear hb2); (try clear hk); (try clear hi); obtain ⟨hcz14_0, hcz14_1, hfz14_0⟩ := Fit.cells2 BK202.out) | ((with_reducible refine gate_dst (N := 22) rfl ?_); (try (refine gate_guard (by rfl) ?_; dsimp only)); refine Kd.R_lit k24 _ 24 ?hg (N := 22) ?hd (xs := ([(⟨a0_0, a0_1⟩ : S24)] : List (S24))) (inner := [.int .u32 a0_0, .int .i64 a0_1]) (ok := fun _ => True) (okp := fun _ => True) ?hr ?hp (fun _ hk => hk) trivial (Below.refl _ _) (Nat.le_refl _) (by simp) ?_; (case hd => rfl); (case hg => rfl); (case hr => first | (go_simp; done) | (go_simp; rfl)); (case hp => exact (Reps.c2 (show Kd.M k24 _ _ _ (⟨a0_0, a0_1⟩ : S24) [.int .u32 a0_0, .int .i64 a0_1] from (k24_mkM _ _ _ (⟨a0_0, a0_1⟩ : S24) )) (Reps.none _ _))); intro v207 w15 ho16 hb hg_ hnew_; clear hg_ hnew_; (first | rw [← Ny206.out] at ho16 | (simp only [Int.reduceToNat] at ho16; rw [← Ny206.out] at ho16)); have n0_ := Aside0.mk (Kd.R_elder' (by (with_reducible repeat (first | apply Kd.R_alloc | apply Kd.R_drewN | apply Kd.R_drew)); exact HO_5.out) (Kd.R_base ho16) hb); have n1_ := Aside0.mk (Kd.R_lower (Kd.R_newB (Kd.R_newB (Kd.R_new' ho16 (Kd.R_lt (by (with_reducible repeat (first | apply Kd.R_alloc | apply Kd.R_drewN | apply Kd.R_drew)); exact HO_5.out))) (g := gb202) (o := .cells #[.int .u32 a0_0, .int .i64 a0_1] 24 (0, 0)) (Fit.pk BK202.out)) (g := gb204) (o := .cells #[.int .u32 ((rd_T24 l1 x14_1).f0), .int .i64 ((rd_T24 l1 x14_1).f1)] 24 (0, 0)) (Fit.pk BK204.out)) (below_size (Fit.bl HB.out))); have n2_ := Aside0.mk (blk_below (g := gb202) (Fit.pk BK202.out) hb); have n3_ := Aside0.mk (blk_below (g := gb204) (Fit.pk BK204.out) hb); have n4_ := Aside0.mk (below_step (Fit.bl HB.out) hb); clear HO_5; clear BK202; clear BK204; clear HB; have HO_5 := n0_; have HO208 := n1_; have BK202 := n2_; have BK204 := n3_; have HB := n4_; clear n0_ n1_ n2_ n3_ n4_; clear hb ho16))
       go_ret
       exact ⟨_, by first | rfl | (simp [errW_none, errW_some] <;> rfl) | (simp [*, errW_none, errW_some] <;> rfl), by (with_reducible repeat (first | apply Kd.R_alloc | apply Kd.R_drewN | apply Kd.R_drew)); exact Kd.R_mono HO208.out (fun _ hk => trivial), Fit.bl HB.out⟩
      ·replace c8 := Bool.eq_false_iff.mpr c8
       subst c8
       have H1 : ((patchbayref2_Below.f k1 ((rd_T24 l1 x14_1).f0) ((rd_T24 l1 x14_1).f1) a0_0 a0_1).bind fun t209 => (if t209 = true then (if x5_1.length < 8796093022208 then (patchbayref2_cover.l0 k1 (x5_1 ++ [(⟨(rd_T24 l1 x14_1).f0, (rd_T24 l1 x14_1).f1⟩ : S24)]) l1 (l1.length : Int) (wrap64 (x14_1 + 1)) a0_0 a0_1) else (none)) else (patchbayref2_cover.l0 k1 x5_1 l1 (l1.length : Int) (wrap64 (x14_1 + 1)) a0_0 a0_1))) = some r := by rw [if_neg (show ¬ (false = true) by decide)] at H; exact H
       clear H
       have H := H1
       clear H1
       replace H := Option.bind_eq_some_iff.mp H
       obtain ⟨t209, A170, H⟩ := H
       replace H : (if t209 = true then (if x5_1.length < 8796093022208 then (patchbayref2_cover.l0 k1 (x5_1 ++ [(⟨(rd_T24 l1 x14_1).f0, (rd_T24 l1 x14_1).f1⟩ : S24)]) l1 (l1.length : Int) (wrap64 (x14_1 + 1)) a0_0 a0_1) else (none)) else (patchbayref2_cover.l0 k1 x5_1 l1 (l1.length : Int) (wrap64 (x14_1 + 1)) a0_0 a0_1)) = some r := H
       have A17 := Aside0.mk A170
       clear A170
       by_cases c18 : t209 = true
       ·subst c18
        have H1 : (if x5_1.length < 8796093022208 then (patchbayref2_cover.l0 k1 (x5_1 ++ [(⟨(rd_T24 l1 x14_1).f0, (rd_T24 l1 x14_1).f1⟩ : S24)]) l1 (l1.length : Int) (wrap64 (x14_1 + 1)) a0_0 a0_1) else (none)) = some r := by rw [if_pos rfl] at H; exact H
        clear H
        have H := H1
        clear H1
        by_cases c19 : x5_1.length < 8796093022208
        ·rw [if_pos c19] at H
         have LMc19 := Aside0.mk c19
         clear c19
         obtain ⟨y210, hy210⟩ : ∃ y_ : List (S24), y_ = (x5_1 ++ [(⟨(rd_T24 l1 x14_1).f0, (rd_T24 l1 x14_1).f1⟩ : S24)]) := ⟨_, rfl⟩
         replace H : (patchbayref2_cover.l0 k1 y210 l1 (l1.length : Int) (wrap64 (x14_1 + 1)) a0_0 a0_1) = some r := by first | (rw [hy210]; with_reducible exact H) | (have H2_ := (Option.bind_some _ _).symm.trans H; rw [hy210]; with_reducible exact H2_) | (have H2_ := (Option.bind_some _ _).symm.trans H; with_reducible exact H2_) | with_reducible exact H | (rw [hy210]; exact H) | exact H
         have Ny210 := Aside0.mk hy210
         clear hy210
         have H' := Aside0.mk H
         clear H
         have p203 : 0 ≤ (x14_1 : Int) := of_decide_eq_true (by first | (with_reducible assumption) | assumption)
         have q203 : x14_1 < (l1.length : Int) := of_decide_eq_true (by first | (with_reducible assumption) | assumption)
         obtain ⟨ad203, e203, hx203_0, hx203_1⟩ := at_T24 HR1.out x14_1 p203 q203
         cases e203
         replace hx203_0 := (HB.out.cell (World.block_lt_of_cell? w _ hx203_0)).trans hx203_0
         replace hx203_1 := (HB.out.cell (World.block_lt_of_cell? w _ hx203_1)).trans hx203_1
         replace p203 := eq_true p203
         replace q203 := eq_true q203
         go_wp2_with (first | ((with_reducible refine gate_dst (N := 7) rfl ?_); (try (refine gate_guard (by rfl) ?_; dsimp only)); refine box_event ?hg (N := 7) ?hd (cs := #[.int .u32 0, .int .i64 0]) (t := 24) ?hr ?_; (case hd => rfl); (case hg => rfl); (case hr => first | (go_simp; done) | (go_simp; rfl)); intro gb204 hg w20 hbox hb; have n0_ := Aside0.mk (Kd.R_below (Kd.R_elderB (by (with_reducible repeat (first | apply Kd.R_alloc | apply Kd.R_drewN | apply Kd.R_drew)); exact HO_5.out) gb204 (Nat.le_of_eq hg.symm)) hb); have n1_ := Aside0.mk (blk_below (g := gb202) (Fit.pk BK202.out) hb); have n2_ := Aside0.mk (below_step (Fit.bl HB.out) hb); have n3_ := Aside0.mk (hbox); have n4_ := Aside0.mk ((by rw [hg]; exact (below_size (Fit.bl HB.out)) : w.heap.size ≤ gb204)); have n5_ := Aside0.mk ((by rw [hg]; exact (below_size (Fit.bl HB.out)) : w.heap.size ≤ gb204)); have n6_ := Aside0.mk ((by rw [hg]; exact Nat.ne_of_lt (blk_lt (g := gb202) (Fit.pk BK202.out)) : gb202 ≠ gb204)); have n7_ := Aside0.mk ((by rw [hg]; exact Nat.ne_of_gt (blk_lt (g := gb202) (Fit.pk BK202.out)) : gb204 ≠ gb202)); clear HO_5; clear BK202; clear HB; have HO_5 := n0_; have BK202 := n1_; have HB := n2_; have BK204 := n3_; have GW204 := n4_; have GE204 := n5_; have NB202_204 := n6_; have NB204_202 := n7_; clear n0_ n1_ n2_ n3_ n4_ n5_ n6_ n7_; clear hb hbox hg; have hnb21 := NB204_202.out; have hnc21 := NB202_204.out; obtain ⟨hcz22_0, hcz22_1, hfz22_0⟩ := Fit.cells2 BK204.out; obtain ⟨hcz23_0, hcz23_1, hfz23_0⟩ := Fit.cells2 BK202.out) | ((with_reducible refine gate_callee (f := 14) rfl ?_); refine goesL_ (some 20) rfl rfl Tryd.func14 (by kernel_rfl) rfl #[.agg #[.int .u32 a0_0, .int .i64 a0_1], .agg #[.int .u32 ((rd_T24 l1 x14_1).f0), .int .i64 ((rd_T24 l1 x14_1).f1)]] rfl (by (try simp only [List.map_toArray, List.map_cons, List.map_nil]); first | done | rfl | (simp only [List.length_drop, List.length_take]; rfl)) ?_; (with_reducible refine (patchbayref2_Below.calls k1 a0_0 a0_1 ((rd_T24 l1 x14_1).f0) ((rd_T24 l1 x14_1).f1) false _ A7.out).mono ?_); rintro e w24 ⟨rfl, hb⟩; refine ⟨_, rfl, ?_⟩; have n0_ := Aside0.mk (Kd.R_below (by (with_reducible repeat (first | apply Kd.R_alloc | apply Kd.R_drewN | apply Kd.R_drew)); exact (Kd.R_mono (Kd.R_far (p := ⟨gb204, 1, none⟩) (Kd.R_far (p := ⟨gb204, 0, none⟩) (Kd.R_mono HO_5.out (fun k_ hk => (⟨hk, hk.2⟩ : _ ∧ k_ ≠ gb204))) (fun _ hk => hk.2) (.int .u32 ((rd_T24 l1 x14_1).f0))) (fun _ hk => hk.2) (.int .i64 ((rd_T24 l1 x14_1).f1))) (fun _ h_ => h_.1))) hb); have n1_ := Aside0.mk (blk_below (g := gb202) (o := .cells #[.int .u32 a0_0, .int .i64 a0_1] 24 (0, 0)) (by (with_reducible repeat first | apply blk_drewN | apply blk_drew | apply blk_alloc); refine blk_far ?_ NB202_204.out _; (with_reducible repeat first | apply blk_drewN | apply blk_drew | apply blk_alloc); refine blk_far ?_ NB202_204.out _; (with_reducible repeat first | apply blk_drewN | apply blk_drew | apply blk_alloc); exact BK202.out) hb); have n2_ := Aside0.mk (blk_below (g := gb204) (o := .cells #[.int .u32 ((rd_T24 l1 x14_1).f0), .int .i64 ((rd_T24 l1 x14_1).f1)] 24 (0, 0)) (by (with_reducible repeat first | apply blk_drewN | apply blk_drew | apply blk_alloc); refine blk_put (cs := #[.int .u32 ((rd_T24 l1 x14_1).f0), .int .i64 0]) ?_ 1 _ rfl; (with_reducible repeat first | apply blk_drewN | apply blk_drew | apply blk_alloc); refine blk_put (cs := #[.int .u32 0, .int .i64 0]) ?_ 0 _ rfl; (with_reducible repeat first | apply blk_drewN | apply blk_drew | apply blk_alloc); exact BK204.out) hb); have n3_ := Aside0.mk (below_step (Fit.bl HB.out) hb); clear HO_5; clear BK202; clear BK204; clear HB; have HO_5 := n0_; have BK202 := n1_; have BK204 := n2_; have HB := n3_; clear n0_ n1_ n2_ n3_; (try clear hb); (try clear hb2); (try clear hk); (try clear hi); obtain ⟨hcz25_0, hcz25_1, hfz25_0⟩ := Fit.cells2 BK204.out; obtain ⟨hcz26_0, hcz26_1, hfz26_0⟩ := Fit.cells2 BK202.out) | ((with_reducible refine gate_callee (f := 14) rfl ?_); refine goesL_ (some 25) rfl rfl Tryd.func14 (by kernel_rfl) rfl #[.agg #[.int .u32 ((rd_T24 l1 x14_1).f0), .int .i64 ((rd_T24 l1 x14_1).f1)], .agg #[.int .u32 a0_0, .int .i64 a0_1]] rfl (by (try simp only [List.map_toArray, List.map_cons, List.map_nil]); first | done | rfl | (simp only [List.length_drop, List.length_take]; rfl)) ?_; (with_reducible refine (patchbayref2_Below.calls k1 ((rd_T24 l1 x14_1).f0) ((rd_T24 l1 x14_1).f1) a0_0 a0_1 true _ A17.out).mono ?_); rintro e w27 ⟨rfl, hb⟩; refine ⟨_, rfl, ?_⟩; have n0_ := Aside0.mk (Kd.R_below (by (with_reducible repeat (first | apply Kd.R_alloc | apply Kd.R_drewN | apply Kd.R_drew)); exact HO_5.out) hb); have n1_ := Aside0.mk (blk_below (g := gb202) (Fit.pk BK202.out) hb); have n2_ := Aside0.mk (blk_below (g := gb204) (Fit.pk BK204.out) hb); have n3_ := Aside0.mk (below_step (Fit.bl HB.out) hb); clear HO_5; clear BK202; clear BK204; clear HB; have HO_5 := n0_; have BK202 := n1_; have BK204 := n2_; have HB := n3_; clear n0_ n1_ n2_ n3_; (try clear hb); (try clear hb2); (try clear hk); (try clear hi); obtain ⟨hcz28_0, hcz28_1, hfz28_0⟩ := Fit.cells2 BK204.out) | ((with_reducible refine gate_builtin (b := .append) (xs := #[.tmp 26, .tmp 28]) rfl ?_); (try (refine gate_guard (by rfl) ?_; dsimp only)); at_builtin; refine Kd.R_append k24 (w0 := w) w.heap.size rfl (.tmp 26) (.tmp 28) 32 24 (.agg #[(.int .u32 0), (.int .i64 0)]) 16 rfl Tryd.underlying32 info24 rfl (by decide) (by omega) u5 x5_1 (⟨(rd_T24 l1 x14_1).f0, (rd_T24 l1 x14_1).f1⟩ : S24) [.int .u32 ((rd_T24 l1 x14_1).f0), .int .i64 ((rd_T24 l1 x14_1).f1)] (fun k_ => k_ ≠ gb202 ∧ k_ ≠ gb204) (fun _ => False) rfl rfl ?aP (fun _ hk => hk.elim) ?aF ?aO ?aB ?aS ?aL ?_; (case aP => exact k24_mkM _ _ _ (⟨(rd_T24 l1 x14_1).f0, (rd_T24 l1 x14_1).f1⟩ : S24)); (case aB => exact (Fit.bl HB.out)); (case aF => exact (fun k_ hk => ⟨Kd.freshB (g := gb202) (o := .cells #[.int .u32 a0_0, .int .i64 a0_1] 24 (0, 0)) (Fit.pk BK202.out) k_ hk, Kd.freshB (g := gb204) (o := .cells #[.int .u32 ((rd_T24 l1 x14_1).f0), .int .i64 ((rd_T24 l1 x14_1).f1)] 24 (0, 0)) (Fit.pk BK204.out) k_ hk⟩)); (case aO => exact (by (with_reducible repeat (first | apply Kd.R_alloc | apply Kd.R_drewN | apply Kd.R_drew)); exact HO_5.out)); (case aS => exact (below_size (Fit.bl HB.out))); (case aL => have := LMc19.out; omega); intro v211 w29 ho hb hg hat; rw [← Ny210.out] at ho; have n0_ := Aside0.mk (blk_grown (g := gb202) (o := .cells #[.int .u32 a0_0, .int .i64 a0_1] 24 (0, 0)) (Fit.pk BK202.out) hg (Kd.R_away HO_5.out (fun _ hk => hk.1))); have n1_ := Aside0.mk (blk_grown (g := gb204) (o := .cells #[.int .u32 ((rd_T24 l1 x14_1).f0), .int .i64 ((rd_T24 l1 x14_1).f1)] 24 (0, 0)) (Fit.pk BK204.out) hg (Kd.R_away HO_5.out (fun _ hk => hk.2))); have n2_ := Aside0.mk (hb); have n3_ := Aside0.mk (ho); clear BK202; clear BK204; clear HB; clear HO_5; have BK202 := n0_; have BK204 := n1_; have HB := n2_; have HO212 := n3_; clear n0_ n1_ n2_ n3_; clear ho hb hg hat))
         go_roundg k1
         case measure => have := HK1.out; omega
         case rel => exact ⟨(y210), (wrap64 (x14_1 + 1)), (by first | rfl | (simp; done) | (simp [*]; done)), H', ⟨by have := HK1.out; omega⟩, ⟨by (with_reducible repeat (first | apply Kd.R_alloc | apply Kd.R_drewN | apply Kd.R_drew)); exact Kd.R_mono HO212.out (fun _ hk => hk.1)⟩, ⟨by (with_reducible repeat first | apply blk_drewN | apply blk_drew | apply blk_alloc); exact BK202.out⟩, ⟨Fit.bl HB.out⟩⟩
        ·rw [if_neg c19] at H
         exact absurd H (by simp)
       ·replace c18 := Bool.eq_false_iff.mpr c18
        subst c18
        have H1 : (patchbayref2_cover.l0 k1 x5_1 l1 (l1.length : Int) (wrap64 (x14_1 + 1)) a0_0 a0_1) = some r := by rw [if_neg (show ¬ (false = true) by decide)] at H; exact H
        clear H
        have H := H1
        clear H1
        have H' := Aside0.mk H
        clear H
        have p203 : 0 ≤ (x14_1 : Int) := of_decide_eq_true (by first | (with_reducible assumption) | assumption)
        have q203 : x14_1 < (l1.length : Int) := of_decide_eq_true (by first | (with_reducible assumption) | assumption)
        obtain ⟨ad203, e203, hx203_0, hx203_1⟩ := at_T24 HR1.out x14_1 p203 q203
        cases e203
        replace hx203_0 := (HB.out.cell (World.block_lt_of_cell? w _ hx203_0)).trans hx203_0
        replace hx203_1 := (HB.out.cell (World.block_lt_of_cell? w _ hx203_1)).trans hx203_1
        replace p203 := eq_true p203
        replace q203 := eq_true q203
        go_wp2_with (first | ((with_reducible refine gate_dst (N := 7) rfl ?_); (try (refine gate_guard (by rfl) ?_; dsimp only)); refine box_event ?hg (N := 7) ?hd (cs := #[.int .u32 0, .int .i64 0]) (t := 24) ?hr ?_; (case hd => rfl); (case hg => rfl); (case hr => first | (go_simp; done) | (go_simp; rfl)); intro gb204 hg w30 hbox hb; have n0_ := Aside0.mk (Kd.R_below (Kd.R_elderB (by (with_reducible repeat (first | apply Kd.R_alloc | apply Kd.R_drewN | apply Kd.R_drew)); exact HO_5.out) gb204 (Nat.le_of_eq hg.symm)) hb); have n1_ := Aside0.mk (blk_below (g := gb202) (Fit.pk BK202.out) hb); have n2_ := Aside0.mk (below_step (Fit.bl HB.out) hb); have n3_ := Aside0.mk (hbox); have n4_ := Aside0.mk ((by rw [hg]; exact (below_size (Fit.bl HB.out)) : w.heap.size ≤ gb204)); have n5_ := Aside0.mk ((by rw [hg]; exact (below_size (Fit.bl HB.out)) : w.heap.size ≤ gb204)); have n6_ := Aside0.mk ((by rw [hg]; exact Nat.ne_of_lt (blk_lt (g := gb202) (Fit.pk BK202.out)) : gb202 ≠ gb204)); have n7_ := Aside0.mk ((by rw [hg]; exact Nat.ne_of_gt (blk_lt (g := gb202) (Fit.pk BK202.out)) : gb204 ≠ gb202)); clear HO_5; clear BK202; clear HB; have HO_5 := n0_; have BK202 := n1_; have HB := n2_; have BK204 := n3_; have GW204 := n4_; have GE204 := n5_; have NB202_204 := n6_; have NB204_202 := n7_; clear n0_ n1_ n2_ n3_ n4_ n5_ n6_ n7_; clear hb hbox hg; have hnb31 := NB204_202.out; have hnc31 := NB202_204.out; obtain ⟨hcz32_0, hcz32_1, hfz32_0⟩ := Fit.cells2 BK204.out; obtain ⟨hcz33_0, hcz33_1, hfz33_0⟩ := Fit.cells2 BK202.out) | ((with_reducible refine gate_callee (f := 14) rfl ?_); refine goesL_ (some 20) rfl rfl Tryd.func14 (by kernel_rfl) rfl #[.agg #[.int .u32 a0_0, .int .i64 a0_1], .agg #[.int .u32 ((rd_T24 l1 x14_1).f0), .int .i64 ((rd_T24 l1 x14_1).f1)]] rfl (by (try simp only [List.map_toArray, List.map_cons, List.map_nil]); first | done | rfl | (simp only [List.length_drop, List.length_take]; rfl)) ?_; (with_reducible refine (patchbayref2_Below.calls k1 a0_0 a0_1 ((rd_T24 l1 x14_1).f0) ((rd_T24 l1 x14_1).f1) false _ A7.out).mono ?_); rintro e w34 ⟨rfl, hb⟩; refine ⟨_, rfl, ?_⟩; have n0_ := Aside0.mk (Kd.R_below (by (with_reducible repeat (first | apply Kd.R_alloc | apply Kd.R_drewN | apply Kd.R_drew)); exact (Kd.R_mono (Kd.R_far (p := ⟨gb204, 1, none⟩) (Kd.R_far (p := ⟨gb204, 0, none⟩) (Kd.R_mono HO_5.out (fun k_ hk => (⟨hk, hk.2⟩ : _ ∧ k_ ≠ gb204))) (fun _ hk => hk.2) (.int .u32 ((rd_T24 l1 x14_1).f0))) (fun _ hk => hk.2) (.int .i64 ((rd_T24 l1 x14_1).f1))) (fun _ h_ => h_.1))) hb); have n1_ := Aside0.mk (blk_below (g := gb202) (o := .cells #[.int .u32 a0_0, .int .i64 a0_1] 24 (0, 0)) (by (with_reducible repeat first | apply blk_drewN | apply blk_drew | apply blk_alloc); refine blk_far ?_ NB202_204.out _; (with_reducible repeat first | apply blk_drewN | apply blk_drew | apply blk_alloc); refine blk_far ?_ NB202_204.out _; (with_reducible repeat first | apply blk_drewN | apply blk_drew | apply blk_alloc); exact BK202.out) hb); have n2_ := Aside0.mk (blk_below (g := gb204) (o := .cells #[.int .u32 ((rd_T24 l1 x14_1).f0), .int .i64 ((rd_T24 l1 x14_1).f1)] 24 (0, 0)) (by (with_reducible repeat first | apply blk_drewN | apply blk_drew | apply blk_alloc); refine blk_put (cs := #[.int .u32 ((rd_T24 l1 x14_1).f0), .int .i64 0]) ?_ 1 _ rfl; (with_reducible repeat first | apply blk_drewN | apply blk_drew | apply blk_alloc); refine blk_put (cs := #[.int .u32 0, .int .i64 0]) ?_ 0 _ rfl; (with_reducible repeat first | apply blk_drewN | apply blk_drew | apply blk_alloc); exact BK204.out) hb); have n3_ := Aside0.mk (below_step (Fit.bl HB.out) hb); clear HO_5; clear BK202; clear BK204; clear HB; have HO_5 := n0_; have BK202 := n1_; have BK204 := n2_; have HB := n3_; clear n0_ n1_ n2_ n3_; (try clear hb); (try clear hb2); (try clear hk); (try clear hi); obtain ⟨hcz35_0, hcz35_1, hfz35_0⟩ := Fit.cells2 BK204.out; obtain ⟨hcz36_0, hcz36_1, hfz36_0⟩ := Fit.cells2 BK202.out) | ((with_reducible refine gate_callee (f := 14) rfl ?_); refine goesL_ (some 25) rfl rfl Tryd.func14 (by kernel_rfl) rfl #[.agg #[.int .u32 ((rd_T24 l1 x14_1).f0), .int .i64 ((rd_T24 l1 x14_1).f1)], .agg #[.int .u32 a0_0, .int .i64 a0_1]] rfl (by (try simp only [List.map_toArray, List.map_cons, List.map_nil]); first | done | rfl | (simp only [List.length_drop, List.length_take]; rfl)) ?_; (with_reducible refine (patchbayref2_Below.calls k1 ((rd_T24 l1 x14_1).f0) ((rd_T24 l1 x14_1).f1) a0_0 a0_1 false _ A17.out).mono ?_); rintro e w37 ⟨rfl, hb⟩; refine ⟨_, rfl, ?_⟩; have n0_ := Aside0.mk (Kd.R_below (by (with_reducible repeat (first | apply Kd.R_alloc | apply Kd.R_drewN | apply Kd.R_drew)); exact HO_5.out) hb); have n1_ := Aside0.mk (blk_below (g := gb202) (Fit.pk BK202.out) hb); have n2_ := Aside0.mk (blk_below (g := gb204) (Fit.pk BK204.out) hb); have n3_ := Aside0.mk (below_step (Fit.bl HB.out) hb); clear HO_5; clear BK202; clear BK204; clear HB; have HO_5 := n0_; have BK202 := n1_; have BK204 := n2_; have HB := n3_; clear n0_ n1_ n2_ n3_; (try clear hb); (try clear hb2); (try clear hk); (try clear hi)))
        go_roundg k1
        case measure => have := HK1.out; omega
        case rel => exact ⟨(x5_1), (wrap64 (x14_1 + 1)), (by first | rfl | (simp; done) | (simp [*]; done)), H', ⟨by have := HK1.out; omega⟩, ⟨by (with_reducible repeat (first | apply Kd.R_alloc | apply Kd.R_drewN | apply Kd.R_drew)); exact Kd.R_mono HO_5.out (fun _ hk => hk.1)⟩, ⟨by (with_reducible repeat first | apply blk_drewN | apply blk_drew | apply blk_alloc); exact BK202.out⟩, ⟨Fit.bl HB.out⟩⟩
     ·rw [if_neg c6] at H
      exact absurd H (by simp)
    ·rw [if_neg c5] at H
     exact absurd H (by simp)
   ·rw [if_neg c4] at H
    have c4b0 : decide (x14_1 < (l1.length : Int)) = false := decide_eq_false c4
    clear c4
    by_cases c38 : (x5_1.length : Int) = 0
    ·rw [if_pos c38] at H
     have c38b0 : ((x5_1.length : Int) == 0) = true := beq_iff_eq.mpr c38
     have c38b1 : ((x5_1.length : Int) != 0) = false := bne_eq_false_iff_eq.mpr c38
     clear c38
     obtain rfl := Option.some.inj H
     obtain ⟨Ao39, co39, eo39⟩ := Kd.R_slice HO_5.out
     subst eo39
     go_wp2
     go_ret
     exact ⟨_, by first | rfl | (simp [errW_none, errW_some] <;> rfl) | (simp [*, errW_none, errW_some] <;> rfl), by first | exact Kd.R_nil _ _ _ _ _ | exact Kd.N_nil _ _ _ _ _ | exact Kd.V_nil _ _ _ _ _ | exact Kd.Q_nil _ _ _ _ _ | exact Kd.S_nil _ _ _ _ _, Fit.bl HB.out⟩
    ·rw [if_neg c38] at H
     have c38b0 : ((x5_1.length : Int) == 0) = false := beq_eq_false_iff_ne.mpr c38
     have c38b1 : ((x5_1.length : Int) != 0) = true := bne_iff_ne.mpr c38
     have c38b2 : ¬ (x5_1 = []) := fun h_ => c38 (by rw [h_]; rfl)
     replace H := Option.bind_eq_some_iff.mp H
     obtain ⟨⟨t213, t214, t215, t216⟩, A400, H⟩ := H
     replace H : ((patchbayref2_cover.f k1 t213 t214 x5_1).bind fun t219 => ((patchbayref2_cover.f k1 t215 t216 x5_1).bind fun t222 => (if (t219.length : Int) = 1 then (if (t222.length : Int) = 1 then (if 0 < (t219.length : Int) then (if (((rd_T24 t219 0).f0) == t213 && (((rd_T24 t219 0).f1) == t214)) = true then (if 0 < (t222.length : Int) then (if (((rd_T24 t222 0).f0) == t215 && (((rd_T24 t222 0).f1) == t216)) = true then (some (([(⟨a0_0, a0_1⟩ : S24)] : List (S24)))) else ((some (([] : List (S24)) : List (S24))).bind fun y230 => (if y230.length + t219.length < 8796093022208 then ((some (y230 ++ t219 : List (S24))).bind fun y233 => (if y233.length + t222.length < 8796093022208 then (some (y233 ++ t222)) else (none))) else (none)))) else (none)) else ((some (([] : List (S24)) : List (S24))).bind fun y239 => (if y239.length + t219.length < 8796093022208 then ((some (y239 ++ t219 : List (S24))).bind fun y242 => (if y242.length + t222.length < 8796093022208 then (some (y242 ++ t222)) else (none))) else (none)))) else (none)) else ((some (([] : List (S24)) : List (S24))).bind fun y248 => (if y248.length + t219.length < 8796093022208 then ((some (y248 ++ t219 : List (S24))).bind fun y251 => (if y251.length + t222.length < 8796093022208 then (some (y251 ++ t222)) else (none))) else (none)))) else ((some (([] : List (S24)) : List (S24))).bind fun y257 => (if y257.length + t219.length < 8796093022208 then ((some (y257 ++ t219 : List (S24))).bind fun y260 => (if y260.length + t222.length < 8796093022208 then (some (y260 ++ t222)) else (none))) else (none)))))) = some r := H
     have A40 := Aside0.mk A400
     clear A400
     replace H := Option.bind_eq_some_iff.mp H
     obtain ⟨t219, A410, H⟩ := H
     replace H : ((patchbayref2_cover.f k1 t215 t216 x5_1).bind fun t222 => (if (t219.length : Int) = 1 then (if (t222.length : Int) = 1 then (if 0 < (t219.length : Int) then (if (((rd_T24 t219 0).f0) == t213 && (((rd_T24 t219 0).f1) == t214)) = true then (if 0 < (t222.length : Int) then (if (((rd_T24 t222 0).f0) == t215 && (((rd_T24 t222 0).f1) == t216)) = true then (some (([(⟨a0_0, a0_1⟩ : S24)] : List (S24)))) else ((some (([] : List (S24)) : List (S24))).bind fun y230 => (if y230.length + t219.length < 8796093022208 then ((some (y230 ++ t219 : List (S24))).bind fun y233 => (if y233.length + t222.length < 8796093022208 then (some (y233 ++ t222)) else (none))) else (none)))) else (none)) else ((some (([] : List (S24)) : List (S24))).bind fun y239 => (if y239.length + t219.length < 8796093022208 then ((some (y239 ++ t219 : List (S24))).bind fun y242 => (if y242.length + t222.length < 8796093022208 then (some (y242 ++ t222)) else (none))) else (none)))) else (none)) else ((some (([] : List (S24)) : List (S24))).bind fun y248 => (if y248.length + t219.length < 8796093022208 then ((some (y248 ++ t219 : List (S24))).bind fun y251 => (if y251.length + t222.length < 8796093022208 then (some (y251 ++ t222)) else (none))) else (none)))) else ((some (([] : List (S24)) : List (S24))).bind fun y257 => (if y257.length + t219.length < 8796093022208 then ((some (y257 ++ t219 : List (S24))).bind fun y260 => (if y260.length + t222.length < 8796093022208 then (some (y260 ++ t222)) else (none))) else (none))))) = some r := H
     have A41 := Aside0.mk A410
     clear A410
     replace H := Option.bind_eq_some_iff.mp H
     obtain ⟨t222, A420, H⟩ := H
     replace H : (if (t219.length : Int) = 1 then (if (t222.length : Int) = 1 then (if 0 < (t219.length : Int) then (if (((rd_T24 t219 0).f0) == t213 && (((rd_T24 t219 0).f1) == t214)) = true then (if 0 < (t222.length : Int) then (if (((rd_T24 t222 0).f0) == t215 && (((rd_T24 t222 0).f1) == t216)) = true then (some (([(⟨a0_0, a0_1⟩ : S24)] : List (S24)))) else ((some (([] : List (S24)) : List (S24))).bind fun y230 => (if y230.length + t219.length < 8796093022208 then ((some (y230 ++ t219 : List (S24))).bind fun y233 => (if y233.length + t222.length < 8796093022208 then (some (y233 ++ t222)) else (none))) else (none)))) else (none)) else ((some (([] : List (S24)) : List (S24))).bind fun y239 => (if y239.length + t219.length < 8796093022208 then ((some (y239 ++ t219 : List (S24))).bind fun y242 => (if y242.length + t222.length < 8796093022208 then (some (y242 ++ t222)) else (none))) else (none)))) else (none)) else ((some (([] : List (S24)) : List (S24))).bind fun y248 => (if y248.length + t219.length < 8796093022208 then ((some (y248 ++ t219 : List (S24))).bind fun y251 => (if y251.length + t222.length < 8796093022208 then (some (y251 ++ t222)) else (none))) else (none)))) else ((some (([] : List (S24)) : List (S24))).bind fun y257 => (if y257.length + t219.length < 8796093022208 then ((some (y257 ++ t219 : List (S24))).bind fun y260 => (if y260.length + t222.length < 8796093022208 then (some (y260 ++ t222)) else (none))) else (none)))) = some r := H
     have A42 := Aside0.mk A420
     clear A420
     by_cases c43 : (t219.length : Int) = 1
     ·rw [if_pos c43] at H
      have c43b0 : ((t219.length : Int) == 1) = true := beq_iff_eq.mpr c43
      have c43b1 : ((t219.length : Int) != 1) = false := bne_eq_false_iff_eq.mpr c43
      clear c43
      by_cases c44 : (t222.length : Int) = 1
      ·rw [if_pos c44] at H
       have c44b0 : ((t222.length : Int) == 1) = true := beq_iff_eq.mpr c44
       have c44b1 : ((t222.length : Int) != 1) = false := bne_eq_false_iff_eq.mpr c44
       clear c44
       by_cases c45 : 0 < (t219.length : Int)
       ·rw [if_pos c45] at H
        have c45b0 : decide (0 < (t219.length : Int)) = true := decide_eq_true c45
        have c45b1 : decide (0 < t219.length) = true := decide_eq_true (by omega)
        clear c45
        by_cases c46 : (((rd_T24 t219 0).f0) == t213 && (((rd_T24 t219 0).f1) == t214)) = true
        ·rw [if_pos c46] at H
         have c46b0 : (((rd_T24 t219 0).f0) == t213 && (((rd_T24 t219 0).f1) == t214)) = true := c46
         (try (have c46b1 : decide (((rd_T24 t219 0).f0) = t213 && (((rd_T24 t219 0).f1) == t214)) = true := by simpa using c46))
         (try (have c46b2 : (((rd_T24 t219 0).f0) == t213 && (((rd_T24 t219 0).f1) == t214)) = true := by simpa using c46))
         clear c46
         by_cases c47 : 0 < (t222.length : Int)
         ·rw [if_pos c47] at H
          have c47b0 : decide (0 < (t222.length : Int)) = true := decide_eq_true c47
          have c47b1 : decide (0 < t222.length) = true := decide_eq_true (by omega)
          clear c47
          by_cases c48 : (((rd_T24 t222 0).f0) == t215 && (((rd_T24 t222 0).f1) == t216)) = true
          ·rw [if_pos c48] at H
           have c48b0 : (((rd_T24 t222 0).f0) == t215 && (((rd_T24 t222 0).f1) == t216)) = true := c48
           (try (have c48b1 : decide (((rd_T24 t222 0).f0) = t215 && (((rd_T24 t222 0).f1) == t216)) = true := by simpa using c48))
           (try (have c48b2 : (((rd_T24 t222 0).f0) == t215 && (((rd_T24 t222 0).f1) == t216)) = true := by simpa using c48))
           clear c48
           obtain ⟨y227, hy227⟩ : ∃ y_ : List (S24), y_ = (([(⟨a0_0, a0_1⟩ : S24)] : List (S24))) := ⟨_, rfl⟩
           replace H : (some y227) = some r := by first | (rw [hy227]; with_reducible exact H) | (have H2_ := (Option.bind_some _ _).symm.trans H; rw [hy227]; with_reducible exact H2_) | (have H2_ := (Option.bind_some _ _).symm.trans H; with_reducible exact H2_) | with_reducible exact H | (rw [hy227]; exact H) | exact H
           have Ny227 := Aside0.mk hy227
           clear hy227
           obtain rfl := Option.some.inj H
           obtain ⟨Ao49, co49, eo49⟩ := Kd.R_slice HO_5.out
           subst eo49
           obtain ⟨hcz50_0, hcz50_1, hfz50_0⟩ := Fit.cells2 BK202.out
           try go_wp2_with (first | ((with_reducible refine gate_callee (f := 75) rfl ?_); refine goesL_ (some 36) rfl rfl Tryd.func75 (by kernel_rfl) rfl #[.agg #[.int .u32 a0_0, .int .i64 a0_1]] rfl (by (try simp only [List.map_toArray, List.map_cons, List.map_nil]); first | done | rfl | (simp only [List.length_drop, List.length_take]; rfl)) ?_; (with_reducible refine (patchbayref2_halves.calls k1 a0_0 a0_1 t213 t214 t215 t216 _ A40.out).mono ?_); rintro e w51 ⟨rfl, hb⟩; refine ⟨_, rfl, ?_⟩; have n0_ := Aside0.mk (Kd.R_below (by (with_reducible repeat (first | apply Kd.R_alloc | apply Kd.R_drewN | apply Kd.R_drew)); exact HO_5.out) hb); have n1_ := Aside0.mk (blk_below (g := gb202) (Fit.pk BK202.out) hb); have n2_ := Aside0.mk (below_step (Fit.bl HB.out) hb); clear HO_5; clear BK202; clear HB; have HO_5 := n0_; have BK202 := n1_; have HB := n2_; clear n0_ n1_ n2_; (try clear hb); (try clear hb2); (try clear hk); (try clear hi)) | ((with_reducible refine gate_dst (N := 8) rfl ?_); (try (refine gate_guard (by rfl) ?_; dsimp only)); refine box_event ?hg (N := 8) ?hd (cs := #[.int .u32 0, .int .i64 0]) (t := 24) ?hr ?_; (case hd => rfl); (case hg => rfl); (case hr => first | (go_simp; done) | (go_simp; rfl)); intro gb217 hg w52 hbox hb; have n0_ := Aside0.mk (Kd.R_below (Kd.R_elderB (by (with_reducible repeat (first | apply Kd.R_alloc | apply Kd.R_drewN | apply Kd.R_drew)); exact HO_5.out) gb217 (Nat.le_of_eq hg.symm)) hb); have n1_ := Aside0.mk (blk_below (g := gb202) (Fit.pk BK202.out) hb); have n2_ := Aside0.mk (below_step (Fit.bl HB.out) hb); have n3_ := Aside0.mk (hbox); have n4_ := Aside0.mk ((by rw [hg]; exact (below_size (Fit.bl HB.out)) : w.heap.size ≤ gb217)); have n5_ := Aside0.mk ((by rw [hg]; exact (below_size (Fit.bl HB.out)) : w.heap.size ≤ gb217)); have n6_ := Aside0.mk ((by rw [hg]; exact Nat.ne_of_lt (blk_lt (g := gb202) (Fit.pk BK202.out)) : gb202 ≠ gb217)); have n7_ := Aside0.mk ((by rw [hg]; exact Nat.ne_of_gt (blk_lt (g := gb202) (Fit.pk BK202.out)) : gb217 ≠ gb202)); clear HO_5; clear BK202; clear HB; have HO_5 := n0_; have BK202 := n1_; have HB := n2_; have BK217 := n3_; have GW217 := n4_; have GE217 := n5_; have NB202_217 := n6_; have NB217_202 := n7_; clear n0_ n1_ n2_ n3_ n4_ n5_ n6_ n7_; clear hb hbox hg) | ((with_reducible refine gate_dst (N := 9) rfl ?_); (try (refine gate_guard (by rfl) ?_; dsimp only)); refine box_event ?hg (N := 9) ?hd (cs := #[.int .u32 0, .int .i64 0]) (t := 24) ?hr ?_; (case hd => rfl); (case hg => rfl); (case hr => first | (go_simp; done) | (go_simp; rfl)); intro gb218 hg w53 hbox hb; have n0_ := Aside0.mk (Kd.R_below (Kd.R_elderB (by (with_reducible repeat (first | apply Kd.R_alloc | apply Kd.R_drewN | apply Kd.R_drew)); exact HO_5.out) gb218 (Nat.le_of_eq hg.symm)) hb); have n1_ := Aside0.mk (blk_below (g := gb202) (Fit.pk BK202.out) hb); have n2_ := Aside0.mk (blk_below (g := gb217) (Fit.pk BK217.out) hb); have n3_ := Aside0.mk (below_step (Fit.bl HB.out) hb); have n4_ := Aside0.mk (hbox); have n5_ := Aside0.mk ((by rw [hg]; exact (below_size (Fit.bl HB.out)) : w.heap.size ≤ gb218)); have n6_ := Aside0.mk ((by rw [hg]; exact (below_size (Fit.bl HB.out)) : w.heap.size ≤ gb218)); have n7_ := Aside0.mk ((by rw [hg]; exact Nat.ne_of_lt (blk_lt (g := gb202) (Fit.pk BK202.out)) : gb202 ≠ gb218)); have n8_ := Aside0.mk ((by rw [hg]; exact Nat.ne_of_gt (blk_lt (g := gb202) (Fit.pk BK202.out)) : gb218 ≠ gb202)); have n9_ := Aside0.mk ((by rw [hg]; exact Nat.ne_of_lt (blk_lt (g := gb217) (Fit.pk BK217.out)) : gb217 ≠ gb218)); have n10_ := Aside0.mk ((by rw [hg]; exact Nat.ne_of_gt (blk_lt (g := gb217) (Fit.pk BK217.out)) : gb218 ≠ gb217)); clear HO_5; clear BK202; clear BK217; clear HB; have HO_5 := n0_; have BK202 := n1_; have BK217 := n2_; have HB := n3_; have BK218 := n4_; have GW218 := n5_; have GE218 := n6_; have NB202_218 := n7_; have NB218_202 := n8_; have NB217_218 := n9_; have NB218_217 := n10_; clear n0_ n1_ n2_ n3_ n4_ n5_ n6_ n7_ n8_ n9_ n10_; clear hb hbox hg; have hnb54 := NB217_202.out; have hnc54 := NB202_217.out; have hnb55 := NB217_218.out; have hnc55 := NB218_217.out; obtain ⟨hcz56_0, hcz56_1, hfz56_0⟩ := Fit.cells2 BK217.out; have hnb57 := NB218_202.out; have hnc57 := NB202_218.out; obtain ⟨hcz58_0, hcz58_1, hfz58_0⟩ := Fit.cells2 BK218.out))
           have n0_ : Aside0 (Kd.R k24 24 ((((w53.setCell ⟨gb217, 0, none⟩ (.int .u32 t213)).setCell ⟨gb217, 1, none⟩ (.int .i64 t214)).setCell ⟨gb218, 0, none⟩ (.int .u32 t215)).setCell ⟨gb218, 1, none⟩ (.int .i64 t216)) w.heap.size (fun k_ => k_ ≠ gb202 ∧ k_ ≠ gb217 ∧ k_ ≠ gb218) (.slice Ao49 x5_1.length co49) x5_1) := ⟨by (with_reducible repeat (first | apply Kd.R_alloc | apply Kd.R_drewN | apply Kd.R_drew)); exact Kd.R_mono (Kd.R_far (p := ⟨gb218, 1, none⟩) (Kd.R_far (p := ⟨gb218, 0, none⟩) (Kd.R_far (p := ⟨gb217, 1, none⟩) (Kd.R_far (p := ⟨gb217, 0, none⟩) (Kd.R_mono (Kd.R_mono HO_5.out (fun k_ hk => (⟨hk, hk.1.2⟩ : _ ∧ k_ ≠ gb217))) (fun k_ hk => (⟨hk, hk.1.2⟩ : _ ∧ k_ ≠ gb218))) (fun _ hk => hk.1.2) (.int .u32 t213)) (fun _ hk => hk.1.2) (.int .i64 t214)) (fun _ hk => hk.2) (.int .u32 t215)) (fun _ hk => hk.2) (.int .i64 t216)) (fun _ hk => ⟨hk.1.1.1.1, ⟨hk.1.1.1.2, hk.1.1.2⟩⟩)⟩
           have n1_ : Aside0 (((((w53.setCell ⟨gb217, 0, none⟩ (.int .u32 t213)).setCell ⟨gb217, 1, none⟩ (.int .i64 t214)).setCell ⟨gb218, 0, none⟩ (.int .u32 t215)).setCell ⟨gb218, 1, none⟩ (.int .i64 t216)).heap[gb202]? = some (.cells #[.int .u32 a0_0, .int .i64 a0_1] 24 (0, 0))) := ⟨by (with_reducible repeat first | apply blk_drewN | apply blk_drew | apply blk_alloc); refine blk_far ?_ NB202_218.out _; (with_reducible repeat first | apply blk_drewN | apply blk_drew | apply blk_alloc); refine blk_far ?_ NB202_218.out _; (with_reducible repeat first | apply blk_drewN | apply blk_drew | apply blk_alloc); refine blk_far ?_ NB202_217.out _; (with_reducible repeat first | apply blk_drewN | apply blk_drew | apply blk_alloc); refine blk_far ?_ NB202_217.out _; (with_reducible repeat first | apply blk_drewN | apply blk_drew | apply blk_alloc); exact BK202.out⟩
           have n2_ : Aside0 (((((w53.setCell ⟨gb217, 0, none⟩ (.int .u32 t213)).setCell ⟨gb217, 1, none⟩ (.int .i64 t214)).setCell ⟨gb218, 0, none⟩ (.int .u32 t215)).setCell ⟨gb218, 1, none⟩ (.int .i64 t216)).heap[gb217]? = some (.cells #[.int .u32 t213, .int .i64 t214] 24 (0, 0))) := ⟨by (with_reducible repeat first | apply blk_drewN | apply blk_drew | apply blk_alloc); refine blk_far ?_ NB217_218.out _; (with_reducible repeat first | apply blk_drewN | apply blk_drew | apply blk_alloc); refine blk_far ?_ NB217_218.out _; (with_reducible repeat first | apply blk_drewN | apply blk_drew | apply blk_alloc); refine blk_put (cs := #[.int .u32 t213, .int .i64 0]) ?_ 1 _ rfl; (with_reducible repeat first | apply blk_drewN | apply blk_drew | apply blk_alloc); refine blk_put (cs := #[.int .u32 0, .int .i64 0]) ?_ 0 _ rfl; (with_reducible repeat first | apply blk_drewN | apply blk_drew | apply blk_alloc); exact BK217.out⟩
           have n3_ : Aside0 (((((w53.setCell ⟨gb217, 0, none⟩ (.int .u32 t213)).setCell ⟨gb217, 1, none⟩ (.int .i64 t214)).setCell ⟨gb218, 0, none⟩ (.int .u32 t215)).setCell ⟨gb218, 1, none⟩ (.int .i64 t216)).heap[gb218]? = some (.cells #[.int .u32 t215, .int .i64 t216] 24 (0, 0))) := ⟨by (with_reducible repeat first | apply blk_drewN | apply blk_drew | apply blk_alloc); refine blk_put (cs := #[.int .u32 t215, .int .i64 0]) ?_ 1 _ rfl; (with_reducible repeat first | apply blk_drewN | apply blk_drew | apply blk_alloc); refine blk_put (cs := #[.int .u32 0, .int .i64 0]) ?_ 0 _ rfl; (with_reducible repeat first | apply blk_drewN | apply blk_drew | apply blk_alloc); refine blk_far ?_ NB218_217.out _; (with_reducible repeat first | apply blk_drewN | apply blk_drew | apply blk_alloc); refine blk_far ?_ NB218_217.out _; (with_reducible repeat first | apply blk_drewN | apply blk_drew | apply blk_alloc); exact BK218.out⟩
           have n4_ : Aside0 (Below w.heap.size w ((((w53.setCell ⟨gb217, 0, none⟩ (.int .u32 t213)).setCell ⟨gb217, 1, none⟩ (.int .i64 t214)).setCell ⟨gb218, 0, none⟩ (.int .u32 t215)).setCell ⟨gb218, 1, none⟩ (.int .i64 t216))) := ⟨Fit.bl HB.out⟩
           (try clear HO_5)
           (try clear BK202)
           (try clear BK217)
           (try clear BK218)
           (try clear HB)
           generalize ((((w53.setCell ⟨gb217, 0, none⟩ (.int .u32 t213)).setCell ⟨gb217, 1, none⟩ (.int .i64 t214)).setCell ⟨gb218, 0, none⟩ (.int .u32 t215)).setCell ⟨gb218, 1, none⟩ (.int .i64 t216)) = w59 at n0_ n1_ n2_ n3_ n4_ ⊢
           have HO_5 := n0_
           have BK202 := n1_
           have BK217 := n2_
           have BK218 := n3_
           have HB := n4_
           clear n0_ n1_ n2_ n3_ n4_
           have n0_ := Aside0.mk (Kd.R_drew HO_5.out)
           have n1_ := Aside0.mk (blk_drew BK202.out)
           have n2_ := Aside0.mk (blk_drew BK217.out)
           have n3_ := Aside0.mk (blk_drew BK218.out)
           have n4_ := Aside0.mk (below_drew1 HB.out)
           clear HO_5
           clear BK202
           clear BK217
           clear BK218
           clear HB
           have HO_5 := n0_
           have BK202 := n1_
           have BK217 := n2_
           have BK218 := n3_
           have HB := n4_
           clear n0_ n1_ n2_ n3_ n4_
           refine start_ (n := 8) (S := fun w' => w'.cell? ⟨gb217, 0, none⟩ = some (.int .u32 t213) ∧ w'.cell? ⟨gb217, 1, none⟩ = some (.int .i64 t214) ∧ w'.cell? ⟨gb218, 0, none⟩ = some (.int .u32 t215) ∧ w'.cell? ⟨gb218, 1, none⟩ = some (.int .i64 t216)) (ds := []) #[false, false, false, false, false, false, false, false] (by kernel_rfl) rfl rfl ⟨(blk_cell BK217.out 0).trans rfl, (blk_cell BK217.out 1).trans rfl, (blk_cell BK218.out 0).trans rfl, (blk_cell BK218.out 1).trans rfl⟩ (fun hHeld => ?_); refine with_tabW patchbayref2_cover.tab13 patchbayref2_cover.bits13 (fun HT_ HW_ => ?_)
           generalize w59.drew = w60 at HO_5 BK202 BK217 BK218 HB hHeld ⊢
           refine pure_ (i := 1) (N := some 40) (v := ?_) (a' := ?_) #[false, true, false, false, false, false, false, false] rfl rfl (any_of HT_.out (by kernel_rfl)) (fun _ _ _ h => h) (Or.inl ⟨by rfl, ?_⟩) ?_ ?_
           rotate_left
           ·intro w'
            go_simp
            with_reducible rfl
           rotate_left
           ·simp only [Act.put, List.setIfInBounds_toArray, List.set_cons_zero, List.set_cons_succ, i64_w, i32_w]
            rfl
           refine pure_ (i := 4) (N := some 43) (v := ?_) (a' := ?_) #[false, true, false, false, true, false, false, false] rfl rfl (any_of HT_.out (by kernel_rfl)) (fun _ _ _ h => h) (Or.inl ⟨by rfl, ?_⟩) ?_ ?_
           rotate_left
           ·intro w'
            go_simp
            with_reducible rfl
           rotate_left
           ·simp only [Act.put, List.setIfInBounds_toArray, List.set_cons_zero, List.set_cons_succ, i64_w, i32_w]
            rfl
           refine take_ (i := 0) (N := some 39) (v := ?_) (a' := ?_) #[true, true, false, false, true, false, false, false] rfl rfl (take_ofW HT_.out HW_.out (by kernel_rfl)) (fun _ _ _ h => h) (Or.inl ⟨by rfl, ?_⟩) hHeld ?_ ?_
           rotate_left
           ·rintro w' ⟨s0, s1, s2, s3⟩
            go_simp
            with_reducible rfl
           rotate_left
           ·simp only [Act.put, List.setIfInBounds_toArray, List.set_cons_zero, List.set_cons_succ, i64_w, i32_w]
            rfl
           refine take_ (i := 3) (N := some 42) (v := ?_) (a' := ?_) #[true, true, false, true, true, false, false, false] rfl rfl (take_ofW HT_.out HW_.out (by kernel_rfl)) (fun _ _ _ h => h) (Or.inl ⟨by rfl, ?_⟩) hHeld ?_ ?_
           rotate_left
           ·rintro w' ⟨s0, s1, s2, s3⟩
            go_simp
            with_reducible rfl
           rotate_left
           ·simp only [Act.put, List.setIfInBounds_toArray, List.set_cons_zero, List.set_cons_succ, i64_w, i32_w]
            rfl
           refine one_ (i := 2) (N := some 41) #[true, true, true, true, true, false, false, false] rfl rfl (one_of HT_.out (by kernel_rfl)) (by decide) (fun K hK => ?_)
           refine goes_ Tryd.func53 (by kernel_rfl) rfl #[.agg #[.int .u32 t213, .int .i64 t214], .slice Ao49 x5_1.length co49] (by rfl) rfl rfl (by (try simp only [List.map_toArray, List.map_cons, List.map_nil]); first | done | rfl | (simp only [List.length_drop, List.length_take]; rfl)) ?_
           with_reducible refine (ih k1 (by have := HK1.out; omega) t213 t214 _ _ x5_1 t219 _ ?side1 ?side2 A41.out).mono ?_
           (case side1 => repeat (first | exact (Kd.R_reads' HO_5.out).2.2 | (with_reducible refine Kd.C_alloc ?_ _) | (with_reducible refine Kd.C_drewN ?_ _) | (with_reducible refine Kd.C_drew ?_)))
           (case side2 => exact (Kd.R_reads' HO_5.out).2.1)
           rintro e w61 ⟨v220, rfl, ho0, hb⟩
           refine ⟨_, rfl, ?_⟩
           have n0_ := Aside0.mk (Kd.R_elder' (by (with_reducible repeat (first | apply Kd.R_alloc | apply Kd.R_drewN | apply Kd.R_drew)); exact HO_5.out) (Kd.R_base ho0) hb)
           have n1_ := Aside0.mk (Kd.R_lower (Kd.R_newB (Kd.R_newB (Kd.R_newB (Kd.R_new' ho0 (Kd.R_lt (by (with_reducible repeat (first | apply Kd.R_alloc | apply Kd.R_drewN | apply Kd.R_drew)); exact HO_5.out))) (g := gb202) (o := .cells #[.int .u32 a0_0, .int .i64 a0_1] 24 (0, 0)) (Fit.pk BK202.out)) (g := gb217) (o := .cells #[.int .u32 t213, .int .i64 t214] 24 (0, 0)) (Fit.pk BK217.out)) (g := gb218) (o := .cells #[.int .u32 t215, .int .i64 t216] 24 (0, 0)) (Fit.pk BK218.out)) (below_size (Fit.bl HB.out)))
           have n2_ := Aside0.mk (blk_below (g := gb202) (Fit.pk BK202.out) hb)
           have n3_ := Aside0.mk (blk_below (g := gb217) (Fit.pk BK217.out) hb)
           have n4_ := Aside0.mk (blk_below (g := gb218) (Fit.pk BK218.out) hb)
           have n5_ := Aside0.mk (below_step (Fit.bl HB.out) hb)
           clear HO_5
           clear BK202
           clear BK217
           clear BK218
           clear HB
           have HO_5 := n0_
           have HO221 := n1_
           have BK202 := n2_
           have BK217 := n3_
           have BK218 := n4_
           have HB := n5_
           clear n0_ n1_ n2_ n3_ n4_ n5_
           (try clear hb)
           (try clear hb2)
           (try clear hk)
           (try clear hi)
           (try clear ho0)
           refine hK.out _ _ ⟨(blk_cell BK217.out 0).trans rfl, (blk_cell BK217.out 1).trans rfl, (blk_cell BK218.out 0).trans rfl, (blk_cell BK218.out 1).trans rfl⟩ (fun hHeld => ?_)
           clear hK K
           refine norm_ (a' := ?_) ?_ ?_
           rotate_left
           ·show Act.put _ (some 41) _ = _
            simp only [Act.put, List.setIfInBounds_toArray, List.set_cons_zero, List.set_cons_succ, i64_w, i32_w]
            rfl
           refine one_ (i := 5) (N := some 44) #[true, true, true, true, true, true, false, false] rfl rfl (one_of HT_.out (by kernel_rfl)) (by decide) (fun K hK => ?_)
           refine goes_ Tryd.func53 (by kernel_rfl) rfl #[.agg #[.int .u32 t215, .int .i64 t216], .slice Ao49 x5_1.length co49] (by rfl) rfl rfl (by (try simp only [List.map_toArray, List.map_cons, List.map_nil]); first | done | rfl | (simp only [List.length_drop, List.length_take]; rfl)) ?_
           with_reducible refine (ih k1 (by have := HK1.out; omega) t215 t216 _ _ x5_1 t222 _ ?side1 ?side2 A42.out).mono ?_
           (case side1 => repeat (first | exact (Kd.R_reads' HO_5.out).2.2 | (with_reducible refine Kd.C_alloc ?_ _) | (with_reducible refine Kd.C_drewN ?_ _) | (with_reducible refine Kd.C_drew ?_)))
           (case side2 => exact (Kd.R_reads' HO_5.out).2.1)
           rintro e w62 ⟨v223, rfl, ho0, hb⟩
           refine ⟨_, rfl, ?_⟩
           have n0_ := Aside0.mk (Kd.R_elder' (by (with_reducible repeat (first | apply Kd.R_alloc | apply Kd.R_drewN | apply Kd.R_drew)); exact HO_5.out) (Kd.R_base ho0) hb)
           have n1_ := Aside0.mk (Kd.R_elder' (by (with_reducible repeat (first | apply Kd.R_alloc | apply Kd.R_drewN | apply Kd.R_drew)); exact HO221.out) (Kd.R_base ho0) hb)
           have n2_ := Aside0.mk (Kd.R_lower (Kd.R_newB (Kd.R_newB (Kd.R_newB (Kd.R_new' (Kd.R_new' ho0 (Kd.R_lt (by (with_reducible repeat (first | apply Kd.R_alloc | apply Kd.R_drewN | apply Kd.R_drew)); exact HO_5.out))) (Kd.R_lt (by (with_reducible repeat (first | apply Kd.R_alloc | apply Kd.R_drewN | apply Kd.R_drew)); exact HO221.out))) (g := gb202) (o := .cells #[.int .u32 a0_0, .int .i64 a0_1] 24 (0, 0)) (Fit.pk BK202.out)) (g := gb217) (o := .cells #[.int .u32 t213, .int .i64 t214] 24 (0, 0)) (Fit.pk BK217.out)) (g := gb218) (o := .cells #[.int .u32 t215, .int .i64 t216] 24 (0, 0)) (Fit.pk BK218.out)) (below_size (Fit.bl HB.out)))
           have n3_ := Aside0.mk (blk_below (g := gb202) (Fit.pk BK202.out) hb)
           have n4_ := Aside0.mk (blk_below (g := gb217) (Fit.pk BK217.out) hb)
           have n5_ := Aside0.mk (blk_below (g := gb218) (Fit.pk BK218.out) hb)
           have n6_ := Aside0.mk (below_step (Fit.bl HB.out) hb)
           clear HO_5
           clear HO221
           clear BK202
           clear BK217
           clear BK218
           clear HB
           have HO_5 := n0_
           have HO221 := n1_
           have HO224 := n2_
           have BK202 := n3_
           have BK217 := n4_
           have BK218 := n5_
           have HB := n6_
           clear n0_ n1_ n2_ n3_ n4_ n5_ n6_
           (try clear hb)
           (try clear hb2)
           (try clear hk)
           (try clear hi)
           (try clear ho0)
           refine hK.out _ _ ⟨(blk_cell BK217.out 0).trans rfl, (blk_cell BK217.out 1).trans rfl, (blk_cell BK218.out 0).trans rfl, (blk_cell BK218.out 1).trans rfl⟩ (fun hHeld => ?_)
           clear hK K
           refine norm_ (a' := ?_) ?_ ?_
           rotate_left
           ·show Act.put _ (some 44) _ = _
            simp only [Act.put, List.setIfInBounds_toArray, List.set_cons_zero, List.set_cons_succ, i64_w, i32_w]
            rfl
           refine pure_ (i := 6) (N := some 10) (v := ?_) (a' := ?_) #[true, true, true, true, true, true, true, false] rfl rfl (any_of HT_.out (by kernel_rfl)) (fun _ _ _ h => h) (Or.inl ⟨by rfl, ?_⟩) ?_ ?_
           rotate_left
           ·intro w'
            go_simp
            with_reducible rfl
           rotate_left
           ·simp only [Act.put, List.setIfInBounds_toArray, List.set_cons_zero, List.set_cons_succ, i64_w, i32_w]
            rfl
           refine pure_ (i := 7) (N := some 11) (v := ?_) (a' := ?_) #[true, true, true, true, true, true, true, true] rfl rfl (any_of HT_.out (by kernel_rfl)) (fun _ _ _ h => h) (Or.inl ⟨by rfl, ?_⟩) ?_ ?_
           rotate_left
           ·intro w'
            go_simp
            with_reducible rfl
           rotate_left
           ·simp only [Act.put, List.setIfInBounds_toArray, List.set_cons_zero, List.set_cons_succ, i64_w, i32_w]
            rfl
           refine done_ (done_of HT_.out (by kernel_rfl)) ?_
           try go_wp2
           have n0_ := Aside0.mk (Kd.R_drew HO_5.out)
           have n1_ := Aside0.mk (Kd.R_drew HO221.out)
           have n2_ := Aside0.mk (Kd.R_drew HO224.out)
           have n3_ := Aside0.mk (blk_drew BK202.out)
           have n4_ := Aside0.mk (blk_drew BK217.out)
           have n5_ := Aside0.mk (blk_drew BK218.out)
           have n6_ := Aside0.mk (below_drew1 HB.out)
           clear HO_5
           clear HO221
           clear HO224
           clear BK202
           clear BK217
           clear BK218
           clear HB
           have HO_5 := n0_
           have HO221 := n1_
           have HO224 := n2_
           have BK202 := n3_
           have BK217 := n4_
           have BK218 := n5_
           have HB := n6_
           clear n0_ n1_ n2_ n3_ n4_ n5_ n6_
           obtain ⟨Ao64, co64, eo64⟩ := Kd.R_slice HO221.out
           (first | subst eo64 | (injection eo64 with f1_ f2_ f3_; have f4_ := f1_.symm; have f5_ := f3_.symm; clear f1_ f2_ f3_; subst f4_; subst f5_))
           obtain ⟨Ao65, co65, eo65⟩ := Kd.R_slice HO224.out
           (first | subst eo65 | (injection eo65 with f1_ f2_ f3_; have f4_ := f1_.symm; have f5_ := f3_.symm; clear f1_ f2_ f3_; subst f4_; subst f5_))
           have p225 : 0 ≤ (0 : Int) := (by omega)
           have q225 : 0 < (t219.length : Int) := of_decide_eq_true (by first | (with_reducible assumption) | assumption)
           obtain ⟨ad225, e225, hx225_0, hx225_1⟩ := at_T24 (Kd.R_reads' HO221.out).2.2 0 p225 q225
           cases e225
           have qi225 : (0 < t219.length) = True := eq_true (by omega)
           (try rw [show ((0 : Int)).toNat = 0 from rfl] at hx225_0)
           (try rw [show 0 * 2 = 0 from rfl] at hx225_0)
           (try rw [Addr.add_zero'] at hx225_0)
           (try rw [show ((0 : Int)).toNat = 0 from rfl] at hx225_1)
           (try rw [show 0 * 2 = 0 from rfl] at hx225_1)
           (try rw [Addr.add_zero'] at hx225_1)
           replace p225 := eq_true p225
           replace q225 := eq_true q225
           have p226 : 0 ≤ (0 : Int) := (by omega)
           have q226 : 0 < (t222.length : Int) := of_decide_eq_true (by first | (with_reducible assumption) | assumption)
           obtain ⟨ad226, e226, hx226_0, hx226_1⟩ := at_T24 (Kd.R_reads' HO224.out).2.2 0 p226 q226
           cases e226
           have qi226 : (0 < t222.length) = True := eq_true (by omega)
           (try rw [show ((0 : Int)).toNat = 0 from rfl] at hx226_0)
           (try rw [show 0 * 2 = 0 from rfl] at hx226_0)
           (try rw [Addr.add_zero'] at hx226_0)
           (try rw [show ((0 : Int)).toNat = 0 from rfl] at hx226_1)
           (try rw [show 0 * 2 = 0 from rfl] at hx226_1)
           (try rw [Addr.add_zero'] at hx226_1)
           replace p226 := eq_true p226
           replace q226 := eq_true q226
           refine start_ (n := 22) (S := fun w' => w'.cell? ⟨gb217, 0, none⟩ = some (.int .u32 t213) ∧ w'.cell? ⟨gb217, 1, none⟩ = some (.int .i64 t214) ∧ w'.cell? ⟨gb218, 0, none⟩ = some (.int .u32 t215) ∧ w'.cell? ⟨gb218, 1, none⟩ = some (.int .i64 t216) ∧ w'.cell? ad225 = some (.int .u32 ((rd_T24 t219 0).f0)) ∧ w'.cell? ⟨ad225.block, ad225.off + 1, none⟩ = some (.int .i64 ((rd_T24 t219 0).f1)) ∧ w'.cell? ad226 = some (.int .u32 ((rd_T24 t222 0).f0)) ∧ w'.cell? ⟨ad226.block, ad226.off + 1, none⟩ = some (.int .i64 ((rd_T24 t222 0).f1))) (ds := []) #[false, false, false, false, false, false, false, false, false, false, false, false, false, false, false, false, false, false, false, false, false, false] (by kernel_rfl) rfl rfl ⟨(blk_cell BK217.out 0).trans rfl, (blk_cell BK217.out 1).trans rfl, (blk_cell BK218.out 0).trans rfl, (blk_cell BK218.out 1).trans rfl, hx225_0, hx225_1, hx226_0, hx226_1⟩ (fun hHeld => ?_); refine with_tabW patchbayref2_cover.tab14 patchbayref2_cover.bits14 (fun HT_ HW_ => ?_)
           generalize w62.drew = w63 at HO_5 HO221 HO224 BK202 BK217 BK218 HB hx225_0 hx225_1 hx226_0 hx226_1 hHeld ⊢
           refine pure_ (i := 0) (N := some 45) (v := ?_) (a' := ?_) #[true, false, false, false, false, false, false, false, false, false, false, false, false, false, false, false, false, false, false, false, false, false] rfl rfl (any_of HT_.out (by kernel_rfl)) (fun _ _ _ h => h) (Or.inl ⟨by rfl, ?_⟩) ?_ ?_
           rotate_left
           ·intro w'
            go_simp
            with_reducible rfl
           rotate_left
           ·simp only [Act.put, List.setIfInBounds_toArray, List.set_cons_zero, List.set_cons_succ, i64_w, i32_w]
            rfl
           refine pure_ (i := 1) (N := some 46) (v := ?_) (a' := ?_) #[true, true, false, false, false, false, false, false, false, false, false, false, false, false, false, false, false, false, false, false, false, false] rfl rfl (any_of HT_.out (by kernel_rfl)) (fun _ _ _ h => h) (Or.inl ⟨by rfl, ?_⟩) ?_ ?_
           rotate_left
           ·intro w'
            go_simp
            with_reducible rfl
           rotate_left
           ·simp only [Act.put, List.setIfInBounds_toArray, List.set_cons_zero, List.set_cons_succ, i64_w, i32_w]
            rfl
           refine pure_ (i := 2) (N := some 47) (v := ?_) (a' := ?_) #[true, true, true, false, false, false, false, false, false, false, false, false, false, false, false, false, false, false, false, false, false, false] rfl rfl (any_of HT_.out (by kernel_rfl)) (fun _ _ _ h => h) (Or.inl ⟨by rfl, ?_⟩) ?_ ?_
           rotate_left
           ·intro w'
            go_simp
            with_reducible rfl
           rotate_left
           ·simp only [Act.put, List.setIfInBounds_toArray, List.set_cons_zero, List.set_cons_succ, i64_w, i32_w]
            rfl
           refine pure_ (i := 3) (N := some 48) (v := ?_) (a' := ?_) #[true, true, true, true, false, false, false, false, false, false, false, false, false, false, false, false, false, false, false, false, false, false] rfl rfl (any_of HT_.out (by kernel_rfl)) (fun _ _ _ h => h) (Or.inl ⟨by rfl, ?_⟩) ?_ ?_
           rotate_left
           ·intro w'
            go_simp
            with_reducible rfl
           rotate_left
           ·simp only [Act.put, List.setIfInBounds_toArray, List.set_cons_zero, List.set_cons_succ, i64_w, i32_w]
            rfl
           refine pure_ (i := 4) (N := some 49) (v := ?_) (a' := ?_) #[true, true, true, true, true, false, false, false, false, false, false, false, false, false, false, false, false, false, false, false, false, false] rfl rfl (any_of HT_.out (by kernel_rfl)) (fun _ _ _ h => h) (Or.inl ⟨by rfl, ?_⟩) ?_ ?_
           rotate_left
           ·intro w'
            go_simp
            with_reducible rfl
           rotate_left
           ·simp only [Act.put, List.setIfInBounds_toArray, List.set_cons_zero, List.set_cons_succ, i64_w, i32_w]
            rfl
           refine pure_ (i := 5) (N := some 50) (v := ?_) (a' := ?_) #[true, true, true, true, true, true, false, false, false, false, false, false, false, false, false, false, false, false, false, false, false, false] rfl rfl (any_of HT_.out (by kernel_rfl)) (fun _ _ _ h => h) (Or.inl ⟨by rfl, ?_⟩) ?_ ?_
           rotate_left
           ·intro w'
            go_simp
            with_reducible rfl
           rotate_left
           ·simp only [Act.put, List.setIfInBounds_toArray, List.set_cons_zero, List.set_cons_succ, i64_w, i32_w]
            rfl
           refine pure_ (i := 6) (N := some 51) (v := ?_) (a' := ?_) #[true, true, true, true, true, true, true, false, false, false, false, false, false, false, false, false, false, false, false, false, false, false] rfl rfl (any_of HT_.out (by kernel_rfl)) (fun _ _ _ h => h) (Or.inl ⟨by rfl, ?_⟩) ?_ ?_
           rotate_left
           ·intro w'
            go_simp
            with_reducible rfl
           rotate_left
           ·simp only [Act.put, List.setIfInBounds_toArray, List.set_cons_zero, List.set_cons_succ, i64_w, i32_w]
            rfl
           refine pure_ (i := 7) (N := some 52) (v := ?_) (a' := ?_) #[true, true, true, true, true, true, true, true, false, false, false, false, false, false, false, false, false, false, false, false, false, false] rfl rfl (any_of HT_.out (by kernel_rfl)) (fun _ _ _ h => h) (Or.inl ⟨by rfl, ?_⟩) ?_ ?_
           rotate_left
           ·intro w'
            go_simp
            with_reducible rfl
           rotate_left
           ·simp only [Act.put, List.setIfInBounds_toArray, List.set_cons_zero, List.set_cons_succ, i64_w, i32_w]
            rfl
           refine pure_ (i := 8) (N := some 53) (v := ?_) (a' := ?_) #[true, true, true, true, true, true, true, true, true, false, false, false, false, false, false, false, false, false, false, false, false, false] rfl rfl (any_of HT_.out (by kernel_rfl)) (fun _ _ _ h => h) (Or.inl ⟨by rfl, ?_⟩) ?_ ?_
           rotate_left
           ·intro w'
            go_simp
            with_reducible rfl
           rotate_left
           ·simp only [Act.put, List.setIfInBounds_toArray, List.set_cons_zero, List.set_cons_succ, i64_w, i32_w]
            rfl
           refine pure_ (i := 9) (N := some 54) (v := ?_) (a' := ?_) #[true, true, true, true, true, true, true, true, true, true, false, false, false, false, false, false, false, false, false, false, false, false] rfl rfl (any_of HT_.out (by kernel_rfl)) (fun _ _ _ h => h) (Or.inl ⟨by rfl, ?_⟩) ?_ ?_
           rotate_left
           ·intro w'
            go_simp
            with_reducible rfl
           rotate_left
           ·simp only [Act.put, List.setIfInBounds_toArray, List.set_cons_zero, List.set_cons_succ, i64_w, i32_w]
            rfl
           refine pure_ (i := 10) (N := some 55) (v := ?_) (a' := ?_) #[true, true, true, true, true, true, true, true, true, true, true, false, false, false, false, false, false, false, false, false, false, false] rfl rfl (any_of HT_.out (by kernel_rfl)) (fun _ _ _ h => h) (Or.inl ⟨by rfl, ?_⟩) ?_ ?_
           rotate_left
           ·intro w'
            go_simp
            with_reducible rfl
           rotate_left
           ·simp only [Act.put, List.setIfInBounds_toArray, List.set_cons_zero, List.set_cons_succ, i64_w, i32_w]
            rfl
           refine take_ (i := 11) (N := some 56) (v := ?_) (a' := ?_) #[true, true, true, true, true, true, true, true, true, true, true, true, false, false, false, false, false, false, false, false, false, false] rfl rfl (take_ofW HT_.out HW_.out (by kernel_rfl)) (fun _ _ _ h => h) (Or.inl ⟨by rfl, ?_⟩) hHeld ?_ ?_
           rotate_left
           ·rintro w' ⟨s0, s1, s2, s3, s4, s5, s6, s7⟩
            go_simp
            with_reducible rfl
           rotate_left
           ·simp only [Act.put, List.setIfInBounds_toArray, List.set_cons_zero, List.set_cons_succ, i64_w, i32_w]
            rfl
           refine take_ (i := 12) (N := some 57) (v := ?_) (a' := ?_) #[true, true, true, true, true, true, true, true, true, true, true, true, true, false, false, false, false, false, false, false, false, false] rfl rfl (take_ofW HT_.out HW_.out (by kernel_rfl)) (fun _ _ _ h => h) (Or.inl ⟨by rfl, ?_⟩) hHeld ?_ ?_
           rotate_left
           ·rintro w' ⟨s0, s1, s2, s3, s4, s5, s6, s7⟩
            go_simp
            with_reducible rfl
           rotate_left
           ·simp only [Act.put, List.setIfInBounds_toArray, List.set_cons_zero, List.set_cons_succ, i64_w, i32_w]
            rfl
           refine pure_ (i := 13) (N := some 58) (v := ?_) (a' := ?_) #[true, true, true, true, true, true, true, true, true, true, true, true, true, true, false, false, false, false, false, false, false, false] rfl rfl (any_of HT_.out (by kernel_rfl)) (fun _ _ _ h => h) (Or.inl ⟨by rfl, ?_⟩) ?_ ?_
           rotate_left
           ·intro w'
            go_simp
            with_reducible rfl
           rotate_left
           ·simp only [Act.put, List.setIfInBounds_toArray, List.set_cons_zero, List.set_cons_succ, i64_w, i32_w]
            rfl
           refine pure_ (i := 14) (N := some 59) (v := ?_) (a' := ?_) #[true, true, true, true, true, true, true, true, true, true, true, true, true, true, true, false, false, false, false, false, false, false] rfl rfl (any_of HT_.out (by kernel_rfl)) (fun _ _ _ h => h) (Or.inl ⟨by rfl, ?_⟩) ?_ ?_
           rotate_left
           ·intro w'
            go_simp
            with_reducible rfl
           rotate_left
           ·simp only [Act.put, List.setIfInBounds_toArray, List.set_cons_zero, List.set_cons_succ, i64_w, i32_w]
            rfl
           refine pure_ (i := 15) (N := some 60) (v := ?_) (a' := ?_) #[true, true, true, true, true, true, true, true, true, true, true, true, true, true, true, true, false, false, false, false, false, false] rfl rfl (any_of HT_.out (by kernel_rfl)) (fun _ _ _ h => h) (Or.inl ⟨by rfl, ?_⟩) ?_ ?_
           rotate_left
           ·intro w'
            go_simp
            with_reducible rfl
           rotate_left
           ·simp only [Act.put, List.setIfInBounds_toArray, List.set_cons_zero, List.set_cons_succ, i64_w, i32_w]
            rfl
           refine pure_ (i := 16) (N := some 61) (v := ?_) (a' := ?_) #[true, true, true, true, true, true, true, true, true, true, true, true, true, true, true, true, true, false, false, false, false, false] rfl rfl (any_of HT_.out (by kernel_rfl)) (fun _ _ _ h => h) (Or.inl ⟨by rfl, ?_⟩) ?_ ?_
           rotate_left
           ·intro w'
            go_simp
            with_reducible rfl
           rotate_left
           ·simp only [Act.put, List.setIfInBounds_toArray, List.set_cons_zero, List.set_cons_succ, i64_w, i32_w]
            rfl
           refine pure_ (i := 17) (N := some 62) (v := ?_) (a' := ?_) #[true, true, true, true, true, true, true, true, true, true, true, true, true, true, true, true, true, true, false, false, false, false] rfl rfl (any_of HT_.out (by kernel_rfl)) (fun _ _ _ h => h) (Or.inl ⟨by rfl, ?_⟩) ?_ ?_
           rotate_left
           ·intro w'
            go_simp
            with_reducible rfl
           rotate_left
           ·simp only [Act.put, List.setIfInBounds_toArray, List.set_cons_zero, List.set_cons_succ, i64_w, i32_w]
            rfl
           refine take_ (i := 18) (N := some 63) (v := ?_) (a' := ?_) #[true, true, true, true, true, true, true, true, true, true, true, true, true, true, true, true, true, true, true, false, false, false] rfl rfl (take_ofW HT_.out HW_.out (by kernel_rfl)) (fun _ _ _ h => h) (Or.inl ⟨by rfl, ?_⟩) hHeld ?_ ?_
           rotate_left
           ·rintro w' ⟨s0, s1, s2, s3, s4, s5, s6, s7⟩
            go_simp
            with_reducible rfl
           rotate_left
           ·simp only [Act.put, List.setIfInBounds_toArray, List.set_cons_zero, List.set_cons_succ, i64_w, i32_w]
            rfl
           refine take_ (i := 19) (N := some 64) (v := ?_) (a' := ?_) #[true, true, true, true, true, true, true, true, true, true, true, true, true, true, true, true, true, true, true, true, false, false] rfl rfl (take_ofW HT_.out HW_.out (by kernel_rfl)) (fun _ _ _ h => h) (Or.inl ⟨by rfl, ?_⟩) hHeld ?_ ?_
           rotate_left
           ·rintro w' ⟨s0, s1, s2, s3, s4, s5, s6, s7⟩
            go_simp
            with_reducible rfl
           rotate_left
           ·simp only [Act.put, List.setIfInBounds_toArray, List.set_cons_zero, List.set_cons_succ, i64_w, i32_w]
            rfl
           refine pure_ (i := 20) (N := some 65) (v := ?_) (a' := ?_) #[true, true, true, true, true, true, true, true, true, true, true, true, true, true, true, true, true, true, true, true, true, false] rfl rfl (any_of HT_.out (by kernel_rfl)) (fun _ _ _ h => h) (Or.inl ⟨by rfl, ?_⟩) ?_ ?_
           rotate_left
           ·intro w'
            go_simp
            with_reducible rfl
           rotate_left
           ·simp only [Act.put, List.setIfInBounds_toArray, List.set_cons_zero, List.set_cons_succ, i64_w, i32_w]
            rfl
           refine pure_ (i := 21) (N := some 66) (v := ?_) (a' := ?_) #[true, true, true, true, true, true, true, true, true, true, true, true, true, true, true, true, true, true, true, true, true, true] rfl rfl (any_of HT_.out (by kernel_rfl)) (fun _ _ _ h => h) (Or.inl ⟨by rfl, ?_⟩) ?_ ?_
           rotate_left
           ·intro w'
            go_simp
            with_reducible rfl
           rotate_left
           ·simp only [Act.put, List.setIfInBounds_toArray, List.set_cons_zero, List.set_cons_succ, i64_w, i32_w]
            rfl
           refine done_ (done_of HT_.out (by kernel_rfl)) ?_
           obtain ⟨hcz66_0, hcz66_1, hfz66_0⟩ := Fit.cells2 BK202.out
           try go_wp2_with (first | ((with_reducible refine gate_dst (N := 68) rfl ?_); (try (refine gate_guard (by rfl) ?_; dsimp only)); refine Kd.R_lit k24 _ 24 ?hg (N := 68) ?hd (xs := ([(⟨a0_0, a0_1⟩ : S24)] : List (S24))) (inner := [.int .u32 a0_0, .int .i64 a0_1]) (ok := fun _ => True) (okp := fun _ => True) ?hr ?hp (fun _ hk => hk) trivial (Below.refl _ _) (Nat.le_refl _) (by simp) ?_; (case hd => rfl); (case hg => rfl); (case hr => first | (go_simp; done) | (go_simp; rfl)); (case hp => exact (Reps.c2 (show Kd.M k24 _ _ _ (⟨a0_0, a0_1⟩ : S24) [.int .u32 a0_0, .int .i64 a0_1] from (k24_mkM _ _ _ (⟨a0_0, a0_1⟩ : S24) )) (Reps.none _ _))); intro v228 w67 ho68 hb hg_ hnew_; clear hg_ hnew_; (first | rw [← Ny227.out] at ho68 | (simp only [Int.reduceToNat] at ho68; rw [← Ny227.out] at ho68)); have n0_ := Aside0.mk (Kd.R_elder' (by (with_reducible repeat (first | apply Kd.R_alloc | apply Kd.R_drewN | apply Kd.R_drew)); exact HO_5.out) (Kd.R_base ho68) hb); have n1_ := Aside0.mk (Kd.R_elder' (by (with_reducible repeat (first | apply Kd.R_alloc | apply Kd.R_drewN | apply Kd.R_drew)); exact HO221.out) (Kd.R_base ho68) hb); have n2_ := Aside0.mk (Kd.R_elder' (by (with_reducible repeat (first | apply Kd.R_alloc | apply Kd.R_drewN | apply Kd.R_drew)); exact HO224.out) (Kd.R_base ho68) hb); have n3_ := Aside0.mk (Kd.R_lower (Kd.R_newB (Kd.R_newB (Kd.R_newB (Kd.R_new' (Kd.R_new' (Kd.R_new' ho68 (Kd.R_lt (by (with_reducible repeat (first | apply Kd.R_alloc | apply Kd.R_drewN | apply Kd.R_drew)); exact HO_5.out))) (Kd.R_lt (by (with_reducible repeat (first | apply Kd.R_alloc | apply Kd.R_drewN | apply Kd.R_drew)); exact HO221.out))) (Kd.R_lt (by (with_reducible repeat (first | apply Kd.R_alloc | apply Kd.R_drewN | apply Kd.R_drew)); exact HO224.out))) (g := gb202) (o := .cells #[.int .u32 a0_0, .int .i64 a0_1] 24 (0, 0)) (Fit.pk BK202.out)) (g := gb217) (o := .cells #[.int .u32 t213, .int .i64 t214] 24 (0, 0)) (Fit.pk BK217.out)) (g := gb218) (o := .cells #[.int .u32 t215, .int .i64 t216] 24 (0, 0)) (Fit.pk BK218.out)) (below_size (Fit.bl HB.out))); have n4_ := Aside0.mk (blk_below (g := gb202) (Fit.pk BK202.out) hb); have n5_ := Aside0.mk (blk_below (g := gb217) (Fit.pk BK217.out) hb); have n6_ := Aside0.mk (blk_below (g := gb218) (Fit.pk BK218.out) hb); have n7_ := Aside0.mk (below_step (Fit.bl HB.out) hb); clear HO_5; clear HO221; clear HO224; clear BK202; clear BK217; clear BK218; clear HB; have HO_5 := n0_; have HO221 := n1_; have HO224 := n2_; have HO229 := n3_; have BK202 := n4_; have BK217 := n5_; have BK218 := n6_; have HB := n7_; clear n0_ n1_ n2_ n3_ n4_ n5_ n6_ n7_; clear hb ho68))
           go_ret
           exact ⟨_, by first | rfl | (simp [errW_none, errW_some] <;> rfl) | (simp [*, errW_none, errW_some] <;> rfl), by (with_reducible repeat (first | apply Kd.R_alloc | apply Kd.R_drewN | apply Kd.R_drew)); exact Kd.R_mono HO229.out (fun _ hk => trivial), Fit.bl HB.out⟩
          ·rw [if_neg c48] at H
           have c48b0 : (((rd_T24 t222 0).f0) == t215 && (((rd_T24 t222 0).f1) == t216)) = false := by simpa using c48
           (try (have c48b1 : decide (((rd_T24 t222 0).f0) = t215 && (((rd_T24 t222 0).f1) == t216)) = false := by simpa using c48))
           (try (have c48b2 : (((rd_T24 t222 0).f0) == t215 && (((rd_T24 t222 0).f1) == t216)) = false := by simpa using c48))
           (try (have c48b3 : ¬ (((rd_T24 t222 0).f0) = t215 && (((rd_T24 t222 0).f1) == t216)) := by simpa using c48))
           clear c48
           obtain ⟨y230, hy230⟩ : ∃ y_ : List (S24), y_ = (([] : List (S24))) := ⟨_, rfl⟩
           replace H : (if y230.length + t219.length < 8796093022208 then ((some (y230 ++ t219 : List (S24))).bind fun y233 => (if y233.length + t222.length < 8796093022208 then (some (y233 ++ t222)) else (none))) else (none)) = some r := by first | (rw [hy230]; with_reducible exact H) | (have H2_ := (Option.bind_some _ _).symm.trans H; rw [hy230]; with_reducible exact H2_) | (have H2_ := (Option.bind_some _ _).symm.trans H; with_reducible exact H2_) | with_reducible exact H | (rw [hy230]; exact H) | exact H
           have Ny230 := Aside0.mk hy230
           clear hy230
           by_cases c69 : y230.length + t219.length < 8796093022208
           ·rw [if_pos c69] at H
            have LMc69 := Aside0.mk c69
            clear c69
            obtain ⟨y233, hy233⟩ : ∃ y_ : List (S24), y_ = (y230 ++ t219) := ⟨_, rfl⟩
            replace H : (if y233.length + t222.length < 8796093022208 then (some (y233 ++ t222)) else (none)) = some r := by first | (rw [hy233]; with_reducible exact H) | (have H2_ := (Option.bind_some _ _).symm.trans H; rw [hy233]; with_reducible exact H2_) | (have H2_ := (Option.bind_some _ _).symm.trans H; with_reducible exact H2_) | with_reducible exact H | (rw [hy233]; exact H) | exact H
            have Ny233 := Aside0.mk hy233
            clear hy233
            by_cases c70 : y233.length + t222.length < 8796093022208
            ·rw [if_pos c70] at H
             have LMc70 := Aside0.mk c70
             clear c70
             obtain ⟨y236, hy236⟩ : ∃ y_ : List (S24), y_ = (y233 ++ t222) := ⟨_, rfl⟩
             replace H : (some y236) = some r := by first | (rw [hy236]; with_reducible exact H) | (have H2_ := (Option.bind_some _ _).symm.trans H; rw [hy236]; with_reducible exact H2_) | (have H2_ := (Option.bind_some _ _).symm.trans H; with_reducible exact H2_) | with_reducible exact H | (rw [hy236]; exact H) | exact H
             have Ny236 := Aside0.mk hy236
             clear hy236
             obtain rfl := Option.some.inj H
             obtain ⟨Ao71, co71, eo71⟩ := Kd.R_slice HO_5.out
             subst eo71
             obtain ⟨hcz72_0, hcz72_1, hfz72_0⟩ := Fit.cells2 BK202.out
             try go_wp2_with (first | ((with_reducible refine gate_callee (f := 75) rfl ?_); refine goesL_ (some 36) rfl rfl Tryd.func75 (by kernel_rfl) rfl #[.agg #[.int .u32 a0_0, .int .i64 a0_1]] rfl (by (try simp only [List.map_toArray, List.map_cons, List.map_nil]); first | done | rfl | (simp only [List.length_drop, List.length_take]; rfl)) ?_; (with_reducible refine (patchbayref2_halves.calls k1 a0_0 a0_1 t213 t214 t215 t216 _ A40.out).mono ?_); rintro e w73 ⟨rfl, hb⟩; refine ⟨_, rfl, ?_⟩; have n0_ := Aside0.mk (Kd.R_below (by (with_reducible repeat (first | apply Kd.R_alloc | apply Kd.R_drewN | apply Kd.R_drew)); exact HO_5.out) hb); have n1_ := Aside0.mk (blk_below (g := gb202) (Fit.pk BK202.out) hb); have n2_ := Aside0.mk (below_step (Fit.bl HB.out) hb); clear HO_5; clear BK202; clear HB; have HO_5 := n0_; have BK202 := n1_; have HB := n2_; clear n0_ n1_ n2_; (try clear hb); (try clear hb2); (try clear hk); (try clear hi)) | ((with_reducible refine gate_dst (N := 8) rfl ?_); (try (refine gate_guard (by rfl) ?_; dsimp only)); refine box_event ?hg (N := 8) ?hd (cs := #[.int .u32 0, .int .i64 0]) (t := 24) ?hr ?_; (case hd => rfl); (case hg => rfl); (case hr => first | (go_simp; done) | (go_simp; rfl)); intro gb217 hg w74 hbox hb; have n0_ := Aside0.mk (Kd.R_below (Kd.R_elderB (by (with_reducible repeat (first | apply Kd.R_alloc | apply Kd.R_drewN | apply Kd.R_drew)); exact HO_5.out) gb217 (Nat.le_of_eq hg.symm)) hb); have n1_ := Aside0.mk (blk_below (g := gb202) (Fit.pk BK202.out) hb); have n2_ := Aside0.mk (below_step (Fit.bl HB.out) hb); have n3_ := Aside0.mk (hbox); have n4_ := Aside0.mk ((by rw [hg]; exact (below_size (Fit.bl HB.out)) : w.heap.size ≤ gb217)); have n5_ := Aside0.mk ((by rw [hg]; exact (below_size (Fit.bl HB.out)) : w.heap.size ≤ gb217)); have n6_ := Aside0.mk ((by rw [hg]; exact Nat.ne_of_lt (blk_lt (g := gb202) (Fit.pk BK202.out)) : gb202 ≠ gb217)); have n7_ := Aside0.mk ((by rw [hg]; exact Nat.ne_of_gt (blk_lt (g := gb202) (Fit.pk BK202.out)) : gb217 ≠ gb202)); clear HO_5; clear BK202; clear HB; have HO_5 := n0_; have BK202 := n1_; have HB := n2_; have BK217 := n3_; have GW217 := n4_; have GE217 := n5_; have NB202_217 := n6_; have NB217_202 := n7_; clear n0_ n1_ n2_ n3_ n4_ n5_ n6_ n7_; clear hb hbox hg) | ((with_reducible refine gate_dst (N := 9) rfl ?_); (try (refine gate_guard (by rfl) ?_; dsimp only)); refine box_event ?hg (N := 9) ?hd (cs := #[.int .u32 0, .int .i64 0]) (t := 24) ?hr ?_; (case hd => rfl); (case hg => rfl); (case hr => first | (go_simp; done) | (go_simp; rfl)); intro gb218 hg w75 hbox hb; have n0_ := Aside0.mk (Kd.R_below (Kd.R_elderB (by (with_reducible repeat (first | apply Kd.R_alloc | apply Kd.R_drewN | apply Kd.R_drew)); exact HO_5.out) gb218 (Nat.le_of_eq hg.symm)) hb); have n1_ := Aside0.mk (blk_below (g := gb202) (Fit.pk BK202.out) hb); have n2_ := Aside0.mk (blk_below (g := gb217) (Fit.pk BK217.out) hb); have n3_ := Aside0.mk (below_step (Fit.bl HB.out) hb); have n4_ := Aside0.mk (hbox); have n5_ := Aside0.mk ((by rw [hg]; exact (below_size (Fit.bl HB.out)) : w.heap.size ≤ gb218)); have n6_ := Aside0.mk ((by rw [hg]; exact (below_size (Fit.bl HB.out)) : w.heap.size ≤ gb218)); have n7_ := Aside0.mk ((by rw [hg]; exact Nat.ne_of_lt (blk_lt (g := gb202) (Fit.pk BK202.out)) : gb202 ≠ gb218)); have n8_ := Aside0.mk ((by rw [hg]; exact Nat.ne_of_gt (blk_lt (g := gb202) (Fit.pk BK202.out)) : gb218 ≠ gb202)); have n9_ := Aside0.mk ((by rw [hg]; exact Nat.ne_of_lt (blk_lt (g := gb217) (Fit.pk BK217.out)) : gb217 ≠ gb218)); have n10_ := Aside0.mk ((by rw [hg]; exact Nat.ne_of_gt (blk_lt (g := gb217) (Fit.pk BK217.out)) : gb218 ≠ gb217)); clear HO_5; clear BK202; clear BK217; clear HB; have HO_5 := n0_; have BK202 := n1_; have BK217 := n2_; have HB := n3_; have BK218 := n4_; have GW218 := n5_; have GE218 := n6_; have NB202_218 := n7_; have NB218_202 := n8_; have NB217_218 := n9_; have NB218_217 := n10_; clear n0_ n1_ n2_ n3_ n4_ n5_ n6_ n7_ n8_ n9_ n10_; clear hb hbox hg; have hnb76 := NB217_202.out; have hnc76 := NB202_217.out; have hnb77 := NB217_218.out; have hnc77 := NB218_217.out; obtain ⟨hcz78_0, hcz78_1, hfz78_0⟩ := Fit.cells2 BK217.out; have hnb79 := NB218_202.out; have hnc79 := NB202_218.out; obtain ⟨hcz80_0, hcz80_1, hfz80_0⟩ := Fit.cells2 BK218.out))
             have n0_ : Aside0 (Kd.R k24 24 ((((w75.setCell ⟨gb217, 0, none⟩ (.int .u32 t213)).setCell ⟨gb217, 1, none⟩ (.int .i64 t214)).setCell ⟨gb218, 0, none⟩ (.int .u32 t215)).setCell ⟨gb218, 1, none⟩ (.int .i64 t216)) w.heap.size (fun k_ => k_ ≠ gb202 ∧ k_ ≠ gb217 ∧ k_ ≠ gb218) (.slice Ao71 x5_1.length co71) x5_1) := ⟨by (with_reducible repeat (first | apply Kd.R_alloc | apply Kd.R_drewN | apply Kd.R_drew)); exact Kd.R_mono (Kd.R_far (p := ⟨gb218, 1, none⟩) (Kd.R_far (p := ⟨gb218, 0, none⟩) (Kd.R_far (p := ⟨gb217, 1, none⟩) (Kd.R_far (p := ⟨gb217, 0, none⟩) (Kd.R_mono (Kd.R_mono HO_5.out (fun k_ hk => (⟨hk, hk.1.2⟩ : _ ∧ k_ ≠ gb217))) (fun k_ hk => (⟨hk, hk.1.2⟩ : _ ∧ k_ ≠ gb218))) (fun _ hk => hk.1.2) (.int .u32 t213)) (fun _ hk => hk.1.2) (.int .i64 t214)) (fun _ hk => hk.2) (.int .u32 t215)) (fun _ hk => hk.2) (.int .i64 t216)) (fun _ hk => ⟨hk.1.1.1.1, ⟨hk.1.1.1.2, hk.1.1.2⟩⟩)⟩
             have n1_ : Aside0 (((((w75.setCell ⟨gb217, 0, none⟩ (.int .u32 t213)).setCell ⟨gb217, 1, none⟩ (.int .i64 t214)).setCell ⟨gb218, 0, none⟩ (.int .u32 t215)).setCell ⟨gb218, 1, none⟩ (.int .i64 t216)).heap[gb202]? = some (.cells #[.int .u32 a0_0, .int .i64 a0_1] 24 (0, 0))) := ⟨by (with_reducible repeat first | apply blk_drewN | apply blk_drew | apply blk_alloc); refine blk_far ?_ NB202_218.out _; (with_reducible repeat first | apply blk_drewN | apply blk_drew | apply blk_alloc); refine blk_far ?_ NB202_218.out _; (with_reducible repeat first | apply blk_drewN | apply blk_drew | apply blk_alloc); refine blk_far ?_ NB202_217.out _; (with_reducible repeat first | apply blk_drewN | apply blk_drew | apply blk_alloc); refine blk_far ?_ NB202_217.out _; (with_reducible repeat first | apply blk_drewN | apply blk_drew | apply blk_alloc); exact BK202.out⟩
             have n2_ : Aside0 (((((w75.setCell ⟨gb217, 0, none⟩ (.int .u32 t213)).setCell ⟨gb217, 1, none⟩ (.int .i64 t214)).setCell ⟨gb218, 0, none⟩ (.int .u32 t215)).setCell ⟨gb218, 1, none⟩ (.int .i64 t216)).heap[gb217]? = some (.cells #[.int .u32 t213, .int .i64 t214] 24 (0, 0))) := ⟨by (with_reducible repeat first | apply blk_drewN | apply blk_drew | apply blk_alloc); refine blk_far ?_ NB217_218.out _; (with_reducible repeat first | apply blk_drewN | apply blk_drew | apply blk_alloc); refine blk_far ?_ NB217_218.out _; (with_reducible repeat first | apply blk_drewN | apply blk_drew | apply blk_alloc); refine blk_put (cs := #[.int .u32 t213, .int .i64 0]) ?_ 1 _ rfl; (with_reducible repeat first | apply blk_drewN | apply blk_drew | apply blk_alloc); refine blk_put (cs := #[.int .u32 0, .int .i64 0]) ?_ 0 _ rfl; (with_reducible repeat first | apply blk_drewN | apply blk_drew | apply blk_alloc); exact BK217.out⟩
             have n3_ : Aside0 (((((w75.setCell ⟨gb217, 0, none⟩ (.int .u32 t213)).setCell ⟨gb217, 1, none⟩ (.int .i64 t214)).setCell ⟨gb218, 0, none⟩ (.int .u32 t215)).setCell ⟨gb218, 1, none⟩ (.int .i64 t216)).heap[gb218]? = some (.cells #[.int .u32 t215, .int .i64 t216] 24 (0, 0))) := ⟨by (with_reducible repeat first | apply blk_drewN | apply blk_drew | apply blk_alloc); refine blk_put (cs := #[.int .u32 t215, .int .i64 0]) ?_ 1 _ rfl; (with_reducible repeat first | apply blk_drewN | apply blk_drew | apply blk_alloc); refine blk_put (cs := #[.int .u32 0, .int .i64 0]) ?_ 0 _ rfl; (with_reducible repeat first | apply blk_drewN | apply blk_drew | apply blk_alloc); refine blk_far ?_ NB218_217.out _; (with_reducible repeat first | apply blk_drewN | apply blk_drew | apply blk_alloc); refine blk_far ?_ NB218_217.out _; (with_reducible repeat first | apply blk_drewN | apply blk_drew | apply blk_alloc); exact BK218.out⟩
             have n4_ : Aside0 (Below w.heap.size w ((((w75.setCell ⟨gb217, 0, none⟩ (.int .u32 t213)).setCell ⟨gb217, 1, none⟩ (.int .i64 t214)).setCell ⟨gb218, 0, none⟩ (.int .u32 t215)).setCell ⟨gb218, 1, none⟩ (.int .i64 t216))) := ⟨Fit.bl HB.out⟩
             (try clear HO_5)
             (try clear BK202)
             (try clear BK217)
             (try clear BK218)
             (try clear HB)
             generalize ((((w75.setCell ⟨gb217, 0, none⟩ (.int .u32 t213)).setCell ⟨gb217, 1, none⟩ (.int .i64 t214)).setCell ⟨gb218, 0, none⟩ (.int .u32 t215)).setCell ⟨gb218, 1, none⟩ (.int .i64 t216)) = w81 at n0_ n1_ n2_ n3_ n4_ ⊢
             have HO_5 := n0_
             have BK202 := n1_
             have BK217 := n2_
             have BK218 := n3_
             have HB := n4_
             clear n0_ n1_ n2_ n3_ n4_
             have n0_ := Aside0.mk (Kd.R_drew HO_5.out)
             have n1_ := Aside0.mk (blk_drew BK202.out)
             have n2_ := Aside0.mk (blk_drew BK217.out)
             have n3_ := Aside0.mk (blk_drew BK218.out)
             have n4_ := Aside0.mk (below_drew1 HB.out)
             clear HO_5
             clear BK202
             clear BK217
             clear BK218
             clear HB
             have HO_5 := n0_
             have BK202 := n1_
             have BK217 := n2_
             have BK218 := n3_
             have HB := n4_
             clear n0_ n1_ n2_ n3_ n4_
             refine start_ (n := 8) (S := fun w' => w'.cell? ⟨gb217, 0, none⟩ = some (.int .u32 t213) ∧ w'.cell? ⟨gb217, 1, none⟩ = some (.int .i64 t214) ∧ w'.cell? ⟨gb218, 0, none⟩ = some (.int .u32 t215) ∧ w'.cell? ⟨gb218, 1, none⟩ = some (.int .i64 t216)) (ds := []) #[false, false, false, false, false, false, false, false] (by kernel_rfl) rfl rfl ⟨(blk_cell BK217.out 0).trans rfl, (blk_cell BK217.out 1).trans rfl, (blk_cell BK218.out 0).trans rfl, (blk_cell BK218.out 1).trans rfl⟩ (fun hHeld => ?_); refine with_tabW patchbayref2_cover.tab13 patchbayref2_cover.bits13 (fun HT_ HW_ => ?_)
             generalize w81.drew = w82 at HO_5 BK202 BK217 BK218 HB hHeld ⊢
             refine pure_ (i := 1) (N := some 40) (v := ?_) (a' := ?_) #[false, true, false, false, false, false, false, false] rfl rfl (any_of HT_.out (by kernel_rfl)) (fun _ _ _ h => h) (Or.inl ⟨by rfl, ?_⟩) ?_ ?_
             rotate_left
             ·intro w'
              go_simp
              with_reducible rfl
             rotate_left
             ·simp only [Act.put, List.setIfInBounds_toArray, List.set_cons_zero, List.set_cons_succ, i64_w, i32_w]
              rfl
             refine pure_ (i := 4) (N := some 43) (v := ?_) (a' := ?_) #[false, true, false, false, true, false, false, false] rfl rfl (any_of HT_.out (by kernel_rfl)) (fun _ _ _ h => h) (Or.inl ⟨by rfl, ?_⟩) ?_ ?_
             rotate_left
             ·intro w'
              go_simp
              with_reducible rfl
             rotate_left
             ·simp only [Act.put, List.setIfInBounds_toArray, List.set_cons_zero, List.set_cons_succ, i64_w, i32_w]
              rfl
             refine take_ (i := 0) (N := some 39) (v := ?_) (a' := ?_) #[true, true, false, false, true, false, false, false] rfl rfl (take_ofW HT_.out HW_.out (by kernel_rfl)) (fun _ _ _ h => h) (Or.inl ⟨by rfl, ?_⟩) hHeld ?_ ?_
             rotate_left
             ·rintro w' ⟨s0, s1, s2, s3⟩
              go_simp
              with_reducible rfl
             rotate_left
             ·simp only [Act.put, List.setIfInBounds_toArray, List.set_cons_zero, List.set_cons_succ, i64_w, i32_w]
              rfl
             refine take_ (i := 3) (N := some 42) (v := ?_) (a' := ?_) #[true, true, false, true, true, false, false, false] rfl rfl (take_ofW HT_.out HW_.out (by kernel_rfl)) (fun _ _ _ h => h) (Or.inl ⟨by rfl, ?_⟩) hHeld ?_ ?_
             rotate_left
             ·rintro w' ⟨s0, s1, s2, s3⟩
              go_simp
              with_reducible rfl
             rotate_left
             ·simp only [Act.put, List.setIfInBounds_toArray, List.set_cons_zero, List.set_cons_succ, i64_w, i32_w]
              rfl
             refine one_ (i := 2) (N := some 41) #[true, true, true, true, true, false, false, false] rfl rfl (one_of HT_.out (by kernel_rfl)) (by decide) (fun K hK => ?_)
             refine goes_ Tryd.func53 (by kernel_rfl) rfl #[.agg #[.int .u32 t213, .int .i64 t214], .slice Ao71 x5_1.length co71] (by rfl) rfl rfl (by (try simp only [List.map_toArray, List.map_cons, List.map_nil]); first | done | rfl | (simp only [List.length_drop, List.length_take]; rfl)) ?_
             with_reducible refine (ih k1 (by have := HK1.out; omega) t213 t214 _ _ x5_1 t219 _ ?side1 ?side2 A41.out).mono ?_
             (case side1 => repeat (first | exact (Kd.R_reads' HO_5.out).2.2 | (with_reducible refine Kd.C_alloc ?_ _) | (with_reducible refine Kd.C_drewN ?_ _) | (with_reducible refine Kd.C_drew ?_)))
             (case side2 => exact (Kd.R_reads' HO_5.out).2.1)
             rintro e w83 ⟨v220, rfl, ho0, hb⟩
             refine ⟨_, rfl, ?_⟩
             have n0_ := Aside0.mk (Kd.R_elder' (by (with_reducible repeat (first | apply Kd.R_alloc | apply Kd.R_drewN | apply Kd.R_drew)); exact HO_5.out) (Kd.R_base ho0) hb)
             have n1_ := Aside0.mk (Kd.R_lower (Kd.R_newB (Kd.R_newB (Kd.R_newB (Kd.R_new' ho0 (Kd.R_lt (by (with_reducible repeat (first | apply Kd.R_alloc | apply Kd.R_drewN | apply Kd.R_drew)); exact HO_5.out))) (g := gb202) (o := .cells #[.int .u32 a0_0, .int .i64 a0_1] 24 (0, 0)) (Fit.pk BK202.out)) (g := gb217) (o := .cells #[.int .u32 t213, .int .i64 t214] 24 (0, 0)) (Fit.pk BK217.out)) (g := gb218) (o := .cells #[.int .u32 t215, .int .i64 t216] 24 (0, 0)) (Fit.pk BK218.out)) (below_size (Fit.bl HB.out)))
             have n2_ := Aside0.mk (blk_below (g := gb202) (Fit.pk BK202.out) hb)
             have n3_ := Aside0.mk (blk_below (g := gb217) (Fit.pk BK217.out) hb)
             have n4_ := Aside0.mk (blk_below (g := gb218) (Fit.pk BK218.out) hb)
             have n5_ := Aside0.mk (below_step (Fit.bl HB.out) hb)
             clear HO_5
             clear BK202
             clear BK217
             clear BK218
             clear HB
             have HO_5 := n0_
             have HO221 := n1_
             have BK202 := n2_
             have BK217 := n3_
             have BK218 := n4_
             have HB := n5_
             clear n0_ n1_ n2_ n3_ n4_ n5_
             (try clear hb)
             (try clear hb2)
             (try clear hk)
             (try clear hi)
             (try clear ho0)
             refine hK.out _ _ ⟨(blk_cell BK217.out 0).trans rfl, (blk_cell BK217.out 1).trans rfl, (blk_cell BK218.out 0).trans rfl, (blk_cell BK218.out 1).trans rfl⟩ (fun hHeld => ?_)
             clear hK K
             refine norm_ (a' := ?_) ?_ ?_
             rotate_left
             ·show Act.put _ (some 41) _ = _
              simp only [Act.put, List.setIfInBounds_toArray, List.set_cons_zero, List.set_cons_succ, i64_w, i32_w]
              rfl
             refine one_ (i := 5) (N := some 44) #[true, true, true, true, true, true, false, false] rfl rfl (one_of HT_.out (by kernel_rfl)) (by decide) (fun K hK => ?_)
             refine goes_ Tryd.func53 (by kernel_rfl) rfl #[.agg #[.int .u32 t215, .int .i64 t216], .slice Ao71 x5_1.length co71] (by rfl) rfl rfl (by (try simp only [List.map_toArray, List.map_cons, List.map_nil]); first | done | rfl | (simp only [List.length_drop, List.length_take]; rfl)) ?_
             with_reducible refine (ih k1 (by have := HK1.out; omega) t215 t216 _ _ x5_1 t222 _ ?side1 ?side2 A42.out).mono ?_
             (case side1 => repeat (first | exact (Kd.R_reads' HO_5.out).2.2 | (with_reducible refine Kd.C_alloc ?_ _) | (with_reducible refine Kd.C_drewN ?_ _) | (with_reducible refine Kd.C_drew ?_)))
             (case side2 => exact (Kd.R_reads' HO_5.out).2.1)
             rintro e w84 ⟨v223, rfl, ho0, hb⟩
             refine ⟨_, rfl, ?_⟩
             have n0_ := Aside0.mk (Kd.R_elder' (by (with_reducible repeat (first | apply Kd.R_alloc | apply Kd.R_drewN | apply Kd.R_drew)); exact HO_5.out) (Kd.R_base ho0) hb)
             have n1_ := Aside0.mk (Kd.R_elder' (by (with_reducible repeat (first | apply Kd.R_alloc | apply Kd.R_drewN | apply Kd.R_drew)); exact HO221.out) (Kd.R_base ho0) hb)
             have n2_ := Aside0.mk (Kd.R_lower (Kd.R_newB (Kd.R_newB (Kd.R_newB (Kd.R_new' (Kd.R_new' ho0 (Kd.R_lt (by (with_reducible repeat (first | apply Kd.R_alloc | apply Kd.R_drewN | apply Kd.R_drew)); exact HO_5.out))) (Kd.R_lt (by (with_reducible repeat (first | apply Kd.R_alloc | apply Kd.R_drewN | apply Kd.R_drew)); exact HO221.out))) (g := gb202) (o := .cells #[.int .u32 a0_0, .int .i64 a0_1] 24 (0, 0)) (Fit.pk BK202.out)) (g := gb217) (o := .cells #[.int .u32 t213, .int .i64 t214] 24 (0, 0)) (Fit.pk BK217.out)) (g := gb218) (o := .cells #[.int .u32 t215, .int .i64 t216] 24 (0, 0)) (Fit.pk BK218.out)) (below_size (Fit.bl HB.out)))
             have n3_ := Aside0.mk (blk_below (g := gb202) (Fit.pk BK202.out) hb)
             have n4_ := Aside0.mk (blk_below (g := gb217) (Fit.pk BK217.out) hb)
             have n5_ := Aside0.mk (blk_below (g := gb218) (Fit.pk BK218.out) hb)
             have n6_ := Aside0.mk (below_step (Fit.bl HB.out) hb)
             clear HO_5
             clear HO221
             clear BK202
             clear BK217
             clear BK218
             clear HB
             have HO_5 := n0_
             have HO221 := n1_
             have HO224 := n2_
             have BK202 := n3_
             have BK217 := n4_
             have BK218 := n5_
             have HB := n6_
             clear n0_ n1_ n2_ n3_ n4_ n5_ n6_
             (try clear hb)
             (try clear hb2)
             (try clear hk)
             (try clear hi)
             (try clear ho0)
             refine hK.out _ _ ⟨(blk_cell BK217.out 0).trans rfl, (blk_cell BK217.out 1).trans rfl, (blk_cell BK218.out 0).trans rfl, (blk_cell BK218.out 1).trans rfl⟩ (fun hHeld => ?_)
             clear hK K
             refine norm_ (a' := ?_) ?_ ?_
             rotate_left
             ·show Act.put _ (some 44) _ = _
              simp only [Act.put, List.setIfInBounds_toArray, List.set_cons_zero, List.set_cons_succ, i64_w, i32_w]
              rfl
             refine pure_ (i := 6) (N := some 10) (v := ?_) (a' := ?_) #[true, true, true, true, true, true, true, false] rfl rfl (any_of HT_.out (by kernel_rfl)) (fun _ _ _ h => h) (Or.inl ⟨by rfl, ?_⟩) ?_ ?_
             rotate_left
             ·intro w'
              go_simp
              with_reducible rfl
             rotate_left
             ·simp only [Act.put, List.setIfInBounds_toArray, List.set_cons_zero, List.set_cons_succ, i64_w, i32_w]
              rfl
             refine pure_ (i := 7) (N := some 11) (v := ?_) (a' := ?_) #[true, true, true, true, true, true, true, true] rfl rfl (any_of HT_.out (by kernel_rfl)) (fun _ _ _ h => h) (Or.inl ⟨by rfl, ?_⟩) ?_ ?_
             rotate_left
             ·intro w'
              go_simp
              with_reducible rfl
             rotate_left
             ·simp only [Act.put, List.setIfInBounds_toArray, List.set_cons_zero, List.set_cons_succ, i64_w, i32_w]
              rfl
             refine done_ (done_of HT_.out (by kernel_rfl)) ?_
             try go_wp2
             have n0_ := Aside0.mk (Kd.R_drew HO_5.out)
             have n1_ := Aside0.mk (Kd.R_drew HO221.out)
             have n2_ := Aside0.mk (Kd.R_drew HO224.out)
             have n3_ := Aside0.mk (blk_drew BK202.out)
             have n4_ := Aside0.mk (blk_drew BK217.out)
             have n5_ := Aside0.mk (blk_drew BK218.out)
             have n6_ := Aside0.mk (below_drew1 HB.out)
             clear HO_5
             clear HO221
             clear HO224
             clear BK202
             clear BK217
             clear BK218
             clear HB
             have HO_5 := n0_
             have HO221 := n1_
             have HO224 := n2_
             have BK202 := n3_
             have BK217 := n4_
             have BK218 := n5_
             have HB := n6_
             clear n0_ n1_ n2_ n3_ n4_ n5_ n6_
             obtain ⟨Ao86, co86, eo86⟩ := Kd.R_slice HO221.out
             (first | subst eo86 | (injection eo86 with f1_ f2_ f3_; have f4_ := f1_.symm; have f5_ := f3_.symm; clear f1_ f2_ f3_; subst f4_; subst f5_))
             obtain ⟨Ao87, co87, eo87⟩ := Kd.R_slice HO224.out
             (first | subst eo87 | (injection eo87 with f1_ f2_ f3_; have f4_ := f1_.symm; have f5_ := f3_.symm; clear f1_ f2_ f3_; subst f4_; subst f5_))
             have p225 : 0 ≤ (0 : Int) := (by omega)
             have q225 : 0 < (t219.length : Int) := of_decide_eq_true (by first | (with_reducible assumption) | assumption)
             obtain ⟨ad225, e225, hx225_0, hx225_1⟩ := at_T24 (Kd.R_reads' HO221.out).2.2 0 p225 q225
             cases e225
             have qi225 : (0 < t219.length) = True := eq_true (by omega)
             (try rw [show ((0 : Int)).toNat = 0 from rfl] at hx225_0)
             (try rw [show 0 * 2 = 0 from rfl] at hx225_0)
             (try rw [Addr.add_zero'] at hx225_0)
             (try rw [show ((0 : Int)).toNat = 0 from rfl] at hx225_1)
             (try rw [show 0 * 2 = 0 from rfl] at hx225_1)
             (try rw [Addr.add_zero'] at hx225_1)
             replace p225 := eq_true p225
             replace q225 := eq_true q225
             have p226 : 0 ≤ (0 : Int) := (by omega)
             have q226 : 0 < (t222.length : Int) := of_decide_eq_true (by first | (with_reducible assumption) | assumption)
             obtain ⟨ad226, e226, hx226_0, hx226_1⟩ := at_T24 (Kd.R_reads' HO224.out).2.2 0 p226 q226
             cases e226
             have qi226 : (0 < t222.length) = True := eq_true (by omega)
             (try rw [show ((0 : Int)).toNat = 0 from rfl] at hx226_0)
             (try rw [show 0 * 2 = 0 from rfl] at hx226_0)
             (try rw [Addr.add_zero'] at hx226_0)
             (try rw [show ((0 : Int)).toNat = 0 from rfl] at hx226_1)
             (try rw [show 0 * 2 = 0 from rfl] at hx226_1)
             (try rw [Addr.add_zero'] at hx226_1)
             replace p226 := eq_true p226
             replace q226 := eq_true q226
             refine start_ (n := 22) (S := fun w' => w'.cell? ⟨gb217, 0, none⟩ = some (.int .u32 t213) ∧ w'.cell? ⟨gb217, 1, none⟩ = some (.int .i64 t214) ∧ w'.cell? ⟨gb218, 0, none⟩ = some (.int .u32 t215) ∧ w'.cell? ⟨gb218, 1, none⟩ = some (.int .i64 t216) ∧ w'.cell? ad225 = some (.int .u32 ((rd_T24 t219 0).f0)) ∧ w'.cell? ⟨ad225.block, ad225.off + 1, none⟩ = some (.int .i64 ((rd_T24 t219 0).f1)) ∧ w'.cell? ad226 = some (.int .u32 ((rd_T24 t222 0).f0)) ∧ w'.cell? ⟨ad226.block, ad226.off + 1, none⟩ = some (.int .i64 ((rd_T24 t222 0).f1))) (ds := []) #[false, false, false, false, false, false, false, false, false, false, false, false, false, false, false, false, false, false, false, false, false, false] (by kernel_rfl) rfl rfl ⟨(blk_cell BK217.out 0).trans rfl, (blk_cell BK217.out 1).trans rfl, (blk_cell BK218.out 0).trans rfl, (blk_cell BK218.out 1).trans rfl, hx225_0, hx225_1, hx226_0, hx226_1⟩ (fun hHeld => ?_); refine with_tabW patchbayref2_cover.tab14 patchbayref2_cover.bits14 (fun HT_ HW_ => ?_)
             generalize w84.drew = w85 at HO_5 HO221 HO224 BK202 BK217 BK218 HB hx225_0 hx225_1 hx226_0 hx226_1 hHeld ⊢
             refine pure_ (i := 0) (N := some 45) (v := ?_) (a' := ?_) #[true, false, false, false, false, false, false, false, false, false, false, false, false, false, false, false, false, false, false, false, false, false] rfl rfl (any_of HT_.out (by kernel_rfl)) (fun _ _ _ h => h) (Or.inl ⟨by rfl, ?_⟩) ?_ ?_
             rotate_left
             ·intro w'
              go_simp
              with_reducible rfl
             rotate_left
             ·simp only [Act.put, List.setIfInBounds_toArray, List.set_cons_zero, List.set_cons_succ, i64_w, i32_w]
              rfl
             refine pure_ (i := 1) (N := some 46) (v := ?_) (a' := ?_) #[true, true, false, false, false, false, false, false, false, false, false, false, false, false, false, false, false, false, false, false, false, false] rfl rfl (any_of HT_.out (by kernel_rfl)) (fun _ _ _ h => h) (Or.inl ⟨by rfl, ?_⟩) ?_ ?_
             rotate_left
             ·intro w'
              go_simp
              with_reducible rfl
             rotate_left
             ·simp only [Act.put, List.setIfInBounds_toArray, List.set_cons_zero, List.set_cons_succ, i64_w, i32_w]
              rfl
             refine pure_ (i := 2) (N := some 47) (v := ?_) (a' := ?_) #[true, true, true, false, false, false, false, false, false, false, false, false, false, false, false, false, false, false, false, false, false, false] rfl rfl (any_of HT_.out (by kernel_rfl)) (fun _ _ _ h => h) (Or.inl ⟨by rfl, ?_⟩) ?_ ?_
             rotate_left
             ·intro w'
              go_simp
              with_reducible rfl
             rotate_left
             ·simp only [Act.put, List.setIfInBounds_toArray, List.set_cons_zero, List.set_cons_succ, i64_w, i32_w]
              rfl
             refine pure_ (i := 3) (N := some 48) (v := ?_) (a' := ?_) #[true, true, true, true, false, false, false, false, false, false, false, false, false, false, false, false, false, false, false, false, false, false] rfl rfl (any_of HT_.out (by kernel_rfl)) (fun _ _ _ h => h) (Or.inl ⟨by rfl, ?_⟩) ?_ ?_
             rotate_left
             ·intro w'
              go_simp
              with_reducible rfl
             rotate_left
             ·simp only [Act.put, List.setIfInBounds_toArray, List.set_cons_zero, List.set_cons_succ, i64_w, i32_w]
              rfl
             refine pure_ (i := 4) (N := some 49) (v := ?_) (a' := ?_) #[true, true, true, true, true, false, false, false, false, false, false, false, false, false, false, false, false, false, false, false, false, false] rfl rfl (any_of HT_.out (by kernel_rfl)) (fun _ _ _ h => h) (Or.inl ⟨by rfl, ?_⟩) ?_ ?_
             rotate_left
             ·intro w'
              go_simp
              with_reducible rfl
             rotate_left
             ·simp only [Act.put, List.setIfInBounds_toArray, List.set_cons_zero, List.set_cons_succ, i64_w, i32_w]
              rfl
             refine pure_ (i := 5) (N := some 50) (v := ?_) (a' := ?_) #[true, true, true, true, true, true, false, false, false, false, false, false, false, false, false, false, false, false, false, false, false, false] rfl rfl (any_of HT_.out (by kernel_rfl)) (fun _ _ _ h => h) (Or.inl ⟨by rfl, ?_⟩) ?_ ?_
             rotate_left
             ·intro w'
              go_simp
              with_reducible rfl
             rotate_left
             ·simp only [Act.put, List.setIfInBounds_toArray, List.set_cons_zero, List.set_cons_succ, i64_w, i32_w]
              rfl
             refine pure_ (i := 6) (N := some 51) (v := ?_) (a' := ?_) #[true, true, true, true, true, true, true, false, false, false, false, false, false, false, false, false, false, false, false, false, false, false] rfl rfl (any_of HT_.out (by kernel_rfl)) (fun _ _ _ h => h) (Or.inl ⟨by rfl, ?_⟩) ?_ ?_
             rotate_left
             ·intro w'
              go_simp
              with_reducible rfl
             rotate_left
             ·simp only [Act.put, List.setIfInBounds_toArray, List.set_cons_zero, List.set_cons_succ, i64_w, i32_w]
              rfl
             refine pure_ (i := 7) (N := some 52) (v := ?_) (a' := ?_) #[true, true, true, true, true, true, true, true, false, false, false, false, false, false, false, false, false, false, false, false, false, false] rfl rfl (any_of HT_.out (by kernel_rfl)) (fun _ _ _ h => h) (Or.inl ⟨by rfl, ?_⟩) ?_ ?_
             rotate_left
             ·intro w'
              go_simp
              with_reducible rfl
             rotate_left
             ·simp only [Act.put, List.setIfInBounds_toArray, List.set_cons_zero, List.set_cons_succ, i64_w, i32_w]
              rfl
             refine pure_ (i := 8) (N := some 53) (v := ?_) (a' := ?_) #[true, true, true, true, true, true, true, true, true, false, false, false, false, false, false, false, false, false, false, false, false, false] rfl rfl (any_of HT_.out (by kernel_rfl)) (fun _ _ _ h => h) (Or.inl ⟨by rfl, ?_⟩) ?_ ?_
             rotate_left
             ·intro w'
              go_simp
              with_reducible rfl
             rotate_left
             ·simp only [Act.put, List.setIfInBounds_toArray, List.set_cons_zero, List.set_cons_succ, i64_w, i32_w]
              rfl
             refine pure_ (i := 9) (N := some 54) (v := ?_) (a' := ?_) #[true, true, true, true, true, true, true, true, true, true, false, false, false, false, false, false, false, false, false, false, false, false] rfl rfl (any_of HT_.out (by kernel_rfl)) (fun _ _ _ h => h) (Or.inl ⟨by rfl, ?_⟩) ?_ ?_
             rotate_left
             ·intro w'
              go_simp
              with_reducible rfl
             rotate_left
             ·simp only [Act.put, List.setIfInBounds_toArray, List.set_cons_zero, List.set_cons_succ, i64_w, i32_w]
              rfl
             refine pure_ (i := 10) (N := some 55) (v := ?_) (a' := ?_) #[true, true, true, true, true, true, true, true, true, true, true, false, false, false, false, false, false, false, false, false, false, false] rfl rfl (any_of HT_.out (by kernel_rfl)) (fun _ _ _ h => h) (Or.inl ⟨by rfl, ?_⟩) ?_ ?_
             rotate_left
             ·intro w'
              go_simp
              with_reducible rfl
             rotate_left
             ·simp only [Act.put, List.setIfInBounds_toArray, List.set_cons_zero, List.set_cons_succ, i64_w, i32_w]
              rfl
             refine take_ (i := 11) (N := some 56) (v := ?_) (a' := ?_) #[true, true, true, true, true, true, true, true, true, true, true, true, false, false, false, false, false, false, false, false, false, false] rfl rfl (take_ofW HT_.out HW_.out (by kernel_rfl)) (fun _ _ _ h => h) (Or.inl ⟨by rfl, ?_⟩) hHeld ?_ ?_
             rotate_left
             ·rintro w' ⟨s0, s1, s2, s3, s4, s5, s6, s7⟩
              go_simp
              with_reducible rfl
             rotate_left
             ·simp only [Act.put, List.setIfInBounds_toArray, List.set_cons_zero, List.set_cons_succ, i64_w, i32_w]
              rfl
             refine take_ (i := 12) (N := some 57) (v := ?_) (a' := ?_) #[true, true, true, true, true, true, true, true, true, true, true, true, true, false, false, false, false, false, false, false, false, false] rfl rfl (take_ofW HT_.out HW_.out (by kernel_rfl)) (fun _ _ _ h => h) (Or.inl ⟨by rfl, ?_⟩) hHeld ?_ ?_
             rotate_left
             ·rintro w' ⟨s0, s1, s2, s3, s4, s5, s6, s7⟩
              go_simp
              with_reducible rfl
             rotate_left
             ·simp only [Act.put, List.setIfInBounds_toArray, List.set_cons_zero, List.set_cons_succ, i64_w, i32_w]
              rfl
             refine pure_ (i := 13) (N := some 58) (v := ?_) (a' := ?_) #[true, true, true, true, true, true, true, true, true, true, true, true, true, true, false, false, false, false, false, false, false, false] rfl rfl (any_of HT_.out (by kernel_rfl)) (fun _ _ _ h => h) (Or.inl ⟨by rfl, ?_⟩) ?_ ?_
             rotate_left
             ·intro w'
              go_simp
              with_reducible rfl
             rotate_left
             ·simp only [Act.put, List.setIfInBounds_toArray, List.set_cons_zero, List.set_cons_succ, i64_w, i32_w]
              rfl
             refine pure_ (i := 14) (N := some 59) (v := ?_) (a' := ?_) #[true, true, true, true, true, true, true, true, true, true, true, true, true, true, true, false, false, false, false, false, false, false] rfl rfl (any_of HT_.out (by kernel_rfl)) (fun _ _ _ h => h) (Or.inl ⟨by rfl, ?_⟩) ?_ ?_
             rotate_left
             ·intro w'
              go_simp
              with_reducible rfl
             rotate_left
             ·simp only [Act.put, List.setIfInBounds_toArray, List.set_cons_zero, List.set_cons_succ, i64_w, i32_w]
              rfl
             refine pure_ (i := 15) (N := some 60) (v := ?_) (a' := ?_) #[true, true, true, true, true, true, true, true, true, true, true, true, true, true, true, true, false, false, false, false, false, false] rfl rfl (any_of HT_.out (by kernel_rfl)) (fun _ _ _ h => h) (Or.inl ⟨by rfl, ?_⟩) ?_ ?_
             rotate_left
             ·intro w'
              go_simp
              with_reducible rfl
             rotate_left
             ·simp only [Act.put, List.setIfInBounds_toArray, List.set_cons_zero, List.set_cons_succ, i64_w, i32_w]
              rfl
             refine pure_ (i := 16) (N := some 61) (v := ?_) (a' := ?_) #[true, true, true, true, true, true, true, true, true, true, true, true, true, true, true, true, true, false, false, false, false, false] rfl rfl (any_of HT_.out (by kernel_rfl)) (fun _ _ _ h => h) (Or.inl ⟨by rfl, ?_⟩) ?_ ?_
             rotate_left
             ·intro w'
              go_simp
              with_reducible rfl
             rotate_left
             ·simp only [Act.put, List.setIfInBounds_toArray, List.set_cons_zero, List.set_cons_succ, i64_w, i32_w]
              rfl
             refine pure_ (i := 17) (N := some 62) (v := ?_) (a' := ?_) #[true, true, true, true, true, true, true, true, true, true, true, true, true, true, true, true, true, true, false, false, false, false] rfl rfl (any_of HT_.out (by kernel_rfl)) (fun _ _ _ h => h) (Or.inl ⟨by rfl, ?_⟩) ?_ ?_
             rotate_left
             ·intro w'
              go_simp
              with_reducible rfl
             rotate_left
             ·simp only [Act.put, List.setIfInBounds_toArray, List.set_cons_zero, List.set_cons_succ, i64_w, i32_w]
              rfl
             refine take_ (i := 18) (N := some 63) (v := ?_) (a' := ?_) #[true, true, true, true, true, true, true, true, true, true, true, true, true, true, true, true, true, true, true, false, false, false] rfl rfl (take_ofW HT_.out HW_.out (by kernel_rfl)) (fun _ _ _ h => h) (Or.inl ⟨by rfl, ?_⟩) hHeld ?_ ?_
             rotate_left
             ·rintro w' ⟨s0, s1, s2, s3, s4, s5, s6, s7⟩
              go_simp
              with_reducible rfl
             rotate_left
             ·simp only [Act.put, List.setIfInBounds_toArray, List.set_cons_zero, List.set_cons_succ, i64_w, i32_w]
              rfl
             refine take_ (i := 19) (N := some 64) (v := ?_) (a' := ?_) #[true, true, true, true, true, true, true, true, true, true, true, true, true, true, true, true, true, true, true, true, false, false] rfl rfl (take_ofW HT_.out HW_.out (by kernel_rfl)) (fun _ _ _ h => h) (Or.inl ⟨by rfl, ?_⟩) hHeld ?_ ?_
             rotate_left
             ·rintro w' ⟨s0, s1, s2, s3, s4, s5, s6, s7⟩
              go_simp
              with_reducible rfl
             rotate_left
             ·simp only [Act.put, List.setIfInBounds_toArray, List.set_cons_zero, List.set_cons_succ, i64_w, i32_w]
              rfl
             refine pure_ (i := 20) (N := some 65) (v := ?_) (a' := ?_) #[true, true, true, true, true, true, true, true, true, true, true, true, true, true, true, true, true, true, true, true, true, false] rfl rfl (any_of HT_.out (by kernel_rfl)) (fun _ _ _ h => h) (Or.inl ⟨by rfl, ?_⟩) ?_ ?_
             rotate_left
             ·intro w'
              go_simp
              with_reducible rfl
             rotate_left
             ·simp only [Act.put, List.setIfInBounds_toArray, List.set_cons_zero, List.set_cons_succ, i64_w, i32_w]
              rfl
             refine pure_ (i := 21) (N := some 66) (v := ?_) (a' := ?_) #[true, true, true, true, true, true, true, true, true, true, true, true, true, true, true, true, true, true, true, true, true, true] rfl rfl (any_of HT_.out (by kernel_rfl)) (fun _ _ _ h => h) (Or.inl ⟨by rfl, ?_⟩) ?_ ?_
             rotate_left
             ·intro w'
              go_simp
              with_reducible rfl
             rotate_left
             ·simp only [Act.put, List.setIfInBounds_toArray, List.set_cons_zero, List.set_cons_succ, i64_w, i32_w]
              rfl
             refine done_ (done_of HT_.out (by kernel_rfl)) ?_
             try go_wp2_with (first | ((with_reducible refine gate_dst (N := 69) rfl ?_); (try (refine gate_guard (by rfl) ?_; dsimp only)); refine Kd.R_lit k24 _ 24 ?hg (N := 69) ?hd (xs := ([] : List (S24))) (inner := []) (ok := fun _ => True) (okp := fun _ => True) ?hr ?hp (fun _ hk => hk) trivial (Below.refl _ _) (Nat.le_refl _) (by simp) ?_; (case hd => rfl); (case hg => rfl); (case hr => first | (go_simp; done) | (go_simp; rfl)); (case hp => exact (Reps.none _ _)); intro v231 w88 ho89 hb hg_ hnew_; clear hg_ hnew_; (first | rw [← Ny230.out] at ho89 | (simp only [Int.reduceToNat] at ho89; rw [← Ny230.out] at ho89)); have n0_ := Aside0.mk (Kd.R_elder' (by (with_reducible repeat (first | apply Kd.R_alloc | apply Kd.R_drewN | apply Kd.R_drew)); exact HO_5.out) (Kd.R_base ho89) hb); have n1_ := Aside0.mk (Kd.R_elder' (by (with_reducible repeat (first | apply Kd.R_alloc | apply Kd.R_drewN | apply Kd.R_drew)); exact HO221.out) (Kd.R_base ho89) hb); have n2_ := Aside0.mk (Kd.R_elder' (by (with_reducible repeat (first | apply Kd.R_alloc | apply Kd.R_drewN | apply Kd.R_drew)); exact HO224.out) (Kd.R_base ho89) hb); have n3_ := Aside0.mk (Kd.R_lower (Kd.R_newB (Kd.R_newB (Kd.R_newB (Kd.R_new' (Kd.R_new' (Kd.R_new' ho89 (Kd.R_lt (by (with_reducible repeat (first | apply Kd.R_alloc | apply Kd.R_drewN | apply Kd.R_drew)); exact HO_5.out))) (Kd.R_lt (by (with_reducible repeat (first | apply Kd.R_alloc | apply Kd.R_drewN | apply Kd.R_drew)); exact HO221.out))) (Kd.R_lt (by (with_reducible repeat (first | apply Kd.R_alloc | apply Kd.R_drewN | apply Kd.R_drew)); exact HO224.out))) (g := gb202) (o := .cells #[.int .u32 a0_0, .int .i64 a0_1] 24 (0, 0)) (Fit.pk BK202.out)) (g := gb217) (o := .cells #[.int .u32 t213, .int .i64 t214] 24 (0, 0)) (Fit.pk BK217.out)) (g := gb218) (o := .cells #[.int .u32 t215, .int .i64 t216] 24 (0, 0)) (Fit.pk BK218.out)) (below_size (Fit.bl HB.out))); have n4_ := Aside0.mk (blk_below (g := gb202) (Fit.pk BK202.out) hb); have n5_ := Aside0.mk (blk_below (g := gb217) (Fit.pk BK217.out) hb); have n6_ := Aside0.mk (blk_below (g := gb218) (Fit.pk BK218.out) hb); have n7_ := Aside0.mk (below_step (Fit.bl HB.out) hb); clear HO_5; clear HO221; clear HO224; clear BK202; clear BK217; clear BK218; clear HB; have HO_5 := n0_; have HO221 := n1_; have HO224 := n2_; have HO232 := n3_; have BK202 := n4_; have BK217 := n5_; have BK218 := n6_; have HB := n7_; clear n0_ n1_ n2_ n3_ n4_ n5_ n6_ n7_; clear hb ho89) | ((with_reducible refine gate_builtin (b := .append) (xs := #[.tmp 69, .tmp 70]) rfl ?_); (try (refine gate_guard (by rfl) ?_; dsimp only)); at_builtin; refine Kd.R_append_rows k24 (w0 := w) w.heap.size rfl (.tmp 69) (.tmp 70) 32 24 (.agg #[(.int .u32 0), (.int .i64 0)]) 16 rfl Tryd.underlying32 info24 rfl (by decide) (by omega) v231 y230 t219 _ _ _ (fun k_ => some k_ ≠ (.slice Ao71 x5_1.length co71 : Value).ownBlock ∧ some k_ ≠ (.slice (some ad225) t219.length co86 : Value).ownBlock ∧ some k_ ≠ (.slice (some ad226) t222.length co87 : Value).ownBlock ∧ k_ ≠ gb202 ∧ k_ ≠ gb217 ∧ k_ ≠ gb218) (fun _ => False) rfl rfl ?aO ?aR (fun _ _ h => h) (fun _ h => h.elim) ?aF ?aB ?aS ?aL ?_; (case aR => repeat (first | exact (Kd.R_reads' HO221.out).2.2 | (with_reducible refine Kd.C_alloc ?_ _) | (with_reducible refine Kd.C_drewN ?_ _) | (with_reducible refine Kd.C_drew ?_))); (case aB => exact (Fit.bl HB.out)); (case aF => exact (fun k_ hk => ⟨Kd.fresh' (Kd.R_lt (by (with_reducible repeat (first | apply Kd.R_alloc | apply Kd.R_drewN | apply Kd.R_drew)); exact HO_5.out)) k_ hk, Kd.fresh' (Kd.R_lt (by (with_reducible repeat (first | apply Kd.R_alloc | apply Kd.R_drewN | apply Kd.R_drew)); exact HO221.out)) k_ hk, Kd.fresh' (Kd.R_lt (by (with_reducible repeat (first | apply Kd.R_alloc | apply Kd.R_drewN | apply Kd.R_drew)); exact HO224.out)) k_ hk, Kd.freshB (g := gb202) (o := .cells #[.int .u32 a0_0, .int .i64 a0_1] 24 (0, 0)) (Fit.pk BK202.out) k_ hk, Kd.freshB (g := gb217) (o := .cells #[.int .u32 t213, .int .i64 t214] 24 (0, 0)) (Fit.pk BK217.out) k_ hk, Kd.freshB (g := gb218) (o := .cells #[.int .u32 t215, .int .i64 t216] 24 (0, 0)) (Fit.pk BK218.out) k_ hk⟩)); (case aO => exact (by (with_reducible repeat (first | apply Kd.R_alloc | apply Kd.R_drewN | apply Kd.R_drew)); exact Kd.R_mono HO232.out (fun _ hk => ⟨hk.1.1.1.1.1.2, ⟨hk.1.1.1.1.2, ⟨hk.1.1.1.2, ⟨hk.1.1.2, ⟨hk.1.2, hk.2⟩⟩⟩⟩⟩))); (case aS => exact (below_size (Fit.bl HB.out))); (case aL => have := LMc69.out; omega); intro v234 w90 ho hb hg hat; rw [← Ny233.out] at ho; have n0_ := Aside0.mk (Kd.R_after (ok := (fun k_ => some k_ ≠ (.slice (some ad225) t219.length co86 : Value).ownBlock ∧ some k_ ≠ (.slice (some ad226) t222.length co87 : Value).ownBlock ∧ k_ ≠ gb202 ∧ k_ ≠ gb217 ∧ k_ ≠ gb218)) (by (with_reducible repeat (first | apply Kd.R_alloc | apply Kd.R_drewN | apply Kd.R_drew)); exact Kd.R_mono HO_5.out (fun _ hk => ⟨⟨hk.1.1.2, ⟨hk.1.2, ⟨hk.1.1.1.1, ⟨hk.1.1.1.2.1, hk.1.1.1.2.2⟩⟩⟩⟩, hk.2⟩)) hg hat); have n1_ := Aside0.mk (blk_grown (g := gb202) (o := .cells #[.int .u32 a0_0, .int .i64 a0_1] 24 (0, 0)) (Fit.pk BK202.out) hg (Kd.R_away HO232.out (fun _ hk => hk.1.1.2))); have n2_ := Aside0.mk (blk_grown (g := gb217) (o := .cells #[.int .u32 t213, .int .i64 t214] 24 (0, 0)) (Fit.pk BK217.out) hg (Kd.R_away HO232.out (fun _ hk => hk.1.2))); have n3_ := Aside0.mk (blk_grown (g := gb218) (o := .cells #[.int .u32 t215, .int .i64 t216] 24 (0, 0)) (Fit.pk BK218.out) hg (Kd.R_away HO232.out (fun _ hk => hk.2))); have n4_ := Aside0.mk (Kd.R_after (ok := (fun k_ => some k_ ≠ (.slice Ao71 x5_1.length co71 : Value).ownBlock ∧ some k_ ≠ (.slice (some ad226) t222.length co87 : Value).ownBlock ∧ k_ ≠ gb202 ∧ k_ ≠ gb217 ∧ k_ ≠ gb218)) (by (with_reducible repeat (first | apply Kd.R_alloc | apply Kd.R_drewN | apply Kd.R_drew)); exact Kd.R_mono HO221.out (fun _ hk => ⟨⟨hk.1.1.1.1.1.2, ⟨hk.1.2, ⟨hk.1.1.1.1.2, ⟨hk.1.1.1.2, hk.1.1.2⟩⟩⟩⟩, hk.2⟩)) hg hat); have n5_ := Aside0.mk (Kd.R_after (ok := (fun k_ => some k_ ≠ (.slice Ao71 x5_1.length co71 : Value).ownBlock ∧ some k_ ≠ (.slice (some ad225) t219.length co86 : Value).ownBlock ∧ k_ ≠ gb202 ∧ k_ ≠ gb217 ∧ k_ ≠ gb218)) (by (with_reducible repeat (first | apply Kd.R_alloc | apply Kd.R_drewN | apply Kd.R_drew)); exact Kd.R_mono HO224.out (fun _ hk => ⟨⟨hk.1.1.1.1.1.2, ⟨hk.1.1.1.1.2, ⟨hk.1.1.1.2, ⟨hk.1.1.2, hk.1.2⟩⟩⟩⟩, hk.2⟩)) hg hat); have n6_ := Aside0.mk (hb); have n7_ := Aside0.mk (ho); clear HO_5; clear BK202; clear BK217; clear BK218; clear HO221; clear HO224; clear HB; clear HO232; have HO_5 := n0_; have BK202 := n1_; have BK217 := n2_; have BK218 := n3_; have HO221 := n4_; have HO224 := n5_; have HB := n6_; have HO235 := n7_; clear n0_ n1_ n2_ n3_ n4_ n5_ n6_ n7_; clear ho hb hg hat) | ((with_reducible refine gate_builtin (b := .append) (xs := #[.tmp 71, .tmp 72]) rfl ?_); (try (refine gate_guard (by rfl) ?_; dsimp only)); at_builtin; refine Kd.R_append_rows k24 (w0 := w) w.heap.size rfl (.tmp 71) (.tmp 72) 32 24 (.agg #[(.int .u32 0), (.int .i64 0)]) 16 rfl Tryd.underlying32 info24 rfl (by decide) (by omega) v234 y233 t222 _ _ _ (fun k_ => some k_ ≠ (.slice Ao71 x5_1.length co71 : Value).ownBlock ∧ some k_ ≠ (.slice (some ad225) t219.length co86 : Value).ownBlock ∧ some k_ ≠ (.slice (some ad226) t222.length co87 : Value).ownBlock ∧ k_ ≠ gb202 ∧ k_ ≠ gb217 ∧ k_ ≠ gb218) (fun _ => False) rfl rfl ?aO ?aR (fun _ _ h => h) (fun _ h => h.elim) ?aF ?aB ?aS ?aL ?_; (case aR => repeat (first | exact (Kd.R_reads' HO224.out).2.2 | (with_reducible refine Kd.C_alloc ?_ _) | (with_reducible refine Kd.C_drewN ?_ _) | (with_reducible refine Kd.C_drew ?_))); (case aB => exact (Fit.bl HB.out)); (case aF => exact (fun k_ hk => ⟨Kd.fresh' (Kd.R_lt (by (with_reducible repeat (first | apply Kd.R_alloc | apply Kd.R_drewN | apply Kd.R_drew)); exact HO_5.out)) k_ hk, Kd.fresh' (Kd.R_lt (by (with_reducible repeat (first | apply Kd.R_alloc | apply Kd.R_drewN | apply Kd.R_drew)); exact HO221.out)) k_ hk, Kd.fresh' (Kd.R_lt (by (with_reducible repeat (first | apply Kd.R_alloc | apply Kd.R_drewN | apply Kd.R_drew)); exact HO224.out)) k_ hk, Kd.freshB (g := gb202) (o := .cells #[.int .u32 a0_0, .int .i64 a0_1] 24 (0, 0)) (Fit.pk BK202.out) k_ hk, Kd.freshB (g := gb217) (o := .cells #[.int .u32 t213, .int .i64 t214] 24 (0, 0)) (Fit.pk BK217.out) k_ hk, Kd.freshB (g := gb218) (o := .cells #[.int .u32 t215, .int .i64 t216] 24 (0, 0)) (Fit.pk BK218.out) k_ hk⟩)); (case aO => exact (by (with_reducible repeat (first | apply Kd.R_alloc | apply Kd.R_drewN | apply Kd.R_drew)); exact HO235.out)); (case aS => exact (below_size (Fit.bl HB.out))); (case aL => have := LMc70.out; omega); intro v237 w91 ho hb hg hat; rw [← Ny236.out] at ho; have n0_ := Aside0.mk (Kd.R_after (ok := (fun k_ => some k_ ≠ (.slice (some ad225) t219.length co86 : Value).ownBlock ∧ some k_ ≠ (.slice (some ad226) t222.length co87 : Value).ownBlock ∧ k_ ≠ gb202 ∧ k_ ≠ gb217 ∧ k_ ≠ gb218)) (by (with_reducible repeat (first | apply Kd.R_alloc | apply Kd.R_drewN | apply Kd.R_drew)); exact HO_5.out) hg hat); have n1_ := Aside0.mk (blk_grown (g := gb202) (o := .cells #[.int .u32 a0_0, .int .i64 a0_1] 24 (0, 0)) (Fit.pk BK202.out) hg (Kd.R_away HO235.out (fun _ hk => hk.2.2.2.1))); have n2_ := Aside0.mk (blk_grown (g := gb217) (o := .cells #[.int .u32 t213, .int .i64 t214] 24 (0, 0)) (Fit.pk BK217.out) hg (Kd.R_away HO235.out (fun _ hk => hk.2.2.2.2.1))); have n3_ := Aside0.mk (blk_grown (g := gb218) (o := .cells #[.int .u32 t215, .int .i64 t216] 24 (0, 0)) (Fit.pk BK218.out) hg (Kd.R_away HO235.out (fun _ hk => hk.2.2.2.2.2))); have n4_ := Aside0.mk (Kd.R_after (ok := (fun k_ => some k_ ≠ (.slice Ao71 x5_1.length co71 : Value).ownBlock ∧ some k_ ≠ (.slice (some ad226) t222.length co87 : Value).ownBlock ∧ k_ ≠ gb202 ∧ k_ ≠ gb217 ∧ k_ ≠ gb218)) (by (with_reducible repeat (first | apply Kd.R_alloc | apply Kd.R_drewN | apply Kd.R_drew)); exact HO221.out) hg hat); have n5_ := Aside0.mk (Kd.R_after (ok := (fun k_ => some k_ ≠ (.slice Ao71 x5_1.length co71 : Value).ownBlock ∧ some k_ ≠ (.slice (some ad225) t219.length co86 : Value).ownBlock ∧ k_ ≠ gb202 ∧ k_ ≠ gb217 ∧ k_ ≠ gb218)) (by (with_reducible repeat (first | apply Kd.R_alloc | apply Kd.R_drewN | apply Kd.R_drew)); exact HO224.out) hg hat); have n6_ := Aside0.mk (hb); have n7_ := Aside0.mk (ho); clear HO_5; clear BK202; clear BK217; clear BK218; clear HO221; clear HO224; clear HB; clear HO235; have HO_5 := n0_; have BK202 := n1_; have BK217 := n2_; have BK218 := n3_; have HO221 := n4_; have HO224 := n5_; have HB := n6_; have HO238 := n7_; clear n0_ n1_ n2_ n3_ n4_ n5_ n6_ n7_; clear ho hb hg hat))
             go_ret
             exact ⟨_, by first | rfl | (simp [errW_none, errW_some] <;> rfl) | (simp [*, errW_none, errW_some] <;> rfl), by (with_reducible repeat (first | apply Kd.R_alloc | apply Kd.R_drewN | apply Kd.R_drew)); exact Kd.R_mono HO238.out (fun _ hk => trivial), Fit.bl HB.out⟩
            ·rw [if_neg c70] at H
             exact absurd H (by simp)
           ·rw [if_neg c69] at H
            exact absurd H (by simp)
         ·rw [if_neg c47] at H
          exact absurd H (by simp)
        ·rw [if_neg c46] at H
         have c46b0 : (((rd_T24 t219 0).f0) == t213 && (((rd_T24 t219 0).f1) == t214)) = false := by simpa using c46
         (try (have c46b1 : decide (((rd_T24 t219 0).f0) = t213 && (((rd_T24 t219 0).f1) == t214)) = false := by simpa using c46))
         (try (have c46b2 : (((rd_T24 t219 0).f0) == t213 && (((rd_T24 t219 0).f1) == t214)) = false := by simpa using c46))
         (try (have c46b3 : ¬ (((rd_T24 t219 0).f0) = t213 && (((rd_T24 t219 0).f1) == t214)) := by simpa using c46))
         clear c46
         obtain ⟨y239, hy239⟩ : ∃ y_ : List (S24), y_ = (([] : List (S24))) := ⟨_, rfl⟩
         replace H : (if y239.length + t219.length < 8796093022208 then ((some (y239 ++ t219 : List (S24))).bind fun y242 => (if y242.length + t222.length < 8796093022208 then (some (y242 ++ t222)) else (none))) else (none)) = some r := by first | (rw [hy239]; with_reducible exact H) | (have H2_ := (Option.bind_some _ _).symm.trans H; rw [hy239]; with_reducible exact H2_) | (have H2_ := (Option.bind_some _ _).symm.trans H; with_reducible exact H2_) | with_reducible exact H | (rw [hy239]; exact H) | exact H
         have Ny239 := Aside0.mk hy239
         clear hy239
         by_cases c92 : y239.length + t219.length < 8796093022208
         ·rw [if_pos c92] at H
          have LMc92 := Aside0.mk c92
          clear c92
          obtain ⟨y242, hy242⟩ : ∃ y_ : List (S24), y_ = (y239 ++ t219) := ⟨_, rfl⟩
          replace H : (if y242.length + t222.length < 8796093022208 then (some (y242 ++ t222)) else (none)) = some r := by first | (rw [hy242]; with_reducible exact H) | (have H2_ := (Option.bind_some _ _).symm.trans H; rw [hy242]; with_reducible exact H2_) | (have H2_ := (Option.bind_some _ _).symm.trans H; with_reducible exact H2_) | with_reducible exact H | (rw [hy242]; exact H) | exact H
          have Ny242 := Aside0.mk hy242
          clear hy242
          by_cases c93 : y242.length + t222.length < 8796093022208
          ·rw [if_pos c93] at H
           have LMc93 := Aside0.mk c93
           clear c93
           obtain ⟨y245, hy245⟩ : ∃ y_ : List (S24), y_ = (y242 ++ t222) := ⟨_, rfl⟩
           replace H : (some y245) = some r := by first | (rw [hy245]; with_reducible exact H) | (have H2_ := (Option.bind_some _ _).symm.trans H; rw [hy245]; with_reducible exact H2_) | (have H2_ := (Option.bind_some _ _).symm.trans H; with_reducible exact H2_) | with_reducible exact H | (rw [hy245]; exact H) | exact H
           have Ny245 := Aside0.mk hy245
           clear hy245
           obtain rfl := Option.some.inj H
           obtain ⟨Ao94, co94, eo94⟩ := Kd.R_slice HO_5.out
           subst eo94
           obtain ⟨hcz95_0, hcz95_1, hfz95_0⟩ := Fit.cells2 BK202.out
           try go_wp2_with (first | ((with_reducible refine gate_callee (f := 75) rfl ?_); refine goesL_ (some 36) rfl rfl Tryd.func75 (by kernel_rfl) rfl #[.agg #[.int .u32 a0_0, .int .i64 a0_1]] rfl (by (try simp only [List.map_toArray, List.map_cons, List.map_nil]); first | done | rfl | (simp only [List.length_drop, List.length_take]; rfl)) ?_; (with_reducible refine (patchbayref2_halves.calls k1 a0_0 a0_1 t213 t214 t215 t216 _ A40.out).mono ?_); rintro e w96 ⟨rfl, hb⟩; refine ⟨_, rfl, ?_⟩; have n0_ := Aside0.mk (Kd.R_below (by (with_reducible repeat (first | apply Kd.R_alloc | apply Kd.R_drewN | apply Kd.R_drew)); exact HO_5.out) hb); have n1_ := Aside0.mk (blk_below (g := gb202) (Fit.pk BK202.out) hb); have n2_ := Aside0.mk (below_step (Fit.bl HB.out) hb); clear HO_5; clear BK202; clear HB; have HO_5 := n0_; have BK202 := n1_; have HB := n2_; clear n0_ n1_ n2_; (try clear hb); (try clear hb2); (try clear hk); (try clear hi)) | ((with_reducible refine gate_dst (N := 8) rfl ?_); (try (refine gate_guard (by rfl) ?_; dsimp only)); refine box_event ?hg (N := 8) ?hd (cs := #[.int .u32 0, .int .i64 0]) (t := 24) ?hr ?_; (case hd => rfl); (case hg => rfl); (case hr => first | (go_simp; done) | (go_simp; rfl)); intro gb217 hg w97 hbox hb; have n0_ := Aside0.mk (Kd.R_below (Kd.R_elderB (by (with_reducible repeat (first | apply Kd.R_alloc | apply Kd.R_drewN | apply Kd.R_drew)); exact HO_5.out) gb217 (Nat.le_of_eq hg.symm)) hb); have n1_ := Aside0.mk (blk_below (g := gb202) (Fit.pk BK202.out) hb); have n2_ := Aside0.mk (below_step (Fit.bl HB.out) hb); have n3_ := Aside0.mk (hbox); have n4_ := Aside0.mk ((by rw [hg]; exact (below_size (Fit.bl HB.out)) : w.heap.size ≤ gb217)); have n5_ := Aside0.mk ((by rw [hg]; exact (below_size (Fit.bl HB.out)) : w.heap.size ≤ gb217)); have n6_ := Aside0.mk ((by rw [hg]; exact Nat.ne_of_lt (blk_lt (g := gb202) (Fit.pk BK202.out)) : gb202 ≠ gb217)); have n7_ := Aside0.mk ((by rw [hg]; exact Nat.ne_of_gt (blk_lt (g := gb202) (Fit.pk BK202.out)) : gb217 ≠ gb202)); clear HO_5; clear BK202; clear HB; have HO_5 := n0_; have BK202 := n1_; have HB := n2_; have BK217 := n3_; have GW217 := n4_; have GE217 := n5_; have NB202_217 := n6_; have NB217_202 := n7_; clear n0_ n1_ n2_ n3_ n4_ n5_ n6_ n7_; clear hb hbox hg) | ((with_reducible refine gate_dst (N := 9) rfl ?_); (try (refine gate_guard (by rfl) ?_; dsimp only)); refine box_event ?hg (N := 9) ?hd (cs := #[.int .u32 0, .int .i64 0]) (t := 24) ?hr ?_; (case hd => rfl); (case hg => rfl); (case hr => first | (go_simp; done) | (go_simp; rfl)); intro gb218 hg w98 hbox hb; have n0_ := Aside0.mk (Kd.R_below (Kd.R_elderB (by (with_reducible repeat (first | apply Kd.R_alloc | apply Kd.R_drewN | apply Kd.R_drew)); exact HO_5.out) gb218 (Nat.le_of_eq hg.symm)) hb); have n1_ := Aside0.mk (blk_below (g := gb202) (Fit.pk BK202.out) hb); have n2_ := Aside0.mk (blk_below (g := gb217) (Fit.pk BK217.out) hb); have n3_ := Aside0.mk (below_step (Fit.bl HB.out) hb); have n4_ := Aside0.mk (hbox); have n5_ := Aside0.mk ((by rw [hg]; exact (below_size (Fit.bl HB.out)) : w.heap.size ≤ gb218)); have n6_ := Aside0.mk ((by rw [hg]; exact (below_size (Fit.bl HB.out)) : w.heap.size ≤ gb218)); have n7_ := Aside0.mk ((by rw [hg]; exact Nat.ne_of_lt (blk_lt (g := gb202) (Fit.pk BK202.out)) : gb202 ≠ gb218)); have n8_ := Aside0.mk ((by rw [hg]; exact Nat.ne_of_gt (blk_lt (g := gb202) (Fit.pk BK202.out)) : gb218 ≠ gb202)); have n9_ := Aside0.mk ((by rw [hg]; exact Nat.ne_of_lt (blk_lt (g := gb217) (Fit.pk BK217.out)) : gb217 ≠ gb218)); have n10_ := Aside0.mk ((by rw [hg]; exact Nat.ne_of_gt (blk_lt (g := gb217) (Fit.pk BK217.out)) : gb218 ≠ gb217)); clear HO_5; clear BK202; clear BK217; clear HB; have HO_5 := n0_; have BK202 := n1_; have BK217 := n2_; have HB := n3_; have BK218 := n4_; have GW218 := n5_; have GE218 := n6_; have NB202_218 := n7_; have NB218_202 := n8_; have NB217_218 := n9_; have NB218_217 := n10_; clear n0_ n1_ n2_ n3_ n4_ n5_ n6_ n7_ n8_ n9_ n10_; clear hb hbox hg; have hnb99 := NB217_202.out; have hnc99 := NB202_217.out; have hnb100 := NB217_218.out; have hnc100 := NB218_217.out; obtain ⟨hcz101_0, hcz101_1, hfz101_0⟩ := Fit.cells2 BK217.out; have hnb102 := NB218_202.out; have hnc102 := NB202_218.out; obtain ⟨hcz103_0, hcz103_1, hfz103_0⟩ := Fit.cells2 BK218.out))
           have n0_ : Aside0 (Kd.R k24 24 ((((w98.setCell ⟨gb217, 0, none⟩ (.int .u32 t213)).setCell ⟨gb217, 1, none⟩ (.int .i64 t214)).setCell ⟨gb218, 0, none⟩ (.int .u32 t215)).setCell ⟨gb218, 1, none⟩ (.int .i64 t216)) w.heap.size (fun k_ => k_ ≠ gb202 ∧ k_ ≠ gb217 ∧ k_ ≠ gb218) (.slice Ao94 x5_1.length co94) x5_1) := ⟨by (with_reducible repeat (first | apply Kd.R_alloc | apply Kd.R_drewN | apply Kd.R_drew)); exact Kd.R_mono (Kd.R_far (p := ⟨gb218, 1, none⟩) (Kd.R_far (p := ⟨gb218, 0, none⟩) (Kd.R_far (p := ⟨gb217, 1, none⟩) (Kd.R_far (p := ⟨gb217, 0, none⟩) (Kd.R_mono (Kd.R_mono HO_5.out (fun k_ hk => (⟨hk, hk.1.2⟩ : _ ∧ k_ ≠ gb217))) (fun k_ hk => (⟨hk, hk.1.2⟩ : _ ∧ k_ ≠ gb218))) (fun _ hk => hk.1.2) (.int .u32 t213)) (fun _ hk => hk.1.2) (.int .i64 t214)) (fun _ hk => hk.2) (.int .u32 t215)) (fun _ hk => hk.2) (.int .i64 t216)) (fun _ hk => ⟨hk.1.1.1.1, ⟨hk.1.1.1.2, hk.1.1.2⟩⟩)⟩
           have n1_ : Aside0 (((((w98.setCell ⟨gb217, 0, none⟩ (.int .u32 t213)).setCell ⟨gb217, 1, none⟩ (.int .i64 t214)).setCell ⟨gb218, 0, none⟩ (.int .u32 t215)).setCell ⟨gb218, 1, none⟩ (.int .i64 t216)).heap[gb202]? = some (.cells #[.int .u32 a0_0, .int .i64 a0_1] 24 (0, 0))) := ⟨by (with_reducible repeat first | apply blk_drewN | apply blk_drew | apply blk_alloc); refine blk_far ?_ NB202_218.out _; (with_reducible repeat first | apply blk_drewN | apply blk_drew | apply blk_alloc); refine blk_far ?_ NB202_218.out _; (with_reducible repeat first | apply blk_drewN | apply blk_drew | apply blk_alloc); refine blk_far ?_ NB202_217.out _; (with_reducible repeat first | apply blk_drewN | apply blk_drew | apply blk_alloc); refine blk_far ?_ NB202_217.out _; (with_reducible repeat first | apply blk_drewN | apply blk_drew | apply blk_alloc); exact BK202.out⟩
           have n2_ : Aside0 (((((w98.setCell ⟨gb217, 0, none⟩ (.int .u32 t213)).setCell ⟨gb217, 1, none⟩ (.int .i64 t214)).setCell ⟨gb218, 0, none⟩ (.int .u32 t215)).setCell ⟨gb218, 1, none⟩ (.int .i64 t216)).heap[gb217]? = some (.cells #[.int .u32 t213, .int .i64 t214] 24 (0, 0))) := ⟨by (with_reducible repeat first | apply blk_drewN | apply blk_drew | apply blk_alloc); refine blk_far ?_ NB217_218.out _; (with_reducible repeat first | apply blk_drewN | apply blk_drew | apply blk_alloc); refine blk_far ?_ NB217_218.out _; (with_reducible repeat first | apply blk_drewN | apply blk_drew | apply blk_alloc); refine blk_put (cs := #[.int .u32 t213, .int .i64 0]) ?_ 1 _ rfl; (with_reducible repeat first | apply blk_drewN | apply blk_drew | apply blk_alloc); refine blk_put (cs := #[.int .u32 0, .int .i64 0]) ?_ 0 _ rfl; (with_reducible repeat first | apply blk_drewN | apply blk_drew | apply blk_alloc); exact BK217.out⟩
           have n3_ : Aside0 (((((w98.setCell ⟨gb217, 0, none⟩ (.int .u32 t213)).setCell ⟨gb217, 1, none⟩ (.int .i64 t214)).setCell ⟨gb218, 0, none⟩ (.int .u32 t215)).setCell ⟨gb218, 1, none⟩ (.int .i64 t216)).heap[gb218]? = some (.cells #[.int .u32 t215, .int .i64 t216] 24 (0, 0))) := ⟨by (with_reducible repeat first | apply blk_drewN | apply blk_drew | apply blk_alloc); refine blk_put (cs := #[.int .u32 t215, .int .i64 0]) ?_ 1 _ rfl; (with_reducible repeat first | apply blk_drewN | apply blk_drew | apply blk_alloc); refine blk_put (cs := #[.int .u32 0, .int .i64 0]) ?_ 0 _ rfl; (with_reducible repeat first | apply blk_drewN | apply blk_drew | apply blk_alloc); refine blk_far ?_ NB218_217.out _; (with_reducible repeat first | apply blk_drewN | apply blk_drew | apply blk_alloc); refine blk_far ?_ NB218_217.out _; (with_reducible repeat first | apply blk_drewN | apply blk_drew | apply blk_alloc); exact BK218.out⟩
           have n4_ : Aside0 (Below w.heap.size w ((((w98.setCell ⟨gb217, 0, none⟩ (.int .u32 t213)).setCell ⟨gb217, 1, none⟩ (.int .i64 t214)).setCell ⟨gb218, 0, none⟩ (.int .u32 t215)).setCell ⟨gb218, 1, none⟩ (.int .i64 t216))) := ⟨Fit.bl HB.out⟩
           (try clear HO_5)
           (try clear BK202)
           (try clear BK217)
           (try clear BK218)
           (try clear HB)
           generalize ((((w98.setCell ⟨gb217, 0, none⟩ (.int .u32 t213)).setCell ⟨gb217, 1, none⟩ (.int .i64 t214)).setCell ⟨gb218, 0, none⟩ (.int .u32 t215)).setCell ⟨gb218, 1, none⟩ (.int .i64 t216)) = w104 at n0_ n1_ n2_ n3_ n4_ ⊢
           have HO_5 := n0_
           have BK202 := n1_
           have BK217 := n2_
           have BK218 := n3_
           have HB := n4_
           clear n0_ n1_ n2_ n3_ n4_
           have n0_ := Aside0.mk (Kd.R_drew HO_5.out)
           have n1_ := Aside0.mk (blk_drew BK202.out)
           have n2_ := Aside0.mk (blk_drew BK217.out)
           have n3_ := Aside0.mk (blk_drew BK218.out)
           have n4_ := Aside0.mk (below_drew1 HB.out)
           clear HO_5
           clear BK202
           clear BK217
           clear BK218
           clear HB
           have HO_5 := n0_
           have BK202 := n1_
           have BK217 := n2_
           have BK218 := n3_
           have HB := n4_
           clear n0_ n1_ n2_ n3_ n4_
           refine start_ (n := 8) (S := fun w' => w'.cell? ⟨gb217, 0, none⟩ = some (.int .u32 t213) ∧ w'.cell? ⟨gb217, 1, none⟩ = some (.int .i64 t214) ∧ w'.cell? ⟨gb218, 0, none⟩ = some (.int .u32 t215) ∧ w'.cell? ⟨gb218, 1, none⟩ = some (.int .i64 t216)) (ds := []) #[false, false, false, false, false, false, false, false] (by kernel_rfl) rfl rfl ⟨(blk_cell BK217.out 0).trans rfl, (blk_cell BK217.out 1).trans rfl, (blk_cell BK218.out 0).trans rfl, (blk_cell BK218.out 1).trans rfl⟩ (fun hHeld => ?_); refine with_tabW patchbayref2_cover.tab13 patchbayref2_cover.bits13 (fun HT_ HW_ => ?_)
           generalize w104.drew = w105 at HO_5 BK202 BK217 BK218 HB hHeld ⊢
           refine pure_ (i := 1) (N := some 40) (v := ?_) (a' := ?_) #[false, true, false, false, false, false, false, false] rfl rfl (any_of HT_.out (by kernel_rfl)) (fun _ _ _ h => h) (Or.inl ⟨by rfl, ?_⟩) ?_ ?_
           rotate_left
           ·intro w'
            go_simp
            with_reducible rfl
           rotate_left
           ·simp only [Act.put, List.setIfInBounds_toArray, List.set_cons_zero, List.set_cons_succ, i64_w, i32_w]
            rfl
           refine pure_ (i := 4) (N := some 43) (v := ?_) (a' := ?_) #[false, true, false, false, true, false, false, false] rfl rfl (any_of HT_.out (by kernel_rfl)) (fun _ _ _ h => h) (Or.inl ⟨by rfl, ?_⟩) ?_ ?_
           rotate_left
           ·intro w'
            go_simp
            with_reducible rfl
           rotate_left
           ·simp only [Act.put, List.setIfInBounds_toArray, List.set_cons_zero, List.set_cons_succ, i64_w, i32_w]
            rfl
           refine take_ (i := 0) (N := some 39) (v := ?_) (a' := ?_) #[true, true, false, false, true, false, false, false] rfl rfl (take_ofW HT_.out HW_.out (by kernel_rfl)) (fun _ _ _ h => h) (Or.inl ⟨by rfl, ?_⟩) hHeld ?_ ?_
           rotate_left
           ·rintro w' ⟨s0, s1, s2, s3⟩
            go_simp
            with_reducible rfl
           rotate_left
           ·simp only [Act.put, List.setIfInBounds_toArray, List.set_cons_zero, List.set_cons_succ, i64_w, i32_w]
            rfl
           refine take_ (i := 3) (N := some 42) (v := ?_) (a' := ?_) #[true, true, false, true, true, false, false, false] rfl rfl (take_ofW HT_.out HW_.out (by kernel_rfl)) (fun _ _ _ h => h) (Or.inl ⟨by rfl, ?_⟩) hHeld ?_ ?_
           rotate_left
           ·rintro w' ⟨s0, s1, s2, s3⟩
            go_simp
            with_reducible rfl
           rotate_left
           ·simp only [Act.put, List.setIfInBounds_toArray, List.set_cons_zero, List.set_cons_succ, i64_w, i32_w]
            rfl
           refine one_ (i := 2) (N := some 41) #[true, true, true, true, true, false, false, false] rfl rfl (one_of HT_.out (by kernel_rfl)) (by decide) (fun K hK => ?_)
           refine goes_ Tryd.func53 (by kernel_rfl) rfl #[.agg #[.int .u32 t213, .int .i64 t214], .slice Ao94 x5_1.length co94] (by rfl) rfl rfl (by (try simp only [List.map_toArray, List.map_cons, List.map_nil]); first | done | rfl | (simp only [List.length_drop, List.length_take]; rfl)) ?_
           with_reducible refine (ih k1 (by have := HK1.out; omega) t213 t214 _ _ x5_1 t219 _ ?side1 ?side2 A41.out).mono ?_
           (case side1 => repeat (first | exact (Kd.R_reads' HO_5.out).2.2 | (with_reducible refine Kd.C_alloc ?_ _) | (with_reducible refine Kd.C_drewN ?_ _) | (with_reducible refine Kd.C_drew ?_)))
           (case side2 => exact (Kd.R_reads' HO_5.out).2.1)
           rintro e w106 ⟨v220, rfl, ho0, hb⟩
           refine ⟨_, rfl, ?_⟩
           have n0_ := Aside0.mk (Kd.R_elder' (by (with_reducible repeat (first | apply Kd.R_alloc | apply Kd.R_drewN | apply Kd.R_drew)); exact HO_5.out) (Kd.R_base ho0) hb)
           have n1_ := Aside0.mk (Kd.R_lower (Kd.R_newB (Kd.R_newB (Kd.R_newB (Kd.R_new' ho0 (Kd.R_lt (by (with_reducible repeat (first | apply Kd.R_alloc | apply Kd.R_drewN | apply Kd.R_drew)); exact HO_5.out))) (g := gb202) (o := .cells #[.int .u32 a0_0, .int .i64 a0_1] 24 (0, 0)) (Fit.pk BK202.out)) (g := gb217) (o := .cells #[.int .u32 t213, .int .i64 t214] 24 (0, 0)) (Fit.pk BK217.out)) (g := gb218) (o := .cells #[.int .u32 t215, .int .i64 t216] 24 (0, 0)) (Fit.pk BK218.out)) (below_size (Fit.bl HB.out)))
           have n2_ := Aside0.mk (blk_below (g := gb202) (Fit.pk BK202.out) hb)
           have n3_ := Aside0.mk (blk_below (g := gb217) (Fit.pk BK217.out) hb)
           have n4_ := Aside0.mk (blk_below (g := gb218) (Fit.pk BK218.out) hb)
           have n5_ := Aside0.mk (below_step (Fit.bl HB.out) hb)
           clear HO_5
           clear BK202
           clear BK217
           clear BK218
           clear HB
           have HO_5 := n0_
           have HO221 := n1_
           have BK202 := n2_
           have BK217 := n3_
           have BK218 := n4_
           have HB := n5_
           clear n0_ n1_ n2_ n3_ n4_ n5_
           (try clear hb)
           (try clear hb2)
           (try clear hk)
           (try clear hi)
           (try clear ho0)
           refine hK.out _ _ ⟨(blk_cell BK217.out 0).trans rfl, (blk_cell BK217.out 1).trans rfl, (blk_cell BK218.out 0).trans rfl, (blk_cell BK218.out 1).trans rfl⟩ (fun hHeld => ?_)
           clear hK K
           refine norm_ (a' := ?_) ?_ ?_
           rotate_left
           ·show Act.put _ (some 41) _ = _
            simp only [Act.put, List.setIfInBounds_toArray, List.set_cons_zero, List.set_cons_succ, i64_w, i32_w]
            rfl
           refine one_ (i := 5) (N := some 44) #[true, true, true, true, true, true, false, false] rfl rfl (one_of HT_.out (by kernel_rfl)) (by decide) (fun K hK => ?_)
           refine goes_ Tryd.func53 (by kernel_rfl) rfl #[.agg #[.int .u32 t215, .int .i64 t216], .slice Ao94 x5_1.length co94] (by rfl) rfl rfl (by (try simp only [List.map_toArray, List.map_cons, List.map_nil]); first | done | rfl | (simp only [List.length_drop, List.length_take]; rfl)) ?_
           with_reducible refine (ih k1 (by have := HK1.out; omega) t215 t216 _ _ x5_1 t222 _ ?side1 ?side2 A42.out).mono ?_
           (case side1 => repeat (first | exact (Kd.R_reads' HO_5.out).2.2 | (with_reducible refine Kd.C_alloc ?_ _) | (with_reducible refine Kd.C_drewN ?_ _) | (with_reducible refine Kd.C_drew ?_)))
           (case side2 => exact (Kd.R_reads' HO_5.out).2.1)
           rintro e w107 ⟨v223, rfl, ho0, hb⟩
           refine ⟨_, rfl, ?_⟩
           have n0_ := Aside0.mk (Kd.R_elder' (by (with_reducible repeat (first | apply Kd.R_alloc | apply Kd.R_drewN | apply Kd.R_drew)); exact HO_5.out) (Kd.R_base ho0) hb)
           have n1_ := Aside0.mk (Kd.R_elder' (by (with_reducible repeat (first | apply Kd.R_alloc | apply Kd.R_drewN | apply Kd.R_drew)); exact HO221.out) (Kd.R_base ho0) hb)
           have n2_ := Aside0.mk (Kd.R_lower (Kd.R_newB (Kd.R_newB (Kd.R_newB (Kd.R_new' (Kd.R_new' ho0 (Kd.R_lt (by (with_reducible repeat (first | apply Kd.R_alloc | apply Kd.R_drewN | apply Kd.R_drew)); exact HO_5.out))) (Kd.R_lt (by (with_reducible repeat (first | apply Kd.R_alloc | apply Kd.R_drewN | apply Kd.R_drew)); exact HO221.out))) (g := gb202) (o := .cells #[.int .u32 a0_0, .int .i64 a0_1] 24 (0, 0)) (Fit.pk BK202.out)) (g := gb217) (o := .cells #[.int .u32 t213, .int .i64 t214] 24 (0, 0)) (Fit.pk BK217.out)) (g := gb218) (o := .cells #[.int .u32 t215, .int .i64 t216] 24 (0, 0)) (Fit.pk BK218.out)) (below_size (Fit.bl HB.out)))
           have n3_ := Aside0.mk (blk_below (g := gb202) (Fit.pk BK202.out) hb)
           have n4_ := Aside0.mk (blk_below (g := gb217) (Fit.pk BK217.out) hb)
           have n5_ := Aside0.mk (blk_below (g := gb218) (Fit.pk BK218.out) hb)
           have n6_ := Aside0.mk (below_step (Fit.bl HB.out) hb)
           clear HO_5
           clear HO221
           clear BK202
           clear BK217
           clear BK218
           clear HB
           have HO_5 := n0_
           have HO221 := n1_
           have HO224 := n2_
           have BK202 := n3_
           have BK217 := n4_
           have BK218 := n5_
           have HB := n6_
           clear n0_ n1_ n2_ n3_ n4_ n5_ n6_
           (try clear hb)
           (try clear hb2)
           (try clear hk)
           (try clear hi)
           (try clear ho0)
           refine hK.out _ _ ⟨(blk_cell BK217.out 0).trans rfl, (blk_cell BK217.out 1).trans rfl, (blk_cell BK218.out 0).trans rfl, (blk_cell BK218.out 1).trans rfl⟩ (fun hHeld => ?_)
           clear hK K
           refine norm_ (a' := ?_) ?_ ?_
           rotate_left
           ·show Act.put _ (some 44) _ = _
            simp only [Act.put, List.setIfInBounds_toArray, List.set_cons_zero, List.set_cons_succ, i64_w, i32_w]
            rfl
           refine pure_ (i := 6) (N := some 10) (v := ?_) (a' := ?_) #[true, true, true, true, true, true, true, false] rfl rfl (any_of HT_.out (by kernel_rfl)) (fun _ _ _ h => h) (Or.inl ⟨by rfl, ?_⟩) ?_ ?_
           rotate_left
           ·intro w'
            go_simp
            with_reducible rfl
           rotate_left
           ·simp only [Act.put, List.setIfInBounds_toArray, List.set_cons_zero, List.set_cons_succ, i64_w, i32_w]
            rfl
           refine pure_ (i := 7) (N := some 11) (v := ?_) (a' := ?_) #[true, true, true, true, true, true, true, true] rfl rfl (any_of HT_.out (by kernel_rfl)) (fun _ _ _ h => h) (Or.inl ⟨by rfl, ?_⟩) ?_ ?_
           rotate_left
           ·intro w'
            go_simp
            with_reducible rfl
           rotate_left
           ·simp only [Act.put, List.setIfInBounds_toArray, List.set_cons_zero, List.set_cons_succ, i64_w, i32_w]
            rfl
           refine done_ (done_of HT_.out (by kernel_rfl)) ?_
           try go_wp2
           have n0_ := Aside0.mk (Kd.R_drew HO_5.out)
           have n1_ := Aside0.mk (Kd.R_drew HO221.out)
           have n2_ := Aside0.mk (Kd.R_drew HO224.out)
           have n3_ := Aside0.mk (blk_drew BK202.out)
           have n4_ := Aside0.mk (blk_drew BK217.out)
           have n5_ := Aside0.mk (blk_drew BK218.out)
           have n6_ := Aside0.mk (below_drew1 HB.out)
           clear HO_5
           clear HO221
           clear HO224
           clear BK202
           clear BK217
           clear BK218
           clear HB
           have HO_5 := n0_
           have HO221 := n1_
           have HO224 := n2_
           have BK202 := n3_
           have BK217 := n4_
           have BK218 := n5_
           have HB := n6_
           clear n0_ n1_ n2_ n3_ n4_ n5_ n6_
           obtain ⟨Ao109, co109, eo109⟩ := Kd.R_slice HO221.out
           (first | subst eo109 | (injection eo109 with f1_ f2_ f3_; have f4_ := f1_.symm; have f5_ := f3_.symm; clear f1_ f2_ f3_; subst f4_; subst f5_))
           obtain ⟨Ao110, co110, eo110⟩ := Kd.R_slice HO224.out
           (first | subst eo110 | (injection eo110 with f1_ f2_ f3_; have f4_ := f1_.symm; have f5_ := f3_.symm; clear f1_ f2_ f3_; subst f4_; subst f5_))
           have p225 : 0 ≤ (0 : Int) := (by omega)
           have q225 : 0 < (t219.length : Int) := of_decide_eq_true (by first | (with_reducible assumption) | assumption)
           obtain ⟨ad225, e225, hx225_0, hx225_1⟩ := at_T24 (Kd.R_reads' HO221.out).2.2 0 p225 q225
           cases e225
           have qi225 : (0 < t219.length) = True := eq_true (by omega)
           (try rw [show ((0 : Int)).toNat = 0 from rfl] at hx225_0)
           (try rw [show 0 * 2 = 0 from rfl] at hx225_0)
           (try rw [Addr.add_zero'] at hx225_0)
           (try rw [show ((0 : Int)).toNat = 0 from rfl] at hx225_1)
           (try rw [show 0 * 2 = 0 from rfl] at hx225_1)
           (try rw [Addr.add_zero'] at hx225_1)
           replace p225 := eq_true p225
           replace q225 := eq_true q225
           refine start_ (n := 22) (S := fun w' => w'.cell? ⟨gb217, 0, none⟩ = some (.int .u32 t213) ∧ w'.cell? ⟨gb217, 1, none⟩ = some (.int .i64 t214) ∧ w'.cell? ad225 = some (.int .u32 ((rd_T24 t219 0).f0)) ∧ w'.cell? ⟨ad225.block, ad225.off + 1, none⟩ = some (.int .i64 ((rd_T24 t219 0).f1))) (ds := []) #[false, false, false, false, false, false, false, false, false, false, false, false, false, false, false, false, false, false, false, false, false, false] (by kernel_rfl) rfl rfl ⟨(blk_cell BK217.out 0).trans rfl, (blk_cell BK217.out 1).trans rfl, hx225_0, hx225_1⟩ (fun hHeld => ?_); refine with_tabW patchbayref2_cover.tab14 patchbayref2_cover.bits14 (fun HT_ HW_ => ?_)
           generalize w107.drew = w108 at HO_5 HO221 HO224 BK202 BK217 BK218 HB hx225_0 hx225_1 hHeld ⊢
           refine pure_ (i := 0) (N := some 45) (v := ?_) (a' := ?_) #[true, false, false, false, false, false, false, false, false, false, false, false, false, false, false, false, false, false, false, false, false, false] rfl rfl (any_of HT_.out (by kernel_rfl)) (fun _ _ _ h => h) (Or.inl ⟨by rfl, ?_⟩) ?_ ?_
           rotate_left
           ·intro w'
            go_simp
            with_reducible rfl
           rotate_left
           ·simp only [Act.put, List.setIfInBounds_toArray, List.set_cons_zero, List.set_cons_succ, i64_w, i32_w]
            rfl
           refine pure_ (i := 1) (N := some 46) (v := ?_) (a' := ?_) #[true, true, false, false, false, false, false, false, false, false, false, false, false, false, false, false, false, false, false, false, false, false] rfl rfl (any_of HT_.out (by kernel_rfl)) (fun _ _ _ h => h) (Or.inl ⟨by rfl, ?_⟩) ?_ ?_
           rotate_left
           ·intro w'
            go_simp
            with_reducible rfl
           rotate_left
           ·simp only [Act.put, List.setIfInBounds_toArray, List.set_cons_zero, List.set_cons_succ, i64_w, i32_w]
            rfl
           refine pure_ (i := 2) (N := some 47) (v := ?_) (a' := ?_) #[true, true, true, false, false, false, false, false, false, false, false, false, false, false, false, false, false, false, false, false, false, false] rfl rfl (any_of HT_.out (by kernel_rfl)) (fun _ _ _ h => h) (Or.inl ⟨by rfl, ?_⟩) ?_ ?_
           rotate_left
           ·intro w'
            go_simp
            with_reducible rfl
           rotate_left
           ·simp only [Act.put, List.setIfInBounds_toArray, List.set_cons_zero, List.set_cons_succ, i64_w, i32_w]
            rfl
           refine pure_ (i := 3) (N := some 48) (v := ?_) (a' := ?_) #[true, true, true, true, false, false, false, false, false, false, false, false, false, false, false, false, false, false, false, false, false, false] rfl rfl (any_of HT_.out (by kernel_rfl)) (fun _ _ _ h => h) (Or.inl ⟨by rfl, ?_⟩) ?_ ?_
           rotate_left
           ·intro w'
            go_simp
            with_reducible rfl
           rotate_left
           ·simp only [Act.put, List.setIfInBounds_toArray, List.set_cons_zero, List.set_cons_succ, i64_w, i32_w]
            rfl
           refine pure_ (i := 4) (N := some 49) (v := ?_) (a' := ?_) #[true, true, true, true, true, false, false, false, false, false, false, false, false, false, false, false, false, false, false, false, false, false] rfl rfl (any_of HT_.out (by kernel_rfl)) (fun _ _ _ h => h) (Or.inl ⟨by rfl, ?_⟩) ?_ ?_
           rotate_left
           ·intro w'
            go_simp
            with_reducible rfl
           rotate_left
           ·simp only [Act.put, List.setIfInBounds_toArray, List.set_cons_zero, List.set_cons_succ, i64_w, i32_w]
            rfl
           refine pure_ (i := 5) (N := some 50) (v := ?_) (a' := ?_) #[true, true, true, true, true, true, false, false, false, false, false, false, false, false, false, false, false, false, false, false, false, false] rfl rfl (any_of HT_.out (by kernel_rfl)) (fun _ _ _ h => h) (Or.inl ⟨by rfl, ?_⟩) ?_ ?_
           rotate_left
           ·intro w'
            go_simp
            with_reducible rfl
           rotate_left
           ·simp only [Act.put, List.setIfInBounds_toArray, List.set_cons_zero, List.set_cons_succ, i64_w, i32_w]
            rfl
           refine pure_ (i := 6) (N := some 51) (v := ?_) (a' := ?_) #[true, true, true, true, true, true, true, false, false, false, false, false, false, false, false, false, false, false, false, false, false, false] rfl rfl (any_of HT_.out (by kernel_rfl)) (fun _ _ _ h => h) (Or.inl ⟨by rfl, ?_⟩) ?_ ?_
           rotate_left
           ·intro w'
            go_simp
            with_reducible rfl
           rotate_left
           ·simp only [Act.put, List.setIfInBounds_toArray, List.set_cons_zero, List.set_cons_succ, i64_w, i32_w]
            rfl
           refine pure_ (i := 7) (N := some 52) (v := ?_) (a' := ?_) #[true, true, true, true, true, true, true, true, false, false, false, false, false, false, false, false, false, false, false, false, false, false] rfl rfl (any_of HT_.out (by kernel_rfl)) (fun _ _ _ h => h) (Or.inl ⟨by rfl, ?_⟩) ?_ ?_
           rotate_left
           ·intro w'
            go_simp
            with_reducible rfl
           rotate_left
           ·simp only [Act.put, List.setIfInBounds_toArray, List.set_cons_zero, List.set_cons_succ, i64_w, i32_w]
            rfl
           refine pure_ (i := 8) (N := some 53) (v := ?_) (a' := ?_) #[true, true, true, true, true, true, true, true, true, false, false, false, false, false, false, false, false, false, false, false, false, false] rfl rfl (any_of HT_.out (by kernel_rfl)) (fun _ _ _ h => h) (Or.inl ⟨by rfl, ?_⟩) ?_ ?_
           rotate_left
           ·intro w'
            go_simp
            with_reducible rfl
           rotate_left
           ·simp only [Act.put, List.setIfInBounds_toArray, List.set_cons_zero, List.set_cons_succ, i64_w, i32_w]
            rfl
           refine pure_ (i := 9) (N := some 54) (v := ?_) (a' := ?_) #[true, true, true, true, true, true, true, true, true, true, false, false, false, false, false, false, false, false, false, false, false, false] rfl rfl (any_of HT_.out (by kernel_rfl)) (fun _ _ _ h => h) (Or.inl ⟨by rfl, ?_⟩) ?_ ?_
           rotate_left
           ·intro w'
            go_simp
            with_reducible rfl
           rotate_left
           ·simp only [Act.put, List.setIfInBounds_toArray, List.set_cons_zero, List.set_cons_succ, i64_w, i32_w]
            rfl
           refine pure_ (i := 10) (N := some 55) (v := ?_) (a' := ?_) #[true, true, true, true, true, true, true, true, true, true, true, false, false, false, false, false, false, false, false, false, false, false] rfl rfl (any_of HT_.out (by kernel_rfl)) (fun _ _ _ h => h) (Or.inl ⟨by rfl, ?_⟩) ?_ ?_
           rotate_left
           ·intro w'
            go_simp
            with_reducible rfl
           rotate_left
           ·simp only [Act.put, List.setIfInBounds_toArray, List.set_cons_zero, List.set_cons_succ, i64_w, i32_w]
            rfl
           refine take_ (i := 11) (N := some 56) (v := ?_) (a' := ?_) #[true, true, true, true, true, true, true, true, true, true, true, true, false, false, false, false, false, false, false, false, false, false] rfl rfl (take_ofW HT_.out HW_.out (by kernel_rfl)) (fun _ _ _ h => h) (Or.inl ⟨by rfl, ?_⟩) hHeld ?_ ?_
           rotate_left
           ·rintro w' ⟨s0, s1, s2, s3⟩
            go_simp
            with_reducible rfl
           rotate_left
           ·simp only [Act.put, List.setIfInBounds_toArray, List.set_cons_zero, List.set_cons_succ, i64_w, i32_w]
            rfl
           refine take_ (i := 12) (N := some 57) (v := ?_) (a' := ?_) #[true, true, true, true, true, true, true, true, true, true, true, true, true, false, false, false, false, false, false, false, false, false] rfl rfl (take_ofW HT_.out HW_.out (by kernel_rfl)) (fun _ _ _ h => h) (Or.inl ⟨by rfl, ?_⟩) hHeld ?_ ?_
           rotate_left
           ·rintro w' ⟨s0, s1, s2, s3⟩
            go_simp
            with_reducible rfl
           rotate_left
           ·simp only [Act.put, List.setIfInBounds_toArray, List.set_cons_zero, List.set_cons_succ, i64_w, i32_w]
            rfl
           refine pure_ (i := 13) (N := some 58) (v := ?_) (a' := ?_) #[true, true, true, true, true, true, true, true, true, true, true, true, true, true, false, false, false, false, false, false, false, false] rfl rfl (any_of HT_.out (by kernel_rfl)) (fun _ _ _ h => h) (Or.inl ⟨by rfl, ?_⟩) ?_ ?_
           rotate_left
           ·intro w'
            go_simp
            with_reducible rfl
           rotate_left
           ·simp only [Act.put, List.setIfInBounds_toArray, List.set_cons_zero, List.set_cons_succ, i64_w, i32_w]
            rfl
           refine pure_ (i := 14) (N := some 59) (v := ?_) (a' := ?_) #[true, true, true, true, true, true, true, true, true, true, true, true, true, true, true, false, false, false, false, false, false, false] rfl rfl (any_of HT_.out (by kernel_rfl)) (fun _ _ _ h => h) (Or.inl ⟨by rfl, ?_⟩) ?_ ?_
           rotate_left
           ·intro w'
            go_simp
            with_reducible rfl
           rotate_left
           ·simp only [Act.put, List.setIfInBounds_toArray, List.set_cons_zero, List.set_cons_succ, i64_w, i32_w]
            rfl
           refine pure_ (i := 15) (N := some 60) (v := ?_) (a' := ?_) #[true, true, true, true, true, true, true, true, true, true, true, true, true, true, true, true, false, false, false, false, false, false] rfl rfl (any_of HT_.out (by kernel_rfl)) (fun _ _ _ h => h) (Or.inl ⟨by rfl, ?_⟩) ?_ ?_
           rotate_left
           ·intro w'
            go_simp
            with_reducible rfl
           rotate_left
           ·simp only [Act.put, List.setIfInBounds_toArray, List.set_cons_zero, List.set_cons_succ, i64_w, i32_w]
            rfl
           refine pure_ (i := 16) (N := some 61) (v := undef) (a' := ?_) #[true, true, true, true, true, true, true, true, true, true, true, true, true, true, true, true, true, false, false, false, false, false] rfl rfl (any_of HT_.out (by kernel_rfl)) (fun _ _ _ h => h) (Or.inr ⟨by rfl, rfl⟩) ?_ ?_
           rotate_left
           ·simp only [Act.put, List.setIfInBounds_toArray, List.set_cons_zero, List.set_cons_succ, i64_w, i32_w]
            rfl
           refine pure_ (i := 17) (N := some 62) (v := undef) (a' := ?_) #[true, true, true, true, true, true, true, true, true, true, true, true, true, true, true, true, true, true, false, false, false, false] rfl rfl (any_of HT_.out (by kernel_rfl)) (fun _ _ _ h => h) (Or.inr ⟨by rfl, rfl⟩) ?_ ?_
           rotate_left
           ·simp only [Act.put, List.setIfInBounds_toArray, List.set_cons_zero, List.set_cons_succ, i64_w, i32_w]
            rfl
           refine pure_ (i := 18) (N := some 63) (v := undef) (a' := ?_) #[true, true, true, true, true, true, true, true, true, true, true, true, true, true, true, true, true, true, true, false, false, false] rfl rfl (any_of HT_.out (by kernel_rfl)) (fun _ _ _ h => h) (Or.inr ⟨by rfl, rfl⟩) ?_ ?_
           rotate_left
           ·simp only [Act.put, List.setIfInBounds_toArray, List.set_cons_zero, List.set_cons_succ, i64_w, i32_w]
            rfl
           refine pure_ (i := 19) (N := some 64) (v := undef) (a' := ?_) #[true, true, true, true, true, true, true, true, true, true, true, true, true, true, true, true, true, true, true, true, false, false] rfl rfl (any_of HT_.out (by kernel_rfl)) (fun _ _ _ h => h) (Or.inr ⟨by rfl, rfl⟩) ?_ ?_
           rotate_left
           ·simp only [Act.put, List.setIfInBounds_toArray, List.set_cons_zero, List.set_cons_succ, i64_w, i32_w]
            rfl
           refine pure_ (i := 20) (N := some 65) (v := undef) (a' := ?_) #[true, true, true, true, true, true, true, true, true, true, true, true, true, true, true, true, true, true, true, true, true, false] rfl rfl (any_of HT_.out (by kernel_rfl)) (fun _ _ _ h => h) (Or.inr ⟨by rfl, rfl⟩) ?_ ?_
           rotate_left
           ·simp only [Act.put, List.setIfInBounds_toArray, List.set_cons_zero, List.set_cons_succ, i64_w, i32_w]
            rfl
           refine pure_ (i := 21) (N := some 66) (v := ?_) (a' := ?_) #[true, true, true, true, true, true, true, true, true, true, true, true, true, true, true, true, true, true, true, true, true, true] rfl rfl (any_of HT_.out (by kernel_rfl)) (fun _ _ _ h => h) (Or.inl ⟨by rfl, ?_⟩) ?_ ?_
           rotate_left
           ·intro w'
            go_simp
            with_reducible rfl
           rotate_left
           ·simp only [Act.put, List.setIfInBounds_toArray, List.set_cons_zero, List.set_cons_succ, i64_w, i32_w]
            rfl
           refine done_ (done_of HT_.out (by kernel_rfl)) ?_
           try go_wp2_with (first | ((with_reducible refine gate_dst (N := 69) rfl ?_); (try (refine gate_guard (by rfl) ?_; dsimp only)); refine Kd.R_lit k24 _ 24 ?hg (N := 69) ?hd (xs := ([] : List (S24))) (inner := []) (ok := fun _ => True) (okp := fun _ => True) ?hr ?hp (fun _ hk => hk) trivial (Below.refl _ _) (Nat.le_refl _) (by simp) ?_; (case hd => rfl); (case hg => rfl); (case hr => first | (go_simp; done) | (go_simp; rfl)); (case hp => exact (Reps.none _ _)); intro v240 w111 ho112 hb hg_ hnew_; clear hg_ hnew_; (first | rw [← Ny239.out] at ho112 | (simp only [Int.reduceToNat] at ho112; rw [← Ny239.out] at ho112)); have n0_ := Aside0.mk (Kd.R_elder' (by (with_reducible repeat (first | apply Kd.R_alloc | apply Kd.R_drewN | apply Kd.R_drew)); exact HO_5.out) (Kd.R_base ho112) hb); have n1_ := Aside0.mk (Kd.R_elder' (by (with_reducible repeat (first | apply Kd.R_alloc | apply Kd.R_drewN | apply Kd.R_drew)); exact HO221.out) (Kd.R_base ho112) hb); have n2_ := Aside0.mk (Kd.R_elder' (by (with_reducible repeat (first | apply Kd.R_alloc | apply Kd.R_drewN | apply Kd.R_drew)); exact HO224.out) (Kd.R_base ho112) hb); have n3_ := Aside0.mk (Kd.R_lower (Kd.R_newB (Kd.R_newB (Kd.R_newB (Kd.R_new' (Kd.R_new' (Kd.R_new' ho112 (Kd.R_lt (by (with_reducible repeat (first | apply Kd.R_alloc | apply Kd.R_drewN | apply Kd.R_drew)); exact HO_5.out))) (Kd.R_lt (by (with_reducible repeat (first | apply Kd.R_alloc | apply Kd.R_drewN | apply Kd.R_drew)); exact HO221.out))) (Kd.R_lt (by (with_reducible repeat (first | apply Kd.R_alloc | apply Kd.R_drewN | apply Kd.R_drew)); exact HO224.out))) (g := gb202) (o := .cells #[.int .u32 a0_0, .int .i64 a0_1] 24 (0, 0)) (Fit.pk BK202.out)) (g := gb217) (o := .cells #[.int .u32 t213, .int .i64 t214] 24 (0, 0)) (Fit.pk BK217.out)) (g := gb218) (o := .cells #[.int .u32 t215, .int .i64 t216] 24 (0, 0)) (Fit.pk BK218.out)) (below_size (Fit.bl HB.out))); have n4_ := Aside0.mk (blk_below (g := gb202) (Fit.pk BK202.out) hb); have n5_ := Aside0.mk (blk_below (g := gb217) (Fit.pk BK217.out) hb); have n6_ := Aside0.mk (blk_below (g := gb218) (Fit.pk BK218.out) hb); have n7_ := Aside0.mk (below_step (Fit.bl HB.out) hb); clear HO_5; clear HO221; clear HO224; clear BK202; clear BK217; clear BK218; clear HB; have HO_5 := n0_; have HO221 := n1_; have HO224 := n2_; have HO241 := n3_; have BK202 := n4_; have BK217 := n5_; have BK218 := n6_; have HB := n7_; clear n0_ n1_ n2_ n3_ n4_ n5_ n6_ n7_; clear hb ho112) | ((with_reducible refine gate_builtin (b := .append) (xs := #[.tmp 69, .tmp 70]) rfl ?_); (try (refine gate_guard (by rfl) ?_; dsimp only)); at_builtin; refine Kd.R_append_rows k24 (w0 := w) w.heap.size rfl (.tmp 69) (.tmp 70) 32 24 (.agg #[(.int .u32 0), (.int .i64 0)]) 16 rfl Tryd.underlying32 info24 rfl (by decide) (by omega) v240 y239 t219 _ _ _ (fun k_ => some k_ ≠ (.slice Ao94 x5_1.length co94 : Value).ownBlock ∧ some k_ ≠ (.slice (some ad225) t219.length co109 : Value).ownBlock ∧ some k_ ≠ (.slice Ao110 t222.length co110 : Value).ownBlock ∧ k_ ≠ gb202 ∧ k_ ≠ gb217 ∧ k_ ≠ gb218) (fun _ => False) rfl rfl ?aO ?aR (fun _ _ h => h) (fun _ h => h.elim) ?aF ?aB ?aS ?aL ?_; (case aR => repeat (first | exact (Kd.R_reads' HO221.out).2.2 | (with_reducible refine Kd.C_alloc ?_ _) | (with_reducible refine Kd.C_drewN ?_ _) | (with_reducible refine Kd.C_drew ?_))); (case aB => exact (Fit.bl HB.out)); (case aF => exact (fun k_ hk => ⟨Kd.fresh' (Kd.R_lt (by (with_reducible repeat (first | apply Kd.R_alloc | apply Kd.R_drewN | apply Kd.R_drew)); exact HO_5.out)) k_ hk, Kd.fresh' (Kd.R_lt (by (with_reducible repeat (first | apply Kd.R_alloc | apply Kd.R_drewN | apply Kd.R_drew)); exact HO221.out)) k_ hk, Kd.fresh' (Kd.R_lt (by (with_reducible repeat (first | apply Kd.R_alloc | apply Kd.R_drewN | apply Kd.R_drew)); exact HO224.out)) k_ hk, Kd.freshB (g := gb202) (o := .cells #[.int .u32 a0_0, .int .i64 a0_1] 24 (0, 0)) (Fit.pk BK202.out) k_ hk, Kd.freshB (g := gb217) (o := .cells #[.int .u32 t213, .int .i64 t214] 24 (0, 0)) (Fit.pk BK217.out) k_ hk, Kd.freshB (g := gb218) (o := .cells #[.int .u32 t215, .int .i64 t216] 24 (0, 0)) (Fit.pk BK218.out) k_ hk⟩)); (case aO => exact (by (with_reducible repeat (first | apply Kd.R_alloc | apply Kd.R_drewN | apply Kd.R_drew)); exact Kd.R_mono HO241.out (fun _ hk => ⟨hk.1.1.1.1.1.2, ⟨hk.1.1.1.1.2, ⟨hk.1.1.1.2, ⟨hk.1.1.2, ⟨hk.1.2, hk.2⟩⟩⟩⟩⟩))); (case aS => exact (below_size (Fit.bl HB.out))); (case aL => have := LMc92.out; omega); intro v243 w113 ho hb hg hat; rw [← Ny242.out] at ho; have n0_ := Aside0.mk (Kd.R_after (ok := (fun k_ => some k_ ≠ (.slice (some ad225) t219.length co109 : Value).ownBlock ∧ some k_ ≠ (.slice Ao110 t222.length co110 : Value).ownBlock ∧ k_ ≠ gb202 ∧ k_ ≠ gb217 ∧ k_ ≠ gb218)) (by (with_reducible repeat (first | apply Kd.R_alloc | apply Kd.R_drewN | apply Kd.R_drew)); exact Kd.R_mono HO_5.out (fun _ hk => ⟨⟨hk.1.1.2, ⟨hk.1.2, ⟨hk.1.1.1.1, ⟨hk.1.1.1.2.1, hk.1.1.1.2.2⟩⟩⟩⟩, hk.2⟩)) hg hat); have n1_ := Aside0.mk (blk_grown (g := gb202) (o := .cells #[.int .u32 a0_0, .int .i64 a0_1] 24 (0, 0)) (Fit.pk BK202.out) hg (Kd.R_away HO241.out (fun _ hk => hk.1.1.2))); have n2_ := Aside0.mk (blk_grown (g := gb217) (o := .cells #[.int .u32 t213, .int .i64 t214] 24 (0, 0)) (Fit.pk BK217.out) hg (Kd.R_away HO241.out (fun _ hk => hk.1.2))); have n3_ := Aside0.mk (blk_grown (g := gb218) (o := .cells #[.int .u32 t215, .int .i64 t216] 24 (0, 0)) (Fit.pk BK218.out) hg (Kd.R_away HO241.out (fun _ hk => hk.2))); have n4_ := Aside0.mk (Kd.R_after (ok := (fun k_ => some k_ ≠ (.slice Ao94 x5_1.length co94 : Value).ownBlock ∧ some k_ ≠ (.slice Ao110 t222.length co110 : Value).ownBlock ∧ k_ ≠ gb202 ∧ k_ ≠ gb217 ∧ k_ ≠ gb218)) (by (with_reducible repeat (first | apply Kd.R_alloc | apply Kd.R_drewN | apply Kd.R_drew)); exact Kd.R_mono HO221.out (fun _ hk => ⟨⟨hk.1.1.1.1.1.2, ⟨hk.1.2, ⟨hk.1.1.1.1.2, ⟨hk.1.1.1.2, hk.1.1.2⟩⟩⟩⟩, hk.2⟩)) hg hat); have n5_ := Aside0.mk (Kd.R_after (ok := (fun k_ => some k_ ≠ (.slice Ao94 x5_1.length co94 : Value).ownBlock ∧ some k_ ≠ (.slice (some ad225) t219.length co109 : Value).ownBlock ∧ k_ ≠ gb202 ∧ k_ ≠ gb217 ∧ k_ ≠ gb218)) (by (with_reducible repeat (first | apply Kd.R_alloc | apply Kd.R_drewN | apply Kd.R_drew)); exact Kd.R_mono HO224.out (fun _ hk => ⟨⟨hk.1.1.1.1.1.2, ⟨hk.1.1.1.1.2, ⟨hk.1.1.1.2, ⟨hk.1.1.2, hk.1.2⟩⟩⟩⟩, hk.2⟩)) hg hat); have n6_ := Aside0.mk (hb); have n7_ := Aside0.mk (ho); clear HO_5; clear BK202; clear BK217; clear BK218; clear HO221; clear HO224; clear HB; clear HO241; have HO_5 := n0_; have BK202 := n1_; have BK217 := n2_; have BK218 := n3_; have HO221 := n4_; have HO224 := n5_; have HB := n6_; have HO244 := n7_; clear n0_ n1_ n2_ n3_ n4_ n5_ n6_ n7_; clear ho hb hg hat) | ((with_reducible refine gate_builtin (b := .append) (xs := #[.tmp 71, .tmp 72]) rfl ?_); (try (refine gate_guard (by rfl) ?_; dsimp only)); at_builtin; refine Kd.R_append_rows k24 (w0 := w) w.heap.size rfl (.tmp 71) (.tmp 72) 32 24 (.agg #[(.int .u32 0), (.int .i64 0)]) 16 rfl Tryd.underlying32 info24 rfl (by decide) (by omega) v243 y242 t222 _ _ _ (fun k_ => some k_ ≠ (.slice Ao94 x5_1.length co94 : Value).ownBlock ∧ some k_ ≠ (.slice (some ad225) t219.length co109 : Value).ownBlock ∧ some k_ ≠ (.slice Ao110 t222.length co110 : Value).ownBlock ∧ k_ ≠ gb202 ∧ k_ ≠ gb217 ∧ k_ ≠ gb218) (fun _ => False) rfl rfl ?aO ?aR (fun _ _ h => h) (fun _ h => h.elim) ?aF ?aB ?aS ?aL ?_; (case aR => repeat (first | exact (Kd.R_reads' HO224.out).2.2 | (with_reducible refine Kd.C_alloc ?_ _) | (with_reducible refine Kd.C_drewN ?_ _) | (with_reducible refine Kd.C_drew ?_))); (case aB => exact (Fit.bl HB.out)); (case aF => exact (fun k_ hk => ⟨Kd.fresh' (Kd.R_lt (by (with_reducible repeat (first | apply Kd.R_alloc | apply Kd.R_drewN | apply Kd.R_drew)); exact HO_5.out)) k_ hk, Kd.fresh' (Kd.R_lt (by (with_reducible repeat (first | apply Kd.R_alloc | apply Kd.R_drewN | apply Kd.R_drew)); exact HO221.out)) k_ hk, Kd.fresh' (Kd.R_lt (by (with_reducible repeat (first | apply Kd.R_alloc | apply Kd.R_drewN | apply Kd.R_drew)); exact HO224.out)) k_ hk, Kd.freshB (g := gb202) (o := .cells #[.int .u32 a0_0, .int .i64 a0_1] 24 (0, 0)) (Fit.pk BK202.out) k_ hk, Kd.freshB (g := gb217) (o := .cells #[.int .u32 t213, .int .i64 t214] 24 (0, 0)) (Fit.pk BK217.out) k_ hk, Kd.freshB (g := gb218) (o := .cells #[.int .u32 t215, .int .i64 t216] 24 (0, 0)) (Fit.pk BK218.out) k_ hk⟩)); (case aO => exact (by (with_reducible repeat (first | apply Kd.R_alloc | apply Kd.R_drewN | apply Kd.R_drew)); exact HO244.out)); (case aS => exact (below_size (Fit.bl HB.out))); (case aL => have := LMc93.out; omega); intro v246 w114 ho hb hg hat; rw [← Ny245.out] at ho; have n0_ := Aside0.mk (Kd.R_after (ok := (fun k_ => some k_ ≠ (.slice (some ad225) t219.length co109 : Value).ownBlock ∧ some k_ ≠ (.slice Ao110 t222.length co110 : Value).ownBlock ∧ k_ ≠ gb202 ∧ k_ ≠ gb217 ∧ k_ ≠ gb218)) (by (with_reducible repeat (first | apply Kd.R_alloc | apply Kd.R_drewN | apply Kd.R_drew)); exact HO_5.out) hg hat); have n1_ := Aside0.mk (blk_grown (g := gb202) (o := .cells #[.int .u32 a0_0, .int .i64 a0_1] 24 (0, 0)) (Fit.pk BK202.out) hg (Kd.R_away HO244.out (fun _ hk => hk.2.2.2.1))); have n2_ := Aside0.mk (blk_grown (g := gb217) (o := .cells #[.int .u32 t213, .int .i64 t214] 24 (0, 0)) (Fit.pk BK217.out) hg (Kd.R_away HO244.out (fun _ hk => hk.2.2.2.2.1))); have n3_ := Aside0.mk (blk_grown (g := gb218) (o := .cells #[.int .u32 t215, .int .i64 t216] 24 (0, 0)) (Fit.pk BK218.out) hg (Kd.R_away HO244.out (fun _ hk => hk.2.2.2.2.2))); have n4_ := Aside0.mk (Kd.R_after (ok := (fun k_ => some k_ ≠ (.slice Ao94 x5_1.length co94 : Value).ownBlock ∧ some k_ ≠ (.slice Ao110 t222.length co110 : Value).ownBlock ∧ k_ ≠ gb202 ∧ k_ ≠ gb217 ∧ k_ ≠ gb218)) (by (with_reducible repeat (first | apply Kd.R_alloc | apply Kd.R_drewN | apply Kd.R_drew)); exact HO221.out) hg hat); have n5_ := Aside0.mk (Kd.R_after (ok := (fun k_ => some k_ ≠ (.slice Ao94 x5_1.length co94 : Value).ownBlock ∧ some k_ ≠ (.slice (some ad225) t219.length co109 : Value).ownBlock ∧ k_ ≠ gb202 ∧ k_ ≠ gb217 ∧ k_ ≠ gb218)) (by (with_reducible repeat (first | apply Kd.R_alloc | apply Kd.R_drewN | apply Kd.R_drew)); exact HO224.out) hg hat); have n6_ := Aside0.mk (hb); have n7_ := Aside0.mk (ho); clear HO_5; clear BK202; clear BK217; clear BK218; clear HO221; clear HO224; clear HB; clear HO244; have HO_5 := n0_; have BK202 := n1_; have BK217 := n2_; have BK218 := n3_; have HO221 := n4_; have HO224 := n5_; have HB := n6_; have HO247 := n7_; clear n0_ n1_ n2_ n3_ n4_ n5_ n6_ n7_; clear ho hb hg hat))
           go_ret
           exact ⟨_, by first | rfl | (simp [errW_none, errW_some] <;> rfl) | (simp [*, errW_none, errW_some] <;> rfl), by (with_reducible repeat (first | apply Kd.R_alloc | apply Kd.R_drewN | apply Kd.R_drew)); exact Kd.R_mono HO247.out (fun _ hk => trivial), Fit.bl HB.out⟩
          ·rw [if_neg c93] at H
           exact absurd H (by simp)
         ·rw [if_neg c92] at H
          exact absurd H (by simp)
       ·rw [if_neg c45] at H
        exact absurd H (by simp)
      ·rw [if_neg c44] at H
       have c44b0 : ((t222.length : Int) == 1) = false := beq_eq_false_iff_ne.mpr c44
       have c44b1 : ((t222.length : Int) != 1) = true := bne_iff_ne.mpr c44
       obtain ⟨y248, hy248⟩ : ∃ y_ : List (S24), y_ = (([] : List (S24))) := ⟨_, rfl⟩
       replace H : (if y248.length + t219.length < 8796093022208 then ((some (y248 ++ t219 : List (S24))).bind fun y251 => (if y251.length + t222.length < 8796093022208 then (some (y251 ++ t222)) else (none))) else (none)) = some r := by first | (rw [hy248]; with_reducible exact H) | (have H2_ := (Option.bind_some _ _).symm.trans H; rw [hy248]; with_reducible exact H2_) | (have H2_ := (Option.bind_some _ _).symm.trans H; with_reducible exact H2_) | with_reducible exact H | (rw [hy248]; exact H) | exact H
       have Ny248 := Aside0.mk hy248
       clear hy248
       by_cases c115 : y248.length + t219.length < 8796093022208
       ·rw [if_pos c115] at H
        have LMc115 := Aside0.mk c115
        clear c115
        obtain ⟨y251, hy251⟩ : ∃ y_ : List (S24), y_ = (y248 ++ t219) := ⟨_, rfl⟩
        replace H : (if y251.length + t222.length < 8796093022208 then (some (y251 ++ t222)) else (none)) = some r := by first | (rw [hy251]; with_reducible exact H) | (have H2_ := (Option.bind_some _ _).symm.trans H; rw [hy251]; with_reducible exact H2_) | (have H2_ := (Option.bind_some _ _).symm.trans H; with_reducible exact H2_) | with_reducible exact H | (rw [hy251]; exact H) | exact H
        have Ny251 := Aside0.mk hy251
        clear hy251
        by_cases c116 : y251.length + t222.length < 8796093022208
        ·rw [if_pos c116] at H
         have LMc116 := Aside0.mk c116
         clear c116
         obtain ⟨y254, hy254⟩ : ∃ y_ : List (S24), y_ = (y251 ++ t222) := ⟨_, rfl⟩
         replace H : (some y254) = some r := by first | (rw [hy254]; with_reducible exact H) | (have H2_ := (Option.bind_some _ _).symm.trans H; rw [hy254]; with_reducible exact H2_) | (have H2_ := (Option.bind_some _ _).symm.trans H; with_reducible exact H2_) | with_reducible exact H | (rw [hy254]; exact H) | exact H
         have Ny254 := Aside0.mk hy254
         clear hy254
         obtain rfl := Option.some.inj H
         obtain ⟨Ao117, co117, eo117⟩ := Kd.R_slice HO_5.out
         subst eo117
         obtain ⟨hcz118_0, hcz118_1, hfz118_0⟩ := Fit.cells2 BK202.out
         try go_wp2_with (first | ((with_reducible refine gate_callee (f := 75) rfl ?_); refine goesL_ (some 36) rfl rfl Tryd.func75 (by kernel_rfl) rfl #[.agg #[.int .u32 a0_0, .int .i64 a0_1]] rfl (by (try simp only [List.map_toArray, List.map_cons, List.map_nil]); first | done | rfl | (simp only [List.length_drop, List.length_take]; rfl)) ?_; (with_reducible refine (patchbayref2_halves.calls k1 a0_0 a0_1 t213 t214 t215 t216 _ A40.out).mono ?_); rintro e w119 ⟨rfl, hb⟩; refine ⟨_, rfl, ?_⟩; have n0_ := Aside0.mk (Kd.R_below (by (with_reducible repeat (first | apply Kd.R_alloc | apply Kd.R_drewN | apply Kd.R_drew)); exact HO_5.out) hb); have n1_ := Aside0.mk (blk_below (g := gb202) (Fit.pk BK202.out) hb); have n2_ := Aside0.mk (below_step (Fit.bl HB.out) hb); clear HO_5; clear BK202; clear HB; have HO_5 := n0_; have BK202 := n1_; have HB := n2_; clear n0_ n1_ n2_; (try clear hb); (try clear hb2); (try clear hk); (try clear hi)) | ((with_reducible refine gate_dst (N := 8) rfl ?_); (try (refine gate_guard (by rfl) ?_; dsimp only)); refine box_event ?hg (N := 8) ?hd (cs := #[.int .u32 0, .int .i64 0]) (t := 24) ?hr ?_; (case hd => rfl); (case hg => rfl); (case hr => first | (go_simp; done) | (go_simp; rfl)); intro gb217 hg w120 hbox hb; have n0_ := Aside0.mk (Kd.R_below (Kd.R_elderB (by (with_reducible repeat (first | apply Kd.R_alloc | apply Kd.R_drewN | apply Kd.R_drew)); exact HO_5.out) gb217 (Nat.le_of_eq hg.symm)) hb); have n1_ := Aside0.mk (blk_below (g := gb202) (Fit.pk BK202.out) hb); have n2_ := Aside0.mk (below_step (Fit.bl HB.out) hb); have n3_ := Aside0.mk (hbox); have n4_ := Aside0.mk ((by rw [hg]; exact (below_size (Fit.bl HB.out)) : w.heap.size ≤ gb217)); have n5_ := Aside0.mk ((by rw [hg]; exact (below_size (Fit.bl HB.out)) : w.heap.size ≤ gb217)); have n6_ := Aside0.mk ((by rw [hg]; exact Nat.ne_of_lt (blk_lt (g := gb202) (Fit.pk BK202.out)) : gb202 ≠ gb217)); have n7_ := Aside0.mk ((by rw [hg]; exact Nat.ne_of_gt (blk_lt (g := gb202) (Fit.pk BK202.out)) : gb217 ≠ gb202)); clear HO_5; clear BK202; clear HB; have HO_5 := n0_; have BK202 := n1_; have HB := n2_; have BK217 := n3_; have GW217 := n4_; have GE217 := n5_; have NB202_217 := n6_; have NB217_202 := n7_; clear n0_ n1_ n2_ n3_ n4_ n5_ n6_ n7_; clear hb hbox hg) | ((with_reducible refine gate_dst (N := 9) rfl ?_); (try (refine gate_guard (by rfl) ?_; dsimp only)); refine box_event ?hg (N := 9) ?hd (cs := #[.int .u32 0, .int .i64 0]) (t := 24) ?hr ?_; (case hd => rfl); (case hg => rfl); (case hr => first | (go_simp; done) | (go_simp; rfl)); intro gb218 hg w121 hbox hb; have n0_ := Aside0.mk (Kd.R_below (Kd.R_elderB (by (with_reducible repeat (first | apply Kd.R_alloc | apply Kd.R_drewN | apply Kd.R_drew)); exact HO_5.out) gb218 (Nat.le_of_eq hg.symm)) hb); have n1_ := Aside0.mk (blk_below (g := gb202) (Fit.pk BK202.out) hb); have n2_ := Aside0.mk (blk_below (g := gb217) (Fit.pk BK217.out) hb); have n3_ := Aside0.mk (below_step (Fit.bl HB.out) hb); have n4_ := Aside0.mk (hbox); have n5_ := Aside0.mk ((by rw [hg]; exact (below_size (Fit.bl HB.out)) : w.heap.size ≤ gb218)); have n6_ := Aside0.mk ((by rw [hg]; exact (below_size (Fit.bl HB.out)) : w.heap.size ≤ gb218)); have n7_ := Aside0.mk ((by rw [hg]; exact Nat.ne_of_lt (blk_lt (g := gb202) (Fit.pk BK202.out)) : gb202 ≠ gb218)); have n8_ := Aside0.mk ((by rw [hg]; exact Nat.ne_of_gt (blk_lt (g := gb202) (Fit.pk BK202.out)) : gb218 ≠ gb202)); have n9_ := Aside0.mk ((by rw [hg]; exact Nat.ne_of_lt (blk_lt (g := gb217) (Fit.pk BK217.out)) : gb217 ≠ gb218)); have n10_ := Aside0.mk ((by rw [hg]; exact Nat.ne_of_gt (blk_lt (g := gb217) (Fit.pk BK217.out)) : gb218 ≠ gb217)); clear HO_5; clear BK202; clear BK217; clear HB; have HO_5 := n0_; have BK202 := n1_; have BK217 := n2_; have HB := n3_; have BK218 := n4_; have GW218 := n5_; have GE218 := n6_; have NB202_218 := n7_; have NB218_202 := n8_; have NB217_218 := n9_; have NB218_217 := n10_; clear n0_ n1_ n2_ n3_ n4_ n5_ n6_ n7_ n8_ n9_ n10_; clear hb hbox hg; have hnb122 := NB217_202.out; have hnc122 := NB202_217.out; have hnb123 := NB217_218.out; have hnc123 := NB218_217.out; obtain ⟨hcz124_0, hcz124_1, hfz124_0⟩ := Fit.cells2 BK217.out; have hnb125 := NB218_202.out; have hnc125 := NB202_218.out; obtain ⟨hcz126_0, hcz126_1, hfz126_0⟩ := Fit.cells2 BK218.out))
         have n0_ : Aside0 (Kd.R k24 24 ((((w121.setCell ⟨gb217, 0, none⟩ (.int .u32 t213)).setCell ⟨gb217, 1, none⟩ (.int .i64 t214)).setCell ⟨gb218, 0, none⟩ (.int .u32 t215)).setCell ⟨gb218, 1, none⟩ (.int .i64 t216)) w.heap.size (fun k_ => k_ ≠ gb202 ∧ k_ ≠ gb217 ∧ k_ ≠ gb218) (.slice Ao117 x5_1.length co117) x5_1) := ⟨by (with_reducible repeat (first | apply Kd.R_alloc | apply Kd.R_drewN | apply Kd.R_drew)); exact Kd.R_mono (Kd.R_far (p := ⟨gb218, 1, none⟩) (Kd.R_far (p := ⟨gb218, 0, none⟩) (Kd.R_far (p := ⟨gb217, 1, none⟩) (Kd.R_far (p := ⟨gb217, 0, none⟩) (Kd.R_mono (Kd.R_mono HO_5.out (fun k_ hk => (⟨hk, hk.1.2⟩ : _ ∧ k_ ≠ gb217))) (fun k_ hk => (⟨hk, hk.1.2⟩ : _ ∧ k_ ≠ gb218))) (fun _ hk => hk.1.2) (.int .u32 t213)) (fun _ hk => hk.1.2) (.int .i64 t214)) (fun _ hk => hk.2) (.int .u32 t215)) (fun _ hk => hk.2) (.int .i64 t216)) (fun _ hk => ⟨hk.1.1.1.1, ⟨hk.1.1.1.2, hk.1.1.2⟩⟩)⟩
         have n1_ : Aside0 (((((w121.setCell ⟨gb217, 0, none⟩ (.int .u32 t213)).setCell ⟨gb217, 1, none⟩ (.int .i64 t214)).setCell ⟨gb218, 0, none⟩ (.int .u32 t215)).setCell ⟨gb218, 1, none⟩ (.int .i64 t216)).heap[gb202]? = some (.cells #[.int .u32 a0_0, .int .i64 a0_1] 24 (0, 0))) := ⟨by (with_reducible repeat first | apply blk_drewN | apply blk_drew | apply blk_alloc); refine blk_far ?_ NB202_218.out _; (with_reducible repeat first | apply blk_drewN | apply blk_drew | apply blk_alloc); refine blk_far ?_ NB202_218.out _; (with_reducible repeat first | apply blk_drewN | apply blk_drew | apply blk_alloc); refine blk_far ?_ NB202_217.out _; (with_reducible repeat first | apply blk_drewN | apply blk_drew | apply blk_alloc); refine blk_far ?_ NB202_217.out _; (with_reducible repeat first | apply blk_drewN | apply blk_drew | apply blk_alloc); exact BK202.out⟩
         have n2_ : Aside0 (((((w121.setCell ⟨gb217, 0, none⟩ (.int .u32 t213)).setCell ⟨gb217, 1, none⟩ (.int .i64 t214)).setCell ⟨gb218, 0, none⟩ (.int .u32 t215)).setCell ⟨gb218, 1, none⟩ (.int .i64 t216)).heap[gb217]? = some (.cells #[.int .u32 t213, .int .i64 t214] 24 (0, 0))) := ⟨by (with_reducible repeat first | apply blk_drewN | apply blk_drew | apply blk_alloc); refine blk_far ?_ NB217_218.out _; (with_reducible repeat first | apply blk_drewN | apply blk_drew | apply blk_alloc); refine blk_far ?_ NB217_218.out _; (with_reducible repeat first | apply blk_drewN | apply blk_drew | apply blk_alloc); refine blk_put (cs := #[.int .u32 t213, .int .i64 0]) ?_ 1 _ rfl; (with_reducible repeat first | apply blk_drewN | apply blk_drew | apply blk_alloc); refine blk_put (cs := #[.int .u32 0, .int .i64 0]) ?_ 0 _ rfl; (with_reducible repeat first | apply blk_drewN | apply blk_drew | apply blk_alloc); exact BK217.out⟩
         have n3_ : Aside0 (((((w121.setCell ⟨gb217, 0, none⟩ (.int .u32 t213)).setCell ⟨gb217, 1, none⟩ (.int .i64 t214)).setCell ⟨gb218, 0, none⟩ (.int .u32 t215)).setCell ⟨gb218, 1, none⟩ (.int .i64 t216)).heap[gb218]? = some (.cells #[.int .u32 t215, .int .i64 t216] 24 (0, 0))) := ⟨by (with_reducible repeat first | apply blk_drewN | apply blk_drew | apply blk_alloc); refine blk_put (cs := #[.int .u32 t215, .int .i64 0]) ?_ 1 _ rfl; (with_reducible repeat first | apply blk_drewN | apply blk_drew | apply blk_alloc); refine blk_put (cs := #[.int .u32 0, .int .i64 0]) ?_ 0 _ rfl; (with_reducible repeat first | apply blk_drewN | apply blk_drew | apply blk_alloc); refine blk_far ?_ NB218_217.out _; (with_reducible repeat first | apply blk_drewN | apply blk_drew | apply blk_alloc); refine blk_far ?_ NB218_217.out _; (with_reducible repeat first | apply blk_drewN | apply blk_drew | apply blk_alloc); exact BK218.out⟩
         have n4_ : Aside0 (Below w.heap.size w ((((w121.setCell ⟨gb217, 0, none⟩ (.int .u32 t213)).setCell ⟨gb217, 1, none⟩ (.int .i64 t214)).setCell ⟨gb218, 0, none⟩ (.int .u32 t215)).setCell ⟨gb218, 1, none⟩ (.int .i64 t216))) := ⟨Fit.bl HB.out⟩
         (try clear HO_5)
         (try clear BK202)
         (try clear BK217)
         (try clear BK218)
         (try clear HB)
         generalize ((((w121.setCell ⟨gb217, 0, none⟩ (.int .u32 t213)).setCell ⟨gb217, 1, none⟩ (.int .i64 t214)).setCell ⟨gb218, 0, none⟩ (.int .u32 t215)).setCell ⟨gb218, 1, none⟩ (.int .i64 t216)) = w127 at n0_ n1_ n2_ n3_ n4_ ⊢
         have HO_5 := n0_
         have BK202 := n1_
         have BK217 := n2_
         have BK218 := n3_
         have HB := n4_
         clear n0_ n1_ n2_ n3_ n4_
         have n0_ := Aside0.mk (Kd.R_drew HO_5.out)
         have n1_ := Aside0.mk (blk_drew BK202.out)
         have n2_ := Aside0.mk (blk_drew BK217.out)
         have n3_ := Aside0.mk (blk_drew BK218.out)
         have n4_ := Aside0.mk (below_drew1 HB.out)
         clear HO_5
         clear BK202
         clear BK217
         clear BK218
         clear HB
         have HO_5 := n0_
         have BK202 := n1_
         have BK217 := n2_
         have BK218 := n3_
         have HB := n4_
         clear n0_ n1_ n2_ n3_ n4_
         refine start_ (n := 8) (S := fun w' => w'.cell? ⟨gb217, 0, none⟩ = some (.int .u32 t213) ∧ w'.cell? ⟨gb217, 1, none⟩ = some (.int .i64 t214) ∧ w'.cell? ⟨gb218, 0, none⟩ = some (.int .u32 t215) ∧ w'.cell? ⟨gb218, 1, none⟩ = some (.int .i64 t216)) (ds := []) #[false, false, false, false, false, false, false, false] (by kernel_rfl) rfl rfl ⟨(blk_cell BK217.out 0).trans rfl, (blk_cell BK217.out 1).trans rfl, (blk_cell BK218.out 0).trans rfl, (blk_cell BK218.out 1).trans rfl⟩ (fun hHeld => ?_); refine with_tabW patchbayref2_cover.tab13 patchbayref2_cover.bits13 (fun HT_ HW_ => ?_)
         generalize w127.drew = w128 at HO_5 BK202 BK217 BK218 HB hHeld ⊢
         refine pure_ (i := 1) (N := some 40) (v := ?_) (a' := ?_) #[false, true, false, false, false, false, false, false] rfl rfl (any_of HT_.out (by kernel_rfl)) (fun _ _ _ h => h) (Or.inl ⟨by rfl, ?_⟩) ?_ ?_
         rotate_left
         ·intro w'
          go_simp
          with_reducible rfl
         rotate_left
         ·simp only [Act.put, List.setIfInBounds_toArray, List.set_cons_zero, List.set_cons_succ, i64_w, i32_w]
          rfl
         refine pure_ (i := 4) (N := some 43) (v := ?_) (a' := ?_) #[false, true, false, false, true, false, false, false] rfl rfl (any_of HT_.out (by kernel_rfl)) (fun _ _ _ h => h) (Or.inl ⟨by rfl, ?_⟩) ?_ ?_
         rotate_left
         ·intro w'
          go_simp
          with_reducible rfl
         rotate_left
         ·simp only [Act.put, List.setIfInBounds_toArray, List.set_cons_zero, List.set_cons_succ, i64_w, i32_w]
          rfl
         refine take_ (i := 0) (N := some 39) (v := ?_) (a' := ?_) #[true, true, false, false, true, false, false, false] rfl rfl (take_ofW HT_.out HW_.out (by kernel_rfl)) (fun _ _ _ h => h) (Or.inl ⟨by rfl, ?_⟩) hHeld ?_ ?_
         rotate_left
         ·rintro w' ⟨s0, s1, s2, s3⟩
          go_simp
          with_reducible rfl
         rotate_left
         ·simp only [Act.put, List.setIfInBounds_toArray, List.set_cons_zero, List.set_cons_succ, i64_w, i32_w]
          rfl
         refine take_ (i := 3) (N := some 42) (v := ?_) (a' := ?_) #[true, true, false, true, true, false, false, false] rfl rfl (take_ofW HT_.out HW_.out (by kernel_rfl)) (fun _ _ _ h => h) (Or.inl ⟨by rfl, ?_⟩) hHeld ?_ ?_
         rotate_left
         ·rintro w' ⟨s0, s1, s2, s3⟩
          go_simp
          with_reducible rfl
         rotate_left
         ·simp only [Act.put, List.setIfInBounds_toArray, List.set_cons_zero, List.set_cons_succ, i64_w, i32_w]
          rfl
         refine one_ (i := 2) (N := some 41) #[true, true, true, true, true, false, false, false] rfl rfl (one_of HT_.out (by kernel_rfl)) (by decide) (fun K hK => ?_)
         refine goes_ Tryd.func53 (by kernel_rfl) rfl #[.agg #[.int .u32 t213, .int .i64 t214], .slice Ao117 x5_1.length co117] (by rfl) rfl rfl (by (try simp only [List.map_toArray, List.map_cons, List.map_nil]); first | done | rfl | (simp only [List.length_drop, List.length_take]; rfl)) ?_
         with_reducible refine (ih k1 (by have := HK1.out; omega) t213 t214 _ _ x5_1 t219 _ ?side1 ?side2 A41.out).mono ?_
         (case side1 => repeat (first | exact (Kd.R_reads' HO_5.out).2.2 | (with_reducible refine Kd.C_alloc ?_ _) | (with_reducible refine Kd.C_drewN ?_ _) | (with_reducible refine Kd.C_drew ?_)))
         (case side2 => exact (Kd.R_reads' HO_5.out).2.1)
         rintro e w129 ⟨v220, rfl, ho0, hb⟩
         refine ⟨_, rfl, ?_⟩
         have n0_ := Aside0.mk (Kd.R_elder' (by (with_reducible repeat (first | apply Kd.R_alloc | apply Kd.R_drewN | apply Kd.R_drew)); exact HO_5.out) (Kd.R_base ho0) hb)
         have n1_ := Aside0.mk (Kd.R_lower (Kd.R_newB (Kd.R_newB (Kd.R_newB (Kd.R_new' ho0 (Kd.R_lt (by (with_reducible repeat (first | apply Kd.R_alloc | apply Kd.R_drewN | apply Kd.R_drew)); exact HO_5.out))) (g := gb202) (o := .cells #[.int .u32 a0_0, .int .i64 a0_1] 24 (0, 0)) (Fit.pk BK202.out)) (g := gb217) (o := .cells #[.int .u32 t213, .int .i64 t214] 24 (0, 0)) (Fit.pk BK217.out)) (g := gb218) (o := .cells #[.int .u32 t215, .int .i64 t216] 24 (0, 0)) (Fit.pk BK218.out)) (below_size (Fit.bl HB.out)))
         have n2_ := Aside0.mk (blk_below (g := gb202) (Fit.pk BK202.out) hb)
         have n3_ := Aside0.mk (blk_below (g := gb217) (Fit.pk BK217.out) hb)
         have n4_ := Aside0.mk (blk_below (g := gb218) (Fit.pk BK218.out) hb)
         have n5_ := Aside0.mk (below_step (Fit.bl HB.out) hb)
         clear HO_5
         clear BK202
         clear BK217
         clear BK218
         clear HB
         have HO_5 := n0_
         have HO221 := n1_
         have BK202 := n2_
         have BK217 := n3_
         have BK218 := n4_
         have HB := n5_
         clear n0_ n1_ n2_ n3_ n4_ n5_
         (try clear hb)
         (try clear hb2)
         (try clear hk)
         (try clear hi)
         (try clear ho0)
         refine hK.out _ _ ⟨(blk_cell BK217.out 0).trans rfl, (blk_cell BK217.out 1).trans rfl, (blk_cell BK218.out 0).trans rfl, (blk_cell BK218.out 1).trans rfl⟩ (fun hHeld => ?_)
         clear hK K
         refine norm_ (a' := ?_) ?_ ?_
         rotate_left
         ·show Act.put _ (some 41) _ = _
          simp only [Act.put, List.setIfInBounds_toArray, List.set_cons_zero, List.set_cons_succ, i64_w, i32_w]
          rfl
         refine one_ (i := 5) (N := some 44) #[true, true, true, true, true, true, false, false] rfl rfl (one_of HT_.out (by kernel_rfl)) (by decide) (fun K hK => ?_)
         refine goes_ Tryd.func53 (by kernel_rfl) rfl #[.agg #[.int .u32 t215, .int .i64 t216], .slice Ao117 x5_1.length co117] (by rfl) rfl rfl (by (try simp only [List.map_toArray, List.map_cons, List.map_nil]); first | done | rfl | (simp only [List.length_drop, List.length_take]; rfl)) ?_
         with_reducible refine (ih k1 (by have := HK1.out; omega) t215 t216 _ _ x5_1 t222 _ ?side1 ?side2 A42.out).mono ?_
         (case side1 => repeat (first | exact (Kd.R_reads' HO_5.out).2.2 | (with_reducible refine Kd.C_alloc ?_ _) | (with_reducible refine Kd.C_drewN ?_ _) | (with_reducible refine Kd.C_drew ?_)))
         (case side2 => exact (Kd.R_reads' HO_5.out).2.1)
         rintro e w130 ⟨v223, rfl, ho0, hb⟩
         refine ⟨_, rfl, ?_⟩
         have n0_ := Aside0.mk (Kd.R_elder' (by (with_reducible repeat (first | apply Kd.R_alloc | apply Kd.R_drewN | apply Kd.R_drew)); exact HO_5.out) (Kd.R_base ho0) hb)
         have n1_ := Aside0.mk (Kd.R_elder' (by (with_reducible repeat (first | apply Kd.R_alloc | apply Kd.R_drewN | apply Kd.R_drew)); exact HO221.out) (Kd.R_base ho0) hb)
         have n2_ := Aside0.mk (Kd.R_lower (Kd.R_newB (Kd.R_newB (Kd.R_newB (Kd.R_new' (Kd.R_new' ho0 (Kd.R_lt (by (with_reducible repeat (first | apply Kd.R_alloc | apply Kd.R_drewN | apply Kd.R_drew)); exact HO_5.out))) (Kd.R_lt (by (with_reducible repeat (first | apply Kd.R_alloc | apply Kd.R_drewN | apply Kd.R_drew)); exact HO221.out))) (g := gb202) (o := .cells #[.int .u32 a0_0, .int .i64 a0_1] 24 (0, 0)) (Fit.pk BK202.out)) (g := gb217) (o := .cells #[.int .u32 t213, .int .i64 t214] 24 (0, 0)) (Fit.pk BK217.out)) (g := gb218) (o := .cells #[.int .u32 t215, .int .i64 t216] 24 (0, 0)) (Fit.pk BK218.out)) (below_size (Fit.bl HB.out)))
         have n3_ := Aside0.mk (blk_below (g := gb202) (Fit.pk BK202.out) hb)
         have n4_ := Aside0.mk (blk_below (g := gb217) (Fit.pk BK217.out) hb)
         have n5_ := Aside0.mk (blk_below (g := gb218) (Fit.pk BK218.out) hb)
         have n6_ := Aside0.mk (below_step (Fit.bl HB.out) hb)
         clear HO_5
         clear HO221
         clear BK202
         clear BK217
         clear BK218
         clear HB
         have HO_5 := n0_
         have HO221 := n1_
         have HO224 := n2_
         have BK202 := n3_
         have BK217 := n4_
         have BK218 := n5_
         have HB := n6_
         clear n0_ n1_ n2_ n3_ n4_ n5_ n6_
         (try clear hb)
         (try clear hb2)
         (try clear hk)
         (try clear hi)
         (try clear ho0)
         refine hK.out _ _ ⟨(blk_cell BK217.out 0).trans rfl, (blk_cell BK217.out 1).trans rfl, (blk_cell BK218.out 0).trans rfl, (blk_cell BK218.out 1).trans rfl⟩ (fun hHeld => ?_)
         clear hK K
         refine norm_ (a' := ?_) ?_ ?_
         rotate_left
         ·show Act.put _ (some 44) _ = _
          simp only [Act.put, List.setIfInBounds_toArray, List.set_cons_zero, List.set_cons_succ, i64_w, i32_w]
          rfl
         refine pure_ (i := 6) (N := some 10) (v := ?_) (a' := ?_) #[true, true, true, true, true, true, true, false] rfl rfl (any_of HT_.out (by kernel_rfl)) (fun _ _ _ h => h) (Or.inl ⟨by rfl, ?_⟩) ?_ ?_
         rotate_left
         ·intro w'
          go_simp
          with_reducible rfl
         rotate_left
         ·simp only [Act.put, List.setIfInBounds_toArray, List.set_cons_zero, List.set_cons_succ, i64_w, i32_w]
          rfl
         refine pure_ (i := 7) (N := some 11) (v := ?_) (a' := ?_) #[true, true, true, true, true, true, true, true] rfl rfl (any_of HT_.out (by kernel_rfl)) (fun _ _ _ h => h) (Or.inl ⟨by rfl, ?_⟩) ?_ ?_
         rotate_left
         ·intro w'
          go_simp
          with_reducible rfl
         rotate_left
         ·simp only [Act.put, List.setIfInBounds_toArray, List.set_cons_zero, List.set_cons_succ, i64_w, i32_w]
          rfl
         refine done_ (done_of HT_.out (by kernel_rfl)) ?_
         try go_wp2
         have n0_ := Aside0.mk (Kd.R_drew HO_5.out)
         have n1_ := Aside0.mk (Kd.R_drew HO221.out)
         have n2_ := Aside0.mk (Kd.R_drew HO224.out)
         have n3_ := Aside0.mk (blk_drew BK202.out)
         have n4_ := Aside0.mk (blk_drew BK217.out)
         have n5_ := Aside0.mk (blk_drew BK218.out)
         have n6_ := Aside0.mk (below_drew1 HB.out)
         clear HO_5
         clear HO221
         clear HO224
         clear BK202
         clear BK217
         clear BK218
         clear HB
         have HO_5 := n0_
         have HO221 := n1_
         have HO224 := n2_
         have BK202 := n3_
         have BK217 := n4_
         have BK218 := n5_
         have HB := n6_
         clear n0_ n1_ n2_ n3_ n4_ n5_ n6_
         obtain ⟨Ao132, co132, eo132⟩ := Kd.R_slice HO221.out
         (first | subst eo132 | (injection eo132 with f1_ f2_ f3_; have f4_ := f1_.symm; have f5_ := f3_.symm; clear f1_ f2_ f3_; subst f4_; subst f5_))
         obtain ⟨Ao133, co133, eo133⟩ := Kd.R_slice HO224.out
         (first | subst eo133 | (injection eo133 with f1_ f2_ f3_; have f4_ := f1_.symm; have f5_ := f3_.symm; clear f1_ f2_ f3_; subst f4_; subst f5_))
         refine start_ (n := 22) (S := fun w' => True) (ds := []) #[false, false, false, false, false, false, false, false, false, false, false, false, false, false, false, false, false, false, false, false, false, false] (by kernel_rfl) rfl rfl trivial (fun hHeld => ?_); refine with_tabW patchbayref2_cover.tab14 patchbayref2_cover.bits14 (fun HT_ HW_ => ?_)
         generalize w130.drew = w131 at HO_5 HO221 HO224 BK202 BK217 BK218 HB hHeld ⊢
         refine pure_ (i := 0) (N := some 45) (v := ?_) (a' := ?_) #[true, false, false, false, false, false, false, false, false, false, false, false, false, false, false, false, false, false, false, false, false, false] rfl rfl (any_of HT_.out (by kernel_rfl)) (fun _ _ _ h => h) (Or.inl ⟨by rfl, ?_⟩) ?_ ?_
         rotate_left
         ·intro w'
          go_simp
          with_reducible rfl
         rotate_left
         ·simp only [Act.put, List.setIfInBounds_toArray, List.set_cons_zero, List.set_cons_succ, i64_w, i32_w]
          rfl
         refine pure_ (i := 1) (N := some 46) (v := ?_) (a' := ?_) #[true, true, false, false, false, false, false, false, false, false, false, false, false, false, false, false, false, false, false, false, false, false] rfl rfl (any_of HT_.out (by kernel_rfl)) (fun _ _ _ h => h) (Or.inl ⟨by rfl, ?_⟩) ?_ ?_
         rotate_left
         ·intro w'
          go_simp
          with_reducible rfl
         rotate_left
         ·simp only [Act.put, List.setIfInBounds_toArray, List.set_cons_zero, List.set_cons_succ, i64_w, i32_w]
          rfl
         refine pure_ (i := 2) (N := some 47) (v := ?_) (a' := ?_) #[true, true, true, false, false, false, false, false, false, false, false, false, false, false, false, false, false, false, false, false, false, false] rfl rfl (any_of HT_.out (by kernel_rfl)) (fun _ _ _ h => h) (Or.inl ⟨by rfl, ?_⟩) ?_ ?_
         rotate_left
         ·intro w'
          go_simp
          with_reducible rfl
         rotate_left
         ·simp only [Act.put, List.setIfInBounds_toArray, List.set_cons_zero, List.set_cons_succ, i64_w, i32_w]
          rfl
         refine pure_ (i := 3) (N := some 48) (v := ?_) (a' := ?_) #[true, true, true, true, false, false, false, false, false, false, false, false, false, false, false, false, false, false, false, false, false, false] rfl rfl (any_of HT_.out (by kernel_rfl)) (fun _ _ _ h => h) (Or.inl ⟨by rfl, ?_⟩) ?_ ?_
         rotate_left
         ·intro w'
          go_simp
          with_reducible rfl
         rotate_left
         ·simp only [Act.put, List.setIfInBounds_toArray, List.set_cons_zero, List.set_cons_succ, i64_w, i32_w]
          rfl
         refine pure_ (i := 4) (N := some 49) (v := ?_) (a' := ?_) #[true, true, true, true, true, false, false, false, false, false, false, false, false, false, false, false, false, false, false, false, false, false] rfl rfl (any_of HT_.out (by kernel_rfl)) (fun _ _ _ h => h) (Or.inl ⟨by rfl, ?_⟩) ?_ ?_
         rotate_left
         ·intro w'
          go_simp
          with_reducible rfl
         rotate_left
         ·simp only [Act.put, List.setIfInBounds_toArray, List.set_cons_zero, List.set_cons_succ, i64_w, i32_w]
          rfl
         refine pure_ (i := 5) (N := some 50) (v := ?_) (a' := ?_) #[true, true, true, true, true, true, false, false, false, false, false, false, false, false, false, false, false, false, false, false, false, false] rfl rfl (any_of HT_.out (by kernel_rfl)) (fun _ _ _ h => h) (Or.inl ⟨by rfl, ?_⟩) ?_ ?_
         rotate_left
         ·intro w'
          go_simp
          with_reducible rfl
         rotate_left
         ·simp only [Act.put, List.setIfInBounds_toArray, List.set_cons_zero, List.set_cons_succ, i64_w, i32_w]
          rfl
         refine pure_ (i := 6) (N := some 51) (v := ?_) (a' := ?_) #[true, true, true, true, true, true, true, false, false, false, false, false, false, false, false, false, false, false, false, false, false, false] rfl rfl (any_of HT_.out (by kernel_rfl)) (fun _ _ _ h => h) (Or.inl ⟨by rfl, ?_⟩) ?_ ?_
         rotate_left
         ·intro w'
          go_simp
          with_reducible rfl
         rotate_left
         ·simp only [Act.put, List.setIfInBounds_toArray, List.set_cons_zero, List.set_cons_succ, i64_w, i32_w]
          rfl
         refine pure_ (i := 7) (N := some 52) (v := ?_) (a' := ?_) #[true, true, true, true, true, true, true, true, false, false, false, false, false, false, false, false, false, false, false, false, false, false] rfl rfl (any_of HT_.out (by kernel_rfl)) (fun _ _ _ h => h) (Or.inl ⟨by rfl, ?_⟩) ?_ ?_
         rotate_left
         ·intro w'
          go_simp
          with_reducible rfl
         rotate_left
         ·simp only [Act.put, List.setIfInBounds_toArray, List.set_cons_zero, List.set_cons_succ, i64_w, i32_w]
          rfl
         refine pure_ (i := 8) (N := some 53) (v := ?_) (a' := ?_) #[true, true, true, true, true, true, true, true, true, false, false, false, false, false, false, false, false, false, false, false, false, false] rfl rfl (any_of HT_.out (by kernel_rfl)) (fun _ _ _ h => h) (Or.inl ⟨by rfl, ?_⟩) ?_ ?_
         rotate_left
         ·intro w'
          go_simp
          with_reducible rfl
         rotate_left
         ·simp only [Act.put, List.setIfInBounds_toArray, List.set_cons_zero, List.set_cons_succ, i64_w, i32_w]
          rfl
         refine pure_ (i := 9) (N := some 54) (v := undef) (a' := ?_) #[true, true, true, true, true, true, true, true, true, true, false, false, false, false, false, false, false, false, false, false, false, false] rfl rfl (any_of HT_.out (by kernel_rfl)) (fun _ _ _ h => h) (Or.inr ⟨by rfl, rfl⟩) ?_ ?_
         rotate_left
         ·simp only [Act.put, List.setIfInBounds_toArray, List.set_cons_zero, List.set_cons_succ, i64_w, i32_w]
          rfl
         refine pure_ (i := 10) (N := some 55) (v := undef) (a' := ?_) #[true, true, true, true, true, true, true, true, true, true, true, false, false, false, false, false, false, false, false, false, false, false] rfl rfl (any_of HT_.out (by kernel_rfl)) (fun _ _ _ h => h) (Or.inr ⟨by rfl, rfl⟩) ?_ ?_
         rotate_left
         ·simp only [Act.put, List.setIfInBounds_toArray, List.set_cons_zero, List.set_cons_succ, i64_w, i32_w]
          rfl
         refine pure_ (i := 11) (N := some 56) (v := undef) (a' := ?_) #[true, true, true, true, true, true, true, true, true, true, true, true, false, false, false, false, false, false, false, false, false, false] rfl rfl (any_of HT_.out (by kernel_rfl)) (fun _ _ _ h => h) (Or.inr ⟨by rfl, rfl⟩) ?_ ?_
         rotate_left
         ·simp only [Act.put, List.setIfInBounds_toArray, List.set_cons_zero, List.set_cons_succ, i64_w, i32_w]
          rfl
         refine pure_ (i := 12) (N := some 57) (v := undef) (a' := ?_) #[true, true, true, true, true, true, true, true, true, true, true, true, true, false, false, false, false, false, false, false, false, false] rfl rfl (any_of HT_.out (by kernel_rfl)) (fun _ _ _ h => h) (Or.inr ⟨by rfl, rfl⟩) ?_ ?_
         rotate_left
         ·simp only [Act.put, List.setIfInBounds_toArray, List.set_cons_zero, List.set_cons_succ, i64_w, i32_w]
          rfl
         refine pure_ (i := 13) (N := some 58) (v := undef) (a' := ?_) #[true, true, true, true, true, true, true, true, true, true, true, true, true, true, false, false, false, false, false, false, false, false] rfl rfl (any_of HT_.out (by kernel_rfl)) (fun _ _ _ h => h) (Or.inr ⟨by rfl, rfl⟩) ?_ ?_
         rotate_left
         ·simp only [Act.put, List.setIfInBounds_toArray, List.set_cons_zero, List.set_cons_succ, i64_w, i32_w]
          rfl
         refine pure_ (i := 14) (N := some 59) (v := ?_) (a' := ?_) #[true, true, true, true, true, true, true, true, true, true, true, true, true, true, true, false, false, false, false, false, false, false] rfl rfl (any_of HT_.out (by kernel_rfl)) (fun _ _ _ h => h) (Or.inl ⟨by rfl, ?_⟩) ?_ ?_
         rotate_left
         ·intro w'
          go_simp
          with_reducible rfl
         rotate_left
         ·simp only [Act.put, List.setIfInBounds_toArray, List.set_cons_zero, List.set_cons_succ, i64_w, i32_w]
          rfl
         refine pure_ (i := 15) (N := some 60) (v := ?_) (a' := ?_) #[true, true, true, true, true, true, true, true, true, true, true, true, true, true, true, true, false, false, false, false, false, false] rfl rfl (any_of HT_.out (by kernel_rfl)) (fun _ _ _ h => h) (Or.inl ⟨by rfl, ?_⟩) ?_ ?_
         rotate_left
         ·intro w'
          go_simp
          with_reducible rfl
         rotate_left
         ·simp only [Act.put, List.setIfInBounds_toArray, List.set_cons_zero, List.set_cons_succ, i64_w, i32_w]
          rfl
         refine pure_ (i := 16) (N := some 61) (v := undef) (a' := ?_) #[true, true, true, true, true, true, true, true, true, true, true, true, true, true, true, true, true, false, false, false, false, false] rfl rfl (any_of HT_.out (by kernel_rfl)) (fun _ _ _ h => h) (Or.inr ⟨by rfl, rfl⟩) ?_ ?_
         rotate_left
         ·simp only [Act.put, List.setIfInBounds_toArray, List.set_cons_zero, List.set_cons_succ, i64_w, i32_w]
          rfl
         refine pure_ (i := 17) (N := some 62) (v := undef) (a' := ?_) #[true, true, true, true, true, true, true, true, true, true, true, true, true, true, true, true, true, true, false, false, false, false] rfl rfl (any_of HT_.out (by kernel_rfl)) (fun _ _ _ h => h) (Or.inr ⟨by rfl, rfl⟩) ?_ ?_
         rotate_left
         ·simp only [Act.put, List.setIfInBounds_toArray, List.set_cons_zero, List.set_cons_succ, i64_w, i32_w]
          rfl
         refine pure_ (i := 18) (N := some 63) (v := undef) (a' := ?_) #[true, true, true, true, true, true, true, true, true, true, true, true, true, true, true, true, true, true, true, false, false, false] rfl rfl (any_of HT_.out (by kernel_rfl)) (fun _ _ _ h => h) (Or.inr ⟨by rfl, rfl⟩) ?_ ?_
         rotate_left
         ·simp only [Act.put, List.setIfInBounds_toArray, List.set_cons_zero, List.set_cons_succ, i64_w, i32_w]
          rfl
         refine pure_ (i := 19) (N := some 64) (v := undef) (a' := ?_) #[true, true, true, true, true, true, true, true, true, true, true, true, true, true, true, true, true, true, true, true, false, false] rfl rfl (any_of HT_.out (by kernel_rfl)) (fun _ _ _ h => h) (Or.inr ⟨by rfl, rfl⟩) ?_ ?_
         rotate_left
         ·simp only [Act.put, List.setIfInBounds_toArray, List.set_cons_zero, List.set_cons_succ, i64_w, i32_w]
          rfl
         refine pure_ (i := 20) (N := some 65) (v := undef) (a' := ?_) #[true, true, true, true, true, true, true, true, true, true, true, true, true, true, true, true, true, true, true, true, true, false] rfl rfl (any_of HT_.out (by kernel_rfl)) (fun _ _ _ h => h) (Or.inr ⟨by rfl, rfl⟩) ?_ ?_
         rotate_left
         ·simp only [Act.put, List.setIfInBounds_toArray, List.set_cons_zero, List.set_cons_succ, i64_w, i32_w]
          rfl
         refine pure_ (i := 21) (N := some 66) (v := ?_) (a' := ?_) #[true, true, true, true, true, true, true, true, true, true, true, true, true, true, true, true, true, true, true, true, true, true] rfl rfl (any_of HT_.out (by kernel_rfl)) (fun _ _ _ h => h) (Or.inl ⟨by rfl, ?_⟩) ?_ ?_
         rotate_left
         ·intro w'
          go_simp
          with_reducible rfl
         rotate_left
         ·simp only [Act.put, List.setIfInBounds_toArray, List.set_cons_zero, List.set_cons_succ, i64_w, i32_w]
          rfl
         refine done_ (done_of HT_.out (by kernel_rfl)) ?_
         try go_wp2_with (first | ((with_reducible refine gate_dst (N := 69) rfl ?_); (try (refine gate_guard (by rfl) ?_; dsimp only)); refine Kd.R_lit k24 _ 24 ?hg (N := 69) ?hd (xs := ([] : List (S24))) (inner := []) (ok := fun _ => True) (okp := fun _ => True) ?hr ?hp (fun _ hk => hk) trivial (Below.refl _ _) (Nat.le_refl _) (by simp) ?_; (case hd => rfl); (case hg => rfl); (case hr => first | (go_simp; done) | (go_simp; rfl)); (case hp => exact (Reps.none _ _)); intro v249 w134 ho135 hb hg_ hnew_; clear hg_ hnew_; (first | rw [← Ny248.out] at ho135 | (simp only [Int.reduceToNat] at ho135; rw [← Ny248.out] at ho135)); have n0_ := Aside0.mk (Kd.R_elder' (by (with_reducible repeat (first | apply Kd.R_alloc | apply Kd.R_drewN | apply Kd.R_drew)); exact HO_5.out) (Kd.R_base ho135) hb); have n1_ := Aside0.mk (Kd.R_elder' (by (with_reducible repeat (first | apply Kd.R_alloc | apply Kd.R_drewN | apply Kd.R_drew)); exact HO221.out) (Kd.R_base ho135) hb); have n2_ := Aside0.mk (Kd.R_elder' (by (with_reducible repeat (first | apply Kd.R_alloc | apply Kd.R_drewN | apply Kd.R_drew)); exact HO224.out) (Kd.R_base ho135) hb); have n3_ := Aside0.mk (Kd.R_lower (Kd.R_newB (Kd.R_newB (Kd.R_newB (Kd.R_new' (Kd.R_new' (Kd.R_new' ho135 (Kd.R_lt (by (with_reducible repeat (first | apply Kd.R_alloc | apply Kd.R_drewN | apply Kd.R_drew)); exact HO_5.out))) (Kd.R_lt (by (with_reducible repeat (first | apply Kd.R_alloc | apply Kd.R_drewN | apply Kd.R_drew)); exact HO221.out))) (Kd.R_lt (by (with_reducible repeat (first | apply Kd.R_alloc | apply Kd.R_drewN | apply Kd.R_drew)); exact HO224.out))) (g := gb202) (o := .cells #[.int .u32 a0_0, .int .i64 a0_1] 24 (0, 0)) (Fit.pk BK202.out)) (g := gb217) (o := .cells #[.int .u32 t213, .int .i64 t214] 24 (0, 0)) (Fit.pk BK217.out)) (g := gb218) (o := .cells #[.int .u32 t215, .int .i64 t216] 24 (0, 0)) (Fit.pk BK218.out)) (below_size (Fit.bl HB.out))); have n4_ := Aside0.mk (blk_below (g := gb202) (Fit.pk BK202.out) hb); have n5_ := Aside0.mk (blk_below (g := gb217) (Fit.pk BK217.out) hb); have n6_ := Aside0.mk (blk_below (g := gb218) (Fit.pk BK218.out) hb); have n7_ := Aside0.mk (below_step (Fit.bl HB.out) hb); clear HO_5; clear HO221; clear HO224; clear BK202; clear BK217; clear BK218; clear HB; have HO_5 := n0_; have HO221 := n1_; have HO224 := n2_; have HO250 := n3_; have BK202 := n4_; have BK217 := n5_; have BK218 := n6_; have HB := n7_; clear n0_ n1_ n2_ n3_ n4_ n5_ n6_ n7_; clear hb ho135) | ((with_reducible refine gate_builtin (b := .append) (xs := #[.tmp 69, .tmp 70]) rfl ?_); (try (refine gate_guard (by rfl) ?_; dsimp only)); at_builtin; refine Kd.R_append_rows k24 (w0 := w) w.heap.size rfl (.tmp 69) (.tmp 70) 32 24 (.agg #[(.int .u32 0), (.int .i64 0)]) 16 rfl Tryd.underlying32 info24 rfl (by decide) (by omega) v249 y248 t219 _ _ _ (fun k_ => some k_ ≠ (.slice Ao117 x5_1.length co117 : Value).ownBlock ∧ some k_ ≠ (.slice Ao132 t219.length co132 : Value).ownBlock ∧ some k_ ≠ (.slice Ao133 t222.length co133 : Value).ownBlock ∧ k_ ≠ gb202 ∧ k_ ≠ gb217 ∧ k_ ≠ gb218) (fun _ => False) rfl rfl ?aO ?aR (fun _ _ h => h) (fun _ h => h.elim) ?aF ?aB ?aS ?aL ?_; (case aR => repeat (first | exact (Kd.R_reads' HO221.out).2.2 | (with_reducible refine Kd.C_alloc ?_ _) | (with_reducible refine Kd.C_drewN ?_ _) | (with_reducible refine Kd.C_drew ?_))); (case aB => exact (Fit.bl HB.out)); (case aF => exact (fun k_ hk => ⟨Kd.fresh' (Kd.R_lt (by (with_reducible repeat (first | apply Kd.R_alloc | apply Kd.R_drewN | apply Kd.R_drew)); exact HO_5.out)) k_ hk, Kd.fresh' (Kd.R_lt (by (with_reducible repeat (first | apply Kd.R_alloc | apply Kd.R_drewN | apply Kd.R_drew)); exact HO221.out)) k_ hk, Kd.fresh' (Kd.R_lt (by (with_reducible repeat (first | apply Kd.R_alloc | apply Kd.R_drewN | apply Kd.R_drew)); exact HO224.out)) k_ hk, Kd.freshB (g := gb202) (o := .cells #[.int .u32 a0_0, .int .i64 a0_1] 24 (0, 0)) (Fit.pk BK202.out) k_ hk, Kd.freshB (g := gb217) (o := .cells #[.int .u32 t213, .int .i64 t214] 24 (0, 0)) (Fit.pk BK217.out) k_ hk, Kd.freshB (g := gb218) (o := .cells #[.int .u32 t215, .int .i64 t216] 24 (0, 0)) (Fit.pk BK218.out) k_ hk⟩)); (case aO => exact (by (with_reducible repeat (first | apply Kd.R_alloc | apply Kd.R_drewN | apply Kd.R_drew)); exact Kd.R_mono HO250.out (fun _ hk => ⟨hk.1.1.1.1.1.2, ⟨hk.1.1.1.1.2, ⟨hk.1.1.1.2, ⟨hk.1.1.2, ⟨hk.1.2, hk.2⟩⟩⟩⟩⟩))); (case aS => exact (below_size (Fit.bl HB.out))); (case aL => have := LMc115.out; omega); intro v252 w136 ho hb hg hat; rw [← Ny251.out] at ho; have n0_ := Aside0.mk (Kd.R_after (ok := (fun k_ => some k_ ≠ (.slice Ao132 t219.length co132 : Value).ownBlock ∧ some k_ ≠ (.slice Ao133 t222.length co133 : Value).ownBlock ∧ k_ ≠ gb202 ∧ k_ ≠ gb217 ∧ k_ ≠ gb218)) (by (with_reducible repeat (first | apply Kd.R_alloc | apply Kd.R_drewN | apply Kd.R_drew)); exact Kd.R_mono HO_5.out (fun _ hk => ⟨⟨hk.1.1.2, ⟨hk.1.2, ⟨hk.1.1.1.1, ⟨hk.1.1.1.2.1, hk.1.1.1.2.2⟩⟩⟩⟩, hk.2⟩)) hg hat); have n1_ := Aside0.mk (blk_grown (g := gb202) (o := .cells #[.int .u32 a0_0, .int .i64 a0_1] 24 (0, 0)) (Fit.pk BK202.out) hg (Kd.R_away HO250.out (fun _ hk => hk.1.1.2))); have n2_ := Aside0.mk (blk_grown (g := gb217) (o := .cells #[.int .u32 t213, .int .i64 t214] 24 (0, 0)) (Fit.pk BK217.out) hg (Kd.R_away HO250.out (fun _ hk => hk.1.2))); have n3_ := Aside0.mk (blk_grown (g := gb218) (o := .cells #[.int .u32 t215, .int .i64 t216] 24 (0, 0)) (Fit.pk BK218.out) hg (Kd.R_away HO250.out (fun _ hk => hk.2))); have n4_ := Aside0.mk (Kd.R_after (ok := (fun k_ => some k_ ≠ (.slice Ao117 x5_1.length co117 : Value).ownBlock ∧ some k_ ≠ (.slice Ao133 t222.length co133 : Value).ownBlock ∧ k_ ≠ gb202 ∧ k_ ≠ gb217 ∧ k_ ≠ gb218)) (by (with_reducible repeat (first | apply Kd.R_alloc | apply Kd.R_drewN | apply Kd.R_drew)); exact Kd.R_mono HO221.out (fun _ hk => ⟨⟨hk.1.1.1.1.1.2, ⟨hk.1.2, ⟨hk.1.1.1.1.2, ⟨hk.1.1.1.2, hk.1.1.2⟩⟩⟩⟩, hk.2⟩)) hg hat); have n5_ := Aside0.mk (Kd.R_after (ok := (fun k_ => some k_ ≠ (.slice Ao117 x5_1.length co117 : Value).ownBlock ∧ some k_ ≠ (.slice Ao132 t219.length co132 : Value).ownBlock ∧ k_ ≠ gb202 ∧ k_ ≠ gb217 ∧ k_ ≠ gb218)) (by (with_reducible repeat (first | apply Kd.R_alloc | apply Kd.R_drewN | apply Kd.R_drew)); exact Kd.R_mono HO224.out (fun _ hk => ⟨⟨hk.1.1.1.1.1.2, ⟨hk.1.1.1.1.2, ⟨hk.1.1.1.2, ⟨hk.1.1.2, hk.1.2⟩⟩⟩⟩, hk.2⟩)) hg hat); have n6_ := Aside0.mk (hb); have n7_ := Aside0.mk (ho); clear HO_5; clear BK202; clear BK217; clear BK218; clear HO221; clear HO224; clear HB; clear HO250; have HO_5 := n0_; have BK202 := n1_; have BK217 := n2_; have BK218 := n3_; have HO221 := n4_; have HO224 := n5_; have HB := n6_; have HO253 := n7_; clear n0_ n1_ n2_ n3_ n4_ n5_ n6_ n7_; clear ho hb hg hat) | ((with_reducible refine gate_builtin (b := .append) (xs := #[.tmp 71, .tmp 72]) rfl ?_); (try (refine gate_guard (by rfl) ?_; dsimp only)); at_builtin; refine Kd.R_append_rows k24 (w0 := w) w.heap.size rfl (.tmp 71) (.tmp 72) 32 24 (.agg #[(.int .u32 0), (.int .i64 0)]) 16 rfl Tryd.underlying32 info24 rfl (by decide) (by omega) v252 y251 t222 _ _ _ (fun k_ => some k_ ≠ (.slice Ao117 x5_1.length co117 : Value).ownBlock ∧ some k_ ≠ (.slice Ao132 t219.length co132 : Value).ownBlock ∧ some k_ ≠ (.slice Ao133 t222.length co133 : Value).ownBlock ∧ k_ ≠ gb202 ∧ k_ ≠ gb217 ∧ k_ ≠ gb218) (fun _ => False) rfl rfl ?aO ?aR (fun _ _ h => h) (fun _ h => h.elim) ?aF ?aB ?aS ?aL ?_; (case aR => repeat (first | exact (Kd.R_reads' HO224.out).2.2 | (with_reducible refine Kd.C_alloc ?_ _) | (with_reducible refine Kd.C_drewN ?_ _) | (with_reducible refine Kd.C_drew ?_))); (case aB => exact (Fit.bl HB.out)); (case aF => exact (fun k_ hk => ⟨Kd.fresh' (Kd.R_lt (by (with_reducible repeat (first | apply Kd.R_alloc | apply Kd.R_drewN | apply Kd.R_drew)); exact HO_5.out)) k_ hk, Kd.fresh' (Kd.R_lt (by (with_reducible repeat (first | apply Kd.R_alloc | apply Kd.R_drewN | apply Kd.R_drew)); exact HO221.out)) k_ hk, Kd.fresh' (Kd.R_lt (by (with_reducible repeat (first | apply Kd.R_alloc | apply Kd.R_drewN | apply Kd.R_drew)); exact HO224.out)) k_ hk, Kd.freshB (g := gb202) (o := .cells #[.int .u32 a0_0, .int .i64 a0_1] 24 (0, 0)) (Fit.pk BK202.out) k_ hk, Kd.freshB (g := gb217) (o := .cells #[.int .u32 t213, .int .i64 t214] 24 (0, 0)) (Fit.pk BK217.out) k_ hk, Kd.freshB (g := gb218) (o := .cells #[.int .u32 t215, .int .i64 t216] 24 (0, 0)) (Fit.pk BK218.out) k_ hk⟩)); (case aO => exact (by (with_reducible repeat (first | apply Kd.R_alloc | apply Kd.R_drewN | apply Kd.R_drew)); exact HO253.out)); (case aS => exact (below_size (Fit.bl HB.out))); (case aL => have := LMc116.out; omega); intro v255 w137 ho hb hg hat; rw [← Ny254.out] at ho; have n0_ := Aside0.mk (Kd.R_after (ok := (fun k_ => some k_ ≠ (.slice Ao132 t219.length co132 : Value).ownBlock ∧ some k_ ≠ (.slice Ao133 t222.length co133 : Value).ownBlock ∧ k_ ≠ gb202 ∧ k_ ≠ gb217 ∧ k_ ≠ gb218)) (by (with_reducible repeat (first | apply Kd.R_alloc | apply Kd.R_drewN | apply Kd.R_drew)); exact HO_5.out) hg hat); have n1_ := Aside0.mk (blk_grown (g := gb202) (o := .cells #[.int .u32 a0_0, .int .i64 a0_1] 24 (0, 0)) (Fit.pk BK202.out) hg (Kd.R_away HO253.out (fun _ hk => hk.2.2.2.1))); have n2_ := Aside0.mk (blk_grown (g := gb217) (o := .cells #[.int .u32 t213, .int .i64 t214] 24 (0, 0)) (Fit.pk BK217.out) hg (Kd.R_away HO253.out (fun _ hk => hk.2.2.2.2.1))); have n3_ := Aside0.mk (blk_grown (g := gb218) (o := .cells #[.int .u32 t215, .int .i64 t216] 24 (0, 0)) (Fit.pk BK218.out) hg (Kd.R_away HO253.out (fun _ hk => hk.2.2.2.2.2))); have n4_ := Aside0.mk (Kd.R_after (ok := (fun k_ => some k_ ≠ (.slice Ao117 x5_1.length co117 : Value).ownBlock ∧ some k_ ≠ (.slice Ao133 t222.length co133 : Value).ownBlock ∧ k_ ≠ gb202 ∧ k_ ≠ gb217 ∧ k_ ≠ gb218)) (by (with_reducible repeat (first | apply Kd.R_alloc | apply Kd.R_drewN | apply Kd.R_drew)); exact HO221.out) hg hat); have n5_ := Aside0.mk (Kd.R_after (ok := (fun k_ => some k_ ≠ (.slice Ao117 x5_1.length co117 : Value).ownBlock ∧ some k_ ≠ (.slice Ao132 t219.length co132 : Value).ownBlock ∧ k_ ≠ gb202 ∧ k_ ≠ gb217 ∧ k_ ≠ gb218)) (by (with_reducible repeat (first | apply Kd.R_alloc | apply Kd.R_drewN | apply Kd.R_drew)); exact HO224.out) hg hat); have n6_ := Aside0.mk (hb); have n7_ := Aside0.mk (ho); clear HO_5; clear BK202; clear BK217; clear BK218; clear HO221; clear HO224; clear HB; clear HO253; have HO_5 := n0_; have BK202 := n1_; have BK217 := n2_; have BK218 := n3_; have HO221 := n4_; have HO224 := n5_; have HB := n6_; have HO256 := n7_; clear n0_ n1_ n2_ n3_ n4_ n5_ n6_ n7_; clear ho hb hg hat))
         go_ret
         exact ⟨_, by first | rfl | (simp [errW_none, errW_some] <;> rfl) | (simp [*, errW_none, errW_some] <;> rfl), by (with_reducible repeat (first | apply Kd.R_alloc | apply Kd.R_drewN | apply Kd.R_drew)); exact Kd.R_mono HO256.out (fun _ hk => trivial), Fit.bl HB.out⟩
        ·rw [if_neg c116] at H
         exact absurd H (by simp)
       ·rw [if_neg c115] at H
        exact absurd H (by simp)
     ·rw [if_neg c43] at H
      have c43b0 : ((t219.length : Int) == 1) = false := beq_eq_false_iff_ne.mpr c43
      have c43b1 : ((t219.length : Int) != 1) = true := bne_iff_ne.mpr c43
      obtain ⟨y257, hy257⟩ : ∃ y_ : List (S24), y_ = (([] : List (S24))) := ⟨_, rfl⟩
      replace H : (if y257.length + t219.length < 8796093022208 then ((some (y257 ++ t219 : List (S24))).bind fun y260 => (if y260.length + t222.length < 8796093022208 then (some (y260 ++ t222)) else (none))) else (none)) = some r := by first | (rw [hy257]; with_reducible exact H) | (have H2_ := (Option.bind_some _ _).symm.trans H; rw [hy257]; with_reducible exact H2_) | (have H2_ := (Option.bind_some _ _).symm.trans H; with_reducible exact H2_) | with_reducible exact H | (rw [hy257]; exact H) | exact H
      have Ny257 := Aside0.mk hy257
      clear hy257
      by_cases c138 : y257.length + t219.length < 8796093022208
      ·rw [if_pos c138] at H
       have LMc138 := Aside0.mk c138
       clear c138
       obtain ⟨y260, hy260⟩ : ∃ y_ : List (S24), y_ = (y257 ++ t219) := ⟨_, rfl⟩
       replace H : (if y260.length + t222.length < 8796093022208 then (some (y260 ++ t222)) else (none)) = some r := by first | (rw [hy260]; with_reducible exact H) | (have H2_ := (Option.bind_some _ _).symm.trans H; rw [hy260]; with_reducible exact H2_) | (have H2_ := (Option.bind_some _ _).symm.trans H; with_reducible exact H2_) | with_reducible exact H | (rw [hy260]; exact H) | exact H
       have Ny260 := Aside0.mk hy260
       clear hy260
       by_cases c139 : y260.length + t222.length < 8796093022208
       ·rw [if_pos c139] at H
        have LMc139 := Aside0.mk c139
        clear c139
        obtain ⟨y263, hy263⟩ : ∃ y_ : List (S24), y_ = (y260 ++ t222) := ⟨_, rfl⟩
        replace H : (some y263) = some r := by first | (rw [hy263]; with_reducible exact H) | (have H2_ := (Option.bind_some _ _).symm.trans H; rw [hy263]; with_reducible exact H2_) | (have H2_ := (Option.bind_some _ _).symm.trans H; with_reducible exact H2_) | with_reducible exact H | (rw [hy263]; exact H) | exact H
        have Ny263 := Aside0.mk hy263
        clear hy263
        obtain rfl := Option.some.inj H
        obtain ⟨Ao140, co140, eo140⟩ := Kd.R_slice HO_5.out
        subst eo140
        obtain ⟨hcz141_0, hcz141_1, hfz141_0⟩ := Fit.cells2 BK202.out
        try go_wp2_with (first | ((with_reducible refine gate_callee (f := 75) rfl ?_); refine goesL_ (some 36) rfl rfl Tryd.func75 (by kernel_rfl) rfl #[.agg #[.int .u32 a0_0, .int .i64 a0_1]] rfl (by (try simp only [List.map_toArray, List.map_cons, List.map_nil]); first | done | rfl | (simp only [List.length_drop, List.length_take]; rfl)) ?_; (with_reducible refine (patchbayref2_halves.calls k1 a0_0 a0_1 t213 t214 t215 t216 _ A40.out).mono ?_); rintro e w142 ⟨rfl, hb⟩; refine ⟨_, rfl, ?_⟩; have n0_ := Aside0.mk (Kd.R_below (by (with_reducible repeat (first | apply Kd.R_alloc | apply Kd.R_drewN | apply Kd.R_drew)); exact HO_5.out) hb); have n1_ := Aside0.mk (blk_below (g := gb202) (Fit.pk BK202.out) hb); have n2_ := Aside0.mk (below_step (Fit.bl HB.out) hb); clear HO_5; clear BK202; clear HB; have HO_5 := n0_; have BK202 := n1_; have HB := n2_; clear n0_ n1_ n2_; (try clear hb); (try clear hb2); (try clear hk); (try clear hi)) | ((with_reducible refine gate_dst (N := 8) rfl ?_); (try (refine gate_guard (by rfl) ?_; dsimp only)); refine box_event ?hg (N := 8) ?hd (cs := #[.int .u32 0, .int .i64 0]) (t := 24) ?hr ?_; (case hd => rfl); (case hg => rfl); (case hr => first | (go_simp; done) | (go_simp; rfl)); intro gb217 hg w143 hbox hb; have n0_ := Aside0.mk (Kd.R_below (Kd.R_elderB (by (with_reducible repeat (first | apply Kd.R_alloc | apply Kd.R_drewN | apply Kd.R_drew)); exact HO_5.out) gb217 (Nat.le_of_eq hg.symm)) hb); have n1_ := Aside0.mk (blk_below (g := gb202) (Fit.pk BK202.out) hb); have n2_ := Aside0.mk (below_step (Fit.bl HB.out) hb); have n3_ := Aside0.mk (hbox); have n4_ := Aside0.mk ((by rw [hg]; exact (below_size (Fit.bl HB.out)) : w.heap.size ≤ gb217)); have n5_ := Aside0.mk ((by rw [hg]; exact (below_size (Fit.bl HB.out)) : w.heap.size ≤ gb217)); have n6_ := Aside0.mk ((by rw [hg]; exact Nat.ne_of_lt (blk_lt (g := gb202) (Fit.pk BK202.out)) : gb202 ≠ gb217)); have n7_ := Aside0.mk ((by rw [hg]; exact Nat.ne_of_gt (blk_lt (g := gb202) (Fit.pk BK202.out)) : gb217 ≠ gb202)); clear HO_5; clear BK202; clear HB; have HO_5 := n0_; have BK202 := n1_; have HB := n2_; have BK217 := n3_; have GW217 := n4_; have GE217 := n5_; have NB202_217 := n6_; have NB217_202 := n7_; clear n0_ n1_ n2_ n3_ n4_ n5_ n6_ n7_; clear hb hbox hg) | ((with_reducible refine gate_dst (N := 9) rfl ?_); (try (refine gate_guard (by rfl) ?_; dsimp only)); refine box_event ?hg (N := 9) ?hd (cs := #[.int .u32 0, .int .i64 0]) (t := 24) ?hr ?_; (case hd => rfl); (case hg => rfl); (case hr => first | (go_simp; done) | (go_simp; rfl)); intro gb218 hg w144 hbox hb; have n0_ := Aside0.mk (Kd.R_below (Kd.R_elderB (by (with_reducible repeat (first | apply Kd.R_alloc | apply Kd.R_drewN | apply Kd.R_drew)); exact HO_5.out) gb218 (Nat.le_of_eq hg.symm)) hb); have n1_ := Aside0.mk (blk_below (g := gb202) (Fit.pk BK202.out) hb); have n2_ := Aside0.mk (blk_below (g := gb217) (Fit.pk BK217.out) hb); have n3_ := Aside0.mk (below_step (Fit.bl HB.out) hb); have n4_ := Aside0.mk (hbox); have n5_ := Aside0.mk ((by rw [hg]; exact (below_size (Fit.bl HB.out)) : w.heap.size ≤ gb218)); have n6_ := Aside0.mk ((by rw [hg]; exact (below_size (Fit.bl HB.out)) : w.heap.size ≤ gb218)); have n7_ := Aside0.mk ((by rw [hg]; exact Nat.ne_of_lt (blk_lt (g := gb202) (Fit.pk BK202.out)) : gb202 ≠ gb218)); have n8_ := Aside0.mk ((by rw [hg]; exact Nat.ne_of_gt (blk_lt (g := gb202) (Fit.pk BK202.out)) : gb218 ≠ gb202)); have n9_ := Aside0.mk ((by rw [hg]; exact Nat.ne_of_lt (blk_lt (g := gb217) (Fit.pk BK217.out)) : gb217 ≠ gb218)); have n10_ := Aside0.mk ((by rw [hg]; exact Nat.ne_of_gt (blk_lt (g := gb217) (Fit.pk BK217.out)) : gb218 ≠ gb217)); clear HO_5; clear BK202; clear BK217; clear HB; have HO_5 := n0_; have BK202 := n1_; have BK217 := n2_; have HB := n3_; have BK218 := n4_; have GW218 := n5_; have GE218 := n6_; have NB202_218 := n7_; have NB218_202 := n8_; have NB217_218 := n9_; have NB218_217 := n10_; clear n0_ n1_ n2_ n3_ n4_ n5_ n6_ n7_ n8_ n9_ n10_; clear hb hbox hg; have hnb145 := NB217_202.out; have hnc145 := NB202_217.out; have hnb146 := NB217_218.out; have hnc146 := NB218_217.out; obtain ⟨hcz147_0, hcz147_1, hfz147_0⟩ := Fit.cells2 BK217.out; have hnb148 := NB218_202.out; have hnc148 := NB202_218.out; obtain ⟨hcz149_0, hcz149_1, hfz149_0⟩ := Fit.cells2 BK218.out))
        have n0_ : Aside0 (Kd.R k24 24 ((((w144.setCell ⟨gb217, 0, none⟩ (.int .u32 t213)).setCell ⟨gb217, 1, none⟩ (.int .i64 t214)).setCell ⟨gb218, 0, none⟩ (.int .u32 t215)).setCell ⟨gb218, 1, none⟩ (.int .i64 t216)) w.heap.size (fun k_ => k_ ≠ gb202 ∧ k_ ≠ gb217 ∧ k_ ≠ gb218) (.slice Ao140 x5_1.length co140) x5_1) := ⟨by (with_reducible repeat (first | apply Kd.R_alloc | apply Kd.R_drewN | apply Kd.R_drew)); exact Kd.R_mono (Kd.R_far (p := ⟨gb218, 1, none⟩) (Kd.R_far (p := ⟨gb218, 0, none⟩) (Kd.R_far (p := ⟨gb217, 1, none⟩) (Kd.R_far (p := ⟨gb217, 0, none⟩) (Kd.R_mono (Kd.R_mono HO_5.out (fun k_ hk => (⟨hk, hk.1.2⟩ : _ ∧ k_ ≠ gb217))) (fun k_ hk => (⟨hk, hk.1.2⟩ : _ ∧ k_ ≠ gb218))) (fun _ hk => hk.1.2) (.int .u32 t213)) (fun _ hk => hk.1.2) (.int .i64 t214)) (fun _ hk => hk.2) (.int .u32 t215)) (fun _ hk => hk.2) (.int .i64 t216)) (fun _ hk => ⟨hk.1.1.1.1, ⟨hk.1.1.1.2, hk.1.1.2⟩⟩)⟩
        have n1_ : Aside0 (((((w144.setCell ⟨gb217, 0, none⟩ (.int .u32 t213)).setCell ⟨gb217, 1, none⟩ (.int .i64 t214)).setCell ⟨gb218, 0, none⟩ (.int .u32 t215)).setCell ⟨gb218, 1, none⟩ (.int .i64 t216)).heap[gb202]? = some (.cells #[.int .u32 a0_0, .int .i64 a0_1] 24 (0, 0))) := ⟨by (with_reducible repeat first | apply blk_drewN | apply blk_drew | apply blk_alloc); refine blk_far ?_ NB202_218.out _; (with_reducible repeat first | apply blk_drewN | apply blk_drew | apply blk_alloc); refine blk_far ?_ NB202_218.out _; (with_reducible repeat first | apply blk_drewN | apply blk_drew | apply blk_alloc); refine blk_far ?_ NB202_217.out _; (with_reducible repeat first | apply blk_drewN | apply blk_drew | apply blk_alloc); refine blk_far ?_ NB202_217.out _; (with_reducible repeat first | apply blk_drewN | apply blk_drew | apply blk_alloc); exact BK202.out⟩
        have n2_ : Aside0 (((((w144.setCell ⟨gb217, 0, none⟩ (.int .u32 t213)).setCell ⟨gb217, 1, none⟩ (.int .i64 t214)).setCell ⟨gb218, 0, none⟩ (.int .u32 t215)).setCell ⟨gb218, 1, none⟩ (.int .i64 t216)).heap[gb217]? = some (.cells #[.int .u32 t213, .int .i64 t214] 24 (0, 0))) := ⟨by (with_reducible repeat first | apply blk_drewN | apply blk_drew | apply blk_alloc); refine blk_far ?_ NB217_218.out _; (with_reducible repeat first | apply blk_drewN | apply blk_drew | apply blk_alloc); refine blk_far ?_ NB217_218.out _; (with_reducible repeat first | apply blk_drewN | apply blk_drew | apply blk_alloc); refine blk_put (cs := #[.int .u32 t213, .int .i64 0]) ?_ 1 _ rfl; (with_reducible repeat first | apply blk_drewN | apply blk_drew | apply blk_alloc); refine blk_put (cs := #[.int .u32 0, .int .i64 0]) ?_ 0 _ rfl; (with_reducible repeat first | apply blk_drewN | apply blk_drew | apply blk_alloc); exact BK217.out⟩
        have n3_ : Aside0 (((((w144.setCell ⟨gb217, 0, none⟩ (.int .u32 t213)).setCell ⟨gb217, 1, none⟩ (.int .i64 t214)).setCell ⟨gb218, 0, none⟩ (.int .u32 t215)).setCell ⟨gb218, 1, none⟩ (.int .i64 t216)).heap[gb218]? = some (.cells #[.int .u32 t215, .int .i64 t216] 24 (0, 0))) := ⟨by (with_reducible repeat first | apply blk_drewN | apply blk_drew | apply blk_alloc); refine blk_put (cs := #[.int .u32 t215, .int .i64 0]) ?_ 1 _ rfl; (with_reducible repeat first | apply blk_drewN | apply blk_drew | apply blk_alloc); refine blk_put (cs := #[.int .u32 0, .int .i64 0]) ?_ 0 _ rfl; (with_reducible repeat first | apply blk_drewN | apply blk_drew | apply blk_alloc); refine blk_far ?_ NB218_217.out _; (with_reducible repeat first | apply blk_drewN | apply blk_drew | apply blk_alloc); refine blk_far ?_ NB218_217.out _; (with_reducible repeat first | apply blk_drewN | apply blk_drew | apply blk_alloc); exact BK218.out⟩
        have n4_ : Aside0 (Below w.heap.size w ((((w144.setCell ⟨gb217, 0, none⟩ (.int .u32 t213)).setCell ⟨gb217, 1, none⟩ (.int .i64 t214)).setCell ⟨gb218, 0, none⟩ (.int .u32 t215)).setCell ⟨gb218, 1, none⟩ (.int .i64 t216))) := ⟨Fit.bl HB.out⟩
        (try clear HO_5)
        (try clear BK202)
        (try clear BK217)
        (try clear BK218)
        (try clear HB)
        generalize ((((w144.setCell ⟨gb217, 0, none⟩ (.int .u32 t213)).setCell ⟨gb217, 1, none⟩ (.int .i64 t214)).setCell ⟨gb218, 0, none⟩ (.int .u32 t215)).setCell ⟨gb218, 1, none⟩ (.int .i64 t216)) = w150 at n0_ n1_ n2_ n3_ n4_ ⊢
        have HO_5 := n0_
        have BK202 := n1_
        have BK217 := n2_
        have BK218 := n3_
        have HB := n4_
        clear n0_ n1_ n2_ n3_ n4_
        have n0_ := Aside0.mk (Kd.R_drew HO_5.out)
        have n1_ := Aside0.mk (blk_drew BK202.out)
        have n2_ := Aside0.mk (blk_drew BK217.out)
        have n3_ := Aside0.mk (blk_drew BK218.out)
        have n4_ := Aside0.mk (below_drew1 HB.out)
        clear HO_5
        clear BK202
        clear BK217
        clear BK218
        clear HB
        have HO_5 := n0_
        have BK202 := n1_
        have BK217 := n2_
        have BK218 := n3_
        have HB := n4_
        clear n0_ n1_ n2_ n3_ n4_
        refine start_ (n := 8) (S := fun w' => w'.cell? ⟨gb217, 0, none⟩ = some (.int .u32 t213) ∧ w'.cell? ⟨gb217, 1, none⟩ = some (.int .i64 t214) ∧ w'.cell? ⟨gb218, 0, none⟩ = some (.int .u32 t215) ∧ w'.cell? ⟨gb218, 1, none⟩ = some (.int .i64 t216)) (ds := []) #[false, false, false, false, false, false, false, false] (by kernel_rfl) rfl rfl ⟨(blk_cell BK217.out 0).trans rfl, (blk_cell BK217.out 1).trans rfl, (blk_cell BK218.out 0).trans rfl, (blk_cell BK218.out 1).trans rfl⟩ (fun hHeld => ?_); refine with_tabW patchbayref2_cover.tab13 patchbayref2_cover.bits13 (fun HT_ HW_ => ?_)
        generalize w150.drew = w151 at HO_5 BK202 BK217 BK218 HB hHeld ⊢
        refine pure_ (i := 1) (N := some 40) (v := ?_) (a' := ?_) #[false, true, false, false, false, false, false, false] rfl rfl (any_of HT_.out (by kernel_rfl)) (fun _ _ _ h => h) (Or.inl ⟨by rfl, ?_⟩) ?_ ?_
        rotate_left
        ·intro w'
         go_simp
         with_reducible rfl
        rotate_left
        ·simp only [Act.put, List.setIfInBounds_toArray, List.set_cons_zero, List.set_cons_succ, i64_w, i32_w]
         rfl
        refine pure_ (i := 4) (N := some 43) (v := ?_) (a' := ?_) #[false, true, false, false, true, false, false, false] rfl rfl (any_of HT_.out (by kernel_rfl)) (fun _ _ _ h => h) (Or.inl ⟨by rfl, ?_⟩) ?_ ?_
        rotate_left
        ·intro w'
         go_simp
         with_reducible rfl
        rotate_left
        ·simp only [Act.put, List.setIfInBounds_toArray, List.set_cons_zero, List.set_cons_succ, i64_w, i32_w]
         rfl
        refine take_ (i := 0) (N := some 39) (v := ?_) (a' := ?_) #[true, true, false, false, true, false, false, false] rfl rfl (take_ofW HT_.out HW_.out (by kernel_rfl)) (fun _ _ _ h => h) (Or.inl ⟨by rfl, ?_⟩) hHeld ?_ ?_
        rotate_left
        ·rintro w' ⟨s0, s1, s2, s3⟩
         go_simp
         with_reducible rfl
        rotate_left
        ·simp only [Act.put, List.setIfInBounds_toArray, List.set_cons_zero, List.set_cons_succ, i64_w, i32_w]
         rfl
        refine take_ (i := 3) (N := some 42) (v := ?_) (a' := ?_) #[true, true, false, true, true, false, false, false] rfl rfl (take_ofW HT_.out HW_.out (by kernel_rfl)) (fun _ _ _ h => h) (Or.inl ⟨by rfl, ?_⟩) hHeld ?_ ?_
        rotate_left
        ·rintro w' ⟨s0, s1, s2, s3⟩
         go_simp
         with_reducible rfl
        rotate_left
        ·simp only [Act.put, List.setIfInBounds_toArray, List.set_cons_zero, List.set_cons_succ, i64_w, i32_w]
         rfl
        refine one_ (i := 2) (N := some 41) #[true, true, true, true, true, false, false, false] rfl rfl (one_of HT_.out (by kernel_rfl)) (by decide) (fun K hK => ?_)
        refine goes_ Tryd.func53 (by kernel_rfl) rfl #[.agg #[.int .u32 t213, .int .i64 t214], .slice Ao140 x5_1.length co140] (by rfl) rfl rfl (by (try simp only [List.map_toArray, List.map_cons, List.map_nil]); first | done | rfl | (simp only [List.length_drop, List.length_take]; rfl)) ?_
        with_reducible refine (ih k1 (by have := HK1.out; omega) t213 t214 _ _ x5_1 t219 _ ?side1 ?side2 A41.out).mono ?_
        (case side1 => repeat (first | exact (Kd.R_reads' HO_5.out).2.2 | (with_reducible refine Kd.C_alloc ?_ _) | (with_reducible refine Kd.C_drewN ?_ _) | (with_reducible refine Kd.C_drew ?_)))
        (case side2 => exact (Kd.R_reads' HO_5.out).2.1)
        rintro e w152 ⟨v220, rfl, ho0, hb⟩
        refine ⟨_, rfl, ?_⟩
        have n0_ := Aside0.mk (Kd.R_elder' (by (with_reducible repeat (first | apply Kd.R_alloc | apply Kd.R_drewN | apply Kd.R_drew)); exact HO_5.out) (Kd.R_base ho0) hb)
        have n1_ := Aside0.mk (Kd.R_lower (Kd.R_newB (Kd.R_newB (Kd.R_newB (Kd.R_new' ho0 (Kd.R_lt (by (with_reducible repeat (first | apply Kd.R_alloc | apply Kd.R_drewN | apply Kd.R_drew)); exact HO_5.out))) (g := gb202) (o := .cells #[.int .u32 a0_0, .int .i64 a0_1] 24 (0, 0)) (Fit.pk BK202.out)) (g := gb217) (o := .cells #[.int .u32 t213, .int .i64 t214] 24 (0, 0)) (Fit.pk BK217.out)) (g := gb218) (o := .cells #[.int .u32 t215, .int .i64 t216] 24 (0, 0)) (Fit.pk BK218.out)) (below_size (Fit.bl HB.out)))
        have n2_ := Aside0.mk (blk_below (g := gb202) (Fit.pk BK202.out) hb)
        have n3_ := Aside0.mk (blk_below (g := gb217) (Fit.pk BK217.out) hb)
        have n4_ := Aside0.mk (blk_below (g := gb218) (Fit.pk BK218.out) hb)
        have n5_ := Aside0.mk (below_step (Fit.bl HB.out) hb)
        clear HO_5
        clear BK202
        clear BK217
        clear BK218
        clear HB
        have HO_5 := n0_
        have HO221 := n1_
        have BK202 := n2_
        have BK217 := n3_
        have BK218 := n4_
        have HB := n5_
        clear n0_ n1_ n2_ n3_ n4_ n5_
        (try clear hb)
        (try clear hb2)
        (try clear hk)
        (try clear hi)
        (try clear ho0)
        refine hK.out _ _ ⟨(blk_cell BK217.out 0).trans rfl, (blk_cell BK217.out 1).trans rfl, (blk_cell BK218.out 0).trans rfl, (blk_cell BK218.out 1).trans rfl⟩ (fun hHeld => ?_)
        clear hK K
        refine norm_ (a' := ?_) ?_ ?_
        rotate_left
        ·show Act.put _ (some 41) _ = _
         simp only [Act.put, List.setIfInBounds_toArray, List.set_cons_zero, List.set_cons_succ, i64_w, i32_w]
         rfl
        refine one_ (i := 5) (N := some 44) #[true, true, true, true, true, true, false, false] rfl rfl (one_of HT_.out (by kernel_rfl)) (by decide) (fun K hK => ?_)
        refine goes_ Tryd.func53 (by kernel_rfl) rfl #[.agg #[.int .u32 t215, .int .i64 t216], .slice Ao140 x5_1.length co140] (by rfl) rfl rfl (by (try simp only [List.map_toArray, List.map_cons, List.map_nil]); first | done | rfl | (simp only [List.length_drop, List.length_take]; rfl)) ?_
        with_reducible refine (ih k1 (by have := HK1.out; omega) t215 t216 _ _ x5_1 t222 _ ?side1 ?side2 A42.out).mono ?_
        (case side1 => repeat (first | exact (Kd.R_reads' HO_5.out).2.2 | (with_reducible refine Kd.C_alloc ?_ _) | (with_reducible refine Kd.C_drewN ?_ _) | (with_reducible refine Kd.C_drew ?_)))
        (case side2 => exact (Kd.R_reads' HO_5.out).2.1)
        rintro e w153 ⟨v223, rfl, ho0, hb⟩
        refine ⟨_, rfl, ?_⟩
        have n0_ := Aside0.mk (Kd.R_elder' (by (with_reducible repeat (first | apply Kd.R_alloc | apply Kd.R_drewN | apply Kd.R_drew)); exact HO_5.out) (Kd.R_base ho0) hb)
        have n1_ := Aside0.mk (Kd.R_elder' (by (with_reducible repeat (first | apply Kd.R_alloc | apply Kd.R_drewN | apply Kd.R_drew)); exact HO221.out) (Kd.R_base ho0) hb)
        have n2_ := Aside0.mk (Kd.R_lower (Kd.R_newB (Kd.R_newB (Kd.R_newB (Kd.R_new' (Kd.R_new' ho0 (Kd.R_lt (by (with_reducible repeat (first | apply Kd.R_alloc | apply Kd.R_drewN | apply Kd.R_drew)); exact HO_5.out))) (Kd.R_lt (by (with_reducible repeat (first | apply Kd.R_alloc | apply Kd.R_drewN | apply Kd.R_drew)); exact HO221.out))) (g := gb202) (o := .cells #[.int .u32 a0_0, .int .i64 a0_1] 24 (0, 0)) (Fit.pk BK202.out)) (g := gb217) (o := .cells #[.int .u32 t213, .int .i64 t214] 24 (0, 0)) (Fit.pk BK217.out)) (g := gb218) (o := .cells #[.int .u32 t215, .int .i64 t216] 24 (0, 0)) (Fit.pk BK218.out)) (below_size (Fit.bl HB.out)))
        have n3_ := Aside0.mk (blk_below (g := gb202) (Fit.pk BK202.out) hb)
        have n4_ := Aside0.mk (blk_below (g := gb217) (Fit.pk BK217.out) hb)
        have n5_ := Aside0.mk (blk_below (g := gb218) (Fit.pk BK218.out) hb)
        have n6_ := Aside0.mk (below_step (Fit.bl HB.out) hb)
        clear HO_5
        clear HO221
        clear BK202
        clear BK217
        clear BK218
        clear HB
        have HO_5 := n0_
        have HO221 := n1_
        have HO224 := n2_
        have BK202 := n3_
        have BK217 := n4_
        have BK218 := n5_
        have HB := n6_
        clear n0_ n1_ n2_ n3_ n4_ n5_ n6_
        (try clear hb)
        (try clear hb2)
        (try clear hk)
        (try clear hi)
        (try clear ho0)
        refine hK.out _ _ ⟨(blk_cell BK217.out 0).trans rfl, (blk_cell BK217.out 1).trans rfl, (blk_cell BK218.out 0).trans rfl, (blk_cell BK218.out 1).trans rfl⟩ (fun hHeld => ?_)
        clear hK K
        refine norm_ (a' := ?_) ?_ ?_
        rotate_left
        ·show Act.put _ (some 44) _ = _
         simp only [Act.put, List.setIfInBounds_toArray, List.set_cons_zero, List.set_cons_succ, i64_w, i32_w]
         rfl
        refine pure_ (i := 6) (N := some 10) (v := ?_) (a' := ?_) #[true, true, true, true, true, true, true, false] rfl rfl (any_of HT_.out (by kernel_rfl)) (fun _ _ _ h => h) (Or.inl ⟨by rfl, ?_⟩) ?_ ?_
        rotate_left
        ·intro w'
         go_simp
         with_reducible rfl
        rotate_left
        ·simp only [Act.put, List.setIfInBounds_toArray, List.set_cons_zero, List.set_cons_succ, i64_w, i32_w]
         rfl
        refine pure_ (i := 7) (N := some 11) (v := ?_) (a' := ?_) #[true, true, true, true, true, true, true, true] rfl rfl (any_of HT_.out (by kernel_rfl)) (fun _ _ _ h => h) (Or.inl ⟨by rfl, ?_⟩) ?_ ?_
        rotate_left
        ·intro w'
         go_simp
         with_reducible rfl
        rotate_left
        ·simp only [Act.put, List.setIfInBounds_toArray, List.set_cons_zero, List.set_cons_succ, i64_w, i32_w]
         rfl
        refine done_ (done_of HT_.out (by kernel_rfl)) ?_
        try go_wp2
        have n0_ := Aside0.mk (Kd.R_drew HO_5.out)
        have n1_ := Aside0.mk (Kd.R_drew HO221.out)
        have n2_ := Aside0.mk (Kd.R_drew HO224.out)
        have n3_ := Aside0.mk (blk_drew BK202.out)
        have n4_ := Aside0.mk (blk_drew BK217.out)
        have n5_ := Aside0.mk (blk_drew BK218.out)
        have n6_ := Aside0.mk (below_drew1 HB.out)
        clear HO_5
        clear HO221
        clear HO224
        clear BK202
        clear BK217
        clear BK218
        clear HB
        have HO_5 := n0_
        have HO221 := n1_
        have HO224 := n2_
        have BK202 := n3_
        have BK217 := n4_
        have BK218 := n5_
        have HB := n6_
        clear n0_ n1_ n2_ n3_ n4_ n5_ n6_
        obtain ⟨Ao155, co155, eo155⟩ := Kd.R_slice HO221.out
        (first | subst eo155 | (injection eo155 with f1_ f2_ f3_; have f4_ := f1_.symm; have f5_ := f3_.symm; clear f1_ f2_ f3_; subst f4_; subst f5_))
        refine start_ (n := 22) (S := fun w' => True) (ds := []) #[false, false, false, false, false, false, false, false, false, false, false, false, false, false, false, false, false, false, false, false, false, false] (by kernel_rfl) rfl rfl trivial (fun hHeld => ?_); refine with_tabW patchbayref2_cover.tab14 patchbayref2_cover.bits14 (fun HT_ HW_ => ?_)
        generalize w153.drew = w154 at HO_5 HO221 HO224 BK202 BK217 BK218 HB hHeld ⊢
        refine pure_ (i := 0) (N := some 45) (v := ?_) (a' := ?_) #[true, false, false, false, false, false, false, false, false, false, false, false, false, false, false, false, false, false, false, false, false, false] rfl rfl (any_of HT_.out (by kernel_rfl)) (fun _ _ _ h => h) (Or.inl ⟨by rfl, ?_⟩) ?_ ?_
        rotate_left
        ·intro w'
         go_simp
         with_reducible rfl
        rotate_left
        ·simp only [Act.put, List.setIfInBounds_toArray, List.set_cons_zero, List.set_cons_succ, i64_w, i32_w]
         rfl
        refine pure_ (i := 1) (N := some 46) (v := ?_) (a' := ?_) #[true, true, false, false, false, false, false, false, false, false, false, false, false, false, false, false, false, false, false, false, false, false] rfl rfl (any_of HT_.out (by kernel_rfl)) (fun _ _ _ h => h) (Or.inl ⟨by rfl, ?_⟩) ?_ ?_
        rotate_left
        ·intro w'
         go_simp
         with_reducible rfl
        rotate_left
        ·simp only [Act.put, List.setIfInBounds_toArray, List.set_cons_zero, List.set_cons_succ, i64_w, i32_w]
         rfl
        refine pure_ (i := 2) (N := some 47) (v := ?_) (a' := ?_) #[true, true, true, false, false, false, false, false, false, false, false, false, false, false, false, false, false, false, false, false, false, false] rfl rfl (any_of HT_.out (by kernel_rfl)) (fun _ _ _ h => h) (Or.inl ⟨by rfl, ?_⟩) ?_ ?_
        rotate_left
        ·intro w'
         go_simp
         with_reducible rfl
        rotate_left
        ·simp only [Act.put, List.setIfInBounds_toArray, List.set_cons_zero, List.set_cons_succ, i64_w, i32_w]
         rfl
        refine pure_ (i := 3) (N := some 48) (v := ?_) (a' := ?_) #[true, true, true, true, false, false, false, false, false, false, false, false, false, false, false, false, false, false, false, false, false, false] rfl rfl (any_of HT_.out (by kernel_rfl)) (fun _ _ _ h => h) (Or.inl ⟨by rfl, ?_⟩) ?_ ?_
        rotate_left
        ·intro w'
         go_simp
         with_reducible rfl
        rotate_left
        ·simp only [Act.put, List.setIfInBounds_toArray, List.set_cons_zero, List.set_cons_succ, i64_w, i32_w]
         rfl
        refine pure_ (i := 4) (N := some 49) (v := undef) (a' := ?_) #[true, true, true, true, true, false, false, false, false, false, false, false, false, false, false, false, false, false, false, false, false, false] rfl rfl (any_of HT_.out (by kernel_rfl)) (fun _ _ _ h => h) (Or.inr ⟨by rfl, rfl⟩) ?_ ?_
        rotate_left
        ·simp only [Act.put, List.setIfInBounds_toArray, List.set_cons_zero, List.set_cons_succ, i64_w, i32_w]
         rfl
        refine pure_ (i := 5) (N := some 50) (v := undef) (a' := ?_) #[true, true, true, true, true, true, false, false, false, false, false, false, false, false, false, false, false, false, false, false, false, false] rfl rfl (any_of HT_.out (by kernel_rfl)) (fun _ _ _ h => h) (Or.inr ⟨by rfl, rfl⟩) ?_ ?_
        rotate_left
        ·simp only [Act.put, List.setIfInBounds_toArray, List.set_cons_zero, List.set_cons_succ, i64_w, i32_w]
         rfl
        refine pure_ (i := 6) (N := some 51) (v := undef) (a' := ?_) #[true, true, true, true, true, true, true, false, false, false, false, false, false, false, false, false, false, false, false, false, false, false] rfl rfl (any_of HT_.out (by kernel_rfl)) (fun _ _ _ h => h) (Or.inr ⟨by rfl, rfl⟩) ?_ ?_
        rotate_left
        ·simp only [Act.put, List.setIfInBounds_toArray, List.set_cons_zero, List.set_cons_succ, i64_w, i32_w]
         rfl
        refine pure_ (i := 7) (N := some 52) (v := ?_) (a' := ?_) #[true, true, true, true, true, true, true, true, false, false, false, false, false, false, false, false, false, false, false, false, false, false] rfl rfl (any_of HT_.out (by kernel_rfl)) (fun _ _ _ h => h) (Or.inl ⟨by rfl, ?_⟩) ?_ ?_
        rotate_left
        ·intro w'
         go_simp
         with_reducible rfl
        rotate_left
        ·simp only [Act.put, List.setIfInBounds_toArray, List.set_cons_zero, List.set_cons_succ, i64_w, i32_w]
         rfl
        refine pure_ (i := 8) (N := some 53) (v := ?_) (a' := ?_) #[true, true, true, true, true, true, true, true, true, false, false, false, false, false, false, false, false, false, false, false, false, false] rfl rfl (any_of HT_.out (by kernel_rfl)) (fun _ _ _ h => h) (Or.inl ⟨by rfl, ?_⟩) ?_ ?_
        rotate_left
        ·intro w'
         go_simp
         with_reducible rfl
        rotate_left
        ·simp only [Act.put, List.setIfInBounds_toArray, List.set_cons_zero, List.set_cons_succ, i64_w, i32_w]
         rfl
        refine pure_ (i := 9) (N := some 54) (v := undef) (a' := ?_) #[true, true, true, true, true, true, true, true, true, true, false, false, false, false, false, false, false, false, false, false, false, false] rfl rfl (any_of HT_.out (by kernel_rfl)) (fun _ _ _ h => h) (Or.inr ⟨by rfl, rfl⟩) ?_ ?_
        rotate_left
        ·simp only [Act.put, List.setIfInBounds_toArray, List.set_cons_zero, List.set_cons_succ, i64_w, i32_w]
         rfl
        refine pure_ (i := 10) (N := some 55) (v := undef) (a' := ?_) #[true, true, true, true, true, true, true, true, true, true, true, false, false, false, false, false, false, false, false, false, false, false] rfl rfl (any_of HT_.out (by kernel_rfl)) (fun _ _ _ h => h) (Or.inr ⟨by rfl, rfl⟩) ?_ ?_
        rotate_left
        ·simp only [Act.put, List.setIfInBounds_toArray, List.set_cons_zero, List.set_cons_succ, i64_w, i32_w]
         rfl
        refine pure_ (i := 11) (N := some 56) (v := undef) (a' := ?_) #[true, true, true, true, true, true, true, true, true, true, true, true, false, false, false, false, false, false, false, false, false, false] rfl rfl (any_of HT_.out (by kernel_rfl)) (fun _ _ _ h => h) (Or.inr ⟨by rfl, rfl⟩) ?_ ?_
        rotate_left
        ·simp only [Act.put, List.setIfInBounds_toArray, List.set_cons_zero, List.set_cons_succ, i64_w, i32_w]
         rfl
        refine pure_ (i := 12) (N := some 57) (v := undef) (a' := ?_) #[true, true, true, true, true, true, true, true, true, true, true, true, true, false, false, false, false, false, false, false, false, false] rfl rfl (any_of HT_.out (by kernel_rfl)) (fun _ _ _ h => h) (Or.inr ⟨by rfl, rfl⟩) ?_ ?_
        rotate_left
        ·simp only [Act.put, List.setIfInBounds_toArray, List.set_cons_zero, List.set_cons_succ, i64_w, i32_w]
         rfl
        refine pure_ (i := 13) (N := some 58) (v := undef) (a' := ?_) #[true, true, true, true, true, true, true, true, true, true, true, true, true, true, false, false, false, false, false, false, false, false] rfl rfl (any_of HT_.out (by kernel_rfl)) (fun _ _ _ h => h) (Or.inr ⟨by rfl, rfl⟩) ?_ ?_
        rotate_left
        ·simp only [Act.put, List.setIfInBounds_toArray, List.set_cons_zero, List.set_cons_succ, i64_w, i32_w]
         rfl
        refine pure_ (i := 14) (N := some 59) (v := ?_) (a' := ?_) #[true, true, true, true, true, true, true, true, true, true, true, true, true, true, true, false, false, false, false, false, false, false] rfl rfl (any_of HT_.out (by kernel_rfl)) (fun _ _ _ h => h) (Or.inl ⟨by rfl, ?_⟩) ?_ ?_
        rotate_left
        ·intro w'
         go_simp
         with_reducible rfl
        rotate_left
        ·simp only [Act.put, List.setIfInBounds_toArray, List.set_cons_zero, List.set_cons_succ, i64_w, i32_w]
         rfl
        refine pure_ (i := 15) (N := some 60) (v := ?_) (a' := ?_) #[true, true, true, true, true, true, true, true, true, true, true, true, true, true, true, true, false, false, false, false, false, false] rfl rfl (any_of HT_.out (by kernel_rfl)) (fun _ _ _ h => h) (Or.inl ⟨by rfl, ?_⟩) ?_ ?_
        rotate_left
        ·intro w'
         go_simp
         with_reducible rfl
        rotate_left
        ·simp only [Act.put, List.setIfInBounds_toArray, List.set_cons_zero, List.set_cons_succ, i64_w, i32_w]
         rfl
        refine pure_ (i := 16) (N := some 61) (v := undef) (a' := ?_) #[true, true, true, true, true, true, true, true, true, true, true, true, true, true, true, true, true, false, false, false, false, false] rfl rfl (any_of HT_.out (by kernel_rfl)) (fun _ _ _ h => h) (Or.inr ⟨by rfl, rfl⟩) ?_ ?_
        rotate_left
        ·simp only [Act.put, List.setIfInBounds_toArray, List.set_cons_zero, List.set_cons_succ, i64_w, i32_w]
         rfl
        refine pure_ (i := 17) (N := some 62) (v := undef) (a' := ?_) #[true, true, true, true, true, true, true, true, true, true, true, true, true, true, true, true, true, true, false, false, false, false] rfl rfl (any_of HT_.out (by kernel_rfl)) (fun _ _ _ h => h) (Or.inr ⟨by rfl, rfl⟩) ?_ ?_
        rotate_left
        ·simp only [Act.put, List.setIfInBounds_toArray, List.set_cons_zero, List.set_cons_succ, i64_w, i32_w]
         rfl
        refine pure_ (i := 18) (N := some 63) (v := undef) (a' := ?_) #[true, true, true, true, true, true, true, true, true, true, true, true, true, true, true, true, true, true, true, false, false, false] rfl rfl (any_of HT_.out (by kernel_rfl)) (fun _ _ _ h => h) (Or.inr ⟨by rfl, rfl⟩) ?_ ?_
        rotate_left
        ·simp only [Act.put, List.setIfInBounds_toArray, List.set_cons_zero, List.set_cons_succ, i64_w, i32_w]
         rfl
        refine pure_ (i := 19) (N := some 64) (v := undef) (a' := ?_) #[true, true, true, true, true, true, true, true, true, true, true, true, true, true, true, true, true, true, true, true, false, false] rfl rfl (any_of HT_.out (by kernel_rfl)) (fun _ _ _ h => h) (Or.inr ⟨by rfl, rfl⟩) ?_ ?_
        rotate_left
        ·simp only [Act.put, List.setIfInBounds_toArray, List.set_cons_zero, List.set_cons_succ, i64_w, i32_w]
         rfl
        refine pure_ (i := 20) (N := some 65) (v := undef) (a' := ?_) #[true, true, true, true, true, true, true, true, true, true, true, true, true, true, true, true, true, true, true, true, true, false] rfl rfl (any_of HT_.out (by kernel_rfl)) (fun _ _ _ h => h) (Or.inr ⟨by rfl, rfl⟩) ?_ ?_
        rotate_left
        ·simp only [Act.put, List.setIfInBounds_toArray, List.set_cons_zero, List.set_cons_succ, i64_w, i32_w]
         rfl
        refine pure_ (i := 21) (N := some 66) (v := ?_) (a' := ?_) #[true, true, true, true, true, true, true, true, true, true, true, true, true, true, true, true, true, true, true, true, true, true] rfl rfl (any_of HT_.out (by kernel_rfl)) (fun _ _ _ h => h) (Or.inl ⟨by rfl, ?_⟩) ?_ ?_
        rotate_left
        ·intro w'
         go_simp
         with_reducible rfl
        rotate_left
        ·simp only [Act.put, List.setIfInBounds_toArray, List.set_cons_zero, List.set_cons_succ, i64_w, i32_w]
         rfl
        refine done_ (done_of HT_.out (by kernel_rfl)) ?_
        try go_wp2_with (first | ((with_reducible refine gate_dst (N := 69) rfl ?_); (try (refine gate_guard (by rfl) ?_; dsimp only)); refine Kd.R_lit k24 _ 24 ?hg (N := 69) ?hd (xs := ([] : List (S24))) (inner := []) (ok := fun _ => True) (okp := fun _ => True) ?hr ?hp (fun _ hk => hk) trivial (Below.refl _ _) (Nat.le_refl _) (by simp) ?_; (case hd => rfl); (case hg => rfl); (case hr => first | (go_simp; done) | (go_simp; rfl)); (case hp => exact (Reps.none _ _)); intro v258 w156 ho157 hb hg_ hnew_; clear hg_ hnew_; (first | rw [← Ny257.out] at ho157 | (simp only [Int.reduceToNat] at ho157; rw [← Ny257.out] at ho157)); have n0_ := Aside0.mk (Kd.R_elder' (by (with_reducible repeat (first | apply Kd.R_alloc | apply Kd.R_drewN | apply Kd.R_drew)); exact HO_5.out) (Kd.R_base ho157) hb); have n1_ := Aside0.mk (Kd.R_elder' (by (with_reducible repeat (first | apply Kd.R_alloc | apply Kd.R_drewN | apply Kd.R_drew)); exact HO221.out) (Kd.R_base ho157) hb); have n2_ := Aside0.mk (Kd.R_elder' (by (with_reducible repeat (first | apply Kd.R_alloc | apply Kd.R_drewN | apply Kd.R_drew)); exact HO224.out) (Kd.R_base ho157) hb); have n3_ := Aside0.mk (Kd.R_lower (Kd.R_newB (Kd.R_newB (Kd.R_newB (Kd.R_new' (Kd.R_new' (Kd.R_new' ho157 (Kd.R_lt (by (with_reducible repeat (first | apply Kd.R_alloc | apply Kd.R_drewN | apply Kd.R_drew)); exact HO_5.out))) (Kd.R_lt (by (with_reducible repeat (first | apply Kd.R_alloc | apply Kd.R_drewN | apply Kd.R_drew)); exact HO221.out))) (Kd.R_lt (by (with_reducible repeat (first | apply Kd.R_alloc | apply Kd.R_drewN | apply Kd.R_drew)); exact HO224.out))) (g := gb202) (o := .cells #[.int .u32 a0_0, .int .i64 a0_1] 24 (0, 0)) (Fit.pk BK202.out)) (g := gb217) (o := .cells #[.int .u32 t213, .int .i64 t214] 24 (0, 0)) (Fit.pk BK217.out)) (g := gb218) (o := .cells #[.int .u32 t215, .int .i64 t216] 24 (0, 0)) (Fit.pk BK218.out)) (below_size (Fit.bl HB.out))); have n4_ := Aside0.mk (blk_below (g := gb202) (Fit.pk BK202.out) hb); have n5_ := Aside0.mk (blk_below (g := gb217) (Fit.pk BK217.out) hb); have n6_ := Aside0.mk (blk_below (g := gb218) (Fit.pk BK218.out) hb); have n7_ := Aside0.mk (below_step (Fit.bl HB.out) hb); clear HO_5; clear HO221; clear HO224; clear BK202; clear BK217; clear BK218; clear HB; have HO_5 := n0_; have HO221 := n1_; have HO224 := n2_; have HO259 := n3_; have BK202 := n4_; have BK217 := n5_; have BK218 := n6_; have HB := n7_; clear n0_ n1_ n2_ n3_ n4_ n5_ n6_ n7_; clear hb ho157) | ((with_reducible refine gate_builtin (b := .append) (xs := #[.tmp 69, .tmp 70]) rfl ?_); (try (refine gate_guard (by rfl) ?_; dsimp only)); at_builtin; refine Kd.R_append_rows k24 (w0 := w) w.heap.size rfl (.tmp 69) (.tmp 70) 32 24 (.agg #[(.int .u32 0), (.int .i64 0)]) 16 rfl Tryd.underlying32 info24 rfl (by decide) (by omega) v258 y257 t219 _ _ _ (fun k_ => some k_ ≠ (.slice Ao140 x5_1.length co140 : Value).ownBlock ∧ some k_ ≠ (.slice Ao155 t219.length co155 : Value).ownBlock ∧ some k_ ≠ (v223 : Value).ownBlock ∧ k_ ≠ gb202 ∧ k_ ≠ gb217 ∧ k_ ≠ gb218) (fun _ => False) rfl rfl ?aO ?aR (fun _ _ h => h) (fun _ h => h.elim) ?aF ?aB ?aS ?aL ?_; (case aR => repeat (first | exact (Kd.R_reads' HO221.out).2.2 | (with_reducible refine Kd.C_alloc ?_ _) | (with_reducible refine Kd.C_drewN ?_ _) | (with_reducible refine Kd.C_drew ?_))); (case aB => exact (Fit.bl HB.out)); (case aF => exact (fun k_ hk => ⟨Kd.fresh' (Kd.R_lt (by (with_reducible repeat (first | apply Kd.R_alloc | apply Kd.R_drewN | apply Kd.R_drew)); exact HO_5.out)) k_ hk, Kd.fresh' (Kd.R_lt (by (with_reducible repeat (first | apply Kd.R_alloc | apply Kd.R_drewN | apply Kd.R_drew)); exact HO221.out)) k_ hk, Kd.fresh' (Kd.R_lt (by (with_reducible repeat (first | apply Kd.R_alloc | apply Kd.R_drewN | apply Kd.R_drew)); exact HO224.out)) k_ hk, Kd.freshB (g := gb202) (o := .cells #[.int .u32 a0_0, .int .i64 a0_1] 24 (0, 0)) (Fit.pk BK202.out) k_ hk, Kd.freshB (g := gb217) (o := .cells #[.int .u32 t213, .int .i64 t214] 24 (0, 0)) (Fit.pk BK217.out) k_ hk, Kd.freshB (g := gb218) (o := .cells #[.int .u32 t215, .int .i64 t216] 24 (0, 0)) (Fit.pk BK218.out) k_ hk⟩)); (case aO => exact (by (with_reducible repeat (first | apply Kd.R_alloc | apply Kd.R_drewN | apply Kd.R_drew)); exact Kd.R_mono HO259.out (fun _ hk => ⟨hk.1.1.1.1.1.2, ⟨hk.1.1.1.1.2, ⟨hk.1.1.1.2, ⟨hk.1.1.2, ⟨hk.1.2, hk.2⟩⟩⟩⟩⟩))); (case aS => exact (below_size (Fit.bl HB.out))); (case aL => have := LMc138.out; omega); intro v261 w158 ho hb hg hat; rw [← Ny260.out] at ho; have n0_ := Aside0.mk (Kd.R_after (ok := (fun k_ => some k_ ≠ (.slice Ao155 t219.length co155 : Value).ownBlock ∧ some k_ ≠ (v223 : Value).ownBlock ∧ k_ ≠ gb202 ∧ k_ ≠ gb217 ∧ k_ ≠ gb218)) (by (with_reducible repeat (first | apply Kd.R_alloc | apply Kd.R_drewN | apply Kd.R_drew)); exact Kd.R_mono HO_5.out (fun _ hk => ⟨⟨hk.1.1.2, ⟨hk.1.2, ⟨hk.1.1.1.1, ⟨hk.1.1.1.2.1, hk.1.1.1.2.2⟩⟩⟩⟩, hk.2⟩)) hg hat); have n1_ := Aside0.mk (blk_grown (g := gb202) (o := .cells #[.int .u32 a0_0, .int .i64 a0_1] 24 (0, 0)) (Fit.pk BK202.out) hg (Kd.R_away HO259.out (fun _ hk => hk.1.1.2))); have n2_ := Aside0.mk (blk_grown (g := gb217) (o := .cells #[.int .u32 t213, .int .i64 t214] 24 (0, 0)) (Fit.pk BK217.out) hg (Kd.R_away HO259.out (fun _ hk => hk.1.2))); have n3_ := Aside0.mk (blk_grown (g := gb218) (o := .cells #[.int .u32 t215, .int .i64 t216] 24 (0, 0)) (Fit.pk BK218.out) hg (Kd.R_away HO259.out (fun _ hk => hk.2))); have n4_ := Aside0.mk (Kd.R_after (ok := (fun k_ => some k_ ≠ (.slice Ao140 x5_1.length co140 : Value).ownBlock ∧ some k_ ≠ (v223 : Value).ownBlock ∧ k_ ≠ gb202 ∧ k_ ≠ gb217 ∧ k_ ≠ gb218)) (by (with_reducible repeat (first | apply Kd.R_alloc | apply Kd.R_drewN | apply Kd.R_drew)); exact Kd.R_mono HO221.out (fun _ hk => ⟨⟨hk.1.1.1.1.1.2, ⟨hk.1.2, ⟨hk.1.1.1.1.2, ⟨hk.1.1.1.2, hk.1.1.2⟩⟩⟩⟩, hk.2⟩)) hg hat); have n5_ := Aside0.mk (Kd.R_after (ok := (fun k_ => some k_ ≠ (.slice Ao140 x5_1.length co140 : Value).ownBlock ∧ some k_ ≠ (.slice Ao155 t219.length co155 : Value).ownBlock ∧ k_ ≠ gb202 ∧ k_ ≠ gb217 ∧ k_ ≠ gb218)) (by (with_reducible repeat (first | apply Kd.R_alloc | apply Kd.R_drewN | apply Kd.R_drew)); exact Kd.R_mono HO224.out (fun _ hk => ⟨⟨hk.1.1.1.1.1.2, ⟨hk.1.1.1.1.2, ⟨hk.1.1.1.2, ⟨hk.1.1.2, hk.1.2⟩⟩⟩⟩, hk.2⟩)) hg hat); have n6_ := Aside0.mk (hb); have n7_ := Aside0.mk (ho); clear HO_5; clear BK202; clear BK217; clear BK218; clear HO221; clear HO224; clear HB; clear HO259; have HO_5 := n0_; have BK202 := n1_; have BK217 := n2_; have BK218 := n3_; have HO221 := n4_; have HO224 := n5_; have HB := n6_; have HO262 := n7_; clear n0_ n1_ n2_ n3_ n4_ n5_ n6_ n7_; clear ho hb hg hat; obtain ⟨Ao160, co160, eo160⟩ := Kd.R_slice HO224.out; subst eo160) | ((with_reducible refine gate_builtin (b := .append) (xs := #[.tmp 71, .tmp 72]) rfl ?_); (try (refine gate_guard (by rfl) ?_; dsimp only)); at_builtin; refine Kd.R_append_rows k24 (w0 := w) w.heap.size rfl (.tmp 71) (.tmp 72) 32 24 (.agg #[(.int .u32 0), (.int .i64 0)]) 16 rfl Tryd.underlying32 info24 rfl (by decide) (by omega) v261 y260 t222 _ _ _ (fun k_ => some k_ ≠ (.slice Ao140 x5_1.length co140 : Value).ownBlock ∧ some k_ ≠ (.slice Ao155 t219.length co155 : Value).ownBlock ∧ some k_ ≠ (.slice Ao160 t222.length co160 : Value).ownBlock ∧ k_ ≠ gb202 ∧ k_ ≠ gb217 ∧ k_ ≠ gb218) (fun _ => False) rfl rfl ?aO ?aR (fun _ _ h => h) (fun _ h => h.elim) ?aF ?aB ?aS ?aL ?_; (case aR => repeat (first | exact (Kd.R_reads' HO224.out).2.2 | (with_reducible refine Kd.C_alloc ?_ _) | (with_reducible refine Kd.C_drewN ?_ _) | (with_reducible refine Kd.C_drew ?_))); (case aB => exact (Fit.bl HB.out)); (case aF => exact (fun k_ hk => ⟨Kd.fresh' (Kd.R_lt (by (with_reducible repeat (first | apply Kd.R_alloc | apply Kd.R_drewN | apply Kd.R_drew)); exact HO_5.out)) k_ hk, Kd.fresh' (Kd.R_lt (by (with_reducible repeat (first | apply Kd.R_alloc | apply Kd.R_drewN | apply Kd.R_drew)); exact HO221.out)) k_ hk, Kd.fresh' (Kd.R_lt (by (with_reducible repeat (first | apply Kd.R_alloc | apply Kd.R_drewN | apply Kd.R_drew)); exact HO224.out)) k_ hk, Kd.freshB (g := gb202) (o := .cells #[.int .u32 a0_0, .int .i64 a0_1] 24 (0, 0)) (Fit.pk BK202.out) k_ hk, Kd.freshB (g := gb217) (o := .cells #[.int .u32 t213, .int .i64 t214] 24 (0, 0)) (Fit.pk BK217.out) k_ hk, Kd.freshB (g := gb218) (o := .cells #[.int .u32 t215, .int .i64 t216] 24 (0, 0)) (Fit.pk BK218.out) k_ hk⟩)); (case aO => exact (by (with_reducible repeat (first | apply Kd.R_alloc | apply Kd.R_drewN | apply Kd.R_drew)); exact HO262.out)); (case aS => exact (below_size (Fit.bl HB.out))); (case aL => have := LMc139.out; omega); intro v264 w159 ho hb hg hat; rw [← Ny263.out] at ho; have n0_ := Aside0.mk (Kd.R_after (ok := (fun k_ => some k_ ≠ (.slice Ao155 t219.length co155 : Value).ownBlock ∧ some k_ ≠ (.slice Ao160 t222.length co160 : Value).ownBlock ∧ k_ ≠ gb202 ∧ k_ ≠ gb217 ∧ k_ ≠ gb218)) (by (with_reducible repeat (first | apply Kd.R_alloc | apply Kd.R_drewN | apply Kd.R_drew)); exact HO_5.out) hg hat); have n1_ := Aside0.mk (blk_grown (g := gb202) (o := .cells #[.int .u32 a0_0, .int .i64 a0_1] 24 (0, 0)) (Fit.pk BK202.out) hg (Kd.R_away HO262.out (fun _ hk => hk.2.2.2.1))); have n2_ := Aside0.mk (blk_grown (g := gb217) (o := .cells #[.int .u32 t213, .int .i64 t214] 24 (0, 0)) (Fit.pk BK217.out) hg (Kd.R_away HO262.out (fun _ hk => hk.2.2.2.2.1))); have n3_ := Aside0.mk (blk_grown (g := gb218) (o := .cells #[.int .u32 t215, .int .i64 t216] 24 (0, 0)) (Fit.pk BK218.out) hg (Kd.R_away HO262.out (fun _ hk => hk.2.2.2.2.2))); have n4_ := Aside0.mk (Kd.R_after (ok := (fun k_ => some k_ ≠ (.slice Ao140 x5_1.length co140 : Value).ownBlock ∧ some k_ ≠ (.slice Ao160 t222.length co160 : Value).ownBlock ∧ k_ ≠ gb202 ∧ k_ ≠ gb217 ∧ k_ ≠ gb218)) (by (with_reducible repeat (first | apply Kd.R_alloc | apply Kd.R_drewN | apply Kd.R_drew)); exact HO221.out) hg hat); have n5_ := Aside0.mk (Kd.R_after (ok := (fun k_ => some k_ ≠ (.slice Ao140 x5_1.length co140 : Value).ownBlock ∧ some k_ ≠ (.slice Ao155 t219.length co155 : Value).ownBlock ∧ k_ ≠ gb202 ∧ k_ ≠ gb217 ∧ k_ ≠ gb218)) (by (with_reducible repeat (first | apply Kd.R_alloc | apply Kd.R_drewN | apply Kd.R_drew)); exact HO224.out) hg hat); have n6_ := Aside0.mk (hb); have n7_ := Aside0.mk (ho); clear HO_5; clear BK202; clear BK217; clear BK218; clear HO221; clear HO224; clear HB; clear HO262; have HO_5 := n0_; have BK202 := n1_; have BK217 := n2_; have BK218 := n3_; have HO221 := n4_; have HO224 := n5_; have HB := n6_; have HO265 := n7_; clear n0_ n1_ n2_ n3_ n4_ n5_ n6_ n7_; clear ho hb hg hat))
        go_ret
        exact ⟨_, by first | rfl | (simp [errW_none, errW_some] <;> rfl) | (simp [*, errW_none, errW_some] <;> rfl), by (with_reducible repeat (first | apply Kd.R_alloc | apply Kd.R_drewN | apply Kd.R_drew)); exact Kd.R_mono HO265.out (fun _ hk => trivial), Fit.bl HB.out⟩
       ·rw [if_neg c139] at H
        exact absurd H (by simp)
      ·rw [if_neg c138] at H
       exact absurd H (by simp)


end Go.Proofs.YtbdcaadehfbnbaaDoor.GPsetMakes
