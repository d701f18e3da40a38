-- a text that a program of this session wrote
import Derived.Test.YtbdcaadehfbnbaaDoorGPsetMakesx0
import Derived.Test.YtbdcaadehfbnbaaDoorGPsetMakesx5
import Derived.Test.YtbdcaadehfbnbaaDoorGPsetMakesx6
import Derived.Test.YtbdcaadehfbnbaaDoorGPsetMakesx8
import Derived.Test.YtbdcaadehfbnbaaDoorGPsetMakesx9
import Derived.Test.YtbdcaadehfbnbaaDoorQTz
import Derived.Test.YtbdcaadehfbnbaaDoorQCk
import Derived.Test.YtbdcaadehfbnbaaDoorQSo
namespace Go.Proofs.YtbdcaadehfbnbaaDoor.GPsetMakes
open Go.RowKit Go.Proofs.YtbdcaadehfbnbaaDoorW.PrintWords Go.Proofs.YtbdcaadehfbnbaaDoorW.PrintLast Go.Proofs.YtbdcaadehfbnbaaDoorW.PrintMore
attribute [local go_sem] max2_int min2_int max_two min_two max_three min_three max_four min_four   -- for this text's walks alone
attribute [local go_sem high] Go.Proofs.YtbdcaadehfbnbaaDoor.Fit.run_string_add_fit
set_option linter.unusedVariables false
set_option linter.unusedSimpArgs false

/-! ### patchbaylaw2_PsetMakes: function 4 -/
mutual
def patchbaylaw2_PsetMakes.j0 : Nat → List (S24) → Int → Int → Int → List (S24) → Bool → Option (Bool)
 | 0, _, _, _, _, _, _ => none
 | k + 1, x0, x1, x2, x7, x8, x32 => if x32 = true then (some false) else (if x7 = 0 then ((patchbayref2_SetOf.f k x0).bind fun t318 => ((patchbayref2_SamePrefixes.f k x8 t318).bind fun t321 => (if t321 = true then (patchbaylaw2_PsetMakes.j1 k x1 x2 false) else (patchbaylaw2_PsetMakes.j1 k x1 x2 true)))) else (patchbaylaw2_PsetMakes.j1 k x1 x2 (decide ((x8.length : Int) > 0))))
def patchbaylaw2_PsetMakes.j1 : Nat → Int → Int → Bool → Option (Bool)
 | 0, _, _, _ => none
 | k + 1, x1, x2, x50 => if x50 = true then (some false) else ((pset_Range.f k x1 x2).bind fun bt322 => (if x1 > x2 then (if bt322.2 = 1 then (some ((bt322.1.length : Int) == 0)) else (some false)) else (if bt322.2 = 0 then ((patchbayref2_SetRange.f k x1 x2).bind fun t326 => ((patchbayref2_SamePrefixes.f k bt322.1 t326).bind fun t329 => (some t329))) else (some false))))
end
def patchbaylaw2_PsetMakes.f (k : Nat) (l0 : List (S24)) (a1 : Int) (a2 : Int) : Option (Bool) := (patchbaylaw2_psetLives.f k).bind fun t310 => (if t310 = true then ((patchbayref2_PrefixesFault.f k l0).bind fun t311 => ((pset_Of.f k l0).bind fun bt312 => ((pset_Check.f k l0).bind fun t316 => ((patchbayref2_SetFault.f k l0).bind fun t317 => (if t316 = t317 then (patchbaylaw2_PsetMakes.j0 k l0 a1 a2 t311 bt312.1 (bt312.2 != t311)) else (patchbaylaw2_PsetMakes.j0 k l0 a1 a2 t311 bt312.1 true)))))) else (some false))
theorem patchbaylaw2_PsetMakes.mono_l : ∀ k, (∀ y0 y1 y2 y3 y4 y5, LeO (patchbaylaw2_PsetMakes.j0 k y0 y1 y2 y3 y4 y5) (patchbaylaw2_PsetMakes.j0 (k + 1) y0 y1 y2 y3 y4 y5)) ∧ (∀ y0 y1 y2, LeO (patchbaylaw2_PsetMakes.j1 k y0 y1 y2) (patchbaylaw2_PsetMakes.j1 (k + 1) y0 y1 y2))
 | 0 => ⟨fun _ _ _ _ _ _ r h => by simp [patchbaylaw2_PsetMakes.j0] at h, fun _ _ _ r h => by simp [patchbaylaw2_PsetMakes.j1] at h⟩
 | k + 1 => by
  obtain ⟨ih0, ih1⟩ := patchbaylaw2_PsetMakes.mono_l k
  refine ⟨?_, ?_⟩
  ·intro y0 y1 y2 y3 y4 y5
   unfold patchbaylaw2_PsetMakes.j0
   repeat' first
   | (with_reducible exact ih0 _ _ _ _ _ _)
   | (with_reducible exact ih1 _ _ _)
   | (with_reducible exact patchbaylaw2_psetLives.mono _)
   | (with_reducible exact patchbayref2_PrefixesFault.mono _ _)
   | (with_reducible exact patchbayref2_SamePrefixes.mono _ _ _)
   | (with_reducible exact patchbayref2_SetFault.mono _ _)
   | (with_reducible exact patchbayref2_SetOf.mono _ _)
   | (with_reducible exact patchbayref2_SetRange.mono _ _ _)
   | (with_reducible exact pset_Check.mono _ _)
   | (with_reducible exact pset_Of.mono _ _)
   | (with_reducible exact pset_Range.mono _ _ _)
   | (with_reducible exact LeO.refl _)
   | (with_reducible exact LeO.none _)
   | (with_reducible refine LeO.ite ?_ ?_)
   | (with_reducible refine LeO.bind ?_ (fun _ => ?_))
   | exact ih0 _ _ _ _ _ _
   | exact ih1 _ _ _
   | exact patchbaylaw2_psetLives.mono _
   | exact patchbayref2_PrefixesFault.mono _ _
   | exact patchbayref2_SamePrefixes.mono _ _ _
   | exact patchbayref2_SetFault.mono _ _
   | exact patchbayref2_SetOf.mono _ _
   | exact patchbayref2_SetRange.mono _ _ _
   | exact pset_Check.mono _ _
   | exact pset_Of.mono _ _
   | exact pset_Range.mono _ _ _
   | exact LeO.none _
   | refine LeO.ite ?_ ?_
   | refine LeO.bind ?_ (fun _ => ?_)
  ·intro y0 y1 y2
   unfold patchbaylaw2_PsetMakes.j1
   repeat' first
   | (with_reducible exact ih0 _ _ _ _ _ _)
   | (with_reducible exact ih1 _ _ _)
   | (with_reducible exact patchbaylaw2_psetLives.mono _)
   | (with_reducible exact patchbayref2_PrefixesFault.mono _ _)
   | (with_reducible exact patchbayref2_SamePrefixes.mono _ _ _)
   | (with_reducible exact patchbayref2_SetFault.mono _ _)
   | (with_reducible exact patchbayref2_SetOf.mono _ _)
   | (with_reducible exact patchbayref2_SetRange.mono _ _ _)
   | (with_reducible exact pset_Check.mono _ _)
   | (with_reducible exact pset_Of.mono _ _)
   | (with_reducible exact pset_Range.mono _ _ _)
   | (with_reducible exact LeO.refl _)
   | (with_reducible exact LeO.none _)
   | (with_reducible refine LeO.ite ?_ ?_)
   | (with_reducible refine LeO.bind ?_ (fun _ => ?_))
   | exact ih0 _ _ _ _ _ _
   | exact ih1 _ _ _
   | exact patchbaylaw2_psetLives.mono _
   | exact patchbayref2_PrefixesFault.mono _ _
   | exact patchbayref2_SamePrefixes.mono _ _ _
   | exact patchbayref2_SetFault.mono _ _
   | exact patchbayref2_SetOf.mono _ _
   | exact patchbayref2_SetRange.mono _ _ _
   | exact pset_Check.mono _ _
   | exact pset_Of.mono _ _
   | exact pset_Range.mono _ _ _
   | exact LeO.none _
   | refine LeO.ite ?_ ?_
   | refine LeO.bind ?_ (fun _ => ?_)
theorem patchbaylaw2_PsetMakes.mono : ∀ a0 a1 a2 k, LeO (patchbaylaw2_PsetMakes.f k a0 a1 a2) (patchbaylaw2_PsetMakes.f (k + 1) a0 a1 a2) := by
 intro a0 a1 a2 k
 obtain ⟨ih0, ih1⟩ := patchbaylaw2_PsetMakes.mono_l k
 unfold patchbaylaw2_PsetMakes.f
 repeat' first
   | (with_reducible exact ih0 _ _ _ _ _ _)
   | (with_reducible exact ih1 _ _ _)
   | (with_reducible exact patchbaylaw2_psetLives.mono _)
   | (with_reducible exact patchbayref2_PrefixesFault.mono _ _)
   | (with_reducible exact patchbayref2_SamePrefixes.mono _ _ _)
   | (with_reducible exact patchbayref2_SetFault.mono _ _)
   | (with_reducible exact patchbayref2_SetOf.mono _ _)
   | (with_reducible exact patchbayref2_SetRange.mono _ _ _)
   | (with_reducible exact pset_Check.mono _ _)
   | (with_reducible exact pset_Of.mono _ _)
   | (with_reducible exact pset_Range.mono _ _ _)
   | (with_reducible exact LeO.refl _)
   | (with_reducible exact LeO.none _)
   | (with_reducible refine LeO.ite ?_ ?_)
   | (with_reducible refine LeO.bind ?_ (fun _ => ?_))
   | exact ih0 _ _ _ _ _ _
   | exact ih1 _ _ _
   | exact patchbaylaw2_psetLives.mono _
   | exact patchbayref2_PrefixesFault.mono _ _
   | exact patchbayref2_SamePrefixes.mono _ _ _
   | exact patchbayref2_SetFault.mono _ _
   | exact patchbayref2_SetOf.mono _ _
   | exact patchbayref2_SetRange.mono _ _ _
   | exact pset_Check.mono _ _
   | exact pset_Of.mono _ _
   | exact pset_Range.mono _ _ _
   | exact LeO.none _
   | refine LeO.ite ?_ ?_
   | refine LeO.bind ?_ (fun _ => ?_)
set_option maxHeartbeats 8000000 in
set_option maxRecDepth 100000 in
theorem patchbaylaw2_PsetMakes.calls (k : Nat) (A0 : Option Addr) (c0 : Nat) (lf l0 : List (S24)) (hl0 : l0 = lf.take 6) (a1 : Int) (a2 : Int) (r : Bool) (w : World) (HVw : Tz.Ok w) (hrf : Kd.C k24 w A0 lf.length lf) (hcf : lf.length ≤ c0) (h : patchbaylaw2_PsetMakes.f k l0 a1 a2 = some r) :
  Calls Tryd.prog 4 #[.slice A0 lf.length c0, .int .u32 a1, .int .u32 a2] w fun e w' => e = .returned (.bool r) ∧ Below w.heap.size w w' := by
 have HV := Aside0.mk HVw
 clear HVw
 have hr0 : Kd.C k24 w A0 l0.length l0 := by
  rw [hl0, show lf.take 6 = lf.take (min 6 lf.length) from List.take_eq_take_min ..]
  exact Kd.C_take hrf (by omega)
 have hc0 : l0.length ≤ c0 := by rw [hl0, List.length_take]; omega
 have HR0 := Aside0.mk hr0
 have HC0 := Aside0.mk hc0
 have HRf := Aside0.mk hrf
 have HCf := Aside0.mk hcf
 have HL0 := Aside0.mk hl0
 clear hr0 hc0 hrf hcf hl0
 have HB := Aside0.mk (Below.refl w.heap.size w)
 have H : ((patchbaylaw2_psetLives.f k).bind fun t310 => (if t310 = true then ((patchbayref2_PrefixesFault.f k l0).bind fun t311 => ((pset_Of.f k l0).bind fun bt312 => ((pset_Check.f k l0).bind fun t316 => ((patchbayref2_SetFault.f k l0).bind fun t317 => (if t316 = t317 then (patchbaylaw2_PsetMakes.j0 k l0 a1 a2 t311 bt312.1 (bt312.2 != t311)) else (patchbaylaw2_PsetMakes.j0 k l0 a1 a2 t311 bt312.1 true)))))) else (some false))) = some r := h
 clear h
 replace H := Option.bind_eq_some_iff.mp H
 obtain ⟨t310, A40, H⟩ := H
 replace H : (if t310 = true then ((patchbayref2_PrefixesFault.f k l0).bind fun t311 => ((pset_Of.f k l0).bind fun bt312 => ((pset_Check.f k l0).bind fun t316 => ((patchbayref2_SetFault.f k l0).bind fun t317 => (if t316 = t317 then (patchbaylaw2_PsetMakes.j0 k l0 a1 a2 t311 bt312.1 (bt312.2 != t311)) else (patchbaylaw2_PsetMakes.j0 k l0 a1 a2 t311 bt312.1 true)))))) else (some false)) = some r := H
 have A4 := Aside0.mk A40
 clear A40
 by_cases c5 : t310 = true
 ·subst c5
  have H1 : ((patchbayref2_PrefixesFault.f k l0).bind fun t311 => ((pset_Of.f k l0).bind fun bt312 => ((pset_Check.f k l0).bind fun t316 => ((patchbayref2_SetFault.f k l0).bind fun t317 => (if t316 = t317 then (patchbaylaw2_PsetMakes.j0 k l0 a1 a2 t311 bt312.1 (bt312.2 != t311)) else (patchbaylaw2_PsetMakes.j0 k l0 a1 a2 t311 bt312.1 true)))))) = some r := by rw [if_pos rfl] at H; exact H
  clear H
  have H := H1
  clear H1
  replace H := Option.bind_eq_some_iff.mp H
  obtain ⟨t311, A60, H⟩ := H
  replace H : ((pset_Of.f k l0).bind fun bt312 => ((pset_Check.f k l0).bind fun t316 => ((patchbayref2_SetFault.f k l0).bind fun t317 => (if t316 = t317 then (patchbaylaw2_PsetMakes.j0 k l0 a1 a2 t311 bt312.1 (bt312.2 != t311)) else (patchbaylaw2_PsetMakes.j0 k l0 a1 a2 t311 bt312.1 true))))) = some r := H
  have A6 := Aside0.mk A60
  clear A60
  replace H := Option.bind_eq_some_iff.mp H
  obtain ⟨⟨t312, t313⟩, A70, H⟩ := H
  replace H : ((pset_Check.f k l0).bind fun t316 => ((patchbayref2_SetFault.f k l0).bind fun t317 => (if t316 = t317 then (patchbaylaw2_PsetMakes.j0 k l0 a1 a2 t311 t312 (t313 != t311)) else (patchbaylaw2_PsetMakes.j0 k l0 a1 a2 t311 t312 true)))) = some r := H
  have A7 := Aside0.mk A70
  clear A70
  have HC8 := Aside0.mk H
  clear H
  go_enter Tryd.func4, Tryd.ntmps4
  go_upto_region 6 with (first | ((with_reducible refine gate_callee (f := 17) rfl ?_); refine goesL_ (some 15) rfl rfl Tryd.func17 (by kernel_rfl) rfl #[.slice A0 lf.length c0, .int .i64 6] rfl (by (try simp only [List.map_toArray, List.map_cons, List.map_nil]); first | done | rfl | (simp only [List.length_drop, List.length_take]; rfl)) ?_; (with_reducible refine (So.some_calls A0 c0 lf 6 _ (Kd.C_below HRf.out (Fit.bl HB.out)) HCf.out (by decide) (by decide)).mono ?_); rintro e w_ ⟨rfl, rfl⟩; rw [show lf.take (6 : Int).toNat = l0 from HL0.out.symm]; refine ⟨_, rfl, ?_⟩) | ((with_reducible refine gate_callee (f := 16) rfl ?_); refine goesL_ (some 12) rfl rfl Tryd.func16 (by kernel_rfl) rfl #[] rfl (by (try simp only [List.map_toArray, List.map_cons, List.map_nil]); first | done | rfl | (simp only [List.length_drop, List.length_take]; rfl)) ?_; (with_reducible refine (patchbaylaw2_psetLives.calls k  true _ ?sideV A4.out).mono ?_); (case sideV => exact HV.out.on (Fit.bl HB.out)); rintro e w9 ⟨rfl, hb⟩; refine ⟨_, rfl, ?_⟩; have n0_ := Aside0.mk (below_step (Fit.bl HB.out) hb); clear HB; have HB := n0_; clear n0_; (try clear hb); (try clear hb2); (try clear hk); (try clear hi)) | ((with_reducible refine gate_callee (f := 18) rfl ?_); refine goesL_ (some 17) rfl rfl Tryd.func18 (by kernel_rfl) rfl #[.slice A0 l0.length c0] rfl (by (try simp only [List.map_toArray, List.map_cons, List.map_nil]); first | done | rfl | (simp only [List.length_drop, List.length_take]; rfl)) ?_; (with_reducible refine (patchbayref2_PrefixesFault.calls k _ _ l0 t311 _ ?side1 ?side2 A6.out).mono ?_); (case side1 => repeat (first | exact (Kd.C_below HR0.out HB.out) | (with_reducible refine Kd.C_alloc ?_ _) | (with_reducible refine Kd.C_drewN ?_ _) | (with_reducible refine Kd.C_drew ?_))); (case side2 => exact HC0.out); rintro e w10 ⟨rfl, hb⟩; refine ⟨_, rfl, ?_⟩; have n0_ := Aside0.mk (below_step (Fit.bl HB.out) hb); clear HB; have HB := n0_; clear n0_; (try clear hb); (try clear hb2); (try clear hk); (try clear hi)) | ((with_reducible refine gate_callee (f := 19) rfl ?_); refine goesL_ (some 20) rfl rfl Tryd.func19 (by kernel_rfl) rfl #[.slice A0 l0.length c0] rfl (by (try simp only [List.map_toArray, List.map_cons, List.map_nil]); first | done | rfl | (simp only [List.length_drop, List.length_take]; rfl)) ?_; (with_reducible refine (pset_Of.calls k _ _ l0 t312 t313 _ ?sideV ?side1 ?side2 A7.out).mono ?_); (case sideV => exact HV.out.on (Fit.bl HB.out)); (case side1 => repeat (first | exact (Kd.C_below HR0.out HB.out) | (with_reducible refine Kd.C_alloc ?_ _) | (with_reducible refine Kd.C_drewN ?_ _) | (with_reducible refine Kd.C_drew ?_))); (case side2 => exact HC0.out); rintro e w11 ⟨v314, rfl, ho0, hb⟩; refine ⟨_, rfl, ?_⟩; have n0_ := Aside0.mk (Kd.R_lower ho0 (below_size (Fit.bl HB.out))); have n1_ := Aside0.mk (below_step (Fit.bl HB.out) hb); clear HB; have HO315 := n0_; have HB := n1_; clear n0_ n1_; (try clear hb); (try clear hb2); (try clear hk); (try clear hi); (try clear ho0)))
  (try simp only [Act.put, List.setIfInBounds_toArray, List.set_cons_zero, List.set_cons_succ])
  go_cut [32] (fun v32 wc => ∃ (kq : Nat) (x32_7 : Bool), v32 = .bool x32_7 ∧ Aside0 (patchbaylaw2_PsetMakes.j0 kq l0 a1 a2 t311 t312 x32_7 = some r) ∧ Aside0 (kq ≤ k) ∧ Aside0 (Kd.R k24 24 wc w.heap.size (fun _ => True) v314 t312) ∧ Aside0 (Below w.heap.size w wc))
  case first =>
   have H := HC8.out
   clear HC8
   replace H := Option.bind_eq_some_iff.mp H
   obtain ⟨t316, A120, H⟩ := H
   replace H : ((patchbayref2_SetFault.f k l0).bind fun t317 => (if t316 = t317 then (patchbaylaw2_PsetMakes.j0 k l0 a1 a2 t311 t312 (t313 != t311)) else (patchbaylaw2_PsetMakes.j0 k l0 a1 a2 t311 t312 true))) = some r := H
   have A12 := Aside0.mk A120
   clear A120
   replace H := Option.bind_eq_some_iff.mp H
   obtain ⟨t317, A130, H⟩ := H
   replace H : (if t316 = t317 then (patchbaylaw2_PsetMakes.j0 k l0 a1 a2 t311 t312 (t313 != t311)) else (patchbaylaw2_PsetMakes.j0 k l0 a1 a2 t311 t312 true)) = some r := H
   have A13 := Aside0.mk A130
   clear A130
   by_cases c14 : t316 = t317
   ·rw [if_pos c14] at H
    have c14b0 : (t316 == t317) = true := beq_iff_eq.mpr c14
    have c14b1 : (t316 != t317) = false := bne_eq_false_iff_eq.mpr c14
    clear c14
    (first | rw [c14b0] | (simp only [i64_w, i32_w]; rw [c14b0]) | skip)
    have H' := Aside0.mk H
    clear H
    go_wp2_with (first | ((with_reducible refine gate_callee (f := 20) rfl ?_); refine goesL_ (some 24) rfl rfl Tryd.func20 (by kernel_rfl) rfl #[.slice A0 l0.length c0] rfl (by (try simp only [List.map_toArray, List.map_cons, List.map_nil]); first | done | rfl | (simp only [List.length_drop, List.length_take]; rfl)) ?_; (with_reducible refine (pset_Check.calls k _ _ l0 t316 _ ?sideV ?side1 ?side2 A12.out).mono ?_); (case sideV => exact HV.out.on (Fit.bl HB.out)); (case side1 => repeat (first | exact (Kd.C_below HR0.out HB.out) | (with_reducible refine Kd.C_alloc ?_ _) | (with_reducible refine Kd.C_drewN ?_ _) | (with_reducible refine Kd.C_drew ?_))); (case side2 => exact HC0.out); rintro e w15 ⟨rfl, hb⟩; refine ⟨_, rfl, ?_⟩; have n0_ := Aside0.mk (Kd.R_below (by (with_reducible repeat (first | apply Kd.R_alloc | apply Kd.R_drewN | apply Kd.R_drew)); exact HO315.out) hb); have n1_ := Aside0.mk (below_step (Fit.bl HB.out) hb); clear HO315; clear HB; have HO315 := n0_; have HB := n1_; clear n0_ n1_; (try clear hb); (try clear hb2); (try clear hk); (try clear hi)) | ((with_reducible refine gate_callee (f := 21) rfl ?_); refine goesL_ (some 26) rfl rfl Tryd.func21 (by kernel_rfl) rfl #[.slice A0 l0.length c0] rfl (by (try simp only [List.map_toArray, List.map_cons, List.map_nil]); first | done | rfl | (simp only [List.length_drop, List.length_take]; rfl)) ?_; (with_reducible refine (patchbayref2_SetFault.calls k _ _ l0 t317 _ ?side1 ?side2 A13.out).mono ?_); (case side1 => repeat (first | exact (Kd.C_below HR0.out HB.out) | (with_reducible refine Kd.C_alloc ?_ _) | (with_reducible refine Kd.C_drewN ?_ _) | (with_reducible refine Kd.C_drew ?_))); (case side2 => exact HC0.out); rintro e w16 ⟨rfl, hb⟩; refine ⟨_, rfl, ?_⟩; have n0_ := Aside0.mk (Kd.R_below (by (with_reducible repeat (first | apply Kd.R_alloc | apply Kd.R_drewN | apply Kd.R_drew)); exact HO315.out) hb); have n1_ := Aside0.mk (below_step (Fit.bl HB.out) hb); clear HO315; clear HB; have HO315 := n0_; have HB := n1_; clear n0_ n1_; (try clear hb); (try clear hb2); (try clear hk); (try clear hi)))
    go_meet
    case rel => exact ⟨_, ((t313 != t311)), (by first | rfl | (simp; done) | (simp [*]; done)), H', ⟨by first | omega | exact Nat.le_refl _⟩, ⟨by (with_reducible repeat (first | apply Kd.R_alloc | apply Kd.R_drewN | apply Kd.R_drew)); exact HO315.out⟩, ⟨Fit.bl HB.out⟩⟩
   ·rw [if_neg c14] at H
    have c14b0 : (t316 == t317) = false := beq_eq_false_iff_ne.mpr c14
    have c14b1 : (t316 != t317) = true := bne_iff_ne.mpr c14
    (first | rw [c14b0] | (simp only [i64_w, i32_w]; rw [c14b0]) | skip)
    have H' := Aside0.mk H
    clear H
    go_wp2_with (first | ((with_reducible refine gate_callee (f := 20) rfl ?_); refine goesL_ (some 24) rfl rfl Tryd.func20 (by kernel_rfl) rfl #[.slice A0 l0.length c0] rfl (by (try simp only [List.map_toArray, List.map_cons, List.map_nil]); first | done | rfl | (simp only [List.length_drop, List.length_take]; rfl)) ?_; (with_reducible refine (pset_Check.calls k _ _ l0 t316 _ ?sideV ?side1 ?side2 A12.out).mono ?_); (case sideV => exact HV.out.on (Fit.bl HB.out)); (case side1 => repeat (first | exact (Kd.C_below HR0.out HB.out) | (with_reducible refine Kd.C_alloc ?_ _) | (with_reducible refine Kd.C_drewN ?_ _) | (with_reducible refine Kd.C_drew ?_))); (case side2 => exact HC0.out); rintro e w17 ⟨rfl, hb⟩; refine ⟨_, rfl, ?_⟩; have n0_ := Aside0.mk (Kd.R_below (by (with_reducible repeat (first | apply Kd.R_alloc | apply Kd.R_drewN | apply Kd.R_drew)); exact HO315.out) hb); have n1_ := Aside0.mk (below_step (Fit.bl HB.out) hb); clear HO315; clear HB; have HO315 := n0_; have HB := n1_; clear n0_ n1_; (try clear hb); (try clear hb2); (try clear hk); (try clear hi)) | ((with_reducible refine gate_callee (f := 21) rfl ?_); refine goesL_ (some 26) rfl rfl Tryd.func21 (by kernel_rfl) rfl #[.slice A0 l0.length c0] rfl (by (try simp only [List.map_toArray, List.map_cons, List.map_nil]); first | done | rfl | (simp only [List.length_drop, List.length_take]; rfl)) ?_; (with_reducible refine (patchbayref2_SetFault.calls k _ _ l0 t317 _ ?side1 ?side2 A13.out).mono ?_); (case side1 => repeat (first | exact (Kd.C_below HR0.out HB.out) | (with_reducible refine Kd.C_alloc ?_ _) | (with_reducible refine Kd.C_drewN ?_ _) | (with_reducible refine Kd.C_drew ?_))); (case side2 => exact HC0.out); rintro e w18 ⟨rfl, hb⟩; refine ⟨_, rfl, ?_⟩; have n0_ := Aside0.mk (Kd.R_below (by (with_reducible repeat (first | apply Kd.R_alloc | apply Kd.R_drewN | apply Kd.R_drew)); exact HO315.out) hb); have n1_ := Aside0.mk (below_step (Fit.bl HB.out) hb); clear HO315; clear HB; have HO315 := n0_; have HB := n1_; clear n0_ n1_; (try clear hb); (try clear hb2); (try clear hk); (try clear hi)))
    go_meet
    case rel => exact ⟨_, (true), (by first | rfl | (simp; done) | (simp [*]; done)), H', ⟨by first | omega | exact Nat.le_refl _⟩, ⟨by (with_reducible repeat (first | apply Kd.R_alloc | apply Kd.R_drewN | apply Kd.R_drew)); exact HO315.out⟩, ⟨Fit.bl HB.out⟩⟩
  case rest =>
   clear HC8
   try clear c1
   try clear c2
   try clear p2
   try clear c4
   try clear c5
   try clear c14
   try clear c14b0
   try clear c14b1
   try clear c16
   try clear c18
   obtain ⟨kq, x32_7, rfl, HA, HJ7, HO_8, HB⟩ := hcut
   cases kq with
   | zero => exact absurd HA.out (by simp [patchbaylaw2_PsetMakes.j0])
   | succ kj7 =>
    have H := HA.out
    clear HA
    simp only [patchbaylaw2_PsetMakes.j0] at H
    by_cases c19 : x32_7 = true
    ·subst c19
     have H1 : (some false) = some r := by rw [if_pos rfl] at H; exact H
     clear H
     have H := H1
     clear H1
     obtain rfl := Option.some.inj H
     go_wp2
     go_ret
     exact ⟨by first | rfl | (simp [errW_none, errW_some] <;> rfl) | (simp [*, errW_none, errW_some] <;> rfl), Fit.bl HB.out⟩
    ·replace c19 := Bool.eq_false_iff.mpr c19
     subst c19
     have H1 : (if t311 = 0 then ((patchbayref2_SetOf.f kj7 l0).bind fun t318 => ((patchbayref2_SamePrefixes.f kj7 t312 t318).bind fun t321 => (if t321 = true then (patchbaylaw2_PsetMakes.j1 kj7 a1 a2 false) else (patchbaylaw2_PsetMakes.j1 kj7 a1 a2 true)))) else (patchbaylaw2_PsetMakes.j1 kj7 a1 a2 (decide ((t312.length : Int) > 0)))) = some r := by rw [if_neg (show ¬ (false = true) by decide)] at H; exact H
     clear H
     have H := H1
     clear H1
     have HC20 := Aside0.mk H
     clear H
     go_upto_region 8 with (fail)
     go_cut [50] (fun v50 wc => ∃ (kq : Nat) (x50_19 : Bool), v50 = .bool x50_19 ∧ Aside0 (patchbaylaw2_PsetMakes.j1 kq a1 a2 x50_19 = some r) ∧ Aside0 (kq ≤ kj7) ∧ Aside0 (Below w.heap.size w wc))
     case first =>
      have H := HC20.out
      clear HC20
      by_cases c21 : t311 = 0
      ·rw [if_pos c21] at H
       have c21b0 : (t311 == 0) = true := beq_iff_eq.mpr c21
       have c21b1 : (t311 != 0) = false := bne_eq_false_iff_eq.mpr c21
       clear c21
       (first | rw [c21b0] | (simp only [i64_w, i32_w]; rw [c21b0]) | skip)
       replace H := Option.bind_eq_some_iff.mp H
       obtain ⟨t318, A220, H⟩ := H
       replace H : ((patchbayref2_SamePrefixes.f kj7 t312 t318).bind fun t321 => (if t321 = true then (patchbaylaw2_PsetMakes.j1 kj7 a1 a2 false) else (patchbaylaw2_PsetMakes.j1 kj7 a1 a2 true))) = some r := H
       have A22 := Aside0.mk A220
       clear A220
       replace H := Option.bind_eq_some_iff.mp H
       obtain ⟨t321, A230, H⟩ := H
       replace H : (if t321 = true then (patchbaylaw2_PsetMakes.j1 kj7 a1 a2 false) else (patchbaylaw2_PsetMakes.j1 kj7 a1 a2 true)) = some r := H
       have A23 := Aside0.mk A230
       clear A230
       by_cases c24 : t321 = true
       ·subst c24
        have H1 : (patchbaylaw2_PsetMakes.j1 kj7 a1 a2 false) = some r := by rw [if_pos rfl] at H; exact H
        clear H
        have H := H1
        clear H1
        have H' := Aside0.mk H
        clear H
        go_wp2_with (first | (go_at_call 23; (with_reducible refine (patchbayref2_SetOf.calls kj7 _ _ l0 t318 _ ?side1 ?side2 A22.out).mono ?_); (case side1 => repeat (first | exact (Kd.C_below HR0.out HB.out) | (with_reducible refine Kd.C_alloc ?_ _) | (with_reducible refine Kd.C_drewN ?_ _) | (with_reducible refine Kd.C_drew ?_))); (case side2 => exact HC0.out); rintro e w25 ⟨v319, rfl, ho0, hb⟩; have n0_ := Aside0.mk (Kd.R_elder' (by (with_reducible repeat (first | apply Kd.R_alloc | apply Kd.R_drewN | apply Kd.R_drew)); exact HO_8.out) (Kd.R_base ho0) hb); have n1_ := Aside0.mk (Kd.R_lower (Kd.R_new' ho0 (Kd.R_lt (by (with_reducible repeat (first | apply Kd.R_alloc | apply Kd.R_drewN | apply Kd.R_drew)); exact HO_8.out))) (below_size (Fit.bl HB.out))); have n2_ := Aside0.mk (below_step (Fit.bl HB.out) hb); clear HO_8; clear HB; have HO_8 := n0_; have HO320 := n1_; have HB := n2_; clear n0_ n1_ n2_; (try clear hb); (try clear hb2); (try clear hk); (try clear hi); (try clear ho0); obtain ⟨Ao26, co26, eo26⟩ := Kd.R_slice HO_8.out; subst eo26; obtain ⟨Ao27, co27, eo27⟩ := Kd.R_slice HO320.out; subst eo27) | (go_at_call 22; (with_reducible refine (patchbayref2_SamePrefixes.calls kj7 _ _ t312 _ _ t318 true _ ?side1 ?side2 ?side3 ?side4 A23.out).mono ?_); (case side1 => repeat (first | exact (Kd.R_reads' HO_8.out).2.2 | (with_reducible refine Kd.C_alloc ?_ _) | (with_reducible refine Kd.C_drewN ?_ _) | (with_reducible refine Kd.C_drew ?_))); (case side2 => exact (Kd.R_reads' HO_8.out).2.1); (case side3 => repeat (first | exact (Kd.R_reads' HO320.out).2.2 | (with_reducible refine Kd.C_alloc ?_ _) | (with_reducible refine Kd.C_drewN ?_ _) | (with_reducible refine Kd.C_drew ?_))); (case side4 => exact (Kd.R_reads' HO320.out).2.1); rintro e w28 ⟨rfl, hb⟩; have n0_ := Aside0.mk (Kd.R_below (by (with_reducible repeat (first | apply Kd.R_alloc | apply Kd.R_drewN | apply Kd.R_drew)); exact HO_8.out) hb); have n1_ := Aside0.mk (Kd.R_below (by (with_reducible repeat (first | apply Kd.R_alloc | apply Kd.R_drewN | apply Kd.R_drew)); exact HO320.out) hb); have n2_ := Aside0.mk (below_step (Fit.bl HB.out) hb); clear HO_8; clear HO320; clear HB; have HO_8 := n0_; have HO320 := n1_; have HB := n2_; clear n0_ n1_ n2_; (try clear hb); (try clear hb2); (try clear hk); (try clear hi)))
        go_meet
        case rel => exact ⟨_, (false), (by first | rfl | (simp; done) | (simp [*]; done)), H', ⟨by have := HJ7.out; first | omega | exact Nat.le_refl _⟩, ⟨Fit.bl HB.out⟩⟩
       ·replace c24 := Bool.eq_false_iff.mpr c24
        subst c24
        have H1 : (patchbaylaw2_PsetMakes.j1 kj7 a1 a2 true) = some r := by rw [if_neg (show ¬ (false = true) by decide)] at H; exact H
        clear H
        have H := H1
        clear H1
        have H' := Aside0.mk H
        clear H
        go_wp2_with (first | (go_at_call 23; (with_reducible refine (patchbayref2_SetOf.calls kj7 _ _ l0 t318 _ ?side1 ?side2 A22.out).mono ?_); (case side1 => repeat (first | exact (Kd.C_below HR0.out HB.out) | (with_reducible refine Kd.C_alloc ?_ _) | (with_reducible refine Kd.C_drewN ?_ _) | (with_reducible refine Kd.C_drew ?_))); (case side2 => exact HC0.out); rintro e w29 ⟨v319, rfl, ho0, hb⟩; have n0_ := Aside0.mk (Kd.R_elder' (by (with_reducible repeat (first | apply Kd.R_alloc | apply Kd.R_drewN | apply Kd.R_drew)); exact HO_8.out) (Kd.R_base ho0) hb); have n1_ := Aside0.mk (Kd.R_lower (Kd.R_new' ho0 (Kd.R_lt (by (with_reducible repeat (first | apply Kd.R_alloc | apply Kd.R_drewN | apply Kd.R_drew)); exact HO_8.out))) (below_size (Fit.bl HB.out))); have n2_ := Aside0.mk (below_step (Fit.bl HB.out) hb); clear HO_8; clear HB; have HO_8 := n0_; have HO320 := n1_; have HB := n2_; clear n0_ n1_ n2_; (try clear hb); (try clear hb2); (try clear hk); (try clear hi); (try clear ho0); obtain ⟨Ao30, co30, eo30⟩ := Kd.R_slice HO_8.out; subst eo30; obtain ⟨Ao31, co31, eo31⟩ := Kd.R_slice HO320.out; subst eo31) | (go_at_call 22; (with_reducible refine (patchbayref2_SamePrefixes.calls kj7 _ _ t312 _ _ t318 false _ ?side1 ?side2 ?side3 ?side4 A23.out).mono ?_); (case side1 => repeat (first | exact (Kd.R_reads' HO_8.out).2.2 | (with_reducible refine Kd.C_alloc ?_ _) | (with_reducible refine Kd.C_drewN ?_ _) | (with_reducible refine Kd.C_drew ?_))); (case side2 => exact (Kd.R_reads' HO_8.out).2.1); (case side3 => repeat (first | exact (Kd.R_reads' HO320.out).2.2 | (with_reducible refine Kd.C_alloc ?_ _) | (with_reducible refine Kd.C_drewN ?_ _) | (with_reducible refine Kd.C_drew ?_))); (case side4 => exact (Kd.R_reads' HO320.out).2.1); rintro e w32 ⟨rfl, hb⟩; have n0_ := Aside0.mk (Kd.R_below (by (with_reducible repeat (first | apply Kd.R_alloc | apply Kd.R_drewN | apply Kd.R_drew)); exact HO_8.out) hb); have n1_ := Aside0.mk (Kd.R_below (by (with_reducible repeat (first | apply Kd.R_alloc | apply Kd.R_drewN | apply Kd.R_drew)); exact HO320.out) hb); have n2_ := Aside0.mk (below_step (Fit.bl HB.out) hb); clear HO_8; clear HO320; clear HB; have HO_8 := n0_; have HO320 := n1_; have HB := n2_; clear n0_ n1_ n2_; (try clear hb); (try clear hb2); (try clear hk); (try clear hi)))
        go_meet
        case rel => exact ⟨_, (true), (by first | rfl | (simp; done) | (simp [*]; done)), H', ⟨by have := HJ7.out; first | omega | exact Nat.le_refl _⟩, ⟨Fit.bl HB.out⟩⟩
      ·rw [if_neg c21] at H
       have c21b0 : (t311 == 0) = false := beq_eq_false_iff_ne.mpr c21
       have c21b1 : (t311 != 0) = true := bne_iff_ne.mpr c21
       (first | rw [c21b0] | (simp only [i64_w, i32_w]; rw [c21b0]) | skip)
       have H' := Aside0.mk H
       clear H
       obtain ⟨Ao33, co33, eo33⟩ := Kd.R_slice HO_8.out
       subst eo33
       go_wp2
       go_meet
       case rel => exact ⟨_, (decide ((t312.length : Int) > 0)), (by first | rfl | (simp; done) | (simp [*]; done)), H', ⟨by have := HJ7.out; first | omega | exact Nat.le_refl _⟩, ⟨Fit.bl HB.out⟩⟩
     case rest =>
      clear HC20
      try clear c1
      try clear c2
      try clear p2
      try clear c4
      try clear c5
      try clear c14
      try clear c14b0
      try clear c14b1
      try clear c16
      try clear c18
      try clear c19
      try clear c20
      try clear c21
      try clear c21b0
      try clear c21b1
      try clear c24
      try clear p2
      obtain ⟨kq, x50_19, rfl, HA, HJ19, HB⟩ := hcut
      cases kq with
      | zero => exact absurd HA.out (by simp [patchbaylaw2_PsetMakes.j1])
      | succ kj19 =>
       have H := HA.out
       clear HA
       simp only [patchbaylaw2_PsetMakes.j1] at H
       by_cases c34 : x50_19 = true
       ·subst c34
        have H1 : (some false) = some r := by rw [if_pos rfl] at H; exact H
        clear H
        have H := H1
        clear H1
        obtain rfl := Option.some.inj H
        go_wp2
        go_ret
        exact ⟨by first | rfl | (simp [errW_none, errW_some] <;> rfl) | (simp [*, errW_none, errW_some] <;> rfl), Fit.bl HB.out⟩
       ·replace c34 := Bool.eq_false_iff.mpr c34
        subst c34
        have H1 : ((pset_Range.f kj19 a1 a2).bind fun bt322 => (if a1 > a2 then (if bt322.2 = 1 then (some ((bt322.1.length : Int) == 0)) else (some false)) else (if bt322.2 = 0 then ((patchbayref2_SetRange.f kj19 a1 a2).bind fun t326 => ((patchbayref2_SamePrefixes.f kj19 bt322.1 t326).bind fun t329 => (some t329))) else (some false)))) = some r := by rw [if_neg (show ¬ (false = true) by decide)] at H; exact H
        clear H
        have H := H1
        clear H1
        replace H := Option.bind_eq_some_iff.mp H
        obtain ⟨⟨t322, t323⟩, A350, H⟩ := H
        replace H : (if a1 > a2 then (if t323 = 1 then (some ((t322.length : Int) == 0)) else (some false)) else (if t323 = 0 then ((patchbayref2_SetRange.f kj19 a1 a2).bind fun t326 => ((patchbayref2_SamePrefixes.f kj19 t322 t326).bind fun t329 => (some t329))) else (some false))) = some r := H
        have A35 := Aside0.mk A350
        clear A350
        by_cases c36 : a1 > a2
        ·rw [if_pos c36] at H
         have c36b0 : decide (a2 < a1) = true := decide_eq_true c36
         clear c36
         by_cases c37 : t323 = 1
         ·rw [if_pos c37] at H
          have c37b0 : (t323 == 1) = true := beq_iff_eq.mpr c37
          have c37b1 : (t323 != 1) = false := bne_eq_false_iff_eq.mpr c37
          clear c37
          obtain rfl := Option.some.inj H
          go_wp2_with (first | ((with_reducible refine gate_callee (f := 24) rfl ?_); refine goesL_ (some 54) rfl rfl Tryd.func24 (by kernel_rfl) rfl #[.int .u32 a1, .int .u32 a2] rfl (by (try simp only [List.map_toArray, List.map_cons, List.map_nil]); first | done | rfl | (simp only [List.length_drop, List.length_take]; rfl)) ?_; (with_reducible refine (pset_Range.calls kj19 a1 a2 t322 t323 _ ?sideV A35.out).mono ?_); (case sideV => exact HV.out.on (Fit.bl HB.out)); rintro e w38 ⟨v324, rfl, ho0, hb⟩; refine ⟨_, rfl, ?_⟩; have n0_ := Aside0.mk (Kd.R_lower ho0 (below_size (Fit.bl HB.out))); have n1_ := Aside0.mk (below_step (Fit.bl HB.out) hb); clear HB; have HO325 := n0_; have HB := n1_; clear n0_ n1_; (try clear hb); (try clear hb2); (try clear hk); (try clear hi); (try clear ho0); obtain ⟨Ao39, co39, eo39⟩ := Kd.R_slice HO325.out; subst eo39))
          go_ret
          exact ⟨by first | rfl | (simp [errW_none, errW_some] <;> rfl) | (simp [*, errW_none, errW_some] <;> rfl), Fit.bl HB.out⟩
         ·rw [if_neg c37] at H
          have c37b0 : (t323 == 1) = false := beq_eq_false_iff_ne.mpr c37
          have c37b1 : (t323 != 1) = true := bne_iff_ne.mpr c37
          obtain rfl := Option.some.inj H
          go_wp2_with (first | ((with_reducible refine gate_callee (f := 24) rfl ?_); refine goesL_ (some 54) rfl rfl Tryd.func24 (by kernel_rfl) rfl #[.int .u32 a1, .int .u32 a2] rfl (by (try simp only [List.map_toArray, List.map_cons, List.map_nil]); first | done | rfl | (simp only [List.length_drop, List.length_take]; rfl)) ?_; (with_reducible refine (pset_Range.calls kj19 a1 a2 t322 t323 _ ?sideV A35.out).mono ?_); (case sideV => exact HV.out.on (Fit.bl HB.out)); rintro e w40 ⟨v324, rfl, ho0, hb⟩; refine ⟨_, rfl, ?_⟩; have n0_ := Aside0.mk (Kd.R_lower ho0 (below_size (Fit.bl HB.out))); have n1_ := Aside0.mk (below_step (Fit.bl HB.out) hb); clear HB; have HO325 := n0_; have HB := n1_; clear n0_ n1_; (try clear hb); (try clear hb2); (try clear hk); (try clear hi); (try clear ho0)))
          go_ret
          exact ⟨by first | rfl | (simp [errW_none, errW_some] <;> rfl) | (simp [*, errW_none, errW_some] <;> rfl), Fit.bl HB.out⟩
        ·rw [if_neg c36] at H
         have c36b0 : decide (a2 < a1) = false := decide_eq_false c36
         clear c36
         by_cases c41 : t323 = 0
         ·rw [if_pos c41] at H
          have c41b0 : (t323 == 0) = true := beq_iff_eq.mpr c41
          have c41b1 : (t323 != 0) = false := bne_eq_false_iff_eq.mpr c41
          clear c41
          replace H := Option.bind_eq_some_iff.mp H
          obtain ⟨t326, A420, H⟩ := H
          replace H : ((patchbayref2_SamePrefixes.f kj19 t322 t326).bind fun t329 => (some t329)) = some r := H
          have A42 := Aside0.mk A420
          clear A420
          replace H := Option.bind_eq_some_iff.mp H
          obtain ⟨t329, A430, H⟩ := H
          replace H : (some t329) = some r := H
          have A43 := Aside0.mk A430
          clear A430
          obtain rfl := Option.some.inj H
          go_wp2_with (first | ((with_reducible refine gate_callee (f := 24) rfl ?_); refine goesL_ (some 54) rfl rfl Tryd.func24 (by kernel_rfl) rfl #[.int .u32 a1, .int .u32 a2] rfl (by (try simp only [List.map_toArray, List.map_cons, List.map_nil]); first | done | rfl | (simp only [List.length_drop, List.length_take]; rfl)) ?_; (with_reducible refine (pset_Range.calls kj19 a1 a2 t322 t323 _ ?sideV A35.out).mono ?_); (case sideV => exact HV.out.on (Fit.bl HB.out)); rintro e w44 ⟨v324, rfl, ho0, hb⟩; refine ⟨_, rfl, ?_⟩; have n0_ := Aside0.mk (Kd.R_lower ho0 (below_size (Fit.bl HB.out))); have n1_ := Aside0.mk (below_step (Fit.bl HB.out) hb); clear HB; have HO325 := n0_; have HB := n1_; clear n0_ n1_; (try clear hb); (try clear hb2); (try clear hk); (try clear hi); (try clear ho0)) | (go_at_call 25; (with_reducible refine (patchbayref2_SetRange.calls kj19 a1 a2 t326 _ A42.out).mono ?_); rintro e w45 ⟨v327, rfl, ho0, hb⟩; have n0_ := Aside0.mk (Kd.R_elder' (by (with_reducible repeat (first | apply Kd.R_alloc | apply Kd.R_drewN | apply Kd.R_drew)); exact HO325.out) (Kd.R_base ho0) hb); have n1_ := Aside0.mk (Kd.R_lower (Kd.R_new' ho0 (Kd.R_lt (by (with_reducible repeat (first | apply Kd.R_alloc | apply Kd.R_drewN | apply Kd.R_drew)); exact HO325.out))) (below_size (Fit.bl HB.out))); have n2_ := Aside0.mk (below_step (Fit.bl HB.out) hb); clear HO325; clear HB; have HO325 := n0_; have HO328 := n1_; have HB := n2_; clear n0_ n1_ n2_; (try clear hb); (try clear hb2); (try clear hk); (try clear hi); (try clear ho0); obtain ⟨Ao46, co46, eo46⟩ := Kd.R_slice HO325.out; subst eo46; obtain ⟨Ao47, co47, eo47⟩ := Kd.R_slice HO328.out; subst eo47) | (go_at_call 22; (with_reducible refine (patchbayref2_SamePrefixes.calls kj19 _ _ t322 _ _ t326 t329 _ ?side1 ?side2 ?side3 ?side4 A43.out).mono ?_); (case side1 => repeat (first | exact (Kd.R_reads' HO325.out).2.2 | (with_reducible refine Kd.C_alloc ?_ _) | (with_reducible refine Kd.C_drewN ?_ _) | (with_reducible refine Kd.C_drew ?_))); (case side2 => exact (Kd.R_reads' HO325.out).2.1); (case side3 => repeat (first | exact (Kd.R_reads' HO328.out).2.2 | (with_reducible refine Kd.C_alloc ?_ _) | (with_reducible refine Kd.C_drewN ?_ _) | (with_reducible refine Kd.C_drew ?_))); (case side4 => exact (Kd.R_reads' HO328.out).2.1); rintro e w48 ⟨rfl, hb⟩; have n0_ := Aside0.mk (Kd.R_below (by (with_reducible repeat (first | apply Kd.R_alloc | apply Kd.R_drewN | apply Kd.R_drew)); exact HO325.out) hb); have n1_ := Aside0.mk (Kd.R_below (by (with_reducible repeat (first | apply Kd.R_alloc | apply Kd.R_drewN | apply Kd.R_drew)); exact HO328.out) hb); have n2_ := Aside0.mk (below_step (Fit.bl HB.out) hb); clear HO325; clear HO328; clear HB; have HO325 := n0_; have HO328 := n1_; have HB := n2_; clear n0_ n1_ n2_; (try clear hb); (try clear hb2); (try clear hk); (try clear hi)))
          go_ret
          exact ⟨by first | rfl | (simp [errW_none, errW_some] <;> rfl) | (simp [*, errW_none, errW_some] <;> rfl), Fit.bl HB.out⟩
         ·rw [if_neg c41] at H
          have c41b0 : (t323 == 0) = false := beq_eq_false_iff_ne.mpr c41
          have c41b1 : (t323 != 0) = true := bne_iff_ne.mpr c41
          obtain rfl := Option.some.inj H
          go_wp2_with (first | ((with_reducible refine gate_callee (f := 24) rfl ?_); refine goesL_ (some 54) rfl rfl Tryd.func24 (by kernel_rfl) rfl #[.int .u32 a1, .int .u32 a2] rfl (by (try simp only [List.map_toArray, List.map_cons, List.map_nil]); first | done | rfl | (simp only [List.length_drop, List.length_take]; rfl)) ?_; (with_reducible refine (pset_Range.calls kj19 a1 a2 t322 t323 _ ?sideV A35.out).mono ?_); (case sideV => exact HV.out.on (Fit.bl HB.out)); rintro e w49 ⟨v324, rfl, ho0, hb⟩; refine ⟨_, rfl, ?_⟩; have n0_ := Aside0.mk (Kd.R_lower ho0 (below_size (Fit.bl HB.out))); have n1_ := Aside0.mk (below_step (Fit.bl HB.out) hb); clear HB; have HO325 := n0_; have HB := n1_; clear n0_ n1_; (try clear hb); (try clear hb2); (try clear hk); (try clear hi); (try clear ho0)))
          go_ret
          exact ⟨by first | rfl | (simp [errW_none, errW_some] <;> rfl) | (simp [*, errW_none, errW_some] <;> rfl), Fit.bl HB.out⟩
 ·replace c5 := Bool.eq_false_iff.mpr c5
  subst c5
  have H1 : (some false) = some r := by rw [if_neg (show ¬ (false = true) by decide)] at H; exact H
  clear H
  have H := H1
  clear H1
  obtain rfl := Option.some.inj H
  go_enter Tryd.func4, Tryd.ntmps4
  go_wp2_with (first | ((with_reducible refine gate_callee (f := 16) rfl ?_); refine goesL_ (some 12) rfl rfl Tryd.func16 (by kernel_rfl) rfl #[] rfl (by (try simp only [List.map_toArray, List.map_cons, List.map_nil]); first | done | rfl | (simp only [List.length_drop, List.length_take]; rfl)) ?_; (with_reducible refine (patchbaylaw2_psetLives.calls k  false _ ?sideV A4.out).mono ?_); (case sideV => exact HV.out.on (Fit.bl HB.out)); rintro e w50 ⟨rfl, hb⟩; refine ⟨_, rfl, ?_⟩; have n0_ := Aside0.mk (below_step (Fit.bl HB.out) hb); clear HB; have HB := n0_; clear n0_; (try clear hb); (try clear hb2); (try clear hk); (try clear hi)))
  go_ret
  exact ⟨by first | rfl | (simp [errW_none, errW_some] <;> rfl) | (simp [*, errW_none, errW_some] <;> rfl), Fit.bl HB.out⟩


end Go.Proofs.YtbdcaadehfbnbaaDoor.GPsetMakes
