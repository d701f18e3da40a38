-- a text that a program of this session wrote
import Derived.Test.YtbdcaadehfbnbaaDoorGAddrWritesx0
import Derived.Test.YtbdcaadehfbnbaaDoorGAddrWritesx1
import Derived.Test.YtbdcaadehfbnbaaDoorGAddrWritesx2
import Derived.Test.YtbdcaadehfbnbaaDoorGAddrWritesx3
import Derived.Test.YtbdcaadehfbnbaaDoorGAddrWritesx5
import Derived.Test.YtbdcaadehfbnbaaDoorGAddrWritesx6
import Derived.Test.YtbdcaadehfbnbaaDoorQVb
import Derived.Test.YtbdcaadehfbnbaaDoorQJb
namespace Go.Proofs.YtbdcaadehfbnbaaDoor.GAddrWrites
open Go.RowKit Go.Proofs.YtbdcaadehfbnbaaDoorW.PrintWords Go.Proofs.YtbdcaadehfbnbaaDoorW.PrintLast Go.Proofs.YtbdcaadehfbnbaaDoorW.PrintMore
attribute [local go_sem] max2_int min2_int max_two min_two max_three min_three max_four min_four   -- for this text's walks alone
attribute [local go_sem high] Go.Proofs.YtbdcaadehfbnbaaDoor.Fit.run_string_add_fit
set_option linter.unusedVariables false
set_option linter.unusedSimpArgs false

attribute [local go_sem high] eqA24
/-! ### patchbaylaw2_AddrWrites: function 7 -/
mutual
def patchbaylaw2_AddrWrites.j0 : Nat → Int → Bool → Int → Int → Option (Bool)
 | 0, _, _, _, _ => none
 | k + 1, x5, x29, x189000, x189001 => if x29 = true then (some false) else ((addr_PrintPrefix.f k x189000 x189001).bind fun bt194 => ((addr_Last.f x189000 x189001).bind fun bt196 => ((addr_Mask.f x189001).bind fun bt198 => (if bt194.2 = x5 then (patchbaylaw2_AddrWrites.j1 k x5 bt194.1 bt196.1 bt198.1 bt198.2 (bt196.2 != x5) x189000 x189001) else (patchbaylaw2_AddrWrites.j1 k x5 bt194.1 bt196.1 bt198.1 bt198.2 true x189000 x189001)))))
def patchbaylaw2_AddrWrites.j1 : Nat → Int → ByteArray → Int → Int → Int → Bool → Int → Int → Option (Bool)
 | 0, _, _, _, _, _, _, _, _ => none
 | k + 1, x5, x6, x8, x10, x11, x53, x189000, x189001 => if x53 = true then (some false) else (if x5 = 10 then (if x6.toList = ([] : List UInt8) then (if x8 = 0 then (if x10 = 0 then (some (x11 == 10)) else (some false)) else (some false)) else (some false)) else ((patchbayref2_Block.f k x189001).bind fun t200 => (if x11 = 0 then (patchbaylaw2_AddrWrites.j2 k x5 x6 x8 t200 ((IntKind.u64.wrap (x10)) != (IntKind.u64.wrap (4294967296 - t200))) x189000 x189001) else (patchbaylaw2_AddrWrites.j2 k x5 x6 x8 t200 true x189000 x189001))))
def patchbaylaw2_AddrWrites.j2 : Nat → Int → ByteArray → Int → Int → Bool → Int → Int → Option (Bool)
 | 0, _, _, _, _, _, _, _ => none
 | k + 1, x5, x6, x8, x12, x81, x189000, x189001 => if x81 = true then (some false) else (if x5 = 0 then ((patchbayref2_PrefixRead.f k x6).bind fun bt201 => (if bt201.2.2 = 0 then (if (bt201.1 == x189000 && (bt201.2.1 == x189001)) = true then (some ((IntKind.u64.wrap (x8)) == (IntKind.u64.wrap ((IntKind.u64.wrap ((IntKind.u64.wrap (x189000)) + x12)) - 1)))) else (some false)) else (some false))) else (if x6.toList = ([] : List UInt8) then (some (x8 == 0)) else (some false)))
end
def patchbaylaw2_AddrWrites.f (k : Nat) (a0 : Int) (a1_0 : Int) (a1_1 : Int) : Option (Bool) := (patchbaylaw2_addrLives.f k).bind fun t189 => (if t189 = true then ((patchbayref2_PrefixFault.f k a1_0 a1_1).bind fun t190 => ((addr_Print.f k a0).bind fun t191 => ((patchbayref2_AddrText.f k a0).bind fun t192 => (if t191.toList = t192.toList then ((addr_Check.f a1_0 a1_1).bind fun t193 => (patchbaylaw2_AddrWrites.j0 k t190 (t193 != t190) a1_0 a1_1)) else (patchbaylaw2_AddrWrites.j0 k t190 true a1_0 a1_1))))) else (some false))
theorem patchbaylaw2_AddrWrites.mono_l : ∀ k, (∀ y0 y1 y2 y3, LeO (patchbaylaw2_AddrWrites.j0 k y0 y1 y2 y3) (patchbaylaw2_AddrWrites.j0 (k + 1) y0 y1 y2 y3)) ∧ (∀ y0 y1 y2 y3 y4 y5 y6 y7, LeO (patchbaylaw2_AddrWrites.j1 k y0 y1 y2 y3 y4 y5 y6 y7) (patchbaylaw2_AddrWrites.j1 (k + 1) y0 y1 y2 y3 y4 y5 y6 y7)) ∧ (∀ y0 y1 y2 y3 y4 y5 y6, LeO (patchbaylaw2_AddrWrites.j2 k y0 y1 y2 y3 y4 y5 y6) (patchbaylaw2_AddrWrites.j2 (k + 1) y0 y1 y2 y3 y4 y5 y6))
 | 0 => ⟨fun _ _ _ _ r h => by simp [patchbaylaw2_AddrWrites.j0] at h, fun _ _ _ _ _ _ _ _ r h => by simp [patchbaylaw2_AddrWrites.j1] at h, fun _ _ _ _ _ _ _ r h => by simp [patchbaylaw2_AddrWrites.j2] at h⟩
 | k + 1 => by
  obtain ⟨ih0, ih1, ih2⟩ := patchbaylaw2_AddrWrites.mono_l k
  refine ⟨?_, ?_, ?_⟩
  ·intro y0 y1 y2 y3
   unfold patchbaylaw2_AddrWrites.j0
   repeat' first
   | (with_reducible exact ih0 _ _ _ _)
   | (with_reducible exact ih1 _ _ _ _ _ _ _ _)
   | (with_reducible exact ih2 _ _ _ _ _ _ _)
   | (with_reducible exact addr_Print.mono _ _)
   | (with_reducible exact addr_PrintPrefix.mono _ _ _)
   | (with_reducible exact patchbaylaw2_addrLives.mono _)
   | (with_reducible exact patchbayref2_AddrText.mono _ _)
   | (with_reducible exact patchbayref2_Block.mono _ _)
   | (with_reducible exact patchbayref2_PrefixFault.mono _ _ _)
   | (with_reducible exact patchbayref2_PrefixRead.mono _ _)
   | (with_reducible exact LeO.refl _)
   | (with_reducible exact LeO.none _)
   | (with_reducible refine LeO.ite ?_ ?_)
   | (with_reducible refine LeO.bind ?_ (fun _ => ?_))
   | exact ih0 _ _ _ _
   | exact ih1 _ _ _ _ _ _ _ _
   | exact ih2 _ _ _ _ _ _ _
   | exact addr_Print.mono _ _
   | exact addr_PrintPrefix.mono _ _ _
   | exact patchbaylaw2_addrLives.mono _
   | exact patchbayref2_AddrText.mono _ _
   | exact patchbayref2_Block.mono _ _
   | exact patchbayref2_PrefixFault.mono _ _ _
   | exact patchbayref2_PrefixRead.mono _ _
   | exact LeO.none _
   | refine LeO.ite ?_ ?_
   | refine LeO.bind ?_ (fun _ => ?_)
  ·intro y0 y1 y2 y3 y4 y5 y6 y7
   unfold patchbaylaw2_AddrWrites.j1
   repeat' first
   | (with_reducible exact ih0 _ _ _ _)
   | (with_reducible exact ih1 _ _ _ _ _ _ _ _)
   | (with_reducible exact ih2 _ _ _ _ _ _ _)
   | (with_reducible exact addr_Print.mono _ _)
   | (with_reducible exact addr_PrintPrefix.mono _ _ _)
   | (with_reducible exact patchbaylaw2_addrLives.mono _)
   | (with_reducible exact patchbayref2_AddrText.mono _ _)
   | (with_reducible exact patchbayref2_Block.mono _ _)
   | (with_reducible exact patchbayref2_PrefixFault.mono _ _ _)
   | (with_reducible exact patchbayref2_PrefixRead.mono _ _)
   | (with_reducible exact LeO.refl _)
   | (with_reducible exact LeO.none _)
   | (with_reducible refine LeO.ite ?_ ?_)
   | (with_reducible refine LeO.bind ?_ (fun _ => ?_))
   | exact ih0 _ _ _ _
   | exact ih1 _ _ _ _ _ _ _ _
   | exact ih2 _ _ _ _ _ _ _
   | exact addr_Print.mono _ _
   | exact addr_PrintPrefix.mono _ _ _
   | exact patchbaylaw2_addrLives.mono _
   | exact patchbayref2_AddrText.mono _ _
   | exact patchbayref2_Block.mono _ _
   | exact patchbayref2_PrefixFault.mono _ _ _
   | exact patchbayref2_PrefixRead.mono _ _
   | exact LeO.none _
   | refine LeO.ite ?_ ?_
   | refine LeO.bind ?_ (fun _ => ?_)
  ·intro y0 y1 y2 y3 y4 y5 y6
   unfold patchbaylaw2_AddrWrites.j2
   repeat' first
   | (with_reducible exact ih0 _ _ _ _)
   | (with_reducible exact ih1 _ _ _ _ _ _ _ _)
   | (with_reducible exact ih2 _ _ _ _ _ _ _)
   | (with_reducible exact addr_Print.mono _ _)
   | (with_reducible exact addr_PrintPrefix.mono _ _ _)
   | (with_reducible exact patchbaylaw2_addrLives.mono _)
   | (with_reducible exact patchbayref2_AddrText.mono _ _)
   | (with_reducible exact patchbayref2_Block.mono _ _)
   | (with_reducible exact patchbayref2_PrefixFault.mono _ _ _)
   | (with_reducible exact patchbayref2_PrefixRead.mono _ _)
   | (with_reducible exact LeO.refl _)
   | (with_reducible exact LeO.none _)
   | (with_reducible refine LeO.ite ?_ ?_)
   | (with_reducible refine LeO.bind ?_ (fun _ => ?_))
   | exact ih0 _ _ _ _
   | exact ih1 _ _ _ _ _ _ _ _
   | exact ih2 _ _ _ _ _ _ _
   | exact addr_Print.mono _ _
   | exact addr_PrintPrefix.mono _ _ _
   | exact patchbaylaw2_addrLives.mono _
   | exact patchbayref2_AddrText.mono _ _
   | exact patchbayref2_Block.mono _ _
   | exact patchbayref2_PrefixFault.mono _ _ _
   | exact patchbayref2_PrefixRead.mono _ _
   | exact LeO.none _
   | refine LeO.ite ?_ ?_
   | refine LeO.bind ?_ (fun _ => ?_)
theorem patchbaylaw2_AddrWrites.mono : ∀ a0 a1 a2 k, LeO (patchbaylaw2_AddrWrites.f k a0 a1 a2) (patchbaylaw2_AddrWrites.f (k + 1) a0 a1 a2) := by
 intro a0 a1 a2 k
 obtain ⟨ih0, ih1, ih2⟩ := patchbaylaw2_AddrWrites.mono_l k
 unfold patchbaylaw2_AddrWrites.f
 repeat' first
   | (with_reducible exact ih0 _ _ _ _)
   | (with_reducible exact ih1 _ _ _ _ _ _ _ _)
   | (with_reducible exact ih2 _ _ _ _ _ _ _)
   | (with_reducible exact addr_Print.mono _ _)
   | (with_reducible exact addr_PrintPrefix.mono _ _ _)
   | (with_reducible exact patchbaylaw2_addrLives.mono _)
   | (with_reducible exact patchbayref2_AddrText.mono _ _)
   | (with_reducible exact patchbayref2_Block.mono _ _)
   | (with_reducible exact patchbayref2_PrefixFault.mono _ _ _)
   | (with_reducible exact patchbayref2_PrefixRead.mono _ _)
   | (with_reducible exact LeO.refl _)
   | (with_reducible exact LeO.none _)
   | (with_reducible refine LeO.ite ?_ ?_)
   | (with_reducible refine LeO.bind ?_ (fun _ => ?_))
   | exact ih0 _ _ _ _
   | exact ih1 _ _ _ _ _ _ _ _
   | exact ih2 _ _ _ _ _ _ _
   | exact addr_Print.mono _ _
   | exact addr_PrintPrefix.mono _ _ _
   | exact patchbaylaw2_addrLives.mono _
   | exact patchbayref2_AddrText.mono _ _
   | exact patchbayref2_Block.mono _ _
   | exact patchbayref2_PrefixFault.mono _ _ _
   | exact patchbayref2_PrefixRead.mono _ _
   | exact LeO.none _
   | refine LeO.ite ?_ ?_
   | refine LeO.bind ?_ (fun _ => ?_)
set_option maxHeartbeats 8000000 in
set_option maxRecDepth 100000 in
theorem patchbaylaw2_AddrWrites.calls (k : Nat) (a0 : Int) (a1_0 : Int) (a1_1 : Int) (r : Bool) (w : World) (HVw : Vb.Ok w) (h : patchbaylaw2_AddrWrites.f k a0 a1_0 a1_1 = some r) :
  Calls Tryd.prog 7 #[.int .u32 a0, .agg #[.int .u32 a1_0, .int .i64 a1_1]] w fun e w' => e = .returned (.bool r) ∧ Below w.heap.size w w' := by
 have HV := Aside0.mk HVw
 clear HVw
 have hu24 := Tryd.underlying24
 have HB := Aside0.mk (Below.refl w.heap.size w)
 have H : ((patchbaylaw2_addrLives.f k).bind fun t189 => (if t189 = true then ((patchbayref2_PrefixFault.f k a1_0 a1_1).bind fun t190 => ((addr_Print.f k a0).bind fun t191 => ((patchbayref2_AddrText.f k a0).bind fun t192 => (if t191.toList = t192.toList then ((addr_Check.f a1_0 a1_1).bind fun t193 => (patchbaylaw2_AddrWrites.j0 k t190 (t193 != t190) a1_0 a1_1)) else (patchbaylaw2_AddrWrites.j0 k t190 true a1_0 a1_1))))) else (some false))) = some r := h
 clear h
 replace H := Option.bind_eq_some_iff.mp H
 obtain ⟨t189, A30, H⟩ := H
 replace H : (if t189 = true then ((patchbayref2_PrefixFault.f k a1_0 a1_1).bind fun t190 => ((addr_Print.f k a0).bind fun t191 => ((patchbayref2_AddrText.f k a0).bind fun t192 => (if t191.toList = t192.toList then ((addr_Check.f a1_0 a1_1).bind fun t193 => (patchbaylaw2_AddrWrites.j0 k t190 (t193 != t190) a1_0 a1_1)) else (patchbaylaw2_AddrWrites.j0 k t190 true a1_0 a1_1))))) else (some false)) = some r := H
 have A3 := Aside0.mk A30
 clear A30
 by_cases c4 : t189 = true
 ·subst c4
  have H1 : ((patchbayref2_PrefixFault.f k a1_0 a1_1).bind fun t190 => ((addr_Print.f k a0).bind fun t191 => ((patchbayref2_AddrText.f k a0).bind fun t192 => (if t191.toList = t192.toList then ((addr_Check.f a1_0 a1_1).bind fun t193 => (patchbaylaw2_AddrWrites.j0 k t190 (t193 != t190) a1_0 a1_1)) else (patchbaylaw2_AddrWrites.j0 k t190 true a1_0 a1_1))))) = some r := by rw [if_pos rfl] at H; exact H
  clear H
  have H := H1
  clear H1
  replace H := Option.bind_eq_some_iff.mp H
  obtain ⟨t190, A50, H⟩ := H
  replace H : ((addr_Print.f k a0).bind fun t191 => ((patchbayref2_AddrText.f k a0).bind fun t192 => (if t191.toList = t192.toList then ((addr_Check.f a1_0 a1_1).bind fun t193 => (patchbaylaw2_AddrWrites.j0 k t190 (t193 != t190) a1_0 a1_1)) else (patchbaylaw2_AddrWrites.j0 k t190 true a1_0 a1_1)))) = some r := H
  have A5 := Aside0.mk A50
  clear A50
  have HC6 := Aside0.mk H
  clear H
  go_enter Tryd.func7, Tryd.ntmps7
  go_upto_region 4 with (first | ((with_reducible refine gate_dst (N := 3) rfl ?_); refine box_event ?hg (N := 3) ?hd (cs := #[.int .u32 a1_0, .int .i64 a1_1]) (t := 24) ?hr ?_; (case hd => rfl); (case hg => rfl); (case hr => first | (go_simp; done) | (go_simp; rfl)); intro gb188 hg w7 hbox hb; have n0_ := Aside0.mk (below_step (Fit.bl HB.out) hb); have n1_ := Aside0.mk (hbox); have n2_ := Aside0.mk ((by rw [hg]; exact (below_size (Fit.bl HB.out)) : w.heap.size ≤ gb188)); have n3_ := Aside0.mk ((by rw [hg]; exact (below_size (Fit.bl HB.out)) : w.heap.size ≤ gb188)); clear HB; have HB := n0_; have BK188 := n1_; have GW188 := n2_; have GE188 := n3_; clear n0_ n1_ n2_ n3_; clear hb hbox hg) | ((with_reducible refine gate_callee (f := 8) rfl ?_); refine goesL_ (some 15) rfl rfl Tryd.func8 (by kernel_rfl) rfl #[] rfl (by (try simp only [List.map_toArray, List.map_cons, List.map_nil]); first | done | rfl | (simp only [List.length_drop, List.length_take]; rfl)) ?_; (with_reducible refine (patchbaylaw2_addrLives.calls k  true _ ?sideV A3.out).mono ?_); (case sideV => exact HV.out.on (Fit.bl HB.out)); rintro e w8 ⟨rfl, hb⟩; refine ⟨_, rfl, ?_⟩; have n0_ := Aside0.mk (blk_below (g := gb188) (Fit.pk BK188.out) hb); have n1_ := Aside0.mk (below_step (Fit.bl HB.out) hb); clear BK188; clear HB; have BK188 := n0_; have HB := n1_; clear n0_ n1_; (try clear hb); (try clear hb2); (try clear hk); (try clear hi); obtain ⟨hcz9_0, hcz9_1, hfz9_0⟩ := Fit.cells2 BK188.out) | ((with_reducible refine gate_callee (f := 9) rfl ?_); refine goesL_ (some 18) rfl rfl Tryd.func9 (by kernel_rfl) rfl #[.agg #[.int .u32 a1_0, .int .i64 a1_1]] rfl (by (try simp only [List.map_toArray, List.map_cons, List.map_nil]); first | done | rfl | (simp only [List.length_drop, List.length_take]; rfl)) ?_; (with_reducible refine (patchbayref2_PrefixFault.calls k a1_0 a1_1 t190 _ A5.out).mono ?_); rintro e w10 ⟨rfl, hb⟩; refine ⟨_, rfl, ?_⟩; have n0_ := Aside0.mk (blk_below (g := gb188) (Fit.pk BK188.out) hb); have n1_ := Aside0.mk (below_step (Fit.bl HB.out) hb); clear BK188; clear HB; have BK188 := n0_; have HB := n1_; clear n0_ n1_; (try clear hb); (try clear hb2); (try clear hk); (try clear hi)))
  (try simp only [Act.put, List.setIfInBounds_toArray, List.set_cons_zero, List.set_cons_succ])
  go_cut [29] (fun v29 wc => ∃ (kq : Nat) (x29_5 : Bool), v29 = .bool x29_5 ∧ Aside0 (patchbaylaw2_AddrWrites.j0 kq t190 x29_5 a1_0 a1_1 = some r) ∧ Aside0 (kq ≤ k) ∧ Aside0 (wc.heap[gb188]? = some (.cells #[.int .u32 a1_0, .int .i64 a1_1] 24 (0, 0))) ∧ Aside0 (Below w.heap.size w wc))
  case first =>
   have H := HC6.out
   clear HC6
   replace H := Option.bind_eq_some_iff.mp H
   obtain ⟨t191, A110, H⟩ := H
   replace H : ((patchbayref2_AddrText.f k a0).bind fun t192 => (if t191.toList = t192.toList then ((addr_Check.f a1_0 a1_1).bind fun t193 => (patchbaylaw2_AddrWrites.j0 k t190 (t193 != t190) a1_0 a1_1)) else (patchbaylaw2_AddrWrites.j0 k t190 true a1_0 a1_1))) = some r := H
   have A11 := Aside0.mk A110
   clear A110
   replace H := Option.bind_eq_some_iff.mp H
   obtain ⟨t192, A120, H⟩ := H
   replace H : (if t191.toList = t192.toList then ((addr_Check.f a1_0 a1_1).bind fun t193 => (patchbaylaw2_AddrWrites.j0 k t190 (t193 != t190) a1_0 a1_1)) else (patchbaylaw2_AddrWrites.j0 k t190 true a1_0 a1_1)) = some r := H
   have A12 := Aside0.mk A120
   clear A120
   by_cases c13 : t191.toList = t192.toList
   ·rw [if_pos c13] at H
    have c13b0 : (t191.toList == t192.toList) = true := beq_iff_eq.mpr c13
    have c13b1 : (t191.toList != t192.toList) = false := bne_eq_false_iff_eq.mpr c13
    clear c13
    (first | rw [c13b0] | (simp only [i64_w, i32_w]; rw [c13b0]) | skip)
    replace H := Option.bind_eq_some_iff.mp H
    obtain ⟨t193, A140, H⟩ := H
    replace H : (patchbaylaw2_AddrWrites.j0 k t190 (t193 != t190) a1_0 a1_1) = some r := H
    have A14 := Aside0.mk A140
    clear A140
    have H' := Aside0.mk H
    clear H
    go_wp2_with (first | ((with_reducible refine gate_callee (f := 38) rfl ?_); refine goesL_ (some 20) rfl rfl Tryd.func38 (by kernel_rfl) rfl #[.int .u32 a0] rfl (by (try simp only [List.map_toArray, List.map_cons, List.map_nil]); first | done | rfl | (simp only [List.length_drop, List.length_take]; rfl)) ?_; (with_reducible refine (addr_Print.calls k a0 t191 _ ?sideV A11.out).mono ?_); (case sideV => exact HV.out.on (Fit.bl HB.out)); rintro e w15 ⟨rfl, hb⟩; refine ⟨_, rfl, ?_⟩; have n0_ := Aside0.mk (blk_below (g := gb188) (Fit.pk BK188.out) hb); have n1_ := Aside0.mk (below_step (Fit.bl HB.out) hb); clear BK188; clear HB; have BK188 := n0_; have HB := n1_; clear n0_ n1_; (try clear hb); (try clear hb2); (try clear hk); (try clear hi)) | ((with_reducible refine gate_callee (f := 39) rfl ?_); refine goesL_ (some 22) rfl rfl Tryd.func39 (by kernel_rfl) rfl #[.int .u32 a0] rfl (by (try simp only [List.map_toArray, List.map_cons, List.map_nil]); first | done | rfl | (simp only [List.length_drop, List.length_take]; rfl)) ?_; (with_reducible refine (patchbayref2_AddrText.calls k a0 t192 _ ?sideV A12.out).mono ?_); (case sideV => exact HV.out.on (Fit.bl HB.out)); rintro e w16 ⟨rfl, hb⟩; refine ⟨_, rfl, ?_⟩; have n0_ := Aside0.mk (blk_below (g := gb188) (Fit.pk BK188.out) hb); have n1_ := Aside0.mk (below_step (Fit.bl HB.out) hb); clear BK188; clear HB; have BK188 := n0_; have HB := n1_; clear n0_ n1_; (try clear hb); (try clear hb2); (try clear hk); (try clear hi); obtain ⟨hcz17_0, hcz17_1, hfz17_0⟩ := Fit.cells2 BK188.out) | (go_at_call 40; (with_reducible refine (addr_Check.calls a1_0 a1_1 t193 _ A14.out).mono ?_); rintro e w18 ⟨rfl, hb⟩; have n0_ := Aside0.mk (blk_below (g := gb188) (Fit.pk BK188.out) hb); have n1_ := Aside0.mk (below_step (Fit.bl HB.out) hb); clear BK188; clear HB; have BK188 := n0_; have HB := n1_; clear n0_ n1_; (try clear hb); (try clear hb2); (try clear hk); (try clear hi)))
    go_meet
    case rel => exact ⟨_, ((t193 != t190)), (by first | rfl | (simp; done) | (simp [*]; done)), H', ⟨by first | omega | exact Nat.le_refl _⟩, ⟨by (with_reducible repeat first | apply blk_drewN | apply blk_drew | apply blk_alloc); exact BK188.out⟩, ⟨Fit.bl HB.out⟩⟩
   ·rw [if_neg c13] at H
    have c13b0 : (t191.toList == t192.toList) = false := beq_eq_false_iff_ne.mpr c13
    have c13b1 : (t191.toList != t192.toList) = true := bne_iff_ne.mpr c13
    (first | rw [c13b0] | (simp only [i64_w, i32_w]; rw [c13b0]) | skip)
    have H' := Aside0.mk H
    clear H
    go_wp2_with (first | ((with_reducible refine gate_callee (f := 38) rfl ?_); refine goesL_ (some 20) rfl rfl Tryd.func38 (by kernel_rfl) rfl #[.int .u32 a0] rfl (by (try simp only [List.map_toArray, List.map_cons, List.map_nil]); first | done | rfl | (simp only [List.length_drop, List.length_take]; rfl)) ?_; (with_reducible refine (addr_Print.calls k a0 t191 _ ?sideV A11.out).mono ?_); (case sideV => exact HV.out.on (Fit.bl HB.out)); rintro e w19 ⟨rfl, hb⟩; refine ⟨_, rfl, ?_⟩; have n0_ := Aside0.mk (blk_below (g := gb188) (Fit.pk BK188.out) hb); have n1_ := Aside0.mk (below_step (Fit.bl HB.out) hb); clear BK188; clear HB; have BK188 := n0_; have HB := n1_; clear n0_ n1_; (try clear hb); (try clear hb2); (try clear hk); (try clear hi)) | ((with_reducible refine gate_callee (f := 39) rfl ?_); refine goesL_ (some 22) rfl rfl Tryd.func39 (by kernel_rfl) rfl #[.int .u32 a0] rfl (by (try simp only [List.map_toArray, List.map_cons, List.map_nil]); first | done | rfl | (simp only [List.length_drop, List.length_take]; rfl)) ?_; (with_reducible refine (patchbayref2_AddrText.calls k a0 t192 _ ?sideV A12.out).mono ?_); (case sideV => exact HV.out.on (Fit.bl HB.out)); rintro e w20 ⟨rfl, hb⟩; refine ⟨_, rfl, ?_⟩; have n0_ := Aside0.mk (blk_below (g := gb188) (Fit.pk BK188.out) hb); have n1_ := Aside0.mk (below_step (Fit.bl HB.out) hb); clear BK188; clear HB; have BK188 := n0_; have HB := n1_; clear n0_ n1_; (try clear hb); (try clear hb2); (try clear hk); (try clear hi)))
    go_meet
    case rel => exact ⟨_, (true), (by first | rfl | (simp; done) | (simp [*]; done)), H', ⟨by first | omega | exact Nat.le_refl _⟩, ⟨by (with_reducible repeat first | apply blk_drewN | apply blk_drew | apply blk_alloc); exact BK188.out⟩, ⟨Fit.bl HB.out⟩⟩
  case rest =>
   clear HC6
   try clear c1
   try clear p2
   try clear c3
   try clear c4
   try clear c7
   try clear c8
   try clear c9
   try clear c13
   try clear c13b0
   try clear c13b1
   try clear hcz17_0
   try clear hcz17_1
   try clear hcz9_0
   try clear hcz9_1
   try clear hfz17_0
   try clear hfz9_0
   obtain ⟨kq, x29_5, rfl, HA, HJ5, BK188, HB⟩ := hcut
   cases kq with
   | zero => exact absurd HA.out (by simp [patchbaylaw2_AddrWrites.j0])
   | succ kj5 =>
    have H := HA.out
    clear HA
    simp only [patchbaylaw2_AddrWrites.j0] at H
    by_cases c21 : x29_5 = true
    ·subst c21
     have H1 : (some false) = some r := by rw [if_pos rfl] at H; exact H
     clear H
     have H := H1
     clear H1
     obtain rfl := Option.some.inj H
     go_wp2
     go_ret
     exact ⟨by first | rfl | (simp [errW_none, errW_some] <;> rfl) | (simp [*, errW_none, errW_some] <;> rfl), Fit.bl HB.out⟩
    ·replace c21 := Bool.eq_false_iff.mpr c21
     subst c21
     have H1 : ((addr_PrintPrefix.f kj5 a1_0 a1_1).bind fun bt194 => ((addr_Last.f a1_0 a1_1).bind fun bt196 => ((addr_Mask.f a1_1).bind fun bt198 => (if bt194.2 = t190 then (patchbaylaw2_AddrWrites.j1 kj5 t190 bt194.1 bt196.1 bt198.1 bt198.2 (bt196.2 != t190) a1_0 a1_1) else (patchbaylaw2_AddrWrites.j1 kj5 t190 bt194.1 bt196.1 bt198.1 bt198.2 true a1_0 a1_1))))) = some r := by rw [if_neg (show ¬ (false = true) by decide)] at H; exact H
     clear H
     have H := H1
     clear H1
     replace H := Option.bind_eq_some_iff.mp H
     obtain ⟨⟨t194, t195⟩, A220, H⟩ := H
     replace H : ((addr_Last.f a1_0 a1_1).bind fun bt196 => ((addr_Mask.f a1_1).bind fun bt198 => (if t195 = t190 then (patchbaylaw2_AddrWrites.j1 kj5 t190 t194 bt196.1 bt198.1 bt198.2 (bt196.2 != t190) a1_0 a1_1) else (patchbaylaw2_AddrWrites.j1 kj5 t190 t194 bt196.1 bt198.1 bt198.2 true a1_0 a1_1)))) = some r := H
     have A22 := Aside0.mk A220
     clear A220
     replace H := Option.bind_eq_some_iff.mp H
     obtain ⟨⟨t196, t197⟩, A230, H⟩ := H
     replace H : ((addr_Mask.f a1_1).bind fun bt198 => (if t195 = t190 then (patchbaylaw2_AddrWrites.j1 kj5 t190 t194 t196 bt198.1 bt198.2 (t197 != t190) a1_0 a1_1) else (patchbaylaw2_AddrWrites.j1 kj5 t190 t194 t196 bt198.1 bt198.2 true a1_0 a1_1))) = some r := H
     have A23 := Aside0.mk A230
     clear A230
     replace H := Option.bind_eq_some_iff.mp H
     obtain ⟨⟨t198, t199⟩, A240, H⟩ := H
     replace H : (if t195 = t190 then (patchbaylaw2_AddrWrites.j1 kj5 t190 t194 t196 t198 t199 (t197 != t190) a1_0 a1_1) else (patchbaylaw2_AddrWrites.j1 kj5 t190 t194 t196 t198 t199 true a1_0 a1_1)) = some r := H
     have A24 := Aside0.mk A240
     clear A240
     have HC25 := Aside0.mk H
     clear H
     obtain ⟨hcz26_0, hcz26_1, hfz26_0⟩ := Fit.cells2 BK188.out
     go_upto_region 9 with (first | ((with_reducible refine gate_callee (f := 41) rfl ?_); refine goesL_ (some 32) rfl rfl Tryd.func41 (by kernel_rfl) rfl #[.agg #[.int .u32 a1_0, .int .i64 a1_1]] rfl (by (try simp only [List.map_toArray, List.map_cons, List.map_nil]); first | done | rfl | (simp only [List.length_drop, List.length_take]; rfl)) ?_; (with_reducible refine (addr_PrintPrefix.calls kj5 a1_0 a1_1 t194 t195 _ ?sideV A22.out).mono ?_); (case sideV => exact HV.out.on (Fit.bl HB.out)); rintro e w27 ⟨rfl, hb⟩; refine ⟨_, rfl, ?_⟩; have n0_ := Aside0.mk (blk_below (g := gb188) (Fit.pk BK188.out) hb); have n1_ := Aside0.mk (below_step (Fit.bl HB.out) hb); clear BK188; clear HB; have BK188 := n0_; have HB := n1_; clear n0_ n1_; (try clear hb); (try clear hb2); (try clear hk); (try clear hi); obtain ⟨hcz28_0, hcz28_1, hfz28_0⟩ := Fit.cells2 BK188.out) | ((with_reducible refine gate_callee (f := 42) rfl ?_); refine goesL_ (some 37) rfl rfl Tryd.func42 (by kernel_rfl) rfl #[.agg #[.int .u32 a1_0, .int .i64 a1_1]] rfl (by (try simp only [List.map_toArray, List.map_cons, List.map_nil]); first | done | rfl | (simp only [List.length_drop, List.length_take]; rfl)) ?_; (with_reducible refine (addr_Last.calls a1_0 a1_1 t196 t197 _ A23.out).mono ?_); rintro e w29 ⟨rfl, hb⟩; refine ⟨_, rfl, ?_⟩; have n0_ := Aside0.mk (blk_below (g := gb188) (Fit.pk BK188.out) hb); have n1_ := Aside0.mk (below_step (Fit.bl HB.out) hb); clear BK188; clear HB; have BK188 := n0_; have HB := n1_; clear n0_ n1_; (try clear hb); (try clear hb2); (try clear hk); (try clear hi); obtain ⟨hcz30_0, hcz30_1, hfz30_0⟩ := Fit.cells2 BK188.out) | ((with_reducible refine gate_callee (f := 43) rfl ?_); refine goesL_ (some 43) rfl rfl Tryd.func43 (by kernel_rfl) rfl #[.int .i64 a1_1] rfl (by (try simp only [List.map_toArray, List.map_cons, List.map_nil]); first | done | rfl | (simp only [List.length_drop, List.length_take]; rfl)) ?_; (with_reducible refine (addr_Mask.calls a1_1 t198 t199 _ A24.out).mono ?_); rintro e w' ⟨rfl, ⟨nd, rfl⟩⟩; refine ⟨_, rfl, ?_⟩))
     (try simp only [Act.put, List.setIfInBounds_toArray, List.set_cons_zero, List.set_cons_succ])
     go_cut [53] (fun v53 wc => ∃ (kq : Nat) (x53_24 : Bool), v53 = .bool x53_24 ∧ Aside0 (patchbaylaw2_AddrWrites.j1 kq t190 t194 t196 t198 t199 x53_24 a1_0 a1_1 = some r) ∧ Aside0 (kq ≤ kj5) ∧ Aside0 (wc.heap[gb188]? = some (.cells #[.int .u32 a1_0, .int .i64 a1_1] 24 (0, 0))) ∧ Aside0 (Below w.heap.size w wc))
     case first =>
      have H := HC25.out
      clear HC25
      by_cases c31 : t195 = t190
      ·rw [if_pos c31] at H
       have c31b0 : (t195 == t190) = true := beq_iff_eq.mpr c31
       have c31b1 : (t195 != t190) = false := bne_eq_false_iff_eq.mpr c31
       clear c31
       (first | rw [c31b0] | (simp only [i64_w, i32_w]; rw [c31b0]) | skip)
       have H' := Aside0.mk H
       clear H
       go_wp2
       go_meet
       case rel => exact ⟨_, ((t197 != t190)), (by first | rfl | (simp; done) | (simp [*]; done)), H', ⟨by have := HJ5.out; first | omega | exact Nat.le_refl _⟩, ⟨by (with_reducible repeat first | apply blk_drewN | apply blk_drew | apply blk_alloc); exact BK188.out⟩, ⟨Fit.bl HB.out⟩⟩
      ·rw [if_neg c31] at H
       have c31b0 : (t195 == t190) = false := beq_eq_false_iff_ne.mpr c31
       have c31b1 : (t195 != t190) = true := bne_iff_ne.mpr c31
       (first | rw [c31b0] | (simp only [i64_w, i32_w]; rw [c31b0]) | skip)
       have H' := Aside0.mk H
       clear H
       go_wp2
       go_meet
       case rel => exact ⟨_, (true), (by first | rfl | (simp; done) | (simp [*]; done)), H', ⟨by have := HJ5.out; first | omega | exact Nat.le_refl _⟩, ⟨by (with_reducible repeat first | apply blk_drewN | apply blk_drew | apply blk_alloc); exact BK188.out⟩, ⟨Fit.bl HB.out⟩⟩
     case rest =>
      clear HC25
      try clear c1
      try clear c2
      try clear p2
      try clear c3
      try clear c4
      try clear c7
      try clear c8
      try clear c9
      try clear c13
      try clear c13b0
      try clear c13b1
      try clear c21
      try clear c31
      try clear c31b0
      try clear c31b1
      try clear hcz17_0
      try clear hcz17_1
      try clear hcz26_0
      try clear hcz26_1
      try clear hcz28_0
      try clear hcz28_1
      try clear hcz30_0
      try clear hcz30_1
      try clear hcz9_0
      try clear hcz9_1
      try clear hfz17_0
      try clear hfz26_0
      try clear hfz28_0
      try clear hfz30_0
      try clear hfz9_0
      try clear p2
      obtain ⟨kq, x53_24, rfl, HA, HJ24, BK188, HB⟩ := hcut
      cases kq with
      | zero => exact absurd HA.out (by simp [patchbaylaw2_AddrWrites.j1])
      | succ kj24 =>
       have H := HA.out
       clear HA
       simp only [patchbaylaw2_AddrWrites.j1] at H
       by_cases c32 : x53_24 = true
       ·subst c32
        have H1 : (some false) = some r := by rw [if_pos rfl] at H; exact H
        clear H
        have H := H1
        clear H1
        obtain rfl := Option.some.inj H
        go_wp2
        go_ret
        exact ⟨by first | rfl | (simp [errW_none, errW_some] <;> rfl) | (simp [*, errW_none, errW_some] <;> rfl), Fit.bl HB.out⟩
       ·replace c32 := Bool.eq_false_iff.mpr c32
        subst c32
        have H1 : (if t190 = 10 then (if t194.toList = ([] : List UInt8) then (if t196 = 0 then (if t198 = 0 then (some (t199 == 10)) else (some false)) else (some false)) else (some false)) else ((patchbayref2_Block.f kj24 a1_1).bind fun t200 => (if t199 = 0 then (patchbaylaw2_AddrWrites.j2 kj24 t190 t194 t196 t200 ((IntKind.u64.wrap (t198)) != (IntKind.u64.wrap (4294967296 - t200))) a1_0 a1_1) else (patchbaylaw2_AddrWrites.j2 kj24 t190 t194 t196 t200 true a1_0 a1_1)))) = some r := by rw [if_neg (show ¬ (false = true) by decide)] at H; exact H
        clear H
        have H := H1
        clear H1
        by_cases c33 : t190 = 10
        ·rw [if_pos c33] at H
         have c33b0 : (t190 == 10) = true := beq_iff_eq.mpr c33
         have c33b1 : (t190 != 10) = false := bne_eq_false_iff_eq.mpr c33
         clear c33
         by_cases c34 : t194.toList = ([] : List UInt8)
         ·rw [if_pos c34] at H
          have c34b0 : (t194.toList == ([] : List UInt8)) = true := beq_iff_eq.mpr c34
          have c34b1 : (t194.toList != ([] : List UInt8)) = false := bne_eq_false_iff_eq.mpr c34
          clear c34
          by_cases c35 : t196 = 0
          ·rw [if_pos c35] at H
           have c35b0 : (t196 == 0) = true := beq_iff_eq.mpr c35
           have c35b1 : (t196 != 0) = false := bne_eq_false_iff_eq.mpr c35
           clear c35
           by_cases c36 : t198 = 0
           ·rw [if_pos c36] at H
            have c36b0 : (t198 == 0) = true := beq_iff_eq.mpr c36
            have c36b1 : (t198 != 0) = false := bne_eq_false_iff_eq.mpr c36
            clear c36
            obtain rfl := Option.some.inj H
            go_wp2
            go_ret
            exact ⟨by first | rfl | (simp [errW_none, errW_some] <;> rfl) | (simp [*, errW_none, errW_some] <;> rfl), Fit.bl HB.out⟩
           ·rw [if_neg c36] at H
            have c36b0 : (t198 == 0) = false := beq_eq_false_iff_ne.mpr c36
            have c36b1 : (t198 != 0) = true := bne_iff_ne.mpr c36
            obtain rfl := Option.some.inj H
            go_wp2
            go_ret
            exact ⟨by first | rfl | (simp [errW_none, errW_some] <;> rfl) | (simp [*, errW_none, errW_some] <;> rfl), Fit.bl HB.out⟩
          ·rw [if_neg c35] at H
           have c35b0 : (t196 == 0) = false := beq_eq_false_iff_ne.mpr c35
           have c35b1 : (t196 != 0) = true := bne_iff_ne.mpr c35
           obtain rfl := Option.some.inj H
           go_wp2
           go_ret
           exact ⟨by first | rfl | (simp [errW_none, errW_some] <;> rfl) | (simp [*, errW_none, errW_some] <;> rfl), Fit.bl HB.out⟩
         ·rw [if_neg c34] at H
          have c34b0 : (t194.toList == ([] : List UInt8)) = false := beq_eq_false_iff_ne.mpr c34
          have c34b1 : (t194.toList != ([] : List UInt8)) = true := bne_iff_ne.mpr c34
          obtain rfl := Option.some.inj H
          go_wp2
          go_ret
          exact ⟨by first | rfl | (simp [errW_none, errW_some] <;> rfl) | (simp [*, errW_none, errW_some] <;> rfl), Fit.bl HB.out⟩
        ·rw [if_neg c33] at H
         have c33b0 : (t190 == 10) = false := beq_eq_false_iff_ne.mpr c33
         have c33b1 : (t190 != 10) = true := bne_iff_ne.mpr c33
         replace H := Option.bind_eq_some_iff.mp H
         obtain ⟨t200, A370, H⟩ := H
         replace H : (if t199 = 0 then (patchbaylaw2_AddrWrites.j2 kj24 t190 t194 t196 t200 ((IntKind.u64.wrap (t198)) != (IntKind.u64.wrap (4294967296 - t200))) a1_0 a1_1) else (patchbaylaw2_AddrWrites.j2 kj24 t190 t194 t196 t200 true a1_0 a1_1)) = some r := H
         have A37 := Aside0.mk A370
         clear A370
         have HC38 := Aside0.mk H
         clear H
         obtain ⟨hcz39_0, hcz39_1, hfz39_0⟩ := Fit.cells2 BK188.out
         go_upto_region 14 with (first | ((with_reducible refine gate_callee (f := 44) rfl ?_); refine goesL_ (some 72) rfl rfl Tryd.func44 (by kernel_rfl) rfl #[.int .i64 a1_1] rfl (by (try simp only [List.map_toArray, List.map_cons, List.map_nil]); first | done | rfl | (simp only [List.length_drop, List.length_take]; rfl)) ?_; (with_reducible refine (patchbayref2_Block.calls kj24 a1_1 t200 _ A37.out).mono ?_); rintro e w' ⟨rfl, ⟨nd, rfl⟩⟩; refine ⟨_, rfl, ?_⟩))
         (try simp only [Act.put, List.setIfInBounds_toArray, List.set_cons_zero, List.set_cons_succ])
         go_cut [81] (fun v81 wc => ∃ (kq : Nat) (x81_37 : Bool), v81 = .bool x81_37 ∧ Aside0 (patchbaylaw2_AddrWrites.j2 kq t190 t194 t196 t200 x81_37 a1_0 a1_1 = some r) ∧ Aside0 (kq ≤ kj24) ∧ Aside0 (wc.heap[gb188]? = some (.cells #[.int .u32 a1_0, .int .i64 a1_1] 24 (0, 0))) ∧ Aside0 (Below w.heap.size w wc))
         case first =>
          have H := HC38.out
          clear HC38
          by_cases c40 : t199 = 0
          ·rw [if_pos c40] at H
           have c40b0 : (t199 == 0) = true := beq_iff_eq.mpr c40
           have c40b1 : (t199 != 0) = false := bne_eq_false_iff_eq.mpr c40
           clear c40
           (first | rw [c40b0] | (simp only [i64_w, i32_w]; rw [c40b0]) | skip)
           have H' := Aside0.mk H
           clear H
           go_wp2
           go_meet
           case rel => exact ⟨_, (((IntKind.u64.wrap (t198)) != (IntKind.u64.wrap (4294967296 - t200)))), (by first | rfl | (simp; done) | (simp [*]; done)), H', ⟨by have := HJ5.out; have := HJ24.out; first | omega | exact Nat.le_refl _⟩, ⟨by (with_reducible repeat first | apply blk_drewN | apply blk_drew | apply blk_alloc); exact BK188.out⟩, ⟨Fit.bl HB.out⟩⟩
          ·rw [if_neg c40] at H
           have c40b0 : (t199 == 0) = false := beq_eq_false_iff_ne.mpr c40
           have c40b1 : (t199 != 0) = true := bne_iff_ne.mpr c40
           (first | rw [c40b0] | (simp only [i64_w, i32_w]; rw [c40b0]) | skip)
           have H' := Aside0.mk H
           clear H
           go_wp2
           go_meet
           case rel => exact ⟨_, (true), (by first | rfl | (simp; done) | (simp [*]; done)), H', ⟨by have := HJ5.out; have := HJ24.out; first | omega | exact Nat.le_refl _⟩, ⟨by (with_reducible repeat first | apply blk_drewN | apply blk_drew | apply blk_alloc); exact BK188.out⟩, ⟨Fit.bl HB.out⟩⟩
         case rest =>
          clear HC38
          try clear c1
          try clear c2
          try clear p2
          try clear c3
          try clear c4
          try clear c7
          try clear c8
          try clear c9
          try clear c13
          try clear c13b0
          try clear c13b1
          try clear c21
          try clear c31
          try clear c31b0
          try clear c31b1
          try clear c32
          try clear c33
          try clear c33b0
          try clear c33b1
          try clear c34
          try clear c34b0
          try clear c34b1
          try clear c35
          try clear c35b0
          try clear c35b1
          try clear c36
          try clear c36b0
          try clear c36b1
          try clear c38
          try clear c39
          try clear c40
          try clear c40b0
          try clear c40b1
          try clear hcz17_0
          try clear hcz17_1
          try clear hcz26_0
          try clear hcz26_1
          try clear hcz28_0
          try clear hcz28_1
          try clear hcz30_0
          try clear hcz30_1
          try clear hcz39_0
          try clear hcz39_1
          try clear hcz9_0
          try clear hcz9_1
          try clear hfz17_0
          try clear hfz26_0
          try clear hfz28_0
          try clear hfz30_0
          try clear hfz39_0
          try clear hfz9_0
          try clear p2
          obtain ⟨kq, x81_37, rfl, HA, HJ37, BK188, HB⟩ := hcut
          cases kq with
          | zero => exact absurd HA.out (by simp [patchbaylaw2_AddrWrites.j2])
          | succ kj37 =>
           have H := HA.out
           clear HA
           simp only [patchbaylaw2_AddrWrites.j2] at H
           by_cases c41 : x81_37 = true
           ·subst c41
            have H1 : (some false) = some r := by rw [if_pos rfl] at H; exact H
            clear H
            have H := H1
            clear H1
            obtain rfl := Option.some.inj H
            go_wp2
            go_ret
            exact ⟨by first | rfl | (simp [errW_none, errW_some] <;> rfl) | (simp [*, errW_none, errW_some] <;> rfl), Fit.bl HB.out⟩
           ·replace c41 := Bool.eq_false_iff.mpr c41
            subst c41
            have H1 : (if t190 = 0 then ((patchbayref2_PrefixRead.f kj37 t194).bind fun bt201 => (if bt201.2.2 = 0 then (if (bt201.1 == a1_0 && (bt201.2.1 == a1_1)) = true then (some ((IntKind.u64.wrap (t196)) == (IntKind.u64.wrap ((IntKind.u64.wrap ((IntKind.u64.wrap (a1_0)) + t200)) - 1)))) else (some false)) else (some false))) else (if t194.toList = ([] : List UInt8) then (some (t196 == 0)) else (some false))) = some r := by rw [if_neg (show ¬ (false = true) by decide)] at H; exact H
            clear H
            have H := H1
            clear H1
            by_cases c42 : t190 = 0
            ·rw [if_pos c42] at H
             have c42b0 : (t190 == 0) = true := beq_iff_eq.mpr c42
             have c42b1 : (t190 != 0) = false := bne_eq_false_iff_eq.mpr c42
             clear c42
             replace H := Option.bind_eq_some_iff.mp H
             obtain ⟨⟨t201, t202, t203⟩, A430, H⟩ := H
             replace H : (if t203 = 0 then (if (t201 == a1_0 && (t202 == a1_1)) = true then (some ((IntKind.u64.wrap (t196)) == (IntKind.u64.wrap ((IntKind.u64.wrap ((IntKind.u64.wrap (a1_0)) + t200)) - 1)))) else (some false)) else (some false)) = some r := H
             have A43 := Aside0.mk A430
             clear A430
             by_cases c44 : t203 = 0
             ·rw [if_pos c44] at H
              have c44b0 : (t203 == 0) = true := beq_iff_eq.mpr c44
              have c44b1 : (t203 != 0) = false := bne_eq_false_iff_eq.mpr c44
              clear c44
              by_cases c45 : (t201 == a1_0 && (t202 == a1_1)) = true
              ·rw [if_pos c45] at H
               have c45b0 : (t201 == a1_0 && (t202 == a1_1)) = true := c45
               (try (have c45b1 : decide (t201 = a1_0 && (t202 == a1_1)) = true := by simpa using c45))
               (try (have c45b2 : (t201 == a1_0 && (t202 == a1_1)) = true := by simpa using c45))
               clear c45
               obtain rfl := Option.some.inj H
               go_wp2_with (first | ((with_reducible refine gate_callee (f := 37) rfl ?_); refine goesL_ (some 92) rfl rfl Tryd.func37 (by kernel_rfl) rfl #[.string t194] rfl (by (try simp only [List.map_toArray, List.map_cons, List.map_nil]); first | done | rfl | (simp only [List.length_drop, List.length_take]; rfl)) ?_; (with_reducible refine (patchbayref2_PrefixRead.calls kj37 t194 t201 t202 t203 _ ?sideV A43.out).mono ?_); (case sideV => exact HV.out.on (Fit.bl HB.out)); rintro e w46 ⟨rfl, hb⟩; refine ⟨_, rfl, ?_⟩; have n0_ := Aside0.mk (blk_below (g := gb188) (Fit.pk BK188.out) hb); have n1_ := Aside0.mk (below_step (Fit.bl HB.out) hb); clear BK188; clear HB; have BK188 := n0_; have HB := n1_; clear n0_ n1_; (try clear hb); (try clear hb2); (try clear hk); (try clear hi)) | ((with_reducible refine gate_dst (N := 13) rfl ?_); refine box_event ?hg (N := 13) ?hd (cs := #[.int .u32 0, .int .i64 0]) (t := 24) ?hr ?_; (case hd => rfl); (case hg => rfl); (case hr => first | (go_simp; done) | (go_simp; rfl)); intro gb204 hg w47 hbox hb; have n0_ := Aside0.mk (blk_below (g := gb188) (Fit.pk BK188.out) hb); have n1_ := Aside0.mk (below_step (Fit.bl HB.out) hb); have n2_ := Aside0.mk (hbox); have n3_ := Aside0.mk ((by rw [hg]; exact (below_size (Fit.bl HB.out)) : w.heap.size ≤ gb204)); have n4_ := Aside0.mk ((by rw [hg]; exact (below_size (Fit.bl HB.out)) : w.heap.size ≤ gb204)); have n5_ := Aside0.mk ((by rw [hg]; exact Nat.ne_of_lt (blk_lt (g := gb188) (Fit.pk BK188.out)) : gb188 ≠ gb204)); have n6_ := Aside0.mk ((by rw [hg]; exact Nat.ne_of_gt (blk_lt (g := gb188) (Fit.pk BK188.out)) : gb204 ≠ gb188)); clear BK188; clear HB; have BK188 := n0_; have HB := n1_; have BK204 := n2_; have GW204 := n3_; have GE204 := n4_; have NB188_204 := n5_; have NB204_188 := n6_; clear n0_ n1_ n2_ n3_ n4_ n5_ n6_; clear hb hbox hg; have hnb48 := NB204_188.out; have hnc48 := NB188_204.out; obtain ⟨hcz49_0, hcz49_1, hfz49_0⟩ := Fit.cells2 BK204.out; obtain ⟨hcz50_0, hcz50_1, hfz50_0⟩ := Fit.cells2 BK188.out))
               go_ret
               exact ⟨by first | rfl | (simp [errW_none, errW_some] <;> rfl) | (simp [*, errW_none, errW_some] <;> rfl), Fit.bl HB.out⟩
              ·rw [if_neg c45] at H
               have c45b0 : (t201 == a1_0 && (t202 == a1_1)) = false := by simpa using c45
               (try (have c45b1 : decide (t201 = a1_0 && (t202 == a1_1)) = false := by simpa using c45))
               (try (have c45b2 : (t201 == a1_0 && (t202 == a1_1)) = false := by simpa using c45))
               (try (have c45b3 : ¬ (t201 = a1_0 && (t202 == a1_1)) := by simpa using c45))
               clear c45
               obtain rfl := Option.some.inj H
               go_wp2_with (first | ((with_reducible refine gate_callee (f := 37) rfl ?_); refine goesL_ (some 92) rfl rfl Tryd.func37 (by kernel_rfl) rfl #[.string t194] rfl (by (try simp only [List.map_toArray, List.map_cons, List.map_nil]); first | done | rfl | (simp only [List.length_drop, List.length_take]; rfl)) ?_; (with_reducible refine (patchbayref2_PrefixRead.calls kj37 t194 t201 t202 t203 _ ?sideV A43.out).mono ?_); (case sideV => exact HV.out.on (Fit.bl HB.out)); rintro e w51 ⟨rfl, hb⟩; refine ⟨_, rfl, ?_⟩; have n0_ := Aside0.mk (blk_below (g := gb188) (Fit.pk BK188.out) hb); have n1_ := Aside0.mk (below_step (Fit.bl HB.out) hb); clear BK188; clear HB; have BK188 := n0_; have HB := n1_; clear n0_ n1_; (try clear hb); (try clear hb2); (try clear hk); (try clear hi)) | ((with_reducible refine gate_dst (N := 13) rfl ?_); refine box_event ?hg (N := 13) ?hd (cs := #[.int .u32 0, .int .i64 0]) (t := 24) ?hr ?_; (case hd => rfl); (case hg => rfl); (case hr => first | (go_simp; done) | (go_simp; rfl)); intro gb204 hg w52 hbox hb; have n0_ := Aside0.mk (blk_below (g := gb188) (Fit.pk BK188.out) hb); have n1_ := Aside0.mk (below_step (Fit.bl HB.out) hb); have n2_ := Aside0.mk (hbox); have n3_ := Aside0.mk ((by rw [hg]; exact (below_size (Fit.bl HB.out)) : w.heap.size ≤ gb204)); have n4_ := Aside0.mk ((by rw [hg]; exact (below_size (Fit.bl HB.out)) : w.heap.size ≤ gb204)); have n5_ := Aside0.mk ((by rw [hg]; exact Nat.ne_of_lt (blk_lt (g := gb188) (Fit.pk BK188.out)) : gb188 ≠ gb204)); have n6_ := Aside0.mk ((by rw [hg]; exact Nat.ne_of_gt (blk_lt (g := gb188) (Fit.pk BK188.out)) : gb204 ≠ gb188)); clear BK188; clear HB; have BK188 := n0_; have HB := n1_; have BK204 := n2_; have GW204 := n3_; have GE204 := n4_; have NB188_204 := n5_; have NB204_188 := n6_; clear n0_ n1_ n2_ n3_ n4_ n5_ n6_; clear hb hbox hg; have hnb53 := NB204_188.out; have hnc53 := NB188_204.out; obtain ⟨hcz54_0, hcz54_1, hfz54_0⟩ := Fit.cells2 BK204.out; obtain ⟨hcz55_0, hcz55_1, hfz55_0⟩ := Fit.cells2 BK188.out))
               go_ret
               exact ⟨by first | rfl | (simp [errW_none, errW_some] <;> rfl) | (simp [*, errW_none, errW_some] <;> rfl), Fit.bl HB.out⟩
             ·rw [if_neg c44] at H
              have c44b0 : (t203 == 0) = false := beq_eq_false_iff_ne.mpr c44
              have c44b1 : (t203 != 0) = true := bne_iff_ne.mpr c44
              obtain rfl := Option.some.inj H
              go_wp2_with (first | ((with_reducible refine gate_callee (f := 37) rfl ?_); refine goesL_ (some 92) rfl rfl Tryd.func37 (by kernel_rfl) rfl #[.string t194] rfl (by (try simp only [List.map_toArray, List.map_cons, List.map_nil]); first | done | rfl | (simp only [List.length_drop, List.length_take]; rfl)) ?_; (with_reducible refine (patchbayref2_PrefixRead.calls kj37 t194 t201 t202 t203 _ ?sideV A43.out).mono ?_); (case sideV => exact HV.out.on (Fit.bl HB.out)); rintro e w56 ⟨rfl, hb⟩; refine ⟨_, rfl, ?_⟩; have n0_ := Aside0.mk (blk_below (g := gb188) (Fit.pk BK188.out) hb); have n1_ := Aside0.mk (below_step (Fit.bl HB.out) hb); clear BK188; clear HB; have BK188 := n0_; have HB := n1_; clear n0_ n1_; (try clear hb); (try clear hb2); (try clear hk); (try clear hi)) | ((with_reducible refine gate_dst (N := 13) rfl ?_); refine box_event ?hg (N := 13) ?hd (cs := #[.int .u32 0, .int .i64 0]) (t := 24) ?hr ?_; (case hd => rfl); (case hg => rfl); (case hr => first | (go_simp; done) | (go_simp; rfl)); intro gb204 hg w57 hbox hb; have n0_ := Aside0.mk (blk_below (g := gb188) (Fit.pk BK188.out) hb); have n1_ := Aside0.mk (below_step (Fit.bl HB.out) hb); have n2_ := Aside0.mk (hbox); have n3_ := Aside0.mk ((by rw [hg]; exact (below_size (Fit.bl HB.out)) : w.heap.size ≤ gb204)); have n4_ := Aside0.mk ((by rw [hg]; exact (below_size (Fit.bl HB.out)) : w.heap.size ≤ gb204)); have n5_ := Aside0.mk ((by rw [hg]; exact Nat.ne_of_lt (blk_lt (g := gb188) (Fit.pk BK188.out)) : gb188 ≠ gb204)); have n6_ := Aside0.mk ((by rw [hg]; exact Nat.ne_of_gt (blk_lt (g := gb188) (Fit.pk BK188.out)) : gb204 ≠ gb188)); clear BK188; clear HB; have BK188 := n0_; have HB := n1_; have BK204 := n2_; have GW204 := n3_; have GE204 := n4_; have NB188_204 := n5_; have NB204_188 := n6_; clear n0_ n1_ n2_ n3_ n4_ n5_ n6_; clear hb hbox hg; have hnb58 := NB204_188.out; have hnc58 := NB188_204.out; obtain ⟨hcz59_0, hcz59_1, hfz59_0⟩ := Fit.cells2 BK204.out))
              go_ret
              exact ⟨by first | rfl | (simp [errW_none, errW_some] <;> rfl) | (simp [*, errW_none, errW_some] <;> rfl), Fit.bl HB.out⟩
            ·rw [if_neg c42] at H
             have c42b0 : (t190 == 0) = false := beq_eq_false_iff_ne.mpr c42
             have c42b1 : (t190 != 0) = true := bne_iff_ne.mpr c42
             by_cases c60 : t194.toList = ([] : List UInt8)
             ·rw [if_pos c60] at H
              have c60b0 : (t194.toList == ([] : List UInt8)) = true := beq_iff_eq.mpr c60
              have c60b1 : (t194.toList != ([] : List UInt8)) = false := bne_eq_false_iff_eq.mpr c60
              clear c60
              obtain rfl := Option.some.inj H
              go_wp2
              go_ret
              exact ⟨by first | rfl | (simp [errW_none, errW_some] <;> rfl) | (simp [*, errW_none, errW_some] <;> rfl), Fit.bl HB.out⟩
             ·rw [if_neg c60] at H
              have c60b0 : (t194.toList == ([] : List UInt8)) = false := beq_eq_false_iff_ne.mpr c60
              have c60b1 : (t194.toList != ([] : List UInt8)) = true := bne_iff_ne.mpr c60
              obtain rfl := Option.some.inj H
              go_wp2
              go_ret
              exact ⟨by first | rfl | (simp [errW_none, errW_some] <;> rfl) | (simp [*, errW_none, errW_some] <;> rfl), Fit.bl HB.out⟩
 ·replace c4 := Bool.eq_false_iff.mpr c4
  subst c4
  have H1 : (some false) = some r := by rw [if_neg (show ¬ (false = true) by decide)] at H; exact H
  clear H
  have H := H1
  clear H1
  obtain rfl := Option.some.inj H
  go_enter Tryd.func7, Tryd.ntmps7
  go_wp2_with (first | ((with_reducible refine gate_dst (N := 3) rfl ?_); refine box_event ?hg (N := 3) ?hd (cs := #[.int .u32 a1_0, .int .i64 a1_1]) (t := 24) ?hr ?_; (case hd => rfl); (case hg => rfl); (case hr => first | (go_simp; done) | (go_simp; rfl)); intro gb188 hg w61 hbox hb; have n0_ := Aside0.mk (below_step (Fit.bl HB.out) hb); have n1_ := Aside0.mk (hbox); have n2_ := Aside0.mk ((by rw [hg]; exact (below_size (Fit.bl HB.out)) : w.heap.size ≤ gb188)); have n3_ := Aside0.mk ((by rw [hg]; exact (below_size (Fit.bl HB.out)) : w.heap.size ≤ gb188)); clear HB; have HB := n0_; have BK188 := n1_; have GW188 := n2_; have GE188 := n3_; clear n0_ n1_ n2_ n3_; clear hb hbox hg) | ((with_reducible refine gate_callee (f := 8) rfl ?_); refine goesL_ (some 15) rfl rfl Tryd.func8 (by kernel_rfl) rfl #[] rfl (by (try simp only [List.map_toArray, List.map_cons, List.map_nil]); first | done | rfl | (simp only [List.length_drop, List.length_take]; rfl)) ?_; (with_reducible refine (patchbaylaw2_addrLives.calls k  false _ ?sideV A3.out).mono ?_); (case sideV => exact HV.out.on (Fit.bl HB.out)); rintro e w62 ⟨rfl, hb⟩; refine ⟨_, rfl, ?_⟩; have n0_ := Aside0.mk (blk_below (g := gb188) (Fit.pk BK188.out) hb); have n1_ := Aside0.mk (below_step (Fit.bl HB.out) hb); clear BK188; clear HB; have BK188 := n0_; have HB := n1_; clear n0_ n1_; (try clear hb); (try clear hb2); (try clear hk); (try clear hi)))
  go_ret
  exact ⟨by first | rfl | (simp [errW_none, errW_some] <;> rfl) | (simp [*, errW_none, errW_some] <;> rfl), Fit.bl HB.out⟩


end Go.Proofs.YtbdcaadehfbnbaaDoor.GAddrWrites
