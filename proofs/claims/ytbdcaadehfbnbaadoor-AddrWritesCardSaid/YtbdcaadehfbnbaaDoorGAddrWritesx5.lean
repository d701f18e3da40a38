-- a text that a program of this session wrote
import Derived.Test.YtbdcaadehfbnbaaDoorGAddrWritesx0
import Derived.Test.YtbdcaadehfbnbaaDoorGAddrWritesx2
import Derived.Test.YtbdcaadehfbnbaaDoorGAddrWritesx3
import Derived.Test.YtbdcaadehfbnbaaDoorQVb
import Derived.Test.YtbdcaadehfbnbaaDoorQJb
namespace Go.Proofs.YtbdcaadehfbnbaaDoor.GAddrWrites
open Go.RowKit Go.Proofs.YtbdcaadehfbnbaaDoorW.PrintWords Go.Proofs.YtbdcaadehfbnbaaDoorW.PrintLast Go.Proofs.YtbdcaadehfbnbaaDoorW.PrintMore
attribute [local go_sem] max2_int min2_int max_two min_two max_three min_three max_four min_four   -- for this text's walks alone
attribute [local go_sem high] Go.Proofs.YtbdcaadehfbnbaaDoor.Fit.run_string_add_fit
set_option linter.unusedVariables false
set_option linter.unusedSimpArgs false

-- NOT PRINTED: function 132 (strconv_ParseUint)

-- NOT PRINTED: function 114 (strconv_ParseInt)

-- NOT PRINTED: function 96 (strconv_Atoi_96)

-- NOT PRINTED: function 133 (stringslite_Clone)

-- NOT PRINTED: function 115 (strconv_syntaxError)

-- NOT PRINTED: function 116 (strconv_rangeError)

-- NOT PRINTED: function 134 (errors_New)

-- NOT PRINTED: function 117 (strconv_baseError)

-- NOT PRINTED: function 118 (strconv_bitSizeError)

-- NOT PRINTED: function 97 (strconv_toError)

-- NOT PRINTED: function 85 (strconv_Atoi_85)

/-! ### patchbayref2_decimal: function 65 -/
def patchbayref2_decimal.f (a0 : ByteArray) : Option (Int × Bool) := Vb.dcF a0
theorem patchbayref2_decimal.calls (a0 : ByteArray) (r1 : Int) (r2 : Bool) (w : World) (HVw : Vb.Ok w) (h : patchbayref2_decimal.f a0 = some (r1, r2)) :
  Calls Tryd.prog 65 #[.string a0] w fun e w' => e = .returned (.tuple #[.int .i64 r1, .bool r2]) ∧ Below w.heap.size w w' := Vb.decimal_calls a0 r1 r2 w HVw h


/-! ### patchbayref2_AddrRead: function 35 -/
mutual
def patchbayref2_AddrRead.l0 : Nat → ByteArray → Int → Int → Int → Int → Int → Option (Int × Int)
 | 0, _, _, _, _, _, _ => none
 | k + 1, x0, x4, x5, x6, x15, x16 => if x16 < x15 then ((strings_IndexByte.f x0 46).bind fun t151 => (if t151 ≥ 0 then (if 0 ≤ t151 then (if t151 ≤ (x0.size : Int) then (if 0 ≤ (wrap64 (t151 + 1)) then (if (wrap64 (t151 + 1)) ≤ (x0.size : Int) then (patchbayref2_AddrRead.j1 k (x0.extract ((wrap64 (t151 + 1)) : Int).toNat x0.size) x4 x5 x6 x16 (x0.extract 0 (t151 : Int).toNat) x15 x16) else (none)) else (none)) else (none)) else (none)) else (patchbayref2_AddrRead.j1 k x0 x4 x5 x6 x16 x0 x15 x16))) else (if x5 = 0 then (some ((x4) % 4294967296, 0)) else (some (0, x5)))
def patchbayref2_AddrRead.j1 : Nat → ByteArray → Int → Int → Int → Int → ByteArray → Int → Int → Option (Int × Int)
 | 0, _, _, _, _, _, _, _, _ => none
 | k + 1, x0, x4, x5, x6, x7, x8, x15, x16 => (patchbayref2_decimal.f x8).bind fun bt152 => (if bt152.2 = true then (patchbayref2_AddrRead.j2 k x0 x4 x5 x6 x7 bt152.1 x15 x16 (x6 != 3)) else (patchbayref2_AddrRead.j2 k x0 x4 x5 x6 x7 bt152.1 x15 x16 true))
def patchbayref2_AddrRead.j2 : Nat → ByteArray → Int → Int → Int → Int → Int → Int → Int → Bool → Option (Int × Int)
 | 0, _, _, _, _, _, _, _, _, _ => none
 | k + 1, x0, x4, x5, x6, x7, x10, x15, x16, x36 => if x36 = true then (some (0, 11)) else (if x10 > 255 then ((some (([16777216, 65536, 256, 1] : List Int) : List Int)).bind fun y154 => (if 0 ≤ x7 then (if x7 < (y154.length : Int) then (patchbayref2_AddrRead.l0 k x0 (wrap64 (x4 + (wrap64 (x10 * (rd y154 x7))))) 10 x6 x15 (wrap64 (x16 + 1))) else (none)) else (none))) else ((some (([16777216, 65536, 256, 1] : List Int) : List Int)).bind fun y158 => (if 0 ≤ x7 then (if x7 < (y158.length : Int) then (patchbayref2_AddrRead.l0 k x0 (wrap64 (x4 + (wrap64 (x10 * (rd y158 x7))))) x5 x6 x15 (wrap64 (x16 + 1))) else (none)) else (none))))
end
def patchbayref2_AddrRead.f (k : Nat) (a0 : ByteArray) : Option (Int × Int) := (strings_Count.f a0 (⟨#[46]⟩ : ByteArray)).bind fun t150 => (patchbayref2_AddrRead.l0 k a0 0 0 t150 (wrap64 (t150 + 1)) 0)
theorem patchbayref2_AddrRead.mono_l : ∀ k, (∀ y0 y1 y2 y3 y4 y5, LeO (patchbayref2_AddrRead.l0 k y0 y1 y2 y3 y4 y5) (patchbayref2_AddrRead.l0 (k + 1) y0 y1 y2 y3 y4 y5)) ∧ (∀ y0 y1 y2 y3 y4 y5 y6 y7, LeO (patchbayref2_AddrRead.j1 k y0 y1 y2 y3 y4 y5 y6 y7) (patchbayref2_AddrRead.j1 (k + 1) y0 y1 y2 y3 y4 y5 y6 y7)) ∧ (∀ y0 y1 y2 y3 y4 y5 y6 y7 y8, LeO (patchbayref2_AddrRead.j2 k y0 y1 y2 y3 y4 y5 y6 y7 y8) (patchbayref2_AddrRead.j2 (k + 1) y0 y1 y2 y3 y4 y5 y6 y7 y8))
 | 0 => ⟨fun _ _ _ _ _ _ r h => by simp [patchbayref2_AddrRead.l0] at h, fun _ _ _ _ _ _ _ _ r h => by simp [patchbayref2_AddrRead.j1] at h, fun _ _ _ _ _ _ _ _ _ r h => by simp [patchbayref2_AddrRead.j2] at h⟩
 | k + 1 => by
  obtain ⟨ih0, ih1, ih2⟩ := patchbayref2_AddrRead.mono_l k
  refine ⟨?_, ?_, ?_⟩
  ·intro y0 y1 y2 y3 y4 y5
   unfold patchbayref2_AddrRead.l0
   repeat' first
   | (with_reducible exact ih0 _ _ _ _ _ _)
   | (with_reducible exact ih1 _ _ _ _ _ _ _ _)
   | (with_reducible exact ih2 _ _ _ _ _ _ _ _ _)
   | (with_reducible exact LeO.refl _)
   | (with_reducible exact LeO.none _)
   | (with_reducible refine LeO.ite ?_ ?_)
   | (with_reducible refine LeO.bind ?_ (fun _ => ?_))
   | exact ih0 _ _ _ _ _ _
   | exact ih1 _ _ _ _ _ _ _ _
   | exact ih2 _ _ _ _ _ _ _ _ _
   | exact LeO.none _
   | refine LeO.ite ?_ ?_
   | refine LeO.bind ?_ (fun _ => ?_)
  ·intro y0 y1 y2 y3 y4 y5 y6 y7
   unfold patchbayref2_AddrRead.j1
   repeat' first
   | (with_reducible exact ih0 _ _ _ _ _ _)
   | (with_reducible exact ih1 _ _ _ _ _ _ _ _)
   | (with_reducible exact ih2 _ _ _ _ _ _ _ _ _)
   | (with_reducible exact LeO.refl _)
   | (with_reducible exact LeO.none _)
   | (with_reducible refine LeO.ite ?_ ?_)
   | (with_reducible refine LeO.bind ?_ (fun _ => ?_))
   | exact ih0 _ _ _ _ _ _
   | exact ih1 _ _ _ _ _ _ _ _
   | exact ih2 _ _ _ _ _ _ _ _ _
   | exact LeO.none _
   | refine LeO.ite ?_ ?_
   | refine LeO.bind ?_ (fun _ => ?_)
  ·intro y0 y1 y2 y3 y4 y5 y6 y7 y8
   unfold patchbayref2_AddrRead.j2
   repeat' first
   | (with_reducible exact ih0 _ _ _ _ _ _)
   | (with_reducible exact ih1 _ _ _ _ _ _ _ _)
   | (with_reducible exact ih2 _ _ _ _ _ _ _ _ _)
   | (with_reducible exact LeO.refl _)
   | (with_reducible exact LeO.none _)
   | (with_reducible refine LeO.ite ?_ ?_)
   | (with_reducible refine LeO.bind ?_ (fun _ => ?_))
   | exact ih0 _ _ _ _ _ _
   | exact ih1 _ _ _ _ _ _ _ _
   | exact ih2 _ _ _ _ _ _ _ _ _
   | exact LeO.none _
   | refine LeO.ite ?_ ?_
   | refine LeO.bind ?_ (fun _ => ?_)
theorem patchbayref2_AddrRead.mono : ∀ a0 k, LeO (patchbayref2_AddrRead.f k a0) (patchbayref2_AddrRead.f (k + 1) a0) := by
 intro a0 k
 obtain ⟨ih0, ih1, ih2⟩ := patchbayref2_AddrRead.mono_l k
 unfold patchbayref2_AddrRead.f
 repeat' first
   | (with_reducible exact ih0 _ _ _ _ _ _)
   | (with_reducible exact ih1 _ _ _ _ _ _ _ _)
   | (with_reducible exact ih2 _ _ _ _ _ _ _ _ _)
   | (with_reducible exact LeO.refl _)
   | (with_reducible exact LeO.none _)
   | (with_reducible refine LeO.ite ?_ ?_)
   | (with_reducible refine LeO.bind ?_ (fun _ => ?_))
   | exact ih0 _ _ _ _ _ _
   | exact ih1 _ _ _ _ _ _ _ _
   | exact ih2 _ _ _ _ _ _ _ _ _
   | exact LeO.none _
   | refine LeO.ite ?_ ?_
   | refine LeO.bind ?_ (fun _ => ?_)
set_option maxHeartbeats 8000000 in
set_option maxRecDepth 100000 in
theorem patchbayref2_AddrRead.calls (k : Nat) (a0 : ByteArray) (r1 : Int) (r2 : Int) (w : World) (HVw : Vb.Ok w) (h : patchbayref2_AddrRead.f k a0 = some (r1, r2)) :
  Calls Tryd.prog 35 #[.string a0] w fun e w' => e = .returned (.tuple #[.int .u32 r1, .int .i64 r2]) ∧ Below w.heap.size w w' := by
 have HV := Aside0.mk HVw
 clear HVw
 have HB := Aside0.mk (Below.refl w.heap.size w)
 have H : ((strings_Count.f a0 (⟨#[46]⟩ : ByteArray)).bind fun t150 => (patchbayref2_AddrRead.l0 k a0 0 0 t150 (wrap64 (t150 + 1)) 0)) = some (r1, r2) := h
 clear h
 replace H := Option.bind_eq_some_iff.mp H
 obtain ⟨t150, A20, H⟩ := H
 replace H : (patchbayref2_AddrRead.l0 k a0 0 0 t150 (wrap64 (t150 + 1)) 0) = some (r1, r2) := H
 have A2 := Aside0.mk A20
 clear A20
 have H' := Aside0.mk H
 clear H
 go_enter Tryd.func35, Tryd.ntmps35
 go_wp2_with (first | (go_at_call 63; (with_reducible refine (strings_Count.calls a0 (⟨#[46]⟩ : ByteArray) t150 _ A2.out).mono ?_); rintro e w3 ⟨rfl, hb⟩; have n0_ := Aside0.mk (below_step (Fit.bl HB.out) hb); clear HB; have HB := n0_; clear n0_; (try clear hb); (try clear hb2); (try clear hk); (try clear hi)))
 repeat (go_quiet (first | (go_at_call 63; (with_reducible refine (strings_Count.calls a0 (⟨#[46]⟩ : ByteArray) t150 _ A2.out).mono ?_); rintro e w3 ⟨rfl, hb⟩; have n0_ := Aside0.mk (below_step (Fit.bl HB.out) hb); clear HB; have HB := n0_; clear n0_; (try clear hb); (try clear hb2); (try clear hk); (try clear hi))); try go_wp2_with (first | (go_at_call 63; (with_reducible refine (strings_Count.calls a0 (⟨#[46]⟩ : ByteArray) t150 _ A2.out).mono ?_); rintro e w3 ⟨rfl, hb⟩; have n0_ := Aside0.mk (below_step (Fit.bl HB.out) hb); clear HB; have HB := n0_; clear n0_; (try clear hb); (try clear hb2); (try clear hk); (try clear hi))))
 go_loopg [0, 4, 5, 16] k (fun kq v0 v4 v5 v16 w' => ∃ (x0_1 : ByteArray) (x4_1 : Int) (x5_1 : Int) (x16_1 : Int), v0 = .string x0_1 ∧ v4 = .int .i64 x4_1 ∧ v5 = .int .i64 x5_1 ∧ v16 = .int .i64 x16_1 ∧ Aside0 (patchbayref2_AddrRead.l0 kq x0_1 x4_1 x5_1 t150 (wrap64 (t150 + 1)) x16_1 = some (r1, r2)) ∧ Aside0 (kq ≤ k) ∧ Aside0 (Below w.heap.size w w'))
 case atStart => exact ⟨(a0), (0), (0), (0), (by first | rfl | (simp; done) | (simp [*]; done)), (by first | rfl | (simp; done) | (simp [*]; done)), (by first | rfl | (simp; done) | (simp [*]; done)), (by first | rfl | (simp; done) | (simp [*]; done)), H', ⟨Nat.le_refl _⟩, ⟨Fit.bl HB.out⟩⟩
 case round =>
  clear H'
  try clear p2
  try clear c3
  obtain ⟨x0_1, x4_1, x5_1, x16_1, rfl, rfl, rfl, rfl, HA, HK1, HB⟩ := hrel
  cases gk with
  | zero => exact absurd HA.out (by simp [patchbayref2_AddrRead.l0])
  | succ k1 =>
   have H := HA.out
   clear HA
   simp only [patchbayref2_AddrRead.l0] at H
   by_cases c4 : x16_1 < (wrap64 (t150 + 1))
   ·rw [if_pos c4] at H
    have c4b0 : decide (x16_1 < (wrap64 (t150 + 1))) = true := decide_eq_true c4
    clear c4
    replace H := Option.bind_eq_some_iff.mp H
    obtain ⟨t151, A50, H⟩ := H
    replace H : (if t151 ≥ 0 then (if 0 ≤ t151 then (if t151 ≤ (x0_1.size : Int) then (if 0 ≤ (wrap64 (t151 + 1)) then (if (wrap64 (t151 + 1)) ≤ (x0_1.size : Int) then (patchbayref2_AddrRead.j1 k1 (x0_1.extract ((wrap64 (t151 + 1)) : Int).toNat x0_1.size) x4_1 x5_1 t150 x16_1 (x0_1.extract 0 (t151 : Int).toNat) (wrap64 (t150 + 1)) x16_1) else (none)) else (none)) else (none)) else (none)) else (patchbayref2_AddrRead.j1 k1 x0_1 x4_1 x5_1 t150 x16_1 x0_1 (wrap64 (t150 + 1)) x16_1)) = some (r1, r2) := H
    have A5 := Aside0.mk A50
    clear A50
    have HC6 := Aside0.mk H
    clear H
    go_upto_if 23 with (first | (go_at_call 64; (with_reducible refine (strings_IndexByte.calls x0_1 46 t151 _ A5.out).mono ?_); rintro e w7 ⟨rfl, hb⟩; have n0_ := Aside0.mk (below_step (Fit.bl HB.out) hb); clear HB; have HB := n0_; clear n0_; (try clear hb); (try clear hb2); (try clear hk); (try clear hi)))
    repeat (go_quiet (first | (go_at_call 64; (with_reducible refine (strings_IndexByte.calls x0_1 46 t151 _ A5.out).mono ?_); rintro e w7 ⟨rfl, hb⟩; have n0_ := Aside0.mk (below_step (Fit.bl HB.out) hb); clear HB; have HB := n0_; clear n0_; (try clear hb); (try clear hb2); (try clear hk); (try clear hi))); go_upto_if 23 with (first | (go_at_call 64; (with_reducible refine (strings_IndexByte.calls x0_1 46 t151 _ A5.out).mono ?_); rintro e w7 ⟨rfl, hb⟩; have n0_ := Aside0.mk (below_step (Fit.bl HB.out) hb); clear HB; have HB := n0_; clear n0_; (try clear hb); (try clear hb2); (try clear hk); (try clear hi))))
    (try simp only [Act.put, List.setIfInBounds_toArray, List.set_cons_zero, List.set_cons_succ])
    go_cut [0, 8] (fun v0 v8 wc => ∃ (kq : Nat) (x0_5 : ByteArray) (x8_5 : ByteArray), v0 = .string x0_5 ∧ v8 = .string x8_5 ∧ Aside0 (patchbayref2_AddrRead.j1 kq x0_5 x4_1 x5_1 t150 x16_1 x8_5 (wrap64 (t150 + 1)) x16_1 = some (r1, r2)) ∧ Aside0 (kq ≤ k1) ∧ Aside0 (Below w.heap.size w wc))
    case first =>
     have H := HC6.out
     clear HC6
     by_cases c8 : t151 ≥ 0
     ·rw [if_pos c8] at H
      have c8b0 : decide (0 ≤ t151) = true := decide_eq_true c8
      clear c8
      (first | rw [c8b0] | (simp only [i64_w, i32_w]; rw [c8b0]) | skip)
      by_cases c9 : 0 ≤ t151
      ·rw [if_pos c9] at H
       have c9b0 := eq_true c9
       have c9b1 : decide (0 ≤ t151) = true := decide_eq_true c9
       clear c9
       by_cases c10 : t151 ≤ (x0_1.size : Int)
       ·rw [if_pos c10] at H
        have c10b0 := eq_true c10
        have c10b1 : decide (t151 ≤ (x0_1.size : Int)) = true := decide_eq_true c10
        clear c10
        obtain ⟨ji11, hji11⟩ : ∃ j_ : Int, (wrap64 (t151 + 1)) = j_ := ⟨_, rfl⟩
        replace H : (if 0 ≤ (ji11) then (if (ji11) ≤ (x0_1.size : Int) then (patchbayref2_AddrRead.j1 k1 (x0_1.extract ((ji11) : Int).toNat x0_1.size) x4_1 x5_1 t150 x16_1 (x0_1.extract 0 (t151 : Int).toNat) (wrap64 (t150 + 1)) x16_1) else (none)) else (none)) = some (r1, r2) := by first | (rw [hji11] at H; exact H) | (simp only [hji11] at H ⊢; exact H)
        have hji11w : (IntKind.i64.wrap (t151 + 1)) = ji11 := (i64_w _).trans hji11
        by_cases c12 : 0 ≤ (ji11)
        ·rw [if_pos c12] at H
         have c12b0 := eq_true c12
         have c12b1 : decide (0 ≤ (ji11)) = true := decide_eq_true c12
         clear c12
         by_cases c13 : (ji11) ≤ (x0_1.size : Int)
         ·rw [if_pos c13] at H
          have c13b0 := eq_true c13
          have c13b1 : decide ((ji11) ≤ (x0_1.size : Int)) = true := decide_eq_true c13
          clear c13
          have H' := Aside0.mk H
          clear H
          go_wp2
          repeat (go_quiet (fail); try go_wp2)
          go_meet
          case rel => exact ⟨_, (x0_1.extract ((ji11) : Int).toNat x0_1.size), (x0_1.extract 0 (t151 : Int).toNat), (by first | rfl | (simp; done) | (simp only [← hji11] <;> (first | rfl | simp)) | (simp [*]; done)), (by first | rfl | (simp; done) | (simp [*]; done)), H', ⟨by have := HK1.out; first | omega | exact Nat.le_refl _⟩, ⟨Fit.bl HB.out⟩⟩
         ·rw [if_neg c13] at H
          exact absurd H (by simp)
        ·rw [if_neg c12] at H
         exact absurd H (by simp)
       ·rw [if_neg c10] at H
        exact absurd H (by simp)
      ·rw [if_neg c9] at H
       exact absurd H (by simp)
     ·rw [if_neg c8] at H
      have c8b0 : decide (0 ≤ t151) = false := decide_eq_false c8
      clear c8
      (first | rw [c8b0] | (simp only [i64_w, i32_w]; rw [c8b0]) | skip)
      have H' := Aside0.mk H
      clear H
      go_wp2
      repeat (go_quiet (fail); try go_wp2)
      go_meet
      case rel => exact ⟨_, (x0_1), (x0_1), (by first | rfl | (simp; done) | (simp [*]; done)), (by first | rfl | (simp; done) | (simp [*]; done)), H', ⟨by have := HK1.out; first | omega | exact Nat.le_refl _⟩, ⟨Fit.bl HB.out⟩⟩
    case rest =>
     clear HC6
     try clear c1
     try clear p2
     try clear c3
     try clear c4
     try clear c4b0
     try clear p6
     try clear c8
     try clear c8b0
     try clear c9
     try clear c9b0
     try clear c9b1
     try clear c10
     try clear c10b0
     try clear c10b1
     try clear c12
     try clear c12b0
     try clear c12b1
     try clear c13
     try clear c13b0
     try clear c13b1
     try clear p2
     obtain ⟨kq, x0_5, x8_5, rfl, rfl, HA, HJ5, HB⟩ := hcut
     cases kq with
     | zero => exact absurd HA.out (by simp [patchbayref2_AddrRead.j1])
     | succ kj5 =>
      have H := HA.out
      clear HA
      simp only [patchbayref2_AddrRead.j1] at H
      replace H := Option.bind_eq_some_iff.mp H
      obtain ⟨⟨t152, t153⟩, A140, H⟩ := H
      replace H : (if t153 = true then (patchbayref2_AddrRead.j2 kj5 x0_5 x4_1 x5_1 t150 x16_1 t152 (wrap64 (t150 + 1)) x16_1 (t150 != 3)) else (patchbayref2_AddrRead.j2 kj5 x0_5 x4_1 x5_1 t150 x16_1 t152 (wrap64 (t150 + 1)) x16_1 true)) = some (r1, r2) := H
      have A14 := Aside0.mk A140
      clear A140
      have HC15 := Aside0.mk H
      clear H
      go_upto_region 11 with (first | (go_at_call 65; (with_reducible refine (patchbayref2_decimal.calls x8_5 t152 t153 _ ?sideV A14.out).mono ?_); (case sideV => exact HV.out.on (Fit.bl HB.out)); rintro e w16 ⟨rfl, hb⟩; have n0_ := Aside0.mk (below_step (Fit.bl HB.out) hb); clear HB; have HB := n0_; clear n0_; (try clear hb); (try clear hb2); (try clear hk); (try clear hi)))
      repeat (go_quiet (first | (go_at_call 65; (with_reducible refine (patchbayref2_decimal.calls x8_5 t152 t153 _ ?sideV A14.out).mono ?_); (case sideV => exact HV.out.on (Fit.bl HB.out)); rintro e w16 ⟨rfl, hb⟩; have n0_ := Aside0.mk (below_step (Fit.bl HB.out) hb); clear HB; have HB := n0_; clear n0_; (try clear hb); (try clear hb2); (try clear hk); (try clear hi))); go_upto_region 11 with (first | (go_at_call 65; (with_reducible refine (patchbayref2_decimal.calls x8_5 t152 t153 _ ?sideV A14.out).mono ?_); (case sideV => exact HV.out.on (Fit.bl HB.out)); rintro e w16 ⟨rfl, hb⟩; have n0_ := Aside0.mk (below_step (Fit.bl HB.out) hb); clear HB; have HB := n0_; clear n0_; (try clear hb); (try clear hb2); (try clear hk); (try clear hi))))
      (try simp only [Act.put, List.setIfInBounds_toArray, List.set_cons_zero, List.set_cons_succ])
      go_cut [36] (fun v36 wc => ∃ (kq : Nat) (x36_14 : Bool), v36 = .bool x36_14 ∧ Aside0 (patchbayref2_AddrRead.j2 kq x0_5 x4_1 x5_1 t150 x16_1 t152 (wrap64 (t150 + 1)) x16_1 x36_14 = some (r1, r2)) ∧ Aside0 (kq ≤ kj5) ∧ Aside0 (Below w.heap.size w wc))
      case first =>
       have H := HC15.out
       clear HC15
       by_cases c17 : t153 = true
       ·subst c17
        have H1 : (patchbayref2_AddrRead.j2 kj5 x0_5 x4_1 x5_1 t150 x16_1 t152 (wrap64 (t150 + 1)) x16_1 (t150 != 3)) = some (r1, r2) := by rw [if_pos rfl] at H; exact H
        clear H
        have H := H1
        clear H1
        have H' := Aside0.mk H
        clear H
        go_wp2
        repeat (go_quiet (fail); try go_wp2)
        go_meet
        case rel => exact ⟨_, ((t150 != 3)), (by first | rfl | (simp; done) | (simp [*]; done)), H', ⟨by have := HK1.out; have := HJ5.out; first | omega | exact Nat.le_refl _⟩, ⟨Fit.bl HB.out⟩⟩
       ·replace c17 := Bool.eq_false_iff.mpr c17
        subst c17
        have H1 : (patchbayref2_AddrRead.j2 kj5 x0_5 x4_1 x5_1 t150 x16_1 t152 (wrap64 (t150 + 1)) x16_1 true) = some (r1, r2) := by rw [if_neg (show ¬ (false = true) by decide)] at H; exact H
        clear H
        have H := H1
        clear H1
        have H' := Aside0.mk H
        clear H
        go_wp2
        repeat (go_quiet (fail); try go_wp2)
        go_meet
        case rel => exact ⟨_, (true), (by first | rfl | (simp; done) | (simp [*]; done)), H', ⟨by have := HK1.out; have := HJ5.out; first | omega | exact Nat.le_refl _⟩, ⟨Fit.bl HB.out⟩⟩
      case rest =>
       clear HC15
       try clear c1
       try clear p2
       try clear c3
       try clear c4
       try clear c4b0
       try clear p6
       try clear c8
       try clear c8b0
       try clear c9
       try clear c9b0
       try clear c9b1
       try clear c10
       try clear c10b0
       try clear c10b1
       try clear c12
       try clear c12b0
       try clear c12b1
       try clear c13
       try clear c13b0
       try clear c13b1
       try clear c17
       try clear p2
       try clear p6
       obtain ⟨kq, x36_14, rfl, HA, HJ14, HB⟩ := hcut
       cases kq with
       | zero => exact absurd HA.out (by simp [patchbayref2_AddrRead.j2])
       | succ kj14 =>
        have H := HA.out
        clear HA
        simp only [patchbayref2_AddrRead.j2] at H
        by_cases c18 : x36_14 = true
        ·subst c18
         have H1 : (some (0, 11)) = some (r1, r2) := by rw [if_pos rfl] at H; exact H
         clear H
         have H := H1
         clear H1
         simp only [Option.some.injEq, Prod.mk.injEq] at H
         obtain ⟨rfl, rfl⟩ := H
         go_wp2
         repeat (go_quiet (fail); try go_wp2)
         go_ret2
         exact ⟨by first | rfl | (simp [errW_none, errW_some] <;> rfl) | (simp [*, errW_none, errW_some] <;> rfl), Fit.bl HB.out⟩
        ·replace c18 := Bool.eq_false_iff.mpr c18
         subst c18
         have H1 : (if t152 > 255 then ((some (([16777216, 65536, 256, 1] : List Int) : List Int)).bind fun y154 => (if 0 ≤ x16_1 then (if x16_1 < (y154.length : Int) then (patchbayref2_AddrRead.l0 kj14 x0_5 (wrap64 (x4_1 + (wrap64 (t152 * (rd y154 x16_1))))) 10 t150 (wrap64 (t150 + 1)) (wrap64 (x16_1 + 1))) else (none)) else (none))) else ((some (([16777216, 65536, 256, 1] : List Int) : List Int)).bind fun y158 => (if 0 ≤ x16_1 then (if x16_1 < (y158.length : Int) then (patchbayref2_AddrRead.l0 kj14 x0_5 (wrap64 (x4_1 + (wrap64 (t152 * (rd y158 x16_1))))) x5_1 t150 (wrap64 (t150 + 1)) (wrap64 (x16_1 + 1))) else (none)) else (none)))) = some (r1, r2) := by rw [if_neg (show ¬ (false = true) by decide)] at H; exact H
         clear H
         have H := H1
         clear H1
         by_cases c19 : t152 > 255
         ·rw [if_pos c19] at H
          have c19b0 : decide (255 < t152) = true := decide_eq_true c19
          clear c19
          obtain ⟨y154, hy154⟩ : ∃ y_ : List Int, y_ = (([16777216, 65536, 256, 1] : List Int)) := ⟨_, rfl⟩
          replace H : (if 0 ≤ x16_1 then (if x16_1 < (y154.length : Int) then (patchbayref2_AddrRead.l0 kj14 x0_5 (wrap64 (x4_1 + (wrap64 (t152 * (rd y154 x16_1))))) 10 t150 (wrap64 (t150 + 1)) (wrap64 (x16_1 + 1))) else (none)) else (none)) = some (r1, r2) := by first | (rw [hy154]; with_reducible exact H) | (have H2_ := (Option.bind_some _ _).symm.trans H; rw [hy154]; with_reducible exact H2_) | (have H2_ := (Option.bind_some _ _).symm.trans H; with_reducible exact H2_) | with_reducible exact H | (rw [hy154]; exact H) | exact H
          have Ny154 := Aside0.mk hy154
          clear hy154
          by_cases c20 : 0 ≤ x16_1
          ·rw [if_pos c20] at H
           have c20b0 : decide (0 ≤ x16_1) = true := decide_eq_true c20
           clear c20
           by_cases c21 : x16_1 < (y154.length : Int)
           ·rw [if_pos c21] at H
            have c21b0 : decide (x16_1 < (y154.length : Int)) = true := decide_eq_true c21
            clear c21
            have H' := Aside0.mk H
            clear H
            go_wp2_with (first | ((with_reducible refine gate_dst (N := 48) rfl ?_); refine Kd.R_lit (Kd.int .i64) _ 3 ?hg (N := 48) ?hd (xs := ([16777216, 65536, 256, 1] : List Int)) (inner := [.int .i64 16777216, .int .i64 65536, .int .i64 256, .int .i64 1]) (ok := fun _ => True) (okp := fun _ => True) ?hr ?hp (fun _ hk => hk) trivial (Below.refl _ _) (Nat.le_refl _) (by simp) ?_; (case hd => rfl); (case hg => rfl); (case hr => first | (go_simp; done) | (go_simp; rfl)); (case hp => exact (Reps.one (show Kd.M (Kd.int .i64) _ _ _ 16777216 [.int .i64 16777216] from rfl) (Reps.one (show Kd.M (Kd.int .i64) _ _ _ 65536 [.int .i64 65536] from rfl) (Reps.one (show Kd.M (Kd.int .i64) _ _ _ 256 [.int .i64 256] from rfl) (Reps.one (show Kd.M (Kd.int .i64) _ _ _ 1 [.int .i64 1] from rfl) (Reps.none _ _)))))); intro v155 w22 ho23 hb hg_ hnew_; clear hg_ hnew_; (first | rw [← Ny154.out] at ho23 | (simp only [Int.reduceToNat] at ho23; rw [← Ny154.out] at ho23)); have n0_ := Aside0.mk (Kd.R_lower ho23 (below_size (Fit.bl HB.out))); have n1_ := Aside0.mk (below_step (Fit.bl HB.out) hb); clear HB; have HO156 := n0_; have HB := n1_; clear n0_ n1_; clear hb ho23; obtain ⟨Ao24, co24, eo24⟩ := Kd.R_slice HO156.out; subst eo24; have p157 : 0 ≤ (x16_1 : Int) := of_decide_eq_true (by first | (with_reducible assumption) | assumption); have q157 : x16_1 < (y154.length : Int) := of_decide_eq_true (by first | (with_reducible assumption) | assumption); obtain ⟨ad157, e157, hx157_0⟩ := Kd.at_int (Kd.R_reads' HO156.out).2.2 x16_1 p157 q157; cases e157; replace p157 := eq_true p157; replace q157 := eq_true q157))
            repeat (go_quiet (first | ((with_reducible refine gate_dst (N := 48) rfl ?_); refine Kd.R_lit (Kd.int .i64) _ 3 ?hg (N := 48) ?hd (xs := ([16777216, 65536, 256, 1] : List Int)) (inner := [.int .i64 16777216, .int .i64 65536, .int .i64 256, .int .i64 1]) (ok := fun _ => True) (okp := fun _ => True) ?hr ?hp (fun _ hk => hk) trivial (Below.refl _ _) (Nat.le_refl _) (by simp) ?_; (case hd => rfl); (case hg => rfl); (case hr => first | (go_simp; done) | (go_simp; rfl)); (case hp => exact (Reps.one (show Kd.M (Kd.int .i64) _ _ _ 16777216 [.int .i64 16777216] from rfl) (Reps.one (show Kd.M (Kd.int .i64) _ _ _ 65536 [.int .i64 65536] from rfl) (Reps.one (show Kd.M (Kd.int .i64) _ _ _ 256 [.int .i64 256] from rfl) (Reps.one (show Kd.M (Kd.int .i64) _ _ _ 1 [.int .i64 1] from rfl) (Reps.none _ _)))))); intro v155 w22 ho23 hb hg_ hnew_; clear hg_ hnew_; (first | rw [← Ny154.out] at ho23 | (simp only [Int.reduceToNat] at ho23; rw [← Ny154.out] at ho23)); have n0_ := Aside0.mk (Kd.R_lower ho23 (below_size (Fit.bl HB.out))); have n1_ := Aside0.mk (below_step (Fit.bl HB.out) hb); clear HB; have HO156 := n0_; have HB := n1_; clear n0_ n1_; clear hb ho23; obtain ⟨Ao24, co24, eo24⟩ := Kd.R_slice HO156.out; subst eo24; have p157 : 0 ≤ (x16_1 : Int) := of_decide_eq_true (by first | (with_reducible assumption) | assumption); have q157 : x16_1 < (y154.length : Int) := of_decide_eq_true (by first | (with_reducible assumption) | assumption); obtain ⟨ad157, e157, hx157_0⟩ := Kd.at_int (Kd.R_reads' HO156.out).2.2 x16_1 p157 q157; cases e157; replace p157 := eq_true p157; replace q157 := eq_true q157)); try go_wp2_with (first | ((with_reducible refine gate_dst (N := 48) rfl ?_); refine Kd.R_lit (Kd.int .i64) _ 3 ?hg (N := 48) ?hd (xs := ([16777216, 65536, 256, 1] : List Int)) (inner := [.int .i64 16777216, .int .i64 65536, .int .i64 256, .int .i64 1]) (ok := fun _ => True) (okp := fun _ => True) ?hr ?hp (fun _ hk => hk) trivial (Below.refl _ _) (Nat.le_refl _) (by simp) ?_; (case hd => rfl); (case hg => rfl); (case hr => first | (go_simp; done) | (go_simp; rfl)); (case hp => exact (Reps.one (show Kd.M (Kd.int .i64) _ _ _ 16777216 [.int .i64 16777216] from rfl) (Reps.one (show Kd.M (Kd.int .i64) _ _ _ 65536 [.int .i64 65536] from rfl) (Reps.one (show Kd.M (Kd.int .i64) _ _ _ 256 [.int .i64 256] from rfl) (Reps.one (show Kd.M (Kd.int .i64) _ _ _ 1 [.int .i64 1] from rfl) (Reps.none _ _)))))); intro v155 w22 ho23 hb hg_ hnew_; clear hg_ hnew_; (first | rw [← Ny154.out] at ho23 | (simp only [Int.reduceToNat] at ho23; rw [← Ny154.out] at ho23)); have n0_ := Aside0.mk (Kd.R_lower ho23 (below_size (Fit.bl HB.out))); have n1_ := Aside0.mk (below_step (Fit.bl HB.out) hb); clear HB; have HO156 := n0_; have HB := n1_; clear n0_ n1_; clear hb ho23; obtain ⟨Ao24, co24, eo24⟩ := Kd.R_slice HO156.out; subst eo24; have p157 : 0 ≤ (x16_1 : Int) := of_decide_eq_true (by first | (with_reducible assumption) | assumption); have q157 : x16_1 < (y154.length : Int) := of_decide_eq_true (by first | (with_reducible assumption) | assumption); obtain ⟨ad157, e157, hx157_0⟩ := Kd.at_int (Kd.R_reads' HO156.out).2.2 x16_1 p157 q157; cases e157; replace p157 := eq_true p157; replace q157 := eq_true q157)))
            go_roundg kj14
            case measure => have := HK1.out; have := HJ5.out; have := HJ14.out; omega
            case rel => exact ⟨(x0_5), (wrap64 (x4_1 + (wrap64 (t152 * (rd y154 x16_1))))), (10), (wrap64 (x16_1 + 1)), (by first | rfl | (simp; done) | (simp [*]; done)), (by first | rfl | (simp; done) | (simp [*]; done)), (by first | rfl | (simp; done) | (simp [*]; done)), (by first | rfl | (simp; done) | (simp [*]; done)), H', ⟨by have := HK1.out; have := HJ5.out; have := HJ14.out; omega⟩, ⟨Fit.bl HB.out⟩⟩
           ·rw [if_neg c21] at H
            exact absurd H (by simp)
          ·rw [if_neg c20] at H
           exact absurd H (by simp)
         ·rw [if_neg c19] at H
          have c19b0 : decide (255 < t152) = false := decide_eq_false c19
          clear c19
          obtain ⟨y158, hy158⟩ : ∃ y_ : List Int, y_ = (([16777216, 65536, 256, 1] : List Int)) := ⟨_, rfl⟩
          replace H : (if 0 ≤ x16_1 then (if x16_1 < (y158.length : Int) then (patchbayref2_AddrRead.l0 kj14 x0_5 (wrap64 (x4_1 + (wrap64 (t152 * (rd y158 x16_1))))) x5_1 t150 (wrap64 (t150 + 1)) (wrap64 (x16_1 + 1))) else (none)) else (none)) = some (r1, r2) := by first | (rw [hy158]; with_reducible exact H) | (have H2_ := (Option.bind_some _ _).symm.trans H; rw [hy158]; with_reducible exact H2_) | (have H2_ := (Option.bind_some _ _).symm.trans H; with_reducible exact H2_) | with_reducible exact H | (rw [hy158]; exact H) | exact H
          have Ny158 := Aside0.mk hy158
          clear hy158
          by_cases c25 : 0 ≤ x16_1
          ·rw [if_pos c25] at H
           have c25b0 : decide (0 ≤ x16_1) = true := decide_eq_true c25
           clear c25
           by_cases c26 : x16_1 < (y158.length : Int)
           ·rw [if_pos c26] at H
            have c26b0 : decide (x16_1 < (y158.length : Int)) = true := decide_eq_true c26
            clear c26
            have H' := Aside0.mk H
            clear H
            go_wp2_with (first | ((with_reducible refine gate_dst (N := 48) rfl ?_); refine Kd.R_lit (Kd.int .i64) _ 3 ?hg (N := 48) ?hd (xs := ([16777216, 65536, 256, 1] : List Int)) (inner := [.int .i64 16777216, .int .i64 65536, .int .i64 256, .int .i64 1]) (ok := fun _ => True) (okp := fun _ => True) ?hr ?hp (fun _ hk => hk) trivial (Below.refl _ _) (Nat.le_refl _) (by simp) ?_; (case hd => rfl); (case hg => rfl); (case hr => first | (go_simp; done) | (go_simp; rfl)); (case hp => exact (Reps.one (show Kd.M (Kd.int .i64) _ _ _ 16777216 [.int .i64 16777216] from rfl) (Reps.one (show Kd.M (Kd.int .i64) _ _ _ 65536 [.int .i64 65536] from rfl) (Reps.one (show Kd.M (Kd.int .i64) _ _ _ 256 [.int .i64 256] from rfl) (Reps.one (show Kd.M (Kd.int .i64) _ _ _ 1 [.int .i64 1] from rfl) (Reps.none _ _)))))); intro v159 w27 ho28 hb hg_ hnew_; clear hg_ hnew_; (first | rw [← Ny158.out] at ho28 | (simp only [Int.reduceToNat] at ho28; rw [← Ny158.out] at ho28)); have n0_ := Aside0.mk (Kd.R_lower ho28 (below_size (Fit.bl HB.out))); have n1_ := Aside0.mk (below_step (Fit.bl HB.out) hb); clear HB; have HO160 := n0_; have HB := n1_; clear n0_ n1_; clear hb ho28; obtain ⟨Ao29, co29, eo29⟩ := Kd.R_slice HO160.out; subst eo29; have p161 : 0 ≤ (x16_1 : Int) := of_decide_eq_true (by first | (with_reducible assumption) | assumption); have q161 : x16_1 < (y158.length : Int) := of_decide_eq_true (by first | (with_reducible assumption) | assumption); obtain ⟨ad161, e161, hx161_0⟩ := Kd.at_int (Kd.R_reads' HO160.out).2.2 x16_1 p161 q161; cases e161; replace p161 := eq_true p161; replace q161 := eq_true q161))
            repeat (go_quiet (first | ((with_reducible refine gate_dst (N := 48) rfl ?_); refine Kd.R_lit (Kd.int .i64) _ 3 ?hg (N := 48) ?hd (xs := ([16777216, 65536, 256, 1] : List Int)) (inner := [.int .i64 16777216, .int .i64 65536, .int .i64 256, .int .i64 1]) (ok := fun _ => True) (okp := fun _ => True) ?hr ?hp (fun _ hk => hk) trivial (Below.refl _ _) (Nat.le_refl _) (by simp) ?_; (case hd => rfl); (case hg => rfl); (case hr => first | (go_simp; done) | (go_simp; rfl)); (case hp => exact (Reps.one (show Kd.M (Kd.int .i64) _ _ _ 16777216 [.int .i64 16777216] from rfl) (Reps.one (show Kd.M (Kd.int .i64) _ _ _ 65536 [.int .i64 65536] from rfl) (Reps.one (show Kd.M (Kd.int .i64) _ _ _ 256 [.int .i64 256] from rfl) (Reps.one (show Kd.M (Kd.int .i64) _ _ _ 1 [.int .i64 1] from rfl) (Reps.none _ _)))))); intro v159 w27 ho28 hb hg_ hnew_; clear hg_ hnew_; (first | rw [← Ny158.out] at ho28 | (simp only [Int.reduceToNat] at ho28; rw [← Ny158.out] at ho28)); have n0_ := Aside0.mk (Kd.R_lower ho28 (below_size (Fit.bl HB.out))); have n1_ := Aside0.mk (below_step (Fit.bl HB.out) hb); clear HB; have HO160 := n0_; have HB := n1_; clear n0_ n1_; clear hb ho28; obtain ⟨Ao29, co29, eo29⟩ := Kd.R_slice HO160.out; subst eo29; have p161 : 0 ≤ (x16_1 : Int) := of_decide_eq_true (by first | (with_reducible assumption) | assumption); have q161 : x16_1 < (y158.length : Int) := of_decide_eq_true (by first | (with_reducible assumption) | assumption); obtain ⟨ad161, e161, hx161_0⟩ := Kd.at_int (Kd.R_reads' HO160.out).2.2 x16_1 p161 q161; cases e161; replace p161 := eq_true p161; replace q161 := eq_true q161)); try go_wp2_with (first | ((with_reducible refine gate_dst (N := 48) rfl ?_); refine Kd.R_lit (Kd.int .i64) _ 3 ?hg (N := 48) ?hd (xs := ([16777216, 65536, 256, 1] : List Int)) (inner := [.int .i64 16777216, .int .i64 65536, .int .i64 256, .int .i64 1]) (ok := fun _ => True) (okp := fun _ => True) ?hr ?hp (fun _ hk => hk) trivial (Below.refl _ _) (Nat.le_refl _) (by simp) ?_; (case hd => rfl); (case hg => rfl); (case hr => first | (go_simp; done) | (go_simp; rfl)); (case hp => exact (Reps.one (show Kd.M (Kd.int .i64) _ _ _ 16777216 [.int .i64 16777216] from rfl) (Reps.one (show Kd.M (Kd.int .i64) _ _ _ 65536 [.int .i64 65536] from rfl) (Reps.one (show Kd.M (Kd.int .i64) _ _ _ 256 [.int .i64 256] from rfl) (Reps.one (show Kd.M (Kd.int .i64) _ _ _ 1 [.int .i64 1] from rfl) (Reps.none _ _)))))); intro v159 w27 ho28 hb hg_ hnew_; clear hg_ hnew_; (first | rw [← Ny158.out] at ho28 | (simp only [Int.reduceToNat] at ho28; rw [← Ny158.out] at ho28)); have n0_ := Aside0.mk (Kd.R_lower ho28 (below_size (Fit.bl HB.out))); have n1_ := Aside0.mk (below_step (Fit.bl HB.out) hb); clear HB; have HO160 := n0_; have HB := n1_; clear n0_ n1_; clear hb ho28; obtain ⟨Ao29, co29, eo29⟩ := Kd.R_slice HO160.out; subst eo29; have p161 : 0 ≤ (x16_1 : Int) := of_decide_eq_true (by first | (with_reducible assumption) | assumption); have q161 : x16_1 < (y158.length : Int) := of_decide_eq_true (by first | (with_reducible assumption) | assumption); obtain ⟨ad161, e161, hx161_0⟩ := Kd.at_int (Kd.R_reads' HO160.out).2.2 x16_1 p161 q161; cases e161; replace p161 := eq_true p161; replace q161 := eq_true q161)))
            go_roundg kj14
            case measure => have := HK1.out; have := HJ5.out; have := HJ14.out; omega
            case rel => exact ⟨(x0_5), (wrap64 (x4_1 + (wrap64 (t152 * (rd y158 x16_1))))), (x5_1), (wrap64 (x16_1 + 1)), (by first | rfl | (simp; done) | (simp [*]; done)), (by first | rfl | (simp; done) | (simp [*]; done)), (by first | rfl | (simp; done) | (simp [*]; done)), (by first | rfl | (simp; done) | (simp [*]; done)), H', ⟨by have := HK1.out; have := HJ5.out; have := HJ14.out; omega⟩, ⟨Fit.bl HB.out⟩⟩
           ·rw [if_neg c26] at H
            exact absurd H (by simp)
          ·rw [if_neg c25] at H
           exact absurd H (by simp)
   ·rw [if_neg c4] at H
    have c4b0 : decide (x16_1 < (wrap64 (t150 + 1))) = false := decide_eq_false c4
    clear c4
    by_cases c30 : x5_1 = 0
    ·rw [if_pos c30] at H
     have c30b0 : (x5_1 == 0) = true := beq_iff_eq.mpr c30
     have c30b1 : (x5_1 != 0) = false := bne_eq_false_iff_eq.mpr c30
     clear c30
     simp only [Option.some.injEq, Prod.mk.injEq] at H
     obtain ⟨rfl, rfl⟩ := H
     go_wp2
     repeat (go_quiet (fail); try go_wp2)
     go_ret2
     exact ⟨by first | rfl | (simp [errW_none, errW_some] <;> rfl) | (simp [*, errW_none, errW_some] <;> rfl), Fit.bl HB.out⟩
    ·rw [if_neg c30] at H
     have c30b0 : (x5_1 == 0) = false := beq_eq_false_iff_ne.mpr c30
     have c30b1 : (x5_1 != 0) = true := bne_iff_ne.mpr c30
     simp only [Option.some.injEq, Prod.mk.injEq] at H
     obtain ⟨rfl, rfl⟩ := H
     go_wp2
     repeat (go_quiet (fail); try go_wp2)
     go_ret2
     exact ⟨by first | rfl | (simp [errW_none, errW_some] <;> rfl) | (simp [*, errW_none, errW_some] <;> rfl), Fit.bl HB.out⟩


/-! ### patchbayref2_PrefixRead: function 37 -/
mutual
def patchbayref2_PrefixRead.j0 : Nat → Int → Int → Int → Bool → Option (Int × Int × Int)
 | 0, _, _, _, _ => none
 | k + 1, x5, x6, x7, x30 => if x30 = true then (some (0, 0, 11)) else (if x6 = 10 then (patchbayref2_PrefixRead.j1 k x5 x7 true) else (patchbayref2_PrefixRead.j1 k x5 x7 (decide (x7 > 32))))
def patchbayref2_PrefixRead.j1 : Nat → Int → Int → Bool → Option (Int × Int × Int)
 | 0, _, _, _ => none
 | k + 1, x5, x7, x38 => if x38 = true then (some (0, 0, 10)) else ((patchbayref2_PrefixFault.f k x5 x7).bind fun t169 => (if t169 = 0 then (some (x5, x7, 0)) else (some (0, 0, 3))))
end
def patchbayref2_PrefixRead.f (k : Nat) (a0 : ByteArray) : Option (Int × Int × Int) := (strings_IndexByte.f a0 47).bind fun t163 => (if t163 < 0 then (some (0, 0, 11)) else (if 0 ≤ t163 then (if t163 ≤ (a0.size : Int) then ((patchbayref2_AddrRead.f k (a0.extract 0 (t163 : Int).toNat)).bind fun bt164 => (if 0 ≤ (wrap64 (t163 + 1)) then (if (wrap64 (t163 + 1)) ≤ (a0.size : Int) then ((patchbayref2_decimal.f (a0.extract ((wrap64 (t163 + 1)) : Int).toNat a0.size)).bind fun bt166 => (if bt164.2 = 11 then (patchbayref2_PrefixRead.j0 k bt164.1 bt164.2 bt166.1 true) else (patchbayref2_PrefixRead.j0 k bt164.1 bt164.2 bt166.1 (!bt166.2)))) else (none)) else (none))) else (none)) else (none)))
theorem patchbayref2_PrefixRead.mono_l : ∀ k, (∀ y0 y1 y2 y3, LeO (patchbayref2_PrefixRead.j0 k y0 y1 y2 y3) (patchbayref2_PrefixRead.j0 (k + 1) y0 y1 y2 y3)) ∧ (∀ y0 y1 y2, LeO (patchbayref2_PrefixRead.j1 k y0 y1 y2) (patchbayref2_PrefixRead.j1 (k + 1) y0 y1 y2))
 | 0 => ⟨fun _ _ _ _ r h => by simp [patchbayref2_PrefixRead.j0] at h, fun _ _ _ r h => by simp [patchbayref2_PrefixRead.j1] at h⟩
 | k + 1 => by
  obtain ⟨ih0, ih1⟩ := patchbayref2_PrefixRead.mono_l k
  refine ⟨?_, ?_⟩
  ·intro y0 y1 y2 y3
   unfold patchbayref2_PrefixRead.j0
   repeat' first
   | (with_reducible exact ih0 _ _ _ _)
   | (with_reducible exact ih1 _ _ _)
   | (with_reducible exact patchbayref2_AddrRead.mono _ _)
   | (with_reducible exact patchbayref2_PrefixFault.mono _ _ _)
   | (with_reducible exact LeO.refl _)
   | (with_reducible exact LeO.none _)
   | (with_reducible refine LeO.ite ?_ ?_)
   | (with_reducible refine LeO.bind ?_ (fun _ => ?_))
   | exact ih0 _ _ _ _
   | exact ih1 _ _ _
   | exact patchbayref2_AddrRead.mono _ _
   | exact patchbayref2_PrefixFault.mono _ _ _
   | exact LeO.none _
   | refine LeO.ite ?_ ?_
   | refine LeO.bind ?_ (fun _ => ?_)
  ·intro y0 y1 y2
   unfold patchbayref2_PrefixRead.j1
   repeat' first
   | (with_reducible exact ih0 _ _ _ _)
   | (with_reducible exact ih1 _ _ _)
   | (with_reducible exact patchbayref2_AddrRead.mono _ _)
   | (with_reducible exact patchbayref2_PrefixFault.mono _ _ _)
   | (with_reducible exact LeO.refl _)
   | (with_reducible exact LeO.none _)
   | (with_reducible refine LeO.ite ?_ ?_)
   | (with_reducible refine LeO.bind ?_ (fun _ => ?_))
   | exact ih0 _ _ _ _
   | exact ih1 _ _ _
   | exact patchbayref2_AddrRead.mono _ _
   | exact patchbayref2_PrefixFault.mono _ _ _
   | exact LeO.none _
   | refine LeO.ite ?_ ?_
   | refine LeO.bind ?_ (fun _ => ?_)
theorem patchbayref2_PrefixRead.mono : ∀ a0 k, LeO (patchbayref2_PrefixRead.f k a0) (patchbayref2_PrefixRead.f (k + 1) a0) := by
 intro a0 k
 obtain ⟨ih0, ih1⟩ := patchbayref2_PrefixRead.mono_l k
 unfold patchbayref2_PrefixRead.f
 repeat' first
   | (with_reducible exact ih0 _ _ _ _)
   | (with_reducible exact ih1 _ _ _)
   | (with_reducible exact patchbayref2_AddrRead.mono _ _)
   | (with_reducible exact patchbayref2_PrefixFault.mono _ _ _)
   | (with_reducible exact LeO.refl _)
   | (with_reducible exact LeO.none _)
   | (with_reducible refine LeO.ite ?_ ?_)
   | (with_reducible refine LeO.bind ?_ (fun _ => ?_))
   | exact ih0 _ _ _ _
   | exact ih1 _ _ _
   | exact patchbayref2_AddrRead.mono _ _
   | exact patchbayref2_PrefixFault.mono _ _ _
   | exact LeO.none _
   | refine LeO.ite ?_ ?_
   | refine LeO.bind ?_ (fun _ => ?_)
set_option maxHeartbeats 8000000 in
set_option maxRecDepth 100000 in
theorem patchbayref2_PrefixRead.calls (k : Nat) (a0 : ByteArray) (r1 : Int) (r2 : Int) (r3 : Int) (w : World) (HVw : Vb.Ok w) (h : patchbayref2_PrefixRead.f k a0 = some (r1, r2, r3)) :
  Calls Tryd.prog 37 #[.string a0] w fun e w' => e = .returned (.tuple #[.agg #[.int .u32 r1, .int .i64 r2], .int .i64 r3]) ∧ Below w.heap.size w w' := by
 have HV := Aside0.mk HVw
 clear HVw
 have hu24 := Tryd.underlying24
 have HB := Aside0.mk (Below.refl w.heap.size w)
 have H : ((strings_IndexByte.f a0 47).bind fun t163 => (if t163 < 0 then (some (0, 0, 11)) else (if 0 ≤ t163 then (if t163 ≤ (a0.size : Int) then ((patchbayref2_AddrRead.f k (a0.extract 0 (t163 : Int).toNat)).bind fun bt164 => (if 0 ≤ (wrap64 (t163 + 1)) then (if (wrap64 (t163 + 1)) ≤ (a0.size : Int) then ((patchbayref2_decimal.f (a0.extract ((wrap64 (t163 + 1)) : Int).toNat a0.size)).bind fun bt166 => (if bt164.2 = 11 then (patchbayref2_PrefixRead.j0 k bt164.1 bt164.2 bt166.1 true) else (patchbayref2_PrefixRead.j0 k bt164.1 bt164.2 bt166.1 (!bt166.2)))) else (none)) else (none))) else (none)) else (none)))) = some (r1, r2, r3) := h
 clear h
 replace H := Option.bind_eq_some_iff.mp H
 obtain ⟨t163, A20, H⟩ := H
 replace H : (if t163 < 0 then (some (0, 0, 11)) else (if 0 ≤ t163 then (if t163 ≤ (a0.size : Int) then ((patchbayref2_AddrRead.f k (a0.extract 0 (t163 : Int).toNat)).bind fun bt164 => (if 0 ≤ (wrap64 (t163 + 1)) then (if (wrap64 (t163 + 1)) ≤ (a0.size : Int) then ((patchbayref2_decimal.f (a0.extract ((wrap64 (t163 + 1)) : Int).toNat a0.size)).bind fun bt166 => (if bt164.2 = 11 then (patchbayref2_PrefixRead.j0 k bt164.1 bt164.2 bt166.1 true) else (patchbayref2_PrefixRead.j0 k bt164.1 bt164.2 bt166.1 (!bt166.2)))) else (none)) else (none))) else (none)) else (none))) = some (r1, r2, r3) := H
 have A2 := Aside0.mk A20
 clear A20
 by_cases c3 : t163 < 0
 ·rw [if_pos c3] at H
  have c3b0 : decide (t163 < 0) = true := decide_eq_true c3
  clear c3
  simp only [Option.some.injEq, Prod.mk.injEq] at H
  obtain ⟨rfl, rfl, rfl⟩ := H
  go_enter Tryd.func37, Tryd.ntmps37
  go_wp2_with (first | ((with_reducible refine gate_dst (N := 2) rfl ?_); refine box_event ?hg (N := 2) ?hd (cs := #[.int .u32 0, .int .i64 0]) (t := 24) ?hr ?_; (case hd => rfl); (case hg => rfl); (case hr => first | (go_simp; done) | (go_simp; rfl)); intro gb162 hg w4 hbox hb; have n0_ := Aside0.mk (below_step (Fit.bl HB.out) hb); have n1_ := Aside0.mk (hbox); have n2_ := Aside0.mk ((by rw [hg]; exact (below_size (Fit.bl HB.out)) : w.heap.size ≤ gb162)); have n3_ := Aside0.mk ((by rw [hg]; exact (below_size (Fit.bl HB.out)) : w.heap.size ≤ gb162)); clear HB; have HB := n0_; have BK162 := n1_; have GW162 := n2_; have GE162 := n3_; clear n0_ n1_ n2_ n3_; clear hb hbox hg) | ((with_reducible refine gate_callee (f := 64) rfl ?_); refine goesL_ (some 11) rfl rfl Tryd.func64 (by kernel_rfl) rfl #[.string a0, .int .u8 47] rfl (by (try simp only [List.map_toArray, List.map_cons, List.map_nil]); first | done | rfl | (simp only [List.length_drop, List.length_take]; rfl)) ?_; (with_reducible refine (strings_IndexByte.calls a0 47 t163 _ A2.out).mono ?_); rintro e w5 ⟨rfl, hb⟩; refine ⟨_, rfl, ?_⟩; have n0_ := Aside0.mk (blk_below (g := gb162) (Fit.pk BK162.out) hb); have n1_ := Aside0.mk (below_step (Fit.bl HB.out) hb); clear BK162; clear HB; have BK162 := n0_; have HB := n1_; clear n0_ n1_; (try clear hb); (try clear hb2); (try clear hk); (try clear hi); obtain ⟨hcz6_0, hcz6_1, hfz6_0⟩ := Fit.cells2 BK162.out))
  refine bodyPost_ret (results_ct rfl _ _ gb162 24 #[.int .u32 0, .int .i64 0] (0, 0) _ rfl (by (with_reducible repeat first | apply blk_drewN | apply blk_drew | apply blk_alloc); refine blk_put (cs := #[.int .u32 0, .int .i64 0]) ?_ 1 _ rfl; (with_reducible repeat first | apply blk_drewN | apply blk_drew | apply blk_alloc); refine blk_put (cs := #[.int .u32 0, .int .i64 0]) ?_ 0 _ rfl; (with_reducible repeat first | apply blk_drewN | apply blk_drew | apply blk_alloc); exact BK162.out) Tryd.underlying24 rfl (by kernel_rfl)) rfl ?_
  exact ⟨by first | rfl | (simp [errW_none, errW_some] <;> rfl) | (simp [*, errW_none, errW_some] <;> rfl), Fit.bl HB.out⟩
 ·rw [if_neg c3] at H
  have c3b0 : decide (t163 < 0) = false := decide_eq_false c3
  clear c3
  by_cases c7 : 0 ≤ t163
  ·rw [if_pos c7] at H
   have c7b0 := eq_true c7
   have c7b1 : decide (0 ≤ t163) = true := decide_eq_true c7
   clear c7
   by_cases c8 : t163 ≤ (a0.size : Int)
   ·rw [if_pos c8] at H
    have c8b0 := eq_true c8
    have c8b1 : decide (t163 ≤ (a0.size : Int)) = true := decide_eq_true c8
    clear c8
    replace H := Option.bind_eq_some_iff.mp H
    obtain ⟨⟨t164, t165⟩, A90, H⟩ := H
    replace H : (if 0 ≤ (wrap64 (t163 + 1)) then (if (wrap64 (t163 + 1)) ≤ (a0.size : Int) then ((patchbayref2_decimal.f (a0.extract ((wrap64 (t163 + 1)) : Int).toNat a0.size)).bind fun bt166 => (if t165 = 11 then (patchbayref2_PrefixRead.j0 k t164 t165 bt166.1 true) else (patchbayref2_PrefixRead.j0 k t164 t165 bt166.1 (!bt166.2)))) else (none)) else (none)) = some (r1, r2, r3) := H
    have A9 := Aside0.mk A90
    clear A90
    obtain ⟨ji10, hji10⟩ : ∃ j_ : Int, (wrap64 (t163 + 1)) = j_ := ⟨_, rfl⟩
    replace H : (if 0 ≤ (ji10) then (if (ji10) ≤ (a0.size : Int) then ((patchbayref2_decimal.f (a0.extract ((ji10) : Int).toNat a0.size)).bind fun bt166 => (if t165 = 11 then (patchbayref2_PrefixRead.j0 k t164 t165 bt166.1 true) else (patchbayref2_PrefixRead.j0 k t164 t165 bt166.1 (!bt166.2)))) else (none)) else (none)) = some (r1, r2, r3) := by first | (rw [hji10] at H; exact H) | (simp only [hji10] at H ⊢; exact H)
    (try rw [hji10] at A2)
    (try rw [hji10] at A9)
    have hji10w : (IntKind.i64.wrap (t163 + 1)) = ji10 := (i64_w _).trans hji10
    by_cases c11 : 0 ≤ (ji10)
    ·rw [if_pos c11] at H
     have c11b0 := eq_true c11
     have c11b1 : decide (0 ≤ (ji10)) = true := decide_eq_true c11
     clear c11
     by_cases c12 : (ji10) ≤ (a0.size : Int)
     ·rw [if_pos c12] at H
      have c12b0 := eq_true c12
      have c12b1 : decide ((ji10) ≤ (a0.size : Int)) = true := decide_eq_true c12
      clear c12
      replace H := Option.bind_eq_some_iff.mp H
      obtain ⟨⟨t166, t167⟩, A130, H⟩ := H
      replace H : (if t165 = 11 then (patchbayref2_PrefixRead.j0 k t164 t165 t166 true) else (patchbayref2_PrefixRead.j0 k t164 t165 t166 (!t167))) = some (r1, r2, r3) := H
      have A13 := Aside0.mk A130
      clear A130
      have HC14 := Aside0.mk H
      clear H
      go_enter Tryd.func37, Tryd.ntmps37
      go_upto_region 6 with (first | ((with_reducible refine gate_dst (N := 2) rfl ?_); refine box_event ?hg (N := 2) ?hd (cs := #[.int .u32 0, .int .i64 0]) (t := 24) ?hr ?_; (case hd => rfl); (case hg => rfl); (case hr => first | (go_simp; done) | (go_simp; rfl)); intro gb162 hg w15 hbox hb; have n0_ := Aside0.mk (below_step (Fit.bl HB.out) hb); have n1_ := Aside0.mk (hbox); have n2_ := Aside0.mk ((by rw [hg]; exact (below_size (Fit.bl HB.out)) : w.heap.size ≤ gb162)); have n3_ := Aside0.mk ((by rw [hg]; exact (below_size (Fit.bl HB.out)) : w.heap.size ≤ gb162)); clear HB; have HB := n0_; have BK162 := n1_; have GW162 := n2_; have GE162 := n3_; clear n0_ n1_ n2_ n3_; clear hb hbox hg) | ((with_reducible refine gate_callee (f := 64) rfl ?_); refine goesL_ (some 11) rfl rfl Tryd.func64 (by kernel_rfl) rfl #[.string a0, .int .u8 47] rfl (by (try simp only [List.map_toArray, List.map_cons, List.map_nil]); first | done | rfl | (simp only [List.length_drop, List.length_take]; rfl)) ?_; (with_reducible refine (strings_IndexByte.calls a0 47 t163 _ A2.out).mono ?_); rintro e w16 ⟨rfl, hb⟩; refine ⟨_, rfl, ?_⟩; have n0_ := Aside0.mk (blk_below (g := gb162) (Fit.pk BK162.out) hb); have n1_ := Aside0.mk (below_step (Fit.bl HB.out) hb); clear BK162; clear HB; have BK162 := n0_; have HB := n1_; clear n0_ n1_; (try clear hb); (try clear hb2); (try clear hk); (try clear hi)) | ((with_reducible refine gate_callee (f := 35) rfl ?_); refine goesL_ (some 19) rfl rfl Tryd.func35 (by kernel_rfl) rfl #[.string (a0.extract 0 (t163 : Int).toNat)] rfl (by (try simp only [List.map_toArray, List.map_cons, List.map_nil]); first | done | rfl | (simp only [List.length_drop, List.length_take]; rfl)) ?_; (with_reducible refine (patchbayref2_AddrRead.calls k (a0.extract 0 (t163 : Int).toNat) t164 t165 _ ?sideV A9.out).mono ?_); (case sideV => exact HV.out.on (Fit.bl HB.out)); rintro e w17 ⟨rfl, hb⟩; refine ⟨_, rfl, ?_⟩; have n0_ := Aside0.mk (blk_below (g := gb162) (Fit.pk BK162.out) hb); have n1_ := Aside0.mk (below_step (Fit.bl HB.out) hb); clear BK162; clear HB; have BK162 := n0_; have HB := n1_; clear n0_ n1_; (try clear hb); (try clear hb2); (try clear hk); (try clear hi)) | ((with_reducible refine gate_callee (f := 65) rfl ?_); refine goesL_ (some 27) rfl rfl Tryd.func65 (by kernel_rfl) rfl #[.string (a0.extract ((ji10) : Int).toNat a0.size)] rfl (by (try simp only [List.map_toArray, List.map_cons, List.map_nil]); first | done | (simp only [hji10]; rfl) | rfl | (simp only [List.length_drop, List.length_take]; rfl)) ?_; (with_reducible refine (patchbayref2_decimal.calls (a0.extract ((ji10) : Int).toNat a0.size) t166 t167 _ ?sideV A13.out).mono ?_); (case sideV => exact HV.out.on (Fit.bl HB.out)); rintro e w18 ⟨rfl, hb⟩; refine ⟨_, rfl, ?_⟩; have n0_ := Aside0.mk (blk_below (g := gb162) (Fit.pk BK162.out) hb); have n1_ := Aside0.mk (below_step (Fit.bl HB.out) hb); clear BK162; clear HB; have BK162 := n0_; have HB := n1_; clear n0_ n1_; (try clear hb); (try clear hb2); (try clear hk); (try clear hi)))
      (try simp only [Act.put, List.setIfInBounds_toArray, List.set_cons_zero, List.set_cons_succ])
      go_cut [30] (fun v30 wc => ∃ (kq : Nat) (x30_13 : Bool), v30 = .bool x30_13 ∧ Aside0 (patchbayref2_PrefixRead.j0 kq t164 t165 t166 x30_13 = some (r1, r2, r3)) ∧ Aside0 (kq ≤ k) ∧ Aside0 (wc.heap[gb162]? = some (.cells #[.int .u32 0, .int .i64 0] 24 (0, 0))) ∧ Aside0 (Below w.heap.size w wc))
      case first =>
       have H := HC14.out
       clear HC14
       by_cases c19 : t165 = 11
       ·rw [if_pos c19] at H
        have c19b0 : (t165 == 11) = true := beq_iff_eq.mpr c19
        have c19b1 : (t165 != 11) = false := bne_eq_false_iff_eq.mpr c19
        clear c19
        (first | rw [c19b0] | (simp only [i64_w, i32_w]; rw [c19b0]) | skip)
        have H' := Aside0.mk H
        clear H
        go_wp2
        go_meet
        case rel => exact ⟨_, (true), (by first | rfl | (simp; done) | (simp [*]; done)), H', ⟨by first | omega | exact Nat.le_refl _⟩, ⟨by (with_reducible repeat first | apply blk_drewN | apply blk_drew | apply blk_alloc); exact BK162.out⟩, ⟨Fit.bl HB.out⟩⟩
       ·rw [if_neg c19] at H
        have c19b0 : (t165 == 11) = false := beq_eq_false_iff_ne.mpr c19
        have c19b1 : (t165 != 11) = true := bne_iff_ne.mpr c19
        (first | rw [c19b0] | (simp only [i64_w, i32_w]; rw [c19b0]) | skip)
        have H' := Aside0.mk H
        clear H
        go_wp2
        go_meet
        case rel => exact ⟨_, (!t167), (by first | rfl | (simp; done) | (simp [*]; done)), H', ⟨by first | omega | exact Nat.le_refl _⟩, ⟨by (with_reducible repeat first | apply blk_drewN | apply blk_drew | apply blk_alloc); exact BK162.out⟩, ⟨Fit.bl HB.out⟩⟩
      case rest =>
       clear HC14
       try clear c1
       try clear p2
       try clear c3
       try clear c3b0
       try clear c6
       try clear p6
       try clear c7
       try clear c7b0
       try clear c7b1
       try clear c8
       try clear c8b0
       try clear c8b1
       try clear c11
       try clear c11b0
       try clear c11b1
       try clear c12
       try clear c12b0
       try clear c12b1
       try clear c19
       try clear c19b0
       try clear c19b1
       try clear hcz6_0
       try clear hcz6_1
       try clear hfz6_0
       obtain ⟨kq, x30_13, rfl, HA, HJ13, BK162, HB⟩ := hcut
       cases kq with
       | zero => exact absurd HA.out (by simp [patchbayref2_PrefixRead.j0])
       | succ kj13 =>
        have H := HA.out
        clear HA
        simp only [patchbayref2_PrefixRead.j0] at H
        by_cases c20 : x30_13 = true
        ·subst c20
         have H1 : (some (0, 0, 11)) = some (r1, r2, r3) := by rw [if_pos rfl] at H; exact H
         clear H
         have H := H1
         clear H1
         simp only [Option.some.injEq, Prod.mk.injEq] at H
         obtain ⟨rfl, rfl, rfl⟩ := H
         obtain ⟨hcz21_0, hcz21_1, hfz21_0⟩ := Fit.cells2 BK162.out
         go_wp2
         refine bodyPost_ret (results_ct rfl _ _ gb162 24 #[.int .u32 0, .int .i64 0] (0, 0) _ rfl (by (with_reducible repeat first | apply blk_drewN | apply blk_drew | apply blk_alloc); refine blk_put (cs := #[.int .u32 0, .int .i64 0]) ?_ 1 _ rfl; (with_reducible repeat first | apply blk_drewN | apply blk_drew | apply blk_alloc); refine blk_put (cs := #[.int .u32 0, .int .i64 0]) ?_ 0 _ rfl; (with_reducible repeat first | apply blk_drewN | apply blk_drew | apply blk_alloc); exact BK162.out) Tryd.underlying24 rfl (by kernel_rfl)) rfl ?_
         exact ⟨by first | rfl | (simp [errW_none, errW_some] <;> rfl) | (simp only [← hji10]; first | rfl | (simp [errW_none, errW_some] <;> rfl)) | (simp [*, errW_none, errW_some] <;> rfl), Fit.bl HB.out⟩
        ·replace c20 := Bool.eq_false_iff.mpr c20
         subst c20
         have H1 : (if t165 = 10 then (patchbayref2_PrefixRead.j1 kj13 t164 t166 true) else (patchbayref2_PrefixRead.j1 kj13 t164 t166 (decide (t166 > 32)))) = some (r1, r2, r3) := by rw [if_neg (show ¬ (false = true) by decide)] at H; exact H
         clear H
         have H := H1
         clear H1
         have HC22 := Aside0.mk H
         clear H
         go_upto_region 8 with (fail)
         go_cut [38] (fun v38 wc => ∃ (kq : Nat) (x38_21 : Bool), v38 = .bool x38_21 ∧ Aside0 (patchbayref2_PrefixRead.j1 kq t164 t166 x38_21 = some (r1, r2, r3)) ∧ Aside0 (kq ≤ kj13) ∧ Aside0 (wc.heap[gb162]? = some (.cells #[.int .u32 0, .int .i64 0] 24 (0, 0))) ∧ Aside0 (Below w.heap.size w wc))
         case first =>
          have H := HC22.out
          clear HC22
          by_cases c23 : t165 = 10
          ·rw [if_pos c23] at H
           have c23b0 : (t165 == 10) = true := beq_iff_eq.mpr c23
           have c23b1 : (t165 != 10) = false := bne_eq_false_iff_eq.mpr c23
           clear c23
           (first | rw [c23b0] | (simp only [i64_w, i32_w]; rw [c23b0]) | skip)
           have H' := Aside0.mk H
           clear H
           go_wp2
           go_meet
           case rel => exact ⟨_, (true), (by first | rfl | (simp; done) | (simp [*]; done)), H', ⟨by have := HJ13.out; first | omega | exact Nat.le_refl _⟩, ⟨by (with_reducible repeat first | apply blk_drewN | apply blk_drew | apply blk_alloc); exact BK162.out⟩, ⟨Fit.bl HB.out⟩⟩
          ·rw [if_neg c23] at H
           have c23b0 : (t165 == 10) = false := beq_eq_false_iff_ne.mpr c23
           have c23b1 : (t165 != 10) = true := bne_iff_ne.mpr c23
           (first | rw [c23b0] | (simp only [i64_w, i32_w]; rw [c23b0]) | skip)
           have H' := Aside0.mk H
           clear H
           go_wp2
           go_meet
           case rel => exact ⟨_, (decide (t166 > 32)), (by first | rfl | (simp; done) | (simp [*]; done)), H', ⟨by have := HJ13.out; first | omega | exact Nat.le_refl _⟩, ⟨by (with_reducible repeat first | apply blk_drewN | apply blk_drew | apply blk_alloc); exact BK162.out⟩, ⟨Fit.bl HB.out⟩⟩
         case rest =>
          clear HC22
          try clear c1
          try clear c2
          try clear p2
          try clear c3
          try clear c3b0
          try clear c6
          try clear p6
          try clear c7
          try clear c7b0
          try clear c7b1
          try clear c8
          try clear c8b0
          try clear c8b1
          try clear c11
          try clear c11b0
          try clear c11b1
          try clear c12
          try clear c12b0
          try clear c12b1
          try clear c19
          try clear c19b0
          try clear c19b1
          try clear c20
          try clear c23
          try clear c23b0
          try clear c23b1
          try clear hcz21_0
          try clear hcz21_1
          try clear hcz6_0
          try clear hcz6_1
          try clear hfz21_0
          try clear hfz6_0
          try clear p2
          try clear p6
          obtain ⟨kq, x38_21, rfl, HA, HJ21, BK162, HB⟩ := hcut
          cases kq with
          | zero => exact absurd HA.out (by simp [patchbayref2_PrefixRead.j1])
          | succ kj21 =>
           have H := HA.out
           clear HA
           simp only [patchbayref2_PrefixRead.j1] at H
           by_cases c24 : x38_21 = true
           ·subst c24
            have H1 : (some (0, 0, 10)) = some (r1, r2, r3) := by rw [if_pos rfl] at H; exact H
            clear H
            have H := H1
            clear H1
            simp only [Option.some.injEq, Prod.mk.injEq] at H
            obtain ⟨rfl, rfl, rfl⟩ := H
            obtain ⟨hcz25_0, hcz25_1, hfz25_0⟩ := Fit.cells2 BK162.out
            go_wp2
            refine bodyPost_ret (results_ct rfl _ _ gb162 24 #[.int .u32 0, .int .i64 0] (0, 0) _ rfl (by (with_reducible repeat first | apply blk_drewN | apply blk_drew | apply blk_alloc); refine blk_put (cs := #[.int .u32 0, .int .i64 0]) ?_ 1 _ rfl; (with_reducible repeat first | apply blk_drewN | apply blk_drew | apply blk_alloc); refine blk_put (cs := #[.int .u32 0, .int .i64 0]) ?_ 0 _ rfl; (with_reducible repeat first | apply blk_drewN | apply blk_drew | apply blk_alloc); exact BK162.out) Tryd.underlying24 rfl (by kernel_rfl)) rfl ?_
            exact ⟨by first | rfl | (simp [errW_none, errW_some] <;> rfl) | (simp only [← hji10]; first | rfl | (simp [errW_none, errW_some] <;> rfl)) | (simp [*, errW_none, errW_some] <;> rfl), Fit.bl HB.out⟩
           ·replace c24 := Bool.eq_false_iff.mpr c24
            subst c24
            have H1 : ((patchbayref2_PrefixFault.f kj21 t164 t166).bind fun t169 => (if t169 = 0 then (some (t164, t166, 0)) else (some (0, 0, 3)))) = some (r1, r2, r3) := by rw [if_neg (show ¬ (false = true) by decide)] at H; exact H
            clear H
            have H := H1
            clear H1
            replace H := Option.bind_eq_some_iff.mp H
            obtain ⟨t169, A260, H⟩ := H
            replace H : (if t169 = 0 then (some (t164, t166, 0)) else (some (0, 0, 3))) = some (r1, r2, r3) := H
            have A26 := Aside0.mk A260
            clear A260
            by_cases c27 : t169 = 0
            ·rw [if_pos c27] at H
             have c27b0 : (t169 == 0) = true := beq_iff_eq.mpr c27
             have c27b1 : (t169 != 0) = false := bne_eq_false_iff_eq.mpr c27
             clear c27
             simp only [Option.some.injEq, Prod.mk.injEq] at H
             obtain ⟨rfl, rfl, rfl⟩ := H
             go_wp2_with (first | ((with_reducible refine gate_dst (N := 9) rfl ?_); refine box_event ?hg (N := 9) ?hd (cs := #[.int .u32 0, .int .i64 0]) (t := 24) ?hr ?_; (case hd => rfl); (case hg => rfl); (case hr => first | (go_simp; done) | (go_simp; rfl)); intro gb168 hg w28 hbox hb; have n0_ := Aside0.mk (blk_below (g := gb162) (Fit.pk BK162.out) hb); have n1_ := Aside0.mk (below_step (Fit.bl HB.out) hb); have n2_ := Aside0.mk (hbox); have n3_ := Aside0.mk ((by rw [hg]; exact (below_size (Fit.bl HB.out)) : w.heap.size ≤ gb168)); have n4_ := Aside0.mk ((by rw [hg]; exact (below_size (Fit.bl HB.out)) : w.heap.size ≤ gb168)); have n5_ := Aside0.mk ((by rw [hg]; exact Nat.ne_of_lt (blk_lt (g := gb162) (Fit.pk BK162.out)) : gb162 ≠ gb168)); have n6_ := Aside0.mk ((by rw [hg]; exact Nat.ne_of_gt (blk_lt (g := gb162) (Fit.pk BK162.out)) : gb168 ≠ gb162)); clear BK162; clear HB; have BK162 := n0_; have HB := n1_; have BK168 := n2_; have GW168 := n3_; have GE168 := n4_; have NB162_168 := n5_; have NB168_162 := n6_; clear n0_ n1_ n2_ n3_ n4_ n5_ n6_; clear hb hbox hg; have hnb29 := NB168_162.out; have hnc29 := NB162_168.out; obtain ⟨hcz30_0, hcz30_1, hfz30_0⟩ := Fit.cells2 BK168.out) | ((with_reducible refine gate_callee (f := 9) rfl ?_); refine goesL_ (some 50) rfl rfl Tryd.func9 (by kernel_rfl) rfl #[.agg #[.int .u32 t164, .int .i64 t166]] rfl (by (try simp only [List.map_toArray, List.map_cons, List.map_nil]); first | done | rfl | (simp only [List.length_drop, List.length_take]; rfl)) ?_; (with_reducible refine (patchbayref2_PrefixFault.calls kj21 t164 t166 t169 _ A26.out).mono ?_); rintro e w31 ⟨rfl, hb⟩; refine ⟨_, rfl, ?_⟩; have n0_ := Aside0.mk (blk_below (g := gb162) (o := .cells #[.int .u32 0, .int .i64 0] 24 (0, 0)) (by (with_reducible repeat first | apply blk_drewN | apply blk_drew | apply blk_alloc); refine blk_far ?_ NB162_168.out _; (with_reducible repeat first | apply blk_drewN | apply blk_drew | apply blk_alloc); refine blk_far ?_ NB162_168.out _; (with_reducible repeat first | apply blk_drewN | apply blk_drew | apply blk_alloc); exact BK162.out) hb); have n1_ := Aside0.mk (blk_below (g := gb168) (o := .cells #[.int .u32 t164, .int .i64 t166] 24 (0, 0)) (by (with_reducible repeat first | apply blk_drewN | apply blk_drew | apply blk_alloc); refine blk_put (cs := #[.int .u32 t164, .int .i64 0]) ?_ 1 _ rfl; (with_reducible repeat first | apply blk_drewN | apply blk_drew | apply blk_alloc); refine blk_put (cs := #[.int .u32 0, .int .i64 0]) ?_ 0 _ rfl; (with_reducible repeat first | apply blk_drewN | apply blk_drew | apply blk_alloc); exact BK168.out) hb); have n2_ := Aside0.mk (below_step (Fit.bl HB.out) hb); clear BK162; clear BK168; clear HB; have BK162 := n0_; have BK168 := n1_; have HB := n2_; clear n0_ n1_ n2_; (try clear hb); (try clear hb2); (try clear hk); (try clear hi); obtain ⟨hcz32_0, hcz32_1, hfz32_0⟩ := Fit.cells2 BK168.out; obtain ⟨hcz33_0, hcz33_1, hfz33_0⟩ := Fit.cells2 BK162.out))
             refine bodyPost_ret (results_ct rfl _ _ gb162 24 #[.int .u32 t164, .int .i64 t166] (0, 0) _ rfl (by (with_reducible repeat first | apply blk_drewN | apply blk_drew | apply blk_alloc); refine blk_put (cs := #[.int .u32 t164, .int .i64 0]) ?_ 1 _ rfl; (with_reducible repeat first | apply blk_drewN | apply blk_drew | apply blk_alloc); refine blk_put (cs := #[.int .u32 0, .int .i64 0]) ?_ 0 _ rfl; (with_reducible repeat first | apply blk_drewN | apply blk_drew | apply blk_alloc); exact BK162.out) Tryd.underlying24 rfl (by kernel_rfl)) rfl ?_
             exact ⟨by first | rfl | (simp [errW_none, errW_some] <;> rfl) | (simp only [← hji10]; first | rfl | (simp [errW_none, errW_some] <;> rfl)) | (simp [*, errW_none, errW_some] <;> rfl), Fit.bl HB.out⟩
            ·rw [if_neg c27] at H
             have c27b0 : (t169 == 0) = false := beq_eq_false_iff_ne.mpr c27
             have c27b1 : (t169 != 0) = true := bne_iff_ne.mpr c27
             simp only [Option.some.injEq, Prod.mk.injEq] at H
             obtain ⟨rfl, rfl, rfl⟩ := H
             go_wp2_with (first | ((with_reducible refine gate_dst (N := 9) rfl ?_); refine box_event ?hg (N := 9) ?hd (cs := #[.int .u32 0, .int .i64 0]) (t := 24) ?hr ?_; (case hd => rfl); (case hg => rfl); (case hr => first | (go_simp; done) | (go_simp; rfl)); intro gb168 hg w34 hbox hb; have n0_ := Aside0.mk (blk_below (g := gb162) (Fit.pk BK162.out) hb); have n1_ := Aside0.mk (below_step (Fit.bl HB.out) hb); have n2_ := Aside0.mk (hbox); have n3_ := Aside0.mk ((by rw [hg]; exact (below_size (Fit.bl HB.out)) : w.heap.size ≤ gb168)); have n4_ := Aside0.mk ((by rw [hg]; exact (below_size (Fit.bl HB.out)) : w.heap.size ≤ gb168)); have n5_ := Aside0.mk ((by rw [hg]; exact Nat.ne_of_lt (blk_lt (g := gb162) (Fit.pk BK162.out)) : gb162 ≠ gb168)); have n6_ := Aside0.mk ((by rw [hg]; exact Nat.ne_of_gt (blk_lt (g := gb162) (Fit.pk BK162.out)) : gb168 ≠ gb162)); clear BK162; clear HB; have BK162 := n0_; have HB := n1_; have BK168 := n2_; have GW168 := n3_; have GE168 := n4_; have NB162_168 := n5_; have NB168_162 := n6_; clear n0_ n1_ n2_ n3_ n4_ n5_ n6_; clear hb hbox hg; have hnb35 := NB168_162.out; have hnc35 := NB162_168.out; obtain ⟨hcz36_0, hcz36_1, hfz36_0⟩ := Fit.cells2 BK168.out) | ((with_reducible refine gate_callee (f := 9) rfl ?_); refine goesL_ (some 50) rfl rfl Tryd.func9 (by kernel_rfl) rfl #[.agg #[.int .u32 t164, .int .i64 t166]] rfl (by (try simp only [List.map_toArray, List.map_cons, List.map_nil]); first | done | rfl | (simp only [List.length_drop, List.length_take]; rfl)) ?_; (with_reducible refine (patchbayref2_PrefixFault.calls kj21 t164 t166 t169 _ A26.out).mono ?_); rintro e w37 ⟨rfl, hb⟩; refine ⟨_, rfl, ?_⟩; have n0_ := Aside0.mk (blk_below (g := gb162) (o := .cells #[.int .u32 0, .int .i64 0] 24 (0, 0)) (by (with_reducible repeat first | apply blk_drewN | apply blk_drew | apply blk_alloc); refine blk_far ?_ NB162_168.out _; (with_reducible repeat first | apply blk_drewN | apply blk_drew | apply blk_alloc); refine blk_far ?_ NB162_168.out _; (with_reducible repeat first | apply blk_drewN | apply blk_drew | apply blk_alloc); exact BK162.out) hb); have n1_ := Aside0.mk (blk_below (g := gb168) (o := .cells #[.int .u32 t164, .int .i64 t166] 24 (0, 0)) (by (with_reducible repeat first | apply blk_drewN | apply blk_drew | apply blk_alloc); refine blk_put (cs := #[.int .u32 t164, .int .i64 0]) ?_ 1 _ rfl; (with_reducible repeat first | apply blk_drewN | apply blk_drew | apply blk_alloc); refine blk_put (cs := #[.int .u32 0, .int .i64 0]) ?_ 0 _ rfl; (with_reducible repeat first | apply blk_drewN | apply blk_drew | apply blk_alloc); exact BK168.out) hb); have n2_ := Aside0.mk (below_step (Fit.bl HB.out) hb); clear BK162; clear BK168; clear HB; have BK162 := n0_; have BK168 := n1_; have HB := n2_; clear n0_ n1_ n2_; (try clear hb); (try clear hb2); (try clear hk); (try clear hi); obtain ⟨hcz38_0, hcz38_1, hfz38_0⟩ := Fit.cells2 BK162.out))
             refine bodyPost_ret (results_ct rfl _ _ gb162 24 #[.int .u32 0, .int .i64 0] (0, 0) _ rfl (by (with_reducible repeat first | apply blk_drewN | apply blk_drew | apply blk_alloc); refine blk_put (cs := #[.int .u32 0, .int .i64 0]) ?_ 1 _ rfl; (with_reducible repeat first | apply blk_drewN | apply blk_drew | apply blk_alloc); refine blk_put (cs := #[.int .u32 0, .int .i64 0]) ?_ 0 _ rfl; (with_reducible repeat first | apply blk_drewN | apply blk_drew | apply blk_alloc); exact BK162.out) Tryd.underlying24 rfl (by kernel_rfl)) rfl ?_
             exact ⟨by first | rfl | (simp [errW_none, errW_some] <;> rfl) | (simp only [← hji10]; first | rfl | (simp [errW_none, errW_some] <;> rfl)) | (simp [*, errW_none, errW_some] <;> rfl), Fit.bl HB.out⟩
     ·rw [if_neg c12] at H
      exact absurd H (by simp)
    ·rw [if_neg c11] at H
     exact absurd H (by simp)
   ·rw [if_neg c8] at H
    exact absurd H (by simp)
  ·rw [if_neg c7] at H
   exact absurd H (by simp)


/-! ### strings_Join: function 68 -/
def strings_Join.f (l0 : List ByteArray) (a1 : ByteArray) : Option (ByteArray) := Vb.joinF l0 a1
theorem strings_Join.calls (A0 : Option Addr) (c0 : Nat) (l0 : List ByteArray) (a1 : ByteArray) (r : ByteArray) (w : World) (hr0 : Kd.C Kd.string w A0 l0.length l0) (hc0 : l0.length ≤ c0) (h : strings_Join.f l0 a1 = some r) :
  Calls Tryd.prog 68 #[.slice A0 l0.length c0, .string a1] w fun e w' => e = .returned (.string r) ∧ Below w.heap.size w w' := Vb.join_calls A0 c0 l0 a1 r w hr0 hc0 h


/-! ### addr_Print: function 38 -/
def addr_Print.l0 : Nat → Int → List ByteArray → Int → Option (ByteArray)
 | 0, _, _, _ => none
 | k + 1, x0, x3, x4 => if x4 ≥ 0 then (if 0 ≤ x4 then ((strconv_Itoa_67.f (wrap64 (Go.bits .and .u32 (shr .u32 x0 x4) 255))).bind fun t170 => (if x3.length < 8796093022208 then (addr_Print.l0 k x0 (x3 ++ [t170]) (wrap64 (x4 - 8))) else (none))) else (none)) else ((strings_Join.f x3 (⟨#[46]⟩ : ByteArray)).bind fun t174 => (some t174))
def addr_Print.f (k : Nat) (a0 : Int) : Option (ByteArray) := addr_Print.l0 k a0 ([] : List ByteArray) 24
theorem addr_Print.mono_l : ∀ k, (∀ y0 y1 y2, LeO (addr_Print.l0 k y0 y1 y2) (addr_Print.l0 (k + 1) y0 y1 y2))
 | 0 => fun _ _ _ r h => by simp [addr_Print.l0] at h
 | k + 1 => by
  have ih0 := addr_Print.mono_l k
  ·intro y0 y1 y2
   unfold addr_Print.l0
   repeat' first
   | (with_reducible exact ih0 _ _ _)
   | (with_reducible exact LeO.refl _)
   | (with_reducible exact LeO.none _)
   | (with_reducible refine LeO.ite ?_ ?_)
   | (with_reducible refine LeO.bind ?_ (fun _ => ?_))
   | exact ih0 _ _ _
   | exact LeO.none _
   | refine LeO.ite ?_ ?_
   | refine LeO.bind ?_ (fun _ => ?_)
theorem addr_Print.mono : ∀ a0 k, LeO (addr_Print.f k a0) (addr_Print.f (k + 1) a0) := by
 intro a0 k
 have ih0 := addr_Print.mono_l k
 unfold addr_Print.f
 repeat' first
   | (with_reducible exact ih0 _ _ _)
   | (with_reducible exact LeO.refl _)
   | (with_reducible exact LeO.none _)
   | (with_reducible refine LeO.ite ?_ ?_)
   | (with_reducible refine LeO.bind ?_ (fun _ => ?_))
   | exact ih0 _ _ _
   | exact LeO.none _
   | refine LeO.ite ?_ ?_
   | refine LeO.bind ?_ (fun _ => ?_)
set_option maxHeartbeats 8000000 in
set_option maxRecDepth 100000 in
theorem addr_Print.calls (k : Nat) (a0 : Int) (r : ByteArray) (w : World) (HVw : Vb.Ok w) (h : addr_Print.f k a0 = some r) :
  Calls Tryd.prog 38 #[.int .u32 a0] w fun e w' => e = .returned (.string r) ∧ Below w.heap.size w w' := by
 have HV := Aside0.mk HVw
 clear HVw
 have HB := Aside0.mk (Below.refl w.heap.size w)
 have H : (addr_Print.l0 k a0 ([] : List ByteArray) 24) = some r := h
 clear h
 have H' := Aside0.mk H
 clear H
 go_enter Tryd.func38, Tryd.ntmps38
 go_wp2
 go_loopg [3, 4] k (fun kq v3 v4 w' => ∃ (x3_1 : List ByteArray) (x4_1 : Int), v4 = .int .i64 x4_1 ∧ Aside0 (addr_Print.l0 kq a0 x3_1 x4_1 = some r) ∧ Aside0 (kq ≤ k) ∧ Aside0 (Kd.R Kd.string 9 w' w.heap.size (fun _ => True) v3 x3_1) ∧ Aside0 (Below w.heap.size w w'))
 case atStart => exact ⟨(([] : List ByteArray)), (24), (by first | rfl | (simp; done) | (simp [*]; done)), H', ⟨Nat.le_refl _⟩, ⟨by first | exact Kd.R_nil _ _ _ _ _ | exact Kd.N_nil _ _ _ _ _ | exact Kd.V_nil _ _ _ _ _ | exact Kd.Q_nil _ _ _ _ _ | exact Kd.S_nil _ _ _ _ _⟩, ⟨Fit.bl HB.out⟩⟩
 case round =>
  clear H'
  obtain ⟨x3_1, x4_1, rfl, HA, HK1, HO_3, HB⟩ := hrel
  cases gk with
  | zero => exact absurd HA.out (by simp [addr_Print.l0])
  | succ k1 =>
   have H := HA.out
   clear HA
   simp only [addr_Print.l0] at H
   by_cases c2 : x4_1 ≥ 0
   ·rw [if_pos c2] at H
    have c2b0 : decide (0 ≤ x4_1) = true := decide_eq_true c2
    clear c2
    by_cases c3 : 0 ≤ x4_1
    ·rw [if_pos c3] at H
     have c3b0 := eq_true c3
     have c3b1 : decide (0 ≤ x4_1) = true := decide_eq_true c3
     clear c3
     obtain ⟨ji4, hji4⟩ : ∃ j_ : Int, (shr .u32 a0 x4_1) = j_ := ⟨_, rfl⟩
     replace H : ((strconv_Itoa_67.f (wrap64 (Go.bits .and .u32 (ji4) 255))).bind fun t170 => (if x3_1.length < 8796093022208 then (addr_Print.l0 k1 a0 (x3_1 ++ [t170]) (wrap64 (x4_1 - 8))) else (none))) = some r := by first | (rw [hji4] at H; exact H) | (simp only [hji4] at H ⊢; exact H)
     have hji4_ : (a0 / 2 ^ min x4_1.toNat 32) = ji4 := hji4
     have hji4z : x4_1 ≤ 32 → (a0 / 2 ^ x4_1.toNat) = ji4 := shr_small hji4
     replace H := Option.bind_eq_some_iff.mp H
     obtain ⟨t170, A50, H⟩ := H
     replace H : (if x3_1.length < 8796093022208 then (addr_Print.l0 k1 a0 (x3_1 ++ [t170]) (wrap64 (x4_1 - 8))) else (none)) = some r := H
     have A5 := Aside0.mk A50
     clear A50
     by_cases c6 : x3_1.length < 8796093022208
     ·rw [if_pos c6] at H
      have LMc6 := Aside0.mk c6
      clear c6
      obtain ⟨y171, hy171⟩ : ∃ y_ : List ByteArray, y_ = (x3_1 ++ [t170]) := ⟨_, rfl⟩
      replace H : (addr_Print.l0 k1 a0 y171 (wrap64 (x4_1 - 8))) = some r := by first | (rw [hy171]; with_reducible exact H) | (have H2_ := (Option.bind_some _ _).symm.trans H; rw [hy171]; with_reducible exact H2_) | (have H2_ := (Option.bind_some _ _).symm.trans H; with_reducible exact H2_) | with_reducible exact H | (rw [hy171]; exact H) | exact H
      have Ny171 := Aside0.mk hy171
      clear hy171
      have H' := Aside0.mk H
      clear H
      go_wp2_with (first | ((with_reducible refine gate_callee (f := 67) rfl ?_); refine goesL_ (some 15) rfl rfl Tryd.func67 (by kernel_rfl) rfl #[.int .i64 (wrap64 (Go.bits .and .u32 (ji4) 255))] rfl (by (try simp only [List.map_toArray, List.map_cons, List.map_nil]); first | done | (simp only [hji4]; rfl) | rfl | (simp only [List.length_drop, List.length_take]; rfl)) ?_; (with_reducible refine (strconv_Itoa_67.calls (wrap64 (Go.bits .and .u32 (ji4) 255)) t170 _ ?sideV A5.out).mono ?_); (case sideV => exact HV.out.on (Fit.bl HB.out)); rintro e w7 ⟨rfl, hb⟩; refine ⟨_, rfl, ?_⟩; have n0_ := Aside0.mk (Kd.R_below (by (with_reducible repeat (first | apply Kd.R_alloc | apply Kd.R_drewN | apply Kd.R_drew)); exact HO_3.out) hb); have n1_ := Aside0.mk (below_step (Fit.bl HB.out) hb); clear HO_3; clear HB; have HO_3 := n0_; have HB := n1_; clear n0_ n1_; (try clear hb); (try clear hb2); (try clear hk); (try clear hi)) | ((with_reducible refine gate_builtin (b := .append) (xs := #[.tmp 9, .tmp 16]) rfl ?_); at_builtin; refine Kd.R_append Kd.string (w0 := w) w.heap.size rfl (.tmp 9) (.tmp 16) 78 9 (.string ⟨#[]⟩) 16 rfl Tryd.underlying78 info9 rfl (by decide) (by omega) u3 x3_1 t170 [.string t170] (fun _ => True) (fun _ => False) rfl rfl ?aP (fun _ hk => hk.elim) ?aF ?aO ?aB ?aS ?aL ?_; (case aP => exact rfl); (case aB => exact (Fit.bl HB.out)); (case aF => exact (fun _ _ => trivial)); (case aO => exact (by (with_reducible repeat (first | apply Kd.R_alloc | apply Kd.R_drewN | apply Kd.R_drew)); exact HO_3.out)); (case aS => exact (below_size (Fit.bl HB.out))); (case aL => have := LMc6.out; omega); intro v172 w8 ho hb hg hat; rw [← Ny171.out] at ho; have n0_ := Aside0.mk (hb); have n1_ := Aside0.mk (ho); clear HB; clear HO_3; have HB := n0_; have HO173 := n1_; clear n0_ n1_; clear ho hb hg hat))
      go_roundg k1
      case measure => have := HK1.out; omega
      case rel => exact ⟨(y171), (wrap64 (x4_1 - 8)), (by first | rfl | (simp; done) | (simp [*]; done)), H', ⟨by have := HK1.out; omega⟩, ⟨by (with_reducible repeat (first | apply Kd.R_alloc | apply Kd.R_drewN | apply Kd.R_drew)); exact HO173.out⟩, ⟨Fit.bl HB.out⟩⟩
     ·rw [if_neg c6] at H
      exact absurd H (by simp)
    ·rw [if_neg c3] at H
     exact absurd H (by simp)
   ·rw [if_neg c2] at H
    have c2b0 : decide (0 ≤ x4_1) = false := decide_eq_false c2
    clear c2
    replace H := Option.bind_eq_some_iff.mp H
    obtain ⟨t174, A90, H⟩ := H
    replace H : (some t174) = some r := H
    have A9 := Aside0.mk A90
    clear A90
    obtain rfl := Option.some.inj H
    obtain ⟨Ao10, co10, eo10⟩ := Kd.R_slice HO_3.out
    subst eo10
    go_wp2_with (first | ((with_reducible refine gate_callee (f := 68) rfl ?_); refine goesL_ (some 19) rfl rfl Tryd.func68 (by kernel_rfl) rfl #[.slice Ao10 x3_1.length co10, .string (⟨#[46]⟩ : ByteArray)] rfl (by (try simp only [List.map_toArray, List.map_cons, List.map_nil]); first | done | rfl | (simp only [List.length_drop, List.length_take]; rfl)) ?_; (with_reducible refine (strings_Join.calls _ _ x3_1 (⟨#[46]⟩ : ByteArray) t174 _ ?side1 ?side2 A9.out).mono ?_); (case side1 => repeat (first | exact (Kd.R_reads' HO_3.out).2.2 | (with_reducible refine Kd.C_alloc ?_ _) | (with_reducible refine Kd.C_drewN ?_ _) | (with_reducible refine Kd.C_drew ?_))); (case side2 => exact (Kd.R_reads' HO_3.out).2.1); rintro e w11 ⟨rfl, hb⟩; refine ⟨_, rfl, ?_⟩; have n0_ := Aside0.mk (Kd.R_below (by (with_reducible repeat (first | apply Kd.R_alloc | apply Kd.R_drewN | apply Kd.R_drew)); exact HO_3.out) hb); have n1_ := Aside0.mk (below_step (Fit.bl HB.out) hb); clear HO_3; clear HB; have HO_3 := n0_; have HB := n1_; clear n0_ n1_; (try clear hb); (try clear hb2); (try clear hk); (try clear hi)))
    go_ret
    exact ⟨by first | rfl | (simp [errW_none, errW_some] <;> rfl) | (simp [*, errW_none, errW_some] <;> rfl), Fit.bl HB.out⟩


end Go.Proofs.YtbdcaadehfbnbaaDoor.GAddrWrites
