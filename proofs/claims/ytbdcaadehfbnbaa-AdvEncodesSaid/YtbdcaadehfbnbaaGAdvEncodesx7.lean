-- a text that a program of this session wrote
import Derived.Test.YtbdcaadehfbnbaaGAdvEncodesx0
import Derived.Test.YtbdcaadehfbnbaaQSo
import Derived.Test.YtbdcaadehfbnbaaQLx
import Derived.Test.YtbdcaadehfbnbaaQNw
import Derived.StillTailTactics
import Derived.Test.YtbdcaadehfbnbaaGAdvEncodesx1
import Derived.Test.YtbdcaadehfbnbaaGAdvEncodesx2
import Derived.Test.YtbdcaadehfbnbaaGAdvEncodesx3
import Derived.Test.YtbdcaadehfbnbaaGAdvEncodesx4
import Derived.Test.YtbdcaadehfbnbaaGAdvEncodesx5
import Derived.Test.YtbdcaadehfbnbaaGAdvEncodesx6
namespace Go.Proofs.Ytbdcaadehfbnbaa.GAdvEncodes
open Go.RowKit Go.Proofs.YtbdcaadehfbnbaaW.PrintWords Go.Proofs.YtbdcaadehfbnbaaW.PrintLast Go.Proofs.YtbdcaadehfbnbaaW.PrintMore
attribute [local go_sem] max2_int min2_int max_two min_two max_three min_three max_four min_four   -- for this text's walks alone
attribute [local go_sem high] Go.Proofs.Ytbdcaadehfbnbaa.Fit.run_string_add_fit
set_option linter.unusedVariables false
set_option linter.unusedSimpArgs false

/-! ### patchbaylaw2_AdvEncodes: function 3 -/
mutual
def patchbaylaw2_AdvEncodes.j0 : Nat → Int → Bool → Int → Int → Int → List (S28) → Int → Int → Int → List (S28) → Option (Bool)
 | 0, _, _, _, _, _, _, _, _, _, _ => none
 | k + 1, x5, x52, x205000, x205001, x205002, x205003, x206000, x206001, x206002, x206003 => if x52 = true then (some false) else (if x5 = 0 then ((patchbayref2_AdvFault.f k x206000 x206001 x206002 x206003).bind fun t212 => (patchbaylaw2_AdvEncodes.j1 k t212 x205000 x205001 x205002 x205003 x206000 x206001 x206002 x206003)) else (patchbaylaw2_AdvEncodes.j1 k x5 x205000 x205001 x205002 x205003 x206000 x206001 x206002 x206003))
def patchbaylaw2_AdvEncodes.j1 : Nat → Int → Int → Int → Int → List (S28) → Int → Int → Int → List (S28) → Option (Bool)
 | 0, _, _, _, _, _, _, _, _, _ => none
 | k + 1, x5, x205000, x205001, x205002, x205003, x206000, x206001, x206002, x206003 => if x5 = 0 then (patchbaylaw2_AdvEncodes.j2 k x5 (x205000 != x206000) x205000 x205001 x205002 x205003 x206000 x206001 x206002 x206003) else (patchbaylaw2_AdvEncodes.j2 k x5 false x205000 x205001 x205002 x205003 x206000 x206001 x206002 x206003)
def patchbaylaw2_AdvEncodes.j2 : Nat → Int → Bool → Int → Int → Int → List (S28) → Int → Int → Int → List (S28) → Option (Bool)
 | 0, _, _, _, _, _, _, _, _, _, _ => none
 | k + 1, x5, x65, x205000, x205001, x205002, x205003, x206000, x206001, x206002, x206003 => if x65 = true then (patchbaylaw2_AdvEncodes.j3 k 1 x205000 x205001 x205002 x205003 x206000 x206001 x206002 x206003) else (patchbaylaw2_AdvEncodes.j3 k x5 x205000 x205001 x205002 x205003 x206000 x206001 x206002 x206003)
def patchbaylaw2_AdvEncodes.j3 : Nat → Int → Int → Int → Int → List (S28) → Int → Int → Int → List (S28) → Option (Bool)
 | 0, _, _, _, _, _, _, _, _, _ => none
 | k + 1, x5, x205000, x205001, x205002, x205003, x206000, x206001, x206002, x206003 => (adv_Newer.f k x205000 x205001 x205002 x205003 x206000 x206001 x206002 x206003).bind fun bt213 => (if x5 = 0 then (if bt213.2 = 0 then ((patchbayref2_AdvNewer.f k x205000 x205001 x205002 x205003 x206000 x206001 x206002 x206003).bind fun t215 => (some (bt213.1 == t215))) else (some false)) else (if bt213.2 = x5 then (some (bt213.1 == 0)) else (some false)))
end
def patchbaylaw2_AdvEncodes.f (k : Nat) (a0_0 : Int) (a0_1 : Int) (a0_2 : Int) (l0_3 : List (S28)) (a1_0 : Int) (a1_1 : Int) (a1_2 : Int) (l1_3 : List (S28)) : Option (Bool) := (patchbaylaw2_advLives.f k).bind fun t206 => (if t206 = true then ((patchbayref2_AdvFault.f k a0_0 a0_1 a0_2 l0_3).bind fun t207 => ((adv_Encode.f k a0_0 a0_1 a0_2 l0_3).bind fun bt208 => ((adv_Check.f k a0_0 a0_1 a0_2 l0_3).bind fun t210 => (if t210 = t207 then (if bt208.2 = t207 then (if t207 = 0 then ((patchbayref2_AdvText.f k a0_0 a0_1 a0_2 l0_3).bind fun t211 => (patchbaylaw2_AdvEncodes.j0 k t207 (bt208.1.toList != t211.toList) a0_0 a0_1 a0_2 l0_3 a1_0 a1_1 a1_2 l1_3)) else (if bt208.1.toList = ([] : List UInt8) then (patchbaylaw2_AdvEncodes.j0 k t207 false a0_0 a0_1 a0_2 l0_3 a1_0 a1_1 a1_2 l1_3) else (patchbaylaw2_AdvEncodes.j0 k t207 true a0_0 a0_1 a0_2 l0_3 a1_0 a1_1 a1_2 l1_3))) else (patchbaylaw2_AdvEncodes.j0 k t207 true a0_0 a0_1 a0_2 l0_3 a1_0 a1_1 a1_2 l1_3)) else (patchbaylaw2_AdvEncodes.j0 k t207 true a0_0 a0_1 a0_2 l0_3 a1_0 a1_1 a1_2 l1_3))))) else (some false))
theorem patchbaylaw2_AdvEncodes.mono_l : ∀ k, (∀ y0 y1 y2 y3 y4 y5 y6 y7 y8 y9, LeO (patchbaylaw2_AdvEncodes.j0 k y0 y1 y2 y3 y4 y5 y6 y7 y8 y9) (patchbaylaw2_AdvEncodes.j0 (k + 1) y0 y1 y2 y3 y4 y5 y6 y7 y8 y9)) ∧ (∀ y0 y1 y2 y3 y4 y5 y6 y7 y8, LeO (patchbaylaw2_AdvEncodes.j1 k y0 y1 y2 y3 y4 y5 y6 y7 y8) (patchbaylaw2_AdvEncodes.j1 (k + 1) y0 y1 y2 y3 y4 y5 y6 y7 y8)) ∧ (∀ y0 y1 y2 y3 y4 y5 y6 y7 y8 y9, LeO (patchbaylaw2_AdvEncodes.j2 k y0 y1 y2 y3 y4 y5 y6 y7 y8 y9) (patchbaylaw2_AdvEncodes.j2 (k + 1) y0 y1 y2 y3 y4 y5 y6 y7 y8 y9)) ∧ (∀ y0 y1 y2 y3 y4 y5 y6 y7 y8, LeO (patchbaylaw2_AdvEncodes.j3 k y0 y1 y2 y3 y4 y5 y6 y7 y8) (patchbaylaw2_AdvEncodes.j3 (k + 1) y0 y1 y2 y3 y4 y5 y6 y7 y8))
 | 0 => ⟨fun _ _ _ _ _ _ _ _ _ _ r h => by simp [patchbaylaw2_AdvEncodes.j0] at h, fun _ _ _ _ _ _ _ _ _ r h => by simp [patchbaylaw2_AdvEncodes.j1] at h, fun _ _ _ _ _ _ _ _ _ _ r h => by simp [patchbaylaw2_AdvEncodes.j2] at h, fun _ _ _ _ _ _ _ _ _ r h => by simp [patchbaylaw2_AdvEncodes.j3] at h⟩
 | k + 1 => by
  obtain ⟨ih0, ih1, ih2, ih3⟩ := patchbaylaw2_AdvEncodes.mono_l k
  refine ⟨?_, ?_, ?_, ?_⟩
  ·intro y0 y1 y2 y3 y4 y5 y6 y7 y8 y9
   unfold patchbaylaw2_AdvEncodes.j0
   repeat' first
   | (with_reducible exact ih0 _ _ _ _ _ _ _ _ _ _)
   | (with_reducible exact ih1 _ _ _ _ _ _ _ _ _)
   | (with_reducible exact ih2 _ _ _ _ _ _ _ _ _ _)
   | (with_reducible exact ih3 _ _ _ _ _ _ _ _ _)
   | (with_reducible exact adv_Check.mono _ _ _ _ _)
   | (with_reducible exact adv_Encode.mono _ _ _ _ _)
   | (with_reducible exact adv_Newer.mono _ _ _ _ _ _ _ _ _)
   | (with_reducible exact patchbaylaw2_advLives.mono _)
   | (with_reducible exact patchbayref2_AdvFault.mono _ _ _ _ _)
   | (with_reducible exact patchbayref2_AdvNewer.mono _ _ _ _ _ _ _ _ _)
   | (with_reducible exact patchbayref2_AdvText.mono _ _ _ _ _)
   | (with_reducible exact LeO.refl _)
   | (with_reducible exact LeO.none _)
   | (with_reducible refine LeO.ite ?_ ?_)
   | (with_reducible refine LeO.bind ?_ (fun _ => ?_))
   | exact ih0 _ _ _ _ _ _ _ _ _ _
   | exact ih1 _ _ _ _ _ _ _ _ _
   | exact ih2 _ _ _ _ _ _ _ _ _ _
   | exact ih3 _ _ _ _ _ _ _ _ _
   | exact adv_Check.mono _ _ _ _ _
   | exact adv_Encode.mono _ _ _ _ _
   | exact adv_Newer.mono _ _ _ _ _ _ _ _ _
   | exact patchbaylaw2_advLives.mono _
   | exact patchbayref2_AdvFault.mono _ _ _ _ _
   | exact patchbayref2_AdvNewer.mono _ _ _ _ _ _ _ _ _
   | exact patchbayref2_AdvText.mono _ _ _ _ _
   | exact LeO.none _
   | refine LeO.ite ?_ ?_
   | refine LeO.bind ?_ (fun _ => ?_)
  ·intro y0 y1 y2 y3 y4 y5 y6 y7 y8
   unfold patchbaylaw2_AdvEncodes.j1
   repeat' first
   | (with_reducible exact ih0 _ _ _ _ _ _ _ _ _ _)
   | (with_reducible exact ih1 _ _ _ _ _ _ _ _ _)
   | (with_reducible exact ih2 _ _ _ _ _ _ _ _ _ _)
   | (with_reducible exact ih3 _ _ _ _ _ _ _ _ _)
   | (with_reducible exact adv_Check.mono _ _ _ _ _)
   | (with_reducible exact adv_Encode.mono _ _ _ _ _)
   | (with_reducible exact adv_Newer.mono _ _ _ _ _ _ _ _ _)
   | (with_reducible exact patchbaylaw2_advLives.mono _)
   | (with_reducible exact patchbayref2_AdvFault.mono _ _ _ _ _)
   | (with_reducible exact patchbayref2_AdvNewer.mono _ _ _ _ _ _ _ _ _)
   | (with_reducible exact patchbayref2_AdvText.mono _ _ _ _ _)
   | (with_reducible exact LeO.refl _)
   | (with_reducible exact LeO.none _)
   | (with_reducible refine LeO.ite ?_ ?_)
   | (with_reducible refine LeO.bind ?_ (fun _ => ?_))
   | exact ih0 _ _ _ _ _ _ _ _ _ _
   | exact ih1 _ _ _ _ _ _ _ _ _
   | exact ih2 _ _ _ _ _ _ _ _ _ _
   | exact ih3 _ _ _ _ _ _ _ _ _
   | exact adv_Check.mono _ _ _ _ _
   | exact adv_Encode.mono _ _ _ _ _
   | exact adv_Newer.mono _ _ _ _ _ _ _ _ _
   | exact patchbaylaw2_advLives.mono _
   | exact patchbayref2_AdvFault.mono _ _ _ _ _
   | exact patchbayref2_AdvNewer.mono _ _ _ _ _ _ _ _ _
   | exact patchbayref2_AdvText.mono _ _ _ _ _
   | exact LeO.none _
   | refine LeO.ite ?_ ?_
   | refine LeO.bind ?_ (fun _ => ?_)
  ·intro y0 y1 y2 y3 y4 y5 y6 y7 y8 y9
   unfold patchbaylaw2_AdvEncodes.j2
   repeat' first
   | (with_reducible exact ih0 _ _ _ _ _ _ _ _ _ _)
   | (with_reducible exact ih1 _ _ _ _ _ _ _ _ _)
   | (with_reducible exact ih2 _ _ _ _ _ _ _ _ _ _)
   | (with_reducible exact ih3 _ _ _ _ _ _ _ _ _)
   | (with_reducible exact adv_Check.mono _ _ _ _ _)
   | (with_reducible exact adv_Encode.mono _ _ _ _ _)
   | (with_reducible exact adv_Newer.mono _ _ _ _ _ _ _ _ _)
   | (with_reducible exact patchbaylaw2_advLives.mono _)
   | (with_reducible exact patchbayref2_AdvFault.mono _ _ _ _ _)
   | (with_reducible exact patchbayref2_AdvNewer.mono _ _ _ _ _ _ _ _ _)
   | (with_reducible exact patchbayref2_AdvText.mono _ _ _ _ _)
   | (with_reducible exact LeO.refl _)
   | (with_reducible exact LeO.none _)
   | (with_reducible refine LeO.ite ?_ ?_)
   | (with_reducible refine LeO.bind ?_ (fun _ => ?_))
   | exact ih0 _ _ _ _ _ _ _ _ _ _
   | exact ih1 _ _ _ _ _ _ _ _ _
   | exact ih2 _ _ _ _ _ _ _ _ _ _
   | exact ih3 _ _ _ _ _ _ _ _ _
   | exact adv_Check.mono _ _ _ _ _
   | exact adv_Encode.mono _ _ _ _ _
   | exact adv_Newer.mono _ _ _ _ _ _ _ _ _
   | exact patchbaylaw2_advLives.mono _
   | exact patchbayref2_AdvFault.mono _ _ _ _ _
   | exact patchbayref2_AdvNewer.mono _ _ _ _ _ _ _ _ _
   | exact patchbayref2_AdvText.mono _ _ _ _ _
   | exact LeO.none _
   | refine LeO.ite ?_ ?_
   | refine LeO.bind ?_ (fun _ => ?_)
  ·intro y0 y1 y2 y3 y4 y5 y6 y7 y8
   unfold patchbaylaw2_AdvEncodes.j3
   repeat' first
   | (with_reducible exact ih0 _ _ _ _ _ _ _ _ _ _)
   | (with_reducible exact ih1 _ _ _ _ _ _ _ _ _)
   | (with_reducible exact ih2 _ _ _ _ _ _ _ _ _ _)
   | (with_reducible exact ih3 _ _ _ _ _ _ _ _ _)
   | (with_reducible exact adv_Check.mono _ _ _ _ _)
   | (with_reducible exact adv_Encode.mono _ _ _ _ _)
   | (with_reducible exact adv_Newer.mono _ _ _ _ _ _ _ _ _)
   | (with_reducible exact patchbaylaw2_advLives.mono _)
   | (with_reducible exact patchbayref2_AdvFault.mono _ _ _ _ _)
   | (with_reducible exact patchbayref2_AdvNewer.mono _ _ _ _ _ _ _ _ _)
   | (with_reducible exact patchbayref2_AdvText.mono _ _ _ _ _)
   | (with_reducible exact LeO.refl _)
   | (with_reducible exact LeO.none _)
   | (with_reducible refine LeO.ite ?_ ?_)
   | (with_reducible refine LeO.bind ?_ (fun _ => ?_))
   | exact ih0 _ _ _ _ _ _ _ _ _ _
   | exact ih1 _ _ _ _ _ _ _ _ _
   | exact ih2 _ _ _ _ _ _ _ _ _ _
   | exact ih3 _ _ _ _ _ _ _ _ _
   | exact adv_Check.mono _ _ _ _ _
   | exact adv_Encode.mono _ _ _ _ _
   | exact adv_Newer.mono _ _ _ _ _ _ _ _ _
   | exact patchbaylaw2_advLives.mono _
   | exact patchbayref2_AdvFault.mono _ _ _ _ _
   | exact patchbayref2_AdvNewer.mono _ _ _ _ _ _ _ _ _
   | exact patchbayref2_AdvText.mono _ _ _ _ _
   | exact LeO.none _
   | refine LeO.ite ?_ ?_
   | refine LeO.bind ?_ (fun _ => ?_)
theorem patchbaylaw2_AdvEncodes.mono : ∀ a0 a1 a2 a3 a4 a5 a6 a7 k, LeO (patchbaylaw2_AdvEncodes.f k a0 a1 a2 a3 a4 a5 a6 a7) (patchbaylaw2_AdvEncodes.f (k + 1) a0 a1 a2 a3 a4 a5 a6 a7) := by
 intro a0 a1 a2 a3 a4 a5 a6 a7 k
 obtain ⟨ih0, ih1, ih2, ih3⟩ := patchbaylaw2_AdvEncodes.mono_l k
 unfold patchbaylaw2_AdvEncodes.f
 repeat' first
   | (with_reducible exact ih0 _ _ _ _ _ _ _ _ _ _)
   | (with_reducible exact ih1 _ _ _ _ _ _ _ _ _)
   | (with_reducible exact ih2 _ _ _ _ _ _ _ _ _ _)
   | (with_reducible exact ih3 _ _ _ _ _ _ _ _ _)
   | (with_reducible exact adv_Check.mono _ _ _ _ _)
   | (with_reducible exact adv_Encode.mono _ _ _ _ _)
   | (with_reducible exact adv_Newer.mono _ _ _ _ _ _ _ _ _)
   | (with_reducible exact patchbaylaw2_advLives.mono _)
   | (with_reducible exact patchbayref2_AdvFault.mono _ _ _ _ _)
   | (with_reducible exact patchbayref2_AdvNewer.mono _ _ _ _ _ _ _ _ _)
   | (with_reducible exact patchbayref2_AdvText.mono _ _ _ _ _)
   | (with_reducible exact LeO.refl _)
   | (with_reducible exact LeO.none _)
   | (with_reducible refine LeO.ite ?_ ?_)
   | (with_reducible refine LeO.bind ?_ (fun _ => ?_))
   | exact ih0 _ _ _ _ _ _ _ _ _ _
   | exact ih1 _ _ _ _ _ _ _ _ _
   | exact ih2 _ _ _ _ _ _ _ _ _ _
   | exact ih3 _ _ _ _ _ _ _ _ _
   | exact adv_Check.mono _ _ _ _ _
   | exact adv_Encode.mono _ _ _ _ _
   | exact adv_Newer.mono _ _ _ _ _ _ _ _ _
   | exact patchbaylaw2_advLives.mono _
   | exact patchbayref2_AdvFault.mono _ _ _ _ _
   | exact patchbayref2_AdvNewer.mono _ _ _ _ _ _ _ _ _
   | exact patchbayref2_AdvText.mono _ _ _ _ _
   | exact LeO.none _
   | refine LeO.ite ?_ ?_
   | refine LeO.bind ?_ (fun _ => ?_)
set_option maxHeartbeats 8000000 in
set_option maxRecDepth 100000 in
theorem patchbaylaw2_AdvEncodes.calls (k : Nat) (a0_0 : Int) (a0_1 : Int) (a0_2 : Int) (A0_3 : Option Addr) (c0_3 : Nat) (L0 : List (S28)) (a1_0 : Int) (a1_1 : Int) (a1_2 : Int) (A1_3 : Option Addr) (c1_3 : Nat) (L1 : List (S28)) (r : Bool) (w : World) (hL0 : Kd.C k28 w A0_3 L0.length L0) (hcL0 : L0.length ≤ c0_3) (hL1 : Kd.C k28 w A1_3 L1.length L1) (hcL1 : L1.length ≤ c1_3) (h : patchbaylaw2_AdvEncodes.f k a0_0 a0_1 a0_2 (L0.take 17) a1_0 a1_1 a1_2 (L1.take 17) = some r) :
  Calls Try.prog 3 #[.agg #[.int .i64 a0_0, .int .i64 a0_1, .int .i64 a0_2, .slice A0_3 L0.length c0_3], .agg #[.int .i64 a1_0, .int .i64 a1_1, .int .i64 a1_2, .slice A1_3 L1.length c1_3]] w fun e w' => e = .returned (.bool r) ∧ Below w.heap.size w w' := by
 obtain ⟨l0_3, hl0⟩ : ∃ l : List S28, l = L0.take 17 := ⟨_, rfl⟩
 obtain ⟨l1_3, hl1⟩ : ∃ l : List S28, l = L1.take 17 := ⟨_, rfl⟩
 have hr0_3 : Kd.C k28 w A0_3 l0_3.length l0_3 := by rw [hl0]; exact Lx.C_take17 hL0
 have hr1_3 : Kd.C k28 w A1_3 l1_3.length l1_3 := by rw [hl1]; exact Lx.C_take17 hL1
 have hc0_3 : l0_3.length ≤ c0_3 := by rw [hl0, List.length_take]; omega
 have hc1_3 : l1_3.length ≤ c1_3 := by rw [hl1, List.length_take]; omega
 rw [← hl0, ← hl1] at h
 have HL0 := Aside0.mk hl0
 have HL1 := Aside0.mk hl1
 have HC0 := Aside0.mk hL0
 have HC1 := Aside0.mk hL1
 have HM0 := Aside0.mk hcL0
 have HM1 := Aside0.mk hcL1
 clear hl0 hl1 hL0 hL1 hcL0 hcL1
 have hu24 := Try.underlying24
 have HR0_3 := Aside0.mk hr0_3
 have HC0_3 := Aside0.mk hc0_3
 clear hr0_3 hc0_3
 have HR1_3 := Aside0.mk hr1_3
 have HC1_3 := Aside0.mk hc1_3
 clear hr1_3 hc1_3
 have HB := Aside0.mk (Below.refl w.heap.size w)
 have H : ((patchbaylaw2_advLives.f k).bind fun t206 => (if t206 = true then ((patchbayref2_AdvFault.f k a0_0 a0_1 a0_2 l0_3).bind fun t207 => ((adv_Encode.f k a0_0 a0_1 a0_2 l0_3).bind fun bt208 => ((adv_Check.f k a0_0 a0_1 a0_2 l0_3).bind fun t210 => (if t210 = t207 then (if bt208.2 = t207 then (if t207 = 0 then ((patchbayref2_AdvText.f k a0_0 a0_1 a0_2 l0_3).bind fun t211 => (patchbaylaw2_AdvEncodes.j0 k t207 (bt208.1.toList != t211.toList) a0_0 a0_1 a0_2 l0_3 a1_0 a1_1 a1_2 l1_3)) else (if bt208.1.toList = ([] : List UInt8) then (patchbaylaw2_AdvEncodes.j0 k t207 false a0_0 a0_1 a0_2 l0_3 a1_0 a1_1 a1_2 l1_3) else (patchbaylaw2_AdvEncodes.j0 k t207 true a0_0 a0_1 a0_2 l0_3 a1_0 a1_1 a1_2 l1_3))) else (patchbaylaw2_AdvEncodes.j0 k t207 true a0_0 a0_1 a0_2 l0_3 a1_0 a1_1 a1_2 l1_3)) else (patchbaylaw2_AdvEncodes.j0 k t207 true a0_0 a0_1 a0_2 l0_3 a1_0 a1_1 a1_2 l1_3))))) else (some false))) = some r := h
 clear h
 replace H := Option.bind_eq_some_iff.mp H
 obtain ⟨t206, A30, H⟩ := H
 replace H : (if t206 = true then ((patchbayref2_AdvFault.f k a0_0 a0_1 a0_2 l0_3).bind fun t207 => ((adv_Encode.f k a0_0 a0_1 a0_2 l0_3).bind fun bt208 => ((adv_Check.f k a0_0 a0_1 a0_2 l0_3).bind fun t210 => (if t210 = t207 then (if bt208.2 = t207 then (if t207 = 0 then ((patchbayref2_AdvText.f k a0_0 a0_1 a0_2 l0_3).bind fun t211 => (patchbaylaw2_AdvEncodes.j0 k t207 (bt208.1.toList != t211.toList) a0_0 a0_1 a0_2 l0_3 a1_0 a1_1 a1_2 l1_3)) else (if bt208.1.toList = ([] : List UInt8) then (patchbaylaw2_AdvEncodes.j0 k t207 false a0_0 a0_1 a0_2 l0_3 a1_0 a1_1 a1_2 l1_3) else (patchbaylaw2_AdvEncodes.j0 k t207 true a0_0 a0_1 a0_2 l0_3 a1_0 a1_1 a1_2 l1_3))) else (patchbaylaw2_AdvEncodes.j0 k t207 true a0_0 a0_1 a0_2 l0_3 a1_0 a1_1 a1_2 l1_3)) else (patchbaylaw2_AdvEncodes.j0 k t207 true a0_0 a0_1 a0_2 l0_3 a1_0 a1_1 a1_2 l1_3))))) else (some false)) = some r := H
 have A3 := Aside0.mk A30
 clear A30
 by_cases c4 : t206 = true
 ·subst c4
  have H1 : ((patchbayref2_AdvFault.f k a0_0 a0_1 a0_2 l0_3).bind fun t207 => ((adv_Encode.f k a0_0 a0_1 a0_2 l0_3).bind fun bt208 => ((adv_Check.f k a0_0 a0_1 a0_2 l0_3).bind fun t210 => (if t210 = t207 then (if bt208.2 = t207 then (if t207 = 0 then ((patchbayref2_AdvText.f k a0_0 a0_1 a0_2 l0_3).bind fun t211 => (patchbaylaw2_AdvEncodes.j0 k t207 (bt208.1.toList != t211.toList) a0_0 a0_1 a0_2 l0_3 a1_0 a1_1 a1_2 l1_3)) else (if bt208.1.toList = ([] : List UInt8) then (patchbaylaw2_AdvEncodes.j0 k t207 false a0_0 a0_1 a0_2 l0_3 a1_0 a1_1 a1_2 l1_3) else (patchbaylaw2_AdvEncodes.j0 k t207 true a0_0 a0_1 a0_2 l0_3 a1_0 a1_1 a1_2 l1_3))) else (patchbaylaw2_AdvEncodes.j0 k t207 true a0_0 a0_1 a0_2 l0_3 a1_0 a1_1 a1_2 l1_3)) else (patchbaylaw2_AdvEncodes.j0 k t207 true a0_0 a0_1 a0_2 l0_3 a1_0 a1_1 a1_2 l1_3))))) = some r := by rw [if_pos rfl] at H; exact H
  clear H
  have H := H1
  clear H1
  replace H := Option.bind_eq_some_iff.mp H
  obtain ⟨t207, A50, H⟩ := H
  replace H : ((adv_Encode.f k a0_0 a0_1 a0_2 l0_3).bind fun bt208 => ((adv_Check.f k a0_0 a0_1 a0_2 l0_3).bind fun t210 => (if t210 = t207 then (if bt208.2 = t207 then (if t207 = 0 then ((patchbayref2_AdvText.f k a0_0 a0_1 a0_2 l0_3).bind fun t211 => (patchbaylaw2_AdvEncodes.j0 k t207 (bt208.1.toList != t211.toList) a0_0 a0_1 a0_2 l0_3 a1_0 a1_1 a1_2 l1_3)) else (if bt208.1.toList = ([] : List UInt8) then (patchbaylaw2_AdvEncodes.j0 k t207 false a0_0 a0_1 a0_2 l0_3 a1_0 a1_1 a1_2 l1_3) else (patchbaylaw2_AdvEncodes.j0 k t207 true a0_0 a0_1 a0_2 l0_3 a1_0 a1_1 a1_2 l1_3))) else (patchbaylaw2_AdvEncodes.j0 k t207 true a0_0 a0_1 a0_2 l0_3 a1_0 a1_1 a1_2 l1_3)) else (patchbaylaw2_AdvEncodes.j0 k t207 true a0_0 a0_1 a0_2 l0_3 a1_0 a1_1 a1_2 l1_3)))) = some r := H
  have A5 := Aside0.mk A50
  clear A50
  replace H := Option.bind_eq_some_iff.mp H
  obtain ⟨⟨t208, t209⟩, A60, H⟩ := H
  replace H : ((adv_Check.f k a0_0 a0_1 a0_2 l0_3).bind fun t210 => (if t210 = t207 then (if t209 = t207 then (if t207 = 0 then ((patchbayref2_AdvText.f k a0_0 a0_1 a0_2 l0_3).bind fun t211 => (patchbaylaw2_AdvEncodes.j0 k t207 (t208.toList != t211.toList) a0_0 a0_1 a0_2 l0_3 a1_0 a1_1 a1_2 l1_3)) else (if t208.toList = ([] : List UInt8) then (patchbaylaw2_AdvEncodes.j0 k t207 false a0_0 a0_1 a0_2 l0_3 a1_0 a1_1 a1_2 l1_3) else (patchbaylaw2_AdvEncodes.j0 k t207 true a0_0 a0_1 a0_2 l0_3 a1_0 a1_1 a1_2 l1_3))) else (patchbaylaw2_AdvEncodes.j0 k t207 true a0_0 a0_1 a0_2 l0_3 a1_0 a1_1 a1_2 l1_3)) else (patchbaylaw2_AdvEncodes.j0 k t207 true a0_0 a0_1 a0_2 l0_3 a1_0 a1_1 a1_2 l1_3))) = some r := H
  have A6 := Aside0.mk A60
  clear A60
  have HC7 := Aside0.mk H
  clear H
  go_enter Try.func3, Try.ntmps3
  go_upto_region 3 with (first | ((with_reducible refine gate_dst (N := 2) rfl ?_); refine box_event ?hg (N := 2) ?hd (cs := #[.int .i64 a0_0, .int .i64 a0_1, .int .i64 a0_2, .slice A0_3 L0.length c0_3]) (t := 24) ?hr ?_; (case hd => rfl); (case hg => rfl); (case hr => first | (go_simp; done) | (go_simp; rfl)); intro gb204 hg w8 hbox hb; have n0_ := Aside0.mk (below_step (Fit.bl HB.out) hb); have n1_ := Aside0.mk (hbox); have n2_ := Aside0.mk ((by rw [hg]; exact (below_size (Fit.bl HB.out)) : w.heap.size ≤ gb204)); have n3_ := Aside0.mk ((by rw [hg]; exact (below_size (Fit.bl HB.out)) : w.heap.size ≤ gb204)); clear HB; have HB := n0_; have BK204 := n1_; have GW204 := n2_; have GE204 := n3_; clear n0_ n1_ n2_ n3_; clear hb hbox hg) | ((with_reducible refine gate_dst (N := 3) rfl ?_); refine box_event ?hg (N := 3) ?hd (cs := #[.int .i64 a1_0, .int .i64 a1_1, .int .i64 a1_2, .slice A1_3 L1.length c1_3]) (t := 24) ?hr ?_; (case hd => rfl); (case hg => rfl); (case hr => first | (go_simp; done) | (go_simp; rfl)); intro gb205 hg w9 hbox hb; have n0_ := Aside0.mk (blk_below (g := gb204) (Fit.pk BK204.out) hb); have n1_ := Aside0.mk (below_step (Fit.bl HB.out) hb); have n2_ := Aside0.mk (hbox); have n3_ := Aside0.mk ((by rw [hg]; exact (below_size (Fit.bl HB.out)) : w.heap.size ≤ gb205)); have n4_ := Aside0.mk ((by rw [hg]; exact (below_size (Fit.bl HB.out)) : w.heap.size ≤ gb205)); have n5_ := Aside0.mk ((by rw [hg]; exact Nat.ne_of_lt (blk_lt (g := gb204) (Fit.pk BK204.out)) : gb204 ≠ gb205)); have n6_ := Aside0.mk ((by rw [hg]; exact Nat.ne_of_gt (blk_lt (g := gb204) (Fit.pk BK204.out)) : gb205 ≠ gb204)); clear BK204; clear HB; have BK204 := n0_; have HB := n1_; have BK205 := n2_; have GW205 := n3_; have GE205 := n4_; have NB204_205 := n5_; have NB205_204 := n6_; clear n0_ n1_ n2_ n3_ n4_ n5_ n6_; clear hb hbox hg) | (go_at_call 6; (with_reducible refine (patchbaylaw2_advLives.calls k  true _ A3.out).mono ?_); rintro e w10 ⟨rfl, hb⟩; have n0_ := Aside0.mk (blk_below (g := gb204) (Fit.pk BK204.out) hb); have n1_ := Aside0.mk (blk_below (g := gb205) (Fit.pk BK205.out) hb); have n2_ := Aside0.mk (below_step (Fit.bl HB.out) hb); clear BK204; clear BK205; clear HB; have BK204 := n0_; have BK205 := n1_; have HB := n2_; clear n0_ n1_ n2_; (try clear hb); (try clear hb2); (try clear hk); (try clear hi); have hnb11 := NB204_205.out; have hnc11 := NB205_204.out; obtain ⟨hcz12_0, hcz12_1, hcz12_2, hcz12_3, hfz12_0⟩ := Fit.cells4 BK204.out; obtain ⟨hcz13_0, hcz13_1, hcz13_2, hcz13_3, hfz13_0⟩ := Fit.cells4 BK205.out))
  go_cut [11] (fun v11 wc => Aside0 (wc.heap[gb204]? = some (.cells #[.int .i64 a0_0, .int .i64 a0_1, .int .i64 a0_2, (.slice A0_3 l0_3.length c0_3)] 24 (0, 0))) ∧ Aside0 (wc.heap[gb205]? = some (.cells #[.int .i64 a1_0, .int .i64 a1_1, .int .i64 a1_2, (.slice A1_3 l1_3.length c1_3)] 24 (0, 0))) ∧ Aside0 (Below w.heap.size w wc))
  case first =>
   have cT0 : Kd.C k28 w10 A0_3 L0.length L0 := Kd.C_below HC0.out HB.out
   have cT1 : Kd.C k28 w10 A1_3 L1.length L1 := Kd.C_below HC1.out HB.out
   have CT0 := Aside0.mk cT0
   have CT1 := Aside0.mk cT1
   clear cT0 cT1
   refine wp_region_still_tail 7 (by kernel_rfl) (by kernel_rfl) ?_
   simp only [List.take_succ_cons, List.take_zero, List.drop_succ_cons, List.drop_zero]
   still_step
   still_step
   still_call (Lx.some17 HL0.out (Kd.C_drew CT0.out) HM0.out)
   still_step
   still_step
   still_call (Lx.some17 HL1.out (Kd.C_drew CT1.out) HM1.out)
   still_step
   refine wpStill_nil ?_
   change wpList _ _ _ _ _ w10.drew
   have n0_ := Aside0.mk (blk_drew BK204.out)
   have n1_ := Aside0.mk (blk_drew BK205.out)
   have n2_ := Aside0.mk (below_drew1 HB.out)
   clear BK204 BK205 HB CT0 CT1
   have BK204 := n0_
   have BK205 := n1_
   have HB := n2_
   clear n0_ n1_ n2_
   generalize w10.drew = w10 at BK204 BK205 HB ⊢
   obtain ⟨hy0, hy1, hy2, hy3, hyf⟩ := Fit.cells4 BK204.out
   obtain ⟨hz0, hz1, hz2, hz3, hzf⟩ := Fit.cells4 BK205.out
   have hnb := NB204_205.out
   have hnc := NB205_204.out
   go_wp2
   go_meet
   case rel => exact Lx.two_puts BK204 BK205 NB204_205 HB GE204 GE205
  case rest =>
   clear BK204 BK205 HB HC0 HC1 HL0 HL1 HM0 HM1
   try clear hcz12_0
   try clear hcz12_1
   try clear hcz12_2
   try clear hcz12_3
   try clear hfz12_0
   try clear hcz13_0
   try clear hcz13_1
   try clear hcz13_2
   try clear hcz13_3
   try clear hfz13_0
   obtain ⟨BK204, BK205, HB⟩ := hcut
   clear w10
   rename World => w10
   obtain ⟨hy0, hy1, hy2, hy3, hyf⟩ := Fit.cells4 BK204.out
   obtain ⟨hz0, hz1, hz2, hz3, hzf⟩ := Fit.cells4 BK205.out
   go_upto_region 6 with (first | (go_at_call 8; (with_reducible refine (patchbayref2_AdvFault.calls k a0_0 a0_1 a0_2 _ _ l0_3 t207 _ ?side1 ?side2 A5.out).mono ?_); (case side1 => repeat (first | exact (Kd.C_below HR0_3.out HB.out) | (with_reducible refine Kd.C_alloc ?_ _) | (with_reducible refine Kd.C_drewN ?_ _) | (with_reducible refine Kd.C_drew ?_))); (case side2 => exact HC0_3.out); rintro e w14 ⟨rfl, hb⟩; have n0_ := Aside0.mk (blk_below (g := gb204) (Fit.pk BK204.out) hb); have n1_ := Aside0.mk (blk_below (g := gb205) (Fit.pk BK205.out) hb); have n2_ := Aside0.mk (below_step (Fit.bl HB.out) hb); clear BK204; clear BK205; clear HB; have BK204 := n0_; have BK205 := n1_; have HB := n2_; clear n0_ n1_ n2_; (try clear hb); (try clear hb2); (try clear hk); (try clear hi); obtain ⟨hcz15_0, hcz15_1, hcz15_2, hcz15_3, hfz15_0⟩ := Fit.cells4 BK204.out) | (go_at_call 9; (with_reducible refine (adv_Encode.calls k a0_0 a0_1 a0_2 _ _ l0_3 t208 t209 _ ?side1 ?side2 A6.out).mono ?_); (case side1 => repeat (first | exact (Kd.C_below HR0_3.out HB.out) | (with_reducible refine Kd.C_alloc ?_ _) | (with_reducible refine Kd.C_drewN ?_ _) | (with_reducible refine Kd.C_drew ?_))); (case side2 => exact HC0_3.out); rintro e w16 ⟨rfl, hb⟩; have n0_ := Aside0.mk (blk_below (g := gb204) (Fit.pk BK204.out) hb); have n1_ := Aside0.mk (blk_below (g := gb205) (Fit.pk BK205.out) hb); have n2_ := Aside0.mk (below_step (Fit.bl HB.out) hb); clear BK204; clear BK205; clear HB; have BK204 := n0_; have BK205 := n1_; have HB := n2_; clear n0_ n1_ n2_; (try clear hb); (try clear hb2); (try clear hk); (try clear hi)))
   (try simp only [Act.put, List.setIfInBounds_toArray, List.set_cons_zero, List.set_cons_succ])
   go_cut [52] (fun v52 wc => ∃ (kq : Nat) (x52_6 : Bool), v52 = .bool x52_6 ∧ Aside0 (patchbaylaw2_AdvEncodes.j0 kq t207 x52_6 a0_0 a0_1 a0_2 l0_3 a1_0 a1_1 a1_2 l1_3 = some r) ∧ Aside0 (kq ≤ k) ∧ Aside0 (wc.heap[gb204]? = some (.cells #[.int .i64 a0_0, .int .i64 a0_1, .int .i64 a0_2, (.slice A0_3 l0_3.length c0_3)] 24 (0, 0))) ∧ Aside0 (wc.heap[gb205]? = some (.cells #[.int .i64 a1_0, .int .i64 a1_1, .int .i64 a1_2, (.slice A1_3 l1_3.length c1_3)] 24 (0, 0))) ∧ Aside0 (Below w.heap.size w wc))
   case first =>
    have H := HC7.out
    clear HC7
    replace H := Option.bind_eq_some_iff.mp H
    obtain ⟨t210, A170, H⟩ := H
    replace H : (if t210 = t207 then (if t209 = t207 then (if t207 = 0 then ((patchbayref2_AdvText.f k a0_0 a0_1 a0_2 l0_3).bind fun t211 => (patchbaylaw2_AdvEncodes.j0 k t207 (t208.toList != t211.toList) a0_0 a0_1 a0_2 l0_3 a1_0 a1_1 a1_2 l1_3)) else (if t208.toList = ([] : List UInt8) then (patchbaylaw2_AdvEncodes.j0 k t207 false a0_0 a0_1 a0_2 l0_3 a1_0 a1_1 a1_2 l1_3) else (patchbaylaw2_AdvEncodes.j0 k t207 true a0_0 a0_1 a0_2 l0_3 a1_0 a1_1 a1_2 l1_3))) else (patchbaylaw2_AdvEncodes.j0 k t207 true a0_0 a0_1 a0_2 l0_3 a1_0 a1_1 a1_2 l1_3)) else (patchbaylaw2_AdvEncodes.j0 k t207 true a0_0 a0_1 a0_2 l0_3 a1_0 a1_1 a1_2 l1_3)) = some r := H
    have A17 := Aside0.mk A170
    clear A170
    by_cases c18 : t210 = t207
    ·rw [if_pos c18] at H
     have c18b0 : (t210 == t207) = true := beq_iff_eq.mpr c18
     have c18b1 : (t210 != t207) = false := bne_eq_false_iff_eq.mpr c18
     clear c18
     (first | rw [c18b0] | (simp only [i64_w, i32_w]; rw [c18b0]) | skip)
     by_cases c19 : t209 = t207
     ·rw [if_pos c19] at H
      have c19b0 : (t209 == t207) = true := beq_iff_eq.mpr c19
      have c19b1 : (t209 != t207) = false := bne_eq_false_iff_eq.mpr c19
      clear c19
      by_cases c20 : t207 = 0
      ·rw [if_pos c20] at H
       have c20b0 : (t207 == 0) = true := beq_iff_eq.mpr c20
       have c20b1 : (t207 != 0) = false := bne_eq_false_iff_eq.mpr c20
       clear c20
       replace H := Option.bind_eq_some_iff.mp H
       obtain ⟨t211, A210, H⟩ := H
       replace H : (patchbaylaw2_AdvEncodes.j0 k t207 (t208.toList != t211.toList) a0_0 a0_1 a0_2 l0_3 a1_0 a1_1 a1_2 l1_3) = some r := H
       have A21 := Aside0.mk A210
       clear A210
       have H' := Aside0.mk H
       clear H
       have hnb22 := NB204_205.out
       have hnc22 := NB205_204.out
       obtain ⟨hcz23_0, hcz23_1, hcz23_2, hcz23_3, hfz23_0⟩ := Fit.cells4 BK204.out
       go_wp2_with (first | (go_at_call 10; (with_reducible refine (adv_Check.calls k a0_0 a0_1 a0_2 _ _ l0_3 t210 _ ?side1 ?side2 A17.out).mono ?_); (case side1 => repeat (first | exact (Kd.C_below HR0_3.out HB.out) | (with_reducible refine Kd.C_alloc ?_ _) | (with_reducible refine Kd.C_drewN ?_ _) | (with_reducible refine Kd.C_drew ?_))); (case side2 => exact HC0_3.out); rintro e w24 ⟨rfl, hb⟩; have n0_ := Aside0.mk (blk_below (g := gb204) (Fit.pk BK204.out) hb); have n1_ := Aside0.mk (blk_below (g := gb205) (Fit.pk BK205.out) hb); have n2_ := Aside0.mk (below_step (Fit.bl HB.out) hb); clear BK204; clear BK205; clear HB; have BK204 := n0_; have BK205 := n1_; have HB := n2_; clear n0_ n1_ n2_; (try clear hb); (try clear hb2); (try clear hk); (try clear hi); obtain ⟨hcz25_0, hcz25_1, hcz25_2, hcz25_3, hfz25_0⟩ := Fit.cells4 BK204.out) | (go_at_call 11; (with_reducible refine (patchbayref2_AdvText.calls k a0_0 a0_1 a0_2 _ _ l0_3 t211 _ ?side1 ?side2 A21.out).mono ?_); (case side1 => repeat (first | exact (Kd.C_below HR0_3.out HB.out) | (with_reducible refine Kd.C_alloc ?_ _) | (with_reducible refine Kd.C_drewN ?_ _) | (with_reducible refine Kd.C_drew ?_))); (case side2 => exact HC0_3.out); rintro e w26 ⟨rfl, hb⟩; have n0_ := Aside0.mk (blk_below (g := gb204) (Fit.pk BK204.out) hb); have n1_ := Aside0.mk (blk_below (g := gb205) (Fit.pk BK205.out) hb); have n2_ := Aside0.mk (below_step (Fit.bl HB.out) hb); clear BK204; clear BK205; clear HB; have BK204 := n0_; have BK205 := n1_; have HB := n2_; clear n0_ n1_ n2_; (try clear hb); (try clear hb2); (try clear hk); (try clear hi)))
       repeat (go_quiet (first | (go_at_call 10; (with_reducible refine (adv_Check.calls k a0_0 a0_1 a0_2 _ _ l0_3 t210 _ ?side1 ?side2 A17.out).mono ?_); (case side1 => repeat (first | exact (Kd.C_below HR0_3.out HB.out) | (with_reducible refine Kd.C_alloc ?_ _) | (with_reducible refine Kd.C_drewN ?_ _) | (with_reducible refine Kd.C_drew ?_))); (case side2 => exact HC0_3.out); rintro e w24 ⟨rfl, hb⟩; have n0_ := Aside0.mk (blk_below (g := gb204) (Fit.pk BK204.out) hb); have n1_ := Aside0.mk (blk_below (g := gb205) (Fit.pk BK205.out) hb); have n2_ := Aside0.mk (below_step (Fit.bl HB.out) hb); clear BK204; clear BK205; clear HB; have BK204 := n0_; have BK205 := n1_; have HB := n2_; clear n0_ n1_ n2_; (try clear hb); (try clear hb2); (try clear hk); (try clear hi); obtain ⟨hcz25_0, hcz25_1, hcz25_2, hcz25_3, hfz25_0⟩ := Fit.cells4 BK204.out) | (go_at_call 11; (with_reducible refine (patchbayref2_AdvText.calls k a0_0 a0_1 a0_2 _ _ l0_3 t211 _ ?side1 ?side2 A21.out).mono ?_); (case side1 => repeat (first | exact (Kd.C_below HR0_3.out HB.out) | (with_reducible refine Kd.C_alloc ?_ _) | (with_reducible refine Kd.C_drewN ?_ _) | (with_reducible refine Kd.C_drew ?_))); (case side2 => exact HC0_3.out); rintro e w26 ⟨rfl, hb⟩; have n0_ := Aside0.mk (blk_below (g := gb204) (Fit.pk BK204.out) hb); have n1_ := Aside0.mk (blk_below (g := gb205) (Fit.pk BK205.out) hb); have n2_ := Aside0.mk (below_step (Fit.bl HB.out) hb); clear BK204; clear BK205; clear HB; have BK204 := n0_; have BK205 := n1_; have HB := n2_; clear n0_ n1_ n2_; (try clear hb); (try clear hb2); (try clear hk); (try clear hi))); try go_wp2_with (first | (go_at_call 10; (with_reducible refine (adv_Check.calls k a0_0 a0_1 a0_2 _ _ l0_3 t210 _ ?side1 ?side2 A17.out).mono ?_); (case side1 => repeat (first | exact (Kd.C_below HR0_3.out HB.out) | (with_reducible refine Kd.C_alloc ?_ _) | (with_reducible refine Kd.C_drewN ?_ _) | (with_reducible refine Kd.C_drew ?_))); (case side2 => exact HC0_3.out); rintro e w24 ⟨rfl, hb⟩; have n0_ := Aside0.mk (blk_below (g := gb204) (Fit.pk BK204.out) hb); have n1_ := Aside0.mk (blk_below (g := gb205) (Fit.pk BK205.out) hb); have n2_ := Aside0.mk (below_step (Fit.bl HB.out) hb); clear BK204; clear BK205; clear HB; have BK204 := n0_; have BK205 := n1_; have HB := n2_; clear n0_ n1_ n2_; (try clear hb); (try clear hb2); (try clear hk); (try clear hi); obtain ⟨hcz25_0, hcz25_1, hcz25_2, hcz25_3, hfz25_0⟩ := Fit.cells4 BK204.out) | (go_at_call 11; (with_reducible refine (patchbayref2_AdvText.calls k a0_0 a0_1 a0_2 _ _ l0_3 t211 _ ?side1 ?side2 A21.out).mono ?_); (case side1 => repeat (first | exact (Kd.C_below HR0_3.out HB.out) | (with_reducible refine Kd.C_alloc ?_ _) | (with_reducible refine Kd.C_drewN ?_ _) | (with_reducible refine Kd.C_drew ?_))); (case side2 => exact HC0_3.out); rintro e w26 ⟨rfl, hb⟩; have n0_ := Aside0.mk (blk_below (g := gb204) (Fit.pk BK204.out) hb); have n1_ := Aside0.mk (blk_below (g := gb205) (Fit.pk BK205.out) hb); have n2_ := Aside0.mk (below_step (Fit.bl HB.out) hb); clear BK204; clear BK205; clear HB; have BK204 := n0_; have BK205 := n1_; have HB := n2_; clear n0_ n1_ n2_; (try clear hb); (try clear hb2); (try clear hk); (try clear hi))))
       go_meet
       case rel => exact ⟨_, ((t208.toList != t211.toList)), (by first | rfl | (simp; done) | (simp [*]; done)), H', ⟨by first | omega | exact Nat.le_refl _⟩, ⟨by (with_reducible repeat first | apply blk_drewN | apply blk_drew | apply blk_alloc); exact BK204.out⟩, ⟨by (with_reducible repeat first | apply blk_drewN | apply blk_drew | apply blk_alloc); exact BK205.out⟩, ⟨Fit.bl HB.out⟩⟩
      ·rw [if_neg c20] at H
       have c20b0 : (t207 == 0) = false := beq_eq_false_iff_ne.mpr c20
       have c20b1 : (t207 != 0) = true := bne_iff_ne.mpr c20
       by_cases c27 : t208.toList = ([] : List UInt8)
       ·rw [if_pos c27] at H
        have c27b0 : (t208.toList == ([] : List UInt8)) = true := beq_iff_eq.mpr c27
        have c27b1 : (t208.toList != ([] : List UInt8)) = false := bne_eq_false_iff_eq.mpr c27
        clear c27
        have H' := Aside0.mk H
        clear H
        have hnb28 := NB204_205.out
        have hnc28 := NB205_204.out
        obtain ⟨hcz29_0, hcz29_1, hcz29_2, hcz29_3, hfz29_0⟩ := Fit.cells4 BK204.out
        go_wp2_with (first | (go_at_call 10; (with_reducible refine (adv_Check.calls k a0_0 a0_1 a0_2 _ _ l0_3 t210 _ ?side1 ?side2 A17.out).mono ?_); (case side1 => repeat (first | exact (Kd.C_below HR0_3.out HB.out) | (with_reducible refine Kd.C_alloc ?_ _) | (with_reducible refine Kd.C_drewN ?_ _) | (with_reducible refine Kd.C_drew ?_))); (case side2 => exact HC0_3.out); rintro e w30 ⟨rfl, hb⟩; have n0_ := Aside0.mk (blk_below (g := gb204) (Fit.pk BK204.out) hb); have n1_ := Aside0.mk (blk_below (g := gb205) (Fit.pk BK205.out) hb); have n2_ := Aside0.mk (below_step (Fit.bl HB.out) hb); clear BK204; clear BK205; clear HB; have BK204 := n0_; have BK205 := n1_; have HB := n2_; clear n0_ n1_ n2_; (try clear hb); (try clear hb2); (try clear hk); (try clear hi)))
        repeat (go_quiet (first | (go_at_call 10; (with_reducible refine (adv_Check.calls k a0_0 a0_1 a0_2 _ _ l0_3 t210 _ ?side1 ?side2 A17.out).mono ?_); (case side1 => repeat (first | exact (Kd.C_below HR0_3.out HB.out) | (with_reducible refine Kd.C_alloc ?_ _) | (with_reducible refine Kd.C_drewN ?_ _) | (with_reducible refine Kd.C_drew ?_))); (case side2 => exact HC0_3.out); rintro e w30 ⟨rfl, hb⟩; have n0_ := Aside0.mk (blk_below (g := gb204) (Fit.pk BK204.out) hb); have n1_ := Aside0.mk (blk_below (g := gb205) (Fit.pk BK205.out) hb); have n2_ := Aside0.mk (below_step (Fit.bl HB.out) hb); clear BK204; clear BK205; clear HB; have BK204 := n0_; have BK205 := n1_; have HB := n2_; clear n0_ n1_ n2_; (try clear hb); (try clear hb2); (try clear hk); (try clear hi))); try go_wp2_with (first | (go_at_call 10; (with_reducible refine (adv_Check.calls k a0_0 a0_1 a0_2 _ _ l0_3 t210 _ ?side1 ?side2 A17.out).mono ?_); (case side1 => repeat (first | exact (Kd.C_below HR0_3.out HB.out) | (with_reducible refine Kd.C_alloc ?_ _) | (with_reducible refine Kd.C_drewN ?_ _) | (with_reducible refine Kd.C_drew ?_))); (case side2 => exact HC0_3.out); rintro e w30 ⟨rfl, hb⟩; have n0_ := Aside0.mk (blk_below (g := gb204) (Fit.pk BK204.out) hb); have n1_ := Aside0.mk (blk_below (g := gb205) (Fit.pk BK205.out) hb); have n2_ := Aside0.mk (below_step (Fit.bl HB.out) hb); clear BK204; clear BK205; clear HB; have BK204 := n0_; have BK205 := n1_; have HB := n2_; clear n0_ n1_ n2_; (try clear hb); (try clear hb2); (try clear hk); (try clear hi))))
        go_meet
        case rel => exact ⟨_, (false), (by first | rfl | (simp; done) | (simp [*]; done)), H', ⟨by first | omega | exact Nat.le_refl _⟩, ⟨by (with_reducible repeat first | apply blk_drewN | apply blk_drew | apply blk_alloc); exact BK204.out⟩, ⟨by (with_reducible repeat first | apply blk_drewN | apply blk_drew | apply blk_alloc); exact BK205.out⟩, ⟨Fit.bl HB.out⟩⟩
       ·rw [if_neg c27] at H
        have c27b0 : (t208.toList == ([] : List UInt8)) = false := beq_eq_false_iff_ne.mpr c27
        have c27b1 : (t208.toList != ([] : List UInt8)) = true := bne_iff_ne.mpr c27
        have H' := Aside0.mk H
        clear H
        have hnb31 := NB204_205.out
        have hnc31 := NB205_204.out
        obtain ⟨hcz32_0, hcz32_1, hcz32_2, hcz32_3, hfz32_0⟩ := Fit.cells4 BK204.out
        go_wp2_with (first | (go_at_call 10; (with_reducible refine (adv_Check.calls k a0_0 a0_1 a0_2 _ _ l0_3 t210 _ ?side1 ?side2 A17.out).mono ?_); (case side1 => repeat (first | exact (Kd.C_below HR0_3.out HB.out) | (with_reducible refine Kd.C_alloc ?_ _) | (with_reducible refine Kd.C_drewN ?_ _) | (with_reducible refine Kd.C_drew ?_))); (case side2 => exact HC0_3.out); rintro e w33 ⟨rfl, hb⟩; have n0_ := Aside0.mk (blk_below (g := gb204) (Fit.pk BK204.out) hb); have n1_ := Aside0.mk (blk_below (g := gb205) (Fit.pk BK205.out) hb); have n2_ := Aside0.mk (below_step (Fit.bl HB.out) hb); clear BK204; clear BK205; clear HB; have BK204 := n0_; have BK205 := n1_; have HB := n2_; clear n0_ n1_ n2_; (try clear hb); (try clear hb2); (try clear hk); (try clear hi)))
        repeat (go_quiet (first | (go_at_call 10; (with_reducible refine (adv_Check.calls k a0_0 a0_1 a0_2 _ _ l0_3 t210 _ ?side1 ?side2 A17.out).mono ?_); (case side1 => repeat (first | exact (Kd.C_below HR0_3.out HB.out) | (with_reducible refine Kd.C_alloc ?_ _) | (with_reducible refine Kd.C_drewN ?_ _) | (with_reducible refine Kd.C_drew ?_))); (case side2 => exact HC0_3.out); rintro e w33 ⟨rfl, hb⟩; have n0_ := Aside0.mk (blk_below (g := gb204) (Fit.pk BK204.out) hb); have n1_ := Aside0.mk (blk_below (g := gb205) (Fit.pk BK205.out) hb); have n2_ := Aside0.mk (below_step (Fit.bl HB.out) hb); clear BK204; clear BK205; clear HB; have BK204 := n0_; have BK205 := n1_; have HB := n2_; clear n0_ n1_ n2_; (try clear hb); (try clear hb2); (try clear hk); (try clear hi))); try go_wp2_with (first | (go_at_call 10; (with_reducible refine (adv_Check.calls k a0_0 a0_1 a0_2 _ _ l0_3 t210 _ ?side1 ?side2 A17.out).mono ?_); (case side1 => repeat (first | exact (Kd.C_below HR0_3.out HB.out) | (with_reducible refine Kd.C_alloc ?_ _) | (with_reducible refine Kd.C_drewN ?_ _) | (with_reducible refine Kd.C_drew ?_))); (case side2 => exact HC0_3.out); rintro e w33 ⟨rfl, hb⟩; have n0_ := Aside0.mk (blk_below (g := gb204) (Fit.pk BK204.out) hb); have n1_ := Aside0.mk (blk_below (g := gb205) (Fit.pk BK205.out) hb); have n2_ := Aside0.mk (below_step (Fit.bl HB.out) hb); clear BK204; clear BK205; clear HB; have BK204 := n0_; have BK205 := n1_; have HB := n2_; clear n0_ n1_ n2_; (try clear hb); (try clear hb2); (try clear hk); (try clear hi))))
        go_meet
        case rel => exact ⟨_, (true), (by first | rfl | (simp; done) | (simp [*]; done)), H', ⟨by first | omega | exact Nat.le_refl _⟩, ⟨by (with_reducible repeat first | apply blk_drewN | apply blk_drew | apply blk_alloc); exact BK204.out⟩, ⟨by (with_reducible repeat first | apply blk_drewN | apply blk_drew | apply blk_alloc); exact BK205.out⟩, ⟨Fit.bl HB.out⟩⟩
     ·rw [if_neg c19] at H
      have c19b0 : (t209 == t207) = false := beq_eq_false_iff_ne.mpr c19
      have c19b1 : (t209 != t207) = true := bne_iff_ne.mpr c19
      have H' := Aside0.mk H
      clear H
      have hnb34 := NB204_205.out
      have hnc34 := NB205_204.out
      obtain ⟨hcz35_0, hcz35_1, hcz35_2, hcz35_3, hfz35_0⟩ := Fit.cells4 BK204.out
      go_wp2_with (first | (go_at_call 10; (with_reducible refine (adv_Check.calls k a0_0 a0_1 a0_2 _ _ l0_3 t210 _ ?side1 ?side2 A17.out).mono ?_); (case side1 => repeat (first | exact (Kd.C_below HR0_3.out HB.out) | (with_reducible refine Kd.C_alloc ?_ _) | (with_reducible refine Kd.C_drewN ?_ _) | (with_reducible refine Kd.C_drew ?_))); (case side2 => exact HC0_3.out); rintro e w36 ⟨rfl, hb⟩; have n0_ := Aside0.mk (blk_below (g := gb204) (Fit.pk BK204.out) hb); have n1_ := Aside0.mk (blk_below (g := gb205) (Fit.pk BK205.out) hb); have n2_ := Aside0.mk (below_step (Fit.bl HB.out) hb); clear BK204; clear BK205; clear HB; have BK204 := n0_; have BK205 := n1_; have HB := n2_; clear n0_ n1_ n2_; (try clear hb); (try clear hb2); (try clear hk); (try clear hi)))
      repeat (go_quiet (first | (go_at_call 10; (with_reducible refine (adv_Check.calls k a0_0 a0_1 a0_2 _ _ l0_3 t210 _ ?side1 ?side2 A17.out).mono ?_); (case side1 => repeat (first | exact (Kd.C_below HR0_3.out HB.out) | (with_reducible refine Kd.C_alloc ?_ _) | (with_reducible refine Kd.C_drewN ?_ _) | (with_reducible refine Kd.C_drew ?_))); (case side2 => exact HC0_3.out); rintro e w36 ⟨rfl, hb⟩; have n0_ := Aside0.mk (blk_below (g := gb204) (Fit.pk BK204.out) hb); have n1_ := Aside0.mk (blk_below (g := gb205) (Fit.pk BK205.out) hb); have n2_ := Aside0.mk (below_step (Fit.bl HB.out) hb); clear BK204; clear BK205; clear HB; have BK204 := n0_; have BK205 := n1_; have HB := n2_; clear n0_ n1_ n2_; (try clear hb); (try clear hb2); (try clear hk); (try clear hi))); try go_wp2_with (first | (go_at_call 10; (with_reducible refine (adv_Check.calls k a0_0 a0_1 a0_2 _ _ l0_3 t210 _ ?side1 ?side2 A17.out).mono ?_); (case side1 => repeat (first | exact (Kd.C_below HR0_3.out HB.out) | (with_reducible refine Kd.C_alloc ?_ _) | (with_reducible refine Kd.C_drewN ?_ _) | (with_reducible refine Kd.C_drew ?_))); (case side2 => exact HC0_3.out); rintro e w36 ⟨rfl, hb⟩; have n0_ := Aside0.mk (blk_below (g := gb204) (Fit.pk BK204.out) hb); have n1_ := Aside0.mk (blk_below (g := gb205) (Fit.pk BK205.out) hb); have n2_ := Aside0.mk (below_step (Fit.bl HB.out) hb); clear BK204; clear BK205; clear HB; have BK204 := n0_; have BK205 := n1_; have HB := n2_; clear n0_ n1_ n2_; (try clear hb); (try clear hb2); (try clear hk); (try clear hi))))
      go_meet
      case rel => exact ⟨_, (true), (by first | rfl | (simp; done) | (simp [*]; done)), H', ⟨by first | omega | exact Nat.le_refl _⟩, ⟨by (with_reducible repeat first | apply blk_drewN | apply blk_drew | apply blk_alloc); exact BK204.out⟩, ⟨by (with_reducible repeat first | apply blk_drewN | apply blk_drew | apply blk_alloc); exact BK205.out⟩, ⟨Fit.bl HB.out⟩⟩
    ·rw [if_neg c18] at H
     have c18b0 : (t210 == t207) = false := beq_eq_false_iff_ne.mpr c18
     have c18b1 : (t210 != t207) = true := bne_iff_ne.mpr c18
     (first | rw [c18b0] | (simp only [i64_w, i32_w]; rw [c18b0]) | skip)
     have H' := Aside0.mk H
     clear H
     have hnb37 := NB204_205.out
     have hnc37 := NB205_204.out
     obtain ⟨hcz38_0, hcz38_1, hcz38_2, hcz38_3, hfz38_0⟩ := Fit.cells4 BK204.out
     go_wp2_with (first | (go_at_call 10; (with_reducible refine (adv_Check.calls k a0_0 a0_1 a0_2 _ _ l0_3 t210 _ ?side1 ?side2 A17.out).mono ?_); (case side1 => repeat (first | exact (Kd.C_below HR0_3.out HB.out) | (with_reducible refine Kd.C_alloc ?_ _) | (with_reducible refine Kd.C_drewN ?_ _) | (with_reducible refine Kd.C_drew ?_))); (case side2 => exact HC0_3.out); rintro e w39 ⟨rfl, hb⟩; have n0_ := Aside0.mk (blk_below (g := gb204) (Fit.pk BK204.out) hb); have n1_ := Aside0.mk (blk_below (g := gb205) (Fit.pk BK205.out) hb); have n2_ := Aside0.mk (below_step (Fit.bl HB.out) hb); clear BK204; clear BK205; clear HB; have BK204 := n0_; have BK205 := n1_; have HB := n2_; clear n0_ n1_ n2_; (try clear hb); (try clear hb2); (try clear hk); (try clear hi)))
     repeat (go_quiet (first | (go_at_call 10; (with_reducible refine (adv_Check.calls k a0_0 a0_1 a0_2 _ _ l0_3 t210 _ ?side1 ?side2 A17.out).mono ?_); (case side1 => repeat (first | exact (Kd.C_below HR0_3.out HB.out) | (with_reducible refine Kd.C_alloc ?_ _) | (with_reducible refine Kd.C_drewN ?_ _) | (with_reducible refine Kd.C_drew ?_))); (case side2 => exact HC0_3.out); rintro e w39 ⟨rfl, hb⟩; have n0_ := Aside0.mk (blk_below (g := gb204) (Fit.pk BK204.out) hb); have n1_ := Aside0.mk (blk_below (g := gb205) (Fit.pk BK205.out) hb); have n2_ := Aside0.mk (below_step (Fit.bl HB.out) hb); clear BK204; clear BK205; clear HB; have BK204 := n0_; have BK205 := n1_; have HB := n2_; clear n0_ n1_ n2_; (try clear hb); (try clear hb2); (try clear hk); (try clear hi))); try go_wp2_with (first | (go_at_call 10; (with_reducible refine (adv_Check.calls k a0_0 a0_1 a0_2 _ _ l0_3 t210 _ ?side1 ?side2 A17.out).mono ?_); (case side1 => repeat (first | exact (Kd.C_below HR0_3.out HB.out) | (with_reducible refine Kd.C_alloc ?_ _) | (with_reducible refine Kd.C_drewN ?_ _) | (with_reducible refine Kd.C_drew ?_))); (case side2 => exact HC0_3.out); rintro e w39 ⟨rfl, hb⟩; have n0_ := Aside0.mk (blk_below (g := gb204) (Fit.pk BK204.out) hb); have n1_ := Aside0.mk (blk_below (g := gb205) (Fit.pk BK205.out) hb); have n2_ := Aside0.mk (below_step (Fit.bl HB.out) hb); clear BK204; clear BK205; clear HB; have BK204 := n0_; have BK205 := n1_; have HB := n2_; clear n0_ n1_ n2_; (try clear hb); (try clear hb2); (try clear hk); (try clear hi))))
     go_meet
     case rel => exact ⟨_, (true), (by first | rfl | (simp; done) | (simp [*]; done)), H', ⟨by first | omega | exact Nat.le_refl _⟩, ⟨by (with_reducible repeat first | apply blk_drewN | apply blk_drew | apply blk_alloc); exact BK204.out⟩, ⟨by (with_reducible repeat first | apply blk_drewN | apply blk_drew | apply blk_alloc); exact BK205.out⟩, ⟨Fit.bl HB.out⟩⟩
   case rest =>
    clear HC7
    try clear c1
    try clear c2
    try clear p2
    try clear c3
    try clear c4
    try clear c11
    try clear c18
    try clear c18b0
    try clear c18b1
    try clear c19
    try clear c19b0
    try clear c19b1
    try clear c20
    try clear c20b0
    try clear c20b1
    try clear c22
    try clear c27
    try clear c27b0
    try clear c27b1
    try clear c28
    try clear c31
    try clear c34
    try clear c37
    try clear hcz12_0
    try clear hcz12_1
    try clear hcz12_2
    try clear hcz12_3
    try clear hcz13_0
    try clear hcz13_1
    try clear hcz13_2
    try clear hcz13_3
    try clear hcz15_0
    try clear hcz15_1
    try clear hcz15_2
    try clear hcz15_3
    try clear hcz23_0
    try clear hcz23_1
    try clear hcz23_2
    try clear hcz23_3
    try clear hcz25_0
    try clear hcz25_1
    try clear hcz25_2
    try clear hcz25_3
    try clear hcz29_0
    try clear hcz29_1
    try clear hcz29_2
    try clear hcz29_3
    try clear hcz32_0
    try clear hcz32_1
    try clear hcz32_2
    try clear hcz32_3
    try clear hcz35_0
    try clear hcz35_1
    try clear hcz35_2
    try clear hcz35_3
    try clear hcz38_0
    try clear hcz38_1
    try clear hcz38_2
    try clear hcz38_3
    try clear hfz12_0
    try clear hfz13_0
    try clear hfz15_0
    try clear hfz23_0
    try clear hfz25_0
    try clear hfz29_0
    try clear hfz32_0
    try clear hfz35_0
    try clear hfz38_0
    obtain ⟨kq, x52_6, rfl, HA, HJ6, BK204, BK205, HB⟩ := hcut
    cases kq with
    | zero => exact absurd HA.out (by simp [patchbaylaw2_AdvEncodes.j0])
    | succ kj6 =>
     have H := HA.out
     clear HA
     simp only [patchbaylaw2_AdvEncodes.j0] at H
     by_cases c40 : x52_6 = true
     ·subst c40
      have H1 : (some false) = some r := by rw [if_pos rfl] at H; exact H
      clear H
      have H := H1
      clear H1
      obtain rfl := Option.some.inj H
      go_wp2
      repeat (go_quiet (fail); try go_wp2)
      go_ret
      exact ⟨by first | rfl | (simp [errW_none, errW_some] <;> rfl) | (simp [*, errW_none, errW_some] <;> rfl), Fit.bl HB.out⟩
     ·replace c40 := Bool.eq_false_iff.mpr c40
      subst c40
      have H1 : (if t207 = 0 then ((patchbayref2_AdvFault.f kj6 a1_0 a1_1 a1_2 l1_3).bind fun t212 => (patchbaylaw2_AdvEncodes.j1 kj6 t212 a0_0 a0_1 a0_2 l0_3 a1_0 a1_1 a1_2 l1_3)) else (patchbaylaw2_AdvEncodes.j1 kj6 t207 a0_0 a0_1 a0_2 l0_3 a1_0 a1_1 a1_2 l1_3)) = some r := by rw [if_neg (show ¬ (false = true) by decide)] at H; exact H
      clear H
      have H := H1
      clear H1
      have HC41 := Aside0.mk H
      clear H
      go_upto_if 54 with (fail)
      repeat (go_quiet (fail); go_upto_if 54 with (fail))
      go_cut [5] (fun v5 wc => ∃ (kq : Nat) (x5_40 : Int), v5 = .int .i64 x5_40 ∧ Aside0 (patchbaylaw2_AdvEncodes.j1 kq x5_40 a0_0 a0_1 a0_2 l0_3 a1_0 a1_1 a1_2 l1_3 = some r) ∧ Aside0 (kq ≤ kj6) ∧ Aside0 (wc.heap[gb204]? = some (.cells #[.int .i64 a0_0, .int .i64 a0_1, .int .i64 a0_2, (.slice A0_3 l0_3.length c0_3)] 24 (0, 0))) ∧ Aside0 (wc.heap[gb205]? = some (.cells #[.int .i64 a1_0, .int .i64 a1_1, .int .i64 a1_2, (.slice A1_3 l1_3.length c1_3)] 24 (0, 0))) ∧ Aside0 (Below w.heap.size w wc))
      case first =>
       have H := HC41.out
       clear HC41
       by_cases c42 : t207 = 0
       ·rw [if_pos c42] at H
        have c42b0 : (t207 == 0) = true := beq_iff_eq.mpr c42
        have c42b1 : (t207 != 0) = false := bne_eq_false_iff_eq.mpr c42
        clear c42
        (first | rw [c42b0] | (simp only [i64_w, i32_w]; rw [c42b0]) | skip)
        replace H := Option.bind_eq_some_iff.mp H
        obtain ⟨t212, A430, H⟩ := H
        replace H : (patchbaylaw2_AdvEncodes.j1 kj6 t212 a0_0 a0_1 a0_2 l0_3 a1_0 a1_1 a1_2 l1_3) = some r := H
        have A43 := Aside0.mk A430
        clear A430
        have H' := Aside0.mk H
        clear H
        have hnb44 := NB205_204.out
        have hnc44 := NB204_205.out
        obtain ⟨hcz45_0, hcz45_1, hcz45_2, hcz45_3, hfz45_0⟩ := Fit.cells4 BK205.out
        go_wp2_with (first | (go_at_call 8; (with_reducible refine (patchbayref2_AdvFault.calls kj6 a1_0 a1_1 a1_2 _ _ l1_3 t212 _ ?side1 ?side2 A43.out).mono ?_); (case side1 => repeat (first | exact (Kd.C_below HR1_3.out HB.out) | (with_reducible refine Kd.C_alloc ?_ _) | (with_reducible refine Kd.C_drewN ?_ _) | (with_reducible refine Kd.C_drew ?_))); (case side2 => exact HC1_3.out); rintro e w46 ⟨rfl, hb⟩; have n0_ := Aside0.mk (blk_below (g := gb204) (Fit.pk BK204.out) hb); have n1_ := Aside0.mk (blk_below (g := gb205) (Fit.pk BK205.out) hb); have n2_ := Aside0.mk (below_step (Fit.bl HB.out) hb); clear BK204; clear BK205; clear HB; have BK204 := n0_; have BK205 := n1_; have HB := n2_; clear n0_ n1_ n2_; (try clear hb); (try clear hb2); (try clear hk); (try clear hi)))
        repeat (go_quiet (first | (go_at_call 8; (with_reducible refine (patchbayref2_AdvFault.calls kj6 a1_0 a1_1 a1_2 _ _ l1_3 t212 _ ?side1 ?side2 A43.out).mono ?_); (case side1 => repeat (first | exact (Kd.C_below HR1_3.out HB.out) | (with_reducible refine Kd.C_alloc ?_ _) | (with_reducible refine Kd.C_drewN ?_ _) | (with_reducible refine Kd.C_drew ?_))); (case side2 => exact HC1_3.out); rintro e w46 ⟨rfl, hb⟩; have n0_ := Aside0.mk (blk_below (g := gb204) (Fit.pk BK204.out) hb); have n1_ := Aside0.mk (blk_below (g := gb205) (Fit.pk BK205.out) hb); have n2_ := Aside0.mk (below_step (Fit.bl HB.out) hb); clear BK204; clear BK205; clear HB; have BK204 := n0_; have BK205 := n1_; have HB := n2_; clear n0_ n1_ n2_; (try clear hb); (try clear hb2); (try clear hk); (try clear hi))); try go_wp2_with (first | (go_at_call 8; (with_reducible refine (patchbayref2_AdvFault.calls kj6 a1_0 a1_1 a1_2 _ _ l1_3 t212 _ ?side1 ?side2 A43.out).mono ?_); (case side1 => repeat (first | exact (Kd.C_below HR1_3.out HB.out) | (with_reducible refine Kd.C_alloc ?_ _) | (with_reducible refine Kd.C_drewN ?_ _) | (with_reducible refine Kd.C_drew ?_))); (case side2 => exact HC1_3.out); rintro e w46 ⟨rfl, hb⟩; have n0_ := Aside0.mk (blk_below (g := gb204) (Fit.pk BK204.out) hb); have n1_ := Aside0.mk (blk_below (g := gb205) (Fit.pk BK205.out) hb); have n2_ := Aside0.mk (below_step (Fit.bl HB.out) hb); clear BK204; clear BK205; clear HB; have BK204 := n0_; have BK205 := n1_; have HB := n2_; clear n0_ n1_ n2_; (try clear hb); (try clear hb2); (try clear hk); (try clear hi))))
        go_meet
        case rel => exact ⟨_, (t212), (by first | rfl | (simp; done) | (simp [*]; done)), H', ⟨by have := HJ6.out; first | omega | exact Nat.le_refl _⟩, ⟨by (with_reducible repeat first | apply blk_drewN | apply blk_drew | apply blk_alloc); exact BK204.out⟩, ⟨by (with_reducible repeat first | apply blk_drewN | apply blk_drew | apply blk_alloc); exact BK205.out⟩, ⟨Fit.bl HB.out⟩⟩
       ·rw [if_neg c42] at H
        have c42b0 : (t207 == 0) = false := beq_eq_false_iff_ne.mpr c42
        have c42b1 : (t207 != 0) = true := bne_iff_ne.mpr c42
        (first | rw [c42b0] | (simp only [i64_w, i32_w]; rw [c42b0]) | skip)
        have H' := Aside0.mk H
        clear H
        go_wp2
        repeat (go_quiet (fail); try go_wp2)
        go_meet
        case rel => exact ⟨_, (t207), (by first | rfl | (simp; done) | (simp [*]; done)), H', ⟨by have := HJ6.out; first | omega | exact Nat.le_refl _⟩, ⟨by (with_reducible repeat first | apply blk_drewN | apply blk_drew | apply blk_alloc); exact BK204.out⟩, ⟨by (with_reducible repeat first | apply blk_drewN | apply blk_drew | apply blk_alloc); exact BK205.out⟩, ⟨Fit.bl HB.out⟩⟩
      case rest =>
       clear HC41
       try clear c1
       try clear c2
       try clear p2
       try clear c3
       try clear c4
       try clear c11
       try clear c18
       try clear c18b0
       try clear c18b1
       try clear c19
       try clear c19b0
       try clear c19b1
       try clear c20
       try clear c20b0
       try clear c20b1
       try clear c22
       try clear c27
       try clear c27b0
       try clear c27b1
       try clear c28
       try clear c31
       try clear c34
       try clear c37
       try clear c40
       try clear c42
       try clear c42b0
       try clear c42b1
       try clear c44
       try clear hcz12_0
       try clear hcz12_1
       try clear hcz12_2
       try clear hcz12_3
       try clear hcz13_0
       try clear hcz13_1
       try clear hcz13_2
       try clear hcz13_3
       try clear hcz15_0
       try clear hcz15_1
       try clear hcz15_2
       try clear hcz15_3
       try clear hcz23_0
       try clear hcz23_1
       try clear hcz23_2
       try clear hcz23_3
       try clear hcz25_0
       try clear hcz25_1
       try clear hcz25_2
       try clear hcz25_3
       try clear hcz29_0
       try clear hcz29_1
       try clear hcz29_2
       try clear hcz29_3
       try clear hcz32_0
       try clear hcz32_1
       try clear hcz32_2
       try clear hcz32_3
       try clear hcz35_0
       try clear hcz35_1
       try clear hcz35_2
       try clear hcz35_3
       try clear hcz38_0
       try clear hcz38_1
       try clear hcz38_2
       try clear hcz38_3
       try clear hcz45_0
       try clear hcz45_1
       try clear hcz45_2
       try clear hcz45_3
       try clear hfz12_0
       try clear hfz13_0
       try clear hfz15_0
       try clear hfz23_0
       try clear hfz25_0
       try clear hfz29_0
       try clear hfz32_0
       try clear hfz35_0
       try clear hfz38_0
       try clear hfz45_0
       try clear p2
       obtain ⟨kq, x5_40, rfl, HA, HJ40, BK204, BK205, HB⟩ := hcut
       cases kq with
       | zero => exact absurd HA.out (by simp [patchbaylaw2_AdvEncodes.j1])
       | succ kj40 =>
        have H := HA.out
        clear HA
        simp only [patchbaylaw2_AdvEncodes.j1] at H
        have HC47 := Aside0.mk H
        clear H
        go_upto_region 10 with (fail)
        repeat (go_quiet (fail); go_upto_region 10 with (fail))
        go_cut [65] (fun v65 wc => ∃ (kq : Nat) (x65_46 : Bool), v65 = .bool x65_46 ∧ Aside0 (patchbaylaw2_AdvEncodes.j2 kq x5_40 x65_46 a0_0 a0_1 a0_2 l0_3 a1_0 a1_1 a1_2 l1_3 = some r) ∧ Aside0 (kq ≤ kj40) ∧ Aside0 (wc.heap[gb204]? = some (.cells #[.int .i64 a0_0, .int .i64 a0_1, .int .i64 a0_2, (.slice A0_3 l0_3.length c0_3)] 24 (0, 0))) ∧ Aside0 (wc.heap[gb205]? = some (.cells #[.int .i64 a1_0, .int .i64 a1_1, .int .i64 a1_2, (.slice A1_3 l1_3.length c1_3)] 24 (0, 0))) ∧ Aside0 (Below w.heap.size w wc))
        case first =>
         have H := HC47.out
         clear HC47
         by_cases c48 : x5_40 = 0
         ·rw [if_pos c48] at H
          have c48b0 : (x5_40 == 0) = true := beq_iff_eq.mpr c48
          have c48b1 : (x5_40 != 0) = false := bne_eq_false_iff_eq.mpr c48
          clear c48
          (first | rw [c48b0] | (simp only [i64_w, i32_w]; rw [c48b0]) | skip)
          have H' := Aside0.mk H
          clear H
          have hnb49 := NB204_205.out
          have hnc49 := NB205_204.out
          obtain ⟨hcz50_0, hcz50_1, hcz50_2, hcz50_3, hfz50_0⟩ := Fit.cells4 BK204.out
          obtain ⟨hcz51_0, hcz51_1, hcz51_2, hcz51_3, hfz51_0⟩ := Fit.cells4 BK205.out
          go_wp2
          repeat (go_quiet (fail); try go_wp2)
          go_meet
          case rel => exact ⟨_, ((a0_0 != a1_0)), (by first | rfl | (simp; done) | (simp [*]; done)), H', ⟨by have := HJ6.out; have := HJ40.out; first | omega | exact Nat.le_refl _⟩, ⟨by (with_reducible repeat first | apply blk_drewN | apply blk_drew | apply blk_alloc); exact BK204.out⟩, ⟨by (with_reducible repeat first | apply blk_drewN | apply blk_drew | apply blk_alloc); exact BK205.out⟩, ⟨Fit.bl HB.out⟩⟩
         ·rw [if_neg c48] at H
          have c48b0 : (x5_40 == 0) = false := beq_eq_false_iff_ne.mpr c48
          have c48b1 : (x5_40 != 0) = true := bne_iff_ne.mpr c48
          (first | rw [c48b0] | (simp only [i64_w, i32_w]; rw [c48b0]) | skip)
          have H' := Aside0.mk H
          clear H
          go_wp2
          repeat (go_quiet (fail); try go_wp2)
          go_meet
          case rel => exact ⟨_, (false), (by first | rfl | (simp; done) | (simp [*]; done)), H', ⟨by have := HJ6.out; have := HJ40.out; first | omega | exact Nat.le_refl _⟩, ⟨by (with_reducible repeat first | apply blk_drewN | apply blk_drew | apply blk_alloc); exact BK204.out⟩, ⟨by (with_reducible repeat first | apply blk_drewN | apply blk_drew | apply blk_alloc); exact BK205.out⟩, ⟨Fit.bl HB.out⟩⟩
        case rest =>
         clear HC47
         try clear c1
         try clear c2
         try clear p2
         try clear c3
         try clear c4
         try clear c11
         try clear c18
         try clear c18b0
         try clear c18b1
         try clear c19
         try clear c19b0
         try clear c19b1
         try clear c20
         try clear c20b0
         try clear c20b1
         try clear c22
         try clear c27
         try clear c27b0
         try clear c27b1
         try clear c28
         try clear c31
         try clear c34
         try clear c37
         try clear c40
         try clear c42
         try clear c42b0
         try clear c42b1
         try clear c44
         try clear c48
         try clear c48b0
         try clear c48b1
         try clear c49
         try clear hcz12_0
         try clear hcz12_1
         try clear hcz12_2
         try clear hcz12_3
         try clear hcz13_0
         try clear hcz13_1
         try clear hcz13_2
         try clear hcz13_3
         try clear hcz15_0
         try clear hcz15_1
         try clear hcz15_2
         try clear hcz15_3
         try clear hcz23_0
         try clear hcz23_1
         try clear hcz23_2
         try clear hcz23_3
         try clear hcz25_0
         try clear hcz25_1
         try clear hcz25_2
         try clear hcz25_3
         try clear hcz29_0
         try clear hcz29_1
         try clear hcz29_2
         try clear hcz29_3
         try clear hcz32_0
         try clear hcz32_1
         try clear hcz32_2
         try clear hcz32_3
         try clear hcz35_0
         try clear hcz35_1
         try clear hcz35_2
         try clear hcz35_3
         try clear hcz38_0
         try clear hcz38_1
         try clear hcz38_2
         try clear hcz38_3
         try clear hcz45_0
         try clear hcz45_1
         try clear hcz45_2
         try clear hcz45_3
         try clear hcz50_0
         try clear hcz50_1
         try clear hcz50_2
         try clear hcz50_3
         try clear hcz51_0
         try clear hcz51_1
         try clear hcz51_2
         try clear hcz51_3
         try clear hfz12_0
         try clear hfz13_0
         try clear hfz15_0
         try clear hfz23_0
         try clear hfz25_0
         try clear hfz29_0
         try clear hfz32_0
         try clear hfz35_0
         try clear hfz38_0
         try clear hfz45_0
         try clear hfz50_0
         try clear hfz51_0
         try clear p2
         obtain ⟨kq, x65_46, rfl, HA, HJ46, BK204, BK205, HB⟩ := hcut
         cases kq with
         | zero => exact absurd HA.out (by simp [patchbaylaw2_AdvEncodes.j2])
         | succ kj46 =>
          have H := HA.out
          clear HA
          simp only [patchbaylaw2_AdvEncodes.j2] at H
          have HC52 := Aside0.mk H
          clear H
          go_upto_if 65 with (fail)
          repeat (go_quiet (fail); go_upto_if 65 with (fail))
          go_cut [5] (fun v5 wc => ∃ (kq : Nat) (x5_51 : Int), v5 = .int .i64 x5_51 ∧ Aside0 (patchbaylaw2_AdvEncodes.j3 kq x5_51 a0_0 a0_1 a0_2 l0_3 a1_0 a1_1 a1_2 l1_3 = some r) ∧ Aside0 (kq ≤ kj46) ∧ Aside0 (wc.heap[gb204]? = some (.cells #[.int .i64 a0_0, .int .i64 a0_1, .int .i64 a0_2, (.slice A0_3 l0_3.length c0_3)] 24 (0, 0))) ∧ Aside0 (wc.heap[gb205]? = some (.cells #[.int .i64 a1_0, .int .i64 a1_1, .int .i64 a1_2, (.slice A1_3 l1_3.length c1_3)] 24 (0, 0))) ∧ Aside0 (Below w.heap.size w wc))
          case first =>
           have H := HC52.out
           clear HC52
           by_cases c53 : x65_46 = true
           ·subst c53
            have H1 : (patchbaylaw2_AdvEncodes.j3 kj46 1 a0_0 a0_1 a0_2 l0_3 a1_0 a1_1 a1_2 l1_3) = some r := by rw [if_pos rfl] at H; exact H
            clear H
            have H := H1
            clear H1
            have H' := Aside0.mk H
            clear H
            go_wp2
            repeat (go_quiet (fail); try go_wp2)
            go_meet
            case rel => exact ⟨_, (1), (by first | rfl | (simp; done) | (simp [*]; done)), H', ⟨by have := HJ6.out; have := HJ40.out; have := HJ46.out; first | omega | exact Nat.le_refl _⟩, ⟨by (with_reducible repeat first | apply blk_drewN | apply blk_drew | apply blk_alloc); exact BK204.out⟩, ⟨by (with_reducible repeat first | apply blk_drewN | apply blk_drew | apply blk_alloc); exact BK205.out⟩, ⟨Fit.bl HB.out⟩⟩
           ·replace c53 := Bool.eq_false_iff.mpr c53
            subst c53
            have H1 : (patchbaylaw2_AdvEncodes.j3 kj46 x5_40 a0_0 a0_1 a0_2 l0_3 a1_0 a1_1 a1_2 l1_3) = some r := by rw [if_neg (show ¬ (false = true) by decide)] at H; exact H
            clear H
            have H := H1
            clear H1
            have H' := Aside0.mk H
            clear H
            go_wp2
            repeat (go_quiet (fail); try go_wp2)
            go_meet
            case rel => exact ⟨_, (x5_40), (by first | rfl | (simp; done) | (simp [*]; done)), H', ⟨by have := HJ6.out; have := HJ40.out; have := HJ46.out; first | omega | exact Nat.le_refl _⟩, ⟨by (with_reducible repeat first | apply blk_drewN | apply blk_drew | apply blk_alloc); exact BK204.out⟩, ⟨by (with_reducible repeat first | apply blk_drewN | apply blk_drew | apply blk_alloc); exact BK205.out⟩, ⟨Fit.bl HB.out⟩⟩
          case rest =>
           clear HC52
           try clear c1
           try clear c2
           try clear p2
           try clear c3
           try clear c4
           try clear c5
           try clear c11
           try clear c18
           try clear c18b0
           try clear c18b1
           try clear c19
           try clear c19b0
           try clear c19b1
           try clear c20
           try clear c20b0
           try clear c20b1
           try clear c22
           try clear c27
           try clear c27b0
           try clear c27b1
           try clear c28
           try clear c31
           try clear c34
           try clear c37
           try clear c40
           try clear c42
           try clear c42b0
           try clear c42b1
           try clear c44
           try clear c48
           try clear c48b0
           try clear c48b1
           try clear c49
           try clear c53
           try clear hcz12_0
           try clear hcz12_1
           try clear hcz12_2
           try clear hcz12_3
           try clear hcz13_0
           try clear hcz13_1
           try clear hcz13_2
           try clear hcz13_3
           try clear hcz15_0
           try clear hcz15_1
           try clear hcz15_2
           try clear hcz15_3
           try clear hcz23_0
           try clear hcz23_1
           try clear hcz23_2
           try clear hcz23_3
           try clear hcz25_0
           try clear hcz25_1
           try clear hcz25_2
           try clear hcz25_3
           try clear hcz29_0
           try clear hcz29_1
           try clear hcz29_2
           try clear hcz29_3
           try clear hcz32_0
           try clear hcz32_1
           try clear hcz32_2
           try clear hcz32_3
           try clear hcz35_0
           try clear hcz35_1
           try clear hcz35_2
           try clear hcz35_3
           try clear hcz38_0
           try clear hcz38_1
           try clear hcz38_2
           try clear hcz38_3
           try clear hcz45_0
           try clear hcz45_1
           try clear hcz45_2
           try clear hcz45_3
           try clear hcz50_0
           try clear hcz50_1
           try clear hcz50_2
           try clear hcz50_3
           try clear hcz51_0
           try clear hcz51_1
           try clear hcz51_2
           try clear hcz51_3
           try clear hfz12_0
           try clear hfz13_0
           try clear hfz15_0
           try clear hfz23_0
           try clear hfz25_0
           try clear hfz29_0
           try clear hfz32_0
           try clear hfz35_0
           try clear hfz38_0
           try clear hfz45_0
           try clear hfz50_0
           try clear hfz51_0
           try clear p2
           obtain ⟨kq, x5_51, rfl, HA, HJ51, BK204, BK205, HB⟩ := hcut
           cases kq with
           | zero => exact absurd HA.out (by simp [patchbaylaw2_AdvEncodes.j3])
           | succ kj51 =>
            have H := HA.out
            clear HA
            simp only [patchbaylaw2_AdvEncodes.j3] at H
            replace H := Option.bind_eq_some_iff.mp H
            obtain ⟨⟨t213, t214⟩, A540, H⟩ := H
            replace H : (if x5_51 = 0 then (if t214 = 0 then ((patchbayref2_AdvNewer.f kj51 a0_0 a0_1 a0_2 l0_3 a1_0 a1_1 a1_2 l1_3).bind fun t215 => (some (t213 == t215))) else (some false)) else (if t214 = x5_51 then (some (t213 == 0)) else (some false))) = some r := H
            have A54 := Aside0.mk A540
            clear A540
            by_cases c55 : x5_51 = 0
            ·rw [if_pos c55] at H
             have c55b0 : (x5_51 == 0) = true := beq_iff_eq.mpr c55
             have c55b1 : (x5_51 != 0) = false := bne_eq_false_iff_eq.mpr c55
             clear c55
             by_cases c56 : t214 = 0
             ·rw [if_pos c56] at H
              have c56b0 : (t214 == 0) = true := beq_iff_eq.mpr c56
              have c56b1 : (t214 != 0) = false := bne_eq_false_iff_eq.mpr c56
              clear c56
              replace H := Option.bind_eq_some_iff.mp H
              obtain ⟨t215, A570, H⟩ := H
              replace H : (some (t213 == t215)) = some r := H
              have A57 := Aside0.mk A570
              clear A570
              obtain rfl := Option.some.inj H
              have hnb58 := NB204_205.out
              have hnc58 := NB205_204.out
              obtain ⟨hcz59_0, hcz59_1, hcz59_2, hcz59_3, hfz59_0⟩ := Fit.cells4 BK204.out
              obtain ⟨hcz60_0, hcz60_1, hcz60_2, hcz60_3, hfz60_0⟩ := Fit.cells4 BK205.out
              go_wp2_with (first | (go_at_call 12; (with_reducible refine (adv_Newer.calls kj51 a0_0 a0_1 a0_2 _ _ l0_3 a1_0 a1_1 a1_2 _ _ l1_3 t213 t214 _ ?side1 ?side2 ?side3 ?side4 A54.out).mono ?_); (case side1 => repeat (first | exact (Kd.C_below HR0_3.out HB.out) | (with_reducible refine Kd.C_alloc ?_ _) | (with_reducible refine Kd.C_drewN ?_ _) | (with_reducible refine Kd.C_drew ?_))); (case side2 => exact HC0_3.out); (case side3 => repeat (first | exact (Kd.C_below HR1_3.out HB.out) | (with_reducible refine Kd.C_alloc ?_ _) | (with_reducible refine Kd.C_drewN ?_ _) | (with_reducible refine Kd.C_drew ?_))); (case side4 => exact HC1_3.out); rintro e w61 ⟨rfl, hb⟩; have n0_ := Aside0.mk (blk_below (g := gb204) (Fit.pk BK204.out) hb); have n1_ := Aside0.mk (blk_below (g := gb205) (Fit.pk BK205.out) hb); have n2_ := Aside0.mk (below_step (Fit.bl HB.out) hb); clear BK204; clear BK205; clear HB; have BK204 := n0_; have BK205 := n1_; have HB := n2_; clear n0_ n1_ n2_; (try clear hb); (try clear hb2); (try clear hk); (try clear hi); obtain ⟨hcz62_0, hcz62_1, hcz62_2, hcz62_3, hfz62_0⟩ := Fit.cells4 BK204.out; obtain ⟨hcz63_0, hcz63_1, hcz63_2, hcz63_3, hfz63_0⟩ := Fit.cells4 BK205.out) | (go_at_call 13; (with_reducible refine (patchbayref2_AdvNewer.calls kj51 a0_0 a0_1 a0_2 _ _ l0_3 a1_0 a1_1 a1_2 _ _ l1_3 t215 _ ?side1 ?side2 ?side3 ?side4 A57.out).mono ?_); (case side1 => repeat (first | exact (Kd.C_below HR0_3.out HB.out) | (with_reducible refine Kd.C_alloc ?_ _) | (with_reducible refine Kd.C_drewN ?_ _) | (with_reducible refine Kd.C_drew ?_))); (case side2 => exact HC0_3.out); (case side3 => repeat (first | exact (Kd.C_below HR1_3.out HB.out) | (with_reducible refine Kd.C_alloc ?_ _) | (with_reducible refine Kd.C_drewN ?_ _) | (with_reducible refine Kd.C_drew ?_))); (case side4 => exact HC1_3.out); rintro e w64 ⟨rfl, hb⟩; have n0_ := Aside0.mk (blk_below (g := gb204) (Fit.pk BK204.out) hb); have n1_ := Aside0.mk (blk_below (g := gb205) (Fit.pk BK205.out) hb); have n2_ := Aside0.mk (below_step (Fit.bl HB.out) hb); clear BK204; clear BK205; clear HB; have BK204 := n0_; have BK205 := n1_; have HB := n2_; clear n0_ n1_ n2_; (try clear hb); (try clear hb2); (try clear hk); (try clear hi)))
              repeat (go_quiet (first | (go_at_call 12; (with_reducible refine (adv_Newer.calls kj51 a0_0 a0_1 a0_2 _ _ l0_3 a1_0 a1_1 a1_2 _ _ l1_3 t213 t214 _ ?side1 ?side2 ?side3 ?side4 A54.out).mono ?_); (case side1 => repeat (first | exact (Kd.C_below HR0_3.out HB.out) | (with_reducible refine Kd.C_alloc ?_ _) | (with_reducible refine Kd.C_drewN ?_ _) | (with_reducible refine Kd.C_drew ?_))); (case side2 => exact HC0_3.out); (case side3 => repeat (first | exact (Kd.C_below HR1_3.out HB.out) | (with_reducible refine Kd.C_alloc ?_ _) | (with_reducible refine Kd.C_drewN ?_ _) | (with_reducible refine Kd.C_drew ?_))); (case side4 => exact HC1_3.out); rintro e w61 ⟨rfl, hb⟩; have n0_ := Aside0.mk (blk_below (g := gb204) (Fit.pk BK204.out) hb); have n1_ := Aside0.mk (blk_below (g := gb205) (Fit.pk BK205.out) hb); have n2_ := Aside0.mk (below_step (Fit.bl HB.out) hb); clear BK204; clear BK205; clear HB; have BK204 := n0_; have BK205 := n1_; have HB := n2_; clear n0_ n1_ n2_; (try clear hb); (try clear hb2); (try clear hk); (try clear hi); obtain ⟨hcz62_0, hcz62_1, hcz62_2, hcz62_3, hfz62_0⟩ := Fit.cells4 BK204.out; obtain ⟨hcz63_0, hcz63_1, hcz63_2, hcz63_3, hfz63_0⟩ := Fit.cells4 BK205.out) | (go_at_call 13; (with_reducible refine (patchbayref2_AdvNewer.calls kj51 a0_0 a0_1 a0_2 _ _ l0_3 a1_0 a1_1 a1_2 _ _ l1_3 t215 _ ?side1 ?side2 ?side3 ?side4 A57.out).mono ?_); (case side1 => repeat (first | exact (Kd.C_below HR0_3.out HB.out) | (with_reducible refine Kd.C_alloc ?_ _) | (with_reducible refine Kd.C_drewN ?_ _) | (with_reducible refine Kd.C_drew ?_))); (case side2 => exact HC0_3.out); (case side3 => repeat (first | exact (Kd.C_below HR1_3.out HB.out) | (with_reducible refine Kd.C_alloc ?_ _) | (with_reducible refine Kd.C_drewN ?_ _) | (with_reducible refine Kd.C_drew ?_))); (case side4 => exact HC1_3.out); rintro e w64 ⟨rfl, hb⟩; have n0_ := Aside0.mk (blk_below (g := gb204) (Fit.pk BK204.out) hb); have n1_ := Aside0.mk (blk_below (g := gb205) (Fit.pk BK205.out) hb); have n2_ := Aside0.mk (below_step (Fit.bl HB.out) hb); clear BK204; clear BK205; clear HB; have BK204 := n0_; have BK205 := n1_; have HB := n2_; clear n0_ n1_ n2_; (try clear hb); (try clear hb2); (try clear hk); (try clear hi))); try go_wp2_with (first | (go_at_call 12; (with_reducible refine (adv_Newer.calls kj51 a0_0 a0_1 a0_2 _ _ l0_3 a1_0 a1_1 a1_2 _ _ l1_3 t213 t214 _ ?side1 ?side2 ?side3 ?side4 A54.out).mono ?_); (case side1 => repeat (first | exact (Kd.C_below HR0_3.out HB.out) | (with_reducible refine Kd.C_alloc ?_ _) | (with_reducible refine Kd.C_drewN ?_ _) | (with_reducible refine Kd.C_drew ?_))); (case side2 => exact HC0_3.out); (case side3 => repeat (first | exact (Kd.C_below HR1_3.out HB.out) | (with_reducible refine Kd.C_alloc ?_ _) | (with_reducible refine Kd.C_drewN ?_ _) | (with_reducible refine Kd.C_drew ?_))); (case side4 => exact HC1_3.out); rintro e w61 ⟨rfl, hb⟩; have n0_ := Aside0.mk (blk_below (g := gb204) (Fit.pk BK204.out) hb); have n1_ := Aside0.mk (blk_below (g := gb205) (Fit.pk BK205.out) hb); have n2_ := Aside0.mk (below_step (Fit.bl HB.out) hb); clear BK204; clear BK205; clear HB; have BK204 := n0_; have BK205 := n1_; have HB := n2_; clear n0_ n1_ n2_; (try clear hb); (try clear hb2); (try clear hk); (try clear hi); obtain ⟨hcz62_0, hcz62_1, hcz62_2, hcz62_3, hfz62_0⟩ := Fit.cells4 BK204.out; obtain ⟨hcz63_0, hcz63_1, hcz63_2, hcz63_3, hfz63_0⟩ := Fit.cells4 BK205.out) | (go_at_call 13; (with_reducible refine (patchbayref2_AdvNewer.calls kj51 a0_0 a0_1 a0_2 _ _ l0_3 a1_0 a1_1 a1_2 _ _ l1_3 t215 _ ?side1 ?side2 ?side3 ?side4 A57.out).mono ?_); (case side1 => repeat (first | exact (Kd.C_below HR0_3.out HB.out) | (with_reducible refine Kd.C_alloc ?_ _) | (with_reducible refine Kd.C_drewN ?_ _) | (with_reducible refine Kd.C_drew ?_))); (case side2 => exact HC0_3.out); (case side3 => repeat (first | exact (Kd.C_below HR1_3.out HB.out) | (with_reducible refine Kd.C_alloc ?_ _) | (with_reducible refine Kd.C_drewN ?_ _) | (with_reducible refine Kd.C_drew ?_))); (case side4 => exact HC1_3.out); rintro e w64 ⟨rfl, hb⟩; have n0_ := Aside0.mk (blk_below (g := gb204) (Fit.pk BK204.out) hb); have n1_ := Aside0.mk (blk_below (g := gb205) (Fit.pk BK205.out) hb); have n2_ := Aside0.mk (below_step (Fit.bl HB.out) hb); clear BK204; clear BK205; clear HB; have BK204 := n0_; have BK205 := n1_; have HB := n2_; clear n0_ n1_ n2_; (try clear hb); (try clear hb2); (try clear hk); (try clear hi))))
              go_ret
              exact ⟨by first | rfl | (simp [errW_none, errW_some] <;> rfl) | (simp [*, errW_none, errW_some] <;> rfl), Fit.bl HB.out⟩
             ·rw [if_neg c56] at H
              have c56b0 : (t214 == 0) = false := beq_eq_false_iff_ne.mpr c56
              have c56b1 : (t214 != 0) = true := bne_iff_ne.mpr c56
              obtain rfl := Option.some.inj H
              have hnb65 := NB204_205.out
              have hnc65 := NB205_204.out
              obtain ⟨hcz66_0, hcz66_1, hcz66_2, hcz66_3, hfz66_0⟩ := Fit.cells4 BK204.out
              obtain ⟨hcz67_0, hcz67_1, hcz67_2, hcz67_3, hfz67_0⟩ := Fit.cells4 BK205.out
              go_wp2_with (first | (go_at_call 12; (with_reducible refine (adv_Newer.calls kj51 a0_0 a0_1 a0_2 _ _ l0_3 a1_0 a1_1 a1_2 _ _ l1_3 t213 t214 _ ?side1 ?side2 ?side3 ?side4 A54.out).mono ?_); (case side1 => repeat (first | exact (Kd.C_below HR0_3.out HB.out) | (with_reducible refine Kd.C_alloc ?_ _) | (with_reducible refine Kd.C_drewN ?_ _) | (with_reducible refine Kd.C_drew ?_))); (case side2 => exact HC0_3.out); (case side3 => repeat (first | exact (Kd.C_below HR1_3.out HB.out) | (with_reducible refine Kd.C_alloc ?_ _) | (with_reducible refine Kd.C_drewN ?_ _) | (with_reducible refine Kd.C_drew ?_))); (case side4 => exact HC1_3.out); rintro e w68 ⟨rfl, hb⟩; have n0_ := Aside0.mk (blk_below (g := gb204) (Fit.pk BK204.out) hb); have n1_ := Aside0.mk (blk_below (g := gb205) (Fit.pk BK205.out) hb); have n2_ := Aside0.mk (below_step (Fit.bl HB.out) hb); clear BK204; clear BK205; clear HB; have BK204 := n0_; have BK205 := n1_; have HB := n2_; clear n0_ n1_ n2_; (try clear hb); (try clear hb2); (try clear hk); (try clear hi)))
              repeat (go_quiet (first | (go_at_call 12; (with_reducible refine (adv_Newer.calls kj51 a0_0 a0_1 a0_2 _ _ l0_3 a1_0 a1_1 a1_2 _ _ l1_3 t213 t214 _ ?side1 ?side2 ?side3 ?side4 A54.out).mono ?_); (case side1 => repeat (first | exact (Kd.C_below HR0_3.out HB.out) | (with_reducible refine Kd.C_alloc ?_ _) | (with_reducible refine Kd.C_drewN ?_ _) | (with_reducible refine Kd.C_drew ?_))); (case side2 => exact HC0_3.out); (case side3 => repeat (first | exact (Kd.C_below HR1_3.out HB.out) | (with_reducible refine Kd.C_alloc ?_ _) | (with_reducible refine Kd.C_drewN ?_ _) | (with_reducible refine Kd.C_drew ?_))); (case side4 => exact HC1_3.out); rintro e w68 ⟨rfl, hb⟩; have n0_ := Aside0.mk (blk_below (g := gb204) (Fit.pk BK204.out) hb); have n1_ := Aside0.mk (blk_below (g := gb205) (Fit.pk BK205.out) hb); have n2_ := Aside0.mk (below_step (Fit.bl HB.out) hb); clear BK204; clear BK205; clear HB; have BK204 := n0_; have BK205 := n1_; have HB := n2_; clear n0_ n1_ n2_; (try clear hb); (try clear hb2); (try clear hk); (try clear hi))); try go_wp2_with (first | (go_at_call 12; (with_reducible refine (adv_Newer.calls kj51 a0_0 a0_1 a0_2 _ _ l0_3 a1_0 a1_1 a1_2 _ _ l1_3 t213 t214 _ ?side1 ?side2 ?side3 ?side4 A54.out).mono ?_); (case side1 => repeat (first | exact (Kd.C_below HR0_3.out HB.out) | (with_reducible refine Kd.C_alloc ?_ _) | (with_reducible refine Kd.C_drewN ?_ _) | (with_reducible refine Kd.C_drew ?_))); (case side2 => exact HC0_3.out); (case side3 => repeat (first | exact (Kd.C_below HR1_3.out HB.out) | (with_reducible refine Kd.C_alloc ?_ _) | (with_reducible refine Kd.C_drewN ?_ _) | (with_reducible refine Kd.C_drew ?_))); (case side4 => exact HC1_3.out); rintro e w68 ⟨rfl, hb⟩; have n0_ := Aside0.mk (blk_below (g := gb204) (Fit.pk BK204.out) hb); have n1_ := Aside0.mk (blk_below (g := gb205) (Fit.pk BK205.out) hb); have n2_ := Aside0.mk (below_step (Fit.bl HB.out) hb); clear BK204; clear BK205; clear HB; have BK204 := n0_; have BK205 := n1_; have HB := n2_; clear n0_ n1_ n2_; (try clear hb); (try clear hb2); (try clear hk); (try clear hi))))
              go_ret
              exact ⟨by first | rfl | (simp [errW_none, errW_some] <;> rfl) | (simp [*, errW_none, errW_some] <;> rfl), Fit.bl HB.out⟩
            ·rw [if_neg c55] at H
             have c55b0 : (x5_51 == 0) = false := beq_eq_false_iff_ne.mpr c55
             have c55b1 : (x5_51 != 0) = true := bne_iff_ne.mpr c55
             by_cases c69 : t214 = x5_51
             ·rw [if_pos c69] at H
              have c69b0 : (t214 == x5_51) = true := beq_iff_eq.mpr c69
              have c69b1 : (t214 != x5_51) = false := bne_eq_false_iff_eq.mpr c69
              clear c69
              obtain rfl := Option.some.inj H
              have hnb70 := NB204_205.out
              have hnc70 := NB205_204.out
              obtain ⟨hcz71_0, hcz71_1, hcz71_2, hcz71_3, hfz71_0⟩ := Fit.cells4 BK204.out
              obtain ⟨hcz72_0, hcz72_1, hcz72_2, hcz72_3, hfz72_0⟩ := Fit.cells4 BK205.out
              go_wp2_with (first | (go_at_call 12; (with_reducible refine (adv_Newer.calls kj51 a0_0 a0_1 a0_2 _ _ l0_3 a1_0 a1_1 a1_2 _ _ l1_3 t213 t214 _ ?side1 ?side2 ?side3 ?side4 A54.out).mono ?_); (case side1 => repeat (first | exact (Kd.C_below HR0_3.out HB.out) | (with_reducible refine Kd.C_alloc ?_ _) | (with_reducible refine Kd.C_drewN ?_ _) | (with_reducible refine Kd.C_drew ?_))); (case side2 => exact HC0_3.out); (case side3 => repeat (first | exact (Kd.C_below HR1_3.out HB.out) | (with_reducible refine Kd.C_alloc ?_ _) | (with_reducible refine Kd.C_drewN ?_ _) | (with_reducible refine Kd.C_drew ?_))); (case side4 => exact HC1_3.out); rintro e w73 ⟨rfl, hb⟩; have n0_ := Aside0.mk (blk_below (g := gb204) (Fit.pk BK204.out) hb); have n1_ := Aside0.mk (blk_below (g := gb205) (Fit.pk BK205.out) hb); have n2_ := Aside0.mk (below_step (Fit.bl HB.out) hb); clear BK204; clear BK205; clear HB; have BK204 := n0_; have BK205 := n1_; have HB := n2_; clear n0_ n1_ n2_; (try clear hb); (try clear hb2); (try clear hk); (try clear hi)))
              repeat (go_quiet (first | (go_at_call 12; (with_reducible refine (adv_Newer.calls kj51 a0_0 a0_1 a0_2 _ _ l0_3 a1_0 a1_1 a1_2 _ _ l1_3 t213 t214 _ ?side1 ?side2 ?side3 ?side4 A54.out).mono ?_); (case side1 => repeat (first | exact (Kd.C_below HR0_3.out HB.out) | (with_reducible refine Kd.C_alloc ?_ _) | (with_reducible refine Kd.C_drewN ?_ _) | (with_reducible refine Kd.C_drew ?_))); (case side2 => exact HC0_3.out); (case side3 => repeat (first | exact (Kd.C_below HR1_3.out HB.out) | (with_reducible refine Kd.C_alloc ?_ _) | (with_reducible refine Kd.C_drewN ?_ _) | (with_reducible refine Kd.C_drew ?_))); (case side4 => exact HC1_3.out); rintro e w73 ⟨rfl, hb⟩; have n0_ := Aside0.mk (blk_below (g := gb204) (Fit.pk BK204.out) hb); have n1_ := Aside0.mk (blk_below (g := gb205) (Fit.pk BK205.out) hb); have n2_ := Aside0.mk (below_step (Fit.bl HB.out) hb); clear BK204; clear BK205; clear HB; have BK204 := n0_; have BK205 := n1_; have HB := n2_; clear n0_ n1_ n2_; (try clear hb); (try clear hb2); (try clear hk); (try clear hi))); try go_wp2_with (first | (go_at_call 12; (with_reducible refine (adv_Newer.calls kj51 a0_0 a0_1 a0_2 _ _ l0_3 a1_0 a1_1 a1_2 _ _ l1_3 t213 t214 _ ?side1 ?side2 ?side3 ?side4 A54.out).mono ?_); (case side1 => repeat (first | exact (Kd.C_below HR0_3.out HB.out) | (with_reducible refine Kd.C_alloc ?_ _) | (with_reducible refine Kd.C_drewN ?_ _) | (with_reducible refine Kd.C_drew ?_))); (case side2 => exact HC0_3.out); (case side3 => repeat (first | exact (Kd.C_below HR1_3.out HB.out) | (with_reducible refine Kd.C_alloc ?_ _) | (with_reducible refine Kd.C_drewN ?_ _) | (with_reducible refine Kd.C_drew ?_))); (case side4 => exact HC1_3.out); rintro e w73 ⟨rfl, hb⟩; have n0_ := Aside0.mk (blk_below (g := gb204) (Fit.pk BK204.out) hb); have n1_ := Aside0.mk (blk_below (g := gb205) (Fit.pk BK205.out) hb); have n2_ := Aside0.mk (below_step (Fit.bl HB.out) hb); clear BK204; clear BK205; clear HB; have BK204 := n0_; have BK205 := n1_; have HB := n2_; clear n0_ n1_ n2_; (try clear hb); (try clear hb2); (try clear hk); (try clear hi))))
              go_ret
              exact ⟨by first | rfl | (simp [errW_none, errW_some] <;> rfl) | (simp [*, errW_none, errW_some] <;> rfl), Fit.bl HB.out⟩
             ·rw [if_neg c69] at H
              have c69b0 : (t214 == x5_51) = false := beq_eq_false_iff_ne.mpr c69
              have c69b1 : (t214 != x5_51) = true := bne_iff_ne.mpr c69
              obtain rfl := Option.some.inj H
              have hnb74 := NB204_205.out
              have hnc74 := NB205_204.out
              obtain ⟨hcz75_0, hcz75_1, hcz75_2, hcz75_3, hfz75_0⟩ := Fit.cells4 BK204.out
              obtain ⟨hcz76_0, hcz76_1, hcz76_2, hcz76_3, hfz76_0⟩ := Fit.cells4 BK205.out
              go_wp2_with (first | (go_at_call 12; (with_reducible refine (adv_Newer.calls kj51 a0_0 a0_1 a0_2 _ _ l0_3 a1_0 a1_1 a1_2 _ _ l1_3 t213 t214 _ ?side1 ?side2 ?side3 ?side4 A54.out).mono ?_); (case side1 => repeat (first | exact (Kd.C_below HR0_3.out HB.out) | (with_reducible refine Kd.C_alloc ?_ _) | (with_reducible refine Kd.C_drewN ?_ _) | (with_reducible refine Kd.C_drew ?_))); (case side2 => exact HC0_3.out); (case side3 => repeat (first | exact (Kd.C_below HR1_3.out HB.out) | (with_reducible refine Kd.C_alloc ?_ _) | (with_reducible refine Kd.C_drewN ?_ _) | (with_reducible refine Kd.C_drew ?_))); (case side4 => exact HC1_3.out); rintro e w77 ⟨rfl, hb⟩; have n0_ := Aside0.mk (blk_below (g := gb204) (Fit.pk BK204.out) hb); have n1_ := Aside0.mk (blk_below (g := gb205) (Fit.pk BK205.out) hb); have n2_ := Aside0.mk (below_step (Fit.bl HB.out) hb); clear BK204; clear BK205; clear HB; have BK204 := n0_; have BK205 := n1_; have HB := n2_; clear n0_ n1_ n2_; (try clear hb); (try clear hb2); (try clear hk); (try clear hi)))
              repeat (go_quiet (first | (go_at_call 12; (with_reducible refine (adv_Newer.calls kj51 a0_0 a0_1 a0_2 _ _ l0_3 a1_0 a1_1 a1_2 _ _ l1_3 t213 t214 _ ?side1 ?side2 ?side3 ?side4 A54.out).mono ?_); (case side1 => repeat (first | exact (Kd.C_below HR0_3.out HB.out) | (with_reducible refine Kd.C_alloc ?_ _) | (with_reducible refine Kd.C_drewN ?_ _) | (with_reducible refine Kd.C_drew ?_))); (case side2 => exact HC0_3.out); (case side3 => repeat (first | exact (Kd.C_below HR1_3.out HB.out) | (with_reducible refine Kd.C_alloc ?_ _) | (with_reducible refine Kd.C_drewN ?_ _) | (with_reducible refine Kd.C_drew ?_))); (case side4 => exact HC1_3.out); rintro e w77 ⟨rfl, hb⟩; have n0_ := Aside0.mk (blk_below (g := gb204) (Fit.pk BK204.out) hb); have n1_ := Aside0.mk (blk_below (g := gb205) (Fit.pk BK205.out) hb); have n2_ := Aside0.mk (below_step (Fit.bl HB.out) hb); clear BK204; clear BK205; clear HB; have BK204 := n0_; have BK205 := n1_; have HB := n2_; clear n0_ n1_ n2_; (try clear hb); (try clear hb2); (try clear hk); (try clear hi))); try go_wp2_with (first | (go_at_call 12; (with_reducible refine (adv_Newer.calls kj51 a0_0 a0_1 a0_2 _ _ l0_3 a1_0 a1_1 a1_2 _ _ l1_3 t213 t214 _ ?side1 ?side2 ?side3 ?side4 A54.out).mono ?_); (case side1 => repeat (first | exact (Kd.C_below HR0_3.out HB.out) | (with_reducible refine Kd.C_alloc ?_ _) | (with_reducible refine Kd.C_drewN ?_ _) | (with_reducible refine Kd.C_drew ?_))); (case side2 => exact HC0_3.out); (case side3 => repeat (first | exact (Kd.C_below HR1_3.out HB.out) | (with_reducible refine Kd.C_alloc ?_ _) | (with_reducible refine Kd.C_drewN ?_ _) | (with_reducible refine Kd.C_drew ?_))); (case side4 => exact HC1_3.out); rintro e w77 ⟨rfl, hb⟩; have n0_ := Aside0.mk (blk_below (g := gb204) (Fit.pk BK204.out) hb); have n1_ := Aside0.mk (blk_below (g := gb205) (Fit.pk BK205.out) hb); have n2_ := Aside0.mk (below_step (Fit.bl HB.out) hb); clear BK204; clear BK205; clear HB; have BK204 := n0_; have BK205 := n1_; have HB := n2_; clear n0_ n1_ n2_; (try clear hb); (try clear hb2); (try clear hk); (try clear hi))))
              go_ret
              exact ⟨by first | rfl | (simp [errW_none, errW_some] <;> rfl) | (simp [*, errW_none, errW_some] <;> rfl), Fit.bl HB.out⟩
 ·replace c4 := Bool.eq_false_iff.mpr c4
  subst c4
  have H1 : (some false) = some r := by rw [if_neg (show ¬ (false = true) by decide)] at H; exact H
  clear H
  have H := H1
  clear H1
  obtain rfl := Option.some.inj H
  go_enter Try.func3, Try.ntmps3
  go_wp2_with (first | ((with_reducible refine gate_dst (N := 2) rfl ?_); refine box_event ?hg (N := 2) ?hd (cs := #[.int .i64 a0_0, .int .i64 a0_1, .int .i64 a0_2, .slice A0_3 L0.length c0_3]) (t := 24) ?hr ?_; (case hd => rfl); (case hg => rfl); (case hr => first | (go_simp; done) | (go_simp; rfl)); intro gb204 hg w78 hbox hb; have n0_ := Aside0.mk (below_step (Fit.bl HB.out) hb); have n1_ := Aside0.mk (hbox); have n2_ := Aside0.mk ((by rw [hg]; exact (below_size (Fit.bl HB.out)) : w.heap.size ≤ gb204)); have n3_ := Aside0.mk ((by rw [hg]; exact (below_size (Fit.bl HB.out)) : w.heap.size ≤ gb204)); clear HB; have HB := n0_; have BK204 := n1_; have GW204 := n2_; have GE204 := n3_; clear n0_ n1_ n2_ n3_; clear hb hbox hg) | ((with_reducible refine gate_dst (N := 3) rfl ?_); refine box_event ?hg (N := 3) ?hd (cs := #[.int .i64 a1_0, .int .i64 a1_1, .int .i64 a1_2, .slice A1_3 L1.length c1_3]) (t := 24) ?hr ?_; (case hd => rfl); (case hg => rfl); (case hr => first | (go_simp; done) | (go_simp; rfl)); intro gb205 hg w79 hbox hb; have n0_ := Aside0.mk (blk_below (g := gb204) (Fit.pk BK204.out) hb); have n1_ := Aside0.mk (below_step (Fit.bl HB.out) hb); have n2_ := Aside0.mk (hbox); have n3_ := Aside0.mk ((by rw [hg]; exact (below_size (Fit.bl HB.out)) : w.heap.size ≤ gb205)); have n4_ := Aside0.mk ((by rw [hg]; exact (below_size (Fit.bl HB.out)) : w.heap.size ≤ gb205)); have n5_ := Aside0.mk ((by rw [hg]; exact Nat.ne_of_lt (blk_lt (g := gb204) (Fit.pk BK204.out)) : gb204 ≠ gb205)); have n6_ := Aside0.mk ((by rw [hg]; exact Nat.ne_of_gt (blk_lt (g := gb204) (Fit.pk BK204.out)) : gb205 ≠ gb204)); clear BK204; clear HB; have BK204 := n0_; have HB := n1_; have BK205 := n2_; have GW205 := n3_; have GE205 := n4_; have NB204_205 := n5_; have NB205_204 := n6_; clear n0_ n1_ n2_ n3_ n4_ n5_ n6_; clear hb hbox hg) | (go_at_call 6; (with_reducible refine (patchbaylaw2_advLives.calls k  false _ A3.out).mono ?_); rintro e w80 ⟨rfl, hb⟩; have n0_ := Aside0.mk (blk_below (g := gb204) (Fit.pk BK204.out) hb); have n1_ := Aside0.mk (blk_below (g := gb205) (Fit.pk BK205.out) hb); have n2_ := Aside0.mk (below_step (Fit.bl HB.out) hb); clear BK204; clear BK205; clear HB; have BK204 := n0_; have BK205 := n1_; have HB := n2_; clear n0_ n1_ n2_; (try clear hb); (try clear hb2); (try clear hk); (try clear hi)))
  repeat (go_quiet (first | ((with_reducible refine gate_dst (N := 2) rfl ?_); refine box_event ?hg (N := 2) ?hd (cs := #[.int .i64 a0_0, .int .i64 a0_1, .int .i64 a0_2, .slice A0_3 L0.length c0_3]) (t := 24) ?hr ?_; (case hd => rfl); (case hg => rfl); (case hr => first | (go_simp; done) | (go_simp; rfl)); intro gb204 hg w78 hbox hb; have n0_ := Aside0.mk (below_step (Fit.bl HB.out) hb); have n1_ := Aside0.mk (hbox); have n2_ := Aside0.mk ((by rw [hg]; exact (below_size (Fit.bl HB.out)) : w.heap.size ≤ gb204)); have n3_ := Aside0.mk ((by rw [hg]; exact (below_size (Fit.bl HB.out)) : w.heap.size ≤ gb204)); clear HB; have HB := n0_; have BK204 := n1_; have GW204 := n2_; have GE204 := n3_; clear n0_ n1_ n2_ n3_; clear hb hbox hg) | ((with_reducible refine gate_dst (N := 3) rfl ?_); refine box_event ?hg (N := 3) ?hd (cs := #[.int .i64 a1_0, .int .i64 a1_1, .int .i64 a1_2, .slice A1_3 L1.length c1_3]) (t := 24) ?hr ?_; (case hd => rfl); (case hg => rfl); (case hr => first | (go_simp; done) | (go_simp; rfl)); intro gb205 hg w79 hbox hb; have n0_ := Aside0.mk (blk_below (g := gb204) (Fit.pk BK204.out) hb); have n1_ := Aside0.mk (below_step (Fit.bl HB.out) hb); have n2_ := Aside0.mk (hbox); have n3_ := Aside0.mk ((by rw [hg]; exact (below_size (Fit.bl HB.out)) : w.heap.size ≤ gb205)); have n4_ := Aside0.mk ((by rw [hg]; exact (below_size (Fit.bl HB.out)) : w.heap.size ≤ gb205)); have n5_ := Aside0.mk ((by rw [hg]; exact Nat.ne_of_lt (blk_lt (g := gb204) (Fit.pk BK204.out)) : gb204 ≠ gb205)); have n6_ := Aside0.mk ((by rw [hg]; exact Nat.ne_of_gt (blk_lt (g := gb204) (Fit.pk BK204.out)) : gb205 ≠ gb204)); clear BK204; clear HB; have BK204 := n0_; have HB := n1_; have BK205 := n2_; have GW205 := n3_; have GE205 := n4_; have NB204_205 := n5_; have NB205_204 := n6_; clear n0_ n1_ n2_ n3_ n4_ n5_ n6_; clear hb hbox hg) | (go_at_call 6; (with_reducible refine (patchbaylaw2_advLives.calls k  false _ A3.out).mono ?_); rintro e w80 ⟨rfl, hb⟩; have n0_ := Aside0.mk (blk_below (g := gb204) (Fit.pk BK204.out) hb); have n1_ := Aside0.mk (blk_below (g := gb205) (Fit.pk BK205.out) hb); have n2_ := Aside0.mk (below_step (Fit.bl HB.out) hb); clear BK204; clear BK205; clear HB; have BK204 := n0_; have BK205 := n1_; have HB := n2_; clear n0_ n1_ n2_; (try clear hb); (try clear hb2); (try clear hk); (try clear hi))); try go_wp2_with (first | ((with_reducible refine gate_dst (N := 2) rfl ?_); refine box_event ?hg (N := 2) ?hd (cs := #[.int .i64 a0_0, .int .i64 a0_1, .int .i64 a0_2, .slice A0_3 L0.length c0_3]) (t := 24) ?hr ?_; (case hd => rfl); (case hg => rfl); (case hr => first | (go_simp; done) | (go_simp; rfl)); intro gb204 hg w78 hbox hb; have n0_ := Aside0.mk (below_step (Fit.bl HB.out) hb); have n1_ := Aside0.mk (hbox); have n2_ := Aside0.mk ((by rw [hg]; exact (below_size (Fit.bl HB.out)) : w.heap.size ≤ gb204)); have n3_ := Aside0.mk ((by rw [hg]; exact (below_size (Fit.bl HB.out)) : w.heap.size ≤ gb204)); clear HB; have HB := n0_; have BK204 := n1_; have GW204 := n2_; have GE204 := n3_; clear n0_ n1_ n2_ n3_; clear hb hbox hg) | ((with_reducible refine gate_dst (N := 3) rfl ?_); refine box_event ?hg (N := 3) ?hd (cs := #[.int .i64 a1_0, .int .i64 a1_1, .int .i64 a1_2, .slice A1_3 L1.length c1_3]) (t := 24) ?hr ?_; (case hd => rfl); (case hg => rfl); (case hr => first | (go_simp; done) | (go_simp; rfl)); intro gb205 hg w79 hbox hb; have n0_ := Aside0.mk (blk_below (g := gb204) (Fit.pk BK204.out) hb); have n1_ := Aside0.mk (below_step (Fit.bl HB.out) hb); have n2_ := Aside0.mk (hbox); have n3_ := Aside0.mk ((by rw [hg]; exact (below_size (Fit.bl HB.out)) : w.heap.size ≤ gb205)); have n4_ := Aside0.mk ((by rw [hg]; exact (below_size (Fit.bl HB.out)) : w.heap.size ≤ gb205)); have n5_ := Aside0.mk ((by rw [hg]; exact Nat.ne_of_lt (blk_lt (g := gb204) (Fit.pk BK204.out)) : gb204 ≠ gb205)); have n6_ := Aside0.mk ((by rw [hg]; exact Nat.ne_of_gt (blk_lt (g := gb204) (Fit.pk BK204.out)) : gb205 ≠ gb204)); clear BK204; clear HB; have BK204 := n0_; have HB := n1_; have BK205 := n2_; have GW205 := n3_; have GE205 := n4_; have NB204_205 := n5_; have NB205_204 := n6_; clear n0_ n1_ n2_ n3_ n4_ n5_ n6_; clear hb hbox hg) | (go_at_call 6; (with_reducible refine (patchbaylaw2_advLives.calls k  false _ A3.out).mono ?_); rintro e w80 ⟨rfl, hb⟩; have n0_ := Aside0.mk (blk_below (g := gb204) (Fit.pk BK204.out) hb); have n1_ := Aside0.mk (blk_below (g := gb205) (Fit.pk BK205.out) hb); have n2_ := Aside0.mk (below_step (Fit.bl HB.out) hb); clear BK204; clear BK205; clear HB; have BK204 := n0_; have BK205 := n1_; have HB := n2_; clear n0_ n1_ n2_; (try clear hb); (try clear hb2); (try clear hk); (try clear hi))))
  go_ret
  exact ⟨by first | rfl | (simp [errW_none, errW_some] <;> rfl) | (simp [*, errW_none, errW_some] <;> rfl), Fit.bl HB.out⟩

end Go.Proofs.Ytbdcaadehfbnbaa.GAdvEncodes
