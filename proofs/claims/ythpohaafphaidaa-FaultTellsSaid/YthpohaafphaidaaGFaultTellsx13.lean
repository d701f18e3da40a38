-- a text that a program of this session wrote
import Derived.Test.YthpohaafphaidaaGFaultTellsx0
import Derived.Test.YthpohaafphaidaaGFaultTellsx1
import Derived.Test.YthpohaafphaidaaGFaultTellsx2
import Derived.Test.YthpohaafphaidaaGFaultTellsx3
import Derived.Test.YthpohaafphaidaaGFaultTellsx4
import Derived.Test.YthpohaafphaidaaGFaultTellsx7
import Derived.Test.YthpohaafphaidaaGFaultTellsx8
import Derived.Test.YthpohaafphaidaaGFaultTellsx9
import Derived.Test.YthpohaafphaidaaGFaultTellsx12
namespace Go.Proofs.Ythpohaafphaidaa.GFaultTells
open Go.RowKit Go.Proofs.YthpohaafphaidaaW.PrintWords Go.Proofs.YthpohaafphaidaaW.PrintLast Go.Proofs.YthpohaafphaidaaW.PrintMore
attribute [local go_sem] max2_int min2_int max_two min_two max_three min_three max_four min_four   -- for this text's walks alone
attribute [local go_sem high] Go.Proofs.Ythpohaafphaidaa.Fit.run_string_add_fit
set_option linter.unusedVariables false
set_option linter.unusedSimpArgs false

attribute [local go_sem high] eqA30
/-! ### patchbaylaw2_FaultTells: function 6 -/
mutual
def patchbaylaw2_FaultTells.j0 : Nat → Int → Int → Int → Bool → Int → Bool → Bool → Int → Int → Int → Int → Int → Int → Bool → Bool → ByteArray → Int → Int → Int → Int → Int → Int → Bool → Bool → ByteArray → Int → Int → Int → Int → Int → Int → Bool → Bool → ByteArray → Option (Bool)
 | 0, _, _, _, _, _, _, _, _, _, _, _, _, _, _, _, _, _, _, _, _, _, _, _, _, _, _, _, _, _, _, _, _, _, _ => none
 | k + 1, x1, x2, x13, x15, x16, x18, x84, x222000, x222001, x222002, x222003, x222004, x222005, x222006, x222007, x222008, x246000, x246001, x246002, x246003, x246004, x246005, x246006, x246007, x246008, x258000, x258001, x258002, x258003, x258004, x258005, x258006, x258007, x258008 => if x84 = true then (some false) else (if x13 = 0 then ((patchbayref2_AnswerOf.f x222000 x222001 x222002 x222003 x222004 x222005 x222006 x222007 x222008).bind fun bt280 => (if (!(x258000 == bt280.1) || (!(x258001 == bt280.2.1) || (!(x258002 == bt280.2.2.1) || (!(x258003 == bt280.2.2.2.1) || (!(x258004 == bt280.2.2.2.2.1) || (!(x258005 == bt280.2.2.2.2.2.1) || (!(x258006 == bt280.2.2.2.2.2.2.1) || (!(x258007 == bt280.2.2.2.2.2.2.2.1) || (!(x258008.toList == bt280.2.2.2.2.2.2.2.2.1.toList)))))))))) = true then (patchbaylaw2_FaultTells.j1 k x1 x2 x15 x16 true x222000 x222001 x222002 x222003 x222004 x222005 x222006 x222007 x222008 x246000 x246001 x246002 x246003 x246004 x246005 x246006 x246007 x246008) else (patchbaylaw2_FaultTells.j1 k x1 x2 x15 x16 (x18 != bt280.2.2.2.2.2.2.2.2.2) x222000 x222001 x222002 x222003 x222004 x222005 x222006 x222007 x222008 x246000 x246001 x246002 x246003 x246004 x246005 x246006 x246007 x246008))) else (if x16 = x13 then (if x15 = true then (some false) else (if x18 = true then (some false) else (if (x246000 == 0 && (x246001 == 0 && (x246002 == 0 && (x246003 == 0 && (x246004 == 0 && (x246005 == 0 && (!x246006 && (!x246007 && (x246008.toList == ([] : List UInt8)))))))))) = true then (some (x258000 == 0 && (x258001 == 0 && (x258002 == 0 && (x258003 == 0 && (x258004 == 0 && (x258005 == 0 && (!x258006 && (!x258007 && (x258008.toList == ([] : List UInt8))))))))))) else (some false)))) else (some false)))
def patchbaylaw2_FaultTells.j1 : Nat → Int → Int → Bool → Int → Bool → Int → Int → Int → Int → Int → Int → Bool → Bool → ByteArray → Int → Int → Int → Int → Int → Int → Bool → Bool → ByteArray → Option (Bool)
 | 0, _, _, _, _, _, _, _, _, _, _, _, _, _, _, _, _, _, _, _, _, _, _, _ => none
 | k + 1, x1, x2, x15, x16, x120, x222000, x222001, x222002, x222003, x222004, x222005, x222006, x222007, x222008, x246000, x246001, x246002, x246003, x246004, x246005, x246006, x246007, x246008 => if x120 = true then (some false) else (if x1 < 1 then (if x16 = 1 then (if x15 = true then (some false) else (some (x246000 == 0 && (x246001 == 0 && (x246002 == 0 && (x246003 == 0 && (x246004 == 0 && (x246005 == 0 && (!x246006 && (!x246007 && (x246008.toList == ([] : List UInt8)))))))))))) else (some false)) else (if x1 > 6 then (if x16 = 1 then (if x15 = true then (some false) else (some (x246000 == 0 && (x246001 == 0 && (x246002 == 0 && (x246003 == 0 && (x246004 == 0 && (x246005 == 0 && (!x246006 && (!x246007 && (x246008.toList == ([] : List UInt8)))))))))))) else (some false)) else ((patchbayref2_ToldOf.f k x222000 x222001 x222002 x222003 x222004 x222005 x222006 x222007 x222008 x1 x2).bind fun bt291 => (if x16 = 0 then (if (x246000 == bt291.1 && (x246001 == bt291.2.1 && (x246002 == bt291.2.2.1 && (x246003 == bt291.2.2.2.1 && (x246004 == bt291.2.2.2.2.1 && (x246005 == bt291.2.2.2.2.2.1 && (x246006 == bt291.2.2.2.2.2.2.1 && (x246007 == bt291.2.2.2.2.2.2.2.1 && (x246008.toList == bt291.2.2.2.2.2.2.2.2.1.toList))))))))) = true then (some (x15 == bt291.2.2.2.2.2.2.2.2.2)) else (some false)) else (some false)))))
end
def patchbaylaw2_FaultTells.f (k : Nat) (a0_0 : Int) (a0_1 : Int) (a0_2 : Int) (a0_3 : Int) (a0_4 : Int) (a0_5 : Int) (a0_6 : Bool) (a0_7 : Bool) (a0_8 : ByteArray) (a1 : Int) (a2 : Int) (a3 : Int) (a4 : Int) (a5 : ByteArray) : Option (Bool) := (patchbaylaw2_faultLives.f k).bind fun t222 => (if t222 = true then ((patchbaylaw2_bare.f a0_0 a0_1 a0_2 a0_3 a0_4 a0_5 a0_6 a0_7 a0_8 40).bind fun bt223 => ((patchbaylaw2_begin.f a5 40).bind fun t232 => ((patchbayref2_PacketFault.f k bt223.1 bt223.2.1 bt223.2.2.1 bt223.2.2.2.1 bt223.2.2.2.2.1 bt223.2.2.2.2.2.1 bt223.2.2.2.2.2.2.1 bt223.2.2.2.2.2.2.2.1 bt223.2.2.2.2.2.2.2.2).bind fun t233 => ((fault_Tell.f k bt223.1 bt223.2.1 bt223.2.2.1 bt223.2.2.2.1 bt223.2.2.2.2.1 bt223.2.2.2.2.2.1 bt223.2.2.2.2.2.2.1 bt223.2.2.2.2.2.2.2.1 bt223.2.2.2.2.2.2.2.2 a1 a2).bind fun bt234 => ((fault_Answer.f k bt223.1 bt223.2.1 bt223.2.2.1 bt223.2.2.2.1 bt223.2.2.2.2.1 bt223.2.2.2.2.2.1 bt223.2.2.2.2.2.2.1 bt223.2.2.2.2.2.2.2.1 bt223.2.2.2.2.2.2.2.2).bind fun bt246 => ((fault_Echo.f k bt223.1 bt223.2.1 a3 a4 t232).bind fun bt258 => ((patchbayref2_EchoOf.f k bt223.1 bt223.2.1 a3 a4 t232).bind fun bt269 => (if (!(bt258.1 == bt269.1) || (!(bt258.2.1 == bt269.2.1) || (!(bt258.2.2.1 == bt269.2.2.1) || (!(bt258.2.2.2.1 == bt269.2.2.2.1) || (!(bt258.2.2.2.2.1 == bt269.2.2.2.2.1) || (!(bt258.2.2.2.2.2.1 == bt269.2.2.2.2.2.1) || (!(bt258.2.2.2.2.2.2.1 == bt269.2.2.2.2.2.2.1) || (!(bt258.2.2.2.2.2.2.2.1 == bt269.2.2.2.2.2.2.2.1) || (!(bt258.2.2.2.2.2.2.2.2.1.toList == bt269.2.2.2.2.2.2.2.2.1.toList)))))))))) = true then (patchbaylaw2_FaultTells.j0 k a1 a2 t233 bt234.2.2.2.2.2.2.2.2.2.1 bt234.2.2.2.2.2.2.2.2.2.2 bt246.2.2.2.2.2.2.2.2.2.1 true bt223.1 bt223.2.1 bt223.2.2.1 bt223.2.2.2.1 bt223.2.2.2.2.1 bt223.2.2.2.2.2.1 bt223.2.2.2.2.2.2.1 bt223.2.2.2.2.2.2.2.1 bt223.2.2.2.2.2.2.2.2 bt234.1 bt234.2.1 bt234.2.2.1 bt234.2.2.2.1 bt234.2.2.2.2.1 bt234.2.2.2.2.2.1 bt234.2.2.2.2.2.2.1 bt234.2.2.2.2.2.2.2.1 bt234.2.2.2.2.2.2.2.2.1 bt246.1 bt246.2.1 bt246.2.2.1 bt246.2.2.2.1 bt246.2.2.2.2.1 bt246.2.2.2.2.2.1 bt246.2.2.2.2.2.2.1 bt246.2.2.2.2.2.2.2.1 bt246.2.2.2.2.2.2.2.2.1) else (if bt258.2.2.2.2.2.2.2.2.2 = bt269.2.2.2.2.2.2.2.2.2 then (patchbaylaw2_FaultTells.j0 k a1 a2 t233 bt234.2.2.2.2.2.2.2.2.2.1 bt234.2.2.2.2.2.2.2.2.2.2 bt246.2.2.2.2.2.2.2.2.2.1 (bt246.2.2.2.2.2.2.2.2.2.2 != t233) bt223.1 bt223.2.1 bt223.2.2.1 bt223.2.2.2.1 bt223.2.2.2.2.1 bt223.2.2.2.2.2.1 bt223.2.2.2.2.2.2.1 bt223.2.2.2.2.2.2.2.1 bt223.2.2.2.2.2.2.2.2 bt234.1 bt234.2.1 bt234.2.2.1 bt234.2.2.2.1 bt234.2.2.2.2.1 bt234.2.2.2.2.2.1 bt234.2.2.2.2.2.2.1 bt234.2.2.2.2.2.2.2.1 bt234.2.2.2.2.2.2.2.2.1 bt246.1 bt246.2.1 bt246.2.2.1 bt246.2.2.2.1 bt246.2.2.2.2.1 bt246.2.2.2.2.2.1 bt246.2.2.2.2.2.2.1 bt246.2.2.2.2.2.2.2.1 bt246.2.2.2.2.2.2.2.2.1) else (patchbaylaw2_FaultTells.j0 k a1 a2 t233 bt234.2.2.2.2.2.2.2.2.2.1 bt234.2.2.2.2.2.2.2.2.2.2 bt246.2.2.2.2.2.2.2.2.2.1 true bt223.1 bt223.2.1 bt223.2.2.1 bt223.2.2.2.1 bt223.2.2.2.2.1 bt223.2.2.2.2.2.1 bt223.2.2.2.2.2.2.1 bt223.2.2.2.2.2.2.2.1 bt223.2.2.2.2.2.2.2.2 bt234.1 bt234.2.1 bt234.2.2.1 bt234.2.2.2.1 bt234.2.2.2.2.1 bt234.2.2.2.2.2.1 bt234.2.2.2.2.2.2.1 bt234.2.2.2.2.2.2.2.1 bt234.2.2.2.2.2.2.2.2.1 bt246.1 bt246.2.1 bt246.2.2.1 bt246.2.2.2.1 bt246.2.2.2.2.1 bt246.2.2.2.2.2.1 bt246.2.2.2.2.2.2.1 bt246.2.2.2.2.2.2.2.1 bt246.2.2.2.2.2.2.2.2.1)))))))))) else (some false))
theorem patchbaylaw2_FaultTells.mono_l : ∀ k, (∀ y0 y1 y2 y3 y4 y5 y6 y7 y8 y9 y10 y11 y12 y13 y14 y15 y16 y17 y18 y19 y20 y21 y22 y23 y24 y25 y26 y27 y28 y29 y30 y31 y32 y33, LeO (patchbaylaw2_FaultTells.j0 k y0 y1 y2 y3 y4 y5 y6 y7 y8 y9 y10 y11 y12 y13 y14 y15 y16 y17 y18 y19 y20 y21 y22 y23 y24 y25 y26 y27 y28 y29 y30 y31 y32 y33) (patchbaylaw2_FaultTells.j0 (k + 1) y0 y1 y2 y3 y4 y5 y6 y7 y8 y9 y10 y11 y12 y13 y14 y15 y16 y17 y18 y19 y20 y21 y22 y23 y24 y25 y26 y27 y28 y29 y30 y31 y32 y33)) ∧ (∀ y0 y1 y2 y3 y4 y5 y6 y7 y8 y9 y10 y11 y12 y13 y14 y15 y16 y17 y18 y19 y20 y21 y22, LeO (patchbaylaw2_FaultTells.j1 k y0 y1 y2 y3 y4 y5 y6 y7 y8 y9 y10 y11 y12 y13 y14 y15 y16 y17 y18 y19 y20 y21 y22) (patchbaylaw2_FaultTells.j1 (k + 1) y0 y1 y2 y3 y4 y5 y6 y7 y8 y9 y10 y11 y12 y13 y14 y15 y16 y17 y18 y19 y20 y21 y22))
 | 0 => ⟨fun _ _ _ _ _ _ _ _ _ _ _ _ _ _ _ _ _ _ _ _ _ _ _ _ _ _ _ _ _ _ _ _ _ _ r h => by simp [patchbaylaw2_FaultTells.j0] at h, fun _ _ _ _ _ _ _ _ _ _ _ _ _ _ _ _ _ _ _ _ _ _ _ r h => by simp [patchbaylaw2_FaultTells.j1] at h⟩
 | k + 1 => by
  obtain ⟨ih0, ih1⟩ := patchbaylaw2_FaultTells.mono_l k
  refine ⟨?_, ?_⟩
  ·intro y0 y1 y2 y3 y4 y5 y6 y7 y8 y9 y10 y11 y12 y13 y14 y15 y16 y17 y18 y19 y20 y21 y22 y23 y24 y25 y26 y27 y28 y29 y30 y31 y32 y33
   unfold patchbaylaw2_FaultTells.j0
   repeat' first
   | (with_reducible exact ih0 _ _ _ _ _ _ _ _ _ _ _ _ _ _ _ _ _ _ _ _ _ _ _ _ _ _ _ _ _ _ _ _ _ _)
   | (with_reducible exact ih1 _ _ _ _ _ _ _ _ _ _ _ _ _ _ _ _ _ _ _ _ _ _ _)
   | (with_reducible exact fault_Answer.mono _ _ _ _ _ _ _ _ _ _)
   | (with_reducible exact fault_Echo.mono _ _ _ _ _ _)
   | (with_reducible exact fault_Tell.mono _ _ _ _ _ _ _ _ _ _ _ _)
   | (with_reducible exact patchbaylaw2_faultLives.mono _)
   | (with_reducible exact patchbayref2_EchoOf.mono _ _ _ _ _ _)
   | (with_reducible exact patchbayref2_PacketFault.mono _ _ _ _ _ _ _ _ _ _)
   | (with_reducible exact patchbayref2_ToldOf.mono _ _ _ _ _ _ _ _ _ _ _ _)
   | (with_reducible exact LeO.refl _)
   | (with_reducible exact LeO.none _)
   | (with_reducible refine LeO.ite ?_ ?_)
   | (with_reducible refine LeO.bind ?_ (fun _ => ?_))
   | exact ih0 _ _ _ _ _ _ _ _ _ _ _ _ _ _ _ _ _ _ _ _ _ _ _ _ _ _ _ _ _ _ _ _ _ _
   | exact ih1 _ _ _ _ _ _ _ _ _ _ _ _ _ _ _ _ _ _ _ _ _ _ _
   | exact fault_Answer.mono _ _ _ _ _ _ _ _ _ _
   | exact fault_Echo.mono _ _ _ _ _ _
   | exact fault_Tell.mono _ _ _ _ _ _ _ _ _ _ _ _
   | exact patchbaylaw2_faultLives.mono _
   | exact patchbayref2_EchoOf.mono _ _ _ _ _ _
   | exact patchbayref2_PacketFault.mono _ _ _ _ _ _ _ _ _ _
   | exact patchbayref2_ToldOf.mono _ _ _ _ _ _ _ _ _ _ _ _
   | exact LeO.none _
   | refine LeO.ite ?_ ?_
   | refine LeO.bind ?_ (fun _ => ?_)
  ·intro y0 y1 y2 y3 y4 y5 y6 y7 y8 y9 y10 y11 y12 y13 y14 y15 y16 y17 y18 y19 y20 y21 y22
   unfold patchbaylaw2_FaultTells.j1
   repeat' first
   | (with_reducible exact ih0 _ _ _ _ _ _ _ _ _ _ _ _ _ _ _ _ _ _ _ _ _ _ _ _ _ _ _ _ _ _ _ _ _ _)
   | (with_reducible exact ih1 _ _ _ _ _ _ _ _ _ _ _ _ _ _ _ _ _ _ _ _ _ _ _)
   | (with_reducible exact fault_Answer.mono _ _ _ _ _ _ _ _ _ _)
   | (with_reducible exact fault_Echo.mono _ _ _ _ _ _)
   | (with_reducible exact fault_Tell.mono _ _ _ _ _ _ _ _ _ _ _ _)
   | (with_reducible exact patchbaylaw2_faultLives.mono _)
   | (with_reducible exact patchbayref2_EchoOf.mono _ _ _ _ _ _)
   | (with_reducible exact patchbayref2_PacketFault.mono _ _ _ _ _ _ _ _ _ _)
   | (with_reducible exact patchbayref2_ToldOf.mono _ _ _ _ _ _ _ _ _ _ _ _)
   | (with_reducible exact LeO.refl _)
   | (with_reducible exact LeO.none _)
   | (with_reducible refine LeO.ite ?_ ?_)
   | (with_reducible refine LeO.bind ?_ (fun _ => ?_))
   | exact ih0 _ _ _ _ _ _ _ _ _ _ _ _ _ _ _ _ _ _ _ _ _ _ _ _ _ _ _ _ _ _ _ _ _ _
   | exact ih1 _ _ _ _ _ _ _ _ _ _ _ _ _ _ _ _ _ _ _ _ _ _ _
   | exact fault_Answer.mono _ _ _ _ _ _ _ _ _ _
   | exact fault_Echo.mono _ _ _ _ _ _
   | exact fault_Tell.mono _ _ _ _ _ _ _ _ _ _ _ _
   | exact patchbaylaw2_faultLives.mono _
   | exact patchbayref2_EchoOf.mono _ _ _ _ _ _
   | exact patchbayref2_PacketFault.mono _ _ _ _ _ _ _ _ _ _
   | exact patchbayref2_ToldOf.mono _ _ _ _ _ _ _ _ _ _ _ _
   | exact LeO.none _
   | refine LeO.ite ?_ ?_
   | refine LeO.bind ?_ (fun _ => ?_)
theorem patchbaylaw2_FaultTells.mono : ∀ a0 a1 a2 a3 a4 a5 a6 a7 a8 a9 a10 a11 a12 a13 k, LeO (patchbaylaw2_FaultTells.f k a0 a1 a2 a3 a4 a5 a6 a7 a8 a9 a10 a11 a12 a13) (patchbaylaw2_FaultTells.f (k + 1) a0 a1 a2 a3 a4 a5 a6 a7 a8 a9 a10 a11 a12 a13) := by
 intro a0 a1 a2 a3 a4 a5 a6 a7 a8 a9 a10 a11 a12 a13 k
 obtain ⟨ih0, ih1⟩ := patchbaylaw2_FaultTells.mono_l k
 unfold patchbaylaw2_FaultTells.f
 repeat' first
   | (with_reducible exact ih0 _ _ _ _ _ _ _ _ _ _ _ _ _ _ _ _ _ _ _ _ _ _ _ _ _ _ _ _ _ _ _ _ _ _)
   | (with_reducible exact ih1 _ _ _ _ _ _ _ _ _ _ _ _ _ _ _ _ _ _ _ _ _ _ _)
   | (with_reducible exact fault_Answer.mono _ _ _ _ _ _ _ _ _ _)
   | (with_reducible exact fault_Echo.mono _ _ _ _ _ _)
   | (with_reducible exact fault_Tell.mono _ _ _ _ _ _ _ _ _ _ _ _)
   | (with_reducible exact patchbaylaw2_faultLives.mono _)
   | (with_reducible exact patchbayref2_EchoOf.mono _ _ _ _ _ _)
   | (with_reducible exact patchbayref2_PacketFault.mono _ _ _ _ _ _ _ _ _ _)
   | (with_reducible exact patchbayref2_ToldOf.mono _ _ _ _ _ _ _ _ _ _ _ _)
   | (with_reducible exact LeO.refl _)
   | (with_reducible exact LeO.none _)
   | (with_reducible refine LeO.ite ?_ ?_)
   | (with_reducible refine LeO.bind ?_ (fun _ => ?_))
   | exact ih0 _ _ _ _ _ _ _ _ _ _ _ _ _ _ _ _ _ _ _ _ _ _ _ _ _ _ _ _ _ _ _ _ _ _
   | exact ih1 _ _ _ _ _ _ _ _ _ _ _ _ _ _ _ _ _ _ _ _ _ _ _
   | exact fault_Answer.mono _ _ _ _ _ _ _ _ _ _
   | exact fault_Echo.mono _ _ _ _ _ _
   | exact fault_Tell.mono _ _ _ _ _ _ _ _ _ _ _ _
   | exact patchbaylaw2_faultLives.mono _
   | exact patchbayref2_EchoOf.mono _ _ _ _ _ _
   | exact patchbayref2_PacketFault.mono _ _ _ _ _ _ _ _ _ _
   | exact patchbayref2_ToldOf.mono _ _ _ _ _ _ _ _ _ _ _ _
   | exact LeO.none _
   | refine LeO.ite ?_ ?_
   | refine LeO.bind ?_ (fun _ => ?_)
set_option maxHeartbeats 8000000 in
set_option maxRecDepth 100000 in
theorem patchbaylaw2_FaultTells.calls (k : Nat) (a0_0 : Int) (a0_1 : Int) (a0_2 : Int) (a0_3 : Int) (a0_4 : Int) (a0_5 : Int) (a0_6 : Bool) (a0_7 : Bool) (a0_8 : ByteArray) (a1 : Int) (a2 : Int) (a3 : Int) (a4 : Int) (a5 : ByteArray) (r : Bool) (w : World) (h : patchbaylaw2_FaultTells.f k a0_0 a0_1 a0_2 a0_3 a0_4 a0_5 a0_6 a0_7 a0_8 a1 a2 a3 a4 a5 = some r) :
  Calls Try.prog 6 #[.agg #[.int .u32 a0_0, .int .u32 a0_1, .int .i64 a0_2, .int .i64 a0_3, .int .i64 a0_4, .int .i64 a0_5, .bool a0_6, .bool a0_7, .string a0_8], .int .i64 a1, .int .u32 a2, .int .i64 a3, .int .i64 a4, .string a5] w fun e w' => e = .returned (.bool r) ∧ Below w.heap.size w w' := by
 have hu30 := Try.underlying30
 have HB := Aside0.mk (Below.refl w.heap.size w)
 have H : ((patchbaylaw2_faultLives.f k).bind fun t222 => (if t222 = true then ((patchbaylaw2_bare.f a0_0 a0_1 a0_2 a0_3 a0_4 a0_5 a0_6 a0_7 a0_8 40).bind fun bt223 => ((patchbaylaw2_begin.f a5 40).bind fun t232 => ((patchbayref2_PacketFault.f k bt223.1 bt223.2.1 bt223.2.2.1 bt223.2.2.2.1 bt223.2.2.2.2.1 bt223.2.2.2.2.2.1 bt223.2.2.2.2.2.2.1 bt223.2.2.2.2.2.2.2.1 bt223.2.2.2.2.2.2.2.2).bind fun t233 => ((fault_Tell.f k bt223.1 bt223.2.1 bt223.2.2.1 bt223.2.2.2.1 bt223.2.2.2.2.1 bt223.2.2.2.2.2.1 bt223.2.2.2.2.2.2.1 bt223.2.2.2.2.2.2.2.1 bt223.2.2.2.2.2.2.2.2 a1 a2).bind fun bt234 => ((fault_Answer.f k bt223.1 bt223.2.1 bt223.2.2.1 bt223.2.2.2.1 bt223.2.2.2.2.1 bt223.2.2.2.2.2.1 bt223.2.2.2.2.2.2.1 bt223.2.2.2.2.2.2.2.1 bt223.2.2.2.2.2.2.2.2).bind fun bt246 => ((fault_Echo.f k bt223.1 bt223.2.1 a3 a4 t232).bind fun bt258 => ((patchbayref2_EchoOf.f k bt223.1 bt223.2.1 a3 a4 t232).bind fun bt269 => (if (!(bt258.1 == bt269.1) || (!(bt258.2.1 == bt269.2.1) || (!(bt258.2.2.1 == bt269.2.2.1) || (!(bt258.2.2.2.1 == bt269.2.2.2.1) || (!(bt258.2.2.2.2.1 == bt269.2.2.2.2.1) || (!(bt258.2.2.2.2.2.1 == bt269.2.2.2.2.2.1) || (!(bt258.2.2.2.2.2.2.1 == bt269.2.2.2.2.2.2.1) || (!(bt258.2.2.2.2.2.2.2.1 == bt269.2.2.2.2.2.2.2.1) || (!(bt258.2.2.2.2.2.2.2.2.1.toList == bt269.2.2.2.2.2.2.2.2.1.toList)))))))))) = true then (patchbaylaw2_FaultTells.j0 k a1 a2 t233 bt234.2.2.2.2.2.2.2.2.2.1 bt234.2.2.2.2.2.2.2.2.2.2 bt246.2.2.2.2.2.2.2.2.2.1 true bt223.1 bt223.2.1 bt223.2.2.1 bt223.2.2.2.1 bt223.2.2.2.2.1 bt223.2.2.2.2.2.1 bt223.2.2.2.2.2.2.1 bt223.2.2.2.2.2.2.2.1 bt223.2.2.2.2.2.2.2.2 bt234.1 bt234.2.1 bt234.2.2.1 bt234.2.2.2.1 bt234.2.2.2.2.1 bt234.2.2.2.2.2.1 bt234.2.2.2.2.2.2.1 bt234.2.2.2.2.2.2.2.1 bt234.2.2.2.2.2.2.2.2.1 bt246.1 bt246.2.1 bt246.2.2.1 bt246.2.2.2.1 bt246.2.2.2.2.1 bt246.2.2.2.2.2.1 bt246.2.2.2.2.2.2.1 bt246.2.2.2.2.2.2.2.1 bt246.2.2.2.2.2.2.2.2.1) else (if bt258.2.2.2.2.2.2.2.2.2 = bt269.2.2.2.2.2.2.2.2.2 then (patchbaylaw2_FaultTells.j0 k a1 a2 t233 bt234.2.2.2.2.2.2.2.2.2.1 bt234.2.2.2.2.2.2.2.2.2.2 bt246.2.2.2.2.2.2.2.2.2.1 (bt246.2.2.2.2.2.2.2.2.2.2 != t233) bt223.1 bt223.2.1 bt223.2.2.1 bt223.2.2.2.1 bt223.2.2.2.2.1 bt223.2.2.2.2.2.1 bt223.2.2.2.2.2.2.1 bt223.2.2.2.2.2.2.2.1 bt223.2.2.2.2.2.2.2.2 bt234.1 bt234.2.1 bt234.2.2.1 bt234.2.2.2.1 bt234.2.2.2.2.1 bt234.2.2.2.2.2.1 bt234.2.2.2.2.2.2.1 bt234.2.2.2.2.2.2.2.1 bt234.2.2.2.2.2.2.2.2.1 bt246.1 bt246.2.1 bt246.2.2.1 bt246.2.2.2.1 bt246.2.2.2.2.1 bt246.2.2.2.2.2.1 bt246.2.2.2.2.2.2.1 bt246.2.2.2.2.2.2.2.1 bt246.2.2.2.2.2.2.2.2.1) else (patchbaylaw2_FaultTells.j0 k a1 a2 t233 bt234.2.2.2.2.2.2.2.2.2.1 bt234.2.2.2.2.2.2.2.2.2.2 bt246.2.2.2.2.2.2.2.2.2.1 true bt223.1 bt223.2.1 bt223.2.2.1 bt223.2.2.2.1 bt223.2.2.2.2.1 bt223.2.2.2.2.2.1 bt223.2.2.2.2.2.2.1 bt223.2.2.2.2.2.2.2.1 bt223.2.2.2.2.2.2.2.2 bt234.1 bt234.2.1 bt234.2.2.1 bt234.2.2.2.1 bt234.2.2.2.2.1 bt234.2.2.2.2.2.1 bt234.2.2.2.2.2.2.1 bt234.2.2.2.2.2.2.2.1 bt234.2.2.2.2.2.2.2.2.1 bt246.1 bt246.2.1 bt246.2.2.1 bt246.2.2.2.1 bt246.2.2.2.2.1 bt246.2.2.2.2.2.1 bt246.2.2.2.2.2.2.1 bt246.2.2.2.2.2.2.2.1 bt246.2.2.2.2.2.2.2.2.1)))))))))) else (some false))) = some r := h
 clear h
 replace H := Option.bind_eq_some_iff.mp H
 obtain ⟨t222, A70, H⟩ := H
 replace H : (if t222 = true then ((patchbaylaw2_bare.f a0_0 a0_1 a0_2 a0_3 a0_4 a0_5 a0_6 a0_7 a0_8 40).bind fun bt223 => ((patchbaylaw2_begin.f a5 40).bind fun t232 => ((patchbayref2_PacketFault.f k bt223.1 bt223.2.1 bt223.2.2.1 bt223.2.2.2.1 bt223.2.2.2.2.1 bt223.2.2.2.2.2.1 bt223.2.2.2.2.2.2.1 bt223.2.2.2.2.2.2.2.1 bt223.2.2.2.2.2.2.2.2).bind fun t233 => ((fault_Tell.f k bt223.1 bt223.2.1 bt223.2.2.1 bt223.2.2.2.1 bt223.2.2.2.2.1 bt223.2.2.2.2.2.1 bt223.2.2.2.2.2.2.1 bt223.2.2.2.2.2.2.2.1 bt223.2.2.2.2.2.2.2.2 a1 a2).bind fun bt234 => ((fault_Answer.f k bt223.1 bt223.2.1 bt223.2.2.1 bt223.2.2.2.1 bt223.2.2.2.2.1 bt223.2.2.2.2.2.1 bt223.2.2.2.2.2.2.1 bt223.2.2.2.2.2.2.2.1 bt223.2.2.2.2.2.2.2.2).bind fun bt246 => ((fault_Echo.f k bt223.1 bt223.2.1 a3 a4 t232).bind fun bt258 => ((patchbayref2_EchoOf.f k bt223.1 bt223.2.1 a3 a4 t232).bind fun bt269 => (if (!(bt258.1 == bt269.1) || (!(bt258.2.1 == bt269.2.1) || (!(bt258.2.2.1 == bt269.2.2.1) || (!(bt258.2.2.2.1 == bt269.2.2.2.1) || (!(bt258.2.2.2.2.1 == bt269.2.2.2.2.1) || (!(bt258.2.2.2.2.2.1 == bt269.2.2.2.2.2.1) || (!(bt258.2.2.2.2.2.2.1 == bt269.2.2.2.2.2.2.1) || (!(bt258.2.2.2.2.2.2.2.1 == bt269.2.2.2.2.2.2.2.1) || (!(bt258.2.2.2.2.2.2.2.2.1.toList == bt269.2.2.2.2.2.2.2.2.1.toList)))))))))) = true then (patchbaylaw2_FaultTells.j0 k a1 a2 t233 bt234.2.2.2.2.2.2.2.2.2.1 bt234.2.2.2.2.2.2.2.2.2.2 bt246.2.2.2.2.2.2.2.2.2.1 true bt223.1 bt223.2.1 bt223.2.2.1 bt223.2.2.2.1 bt223.2.2.2.2.1 bt223.2.2.2.2.2.1 bt223.2.2.2.2.2.2.1 bt223.2.2.2.2.2.2.2.1 bt223.2.2.2.2.2.2.2.2 bt234.1 bt234.2.1 bt234.2.2.1 bt234.2.2.2.1 bt234.2.2.2.2.1 bt234.2.2.2.2.2.1 bt234.2.2.2.2.2.2.1 bt234.2.2.2.2.2.2.2.1 bt234.2.2.2.2.2.2.2.2.1 bt246.1 bt246.2.1 bt246.2.2.1 bt246.2.2.2.1 bt246.2.2.2.2.1 bt246.2.2.2.2.2.1 bt246.2.2.2.2.2.2.1 bt246.2.2.2.2.2.2.2.1 bt246.2.2.2.2.2.2.2.2.1) else (if bt258.2.2.2.2.2.2.2.2.2 = bt269.2.2.2.2.2.2.2.2.2 then (patchbaylaw2_FaultTells.j0 k a1 a2 t233 bt234.2.2.2.2.2.2.2.2.2.1 bt234.2.2.2.2.2.2.2.2.2.2 bt246.2.2.2.2.2.2.2.2.2.1 (bt246.2.2.2.2.2.2.2.2.2.2 != t233) bt223.1 bt223.2.1 bt223.2.2.1 bt223.2.2.2.1 bt223.2.2.2.2.1 bt223.2.2.2.2.2.1 bt223.2.2.2.2.2.2.1 bt223.2.2.2.2.2.2.2.1 bt223.2.2.2.2.2.2.2.2 bt234.1 bt234.2.1 bt234.2.2.1 bt234.2.2.2.1 bt234.2.2.2.2.1 bt234.2.2.2.2.2.1 bt234.2.2.2.2.2.2.1 bt234.2.2.2.2.2.2.2.1 bt234.2.2.2.2.2.2.2.2.1 bt246.1 bt246.2.1 bt246.2.2.1 bt246.2.2.2.1 bt246.2.2.2.2.1 bt246.2.2.2.2.2.1 bt246.2.2.2.2.2.2.1 bt246.2.2.2.2.2.2.2.1 bt246.2.2.2.2.2.2.2.2.1) else (patchbaylaw2_FaultTells.j0 k a1 a2 t233 bt234.2.2.2.2.2.2.2.2.2.1 bt234.2.2.2.2.2.2.2.2.2.2 bt246.2.2.2.2.2.2.2.2.2.1 true bt223.1 bt223.2.1 bt223.2.2.1 bt223.2.2.2.1 bt223.2.2.2.2.1 bt223.2.2.2.2.2.1 bt223.2.2.2.2.2.2.1 bt223.2.2.2.2.2.2.2.1 bt223.2.2.2.2.2.2.2.2 bt234.1 bt234.2.1 bt234.2.2.1 bt234.2.2.2.1 bt234.2.2.2.2.1 bt234.2.2.2.2.2.1 bt234.2.2.2.2.2.2.1 bt234.2.2.2.2.2.2.2.1 bt234.2.2.2.2.2.2.2.2.1 bt246.1 bt246.2.1 bt246.2.2.1 bt246.2.2.2.1 bt246.2.2.2.2.1 bt246.2.2.2.2.2.1 bt246.2.2.2.2.2.2.1 bt246.2.2.2.2.2.2.2.1 bt246.2.2.2.2.2.2.2.2.1)))))))))) else (some false)) = some r := H
 have A7 := Aside0.mk A70
 clear A70
 by_cases c8 : t222 = true
 ·subst c8
  have H1 : ((patchbaylaw2_bare.f a0_0 a0_1 a0_2 a0_3 a0_4 a0_5 a0_6 a0_7 a0_8 40).bind fun bt223 => ((patchbaylaw2_begin.f a5 40).bind fun t232 => ((patchbayref2_PacketFault.f k bt223.1 bt223.2.1 bt223.2.2.1 bt223.2.2.2.1 bt223.2.2.2.2.1 bt223.2.2.2.2.2.1 bt223.2.2.2.2.2.2.1 bt223.2.2.2.2.2.2.2.1 bt223.2.2.2.2.2.2.2.2).bind fun t233 => ((fault_Tell.f k bt223.1 bt223.2.1 bt223.2.2.1 bt223.2.2.2.1 bt223.2.2.2.2.1 bt223.2.2.2.2.2.1 bt223.2.2.2.2.2.2.1 bt223.2.2.2.2.2.2.2.1 bt223.2.2.2.2.2.2.2.2 a1 a2).bind fun bt234 => ((fault_Answer.f k bt223.1 bt223.2.1 bt223.2.2.1 bt223.2.2.2.1 bt223.2.2.2.2.1 bt223.2.2.2.2.2.1 bt223.2.2.2.2.2.2.1 bt223.2.2.2.2.2.2.2.1 bt223.2.2.2.2.2.2.2.2).bind fun bt246 => ((fault_Echo.f k bt223.1 bt223.2.1 a3 a4 t232).bind fun bt258 => ((patchbayref2_EchoOf.f k bt223.1 bt223.2.1 a3 a4 t232).bind fun bt269 => (if (!(bt258.1 == bt269.1) || (!(bt258.2.1 == bt269.2.1) || (!(bt258.2.2.1 == bt269.2.2.1) || (!(bt258.2.2.2.1 == bt269.2.2.2.1) || (!(bt258.2.2.2.2.1 == bt269.2.2.2.2.1) || (!(bt258.2.2.2.2.2.1 == bt269.2.2.2.2.2.1) || (!(bt258.2.2.2.2.2.2.1 == bt269.2.2.2.2.2.2.1) || (!(bt258.2.2.2.2.2.2.2.1 == bt269.2.2.2.2.2.2.2.1) || (!(bt258.2.2.2.2.2.2.2.2.1.toList == bt269.2.2.2.2.2.2.2.2.1.toList)))))))))) = true then (patchbaylaw2_FaultTells.j0 k a1 a2 t233 bt234.2.2.2.2.2.2.2.2.2.1 bt234.2.2.2.2.2.2.2.2.2.2 bt246.2.2.2.2.2.2.2.2.2.1 true bt223.1 bt223.2.1 bt223.2.2.1 bt223.2.2.2.1 bt223.2.2.2.2.1 bt223.2.2.2.2.2.1 bt223.2.2.2.2.2.2.1 bt223.2.2.2.2.2.2.2.1 bt223.2.2.2.2.2.2.2.2 bt234.1 bt234.2.1 bt234.2.2.1 bt234.2.2.2.1 bt234.2.2.2.2.1 bt234.2.2.2.2.2.1 bt234.2.2.2.2.2.2.1 bt234.2.2.2.2.2.2.2.1 bt234.2.2.2.2.2.2.2.2.1 bt246.1 bt246.2.1 bt246.2.2.1 bt246.2.2.2.1 bt246.2.2.2.2.1 bt246.2.2.2.2.2.1 bt246.2.2.2.2.2.2.1 bt246.2.2.2.2.2.2.2.1 bt246.2.2.2.2.2.2.2.2.1) else (if bt258.2.2.2.2.2.2.2.2.2 = bt269.2.2.2.2.2.2.2.2.2 then (patchbaylaw2_FaultTells.j0 k a1 a2 t233 bt234.2.2.2.2.2.2.2.2.2.1 bt234.2.2.2.2.2.2.2.2.2.2 bt246.2.2.2.2.2.2.2.2.2.1 (bt246.2.2.2.2.2.2.2.2.2.2 != t233) bt223.1 bt223.2.1 bt223.2.2.1 bt223.2.2.2.1 bt223.2.2.2.2.1 bt223.2.2.2.2.2.1 bt223.2.2.2.2.2.2.1 bt223.2.2.2.2.2.2.2.1 bt223.2.2.2.2.2.2.2.2 bt234.1 bt234.2.1 bt234.2.2.1 bt234.2.2.2.1 bt234.2.2.2.2.1 bt234.2.2.2.2.2.1 bt234.2.2.2.2.2.2.1 bt234.2.2.2.2.2.2.2.1 bt234.2.2.2.2.2.2.2.2.1 bt246.1 bt246.2.1 bt246.2.2.1 bt246.2.2.2.1 bt246.2.2.2.2.1 bt246.2.2.2.2.2.1 bt246.2.2.2.2.2.2.1 bt246.2.2.2.2.2.2.2.1 bt246.2.2.2.2.2.2.2.2.1) else (patchbaylaw2_FaultTells.j0 k a1 a2 t233 bt234.2.2.2.2.2.2.2.2.2.1 bt234.2.2.2.2.2.2.2.2.2.2 bt246.2.2.2.2.2.2.2.2.2.1 true bt223.1 bt223.2.1 bt223.2.2.1 bt223.2.2.2.1 bt223.2.2.2.2.1 bt223.2.2.2.2.2.1 bt223.2.2.2.2.2.2.1 bt223.2.2.2.2.2.2.2.1 bt223.2.2.2.2.2.2.2.2 bt234.1 bt234.2.1 bt234.2.2.1 bt234.2.2.2.1 bt234.2.2.2.2.1 bt234.2.2.2.2.2.1 bt234.2.2.2.2.2.2.1 bt234.2.2.2.2.2.2.2.1 bt234.2.2.2.2.2.2.2.2.1 bt246.1 bt246.2.1 bt246.2.2.1 bt246.2.2.2.1 bt246.2.2.2.2.1 bt246.2.2.2.2.2.1 bt246.2.2.2.2.2.2.1 bt246.2.2.2.2.2.2.2.1 bt246.2.2.2.2.2.2.2.2.1)))))))))) = some r := by rw [if_pos rfl] at H; exact H
  clear H
  have H := H1
  clear H1
  replace H := Option.bind_eq_some_iff.mp H
  obtain ⟨⟨t223, t224, t225, t226, t227, t228, t229, t230, t231⟩, A90, H⟩ := H
  replace H : ((patchbaylaw2_begin.f a5 40).bind fun t232 => ((patchbayref2_PacketFault.f k t223 t224 t225 t226 t227 t228 t229 t230 t231).bind fun t233 => ((fault_Tell.f k t223 t224 t225 t226 t227 t228 t229 t230 t231 a1 a2).bind fun bt234 => ((fault_Answer.f k t223 t224 t225 t226 t227 t228 t229 t230 t231).bind fun bt246 => ((fault_Echo.f k t223 t224 a3 a4 t232).bind fun bt258 => ((patchbayref2_EchoOf.f k t223 t224 a3 a4 t232).bind fun bt269 => (if (!(bt258.1 == bt269.1) || (!(bt258.2.1 == bt269.2.1) || (!(bt258.2.2.1 == bt269.2.2.1) || (!(bt258.2.2.2.1 == bt269.2.2.2.1) || (!(bt258.2.2.2.2.1 == bt269.2.2.2.2.1) || (!(bt258.2.2.2.2.2.1 == bt269.2.2.2.2.2.1) || (!(bt258.2.2.2.2.2.2.1 == bt269.2.2.2.2.2.2.1) || (!(bt258.2.2.2.2.2.2.2.1 == bt269.2.2.2.2.2.2.2.1) || (!(bt258.2.2.2.2.2.2.2.2.1.toList == bt269.2.2.2.2.2.2.2.2.1.toList)))))))))) = true then (patchbaylaw2_FaultTells.j0 k a1 a2 t233 bt234.2.2.2.2.2.2.2.2.2.1 bt234.2.2.2.2.2.2.2.2.2.2 bt246.2.2.2.2.2.2.2.2.2.1 true t223 t224 t225 t226 t227 t228 t229 t230 t231 bt234.1 bt234.2.1 bt234.2.2.1 bt234.2.2.2.1 bt234.2.2.2.2.1 bt234.2.2.2.2.2.1 bt234.2.2.2.2.2.2.1 bt234.2.2.2.2.2.2.2.1 bt234.2.2.2.2.2.2.2.2.1 bt246.1 bt246.2.1 bt246.2.2.1 bt246.2.2.2.1 bt246.2.2.2.2.1 bt246.2.2.2.2.2.1 bt246.2.2.2.2.2.2.1 bt246.2.2.2.2.2.2.2.1 bt246.2.2.2.2.2.2.2.2.1) else (if bt258.2.2.2.2.2.2.2.2.2 = bt269.2.2.2.2.2.2.2.2.2 then (patchbaylaw2_FaultTells.j0 k a1 a2 t233 bt234.2.2.2.2.2.2.2.2.2.1 bt234.2.2.2.2.2.2.2.2.2.2 bt246.2.2.2.2.2.2.2.2.2.1 (bt246.2.2.2.2.2.2.2.2.2.2 != t233) t223 t224 t225 t226 t227 t228 t229 t230 t231 bt234.1 bt234.2.1 bt234.2.2.1 bt234.2.2.2.1 bt234.2.2.2.2.1 bt234.2.2.2.2.2.1 bt234.2.2.2.2.2.2.1 bt234.2.2.2.2.2.2.2.1 bt234.2.2.2.2.2.2.2.2.1 bt246.1 bt246.2.1 bt246.2.2.1 bt246.2.2.2.1 bt246.2.2.2.2.1 bt246.2.2.2.2.2.1 bt246.2.2.2.2.2.2.1 bt246.2.2.2.2.2.2.2.1 bt246.2.2.2.2.2.2.2.2.1) else (patchbaylaw2_FaultTells.j0 k a1 a2 t233 bt234.2.2.2.2.2.2.2.2.2.1 bt234.2.2.2.2.2.2.2.2.2.2 bt246.2.2.2.2.2.2.2.2.2.1 true t223 t224 t225 t226 t227 t228 t229 t230 t231 bt234.1 bt234.2.1 bt234.2.2.1 bt234.2.2.2.1 bt234.2.2.2.2.1 bt234.2.2.2.2.2.1 bt234.2.2.2.2.2.2.1 bt234.2.2.2.2.2.2.2.1 bt234.2.2.2.2.2.2.2.2.1 bt246.1 bt246.2.1 bt246.2.2.1 bt246.2.2.2.1 bt246.2.2.2.2.1 bt246.2.2.2.2.2.1 bt246.2.2.2.2.2.2.1 bt246.2.2.2.2.2.2.2.1 bt246.2.2.2.2.2.2.2.2.1))))))))) = some r := H
  have A9 := Aside0.mk A90
  clear A90
  replace H := Option.bind_eq_some_iff.mp H
  obtain ⟨t232, A100, H⟩ := H
  replace H : ((patchbayref2_PacketFault.f k t223 t224 t225 t226 t227 t228 t229 t230 t231).bind fun t233 => ((fault_Tell.f k t223 t224 t225 t226 t227 t228 t229 t230 t231 a1 a2).bind fun bt234 => ((fault_Answer.f k t223 t224 t225 t226 t227 t228 t229 t230 t231).bind fun bt246 => ((fault_Echo.f k t223 t224 a3 a4 t232).bind fun bt258 => ((patchbayref2_EchoOf.f k t223 t224 a3 a4 t232).bind fun bt269 => (if (!(bt258.1 == bt269.1) || (!(bt258.2.1 == bt269.2.1) || (!(bt258.2.2.1 == bt269.2.2.1) || (!(bt258.2.2.2.1 == bt269.2.2.2.1) || (!(bt258.2.2.2.2.1 == bt269.2.2.2.2.1) || (!(bt258.2.2.2.2.2.1 == bt269.2.2.2.2.2.1) || (!(bt258.2.2.2.2.2.2.1 == bt269.2.2.2.2.2.2.1) || (!(bt258.2.2.2.2.2.2.2.1 == bt269.2.2.2.2.2.2.2.1) || (!(bt258.2.2.2.2.2.2.2.2.1.toList == bt269.2.2.2.2.2.2.2.2.1.toList)))))))))) = true then (patchbaylaw2_FaultTells.j0 k a1 a2 t233 bt234.2.2.2.2.2.2.2.2.2.1 bt234.2.2.2.2.2.2.2.2.2.2 bt246.2.2.2.2.2.2.2.2.2.1 true t223 t224 t225 t226 t227 t228 t229 t230 t231 bt234.1 bt234.2.1 bt234.2.2.1 bt234.2.2.2.1 bt234.2.2.2.2.1 bt234.2.2.2.2.2.1 bt234.2.2.2.2.2.2.1 bt234.2.2.2.2.2.2.2.1 bt234.2.2.2.2.2.2.2.2.1 bt246.1 bt246.2.1 bt246.2.2.1 bt246.2.2.2.1 bt246.2.2.2.2.1 bt246.2.2.2.2.2.1 bt246.2.2.2.2.2.2.1 bt246.2.2.2.2.2.2.2.1 bt246.2.2.2.2.2.2.2.2.1) else (if bt258.2.2.2.2.2.2.2.2.2 = bt269.2.2.2.2.2.2.2.2.2 then (patchbaylaw2_FaultTells.j0 k a1 a2 t233 bt234.2.2.2.2.2.2.2.2.2.1 bt234.2.2.2.2.2.2.2.2.2.2 bt246.2.2.2.2.2.2.2.2.2.1 (bt246.2.2.2.2.2.2.2.2.2.2 != t233) t223 t224 t225 t226 t227 t228 t229 t230 t231 bt234.1 bt234.2.1 bt234.2.2.1 bt234.2.2.2.1 bt234.2.2.2.2.1 bt234.2.2.2.2.2.1 bt234.2.2.2.2.2.2.1 bt234.2.2.2.2.2.2.2.1 bt234.2.2.2.2.2.2.2.2.1 bt246.1 bt246.2.1 bt246.2.2.1 bt246.2.2.2.1 bt246.2.2.2.2.1 bt246.2.2.2.2.2.1 bt246.2.2.2.2.2.2.1 bt246.2.2.2.2.2.2.2.1 bt246.2.2.2.2.2.2.2.2.1) else (patchbaylaw2_FaultTells.j0 k a1 a2 t233 bt234.2.2.2.2.2.2.2.2.2.1 bt234.2.2.2.2.2.2.2.2.2.2 bt246.2.2.2.2.2.2.2.2.2.1 true t223 t224 t225 t226 t227 t228 t229 t230 t231 bt234.1 bt234.2.1 bt234.2.2.1 bt234.2.2.2.1 bt234.2.2.2.2.1 bt234.2.2.2.2.2.1 bt234.2.2.2.2.2.2.1 bt234.2.2.2.2.2.2.2.1 bt234.2.2.2.2.2.2.2.2.1 bt246.1 bt246.2.1 bt246.2.2.1 bt246.2.2.2.1 bt246.2.2.2.2.1 bt246.2.2.2.2.2.1 bt246.2.2.2.2.2.2.1 bt246.2.2.2.2.2.2.2.1 bt246.2.2.2.2.2.2.2.2.1)))))))) = some r := H
  have A10 := Aside0.mk A100
  clear A100
  replace H := Option.bind_eq_some_iff.mp H
  obtain ⟨t233, A110, H⟩ := H
  replace H : ((fault_Tell.f k t223 t224 t225 t226 t227 t228 t229 t230 t231 a1 a2).bind fun bt234 => ((fault_Answer.f k t223 t224 t225 t226 t227 t228 t229 t230 t231).bind fun bt246 => ((fault_Echo.f k t223 t224 a3 a4 t232).bind fun bt258 => ((patchbayref2_EchoOf.f k t223 t224 a3 a4 t232).bind fun bt269 => (if (!(bt258.1 == bt269.1) || (!(bt258.2.1 == bt269.2.1) || (!(bt258.2.2.1 == bt269.2.2.1) || (!(bt258.2.2.2.1 == bt269.2.2.2.1) || (!(bt258.2.2.2.2.1 == bt269.2.2.2.2.1) || (!(bt258.2.2.2.2.2.1 == bt269.2.2.2.2.2.1) || (!(bt258.2.2.2.2.2.2.1 == bt269.2.2.2.2.2.2.1) || (!(bt258.2.2.2.2.2.2.2.1 == bt269.2.2.2.2.2.2.2.1) || (!(bt258.2.2.2.2.2.2.2.2.1.toList == bt269.2.2.2.2.2.2.2.2.1.toList)))))))))) = true then (patchbaylaw2_FaultTells.j0 k a1 a2 t233 bt234.2.2.2.2.2.2.2.2.2.1 bt234.2.2.2.2.2.2.2.2.2.2 bt246.2.2.2.2.2.2.2.2.2.1 true t223 t224 t225 t226 t227 t228 t229 t230 t231 bt234.1 bt234.2.1 bt234.2.2.1 bt234.2.2.2.1 bt234.2.2.2.2.1 bt234.2.2.2.2.2.1 bt234.2.2.2.2.2.2.1 bt234.2.2.2.2.2.2.2.1 bt234.2.2.2.2.2.2.2.2.1 bt246.1 bt246.2.1 bt246.2.2.1 bt246.2.2.2.1 bt246.2.2.2.2.1 bt246.2.2.2.2.2.1 bt246.2.2.2.2.2.2.1 bt246.2.2.2.2.2.2.2.1 bt246.2.2.2.2.2.2.2.2.1) else (if bt258.2.2.2.2.2.2.2.2.2 = bt269.2.2.2.2.2.2.2.2.2 then (patchbaylaw2_FaultTells.j0 k a1 a2 t233 bt234.2.2.2.2.2.2.2.2.2.1 bt234.2.2.2.2.2.2.2.2.2.2 bt246.2.2.2.2.2.2.2.2.2.1 (bt246.2.2.2.2.2.2.2.2.2.2 != t233) t223 t224 t225 t226 t227 t228 t229 t230 t231 bt234.1 bt234.2.1 bt234.2.2.1 bt234.2.2.2.1 bt234.2.2.2.2.1 bt234.2.2.2.2.2.1 bt234.2.2.2.2.2.2.1 bt234.2.2.2.2.2.2.2.1 bt234.2.2.2.2.2.2.2.2.1 bt246.1 bt246.2.1 bt246.2.2.1 bt246.2.2.2.1 bt246.2.2.2.2.1 bt246.2.2.2.2.2.1 bt246.2.2.2.2.2.2.1 bt246.2.2.2.2.2.2.2.1 bt246.2.2.2.2.2.2.2.2.1) else (patchbaylaw2_FaultTells.j0 k a1 a2 t233 bt234.2.2.2.2.2.2.2.2.2.1 bt234.2.2.2.2.2.2.2.2.2.2 bt246.2.2.2.2.2.2.2.2.2.1 true t223 t224 t225 t226 t227 t228 t229 t230 t231 bt234.1 bt234.2.1 bt234.2.2.1 bt234.2.2.2.1 bt234.2.2.2.2.1 bt234.2.2.2.2.2.1 bt234.2.2.2.2.2.2.1 bt234.2.2.2.2.2.2.2.1 bt234.2.2.2.2.2.2.2.2.1 bt246.1 bt246.2.1 bt246.2.2.1 bt246.2.2.2.1 bt246.2.2.2.2.1 bt246.2.2.2.2.2.1 bt246.2.2.2.2.2.2.1 bt246.2.2.2.2.2.2.2.1 bt246.2.2.2.2.2.2.2.2.1))))))) = some r := H
  have A11 := Aside0.mk A110
  clear A110
  replace H := Option.bind_eq_some_iff.mp H
  obtain ⟨⟨t234, t235, t236, t237, t238, t239, t240, t241, t242, t243, t244⟩, A120, H⟩ := H
  replace H : ((fault_Answer.f k t223 t224 t225 t226 t227 t228 t229 t230 t231).bind fun bt246 => ((fault_Echo.f k t223 t224 a3 a4 t232).bind fun bt258 => ((patchbayref2_EchoOf.f k t223 t224 a3 a4 t232).bind fun bt269 => (if (!(bt258.1 == bt269.1) || (!(bt258.2.1 == bt269.2.1) || (!(bt258.2.2.1 == bt269.2.2.1) || (!(bt258.2.2.2.1 == bt269.2.2.2.1) || (!(bt258.2.2.2.2.1 == bt269.2.2.2.2.1) || (!(bt258.2.2.2.2.2.1 == bt269.2.2.2.2.2.1) || (!(bt258.2.2.2.2.2.2.1 == bt269.2.2.2.2.2.2.1) || (!(bt258.2.2.2.2.2.2.2.1 == bt269.2.2.2.2.2.2.2.1) || (!(bt258.2.2.2.2.2.2.2.2.1.toList == bt269.2.2.2.2.2.2.2.2.1.toList)))))))))) = true then (patchbaylaw2_FaultTells.j0 k a1 a2 t233 t243 t244 bt246.2.2.2.2.2.2.2.2.2.1 true t223 t224 t225 t226 t227 t228 t229 t230 t231 t234 t235 t236 t237 t238 t239 t240 t241 t242 bt246.1 bt246.2.1 bt246.2.2.1 bt246.2.2.2.1 bt246.2.2.2.2.1 bt246.2.2.2.2.2.1 bt246.2.2.2.2.2.2.1 bt246.2.2.2.2.2.2.2.1 bt246.2.2.2.2.2.2.2.2.1) else (if bt258.2.2.2.2.2.2.2.2.2 = bt269.2.2.2.2.2.2.2.2.2 then (patchbaylaw2_FaultTells.j0 k a1 a2 t233 t243 t244 bt246.2.2.2.2.2.2.2.2.2.1 (bt246.2.2.2.2.2.2.2.2.2.2 != t233) t223 t224 t225 t226 t227 t228 t229 t230 t231 t234 t235 t236 t237 t238 t239 t240 t241 t242 bt246.1 bt246.2.1 bt246.2.2.1 bt246.2.2.2.1 bt246.2.2.2.2.1 bt246.2.2.2.2.2.1 bt246.2.2.2.2.2.2.1 bt246.2.2.2.2.2.2.2.1 bt246.2.2.2.2.2.2.2.2.1) else (patchbaylaw2_FaultTells.j0 k a1 a2 t233 t243 t244 bt246.2.2.2.2.2.2.2.2.2.1 true t223 t224 t225 t226 t227 t228 t229 t230 t231 t234 t235 t236 t237 t238 t239 t240 t241 t242 bt246.1 bt246.2.1 bt246.2.2.1 bt246.2.2.2.1 bt246.2.2.2.2.1 bt246.2.2.2.2.2.1 bt246.2.2.2.2.2.2.1 bt246.2.2.2.2.2.2.2.1 bt246.2.2.2.2.2.2.2.2.1)))))) = some r := H
  have A12 := Aside0.mk A120
  clear A120
  replace H := Option.bind_eq_some_iff.mp H
  obtain ⟨⟨t246, t247, t248, t249, t250, t251, t252, t253, t254, t255, t256⟩, A130, H⟩ := H
  replace H : ((fault_Echo.f k t223 t224 a3 a4 t232).bind fun bt258 => ((patchbayref2_EchoOf.f k t223 t224 a3 a4 t232).bind fun bt269 => (if (!(bt258.1 == bt269.1) || (!(bt258.2.1 == bt269.2.1) || (!(bt258.2.2.1 == bt269.2.2.1) || (!(bt258.2.2.2.1 == bt269.2.2.2.1) || (!(bt258.2.2.2.2.1 == bt269.2.2.2.2.1) || (!(bt258.2.2.2.2.2.1 == bt269.2.2.2.2.2.1) || (!(bt258.2.2.2.2.2.2.1 == bt269.2.2.2.2.2.2.1) || (!(bt258.2.2.2.2.2.2.2.1 == bt269.2.2.2.2.2.2.2.1) || (!(bt258.2.2.2.2.2.2.2.2.1.toList == bt269.2.2.2.2.2.2.2.2.1.toList)))))))))) = true then (patchbaylaw2_FaultTells.j0 k a1 a2 t233 t243 t244 t255 true t223 t224 t225 t226 t227 t228 t229 t230 t231 t234 t235 t236 t237 t238 t239 t240 t241 t242 t246 t247 t248 t249 t250 t251 t252 t253 t254) else (if bt258.2.2.2.2.2.2.2.2.2 = bt269.2.2.2.2.2.2.2.2.2 then (patchbaylaw2_FaultTells.j0 k a1 a2 t233 t243 t244 t255 (t256 != t233) t223 t224 t225 t226 t227 t228 t229 t230 t231 t234 t235 t236 t237 t238 t239 t240 t241 t242 t246 t247 t248 t249 t250 t251 t252 t253 t254) else (patchbaylaw2_FaultTells.j0 k a1 a2 t233 t243 t244 t255 true t223 t224 t225 t226 t227 t228 t229 t230 t231 t234 t235 t236 t237 t238 t239 t240 t241 t242 t246 t247 t248 t249 t250 t251 t252 t253 t254))))) = some r := H
  have A13 := Aside0.mk A130
  clear A130
  replace H := Option.bind_eq_some_iff.mp H
  obtain ⟨⟨t258, t259, t260, t261, t262, t263, t264, t265, t266, t267⟩, A140, H⟩ := H
  replace H : ((patchbayref2_EchoOf.f k t223 t224 a3 a4 t232).bind fun bt269 => (if (!(t258 == bt269.1) || (!(t259 == bt269.2.1) || (!(t260 == bt269.2.2.1) || (!(t261 == bt269.2.2.2.1) || (!(t262 == bt269.2.2.2.2.1) || (!(t263 == bt269.2.2.2.2.2.1) || (!(t264 == bt269.2.2.2.2.2.2.1) || (!(t265 == bt269.2.2.2.2.2.2.2.1) || (!(t266.toList == bt269.2.2.2.2.2.2.2.2.1.toList)))))))))) = true then (patchbaylaw2_FaultTells.j0 k a1 a2 t233 t243 t244 t255 true t223 t224 t225 t226 t227 t228 t229 t230 t231 t234 t235 t236 t237 t238 t239 t240 t241 t242 t246 t247 t248 t249 t250 t251 t252 t253 t254) else (if t267 = bt269.2.2.2.2.2.2.2.2.2 then (patchbaylaw2_FaultTells.j0 k a1 a2 t233 t243 t244 t255 (t256 != t233) t223 t224 t225 t226 t227 t228 t229 t230 t231 t234 t235 t236 t237 t238 t239 t240 t241 t242 t246 t247 t248 t249 t250 t251 t252 t253 t254) else (patchbaylaw2_FaultTells.j0 k a1 a2 t233 t243 t244 t255 true t223 t224 t225 t226 t227 t228 t229 t230 t231 t234 t235 t236 t237 t238 t239 t240 t241 t242 t246 t247 t248 t249 t250 t251 t252 t253 t254)))) = some r := H
  have A14 := Aside0.mk A140
  clear A140
  replace H := Option.bind_eq_some_iff.mp H
  obtain ⟨⟨t269, t270, t271, t272, t273, t274, t275, t276, t277, t278⟩, A150, H⟩ := H
  replace H : (if (!(t258 == t269) || (!(t259 == t270) || (!(t260 == t271) || (!(t261 == t272) || (!(t262 == t273) || (!(t263 == t274) || (!(t264 == t275) || (!(t265 == t276) || (!(t266.toList == t277.toList)))))))))) = true then (patchbaylaw2_FaultTells.j0 k a1 a2 t233 t243 t244 t255 true t223 t224 t225 t226 t227 t228 t229 t230 t231 t234 t235 t236 t237 t238 t239 t240 t241 t242 t246 t247 t248 t249 t250 t251 t252 t253 t254) else (if t267 = t278 then (patchbaylaw2_FaultTells.j0 k a1 a2 t233 t243 t244 t255 (t256 != t233) t223 t224 t225 t226 t227 t228 t229 t230 t231 t234 t235 t236 t237 t238 t239 t240 t241 t242 t246 t247 t248 t249 t250 t251 t252 t253 t254) else (patchbaylaw2_FaultTells.j0 k a1 a2 t233 t243 t244 t255 true t223 t224 t225 t226 t227 t228 t229 t230 t231 t234 t235 t236 t237 t238 t239 t240 t241 t242 t246 t247 t248 t249 t250 t251 t252 t253 t254))) = some r := H
  have A15 := Aside0.mk A150
  clear A150
  have HC16 := Aside0.mk H
  clear H
  go_enter Try.func6, Try.ntmps6
  go_upto_region 9 with (first | ((with_reducible refine gate_dst (N := 6) rfl ?_); refine box_event ?hg (N := 6) ?hd (cs := #[.int .u32 a0_0, .int .u32 a0_1, .int .i64 a0_2, .int .i64 a0_3, .int .i64 a0_4, .int .i64 a0_5, .bool a0_6, .bool a0_7, .string a0_8]) (t := 30) ?hr ?_; (case hd => rfl); (case hg => rfl); (case hr => first | (go_simp; done) | (go_simp; rfl)); intro gb221 hg w17 hbox hb; have n0_ := Aside0.mk (below_step (Fit.bl HB.out) hb); have n1_ := Aside0.mk (hbox); have n2_ := Aside0.mk ((by rw [hg]; exact (below_size (Fit.bl HB.out)) : w.heap.size ≤ gb221)); have n3_ := Aside0.mk ((by rw [hg]; exact (below_size (Fit.bl HB.out)) : w.heap.size ≤ gb221)); clear HB; have HB := n0_; have BK221 := n1_; have GW221 := n2_; have GE221 := n3_; clear n0_ n1_ n2_ n3_; clear hb hbox hg) | ((with_reducible refine gate_callee (f := 28) rfl ?_); refine goesL_ (some 28) rfl rfl Try.func28 (by kernel_rfl) rfl #[] rfl (by (try simp only [List.map_toArray, List.map_cons, List.map_nil]); first | done | rfl | (simp only [List.length_drop, List.length_take]; rfl)) ?_; (with_reducible refine (patchbaylaw2_faultLives.calls k  true _ A7.out).mono ?_); rintro e w18 ⟨rfl, hb⟩; refine ⟨_, rfl, ?_⟩; have n0_ := Aside0.mk (blk_below (g := gb221) (Fit.pk BK221.out) hb); have n1_ := Aside0.mk (below_step (Fit.bl HB.out) hb); clear BK221; clear HB; have BK221 := n0_; have HB := n1_; clear n0_ n1_; (try clear hb); (try clear hb2); (try clear hk); (try clear hi); obtain ⟨hcz19_0, hcz19_1, hcz19_2, hcz19_3, hcz19_4, hcz19_5, hcz19_6, hcz19_7, hcz19_8, hfz19_0⟩ := Fit.cells9 BK221.out) | ((with_reducible refine gate_callee (f := 16) rfl ?_); refine goesL_ (some 31) rfl rfl Try.func16 (by kernel_rfl) rfl #[.agg #[.int .u32 a0_0, .int .u32 a0_1, .int .i64 a0_2, .int .i64 a0_3, .int .i64 a0_4, .int .i64 a0_5, .bool a0_6, .bool a0_7, .string a0_8], .int .i64 40] rfl (by (try simp only [List.map_toArray, List.map_cons, List.map_nil]); first | done | rfl | (simp only [List.length_drop, List.length_take]; rfl)) ?_; (with_reducible refine (patchbaylaw2_bare.calls a0_0 a0_1 a0_2 a0_3 a0_4 a0_5 a0_6 a0_7 a0_8 40 t223 t224 t225 t226 t227 t228 t229 t230 t231 _ A9.out).mono ?_); rintro e w20 ⟨rfl, hb⟩; refine ⟨_, rfl, ?_⟩; have n0_ := Aside0.mk (blk_below (g := gb221) (Fit.pk BK221.out) hb); have n1_ := Aside0.mk (below_step (Fit.bl HB.out) hb); clear BK221; clear HB; have BK221 := n0_; have HB := n1_; clear n0_ n1_; (try clear hb); (try clear hb2); (try clear hk); (try clear hi)) | ((with_reducible refine gate_callee (f := 9) rfl ?_); refine goesL_ (some 33) rfl rfl Try.func9 (by kernel_rfl) rfl #[.string a5, .int .i64 40] rfl (by (try simp only [List.map_toArray, List.map_cons, List.map_nil]); first | done | rfl | (simp only [List.length_drop, List.length_take]; rfl)) ?_; (with_reducible refine (patchbaylaw2_begin.calls a5 40 t232 _ A10.out).mono ?_); rintro e w21 ⟨rfl, hb⟩; refine ⟨_, rfl, ?_⟩; have n0_ := Aside0.mk (blk_below (g := gb221) (Fit.pk BK221.out) hb); have n1_ := Aside0.mk (below_step (Fit.bl HB.out) hb); clear BK221; clear HB; have BK221 := n0_; have HB := n1_; clear n0_ n1_; (try clear hb); (try clear hb2); (try clear hk); (try clear hi); obtain ⟨hcz22_0, hcz22_1, hcz22_2, hcz22_3, hcz22_4, hcz22_5, hcz22_6, hcz22_7, hcz22_8, hfz22_0⟩ := Fit.cells9 BK221.out) | ((with_reducible refine gate_callee (f := 23) rfl ?_); refine goesL_ (some 35) rfl rfl Try.func23 (by kernel_rfl) rfl #[.agg #[.int .u32 t223, .int .u32 t224, .int .i64 t225, .int .i64 t226, .int .i64 t227, .int .i64 t228, .bool t229, .bool t230, .string t231]] rfl (by (try simp only [List.map_toArray, List.map_cons, List.map_nil]); first | done | rfl | (simp only [List.length_drop, List.length_take]; rfl)) ?_; (with_reducible refine (patchbayref2_PacketFault.calls k t223 t224 t225 t226 t227 t228 t229 t230 t231 t233 _ A11.out).mono ?_); rintro e w23 ⟨rfl, hb⟩; refine ⟨_, rfl, ?_⟩; have n0_ := Aside0.mk (blk_below (g := gb221) (o := .cells #[.int .u32 t223, .int .u32 t224, .int .i64 t225, .int .i64 t226, .int .i64 t227, .int .i64 t228, .bool t229, .bool t230, .string t231] 30 (0, 0)) (by (with_reducible repeat first | apply blk_drewN | apply blk_drew | apply blk_alloc); refine blk_put (cs := #[.int .u32 t223, .int .u32 t224, .int .i64 t225, .int .i64 t226, .int .i64 t227, .int .i64 t228, .bool t229, .bool t230, .string a0_8]) ?_ 8 _ rfl; (with_reducible repeat first | apply blk_drewN | apply blk_drew | apply blk_alloc); refine blk_put (cs := #[.int .u32 t223, .int .u32 t224, .int .i64 t225, .int .i64 t226, .int .i64 t227, .int .i64 t228, .bool t229, .bool a0_7, .string a0_8]) ?_ 7 _ rfl; (with_reducible repeat first | apply blk_drewN | apply blk_drew | apply blk_alloc); refine blk_put (cs := #[.int .u32 t223, .int .u32 t224, .int .i64 t225, .int .i64 t226, .int .i64 t227, .int .i64 t228, .bool a0_6, .bool a0_7, .string a0_8]) ?_ 6 _ rfl; (with_reducible repeat first | apply blk_drewN | apply blk_drew | apply blk_alloc); refine blk_put (cs := #[.int .u32 t223, .int .u32 t224, .int .i64 t225, .int .i64 t226, .int .i64 t227, .int .i64 a0_5, .bool a0_6, .bool a0_7, .string a0_8]) ?_ 5 _ rfl; (with_reducible repeat first | apply blk_drewN | apply blk_drew | apply blk_alloc); refine blk_put (cs := #[.int .u32 t223, .int .u32 t224, .int .i64 t225, .int .i64 t226, .int .i64 a0_4, .int .i64 a0_5, .bool a0_6, .bool a0_7, .string a0_8]) ?_ 4 _ rfl; (with_reducible repeat first | apply blk_drewN | apply blk_drew | apply blk_alloc); refine blk_put (cs := #[.int .u32 t223, .int .u32 t224, .int .i64 t225, .int .i64 a0_3, .int .i64 a0_4, .int .i64 a0_5, .bool a0_6, .bool a0_7, .string a0_8]) ?_ 3 _ rfl; (with_reducible repeat first | apply blk_drewN | apply blk_drew | apply blk_alloc); refine blk_put (cs := #[.int .u32 t223, .int .u32 t224, .int .i64 a0_2, .int .i64 a0_3, .int .i64 a0_4, .int .i64 a0_5, .bool a0_6, .bool a0_7, .string a0_8]) ?_ 2 _ rfl; (with_reducible repeat first | apply blk_drewN | apply blk_drew | apply blk_alloc); refine blk_put (cs := #[.int .u32 t223, .int .u32 a0_1, .int .i64 a0_2, .int .i64 a0_3, .int .i64 a0_4, .int .i64 a0_5, .bool a0_6, .bool a0_7, .string a0_8]) ?_ 1 _ rfl; (with_reducible repeat first | apply blk_drewN | apply blk_drew | apply blk_alloc); refine blk_put (cs := #[.int .u32 a0_0, .int .u32 a0_1, .int .i64 a0_2, .int .i64 a0_3, .int .i64 a0_4, .int .i64 a0_5, .bool a0_6, .bool a0_7, .string a0_8]) ?_ 0 _ rfl; (with_reducible repeat first | apply blk_drewN | apply blk_drew | apply blk_alloc); exact BK221.out) hb); have n1_ := Aside0.mk (below_step (Fit.bl HB.out) hb); clear BK221; clear HB; have BK221 := n0_; have HB := n1_; clear n0_ n1_; (try clear hb); (try clear hb2); (try clear hk); (try clear hi); obtain ⟨hcz24_0, hcz24_1, hcz24_2, hcz24_3, hcz24_4, hcz24_5, hcz24_6, hcz24_7, hcz24_8, hfz24_0⟩ := Fit.cells9 BK221.out) | ((with_reducible refine gate_callee (f := 29) rfl ?_); refine goesL_ (some 40) rfl rfl Try.func29 (by kernel_rfl) rfl #[.agg #[.int .u32 t223, .int .u32 t224, .int .i64 t225, .int .i64 t226, .int .i64 t227, .int .i64 t228, .bool t229, .bool t230, .string t231], .int .i64 a1, .int .u32 a2] rfl (by (try simp only [List.map_toArray, List.map_cons, List.map_nil]); first | done | rfl | (simp only [List.length_drop, List.length_take]; rfl)) ?_; (with_reducible refine (fault_Tell.calls k t223 t224 t225 t226 t227 t228 t229 t230 t231 a1 a2 t234 t235 t236 t237 t238 t239 t240 t241 t242 t243 t244 _ A12.out).mono ?_); rintro e w25 ⟨rfl, hb⟩; refine ⟨_, rfl, ?_⟩; have n0_ := Aside0.mk (blk_below (g := gb221) (Fit.pk BK221.out) hb); have n1_ := Aside0.mk (below_step (Fit.bl HB.out) hb); clear BK221; clear HB; have BK221 := n0_; have HB := n1_; clear n0_ n1_; (try clear hb); (try clear hb2); (try clear hk); (try clear hi)) | ((with_reducible refine gate_dst (N := 14) rfl ?_); refine box_event ?hg (N := 14) ?hd (cs := #[.int .u32 0, .int .u32 0, .int .i64 0, .int .i64 0, .int .i64 0, .int .i64 0, .bool false, .bool false, .string (⟨#[]⟩ : ByteArray)]) (t := 30) ?hr ?_; (case hd => rfl); (case hg => rfl); (case hr => first | (go_simp; done) | (go_simp; rfl)); intro gb245 hg w26 hbox hb; have n0_ := Aside0.mk (blk_below (g := gb221) (Fit.pk BK221.out) hb); have n1_ := Aside0.mk (below_step (Fit.bl HB.out) hb); have n2_ := Aside0.mk (hbox); have n3_ := Aside0.mk ((by rw [hg]; exact (below_size (Fit.bl HB.out)) : w.heap.size ≤ gb245)); have n4_ := Aside0.mk ((by rw [hg]; exact (below_size (Fit.bl HB.out)) : w.heap.size ≤ gb245)); have n5_ := Aside0.mk ((by rw [hg]; exact Nat.ne_of_lt (blk_lt (g := gb221) (Fit.pk BK221.out)) : gb221 ≠ gb245)); have n6_ := Aside0.mk ((by rw [hg]; exact Nat.ne_of_gt (blk_lt (g := gb221) (Fit.pk BK221.out)) : gb245 ≠ gb221)); clear BK221; clear HB; have BK221 := n0_; have HB := n1_; have BK245 := n2_; have GW245 := n3_; have GE245 := n4_; have NB221_245 := n5_; have NB245_221 := n6_; clear n0_ n1_ n2_ n3_ n4_ n5_ n6_; clear hb hbox hg; have hnb27 := NB245_221.out; have hnc27 := NB221_245.out; obtain ⟨hcz28_0, hcz28_1, hcz28_2, hcz28_3, hcz28_4, hcz28_5, hcz28_6, hcz28_7, hcz28_8, hfz28_0⟩ := Fit.cells9 BK245.out; obtain ⟨hcz29_0, hcz29_1, hcz29_2, hcz29_3, hcz29_4, hcz29_5, hcz29_6, hcz29_7, hcz29_8, hfz29_0⟩ := Fit.cells9 BK221.out) | ((with_reducible refine gate_callee (f := 30) rfl ?_); refine goesL_ (some 46) rfl rfl Try.func30 (by kernel_rfl) rfl #[.agg #[.int .u32 t223, .int .u32 t224, .int .i64 t225, .int .i64 t226, .int .i64 t227, .int .i64 t228, .bool t229, .bool t230, .string t231]] rfl (by (try simp only [List.map_toArray, List.map_cons, List.map_nil]); first | done | rfl | (simp only [List.length_drop, List.length_take]; rfl)) ?_; (with_reducible refine (fault_Answer.calls k t223 t224 t225 t226 t227 t228 t229 t230 t231 t246 t247 t248 t249 t250 t251 t252 t253 t254 t255 t256 _ A13.out).mono ?_); rintro e w30 ⟨rfl, hb⟩; refine ⟨_, rfl, ?_⟩; have n0_ := Aside0.mk (blk_below (g := gb221) (o := .cells #[.int .u32 t223, .int .u32 t224, .int .i64 t225, .int .i64 t226, .int .i64 t227, .int .i64 t228, .bool t229, .bool t230, .string t231] 30 (0, 0)) (by (with_reducible repeat first | apply blk_drewN | apply blk_drew | apply blk_alloc); refine blk_far ?_ NB221_245.out _; (with_reducible repeat first | apply blk_drewN | apply blk_drew | apply blk_alloc); refine blk_far ?_ NB221_245.out _; (with_reducible repeat first | apply blk_drewN | apply blk_drew | apply blk_alloc); refine blk_far ?_ NB221_245.out _; (with_reducible repeat first | apply blk_drewN | apply blk_drew | apply blk_alloc); refine blk_far ?_ NB221_245.out _; (with_reducible repeat first | apply blk_drewN | apply blk_drew | apply blk_alloc); refine blk_far ?_ NB221_245.out _; (with_reducible repeat first | apply blk_drewN | apply blk_drew | apply blk_alloc); refine blk_far ?_ NB221_245.out _; (with_reducible repeat first | apply blk_drewN | apply blk_drew | apply blk_alloc); refine blk_far ?_ NB221_245.out _; (with_reducible repeat first | apply blk_drewN | apply blk_drew | apply blk_alloc); refine blk_far ?_ NB221_245.out _; (with_reducible repeat first | apply blk_drewN | apply blk_drew | apply blk_alloc); refine blk_far ?_ NB221_245.out _; (with_reducible repeat first | apply blk_drewN | apply blk_drew | apply blk_alloc); exact BK221.out) hb); have n1_ := Aside0.mk (blk_below (g := gb245) (o := .cells #[.int .u32 t234, .int .u32 t235, .int .i64 t236, .int .i64 t237, .int .i64 t238, .int .i64 t239, .bool t240, .bool t241, .string t242] 30 (0, 0)) (by (with_reducible repeat first | apply blk_drewN | apply blk_drew | apply blk_alloc); refine blk_put (cs := #[.int .u32 t234, .int .u32 t235, .int .i64 t236, .int .i64 t237, .int .i64 t238, .int .i64 t239, .bool t240, .bool t241, .string (⟨#[]⟩ : ByteArray)]) ?_ 8 _ rfl; (with_reducible repeat first | apply blk_drewN | apply blk_drew | apply blk_alloc); refine blk_put (cs := #[.int .u32 t234, .int .u32 t235, .int .i64 t236, .int .i64 t237, .int .i64 t238, .int .i64 t239, .bool t240, .bool false, .string (⟨#[]⟩ : ByteArray)]) ?_ 7 _ rfl; (with_reducible repeat first | apply blk_drewN | apply blk_drew | apply blk_alloc); refine blk_put (cs := #[.int .u32 t234, .int .u32 t235, .int .i64 t236, .int .i64 t237, .int .i64 t238, .int .i64 t239, .bool false, .bool false, .string (⟨#[]⟩ : ByteArray)]) ?_ 6 _ rfl; (with_reducible repeat first | apply blk_drewN | apply blk_drew | apply blk_alloc); refine blk_put (cs := #[.int .u32 t234, .int .u32 t235, .int .i64 t236, .int .i64 t237, .int .i64 t238, .int .i64 0, .bool false, .bool false, .string (⟨#[]⟩ : ByteArray)]) ?_ 5 _ rfl; (with_reducible repeat first | apply blk_drewN | apply blk_drew | apply blk_alloc); refine blk_put (cs := #[.int .u32 t234, .int .u32 t235, .int .i64 t236, .int .i64 t237, .int .i64 0, .int .i64 0, .bool false, .bool false, .string (⟨#[]⟩ : ByteArray)]) ?_ 4 _ rfl; (with_reducible repeat first | apply blk_drewN | apply blk_drew | apply blk_alloc); refine blk_put (cs := #[.int .u32 t234, .int .u32 t235, .int .i64 t236, .int .i64 0, .int .i64 0, .int .i64 0, .bool false, .bool false, .string (⟨#[]⟩ : ByteArray)]) ?_ 3 _ rfl; (with_reducible repeat first | apply blk_drewN | apply blk_drew | apply blk_alloc); refine blk_put (cs := #[.int .u32 t234, .int .u32 t235, .int .i64 0, .int .i64 0, .int .i64 0, .int .i64 0, .bool false, .bool false, .string (⟨#[]⟩ : ByteArray)]) ?_ 2 _ rfl; (with_reducible repeat first | apply blk_drewN | apply blk_drew | apply blk_alloc); refine blk_put (cs := #[.int .u32 t234, .int .u32 0, .int .i64 0, .int .i64 0, .int .i64 0, .int .i64 0, .bool false, .bool false, .string (⟨#[]⟩ : ByteArray)]) ?_ 1 _ rfl; (with_reducible repeat first | apply blk_drewN | apply blk_drew | apply blk_alloc); refine blk_put (cs := #[.int .u32 0, .int .u32 0, .int .i64 0, .int .i64 0, .int .i64 0, .int .i64 0, .bool false, .bool false, .string (⟨#[]⟩ : ByteArray)]) ?_ 0 _ rfl; (with_reducible repeat first | apply blk_drewN | apply blk_drew | apply blk_alloc); exact BK245.out) hb); have n2_ := Aside0.mk (below_step (Fit.bl HB.out) hb); clear BK221; clear BK245; clear HB; have BK221 := n0_; have BK245 := n1_; have HB := n2_; clear n0_ n1_ n2_; (try clear hb); (try clear hb2); (try clear hk); (try clear hi)) | ((with_reducible refine gate_dst (N := 17) rfl ?_); refine box_event ?hg (N := 17) ?hd (cs := #[.int .u32 0, .int .u32 0, .int .i64 0, .int .i64 0, .int .i64 0, .int .i64 0, .bool false, .bool false, .string (⟨#[]⟩ : ByteArray)]) (t := 30) ?hr ?_; (case hd => rfl); (case hg => rfl); (case hr => first | (go_simp; done) | (go_simp; rfl)); intro gb257 hg w31 hbox hb; have n0_ := Aside0.mk (blk_below (g := gb221) (Fit.pk BK221.out) hb); have n1_ := Aside0.mk (blk_below (g := gb245) (Fit.pk BK245.out) hb); have n2_ := Aside0.mk (below_step (Fit.bl HB.out) hb); have n3_ := Aside0.mk (hbox); have n4_ := Aside0.mk ((by rw [hg]; exact (below_size (Fit.bl HB.out)) : w.heap.size ≤ gb257)); have n5_ := Aside0.mk ((by rw [hg]; exact (below_size (Fit.bl HB.out)) : w.heap.size ≤ gb257)); have n6_ := Aside0.mk ((by rw [hg]; exact Nat.ne_of_lt (blk_lt (g := gb221) (Fit.pk BK221.out)) : gb221 ≠ gb257)); have n7_ := Aside0.mk ((by rw [hg]; exact Nat.ne_of_gt (blk_lt (g := gb221) (Fit.pk BK221.out)) : gb257 ≠ gb221)); have n8_ := Aside0.mk ((by rw [hg]; exact Nat.ne_of_lt (blk_lt (g := gb245) (Fit.pk BK245.out)) : gb245 ≠ gb257)); have n9_ := Aside0.mk ((by rw [hg]; exact Nat.ne_of_gt (blk_lt (g := gb245) (Fit.pk BK245.out)) : gb257 ≠ gb245)); clear BK221; clear BK245; clear HB; have BK221 := n0_; have BK245 := n1_; have HB := n2_; have BK257 := n3_; have GW257 := n4_; have GE257 := n5_; have NB221_257 := n6_; have NB257_221 := n7_; have NB245_257 := n8_; have NB257_245 := n9_; clear n0_ n1_ n2_ n3_ n4_ n5_ n6_ n7_ n8_ n9_; clear hb hbox hg; have hnb32 := NB257_221.out; have hnc32 := NB221_257.out; have hnb33 := NB257_245.out; have hnc33 := NB245_257.out; obtain ⟨hcz34_0, hcz34_1, hcz34_2, hcz34_3, hcz34_4, hcz34_5, hcz34_6, hcz34_7, hcz34_8, hfz34_0⟩ := Fit.cells9 BK257.out; obtain ⟨hcz35_0, hcz35_1, hcz35_2, hcz35_3, hcz35_4, hcz35_5, hcz35_6, hcz35_7, hcz35_8, hfz35_0⟩ := Fit.cells9 BK221.out) | ((with_reducible refine gate_callee (f := 31) rfl ?_); refine goesL_ (some 58) rfl rfl Try.func31 (by kernel_rfl) rfl #[.int .u32 t223, .int .u32 t224, .int .i64 a3, .int .i64 a4, .string t232] rfl (by (try simp only [List.map_toArray, List.map_cons, List.map_nil]); first | done | rfl | (simp only [List.length_drop, List.length_take]; rfl)) ?_; (with_reducible refine (fault_Echo.calls k t223 t224 a3 a4 t232 t258 t259 t260 t261 t262 t263 t264 t265 t266 t267 _ A14.out).mono ?_); rintro e w36 ⟨rfl, hb⟩; refine ⟨_, rfl, ?_⟩; have n0_ := Aside0.mk (blk_below (g := gb221) (o := .cells #[.int .u32 t223, .int .u32 t224, .int .i64 t225, .int .i64 t226, .int .i64 t227, .int .i64 t228, .bool t229, .bool t230, .string t231] 30 (0, 0)) (by (with_reducible repeat first | apply blk_drewN | apply blk_drew | apply blk_alloc); refine blk_far ?_ NB221_257.out _; (with_reducible repeat first | apply blk_drewN | apply blk_drew | apply blk_alloc); refine blk_far ?_ NB221_257.out _; (with_reducible repeat first | apply blk_drewN | apply blk_drew | apply blk_alloc); refine blk_far ?_ NB221_257.out _; (with_reducible repeat first | apply blk_drewN | apply blk_drew | apply blk_alloc); refine blk_far ?_ NB221_257.out _; (with_reducible repeat first | apply blk_drewN | apply blk_drew | apply blk_alloc); refine blk_far ?_ NB221_257.out _; (with_reducible repeat first | apply blk_drewN | apply blk_drew | apply blk_alloc); refine blk_far ?_ NB221_257.out _; (with_reducible repeat first | apply blk_drewN | apply blk_drew | apply blk_alloc); refine blk_far ?_ NB221_257.out _; (with_reducible repeat first | apply blk_drewN | apply blk_drew | apply blk_alloc); refine blk_far ?_ NB221_257.out _; (with_reducible repeat first | apply blk_drewN | apply blk_drew | apply blk_alloc); refine blk_far ?_ NB221_257.out _; (with_reducible repeat first | apply blk_drewN | apply blk_drew | apply blk_alloc); exact BK221.out) hb); have n1_ := Aside0.mk (blk_below (g := gb245) (o := .cells #[.int .u32 t234, .int .u32 t235, .int .i64 t236, .int .i64 t237, .int .i64 t238, .int .i64 t239, .bool t240, .bool t241, .string t242] 30 (0, 0)) (by (with_reducible repeat first | apply blk_drewN | apply blk_drew | apply blk_alloc); refine blk_far ?_ NB245_257.out _; (with_reducible repeat first | apply blk_drewN | apply blk_drew | apply blk_alloc); refine blk_far ?_ NB245_257.out _; (with_reducible repeat first | apply blk_drewN | apply blk_drew | apply blk_alloc); refine blk_far ?_ NB245_257.out _; (with_reducible repeat first | apply blk_drewN | apply blk_drew | apply blk_alloc); refine blk_far ?_ NB245_257.out _; (with_reducible repeat first | apply blk_drewN | apply blk_drew | apply blk_alloc); refine blk_far ?_ NB245_257.out _; (with_reducible repeat first | apply blk_drewN | apply blk_drew | apply blk_alloc); refine blk_far ?_ NB245_257.out _; (with_reducible repeat first | apply blk_drewN | apply blk_drew | apply blk_alloc); refine blk_far ?_ NB245_257.out _; (with_reducible repeat first | apply blk_drewN | apply blk_drew | apply blk_alloc); refine blk_far ?_ NB245_257.out _; (with_reducible repeat first | apply blk_drewN | apply blk_drew | apply blk_alloc); refine blk_far ?_ NB245_257.out _; (with_reducible repeat first | apply blk_drewN | apply blk_drew | apply blk_alloc); exact BK245.out) hb); have n2_ := Aside0.mk (blk_below (g := gb257) (o := .cells #[.int .u32 t246, .int .u32 t247, .int .i64 t248, .int .i64 t249, .int .i64 t250, .int .i64 t251, .bool t252, .bool t253, .string t254] 30 (0, 0)) (by (with_reducible repeat first | apply blk_drewN | apply blk_drew | apply blk_alloc); refine blk_put (cs := #[.int .u32 t246, .int .u32 t247, .int .i64 t248, .int .i64 t249, .int .i64 t250, .int .i64 t251, .bool t252, .bool t253, .string (⟨#[]⟩ : ByteArray)]) ?_ 8 _ rfl; (with_reducible repeat first | apply blk_drewN | apply blk_drew | apply blk_alloc); refine blk_put (cs := #[.int .u32 t246, .int .u32 t247, .int .i64 t248, .int .i64 t249, .int .i64 t250, .int .i64 t251, .bool t252, .bool false, .string (⟨#[]⟩ : ByteArray)]) ?_ 7 _ rfl; (with_reducible repeat first | apply blk_drewN | apply blk_drew | apply blk_alloc); refine blk_put (cs := #[.int .u32 t246, .int .u32 t247, .int .i64 t248, .int .i64 t249, .int .i64 t250, .int .i64 t251, .bool false, .bool false, .string (⟨#[]⟩ : ByteArray)]) ?_ 6 _ rfl; (with_reducible repeat first | apply blk_drewN | apply blk_drew | apply blk_alloc); refine blk_put (cs := #[.int .u32 t246, .int .u32 t247, .int .i64 t248, .int .i64 t249, .int .i64 t250, .int .i64 0, .bool false, .bool false, .string (⟨#[]⟩ : ByteArray)]) ?_ 5 _ rfl; (with_reducible repeat first | apply blk_drewN | apply blk_drew | apply blk_alloc); refine blk_put (cs := #[.int .u32 t246, .int .u32 t247, .int .i64 t248, .int .i64 t249, .int .i64 0, .int .i64 0, .bool false, .bool false, .string (⟨#[]⟩ : ByteArray)]) ?_ 4 _ rfl; (with_reducible repeat first | apply blk_drewN | apply blk_drew | apply blk_alloc); refine blk_put (cs := #[.int .u32 t246, .int .u32 t247, .int .i64 t248, .int .i64 0, .int .i64 0, .int .i64 0, .bool false, .bool false, .string (⟨#[]⟩ : ByteArray)]) ?_ 3 _ rfl; (with_reducible repeat first | apply blk_drewN | apply blk_drew | apply blk_alloc); refine blk_put (cs := #[.int .u32 t246, .int .u32 t247, .int .i64 0, .int .i64 0, .int .i64 0, .int .i64 0, .bool false, .bool false, .string (⟨#[]⟩ : ByteArray)]) ?_ 2 _ rfl; (with_reducible repeat first | apply blk_drewN | apply blk_drew | apply blk_alloc); refine blk_put (cs := #[.int .u32 t246, .int .u32 0, .int .i64 0, .int .i64 0, .int .i64 0, .int .i64 0, .bool false, .bool false, .string (⟨#[]⟩ : ByteArray)]) ?_ 1 _ rfl; (with_reducible repeat first | apply blk_drewN | apply blk_drew | apply blk_alloc); refine blk_put (cs := #[.int .u32 0, .int .u32 0, .int .i64 0, .int .i64 0, .int .i64 0, .int .i64 0, .bool false, .bool false, .string (⟨#[]⟩ : ByteArray)]) ?_ 0 _ rfl; (with_reducible repeat first | apply blk_drewN | apply blk_drew | apply blk_alloc); exact BK257.out) hb); have n3_ := Aside0.mk (below_step (Fit.bl HB.out) hb); clear BK221; clear BK245; clear BK257; clear HB; have BK221 := n0_; have BK245 := n1_; have BK257 := n2_; have HB := n3_; clear n0_ n1_ n2_ n3_; (try clear hb); (try clear hb2); (try clear hk); (try clear hi)) | ((with_reducible refine gate_dst (N := 20) rfl ?_); refine box_event ?hg (N := 20) ?hd (cs := #[.int .u32 0, .int .u32 0, .int .i64 0, .int .i64 0, .int .i64 0, .int .i64 0, .bool false, .bool false, .string (⟨#[]⟩ : ByteArray)]) (t := 30) ?hr ?_; (case hd => rfl); (case hg => rfl); (case hr => first | (go_simp; done) | (go_simp; rfl)); intro gb268 hg w37 hbox hb; have n0_ := Aside0.mk (blk_below (g := gb221) (Fit.pk BK221.out) hb); have n1_ := Aside0.mk (blk_below (g := gb245) (Fit.pk BK245.out) hb); have n2_ := Aside0.mk (blk_below (g := gb257) (Fit.pk BK257.out) hb); have n3_ := Aside0.mk (below_step (Fit.bl HB.out) hb); have n4_ := Aside0.mk (hbox); have n5_ := Aside0.mk ((by rw [hg]; exact (below_size (Fit.bl HB.out)) : w.heap.size ≤ gb268)); have n6_ := Aside0.mk ((by rw [hg]; exact (below_size (Fit.bl HB.out)) : w.heap.size ≤ gb268)); have n7_ := Aside0.mk ((by rw [hg]; exact Nat.ne_of_lt (blk_lt (g := gb221) (Fit.pk BK221.out)) : gb221 ≠ gb268)); have n8_ := Aside0.mk ((by rw [hg]; exact Nat.ne_of_gt (blk_lt (g := gb221) (Fit.pk BK221.out)) : gb268 ≠ gb221)); have n9_ := Aside0.mk ((by rw [hg]; exact Nat.ne_of_lt (blk_lt (g := gb245) (Fit.pk BK245.out)) : gb245 ≠ gb268)); have n10_ := Aside0.mk ((by rw [hg]; exact Nat.ne_of_gt (blk_lt (g := gb245) (Fit.pk BK245.out)) : gb268 ≠ gb245)); have n11_ := Aside0.mk ((by rw [hg]; exact Nat.ne_of_lt (blk_lt (g := gb257) (Fit.pk BK257.out)) : gb257 ≠ gb268)); have n12_ := Aside0.mk ((by rw [hg]; exact Nat.ne_of_gt (blk_lt (g := gb257) (Fit.pk BK257.out)) : gb268 ≠ gb257)); clear BK221; clear BK245; clear BK257; clear HB; have BK221 := n0_; have BK245 := n1_; have BK257 := n2_; have HB := n3_; have BK268 := n4_; have GW268 := n5_; have GE268 := n6_; have NB221_268 := n7_; have NB268_221 := n8_; have NB245_268 := n9_; have NB268_245 := n10_; have NB257_268 := n11_; have NB268_257 := n12_; clear n0_ n1_ n2_ n3_ n4_ n5_ n6_ n7_ n8_ n9_ n10_ n11_ n12_; clear hb hbox hg; have hnb38 := NB268_221.out; have hnc38 := NB221_268.out; have hnb39 := NB268_245.out; have hnc39 := NB245_268.out; have hnb40 := NB268_257.out; have hnc40 := NB257_268.out; obtain ⟨hcz41_0, hcz41_1, hcz41_2, hcz41_3, hcz41_4, hcz41_5, hcz41_6, hcz41_7, hcz41_8, hfz41_0⟩ := Fit.cells9 BK268.out; obtain ⟨hcz42_0, hcz42_1, hcz42_2, hcz42_3, hcz42_4, hcz42_5, hcz42_6, hcz42_7, hcz42_8, hfz42_0⟩ := Fit.cells9 BK221.out) | ((with_reducible refine gate_callee (f := 32) rfl ?_); refine goesL_ (some 69) rfl rfl Try.func32 (by kernel_rfl) rfl #[.int .u32 t223, .int .u32 t224, .int .i64 a3, .int .i64 a4, .string t232] rfl (by (try simp only [List.map_toArray, List.map_cons, List.map_nil]); first | done | rfl | (simp only [List.length_drop, List.length_take]; rfl)) ?_; (with_reducible refine (patchbayref2_EchoOf.calls k t223 t224 a3 a4 t232 t269 t270 t271 t272 t273 t274 t275 t276 t277 t278 _ A15.out).mono ?_); rintro e w43 ⟨rfl, hb⟩; refine ⟨_, rfl, ?_⟩; have n0_ := Aside0.mk (blk_below (g := gb221) (o := .cells #[.int .u32 t223, .int .u32 t224, .int .i64 t225, .int .i64 t226, .int .i64 t227, .int .i64 t228, .bool t229, .bool t230, .string t231] 30 (0, 0)) (by (with_reducible repeat first | apply blk_drewN | apply blk_drew | apply blk_alloc); refine blk_far ?_ NB221_268.out _; (with_reducible repeat first | apply blk_drewN | apply blk_drew | apply blk_alloc); refine blk_far ?_ NB221_268.out _; (with_reducible repeat first | apply blk_drewN | apply blk_drew | apply blk_alloc); refine blk_far ?_ NB221_268.out _; (with_reducible repeat first | apply blk_drewN | apply blk_drew | apply blk_alloc); refine blk_far ?_ NB221_268.out _; (with_reducible repeat first | apply blk_drewN | apply blk_drew | apply blk_alloc); refine blk_far ?_ NB221_268.out _; (with_reducible repeat first | apply blk_drewN | apply blk_drew | apply blk_alloc); refine blk_far ?_ NB221_268.out _; (with_reducible repeat first | apply blk_drewN | apply blk_drew | apply blk_alloc); refine blk_far ?_ NB221_268.out _; (with_reducible repeat first | apply blk_drewN | apply blk_drew | apply blk_alloc); refine blk_far ?_ NB221_268.out _; (with_reducible repeat first | apply blk_drewN | apply blk_drew | apply blk_alloc); refine blk_far ?_ NB221_268.out _; (with_reducible repeat first | apply blk_drewN | apply blk_drew | apply blk_alloc); exact BK221.out) hb); have n1_ := Aside0.mk (blk_below (g := gb245) (o := .cells #[.int .u32 t234, .int .u32 t235, .int .i64 t236, .int .i64 t237, .int .i64 t238, .int .i64 t239, .bool t240, .bool t241, .string t242] 30 (0, 0)) (by (with_reducible repeat first | apply blk_drewN | apply blk_drew | apply blk_alloc); refine blk_far ?_ NB245_268.out _; (with_reducible repeat first | apply blk_drewN | apply blk_drew | apply blk_alloc); refine blk_far ?_ NB245_268.out _; (with_reducible repeat first | apply blk_drewN | apply blk_drew | apply blk_alloc); refine blk_far ?_ NB245_268.out _; (with_reducible repeat first | apply blk_drewN | apply blk_drew | apply blk_alloc); refine blk_far ?_ NB245_268.out _; (with_reducible repeat first | apply blk_drewN | apply blk_drew | apply blk_alloc); refine blk_far ?_ NB245_268.out _; (with_reducible repeat first | apply blk_drewN | apply blk_drew | apply blk_alloc); refine blk_far ?_ NB245_268.out _; (with_reducible repeat first | apply blk_drewN | apply blk_drew | apply blk_alloc); refine blk_far ?_ NB245_268.out _; (with_reducible repeat first | apply blk_drewN | apply blk_drew | apply blk_alloc); refine blk_far ?_ NB245_268.out _; (with_reducible repeat first | apply blk_drewN | apply blk_drew | apply blk_alloc); refine blk_far ?_ NB245_268.out _; (with_reducible repeat first | apply blk_drewN | apply blk_drew | apply blk_alloc); exact BK245.out) hb); have n2_ := Aside0.mk (blk_below (g := gb257) (o := .cells #[.int .u32 t246, .int .u32 t247, .int .i64 t248, .int .i64 t249, .int .i64 t250, .int .i64 t251, .bool t252, .bool t253, .string t254] 30 (0, 0)) (by (with_reducible repeat first | apply blk_drewN | apply blk_drew | apply blk_alloc); refine blk_far ?_ NB257_268.out _; (with_reducible repeat first | apply blk_drewN | apply blk_drew | apply blk_alloc); refine blk_far ?_ NB257_268.out _; (with_reducible repeat first | apply blk_drewN | apply blk_drew | apply blk_alloc); refine blk_far ?_ NB257_268.out _; (with_reducible repeat first | apply blk_drewN | apply blk_drew | apply blk_alloc); refine blk_far ?_ NB257_268.out _; (with_reducible repeat first | apply blk_drewN | apply blk_drew | apply blk_alloc); refine blk_far ?_ NB257_268.out _; (with_reducible repeat first | apply blk_drewN | apply blk_drew | apply blk_alloc); refine blk_far ?_ NB257_268.out _; (with_reducible repeat first | apply blk_drewN | apply blk_drew | apply blk_alloc); refine blk_far ?_ NB257_268.out _; (with_reducible repeat first | apply blk_drewN | apply blk_drew | apply blk_alloc); refine blk_far ?_ NB257_268.out _; (with_reducible repeat first | apply blk_drewN | apply blk_drew | apply blk_alloc); refine blk_far ?_ NB257_268.out _; (with_reducible repeat first | apply blk_drewN | apply blk_drew | apply blk_alloc); exact BK257.out) hb); have n3_ := Aside0.mk (blk_below (g := gb268) (o := .cells #[.int .u32 t258, .int .u32 t259, .int .i64 t260, .int .i64 t261, .int .i64 t262, .int .i64 t263, .bool t264, .bool t265, .string t266] 30 (0, 0)) (by (with_reducible repeat first | apply blk_drewN | apply blk_drew | apply blk_alloc); refine blk_put (cs := #[.int .u32 t258, .int .u32 t259, .int .i64 t260, .int .i64 t261, .int .i64 t262, .int .i64 t263, .bool t264, .bool t265, .string (⟨#[]⟩ : ByteArray)]) ?_ 8 _ rfl; (with_reducible repeat first | apply blk_drewN | apply blk_drew | apply blk_alloc); refine blk_put (cs := #[.int .u32 t258, .int .u32 t259, .int .i64 t260, .int .i64 t261, .int .i64 t262, .int .i64 t263, .bool t264, .bool false, .string (⟨#[]⟩ : ByteArray)]) ?_ 7 _ rfl; (with_reducible repeat first | apply blk_drewN | apply blk_drew | apply blk_alloc); refine blk_put (cs := #[.int .u32 t258, .int .u32 t259, .int .i64 t260, .int .i64 t261, .int .i64 t262, .int .i64 t263, .bool false, .bool false, .string (⟨#[]⟩ : ByteArray)]) ?_ 6 _ rfl; (with_reducible repeat first | apply blk_drewN | apply blk_drew | apply blk_alloc); refine blk_put (cs := #[.int .u32 t258, .int .u32 t259, .int .i64 t260, .int .i64 t261, .int .i64 t262, .int .i64 0, .bool false, .bool false, .string (⟨#[]⟩ : ByteArray)]) ?_ 5 _ rfl; (with_reducible repeat first | apply blk_drewN | apply blk_drew | apply blk_alloc); refine blk_put (cs := #[.int .u32 t258, .int .u32 t259, .int .i64 t260, .int .i64 t261, .int .i64 0, .int .i64 0, .bool false, .bool false, .string (⟨#[]⟩ : ByteArray)]) ?_ 4 _ rfl; (with_reducible repeat first | apply blk_drewN | apply blk_drew | apply blk_alloc); refine blk_put (cs := #[.int .u32 t258, .int .u32 t259, .int .i64 t260, .int .i64 0, .int .i64 0, .int .i64 0, .bool false, .bool false, .string (⟨#[]⟩ : ByteArray)]) ?_ 3 _ rfl; (with_reducible repeat first | apply blk_drewN | apply blk_drew | apply blk_alloc); refine blk_put (cs := #[.int .u32 t258, .int .u32 t259, .int .i64 0, .int .i64 0, .int .i64 0, .int .i64 0, .bool false, .bool false, .string (⟨#[]⟩ : ByteArray)]) ?_ 2 _ rfl; (with_reducible repeat first | apply blk_drewN | apply blk_drew | apply blk_alloc); refine blk_put (cs := #[.int .u32 t258, .int .u32 0, .int .i64 0, .int .i64 0, .int .i64 0, .int .i64 0, .bool false, .bool false, .string (⟨#[]⟩ : ByteArray)]) ?_ 1 _ rfl; (with_reducible repeat first | apply blk_drewN | apply blk_drew | apply blk_alloc); refine blk_put (cs := #[.int .u32 0, .int .u32 0, .int .i64 0, .int .i64 0, .int .i64 0, .int .i64 0, .bool false, .bool false, .string (⟨#[]⟩ : ByteArray)]) ?_ 0 _ rfl; (with_reducible repeat first | apply blk_drewN | apply blk_drew | apply blk_alloc); exact BK268.out) hb); have n4_ := Aside0.mk (below_step (Fit.bl HB.out) hb); clear BK221; clear BK245; clear BK257; clear BK268; clear HB; have BK221 := n0_; have BK245 := n1_; have BK257 := n2_; have BK268 := n3_; have HB := n4_; clear n0_ n1_ n2_ n3_ n4_; (try clear hb); (try clear hb2); (try clear hk); (try clear hi)) | ((with_reducible refine gate_dst (N := 22) rfl ?_); refine box_event ?hg (N := 22) ?hd (cs := #[.int .u32 0, .int .u32 0, .int .i64 0, .int .i64 0, .int .i64 0, .int .i64 0, .bool false, .bool false, .string (⟨#[]⟩ : ByteArray)]) (t := 30) ?hr ?_; (case hd => rfl); (case hg => rfl); (case hr => first | (go_simp; done) | (go_simp; rfl)); intro gb279 hg w44 hbox hb; have n0_ := Aside0.mk (blk_below (g := gb221) (Fit.pk BK221.out) hb); have n1_ := Aside0.mk (blk_below (g := gb245) (Fit.pk BK245.out) hb); have n2_ := Aside0.mk (blk_below (g := gb257) (Fit.pk BK257.out) hb); have n3_ := Aside0.mk (blk_below (g := gb268) (Fit.pk BK268.out) hb); have n4_ := Aside0.mk (below_step (Fit.bl HB.out) hb); have n5_ := Aside0.mk (hbox); have n6_ := Aside0.mk ((by rw [hg]; exact (below_size (Fit.bl HB.out)) : w.heap.size ≤ gb279)); have n7_ := Aside0.mk ((by rw [hg]; exact (below_size (Fit.bl HB.out)) : w.heap.size ≤ gb279)); have n8_ := Aside0.mk ((by rw [hg]; exact Nat.ne_of_lt (blk_lt (g := gb221) (Fit.pk BK221.out)) : gb221 ≠ gb279)); have n9_ := Aside0.mk ((by rw [hg]; exact Nat.ne_of_gt (blk_lt (g := gb221) (Fit.pk BK221.out)) : gb279 ≠ gb221)); have n10_ := Aside0.mk ((by rw [hg]; exact Nat.ne_of_lt (blk_lt (g := gb245) (Fit.pk BK245.out)) : gb245 ≠ gb279)); have n11_ := Aside0.mk ((by rw [hg]; exact Nat.ne_of_gt (blk_lt (g := gb245) (Fit.pk BK245.out)) : gb279 ≠ gb245)); have n12_ := Aside0.mk ((by rw [hg]; exact Nat.ne_of_lt (blk_lt (g := gb257) (Fit.pk BK257.out)) : gb257 ≠ gb279)); have n13_ := Aside0.mk ((by rw [hg]; exact Nat.ne_of_gt (blk_lt (g := gb257) (Fit.pk BK257.out)) : gb279 ≠ gb257)); have n14_ := Aside0.mk ((by rw [hg]; exact Nat.ne_of_lt (blk_lt (g := gb268) (Fit.pk BK268.out)) : gb268 ≠ gb279)); have n15_ := Aside0.mk ((by rw [hg]; exact Nat.ne_of_gt (blk_lt (g := gb268) (Fit.pk BK268.out)) : gb279 ≠ gb268)); clear BK221; clear BK245; clear BK257; clear BK268; clear HB; have BK221 := n0_; have BK245 := n1_; have BK257 := n2_; have BK268 := n3_; have HB := n4_; have BK279 := n5_; have GW279 := n6_; have GE279 := n7_; have NB221_279 := n8_; have NB279_221 := n9_; have NB245_279 := n10_; have NB279_245 := n11_; have NB257_279 := n12_; have NB279_257 := n13_; have NB268_279 := n14_; have NB279_268 := n15_; clear n0_ n1_ n2_ n3_ n4_ n5_ n6_ n7_ n8_ n9_ n10_ n11_ n12_ n13_ n14_ n15_; clear hb hbox hg; have hnb45 := NB279_221.out; have hnc45 := NB221_279.out; have hnb46 := NB279_245.out; have hnc46 := NB245_279.out; have hnb47 := NB279_257.out; have hnc47 := NB257_279.out; have hnb48 := NB279_268.out; have hnc48 := NB268_279.out; obtain ⟨hcz49_0, hcz49_1, hcz49_2, hcz49_3, hcz49_4, hcz49_5, hcz49_6, hcz49_7, hcz49_8, hfz49_0⟩ := Fit.cells9 BK279.out))
  (try simp only [Act.put, List.setIfInBounds_toArray, List.set_cons_zero, List.set_cons_succ])
  go_cut [84] (fun v84 wc => ∃ (kq : Nat) (x84_15 : Bool), v84 = .bool x84_15 ∧ Aside0 (patchbaylaw2_FaultTells.j0 kq a1 a2 t233 t243 t244 t255 x84_15 t223 t224 t225 t226 t227 t228 t229 t230 t231 t234 t235 t236 t237 t238 t239 t240 t241 t242 t246 t247 t248 t249 t250 t251 t252 t253 t254 = some r) ∧ Aside0 (kq ≤ k) ∧ Aside0 (wc.heap[gb221]? = some (.cells #[.int .u32 t223, .int .u32 t224, .int .i64 t225, .int .i64 t226, .int .i64 t227, .int .i64 t228, .bool t229, .bool t230, .string t231] 30 (0, 0))) ∧ Aside0 (wc.heap[gb245]? = some (.cells #[.int .u32 t234, .int .u32 t235, .int .i64 t236, .int .i64 t237, .int .i64 t238, .int .i64 t239, .bool t240, .bool t241, .string t242] 30 (0, 0))) ∧ Aside0 (wc.heap[gb257]? = some (.cells #[.int .u32 t246, .int .u32 t247, .int .i64 t248, .int .i64 t249, .int .i64 t250, .int .i64 t251, .bool t252, .bool t253, .string t254] 30 (0, 0))) ∧ Aside0 (wc.heap[gb268]? = some (.cells #[.int .u32 t258, .int .u32 t259, .int .i64 t260, .int .i64 t261, .int .i64 t262, .int .i64 t263, .bool t264, .bool t265, .string t266] 30 (0, 0))) ∧ Aside0 (wc.heap[gb279]? = some (.cells #[.int .u32 t269, .int .u32 t270, .int .i64 t271, .int .i64 t272, .int .i64 t273, .int .i64 t274, .bool t275, .bool t276, .string t277] 30 (0, 0))) ∧ Aside0 (Below w.heap.size w wc))
  case first =>
   have H := HC16.out
   clear HC16
   by_cases c50 : (!(t258 == t269) || (!(t259 == t270) || (!(t260 == t271) || (!(t261 == t272) || (!(t262 == t273) || (!(t263 == t274) || (!(t264 == t275) || (!(t265 == t276) || (!(t266.toList == t277.toList)))))))))) = true
   ·rw [if_pos c50] at H
    have c50b0 : (!(t258 == t269) || (!(t259 == t270) || (!(t260 == t271) || (!(t261 == t272) || (!(t262 == t273) || (!(t263 == t274) || (!(t264 == t275) || (!(t265 == t276) || (!(t266.toList == t277.toList)))))))))) = true := c50
    clear c50
    (first | rw [c50b0] | (simp only [i64_w, i32_w]; rw [c50b0]) | skip)
    have H' := Aside0.mk H
    clear H
    have hnb51 := NB268_221.out
    have hnc51 := NB221_268.out
    have hnb52 := NB268_245.out
    have hnc52 := NB245_268.out
    have hnb53 := NB268_257.out
    have hnc53 := NB257_268.out
    have hnb54 := NB268_279.out
    have hnc54 := NB279_268.out
    obtain ⟨hcz55_0, hcz55_1, hcz55_2, hcz55_3, hcz55_4, hcz55_5, hcz55_6, hcz55_7, hcz55_8, hfz55_0⟩ := Fit.cells9 BK268.out
    have hnb56 := NB279_221.out
    have hnc56 := NB221_279.out
    have hnb57 := NB279_245.out
    have hnc57 := NB245_279.out
    have hnb58 := NB279_257.out
    have hnc58 := NB257_279.out
    obtain ⟨hcz59_0, hcz59_1, hcz59_2, hcz59_3, hcz59_4, hcz59_5, hcz59_6, hcz59_7, hcz59_8, hfz59_0⟩ := Fit.cells9 BK279.out
    go_wp2
    go_meet
    case rel => exact ⟨_, (true), (by first | rfl | (simp; done) | (simp [*]; done)), H', ⟨by first | omega | exact Nat.le_refl _⟩, ⟨by (with_reducible repeat first | apply blk_drewN | apply blk_drew | apply blk_alloc); refine blk_far ?_ NB221_279.out _; (with_reducible repeat first | apply blk_drewN | apply blk_drew | apply blk_alloc); refine blk_far ?_ NB221_279.out _; (with_reducible repeat first | apply blk_drewN | apply blk_drew | apply blk_alloc); refine blk_far ?_ NB221_279.out _; (with_reducible repeat first | apply blk_drewN | apply blk_drew | apply blk_alloc); refine blk_far ?_ NB221_279.out _; (with_reducible repeat first | apply blk_drewN | apply blk_drew | apply blk_alloc); refine blk_far ?_ NB221_279.out _; (with_reducible repeat first | apply blk_drewN | apply blk_drew | apply blk_alloc); refine blk_far ?_ NB221_279.out _; (with_reducible repeat first | apply blk_drewN | apply blk_drew | apply blk_alloc); refine blk_far ?_ NB221_279.out _; (with_reducible repeat first | apply blk_drewN | apply blk_drew | apply blk_alloc); refine blk_far ?_ NB221_279.out _; (with_reducible repeat first | apply blk_drewN | apply blk_drew | apply blk_alloc); refine blk_far ?_ NB221_279.out _; (with_reducible repeat first | apply blk_drewN | apply blk_drew | apply blk_alloc); exact BK221.out⟩, ⟨by (with_reducible repeat first | apply blk_drewN | apply blk_drew | apply blk_alloc); refine blk_far ?_ NB245_279.out _; (with_reducible repeat first | apply blk_drewN | apply blk_drew | apply blk_alloc); refine blk_far ?_ NB245_279.out _; (with_reducible repeat first | apply blk_drewN | apply blk_drew | apply blk_alloc); refine blk_far ?_ NB245_279.out _; (with_reducible repeat first | apply blk_drewN | apply blk_drew | apply blk_alloc); refine blk_far ?_ NB245_279.out _; (with_reducible repeat first | apply blk_drewN | apply blk_drew | apply blk_alloc); refine blk_far ?_ NB245_279.out _; (with_reducible repeat first | apply blk_drewN | apply blk_drew | apply blk_alloc); refine blk_far ?_ NB245_279.out _; (with_reducible repeat first | apply blk_drewN | apply blk_drew | apply blk_alloc); refine blk_far ?_ NB245_279.out _; (with_reducible repeat first | apply blk_drewN | apply blk_drew | apply blk_alloc); refine blk_far ?_ NB245_279.out _; (with_reducible repeat first | apply blk_drewN | apply blk_drew | apply blk_alloc); refine blk_far ?_ NB245_279.out _; (with_reducible repeat first | apply blk_drewN | apply blk_drew | apply blk_alloc); exact BK245.out⟩, ⟨by (with_reducible repeat first | apply blk_drewN | apply blk_drew | apply blk_alloc); refine blk_far ?_ NB257_279.out _; (with_reducible repeat first | apply blk_drewN | apply blk_drew | apply blk_alloc); refine blk_far ?_ NB257_279.out _; (with_reducible repeat first | apply blk_drewN | apply blk_drew | apply blk_alloc); refine blk_far ?_ NB257_279.out _; (with_reducible repeat first | apply blk_drewN | apply blk_drew | apply blk_alloc); refine blk_far ?_ NB257_279.out _; (with_reducible repeat first | apply blk_drewN | apply blk_drew | apply blk_alloc); refine blk_far ?_ NB257_279.out _; (with_reducible repeat first | apply blk_drewN | apply blk_drew | apply blk_alloc); refine blk_far ?_ NB257_279.out _; (with_reducible repeat first | apply blk_drewN | apply blk_drew | apply blk_alloc); refine blk_far ?_ NB257_279.out _; (with_reducible repeat first | apply blk_drewN | apply blk_drew | apply blk_alloc); refine blk_far ?_ NB257_279.out _; (with_reducible repeat first | apply blk_drewN | apply blk_drew | apply blk_alloc); refine blk_far ?_ NB257_279.out _; (with_reducible repeat first | apply blk_drewN | apply blk_drew | apply blk_alloc); exact BK257.out⟩, ⟨by (with_reducible repeat first | apply blk_drewN | apply blk_drew | apply blk_alloc); refine blk_far ?_ NB268_279.out _; (with_reducible repeat first | apply blk_drewN | apply blk_drew | apply blk_alloc); refine blk_far ?_ NB268_279.out _; (with_reducible repeat first | apply blk_drewN | apply blk_drew | apply blk_alloc); refine blk_far ?_ NB268_279.out _; (with_reducible repeat first | apply blk_drewN | apply blk_drew | apply blk_alloc); refine blk_far ?_ NB268_279.out _; (with_reducible repeat first | apply blk_drewN | apply blk_drew | apply blk_alloc); refine blk_far ?_ NB268_279.out _; (with_reducible repeat first | apply blk_drewN | apply blk_drew | apply blk_alloc); refine blk_far ?_ NB268_279.out _; (with_reducible repeat first | apply blk_drewN | apply blk_drew | apply blk_alloc); refine blk_far ?_ NB268_279.out _; (with_reducible repeat first | apply blk_drewN | apply blk_drew | apply blk_alloc); refine blk_far ?_ NB268_279.out _; (with_reducible repeat first | apply blk_drewN | apply blk_drew | apply blk_alloc); refine blk_far ?_ NB268_279.out _; (with_reducible repeat first | apply blk_drewN | apply blk_drew | apply blk_alloc); exact BK268.out⟩, ⟨by (with_reducible repeat first | apply blk_drewN | apply blk_drew | apply blk_alloc); refine blk_put (cs := #[.int .u32 t269, .int .u32 t270, .int .i64 t271, .int .i64 t272, .int .i64 t273, .int .i64 t274, .bool t275, .bool t276, .string (⟨#[]⟩ : ByteArray)]) ?_ 8 _ rfl; (with_reducible repeat first | apply blk_drewN | apply blk_drew | apply blk_alloc); refine blk_put (cs := #[.int .u32 t269, .int .u32 t270, .int .i64 t271, .int .i64 t272, .int .i64 t273, .int .i64 t274, .bool t275, .bool false, .string (⟨#[]⟩ : ByteArray)]) ?_ 7 _ rfl; (with_reducible repeat first | apply blk_drewN | apply blk_drew | apply blk_alloc); refine blk_put (cs := #[.int .u32 t269, .int .u32 t270, .int .i64 t271, .int .i64 t272, .int .i64 t273, .int .i64 t274, .bool false, .bool false, .string (⟨#[]⟩ : ByteArray)]) ?_ 6 _ rfl; (with_reducible repeat first | apply blk_drewN | apply blk_drew | apply blk_alloc); refine blk_put (cs := #[.int .u32 t269, .int .u32 t270, .int .i64 t271, .int .i64 t272, .int .i64 t273, .int .i64 0, .bool false, .bool false, .string (⟨#[]⟩ : ByteArray)]) ?_ 5 _ rfl; (with_reducible repeat first | apply blk_drewN | apply blk_drew | apply blk_alloc); refine blk_put (cs := #[.int .u32 t269, .int .u32 t270, .int .i64 t271, .int .i64 t272, .int .i64 0, .int .i64 0, .bool false, .bool false, .string (⟨#[]⟩ : ByteArray)]) ?_ 4 _ rfl; (with_reducible repeat first | apply blk_drewN | apply blk_drew | apply blk_alloc); refine blk_put (cs := #[.int .u32 t269, .int .u32 t270, .int .i64 t271, .int .i64 0, .int .i64 0, .int .i64 0, .bool false, .bool false, .string (⟨#[]⟩ : ByteArray)]) ?_ 3 _ rfl; (with_reducible repeat first | apply blk_drewN | apply blk_drew | apply blk_alloc); refine blk_put (cs := #[.int .u32 t269, .int .u32 t270, .int .i64 0, .int .i64 0, .int .i64 0, .int .i64 0, .bool false, .bool false, .string (⟨#[]⟩ : ByteArray)]) ?_ 2 _ rfl; (with_reducible repeat first | apply blk_drewN | apply blk_drew | apply blk_alloc); refine blk_put (cs := #[.int .u32 t269, .int .u32 0, .int .i64 0, .int .i64 0, .int .i64 0, .int .i64 0, .bool false, .bool false, .string (⟨#[]⟩ : ByteArray)]) ?_ 1 _ rfl; (with_reducible repeat first | apply blk_drewN | apply blk_drew | apply blk_alloc); refine blk_put (cs := #[.int .u32 0, .int .u32 0, .int .i64 0, .int .i64 0, .int .i64 0, .int .i64 0, .bool false, .bool false, .string (⟨#[]⟩ : ByteArray)]) ?_ 0 _ rfl; (with_reducible repeat first | apply blk_drewN | apply blk_drew | apply blk_alloc); exact BK279.out⟩, ⟨Fit.bl HB.out⟩⟩
   ·rw [if_neg c50] at H
    have c50b0 : (!(t258 == t269) || (!(t259 == t270) || (!(t260 == t271) || (!(t261 == t272) || (!(t262 == t273) || (!(t263 == t274) || (!(t264 == t275) || (!(t265 == t276) || (!(t266.toList == t277.toList)))))))))) = false := by simpa using c50
    clear c50
    (first | rw [c50b0] | (simp only [i64_w, i32_w]; rw [c50b0]) | skip)
    by_cases c60 : t267 = t278
    ·rw [if_pos c60] at H
     have c60b0 : (t267 == t278) = true := beq_iff_eq.mpr c60
     have c60b1 : (t267 != t278) = false := bne_eq_false_iff_eq.mpr c60
     clear c60
     have H' := Aside0.mk H
     clear H
     have hnb61 := NB268_221.out
     have hnc61 := NB221_268.out
     have hnb62 := NB268_245.out
     have hnc62 := NB245_268.out
     have hnb63 := NB268_257.out
     have hnc63 := NB257_268.out
     have hnb64 := NB268_279.out
     have hnc64 := NB279_268.out
     obtain ⟨hcz65_0, hcz65_1, hcz65_2, hcz65_3, hcz65_4, hcz65_5, hcz65_6, hcz65_7, hcz65_8, hfz65_0⟩ := Fit.cells9 BK268.out
     have hnb66 := NB279_221.out
     have hnc66 := NB221_279.out
     have hnb67 := NB279_245.out
     have hnc67 := NB245_279.out
     have hnb68 := NB279_257.out
     have hnc68 := NB257_279.out
     obtain ⟨hcz69_0, hcz69_1, hcz69_2, hcz69_3, hcz69_4, hcz69_5, hcz69_6, hcz69_7, hcz69_8, hfz69_0⟩ := Fit.cells9 BK279.out
     go_wp2
     go_meet
     case rel => exact ⟨_, ((t256 != t233)), (by first | rfl | (simp; done) | (simp [*]; done)), H', ⟨by first | omega | exact Nat.le_refl _⟩, ⟨by (with_reducible repeat first | apply blk_drewN | apply blk_drew | apply blk_alloc); refine blk_far ?_ NB221_279.out _; (with_reducible repeat first | apply blk_drewN | apply blk_drew | apply blk_alloc); refine blk_far ?_ NB221_279.out _; (with_reducible repeat first | apply blk_drewN | apply blk_drew | apply blk_alloc); refine blk_far ?_ NB221_279.out _; (with_reducible repeat first | apply blk_drewN | apply blk_drew | apply blk_alloc); refine blk_far ?_ NB221_279.out _; (with_reducible repeat first | apply blk_drewN | apply blk_drew | apply blk_alloc); refine blk_far ?_ NB221_279.out _; (with_reducible repeat first | apply blk_drewN | apply blk_drew | apply blk_alloc); refine blk_far ?_ NB221_279.out _; (with_reducible repeat first | apply blk_drewN | apply blk_drew | apply blk_alloc); refine blk_far ?_ NB221_279.out _; (with_reducible repeat first | apply blk_drewN | apply blk_drew | apply blk_alloc); refine blk_far ?_ NB221_279.out _; (with_reducible repeat first | apply blk_drewN | apply blk_drew | apply blk_alloc); refine blk_far ?_ NB221_279.out _; (with_reducible repeat first | apply blk_drewN | apply blk_drew | apply blk_alloc); exact BK221.out⟩, ⟨by (with_reducible repeat first | apply blk_drewN | apply blk_drew | apply blk_alloc); refine blk_far ?_ NB245_279.out _; (with_reducible repeat first | apply blk_drewN | apply blk_drew | apply blk_alloc); refine blk_far ?_ NB245_279.out _; (with_reducible repeat first | apply blk_drewN | apply blk_drew | apply blk_alloc); refine blk_far ?_ NB245_279.out _; (with_reducible repeat first | apply blk_drewN | apply blk_drew | apply blk_alloc); refine blk_far ?_ NB245_279.out _; (with_reducible repeat first | apply blk_drewN | apply blk_drew | apply blk_alloc); refine blk_far ?_ NB245_279.out _; (with_reducible repeat first | apply blk_drewN | apply blk_drew | apply blk_alloc); refine blk_far ?_ NB245_279.out _; (with_reducible repeat first | apply blk_drewN | apply blk_drew | apply blk_alloc); refine blk_far ?_ NB245_279.out _; (with_reducible repeat first | apply blk_drewN | apply blk_drew | apply blk_alloc); refine blk_far ?_ NB245_279.out _; (with_reducible repeat first | apply blk_drewN | apply blk_drew | apply blk_alloc); refine blk_far ?_ NB245_279.out _; (with_reducible repeat first | apply blk_drewN | apply blk_drew | apply blk_alloc); exact BK245.out⟩, ⟨by (with_reducible repeat first | apply blk_drewN | apply blk_drew | apply blk_alloc); refine blk_far ?_ NB257_279.out _; (with_reducible repeat first | apply blk_drewN | apply blk_drew | apply blk_alloc); refine blk_far ?_ NB257_279.out _; (with_reducible repeat first | apply blk_drewN | apply blk_drew | apply blk_alloc); refine blk_far ?_ NB257_279.out _; (with_reducible repeat first | apply blk_drewN | apply blk_drew | apply blk_alloc); refine blk_far ?_ NB257_279.out _; (with_reducible repeat first | apply blk_drewN | apply blk_drew | apply blk_alloc); refine blk_far ?_ NB257_279.out _; (with_reducible repeat first | apply blk_drewN | apply blk_drew | apply blk_alloc); refine blk_far ?_ NB257_279.out _; (with_reducible repeat first | apply blk_drewN | apply blk_drew | apply blk_alloc); refine blk_far ?_ NB257_279.out _; (with_reducible repeat first | apply blk_drewN | apply blk_drew | apply blk_alloc); refine blk_far ?_ NB257_279.out _; (with_reducible repeat first | apply blk_drewN | apply blk_drew | apply blk_alloc); refine blk_far ?_ NB257_279.out _; (with_reducible repeat first | apply blk_drewN | apply blk_drew | apply blk_alloc); exact BK257.out⟩, ⟨by (with_reducible repeat first | apply blk_drewN | apply blk_drew | apply blk_alloc); refine blk_far ?_ NB268_279.out _; (with_reducible repeat first | apply blk_drewN | apply blk_drew | apply blk_alloc); refine blk_far ?_ NB268_279.out _; (with_reducible repeat first | apply blk_drewN | apply blk_drew | apply blk_alloc); refine blk_far ?_ NB268_279.out _; (with_reducible repeat first | apply blk_drewN | apply blk_drew | apply blk_alloc); refine blk_far ?_ NB268_279.out _; (with_reducible repeat first | apply blk_drewN | apply blk_drew | apply blk_alloc); refine blk_far ?_ NB268_279.out _; (with_reducible repeat first | apply blk_drewN | apply blk_drew | apply blk_alloc); refine blk_far ?_ NB268_279.out _; (with_reducible repeat first | apply blk_drewN | apply blk_drew | apply blk_alloc); refine blk_far ?_ NB268_279.out _; (with_reducible repeat first | apply blk_drewN | apply blk_drew | apply blk_alloc); refine blk_far ?_ NB268_279.out _; (with_reducible repeat first | apply blk_drewN | apply blk_drew | apply blk_alloc); refine blk_far ?_ NB268_279.out _; (with_reducible repeat first | apply blk_drewN | apply blk_drew | apply blk_alloc); exact BK268.out⟩, ⟨by (with_reducible repeat first | apply blk_drewN | apply blk_drew | apply blk_alloc); refine blk_put (cs := #[.int .u32 t269, .int .u32 t270, .int .i64 t271, .int .i64 t272, .int .i64 t273, .int .i64 t274, .bool t275, .bool t276, .string (⟨#[]⟩ : ByteArray)]) ?_ 8 _ rfl; (with_reducible repeat first | apply blk_drewN | apply blk_drew | apply blk_alloc); refine blk_put (cs := #[.int .u32 t269, .int .u32 t270, .int .i64 t271, .int .i64 t272, .int .i64 t273, .int .i64 t274, .bool t275, .bool false, .string (⟨#[]⟩ : ByteArray)]) ?_ 7 _ rfl; (with_reducible repeat first | apply blk_drewN | apply blk_drew | apply blk_alloc); refine blk_put (cs := #[.int .u32 t269, .int .u32 t270, .int .i64 t271, .int .i64 t272, .int .i64 t273, .int .i64 t274, .bool false, .bool false, .string (⟨#[]⟩ : ByteArray)]) ?_ 6 _ rfl; (with_reducible repeat first | apply blk_drewN | apply blk_drew | apply blk_alloc); refine blk_put (cs := #[.int .u32 t269, .int .u32 t270, .int .i64 t271, .int .i64 t272, .int .i64 t273, .int .i64 0, .bool false, .bool false, .string (⟨#[]⟩ : ByteArray)]) ?_ 5 _ rfl; (with_reducible repeat first | apply blk_drewN | apply blk_drew | apply blk_alloc); refine blk_put (cs := #[.int .u32 t269, .int .u32 t270, .int .i64 t271, .int .i64 t272, .int .i64 0, .int .i64 0, .bool false, .bool false, .string (⟨#[]⟩ : ByteArray)]) ?_ 4 _ rfl; (with_reducible repeat first | apply blk_drewN | apply blk_drew | apply blk_alloc); refine blk_put (cs := #[.int .u32 t269, .int .u32 t270, .int .i64 t271, .int .i64 0, .int .i64 0, .int .i64 0, .bool false, .bool false, .string (⟨#[]⟩ : ByteArray)]) ?_ 3 _ rfl; (with_reducible repeat first | apply blk_drewN | apply blk_drew | apply blk_alloc); refine blk_put (cs := #[.int .u32 t269, .int .u32 t270, .int .i64 0, .int .i64 0, .int .i64 0, .int .i64 0, .bool false, .bool false, .string (⟨#[]⟩ : ByteArray)]) ?_ 2 _ rfl; (with_reducible repeat first | apply blk_drewN | apply blk_drew | apply blk_alloc); refine blk_put (cs := #[.int .u32 t269, .int .u32 0, .int .i64 0, .int .i64 0, .int .i64 0, .int .i64 0, .bool false, .bool false, .string (⟨#[]⟩ : ByteArray)]) ?_ 1 _ rfl; (with_reducible repeat first | apply blk_drewN | apply blk_drew | apply blk_alloc); refine blk_put (cs := #[.int .u32 0, .int .u32 0, .int .i64 0, .int .i64 0, .int .i64 0, .int .i64 0, .bool false, .bool false, .string (⟨#[]⟩ : ByteArray)]) ?_ 0 _ rfl; (with_reducible repeat first | apply blk_drewN | apply blk_drew | apply blk_alloc); exact BK279.out⟩, ⟨Fit.bl HB.out⟩⟩
    ·rw [if_neg c60] at H
     have c60b0 : (t267 == t278) = false := beq_eq_false_iff_ne.mpr c60
     have c60b1 : (t267 != t278) = true := bne_iff_ne.mpr c60
     have H' := Aside0.mk H
     clear H
     have hnb70 := NB268_221.out
     have hnc70 := NB221_268.out
     have hnb71 := NB268_245.out
     have hnc71 := NB245_268.out
     have hnb72 := NB268_257.out
     have hnc72 := NB257_268.out
     have hnb73 := NB268_279.out
     have hnc73 := NB279_268.out
     obtain ⟨hcz74_0, hcz74_1, hcz74_2, hcz74_3, hcz74_4, hcz74_5, hcz74_6, hcz74_7, hcz74_8, hfz74_0⟩ := Fit.cells9 BK268.out
     have hnb75 := NB279_221.out
     have hnc75 := NB221_279.out
     have hnb76 := NB279_245.out
     have hnc76 := NB245_279.out
     have hnb77 := NB279_257.out
     have hnc77 := NB257_279.out
     obtain ⟨hcz78_0, hcz78_1, hcz78_2, hcz78_3, hcz78_4, hcz78_5, hcz78_6, hcz78_7, hcz78_8, hfz78_0⟩ := Fit.cells9 BK279.out
     go_wp2
     go_meet
     case rel => exact ⟨_, (true), (by first | rfl | (simp; done) | (simp [*]; done)), H', ⟨by first | omega | exact Nat.le_refl _⟩, ⟨by (with_reducible repeat first | apply blk_drewN | apply blk_drew | apply blk_alloc); refine blk_far ?_ NB221_279.out _; (with_reducible repeat first | apply blk_drewN | apply blk_drew | apply blk_alloc); refine blk_far ?_ NB221_279.out _; (with_reducible repeat first | apply blk_drewN | apply blk_drew | apply blk_alloc); refine blk_far ?_ NB221_279.out _; (with_reducible repeat first | apply blk_drewN | apply blk_drew | apply blk_alloc); refine blk_far ?_ NB221_279.out _; (with_reducible repeat first | apply blk_drewN | apply blk_drew | apply blk_alloc); refine blk_far ?_ NB221_279.out _; (with_reducible repeat first | apply blk_drewN | apply blk_drew | apply blk_alloc); refine blk_far ?_ NB221_279.out _; (with_reducible repeat first | apply blk_drewN | apply blk_drew | apply blk_alloc); refine blk_far ?_ NB221_279.out _; (with_reducible repeat first | apply blk_drewN | apply blk_drew | apply blk_alloc); refine blk_far ?_ NB221_279.out _; (with_reducible repeat first | apply blk_drewN | apply blk_drew | apply blk_alloc); refine blk_far ?_ NB221_279.out _; (with_reducible repeat first | apply blk_drewN | apply blk_drew | apply blk_alloc); exact BK221.out⟩, ⟨by (with_reducible repeat first | apply blk_drewN | apply blk_drew | apply blk_alloc); refine blk_far ?_ NB245_279.out _; (with_reducible repeat first | apply blk_drewN | apply blk_drew | apply blk_alloc); refine blk_far ?_ NB245_279.out _; (with_reducible repeat first | apply blk_drewN | apply blk_drew | apply blk_alloc); refine blk_far ?_ NB245_279.out _; (with_reducible repeat first | apply blk_drewN | apply blk_drew | apply blk_alloc); refine blk_far ?_ NB245_279.out _; (with_reducible repeat first | apply blk_drewN | apply blk_drew | apply blk_alloc); refine blk_far ?_ NB245_279.out _; (with_reducible repeat first | apply blk_drewN | apply blk_drew | apply blk_alloc); refine blk_far ?_ NB245_279.out _; (with_reducible repeat first | apply blk_drewN | apply blk_drew | apply blk_alloc); refine blk_far ?_ NB245_279.out _; (with_reducible repeat first | apply blk_drewN | apply blk_drew | apply blk_alloc); refine blk_far ?_ NB245_279.out _; (with_reducible repeat first | apply blk_drewN | apply blk_drew | apply blk_alloc); refine blk_far ?_ NB245_279.out _; (with_reducible repeat first | apply blk_drewN | apply blk_drew | apply blk_alloc); exact BK245.out⟩, ⟨by (with_reducible repeat first | apply blk_drewN | apply blk_drew | apply blk_alloc); refine blk_far ?_ NB257_279.out _; (with_reducible repeat first | apply blk_drewN | apply blk_drew | apply blk_alloc); refine blk_far ?_ NB257_279.out _; (with_reducible repeat first | apply blk_drewN | apply blk_drew | apply blk_alloc); refine blk_far ?_ NB257_279.out _; (with_reducible repeat first | apply blk_drewN | apply blk_drew | apply blk_alloc); refine blk_far ?_ NB257_279.out _; (with_reducible repeat first | apply blk_drewN | apply blk_drew | apply blk_alloc); refine blk_far ?_ NB257_279.out _; (with_reducible repeat first | apply blk_drewN | apply blk_drew | apply blk_alloc); refine blk_far ?_ NB257_279.out _; (with_reducible repeat first | apply blk_drewN | apply blk_drew | apply blk_alloc); refine blk_far ?_ NB257_279.out _; (with_reducible repeat first | apply blk_drewN | apply blk_drew | apply blk_alloc); refine blk_far ?_ NB257_279.out _; (with_reducible repeat first | apply blk_drewN | apply blk_drew | apply blk_alloc); refine blk_far ?_ NB257_279.out _; (with_reducible repeat first | apply blk_drewN | apply blk_drew | apply blk_alloc); exact BK257.out⟩, ⟨by (with_reducible repeat first | apply blk_drewN | apply blk_drew | apply blk_alloc); refine blk_far ?_ NB268_279.out _; (with_reducible repeat first | apply blk_drewN | apply blk_drew | apply blk_alloc); refine blk_far ?_ NB268_279.out _; (with_reducible repeat first | apply blk_drewN | apply blk_drew | apply blk_alloc); refine blk_far ?_ NB268_279.out _; (with_reducible repeat first | apply blk_drewN | apply blk_drew | apply blk_alloc); refine blk_far ?_ NB268_279.out _; (with_reducible repeat first | apply blk_drewN | apply blk_drew | apply blk_alloc); refine blk_far ?_ NB268_279.out _; (with_reducible repeat first | apply blk_drewN | apply blk_drew | apply blk_alloc); refine blk_far ?_ NB268_279.out _; (with_reducible repeat first | apply blk_drewN | apply blk_drew | apply blk_alloc); refine blk_far ?_ NB268_279.out _; (with_reducible repeat first | apply blk_drewN | apply blk_drew | apply blk_alloc); refine blk_far ?_ NB268_279.out _; (with_reducible repeat first | apply blk_drewN | apply blk_drew | apply blk_alloc); refine blk_far ?_ NB268_279.out _; (with_reducible repeat first | apply blk_drewN | apply blk_drew | apply blk_alloc); exact BK268.out⟩, ⟨by (with_reducible repeat first | apply blk_drewN | apply blk_drew | apply blk_alloc); refine blk_put (cs := #[.int .u32 t269, .int .u32 t270, .int .i64 t271, .int .i64 t272, .int .i64 t273, .int .i64 t274, .bool t275, .bool t276, .string (⟨#[]⟩ : ByteArray)]) ?_ 8 _ rfl; (with_reducible repeat first | apply blk_drewN | apply blk_drew | apply blk_alloc); refine blk_put (cs := #[.int .u32 t269, .int .u32 t270, .int .i64 t271, .int .i64 t272, .int .i64 t273, .int .i64 t274, .bool t275, .bool false, .string (⟨#[]⟩ : ByteArray)]) ?_ 7 _ rfl; (with_reducible repeat first | apply blk_drewN | apply blk_drew | apply blk_alloc); refine blk_put (cs := #[.int .u32 t269, .int .u32 t270, .int .i64 t271, .int .i64 t272, .int .i64 t273, .int .i64 t274, .bool false, .bool false, .string (⟨#[]⟩ : ByteArray)]) ?_ 6 _ rfl; (with_reducible repeat first | apply blk_drewN | apply blk_drew | apply blk_alloc); refine blk_put (cs := #[.int .u32 t269, .int .u32 t270, .int .i64 t271, .int .i64 t272, .int .i64 t273, .int .i64 0, .bool false, .bool false, .string (⟨#[]⟩ : ByteArray)]) ?_ 5 _ rfl; (with_reducible repeat first | apply blk_drewN | apply blk_drew | apply blk_alloc); refine blk_put (cs := #[.int .u32 t269, .int .u32 t270, .int .i64 t271, .int .i64 t272, .int .i64 0, .int .i64 0, .bool false, .bool false, .string (⟨#[]⟩ : ByteArray)]) ?_ 4 _ rfl; (with_reducible repeat first | apply blk_drewN | apply blk_drew | apply blk_alloc); refine blk_put (cs := #[.int .u32 t269, .int .u32 t270, .int .i64 t271, .int .i64 0, .int .i64 0, .int .i64 0, .bool false, .bool false, .string (⟨#[]⟩ : ByteArray)]) ?_ 3 _ rfl; (with_reducible repeat first | apply blk_drewN | apply blk_drew | apply blk_alloc); refine blk_put (cs := #[.int .u32 t269, .int .u32 t270, .int .i64 0, .int .i64 0, .int .i64 0, .int .i64 0, .bool false, .bool false, .string (⟨#[]⟩ : ByteArray)]) ?_ 2 _ rfl; (with_reducible repeat first | apply blk_drewN | apply blk_drew | apply blk_alloc); refine blk_put (cs := #[.int .u32 t269, .int .u32 0, .int .i64 0, .int .i64 0, .int .i64 0, .int .i64 0, .bool false, .bool false, .string (⟨#[]⟩ : ByteArray)]) ?_ 1 _ rfl; (with_reducible repeat first | apply blk_drewN | apply blk_drew | apply blk_alloc); refine blk_put (cs := #[.int .u32 0, .int .u32 0, .int .i64 0, .int .i64 0, .int .i64 0, .int .i64 0, .bool false, .bool false, .string (⟨#[]⟩ : ByteArray)]) ?_ 0 _ rfl; (with_reducible repeat first | apply blk_drewN | apply blk_drew | apply blk_alloc); exact BK279.out⟩, ⟨Fit.bl HB.out⟩⟩
  case rest =>
   clear HC16
   try clear c1
   try clear c2
   try clear p2
   try clear c3
   try clear c4
   try clear c5
   try clear c6
   try clear c7
   try clear c8
   try clear c9
   try clear c16
   try clear c23
   try clear c27
   try clear c28
   try clear c29
   try clear c30
   try clear c31
   try clear c32
   try clear c33
   try clear c38
   try clear c39
   try clear c40
   try clear c45
   try clear c46
   try clear c47
   try clear c48
   try clear c50
   try clear c50b0
   try clear c51
   try clear c52
   try clear c53
   try clear c54
   try clear c56
   try clear c57
   try clear c58
   try clear c60
   try clear c60b0
   try clear c60b1
   try clear c61
   try clear c62
   try clear c63
   try clear c64
   try clear c66
   try clear c67
   try clear c68
   try clear c70
   try clear c71
   try clear c72
   try clear c73
   try clear c75
   try clear c76
   try clear c77
   try clear hcz19_0
   try clear hcz19_1
   try clear hcz19_2
   try clear hcz19_3
   try clear hcz19_4
   try clear hcz19_5
   try clear hcz19_6
   try clear hcz19_7
   try clear hcz19_8
   try clear hcz22_0
   try clear hcz22_1
   try clear hcz22_2
   try clear hcz22_3
   try clear hcz22_4
   try clear hcz22_5
   try clear hcz22_6
   try clear hcz22_7
   try clear hcz22_8
   try clear hcz24_0
   try clear hcz24_1
   try clear hcz24_2
   try clear hcz24_3
   try clear hcz24_4
   try clear hcz24_5
   try clear hcz24_6
   try clear hcz24_7
   try clear hcz24_8
   try clear hcz28_0
   try clear hcz28_1
   try clear hcz28_2
   try clear hcz28_3
   try clear hcz28_4
   try clear hcz28_5
   try clear hcz28_6
   try clear hcz28_7
   try clear hcz28_8
   try clear hcz29_0
   try clear hcz29_1
   try clear hcz29_2
   try clear hcz29_3
   try clear hcz29_4
   try clear hcz29_5
   try clear hcz29_6
   try clear hcz29_7
   try clear hcz29_8
   try clear hcz34_0
   try clear hcz34_1
   try clear hcz34_2
   try clear hcz34_3
   try clear hcz34_4
   try clear hcz34_5
   try clear hcz34_6
   try clear hcz34_7
   try clear hcz34_8
   try clear hcz35_0
   try clear hcz35_1
   try clear hcz35_2
   try clear hcz35_3
   try clear hcz35_4
   try clear hcz35_5
   try clear hcz35_6
   try clear hcz35_7
   try clear hcz35_8
   try clear hcz41_0
   try clear hcz41_1
   try clear hcz41_2
   try clear hcz41_3
   try clear hcz41_4
   try clear hcz41_5
   try clear hcz41_6
   try clear hcz41_7
   try clear hcz41_8
   try clear hcz42_0
   try clear hcz42_1
   try clear hcz42_2
   try clear hcz42_3
   try clear hcz42_4
   try clear hcz42_5
   try clear hcz42_6
   try clear hcz42_7
   try clear hcz42_8
   try clear hcz49_0
   try clear hcz49_1
   try clear hcz49_2
   try clear hcz49_3
   try clear hcz49_4
   try clear hcz49_5
   try clear hcz49_6
   try clear hcz49_7
   try clear hcz49_8
   try clear hcz55_0
   try clear hcz55_1
   try clear hcz55_2
   try clear hcz55_3
   try clear hcz55_4
   try clear hcz55_5
   try clear hcz55_6
   try clear hcz55_7
   try clear hcz55_8
   try clear hcz59_0
   try clear hcz59_1
   try clear hcz59_2
   try clear hcz59_3
   try clear hcz59_4
   try clear hcz59_5
   try clear hcz59_6
   try clear hcz59_7
   try clear hcz59_8
   try clear hcz65_0
   try clear hcz65_1
   try clear hcz65_2
   try clear hcz65_3
   try clear hcz65_4
   try clear hcz65_5
   try clear hcz65_6
   try clear hcz65_7
   try clear hcz65_8
   try clear hcz69_0
   try clear hcz69_1
   try clear hcz69_2
   try clear hcz69_3
   try clear hcz69_4
   try clear hcz69_5
   try clear hcz69_6
   try clear hcz69_7
   try clear hcz69_8
   try clear hcz74_0
   try clear hcz74_1
   try clear hcz74_2
   try clear hcz74_3
   try clear hcz74_4
   try clear hcz74_5
   try clear hcz74_6
   try clear hcz74_7
   try clear hcz74_8
   try clear hcz78_0
   try clear hcz78_1
   try clear hcz78_2
   try clear hcz78_3
   try clear hcz78_4
   try clear hcz78_5
   try clear hcz78_6
   try clear hcz78_7
   try clear hcz78_8
   try clear hfz19_0
   try clear hfz22_0
   try clear hfz24_0
   try clear hfz28_0
   try clear hfz29_0
   try clear hfz34_0
   try clear hfz35_0
   try clear hfz41_0
   try clear hfz42_0
   try clear hfz49_0
   try clear hfz55_0
   try clear hfz59_0
   try clear hfz65_0
   try clear hfz69_0
   try clear hfz74_0
   try clear hfz78_0
   obtain ⟨kq, x84_15, rfl, HA, HJ15, BK221, BK245, BK257, BK268, BK279, HB⟩ := hcut
   cases kq with
   | zero => exact absurd HA.out (by simp [patchbaylaw2_FaultTells.j0])
   | succ kj15 =>
    have H := HA.out
    clear HA
    simp only [patchbaylaw2_FaultTells.j0] at H
    by_cases c79 : x84_15 = true
    ·subst c79
     have H1 : (some false) = some r := by rw [if_pos rfl] at H; exact H
     clear H
     have H := H1
     clear H1
     obtain rfl := Option.some.inj H
     go_wp2
     go_ret
     exact ⟨by first | rfl | (simp [errW_none, errW_some] <;> rfl) | (simp [*, errW_none, errW_some] <;> rfl), Fit.bl HB.out⟩
    ·replace c79 := Bool.eq_false_iff.mpr c79
     subst c79
     have H1 : (if t233 = 0 then ((patchbayref2_AnswerOf.f t223 t224 t225 t226 t227 t228 t229 t230 t231).bind fun bt280 => (if (!(t246 == bt280.1) || (!(t247 == bt280.2.1) || (!(t248 == bt280.2.2.1) || (!(t249 == bt280.2.2.2.1) || (!(t250 == bt280.2.2.2.2.1) || (!(t251 == bt280.2.2.2.2.2.1) || (!(t252 == bt280.2.2.2.2.2.2.1) || (!(t253 == bt280.2.2.2.2.2.2.2.1) || (!(t254.toList == bt280.2.2.2.2.2.2.2.2.1.toList)))))))))) = true then (patchbaylaw2_FaultTells.j1 kj15 a1 a2 t243 t244 true t223 t224 t225 t226 t227 t228 t229 t230 t231 t234 t235 t236 t237 t238 t239 t240 t241 t242) else (patchbaylaw2_FaultTells.j1 kj15 a1 a2 t243 t244 (t255 != bt280.2.2.2.2.2.2.2.2.2) t223 t224 t225 t226 t227 t228 t229 t230 t231 t234 t235 t236 t237 t238 t239 t240 t241 t242))) else (if t244 = t233 then (if t243 = true then (some false) else (if t255 = true then (some false) else (if (t234 == 0 && (t235 == 0 && (t236 == 0 && (t237 == 0 && (t238 == 0 && (t239 == 0 && (!t240 && (!t241 && (t242.toList == ([] : List UInt8)))))))))) = true then (some (t246 == 0 && (t247 == 0 && (t248 == 0 && (t249 == 0 && (t250 == 0 && (t251 == 0 && (!t252 && (!t253 && (t254.toList == ([] : List UInt8))))))))))) else (some false)))) else (some false))) = some r := by rw [if_neg (show ¬ (false = true) by decide)] at H; exact H
     clear H
     have H := H1
     clear H1
     by_cases c80 : t233 = 0
     ·rw [if_pos c80] at H
      have c80b0 : (t233 == 0) = true := beq_iff_eq.mpr c80
      have c80b1 : (t233 != 0) = false := bne_eq_false_iff_eq.mpr c80
      clear c80
      replace H := Option.bind_eq_some_iff.mp H
      obtain ⟨⟨t280, t281, t282, t283, t284, t285, t286, t287, t288, t289⟩, A810, H⟩ := H
      replace H : (if (!(t246 == t280) || (!(t247 == t281) || (!(t248 == t282) || (!(t249 == t283) || (!(t250 == t284) || (!(t251 == t285) || (!(t252 == t286) || (!(t253 == t287) || (!(t254.toList == t288.toList)))))))))) = true then (patchbaylaw2_FaultTells.j1 kj15 a1 a2 t243 t244 true t223 t224 t225 t226 t227 t228 t229 t230 t231 t234 t235 t236 t237 t238 t239 t240 t241 t242) else (patchbaylaw2_FaultTells.j1 kj15 a1 a2 t243 t244 (t255 != t289) t223 t224 t225 t226 t227 t228 t229 t230 t231 t234 t235 t236 t237 t238 t239 t240 t241 t242)) = some r := H
      have A81 := Aside0.mk A810
      clear A810
      have HC82 := Aside0.mk H
      clear H
      have hnb83 := NB221_245.out
      have hnc83 := NB245_221.out
      have hnb84 := NB221_257.out
      have hnc84 := NB257_221.out
      have hnb85 := NB221_268.out
      have hnc85 := NB268_221.out
      have hnb86 := NB221_279.out
      have hnc86 := NB279_221.out
      obtain ⟨hcz87_0, hcz87_1, hcz87_2, hcz87_3, hcz87_4, hcz87_5, hcz87_6, hcz87_7, hcz87_8, hfz87_0⟩ := Fit.cells9 BK221.out
      go_upto_region 14 with (first | ((with_reducible refine gate_callee (f := 33) rfl ?_); refine goesL_ (some 110) rfl rfl Try.func33 (by kernel_rfl) rfl #[.agg #[.int .u32 t223, .int .u32 t224, .int .i64 t225, .int .i64 t226, .int .i64 t227, .int .i64 t228, .bool t229, .bool t230, .string t231]] rfl (by (try simp only [List.map_toArray, List.map_cons, List.map_nil]); first | done | rfl | (simp only [List.length_drop, List.length_take]; rfl)) ?_; (with_reducible refine (patchbayref2_AnswerOf.calls t223 t224 t225 t226 t227 t228 t229 t230 t231 t280 t281 t282 t283 t284 t285 t286 t287 t288 t289 _ A81.out).mono ?_); rintro e w88 ⟨rfl, hb⟩; refine ⟨_, rfl, ?_⟩; have n0_ := Aside0.mk (blk_below (g := gb221) (Fit.pk BK221.out) hb); have n1_ := Aside0.mk (blk_below (g := gb245) (Fit.pk BK245.out) hb); have n2_ := Aside0.mk (blk_below (g := gb257) (Fit.pk BK257.out) hb); have n3_ := Aside0.mk (blk_below (g := gb268) (Fit.pk BK268.out) hb); have n4_ := Aside0.mk (blk_below (g := gb279) (Fit.pk BK279.out) hb); have n5_ := Aside0.mk (below_step (Fit.bl HB.out) hb); clear BK221; clear BK245; clear BK257; clear BK268; clear BK279; clear HB; have BK221 := n0_; have BK245 := n1_; have BK257 := n2_; have BK268 := n3_; have BK279 := n4_; have HB := n5_; clear n0_ n1_ n2_ n3_ n4_ n5_; (try clear hb); (try clear hb2); (try clear hk); (try clear hi)) | ((with_reducible refine gate_dst (N := 24) rfl ?_); refine box_event ?hg (N := 24) ?hd (cs := #[.int .u32 0, .int .u32 0, .int .i64 0, .int .i64 0, .int .i64 0, .int .i64 0, .bool false, .bool false, .string (⟨#[]⟩ : ByteArray)]) (t := 30) ?hr ?_; (case hd => rfl); (case hg => rfl); (case hr => first | (go_simp; done) | (go_simp; rfl)); intro gb290 hg w89 hbox hb; have n0_ := Aside0.mk (blk_below (g := gb221) (Fit.pk BK221.out) hb); have n1_ := Aside0.mk (blk_below (g := gb245) (Fit.pk BK245.out) hb); have n2_ := Aside0.mk (blk_below (g := gb257) (Fit.pk BK257.out) hb); have n3_ := Aside0.mk (blk_below (g := gb268) (Fit.pk BK268.out) hb); have n4_ := Aside0.mk (blk_below (g := gb279) (Fit.pk BK279.out) hb); have n5_ := Aside0.mk (below_step (Fit.bl HB.out) hb); have n6_ := Aside0.mk (hbox); have n7_ := Aside0.mk ((by rw [hg]; exact (below_size (Fit.bl HB.out)) : w.heap.size ≤ gb290)); have n8_ := Aside0.mk ((by rw [hg]; exact (below_size (Fit.bl HB.out)) : w.heap.size ≤ gb290)); have n9_ := Aside0.mk ((by rw [hg]; exact Nat.ne_of_lt (blk_lt (g := gb221) (Fit.pk BK221.out)) : gb221 ≠ gb290)); have n10_ := Aside0.mk ((by rw [hg]; exact Nat.ne_of_gt (blk_lt (g := gb221) (Fit.pk BK221.out)) : gb290 ≠ gb221)); have n11_ := Aside0.mk ((by rw [hg]; exact Nat.ne_of_lt (blk_lt (g := gb245) (Fit.pk BK245.out)) : gb245 ≠ gb290)); have n12_ := Aside0.mk ((by rw [hg]; exact Nat.ne_of_gt (blk_lt (g := gb245) (Fit.pk BK245.out)) : gb290 ≠ gb245)); have n13_ := Aside0.mk ((by rw [hg]; exact Nat.ne_of_lt (blk_lt (g := gb257) (Fit.pk BK257.out)) : gb257 ≠ gb290)); have n14_ := Aside0.mk ((by rw [hg]; exact Nat.ne_of_gt (blk_lt (g := gb257) (Fit.pk BK257.out)) : gb290 ≠ gb257)); have n15_ := Aside0.mk ((by rw [hg]; exact Nat.ne_of_lt (blk_lt (g := gb268) (Fit.pk BK268.out)) : gb268 ≠ gb290)); have n16_ := Aside0.mk ((by rw [hg]; exact Nat.ne_of_gt (blk_lt (g := gb268) (Fit.pk BK268.out)) : gb290 ≠ gb268)); have n17_ := Aside0.mk ((by rw [hg]; exact Nat.ne_of_lt (blk_lt (g := gb279) (Fit.pk BK279.out)) : gb279 ≠ gb290)); have n18_ := Aside0.mk ((by rw [hg]; exact Nat.ne_of_gt (blk_lt (g := gb279) (Fit.pk BK279.out)) : gb290 ≠ gb279)); clear BK221; clear BK245; clear BK257; clear BK268; clear BK279; clear HB; have BK221 := n0_; have BK245 := n1_; have BK257 := n2_; have BK268 := n3_; have BK279 := n4_; have HB := n5_; have BK290 := n6_; have GW290 := n7_; have GE290 := n8_; have NB221_290 := n9_; have NB290_221 := n10_; have NB245_290 := n11_; have NB290_245 := n12_; have NB257_290 := n13_; have NB290_257 := n14_; have NB268_290 := n15_; have NB290_268 := n16_; have NB279_290 := n17_; have NB290_279 := n18_; clear n0_ n1_ n2_ n3_ n4_ n5_ n6_ n7_ n8_ n9_ n10_ n11_ n12_ n13_ n14_ n15_ n16_ n17_ n18_; clear hb hbox hg; have hnb90 := NB290_221.out; have hnc90 := NB221_290.out; have hnb91 := NB290_245.out; have hnc91 := NB245_290.out; have hnb92 := NB290_257.out; have hnc92 := NB257_290.out; have hnb93 := NB290_268.out; have hnc93 := NB268_290.out; have hnb94 := NB290_279.out; have hnc94 := NB279_290.out; obtain ⟨hcz95_0, hcz95_1, hcz95_2, hcz95_3, hcz95_4, hcz95_5, hcz95_6, hcz95_7, hcz95_8, hfz95_0⟩ := Fit.cells9 BK290.out))
      (try simp only [Act.put, List.setIfInBounds_toArray, List.set_cons_zero, List.set_cons_succ])
      go_cut [120] (fun v120 wc => ∃ (kq : Nat) (x120_81 : Bool), v120 = .bool x120_81 ∧ Aside0 (patchbaylaw2_FaultTells.j1 kq a1 a2 t243 t244 x120_81 t223 t224 t225 t226 t227 t228 t229 t230 t231 t234 t235 t236 t237 t238 t239 t240 t241 t242 = some r) ∧ Aside0 (kq ≤ kj15) ∧ Aside0 (wc.heap[gb221]? = some (.cells #[.int .u32 t223, .int .u32 t224, .int .i64 t225, .int .i64 t226, .int .i64 t227, .int .i64 t228, .bool t229, .bool t230, .string t231] 30 (0, 0))) ∧ Aside0 (wc.heap[gb245]? = some (.cells #[.int .u32 t234, .int .u32 t235, .int .i64 t236, .int .i64 t237, .int .i64 t238, .int .i64 t239, .bool t240, .bool t241, .string t242] 30 (0, 0))) ∧ Aside0 (wc.heap[gb257]? = some (.cells #[.int .u32 t246, .int .u32 t247, .int .i64 t248, .int .i64 t249, .int .i64 t250, .int .i64 t251, .bool t252, .bool t253, .string t254] 30 (0, 0))) ∧ Aside0 (wc.heap[gb268]? = some (.cells #[.int .u32 t258, .int .u32 t259, .int .i64 t260, .int .i64 t261, .int .i64 t262, .int .i64 t263, .bool t264, .bool t265, .string t266] 30 (0, 0))) ∧ Aside0 (wc.heap[gb279]? = some (.cells #[.int .u32 t269, .int .u32 t270, .int .i64 t271, .int .i64 t272, .int .i64 t273, .int .i64 t274, .bool t275, .bool t276, .string t277] 30 (0, 0))) ∧ Aside0 (wc.heap[gb290]? = some (.cells #[.int .u32 t280, .int .u32 t281, .int .i64 t282, .int .i64 t283, .int .i64 t284, .int .i64 t285, .bool t286, .bool t287, .string t288] 30 (0, 0))) ∧ Aside0 (Below w.heap.size w wc))
      case first =>
       have H := HC82.out
       clear HC82
       by_cases c96 : (!(t246 == t280) || (!(t247 == t281) || (!(t248 == t282) || (!(t249 == t283) || (!(t250 == t284) || (!(t251 == t285) || (!(t252 == t286) || (!(t253 == t287) || (!(t254.toList == t288.toList)))))))))) = true
       ·rw [if_pos c96] at H
        have c96b0 : (!(t246 == t280) || (!(t247 == t281) || (!(t248 == t282) || (!(t249 == t283) || (!(t250 == t284) || (!(t251 == t285) || (!(t252 == t286) || (!(t253 == t287) || (!(t254.toList == t288.toList)))))))))) = true := c96
        clear c96
        (first | rw [c96b0] | (simp only [i64_w, i32_w]; rw [c96b0]) | skip)
        have H' := Aside0.mk H
        clear H
        have hnb97 := NB257_221.out
        have hnc97 := NB221_257.out
        have hnb98 := NB257_245.out
        have hnc98 := NB245_257.out
        have hnb99 := NB257_268.out
        have hnc99 := NB268_257.out
        have hnb100 := NB257_279.out
        have hnc100 := NB279_257.out
        have hnb101 := NB257_290.out
        have hnc101 := NB290_257.out
        obtain ⟨hcz102_0, hcz102_1, hcz102_2, hcz102_3, hcz102_4, hcz102_5, hcz102_6, hcz102_7, hcz102_8, hfz102_0⟩ := Fit.cells9 BK257.out
        have hnb103 := NB290_221.out
        have hnc103 := NB221_290.out
        have hnb104 := NB290_245.out
        have hnc104 := NB245_290.out
        have hnb105 := NB290_268.out
        have hnc105 := NB268_290.out
        have hnb106 := NB290_279.out
        have hnc106 := NB279_290.out
        obtain ⟨hcz107_0, hcz107_1, hcz107_2, hcz107_3, hcz107_4, hcz107_5, hcz107_6, hcz107_7, hcz107_8, hfz107_0⟩ := Fit.cells9 BK290.out
        go_wp2
        go_meet
        case rel => exact ⟨_, (true), (by first | rfl | (simp; done) | (simp [*]; done)), H', ⟨by have := HJ15.out; first | omega | exact Nat.le_refl _⟩, ⟨by (with_reducible repeat first | apply blk_drewN | apply blk_drew | apply blk_alloc); refine blk_far ?_ NB221_290.out _; (with_reducible repeat first | apply blk_drewN | apply blk_drew | apply blk_alloc); refine blk_far ?_ NB221_290.out _; (with_reducible repeat first | apply blk_drewN | apply blk_drew | apply blk_alloc); refine blk_far ?_ NB221_290.out _; (with_reducible repeat first | apply blk_drewN | apply blk_drew | apply blk_alloc); refine blk_far ?_ NB221_290.out _; (with_reducible repeat first | apply blk_drewN | apply blk_drew | apply blk_alloc); refine blk_far ?_ NB221_290.out _; (with_reducible repeat first | apply blk_drewN | apply blk_drew | apply blk_alloc); refine blk_far ?_ NB221_290.out _; (with_reducible repeat first | apply blk_drewN | apply blk_drew | apply blk_alloc); refine blk_far ?_ NB221_290.out _; (with_reducible repeat first | apply blk_drewN | apply blk_drew | apply blk_alloc); refine blk_far ?_ NB221_290.out _; (with_reducible repeat first | apply blk_drewN | apply blk_drew | apply blk_alloc); refine blk_far ?_ NB221_290.out _; (with_reducible repeat first | apply blk_drewN | apply blk_drew | apply blk_alloc); exact BK221.out⟩, ⟨by (with_reducible repeat first | apply blk_drewN | apply blk_drew | apply blk_alloc); refine blk_far ?_ NB245_290.out _; (with_reducible repeat first | apply blk_drewN | apply blk_drew | apply blk_alloc); refine blk_far ?_ NB245_290.out _; (with_reducible repeat first | apply blk_drewN | apply blk_drew | apply blk_alloc); refine blk_far ?_ NB245_290.out _; (with_reducible repeat first | apply blk_drewN | apply blk_drew | apply blk_alloc); refine blk_far ?_ NB245_290.out _; (with_reducible repeat first | apply blk_drewN | apply blk_drew | apply blk_alloc); refine blk_far ?_ NB245_290.out _; (with_reducible repeat first | apply blk_drewN | apply blk_drew | apply blk_alloc); refine blk_far ?_ NB245_290.out _; (with_reducible repeat first | apply blk_drewN | apply blk_drew | apply blk_alloc); refine blk_far ?_ NB245_290.out _; (with_reducible repeat first | apply blk_drewN | apply blk_drew | apply blk_alloc); refine blk_far ?_ NB245_290.out _; (with_reducible repeat first | apply blk_drewN | apply blk_drew | apply blk_alloc); refine blk_far ?_ NB245_290.out _; (with_reducible repeat first | apply blk_drewN | apply blk_drew | apply blk_alloc); exact BK245.out⟩, ⟨by (with_reducible repeat first | apply blk_drewN | apply blk_drew | apply blk_alloc); refine blk_far ?_ NB257_290.out _; (with_reducible repeat first | apply blk_drewN | apply blk_drew | apply blk_alloc); refine blk_far ?_ NB257_290.out _; (with_reducible repeat first | apply blk_drewN | apply blk_drew | apply blk_alloc); refine blk_far ?_ NB257_290.out _; (with_reducible repeat first | apply blk_drewN | apply blk_drew | apply blk_alloc); refine blk_far ?_ NB257_290.out _; (with_reducible repeat first | apply blk_drewN | apply blk_drew | apply blk_alloc); refine blk_far ?_ NB257_290.out _; (with_reducible repeat first | apply blk_drewN | apply blk_drew | apply blk_alloc); refine blk_far ?_ NB257_290.out _; (with_reducible repeat first | apply blk_drewN | apply blk_drew | apply blk_alloc); refine blk_far ?_ NB257_290.out _; (with_reducible repeat first | apply blk_drewN | apply blk_drew | apply blk_alloc); refine blk_far ?_ NB257_290.out _; (with_reducible repeat first | apply blk_drewN | apply blk_drew | apply blk_alloc); refine blk_far ?_ NB257_290.out _; (with_reducible repeat first | apply blk_drewN | apply blk_drew | apply blk_alloc); exact BK257.out⟩, ⟨by (with_reducible repeat first | apply blk_drewN | apply blk_drew | apply blk_alloc); refine blk_far ?_ NB268_290.out _; (with_reducible repeat first | apply blk_drewN | apply blk_drew | apply blk_alloc); refine blk_far ?_ NB268_290.out _; (with_reducible repeat first | apply blk_drewN | apply blk_drew | apply blk_alloc); refine blk_far ?_ NB268_290.out _; (with_reducible repeat first | apply blk_drewN | apply blk_drew | apply blk_alloc); refine blk_far ?_ NB268_290.out _; (with_reducible repeat first | apply blk_drewN | apply blk_drew | apply blk_alloc); refine blk_far ?_ NB268_290.out _; (with_reducible repeat first | apply blk_drewN | apply blk_drew | apply blk_alloc); refine blk_far ?_ NB268_290.out _; (with_reducible repeat first | apply blk_drewN | apply blk_drew | apply blk_alloc); refine blk_far ?_ NB268_290.out _; (with_reducible repeat first | apply blk_drewN | apply blk_drew | apply blk_alloc); refine blk_far ?_ NB268_290.out _; (with_reducible repeat first | apply blk_drewN | apply blk_drew | apply blk_alloc); refine blk_far ?_ NB268_290.out _; (with_reducible repeat first | apply blk_drewN | apply blk_drew | apply blk_alloc); exact BK268.out⟩, ⟨by (with_reducible repeat first | apply blk_drewN | apply blk_drew | apply blk_alloc); refine blk_far ?_ NB279_290.out _; (with_reducible repeat first | apply blk_drewN | apply blk_drew | apply blk_alloc); refine blk_far ?_ NB279_290.out _; (with_reducible repeat first | apply blk_drewN | apply blk_drew | apply blk_alloc); refine blk_far ?_ NB279_290.out _; (with_reducible repeat first | apply blk_drewN | apply blk_drew | apply blk_alloc); refine blk_far ?_ NB279_290.out _; (with_reducible repeat first | apply blk_drewN | apply blk_drew | apply blk_alloc); refine blk_far ?_ NB279_290.out _; (with_reducible repeat first | apply blk_drewN | apply blk_drew | apply blk_alloc); refine blk_far ?_ NB279_290.out _; (with_reducible repeat first | apply blk_drewN | apply blk_drew | apply blk_alloc); refine blk_far ?_ NB279_290.out _; (with_reducible repeat first | apply blk_drewN | apply blk_drew | apply blk_alloc); refine blk_far ?_ NB279_290.out _; (with_reducible repeat first | apply blk_drewN | apply blk_drew | apply blk_alloc); refine blk_far ?_ NB279_290.out _; (with_reducible repeat first | apply blk_drewN | apply blk_drew | apply blk_alloc); exact BK279.out⟩, ⟨by (with_reducible repeat first | apply blk_drewN | apply blk_drew | apply blk_alloc); refine blk_put (cs := #[.int .u32 t280, .int .u32 t281, .int .i64 t282, .int .i64 t283, .int .i64 t284, .int .i64 t285, .bool t286, .bool t287, .string (⟨#[]⟩ : ByteArray)]) ?_ 8 _ rfl; (with_reducible repeat first | apply blk_drewN | apply blk_drew | apply blk_alloc); refine blk_put (cs := #[.int .u32 t280, .int .u32 t281, .int .i64 t282, .int .i64 t283, .int .i64 t284, .int .i64 t285, .bool t286, .bool false, .string (⟨#[]⟩ : ByteArray)]) ?_ 7 _ rfl; (with_reducible repeat first | apply blk_drewN | apply blk_drew | apply blk_alloc); refine blk_put (cs := #[.int .u32 t280, .int .u32 t281, .int .i64 t282, .int .i64 t283, .int .i64 t284, .int .i64 t285, .bool false, .bool false, .string (⟨#[]⟩ : ByteArray)]) ?_ 6 _ rfl; (with_reducible repeat first | apply blk_drewN | apply blk_drew | apply blk_alloc); refine blk_put (cs := #[.int .u32 t280, .int .u32 t281, .int .i64 t282, .int .i64 t283, .int .i64 t284, .int .i64 0, .bool false, .bool false, .string (⟨#[]⟩ : ByteArray)]) ?_ 5 _ rfl; (with_reducible repeat first | apply blk_drewN | apply blk_drew | apply blk_alloc); refine blk_put (cs := #[.int .u32 t280, .int .u32 t281, .int .i64 t282, .int .i64 t283, .int .i64 0, .int .i64 0, .bool false, .bool false, .string (⟨#[]⟩ : ByteArray)]) ?_ 4 _ rfl; (with_reducible repeat first | apply blk_drewN | apply blk_drew | apply blk_alloc); refine blk_put (cs := #[.int .u32 t280, .int .u32 t281, .int .i64 t282, .int .i64 0, .int .i64 0, .int .i64 0, .bool false, .bool false, .string (⟨#[]⟩ : ByteArray)]) ?_ 3 _ rfl; (with_reducible repeat first | apply blk_drewN | apply blk_drew | apply blk_alloc); refine blk_put (cs := #[.int .u32 t280, .int .u32 t281, .int .i64 0, .int .i64 0, .int .i64 0, .int .i64 0, .bool false, .bool false, .string (⟨#[]⟩ : ByteArray)]) ?_ 2 _ rfl; (with_reducible repeat first | apply blk_drewN | apply blk_drew | apply blk_alloc); refine blk_put (cs := #[.int .u32 t280, .int .u32 0, .int .i64 0, .int .i64 0, .int .i64 0, .int .i64 0, .bool false, .bool false, .string (⟨#[]⟩ : ByteArray)]) ?_ 1 _ rfl; (with_reducible repeat first | apply blk_drewN | apply blk_drew | apply blk_alloc); refine blk_put (cs := #[.int .u32 0, .int .u32 0, .int .i64 0, .int .i64 0, .int .i64 0, .int .i64 0, .bool false, .bool false, .string (⟨#[]⟩ : ByteArray)]) ?_ 0 _ rfl; (with_reducible repeat first | apply blk_drewN | apply blk_drew | apply blk_alloc); exact BK290.out⟩, ⟨Fit.bl HB.out⟩⟩
       ·rw [if_neg c96] at H
        have c96b0 : (!(t246 == t280) || (!(t247 == t281) || (!(t248 == t282) || (!(t249 == t283) || (!(t250 == t284) || (!(t251 == t285) || (!(t252 == t286) || (!(t253 == t287) || (!(t254.toList == t288.toList)))))))))) = false := by simpa using c96
        clear c96
        (first | rw [c96b0] | (simp only [i64_w, i32_w]; rw [c96b0]) | skip)
        have H' := Aside0.mk H
        clear H
        have hnb108 := NB257_221.out
        have hnc108 := NB221_257.out
        have hnb109 := NB257_245.out
        have hnc109 := NB245_257.out
        have hnb110 := NB257_268.out
        have hnc110 := NB268_257.out
        have hnb111 := NB257_279.out
        have hnc111 := NB279_257.out
        have hnb112 := NB257_290.out
        have hnc112 := NB290_257.out
        obtain ⟨hcz113_0, hcz113_1, hcz113_2, hcz113_3, hcz113_4, hcz113_5, hcz113_6, hcz113_7, hcz113_8, hfz113_0⟩ := Fit.cells9 BK257.out
        have hnb114 := NB290_221.out
        have hnc114 := NB221_290.out
        have hnb115 := NB290_245.out
        have hnc115 := NB245_290.out
        have hnb116 := NB290_268.out
        have hnc116 := NB268_290.out
        have hnb117 := NB290_279.out
        have hnc117 := NB279_290.out
        obtain ⟨hcz118_0, hcz118_1, hcz118_2, hcz118_3, hcz118_4, hcz118_5, hcz118_6, hcz118_7, hcz118_8, hfz118_0⟩ := Fit.cells9 BK290.out
        go_wp2
        go_meet
        case rel => exact ⟨_, ((t255 != t289)), (by first | rfl | (simp; done) | (simp [*]; done)), H', ⟨by have := HJ15.out; first | omega | exact Nat.le_refl _⟩, ⟨by (with_reducible repeat first | apply blk_drewN | apply blk_drew | apply blk_alloc); refine blk_far ?_ NB221_290.out _; (with_reducible repeat first | apply blk_drewN | apply blk_drew | apply blk_alloc); refine blk_far ?_ NB221_290.out _; (with_reducible repeat first | apply blk_drewN | apply blk_drew | apply blk_alloc); refine blk_far ?_ NB221_290.out _; (with_reducible repeat first | apply blk_drewN | apply blk_drew | apply blk_alloc); refine blk_far ?_ NB221_290.out _; (with_reducible repeat first | apply blk_drewN | apply blk_drew | apply blk_alloc); refine blk_far ?_ NB221_290.out _; (with_reducible repeat first | apply blk_drewN | apply blk_drew | apply blk_alloc); refine blk_far ?_ NB221_290.out _; (with_reducible repeat first | apply blk_drewN | apply blk_drew | apply blk_alloc); refine blk_far ?_ NB221_290.out _; (with_reducible repeat first | apply blk_drewN | apply blk_drew | apply blk_alloc); refine blk_far ?_ NB221_290.out _; (with_reducible repeat first | apply blk_drewN | apply blk_drew | apply blk_alloc); refine blk_far ?_ NB221_290.out _; (with_reducible repeat first | apply blk_drewN | apply blk_drew | apply blk_alloc); exact BK221.out⟩, ⟨by (with_reducible repeat first | apply blk_drewN | apply blk_drew | apply blk_alloc); refine blk_far ?_ NB245_290.out _; (with_reducible repeat first | apply blk_drewN | apply blk_drew | apply blk_alloc); refine blk_far ?_ NB245_290.out _; (with_reducible repeat first | apply blk_drewN | apply blk_drew | apply blk_alloc); refine blk_far ?_ NB245_290.out _; (with_reducible repeat first | apply blk_drewN | apply blk_drew | apply blk_alloc); refine blk_far ?_ NB245_290.out _; (with_reducible repeat first | apply blk_drewN | apply blk_drew | apply blk_alloc); refine blk_far ?_ NB245_290.out _; (with_reducible repeat first | apply blk_drewN | apply blk_drew | apply blk_alloc); refine blk_far ?_ NB245_290.out _; (with_reducible repeat first | apply blk_drewN | apply blk_drew | apply blk_alloc); refine blk_far ?_ NB245_290.out _; (with_reducible repeat first | apply blk_drewN | apply blk_drew | apply blk_alloc); refine blk_far ?_ NB245_290.out _; (with_reducible repeat first | apply blk_drewN | apply blk_drew | apply blk_alloc); refine blk_far ?_ NB245_290.out _; (with_reducible repeat first | apply blk_drewN | apply blk_drew | apply blk_alloc); exact BK245.out⟩, ⟨by (with_reducible repeat first | apply blk_drewN | apply blk_drew | apply blk_alloc); refine blk_far ?_ NB257_290.out _; (with_reducible repeat first | apply blk_drewN | apply blk_drew | apply blk_alloc); refine blk_far ?_ NB257_290.out _; (with_reducible repeat first | apply blk_drewN | apply blk_drew | apply blk_alloc); refine blk_far ?_ NB257_290.out _; (with_reducible repeat first | apply blk_drewN | apply blk_drew | apply blk_alloc); refine blk_far ?_ NB257_290.out _; (with_reducible repeat first | apply blk_drewN | apply blk_drew | apply blk_alloc); refine blk_far ?_ NB257_290.out _; (with_reducible repeat first | apply blk_drewN | apply blk_drew | apply blk_alloc); refine blk_far ?_ NB257_290.out _; (with_reducible repeat first | apply blk_drewN | apply blk_drew | apply blk_alloc); refine blk_far ?_ NB257_290.out _; (with_reducible repeat first | apply blk_drewN | apply blk_drew | apply blk_alloc); refine blk_far ?_ NB257_290.out _; (with_reducible repeat first | apply blk_drewN | apply blk_drew | apply blk_alloc); refine blk_far ?_ NB257_290.out _; (with_reducible repeat first | apply blk_drewN | apply blk_drew | apply blk_alloc); exact BK257.out⟩, ⟨by (with_reducible repeat first | apply blk_drewN | apply blk_drew | apply blk_alloc); refine blk_far ?_ NB268_290.out _; (with_reducible repeat first | apply blk_drewN | apply blk_drew | apply blk_alloc); refine blk_far ?_ NB268_290.out _; (with_reducible repeat first | apply blk_drewN | apply blk_drew | apply blk_alloc); refine blk_far ?_ NB268_290.out _; (with_reducible repeat first | apply blk_drewN | apply blk_drew | apply blk_alloc); refine blk_far ?_ NB268_290.out _; (with_reducible repeat first | apply blk_drewN | apply blk_drew | apply blk_alloc); refine blk_far ?_ NB268_290.out _; (with_reducible repeat first | apply blk_drewN | apply blk_drew | apply blk_alloc); refine blk_far ?_ NB268_290.out _; (with_reducible repeat first | apply blk_drewN | apply blk_drew | apply blk_alloc); refine blk_far ?_ NB268_290.out _; (with_reducible repeat first | apply blk_drewN | apply blk_drew | apply blk_alloc); refine blk_far ?_ NB268_290.out _; (with_reducible repeat first | apply blk_drewN | apply blk_drew | apply blk_alloc); refine blk_far ?_ NB268_290.out _; (with_reducible repeat first | apply blk_drewN | apply blk_drew | apply blk_alloc); exact BK268.out⟩, ⟨by (with_reducible repeat first | apply blk_drewN | apply blk_drew | apply blk_alloc); refine blk_far ?_ NB279_290.out _; (with_reducible repeat first | apply blk_drewN | apply blk_drew | apply blk_alloc); refine blk_far ?_ NB279_290.out _; (with_reducible repeat first | apply blk_drewN | apply blk_drew | apply blk_alloc); refine blk_far ?_ NB279_290.out _; (with_reducible repeat first | apply blk_drewN | apply blk_drew | apply blk_alloc); refine blk_far ?_ NB279_290.out _; (with_reducible repeat first | apply blk_drewN | apply blk_drew | apply blk_alloc); refine blk_far ?_ NB279_290.out _; (with_reducible repeat first | apply blk_drewN | apply blk_drew | apply blk_alloc); refine blk_far ?_ NB279_290.out _; (with_reducible repeat first | apply blk_drewN | apply blk_drew | apply blk_alloc); refine blk_far ?_ NB279_290.out _; (with_reducible repeat first | apply blk_drewN | apply blk_drew | apply blk_alloc); refine blk_far ?_ NB279_290.out _; (with_reducible repeat first | apply blk_drewN | apply blk_drew | apply blk_alloc); refine blk_far ?_ NB279_290.out _; (with_reducible repeat first | apply blk_drewN | apply blk_drew | apply blk_alloc); exact BK279.out⟩, ⟨by (with_reducible repeat first | apply blk_drewN | apply blk_drew | apply blk_alloc); refine blk_put (cs := #[.int .u32 t280, .int .u32 t281, .int .i64 t282, .int .i64 t283, .int .i64 t284, .int .i64 t285, .bool t286, .bool t287, .string (⟨#[]⟩ : ByteArray)]) ?_ 8 _ rfl; (with_reducible repeat first | apply blk_drewN | apply blk_drew | apply blk_alloc); refine blk_put (cs := #[.int .u32 t280, .int .u32 t281, .int .i64 t282, .int .i64 t283, .int .i64 t284, .int .i64 t285, .bool t286, .bool false, .string (⟨#[]⟩ : ByteArray)]) ?_ 7 _ rfl; (with_reducible repeat first | apply blk_drewN | apply blk_drew | apply blk_alloc); refine blk_put (cs := #[.int .u32 t280, .int .u32 t281, .int .i64 t282, .int .i64 t283, .int .i64 t284, .int .i64 t285, .bool false, .bool false, .string (⟨#[]⟩ : ByteArray)]) ?_ 6 _ rfl; (with_reducible repeat first | apply blk_drewN | apply blk_drew | apply blk_alloc); refine blk_put (cs := #[.int .u32 t280, .int .u32 t281, .int .i64 t282, .int .i64 t283, .int .i64 t284, .int .i64 0, .bool false, .bool false, .string (⟨#[]⟩ : ByteArray)]) ?_ 5 _ rfl; (with_reducible repeat first | apply blk_drewN | apply blk_drew | apply blk_alloc); refine blk_put (cs := #[.int .u32 t280, .int .u32 t281, .int .i64 t282, .int .i64 t283, .int .i64 0, .int .i64 0, .bool false, .bool false, .string (⟨#[]⟩ : ByteArray)]) ?_ 4 _ rfl; (with_reducible repeat first | apply blk_drewN | apply blk_drew | apply blk_alloc); refine blk_put (cs := #[.int .u32 t280, .int .u32 t281, .int .i64 t282, .int .i64 0, .int .i64 0, .int .i64 0, .bool false, .bool false, .string (⟨#[]⟩ : ByteArray)]) ?_ 3 _ rfl; (with_reducible repeat first | apply blk_drewN | apply blk_drew | apply blk_alloc); refine blk_put (cs := #[.int .u32 t280, .int .u32 t281, .int .i64 0, .int .i64 0, .int .i64 0, .int .i64 0, .bool false, .bool false, .string (⟨#[]⟩ : ByteArray)]) ?_ 2 _ rfl; (with_reducible repeat first | apply blk_drewN | apply blk_drew | apply blk_alloc); refine blk_put (cs := #[.int .u32 t280, .int .u32 0, .int .i64 0, .int .i64 0, .int .i64 0, .int .i64 0, .bool false, .bool false, .string (⟨#[]⟩ : ByteArray)]) ?_ 1 _ rfl; (with_reducible repeat first | apply blk_drewN | apply blk_drew | apply blk_alloc); refine blk_put (cs := #[.int .u32 0, .int .u32 0, .int .i64 0, .int .i64 0, .int .i64 0, .int .i64 0, .bool false, .bool false, .string (⟨#[]⟩ : ByteArray)]) ?_ 0 _ rfl; (with_reducible repeat first | apply blk_drewN | apply blk_drew | apply blk_alloc); exact BK290.out⟩, ⟨Fit.bl HB.out⟩⟩
      case rest =>
       clear HC82
       try clear c1
       try clear c2
       try clear p2
       try clear c3
       try clear c4
       try clear c5
       try clear c6
       try clear c7
       try clear c8
       try clear c9
       try clear c10
       try clear c11
       try clear c16
       try clear c23
       try clear c27
       try clear c28
       try clear c29
       try clear c30
       try clear c31
       try clear c32
       try clear c33
       try clear c38
       try clear c39
       try clear c40
       try clear c45
       try clear c46
       try clear c47
       try clear c48
       try clear c50
       try clear c50b0
       try clear c51
       try clear c52
       try clear c53
       try clear c54
       try clear c56
       try clear c57
       try clear c58
       try clear c60
       try clear c60b0
       try clear c60b1
       try clear c61
       try clear c62
       try clear c63
       try clear c64
       try clear c66
       try clear c67
       try clear c68
       try clear c70
       try clear c71
       try clear c72
       try clear c73
       try clear c75
       try clear c76
       try clear c77
       try clear c79
       try clear c80
       try clear c80b0
       try clear c80b1
       try clear c83
       try clear c84
       try clear c85
       try clear c86
       try clear c90
       try clear c91
       try clear c92
       try clear c93
       try clear c94
       try clear c96
       try clear c96b0
       try clear c97
       try clear c98
       try clear c99
       try clear c100
       try clear c101
       try clear c103
       try clear c104
       try clear c105
       try clear c106
       try clear c108
       try clear c109
       try clear c110
       try clear c111
       try clear c112
       try clear c114
       try clear c115
       try clear c116
       try clear c117
       try clear hcz102_0
       try clear hcz102_1
       try clear hcz102_2
       try clear hcz102_3
       try clear hcz102_4
       try clear hcz102_5
       try clear hcz102_6
       try clear hcz102_7
       try clear hcz102_8
       try clear hcz107_0
       try clear hcz107_1
       try clear hcz107_2
       try clear hcz107_3
       try clear hcz107_4
       try clear hcz107_5
       try clear hcz107_6
       try clear hcz107_7
       try clear hcz107_8
       try clear hcz113_0
       try clear hcz113_1
       try clear hcz113_2
       try clear hcz113_3
       try clear hcz113_4
       try clear hcz113_5
       try clear hcz113_6
       try clear hcz113_7
       try clear hcz113_8
       try clear hcz118_0
       try clear hcz118_1
       try clear hcz118_2
       try clear hcz118_3
       try clear hcz118_4
       try clear hcz118_5
       try clear hcz118_6
       try clear hcz118_7
       try clear hcz118_8
       try clear hcz19_0
       try clear hcz19_1
       try clear hcz19_2
       try clear hcz19_3
       try clear hcz19_4
       try clear hcz19_5
       try clear hcz19_6
       try clear hcz19_7
       try clear hcz19_8
       try clear hcz22_0
       try clear hcz22_1
       try clear hcz22_2
       try clear hcz22_3
       try clear hcz22_4
       try clear hcz22_5
       try clear hcz22_6
       try clear hcz22_7
       try clear hcz22_8
       try clear hcz24_0
       try clear hcz24_1
       try clear hcz24_2
       try clear hcz24_3
       try clear hcz24_4
       try clear hcz24_5
       try clear hcz24_6
       try clear hcz24_7
       try clear hcz24_8
       try clear hcz28_0
       try clear hcz28_1
       try clear hcz28_2
       try clear hcz28_3
       try clear hcz28_4
       try clear hcz28_5
       try clear hcz28_6
       try clear hcz28_7
       try clear hcz28_8
       try clear hcz29_0
       try clear hcz29_1
       try clear hcz29_2
       try clear hcz29_3
       try clear hcz29_4
       try clear hcz29_5
       try clear hcz29_6
       try clear hcz29_7
       try clear hcz29_8
       try clear hcz34_0
       try clear hcz34_1
       try clear hcz34_2
       try clear hcz34_3
       try clear hcz34_4
       try clear hcz34_5
       try clear hcz34_6
       try clear hcz34_7
       try clear hcz34_8
       try clear hcz35_0
       try clear hcz35_1
       try clear hcz35_2
       try clear hcz35_3
       try clear hcz35_4
       try clear hcz35_5
       try clear hcz35_6
       try clear hcz35_7
       try clear hcz35_8
       try clear hcz41_0
       try clear hcz41_1
       try clear hcz41_2
       try clear hcz41_3
       try clear hcz41_4
       try clear hcz41_5
       try clear hcz41_6
       try clear hcz41_7
       try clear hcz41_8
       try clear hcz42_0
       try clear hcz42_1
       try clear hcz42_2
       try clear hcz42_3
       try clear hcz42_4
       try clear hcz42_5
       try clear hcz42_6
       try clear hcz42_7
       try clear hcz42_8
       try clear hcz49_0
       try clear hcz49_1
       try clear hcz49_2
       try clear hcz49_3
       try clear hcz49_4
       try clear hcz49_5
       try clear hcz49_6
       try clear hcz49_7
       try clear hcz49_8
       try clear hcz55_0
       try clear hcz55_1
       try clear hcz55_2
       try clear hcz55_3
       try clear hcz55_4
       try clear hcz55_5
       try clear hcz55_6
       try clear hcz55_7
       try clear hcz55_8
       try clear hcz59_0
       try clear hcz59_1
       try clear hcz59_2
       try clear hcz59_3
       try clear hcz59_4
       try clear hcz59_5
       try clear hcz59_6
       try clear hcz59_7
       try clear hcz59_8
       try clear hcz65_0
       try clear hcz65_1
       try clear hcz65_2
       try clear hcz65_3
       try clear hcz65_4
       try clear hcz65_5
       try clear hcz65_6
       try clear hcz65_7
       try clear hcz65_8
       try clear hcz69_0
       try clear hcz69_1
       try clear hcz69_2
       try clear hcz69_3
       try clear hcz69_4
       try clear hcz69_5
       try clear hcz69_6
       try clear hcz69_7
       try clear hcz69_8
       try clear hcz74_0
       try clear hcz74_1
       try clear hcz74_2
       try clear hcz74_3
       try clear hcz74_4
       try clear hcz74_5
       try clear hcz74_6
       try clear hcz74_7
       try clear hcz74_8
       try clear hcz78_0
       try clear hcz78_1
       try clear hcz78_2
       try clear hcz78_3
       try clear hcz78_4
       try clear hcz78_5
       try clear hcz78_6
       try clear hcz78_7
       try clear hcz78_8
       try clear hcz87_0
       try clear hcz87_1
       try clear hcz87_2
       try clear hcz87_3
       try clear hcz87_4
       try clear hcz87_5
       try clear hcz87_6
       try clear hcz87_7
       try clear hcz87_8
       try clear hcz95_0
       try clear hcz95_1
       try clear hcz95_2
       try clear hcz95_3
       try clear hcz95_4
       try clear hcz95_5
       try clear hcz95_6
       try clear hcz95_7
       try clear hcz95_8
       try clear hfz102_0
       try clear hfz107_0
       try clear hfz113_0
       try clear hfz118_0
       try clear hfz19_0
       try clear hfz22_0
       try clear hfz24_0
       try clear hfz28_0
       try clear hfz29_0
       try clear hfz34_0
       try clear hfz35_0
       try clear hfz41_0
       try clear hfz42_0
       try clear hfz49_0
       try clear hfz55_0
       try clear hfz59_0
       try clear hfz65_0
       try clear hfz69_0
       try clear hfz74_0
       try clear hfz78_0
       try clear hfz87_0
       try clear hfz95_0
       try clear p2
       obtain ⟨kq, x120_81, rfl, HA, HJ81, BK221, BK245, BK257, BK268, BK279, BK290, HB⟩ := hcut
       cases kq with
       | zero => exact absurd HA.out (by simp [patchbaylaw2_FaultTells.j1])
       | succ kj81 =>
        have H := HA.out
        clear HA
        simp only [patchbaylaw2_FaultTells.j1] at H
        by_cases c119 : x120_81 = true
        ·subst c119
         have H1 : (some false) = some r := by rw [if_pos rfl] at H; exact H
         clear H
         have H := H1
         clear H1
         obtain rfl := Option.some.inj H
         go_wp2
         go_ret
         exact ⟨by first | rfl | (simp [errW_none, errW_some] <;> rfl) | (simp [*, errW_none, errW_some] <;> rfl), Fit.bl HB.out⟩
        ·replace c119 := Bool.eq_false_iff.mpr c119
         subst c119
         have H1 : (if a1 < 1 then (if t244 = 1 then (if t243 = true then (some false) else (some (t234 == 0 && (t235 == 0 && (t236 == 0 && (t237 == 0 && (t238 == 0 && (t239 == 0 && (!t240 && (!t241 && (t242.toList == ([] : List UInt8)))))))))))) else (some false)) else (if a1 > 6 then (if t244 = 1 then (if t243 = true then (some false) else (some (t234 == 0 && (t235 == 0 && (t236 == 0 && (t237 == 0 && (t238 == 0 && (t239 == 0 && (!t240 && (!t241 && (t242.toList == ([] : List UInt8)))))))))))) else (some false)) else ((patchbayref2_ToldOf.f kj81 t223 t224 t225 t226 t227 t228 t229 t230 t231 a1 a2).bind fun bt291 => (if t244 = 0 then (if (t234 == bt291.1 && (t235 == bt291.2.1 && (t236 == bt291.2.2.1 && (t237 == bt291.2.2.2.1 && (t238 == bt291.2.2.2.2.1 && (t239 == bt291.2.2.2.2.2.1 && (t240 == bt291.2.2.2.2.2.2.1 && (t241 == bt291.2.2.2.2.2.2.2.1 && (t242.toList == bt291.2.2.2.2.2.2.2.2.1.toList))))))))) = true then (some (t243 == bt291.2.2.2.2.2.2.2.2.2)) else (some false)) else (some false))))) = some r := by rw [if_neg (show ¬ (false = true) by decide)] at H; exact H
         clear H
         have H := H1
         clear H1
         by_cases c120 : a1 < 1
         ·rw [if_pos c120] at H
          have c120b0 : decide (a1 < 1) = true := decide_eq_true c120
          clear c120
          by_cases c121 : t244 = 1
          ·rw [if_pos c121] at H
           have c121b0 : (t244 == 1) = true := beq_iff_eq.mpr c121
           have c121b1 : (t244 != 1) = false := bne_eq_false_iff_eq.mpr c121
           clear c121
           by_cases c122 : t243 = true
           ·subst c122
            have H1 : (some false) = some r := by rw [if_pos rfl] at H; exact H
            clear H
            have H := H1
            clear H1
            obtain rfl := Option.some.inj H
            go_wp2
            go_ret
            exact ⟨by first | rfl | (simp [errW_none, errW_some] <;> rfl) | (simp [*, errW_none, errW_some] <;> rfl), Fit.bl HB.out⟩
           ·replace c122 := Bool.eq_false_iff.mpr c122
            subst c122
            have H1 : (some (t234 == 0 && (t235 == 0 && (t236 == 0 && (t237 == 0 && (t238 == 0 && (t239 == 0 && (!t240 && (!t241 && (t242.toList == ([] : List UInt8))))))))))) = some r := by rw [if_neg (show ¬ (false = true) by decide)] at H; exact H
            clear H
            have H := H1
            clear H1
            obtain rfl := Option.some.inj H
            have hnb123 := NB245_221.out
            have hnc123 := NB221_245.out
            have hnb124 := NB245_257.out
            have hnc124 := NB257_245.out
            have hnb125 := NB245_268.out
            have hnc125 := NB268_245.out
            have hnb126 := NB245_279.out
            have hnc126 := NB279_245.out
            have hnb127 := NB245_290.out
            have hnc127 := NB290_245.out
            obtain ⟨hcz128_0, hcz128_1, hcz128_2, hcz128_3, hcz128_4, hcz128_5, hcz128_6, hcz128_7, hcz128_8, hfz128_0⟩ := Fit.cells9 BK245.out
            go_wp2
            go_ret
            exact ⟨by first | rfl | (simp [errW_none, errW_some] <;> rfl) | (simp [*, errW_none, errW_some] <;> rfl), Fit.bl HB.out⟩
          ·rw [if_neg c121] at H
           have c121b0 : (t244 == 1) = false := beq_eq_false_iff_ne.mpr c121
           have c121b1 : (t244 != 1) = true := bne_iff_ne.mpr c121
           obtain rfl := Option.some.inj H
           go_wp2
           go_ret
           exact ⟨by first | rfl | (simp [errW_none, errW_some] <;> rfl) | (simp [*, errW_none, errW_some] <;> rfl), Fit.bl HB.out⟩
         ·rw [if_neg c120] at H
          have c120b0 : decide (a1 < 1) = false := decide_eq_false c120
          clear c120
          by_cases c129 : a1 > 6
          ·rw [if_pos c129] at H
           have c129b0 : decide (6 < a1) = true := decide_eq_true c129
           clear c129
           by_cases c130 : t244 = 1
           ·rw [if_pos c130] at H
            have c130b0 : (t244 == 1) = true := beq_iff_eq.mpr c130
            have c130b1 : (t244 != 1) = false := bne_eq_false_iff_eq.mpr c130
            clear c130
            by_cases c131 : t243 = true
            ·subst c131
             have H1 : (some false) = some r := by rw [if_pos rfl] at H; exact H
             clear H
             have H := H1
             clear H1
             obtain rfl := Option.some.inj H
             go_wp2
             go_ret
             exact ⟨by first | rfl | (simp [errW_none, errW_some] <;> rfl) | (simp [*, errW_none, errW_some] <;> rfl), Fit.bl HB.out⟩
            ·replace c131 := Bool.eq_false_iff.mpr c131
             subst c131
             have H1 : (some (t234 == 0 && (t235 == 0 && (t236 == 0 && (t237 == 0 && (t238 == 0 && (t239 == 0 && (!t240 && (!t241 && (t242.toList == ([] : List UInt8))))))))))) = some r := by rw [if_neg (show ¬ (false = true) by decide)] at H; exact H
             clear H
             have H := H1
             clear H1
             obtain rfl := Option.some.inj H
             have hnb132 := NB245_221.out
             have hnc132 := NB221_245.out
             have hnb133 := NB245_257.out
             have hnc133 := NB257_245.out
             have hnb134 := NB245_268.out
             have hnc134 := NB268_245.out
             have hnb135 := NB245_279.out
             have hnc135 := NB279_245.out
             have hnb136 := NB245_290.out
             have hnc136 := NB290_245.out
             obtain ⟨hcz137_0, hcz137_1, hcz137_2, hcz137_3, hcz137_4, hcz137_5, hcz137_6, hcz137_7, hcz137_8, hfz137_0⟩ := Fit.cells9 BK245.out
             go_wp2
             go_ret
             exact ⟨by first | rfl | (simp [errW_none, errW_some] <;> rfl) | (simp [*, errW_none, errW_some] <;> rfl), Fit.bl HB.out⟩
           ·rw [if_neg c130] at H
            have c130b0 : (t244 == 1) = false := beq_eq_false_iff_ne.mpr c130
            have c130b1 : (t244 != 1) = true := bne_iff_ne.mpr c130
            obtain rfl := Option.some.inj H
            go_wp2
            go_ret
            exact ⟨by first | rfl | (simp [errW_none, errW_some] <;> rfl) | (simp [*, errW_none, errW_some] <;> rfl), Fit.bl HB.out⟩
          ·rw [if_neg c129] at H
           have c129b0 : decide (6 < a1) = false := decide_eq_false c129
           clear c129
           replace H := Option.bind_eq_some_iff.mp H
           obtain ⟨⟨t291, t292, t293, t294, t295, t296, t297, t298, t299, t300⟩, A1380, H⟩ := H
           replace H : (if t244 = 0 then (if (t234 == t291 && (t235 == t292 && (t236 == t293 && (t237 == t294 && (t238 == t295 && (t239 == t296 && (t240 == t297 && (t241 == t298 && (t242.toList == t299.toList))))))))) = true then (some (t243 == t300)) else (some false)) else (some false)) = some r := H
           have A138 := Aside0.mk A1380
           clear A1380
           by_cases c139 : t244 = 0
           ·rw [if_pos c139] at H
            have c139b0 : (t244 == 0) = true := beq_iff_eq.mpr c139
            have c139b1 : (t244 != 0) = false := bne_eq_false_iff_eq.mpr c139
            clear c139
            by_cases c140 : (t234 == t291 && (t235 == t292 && (t236 == t293 && (t237 == t294 && (t238 == t295 && (t239 == t296 && (t240 == t297 && (t241 == t298 && (t242.toList == t299.toList))))))))) = true
            ·rw [if_pos c140] at H
             have c140b0 : (t234 == t291 && (t235 == t292 && (t236 == t293 && (t237 == t294 && (t238 == t295 && (t239 == t296 && (t240 == t297 && (t241 == t298 && (t242.toList == t299.toList))))))))) = true := c140
             (try (have c140b1 : decide (t234 = t291 && (t235 == t292 && (t236 == t293 && (t237 == t294 && (t238 == t295 && (t239 == t296 && (t240 == t297 && (t241 == t298 && (t242.toList == t299.toList))))))))) = true := by simpa using c140))
             (try (have c140b2 : (t234 == t291 && (t235 == t292 && (t236 == t293 && (t237 == t294 && (t238 == t295 && (t239 == t296 && (t240 == t297 && (t241 == t298 && (t242.toList == t299.toList))))))))) = true := by simpa using c140))
             clear c140
             obtain rfl := Option.some.inj H
             have hnb141 := NB221_245.out
             have hnc141 := NB245_221.out
             have hnb142 := NB221_257.out
             have hnc142 := NB257_221.out
             have hnb143 := NB221_268.out
             have hnc143 := NB268_221.out
             have hnb144 := NB221_279.out
             have hnc144 := NB279_221.out
             have hnb145 := NB221_290.out
             have hnc145 := NB290_221.out
             obtain ⟨hcz146_0, hcz146_1, hcz146_2, hcz146_3, hcz146_4, hcz146_5, hcz146_6, hcz146_7, hcz146_8, hfz146_0⟩ := Fit.cells9 BK221.out
             go_wp2_with (first | ((with_reducible refine gate_callee (f := 34) rfl ?_); refine goesL_ (some 142) rfl rfl Try.func34 (by kernel_rfl) rfl #[.agg #[.int .u32 t223, .int .u32 t224, .int .i64 t225, .int .i64 t226, .int .i64 t227, .int .i64 t228, .bool t229, .bool t230, .string t231], .int .i64 a1, .int .u32 a2] rfl (by (try simp only [List.map_toArray, List.map_cons, List.map_nil]); first | done | rfl | (simp only [List.length_drop, List.length_take]; rfl)) ?_; (with_reducible refine (patchbayref2_ToldOf.calls kj81 t223 t224 t225 t226 t227 t228 t229 t230 t231 a1 a2 t291 t292 t293 t294 t295 t296 t297 t298 t299 t300 _ A138.out).mono ?_); rintro e w147 ⟨rfl, hb⟩; refine ⟨_, rfl, ?_⟩; have n0_ := Aside0.mk (blk_below (g := gb221) (Fit.pk BK221.out) hb); have n1_ := Aside0.mk (blk_below (g := gb245) (Fit.pk BK245.out) hb); have n2_ := Aside0.mk (blk_below (g := gb257) (Fit.pk BK257.out) hb); have n3_ := Aside0.mk (blk_below (g := gb268) (Fit.pk BK268.out) hb); have n4_ := Aside0.mk (blk_below (g := gb279) (Fit.pk BK279.out) hb); have n5_ := Aside0.mk (blk_below (g := gb290) (Fit.pk BK290.out) hb); have n6_ := Aside0.mk (below_step (Fit.bl HB.out) hb); clear BK221; clear BK245; clear BK257; clear BK268; clear BK279; clear BK290; clear HB; have BK221 := n0_; have BK245 := n1_; have BK257 := n2_; have BK268 := n3_; have BK279 := n4_; have BK290 := n5_; have HB := n6_; clear n0_ n1_ n2_ n3_ n4_ n5_ n6_; (try clear hb); (try clear hb2); (try clear hk); (try clear hi)) | ((with_reducible refine gate_dst (N := 26) rfl ?_); refine box_event ?hg (N := 26) ?hd (cs := #[.int .u32 0, .int .u32 0, .int .i64 0, .int .i64 0, .int .i64 0, .int .i64 0, .bool false, .bool false, .string (⟨#[]⟩ : ByteArray)]) (t := 30) ?hr ?_; (case hd => rfl); (case hg => rfl); (case hr => first | (go_simp; done) | (go_simp; rfl)); intro gb301 hg w148 hbox hb; have n0_ := Aside0.mk (blk_below (g := gb221) (Fit.pk BK221.out) hb); have n1_ := Aside0.mk (blk_below (g := gb245) (Fit.pk BK245.out) hb); have n2_ := Aside0.mk (blk_below (g := gb257) (Fit.pk BK257.out) hb); have n3_ := Aside0.mk (blk_below (g := gb268) (Fit.pk BK268.out) hb); have n4_ := Aside0.mk (blk_below (g := gb279) (Fit.pk BK279.out) hb); have n5_ := Aside0.mk (blk_below (g := gb290) (Fit.pk BK290.out) hb); have n6_ := Aside0.mk (below_step (Fit.bl HB.out) hb); have n7_ := Aside0.mk (hbox); have n8_ := Aside0.mk ((by rw [hg]; exact (below_size (Fit.bl HB.out)) : w.heap.size ≤ gb301)); have n9_ := Aside0.mk ((by rw [hg]; exact (below_size (Fit.bl HB.out)) : w.heap.size ≤ gb301)); have n10_ := Aside0.mk ((by rw [hg]; exact Nat.ne_of_lt (blk_lt (g := gb221) (Fit.pk BK221.out)) : gb221 ≠ gb301)); have n11_ := Aside0.mk ((by rw [hg]; exact Nat.ne_of_gt (blk_lt (g := gb221) (Fit.pk BK221.out)) : gb301 ≠ gb221)); have n12_ := Aside0.mk ((by rw [hg]; exact Nat.ne_of_lt (blk_lt (g := gb245) (Fit.pk BK245.out)) : gb245 ≠ gb301)); have n13_ := Aside0.mk ((by rw [hg]; exact Nat.ne_of_gt (blk_lt (g := gb245) (Fit.pk BK245.out)) : gb301 ≠ gb245)); have n14_ := Aside0.mk ((by rw [hg]; exact Nat.ne_of_lt (blk_lt (g := gb257) (Fit.pk BK257.out)) : gb257 ≠ gb301)); have n15_ := Aside0.mk ((by rw [hg]; exact Nat.ne_of_gt (blk_lt (g := gb257) (Fit.pk BK257.out)) : gb301 ≠ gb257)); have n16_ := Aside0.mk ((by rw [hg]; exact Nat.ne_of_lt (blk_lt (g := gb268) (Fit.pk BK268.out)) : gb268 ≠ gb301)); have n17_ := Aside0.mk ((by rw [hg]; exact Nat.ne_of_gt (blk_lt (g := gb268) (Fit.pk BK268.out)) : gb301 ≠ gb268)); have n18_ := Aside0.mk ((by rw [hg]; exact Nat.ne_of_lt (blk_lt (g := gb279) (Fit.pk BK279.out)) : gb279 ≠ gb301)); have n19_ := Aside0.mk ((by rw [hg]; exact Nat.ne_of_gt (blk_lt (g := gb279) (Fit.pk BK279.out)) : gb301 ≠ gb279)); have n20_ := Aside0.mk ((by rw [hg]; exact Nat.ne_of_lt (blk_lt (g := gb290) (Fit.pk BK290.out)) : gb290 ≠ gb301)); have n21_ := Aside0.mk ((by rw [hg]; exact Nat.ne_of_gt (blk_lt (g := gb290) (Fit.pk BK290.out)) : gb301 ≠ gb290)); clear BK221; clear BK245; clear BK257; clear BK268; clear BK279; clear BK290; clear HB; have BK221 := n0_; have BK245 := n1_; have BK257 := n2_; have BK268 := n3_; have BK279 := n4_; have BK290 := n5_; have HB := n6_; have BK301 := n7_; have GW301 := n8_; have GE301 := n9_; have NB221_301 := n10_; have NB301_221 := n11_; have NB245_301 := n12_; have NB301_245 := n13_; have NB257_301 := n14_; have NB301_257 := n15_; have NB268_301 := n16_; have NB301_268 := n17_; have NB279_301 := n18_; have NB301_279 := n19_; have NB290_301 := n20_; have NB301_290 := n21_; clear n0_ n1_ n2_ n3_ n4_ n5_ n6_ n7_ n8_ n9_ n10_ n11_ n12_ n13_ n14_ n15_ n16_ n17_ n18_ n19_ n20_ n21_; clear hb hbox hg; have hnb149 := NB301_221.out; have hnc149 := NB221_301.out; have hnb150 := NB301_245.out; have hnc150 := NB245_301.out; have hnb151 := NB301_257.out; have hnc151 := NB257_301.out; have hnb152 := NB301_268.out; have hnc152 := NB268_301.out; have hnb153 := NB301_279.out; have hnc153 := NB279_301.out; have hnb154 := NB301_290.out; have hnc154 := NB290_301.out; obtain ⟨hcz155_0, hcz155_1, hcz155_2, hcz155_3, hcz155_4, hcz155_5, hcz155_6, hcz155_7, hcz155_8, hfz155_0⟩ := Fit.cells9 BK301.out; have hnb156 := NB245_257.out; have hnc156 := NB257_245.out; have hnb157 := NB245_268.out; have hnc157 := NB268_245.out; have hnb158 := NB245_279.out; have hnc158 := NB279_245.out; have hnb159 := NB245_290.out; have hnc159 := NB290_245.out; obtain ⟨hcz160_0, hcz160_1, hcz160_2, hcz160_3, hcz160_4, hcz160_5, hcz160_6, hcz160_7, hcz160_8, hfz160_0⟩ := Fit.cells9 BK245.out))
             go_ret
             exact ⟨by first | rfl | (simp [errW_none, errW_some] <;> rfl) | (simp [*, errW_none, errW_some] <;> rfl), Fit.bl HB.out⟩
            ·rw [if_neg c140] at H
             have c140b0 : (t234 == t291 && (t235 == t292 && (t236 == t293 && (t237 == t294 && (t238 == t295 && (t239 == t296 && (t240 == t297 && (t241 == t298 && (t242.toList == t299.toList))))))))) = false := by simpa using c140
             (try (have c140b1 : decide (t234 = t291 && (t235 == t292 && (t236 == t293 && (t237 == t294 && (t238 == t295 && (t239 == t296 && (t240 == t297 && (t241 == t298 && (t242.toList == t299.toList))))))))) = false := by simpa using c140))
             (try (have c140b2 : (t234 == t291 && (t235 == t292 && (t236 == t293 && (t237 == t294 && (t238 == t295 && (t239 == t296 && (t240 == t297 && (t241 == t298 && (t242.toList == t299.toList))))))))) = false := by simpa using c140))
             (try (have c140b3 : ¬ (t234 = t291 && (t235 == t292 && (t236 == t293 && (t237 == t294 && (t238 == t295 && (t239 == t296 && (t240 == t297 && (t241 == t298 && (t242.toList == t299.toList))))))))) := by simpa using c140))
             clear c140
             obtain rfl := Option.some.inj H
             have hnb161 := NB221_245.out
             have hnc161 := NB245_221.out
             have hnb162 := NB221_257.out
             have hnc162 := NB257_221.out
             have hnb163 := NB221_268.out
             have hnc163 := NB268_221.out
             have hnb164 := NB221_279.out
             have hnc164 := NB279_221.out
             have hnb165 := NB221_290.out
             have hnc165 := NB290_221.out
             obtain ⟨hcz166_0, hcz166_1, hcz166_2, hcz166_3, hcz166_4, hcz166_5, hcz166_6, hcz166_7, hcz166_8, hfz166_0⟩ := Fit.cells9 BK221.out
             go_wp2_with (first | ((with_reducible refine gate_callee (f := 34) rfl ?_); refine goesL_ (some 142) rfl rfl Try.func34 (by kernel_rfl) rfl #[.agg #[.int .u32 t223, .int .u32 t224, .int .i64 t225, .int .i64 t226, .int .i64 t227, .int .i64 t228, .bool t229, .bool t230, .string t231], .int .i64 a1, .int .u32 a2] rfl (by (try simp only [List.map_toArray, List.map_cons, List.map_nil]); first | done | rfl | (simp only [List.length_drop, List.length_take]; rfl)) ?_; (with_reducible refine (patchbayref2_ToldOf.calls kj81 t223 t224 t225 t226 t227 t228 t229 t230 t231 a1 a2 t291 t292 t293 t294 t295 t296 t297 t298 t299 t300 _ A138.out).mono ?_); rintro e w167 ⟨rfl, hb⟩; refine ⟨_, rfl, ?_⟩; have n0_ := Aside0.mk (blk_below (g := gb221) (Fit.pk BK221.out) hb); have n1_ := Aside0.mk (blk_below (g := gb245) (Fit.pk BK245.out) hb); have n2_ := Aside0.mk (blk_below (g := gb257) (Fit.pk BK257.out) hb); have n3_ := Aside0.mk (blk_below (g := gb268) (Fit.pk BK268.out) hb); have n4_ := Aside0.mk (blk_below (g := gb279) (Fit.pk BK279.out) hb); have n5_ := Aside0.mk (blk_below (g := gb290) (Fit.pk BK290.out) hb); have n6_ := Aside0.mk (below_step (Fit.bl HB.out) hb); clear BK221; clear BK245; clear BK257; clear BK268; clear BK279; clear BK290; clear HB; have BK221 := n0_; have BK245 := n1_; have BK257 := n2_; have BK268 := n3_; have BK279 := n4_; have BK290 := n5_; have HB := n6_; clear n0_ n1_ n2_ n3_ n4_ n5_ n6_; (try clear hb); (try clear hb2); (try clear hk); (try clear hi)) | ((with_reducible refine gate_dst (N := 26) rfl ?_); refine box_event ?hg (N := 26) ?hd (cs := #[.int .u32 0, .int .u32 0, .int .i64 0, .int .i64 0, .int .i64 0, .int .i64 0, .bool false, .bool false, .string (⟨#[]⟩ : ByteArray)]) (t := 30) ?hr ?_; (case hd => rfl); (case hg => rfl); (case hr => first | (go_simp; done) | (go_simp; rfl)); intro gb301 hg w168 hbox hb; have n0_ := Aside0.mk (blk_below (g := gb221) (Fit.pk BK221.out) hb); have n1_ := Aside0.mk (blk_below (g := gb245) (Fit.pk BK245.out) hb); have n2_ := Aside0.mk (blk_below (g := gb257) (Fit.pk BK257.out) hb); have n3_ := Aside0.mk (blk_below (g := gb268) (Fit.pk BK268.out) hb); have n4_ := Aside0.mk (blk_below (g := gb279) (Fit.pk BK279.out) hb); have n5_ := Aside0.mk (blk_below (g := gb290) (Fit.pk BK290.out) hb); have n6_ := Aside0.mk (below_step (Fit.bl HB.out) hb); have n7_ := Aside0.mk (hbox); have n8_ := Aside0.mk ((by rw [hg]; exact (below_size (Fit.bl HB.out)) : w.heap.size ≤ gb301)); have n9_ := Aside0.mk ((by rw [hg]; exact (below_size (Fit.bl HB.out)) : w.heap.size ≤ gb301)); have n10_ := Aside0.mk ((by rw [hg]; exact Nat.ne_of_lt (blk_lt (g := gb221) (Fit.pk BK221.out)) : gb221 ≠ gb301)); have n11_ := Aside0.mk ((by rw [hg]; exact Nat.ne_of_gt (blk_lt (g := gb221) (Fit.pk BK221.out)) : gb301 ≠ gb221)); have n12_ := Aside0.mk ((by rw [hg]; exact Nat.ne_of_lt (blk_lt (g := gb245) (Fit.pk BK245.out)) : gb245 ≠ gb301)); have n13_ := Aside0.mk ((by rw [hg]; exact Nat.ne_of_gt (blk_lt (g := gb245) (Fit.pk BK245.out)) : gb301 ≠ gb245)); have n14_ := Aside0.mk ((by rw [hg]; exact Nat.ne_of_lt (blk_lt (g := gb257) (Fit.pk BK257.out)) : gb257 ≠ gb301)); have n15_ := Aside0.mk ((by rw [hg]; exact Nat.ne_of_gt (blk_lt (g := gb257) (Fit.pk BK257.out)) : gb301 ≠ gb257)); have n16_ := Aside0.mk ((by rw [hg]; exact Nat.ne_of_lt (blk_lt (g := gb268) (Fit.pk BK268.out)) : gb268 ≠ gb301)); have n17_ := Aside0.mk ((by rw [hg]; exact Nat.ne_of_gt (blk_lt (g := gb268) (Fit.pk BK268.out)) : gb301 ≠ gb268)); have n18_ := Aside0.mk ((by rw [hg]; exact Nat.ne_of_lt (blk_lt (g := gb279) (Fit.pk BK279.out)) : gb279 ≠ gb301)); have n19_ := Aside0.mk ((by rw [hg]; exact Nat.ne_of_gt (blk_lt (g := gb279) (Fit.pk BK279.out)) : gb301 ≠ gb279)); have n20_ := Aside0.mk ((by rw [hg]; exact Nat.ne_of_lt (blk_lt (g := gb290) (Fit.pk BK290.out)) : gb290 ≠ gb301)); have n21_ := Aside0.mk ((by rw [hg]; exact Nat.ne_of_gt (blk_lt (g := gb290) (Fit.pk BK290.out)) : gb301 ≠ gb290)); clear BK221; clear BK245; clear BK257; clear BK268; clear BK279; clear BK290; clear HB; have BK221 := n0_; have BK245 := n1_; have BK257 := n2_; have BK268 := n3_; have BK279 := n4_; have BK290 := n5_; have HB := n6_; have BK301 := n7_; have GW301 := n8_; have GE301 := n9_; have NB221_301 := n10_; have NB301_221 := n11_; have NB245_301 := n12_; have NB301_245 := n13_; have NB257_301 := n14_; have NB301_257 := n15_; have NB268_301 := n16_; have NB301_268 := n17_; have NB279_301 := n18_; have NB301_279 := n19_; have NB290_301 := n20_; have NB301_290 := n21_; clear n0_ n1_ n2_ n3_ n4_ n5_ n6_ n7_ n8_ n9_ n10_ n11_ n12_ n13_ n14_ n15_ n16_ n17_ n18_ n19_ n20_ n21_; clear hb hbox hg; have hnb169 := NB301_221.out; have hnc169 := NB221_301.out; have hnb170 := NB301_245.out; have hnc170 := NB245_301.out; have hnb171 := NB301_257.out; have hnc171 := NB257_301.out; have hnb172 := NB301_268.out; have hnc172 := NB268_301.out; have hnb173 := NB301_279.out; have hnc173 := NB279_301.out; have hnb174 := NB301_290.out; have hnc174 := NB290_301.out; obtain ⟨hcz175_0, hcz175_1, hcz175_2, hcz175_3, hcz175_4, hcz175_5, hcz175_6, hcz175_7, hcz175_8, hfz175_0⟩ := Fit.cells9 BK301.out; have hnb176 := NB245_257.out; have hnc176 := NB257_245.out; have hnb177 := NB245_268.out; have hnc177 := NB268_245.out; have hnb178 := NB245_279.out; have hnc178 := NB279_245.out; have hnb179 := NB245_290.out; have hnc179 := NB290_245.out; obtain ⟨hcz180_0, hcz180_1, hcz180_2, hcz180_3, hcz180_4, hcz180_5, hcz180_6, hcz180_7, hcz180_8, hfz180_0⟩ := Fit.cells9 BK245.out))
             go_ret
             exact ⟨by first | rfl | (simp [errW_none, errW_some] <;> rfl) | (simp [*, errW_none, errW_some] <;> rfl), Fit.bl HB.out⟩
           ·rw [if_neg c139] at H
            have c139b0 : (t244 == 0) = false := beq_eq_false_iff_ne.mpr c139
            have c139b1 : (t244 != 0) = true := bne_iff_ne.mpr c139
            obtain rfl := Option.some.inj H
            have hnb181 := NB221_245.out
            have hnc181 := NB245_221.out
            have hnb182 := NB221_257.out
            have hnc182 := NB257_221.out
            have hnb183 := NB221_268.out
            have hnc183 := NB268_221.out
            have hnb184 := NB221_279.out
            have hnc184 := NB279_221.out
            have hnb185 := NB221_290.out
            have hnc185 := NB290_221.out
            obtain ⟨hcz186_0, hcz186_1, hcz186_2, hcz186_3, hcz186_4, hcz186_5, hcz186_6, hcz186_7, hcz186_8, hfz186_0⟩ := Fit.cells9 BK221.out
            go_wp2_with (first | ((with_reducible refine gate_callee (f := 34) rfl ?_); refine goesL_ (some 142) rfl rfl Try.func34 (by kernel_rfl) rfl #[.agg #[.int .u32 t223, .int .u32 t224, .int .i64 t225, .int .i64 t226, .int .i64 t227, .int .i64 t228, .bool t229, .bool t230, .string t231], .int .i64 a1, .int .u32 a2] rfl (by (try simp only [List.map_toArray, List.map_cons, List.map_nil]); first | done | rfl | (simp only [List.length_drop, List.length_take]; rfl)) ?_; (with_reducible refine (patchbayref2_ToldOf.calls kj81 t223 t224 t225 t226 t227 t228 t229 t230 t231 a1 a2 t291 t292 t293 t294 t295 t296 t297 t298 t299 t300 _ A138.out).mono ?_); rintro e w187 ⟨rfl, hb⟩; refine ⟨_, rfl, ?_⟩; have n0_ := Aside0.mk (blk_below (g := gb221) (Fit.pk BK221.out) hb); have n1_ := Aside0.mk (blk_below (g := gb245) (Fit.pk BK245.out) hb); have n2_ := Aside0.mk (blk_below (g := gb257) (Fit.pk BK257.out) hb); have n3_ := Aside0.mk (blk_below (g := gb268) (Fit.pk BK268.out) hb); have n4_ := Aside0.mk (blk_below (g := gb279) (Fit.pk BK279.out) hb); have n5_ := Aside0.mk (blk_below (g := gb290) (Fit.pk BK290.out) hb); have n6_ := Aside0.mk (below_step (Fit.bl HB.out) hb); clear BK221; clear BK245; clear BK257; clear BK268; clear BK279; clear BK290; clear HB; have BK221 := n0_; have BK245 := n1_; have BK257 := n2_; have BK268 := n3_; have BK279 := n4_; have BK290 := n5_; have HB := n6_; clear n0_ n1_ n2_ n3_ n4_ n5_ n6_; (try clear hb); (try clear hb2); (try clear hk); (try clear hi)) | ((with_reducible refine gate_dst (N := 26) rfl ?_); refine box_event ?hg (N := 26) ?hd (cs := #[.int .u32 0, .int .u32 0, .int .i64 0, .int .i64 0, .int .i64 0, .int .i64 0, .bool false, .bool false, .string (⟨#[]⟩ : ByteArray)]) (t := 30) ?hr ?_; (case hd => rfl); (case hg => rfl); (case hr => first | (go_simp; done) | (go_simp; rfl)); intro gb301 hg w188 hbox hb; have n0_ := Aside0.mk (blk_below (g := gb221) (Fit.pk BK221.out) hb); have n1_ := Aside0.mk (blk_below (g := gb245) (Fit.pk BK245.out) hb); have n2_ := Aside0.mk (blk_below (g := gb257) (Fit.pk BK257.out) hb); have n3_ := Aside0.mk (blk_below (g := gb268) (Fit.pk BK268.out) hb); have n4_ := Aside0.mk (blk_below (g := gb279) (Fit.pk BK279.out) hb); have n5_ := Aside0.mk (blk_below (g := gb290) (Fit.pk BK290.out) hb); have n6_ := Aside0.mk (below_step (Fit.bl HB.out) hb); have n7_ := Aside0.mk (hbox); have n8_ := Aside0.mk ((by rw [hg]; exact (below_size (Fit.bl HB.out)) : w.heap.size ≤ gb301)); have n9_ := Aside0.mk ((by rw [hg]; exact (below_size (Fit.bl HB.out)) : w.heap.size ≤ gb301)); have n10_ := Aside0.mk ((by rw [hg]; exact Nat.ne_of_lt (blk_lt (g := gb221) (Fit.pk BK221.out)) : gb221 ≠ gb301)); have n11_ := Aside0.mk ((by rw [hg]; exact Nat.ne_of_gt (blk_lt (g := gb221) (Fit.pk BK221.out)) : gb301 ≠ gb221)); have n12_ := Aside0.mk ((by rw [hg]; exact Nat.ne_of_lt (blk_lt (g := gb245) (Fit.pk BK245.out)) : gb245 ≠ gb301)); have n13_ := Aside0.mk ((by rw [hg]; exact Nat.ne_of_gt (blk_lt (g := gb245) (Fit.pk BK245.out)) : gb301 ≠ gb245)); have n14_ := Aside0.mk ((by rw [hg]; exact Nat.ne_of_lt (blk_lt (g := gb257) (Fit.pk BK257.out)) : gb257 ≠ gb301)); have n15_ := Aside0.mk ((by rw [hg]; exact Nat.ne_of_gt (blk_lt (g := gb257) (Fit.pk BK257.out)) : gb301 ≠ gb257)); have n16_ := Aside0.mk ((by rw [hg]; exact Nat.ne_of_lt (blk_lt (g := gb268) (Fit.pk BK268.out)) : gb268 ≠ gb301)); have n17_ := Aside0.mk ((by rw [hg]; exact Nat.ne_of_gt (blk_lt (g := gb268) (Fit.pk BK268.out)) : gb301 ≠ gb268)); have n18_ := Aside0.mk ((by rw [hg]; exact Nat.ne_of_lt (blk_lt (g := gb279) (Fit.pk BK279.out)) : gb279 ≠ gb301)); have n19_ := Aside0.mk ((by rw [hg]; exact Nat.ne_of_gt (blk_lt (g := gb279) (Fit.pk BK279.out)) : gb301 ≠ gb279)); have n20_ := Aside0.mk ((by rw [hg]; exact Nat.ne_of_lt (blk_lt (g := gb290) (Fit.pk BK290.out)) : gb290 ≠ gb301)); have n21_ := Aside0.mk ((by rw [hg]; exact Nat.ne_of_gt (blk_lt (g := gb290) (Fit.pk BK290.out)) : gb301 ≠ gb290)); clear BK221; clear BK245; clear BK257; clear BK268; clear BK279; clear BK290; clear HB; have BK221 := n0_; have BK245 := n1_; have BK257 := n2_; have BK268 := n3_; have BK279 := n4_; have BK290 := n5_; have HB := n6_; have BK301 := n7_; have GW301 := n8_; have GE301 := n9_; have NB221_301 := n10_; have NB301_221 := n11_; have NB245_301 := n12_; have NB301_245 := n13_; have NB257_301 := n14_; have NB301_257 := n15_; have NB268_301 := n16_; have NB301_268 := n17_; have NB279_301 := n18_; have NB301_279 := n19_; have NB290_301 := n20_; have NB301_290 := n21_; clear n0_ n1_ n2_ n3_ n4_ n5_ n6_ n7_ n8_ n9_ n10_ n11_ n12_ n13_ n14_ n15_ n16_ n17_ n18_ n19_ n20_ n21_; clear hb hbox hg; have hnb189 := NB301_221.out; have hnc189 := NB221_301.out; have hnb190 := NB301_245.out; have hnc190 := NB245_301.out; have hnb191 := NB301_257.out; have hnc191 := NB257_301.out; have hnb192 := NB301_268.out; have hnc192 := NB268_301.out; have hnb193 := NB301_279.out; have hnc193 := NB279_301.out; have hnb194 := NB301_290.out; have hnc194 := NB290_301.out; obtain ⟨hcz195_0, hcz195_1, hcz195_2, hcz195_3, hcz195_4, hcz195_5, hcz195_6, hcz195_7, hcz195_8, hfz195_0⟩ := Fit.cells9 BK301.out))
            go_ret
            exact ⟨by first | rfl | (simp [errW_none, errW_some] <;> rfl) | (simp [*, errW_none, errW_some] <;> rfl), Fit.bl HB.out⟩
     ·rw [if_neg c80] at H
      have c80b0 : (t233 == 0) = false := beq_eq_false_iff_ne.mpr c80
      have c80b1 : (t233 != 0) = true := bne_iff_ne.mpr c80
      by_cases c196 : t244 = t233
      ·rw [if_pos c196] at H
       have c196b0 : (t244 == t233) = true := beq_iff_eq.mpr c196
       have c196b1 : (t244 != t233) = false := bne_eq_false_iff_eq.mpr c196
       clear c196
       by_cases c197 : t243 = true
       ·subst c197
        have H1 : (some false) = some r := by rw [if_pos rfl] at H; exact H
        clear H
        have H := H1
        clear H1
        obtain rfl := Option.some.inj H
        go_wp2
        go_ret
        exact ⟨by first | rfl | (simp [errW_none, errW_some] <;> rfl) | (simp [*, errW_none, errW_some] <;> rfl), Fit.bl HB.out⟩
       ·replace c197 := Bool.eq_false_iff.mpr c197
        subst c197
        have H1 : (if t255 = true then (some false) else (if (t234 == 0 && (t235 == 0 && (t236 == 0 && (t237 == 0 && (t238 == 0 && (t239 == 0 && (!t240 && (!t241 && (t242.toList == ([] : List UInt8)))))))))) = true then (some (t246 == 0 && (t247 == 0 && (t248 == 0 && (t249 == 0 && (t250 == 0 && (t251 == 0 && (!t252 && (!t253 && (t254.toList == ([] : List UInt8))))))))))) else (some false))) = some r := by rw [if_neg (show ¬ (false = true) by decide)] at H; exact H
        clear H
        have H := H1
        clear H1
        by_cases c198 : t255 = true
        ·subst c198
         have H1 : (some false) = some r := by rw [if_pos rfl] at H; exact H
         clear H
         have H := H1
         clear H1
         obtain rfl := Option.some.inj H
         go_wp2
         go_ret
         exact ⟨by first | rfl | (simp [errW_none, errW_some] <;> rfl) | (simp [*, errW_none, errW_some] <;> rfl), Fit.bl HB.out⟩
        ·replace c198 := Bool.eq_false_iff.mpr c198
         subst c198
         have H1 : (if (t234 == 0 && (t235 == 0 && (t236 == 0 && (t237 == 0 && (t238 == 0 && (t239 == 0 && (!t240 && (!t241 && (t242.toList == ([] : List UInt8)))))))))) = true then (some (t246 == 0 && (t247 == 0 && (t248 == 0 && (t249 == 0 && (t250 == 0 && (t251 == 0 && (!t252 && (!t253 && (t254.toList == ([] : List UInt8))))))))))) else (some false)) = some r := by rw [if_neg (show ¬ (false = true) by decide)] at H; exact H
         clear H
         have H := H1
         clear H1
         by_cases c199 : (t234 == 0 && (t235 == 0 && (t236 == 0 && (t237 == 0 && (t238 == 0 && (t239 == 0 && (!t240 && (!t241 && (t242.toList == ([] : List UInt8)))))))))) = true
         ·rw [if_pos c199] at H
          have c199b0 : (t234 == 0 && (t235 == 0 && (t236 == 0 && (t237 == 0 && (t238 == 0 && (t239 == 0 && (!t240 && (!t241 && (t242.toList == ([] : List UInt8)))))))))) = true := c199
          (try (have c199b1 : decide (t234 = 0 && (t235 == 0 && (t236 == 0 && (t237 == 0 && (t238 == 0 && (t239 == 0 && (!t240 && (!t241 && (t242.toList == ([] : List UInt8)))))))))) = true := by simpa using c199))
          (try (have c199b2 : (t234 == 0 && (t235 == 0 && (t236 == 0 && (t237 == 0 && (t238 == 0 && (t239 == 0 && (!t240 && (!t241 && (t242.toList == ([] : List UInt8)))))))))) = true := by simpa using c199))
          (try (have c199e := c199b0; simp only [Fit.beq_nil_eq] at c199e))
          clear c199
          obtain rfl := Option.some.inj H
          have hnb200 := NB245_221.out
          have hnc200 := NB221_245.out
          have hnb201 := NB245_257.out
          have hnc201 := NB257_245.out
          have hnb202 := NB245_268.out
          have hnc202 := NB268_245.out
          have hnb203 := NB245_279.out
          have hnc203 := NB279_245.out
          obtain ⟨hcz204_0, hcz204_1, hcz204_2, hcz204_3, hcz204_4, hcz204_5, hcz204_6, hcz204_7, hcz204_8, hfz204_0⟩ := Fit.cells9 BK245.out
          have hnb205 := NB257_221.out
          have hnc205 := NB221_257.out
          have hnb206 := NB257_268.out
          have hnc206 := NB268_257.out
          have hnb207 := NB257_279.out
          have hnc207 := NB279_257.out
          obtain ⟨hcz208_0, hcz208_1, hcz208_2, hcz208_3, hcz208_4, hcz208_5, hcz208_6, hcz208_7, hcz208_8, hfz208_0⟩ := Fit.cells9 BK257.out
          go_wp2
          go_ret
          exact ⟨by first | rfl | (simp [errW_none, errW_some] <;> rfl) | (simp [*, errW_none, errW_some] <;> rfl), Fit.bl HB.out⟩
         ·rw [if_neg c199] at H
          have c199b0 : (t234 == 0 && (t235 == 0 && (t236 == 0 && (t237 == 0 && (t238 == 0 && (t239 == 0 && (!t240 && (!t241 && (t242.toList == ([] : List UInt8)))))))))) = false := by simpa using c199
          (try (have c199b1 : decide (t234 = 0 && (t235 == 0 && (t236 == 0 && (t237 == 0 && (t238 == 0 && (t239 == 0 && (!t240 && (!t241 && (t242.toList == ([] : List UInt8)))))))))) = false := by simpa using c199))
          (try (have c199b2 : (t234 == 0 && (t235 == 0 && (t236 == 0 && (t237 == 0 && (t238 == 0 && (t239 == 0 && (!t240 && (!t241 && (t242.toList == ([] : List UInt8)))))))))) = false := by simpa using c199))
          (try (have c199b3 : ¬ (t234 = 0 && (t235 == 0 && (t236 == 0 && (t237 == 0 && (t238 == 0 && (t239 == 0 && (!t240 && (!t241 && (t242.toList == ([] : List UInt8)))))))))) := by simpa using c199))
          (try (have c199e := c199b0; simp only [Fit.beq_nil_eq] at c199e))
          clear c199
          obtain rfl := Option.some.inj H
          have hnb209 := NB245_221.out
          have hnc209 := NB221_245.out
          have hnb210 := NB245_257.out
          have hnc210 := NB257_245.out
          have hnb211 := NB245_268.out
          have hnc211 := NB268_245.out
          have hnb212 := NB245_279.out
          have hnc212 := NB279_245.out
          obtain ⟨hcz213_0, hcz213_1, hcz213_2, hcz213_3, hcz213_4, hcz213_5, hcz213_6, hcz213_7, hcz213_8, hfz213_0⟩ := Fit.cells9 BK245.out
          go_wp2
          go_ret
          exact ⟨by first | rfl | (simp [errW_none, errW_some] <;> rfl) | (simp [*, errW_none, errW_some] <;> rfl), Fit.bl HB.out⟩
      ·rw [if_neg c196] at H
       have c196b0 : (t244 == t233) = false := beq_eq_false_iff_ne.mpr c196
       have c196b1 : (t244 != t233) = true := bne_iff_ne.mpr c196
       obtain rfl := Option.some.inj H
       go_wp2
       go_ret
       exact ⟨by first | rfl | (simp [errW_none, errW_some] <;> rfl) | (simp [*, errW_none, errW_some] <;> rfl), Fit.bl HB.out⟩
 ·replace c8 := Bool.eq_false_iff.mpr c8
  subst c8
  have H1 : (some false) = some r := by rw [if_neg (show ¬ (false = true) by decide)] at H; exact H
  clear H
  have H := H1
  clear H1
  obtain rfl := Option.some.inj H
  go_enter Try.func6, Try.ntmps6
  go_wp2_with (first | ((with_reducible refine gate_dst (N := 6) rfl ?_); refine box_event ?hg (N := 6) ?hd (cs := #[.int .u32 a0_0, .int .u32 a0_1, .int .i64 a0_2, .int .i64 a0_3, .int .i64 a0_4, .int .i64 a0_5, .bool a0_6, .bool a0_7, .string a0_8]) (t := 30) ?hr ?_; (case hd => rfl); (case hg => rfl); (case hr => first | (go_simp; done) | (go_simp; rfl)); intro gb221 hg w214 hbox hb; have n0_ := Aside0.mk (below_step (Fit.bl HB.out) hb); have n1_ := Aside0.mk (hbox); have n2_ := Aside0.mk ((by rw [hg]; exact (below_size (Fit.bl HB.out)) : w.heap.size ≤ gb221)); have n3_ := Aside0.mk ((by rw [hg]; exact (below_size (Fit.bl HB.out)) : w.heap.size ≤ gb221)); clear HB; have HB := n0_; have BK221 := n1_; have GW221 := n2_; have GE221 := n3_; clear n0_ n1_ n2_ n3_; clear hb hbox hg) | ((with_reducible refine gate_callee (f := 28) rfl ?_); refine goesL_ (some 28) rfl rfl Try.func28 (by kernel_rfl) rfl #[] rfl (by (try simp only [List.map_toArray, List.map_cons, List.map_nil]); first | done | rfl | (simp only [List.length_drop, List.length_take]; rfl)) ?_; (with_reducible refine (patchbaylaw2_faultLives.calls k  false _ A7.out).mono ?_); rintro e w215 ⟨rfl, hb⟩; refine ⟨_, rfl, ?_⟩; have n0_ := Aside0.mk (blk_below (g := gb221) (Fit.pk BK221.out) hb); have n1_ := Aside0.mk (below_step (Fit.bl HB.out) hb); clear BK221; clear HB; have BK221 := n0_; have HB := n1_; clear n0_ n1_; (try clear hb); (try clear hb2); (try clear hk); (try clear hi)))
  go_ret
  exact ⟨by first | rfl | (simp [errW_none, errW_some] <;> rfl) | (simp [*, errW_none, errW_some] <;> rfl), Fit.bl HB.out⟩

end Go.Proofs.Ythpohaafphaidaa.GFaultTells
