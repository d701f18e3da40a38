/- Newer as a function of numbers and lists, and its contract. -/
import Derived.Test.YtbdcaadehfbnbaaQNr
import Derived.Test.YtbdcaadehfbnbaaGAdvEncodesx1
import Derived.Test.YtbdcaadehfbnbaaGAdvEncodesx5
namespace Go.Proofs.Ytbdcaadehfbnbaa.GAdvEncodes
open Go.RowKit Go.Proofs.YtbdcaadehfbnbaaW.PrintWords Go.Proofs.YtbdcaadehfbnbaaW.PrintLast Go.Proofs.YtbdcaadehfbnbaaW.PrintMore
set_option linter.unusedVariables false
def adv_Newer.f (k : Nat) (a0 a1 a2 : Int) (l : List S28) (b0 b1 b2 : Int) (m : List S28) : Option (Int × Int) :=
  (adv_Check.f k a0 a1 a2 l).bind fun e1 => ((adv_Check.f k b0 b1 b2 m).bind fun e2 => ((adv_newer.f k a0 a1 a2 l b0 b1 b2 m).bind fun n => (some ((if e1 = 0 ∧ e2 = 0 ∧ a0 = b0 then n else 0), (if e1 ≠ 0 then e1 else if e2 ≠ 0 then e2 else if a0 = b0 then 0 else 1)))))
theorem adv_Newer.mono : ∀ a0 a1 a2 a3 a4 a5 a6 a7 k, LeO (adv_Newer.f k a0 a1 a2 a3 a4 a5 a6 a7) (adv_Newer.f (k + 1) a0 a1 a2 a3 a4 a5 a6 a7) := by
  intro a0 a1 a2 a3 a4 a5 a6 a7 k
  unfold adv_Newer.f
  refine LeO.bind (adv_Check.mono _ _ _ _ _) (fun _ => LeO.bind (adv_Check.mono _ _ _ _ _) (fun _ => LeO.bind (adv_newer.mono _ _ _ _ _ _ _ _ _) (fun _ => LeO.refl _)))
theorem adv_Newer.calls (k : Nat) (a0_0 : Int) (a0_1 : Int) (a0_2 : Int) (A0_3 : Option Addr) (c0_3 : Nat) (l0_3 : List (S28)) (a1_0 : Int) (a1_1 : Int) (a1_2 : Int) (A1_3 : Option Addr) (c1_3 : Nat) (l1_3 : List (S28)) (r1 : Int) (r2 : Int) (w : World) (hr0_3 : Kd.C k28 w A0_3 l0_3.length l0_3) (hc0_3 : l0_3.length ≤ c0_3) (hr1_3 : Kd.C k28 w A1_3 l1_3.length l1_3) (hc1_3 : l1_3.length ≤ c1_3) (h : adv_Newer.f k a0_0 a0_1 a0_2 l0_3 a1_0 a1_1 a1_2 l1_3 = some (r1, r2)) :
    Calls Try.prog 12 #[.agg #[.int .i64 a0_0, .int .i64 a0_1, .int .i64 a0_2, .slice A0_3 l0_3.length c0_3], .agg #[.int .i64 a1_0, .int .i64 a1_1, .int .i64 a1_2, .slice A1_3 l1_3.length c1_3]] w fun e w' => e = .returned (.tuple #[.int .i64 r1, .int .i64 r2]) ∧ Below w.heap.size w w' := by
  unfold adv_Newer.f at h
  obtain ⟨e1, h1, h⟩ := Option.bind_eq_some_iff.mp h
  obtain ⟨e2, h2, h⟩ := Option.bind_eq_some_iff.mp h
  obtain ⟨n, h3, h⟩ := Option.bind_eq_some_iff.mp h
  have h4 := Option.some.inj h
  have g1 := congrArg Prod.fst h4
  have g2 := congrArg Prod.snd h4
  have := Nr.Newer_calls k a0_0 a0_1 a0_2 a1_0 a1_1 a1_2 A0_3 A1_3 c0_3 c1_3 l0_3 l1_3 e1 e2 n w hr0_3 hc0_3 hr1_3 hc1_3 h1 h2
    (fun w' ha hb => adv_newer.calls k a0_0 a0_1 a0_2 A0_3 c0_3 l0_3 a1_0 a1_1 a1_2 A1_3 c1_3 l1_3 n w' ha hc0_3 hb hc1_3 h3)
  refine this.mono fun e w' h5 => ⟨?_, h5.2⟩
  rw [h5.1, ← show _ = r1 from g1, ← show _ = r2 from g2]
end Go.Proofs.Ytbdcaadehfbnbaa.GAdvEncodes
