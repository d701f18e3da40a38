/- The law on numbers and lists: AdvEncodes comes to true. -/
import Derived.Test.YtbdcaadehfbnbaaQUl
import Derived.Test.YtbdcaadehfbnbaaQNw
import Derived.Test.YtbdcaadehfbnbaaGAdvEncodesx7
namespace Go.Proofs.Ytbdcaadehfbnbaa.La
open Go.RowKit Go.Proofs.YtbdcaadehfbnbaaW.PrintWords Go.Proofs.YtbdcaadehfbnbaaW.PrintLast Go.Proofs.Ytbdcaadehfbnbaa.Pl Go.Proofs.Ytbdcaadehfbnbaa.GAdvEncodes Go.Proofs.Ytbdcaadehfbnbaa.Ul
set_option linter.unusedVariables false
def ef (e1 e2 a0 b0 : Int) : Int := if e1 ≠ 0 then e1 else if e2 ≠ 0 then e2 else if a0 = b0 then 0 else 1
theorem Newer_ev (a0 a1 a2 : Int) (l : List S28) (b0 b1 b2 : Int) (m : List S28) (hl : l.length ≤ 17) (hm : m.length ≤ 17) : Ev (fun k => adv_Newer.f k a0 a1 a2 l b0 b1 b2 m) (if af a0 a1 a2 l = 0 ∧ af b0 b1 b2 m = 0 ∧ a0 = b0 then nw a0 a1 a2 l b0 b1 b2 m else 0, ef (af a0 a1 a2 l) (af b0 b1 b2 m) a0 b0) := by
  unfold adv_Newer.f
  exact Ev.bind (Check_ev a0 a1 a2 l (by omega)) (Ev.bind (Check_ev b0 b1 b2 m (by omega)) (Ev.bind (newer_ev a0 a1 a2 l b0 b1 b2 m (by omega) (by omega)) (Ev.now _)))
theorem j3_ev (a0 a1 a2 : Int) (l : List S28) (b0 b1 b2 : Int) (m : List S28) (hl : l.length ≤ 17) (hm : m.length ≤ 17) : Ev (fun k => patchbaylaw2_AdvEncodes.j3 k (ef (af a0 a1 a2 l) (af b0 b1 b2 m) a0 b0) a0 a1 a2 l b0 b1 b2 m) true := by
  refine Ev.step (fun k => rfl) (Ev.bind (Newer_ev a0 a1 a2 l b0 b1 b2 m hl hm) ?_)
  generalize hf : ef (af a0 a1 a2 l) (af b0 b1 b2 m) a0 b0 = f
  by_cases h : f = 0
  · refine Ev.pos h (Ev.pos h ?_)
    have h1 : af a0 a1 a2 l = 0 := by
      rcases Decidable.em (af a0 a1 a2 l = 0) with g | g
      · exact g
      · unfold ef at hf; rw [if_pos g] at hf; omega
    have h2 : af b0 b1 b2 m = 0 := by
      rcases Decidable.em (af b0 b1 b2 m = 0) with g | g
      · exact g
      · unfold ef at hf; rw [if_neg (by omega), if_pos g] at hf; omega
    have h3 : a0 = b0 := by
      rcases Decidable.em (a0 = b0) with g | g
      · exact g
      · unfold ef at hf; rw [if_neg (by omega), if_neg (by omega), if_neg g] at hf; omega
    refine Ev.bind (AdvNewer_ev a0 a1 a2 l b0 b1 b2 m h1 h2) (Ev.val ?_)
    rw [if_pos ⟨h1, h2, h3⟩]
    exact beq_self_eq_true _
  · refine Ev.neg h (Ev.pos rfl (Ev.val ?_))
    have h4 : ¬ (af a0 a1 a2 l = 0 ∧ af b0 b1 b2 m = 0 ∧ a0 = b0) := by
      rintro ⟨g1, g2, g3⟩
      unfold ef at hf; rw [if_neg (by omega), if_neg (by omega), if_pos g3] at hf; omega
    show ((if af a0 a1 a2 l = 0 ∧ af b0 b1 b2 m = 0 ∧ a0 = b0 then nw a0 a1 a2 l b0 b1 b2 m else 0) == (0 : Int)) = true
    rw [if_neg h4]; rfl
theorem j0_ev (a0 a1 a2 : Int) (l : List S28) (b0 b1 b2 : Int) (m : List S28) (hl : l.length ≤ 17) (hm : m.length ≤ 17) : Ev (fun k => patchbaylaw2_AdvEncodes.j0 k (af a0 a1 a2 l) false a0 a1 a2 l b0 b1 b2 m) true := by
  have h3 := j3_ev a0 a1 a2 l b0 b1 b2 m hl hm
  have key : ∀ x : Int, x = af a0 a1 a2 l → ∀ c : Bool, c = false → Ev (fun k => patchbaylaw2_AdvEncodes.j0 k x c a0 a1 a2 l b0 b1 b2 m) true := by
    intro x hx c hc
    refine Ev.step (fun k => rfl) (Ev.neg (by rw [hc]; exact Bool.false_ne_true) ?_)
    by_cases h1 : x = 0
    · refine Ev.pos h1 (Ev.bind (Fault_ev b0 b1 b2 m (by omega)) ?_)
      generalize hy : af b0 b1 b2 m = y at *
      refine Ev.step (fun k => rfl) ?_
      by_cases h2 : y = 0
      · refine Ev.pos h2 ?_
        have key2 : ∀ d : Bool, d = (a0 != b0) → Ev (fun k => patchbaylaw2_AdvEncodes.j2 k y d a0 a1 a2 l b0 b1 b2 m) true := by
          intro d hd
          refine Ev.step (fun k => rfl) ?_
          by_cases h4 : d = true
          · refine Ev.pos h4 ?_
            have : ef (af a0 a1 a2 l) y a0 b0 = 1 := by
              have h5 : a0 ≠ b0 := by rw [hd] at h4; exact bne_iff_ne.1 h4
              unfold ef; rw [if_neg (by omega), if_neg (by omega), if_neg h5]
            rw [this] at h3; exact h3
          · refine Ev.neg h4 ?_
            have : ef (af a0 a1 a2 l) y a0 b0 = y := by
              have h5 : a0 = b0 := by
                rcases Decidable.em (a0 = b0) with g | g
                · exact g
                · exact absurd (by rw [hd]; exact bne_iff_ne.2 g) h4
              unfold ef; rw [if_neg (by omega), if_neg (by omega), if_pos h5, h2]
            rw [this] at h3; exact h3
        exact key2 _ rfl
      · refine Ev.neg h2 ?_
        have key2 : ∀ d : Bool, d = false → Ev (fun k => patchbaylaw2_AdvEncodes.j2 k y d a0 a1 a2 l b0 b1 b2 m) true := by
          intro d hd
          refine Ev.step (fun k => rfl) (Ev.neg (by rw [hd]; exact Bool.false_ne_true) ?_)
          have : ef (af a0 a1 a2 l) y a0 b0 = y := by unfold ef; rw [if_neg (by omega), if_pos h2]
          rw [this] at h3; exact h3
        exact key2 _ rfl
    · refine Ev.neg h1 (Ev.step (fun k => rfl) (Ev.neg h1 ?_))
      have key2 : ∀ d : Bool, d = false → Ev (fun k => patchbaylaw2_AdvEncodes.j2 k x d a0 a1 a2 l b0 b1 b2 m) true := by
        intro d hd
        refine Ev.step (fun k => rfl) (Ev.neg (by rw [hd]; exact Bool.false_ne_true) ?_)
        have : ef (af a0 a1 a2 l) (af b0 b1 b2 m) a0 b0 = x := by unfold ef; rw [if_pos (by omega), hx]
        rw [this] at h3; exact h3
      exact key2 _ rfl
  exact key _ rfl _ rfl
theorem law_ev (a0 a1 a2 : Int) (l : List S28) (b0 b1 b2 : Int) (m : List S28) (hl : l.length ≤ 17) (hm : m.length ≤ 17) : Ev (fun k => patchbaylaw2_AdvEncodes.f k a0 a1 a2 l b0 b1 b2 m) true := by
  have h0 := j0_ev a0 a1 a2 l b0 b1 b2 m hl hm
  unfold patchbaylaw2_AdvEncodes.f
  refine Ev.bind lives_ev (Ev.pos rfl (Ev.bind (Fault_ev a0 a1 a2 l (by omega)) ?_))
  by_cases h : af a0 a1 a2 l = 0
  · obtain ⟨g1, g2, g3⟩ := af_vl h
    refine Ev.bind (Encode_ok a0 a1 a2 l (by omega) h) (Ev.bind (Check_ev a0 a1 a2 l (by omega)) (Ev.pos rfl (Ev.pos h.symm (Ev.pos h ?_))))
    refine Ev.bind (AdvText_ev a0 a1 a2 l (by omega) g3 (by omega) (by omega) (by omega) (by omega) (by omega) (by omega)) ?_
    have : ((tx a0 a1 a2 l).toList != (tx a0 a1 a2 l).toList) = false := bne_self_eq_false _
    show Ev (fun k => patchbaylaw2_AdvEncodes.j0 k (af a0 a1 a2 l) ((tx a0 a1 a2 l).toList != (tx a0 a1 a2 l).toList) a0 a1 a2 l b0 b1 b2 m) true
    rw [this]; exact h0
  · refine Ev.bind (Encode_bad a0 a1 a2 l (by omega) h) (Ev.bind (Check_ev a0 a1 a2 l (by omega)) (Ev.pos rfl (Ev.pos rfl (Ev.neg h (Ev.pos ?_ h0)))))
    rw [ByteArray.toList_eq]
theorem law_calls (a0 a1 a2 : Int) (A : Option Addr) (c : Nat) (L : List S28) (b0 b1 b2 : Int) (B : Option Addr) (d : Nat) (M : List S28) (w : World) (hL : Kd.C k28 w A L.length L) (hc : L.length ≤ c) (hM : Kd.C k28 w B M.length M) (hd : M.length ≤ d) :
    Calls Try.prog 3 #[.agg #[.int .i64 a0, .int .i64 a1, .int .i64 a2, .slice A L.length c], .agg #[.int .i64 b0, .int .i64 b1, .int .i64 b2, .slice B M.length d]] w fun e w' => e = .returned (.bool true) ∧ Below w.heap.size w w' := by
  obtain ⟨k, hk⟩ := (law_ev a0 a1 a2 (L.take 17) b0 b1 b2 (M.take 17) (by rw [List.length_take]; omega) (by rw [List.length_take]; omega)).rounds
  exact patchbaylaw2_AdvEncodes.calls k a0 a1 a2 A c L b0 b1 b2 B d M true w hL hc hM hd hk
end Go.Proofs.Ytbdcaadehfbnbaa.La
