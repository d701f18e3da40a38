/- What the functions of prefixes come to. -/
import Derived.Test.YtbdcaadehfbnbaaDoorQBm
import Derived.Test.YtbdcaadehfbnbaaDoorGPsetMakesx10
namespace Go.Proofs.YtbdcaadehfbnbaaDoor.PxPsetMakes
open Go.RowKit Go.Proofs.YtbdcaadehfbnbaaDoorW.PrintWords Go.Proofs.YtbdcaadehfbnbaaDoorW.PrintLast Go.Proofs.YtbdcaadehfbnbaaDoor.Pl Go.Proofs.YtbdcaadehfbnbaaDoor.Bm Go.Proofs.YtbdcaadehfbnbaaDoor.GPsetMakes
set_option linter.unusedVariables false
theorem Ev.eq {α : Type} {g : Nat → Option α} {r r' : α} (e : r = r') (h : Ev g r') : Ev g r := by rw [e]; exact h
/-- what is wrong with a prefix -/
def pf (a n : Int) : Int := if n < 0 ∨ n > 32 then 10 else if a % (B n : Int) = 0 then 0 else 3
theorem pf_ok {a n : Int} (h : pf a n = 0) : 0 ≤ n ∧ n ≤ 32 ∧ a % (B n : Int) = 0 := by
  unfold pf at h
  by_cases g : n < 0 ∨ n > 32
  · rw [if_pos g] at h; omega
  rw [if_neg g] at h
  by_cases g2 : a % (B n : Int) = 0
  · exact ⟨by omega, by omega, g2⟩
  · rw [if_neg g2] at h; omega
theorem block_l0 (n : Int) (n0 : 0 ≤ n) (n1 : n ≤ 32) (d : Nat) : ∀ i : Nat, (i : Int) + d = 32 - n → Ev (fun k => patchbayref2_Block.l0 k ((2 ^ i : Nat) : Int) (32 - n) (i : Int)) (B n : Int) := by
  induction d with
  | zero =>
    intro i hi
    refine Ev.step (fun k => rfl) (Ev.neg (by omega) (Ev.val ?_))
    unfold B; rw [show (32 - n).toNat = i by omega]
  | succ d ih =>
    intro i hi
    have ih1 := ih (i + 1) (by omega)
    have hp : 2 ^ i ≤ 2 ^ 31 := Nat.pow_le_pow_right (by decide) (by omega)
    have e1 : IntKind.u64.wrap (((2 ^ i : Nat) : Int) * 2) = ((2 ^ (i + 1) : Nat) : Int) := by
      rw [wrap_u64, Nat.pow_succ]; omega
    have e2 : wrap64 ((i : Int) + 1) = ((i + 1 : Nat) : Int) := by rw [w64 (by omega) (by omega)]; omega
    refine Ev.step (fun k => rfl) (Ev.pos (by omega) ?_)
    rw [e1, e2]; exact ih1
theorem Block_ev (n : Int) (n0 : 0 ≤ n) (n1 : n ≤ 32) : Ev (fun k => patchbayref2_Block.f k n) (B n : Int) := by
  have := block_l0 n n0 n1 (32 - n).toNat 0 (by omega)
  refine Ev.congr (f := fun k => patchbayref2_Block.l0 k 1 (32 - n) 0) (fun k => ?_) this
  unfold patchbayref2_Block.f
  rw [w64 (by omega) (by omega)]
theorem Fault_ev (a n : Int) (a0 : 0 ≤ a) (a1 : a < 4294967296) : Ev (fun k => patchbayref2_PrefixFault.f k a n) (pf a n) := by
  have ht : ∀ c : Bool, c = true → Ev (fun k => patchbayref2_PrefixFault.j0 k c a n) 10 := fun c hc => Ev.step (fun k => rfl) (Ev.pos hc (Ev.now _))
  unfold patchbayref2_PrefixFault.f
  by_cases h : n < 0
  · exact Ev.eq (by unfold pf; rw [if_pos (Or.inl h)]) (Ev.pos h (ht _ rfl))
  refine Ev.neg h ?_
  by_cases h2 : n > 32
  · exact Ev.eq (by unfold pf; rw [if_pos (Or.inr h2)]) (ht _ (decide_eq_true h2))
  have hf : ∀ c : Bool, c = false → Ev (fun k => patchbayref2_PrefixFault.j0 k c a n) (pf a n) := by
    intro c hc
    have hb := B_pos n
    have hl := B_le n (by omega)
    refine Ev.step (fun k => rfl) (Ev.neg (by rw [hc]; exact Bool.false_ne_true) (Ev.bind (Block_ev n (by omega) (by omega)) (Ev.neg (by omega) ?_)))
    have e : Int.tmod (IntKind.u64.wrap a) (B n : Int) = a % (B n : Int) := by
      rw [wrap_u64, Int.emod_eq_of_lt a0 (by omega), Int.tmod_eq_emod_of_nonneg a0]
    rw [e]
    by_cases g : a % (B n : Int) = 0
    · exact Ev.eq (by unfold pf; rw [if_neg (by omega), if_pos g]) (Ev.pos g (Ev.now _))
    · exact Ev.eq (by unfold pf; rw [if_neg (by omega), if_neg g]) (Ev.neg g (Ev.now _))
  exact hf _ (decide_eq_false h2)
theorem Mask_ok (n : Int) (n0 : 0 ≤ n) (n1 : n ≤ 32) : addr_Mask.f n = some ((M n : Int), 0) := by
  unfold addr_Mask.f
  rw [if_neg (by omega), if_neg (by omega), w64 (by omega) (by omega), if_pos (by omega), shl_mask n n0 n1]
theorem Mask_bad (n : Int) (h : n < 0 ∨ n > 32) : addr_Mask.f n = some (0, 10) := by
  unfold addr_Mask.f
  by_cases g : n < 0
  · rw [if_pos g]
  · rw [if_neg g, if_pos (by omega)]
theorem Check_eq (a n : Int) (a0 : 0 ≤ a) (a1 : a < 4294967296) : addr_Check.f a n = some (pf a n) := by
  unfold addr_Check.f
  by_cases h : n < 0 ∨ n > 32
  · rw [Mask_bad n h, pf, if_pos h]; rfl
  · rw [Mask_ok n (by omega) (by omega), pf, if_neg h]
    simp only [Option.bind_some, if_true]
    rw [not_mask a n a0 a1 (by omega) (by omega)]
    by_cases g : a % (B n : Int) = 0
    · rw [if_pos g, if_pos g]
    · rw [if_neg g, if_neg g]
end Go.Proofs.YtbdcaadehfbnbaaDoor.PxPsetMakes
