/- The law on numbers: AddrHolds comes to true. -/
import Derived.Test.YtbdcaadehfbnbaaDoorQPxAddrHolds
import Derived.Test.YtbdcaadehfbnbaaDoorGAddrHoldsx3
namespace Go.Proofs.YtbdcaadehfbnbaaDoor.Ah
open Go.RowKit Go.Proofs.YtbdcaadehfbnbaaDoorW.PrintWords Go.Proofs.YtbdcaadehfbnbaaDoorW.PrintLast Go.Proofs.YtbdcaadehfbnbaaDoor.Pl Go.Proofs.YtbdcaadehfbnbaaDoor.Bm Go.Proofs.YtbdcaadehfbnbaaDoor.GAddrHolds Go.Proofs.YtbdcaadehfbnbaaDoor.PxAddrHolds
set_option linter.unusedVariables false
theorem lives_ev : Ev (fun k => patchbaylaw2_addrLives.f k) true :=
  Ev.of (fun k => patchbaylaw2_addrLives.mono k) (k := 10) (by kernel_rfl)
def cmp_ (x y : Int) : Int := if x < y then -1 else if x > y then 1 else 0
def lt (a n b m : Int) : Prop := a < b ∨ a = b ∧ n < m
instance (a n b m : Int) : Decidable (lt a n b m) := by unfold lt; exact inferInstance
theorem Less_eq (a n b m : Int) : patchbayref2_Less.f a n b m = some (decide (lt a n b m)) := by
  unfold patchbayref2_Less.f
  by_cases h : a < b
  · rw [if_pos h, decide_eq_true (show lt a n b m from Or.inl h)]
  · rw [if_neg h]
    by_cases g : a = b
    · rw [if_pos g]
      by_cases q : n < m
      · rw [decide_eq_true q, decide_eq_true (show lt a n b m from Or.inr ⟨g, q⟩)]
      · rw [decide_eq_false q, decide_eq_false (show ¬ lt a n b m by unfold lt; omega)]
    · rw [if_neg g, decide_eq_false (show ¬ lt a n b m by unfold lt; omega)]
theorem drop_rd (l : List Int) (i : Nat) (h : i < l.length) : l.drop i = rd l (i : Int) :: l.drop (i + 1) := by
  rw [List.drop_eq_getElem_cons h]
  congr 1
  show l[i] = l.getD (i : Int).toNat 0
  rw [Int.toNat_natCast, List.getD_eq_getElem?_getD, List.getElem?_eq_getElem h]; rfl
theorem or_l0 (l : List Int) (hl : l.length ≤ 1000) (d : Nat) : ∀ i : Nat, i + d = l.length →
    Ev (fun k => cmp_Or_int.l0 k 0 l (l.length : Int) (i : Int)) (((l.drop i).find? fun x => decide (x ≠ 0)).getD 0) := by
  induction d with
  | zero =>
    intro i hi
    refine Ev.step (fun k => rfl) (Ev.neg (by omega) (Ev.val ?_))
    rw [List.drop_of_length_le (by omega)]; rfl
  | succ d ih =>
    intro i hi
    have ih1 := ih (i + 1) (by omega)
    refine Ev.step (fun k => rfl) (Ev.pos (by omega) (Ev.pos (by omega) (Ev.pos (by omega) ?_)))
    have e2 : wrap64 ((i : Int) + 1) = ((i + 1 : Nat) : Int) := by rw [w64 (by omega) (by omega)]; omega
    rw [drop_rd l i (by omega), e2]
    generalize rd l (i : Int) = x
    by_cases h : x = 0
    · refine Ev.pos h (Ev.eq ?_ ih1)
      rw [List.find?_cons_of_neg (by simp [h])]
    · refine Ev.neg h (Ev.eq ?_ (Ev.now _))
      rw [List.find?_cons_of_pos (by simp [h])]; rfl
def or2 (x y : Int) : Int := if x ≠ 0 then x else y
theorem Or2_ev (x y : Int) : Ev (fun k => cmp_Or_int.f k [x, y]) (or2 x y) := by
  have := or_l0 [x, y] (by simp) 2 0 rfl
  refine Ev.congr (fun k => rfl) (Ev.eq ?_ this)
  unfold or2
  by_cases hx : x = 0 <;> by_cases hy : y = 0 <;> simp [List.find?, hx, hy]
theorem Cmp_eq (x y : Int) : cmp_Compare_int.f x y = some (cmp_ x y) := by
  have h1 : (x != x) = false := by simp
  have h2 : (y != y) = false := by simp
  unfold cmp_Compare_int.f cmp_isNaN_int.f cmp_
  simp only [Option.bind_some, h1, h2, Bool.false_eq_true, if_false]
  repeat' split
  all_goals rfl
theorem Cmp32_eq (x y : Int) : cmp_Compare_uint32.f x y = some (cmp_ x y) := by
  have h1 : (x != x) = false := by simp
  have h2 : (y != y) = false := by simp
  unfold cmp_Compare_uint32.f cmp_isNaN_uint32.f cmp_
  simp only [Option.bind_some, h1, h2, Bool.false_eq_true, if_false]
  repeat' split
  all_goals rfl
def ord (a n b m : Int) : Int := or2 (cmp_ a b) (cmp_ n m)
theorem Compare_ev (a n b m : Int) : Ev (fun k => addr_Compare.f k a n b m) (ord a n b m) := by
  unfold addr_Compare.f
  refine Ev.bind (g := fun _ => cmp_Compare_uint32.f a b) (Ev.congr (fun _ => Cmp32_eq a b) (Ev.now _)) (Ev.bind (g := fun _ => cmp_Compare_int.f n m) (Ev.congr (fun _ => Cmp_eq n m) (Ev.now _)) ?_)
  exact Ev.bind (Or2_ev _ _) (Ev.now _)
def wv (a n b m : Int) : Bool := decide (pf a n = 0 ∧ m ≤ n) && hv b m a
theorem Within_eq (a n b m : Int) (a0 : 0 ≤ a) (a1 : a < 4294967296) (b0 : 0 ≤ b) (b1 : b < 4294967296) : addr_Within.f a n b m = some (wv a n b m) := by
  unfold addr_Within.f wv
  rw [Check_eq a n a0 a1]
  simp only [Option.bind_some]
  by_cases h : pf a n = 0
  · rw [if_pos h]
    by_cases g : m ≤ n
    · rw [if_pos g, Has_eq b m a b0 b1 a0 a1, decide_eq_true ⟨h, g⟩]; rfl
    · rw [if_neg g, decide_eq_false (fun q => g q.2)]; rfl
  · rw [if_neg h, decide_eq_false (fun q => h q.1)]; rfl
theorem Below_ev (a n b m : Int) (a0 : 0 ≤ a) (a1 : a < 4294967296) (b0 : 0 ≤ b) (b1 : b < 4294967296) (h : pf a n = 0) (h' : pf b m = 0) : Ev (fun k => patchbayref2_Below.f k a n b m) (wv a n b m) := by
  unfold patchbayref2_Below.f wv
  by_cases g : n ≥ m
  · refine Ev.pos g (Ev.bind (In_ev b m a b0 b1 a0 a1 h') (Ev.val ?_))
    rw [decide_eq_true ⟨h, g⟩]; rfl
  · refine Ev.neg g (Ev.val ?_)
    rw [decide_eq_false (fun q => g q.2)]; rfl
theorem j2_ev (a n b m x : Int) (c d : Bool) (o : Int) (a0 : 0 ≤ a) (a1 : a < 4294967296) (b0 : 0 ≤ b) (b1 : b < 4294967296) (x0 : 0 ≤ x) (x1 : x < 4294967296)
    (hc : c = (pf a n == 0)) (hd : d = ((pf a n == 0) && (pf b m == 0))) (ho : o = ord a n b m) : Ev (fun k => patchbaylaw2_AddrHolds.j2 k x c d o a n b m) true := by
  have hW : Ev (fun _ => addr_Within.f a n b m) (wv a n b m) := Ev.congr (fun _ => Within_eq a n b m a0 a1 b0 b1) (Ev.now _)
  have hC : Ev (fun k => (addr_Compare.f k a n b m).bind fun t => some (t == o)) true := Ev.bind (Compare_ev a n b m) (Ev.val (by rw [ho]; exact beq_self_eq_true _))
  refine Ev.step (fun k => rfl) (Ev.bind (g := fun _ => addr_Has.f a n x) (Ev.congr (fun _ => Has_eq a n x a0 a1 x0 x1) (Ev.now _)) ?_)
  by_cases h : pf a n = 0
  · have hc' : c = true := by rw [hc, h]; rfl
    refine Ev.pos hc' (Ev.bind (In_ev a n x a0 a1 x0 x1 h) (Ev.pos (beq_self_eq_true _) (Ev.bind hW ?_)))
    by_cases g : pf b m = 0
    · have hd' : d = true := by rw [hd, h, g]; rfl
      exact Ev.pos hd' (Ev.bind (Below_ev a n b m a0 a1 b0 b1 h g) (Ev.pos (beq_self_eq_true _) hC))
    · have hd' : ¬ d = true := by rw [hd]; simp [g]
      have e : (wv a n b m == false) = true := by
        unfold wv hv
        rw [decide_eq_false (p := pf b m = 0 ∧ b ≤ a ∧ a < b + (B m : Int)) (fun q => g q.1)]; simp
      exact Ev.neg hd' (Ev.pos e hC)
  · have hc' : ¬ c = true := by rw [hc]; simp [h]
    have hd' : ¬ d = true := by rw [hd]; simp [h]
    have e1 : (hv a n x == false) = true := by unfold hv; rw [decide_eq_false (fun q => h q.1)]; rfl
    have e2 : (wv a n b m == false) = true := by unfold wv; rw [decide_eq_false (fun q => h q.1)]; rfl
    exact Ev.neg hc' (Ev.pos e1 (Ev.bind hW (Ev.neg hd' (Ev.pos e2 hC))))
theorem j0_ev (a n b m x : Int) (c d : Bool) (a0 : 0 ≤ a) (a1 : a < 4294967296) (b0 : 0 ≤ b) (b1 : b < 4294967296) (x0 : 0 ≤ x) (x1 : x < 4294967296)
    (hc : c = (pf a n == 0)) (hd : d = ((pf a n == 0) && (pf b m == 0))) : Ev (fun k => patchbaylaw2_AddrHolds.j0 k x c d a n b m) true := by
  have K := fun o ho => j2_ev a n b m x c d o a0 a1 b0 b1 x0 x1 hc hd ho
  have hL : ∀ p q r s : Int, Ev (fun _ => patchbayref2_Less.f p q r s) (decide (lt p q r s)) := fun p q r s => Ev.congr (fun _ => Less_eq p q r s) (Ev.now _)
  refine Ev.step (fun k => rfl) (Ev.bind (hL a n b m) ?_)
  by_cases h1 : lt a n b m
  · have h2 : ¬ lt b m a n := by unfold lt at *; omega
    have e : -1 = ord a n b m := by unfold ord or2 cmp_; unfold lt at h1; repeat' split
                                    all_goals omega
    refine Ev.pos (decide_eq_true h1) (Ev.step (fun k => rfl) (Ev.bind (hL b m a n) (Ev.neg ?_ (K _ e))))
    rw [decide_eq_false h2]; exact Bool.false_ne_true
  · refine Ev.neg (by rw [decide_eq_false h1]; exact Bool.false_ne_true) (Ev.step (fun k => rfl) (Ev.bind (hL b m a n) ?_))
    by_cases h2 : lt b m a n
    · have e : 1 = ord a n b m := by unfold ord or2 cmp_; unfold lt at h1 h2; repeat' split
                                     all_goals omega
      exact Ev.pos (decide_eq_true h2) (K _ e)
    · have e : 0 = ord a n b m := by unfold ord or2 cmp_; unfold lt at h1 h2; repeat' split
                                     all_goals omega
      refine Ev.neg ?_ (K _ e)
      rw [decide_eq_false h2]; exact Bool.false_ne_true
theorem law_ev (a n b m x : Int) (a0 : 0 ≤ a) (a1 : a < 4294967296) (b0 : 0 ≤ b) (b1 : b < 4294967296) (x0 : 0 ≤ x) (x1 : x < 4294967296) : Ev (fun k => patchbaylaw2_AddrHolds.f k a n b m x) true := by
  have K := fun d hd => j0_ev a n b m x (pf a n == 0) d a0 a1 b0 b1 x0 x1 rfl hd
  unfold patchbaylaw2_AddrHolds.f
  refine Ev.bind lives_ev (Ev.pos rfl (Ev.bind (Fault_ev a n a0 a1) ?_))
  by_cases h : pf a n = 0
  · exact Ev.pos h (Ev.bind (Fault_ev b m b0 b1) (K _ (by rw [h]; rfl)))
  · exact Ev.neg h (K _ (by rw [beq_eq_false_iff_ne.2 h]; rfl))
theorem law_calls (a n b m x : Int) (w : World) (a0 : 0 ≤ a) (a1 : a < 4294967296) (b0 : 0 ≤ b) (b1 : b < 4294967296) (x0 : 0 ≤ x) (x1 : x < 4294967296) (hv : Vk.Ok w) :
    Calls Tryd.prog 3 #[.agg #[.int .u32 a, .int .i64 n], .agg #[.int .u32 b, .int .i64 m], .int .u32 x] w fun e w' => e = .returned (.bool true) ∧ Below w.heap.size w w' := by
  obtain ⟨k, hk⟩ := (law_ev a n b m x a0 a1 b0 b1 x0 x1).rounds
  exact patchbaylaw2_AddrHolds.calls k a n b m x true w hv hk
end Go.Proofs.YtbdcaadehfbnbaaDoor.Ah
