/- What the functions of advertisements come to: checks, bytes, sums, ranks. -/
import Derived.Test.YtbdcaadehfbnbaaQPl
import Derived.Test.YtbdcaadehfbnbaaGAdvEncodesx5
import Derived.Test.YtbdcaadehfbnbaaGAdvEncodesx6
import Derived.Test.YtbdcaadehfbnbaaGAdvEncodesx2
import Derived.Test.YtbdcaadehfbnbaaGAdvEncodesx1
namespace Go.Proofs.Ytbdcaadehfbnbaa.Ul
open Go.RowKit Go.Proofs.YtbdcaadehfbnbaaW.PrintWords Go.Proofs.YtbdcaadehfbnbaaW.PrintLast Go.Proofs.Ytbdcaadehfbnbaa.Pl Go.Proofs.Ytbdcaadehfbnbaa.GAdvEncodes
set_option linter.unusedVariables false
set_option linter.unusedSimpArgs false
theorem strOfNums_append (a b : List Int) : strOfNums (a ++ b) = strOfNums a ++ strOfNums b := by
  apply ByteArray.ext; simp [strOfNums, ByteArray.data_append]
theorem strOfNums_size (a : List Int) : (strOfNums a).size = a.length := by simp [strOfNums, ByteArray.size]
theorem strOfNums_nil : strOfNums [] = (⟨#[]⟩ : ByteArray) := rfl
/-- the digits of n in base 256, c of them -/
def dgl : Nat → Int → List Int
  | 0, _ => []
  | c + 1, n => dgl c (n / 256) ++ [n % 256]
theorem dgl_length (c : Nat) : ∀ n, (dgl c n).length = c := by
  induction c with
  | zero => intro n; rfl
  | succ c ih => intro n; simp [dgl, ih]
/-- the digits as a string -/
def dg (n : Int) (c : Nat) : ByteArray := strOfNums (dgl c n)
theorem dg_size (n : Int) (c : Nat) : (dg n c).size = c := by rw [dg, strOfNums_size, dgl_length]
theorem digits_ev (c : Nat) (hc : c ≤ 1000) (d : Nat) : ∀ (i : Nat) (n : Int) (s : ByteArray), i + d = c → 0 ≤ n → n < 9223372036854775808 → s.size + d ≤ 1000000 →
    Ev (fun k => patchbayref2_Digits.l0 k n s (c : Int) (i : Int)) (dg n d ++ s) := by
  induction d with
  | zero =>
    intro i n s hi h0 h1 hs
    refine Ev.step (fun k => rfl) (Ev.neg (by omega) (Ev.val ?_))
    rw [dg, dgl, strOfNums_nil]; apply ByteArray.ext; simp [ByteArray.data_append]
  | succ d ih =>
    intro i n s hi h0 h1 hs
    refine Ev.step (fun k => rfl) (Ev.pos (by omega) ?_)
    refine Ev.congr (f := fun k => if (strOfNums [Int.tmod n 256 % 256]).size + s.size ≤ 9223372036854775807 then patchbayref2_Digits.l0 k (wrap64 (Int.tdiv n 256)) (strOfNums [Int.tmod n 256 % 256] ++ s) (c : Int) (wrap64 ((i : Int) + 1)) else none) (fun k => rfl) ?_
    refine Ev.pos (by rw [strOfNums_size]; simp; omega) ?_
    have e1 : wrap64 ((i : Int) + 1) = ((i + 1 : Nat) : Int) := by rw [w64 (by omega) (by omega)]; omega
    have e2 : Int.tmod n 256 % 256 = n % 256 := by rw [Int.tmod_eq_emod_of_nonneg h0]; omega
    have e3 : wrap64 (Int.tdiv n 256) = n / 256 := by rw [Int.tdiv_eq_ediv_of_nonneg h0, w64 (by omega) (by omega)]
    rw [e1, e2, e3]
    have := ih (i + 1) (n / 256) (strOfNums [n % 256] ++ s) (by omega) (by omega) (by omega) (by rw [ByteArray.size_append, strOfNums_size]; simp; omega)
    have e4 : dg n (d + 1) ++ s = dg (n / 256) d ++ (strOfNums [n % 256] ++ s) := by
      rw [dg, dgl, strOfNums_append, dg, ByteArray.append_assoc]
    rw [e4]; exact this
theorem Digits_ev (n : Int) (c : Nat) (hc : c ≤ 1000) (h0 : 0 ≤ n) (h1 : n < 9223372036854775808) : Ev (fun k => patchbayref2_Digits.f k n (c : Int)) (dg n c) := by
  have := digits_ev c hc c 0 n (⟨#[]⟩ : ByteArray) (by omega) h0 h1 (by simp [ByteArray.size]; omega)
  have e : dg n c ++ (⟨#[]⟩ : ByteArray) = dg n c := by apply ByteArray.ext; simp [ByteArray.data_append]
  rw [e] at this
  exact Ev.congr (fun k => rfl) this
theorem Ev.eq {α : Type} {g : Nat → Option α} {r r' : α} (e : r = r') (h : Ev g r') : Ev g r := by rw [e]; exact h
/-! ### the check -/
def rok (x : S28) : Bool := decide (0 ≤ x.f0 ∧ x.f0 ≤ 15 ∧ 1 ≤ x.f1 ∧ x.f1 ≤ 65535)
def fok (id : Int) : Int → List S28 → Bool
  | _, [] => true
  | last, x :: l => decide (x.f0 ≠ id ∧ last < x.f0) && fok id x.f0 l
def ff (id last : Int) (l : List S28) : Int := if fok id last l = true then 0 else 3
def lf (id : Int) (l : List S28) : Int := if l.all rok = true then ff id (-1) l else 10
/-- what is wrong with an advertisement -/
def af (a0 a1 a2 : Int) (l : List S28) : Int :=
  if a0 < 0 ∨ a0 > 15 ∨ a1 < 1 ∨ a1 > 1073741824 ∨ a2 < 0 ∨ a2 > 3600 then 10 else if (l.length : Int) > 16 then 2 else lf a0 l
theorem drop_at (l : List S28) (i : Nat) (h : i < l.length) : l.drop i = rd_T28 l (i : Int) :: l.drop (i + 1) := by
  rw [List.drop_eq_getElem_cons h]
  congr 1
  show l[i] = l.getD (i : Int).toNat z28
  rw [Int.toNat_natCast, List.getD_eq_getElem?_getD, List.getElem?_eq_getElem h]; rfl
theorem rd_mem (l : List S28) (i : Nat) (h : i < l.length) : rd_T28 l (i : Int) ∈ l := by
  show l.getD (i : Int).toNat z28 ∈ l
  rw [Int.toNat_natCast, List.getD_eq_getElem?_getD, List.getElem?_eq_getElem h]
  exact List.getElem_mem h
theorem plus1 (i : Nat) (h : i ≤ 1000000) : wrap64 ((i : Int) + 1) = ((i + 1 : Nat) : Int) := by rw [w64 (by omega) (by omega)]; omega
def prv (l : List S28) : Nat → Int
  | 0 => -1
  | i + 1 => (rd_T28 l (i : Int)).f0
theorem check_l1 (l : List S28) (a0 a1 a2 : Int) (hl : l.length ≤ 1000) (hz : ∀ x ∈ l, rok x = true) (d : Nat) : ∀ i : Nat, i + d = l.length →
    Ev (fun k => adv_Check.l1 k l (l.length : Int) (i : Int) a0 a1 a2 l) (ff a0 (prv l i) (l.drop i)) := by
  induction d with
  | zero =>
    intro i hi
    refine Ev.step (fun k => rfl) (Ev.neg (by omega) (Ev.val ?_))
    rw [List.drop_of_length_le (by omega)]; rfl
  | succ d ih =>
    intro i hi
    have ih1 := ih (i + 1) (by omega)
    refine Ev.step (fun k => rfl) (Ev.pos (by omega) (Ev.pos (by omega) (Ev.pos (by omega) ?_)))
    rw [drop_at l i (by omega)]
    have hm := hz _ (rd_mem l i (by omega))
    have hp : prv l (i + 1) = (rd_T28 l (i : Int)).f0 := rfl
    rw [hp] at ih1
    generalize hx : rd_T28 l (i : Int) = x at *
    by_cases h1 : x.f0 = a0
    · refine Ev.pos h1 (Ev.val ?_)
      unfold ff fok; rw [if_neg (by simp [h1])]
    · refine Ev.neg h1 ?_
      cases i with
      | zero =>
        refine Ev.neg (by omega) ?_
        rw [plus1 0 (by omega)]
        have : ff a0 (prv l 0) (x :: l.drop (0 + 1)) = ff a0 x.f0 (l.drop (0 + 1)) := by
          have h2 : (-1 : Int) < x.f0 := by unfold rok at hm; have := of_decide_eq_true hm; omega
          unfold ff; rw [fok]; simp [prv, h1, h2]
        rw [this]; exact ih1
      | succ i =>
        have e1 : wrap64 (((i + 1 : Nat) : Int) - 1) = (i : Int) := by rw [w64 (by omega) (by omega)]; omega
        rw [e1, plus1 (i + 1) (by omega)]
        refine Ev.pos (by omega) (Ev.pos (by omega) (Ev.pos (by omega) ?_))
        by_cases h2 : x.f0 ≤ (rd_T28 l (i : Int)).f0
        · refine Ev.pos h2 (Ev.val ?_)
          unfold ff; rw [fok, if_neg]
          intro h3
          rw [Bool.and_eq_true] at h3
          have h4 := of_decide_eq_true h3.1
          have h5 : (rd_T28 l (i : Int)).f0 < x.f0 := h4.2
          omega
        · refine Ev.neg h2 ?_
          have : ff a0 (prv l (i + 1)) (x :: l.drop (i + 1 + 1)) = ff a0 x.f0 (l.drop (i + 1 + 1)) := by
            have h3 : (rd_T28 l (i : Int)).f0 < x.f0 := by omega
            unfold ff; rw [fok]; simp [prv, h1, h3]
          rw [this]; exact ih1
theorem fault_l1 (l : List S28) (a0 a1 a2 : Int) (hl : l.length ≤ 1000) (d : Nat) : ∀ (i : Nat) (last : Int), i + d = l.length →
    Ev (fun k => patchbayref2_AdvFault.l1 k last l (l.length : Int) (i : Int) a0 a1 a2 l) (ff a0 last (l.drop i)) := by
  induction d with
  | zero =>
    intro i last hi
    refine Ev.step (fun k => rfl) (Ev.neg (by omega) (Ev.val ?_))
    rw [List.drop_of_length_le (by omega)]; rfl
  | succ d ih =>
    intro i last hi
    have ih1 := ih (i + 1) (rd_T28 l (i : Int)).f0 (by omega)
    refine Ev.step (fun k => rfl) (Ev.pos (by omega) (Ev.pos (by omega) (Ev.pos (by omega) ?_)))
    rw [drop_at l i (by omega)]
    generalize hx : rd_T28 l (i : Int) = x at *
    by_cases h1 : x.f0 = a0
    · refine Ev.pos h1 (Ev.val ?_)
      unfold ff fok; rw [if_neg (by simp [h1])]
    · refine Ev.neg h1 ?_
      by_cases h2 : x.f0 ≤ last
      · refine Ev.pos h2 (Ev.val ?_)
        unfold ff; rw [fok, if_neg]
        simp only [Bool.and_eq_true, decide_eq_true_eq, not_and]; omega
      · refine Ev.neg h2 ?_
        rw [plus1 i (by omega)]
        have : ff a0 last (x :: l.drop (i + 1)) = ff a0 x.f0 (l.drop (i + 1)) := by
          have h3 : last < x.f0 := by omega
          unfold ff; rw [fok]; simp [h1, h3]
        rw [this]; exact ih1
theorem all_of_drop {l : List S28} {i : Nat} (h : (l.take i).all rok = true) (k : (l.drop i).all rok = true) : l.all rok = true := by
  rw [← List.take_append_drop i l, List.all_append, h, k]; rfl
theorem take_all {l : List S28} {i : Nat} (hi : i < l.length) (h : (l.take i).all rok = true) (k : rok (rd_T28 l (i : Int)) = true) : (l.take (i + 1)).all rok = true := by
  have e : l.take (i + 1) = l.take i ++ [rd_T28 l (i : Int)] := by
    rw [List.take_succ_eq_append_getElem hi]
    congr 2
    show l[i] = l.getD (i : Int).toNat z28
    rw [Int.toNat_natCast, List.getD_eq_getElem?_getD, List.getElem?_eq_getElem hi]; rfl
  rw [e, List.all_append, h]; simp [k]
theorem not_all {l : List S28} {i : Nat} (hi : i < l.length) (k : rok (rd_T28 l (i : Int)) = false) (id : Int) : lf id l = 10 := by
  have : ¬ l.all rok = true := by
    intro h
    have := List.all_eq_true.1 h _ (rd_mem l i hi)
    rw [k] at this; cases this
  unfold lf; rw [if_neg this]
theorem check_l0 (l : List S28) (a0 a1 a2 : Int) (hl : l.length ≤ 1000) (d : Nat) : ∀ i : Nat, i + d = l.length → (l.take i).all rok = true →
    Ev (fun k => adv_Check.l0 k l (l.length : Int) (i : Int) a0 a1 a2 l) (lf a0 l) := by
  induction d with
  | zero =>
    intro i hi ha
    refine Ev.step (fun k => rfl) (Ev.neg (by omega) ?_)
    rw [List.take_of_length_le (by omega)] at ha
    have := check_l1 l a0 a1 a2 hl (List.all_eq_true.1 ha) l.length 0 (by omega)
    unfold lf; rw [if_pos ha]; exact this
  | succ d ih =>
    intro i hi ha
    have ih1 := ih (i + 1) (by omega)
    refine Ev.step (fun k => rfl) (Ev.pos (by omega) (Ev.pos (by omega) (Ev.pos (by omega) ?_)))
    by_cases hr : rok (rd_T28 l (i : Int)) = true
    · have h0 := of_decide_eq_true hr
      refine Ev.neg (by omega) (Ev.neg (by omega) (Ev.neg (by omega) (Ev.neg (by omega) ?_)))
      rw [plus1 i (by omega)]
      exact ih1 (take_all (by omega) ha hr)
    · have hr' : rok (rd_T28 l (i : Int)) = false := by simpa using hr
      rw [not_all (by omega) hr' a0]
      have h0 := of_decide_eq_false hr'
      by_cases g0 : (rd_T28 l (i : Int)).f0 < 0
      · exact Ev.pos g0 (Ev.now _)
      refine Ev.neg g0 ?_
      by_cases g1 : (rd_T28 l (i : Int)).f0 ≥ 16
      · exact Ev.pos g1 (Ev.now _)
      refine Ev.neg g1 ?_
      by_cases g2 : (rd_T28 l (i : Int)).f1 < 1
      · exact Ev.pos g2 (Ev.now _)
      refine Ev.neg g2 ?_
      exact Ev.pos (by omega) (Ev.now _)
theorem fault_l0 (l : List S28) (a0 a1 a2 : Int) (hl : l.length ≤ 1000) (d : Nat) : ∀ i : Nat, i + d = l.length → (l.take i).all rok = true →
    Ev (fun k => patchbayref2_AdvFault.l0 k l (l.length : Int) (i : Int) a0 a1 a2 l) (lf a0 l) := by
  induction d with
  | zero =>
    intro i hi ha
    refine Ev.step (fun k => rfl) (Ev.neg (by omega) ?_)
    rw [List.take_of_length_le (by omega)] at ha
    have := fault_l1 l a0 a1 a2 hl l.length 0 (-1) (by omega)
    unfold lf; rw [if_pos ha]; exact this
  | succ d ih =>
    intro i hi ha
    have ih1 := ih (i + 1) (by omega)
    refine Ev.step (fun k => rfl) (Ev.pos (by omega) (Ev.pos (by omega) (Ev.pos (by omega) ?_)))
    by_cases hr : rok (rd_T28 l (i : Int)) = true
    · have h0 := of_decide_eq_true hr
      refine Ev.neg (by omega) (Ev.neg (by omega) (Ev.neg (by omega) (Ev.neg (by omega) ?_)))
      rw [plus1 i (by omega)]
      exact ih1 (take_all (by omega) ha hr)
    · have hr' : rok (rd_T28 l (i : Int)) = false := by simpa using hr
      rw [not_all (by omega) hr' a0]
      have h0 := of_decide_eq_false hr'
      by_cases g0 : (rd_T28 l (i : Int)).f0 < 0
      · exact Ev.pos g0 (Ev.now _)
      refine Ev.neg g0 ?_
      by_cases g1 : (rd_T28 l (i : Int)).f0 > 15
      · exact Ev.pos g1 (Ev.now _)
      refine Ev.neg g1 ?_
      by_cases g2 : (rd_T28 l (i : Int)).f1 < 1
      · exact Ev.pos g2 (Ev.now _)
      refine Ev.neg g2 ?_
      exact Ev.pos (by omega) (Ev.now _)
theorem check_j0 (b : Bool) (a0 a1 a2 : Int) (l : List S28) (hl : l.length ≤ 1000) :
    Ev (fun k => adv_Check.j0 k b a0 a1 a2 l) (if b = true then 10 else if (l.length : Int) > 16 then 2 else lf a0 l) := by
  by_cases hb : b = true
  · exact Ev.step (fun k => rfl) (Ev.pos hb (Ev.eq (if_pos hb) (Ev.now _)))
  · by_cases h : (l.length : Int) > 16
    · exact Ev.step (fun k => rfl) (Ev.neg hb (Ev.eq ((if_neg hb).trans (if_pos h)) (Ev.pos h (Ev.now _))))
    · exact Ev.step (fun k => rfl) (Ev.neg hb (Ev.eq ((if_neg hb).trans (if_neg h)) (Ev.neg h (check_l0 l a0 a1 a2 hl l.length 0 (by omega) rfl))))
theorem fault_j0 (b : Bool) (a0 a1 a2 : Int) (l : List S28) (hl : l.length ≤ 1000) :
    Ev (fun k => patchbayref2_AdvFault.j0 k b a0 a1 a2 l) (if b = true then 10 else if (l.length : Int) > 16 then 2 else lf a0 l) := by
  by_cases hb : b = true
  · exact Ev.step (fun k => rfl) (Ev.pos hb (Ev.eq (if_pos hb) (Ev.now _)))
  · by_cases h : (l.length : Int) > 16
    · exact Ev.step (fun k => rfl) (Ev.neg hb (Ev.eq ((if_neg hb).trans (if_pos h)) (Ev.pos h (Ev.now _))))
    · exact Ev.step (fun k => rfl) (Ev.neg hb (Ev.eq ((if_neg hb).trans (if_neg h)) (Ev.neg h (fault_l0 l a0 a1 a2 hl l.length 0 (by omega) rfl))))
theorem Check_ev (a0 a1 a2 : Int) (l : List S28) (hl : l.length ≤ 1000) : Ev (fun k => adv_Check.f k a0 a1 a2 l) (af a0 a1 a2 l) := by
  have ht := check_j0 true a0 a1 a2 l hl
  rw [if_pos rfl] at ht
  by_cases h : a0 < 0 ∨ a0 > 15 ∨ a1 < 1 ∨ a1 > 1073741824 ∨ a2 < 0 ∨ a2 > 3600
  · unfold af; rw [if_pos h]; unfold adv_Check.f
    by_cases g : a0 < 0
    · exact Ev.pos g ht
    refine Ev.neg g ?_
    by_cases g1 : a0 ≥ 16
    · exact Ev.pos g1 ht
    refine Ev.neg g1 ?_
    by_cases g2 : a1 < 1
    · exact Ev.pos g2 ht
    refine Ev.neg g2 ?_
    by_cases g3 : a1 > 1073741824
    · exact Ev.pos g3 ht
    refine Ev.neg g3 ?_
    by_cases g4 : a2 < 0
    · exact Ev.pos g4 ht
    refine Ev.neg g4 ?_
    rw [decide_eq_true (show a2 > 3600 by omega)]; exact ht
  · unfold af; rw [if_neg h]; unfold adv_Check.f
    refine Ev.neg (by omega) (Ev.neg (by omega) (Ev.neg (by omega) (Ev.neg (by omega) (Ev.neg (by omega) ?_))))
    rw [decide_eq_false (show ¬ a2 > 3600 by omega)]
    exact check_j0 false a0 a1 a2 l hl
theorem Fault_ev (a0 a1 a2 : Int) (l : List S28) (hl : l.length ≤ 1000) : Ev (fun k => patchbayref2_AdvFault.f k a0 a1 a2 l) (af a0 a1 a2 l) := by
  have ht := fault_j0 true a0 a1 a2 l hl
  rw [if_pos rfl] at ht
  by_cases h : a0 < 0 ∨ a0 > 15 ∨ a1 < 1 ∨ a1 > 1073741824 ∨ a2 < 0 ∨ a2 > 3600
  · unfold af; rw [if_pos h]; unfold patchbayref2_AdvFault.f
    by_cases g : a0 < 0
    · exact Ev.pos g ht
    refine Ev.neg g ?_
    by_cases g1 : a0 > 15
    · exact Ev.pos g1 ht
    refine Ev.neg g1 ?_
    by_cases g2 : a1 < 1
    · exact Ev.pos g2 ht
    refine Ev.neg g2 ?_
    by_cases g3 : a1 > 1073741824
    · exact Ev.pos g3 ht
    refine Ev.neg g3 ?_
    by_cases g4 : a2 < 0
    · exact Ev.pos g4 ht
    refine Ev.neg g4 ?_
    rw [decide_eq_true (show a2 > 3600 by omega)]; exact ht
  · unfold af; rw [if_neg h]; unfold patchbayref2_AdvFault.f
    refine Ev.neg (by omega) (Ev.neg (by omega) (Ev.neg (by omega) (Ev.neg (by omega) (Ev.neg (by omega) ?_))))
    rw [decide_eq_false (show ¬ a2 > 3600 by omega)]
    exact fault_j0 false a0 a1 a2 l hl
/-! ### the bytes -/
def bw (x : S28) : List Int := [x.f0 % 256, x.f1 / 256 % 256, x.f1 % 256]
def lw : List S28 → List Int
  | [] => []
  | x :: l => bw x ++ lw l
theorem lw_length (l : List S28) : (lw l).length = 3 * l.length := by
  induction l with
  | nil => rfl
  | cons x l ih => simp only [lw, List.length_append, ih, List.length_cons, bw, List.length_nil]; omega
def hd (a0 a1 : Int) (n : Nat) (age : Int) : List Int := [a0 % 256, a1 / 16777216 % 256, a1 / 65536 % 256, a1 / 256 % 256, a1 % 256, age / 256 % 256, age % 256, (n : Int) % 256]
/-- the bytes of an advertisement with an age -/
def by_ (a0 a1 : Int) (l : List S28) (age : Int) : List Int := hd a0 a1 l.length age ++ lw l
def okb (b : List Int) : Prop := ∀ x ∈ b, 0 ≤ x ∧ x < 256
theorem okb_lw (l : List S28) : okb (lw l) := by
  induction l with
  | nil => intro x hx; cases hx
  | cons y l ih =>
    intro x hx
    simp only [lw, bw, List.cons_append, List.nil_append, List.mem_cons] at hx
    rcases hx with rfl | rfl | rfl | hx
    · omega
    · omega
    · omega
    · exact ih x hx
theorem okb_by (a0 a1 : Int) (l : List S28) (age : Int) : okb (by_ a0 a1 l age) := by
  intro x hx
  simp only [by_, hd, List.cons_append, List.nil_append, List.mem_cons] at hx
  rcases hx with rfl | rfl | rfl | rfl | rfl | rfl | rfl | rfl | hx
  all_goals first | omega | exact okb_lw l x hx
theorem by_length (a0 a1 : Int) (l : List S28) (age : Int) : (by_ a0 a1 l age).length = 8 + 3 * l.length := by
  simp only [by_, List.length_append, lw_length]; rfl
theorem bytes_l0 (l : List S28) (hl : l.length ≤ 1000) (d : Nat) : ∀ (i : Nat) (b : List Int), i + d = l.length → b.length + 3 * d ≤ 1000000 →
    Ev (fun k => adv_bytes.l0 k b l (l.length : Int) (i : Int)) (b ++ lw (l.drop i)) := by
  induction d with
  | zero =>
    intro i b hi hb
    refine Ev.step (fun k => rfl) (Ev.neg (by omega) (Ev.val ?_))
    rw [List.drop_of_length_le (by omega)]; simp [lw]
  | succ d ih =>
    intro i b hi hb
    refine Ev.step (fun k => rfl) (Ev.pos (by omega) (Ev.pos (by omega) (Ev.pos (by omega) ?_)))
    refine Ev.congr (f := fun k => if b.length + (bw (rd_T28 l (i : Int))).length < 140737488355328 then adv_bytes.l0 k (b ++ bw (rd_T28 l (i : Int))) l (l.length : Int) (wrap64 ((i : Int) + 1)) else none) (fun k => rfl) ?_
    refine Ev.pos (by simp only [bw, List.length_cons, List.length_nil]; omega) ?_
    rw [plus1 i (by omega), drop_at l i (by omega), lw, ← List.append_assoc]
    exact ih (i + 1) _ (by omega) (by simp only [bw, List.length_append, List.length_cons, List.length_nil]; omega)
theorem bytes_ev (a0 a1 a2 : Int) (l : List S28) (age : Int) (hl : l.length ≤ 1000) : Ev (fun k => adv_bytes.f k a0 a1 a2 l age) (by_ a0 a1 l age) := by
  have := bytes_l0 l hl l.length 0 (hd a0 a1 l.length age) (by omega) (by simp only [hd, List.length_cons, List.length_nil]; omega)
  exact Ev.congr (fun k => rfl) this
def vl (l : List S28) : Prop := ∀ x ∈ l, 0 ≤ x.f0 ∧ x.f0 < 4294967296 ∧ 0 ≤ x.f1 ∧ x.f1 < 4294967296
theorem dg1 (n : Int) : dg n 1 = strOfNums [n % 256] := rfl
theorem dg2 (n : Int) : dg n 2 = strOfNums [n / 256 % 256, n % 256] := rfl
theorem dg4 (n : Int) : dg n 4 = strOfNums [n / 16777216 % 256, n / 65536 % 256, n / 256 % 256, n % 256] := by
  have e1 : n / 256 / 256 = n / 65536 := by omega
  have e2 : n / 65536 / 256 = n / 16777216 := by omega
  simp only [dg, dgl, e1, e2]; rfl
theorem advb_l0 (l : List S28) (hl : l.length ≤ 1000) (hv : vl l) (d : Nat) : ∀ (i : Nat) (b : ByteArray), i + d = l.length → b.size + 3 * d ≤ 1000000 →
    Ev (fun k => patchbayref2_AdvBytes.l0 k b l (l.length : Int) (i : Int)) (b ++ strOfNums (lw (l.drop i))) := by
  induction d with
  | zero =>
    intro i b hi hb
    refine Ev.step (fun k => rfl) (Ev.neg (by omega) (Ev.val ?_))
    rw [List.drop_of_length_le (by omega), lw, strOfNums_nil]; apply ByteArray.ext; simp [ByteArray.data_append]
  | succ d ih =>
    intro i b hi hb
    have hx := hv _ (rd_mem l i (by omega))
    refine Ev.step (fun k => rfl) (Ev.pos (by omega) (Ev.pos (by omega) (Ev.pos (by omega) ?_)))
    rw [plus1 i (by omega), drop_at l i (by omega)]
    generalize rd_T28 l (i : Int) = x at *
    refine Ev.bind (Digits_ev x.f0 1 (by omega) (by omega) (by omega)) (Ev.bind (Digits_ev x.f1 2 (by omega) (by omega) (by omega)) ?_)
    refine Ev.pos (by simp only [dg_size]; omega) (Ev.pos (by simp only [ByteArray.size_append, dg_size]; omega) ?_)
    have e : b ++ strOfNums (lw (x :: l.drop (i + 1))) = (b ++ (dg x.f0 1 ++ dg x.f1 2)) ++ strOfNums (lw (l.drop (i + 1))) := by
      rw [lw, strOfNums_append, ByteArray.append_assoc]
      congr 2
    rw [e]
    exact ih (i + 1) _ (by omega) (by simp only [ByteArray.size_append, dg_size]; omega)
theorem AdvBytes_ev (a0 a1 a2 : Int) (l : List S28) (age : Int) (hl : l.length ≤ 1000) (hv : vl l) (h0 : 0 ≤ a0) (h0' : a0 < 4294967296) (h1 : 0 ≤ a1) (h1' : a1 < 4294967296) (h2 : 0 ≤ age) (h2' : age < 4294967296) :
    Ev (fun k => patchbayref2_AdvBytes.f k a0 a1 a2 l age) (strOfNums (by_ a0 a1 l age)) := by
  unfold patchbayref2_AdvBytes.f
  refine Ev.bind (Digits_ev a0 1 (by omega) (by omega) (by omega)) (Ev.bind (Digits_ev a1 4 (by omega) (by omega) (by omega)) ?_)
  refine Ev.pos (by simp only [dg_size]; omega) ?_
  refine Ev.bind (Digits_ev age 2 (by omega) (by omega) (by omega)) ?_
  refine Ev.pos (by simp only [ByteArray.size_append, dg_size]; omega) ?_
  refine Ev.bind (Digits_ev (l.length : Int) 1 (by omega) (by omega) (by omega)) ?_
  refine Ev.pos (by simp only [ByteArray.size_append, dg_size]; omega) ?_
  have e : strOfNums (by_ a0 a1 l age) = (((dg a0 1 ++ dg a1 4) ++ dg age 2) ++ dg (l.length : Int) 1) ++ strOfNums (lw (l.drop 0)) := by
    rw [by_, strOfNums_append]
    congr 1
    rw [dg1, dg1, dg2, dg4, ← strOfNums_append, ← strOfNums_append, ← strOfNums_append]; rfl
  rw [e]
  exact advb_l0 l hl hv l.length 0 _ (by omega) (by simp only [ByteArray.size_append, dg_size]; omega)
/-! ### the sums -/
def s : List Int → Int
  | [] => 0
  | c :: l => c + s l
def wt : List Int → Int
  | [] => 0
  | c :: l => (l.length + 1) * c + wt l
theorem s_le (l : List Int) (h : okb l) : 0 ≤ s l ∧ s l ≤ 256 * l.length := by
  induction l with
  | nil => simp [s]
  | cons c l ih =>
    have h1 := ih (fun x hx => h x (List.mem_cons_of_mem _ hx))
    have h2 := h c (List.mem_cons_self ..)
    simp only [s, List.length_cons]; omega
theorem wt_le (l : List Int) (h : okb l) : 0 ≤ wt l ∧ wt l ≤ 256 * ((l.length : Int) * l.length) := by
  induction l with
  | nil => simp [wt]
  | cons c l ih =>
    have h1 := ih (fun x hx => h x (List.mem_cons_of_mem _ hx))
    have h2 := h c (List.mem_cons_self ..)
    simp only [wt, List.length_cons]
    have h3 : ((l.length : Int) + 1) * c ≤ ((l.length : Int) + 1) * 256 := Int.mul_le_mul_of_nonneg_left (by omega) (by omega)
    have h4 : 0 ≤ ((l.length : Int) + 1) * c := Int.mul_nonneg (by omega) (by omega)
    have h5 : ((l.length + 1 : Nat) : Int) * ((l.length + 1 : Nat) : Int) = (l.length : Int) * l.length + 2 * l.length + 1 := by
      rw [show ((l.length + 1 : Nat) : Int) = (l.length : Int) + 1 by omega, Int.add_mul, Int.mul_add]; omega
    rw [h5]
    generalize (l.length : Int) * l.length = q at *
    generalize ((l.length : Int) + 1) * c = r at *
    omega
theorem drop_rd (l : List Int) (i : Nat) (h : i < l.length) : l.drop i = rd l (i : Int) :: l.drop (i + 1) := by
  rw [List.drop_eq_getElem_cons h]
  congr 1
  show l[i] = l.getD (i : Int).toNat 0
  rw [Int.toNat_natCast, List.getD_eq_getElem?_getD, List.getElem?_eq_getElem h]; rfl
theorem rd_in (l : List Int) (i : Nat) (h : i < l.length) : rd l (i : Int) ∈ l := by
  show l.getD (i : Int).toNat 0 ∈ l
  rw [Int.toNat_natCast, List.getD_eq_getElem?_getD, List.getElem?_eq_getElem h]
  exact List.getElem_mem h
theorem okb_drop {l : List Int} (h : okb l) (i : Nat) : okb (l.drop i) := fun x hx => h x (List.mem_of_mem_drop hx)
theorem bt_str (l : List Int) (h : okb l) (i : Nat) (hi : i < l.length) : bt (strOfNums l) (i : Int) = rd l (i : Int) := by
  have hr := h _ (rd_in l i hi)
  have e : rd l (i : Int) = l[i] := by
    show l.getD (i : Int).toNat 0 = l[i]
    rw [Int.toNat_natCast, List.getD_eq_getElem?_getD, List.getElem?_eq_getElem hi]; rfl
  rw [e] at hr ⊢
  unfold bt
  rw [dif_pos (by rw [strOfNums_size, Int.toNat_natCast]; exact hi)]
  have : ((strOfNums l)[(i : Int).toNat]'(by rw [strOfNums_size, Int.toNat_natCast]; exact hi)) = UInt8.ofNat (l[i]).toNat := by
    show (l.map fun n => UInt8.ofNat n.toNat).toArray[(i : Int).toNat]'_ = _
    simp
  rw [this, UInt8.toNat_ofNat']
  omega
/-- sums with weights, by the sum of a list and what was there -/
theorem sum_l0 (b : List Int) (hb : okb b) (hl : b.length ≤ 1000) (d : Nat) : ∀ (i : Nat) (x y : Int), i + d = b.length → 0 ≤ x → x < 255 → 0 ≤ y → y < 255 →
    Ev (fun k => adv_sum.l0 k x y b (b.length : Int) (i : Int)) ((x + s (b.drop i)) % 255, (y + ((b.drop i).length : Int) * x + wt (b.drop i)) % 255) := by
  induction d with
  | zero =>
    intro i x y hi x0 x1 y0 y1
    refine Ev.step (fun k => rfl) (Ev.neg (by omega) (Ev.val ?_))
    rw [List.drop_of_length_le (by omega)]
    simp only [s, wt, List.length_nil]
    refine Prod.ext ?_ ?_
    · show x = (x + 0) % 255; omega
    · show y = (y + ((0 : Nat) : Int) * x + 0) % 255
      have : ((0 : Nat) : Int) * x = 0 := by simp
      rw [this]; omega
  | succ d ih =>
    intro i x y hi x0 x1 y0 y1
    refine Ev.step (fun k => rfl) (Ev.pos (by omega) (Ev.pos (by omega) (Ev.pos (by omega) ?_)))
    have hr := hb _ (rd_in b i (by omega))
    rw [plus1 i (by omega), drop_rd b i (by omega)]
    generalize rd b (i : Int) = c at *
    have e1 : Int.tmod (wrap64 (x + wrap64 c)) 255 = (x + c) % 255 := by
      rw [w64 (x := c) (by omega) (by omega), w64 (by omega) (by omega), Int.tmod_eq_emod_of_nonneg (by omega)]
    rw [e1]
    have e2 : Int.tmod (wrap64 (y + (x + c) % 255)) 255 = (y + (x + c) % 255) % 255 := by
      rw [w64 (by omega) (by omega), Int.tmod_eq_emod_of_nonneg (by omega)]
    rw [e2]
    have ih1 := ih (i + 1) ((x + c) % 255) ((y + (x + c) % 255) % 255) (by omega) (by omega) (by omega) (by omega) (by omega)
    have e3 : (((x + c) % 255 + s (b.drop (i + 1))) % 255, ((y + (x + c) % 255) % 255 + ((b.drop (i + 1)).length : Int) * ((x + c) % 255) + wt (b.drop (i + 1))) % 255) = ((x + s (c :: b.drop (i + 1))) % 255, (y + ((c :: b.drop (i + 1)).length : Int) * x + wt (c :: b.drop (i + 1))) % 255) := by
      generalize b.drop (i + 1) = r
      have hq := Int.mul_ediv_add_emod (x + c) 255
      generalize (x + c) % 255 = x' at *
      generalize (x + c) / 255 = q at *
      simp only [s, wt, List.length_cons]
      have h1 : (r.length : Int) * (x + c) = (r.length : Int) * (255 * q + x') := by rw [hq]
      have h2 : (r.length : Int) * (255 * q) = 255 * ((r.length : Int) * q) := by rw [← Int.mul_assoc, Int.mul_comm (r.length : Int) 255, Int.mul_assoc]
      rw [Int.mul_add, Int.mul_add, h2] at h1
      have h3 : ((r.length + 1 : Nat) : Int) * x = (r.length : Int) * x + x := by rw [show ((r.length + 1 : Nat) : Int) = (r.length : Int) + 1 by omega, Int.add_mul, Int.one_mul]
      have h4 : ((r.length : Int) + 1) * c = (r.length : Int) * c + c := by rw [Int.add_mul, Int.one_mul]
      rw [h3, h4]
      generalize (r.length : Int) * x = p1 at *
      generalize (r.length : Int) * c = p2 at *
      generalize (r.length : Int) * x' = p3 at *
      generalize (r.length : Int) * q = p4 at *
      refine Prod.ext ?_ ?_
      · show (x' + s r) % 255 = (x + (c + s r)) % 255; omega
      · show ((y + x') % 255 + p3 + wt r) % 255 = (y + (p1 + x) + (p2 + c + wt r)) % 255; omega
    rw [e3] at ih1
    exact ih1
theorem sum_ev (b : List Int) (hb : okb b) (hl : b.length ≤ 1000) : Ev (fun k => adv_sum.f k b) (s b % 255, wt b % 255) := by
  have := sum_l0 b hb hl b.length 0 0 0 (by omega) (by omega) (by omega) (by omega) (by omega)
  simp only [List.drop_zero, Int.zero_add, Int.mul_zero] at this
  exact Ev.congr (fun k => rfl) this
theorem asum_l0 (b : List Int) (hb : okb b) (hl : b.length ≤ 1000) (d : Nat) : ∀ (i : Nat) (x y : Int), i + d = b.length → 0 ≤ x → x ≤ 256 * i → 0 ≤ y → y ≤ 256000 * i →
    Ev (fun k => patchbayref2_AdvSum.l0 k (strOfNums b) x y (b.length : Int) (i : Int)) ((x + s (b.drop i)) % 255, (y + wt (b.drop i)) % 255) := by
  induction d with
  | zero =>
    intro i x y hi x0 x1 y0 y1
    refine Ev.step (fun k => rfl) (Ev.neg (by omega) (Ev.val ?_))
    rw [List.drop_of_length_le (by omega)]
    simp only [s, wt, Int.add_zero]
    rw [Int.tmod_eq_emod_of_nonneg x0, Int.tmod_eq_emod_of_nonneg y0]
  | succ d ih =>
    intro i x y hi x0 x1 y0 y1
    refine Ev.step (fun k => rfl) (Ev.pos (by omega) (Ev.pos (by omega) (Ev.pos (by rw [strOfNums_size]; omega) ?_)))
    have hr := hb _ (rd_in b i (by omega))
    rw [plus1 i (by omega), drop_rd b i (by omega), bt_str b hb i (by omega), strOfNums_size]
    generalize rd b (i : Int) = c at *
    have h4 : 0 ≤ ((b.length : Int) - i) * c := Int.mul_nonneg (by omega) (by omega)
    have h5 : ((b.length : Int) - i) * c ≤ 1000 * c := Int.mul_le_mul_of_nonneg_right (by omega) (by omega)
    rw [w64 (x := c) (by omega) (by omega), w64 (x := (b.length : Int) - i) (by omega) (by omega), w64 (x := x + c) (by omega) (by omega), w64 (x := ((b.length : Int) - i) * c) (by omega) (by omega), w64 (x := y + ((b.length : Int) - i) * c) (by omega) (by omega)]
    have ih1 := ih (i + 1) (x + c) (y + ((b.length : Int) - i) * c) (by omega) (by omega) (by omega) (by omega) (by omega)
    simp only [s, wt]
    have e1 : ((b.drop (i + 1)).length : Int) + 1 = (b.length : Int) - i := by rw [List.length_drop]; omega
    rw [e1, ← Int.add_assoc x, ← Int.add_assoc y]
    exact ih1
theorem asum_ev (b : List Int) (hb : okb b) (hl : b.length ≤ 1000) : Ev (fun k => patchbayref2_AdvSum.l0 k (strOfNums b) 0 0 ((strOfNums b).size : Int) 0) (s b % 255, wt b % 255) := by
  have := asum_l0 b hb hl b.length 0 0 0 (by omega) (by omega) (by omega) (by omega) (by omega)
  rw [strOfNums_size]
  simp only [List.drop_zero, Int.zero_add] at this
  exact this
/-- the check bytes -/
def cx (a0 a1 : Int) (l : List S28) : Int := s (by_ a0 a1 l 0) % 255
def cy (a0 a1 : Int) (l : List S28) : Int := wt (by_ a0 a1 l 0) % 255
theorem cx_range (a0 a1 : Int) (l : List S28) : 0 ≤ cx a0 a1 l ∧ cx a0 a1 l < 255 := by unfold cx; omega
theorem cy_range (a0 a1 : Int) (l : List S28) : 0 ≤ cy a0 a1 l ∧ cy a0 a1 l < 255 := by unfold cy; omega
theorem sums_ev (a0 a1 a2 : Int) (l : List S28) (hl : l.length ≤ 300) : Ev (fun k => adv_sum.f k (by_ a0 a1 l 0)) (cx a0 a1 l, cy a0 a1 l) :=
  sum_ev _ (okb_by _ _ _ _) (by rw [by_length]; omega)
theorem AdvSum_ev (a0 a1 a2 : Int) (l : List S28) (hl : l.length ≤ 300) (hv : vl l) (h0 : 0 ≤ a0) (h0' : a0 < 4294967296) (h1 : 0 ≤ a1) (h1' : a1 < 4294967296) :
    Ev (fun k => patchbayref2_AdvSum.f k a0 a1 a2 l) (cx a0 a1 l, cy a0 a1 l) := by
  unfold patchbayref2_AdvSum.f
  exact Ev.bind (AdvBytes_ev a0 a1 a2 l 0 (by omega) hv h0 h0' h1 h1' (by omega) (by omega)) (asum_ev _ (okb_by _ _ _ _) (by rw [by_length]; omega))
/-- the text of a valid advertisement -/
def tx (a0 a1 a2 : Int) (l : List S28) : ByteArray := strOfNums (by_ a0 a1 l a2 ++ [cx a0 a1 l, cy a0 a1 l])
theorem AdvText_ev (a0 a1 a2 : Int) (l : List S28) (hl : l.length ≤ 300) (hv : vl l) (h0 : 0 ≤ a0) (h0' : a0 < 4294967296) (h1 : 0 ≤ a1) (h1' : a1 < 4294967296) (h2 : 0 ≤ a2) (h2' : a2 < 4294967296) :
    Ev (fun k => patchbayref2_AdvText.f k a0 a1 a2 l) (tx a0 a1 a2 l) := by
  have hx := cx_range a0 a1 l
  have hy := cy_range a0 a1 l
  unfold patchbayref2_AdvText.f
  refine Ev.bind (AdvSum_ev a0 a1 a2 l hl hv h0 h0' h1 h1') ?_
  refine Ev.bind (AdvBytes_ev a0 a1 a2 l a2 (by omega) hv h0 h0' h1 h1' h2 h2') ?_
  refine Ev.bind (Digits_ev (cx a0 a1 l) 1 (by omega) (by omega) (by omega)) ?_
  refine Ev.pos (by rw [strOfNums_size, by_length, dg_size]; omega) ?_
  refine Ev.bind (Digits_ev (cy a0 a1 l) 1 (by omega) (by omega) (by omega)) ?_
  refine Ev.pos (by rw [ByteArray.size_append, strOfNums_size, by_length, dg_size, dg_size]; omega) (Ev.val ?_)
  rw [dg1, dg1, tx, ← strOfNums_append, ← strOfNums_append, Int.emod_eq_of_lt (by omega) (by omega), Int.emod_eq_of_lt (by omega) (by omega), List.append_assoc]; rfl
theorem Encode_ok (a0 a1 a2 : Int) (l : List S28) (hl : l.length ≤ 300) (h : af a0 a1 a2 l = 0) :
    Ev (fun k => adv_Encode.f k a0 a1 a2 l) (tx a0 a1 a2 l, 0) := by
  have hx := cx_range a0 a1 l
  have hy := cy_range a0 a1 l
  have hc := Check_ev a0 a1 a2 l (by omega)
  rw [h] at hc
  unfold adv_Encode.f
  refine Ev.bind hc (Ev.pos rfl ?_)
  refine Ev.bind (bytes_ev a0 a1 a2 l 0 (by omega)) ?_
  refine Ev.bind (sums_ev a0 a1 a2 l hl) ?_
  refine Ev.bind (bytes_ev a0 a1 a2 l a2 (by omega)) ?_
  refine Ev.congr (f := fun k => if (by_ a0 a1 l a2).length + [cx a0 a1 l % 256, cy a0 a1 l % 256].length < 140737488355328 then some (strOfNums (by_ a0 a1 l a2 ++ [cx a0 a1 l % 256, cy a0 a1 l % 256]), (0 : Int)) else none) (fun k => rfl) ?_
  refine Ev.pos (by rw [by_length]; simp only [List.length_cons, List.length_nil]; omega) (Ev.val ?_)
  rw [tx, Int.emod_eq_of_lt (by omega) (by omega), Int.emod_eq_of_lt (by omega) (by omega)]
theorem Encode_bad (a0 a1 a2 : Int) (l : List S28) (hl : l.length ≤ 300) (h : af a0 a1 a2 l ≠ 0) :
    Ev (fun k => adv_Encode.f k a0 a1 a2 l) ((⟨#[]⟩ : ByteArray), af a0 a1 a2 l) := by
  unfold adv_Encode.f
  exact Ev.bind (Check_ev a0 a1 a2 l (by omega)) (Ev.neg h (Ev.now _))
theorem lives_ev : Ev (fun k => patchbaylaw2_advLives.f k) true := by
  unfold patchbaylaw2_advLives.f
  refine Ev.bind (Encode_ok 0 1 0 [] (by decide) (by decide)) (Ev.pos rfl (Ev.val ?_))
  rw [tx, strOfNums_size]; rfl
theorem af_vl {a0 a1 a2 : Int} {l : List S28} (h : af a0 a1 a2 l = 0) : (0 ≤ a0 ∧ a0 ≤ 15 ∧ 1 ≤ a1 ∧ a1 ≤ 1073741824 ∧ 0 ≤ a2 ∧ a2 ≤ 3600) ∧ l.length ≤ 16 ∧ vl l := by
  unfold af at h
  by_cases g : a0 < 0 ∨ a0 > 15 ∨ a1 < 1 ∨ a1 > 1073741824 ∨ a2 < 0 ∨ a2 > 3600
  · rw [if_pos g] at h; omega
  rw [if_neg g] at h
  by_cases g2 : (l.length : Int) > 16
  · rw [if_pos g2] at h; omega
  rw [if_neg g2] at h
  refine ⟨by omega, by omega, fun x hx => ?_⟩
  unfold lf at h
  by_cases g3 : l.all rok = true
  · have := of_decide_eq_true (List.all_eq_true.1 g3 x hx); omega
  · rw [if_neg g3] at h; omega
/-! ### the order -/
def g_ (a2 : Int) : Int := if a2 = 3600 then 1 else 0
def cmp_ (x y : Int) : Int := if x < y then -1 else if x > y then 1 else 0
def or3 (x y z : Int) : Int := if x ≠ 0 then x else if y ≠ 0 then y else z
/-- which advertisement is newer -/
def nw (a0 a1 a2 : Int) (l : List S28) (b0 b1 b2 : Int) (m : List S28) : Int :=
  or3 (cmp_ a1 b1) (cmp_ (g_ a2) (g_ b2)) (cmp_ (cy a0 a1 l * 256 + cx a0 a1 l) (cy b0 b1 m * 256 + cx b0 b1 m))
def rk (a0 a1 a2 : Int) (l : List S28) : Int := ((a1 * 2 + g_ a2) * 256 + cy a0 a1 l) * 256 + cx a0 a1 l
theorem rk_nw (a0 a1 a2 : Int) (l : List S28) (b0 b1 b2 : Int) (m : List S28) : nw a0 a1 a2 l b0 b1 b2 m = cmp_ (rk a0 a1 a2 l) (rk b0 b1 b2 m) := by
  have hx := cx_range a0 a1 l
  have hy := cy_range a0 a1 l
  have hx' := cx_range b0 b1 m
  have hy' := cy_range b0 b1 m
  have hg : 0 ≤ g_ a2 ∧ g_ a2 ≤ 1 := by unfold g_; split <;> omega
  have hg' : 0 ≤ g_ b2 ∧ g_ b2 ≤ 1 := by unfold g_; split <;> omega
  unfold nw rk or3 cmp_
  generalize cx a0 a1 l = x at *
  generalize cy a0 a1 l = y at *
  generalize cx b0 b1 m = x' at *
  generalize cy b0 b1 m = y' at *
  generalize g_ a2 = g at *
  generalize g_ b2 = g' at *
  repeat' split
  all_goals omega
theorem AdvRank_ev (a0 a1 a2 : Int) (l : List S28) (h : af a0 a1 a2 l = 0) : Ev (fun k => patchbayref2_AdvRank.f k a0 a1 a2 l) (rk a0 a1 a2 l) := by
  obtain ⟨h1, h2, h3⟩ := af_vl h
  have hx := cx_range a0 a1 l
  have hy := cy_range a0 a1 l
  unfold patchbayref2_AdvRank.f
  refine Ev.bind (AdvSum_ev a0 a1 a2 l (by omega) h3 (by omega) (by omega) (by omega) (by omega)) ?_
  unfold rk g_
  show Ev (fun k => if a2 = 3600 then some (wrap64 (wrap64 (wrap64 (wrap64 (wrap64 (wrap64 (a1 * 2) + 1) * 256) + cy a0 a1 l) * 256) + cx a0 a1 l)) else some (wrap64 (wrap64 (wrap64 (wrap64 (wrap64 (a1 * 2) * 256) + cy a0 a1 l) * 256) + cx a0 a1 l))) _
  generalize cx a0 a1 l = x at *
  generalize cy a0 a1 l = y at *
  by_cases g : a2 = 3600
  · refine Ev.eq (r' := ((a1 * 2 + 1) * 256 + y) * 256 + x) (by rw [if_pos g]) (Ev.pos g (Ev.val ?_))
    rw [w64 (x := a1 * 2) (by omega) (by omega), w64 (x := a1 * 2 + 1) (by omega) (by omega), w64 (x := (a1 * 2 + 1) * 256) (by omega) (by omega), w64 (x := (a1 * 2 + 1) * 256 + y) (by omega) (by omega), w64 (x := ((a1 * 2 + 1) * 256 + y) * 256) (by omega) (by omega), w64 (by omega) (by omega)]
  · refine Ev.eq (r' := ((a1 * 2 + 0) * 256 + y) * 256 + x) (by rw [if_neg g]) (Ev.neg g (Ev.val ?_))
    rw [w64 (x := a1 * 2) (by omega) (by omega), w64 (x := a1 * 2 * 256) (by omega) (by omega), w64 (x := a1 * 2 * 256 + y) (by omega) (by omega), w64 (x := (a1 * 2 * 256 + y) * 256) (by omega) (by omega), w64 (by omega) (by omega)]
    omega
theorem AdvNewer_ev (a0 a1 a2 : Int) (l : List S28) (b0 b1 b2 : Int) (m : List S28) (h : af a0 a1 a2 l = 0) (h' : af b0 b1 b2 m = 0) :
    Ev (fun k => patchbayref2_AdvNewer.f k a0 a1 a2 l b0 b1 b2 m) (nw a0 a1 a2 l b0 b1 b2 m) := by
  rw [rk_nw]
  unfold patchbayref2_AdvNewer.f
  refine Ev.bind (AdvRank_ev a0 a1 a2 l h) (Ev.bind (AdvRank_ev b0 b1 b2 m h') ?_)
  unfold cmp_
  generalize rk a0 a1 a2 l = x
  generalize rk b0 b1 b2 m = y
  by_cases g : x > y
  · exact Ev.eq (by rw [if_neg (by omega), if_pos g]) (Ev.pos g (Ev.now _))
  · by_cases g' : x < y
    · exact Ev.eq (if_pos g') (Ev.neg g (Ev.pos g' (Ev.now _)))
    · exact Ev.eq (by rw [if_neg g', if_neg g]) (Ev.neg g (Ev.neg g' (Ev.now _)))
theorem or_l0 (l : List Int) (hl : l.length ≤ 1000) (d : Nat) : ∀ i : Nat, i + d = l.length →
    Ev (fun k => cmp_Or_int.l0 k 0 l (l.length : Int) (i : Int)) (((l.drop i).find? fun x => decide (x ≠ 0)).getD 0) := by
  induction d with
  | zero =>
    intro i hi
    refine Ev.step (fun k => rfl) (Ev.neg (by omega) (Ev.val ?_))
    rw [List.drop_of_length_le (by omega)]; rfl
  | succ d ih =>
    intro i hi
    have ih1 := ih (i + 1) (by omega)
    refine Ev.step (fun k => rfl) (Ev.pos (by omega) (Ev.pos (by omega) (Ev.pos (by omega) ?_)))
    rw [drop_rd l i (by omega), plus1 i (by omega)]
    generalize rd l (i : Int) = x
    by_cases h : x = 0
    · refine Ev.pos h (Ev.eq ?_ ih1)
      rw [List.find?_cons_of_neg (by simp [h])]
    · refine Ev.neg h (Ev.eq ?_ (Ev.now _))
      rw [List.find?_cons_of_pos (by simp [h])]; rfl
theorem Or3_ev (x y z : Int) : Ev (fun k => cmp_Or_int.f k [x, y, z]) (or3 x y z) := by
  have := or_l0 [x, y, z] (by simp) 3 0 rfl
  refine Ev.congr (fun k => rfl) (Ev.eq ?_ this)
  unfold or3
  by_cases hx : x = 0 <;> by_cases hy : y = 0 <;> by_cases hz : z = 0 <;> simp [List.find?, hx, hy, hz]
theorem Cmp_ev (x y : Int) : cmp_Compare_int.f x y = some (cmp_ x y) := by
  have h1 : (x != x) = false := by simp
  have h2 : (y != y) = false := by simp
  unfold cmp_Compare_int.f cmp_isNaN_int.f cmp_
  simp only [Option.bind_some, h1, h2, Bool.false_eq_true, if_false]
  repeat' split
  all_goals rfl
theorem join8 (x y : Int) (h0 : 0 ≤ x) (h1 : x < 281474976710656) (y0 : 0 ≤ y) (y1 : y ≤ 255) : Go.bits .or .i64 (x * 256) y = x * 256 + y :=
  bits_join .i64 63 (by decide) wraps_i64 8 (x * 256) y (by omega) (by omega) (by omega) y0 (by omega) (by omega)
theorem Cmp_to (x y : Int) : Ev (fun _ => cmp_Compare_int.f x y) (cmp_ x y) := Ev.congr (fun _ => Cmp_ev x y) (Ev.now _)
theorem gone_ev (a0 a1 a2 : Int) (l : List S28) : Ev (fun _ => adv_newer_1.f a0 a1 a2 l) (g_ a2) := by
  unfold adv_newer_1.f g_
  by_cases h : a2 = 3600
  · exact Ev.eq (if_pos h) (Ev.pos h (Ev.now _))
  · exact Ev.eq (if_neg h) (Ev.neg h (Ev.now _))
theorem newer_ev (a0 a1 a2 : Int) (l : List S28) (b0 b1 b2 : Int) (m : List S28) (hl : l.length ≤ 300) (hm : m.length ≤ 300) :
    Ev (fun k => adv_newer.f k a0 a1 a2 l b0 b1 b2 m) (nw a0 a1 a2 l b0 b1 b2 m) := by
  have hx := cx_range a0 a1 l
  have hy := cy_range a0 a1 l
  have hx' := cx_range b0 b1 m
  have hy' := cy_range b0 b1 m
  have e1 : Go.bits .or .i64 (wrap64 (cy a0 a1 l * 256)) (cx a0 a1 l) = cy a0 a1 l * 256 + cx a0 a1 l := by
    rw [w64 (by omega) (by omega), join8 _ _ (by omega) (by omega) (by omega) (by omega)]
  have e2 : Go.bits .or .i64 (wrap64 (cy b0 b1 m * 256)) (cx b0 b1 m) = cy b0 b1 m * 256 + cx b0 b1 m := by
    rw [w64 (by omega) (by omega), join8 _ _ (by omega) (by omega) (by omega) (by omega)]
  unfold adv_newer.f
  refine Ev.bind (bytes_ev a0 a1 a2 l 0 (by omega)) (Ev.bind (sums_ev a0 a1 a2 l hl) (Ev.bind (bytes_ev b0 b1 b2 m 0 (by omega)) (Ev.bind (sums_ev b0 b1 b2 m hm) ?_)))
  refine Ev.bind (Cmp_to a1 b1) (Ev.bind (gone_ev a0 a1 a2 l) (Ev.bind (gone_ev b0 b1 b2 m) (Ev.bind (Cmp_to (g_ a2) (g_ b2)) ?_)))
  show Ev (fun k => (cmp_Compare_int.f (Go.bits .or .i64 (wrap64 (cy a0 a1 l * 256)) (cx a0 a1 l)) (Go.bits .or .i64 (wrap64 (cy b0 b1 m * 256)) (cx b0 b1 m))).bind fun t => (cmp_Or_int.f k [cmp_ a1 b1, cmp_ (g_ a2) (g_ b2), t]).bind fun u => some u) _
  rw [e1, e2]
  exact Ev.bind (Cmp_to _ _) (Ev.bind (Or3_ev _ _ _) (Ev.now _))
end Go.Proofs.Ytbdcaadehfbnbaa.Ul
