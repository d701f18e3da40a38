/- number and decimal read the same strings as the same numbers. Plain facts on strings of at most three bytes, and on the pieces between points. -/
import Derived.Test.YtbdcaadehfbnbaaDoorQVb
import Derived.Lib.ItoaNum
import Derived.Lib.IndexLaws
namespace Go.Proofs.YtbdcaadehfbnbaaDoor.Dc
open Go Go.RowKit Go.Proofs.YtbdcaadehfbnbaaDoorW.PrintWords Go.Proofs.YtbdcaadehfbnbaaDoorW.PrintLast Go.Proofs.YtbdcaadehfbnbaaDoor.Pl
set_option linter.unusedVariables false
set_option linter.unusedSimpArgs false
def dec3 (v : Nat) : List UInt8 :=
  if v < 10 then [UInt8.ofNat (48 + v)] else if v < 100 then [UInt8.ofNat (48 + v / 10), UInt8.ofNat (48 + v % 10)] else [UInt8.ofNat (48 + v / 100), UInt8.ofNat (48 + v / 10 % 10), UInt8.ofNat (48 + v % 10)]
theorem dec3_length (v : Nat) : (dec3 v).length ≤ 3 := by unfold dec3; repeat' split
                                                          all_goals simp
theorem digits_dec3 (v : Nat) (h : v < 1000) : Lib.decDigits v = dec3 v := by
  unfold dec3
  by_cases h1 : v < 10
  · rw [if_pos h1, Lib.decDigits_one h1]
  rw [if_neg h1]
  by_cases h2 : v < 100
  · rw [if_pos h2, Lib.decDigits_two h1 h2]
  · rw [if_neg h2, Lib.decDigits, dif_neg h1, Lib.decDigits_two (by omega) (by omega)]
    rw [show v / 10 / 10 = v / 100 by omega]; rfl
theorem tab : ∀ v : Fin 1000, Vk.nv ⟨(dec3 v.val).toArray⟩ = ((v.val : Int), true) ∧ Lib.atoiAll (dec3 v.val) = .ok (v.val : Int) := by decide +kernel
theorem of_digit (a : UInt8) (h0 : ¬ ((a.toNat : Int) < 48)) (h1 : ¬ ((a.toNat : Int) > 57)) : ∃ d, d < 10 ∧ a = UInt8.ofNat (48 + d) ∧ a.toNat = 48 + d := by
  refine ⟨a.toNat - 48, by omega, ?_, by omega⟩
  rw [show 48 + (a.toNat - 48) = a.toNat by omega, UInt8.ofNat_toNat]
theorem forward (s : ByteArray) (h : (Vk.nv s).2 = true) : ∃ v, v < 1000 ∧ s.data.toList = dec3 v := by
  obtain ⟨⟨l⟩⟩ := s
  match l with
  | [] => exact absurd h (by decide)
  | [a] =>
    have e : Vk.nv ⟨⟨[a]⟩⟩ = if (a.toNat : Int) < 48 then (0, false) else if (a.toNat : Int) > 57 then (0, false) else (10 * 0 + ((a.toNat : Int) - 48), true) := rfl
    rw [e] at h
    by_cases h0 : (a.toNat : Int) < 48
    · rw [if_pos h0] at h; cases h
    rw [if_neg h0] at h
    by_cases h1 : (a.toNat : Int) > 57
    · rw [if_pos h1] at h; cases h
    obtain ⟨d, hd, e1, _⟩ := of_digit a h0 h1
    refine ⟨d, by omega, ?_⟩
    unfold dec3; rw [if_pos hd, e1]
  | [a, b] =>
    have e : Vk.nv ⟨⟨[a, b]⟩⟩ = if (2 = 0 ∨ 3 < 2 ∨ (1 < 2 ∧ (a.toNat : Int) = 48)) then (0, false) else (if (a.toNat : Int) < 48 then (0, false) else if (a.toNat : Int) > 57 then (0, false) else if (b.toNat : Int) < 48 then (0, false) else if (b.toNat : Int) > 57 then (0, false) else (10 * (10 * 0 + ((a.toNat : Int) - 48)) + ((b.toNat : Int) - 48), true)) := rfl
    rw [e] at h
    by_cases hz : (2 = 0 ∨ 3 < 2 ∨ (1 < 2 ∧ (a.toNat : Int) = 48))
    · rw [if_pos hz] at h; cases h
    rw [if_neg hz] at h
    by_cases h0 : (a.toNat : Int) < 48
    · rw [if_pos h0] at h; cases h
    rw [if_neg h0] at h
    by_cases h1 : (a.toNat : Int) > 57
    · rw [if_pos h1] at h; cases h
    rw [if_neg h1] at h
    by_cases h2 : (b.toNat : Int) < 48
    · rw [if_pos h2] at h; cases h
    rw [if_neg h2] at h
    by_cases h3 : (b.toNat : Int) > 57
    · rw [if_pos h3] at h; cases h
    obtain ⟨d, hd, e1, q1⟩ := of_digit a h0 h1
    obtain ⟨f, hf, e2, q2⟩ := of_digit b h2 h3
    refine ⟨d * 10 + f, by omega, ?_⟩
    unfold dec3; rw [if_neg (by omega), if_pos (by omega), show (d * 10 + f) / 10 = d by omega, show (d * 10 + f) % 10 = f by omega, e1, e2]
  | [a, b, c] =>
    have e : Vk.nv ⟨⟨[a, b, c]⟩⟩ = if (3 = 0 ∨ 3 < 3 ∨ (1 < 3 ∧ (a.toNat : Int) = 48)) then (0, false) else (if (a.toNat : Int) < 48 then (0, false) else if (a.toNat : Int) > 57 then (0, false) else if (b.toNat : Int) < 48 then (0, false) else if (b.toNat : Int) > 57 then (0, false) else if (c.toNat : Int) < 48 then (0, false) else if (c.toNat : Int) > 57 then (0, false) else (10 * (10 * (10 * 0 + ((a.toNat : Int) - 48)) + ((b.toNat : Int) - 48)) + ((c.toNat : Int) - 48), true)) := rfl
    rw [e] at h
    by_cases hz : (3 = 0 ∨ 3 < 3 ∨ (1 < 3 ∧ (a.toNat : Int) = 48))
    · rw [if_pos hz] at h; cases h
    rw [if_neg hz] at h
    by_cases h0 : (a.toNat : Int) < 48
    · rw [if_pos h0] at h; cases h
    rw [if_neg h0] at h
    by_cases h1 : (a.toNat : Int) > 57
    · rw [if_pos h1] at h; cases h
    rw [if_neg h1] at h
    by_cases h2 : (b.toNat : Int) < 48
    · rw [if_pos h2] at h; cases h
    rw [if_neg h2] at h
    by_cases h3 : (b.toNat : Int) > 57
    · rw [if_pos h3] at h; cases h
    rw [if_neg h3] at h
    by_cases h4 : (c.toNat : Int) < 48
    · rw [if_pos h4] at h; cases h
    rw [if_neg h4] at h
    by_cases h5 : (c.toNat : Int) > 57
    · rw [if_pos h5] at h; cases h
    obtain ⟨d, hd, e1, q1⟩ := of_digit a h0 h1
    obtain ⟨f, hf, e2, q2⟩ := of_digit b h2 h3
    obtain ⟨g, hg, e3, q3⟩ := of_digit c h4 h5
    have hd0 : d ≠ 0 := by
      rintro rfl
      exact hz (Or.inr (Or.inr ⟨by omega, by omega⟩))
    refine ⟨d * 100 + f * 10 + g, by omega, ?_⟩
    unfold dec3; rw [if_neg (by omega), if_neg (by omega), show (d * 100 + f * 10 + g) / 100 = d by omega, show (d * 100 + f * 10 + g) / 10 % 10 = f by omega, show (d * 100 + f * 10 + g) % 10 = g by omega, e1, e2, e3]
  | a :: b :: c :: d :: l =>
    unfold Vk.nv at h
    rw [if_pos (Or.inr (Or.inl (by show 3 < (a :: b :: c :: d :: l).length; simp)))] at h
    cases h
theorem same (s : ByteArray) : (Vb.dcv s).2 = (Vk.nv s).2 ∧ ((Vk.nv s).2 = true → (Vb.dcv s).1 = (Vk.nv s).1 ∧ 0 ≤ (Vk.nv s).1 ∧ (Vk.nv s).1 ≤ 999) := by
  have good : ∀ v, v < 1000 → s.data.toList = dec3 v → Vk.nv s = ((v : Int), true) ∧ Vb.dcv s = ((v : Int), true) := by
    intro v hv hs
    have es : s = ⟨(dec3 v).toArray⟩ := by
      apply ByteArray.ext
      show s.data = (dec3 v).toArray
      rw [← hs, Array.toArray_toList]
    have t := tab ⟨v, hv⟩
    refine ⟨by rw [es]; exact t.1, ?_⟩
    unfold Vb.dcv
    rw [hs, show Lib.atoiAll (dec3 v) = .ok (v : Int) from t.2]
    have h1 : s.size ≤ 3 := by
      have : s.size = s.data.toList.length := rfl
      rw [this, hs]; exact dec3_length v
    have h2 : Lib.itoa (v : Int) = dec3 v := by
      unfold Lib.itoa; rw [if_neg (by omega), Int.toNat_natCast, digits_dec3 v hv]
    simp only [h1, h2, decide_true, Bool.and_true, decide_eq_true_eq, Prod.mk.injEq, true_and]
    omega
  by_cases h : (Vk.nv s).2 = true
  · obtain ⟨v, hv, hs⟩ := forward s h
    obtain ⟨g1, g2⟩ := good v hv hs
    rw [g1, g2]
    exact ⟨rfl, fun _ => ⟨rfl, by simp, by simp; omega⟩⟩
  · refine ⟨?_, fun g => absurd g h⟩
    have hn : (Vk.nv s).2 = false := by simpa using h
    rw [hn]
    by_cases q : (Vb.dcv s).2 = true
    · exfalso
      unfold Vb.dcv at q
      cases ha : Lib.atoiAll s.data.toList with
      | ok v =>
        rw [ha] at q
        simp only [Bool.and_eq_true, decide_eq_true_eq] at q
        obtain ⟨q0, q1, q2⟩ := q
        have hl : (Lib.decDigits v.toNat).length = s.size := by
          have : s.size = s.data.toList.length := rfl
          rw [this, ← q2]; unfold Lib.itoa; rw [if_neg (by omega)]
        rw [Lib.decDigits_length] at hl
        have hb := Lib.lt_pow_nDigits v.toNat
        have hp : 10 ^ Lib.nDigits v.toNat ≤ 10 ^ 3 := Nat.pow_le_pow_right (by decide) (by omega)
        have hv : v.toNat < 1000 := by omega
        have e : s.data.toList = dec3 v.toNat := by
          rw [← q2]; unfold Lib.itoa; rw [if_neg (by omega), digits_dec3 _ hv]
        rw [(good _ hv e).1] at hn
        cases hn
      | «syntax» => rw [ha] at q; cases q
      | range => rw [ha] at q; cases q
    · simpa using q
/-! ### pieces -/
theorem count_one (c : UInt8) : ∀ (n : Nat) (l : List UInt8), l.length ≤ n → Lib.count l [c] = Lib.countByte l c := by
  intro n
  induction n with
  | zero =>
    intro l hl
    obtain rfl : l = [] := List.length_eq_zero_iff.1 (by omega)
    rfl
  | succ n ih =>
    intro l hl
    have hi := Vb.index_one c l
    rcases Int.lt_or_le (Lib.indexByte l c) 0 with h | h
    · have h1 : Lib.indexByte l c = -1 := by have := Lib.indexByte_ge l c; omega
      rw [Lib.count_miss (hi.trans h1)]
      have := Lib.indexByte_none h1
      unfold Lib.countByte
      symm
      rw [List.count_eq_zero]
      intro hm
      obtain ⟨k, hk, e⟩ := List.getElem_of_mem hm
      exact this k (by rw [List.getElem?_eq_getElem hk, e])
    · obtain ⟨o, ho⟩ := Int.eq_ofNat_of_zero_le h
      obtain ⟨g1, g2⟩ := Lib.indexByte_some ho
      have hlt : o < l.length := by
        rcases Nat.lt_or_ge o l.length with q | q
        · exact q
        · rw [List.getElem?_eq_none q] at g1; cases g1
      rw [Lib.count_hit (i := o) (by simp) (hi.trans ho)]
      show 1 + Lib.count (l.drop (o + 1)) [c] = _
      rw [ih _ (by rw [List.length_drop]; omega)]
      unfold Lib.countByte
      have hsplit : l = l.take o ++ c :: l.drop (o + 1) := by
        have e1 : l[o] = c := by
          rw [List.getElem?_eq_getElem hlt] at g1; exact Option.some.inj g1
        rw [← e1, ← List.drop_eq_getElem_cons hlt, List.take_append_drop]
      have hz : (l.take o).count c = 0 := by
        rw [List.count_eq_zero]
        intro hm
        obtain ⟨k, hk, e⟩ := List.getElem_of_mem hm
        rw [List.length_take] at hk
        rw [List.getElem_take] at e
        exact g2 k (by omega) (by rw [List.getElem?_eq_getElem (by omega), e])
      conv => rhs; rw [hsplit, List.count_append, hz, List.count_cons_self]
      omega
theorem countB_one (s : ByteArray) (c : UInt8) : Lib.countB s ⟨#[c]⟩ = Lib.countByte s.data.toList c := count_one c _ _ (Nat.le_refl _)
theorem indexB_one (s : ByteArray) (c : UInt8) : Lib.indexB s ⟨#[c]⟩ = Lib.indexByte s.data.toList c := Vb.index_one c _
end Go.Proofs.YtbdcaadehfbnbaaDoor.Dc
