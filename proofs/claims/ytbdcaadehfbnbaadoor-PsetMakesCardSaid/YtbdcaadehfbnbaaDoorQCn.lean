/- Plain facts on sets of numbers and their blocks: no program in sight. -/
import Derived.Lib.TrailingZeros
import Derived.Lib.Bytealg
namespace Go.Proofs.YtbdcaadehfbnbaaDoor.Cn
open Classical
set_option linter.unusedVariables false
set_option linter.unusedSimpArgs false
/-- all of a block is in the set -/
def full (S : Nat → Prop) (j b : Nat) : Prop := ∀ x, b ≤ x → x < b + 2 ^ j → S x
/-- the largest blocks in a set, in order: address and bits -/
noncomputable def can (S : Nat → Prop) : Nat → Nat → List (Nat × Nat)
  | 0, b => if full S 0 b then [(b, 32)] else []
  | j + 1, b => if full S (j + 1) b then [(b, 32 - (j + 1))] else can S j b ++ can S j (b + 2 ^ j)
theorem can_full {S : Nat → Prop} {j b : Nat} (h : full S j b) : can S j b = [(b, 32 - j)] := by
  cases j with
  | zero => unfold can; rw [if_pos h]
  | succ j => unfold can; rw [if_pos h]
theorem can_step {S : Nat → Prop} {j b : Nat} (h : ¬ full S (j + 1) b) : can S (j + 1) b = can S j b ++ can S j (b + 2 ^ j) := by
  rw [can, if_neg h]
theorem full_congr {S T : Nat → Prop} {j b : Nat} (h : ∀ x, b ≤ x → x < b + 2 ^ j → (S x ↔ T x)) : full S j b ↔ full T j b :=
  ⟨fun q x h1 h2 => (h x h1 h2).1 (q x h1 h2), fun q x h1 h2 => (h x h1 h2).2 (q x h1 h2)⟩
theorem can_congr {S T : Nat → Prop} : ∀ (j b : Nat), (∀ x, b ≤ x → x < b + 2 ^ j → (S x ↔ T x)) → can S j b = can T j b
  | 0, b, h => by
    by_cases g : full S 0 b
    · rw [can_full g, can_full ((full_congr h).1 g)]
    · have g2 : ¬ full T 0 b := fun q => g ((full_congr h).2 q)
      rw [can, can, if_neg g, if_neg g2]
  | j + 1, b, h => by
    have e : 2 ^ (j + 1) = 2 ^ j + 2 ^ j := by rw [Nat.pow_succ]; omega
    by_cases g : full S (j + 1) b
    · rw [can_full g, can_full ((full_congr h).1 g)]
    · have g2 : ¬ full T (j + 1) b := fun q => g ((full_congr h).2 q)
      rw [can_step g, can_step g2, can_congr j b (fun x h1 h2 => h x h1 (by omega)), can_congr j (b + 2 ^ j) (fun x h1 h2 => h x (by omega) (by omega))]
theorem can_none {S : Nat → Prop} : ∀ (j b : Nat), (∀ x, b ≤ x → x < b + 2 ^ j → ¬ S x) → can S j b = []
  | 0, b, h => by
    have g : ¬ full S 0 b := fun q => h b (Nat.le_refl _) (by simp) (q b (Nat.le_refl _) (by simp))
    rw [can, if_neg g]
  | j + 1, b, h => by
    have e : 2 ^ (j + 1) = 2 ^ j + 2 ^ j := by rw [Nat.pow_succ]; omega
    have hp := Nat.two_pow_pos j
    have g : ¬ full S (j + 1) b := fun q => h b (Nat.le_refl _) (by omega) (q b (Nat.le_refl _) (by omega))
    rw [can_step g, can_none j b (fun x h1 h2 => h x h1 (by omega)), can_none j (b + 2 ^ j) (fun x h1 h2 => h x (by omega) (by omega))]
    rfl
/-- two sets with a hole between them -/
theorem can_union {A B : Nat → Prop} (c : Nat) (hA : ∀ x, A x → x < c) (hB : ∀ x, B x → c < x) : ∀ (j b : Nat), can (fun x => A x ∨ B x) j b = can A j b ++ can B j b := by
  intro j
  induction j with
  | zero =>
    intro b
    rcases Nat.lt_trichotomy b c with h | h | h
    · rw [can_none (S := B) 0 b (fun x h1 h2 q => by have := hB x q; simp at h2; omega), List.append_nil]
      exact can_congr 0 b (fun x h1 h2 => ⟨fun q => q.elim id (fun q => by have := hB x q; simp at h2; omega), Or.inl⟩)
    · have n1 : ¬ A b := fun q => by have := hA b q; omega
      have n2 : ¬ B b := fun q => by have := hB b q; omega
      have eb : ∀ x, b ≤ x → x < b + 2 ^ 0 → x = b := fun x h1 h2 => by simp at h2; omega
      rw [can_none (S := A) 0 b (fun x h1 h2 q => n1 (eb x h1 h2 ▸ q)), can_none (S := B) 0 b (fun x h1 h2 q => n2 (eb x h1 h2 ▸ q))]
      exact can_none 0 b (fun x h1 h2 q => by have e := eb x h1 h2; subst e; exact q.elim n1 n2)
    · rw [can_none (S := A) 0 b (fun x h1 h2 q => by have := hA x q; omega), List.nil_append]
      exact can_congr 0 b (fun x h1 h2 => ⟨fun q => q.elim (fun q => by have := hA x q; omega) id, Or.inr⟩)
  | succ j ih =>
    intro b
    have e : 2 ^ (j + 1) = 2 ^ j + 2 ^ j := by rw [Nat.pow_succ]; omega
    have hp := Nat.two_pow_pos j
    rcases Nat.lt_or_ge c b with h | h
    · rw [can_none (S := A) (j + 1) b (fun x h1 h2 q => by have := hA x q; omega), List.nil_append]
      exact can_congr _ b (fun x h1 h2 => ⟨fun q => q.elim (fun q => by have := hA x q; omega) id, Or.inr⟩)
    rcases Nat.lt_or_ge c (b + 2 ^ (j + 1)) with g | g
    · have n1 : ¬ full A (j + 1) b := fun q => by have := hA c (q c h g); omega
      have n2 : ¬ full B (j + 1) b := fun q => by have := hB c (q c h g); omega
      have n3 : ¬ full (fun x => A x ∨ B x) (j + 1) b := fun q => (q c h g).elim (fun q => by have := hA c q; omega) (fun q => by have := hB c q; omega)
      rw [can_step n1, can_step n2, can_step n3, ih b, ih (b + 2 ^ j)]
      rcases Nat.lt_or_ge c (b + 2 ^ j) with k | k
      · rw [can_none (S := A) j (b + 2 ^ j) (fun x h1 h2 q => by have := hA x q; omega)]
        simp
      · rw [can_none (S := B) j b (fun x h1 h2 q => by have := hB x q; omega)]
        simp
    · rw [can_none (S := B) (j + 1) b (fun x h1 h2 q => by have := hB x q; omega), List.append_nil]
      exact can_congr _ b (fun x h1 h2 => ⟨fun q => q.elim id (fun q => by have := hB x q; omega), Or.inl⟩)
/-! ### an interval, block by block from below -/
def iv (f t : Nat) (x : Nat) : Prop := f ≤ x ∧ x < t
/-- the size of the next block -/
structure Top (f t k : Nat) : Prop where
  dvd : 2 ^ k ∣ f
  fits : f + 2 ^ k ≤ t
  le : k ≤ 32
  max : ∀ i, i ≤ 32 → 2 ^ i ∣ f → f + 2 ^ i ≤ t → i ≤ k
theorem full_iv (f t j b : Nat) : full (iv f t) j b ↔ (f ≤ b ∧ b + 2 ^ j ≤ t) := by
  have hp := Nat.two_pow_pos j
  constructor
  · intro h
    have h1 := h b (Nat.le_refl _) (by omega)
    have h2 := h (b + 2 ^ j - 1) (by omega) (by omega)
    unfold iv at h1 h2
    omega
  · rintro ⟨h1, h2⟩ x h3 h4
    exact ⟨by omega, by omega⟩
theorem pow_lt_of {i j : Nat} (h : 2 ^ i ≤ 2 ^ j) : i ≤ j := (Nat.pow_le_pow_iff_right (by decide)).1 h
theorem between {k m f : Nat} (h1 : 2 ^ k ∣ m) (h2 : 2 ^ k ∣ f) (h3 : f < m) : f + 2 ^ k ≤ m := by
  obtain ⟨a, rfl⟩ := h1
  obtain ⟨c, rfl⟩ := h2
  have : c < a := Nat.lt_of_mul_lt_mul_left h3
  calc 2 ^ k * c + 2 ^ k = 2 ^ k * (c + 1) := by rw [Nat.mul_add, Nat.mul_one]
    _ ≤ 2 ^ k * a := Nat.mul_le_mul_left _ this
theorem head (j : Nat) : ∀ (b f t k : Nat), j ≤ 32 → 2 ^ j ∣ b → b ≤ f → f < t → t ≤ b + 2 ^ j → Top f t k → can (iv f t) j b = (f, 32 - k) :: can (iv (f + 2 ^ k) t) j b := by
  induction j with
  | zero =>
    intro b f t k hj hb h1 h2 h3 hk
    have e1 : f = b := by simp at h3; omega
    have e2 : t = b + 1 := by simp at h3; omega
    subst e1
    subst e2
    have k0 : k = 0 := by
      have := hk.fits
      have : 2 ^ k ≤ 2 ^ 0 := by simp; omega
      have := pow_lt_of this
      omega
    subst k0
    rw [can_full ((full_iv _ _ _ _).2 ⟨Nat.le_refl _, by simp⟩), can_none 0 f (fun x h4 h5 q => by unfold iv at q; simp at q h5; omega)]
  | succ j ih =>
    intro b f t k hj hb h1 h2 h3 hk
    have e : 2 ^ (j + 1) = 2 ^ j + 2 ^ j := by rw [Nat.pow_succ]; omega
    have hp := Nat.two_pow_pos j
    have hkp := Nat.two_pow_pos k
    by_cases g : f ≤ b ∧ b + 2 ^ (j + 1) ≤ t
    · have e1 : f = b := by omega
      subst e1
      have hkj : k = j + 1 := by
        have h4 := hk.max (j + 1) hj hb g.2
        have h5 : 2 ^ k ≤ 2 ^ (j + 1) := by have := hk.fits; omega
        have := pow_lt_of h5
        omega
      subst hkj
      rw [can_full ((full_iv _ _ _ _).2 g), can_none _ _ (fun x h4 h5 q => by unfold iv at q; omega)]
    · have n1 : ¬ full (iv f t) (j + 1) b := fun q => g ((full_iv _ _ _ _).1 q)
      have n2 : ¬ full (iv (f + 2 ^ k) t) (j + 1) b := fun q => by have := (full_iv _ _ _ _).1 q; omega
      have hb1 : 2 ^ j ∣ b := Nat.dvd_trans ⟨2, by rw [Nat.pow_succ]⟩ hb
      have hb2 : 2 ^ j ∣ b + 2 ^ j := Nat.dvd_add hb1 (Nat.dvd_refl _)
      rw [can_step n1, can_step n2]
      rcases Nat.lt_or_ge f (b + 2 ^ j) with hf | hf
      · have hend : f + 2 ^ k ≤ b + 2 ^ j := by
          rcases Nat.lt_or_ge j k with q | q
          · exfalso
            have hd : 2 ^ (j + 1) ∣ f := Nat.dvd_trans (Nat.pow_dvd_pow 2 q) hk.dvd
            have hfb : f = b := by
              rcases Nat.lt_or_ge b f with q1 | q1
              · have := between hd hb q1; omega
              · omega
            have : 2 ^ (j + 1) ≤ 2 ^ k := Nat.pow_le_pow_right (by decide) q
            have := hk.fits
            omega
          · exact between (Nat.dvd_trans (Nat.pow_dvd_pow 2 q) hb2) hk.dvd hf
        have c1 : can (iv f t) j b = can (iv f (min t (b + 2 ^ j))) j b := can_congr _ _ (fun x h4 h5 => by unfold iv; omega)
        have c2 : can (iv (f + 2 ^ k) t) j b = can (iv (f + 2 ^ k) (min t (b + 2 ^ j))) j b := can_congr _ _ (fun x h4 h5 => by unfold iv; omega)
        have c3 : can (iv f t) j (b + 2 ^ j) = can (iv (f + 2 ^ k) t) j (b + 2 ^ j) := can_congr _ _ (fun x h4 h5 => by unfold iv; omega)
        have hk2 : Top f (min t (b + 2 ^ j)) k := ⟨hk.dvd, by have := hk.fits; omega, hk.le, fun i h4 h5 h6 => hk.max i h4 h5 (by omega)⟩
        rw [c1, c2, c3, ih b f (min t (b + 2 ^ j)) k (by omega) hb1 h1 (by omega) (by omega) hk2]
        rfl
      · rw [can_none j b (fun x h4 h5 q => by unfold iv at q; omega), can_none j b (fun x h4 h5 q => by unfold iv at q; omega)]
        simp only [List.nil_append]
        exact ih (b + 2 ^ j) f t k (by omega) hb2 hf h2 (by omega) hk
/-! ### how many blocks -/
theorem len_low : ∀ (j b t : Nat), (can (iv b t) j b).length ≤ j + 1
  | 0, b, t => by
    by_cases g : full (iv b t) 0 b
    · rw [can_full g]; simp
    · rw [can, if_neg g]; simp
  | j + 1, b, t => by
    by_cases g : full (iv b t) (j + 1) b
    · rw [can_full g]; simp
    · rw [can_step g, List.length_append]
      have h1 := len_low j b t
      rcases Nat.lt_or_ge t (b + 2 ^ j) with q | q
      · rw [can_none j (b + 2 ^ j) (fun x h4 h5 q => by unfold iv at q; omega)]; simp; omega
      · rw [can_full ((full_iv _ _ _ _).2 ⟨Nat.le_refl _, q⟩)]
        have e : can (iv b t) j (b + 2 ^ j) = can (iv (b + 2 ^ j) t) j (b + 2 ^ j) := can_congr _ _ (fun x h4 h5 => by unfold iv; omega)
        rw [e]
        have := len_low j (b + 2 ^ j) t
        simp; omega
theorem len_high : ∀ (j b f t : Nat), b + 2 ^ j ≤ t → (can (iv f t) j b).length ≤ j + 1
  | 0, b, f, t, ht => by
    by_cases g : full (iv f t) 0 b
    · rw [can_full g]; simp
    · rw [can, if_neg g]; simp
  | j + 1, b, f, t, ht => by
    have e : 2 ^ (j + 1) = 2 ^ j + 2 ^ j := by rw [Nat.pow_succ]; omega
    have hp := Nat.two_pow_pos j
    by_cases g : full (iv f t) (j + 1) b
    · rw [can_full g]; simp
    · rw [can_step g, List.length_append]
      rcases Nat.lt_or_ge f (b + 2 ^ j) with q | q
      · rw [can_full (j := j) (b := b + 2 ^ j) ((full_iv _ _ _ _).2 ⟨by omega, by omega⟩)]
        have := len_high j b f t (by omega)
        simp; omega
      · rw [can_none j b (fun x h4 h5 q => by unfold iv at q; omega)]
        have := len_high j (b + 2 ^ j) f t (by omega)
        simp; omega
theorem len_iv : ∀ (j b f t : Nat), (can (iv f t) j b).length ≤ 2 * (j + 1)
  | 0, b, f, t => by
    by_cases g : full (iv f t) 0 b
    · rw [can_full g]; simp
    · rw [can, if_neg g]; simp
  | j + 1, b, f, t => by
    by_cases g : full (iv f t) (j + 1) b
    · rw [can_full g]; show 1 ≤ _; omega
    · rw [can_step g, List.length_append]
      rcases Nat.lt_or_ge f (b + 2 ^ j) with q | q
      · have e : can (iv f t) j (b + 2 ^ j) = can (iv (b + 2 ^ j) t) j (b + 2 ^ j) := can_congr _ _ (fun x h4 h5 => by unfold iv; omega)
        rw [e]
        have h1 := len_low j (b + 2 ^ j) t
        rcases Nat.lt_or_ge t (b + 2 ^ j) with p | p
        · rw [can_none (S := iv (b + 2 ^ j) t) j (b + 2 ^ j) (fun x h4 h5 q => by unfold iv at q; omega)]
          have := len_iv j b f t
          simp; omega
        · have := len_high j b f t p
          omega
      · rw [can_none j b (fun x h4 h5 q => by unfold iv at q; omega)]
        have := len_iv j (b + 2 ^ j) f t
        simp; omega
end Go.Proofs.YtbdcaadehfbnbaaDoor.Cn
