/- What the reference's functions of sets of prefixes come to. -/
import Derived.Test.YtbdcaadehfbnbaaDoorQPxPsetMakes
import Derived.Test.YtbdcaadehfbnbaaDoorGPsetMakesx10
import Derived.Test.YtbdcaadehfbnbaaDoorQCn
namespace Go.Proofs.YtbdcaadehfbnbaaDoor.Pa
open Go Go.RowKit Go.Proofs.YtbdcaadehfbnbaaDoorW.PrintWords Go.Proofs.YtbdcaadehfbnbaaDoorW.PrintLast Go.Proofs.YtbdcaadehfbnbaaDoorW.PrintMore Go.Proofs.YtbdcaadehfbnbaaDoor.Pl Go.Proofs.YtbdcaadehfbnbaaDoor.Bm Go.Proofs.YtbdcaadehfbnbaaDoor.GPsetMakes Go.Proofs.YtbdcaadehfbnbaaDoor.PxPsetMakes Go.Proofs.YtbdcaadehfbnbaaDoor.Cn
set_option linter.unusedVariables false
set_option linter.unusedSimpArgs false

theorem plus1 (i : Nat) (h : i ≤ 1000000000000) : wrap64 ((i : Int) + 1) = ((i + 1 : Nat) : Int) := by rw [w64 (by omega) (by omega)]; omega
theorem rdT (l : List S24) (i : Nat) (h : i < l.length) : l.drop i = rd_T24 l (i : Int) :: l.drop (i + 1) := by
  rw [List.drop_eq_getElem_cons h]
  congr 1
  show l[i] = l.getD (i : Int).toNat z24
  rw [Int.toNat_natCast, List.getD_eq_getElem?_getD, List.getElem?_eq_getElem h]; rfl
/-! ### blocks as prefixes -/
/-- a block: address and level -/
def tq (p : Nat × Nat) : S24 := ⟨(p.1 : Int), 32 - (p.2 : Int)⟩
/-- address and bits -/
def toS (p : Nat × Nat) : S24 := ⟨(p.1 : Int), (p.2 : Int)⟩
theorem toS_tq (b j : Nat) (h : j ≤ 32) : toS (b, 32 - j) = tq (b, j) := by
  unfold toS tq
  show (⟨(b : Int), ((32 - j : Nat) : Int)⟩ : S24) = ⟨(b : Int), 32 - (j : Int)⟩
  congr 1; omega
structure Blk (p : Nat × Nat) : Prop where
  le : p.2 ≤ 32
  dvd : 2 ^ p.2 ∣ p.1
  top : p.1 + 2 ^ p.2 ≤ 4294967296
def U (L : List (Nat × Nat)) (x : Nat) : Prop := ∃ q ∈ L, q.1 ≤ x ∧ x < q.1 + 2 ^ q.2
theorem B_lev (j : Nat) (h : j ≤ 32) : B (32 - (j : Int)) = 2 ^ j := by
  unfold B
  rw [show (32 - (32 - (j : Int))).toNat = j by omega]
theorem pow_le32 {j : Nat} (h : j ≤ 32) : 2 ^ j ≤ 4294967296 := Nat.pow_le_pow_right (by decide) h
def sub (p q : Nat × Nat) : Prop := p.2 ≤ q.2 ∧ q.1 ≤ p.1 ∧ p.1 < q.1 + 2 ^ q.2
instance (p q : Nat × Nat) : Decidable (sub p q) := by unfold sub; exact inferInstance
/-- a block that meets another one -/
theorem nest {p q : Nat × Nat} (hp : 2 ^ p.2 ∣ p.1) (hq : 2 ^ q.2 ∣ q.1) (x : Nat) (h1 : p.1 ≤ x) (h2 : x < p.1 + 2 ^ p.2) (h3 : q.1 ≤ x) (h4 : x < q.1 + 2 ^ q.2) : sub p q ∨ sub q p := by
  have key : ∀ {p q : Nat × Nat}, 2 ^ p.2 ∣ p.1 → 2 ^ q.2 ∣ q.1 → p.1 ≤ x → x < p.1 + 2 ^ p.2 → q.1 ≤ x → x < q.1 + 2 ^ q.2 → p.2 ≤ q.2 → sub p q := by
    intro p q hp hq h1 h2 h3 h4 h
    have hd : 2 ^ p.2 ∣ q.1 := Nat.dvd_trans (Nat.pow_dvd_pow 2 h) hq
    have hp0 := Nat.two_pow_pos p.2
    refine ⟨h, ?_, by omega⟩
    rcases Nat.lt_or_ge p.1 q.1 with g | g
    · have := between hd hp g; omega
    · exact g
  rcases Nat.le_total p.2 q.2 with h | h
  · exact Or.inl (key hp hq h1 h2 h3 h4 h)
  · exact Or.inr (key hq hp h3 h4 h1 h2 h)
theorem sub_end {p q : Nat × Nat} (hp : 2 ^ p.2 ∣ p.1) (hq : 2 ^ q.2 ∣ q.1) (h : sub p q) : p.1 + 2 ^ p.2 ≤ q.1 + 2 ^ q.2 := by
  have hd : 2 ^ p.2 ∣ q.1 + 2 ^ q.2 := Nat.dvd_trans (Nat.pow_dvd_pow 2 h.1) (Nat.dvd_add hq (Nat.dvd_refl _))
  exact between hd hp h.2.2
theorem In_ev' (b j a : Nat) (hj : j ≤ 32) (hb : b + 2 ^ j ≤ 4294967296) (ha : a < 4294967296) : Ev (fun k => patchbayref2_In.f k (b : Int) (32 - (j : Int)) (a : Int)) (decide (b ≤ a ∧ a < b + 2 ^ j)) := by
  unfold patchbayref2_In.f
  have hp := Nat.two_pow_pos j
  by_cases g : b ≤ a
  · refine Ev.pos (by omega) (Ev.bind (Block_ev (32 - (j : Int)) (by omega) (by omega)) (Ev.val ?_))
    rw [B_lev j hj, wrap_u64, wrap_u64, wrap_u64, Int.emod_eq_of_lt (a := (a : Int)) (by omega) (by omega), Int.emod_eq_of_lt (a := (b : Int)) (by omega) (by omega), Int.emod_eq_of_lt (by omega) (by omega)]
    rw [Bool.eq_iff_iff, decide_eq_true_eq, decide_eq_true_eq]
    omega
  · refine Ev.eq (decide_eq_false (fun q => g q.1)) (Ev.neg (by omega) (Ev.now _))
theorem Below_ev (p q : Nat × Nat) (hp : Blk p) (hq : Blk q) : Ev (fun k => patchbayref2_Below.f k (tq p).f0 (tq p).f1 (tq q).f0 (tq q).f1) (decide (sub p q)) := by
  have h0 := Nat.two_pow_pos p.2
  have h1 := hp.le
  have h2 := hq.le
  have h3 := hp.top
  have h4 := hq.top
  show Ev (fun k => patchbayref2_Below.f k (p.1 : Int) (32 - (p.2 : Int)) (q.1 : Int) (32 - (q.2 : Int))) _
  unfold patchbayref2_Below.f
  by_cases g : p.2 ≤ q.2
  · refine Ev.pos (by omega) (Ev.bind (In_ev' q.1 q.2 p.1 h2 h4 (by omega)) (Ev.val ?_))
    rw [Bool.eq_iff_iff, decide_eq_true_eq, decide_eq_true_eq]
    unfold sub
    exact ⟨fun h => ⟨g, h⟩, fun h => h.2⟩
  · exact Ev.eq (decide_eq_false (fun q => g q.1)) (Ev.neg (by omega) (Ev.now _))
theorem halves_ev (b j : Nat) (h : Blk (b, j + 1)) : Ev (fun k => patchbayref2_halves.f k (b : Int) (32 - ((j + 1 : Nat) : Int))) ((b : Int), 32 - (j : Int), ((b + 2 ^ j : Nat) : Int), 32 - (j : Int)) := by
  have hl : j + 1 ≤ 32 := h.le
  have ht : b + 2 ^ (j + 1) ≤ 4294967296 := h.top
  have e : 2 ^ (j + 1) = 2 ^ j + 2 ^ j := by rw [Nat.pow_succ]; omega
  have hp := Nat.two_pow_pos j
  unfold patchbayref2_halves.f
  have e1 : wrap64 (32 - ((j + 1 : Nat) : Int) + 1) = 32 - (j : Int) := by rw [w64 (by omega) (by omega)]; omega
  rw [e1]
  refine Ev.bind (Block_ev (32 - (j : Int)) (by omega) (by omega)) (Ev.val ?_)
  rw [B_lev j (by omega)]
  have e2 : ((b : Int) + ((2 ^ j : Nat) : Int) % 4294967296) % 4294967296 = ((b + 2 ^ j : Nat) : Int) := by omega
  rw [e2]
theorem halves_blk {b j : Nat} (h : Blk (b, j + 1)) : Blk (b, j) ∧ Blk (b + 2 ^ j, j) := by
  have hl : j + 1 ≤ 32 := h.le
  have ht : b + 2 ^ (j + 1) ≤ 4294967296 := h.top
  have hd : 2 ^ (j + 1) ∣ b := h.dvd
  have e : 2 ^ (j + 1) = 2 ^ j + 2 ^ j := by rw [Nat.pow_succ]; omega
  have hd1 : 2 ^ j ∣ b := Nat.dvd_trans ⟨2, by rw [Nat.pow_succ]⟩ hd
  exact ⟨⟨by show j ≤ 32; omega, hd1, by show b + 2 ^ j ≤ _; omega⟩, ⟨by show j ≤ 32; omega, Nat.dvd_add hd1 (Nat.dvd_refl _), by show b + 2 ^ j + 2 ^ j ≤ _; omega⟩⟩
/-! ### the blocks of a set -/
theorem len_can (S : Nat → Prop) : ∀ j b, (can S j b).length ≤ 2 ^ j
  | 0, b => by
    by_cases g : full S 0 b
    · rw [can_full g]; simp
    · rw [can, if_neg g]; simp
  | j + 1, b => by
    have hp := Nat.two_pow_pos j
    by_cases g : full S (j + 1) b
    · rw [can_full g, Nat.pow_succ]; show 1 ≤ _; omega
    · rw [can_step g, List.length_append, Nat.pow_succ]
      have h1 := len_can S j b
      have h2 := len_can S j (b + 2 ^ j)
      omega
theorem bits_can (S : Nat → Prop) : ∀ j b, j ≤ 32 → ∀ p ∈ can S j b, 32 - j ≤ p.2
  | 0, b, hj, p, hp => by
    by_cases g : full S 0 b
    · rw [can_full g] at hp
      obtain rfl := List.mem_singleton.1 hp
      simp
    · rw [can, if_neg g] at hp; cases hp
  | j + 1, b, hj, p, hp => by
    by_cases g : full S (j + 1) b
    · rw [can_full g] at hp
      obtain rfl := List.mem_singleton.1 hp
      simp
    · rw [can_step g, List.mem_append] at hp
      rcases hp with hp | hp
      · have := bits_can S j b (by omega) p hp; omega
      · have := bits_can S j _ (by omega) p hp; omega
theorem single {S : Nat → Prop} {j b : Nat} (hj : j ≤ 32) (h : can S j b = [(b, 32 - j)]) : full S j b := by
  cases j with
  | zero =>
    by_cases g : full S 0 b
    · exact g
    · rw [can, if_neg g] at h; cases h
  | succ j =>
    by_cases g : full S (j + 1) b
    · exact g
    · exfalso
      rw [can_step g] at h
      have hm : (b, 32 - (j + 1)) ∈ can S j b ++ can S j (b + 2 ^ j) := by rw [h]; exact List.mem_singleton.2 rfl
      rw [List.mem_append] at hm
      rcases hm with hm | hm
      · have := bits_can S j b (by omega) _ hm
        simp at this; omega
      · have := bits_can S j _ (by omega) _ hm
        simp at this; omega
theorem toS_inj {p q : Nat × Nat} (h : toS p = toS q) : p = q := by
  unfold toS at h
  injection h with h1 h2
  exact Prod.ext (by omega) (by omega)
theorem map_toS_inj : ∀ {l m : List (Nat × Nat)}, l.map toS = m.map toS → l = m
  | [], [], _ => rfl
  | [], _ :: _, h => by simp at h
  | _ :: _, [], h => by simp at h
  | p :: l, q :: m, h => by
    simp only [List.map_cons, List.cons.injEq] at h
    rw [toS_inj h.1, map_toS_inj h.2]
end Go.Proofs.YtbdcaadehfbnbaaDoor.Pa
