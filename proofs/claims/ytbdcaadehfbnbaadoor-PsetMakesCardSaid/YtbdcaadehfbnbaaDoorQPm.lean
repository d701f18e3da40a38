/- The law on sets: PsetMakes comes to true. -/
import Derived.Test.YtbdcaadehfbnbaaDoorQPb
import Derived.Test.YtbdcaadehfbnbaaDoorQPc
namespace Go.Proofs.YtbdcaadehfbnbaaDoor.Pm
open Go Go.RowKit Go.Proofs.YtbdcaadehfbnbaaDoorW.PrintWords Go.Proofs.YtbdcaadehfbnbaaDoorW.PrintLast Go.Proofs.YtbdcaadehfbnbaaDoorW.PrintMore Go.Proofs.YtbdcaadehfbnbaaDoor.Pl Go.Proofs.YtbdcaadehfbnbaaDoor.Bm Go.Proofs.YtbdcaadehfbnbaaDoor.GPsetMakes Go.Proofs.YtbdcaadehfbnbaaDoor.PxPsetMakes Go.Proofs.YtbdcaadehfbnbaaDoor.Cn Go.Proofs.YtbdcaadehfbnbaaDoor.Pa Go.Proofs.YtbdcaadehfbnbaaDoor.Pb Go.Proofs.YtbdcaadehfbnbaaDoor.Pc
set_option linter.unusedVariables false
set_option linter.unusedSimpArgs false
theorem el_eq (k : Nat) (x0 : List (S24)) (x1 : List (S24)) (x12 : Int) (x13 : Int) : api_Prefix_51.l0 (k + 1) x0 x1 x12 x13 = if x13 < x12 then (if 0 ≤ x13 then (if x13 < (x0.length : Int) then (if x13 < (x1.length : Int) then (if (!(((rd_T24 x0 x13).f0) == ((rd_T24 x1 x13).f0)) || (!(((rd_T24 x0 x13).f1) == ((rd_T24 x1 x13).f1)))) = true then (some false) else (api_Prefix_51.l0 k x0 x1 x12 (wrap64 (x13 + 1)))) else (none)) else (none)) else (none)) else (some true) := rfl
theorem sm_eq (k : Nat) (x1 : List (S24)) (x12 : List (S24)) (x13 : Int) (x14 : Int) : patchbayref2_SamePrefixes.l0 (k + 1) x1 x12 x13 x14 = if x14 < x13 then (if 0 ≤ x14 then (if x14 < (x12.length : Int) then (if x14 < (x1.length : Int) then (if (!(((rd_T24 x12 x14).f0) == ((rd_T24 x1 x14).f0)) || (!(((rd_T24 x12 x14).f1) == ((rd_T24 x1 x14).f1)))) = true then (some false) else (patchbayref2_SamePrefixes.l0 k x1 x12 x13 (wrap64 (x14 + 1)))) else (none)) else (none)) else (none)) else (some true) := rfl
theorem wr_eq (k : Nat) (x9 : List (S24)) (x10 : Int) (x11 : Int) : pset_wrong.l0 (k + 1) x9 x10 x11 = if x11 < x10 then (if 0 ≤ x11 then (if x11 < (x9.length : Int) then ((addr_Check.f ((rd_T24 x9 x11).f0) ((rd_T24 x9 x11).f1)).bind fun t106 => (if t106 = 0 then (pset_wrong.l0 k x9 x10 (wrap64 (x11 + 1))) else (some t106))) else (none)) else (none)) else (some 0) := rfl
theorem pf_eq (k : Nat) (x9 : List (S24)) (x10 : Int) (x11 : Int) : patchbayref2_PrefixesFault.l0 (k + 1) x9 x10 x11 = if x11 < x10 then (if 0 ≤ x11 then (if x11 < (x9.length : Int) then ((patchbayref2_PrefixFault.f k ((rd_T24 x9 x11).f0) ((rd_T24 x9 x11).f1)).bind fun t179 => (if t179 = 0 then (patchbayref2_PrefixesFault.l0 k x9 x10 (wrap64 (x11 + 1))) else (some t179))) else (none)) else (none)) else (some 0) := rfl
theorem m0_eq (k : Nat) (x0 : List (S24)) (x1 : Int) (x2 : Int) (x7 : Int) (x8 : List (S24)) (x32 : Bool) : patchbaylaw2_PsetMakes.j0 (k + 1) x0 x1 x2 x7 x8 x32 = if x32 = true then (some false) else (if x7 = 0 then ((patchbayref2_SetOf.f k x0).bind fun t318 => ((patchbayref2_SamePrefixes.f k x8 t318).bind fun t321 => (if t321 = true then (patchbaylaw2_PsetMakes.j1 k x1 x2 false) else (patchbaylaw2_PsetMakes.j1 k x1 x2 true)))) else (patchbaylaw2_PsetMakes.j1 k x1 x2 (decide ((x8.length : Int) > 0)))) := rfl
theorem m1_eq (k : Nat) (x1 : Int) (x2 : Int) (x50 : Bool) : patchbaylaw2_PsetMakes.j1 (k + 1) x1 x2 x50 = if x50 = true then (some false) else ((pset_Range.f k x1 x2).bind fun bt322 => (if x1 > x2 then (if bt322.2 = 1 then (some ((bt322.1.length : Int) == 0)) else (some false)) else (if bt322.2 = 0 then ((patchbayref2_SetRange.f k x1 x2).bind fun t326 => ((patchbayref2_SamePrefixes.f k bt322.1 t326).bind fun t329 => (some t329))) else (some false)))) := rfl

/-! ### no more blocks than prefixes -/
def inb (j b : Nat) (q : Nat × Nat) : Bool := decide (b ≤ q.1 ∧ q.1 + 2 ^ q.2 ≤ b + 2 ^ j)
theorem count_two (p q r : (Nat × Nat) → Bool) (h : ∀ x, p x = true → q x = true → False) (hp : ∀ x, p x = true → r x = true) (hq : ∀ x, q x = true → r x = true) : ∀ L : List (Nat × Nat), L.countP p + L.countP q ≤ L.countP r
  | [] => Nat.le_refl _
  | x :: L => by
    have ih := count_two p q r h hp hq L
    rw [List.countP_cons, List.countP_cons, List.countP_cons]
    by_cases a : p x = true
    · have b : ¬ q x = true := fun c => h x a c
      rw [if_pos a, if_neg b, if_pos (hp x a)]; omega
    · by_cases b : q x = true
      · rw [if_neg a, if_pos b, if_pos (hq x b)]; omega
      · rw [if_neg a, if_neg b]; split <;> omega
theorem few (L : List (Nat × Nat)) (hL : ∀ q ∈ L, Blk q) (j : Nat) : ∀ b, 2 ^ j ∣ b → (∀ q ∈ L, ¬ (j < q.2 ∧ q.1 ≤ b ∧ b < q.1 + 2 ^ q.2)) → (can (U L) j b).length ≤ L.countP (inb j b) := by
  have base : ∀ (j b : Nat), 2 ^ j ∣ b → (∀ q ∈ L, ¬ (j < q.2 ∧ q.1 ≤ b ∧ b < q.1 + 2 ^ q.2)) → full (U L) j b → (can (U L) j b).length ≤ L.countP (inb j b) := by
    intro j b hb hn hf
    have hp := Nat.two_pow_pos j
    rw [can_full hf]
    show 1 ≤ _
    obtain ⟨q, hq, h1, h2⟩ := hf b (Nat.le_refl _) (by omega)
    have hq2 : q.2 ≤ j := by
      rcases Nat.lt_or_ge j q.2 with g | g
      · exact absurd ⟨g, h1, h2⟩ (hn q hq)
      · exact g
    have hd : 2 ^ q.2 ∣ b := Nat.dvd_trans (Nat.pow_dvd_pow 2 hq2) hb
    have e : q.1 = b := by
      rcases Nat.lt_or_ge q.1 b with g | g
      · have := between hd (hL q hq).dvd g; omega
      · omega
    have hle : 2 ^ q.2 ≤ 2 ^ j := Nat.pow_le_pow_right (by decide) hq2
    exact List.countP_pos_iff.2 ⟨q, hq, decide_eq_true ⟨by omega, by omega⟩⟩
  induction j with
  | zero =>
    intro b hb hn
    by_cases hf : full (U L) 0 b
    · exact base 0 b hb hn hf
    · rw [can, if_neg hf]; exact Nat.zero_le _
  | succ j ih =>
    intro b hb hn
    by_cases hf : full (U L) (j + 1) b
    · exact base (j + 1) b hb hn hf
    · have e : 2 ^ (j + 1) = 2 ^ j + 2 ^ j := by rw [Nat.pow_succ]; omega
      have hp := Nat.two_pow_pos j
      have hb1 : 2 ^ j ∣ b := Nat.dvd_trans ⟨2, by rw [Nat.pow_succ]⟩ hb
      have hb2 : 2 ^ j ∣ b + 2 ^ j := Nat.dvd_add hb1 (Nat.dvd_refl _)
      have big : ∀ q ∈ L, j < q.2 → ∀ x, b ≤ x → x < b + 2 ^ (j + 1) → q.1 ≤ x → x < q.1 + 2 ^ q.2 → False := by
        intro q hq hj x h1 h2 h3 h4
        have hs : sub (b, j + 1) q := by
          rcases nest (p := (b, j + 1)) hb (hL q hq).dvd x h1 h2 h3 h4 with g | g
          · exact g
          · have e3 : q.2 = j + 1 := Nat.le_antisymm g.1 hj
            refine ⟨by show j + 1 ≤ _; omega, ?_, ?_⟩
            · have h5 : b ≤ q.1 := g.2.1
              have h6 : q.1 < b + 2 ^ (j + 1) := g.2.2
              have hd : 2 ^ (j + 1) ∣ q.1 := e3 ▸ (hL q hq).dvd
              show q.1 ≤ b
              rcases Nat.lt_or_ge b q.1 with k | k
              · have := between hd hb k; omega
              · exact k
            · have h5 : b ≤ q.1 := g.2.1
              have := Nat.two_pow_pos q.2
              show b < q.1 + 2 ^ q.2
              omega
        have he := sub_end hb (hL q hq).dvd hs
        have h7 : q.1 ≤ b := hs.2.1
        have h8 : b + 2 ^ (j + 1) ≤ q.1 + 2 ^ q.2 := he
        exact hf fun y h5 h6 => ⟨q, hq, by omega, by omega⟩
      rw [can_step hf, List.length_append]
      have a1 := ih b hb1 (fun q hq h => big q hq h.1 b (Nat.le_refl _) (by omega) h.2.1 h.2.2)
      have a2 := ih (b + 2 ^ j) hb2 (fun q hq h => big q hq h.1 (b + 2 ^ j) (by omega) (by omega) h.2.1 h.2.2)
      refine Nat.le_trans (Nat.add_le_add a1 a2) (count_two _ _ _ ?_ ?_ ?_ L)
      · intro x h1 h2
        have h3 := of_decide_eq_true h1
        have h4 := of_decide_eq_true h2
        have := Nat.two_pow_pos x.2
        omega
      · intro x h1
        have h3 := of_decide_eq_true h1
        exact decide_eq_true ⟨by omega, by omega⟩
      · intro x h1
        have h3 := of_decide_eq_true h1
        exact decide_eq_true ⟨by omega, by omega⟩
theorem few_all (L : List (Nat × Nat)) (hL : ∀ q ∈ L, Blk q) : (can (U L) 32 0).length ≤ L.length :=
  Nat.le_trans (few L hL 32 0 (Nat.dvd_zero _) (fun q hq h => by have := (hL q hq).le; omega)) (List.countP_le_length)
/-! ### valid lists are lists of blocks -/
def back (q : S24) : Nat × Nat := (q.f0.toNat, (32 - q.f1).toNat)
theorem back_tq (p : Nat × Nat) (h : p.2 ≤ 32) : back (tq p) = p := by
  unfold back tq
  exact Prod.ext (by show ((p.1 : Int)).toNat = _; omega) (by show (32 - (32 - (p.2 : Int))).toNat = _; omega)
theorem tq_back (q : S24) (a0 : 0 ≤ q.f0) (h : pf q.f0 q.f1 = 0) : tq (back q) = q := by
  obtain ⟨n0, n1, _⟩ := pf_ok h
  unfold back tq
  show (⟨((q.f0.toNat : Nat) : Int), 32 - (((32 - q.f1).toNat : Nat) : Int)⟩ : S24) = q
  have e1 : ((q.f0.toNat : Nat) : Int) = q.f0 := by omega
  have e2 : 32 - (((32 - q.f1).toNat : Nat) : Int) = q.f1 := by omega
  rw [e1, e2]
theorem blk_back (q : S24) (a0 : 0 ≤ q.f0) (a1 : q.f0 < 4294967296) (h : pf q.f0 q.f1 = 0) : Blk (back q) := by
  obtain ⟨n0, n1, hm⟩ := pf_ok h
  have hj : (32 - q.f1).toNat ≤ 32 := by omega
  have hB : B q.f1 = 2 ^ (32 - q.f1).toNat := rfl
  rw [hB] at hm
  have hd : 2 ^ (32 - q.f1).toNat ∣ q.f0.toNat := by
    have : ((2 ^ (32 - q.f1).toNat : Nat) : Int) ∣ ((q.f0.toNat : Nat) : Int) := by
      rw [show ((q.f0.toNat : Nat) : Int) = q.f0 by omega]
      exact Int.dvd_of_emod_eq_zero hm
    exact Int.natCast_dvd_natCast.1 this
  refine ⟨hj, hd, ?_⟩
  have h32 : 2 ^ (32 - q.f1).toNat ∣ 4294967296 := Nat.pow_dvd_pow 2 hj
  exact between h32 hd (by show q.f0.toNat < 4294967296; omega)
/-- the first fault -/
def firstf : List S24 → Int
  | [] => 0
  | q :: r => if pf q.f0 q.f1 = 0 then firstf r else pf q.f0 q.f1
def Rng (l : List S24) : Prop := ∀ q ∈ l, 0 ≤ q.f0 ∧ q.f0 < 4294967296
theorem firstf_ok : ∀ l : List S24, firstf l = 0 → ∀ q ∈ l, pf q.f0 q.f1 = 0
  | [], _, q, h => by cases h
  | p :: r, h, q, hq => by
    unfold firstf at h
    by_cases g : pf p.f0 p.f1 = 0
    · rw [if_pos g] at h
      rcases List.mem_cons.1 hq with rfl | hq
      · exact g
      · exact firstf_ok r h q hq
    · rw [if_neg g] at h; exact absurd h g
theorem blocks_of (l : List S24) (hr : Rng l) (h : firstf l = 0) : ∃ L : List (Nat × Nat), l = L.map tq ∧ (∀ q ∈ L, Blk q) ∧ L.length = l.length := by
  refine ⟨l.map back, ?_, ?_, List.length_map ..⟩
  · rw [List.map_map]
    symm
    have : l.map (tq ∘ back) = l.map id := List.map_congr_left fun q hq => tq_back q (hr q hq).1 (firstf_ok l h q hq)
    rw [this, List.map_id]
  · intro p hp
    obtain ⟨q, hq, rfl⟩ := List.mem_map.1 hp
    exact blk_back q (hr q hq).1 (hr q hq).2 (firstf_ok l h q hq)
theorem wrong_l0 (l : List S24) (hr : Rng l) (hl : l.length ≤ 256) (d : Nat) : ∀ i : Nat, i + d = l.length → Ev (fun k => pset_wrong.l0 k l (l.length : Int) (i : Int)) (firstf (l.drop i)) := by
  induction d with
  | zero =>
    intro i hi
    rw [List.drop_of_length_le (by omega)]
    exact Ev.step (fun k => wr_eq k _ _ _) (Ev.neg (by omega) (Ev.now _))
  | succ d ih =>
    intro i hi
    have hm : rd_T24 l (i : Int) ∈ l := by
      have hd := rdT l i (by omega)
      have : rd_T24 l (i : Int) ∈ l.drop i := by rw [hd]; exact List.mem_cons_self
      exact List.mem_of_mem_drop this
    obtain ⟨r0, r1⟩ := hr _ hm
    refine Ev.step (fun k => wr_eq k _ _ _) (Ev.pos (by omega) (Ev.pos (by omega) (Ev.pos (by omega) ?_)))
    rw [rdT l i (by omega), plus1 i (by omega)]
    refine Ev.bind (g := fun _ => addr_Check.f _ _) (Ev.congr (fun _ => Check_eq _ _ r0 r1) (Ev.now _)) ?_
    unfold firstf
    by_cases g : pf (rd_T24 l (i : Int)).f0 (rd_T24 l (i : Int)).f1 = 0
    · exact Ev.eq (if_pos g) (Ev.pos g (ih (i + 1) (by omega)))
    · exact Ev.eq (if_neg g) (Ev.neg g (Ev.now _))
theorem wrong_ev (l : List S24) (hr : Rng l) (hl : l.length ≤ 256) : Ev (fun k => pset_wrong.f k l) (firstf l) := by
  unfold pset_wrong.f
  exact Ev.neg (by omega) (wrong_l0 l hr hl l.length 0 (by omega))
theorem fault_l0 (l : List S24) (hr : Rng l) (hl : l.length ≤ 256) (d : Nat) : ∀ i : Nat, i + d = l.length → Ev (fun k => patchbayref2_PrefixesFault.l0 k l (l.length : Int) (i : Int)) (firstf (l.drop i)) := by
  induction d with
  | zero =>
    intro i hi
    rw [List.drop_of_length_le (by omega)]
    exact Ev.step (fun k => pf_eq k _ _ _) (Ev.neg (by omega) (Ev.now _))
  | succ d ih =>
    intro i hi
    have hm : rd_T24 l (i : Int) ∈ l := by
      have hd := rdT l i (by omega)
      have : rd_T24 l (i : Int) ∈ l.drop i := by rw [hd]; exact List.mem_cons_self
      exact List.mem_of_mem_drop this
    obtain ⟨r0, r1⟩ := hr _ hm
    refine Ev.step (fun k => pf_eq k _ _ _) (Ev.pos (by omega) (Ev.pos (by omega) (Ev.pos (by omega) ?_)))
    rw [rdT l i (by omega), plus1 i (by omega)]
    refine Ev.bind (Fault_ev _ _ r0 r1) ?_
    unfold firstf
    by_cases g : pf (rd_T24 l (i : Int)).f0 (rd_T24 l (i : Int)).f1 = 0
    · exact Ev.eq (if_pos g) (Ev.pos g (ih (i + 1) (by omega)))
    · exact Ev.eq (if_neg g) (Ev.neg g (Ev.now _))
theorem faults_ev (l : List S24) (hr : Rng l) (hl : l.length ≤ 256) : Ev (fun k => patchbayref2_PrefixesFault.f k l) (firstf l) := by
  unfold patchbayref2_PrefixesFault.f
  exact Ev.neg (by omega) (fault_l0 l hr hl l.length 0 (by omega))
/-! ### lists compared -/
def eqB : List S24 → List S24 → Bool
  | [], [] => true
  | x :: l, y :: m => (x.f0 == y.f0 && x.f1 == y.f1) && eqB l m
  | _, _ => false
theorem eqB_refl : ∀ l, eqB l l = true
  | [] => rfl
  | x :: l => by unfold eqB; rw [eqB_refl l]; simp
theorem eqB_len : ∀ l m, l.length ≠ m.length → eqB l m = false
  | [], [], h => absurd rfl h
  | [], _ :: _, _ => rfl
  | _ :: _, [], _ => rfl
  | x :: l, y :: m, h => by unfold eqB; rw [eqB_len l m (by simpa using h)]; simp
theorem ne_cond (a b c d : Int) : (!(a == b) || (!(c == d))) = !(a == b && c == d) := by
  cases (a == b) <;> cases (c == d) <;> rfl
theorem equal_l0 (l m : List S24) (hlm : l.length = m.length) (hl : l.length ≤ 1000000) (d : Nat) : ∀ i : Nat, i + d = l.length → Ev (fun k => api_Prefix_51.l0 k l m (l.length : Int) (i : Int)) (eqB (l.drop i) (m.drop i)) := by
  induction d with
  | zero =>
    intro i hi
    rw [List.drop_of_length_le (by omega), List.drop_of_length_le (by omega)]
    exact Ev.step (fun k => el_eq k _ _ _ _) (Ev.neg (by omega) (Ev.now _))
  | succ d ih =>
    intro i hi
    refine Ev.step (fun k => el_eq k _ _ _ _) (Ev.pos (by omega) (Ev.pos (by omega) (Ev.pos (by omega) (Ev.pos (by omega) ?_))))
    rw [rdT l i (by omega), rdT m i (by omega), plus1 i (by omega), ne_cond]
    unfold eqB
    by_cases g : ((rd_T24 l (i : Int)).f0 == (rd_T24 m (i : Int)).f0 && (rd_T24 l (i : Int)).f1 == (rd_T24 m (i : Int)).f1) = true
    · rw [g]
      exact Ev.neg Bool.false_ne_true (Ev.eq (Bool.true_and _) (ih (i + 1) (by omega)))
    · have g' : ((rd_T24 l (i : Int)).f0 == (rd_T24 m (i : Int)).f0 && (rd_T24 l (i : Int)).f1 == (rd_T24 m (i : Int)).f1) = false := by simpa using g
      rw [g']
      exact Ev.pos rfl (Ev.val (by simp))
theorem equal_ev (l m : List S24) (hl : l.length ≤ 1000000) : Ev (fun k => api_Prefix_51.f k l m) (eqB l m) := by
  unfold api_Prefix_51.f
  by_cases h : l.length = m.length
  · exact Ev.pos (by omega) (equal_l0 l m h hl l.length 0 (by omega))
  · exact Ev.eq (eqB_len l m h) (Ev.neg (by omega) (Ev.now _))
theorem same_l0 (l m : List S24) (hlm : l.length = m.length) (hl : l.length ≤ 1000000) (d : Nat) : ∀ i : Nat, i + d = l.length → Ev (fun k => patchbayref2_SamePrefixes.l0 k m l (l.length : Int) (i : Int)) (eqB (l.drop i) (m.drop i)) := by
  induction d with
  | zero =>
    intro i hi
    rw [List.drop_of_length_le (by omega), List.drop_of_length_le (by omega)]
    exact Ev.step (fun k => sm_eq k _ _ _ _) (Ev.neg (by omega) (Ev.now _))
  | succ d ih =>
    intro i hi
    refine Ev.step (fun k => sm_eq k _ _ _ _) (Ev.pos (by omega) (Ev.pos (by omega) (Ev.pos (by omega) (Ev.pos (by omega) ?_))))
    rw [rdT l i (by omega), rdT m i (by omega), plus1 i (by omega), ne_cond]
    unfold eqB
    by_cases g : ((rd_T24 l (i : Int)).f0 == (rd_T24 m (i : Int)).f0 && (rd_T24 l (i : Int)).f1 == (rd_T24 m (i : Int)).f1) = true
    · rw [g]
      exact Ev.neg Bool.false_ne_true (Ev.eq (Bool.true_and _) (ih (i + 1) (by omega)))
    · have g' : ((rd_T24 l (i : Int)).f0 == (rd_T24 m (i : Int)).f0 && (rd_T24 l (i : Int)).f1 == (rd_T24 m (i : Int)).f1) = false := by simpa using g
      rw [g']
      exact Ev.pos rfl (Ev.val (by simp))
theorem same_ev (l m : List S24) (hl : l.length ≤ 1000000) : Ev (fun k => patchbayref2_SamePrefixes.f k l m) (eqB l m) := by
  unfold patchbayref2_SamePrefixes.f
  by_cases h : l.length = m.length
  · exact Ev.pos (by omega) (same_l0 l m h hl l.length 0 (by omega))
  · exact Ev.eq (eqB_len l m h) (Ev.neg (by omega) (Ev.now _))
/-! ### the program's set -/
theorem spans_ev (L : List (Nat × Nat)) (hL : ∀ q ∈ L, Blk q) (hl : L.length ≤ 12) : ∃ SP : List (Nat × Nat), Ev (fun k => pset_spans.f k (L.map tq)) (SP.map tsp) ∧ (∀ s ∈ SP, s.1 < s.2 ∧ s.2 ≤ 4294967296) ∧ SP.length ≤ 12 ∧ cans SP = can (U L) 32 0 := by
  obtain ⟨s1, s2, s3⟩ := Sr.srt_spec (L.map tq)
  rw [List.length_map] at s1 s3
  generalize hS : Sr.srt (L.map tq) = S at *
  have hmem : ∀ x, x ∈ S ↔ x ∈ L.map tq := fun x => s2.mem_iff
  have hback : ∀ x ∈ S, tq (back x) = x ∧ Blk (back x) := by
    intro x hx
    obtain ⟨p, hp, rfl⟩ := List.mem_map.1 ((hmem x).1 hx)
    rw [back_tq p (hL p hp).le]
    exact ⟨rfl, hL p hp⟩
  have hSL : S = (S.map back).map tq := by
    rw [List.map_map]
    symm
    have : S.map (tq ∘ back) = S.map id := List.map_congr_left fun x hx => (hback x hx).1
    rw [this, List.map_id]
  have hB : ∀ q ∈ S.map back, Blk q := by
    intro q hq
    obtain ⟨x, hx, rfl⟩ := List.mem_map.1 hq
    exact (hback x hx).2
  have hU : ∀ x, U (S.map back) x ↔ U L x := by
    intro x
    constructor
    · rintro ⟨q, hq, h⟩
      obtain ⟨y, hy, rfl⟩ := List.mem_map.1 hq
      obtain ⟨p, hp, rfl⟩ := List.mem_map.1 ((hmem y).1 hy)
      rw [back_tq p (hL p hp).le] at h
      exact ⟨p, hp, h⟩
    · rintro ⟨p, hp, h⟩
      exact ⟨p, List.mem_map.2 ⟨tq p, (hmem _).2 (List.mem_map.2 ⟨p, hp, rfl⟩), back_tq p (hL p hp).le⟩, h⟩
  have hsl : (S.map back).length = L.length := by rw [List.length_map, s1]
  have hord : (S.map back).Pairwise (fun p q => p.1 ≤ q.1) := by
    rw [List.pairwise_iff_getElem]
    intro i j hi hj hij
    have hi' : i < S.length := by rw [List.length_map] at hi; exact hi
    have hj' : j < S.length := by rw [List.length_map] at hj; exact hj
    have g := s3 i j hij (by omega)
    rw [List.getD_eq_getElem?_getD, List.getElem?_eq_getElem hj', List.getD_eq_getElem?_getD, List.getElem?_eq_getElem hi'] at g
    simp only [Option.getD_some] at g
    rw [Sr.ltOf_cf, decide_eq_false_iff_not] at g
    rw [List.getElem_map, List.getElem_map]
    show (S[i].f0).toNat ≤ (S[j].f0).toNat
    omega
  have hno : ∀ {P : Prop} (s : Nat × Nat), s ∈ ([] : List (Nat × Nat)) → P := fun s hs => absurd hs List.not_mem_nil
  have hinv : Inv ([] : List (Nat × Nat)) [] := by
    refine ⟨fun x => ⟨?_, ?_⟩, List.Pairwise.nil, fun s hs => hno s hs, fun s hs => hno s hs⟩
    · rintro ⟨s, hs, _⟩; exact hno s hs
    · rintro ⟨s, hs, _⟩; exact hno s hs
  have hI := inv_fold (S.map back) [] [] hinv hB hord (fun p hp => by cases hp)
  rw [List.nil_append] at hI
  refine ⟨(S.map back).foldl stp [], ?_, hI.pos, ?_, ?_⟩
  · unfold pset_spans.f
    refine Ev.bind (g := fun _ => api_Prefix_71.f (L.map tq)) (a := L.map tq) (Ev.congr (fun _ => ?_) (Ev.now _)) ?_
    · show Ck.cloneF _ = _
      unfold Ck.cloneF; rw [if_pos (by rw [List.length_map]; omega)]
    refine Ev.bind (g := fun _ => Sr.sortF (L.map tq)) (a := S) (Ev.congr (fun _ => ?_) (Ev.now _)) ?_
    · unfold Sr.sortF; rw [if_pos (by rw [List.length_map]; omega), hS]
    have := spans_l0 (S.map back) hB (by omega) (S.map back).length 0 [] (by omega) (by simp) (fun s hs => by cases hs)
    rw [← hSL, List.drop_zero, List.length_map] at this
    exact this
  · have := fold_len (S.map back) []
    simp only [List.length_nil] at this
    omega
  · rw [cans_union _ hI.gap]
    exact can_congr 32 0 fun x _ _ => (hI.cov x).trans (hU x)
theorem set_ev (L : List (Nat × Nat)) (hL : ∀ q ∈ L, Blk q) (hl : L.length ≤ 12) : ∃ T : List S71, Ev (fun k => pset_spans.f k (L.map tq)) T ∧ Ev (fun k => pset_prefixes.f k T) ((can (U L) 32 0).map toS) := by
  obtain ⟨SP, h1, h2, h3, h4⟩ := spans_ev L hL hl
  refine ⟨_, h1, ?_⟩
  rw [← h4]
  exact prefixes_ev SP (fun s hs => ⟨Nat.le_of_lt (h2 s hs).1, (h2 s hs).2⟩) (by omega)
theorem told_ev {T : List S71} {X : List S24} (h : Ev (fun k => pset_prefixes.f k T) X) (hX : X.length ≤ 256) : Ev (fun k => pset_told.f k T) (X, 0) := by
  unfold pset_told.f
  exact Ev.bind h (Ev.neg (by omega) (Ev.now _))
/-- what Of returns -/
noncomputable def ofv (l : List S24) : List S24 × Int := if firstf l = 0 then ((can (U (l.map back)) 32 0).map toS, 0) else ([], firstf l)
theorem map_back (L : List (Nat × Nat)) (hL : ∀ q ∈ L, Blk q) : (L.map tq).map back = L := by
  rw [List.map_map]
  have : L.map (back ∘ tq) = L.map id := List.map_congr_left fun p hp => back_tq p (hL p hp).le
  rw [this, List.map_id]
theorem Of_ev (l : List S24) (hr : Rng l) (hl : l.length ≤ 12) : Ev (fun k => pset_Of.f k l) (ofv l) := by
  unfold pset_Of.f ofv
  refine Ev.bind (wrong_ev l hr (by omega)) ?_
  by_cases g : firstf l = 0
  · obtain ⟨L, rfl, hL, hlen⟩ := blocks_of l hr g
    rw [List.length_map] at hl
    rw [map_back L hL]
    obtain ⟨T, h1, h2⟩ := set_ev L hL hl
    have hf := few_all L hL
    exact Ev.eq (if_pos g) (Ev.pos g (Ev.bind h1 (Ev.bind (told_ev h2 (by rw [List.length_map]; omega)) (Ev.now _))))
  · exact Ev.eq (if_neg g) (Ev.neg g (Ev.now _))
noncomputable def ckv (l : List S24) : Int := if firstf l = 0 then (if eqB ((can (U (l.map back)) 32 0).map toS) l = true then 0 else 3) else firstf l
theorem CheckSet_ev (l : List S24) (hr : Rng l) (hl : l.length ≤ 12) : Ev (fun k => pset_Check.f k l) (ckv l) := by
  unfold pset_Check.f ckv
  refine Ev.bind (wrong_ev l hr (by omega)) ?_
  by_cases g : firstf l = 0
  · obtain ⟨L, rfl, hL, hlen⟩ := blocks_of l hr g
    rw [List.length_map] at hl
    rw [map_back L hL]
    obtain ⟨T, h1, h2⟩ := set_ev L hL hl
    have hf := few_all L hL
    refine Ev.eq (if_pos g) (Ev.pos g (Ev.bind h1 (Ev.bind h2 (Ev.bind (equal_ev _ _ (by rw [List.length_map]; omega)) ?_))))
    by_cases e : eqB ((can (U L) 32 0).map toS) (L.map tq) = true
    · exact Ev.eq (if_pos e) (Ev.pos e (Ev.now _))
    · exact Ev.eq (if_neg e) (Ev.neg e (Ev.now _))
  · exact Ev.eq (if_neg g) (Ev.neg g (Ev.now _))
theorem root : Blk (0, 32) := ⟨Nat.le_refl _, Nat.dvd_zero _, by decide⟩
theorem SetOf_ev (L : List (Nat × Nat)) (hL : ∀ q ∈ L, Blk q) (hl : L.length ≤ 12) : Ev (fun k => patchbayref2_SetOf.f k (L.map tq)) ((can (U L) 32 0).map toS) := by
  unfold patchbayref2_SetOf.f
  exact Ev.bind (cover_ev 32 0 L root hL (by omega)) (Ev.now _)
theorem SetFault_ev (l : List S24) (hr : Rng l) (hl : l.length ≤ 12) : Ev (fun k => patchbayref2_SetFault.f k l) (ckv l) := by
  unfold patchbayref2_SetFault.f ckv
  refine Ev.bind (faults_ev l hr (by omega)) ?_
  by_cases g : firstf l = 0
  · obtain ⟨L, rfl, hL, hlen⟩ := blocks_of l hr g
    rw [List.length_map] at hl
    rw [map_back L hL]
    have hf := few_all L hL
    refine Ev.eq (if_pos g) (Ev.pos g (Ev.bind (SetOf_ev L hL hl) (Ev.bind (same_ev _ _ (by rw [List.length_map]; omega)) ?_)))
    by_cases e : eqB ((can (U L) 32 0).map toS) (L.map tq) = true
    · exact Ev.eq (if_pos e) (Ev.pos e (Ev.now _))
    · exact Ev.eq (if_neg e) (Ev.neg e (Ev.now _))
  · exact Ev.eq (if_neg g) (Ev.neg g (Ev.now _))
theorem lives_ev : Ev (fun k => patchbaylaw2_psetLives.f k) true := by
  have hL : ∀ q ∈ [(167772160, 23), (176160768, 23)], Blk q := by
    intro q hq
    simp only [List.mem_cons, List.not_mem_nil, or_false] at hq
    rcases hq with rfl | rfl
    · exact ⟨by decide, by decide, by decide⟩
    · exact ⟨by decide, by decide, by decide⟩
  have e : ([(⟨167772160, 9⟩ : S24), (⟨176160768, 9⟩ : S24)] : List S24) = [(167772160, 23), (176160768, 23)].map tq := rfl
  have hc : can (U [(167772160, 23), (176160768, 23)]) 32 0 = [(167772160, 8)] := by
    have h1 : can (U [(167772160, 23), (176160768, 23)]) 32 0 = can (iv 167772160 184549376) 32 0 := can_congr 32 0 fun x _ _ => by
      unfold U iv
      simp only [List.mem_cons, List.not_mem_nil, or_false, exists_eq_or_imp, exists_eq_left]
      omega
    rw [h1, head 32 0 167772160 184549376 24 (Nat.le_refl _) (Nat.dvd_zero _) (Nat.zero_le _) (by decide) (by decide) ⟨by decide, by decide, by decide, ?_⟩]
    · rw [can_none 32 0 (fun x _ _ q => by unfold iv at q; omega)]
    · intro i hi _ hf
      have h2 : 2 ^ i ≤ 2 ^ 24 := by
        have : (2 : Nat) ^ 24 = 16777216 := by decide
        omega
      exact pow_lt_of h2
  unfold patchbaylaw2_psetLives.f
  rw [e]
  obtain ⟨T, h1, h2⟩ := set_ev _ hL (by decide)
  rw [hc] at h2
  have hw : firstf ([(167772160, 23), (176160768, 23)].map tq) = 0 := by decide
  have hr : Rng ([(167772160, 23), (176160768, 23)].map tq) := by
    intro q hq
    simp only [List.map_cons, List.map_nil, List.mem_cons, List.not_mem_nil, or_false] at hq
    rcases hq with rfl | rfl
    · exact ⟨by decide, by decide⟩
    · exact ⟨by decide, by decide⟩
  have ho := Of_ev _ hr (by decide)
  unfold ofv at ho
  rw [if_pos hw, map_back _ hL, hc] at ho
  refine Ev.bind ho (Ev.pos rfl (Ev.pos rfl (Ev.pos (by decide) (Ev.val rfl))))
theorem Range_ev (f t : Nat) (ht : t < 4294967296) (hft : f ≤ t) : Ev (fun k => pset_Range.f k (f : Int) (t : Int)) ((can (iv f (t + 1)) 32 0).map toS, 0) := by
  unfold pset_Range.f
  refine Ev.neg (by omega) ?_
  have e : ([(⟨IntKind.u64.wrap (f : Int), IntKind.u64.wrap (IntKind.u64.wrap (t : Int) + 1)⟩ : S71)] : List S71) = [(f, t + 1)].map tsp := by
    have e1 : IntKind.u64.wrap (f : Int) = (f : Int) := by rw [wrap_u64]; omega
    have e2 : IntKind.u64.wrap (t : Int) = (t : Int) := by rw [wrap_u64]; omega
    have e3 : IntKind.u64.wrap ((t : Int) + 1) = ((t + 1 : Nat) : Int) := by rw [wrap_u64]; omega
    rw [e1, e2, e3]; rfl
  rw [e]
  have h := prefixes_ev [(f, t + 1)] (fun s hs => by
    obtain rfl := List.mem_singleton.1 hs
    exact ⟨by show f ≤ t + 1; omega, by show t + 1 ≤ _; omega⟩) (by simp)
  have e4 : cans [(f, t + 1)] = can (iv f (t + 1)) 32 0 := by unfold cans; simp
  rw [e4] at h
  have hlen := len_iv 32 0 f (t + 1)
  exact Ev.bind (told_ev h (by rw [List.length_map]; omega)) (Ev.now _)
theorem SetRange_ev (f t : Nat) (ht : t < 4294967296) (hft : f ≤ t) : Ev (fun k => patchbayref2_SetRange.f k (f : Int) (t : Int)) ((can (iv f (t + 1)) 32 0).map toS) := by
  unfold patchbayref2_SetRange.f
  exact Ev.bind (within_ev f t ht hft 32 0 root) (Ev.now _)
theorem law_ev (l : List S24) (hr : Rng l) (hl : l.length ≤ 6) (a b : Int) (a0 : 0 ≤ a) (a1 : a < 4294967296) (b0 : 0 ≤ b) (b1 : b < 4294967296) : Ev (fun k => patchbaylaw2_PsetMakes.f k l a b) true := by
  have rest : Ev (fun k => patchbaylaw2_PsetMakes.j1 k a b false) true := by
    refine Ev.step (fun k => m1_eq k _ _ _) (Ev.neg Bool.false_ne_true ?_)
    obtain ⟨f, rfl⟩ := Int.eq_ofNat_of_zero_le a0
    obtain ⟨t, rfl⟩ := Int.eq_ofNat_of_zero_le b0
    by_cases g : (f : Int) > (t : Int)
    · refine Ev.bind (g := fun k => pset_Range.f k (f : Int) (t : Int)) (a := (([] : List S24), (1 : Int))) (by unfold pset_Range.f; exact Ev.pos g (Ev.now _)) (Ev.pos g (Ev.pos rfl (Ev.val rfl)))
    · have hlen := len_iv 32 0 f (t + 1)
      refine Ev.bind (Range_ev f t (by omega) (by omega)) (Ev.neg g (Ev.pos rfl (Ev.bind (SetRange_ev f t (by omega) (by omega)) (Ev.bind (same_ev _ _ (by rw [List.length_map]; omega)) (Ev.val (eqB_refl _))))))
  unfold patchbaylaw2_PsetMakes.f
  refine Ev.bind lives_ev (Ev.pos rfl (Ev.bind (faults_ev l hr (by omega)) (Ev.bind (Of_ev l hr (by omega)) (Ev.bind (CheckSet_ev l hr (by omega)) (Ev.bind (SetFault_ev l hr (by omega)) (Ev.pos rfl ?_))))))
  have ho : (ofv l).2 = firstf l := by
    unfold ofv
    by_cases g : firstf l = 0
    · rw [if_pos g, g]
    · rw [if_neg g]
  refine Ev.step (fun k => m0_eq k _ _ _ _ _ _) (Ev.neg (by rw [ho]; simp) ?_)
  by_cases g : firstf l = 0
  · refine Ev.pos g ?_
    obtain ⟨L, rfl, hL, hlen⟩ := blocks_of l hr g
    rw [List.length_map] at hl
    have e : (ofv (L.map tq)).1 = (can (U L) 32 0).map toS := by unfold ofv; rw [if_pos g, map_back L hL]
    have hf := few_all L hL
    rw [e]
    exact Ev.bind (SetOf_ev L hL (by omega)) (Ev.bind (same_ev _ _ (by rw [List.length_map]; omega)) (Ev.pos (eqB_refl _) rest))
  · refine Ev.neg g ?_
    have e : (ofv l).1 = [] := by unfold ofv; rw [if_neg g]
    rw [e]
    exact rest
theorem law_calls (A : Option Addr) (c : Nat) (l : List S24) (a b : Int) (w : World) (hv : Tz.Ok w) (hr : Kd.C k24 w A l.length l) (hc : l.length ≤ c) (hR : Rng l) (a0 : 0 ≤ a) (a1 : a < 4294967296) (b0 : 0 ≤ b) (b1 : b < 4294967296) :
    Calls Tryd.prog 4 #[.slice A l.length c, .int .u32 a, .int .u32 b] w fun e w' => e = .returned (.bool true) ∧ Below w.heap.size w w' := by
  obtain ⟨k, hk⟩ := (law_ev (l.take 6) (fun q hq => hR q (List.mem_of_mem_take hq)) (by rw [List.length_take]; omega) a b a0 a1 b0 b1).rounds
  exact patchbaylaw2_PsetMakes.calls k A c l (l.take 6) rfl a b true w hv hr hc hk
end Go.Proofs.YtbdcaadehfbnbaaDoor.Pm
