/- The program's spans and prefixes come to the blocks of the set. -/
import Derived.Test.YtbdcaadehfbnbaaDoorQPa
import Derived.Test.YtbdcaadehfbnbaaDoorQTz
import Derived.Test.YtbdcaadehfbnbaaDoorQSr
import Derived.Lib.BitFns
namespace Go.Proofs.YtbdcaadehfbnbaaDoor.Pb
open Go Go.RowKit Go.Proofs.YtbdcaadehfbnbaaDoorW.PrintWords Go.Proofs.YtbdcaadehfbnbaaDoorW.PrintLast Go.Proofs.YtbdcaadehfbnbaaDoorW.PrintMore Go.Proofs.YtbdcaadehfbnbaaDoor.Pl Go.Proofs.YtbdcaadehfbnbaaDoor.Bm Go.Proofs.YtbdcaadehfbnbaaDoor.GPsetMakes Go.Proofs.YtbdcaadehfbnbaaDoor.PxPsetMakes Go.Proofs.YtbdcaadehfbnbaaDoor.Cn Go.Proofs.YtbdcaadehfbnbaaDoor.Pa
set_option linter.unusedVariables false
set_option linter.unusedSimpArgs false
theorem sl_eq (k : Nat) (x3 : List (S71)) (x12 : List (S24)) (x13 : Int) (x14 : Int) : pset_spans.l0 (k + 1) x3 x12 x13 x14 = if x14 < x13 then (if 0 ≤ x14 then (if x14 < (x12.length : Int) then (if 0 ≤ (wrap64 (32 - ((rd_T24 x12 x14).f1))) then (if (wrap64 ((x3.length : Int) - 1)) ≥ 0 then (if 0 ≤ (wrap64 ((x3.length : Int) - 1)) then (if (wrap64 ((x3.length : Int) - 1)) < (x3.length : Int) then (if (IntKind.u64.wrap ((rd_T24 x12 x14).f0)) ≤ ((rd_T71 x3 (wrap64 ((x3.length : Int) - 1))).f1) then (pset_spans.l0 k (x3.set ((wrap64 ((x3.length : Int) - 1)) : Int).toNat (⟨(rd_T71 x3 (wrap64 ((x3.length : Int) - 1))).f0, mx ((rd_T71 x3 (wrap64 ((x3.length : Int) - 1))).f1) (IntKind.u64.wrap ((IntKind.u64.wrap ((rd_T24 x12 x14).f0)) + (shl .u64 1 (wrap64 (32 - ((rd_T24 x12 x14).f1))))))⟩ : S71)) x12 x13 (wrap64 (x14 + 1))) else (if x3.length < 8796093022208 then (pset_spans.l0 k (x3 ++ [(⟨IntKind.u64.wrap ((rd_T24 x12 x14).f0), IntKind.u64.wrap ((IntKind.u64.wrap ((rd_T24 x12 x14).f0)) + (shl .u64 1 (wrap64 (32 - ((rd_T24 x12 x14).f1)))))⟩ : S71)]) x12 x13 (wrap64 (x14 + 1))) else (none))) else (none)) else (none)) else (if x3.length < 8796093022208 then (pset_spans.l0 k (x3 ++ [(⟨IntKind.u64.wrap ((rd_T24 x12 x14).f0), IntKind.u64.wrap ((IntKind.u64.wrap ((rd_T24 x12 x14).f0)) + (shl .u64 1 (wrap64 (32 - ((rd_T24 x12 x14).f1)))))⟩ : S71)]) x12 x13 (wrap64 (x14 + 1))) else (none))) else (none)) else (none)) else (none)) else (some x3) := rfl
theorem pl0_eq (k : Nat) (x3 : List (S24)) (x7 : List (S71)) (x8 : Int) (x9 : Int) : pset_prefixes.l0 (k + 1) x3 x7 x8 x9 = if x9 < x8 then (if 0 ≤ x9 then (if x9 < (x7.length : Int) then (pset_prefixes.l1 k x3 x7 x8 x9 ((rd_T71 x7 x9).f0) ((rd_T71 x7 x9).f1)) else (none)) else (none)) else (some x3) := rfl
theorem pl1_eq (k : Nat) (x3 : List (S24)) (x7 : List (S71)) (x8 : Int) (x9 : Int) (x109000 : Int) (x109001 : Int) : pset_prefixes.l1 (k + 1) x3 x7 x8 x9 x109000 x109001 = if x109000 < x109001 then ((bits_TrailingZeros64.f (Go.bits .or .u64 x109000 4294967296)).bind fun t109 => ((bits_Len64.f (IntKind.u64.wrap (x109001 - x109000))).bind fun t110 => (if x3.length < 8796093022208 then (if 0 ≤ (mn t109 (wrap64 (t110 - 1))) then (pset_prefixes.l1 k (x3 ++ [(⟨(x109000) % 4294967296, wrap64 (32 - (mn t109 (wrap64 (t110 - 1))))⟩ : S24)]) x7 x8 x9 (IntKind.u64.wrap (x109000 + (shl .u64 1 (mn t109 (wrap64 (t110 - 1)))))) x109001) else (none)) else (none)))) else (pset_prefixes.l0 k x3 x7 x8 (wrap64 (x9 + 1))) := rfl

theorem wraps_u64 (n : Int) (h₀ : 0 ≤ n) (h₁ : n < 2 ^ 64) : IntKind.u64.wrap n = n := by rw [IntKind.wrap_u64]; omega
/-! ### the next block -/
theorem bl (x : Nat) : x ≠ 0 → x < 2 ^ 64 → ∃ e, Lib.bitLen x = e + 1 ∧ 2 ^ e ≤ x ∧ x < 2 ^ (e + 1) := by
  induction x using Nat.strongRecOn with
  | ind x ih =>
    intro h0 h
    rw [Lib.bitLen_half x h0 h]
    by_cases g : x / 2 = 0
    · refine ⟨0, by rw [g]; rfl, by simp; omega, by simp; omega⟩
    · obtain ⟨e, h1, h2, h3⟩ := ih (x / 2) (by omega) g (by omega)
      refine ⟨e + 1, by rw [h1]; omega, by rw [Nat.pow_succ]; omega, by rw [Nat.pow_succ] at h3 ⊢; rw [Nat.pow_succ]; omega⟩
theorem tz (f : Nat) (hf : f < 4294967296) : ∃ e, Lib.ctz 64 (f + 4294967296) = e ∧ e ≤ 32 ∧ 2 ^ e ∣ f ∧ ∀ i, i ≤ 32 → 2 ^ i ∣ f → i ≤ e := by
  obtain ⟨m, hm, hlt⟩ := Lib.ctzFrom_spec 64 (f + 4294967296) (by omega) (by omega)
  have e0 : Lib.ctz 64 (f + 4294967296) = Lib.ctzFrom 64 (f + 4294967296) := by unfold Lib.ctz; rw [if_neg (by omega)]
  rw [e0]
  generalize Lib.ctzFrom 64 (f + 4294967296) = e at *
  have hp := Nat.two_pow_pos e
  have hle : e ≤ 32 := by
    have h1 : 2 ^ e ≤ f + 4294967296 := by rw [hm]; exact Nat.le_mul_of_pos_right _ (by omega)
    have h2 : 2 ^ e < 2 ^ 33 := by
      have : (2 : Nat) ^ 33 = 8589934592 := by decide
      omega
    have := (Nat.pow_lt_pow_iff_right (by decide : 1 < 2)).1 h2
    omega
  have d32 : ∀ i, i ≤ 32 → 2 ^ i ∣ 4294967296 := fun i hi => Nat.pow_dvd_pow 2 hi
  refine ⟨e, rfl, hle, ?_, ?_⟩
  · have h1 : 2 ^ e ∣ f + 4294967296 := ⟨2 * m + 1, hm⟩
    exact (Nat.dvd_add_left (d32 e hle)).1 h1
  · intro i hi hd
    rcases Nat.lt_or_ge e i with g | g
    · exfalso
      have h1 : 2 ^ (e + 1) ∣ f + 4294967296 := Nat.dvd_trans (Nat.pow_dvd_pow 2 g) (Nat.dvd_add hd (d32 i hi))
      rw [hm, Nat.pow_succ] at h1
      have h2 := (Nat.mul_dvd_mul_iff_left hp).1 h1
      omega
    · exact g
theorem top_min {f t e L : Nat} (h1 : f < t) (h2 : e ≤ 32) (h3 : 2 ^ e ∣ f) (h4 : ∀ i, i ≤ 32 → 2 ^ i ∣ f → i ≤ e) (h5 : 2 ^ L ≤ t - f) (h6 : t - f < 2 ^ (L + 1)) : Top f t (min e L) := by
  refine ⟨Nat.dvd_trans (Nat.pow_dvd_pow 2 (Nat.min_le_left _ _)) h3, ?_, by omega, ?_⟩
  · have : 2 ^ min e L ≤ 2 ^ L := Nat.pow_le_pow_right (by decide) (Nat.min_le_right _ _)
    omega
  · intro i hi hd hf
    have a := h4 i hi hd
    have b : 2 ^ i < 2 ^ (L + 1) := by omega
    have := (Nat.pow_lt_pow_iff_right (by decide : 1 < 2)).1 b
    omega
theorem or32 (f : Nat) (hf : f < 4294967296) : Go.bits .or .u64 (f : Int) 4294967296 = ((f + 4294967296 : Nat) : Int) := by
  have h := (bits_nat .u64 64 (by decide) wraps_u64 f 4294967296 (by omega) (by omega)).2
  rw [show ((4294967296 : Nat) : Int) = 4294967296 from rfl] at h
  rw [h]
  congr 1
  have g := Nat.two_pow_add_eq_or_of_lt (i := 32) (b := f) (by omega) 1
  rw [show (2 : Nat) ^ 32 * 1 = 4294967296 from rfl] at g
  rw [Nat.or_comm, ← g]; omega
theorem wr_add (f p : Nat) (h : f + p ≤ 4294967296) : IntKind.u64.wrap ((f : Int) + (p : Int)) = ((f + p : Nat) : Int) := by rw [wrap_u64]; omega
theorem shl1 (k : Nat) (hk : k ≤ 32) : shl .u64 1 (k : Int) = ((2 ^ k : Nat) : Int) := by
  unfold shl
  rw [Int.toNat_natCast, Nat.min_eq_left (by show k ≤ 64; omega)]
  have h := pow_le32 hk
  have e : (1 : Int) * 2 ^ k = ((2 ^ k : Nat) : Int) := by rw [Int.one_mul]; norm_cast
  rw [e, wrap_u64]
  generalize 2 ^ k = p at h ⊢
  omega
theorem mn_nat (a b : Nat) : mn (a : Int) (b : Int) = ((min a b : Nat) : Int) := by unfold mn; split <;> omega
theorem tz_ev (x : Nat) (hx : x < 18446744073709551616) : Ev (fun _ : Nat => bits_TrailingZeros64.f (x : Int)) (Lib.ctz 64 x : Int) := by
  refine Ev.congr (fun _ => ?_) (Ev.now _)
  show Tz.tzF _ = _
  unfold Tz.tzF; rw [if_pos ⟨by omega, by omega⟩, Int.toNat_natCast]
theorem len_ev (x : Nat) (hx : x < 18446744073709551616) : Ev (fun _ : Nat => bits_Len64.f (x : Int)) (Lib.bitLen x : Int) := by
  refine Ev.congr (fun _ => ?_) (Ev.now _)
  show Tz.lenF _ = _
  unfold Tz.lenF; rw [if_pos ⟨by omega, by omega⟩, Int.toNat_natCast]
/-! ### prefixes of spans -/
def tsp (s : Nat × Nat) : S71 := ⟨(s.1 : Int), (s.2 : Int)⟩
theorem l1_ev (X : List S71) (n i : Int) (R : List S24) (t : Nat) (ht : t ≤ 4294967296) (d : Nat) : ∀ (f : Nat) (acc : List S24), t - f ≤ d → f ≤ t → acc.length + (can (iv f t) 32 0).length ≤ 1000000 →
    Ev (fun k => pset_prefixes.l0 k (acc ++ (can (iv f t) 32 0).map toS) X n (wrap64 (i + 1))) R → Ev (fun k => pset_prefixes.l1 k acc X n i (f : Int) (t : Int)) R := by
  induction d with
  | zero =>
    intro f acc h1 h2 h3 h4
    rw [can_none 32 0 (fun x _ _ q => by unfold iv at q; omega)] at h4
    refine Ev.step (fun k => pl1_eq k _ _ _ _ _ _) (Ev.neg (by omega) ?_)
    simpa using h4
  | succ d ih =>
    intro f acc h1 h2 h3 h4
    refine Ev.step (fun k => pl1_eq k _ _ _ _ _ _) ?_
    rcases Nat.lt_or_ge f t with g | g
    · obtain ⟨e, e1, e2, e3, e4⟩ := tz f (by omega)
      obtain ⟨L, b1, b2, b3⟩ := bl (t - f) (by omega) (by omega)
      have hT := top_min g e2 e3 e4 b2 b3
      have hh := head 32 0 f t _ (Nat.le_refl _) (Nat.dvd_zero _) (Nat.zero_le _) g (by simpa using ht) hT
      have hw : IntKind.u64.wrap ((t : Int) - (f : Int)) = ((t - f : Nat) : Int) := by rw [wrap_u64]; omega
      have hL : wrap64 (((Lib.bitLen (t - f) : Nat) : Int) - 1) = ((L : Nat) : Int) := by
        have : L < 64 := by
          have := (Nat.pow_lt_pow_iff_right (by decide : 1 < 2)).1 (show 2 ^ L < 2 ^ 64 by omega)
          exact this
        rw [b1, w64 (by omega) (by omega)]; omega
      refine Ev.pos (by omega) ?_
      rw [or32 f (by omega)]
      refine Ev.bind (tz_ev _ (by omega)) ?_
      rw [hw]
      refine Ev.bind (len_ev _ (by omega)) (Ev.pos (by omega) ?_)
      rw [hL, e1, mn_nat]
      generalize hk : min e L = k at *
      have hk32 : k ≤ 32 := hT.le
      have hfit := hT.fits
      rw [shl1 k hk32]
      rw [hh] at h3 h4
      have e5 : IntKind.u64.wrap ((f : Int) + ((2 ^ k : Nat) : Int)) = ((f + 2 ^ k : Nat) : Int) := wr_add f (2 ^ k) (by omega)
      have e6 : (⟨(f : Int) % 4294967296, wrap64 (32 - (k : Int))⟩ : S24) = toS (f, 32 - k) := by
        unfold toS
        have a : (f : Int) % 4294967296 = (f : Int) := by omega
        have b : wrap64 (32 - (k : Int)) = ((32 - k : Nat) : Int) := by rw [w64 (by omega) (by omega)]; omega
        rw [a, b]
      have hp := Nat.two_pow_pos k
      refine Ev.pos (by omega) ?_
      rw [e5, e6]
      refine ih (f + 2 ^ k) (acc ++ [toS (f, 32 - k)]) (by omega) hfit ?_ ?_
      · rw [List.length_append]; simp at h3 ⊢; omega
      · simpa using h4
    · rw [can_none 32 0 (fun x _ _ q => by unfold iv at q; omega)] at h4
      refine Ev.neg (by omega) ?_
      simpa using h4
noncomputable def cans (SP : List (Nat × Nat)) : List (Nat × Nat) := (SP.map (fun s => can (iv s.1 s.2) 32 0)).flatten
theorem cans_len : ∀ SP, (cans SP).length ≤ 66 * SP.length
  | [] => Nat.le_refl _
  | s :: SP => by
    have h1 := cans_len SP
    have h2 := len_iv 32 0 s.1 s.2
    have e : (cans (s :: SP)).length = (can (iv s.1 s.2) 32 0).length + (cans SP).length := by
      unfold cans; rw [List.map_cons, List.flatten_cons, List.length_append]
    rw [e, List.length_cons]; omega
theorem l0_ev (SP : List (Nat × Nat)) (hn : SP.length ≤ 1000) (hs : ∀ s ∈ SP, s.1 ≤ s.2 ∧ s.2 ≤ 4294967296) (d : Nat) : ∀ (i : Nat) (acc : List S24), i + d = SP.length → acc.length + (cans (SP.drop i)).length ≤ 1000000 →
    Ev (fun k => pset_prefixes.l0 k acc (SP.map tsp) (SP.length : Int) (i : Int)) (acc ++ (cans (SP.drop i)).map toS) := by
  induction d with
  | zero =>
    intro i acc hi hl
    rw [List.drop_of_length_le (by omega)]
    refine Ev.step (fun k => pl0_eq k _ _ _ _) (Ev.neg (by omega) (Ev.val ?_))
    simp [cans]
  | succ d ih =>
    intro i acc hi hl
    have hil : i < SP.length := by omega
    have hd : SP.drop i = SP[i] :: SP.drop (i + 1) := List.drop_eq_getElem_cons hil
    have hr : rd_T71 (SP.map tsp) (i : Int) = tsp SP[i] := by
      show (SP.map tsp).getD (i : Int).toNat z71 = _
      rw [Int.toNat_natCast, List.getD_eq_getElem?_getD, List.getElem?_map, List.getElem?_eq_getElem hil]; rfl
    obtain ⟨q1, q2⟩ := hs _ (List.getElem_mem hil)
    rw [hd] at hl ⊢
    refine Ev.step (fun k => pl0_eq k _ _ _ _) (Ev.pos (by omega) (Ev.pos (by omega) (Ev.pos (by rw [List.length_map]; omega) ?_)))
    rw [hr]
    generalize SP[i] = s at *
    have e : cans (s :: SP.drop (i + 1)) = can (iv s.1 s.2) 32 0 ++ cans (SP.drop (i + 1)) := by
      unfold cans; rw [List.map_cons, List.flatten_cons]
    rw [e] at hl ⊢
    rw [List.length_append] at hl
    refine l1_ev _ _ _ _ s.2 q2 _ s.1 acc (Nat.le_refl _) q1 (by omega) ?_
    rw [plus1 i (by omega)]
    have := ih (i + 1) (acc ++ (can (iv s.1 s.2) 32 0).map toS) (by omega) (by rw [List.length_append, List.length_map]; omega)
    simpa using this
theorem prefixes_ev (SP : List (Nat × Nat)) (hs : ∀ s ∈ SP, s.1 ≤ s.2 ∧ s.2 ≤ 4294967296) (hl : SP.length ≤ 1000) : Ev (fun k => pset_prefixes.f k (SP.map tsp)) ((cans SP).map toS) := by
  unfold pset_prefixes.f
  rw [List.length_map]
  have hc := cans_len SP
  have := l0_ev SP hl hs SP.length 0 [] (by omega) (by simp; omega)
  simpa using this
/-- gapped spans: their blocks are the set's -/
theorem cans_union : ∀ SP : List (Nat × Nat), SP.Pairwise (fun s s' => s.2 < s'.1) → cans SP = can (fun x => ∃ s ∈ SP, iv s.1 s.2 x) 32 0
  | [], _ => by
    rw [can_none 32 0 (fun x _ _ q => by obtain ⟨s, hs, _⟩ := q; cases hs)]; rfl
  | s :: SP, h => by
    obtain ⟨h1, h2⟩ := List.pairwise_cons.1 h
    have e : cans (s :: SP) = can (iv s.1 s.2) 32 0 ++ cans SP := by unfold cans; rw [List.map_cons, List.flatten_cons]
    rw [e, cans_union SP h2, ← can_union s.2 (fun x q => q.2) (fun x q => by obtain ⟨s', hs', q1, q2⟩ := q; have := h1 s' hs'; omega) 32 0]
    refine can_congr 32 0 (fun x _ _ => ?_)
    constructor
    · rintro (q | ⟨s', hs', q⟩)
      · exact ⟨s, List.mem_cons_self, q⟩
      · exact ⟨s', List.mem_cons_of_mem _ hs', q⟩
    · rintro ⟨s', hs', q⟩
      rcases List.mem_cons.1 hs' with rfl | hs'
      · exact Or.inl q
      · exact Or.inr ⟨s', hs', q⟩
/-! ### spans of prefixes -/
def lastOf (out : List (Nat × Nat)) : Nat × Nat := out.getD (out.length - 1) (0, 0)
def stp (out : List (Nat × Nat)) (q : Nat × Nat) : List (Nat × Nat) :=
  if out ≠ [] ∧ q.1 ≤ (lastOf out).2 then out.set (out.length - 1) ((lastOf out).1, max (lastOf out).2 (q.1 + 2 ^ q.2)) else out ++ [(q.1, q.1 + 2 ^ q.2)]
theorem last_snoc (init : List (Nat × Nat)) (s : Nat × Nat) : lastOf (init ++ [s]) = s := by
  unfold lastOf
  rw [List.getD_eq_getElem?_getD]; simp
theorem set_snoc (init : List (Nat × Nat)) (s v : Nat × Nat) : (init ++ [s]).set ((init ++ [s]).length - 1) v = init ++ [v] := by
  rw [List.length_append]; simp
structure Inv (out P : List (Nat × Nat)) : Prop where
  cov : ∀ x, (∃ s ∈ out, iv s.1 s.2 x) ↔ U P x
  gap : out.Pairwise (fun s s' => s.2 < s'.1)
  pos : ∀ s ∈ out, s.1 < s.2 ∧ s.2 ≤ 4294967296
  src : ∀ s ∈ out, ∃ p ∈ P, p.1 = s.1
theorem U_snoc (P : List (Nat × Nat)) (q : Nat × Nat) (x : Nat) : U (P ++ [q]) x ↔ (U P x ∨ (q.1 ≤ x ∧ x < q.1 + 2 ^ q.2)) := by
  unfold U
  constructor
  · rintro ⟨p, hp, h⟩
    rcases List.mem_append.1 hp with hp | hp
    · exact Or.inl ⟨p, hp, h⟩
    · obtain rfl := List.mem_singleton.1 hp
      exact Or.inr h
  · rintro (⟨p, hp, h⟩ | h)
    · exact ⟨p, List.mem_append_left _ hp, h⟩
    · exact ⟨q, List.mem_append_right _ (List.mem_singleton.2 rfl), h⟩
theorem inv_stp {out P : List (Nat × Nat)} {q : Nat × Nat} (h : Inv out P) (hq : Blk q) (hs : ∀ p ∈ P, p.1 ≤ q.1) : Inv (stp out q) (P ++ [q]) := by
  have hp := Nat.two_pow_pos q.2
  have htop := hq.top
  have hsrc : ∀ s ∈ out, s.1 ≤ q.1 := fun s hm => by obtain ⟨p, hp, e⟩ := h.src s hm; have := hs p hp; omega
  unfold stp
  by_cases c : out ≠ [] ∧ q.1 ≤ (lastOf out).2
  · rw [if_pos c]
    rcases List.eq_nil_or_concat out with e | ⟨init, s, e⟩
    · exact absurd e c.1
    have e' : out = init ++ [s] := by rw [e, List.concat_eq_append]
    subst e'
    rw [last_snoc] at c ⊢
    rw [set_snoc]
    have hsm : s ∈ init ++ [s] := List.mem_append_right _ (List.mem_singleton.2 rfl)
    have h1 := hsrc s hsm
    have h2 := h.pos s hsm
    have c2 := c.2
    obtain ⟨g1, g2, g3⟩ := List.pairwise_append.1 h.gap
    refine ⟨fun x => ?_, ?_, ?_, ?_⟩
    · rw [U_snoc, ← h.cov x]
      constructor
      · rintro ⟨s', hs', q1, q2⟩
        rcases List.mem_append.1 hs' with hs' | hs'
        · exact Or.inl ⟨s', List.mem_append_left _ hs', q1, q2⟩
        · obtain rfl := List.mem_singleton.1 hs'
          simp only at q1 q2
          by_cases k : x < s.2
          · exact Or.inl ⟨s, hsm, q1, k⟩
          · exact Or.inr ⟨by omega, by omega⟩
      · rintro (⟨s', hs', q1, q2⟩ | ⟨q1, q2⟩)
        · rcases List.mem_append.1 hs' with hs' | hs'
          · exact ⟨s', List.mem_append_left _ hs', q1, q2⟩
          · obtain rfl := List.mem_singleton.1 hs'
            exact ⟨_, List.mem_append_right _ (List.mem_singleton.2 rfl), q1, by show x < max _ _; omega⟩
        · exact ⟨_, List.mem_append_right _ (List.mem_singleton.2 rfl), by show s.1 ≤ x; omega, by show x < max _ _; omega⟩
    · refine List.pairwise_append.2 ⟨g1, List.pairwise_singleton _ _, fun a ha b hb => ?_⟩
      obtain rfl := List.mem_singleton.1 hb
      exact g3 a ha s (List.mem_singleton.2 rfl)
    · intro s' hs'
      rcases List.mem_append.1 hs' with hs' | hs'
      · exact h.pos s' (List.mem_append_left _ hs')
      · obtain rfl := List.mem_singleton.1 hs'
        show s.1 < max _ _ ∧ max _ _ ≤ _
        omega
    · intro s' hs'
      rcases List.mem_append.1 hs' with hs' | hs'
      · obtain ⟨p, hp, e⟩ := h.src s' (List.mem_append_left _ hs')
        exact ⟨p, List.mem_append_left _ hp, e⟩
      · obtain rfl := List.mem_singleton.1 hs'
        obtain ⟨p, hp, e⟩ := h.src s hsm
        exact ⟨p, List.mem_append_left _ hp, e⟩
  · rw [if_neg c]
    have hlast : ∀ s ∈ out, s.2 < q.1 := by
      intro s0 hs0
      rcases List.eq_nil_or_concat out with e | ⟨init, s, e⟩
      · rw [e] at hs0; cases hs0
      have e' : out = init ++ [s] := by rw [e, List.concat_eq_append]
      subst e'
      rw [last_snoc] at c
      have c' : ¬ q.1 ≤ s.2 := fun k => c ⟨by simp, k⟩
      obtain ⟨g1, g2, g3⟩ := List.pairwise_append.1 h.gap
      rcases List.mem_append.1 hs0 with hs0 | hs0
      · have := g3 s0 hs0 s (List.mem_singleton.2 rfl)
        have := (h.pos s (List.mem_append_right _ (List.mem_singleton.2 rfl))).1
        omega
      · obtain rfl := List.mem_singleton.1 hs0
        omega
    refine ⟨fun x => ?_, ?_, ?_, ?_⟩
    · rw [U_snoc, ← h.cov x]
      constructor
      · rintro ⟨s', hs', q1, q2⟩
        rcases List.mem_append.1 hs' with hs' | hs'
        · exact Or.inl ⟨s', hs', q1, q2⟩
        · obtain rfl := List.mem_singleton.1 hs'
          exact Or.inr ⟨q1, q2⟩
      · rintro (⟨s', hs', q1, q2⟩ | ⟨q1, q2⟩)
        · exact ⟨s', List.mem_append_left _ hs', q1, q2⟩
        · exact ⟨_, List.mem_append_right _ (List.mem_singleton.2 rfl), q1, q2⟩
    · refine List.pairwise_append.2 ⟨h.gap, List.pairwise_singleton _ _, fun a ha b hb => ?_⟩
      obtain rfl := List.mem_singleton.1 hb
      exact hlast a ha
    · intro s' hs'
      rcases List.mem_append.1 hs' with hs' | hs'
      · exact h.pos s' hs'
      · obtain rfl := List.mem_singleton.1 hs'
        exact ⟨by show q.1 < q.1 + 2 ^ q.2; omega, htop⟩
    · intro s' hs'
      rcases List.mem_append.1 hs' with hs' | hs'
      · obtain ⟨p, hp, e⟩ := h.src s' hs'
        exact ⟨p, List.mem_append_left _ hp, e⟩
      · obtain rfl := List.mem_singleton.1 hs'
        exact ⟨q, List.mem_append_right _ (List.mem_singleton.2 rfl), rfl⟩
theorem inv_fold : ∀ (Q out P : List (Nat × Nat)), Inv out P → (∀ q ∈ Q, Blk q) → Q.Pairwise (fun p q => p.1 ≤ q.1) → (∀ p ∈ P, ∀ q ∈ Q, p.1 ≤ q.1) → Inv (Q.foldl stp out) (P ++ Q)
  | [], out, P, h, _, _, _ => by simpa using h
  | q :: Q, out, P, h, hb, ho, hc => by
    obtain ⟨h1, h2⟩ := List.pairwise_cons.1 ho
    have := inv_fold Q (stp out q) (P ++ [q]) (inv_stp h (hb q List.mem_cons_self) (fun p hp => hc p hp q List.mem_cons_self)) (fun r hr => hb r (List.mem_cons_of_mem _ hr)) h2
      (fun p hp r hr => by
        rcases List.mem_append.1 hp with hp | hp
        · exact hc p hp r (List.mem_cons_of_mem _ hr)
        · obtain rfl := List.mem_singleton.1 hp
          exact h1 r hr)
    simpa using this
theorem stp_len (out : List (Nat × Nat)) (q : Nat × Nat) : (stp out q).length ≤ out.length + 1 := by
  unfold stp
  split
  · rw [List.length_set]; omega
  · rw [List.length_append]; simp
theorem fold_len : ∀ (Q out : List (Nat × Nat)), (Q.foldl stp out).length ≤ out.length + Q.length
  | [], out => by simp
  | q :: Q, out => by
    have h1 := fold_len Q (stp out q)
    have h2 := stp_len out q
    rw [List.foldl_cons, List.length_cons]; omega
theorem spans_l0 (L : List (Nat × Nat)) (hL : ∀ q ∈ L, Blk q) (hl : L.length ≤ 1000) (d : Nat) : ∀ (i : Nat) (out : List (Nat × Nat)), i + d = L.length → out.length ≤ i → (∀ s ∈ out, s.2 ≤ 4294967296) →
    Ev (fun k => pset_spans.l0 k (out.map tsp) (L.map tq) (L.length : Int) (i : Int)) (((L.drop i).foldl stp out).map tsp) := by
  induction d with
  | zero =>
    intro i out hi ho hb
    rw [List.drop_of_length_le (by omega)]
    exact Ev.step (fun k => sl_eq k _ _ _ _) (Ev.neg (by omega) (Ev.now _))
  | succ d ih =>
    intro i out hi ho hb
    have hil : i < L.length := by omega
    have hd : L.drop i = L[i] :: L.drop (i + 1) := List.drop_eq_getElem_cons hil
    have hr : rd_T24 (L.map tq) (i : Int) = tq L[i] := by
      show (L.map tq).getD (i : Int).toNat z24 = _
      rw [Int.toNat_natCast, List.getD_eq_getElem?_getD, List.getElem?_map, List.getElem?_eq_getElem hil]; rfl
    have hq := hL _ (List.getElem_mem hil)
    rw [hd, List.foldl_cons]
    refine Ev.step (fun k => sl_eq k _ _ _ _) (Ev.pos (by omega) (Ev.pos (by omega) (Ev.pos (by rw [List.length_map]; omega) ?_)))
    rw [hr, plus1 i (by omega)]
    generalize L[i] = q at *
    have h1 := hq.le
    have h2 := hq.top
    have hp := Nat.two_pow_pos q.2
    have w1 : wrap64 (32 - (tq q).f1) = (q.2 : Int) := by
      show wrap64 (32 - (32 - (q.2 : Int))) = _
      rw [w64 (by omega) (by omega)]; omega
    have w2 : IntKind.u64.wrap (tq q).f0 = (q.1 : Int) := by show IntKind.u64.wrap (q.1 : Int) = _; rw [wrap_u64]; omega
    have w3 : IntKind.u64.wrap ((q.1 : Int) + ((2 ^ q.2 : Nat) : Int)) = ((q.1 + 2 ^ q.2 : Nat) : Int) := wr_add q.1 (2 ^ q.2) h2
    rw [w1, w2, shl1 q.2 h1, w3, List.length_map]
    have app : ¬ (out ≠ [] ∧ q.1 ≤ (lastOf out).2) → Ev (fun k => pset_spans.l0 k (out.map tsp ++ [(⟨(q.1 : Int), ((q.1 + 2 ^ q.2 : Nat) : Int)⟩ : S71)]) (L.map tq) (L.length : Int) ((i + 1 : Nat) : Int)) (((L.drop (i + 1)).foldl stp (stp out q)).map tsp) := by
      intro c
      have e : out.map tsp ++ [(⟨(q.1 : Int), ((q.1 + 2 ^ q.2 : Nat) : Int)⟩ : S71)] = (stp out q).map tsp := by
        unfold stp; rw [if_neg c, List.map_append]; rfl
      rw [e]
      refine ih (i + 1) _ (by omega) (by have := stp_len out q; omega) ?_
      unfold stp; rw [if_neg c]
      intro s hs
      rcases List.mem_append.1 hs with hs | hs
      · exact hb s hs
      · obtain rfl := List.mem_singleton.1 hs; exact h2
    refine Ev.pos (by omega) ?_
    cases hout : out with
    | nil =>
      subst hout
      refine Ev.neg (by rw [w64 (by simp) (by simp)]; simp) (Ev.pos (by simp) ?_)
      exact app (fun c => c.1 rfl)
    | cons s0 out' =>
      rw [← hout]
      have hlen : 1 ≤ out.length := by rw [hout]; simp
      have w4 : wrap64 ((out.length : Int) - 1) = ((out.length - 1 : Nat) : Int) := by rw [w64 (by omega) (by omega)]; omega
      rw [w4]
      have hlast : rd_T71 (out.map tsp) ((out.length - 1 : Nat) : Int) = tsp (lastOf out) := by
        show (out.map tsp).getD ((out.length - 1 : Nat) : Int).toNat z71 = _
        unfold lastOf
        rw [Int.toNat_natCast, List.getD_eq_getElem?_getD, List.getD_eq_getElem?_getD, List.getElem?_map, List.getElem?_eq_getElem (show out.length - 1 < out.length by omega)]; rfl
      rw [hlast]
      refine Ev.pos (by omega) (Ev.pos (by omega) (Ev.pos (by omega) ?_))
      have hmem : lastOf out ∈ out := by
        unfold lastOf
        rw [List.getD_eq_getElem?_getD, List.getElem?_eq_getElem (show out.length - 1 < out.length by omega)]
        exact List.getElem_mem _
      have hlb := hb _ hmem
      by_cases c : q.1 ≤ (lastOf out).2
      · refine Ev.pos (by show (q.1 : Int) ≤ ((lastOf out).2 : Int); omega) ?_
        have e : (out.map tsp).set (((out.length - 1 : Nat) : Int) : Int).toNat (⟨(tsp (lastOf out)).f0, mx (tsp (lastOf out)).f1 ((q.1 + 2 ^ q.2 : Nat) : Int)⟩ : S71) = (stp out q).map tsp := by
          unfold stp
          rw [if_pos ⟨by rw [hout]; simp, c⟩, Int.toNat_natCast, List.map_set]
          congr 1
          show (⟨((lastOf out).1 : Int), mx ((lastOf out).2 : Int) ((q.1 + 2 ^ q.2 : Nat) : Int)⟩ : S71) = ⟨((lastOf out).1 : Int), ((max (lastOf out).2 (q.1 + 2 ^ q.2) : Nat) : Int)⟩
          congr 1
          unfold mx; split <;> omega
        rw [e]
        refine ih (i + 1) _ (by omega) (by have := stp_len out q; omega) ?_
        unfold stp
        rw [if_pos ⟨by rw [hout]; simp, c⟩]
        intro s hs
        rcases List.mem_or_eq_of_mem_set hs with hs | rfl
        · exact hb s hs
        · show max _ _ ≤ _; omega
      · refine Ev.neg (by show ¬ (q.1 : Int) ≤ ((lastOf out).2 : Int); omega) (Ev.pos (by omega) ?_)
        exact app (fun k => c k.2)
end Go.Proofs.YtbdcaadehfbnbaaDoor.Pb
