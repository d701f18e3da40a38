/- Clone at prefixes in the print's words. -/
import Derived.Test.YtbdcaadehfbnbaaDoorGPsetMakesx0
import Derived.Test.YtbdcaadehfbnbaaDoorQSg
namespace Go.Proofs.YtbdcaadehfbnbaaDoor.Ck
open Go Go.RowKit Go.Proofs.YtbdcaadehfbnbaaDoorW.PrintWords Go.Proofs.YtbdcaadehfbnbaaDoorW.PrintLast Go.Proofs.YtbdcaadehfbnbaaDoorW.PrintMore Go.Proofs.YtbdcaadehfbnbaaDoor.GPsetMakes
set_option linter.unusedVariables false
set_option linter.unusedSimpArgs false
/-- a prefix's cells -/
def enc (x : S24) : List Value := [.int .u32 x.f0, .int .i64 x.f1]
def encs24 (xs : List S24) : List Value := (xs.map enc).flatten
theorem encs24_length (xs : List S24) : (encs24 xs).length = xs.length * 2 := by
  induction xs with
  | nil => rfl
  | cons x xs ih =>
    show ([Value.int .u32 x.f0, .int .i64 x.f1] ++ encs24 xs).length = _
    rw [List.length_append, ih]; simp; omega
theorem reps24 {R : S24 → List Value → Prop} (hR : ∀ x, R x (enc x)) (xs : List S24) : Reps R 2 xs (encs24 xs) := by
  induction xs with
  | nil => exact Reps.none _ _
  | cons x xs ih =>
    refine ⟨encs24_length _, fun j p hp => ?_⟩
    cases j with
    | zero =>
      obtain rfl : x = p := by simpa using hp
      exact hR x
    | succ j =>
      have h2 := ih.2 j p (by simpa using hp)
      have e : (encs24 (x :: xs)).drop ((j + 1) * 2) = (encs24 xs).drop (j * 2) := by
        show ([Value.int .u32 x.f0, .int .i64 x.f1] ++ encs24 xs).drop ((j + 1) * 2) = _
        rw [show (j + 1) * 2 = 2 + j * 2 by omega, ← List.drop_drop]; rfl
      rw [e]; exact h2
theorem inner24 {R : S24 → List Value → Prop} (hR : ∀ x cs, R x cs → cs = enc x) : ∀ (xs : List S24) (inner : List Value), Reps R 2 xs inner → inner = encs24 xs
  | [], inner, h => by
    have := h.1
    exact List.length_eq_zero_iff.1 (by simpa using this)
  | x :: xs, inner, h => by
    have hl := h.1
    have h0 := hR _ _ (h.2 0 x rfl)
    have hr : Reps R 2 xs (inner.drop 2) := by
      refine ⟨by rw [List.length_drop, hl, List.length_cons]; omega, fun j p hp => ?_⟩
      have := h.2 (j + 1) p (by simpa using hp)
      rw [List.drop_drop]
      rw [show 2 + j * 2 = (j + 1) * 2 by omega]; exact this
    have ih := inner24 hR xs _ hr
    have e : inner = inner.take 2 ++ inner.drop 2 := (List.take_append_drop 2 inner).symm
    rw [e, ih, show inner.take 2 = enc x by simpa using h0]; rfl
theorem enc_one (xs : List S24) : ∀ u ∈ encs24 xs, u.oneCell' = true := by
  intro u hu
  obtain ⟨l, hl, h2⟩ := List.mem_flatten.1 hu
  obtain ⟨x, _, rfl⟩ := List.mem_map.1 hl
  unfold enc at h2
  simp only [List.mem_cons, List.not_mem_nil, or_false] at h2
  rcases h2 with rfl | rfl <;> rfl
theorem addr_plain {w : World} {ad : Addr} {v : Value} (h : w.cell? ad = some v) : ∃ b o, ad = ⟨b, o, none⟩ := by
  obtain ⟨b, o, ix⟩ := ad
  cases ix with
  | none => exact ⟨b, o, rfl⟩
  | some i =>
    exfalso
    unfold World.cell? at h
    split at h
    · rw [if_pos (show (⟨b, o, some i⟩ : Addr).spot.isSome = true from rfl)] at h; cases h
    · cases h
theorem add_plain (b o j : Nat) : (⟨b, o, none⟩ : Addr).add j = ⟨b, o + j, none⟩ := by
  unfold Addr.add
  by_cases q : j = 0
  · subst q; rfl
  · rw [if_neg q]
/-- a row that is read: its cells -/
theorem cells24 {w : World} {A : Option Addr} {xs : List S24} (h : Kd.C k24 w A xs.length xs) (h0 : 0 < xs.length) :
    ∃ b o, A = some ⟨b, o, none⟩ ∧ ∀ j u, (encs24 xs)[j]? = some u → w.cell? ⟨b, o + j, none⟩ = some u := by
  obtain ⟨ad, rfl, _⟩ := h.2.2 h0
  obtain ⟨inner, hr, hc⟩ := ReadsRow.inner_ h
  have e := inner24 (fun x cs hk => k24_open hk) xs inner hr
  subst e
  have hn : 0 < (encs24 xs).length := by rw [encs24_length]; omega
  have g0 := hc 0 _ (List.getElem?_eq_getElem hn)
  obtain ⟨b, o, rfl⟩ := addr_plain (show w.cell? ad = _ by simpa [Addr.add] using g0)
  exact ⟨b, o, rfl, fun j u hu => by have := hc j u hu; rwa [add_plain] at this⟩
theorem R_of_own24 {w : World} {base : Nat} {ok : Nat → Prop} {v : Value} {xs : List S24} (ho : w.ownsRow base 24 2 v xs.length (encs24 xs)) (hok : ∀ k, v.ownBlock = some k → ok k) : Kd.R k24 24 w base ok v xs :=
  ⟨hok, encs24 xs, ho, reps24 (fun x => k24_mkM _ _ _ x) xs⟩
def cloneF (l : List S24) : Option (List S24) := if l.length ≤ 1000 then some l else none
theorem hinfo24 : ∃ i0, Tryd.prog.info? 24 = some i0 ∧ i0.zero = some (.agg #[(.int .u32 0), (.int .i64 0)]) ∧ i0.size = 2 ∧ i0.bytes = 16 := by
  have := info24
  cases hi : Tryd.prog.info? 24 with
  | none => rw [hi] at this; cases this
  | some i0 =>
    rw [hi] at this
    simp only [Option.map_some, Option.some.injEq, Prod.mk.injEq] at this
    exact ⟨i0, rfl, this.1, this.2.1, this.2.2⟩
set_option maxHeartbeats 4000000 in
set_option maxRecDepth 100000 in
theorem clone_zero (ad : Addr) (c : Nat) (w : World) : Calls Tryd.prog 71 #[.slice (some ad) 0 c] w fun e w' => ∃ v0_ : Value, e = .returned v0_ ∧ Kd.R k24 24 w' w.heap.size (fun _ => True) v0_ ([] : List S24) ∧ Below w.heap.size w w' := by
  obtain ⟨i0, e1, e2, e3, e4⟩ := hinfo24
  have q22 : ∀ (w : World) (a : Option Addr) (n c n' c' : Nat), (binOp .eql 32 (.slice a n c) (.slice none n' c')).run Tryd.prog w = .ok (.bool a.isNone) w := fun w a n c n' c' => Lib.run_eql_slice_nil w _ _ a n c n' c' Tryd.underlying32
  have u22 : ∀ w, Sem.run Tryd.prog (underlying 32) w = .ok (TypeDesc.slice 24) w := run_underlying Tryd.underlying32
  go_enter Tryd.func71, Tryd.ntmps71
  go_wp2_with (at_builtin; refine wpList_append_own _ rfl _ _ 32 rfl w.heap.size 24 i0 _ 2 16 Tryd.underlying32 e1 e2 e3 e4 rfl (by decide) _ _ _ rfl (World.ownsRow_made w #[] 0 (Nat.le_refl _) (Nat.zero_le _) (by simp)) ad 0 c [] rfl ?qc1 ?qc2 ?qc3 ?qc4 ?qc5 ?qc6 ?_)
  case qc1 => rfl
  case qc2 => intro j u hj; simp at hj
  case qc3 => intro u hu; simp at hu
  case qc4 => unfold maxLen; omega
  case qc5 => omega
  case qc6 => simp
  intro v' w1 hown hgrow hnil
  go_wp2
  go_ret
  refine ⟨v', rfl, R_of_own24 (xs := []) (show w1.ownsRow w.heap.size 24 2 v' 0 [] by simpa using hown) (fun _ _ => trivial), ?_⟩
  exact ((Below.refl _ w).alloc (Nat.le_refl _) _).grown hgrow (by simp) (by intro k hk; simp [Value.ownBlock] at hk; omega)
theorem clone_calls (A0 : Option Addr) (c0 : Nat) (l0 : List S24) (r : List S24) (w : World) (hr0 : Kd.C k24 w A0 l0.length l0) (hc0 : l0.length ≤ c0) (h : cloneF l0 = some r) :
    Calls Tryd.prog 71 #[.slice A0 l0.length c0] w fun e w' => ∃ v0_ : Value, e = .returned (v0_) ∧ Kd.R k24 24 w' w.heap.size (fun _ => True) v0_ r ∧ Below w.heap.size w w' := by
  unfold cloneF at h
  by_cases c : l0.length ≤ 1000
  · rw [if_pos c] at h
    obtain rfl := Option.some.inj h
    rcases Nat.eq_zero_or_pos l0.length with h0 | h0
    · obtain rfl := List.length_eq_zero_iff.1 h0
      cases A0 with
      | none =>
        exact (AnyE.slices_Clone_nil Tryd.laysClone 0 c0 w).mono fun e w' hh => ⟨_, hh.1, Kd.R_nil _ _ _ _ _, by rw [hh.2]; exact Below.refl _ _⟩
      | some ad => exact clone_zero ad c0 w
    · obtain ⟨b, o, rfl, hc⟩ := cells24 hr0 h0
      obtain ⟨i0, e1, e2, e3, e4⟩ := hinfo24
      have := AnyE.slices_Clone Tryd.laysClone i0 _ 2 16 e1 e2 e3 e4 rfl (by decide) Tryd.sizeOf24 b o l0.length c0 (encs24 l0) w (encs24_length _) (by unfold maxLen; omega) (by omega) hc (enc_one _)
      refine this.mono fun e w' hh => ?_
      obtain ⟨v', rfl, ho, _, hb⟩ := hh
      exact ⟨v', rfl, R_of_own24 ho (fun _ _ => trivial), hb⟩
  · rw [if_neg c] at h; simp at h
end Go.Proofs.YtbdcaadehfbnbaaDoor.Ck
