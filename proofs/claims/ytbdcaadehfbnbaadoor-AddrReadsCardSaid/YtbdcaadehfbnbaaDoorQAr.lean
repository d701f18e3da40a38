/- The law on strings: AddrReads comes to true. -/
import Derived.Test.YtbdcaadehfbnbaaDoorQRdAddrReads
namespace Go.Proofs.YtbdcaadehfbnbaaDoor.Ar
open Go Go.RowKit Go.Proofs.YtbdcaadehfbnbaaDoorW.PrintWords Go.Proofs.YtbdcaadehfbnbaaDoorW.PrintLast Go.Proofs.YtbdcaadehfbnbaaDoor.Pl Go.Proofs.YtbdcaadehfbnbaaDoor.Bm Go.Proofs.YtbdcaadehfbnbaaDoor.GAddrReads Go.Proofs.YtbdcaadehfbnbaaDoor.PxAddrReads Go.Proofs.YtbdcaadehfbnbaaDoor.RdAddrReads
set_option linter.unusedVariables false
set_option linter.unusedSimpArgs false
/-- what the readers of prefixes return, by where the stroke stands -/
def prv (s : ByteArray) : Int × Int × Int :=
  if Lib.indexByte s.data.toList 47 < 0 then (0, 0, 11)
  else if (rdv (s.extract 0 (Lib.indexByte s.data.toList 47).toNat)).2 = 11 ∨ (Vk.nv (s.extract ((Lib.indexByte s.data.toList 47).toNat + 1) s.size)).2 = false then (0, 0, 11)
  else if (rdv (s.extract 0 (Lib.indexByte s.data.toList 47).toNat)).2 ≠ 0 ∨ (Vk.nv (s.extract ((Lib.indexByte s.data.toList 47).toNat + 1) s.size)).1 > 32 then (0, 0, 10)
  else if pf (rdv (s.extract 0 (Lib.indexByte s.data.toList 47).toNat)).1 (Vk.nv (s.extract ((Lib.indexByte s.data.toList 47).toNat + 1) s.size)).1 = 0 then ((rdv (s.extract 0 (Lib.indexByte s.data.toList 47).toNat)).1, (Vk.nv (s.extract ((Lib.indexByte s.data.toList 47).toNat + 1) s.size)).1, 0)
  else (0, 0, 3)
theorem p0_eq (k : Nat) (x7 : Int) (x8 : Int) (x9 : Int) (x29 : Bool) : addr_ParsePrefix.j0 (k + 1) x7 x8 x9 x29 = if x29 = true then (some (0, 0, 11)) else (if x8 = 0 then (addr_ParsePrefix.j1 k x7 x9 (decide (x9 > 32))) else (addr_ParsePrefix.j1 k x7 x9 true)) := rfl
theorem p1_eq (k : Nat) (x7 : Int) (x9 : Int) (x41 : Bool) : addr_ParsePrefix.j1 (k + 1) x7 x9 x41 = if x41 = true then (some (0, 0, 10)) else ((addr_Check.f x7 x9).bind fun t172 => (if t172 = 0 then (some (x7, x9, 0)) else (some (0, 0, t172)))) := rfl
theorem r0_eq (k : Nat) (x5 : Int) (x6 : Int) (x7 : Int) (x30 : Bool) : patchbayref2_PrefixRead.j0 (k + 1) x5 x6 x7 x30 = if x30 = true then (some (0, 0, 11)) else (if x6 = 10 then (patchbayref2_PrefixRead.j1 k x5 x7 true) else (patchbayref2_PrefixRead.j1 k x5 x7 (decide (x7 > 32)))) := rfl
theorem r1_eq (k : Nat) (x5 : Int) (x7 : Int) (x38 : Bool) : patchbayref2_PrefixRead.j1 (k + 1) x5 x7 x38 = if x38 = true then (some (0, 0, 10)) else ((patchbayref2_PrefixFault.f k x5 x7).bind fun t182 => (if t182 = 0 then (some (x5, x7, 0)) else (some (0, 0, 3)))) := rfl
theorem pf_three {a n : Int} (n0 : 0 ≤ n) (n1 : n ≤ 32) (h : pf a n ≠ 0) : pf a n = 3 := by
  unfold pf at *
  rw [if_neg (by omega)] at *
  by_cases g : a % (B n : Int) = 0
  · rw [if_pos g] at h; exact absurd rfl h
  · rw [if_neg g]
theorem pj1 (a n : Int) (c : Bool) (a0 : 0 ≤ a) (a1 : a < 4294967296) (n0 : 0 ≤ n) (hc : c = decide (n > 32)) : Ev (fun k => addr_ParsePrefix.j1 k a n c) (if n > 32 then (0, 0, 10) else if pf a n = 0 then (a, n, 0) else (0, 0, 3)) := by
  refine Ev.step (fun k => p1_eq k _ _ _) ?_
  by_cases h : n > 32
  · exact Ev.eq (if_pos h) (Ev.pos (by rw [hc]; exact decide_eq_true h) (Ev.now _))
  · refine Ev.eq (if_neg h) (Ev.neg (by rw [hc, decide_eq_false h]; exact Bool.false_ne_true) (Ev.bind (g := fun _ => addr_Check.f a n) (Ev.congr (fun _ => Check_eq a n a0 a1) (Ev.now _)) ?_))
    by_cases g : pf a n = 0
    · exact Ev.eq (if_pos g) (Ev.pos g (Ev.now _))
    · refine Ev.eq (if_neg g) (Ev.neg g (Ev.val ?_))
      rw [pf_three n0 (by omega) g]
theorem Prog_ev (s : ByteArray) (hs : s.size ≤ 900) : Ev (fun k => addr_ParsePrefix.f k s) (prv s) := by
  unfold addr_ParsePrefix.f
  have e : strings_Cut.f s (⟨#[47]⟩ : ByteArray) = some (Vb.cutv s 47) := by
    show Vb.cutF s ⟨#[47]⟩ = _
    unfold Vb.cutF; rw [if_pos ⟨rfl, by omega⟩]
  refine Ev.bind (g := fun _ => strings_Cut.f s (⟨#[47]⟩ : ByteArray)) (Ev.congr (fun _ => e) (Ev.now _)) ?_
  unfold prv Vb.cutv
  have kT : ∀ (x e n : Int) (c : Bool), c = true → Ev (fun k => addr_ParsePrefix.j0 k x e n c) (0, 0, 11) := fun x e n c hc => Ev.step (fun k => p0_eq k _ _ _ _) (Ev.pos hc (Ev.now _))
  by_cases h : Lib.indexByte s.data.toList 47 < 0
  · refine Ev.eq (if_pos h) ?_
    rw [if_neg (by omega)]
    refine Ev.bind (Parse_ev s hs) (Ev.bind (num_ev (⟨#[]⟩ : ByteArray) (by decide)) (Ev.neg Bool.false_ne_true ?_))
    exact kT _ _ _ _ rfl
  · refine Ev.eq (if_neg h) ?_
    rw [if_pos (by omega)]
    generalize (Lib.indexByte s.data.toList 47).toNat = i
    have hl : (s.extract 0 i).size ≤ 900 := by rw [ByteArray.size_extract]; omega
    have hr : (s.extract (i + 1) s.size).size ≤ 900 := by rw [ByteArray.size_extract]; omega
    generalize s.extract 0 i = l at *
    generalize s.extract (i + 1) s.size = r at *
    have hrg := rdv_range l
    have hre := rdv_err l
    have hnr := (Dc.same r).2
    refine Ev.bind (Parse_ev l hl) (Ev.bind (num_ev r (by omega)) (Ev.pos rfl ?_))
    by_cases h1 : (Vk.nv r).2 = true
    · obtain ⟨_, n0, n1⟩ := hnr h1
      refine Ev.pos h1 ?_
      by_cases h2 : (rdv l).2 = 11
      · exact Ev.eq (if_pos (Or.inl h2)) (kT _ _ _ _ (beq_iff_eq.2 h2))
      · refine Ev.eq (if_neg (by rw [h1]; simp [h2])) ?_
        refine Ev.step (fun k => p0_eq k _ _ _ _) (Ev.neg (by rw [beq_eq_false_iff_ne.2 h2]; exact Bool.false_ne_true) ?_)
        by_cases h3 : (rdv l).2 = 0
        · refine Ev.pos h3 (Ev.eq ?_ (pj1 _ _ _ hrg.1 hrg.2 n0 rfl))
          by_cases g : (Vk.nv r).1 > 32
          · rw [if_pos (Or.inr g), if_pos g]
          · rw [if_neg (by rw [h3]; simp; omega), if_neg g]
        · refine Ev.neg h3 (Ev.eq (if_pos (Or.inl h3)) (Ev.step (fun k => p1_eq k _ _ _) (Ev.pos rfl (Ev.now _))))
    · refine Ev.neg h1 (Ev.eq (if_pos (Or.inr (by simpa using h1))) (kT _ _ _ _ rfl))
theorem rj1 (a n : Int) (c : Bool) (a0 : 0 ≤ a) (a1 : a < 4294967296) (n0 : 0 ≤ n) (hc : c = decide (n > 32)) : Ev (fun k => patchbayref2_PrefixRead.j1 k a n c) (if n > 32 then (0, 0, 10) else if pf a n = 0 then (a, n, 0) else (0, 0, 3)) := by
  refine Ev.step (fun k => r1_eq k _ _ _) ?_
  by_cases h : n > 32
  · exact Ev.eq (if_pos h) (Ev.pos (by rw [hc]; exact decide_eq_true h) (Ev.now _))
  · refine Ev.eq (if_neg h) (Ev.neg (by rw [hc, decide_eq_false h]; exact Bool.false_ne_true) (Ev.bind (Fault_ev a n a0 a1) ?_))
    by_cases g : pf a n = 0
    · exact Ev.eq (if_pos g) (Ev.pos g (Ev.now _))
    · exact Ev.eq (if_neg g) (Ev.neg g (Ev.now _))
theorem Ref_ev (s : ByteArray) (hs : s.size ≤ 900) : Ev (fun k => patchbayref2_PrefixRead.f k s) (prv s) := by
  unfold patchbayref2_PrefixRead.f
  have e : strings_IndexByte.f s 47 = some (Lib.indexByte s.data.toList 47) := rfl
  refine Ev.bind (g := fun _ => strings_IndexByte.f s 47) (Ev.congr (fun _ => e) (Ev.now _)) ?_
  unfold prv
  by_cases h : Lib.indexByte s.data.toList 47 < 0
  · exact Ev.eq (if_pos h) (Ev.pos h (Ev.now _))
  · refine Ev.eq (if_neg h) (Ev.neg h ?_)
    obtain ⟨i, hi⟩ := Int.eq_ofNat_of_zero_le (show 0 ≤ Lib.indexByte s.data.toList 47 by omega)
    have hlt : i < s.size := by
      have g := (Lib.indexByte_some hi).1
      rcases Nat.lt_or_ge i s.data.toList.length with q | q
      · exact q
      · rw [List.getElem?_eq_none q] at g; cases g
    rw [hi, plus1 i (by omega)]
    simp only [Int.toNat_natCast]
    refine Ev.pos (by omega) (Ev.pos (by omega) ?_)
    have hl : (s.extract 0 i).size ≤ 900 := by rw [ByteArray.size_extract]; omega
    have hr : (s.extract (i + 1) s.size).size ≤ 900 := by rw [ByteArray.size_extract]; omega
    generalize s.extract 0 i = l at *
    generalize hre0 : s.extract (i + 1) s.size = r at *
    have hrg := rdv_range l
    have hre := rdv_err l
    have hsm := Dc.same r
    refine Ev.bind (Read_ev l hl) (Ev.pos (by omega) (Ev.pos (by omega) ?_))
    refine Ev.bind (dec_ev r (by omega)) ?_
    have kT : ∀ (x e n : Int) (c : Bool), c = true → Ev (fun k => patchbayref2_PrefixRead.j0 k x e n c) (0, 0, 11) := fun x e n c hc => Ev.step (fun k => r0_eq k _ _ _ _) (Ev.pos hc (Ev.now _))
    by_cases h2 : (rdv l).2 = 11
    · exact Ev.eq (if_pos (Or.inl h2)) (Ev.pos h2 (kT _ _ _ _ rfl))
    · refine Ev.neg h2 ?_
      by_cases h1 : (Vk.nv r).2 = true
      · obtain ⟨e1, n0, n1⟩ := hsm.2 h1
        refine Ev.eq (if_neg (by rw [h1]; simp [h2])) ?_
        rw [e1]
        refine Ev.step (fun k => r0_eq k _ _ _ _) (Ev.neg (by rw [hsm.1, h1]; exact Bool.false_ne_true) ?_)
        by_cases h3 : (rdv l).2 = 10
        · refine Ev.pos h3 (Ev.eq (if_pos (Or.inl (by rw [h3]; decide))) (Ev.step (fun k => r1_eq k _ _ _) (Ev.pos rfl (Ev.now _))))
        · have h4 : (rdv l).2 = 0 := by omega
          refine Ev.neg h3 (Ev.eq ?_ (rj1 _ _ _ hrg.1 hrg.2 n0 rfl))
          by_cases g : (Vk.nv r).1 > 32
          · rw [if_pos (Or.inr g), if_pos g]
          · rw [if_neg (by rw [h4]; simp; omega), if_neg g]
      · have h1' : (Vk.nv r).2 = false := by simpa using h1
        exact Ev.eq (if_pos (Or.inr h1')) (kT _ _ _ _ (by rw [hsm.1, h1']; rfl))
theorem begin_eq (s : ByteArray) : patchbaylaw2_begin.f s 40 = some (s.extract 0 (min s.size 40)) := by
  unfold patchbaylaw2_begin.f
  have e : mn (s.size : Int) 40 = ((min s.size 40 : Nat) : Int) := by unfold mn; split <;> omega
  rw [e, if_pos (by omega), if_pos (by omega), Int.toNat_natCast]
theorem law_ev (s : ByteArray) : Ev (fun k => patchbaylaw2_AddrReads.f k s) true := by
  unfold patchbaylaw2_AddrReads.f
  refine Ev.bind lives_ev (Ev.pos rfl (Ev.bind (g := fun _ => patchbaylaw2_begin.f s 40) (Ev.congr (fun _ => begin_eq s) (Ev.now _)) ?_))
  have hz : (s.extract 0 (min s.size 40)).size ≤ 900 := by rw [ByteArray.size_extract]; omega
  generalize s.extract 0 (min s.size 40) = t at *
  refine Ev.bind (Parse_ev t hz) (Ev.bind (Read_ev t hz) (Ev.bind (Prog_ev t hz) (Ev.bind (Ref_ev t hz) (Ev.pos rfl (Ev.pos rfl (Ev.pos ?_ (Ev.val ?_)))))))
  · simp
  · simp
theorem law_calls (s : ByteArray) (w : World) (hv : Vb.Ok w) : Calls Tryd.prog 6 #[.string s] w fun e w' => e = .returned (.bool true) ∧ Below w.heap.size w w' := by
  obtain ⟨k, hk⟩ := (law_ev s).rounds
  exact patchbaylaw2_AddrReads.calls k s true w hv hk
end Go.Proofs.YtbdcaadehfbnbaaDoor.Ar
