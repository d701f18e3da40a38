/- The law CutSays on numbers, strings and lists. -/
import Derived.Test.YthpohaafphaidaaQPl
import Derived.Test.YthpohaafphaidaaGCutSaysx6
namespace Go.Proofs.Ythpohaafphaidaa.UcCutSays
open Go.RowKit Go.Proofs.YthpohaafphaidaaW.PrintWords Go.Proofs.YthpohaafphaidaaW.PrintLast Go.Proofs.Ythpohaafphaidaa.Pl Go.Proofs.Ythpohaafphaidaa.GCutSays Go.Proofs.Ythpohaafphaidaa.Cp
set_option linter.unusedVariables false
set_option linter.unusedSimpArgs false
/-- what is wrong with a packet -/
def pf (a2 a3 a4 a5 : Int) (m h : Bool) (n : Nat) : Int :=
  if a2 < 0 ∨ a2 > 255 ∨ a3 < 1 ∨ a3 > 255 ∨ a4 < 0 ∨ a4 > 65535 ∨ a5 < 0 ∨ a5 > 65528 then 10
  else if (n : Int) > 1500 ∨ a5 + (n : Int) > 65535 then 2
  else if a5 % 8 ≠ 0 then 3
  else if m = true ∧ n % 8 ≠ 0 then 3
  else if (m = true ∨ a5 > 0) ∧ (n = 0 ∨ h = true) then 3 else 0
theorem nil_iff (s : ByteArray) : s.toList = ([] : List UInt8) ↔ s.size = 0 := by
  rw [ByteArray.toList_eq]
  have e : s.data.toList.length = s.size := rfl
  rw [← e, List.length_eq_zero_iff]
theorem check_eq (a0 a1 a2 a3 a4 a5 : Int) (m h : Bool) (s : ByteArray) (hs : s.size ≤ 1048576) (k : Nat) (hk : 2 ≤ k) :
    pkt_Check.f k a0 a1 a2 a3 a4 a5 m h s = some (pf a2 a3 a4 a5 m h s.size) := by
  obtain ⟨k, rfl⟩ : ∃ j, k = j + 2 := ⟨k - 2, by omega⟩
  unfold pkt_Check.f
  by_cases c0 : a2 < 0 ∨ a2 > 255 ∨ a3 < 1 ∨ a3 > 255 ∨ a4 < 0 ∨ a4 > 65535 ∨ a5 < 0 ∨ a5 > 65528
  · have e : pf a2 a3 a4 a5 m h s.size = 10 := by unfold pf; rw [if_pos c0]
    rw [e]
    simp only [pkt_Check.j0, if_true]
    repeat' split
    all_goals first | rfl | (simp at *; omega)
  · have e5 : decide (a5 > 65528) = false := by simp; omega
    rw [if_neg (by omega), if_neg (by omega), if_neg (by omega), if_neg (by omega), if_neg (by omega), if_neg (by omega), if_neg (by omega), e5]
    simp only [pkt_Check.j0, Bool.false_eq_true, if_false]
    have ew : wrap64 (a5 + (s.size : Int)) = a5 + (s.size : Int) := w64 (by omega) (by omega)
    have et : Int.tmod a5 8 = a5 % 8 := Int.tmod_eq_emod_of_nonneg (by omega)
    rw [ew]
    unfold pf
    rw [if_neg c0]
    by_cases c1 : (s.size : Int) > 1500 ∨ a5 + (s.size : Int) > 65535
    · rw [if_pos c1]
      simp only [pkt_Check.j1, if_true]
      split
      · rfl
      · have : decide (a5 + (s.size : Int) > 65535) = true := by simp; omega
        rw [if_pos this]
    · rw [if_neg c1, if_neg (by omega)]
      have : decide (a5 + (s.size : Int) > 65535) = false := by simp; omega
      rw [this]
      simp only [pkt_Check.j1, Bool.false_eq_true, if_false, et, nil_iff]
      have e8 : ((s.size : Int) % 8 = 0) ↔ s.size % 8 = 0 := by omega
      simp only [e8]
      by_cases d0 : a5 % 8 = 0 <;> by_cases d1 : s.size % 8 = 0 <;> by_cases d2 : s.size = 0 <;> by_cases d3 : a5 > 0 <;> cases m <;> cases h <;> simp [d0, d1, d2, d3]
theorem fault_eq (a0 a1 a2 a3 a4 a5 : Int) (m h : Bool) (s : ByteArray) (hs : s.size ≤ 1048576) (k : Nat) (hk : 2 ≤ k) :
    patchbayref2_PacketFault.f k a0 a1 a2 a3 a4 a5 m h s = some (pf a2 a3 a4 a5 m h s.size) := by
  obtain ⟨k, rfl⟩ : ∃ j, k = j + 2 := ⟨k - 2, by omega⟩
  unfold patchbayref2_PacketFault.f
  by_cases c0 : a2 < 0 ∨ a2 > 255 ∨ a3 < 1 ∨ a3 > 255 ∨ a4 < 0 ∨ a4 > 65535 ∨ a5 < 0 ∨ a5 > 65528
  · have e : pf a2 a3 a4 a5 m h s.size = 10 := by unfold pf; rw [if_pos c0]
    rw [e]
    simp only [patchbayref2_PacketFault.j0, if_true]
    repeat' split
    all_goals first | rfl | (simp at *; omega)
  · have e5 : decide (a5 > 65528) = false := by simp; omega
    rw [if_neg (by omega), if_neg (by omega), if_neg (by omega), if_neg (by omega), if_neg (by omega), if_neg (by omega), if_neg (by omega), e5]
    simp only [patchbayref2_PacketFault.j0, Bool.false_eq_true, if_false]
    have ew : wrap64 (a5 + (s.size : Int)) = a5 + (s.size : Int) := w64 (by omega) (by omega)
    have et : Int.tmod a5 8 = a5 % 8 := Int.tmod_eq_emod_of_nonneg (by omega)
    rw [ew]
    unfold pf
    rw [if_neg c0]
    by_cases c1 : (s.size : Int) > 1500 ∨ a5 + (s.size : Int) > 65535
    · rw [if_pos c1]
      simp only [patchbayref2_PacketFault.j1, if_true]
      split
      · rfl
      · have : decide (a5 + (s.size : Int) > 65535) = true := by simp; omega
        rw [if_pos this]
    · rw [if_neg c1, if_neg (by omega)]
      have : decide (a5 + (s.size : Int) > 65535) = false := by simp; omega
      rw [this]
      simp only [patchbayref2_PacketFault.j1, Bool.false_eq_true, if_false, et]
      have e8 : ((s.size : Int) % 8 > 0) ↔ ¬ s.size % 8 = 0 := by omega
      have e9 : ((s.size : Int) = 0) ↔ s.size = 0 := by omega
      have e10 : (a5 % 8 > 0) ↔ ¬ a5 % 8 = 0 := by omega
      have e11 : (a5 = 0) ↔ ¬ a5 > 0 := by omega
      simp only [e8, e9, e10, e11]
      by_cases d0 : a5 % 8 = 0 <;> by_cases d1 : s.size % 8 = 0 <;> by_cases d2 : s.size = 0 <;> by_cases d3 : a5 > 0 <;> cases m <;> cases h <;> simp [d0, d1, d2, d3]
theorem Ev.val' {α : Type} {f : Option α} {r : α} (h : f = some r) : Ev (fun _ => f) r := h ▸ Ev.now r
theorem mn_nat (a b : Nat) : mn (a : Int) (b : Int) = ((min a b : Nat) : Int) := by unfold mn; split <;> omega
theorem extract_min (s : ByteArray) (n : Nat) : s.extract 0 (min s.size n) = s.extract 0 n := by
  refine ext_eq (by simp only [ByteArray.size_extract]; omega) fun i h1 h2 => ?_
  simp only [ByteArray.data_extract, Array.getElem_extract]
theorem extract_all (s : ByteArray) : s.extract 0 s.size = s := by
  refine ext_eq (by simp only [ByteArray.size_extract]; omega) fun i h1 h2 => ?_
  simp only [ByteArray.data_extract, Array.getElem_extract, Nat.zero_add]
theorem begin_eq (s : ByteArray) : patchbaylaw2_begin.f s 60 = some (s.extract 0 60) := by
  unfold patchbaylaw2_begin.f
  rw [show (60 : Int) = ((60 : Nat) : Int) from rfl, mn_nat, if_pos (by omega), if_pos (by omega), Int.toNat_natCast, extract_min]
theorem cut_size (s : ByteArray) : (s.extract 0 60).size ≤ 60 := by rw [ByteArray.size_extract]; omega
/-- what is wrong with a cut -/
def cf (F n : Int) (h : Bool) (z : Nat) : Int := if F ≠ 0 then F else if n < 28 ∨ n > 1520 then 10 else if h = true ∧ 20 + (z : Int) > n then 14 else 0
theorem Wrong_ev (a0 a1 a2 a3 a4 a5 : Int) (m h : Bool) (b : ByteArray) (hb : b.size ≤ 60) (n : Int) : Ev (fun k => cut_wrong.f k a0 a1 a2 a3 a4 a5 m h b n) (cf (pf a2 a3 a4 a5 m h b.size) n h b.size) := by
  have C : Ev (fun k => pkt_Check.f k a0 a1 a2 a3 a4 a5 m h b) (pf a2 a3 a4 a5 m h b.size) := ⟨2, fun k hk => check_eq a0 a1 a2 a3 a4 a5 m h b (by omega) k hk⟩
  generalize pf a2 a3 a4 a5 m h b.size = F at C ⊢
  refine Ev.congr (fun k => rfl) (Ev.bind C ?_)
  unfold cf
  by_cases c : F = 0
  · refine Ev.pos c ?_
    rw [if_neg (by simp [c])]
    have J : ∀ t, t = decide (n < 28 ∨ n > 1520) → Ev (fun k => cut_wrong.j0 k n t a0 a1 a2 a3 a4 a5 m h b) (if n < 28 ∨ n > 1520 then 10 else if h = true ∧ 20 + (b.size : Int) > n then 14 else 0) := by
      intro t ht
      refine Ev.step (fun k => rfl) ?_
      simp only [cut_wrong.j0]
      rw [w64 (x := 20 + (b.size : Int)) (by omega) (by omega)]
      cases t
      · rw [if_neg (of_decide_eq_false ht.symm)]
        refine Ev.neg (by simp) ?_
        cases h
        · exact Ev.neg (by simp) (Ev.val (by simp))
        · refine Ev.pos rfl ?_
          by_cases c2 : 20 + (b.size : Int) > n
          · exact Ev.pos c2 (Ev.val (by simp [c2]))
          · exact Ev.neg c2 (Ev.val (by simp [c2]))
      · rw [if_pos (of_decide_eq_true ht.symm)]
        exact Ev.pos rfl (Ev.val rfl)
    by_cases c1 : n < 28
    · exact Ev.pos c1 (J true (by simp [c1]))
    · exact Ev.neg c1 (J _ (by simp [c1]))
  · rw [if_pos c]; exact Ev.neg c (Ev.val rfl)
theorem CutFault_ev (a0 a1 a2 a3 a4 a5 : Int) (m h : Bool) (b : ByteArray) (hb : b.size ≤ 60) (n : Int) : Ev (fun k => patchbayref2_CutFault.f k a0 a1 a2 a3 a4 a5 m h b n) (cf (pf a2 a3 a4 a5 m h b.size) n h b.size) := by
  have C : Ev (fun k => patchbayref2_PacketFault.f k a0 a1 a2 a3 a4 a5 m h b) (pf a2 a3 a4 a5 m h b.size) := ⟨2, fun k hk => fault_eq a0 a1 a2 a3 a4 a5 m h b (by omega) k hk⟩
  generalize pf a2 a3 a4 a5 m h b.size = F at C ⊢
  refine Ev.congr (fun k => rfl) (Ev.bind C ?_)
  unfold cf
  by_cases c : F = 0
  · refine Ev.pos c ?_
    rw [if_neg (by simp [c])]
    have J : ∀ t, t = decide (n < 28 ∨ n > 1520) → Ev (fun k => patchbayref2_CutFault.j0 k n t a0 a1 a2 a3 a4 a5 m h b) (if n < 28 ∨ n > 1520 then 10 else if h = true ∧ 20 + (b.size : Int) > n then 14 else 0) := by
      intro t ht
      refine Ev.step (fun k => rfl) ?_
      simp only [patchbayref2_CutFault.j0]
      rw [w64 (x := 20 + (b.size : Int)) (by omega) (by omega)]
      cases t
      · rw [if_neg (of_decide_eq_false ht.symm)]
        refine Ev.neg (by simp) ?_
        cases h
        · exact Ev.neg (by simp) (Ev.val (by simp))
        · refine Ev.pos rfl ?_
          by_cases c2 : 20 + (b.size : Int) > n
          · exact Ev.pos c2 (Ev.val (by simp [c2]))
          · exact Ev.neg c2 (Ev.val (by simp [c2]))
      · rw [if_pos (of_decide_eq_true ht.symm)]
        exact Ev.pos rfl (Ev.val rfl)
    by_cases c1 : n < 28
    · exact Ev.pos c1 (J true (by simp [c1]))
    · exact Ev.neg c1 (J _ (by simp [c1]))
  · rw [if_pos c]; exact Ev.neg c (Ev.val rfl)
theorem tmod8 (x : Int) (h : 0 ≤ x) : Int.tmod x 8 = x % 8 := Int.tmod_eq_emod_of_nonneg h
theorem cut_ev (a0 a1 a2 a3 a4 o : Int) (m h : Bool) (b : ByteArray) (n e M : Nat) (N : Num n e b.size M) (o0 : 0 ≤ o) (o1 : o ≤ 65528) : ∀ d j, j + d = M →
    Ev (fun k => cut_Cut.l0 k (n : Int) ((List.range j).map (nl a0 a1 a2 a3 a4 o h b e)) a0 a1 a2 a3 a4 (o + ((j * e : Nat) : Int)) m h (b.extract (j * e) b.size)) (pcs a0 a1 a2 a3 a4 o m h b e M, 0) := by
  have hM := N.small
  have n0 := N.n0; have n1 := N.n1; have e0 := N.e0; have z1 := N.z1
  have q : wrap64 ((wrap64 (Int.tdiv (wrap64 ((n : Int) - 20)) 8)) * 8) = (e : Int) := by
    rw [w64 (x := (n : Int) - 20) (by omega) (by omega), Int.tdiv_eq_ediv_of_nonneg (by omega), w64 (x := ((n : Int) - 20) / 8) (by omega) (by omega), w64 (by omega) (by omega)]
    omega
  intro d
  induction d with
  | zero =>
    intro j hj
    obtain rfl : j = M := by omega
    have hs := N.st
    refine Ev.step (fun k => rfl) ?_
    simp only [cut_Cut.l0]
    rw [ByteArray.size_extract, w64 (x := 20 + ((min b.size b.size - j * e : Nat) : Int)) (by omega) (by omega)]
    refine Ev.neg (by generalize j * e = p at *; omega) (Ev.pos (by simp; omega) (Ev.val rfl))
  | succ d ih =>
    intro j hj
    have hg := N.go j (by omega)
    have ha := N.at_ (j := j) (by omega)
    refine Ev.step (fun k => rfl) ?_
    simp only [cut_Cut.l0]
    rw [q, ByteArray.size_extract, w64 (x := 20 + ((min b.size b.size - j * e : Nat) : Int)) (by omega) (by omega)]
    have hs : (j + 1) * e = j * e + e := Nat.succ_mul j e
    have E := ih (j + 1) (by omega)
    rw [hs] at E
    refine Ev.pos (by generalize j * e = p at *; omega) (Ev.pos (by omega) (Ev.pos (by generalize j * e = p at *; omega) (Ev.pos (by simp; omega) ?_)))
    rw [Int.toNat_natCast, w64 (x := o + ((j * e : Nat) : Int) + (e : Int)) (by generalize j * e = p at *; omega) (by generalize j * e = p at *; omega)]
    rw [cut_cut b (j * e) 0 e (j * e + e) rfl ha (by omega), cut_cut b (j * e) e (min b.size b.size - j * e) b.size (by omega) (by omega) (by omega)]
    have r : (List.range j).map (nl a0 a1 a2 a3 a4 o h b e) ++ [(⟨a0, a1, a2, a3, a4, o + ((j * e : Nat) : Int), true, h, b.extract (j * e + 0) (j * e + e)⟩ : S30)] = (List.range (j + 1)).map (nl a0 a1 a2 a3 a4 o h b e) := by
      rw [List.range_succ, List.map_append]; rfl
    rw [r, show o + ((j * e : Nat) : Int) + (e : Int) = o + ((j * e + e : Nat) : Int) by omega]
    exact E
theorem cf_zero {F n : Int} {h : Bool} {z : Nat} (c : cf F n h z = 0) : F = 0 ∧ 28 ≤ n ∧ n ≤ 1520 := by
  unfold cf at c
  split at c
  · rename_i q; exact absurd c q
  · rename_i q
    split at c
    · simp at c
    · exact ⟨by omega, by omega, by omega⟩
theorem pf_off {a2 a3 a4 a5 : Int} {m h : Bool} {n : Nat} (e : pf a2 a3 a4 a5 m h n = 0) : 0 ≤ a5 ∧ a5 ≤ 65528 := by
  unfold pf at e
  split at e
  · omega
  · omega
theorem pcs_length (a0 a1 a2 a3 a4 o : Int) (m h : Bool) (b : ByteArray) (e M : Nat) : (pcs a0 a1 a2 a3 a4 o m h b e M).length = M + 1 := by simp [pcs]
theorem start_nl (a0 a1 a2 a3 a4 o : Int) (m h : Bool) (b : ByteArray) (n e M : Nat) (N : Num n e b.size M) (o0 : 0 ≤ o) (o1 : o ≤ 65528) :
    Ev (fun k => cut_Cut.l0 k (n : Int) ([] : List S30) a0 a1 a2 a3 a4 o m h b) (pcs a0 a1 a2 a3 a4 o m h b e M, 0) := by
  have := cut_ev a0 a1 a2 a3 a4 o m h b n e M N o0 o1 M 0 (by omega)
  simp only [Nat.zero_mul, extract_all] at this
  simpa using this
theorem Cut_bad (a0 a1 a2 a3 a4 a5 : Int) (m h : Bool) (b : ByteArray) (hb : b.size ≤ 60) (n : Int) (F : Int) (hF : cf (pf a2 a3 a4 a5 m h b.size) n h b.size = F) (c : F ≠ 0) : Ev (fun k => cut_Cut.f k a0 a1 a2 a3 a4 a5 m h b n) (([] : List S30), F) := by
  have W := Wrong_ev a0 a1 a2 a3 a4 a5 m h b hb n
  rw [hF] at W
  exact Ev.congr (fun k => rfl) (Ev.bind W (Ev.neg c (Ev.val rfl)))
theorem Cut_good (a0 a1 a2 a3 a4 a5 : Int) (m h : Bool) (b : ByteArray) (hb : b.size ≤ 60) (n : Nat) (hF : cf (pf a2 a3 a4 a5 m h b.size) n h b.size = 0) (M : Nat) (N : Num n ((n - 20) / 8 * 8) b.size M) : Ev (fun k => cut_Cut.f k a0 a1 a2 a3 a4 a5 m h b (n : Int)) (pcs a0 a1 a2 a3 a4 a5 m h b ((n - 20) / 8 * 8) M, 0) := by
  have W := Wrong_ev a0 a1 a2 a3 a4 a5 m h b hb n
  rw [hF] at W
  have z := pf_off (cf_zero hF).1
  exact Ev.congr (fun k => rfl) (Ev.bind W (Ev.pos rfl (start_nl a0 a1 a2 a3 a4 a5 m h b n _ M N z.1 z.2)))
theorem Same_ev (l : List S30) (hl : l.length ≤ 1000000) : Ev (fun k => patchbayref2_SamePackets.f k l l) true := Ev.congr (f := fun _ => some true) (fun k => by unfold patchbayref2_SamePackets.f; rw [if_pos ⟨rfl, hl⟩]) (Ev.now _)
theorem Pieces_good (a0 a1 a2 a3 a4 a5 : Int) (m h : Bool) (b : ByteArray) (hb : b.size ≤ 60) (n : Nat) (hF : cf (pf a2 a3 a4 a5 m h b.size) n h b.size = 0) : Ev (fun k => patchbayref2_Pieces.f k a0 a1 a2 a3 a4 a5 m h b (n : Int)) (pcs a0 a1 a2 a3 a4 a5 m h b ((n - 20) / 8 * 8) (cnt n b.size)) := by
  have z := pf_off (cf_zero hF).1
  have c := cf_zero hF
  exact Ev.congr (f := fun _ => some (pcs a0 a1 a2 a3 a4 a5 m h b ((n - 20) / 8 * 8) (cnt n b.size))) (fun k => by unfold patchbayref2_Pieces.f; rw [if_pos ⟨c.2.1, c.2.2, hb, z.1, z.2⟩, Int.toNat_natCast]) (Ev.now _)
theorem lives_ev : Ev (fun k => patchbaylaw2_cutLives.f k) true := by
  have N : Num 28 ((28 - 20) / 8 * 8) (⟨#[97, 98, 99, 100, 101, 102, 103, 104, 105]⟩ : ByteArray).size 1 := ⟨by omega, by omega, rfl, by decide, fun j hj => by (obtain rfl : j = 0 := by omega); decide, by decide⟩
  have C := Cut_good 0 0 0 1 0 0 false false (⟨#[97, 98, 99, 100, 101, 102, 103, 104, 105]⟩ : ByteArray) (by decide) 28 (by decide) 1 N
  refine Ev.congr (fun k => rfl) (Ev.bind C (Ev.pos rfl (Ev.val ?_)))
  rw [pcs_length]; rfl
theorem law (a0 a1 a2 a3 a4 a5 : Int) (m h : Bool) (s : ByteArray) (n : Int) : Ev (fun k => patchbaylaw2_CutSays.f k a0 a1 a2 a3 a4 a5 m h s n) true := by
  unfold patchbaylaw2_CutSays.f patchbaylaw2_bare.f
  simp only [begin_eq, Option.bind_some]
  have hb := cut_size s
  generalize s.extract 0 60 = b at hb ⊢
  refine Ev.bind lives_ev (Ev.pos rfl ?_)
  have FE := CutFault_ev a0 a1 a2 a3 a4 a5 m h b hb n
  by_cases hF : cf (pf a2 a3 a4 a5 m h b.size) n h b.size = 0
  · rw [hF] at FE
    have z := cf_zero hF
    obtain ⟨n, rfl⟩ := Int.eq_ofNat_of_zero_le (show 0 ≤ n by omega)
    have N := cnt_num n (by omega) (by omega) b.size hb
    have C := Cut_good a0 a1 a2 a3 a4 a5 m h b hb n hF _ N
    have T : Ev (fun k => cut_Count.f k a0 a1 a2 a3 a4 a5 m h b (n : Int)) (((cnt n b.size + 1 : Nat) : Int), 0) := Ev.congr (fun k => rfl) (Ev.bind C (Ev.val (by rw [pcs_length])))
    have P := Pieces_good a0 a1 a2 a3 a4 a5 m h b hb n hF
    have S := Same_ev (pcs a0 a1 a2 a3 a4 a5 m h b ((n - 20) / 8 * 8) (cnt n b.size)) (by rw [pcs_length]; have := N.small; omega)
    refine Ev.bind FE (Ev.bind C (Ev.bind T (Ev.pos rfl (Ev.bind P (Ev.pos rfl (Ev.pos rfl (Ev.bind S (Ev.pos rfl (Ev.val ?_)))))))))
    rw [pcs_length]; simp
  · have C := Cut_bad a0 a1 a2 a3 a4 a5 m h b hb n _ rfl hF
    have T : Ev (fun k => cut_Count.f k a0 a1 a2 a3 a4 a5 m h b n) (0, cf (pf a2 a3 a4 a5 m h b.size) n h b.size) := Ev.congr (fun k => rfl) (Ev.bind C (Ev.val rfl))
    exact Ev.bind FE (Ev.bind C (Ev.bind T (Ev.neg hF (Ev.pos rfl (Ev.pos rfl (Ev.pos rfl (Ev.val rfl)))))))
/-- A call of the law. -/
theorem law_calls (a0 a1 a2 a3 a4 a5 : Int) (m h : Bool) (s : ByteArray) (n : Int) (w : World) :
    Calls Try.prog 4 #[.agg #[.int .u32 a0, .int .u32 a1, .int .i64 a2, .int .i64 a3, .int .i64 a4, .int .i64 a5, .bool m, .bool h, .string s], .int .i64 n] w fun e w' => e = .returned (.bool true) ∧ Below w.heap.size w w' := by
  obtain ⟨k, hk⟩ := (law a0 a1 a2 a3 a4 a5 m h s n).rounds
  exact patchbaylaw2_CutSays.calls k a0 a1 a2 a3 a4 a5 m h s n true w hk
end Go.Proofs.Ythpohaafphaidaa.UcCutSays
