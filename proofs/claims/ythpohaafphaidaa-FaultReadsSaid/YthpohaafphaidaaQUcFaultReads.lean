/- The law FaultReads on numbers and strings. -/
import Derived.Test.YthpohaafphaidaaQVaFaultReads
import Derived.Test.YthpohaafphaidaaGFaultReadsx13
namespace Go.Proofs.Ythpohaafphaidaa.UcFaultReads
open Go.RowKit Go.Proofs.YthpohaafphaidaaW.PrintWords Go.Proofs.YthpohaafphaidaaW.PrintLast Go.Proofs.Ythpohaafphaidaa.Pl Go.Proofs.Ythpohaafphaidaa.GFaultReads Go.Proofs.Ythpohaafphaidaa.VaFaultReads
set_option linter.unusedVariables false
set_option linter.unusedSimpArgs false
theorem Ev.val' {α : Type} {f : Option α} {r : α} (h : f = some r) : Ev (fun _ => f) r := h ▸ Ev.now r
theorem mn_nat (a b : Nat) : mn (a : Int) (b : Int) = ((min a b : Nat) : Int) := by unfold mn; split <;> omega
theorem ext_eq {s t : ByteArray} (hz : s.size = t.size) (h : ∀ i (h1 : i < s.data.size) (h2 : i < t.data.size), s.data[i] = t.data[i]) : s = t := by
  apply ByteArray.ext
  exact Array.ext hz h
theorem extract_min (s : ByteArray) (n : Nat) : s.extract 0 (min s.size n) = s.extract 0 n := by
  refine ext_eq (by simp only [ByteArray.size_extract]; omega) fun i h1 h2 => ?_
  simp only [ByteArray.data_extract, Array.getElem_extract]
theorem begin_eq (s : ByteArray) : patchbaylaw2_begin.f s 40 = some (s.extract 0 40) := by
  unfold patchbaylaw2_begin.f
  rw [show (40 : Int) = ((40 : Nat) : Int) from rfl, mn_nat, if_pos (by omega), if_pos (by omega), Int.toNat_natCast, extract_min]
theorem cut_size (s : ByteArray) : (s.extract 0 40).size ≤ 40 := by rw [ByteArray.size_extract]; omega
theorem cut_cut (s : ByteArray) (a b c : Nat) (h : a + c ≤ s.size) : (s.extract a s.size).extract b c = s.extract (a + b) (a + c) := by
  refine ext_eq (by simp only [ByteArray.size_extract]; omega) fun i h1 h2 => ?_
  simp only [ByteArray.data_extract, Array.getElem_extract, Nat.add_assoc]
theorem cut_min (s : ByteArray) (a b : Nat) : s.extract a (min s.size b) = s.extract a b := by
  refine ext_eq (by simp only [ByteArray.size_extract]; omega) fun i h1 h2 => ?_
  simp only [ByteArray.data_extract, Array.getElem_extract]
theorem z0 : (⟨#[]⟩ : ByteArray).size = 0 := rfl
theorem list4 (s : ByteArray) (h : 4 ≤ s.size) : (s.extract 0 4).toList = [s[0], s[1], s[2], s[3]] ∧ (s.extract 1 4).toList = [s[1], s[2], s[3]] := by
  constructor
  · rw [ByteArray.toList_eq]
    apply List.ext_getElem
    · have : (s.extract 0 4).data.toList.length = (s.extract 0 4).size := rfl
      rw [this, ByteArray.size_extract]; simp; omega
    · intro i h1 h2
      have h2' : i < 4 := by simpa using h2
      rw [Array.getElem_toList]
      simp only [ByteArray.data_extract, Array.getElem_extract, Nat.zero_add]
      match i, h2' with
      | 0, _ => rfl
      | 1, _ => rfl
      | 2, _ => rfl
      | 3, _ => rfl
  · rw [ByteArray.toList_eq]
    apply List.ext_getElem
    · have : (s.extract 1 4).data.toList.length = (s.extract 1 4).size := rfl
      rw [this, ByteArray.size_extract]; simp; omega
    · intro i h1 h2
      have h2' : i < 3 := by simpa using h2
      rw [Array.getElem_toList]
      simp only [ByteArray.data_extract, Array.getElem_extract]
      match i, h2' with
      | 0, _ => rfl
      | 1, _ => rfl
      | 2, _ => rfl
theorem lead (s : ByteArray) (h : 4 ≤ s.size) : (s.extract 0 4).toList = [9, 0, 0, 0] ↔ bt s 0 = 9 ∧ (s.extract 1 4).toList = [0, 0, 0] := by
  obtain ⟨e1, e2⟩ := list4 s h
  have e0 : ((s[0]).toNat : Int) = bt s 0 := bt_lit s 0 (by omega)
  rw [e1, e2, List.cons.injEq]
  refine and_congr_left fun _ => ?_
  rw [← e0, ← UInt8.toNat_inj]
  simp; omega
theorem value_ev (s : ByteArray) (hs : s.size ≤ 6) (d : Nat) : ∀ i : Nat, i + d = s.size → Ev (fun k => patchbayref2_Value.l0 k s (bv s 0 i) (s.size : Int) (i : Int)) (bv s 0 s.size) := by
  induction d with
  | zero =>
    intro i hi
    obtain rfl : i = s.size := by omega
    exact Ev.step (fun k => rfl) (Ev.neg (by omega) (Ev.val rfl))
  | succ d ih =>
    intro i hi
    have hb := bv_small s 0 i (by omega)
    have hr := bt_range s (i : Int)
    have e1 : wrap64 ((i : Int) + 1) = ((i + 1 : Nat) : Int) := by rw [w64 (by omega) (by omega)]; omega
    have e2 : wrap64 (wrap64 (bv s 0 i * 256) + wrap64 (bt s (i : Int))) = bv s 0 (i + 1) := by
      rw [w64 (x := bv s 0 i * 256) (by omega) (by omega), w64 (x := bt s (i : Int)) (by omega) (by omega), w64 (by omega) (by omega)]
      simp only [bv, Nat.zero_add]
    refine Ev.step (fun k => rfl) (Ev.pos (by omega) (Ev.pos (by omega) (Ev.pos (by omega) ?_)))
    rw [e1, e2]
    exact ih (i + 1) (by omega)
theorem Value_ev (s : ByteArray) (hs : s.size ≤ 6) : Ev (fun k => patchbayref2_Value.f k s) (bv s 0 s.size) := Ev.congr (fun _ => rfl) (value_ev s hs s.size 0 (by omega))
theorem Head_ev (s : ByteArray) (hs : s.size ≤ 1048576) : Ev (fun k => pkt_Head.f k s) (headv s) := Ev.val' (by exact if_pos hs)
theorem Read_ev (s : ByteArray) (hs : s.size ≤ 1048576) : Ev (fun k => patchbayref2_HeadRead.f k s) (headv s) := Ev.val' (by exact if_pos hs)
theorem clone_eq (s : ByteArray) (hs : s.size ≤ 1048576) : strings_Clone.f s = some s := by
  unfold strings_Clone.f stringslite_Clone.f; rw [if_pos (by omega)]; rfl
abbrev T8 := Int × Int × Int × Int × Int × Int × ByteArray × Int
abbrev badn : T8 := (0, 0, 0, 0, 0, 0, (⟨#[]⟩ : ByteArray), 3)
/-- the rest of a message: what it quotes -/
def rst (b : ByteArray) : ByteArray := b.extract 4 b.size
theorem rst_size (b : ByteArray) : (rst b).size = b.size - 4 := by unfold rst; rw [ByteArray.size_extract]; omega
/-- the quoted head is whole -/
def quoted (b : ByteArray) : Prop := (headv (rst b)).2.2.2.2.2.2.2.2.2.2 = 0 ∧ ((rst b).size : Int) = mn (headv (rst b)).2.2.2.2.2.2.2.2.2.1 28
instance quotedDec (b : ByteArray) : Decidable (quoted b) := by unfold quoted; infer_instance
/-- what a message that is no reply says -/
def note2 (b : ByteArray) : T8 := if 1 ≤ bt b 0 ∧ bt b 0 ≤ 6 ∧ quoted b then (bt b 0, (headv (rst b)).1, (headv (rst b)).2.1, (headv (rst b)).2.2.1, (headv (rst b)).2.2.2.2.1, (headv (rst b)).2.2.2.2.2.1, (rst b).extract 20 (rst b).size, 0) else badn
theorem note2_bad {b : ByteArray} (h : ¬ (1 ≤ bt b 0 ∧ bt b 0 ≤ 6 ∧ quoted b)) : note2 b = badn := by unfold note2; rw [if_neg h]
theorem note2_ok {b : ByteArray} (h : 1 ≤ bt b 0 ∧ bt b 0 ≤ 6 ∧ quoted b) : note2 b = (bt b 0, (headv (rst b)).1, (headv (rst b)).2.1, (headv (rst b)).2.2.1, (headv (rst b)).2.2.2.2.1, (headv (rst b)).2.2.2.2.2.1, (rst b).extract 20 (rst b).size, 0) := by unfold note2; rw [if_pos h]
/-- what a message says -/
def notev (a0 a1 a2 a5 : Int) (m : Bool) (b : ByteArray) : T8 :=
  if a2 = 1 ∧ ¬ a5 > 0 ∧ m = false ∧ 8 ≤ b.size ∧ (b.extract 1 4).toList = [0, 0, 0] then
    if bt b 0 = 9 then (9, a0, a1, 1, bt b 4 * 256 + bt b 5, bt b 6 * 256 + bt b 7, b.extract 8 16, 0)
    else note2 b
  else badn
theorem mn_comm (a b : Int) : mn a b = mn b a := by unfold mn; split <;> split <;> omega
theorem notev_bad {a0 a1 a2 a5 : Int} {m : Bool} {b : ByteArray} (h : ¬ (a2 = 1 ∧ ¬ a5 > 0 ∧ m = false ∧ 8 ≤ b.size ∧ (b.extract 1 4).toList = [0, 0, 0])) : notev a0 a1 a2 a5 m b = badn := by unfold notev; rw [if_neg h]
theorem NoteOf_ev (a0 a1 a2 a3 a4 a5 : Int) (m h : Bool) (b : ByteArray) (hb : b.size ≤ 40) : Ev (fun k => patchbayref2_NoteOf.f k a0 a1 a2 a3 a4 a5 m h b) (notev a0 a1 a2 a5 m b) := by
  have J : Ev (fun k => patchbayref2_NoteOf.j0 k true a0 a1 a2 a3 a4 a5 m h b) badn := by
    refine Ev.step (fun k => rfl) ?_
    simp only [patchbayref2_NoteOf.j0]
    exact Ev.pos trivial (Ev.val rfl)
  unfold patchbayref2_NoteOf.f
  by_cases h2 : a2 = 1
  rotate_left
  · rw [notev_bad (fun q => h2 q.1)]; exact Ev.neg h2 J
  refine Ev.pos h2 ?_
  by_cases h5 : a5 > 0
  · rw [notev_bad (fun q => q.2.1 h5)]; exact Ev.pos h5 J
  refine Ev.neg h5 ?_
  cases m
  rotate_left
  · rw [notev_bad (fun q => by simp at q)]; exact Ev.pos rfl J
  refine Ev.neg (by simp) ?_
  by_cases h8 : (b.size : Int) < 8
  · rw [notev_bad (fun q => by omega)]; exact Ev.pos h8 J
  refine Ev.neg h8 (Ev.pos (by omega) (Ev.pos (by omega) ?_))
  by_cases hz : (b.extract 1 4).toList = [0, 0, 0]
  rotate_left
  · rw [notev_bad (fun q => hz q.2.2.2.2), show ((b.extract 1 4).toList != ([0, 0, 0] : List UInt8)) = true from by simpa using hz]; exact J
  rw [show ((b.extract 1 4).toList != ([0, 0, 0] : List UInt8)) = false from by simp [hz]]
  refine Ev.step (fun k => rfl) ?_
  simp only [patchbayref2_NoteOf.j0]
  have r0 := bt_range b 0
  have hrs := rst_size b
  have eN : notev a0 a1 a2 a5 false b = if bt b 0 = 9 then (9, a0, a1, 1, bt b 4 * 256 + bt b 5, bt b 6 * 256 + bt b 7, b.extract 8 16, 0)
    else note2 b := by
    unfold notev; rw [if_pos ⟨h2, h5, rfl, by omega, hz⟩]
  rw [eN, w64 (x := bt b 0) (by omega) (by omega)]
  change Ev (fun k => _) _
  refine Ev.neg (by simp) (Ev.pos (by omega) (Ev.pos (by omega) ?_))
  by_cases h9 : bt b 0 = 9
  · rw [if_pos h9]
    refine Ev.pos h9 (Ev.pos (by omega) (Ev.pos (by rw [show b.extract 4 b.size = rst b from rfl, hrs]; omega) ?_))
    have V1 := Value_ev ((b.extract 4 b.size).extract 0 2) (by rw [ByteArray.size_extract]; omega)
    have V2 := Value_ev ((b.extract 4 b.size).extract 2 4) (by rw [ByteArray.size_extract]; omega)
    have q1 : bv ((b.extract 4 b.size).extract 0 2) 0 ((b.extract 4 b.size).extract 0 2).size = bt b 4 * 256 + bt b 5 := by
      rw [cut_cut b 4 0 2 (by omega), ByteArray.size_extract, show min (4 + 2) b.size - (4 + 0) = 2 by omega, bv_extract b (4 + 0) (4 + 2) (by omega) 2 (by omega)]
      simp [bv]
    have q2 : bv ((b.extract 4 b.size).extract 2 4) 0 ((b.extract 4 b.size).extract 2 4).size = bt b 6 * 256 + bt b 7 := by
      rw [cut_cut b 4 2 4 (by omega), ByteArray.size_extract, show min (4 + 4) b.size - (4 + 2) = 2 by omega, bv_extract b (4 + 2) (4 + 4) (by omega) 2 (by omega)]
      simp [bv]
    rw [q1] at V1
    rw [q2] at V2
    refine Ev.bind V1 (Ev.pos (by omega) (Ev.pos (by rw [show b.extract 4 b.size = rst b from rfl, hrs]; omega) (Ev.bind V2 ?_)))
    rw [show b.extract 4 b.size = rst b from rfl, hrs]
    have hm : mn 12 ((b.size - 4 : Nat) : Int) = ((min 12 (b.size - 4) : Nat) : Int) := mn_nat 12 (b.size - 4)
    rw [hm]
    refine Ev.pos (by omega) (Ev.pos (by omega) (Ev.val ?_))
    rw [Int.toNat_natCast, show rst b = b.extract 4 b.size from rfl, cut_cut b 4 4 _ (by omega), show 4 + min 12 (b.size - 4) = min b.size 16 by omega, cut_min]
  · rw [if_neg h9]
    refine Ev.neg h9 (Ev.bind (Read_ev (b.extract 4 b.size) (by rw [show b.extract 4 b.size = rst b from rfl, hrs]; omega)) ?_)
    rw [show b.extract 4 b.size = rst b from rfl]
    by_cases c1 : bt b 0 < 1
    · rw [note2_bad (fun q => by omega)]; exact Ev.pos c1 (Ev.val rfl)
    refine Ev.neg c1 ?_
    by_cases c6 : bt b 0 > 6
    · rw [note2_bad (fun q => by omega)]; exact Ev.pos c6 (Ev.val rfl)
    refine Ev.neg c6 ?_
    by_cases ce : (headv (rst b)).2.2.2.2.2.2.2.2.2.2 = 0
    rotate_left
    · rw [note2_bad (fun q => ce q.2.2.1)]; exact Ev.neg ce (Ev.val rfl)
    refine Ev.pos ce ?_
    by_cases cn : ((rst b).size : Int) = mn (headv (rst b)).2.2.2.2.2.2.2.2.2.1 28
    rotate_left
    · rw [note2_bad (fun q => cn q.2.2.2)]; exact Ev.neg (by rw [mn_comm]; exact cn) (Ev.val rfl)
    have h20 := head_ok (rst b) ce
    rw [note2_ok ⟨by omega, by omega, ce, cn⟩]
    exact Ev.pos (by rw [mn_comm]; exact cn) (Ev.pos (by omega) (Ev.val rfl))
theorem or_join (x y : Int) (x0 : 0 ≤ x) (x1 : x ≤ 255) (y0 : 0 ≤ y) (y1 : y ≤ 255) : Go.bits .or .i64 (wrap64 (wrap64 x * 256)) (wrap64 y) = x * 256 + y := by
  rw [w64 (x := x) (by omega) (by omega), w64 (x := x * 256) (by omega) (by omega), w64 (x := y) (by omega) (by omega)]
  exact join8 x y x0 (by omega) y0 y1
theorem Reads_ev (a0 a1 a2 a3 a4 a5 : Int) (m h : Bool) (b : ByteArray) (hb : b.size ≤ 40) (hF : pf a2 a3 a4 a5 m h b.size = 0) : Ev (fun k => fault_Read.f k a0 a1 a2 a3 a4 a5 m h b) (notev a0 a1 a2 a5 m b) := by
  have C : Ev (fun k => pkt_Check.f k a0 a1 a2 a3 a4 a5 m h b) 0 := ⟨2, fun k hk => (check_eq a0 a1 a2 a3 a4 a5 m h b (by omega) k hk).trans (congrArg some hF)⟩
  have J : Ev (fun k => fault_Read.j0 k true a0 a1 a2 a3 a4 a5 m h b) badn := by
    refine Ev.step (fun k => rfl) ?_
    simp only [fault_Read.j0]
    exact Ev.pos trivial (Ev.val rfl)
  unfold fault_Read.f
  refine Ev.bind C (Ev.pos rfl ?_)
  have hrs := rst_size b
  by_cases hr : a2 = 1 ∧ ¬ a5 > 0 ∧ m = false ∧ ¬ (b.size : Int) < 8 ∧ (b.extract 0 4).toList = [9, 0, 0, 0]
  · obtain ⟨h2, h5, rfl, h8, h4⟩ := hr
    have hl := (lead b (by omega)).1 h4
    have rep : fault_reply.f a0 a1 a2 a3 a4 a5 false h b = some (9, a0, a1, 1, bt b 4 * 256 + bt b 5, bt b 6 * 256 + bt b 7, b.extract 8 16, true) := by
      unfold fault_reply.f
      have hm : mn (b.size : Int) 16 = ((min b.size 16 : Nat) : Int) := mn_nat b.size 16
      have p4 := bt_range b 4; have p5 := bt_range b 5; have p6 := bt_range b 6; have p7 := bt_range b 7
      rw [if_pos h2, if_neg h5, if_neg (by simp), if_neg h8, if_pos (by omega), if_pos (by omega), if_pos h4, if_pos (by omega), if_pos (by omega), if_pos (by omega), if_pos (by omega), hm, if_pos (by omega), if_pos (by omega), Int.toNat_natCast, cut_min, clone_eq _ (by rw [ByteArray.size_extract]; omega)]
      rw [or_join _ _ p4.1 p4.2 p5.1 p5.2, or_join _ _ p6.1 p6.2 p7.1 p7.2, h2]
      rfl
    refine Ev.bind (Ev.val' rep) (Ev.pos rfl (Ev.val ?_))
    unfold notev
    rw [if_pos ⟨h2, h5, rfl, by omega, hl.2⟩, if_pos hl.1]
  · have rep : fault_reply.f a0 a1 a2 a3 a4 a5 m h b = some (0, 0, 0, 0, 0, 0, (⟨#[]⟩ : ByteArray), false) := by
      unfold fault_reply.f
      by_cases h2 : a2 = 1
      · rw [if_pos h2]
        by_cases h5 : a5 > 0
        · rw [if_pos h5]
        · rw [if_neg h5]
          cases m
          · rw [if_neg (by simp)]
            by_cases h8 : (b.size : Int) < 8
            · rw [if_pos h8]
            · rw [if_neg h8, if_pos (by omega), if_pos (by omega), if_neg (fun q => hr ⟨h2, h5, rfl, h8, q⟩)]
          · rw [if_pos rfl]
      · rw [if_neg h2]
    refine Ev.bind (Ev.val' rep) (Ev.neg (by simp) ?_)
    by_cases h2 : a2 = 1
    rotate_left
    · rw [notev_bad (fun q => h2 q.1)]; exact Ev.neg h2 J
    refine Ev.pos h2 ?_
    by_cases h5 : a5 > 0
    · rw [notev_bad (fun q => q.2.1 h5)]; exact Ev.pos h5 J
    refine Ev.neg h5 ?_
    cases m
    rotate_left
    · rw [notev_bad (fun q => by simp at q)]; exact Ev.pos rfl J
    refine Ev.neg (by simp) ?_
    have r0 := bt_range b 0
    have n9 : 8 ≤ b.size → (b.extract 1 4).toList = [0, 0, 0] → bt b 0 ≠ 9 := fun g1 g2 g3 => hr ⟨h2, h5, rfl, by omega, (lead b (by omega)).2 ⟨g3, g2⟩⟩
    have eN : 8 ≤ b.size → (b.extract 1 4).toList = [0, 0, 0] → notev a0 a1 a2 a5 false b = note2 b := by
      intro g1 g2
      unfold notev; rw [if_pos ⟨h2, h5, rfl, g1, g2⟩, if_neg (n9 g1 g2)]
    by_cases h24 : (b.size : Int) < 24
    · have : notev a0 a1 a2 a5 false b = badn := by
        by_cases g : 8 ≤ b.size ∧ (b.extract 1 4).toList = [0, 0, 0]
        · rw [eN g.1 g.2]
          refine note2_bad fun q => ?_
          have := q.2.2.1
          rw [head_20 (rst b) (by omega)] at this
          simp at this
        · exact notev_bad (fun q => g q.2.2.2)
      rw [this]; exact Ev.pos h24 J
    refine Ev.neg h24 (Ev.pos (by omega) ?_)
    have kb : (bt b 0 < 1 ∨ bt b 0 > 6) → notev a0 a1 a2 a5 false b = badn := by
      intro c
      by_cases g : (b.extract 1 4).toList = [0, 0, 0]
      · rw [eN (by omega) g]; exact note2_bad (fun q => by omega)
      · exact notev_bad (fun q => g q.2.2.2.2)
    by_cases c1 : bt b 0 < 1
    · rw [kb (Or.inl c1)]; exact Ev.pos c1 J
    refine Ev.neg c1 ?_
    by_cases c6 : bt b 0 > 6
    · rw [kb (Or.inr c6)]; exact Ev.pos c6 J
    refine Ev.neg c6 (Ev.pos (by omega) (Ev.pos (by omega) ?_))
    by_cases hz : (b.extract 1 4).toList = [0, 0, 0]
    rotate_left
    · rw [notev_bad (fun q => hz q.2.2.2.2), show ((b.extract 1 4).toList != ([0, 0, 0] : List UInt8)) = true from by simpa using hz]; exact J
    rw [show ((b.extract 1 4).toList != ([0, 0, 0] : List UInt8)) = false from by simp [hz], eN (by omega) hz]
    refine Ev.step (fun k => rfl) ?_
    simp only [fault_Read.j0]
    refine Ev.neg (by simp) (Ev.pos (by omega) (Ev.bind (Head_ev (b.extract 4 b.size) (by rw [show b.extract 4 b.size = rst b from rfl, hrs]; omega)) ?_))
    rw [show b.extract 4 b.size = rst b from rfl]
    by_cases ce : (headv (rst b)).2.2.2.2.2.2.2.2.2.2 = 0
    rotate_left
    · rw [note2_bad (fun q => ce q.2.2.1)]; exact Ev.neg ce (Ev.val rfl)
    refine Ev.pos ce ?_
    by_cases cn : ((rst b).size : Int) = mn (headv (rst b)).2.2.2.2.2.2.2.2.2.1 28
    rotate_left
    · rw [note2_bad (fun q => cn q.2.2.2)]; exact Ev.neg cn (Ev.val rfl)
    have h20 := head_ok (rst b) ce
    rw [note2_ok ⟨by omega, by omega, ce, cn⟩, clone_eq _ (by rw [ByteArray.size_extract]; omega), w64 (x := bt b 0) (by omega) (by omega)]
    exact Ev.pos cn (Ev.pos (by omega) (Ev.pos (by omega) (Ev.val rfl)))
theorem Read_err (a0 a1 a2 a3 a4 a5 : Int) (m h : Bool) (b : ByteArray) (hb : b.size ≤ 40) (hF : ¬ pf a2 a3 a4 a5 m h b.size = 0) : Ev (fun k => fault_Read.f k a0 a1 a2 a3 a4 a5 m h b) (0, 0, 0, 0, 0, 0, (⟨#[]⟩ : ByteArray), pf a2 a3 a4 a5 m h b.size) := by
  have C : Ev (fun k => pkt_Check.f k a0 a1 a2 a3 a4 a5 m h b) (pf a2 a3 a4 a5 m h b.size) := ⟨2, fun k hk => check_eq a0 a1 a2 a3 a4 a5 m h b (by omega) k hk⟩
  exact Ev.congr (fun k => rfl) (Ev.bind C (Ev.neg hF (Ev.val rfl)))
theorem lives_ev : Ev (fun k => patchbaylaw2_faultLives.f k) true := by
  have E : Ev (fun k => fault_Echo.f k 1 2 3 4 (⟨#[]⟩ : ByteArray)) (1, 2, 1, 64, 0, 0, false, false, strOfNums [8, 0, 0, 0, 0, 3, 0, 4] ++ (⟨#[]⟩ : ByteArray), 0) := ⟨1, fun k hk => by obtain ⟨j, rfl⟩ : ∃ j, k = j + 1 := ⟨k - 1, by omega⟩; rfl⟩
  exact Ev.congr (fun k => rfl) (Ev.bind E (Ev.pos rfl (Ev.val rfl)))
theorem law (a0 a1 a2 a3 a4 a5 : Int) (m h : Bool) (s : ByteArray) : Ev (fun k => patchbaylaw2_FaultReads.f k a0 a1 a2 a3 a4 a5 m h s) true := by
  unfold patchbaylaw2_FaultReads.f patchbaylaw2_bare.f
  simp only [begin_eq, Option.bind_some]
  have hb := cut_size s
  generalize s.extract 0 40 = b at hb ⊢
  refine Ev.bind lives_ev (Ev.pos rfl ?_)
  have FE : Ev (fun k => patchbayref2_PacketFault.f k a0 a1 a2 a3 a4 a5 m h b) (pf a2 a3 a4 a5 m h b.size) := ⟨2, fun k hk => fault_eq a0 a1 a2 a3 a4 a5 m h b (by omega) k hk⟩
  by_cases hF : pf a2 a3 a4 a5 m h b.size = 0
  · have R := Reads_ev a0 a1 a2 a3 a4 a5 m h b hb hF
    have T := NoteOf_ev a0 a1 a2 a3 a4 a5 m h b hb
    rw [hF] at FE
    obtain ⟨n1, n2, n3, n4, n5, n6, n7, n8⟩ := notev a0 a1 a2 a5 m b
    refine Ev.bind R (Ev.bind FE (Ev.pos rfl (Ev.bind T ?_)))
    (try dsimp only)
    exact Ev.pos (by simp) (Ev.val (by simp))
  · refine Ev.bind (Read_err a0 a1 a2 a3 a4 a5 m h b hb hF) (Ev.bind FE (Ev.neg hF ?_))
    (try dsimp only)
    exact Ev.pos rfl (Ev.val (by simp [nil_iff, z0]))
/-- A call of the law. -/
theorem law_calls (a0 a1 a2 a3 a4 a5 : Int) (m h : Bool) (s : ByteArray) (w : World) :
    Calls Try.prog 8 #[.agg #[.int .u32 a0, .int .u32 a1, .int .i64 a2, .int .i64 a3, .int .i64 a4, .int .i64 a5, .bool m, .bool h, .string s]] w fun e w' => e = .returned (.bool true) ∧ Below w.heap.size w w' := by
  obtain ⟨k, hk⟩ := (law a0 a1 a2 a3 a4 a5 m h s).rounds
  exact patchbaylaw2_FaultReads.calls k a0 a1 a2 a3 a4 a5 m h s true w hk
end Go.Proofs.Ythpohaafphaidaa.UcFaultReads
