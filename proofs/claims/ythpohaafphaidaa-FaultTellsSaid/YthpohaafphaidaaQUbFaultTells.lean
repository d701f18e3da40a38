/- What the functions of error and echo messages come to; the law FaultTells on numbers and strings. -/
import Derived.Test.YthpohaafphaidaaQUaFaultTells
import Derived.Test.YthpohaafphaidaaGFaultTellsx12
namespace Go.Proofs.Ythpohaafphaidaa.UbFaultTells
open Go.RowKit Go.Proofs.YthpohaafphaidaaW.PrintWords Go.Proofs.YthpohaafphaidaaW.PrintLast Go.Proofs.Ythpohaafphaidaa.Pl Go.Proofs.Ythpohaafphaidaa.GFaultTells Go.Proofs.Ythpohaafphaidaa.UaFaultTells
set_option linter.unusedVariables false
set_option linter.unusedSimpArgs false
theorem Ev.val' {α : Type} {f : Option α} {r : α} (h : f = some r) : Ev (fun _ => f) r := h ▸ Ev.now r
theorem z0 : (⟨#[]⟩ : ByteArray).size = 0 := rfl
theorem z1 (a : UInt8) : (⟨#[a]⟩ : ByteArray).size = 1 := rfl
theorem z2 (a b : UInt8) : (⟨#[a, b]⟩ : ByteArray).size = 2 := rfl
theorem z3 (a b c : UInt8) : (⟨#[a, b, c]⟩ : ByteArray).size = 3 := rfl
theorem z4 (a b c d : UInt8) : (⟨#[a, b, c, d]⟩ : ByteArray).size = 4 := rfl
theorem PacketHead_j1 (a0 a1 a2 a3 a4 a5 : Int) (m h : Bool) (s : ByteArray) (sum : Int) (F : Fits a0 a1 a2 a3 a4 a5 s.size) (h0 : 0 ≤ sum) (h1 : sum ≤ 65535) (mm hh : Bool) :
    Ev (fun k => patchbayref2_PacketHead.j1 k sum (flg a5 m h) a0 a1 a2 a3 a4 a5 mm hh s) (hdr a0 a1 a2 a3 a4 a5 m h s.size sum) := by
  obtain ⟨s0, s1, d0, d1, p0, p1, t0, t1, i0, i1, o0, o1, n1⟩ := F
  have f0 : 0 ≤ flg a5 m h ∧ flg a5 m h < 65536 := by unfold flg; cases m <;> cases h <;> simp <;> omega
  have e1 : wrap64 (20 + (s.size : Int)) = 20 + (s.size : Int) := w64 (by omega) (by omega)
  have e2 : wrap64 a0 = a0 := w64 (by omega) (by omega)
  have e3 : wrap64 a1 = a1 := w64 (by omega) (by omega)
  have L (n : Int) (c : Nat) (hc : c ≤ 4) (g0 : 0 ≤ n) (g1 : n < 4294967296) := Digits_ev n c (by omega) g0 (by omega)
  refine Ev.step (fun k => rfl) ?_
  simp only [patchbayref2_PacketHead.j1]
  rw [e1, e2, e3]
  refine Ev.bind (L _ 2 (by omega) (by omega) (by omega)) (Ev.pos (by simp only [ByteArray.size_append, dg_size, z2]; omega) ?_)
  refine Ev.bind (L _ 2 (by omega) (by omega) (by omega)) (Ev.pos (by simp only [ByteArray.size_append, dg_size, z2]; omega) ?_)
  refine Ev.bind (L _ 2 (by omega) (by omega) (by omega)) (Ev.pos (by simp only [ByteArray.size_append, dg_size, z2]; omega) ?_)
  refine Ev.bind (L _ 1 (by omega) (by omega) (by omega)) (Ev.pos (by simp only [ByteArray.size_append, dg_size, z2]; omega) ?_)
  refine Ev.bind (L _ 1 (by omega) (by omega) (by omega)) (Ev.pos (by simp only [ByteArray.size_append, dg_size, z2]; omega) ?_)
  refine Ev.bind (L _ 2 (by omega) (by omega) (by omega)) (Ev.pos (by simp only [ByteArray.size_append, dg_size, z2]; omega) ?_)
  refine Ev.bind (L _ 4 (by omega) (by omega) (by omega)) (Ev.pos (by simp only [ByteArray.size_append, dg_size, z2]; omega) ?_)
  refine Ev.bind (L _ 4 (by omega) (by omega) (by omega)) (Ev.pos (by simp only [ByteArray.size_append, dg_size, z2]; omega) ?_)
  exact Ev.val rfl
theorem PacketHead_ev (a0 a1 a2 a3 a4 a5 : Int) (m h : Bool) (s : ByteArray) (sum : Int) (F : Fits a0 a1 a2 a3 a4 a5 s.size) (h0 : 0 ≤ sum) (h1 : sum ≤ 65535) :
    Ev (fun k => patchbayref2_PacketHead.f k a0 a1 a2 a3 a4 a5 m h s sum) (hdr a0 a1 a2 a3 a4 a5 m h s.size sum) := by
  have := F.o0; have := F.o1
  have e1 : wrap64 (Int.tdiv a5 8) = a5 / 8 := by rw [Int.tdiv_eq_ediv_of_nonneg F.o0, w64 (by omega) (by omega)]
  have o1 : wrap64 (a5 / 8 + 8192) = a5 / 8 + 8192 := w64 (by omega) (by omega)
  have o2 : wrap64 (a5 / 8 + 16384) = a5 / 8 + 16384 := w64 (by omega) (by omega)
  have o3 : wrap64 (a5 / 8 + 8192 + 16384) = a5 / 8 + 8192 + 16384 := w64 (by omega) (by omega)
  have H := PacketHead_j1 a0 a1 a2 a3 a4 a5 m h s sum F h0 h1 m h
  refine Ev.congr (f := fun k => if m = true then patchbayref2_PacketHead.j0 k sum (wrap64 (wrap64 (Int.tdiv a5 8) + 8192)) a0 a1 a2 a3 a4 a5 m h s else patchbayref2_PacketHead.j0 k sum (wrap64 (Int.tdiv a5 8)) a0 a1 a2 a3 a4 a5 m h s) (fun k => rfl) ?_
  rw [e1, o1]
  cases m
  · refine Ev.neg (by simp) (Ev.step (fun k => rfl) ?_)
    simp only [patchbayref2_PacketHead.j0]
    rw [o2]
    cases h
    · refine Ev.neg (by simp) ?_
      simpa [flg] using H
    · refine Ev.pos rfl ?_
      simpa [flg] using H
  · refine Ev.pos rfl (Ev.step (fun k => rfl) ?_)
    simp only [patchbayref2_PacketHead.j0]
    rw [o3]
    cases h
    · refine Ev.neg (by simp) ?_
      simpa [flg] using H
    · refine Ev.pos rfl ?_
      simpa [flg] using H
theorem PacketText_ev (a0 a1 a2 a3 a4 a5 : Int) (m h : Bool) (s : ByteArray) (F : Fits a0 a1 a2 a3 a4 a5 s.size) :
    Ev (fun k => patchbayref2_PacketText.f k a0 a1 a2 a3 a4 a5 m h s) (enc a0 a1 a2 a3 a4 a5 m h s) := by
  have := F.n1
  have hz : (hdr a0 a1 a2 a3 a4 a5 m h s.size 0).size = 20 := hdr_size ..
  have S := SumOf_ev (hdr a0 a1 a2 a3 a4 a5 m h s.size 0) (by rw [hz]; omega)
  rw [hz] at S
  have R := ck_range (ps (hdr a0 a1 a2 a3 a4 a5 m h s.size 0) 20)
  refine Ev.congr (fun k => rfl) (Ev.bind (PacketHead_ev a0 a1 a2 a3 a4 a5 m h s 0 F (by omega) (by omega)) (Ev.bind S (Ev.bind (PacketHead_ev a0 a1 a2 a3 a4 a5 m h s _ F R.1 R.2) (Ev.pos ?_ (Ev.val rfl)))))
  rw [hdr_size]; omega
/-- an address of one node -/
def uc (a : Int) : Bool := !(a == 0) && (!(a == 4294967295) && (a / 268435456 != 14))
theorem unicast_eq (a : Int) : fault_unicast.f a = some (uc a) := by
  unfold fault_unicast.f uc
  by_cases h0 : a = 0
  · simp [h0]
  · by_cases h1 : a = 4294967295
    · simp [h1]
    · have e0 : (a == 0) = false := by simpa using h0
      have e1 : (a == 4294967295) = false := by simpa using h1
      rw [if_neg h0, if_neg h1, e0, e1]; simp
theorem single_eq (a : Int) (h0 : 0 ≤ a) (h1 : a < 4294967296) : patchbayref2_single.f a = some (uc a) := by
  unfold patchbayref2_single.f uc
  by_cases g0 : a = 0
  · simp [g0]
  · rw [if_pos (by omega)]
    by_cases g1 : a = 4294967295
    · simp [g1]
    · rw [if_pos (by omega), Int.tdiv_eq_ediv_of_nonneg h0, Int.emod_eq_of_lt (by omega) (by omega)]
      have e0 : (a == 0) = false := by simpa using g0
      have e1 : (a == 4294967295) = false := by simpa using g1
      rw [e0, e1]; simp
/-- the body begins as an echo's -/
def echo (s : ByteArray) : Bool := decide (0 < s.size) && (bt s 0 == 8 || bt s 0 == 9)
/-- no message is sent about the packet -/
def sil (a0 a1 a2 a5 : Int) (s : ByteArray) : Bool := decide (0 < a5) || ((a2 == 1) && !(echo s)) || !(uc a0) || !(uc a1)
theorem silent_eq (a0 a1 a2 a3 a4 a5 : Int) (m h : Bool) (s : ByteArray) : fault_silent.f a0 a1 a2 a3 a4 a5 m h s = some (sil a0 a1 a2 a5 s) := by
  unfold fault_silent.f sil echo
  simp only [unicast_eq, Option.bind_some, nil_iff]
  by_cases hz : s.size = 0
  · by_cases h5 : a5 > 0 <;> by_cases h2 : a2 = 1 <;> cases uc a0 <;> cases uc a1 <;> simp [hz, h5, h2]
  · have hp : 0 < s.size := by omega
    have hq : (0 : Int) < (s.size : Int) := by omega
    by_cases h8 : bt s 0 = 8 <;> by_cases h9 : bt s 0 = 9 <;> by_cases h5 : a5 > 0 <;> by_cases h2 : a2 = 1 <;> cases uc a0 <;> cases uc a1 <;> simp [hz, hp, hq, h8, h9, h5, h2] <;> omega
abbrev Z10 (b : Bool) : Int × Int × Int × Int × Int × Int × Bool × Bool × ByteArray × Bool := (0, 0, 0, 0, 0, 0, false, false, (⟨#[]⟩ : ByteArray), b)
/-- what is told about a packet -/
def toldv (a0 a1 a2 a3 a4 a5 : Int) (m h : Bool) (s : ByteArray) (why src : Int) : Int × Int × Int × Int × Int × Int × Bool × Bool × ByteArray × Bool :=
  if sil a0 a1 a2 a5 s = true ∨ uc src = false then (0, 0, 0, 0, 0, 0, false, false, (⟨#[]⟩ : ByteArray), false)
  else (src, a0, 1, 64, 0, 0, false, false, strOfNums [why, 0, 0, 0] ++ (enc a0 a1 a2 a3 a4 a5 m h s).extract 0 28, true)
theorem enc_size (a0 a1 a2 a3 a4 a5 : Int) (m h : Bool) (s : ByteArray) : (enc a0 a1 a2 a3 a4 a5 m h s).size = 20 + s.size := by
  rw [enc, ByteArray.size_append, hdr_size]
theorem extract_min (s : ByteArray) (n : Nat) : s.extract 0 (min s.size n) = s.extract 0 n := by
  apply ByteArray.ext
  rw [ByteArray.data_extract, ByteArray.data_extract]
  apply Array.ext
  · simp only [Array.size_extract]
    have : s.data.size = s.size := rfl
    omega
  · intro i h1 h2; simp only [Array.getElem_extract]
theorem extract_big (s : ByteArray) (n : Nat) (h : s.size ≤ n) : s.extract 0 n = s := by
  apply ByteArray.ext
  rw [ByteArray.data_extract]
  apply Array.ext
  · simp only [Array.size_extract]
    have : s.data.size = s.size := rfl
    omega
  · intro i h1 h2; simp only [Array.getElem_extract, Nat.zero_add]
theorem Tell_err (a0 a1 a2 a3 a4 a5 : Int) (m h : Bool) (s : ByteArray) (hs : s.size ≤ 1048576) (s0 : 0 ≤ a0) (s1 : a0 < 4294967296) (d0 : 0 ≤ a1) (d1 : a1 < 4294967296) (why src : Int) (F : Int) (hF : pf a2 a3 a4 a5 m h s.size = F) (h0 : F ≠ 0) :
    Ev (fun k => fault_Tell.f k a0 a1 a2 a3 a4 a5 m h s why src) (0, 0, 0, 0, 0, 0, false, false, (⟨#[]⟩ : ByteArray), false, F) := by
  have E := Encode_ev a0 a1 a2 a3 a4 a5 m h s hs s0 s1 d0 d1
  unfold told at E
  rw [hF, if_neg h0] at E
  exact Ev.congr (fun k => rfl) (Ev.bind E (Ev.neg h0 (Ev.val rfl)))
theorem Tell_arg (a0 a1 a2 a3 a4 a5 : Int) (m h : Bool) (s : ByteArray) (hs : s.size ≤ 1048576) (s0 : 0 ≤ a0) (s1 : a0 < 4294967296) (d0 : 0 ≤ a1) (d1 : a1 < 4294967296) (why src : Int) (hF : pf a2 a3 a4 a5 m h s.size = 0) (hw : why < 1 ∨ 6 < why) :
    Ev (fun k => fault_Tell.f k a0 a1 a2 a3 a4 a5 m h s why src) (0, 0, 0, 0, 0, 0, false, false, (⟨#[]⟩ : ByteArray), false, 1) := by
  have E := Encode_ev a0 a1 a2 a3 a4 a5 m h s hs s0 s1 d0 d1
  unfold told at E
  rw [hF, if_pos rfl] at E
  refine Ev.congr (fun k => rfl) (Ev.bind E (Ev.pos rfl ?_))
  by_cases h1 : why < 1
  · refine Ev.pos h1 (Ev.step (fun k => rfl) ?_)
    simp only [fault_Tell.j0]
    exact Ev.pos trivial (Ev.val rfl)
  · refine Ev.neg h1 ?_
    rw [show decide (why > 6) = true from decide_eq_true (by omega)]
    refine Ev.step (fun k => rfl) ?_
    simp only [fault_Tell.j0]
    exact Ev.pos trivial (Ev.val rfl)
theorem Tell_good (a0 a1 a2 a3 a4 a5 : Int) (m h : Bool) (s : ByteArray) (hs : s.size ≤ 1500) (s0 : 0 ≤ a0) (s1 : a0 < 4294967296) (d0 : 0 ≤ a1) (d1 : a1 < 4294967296) (why src : Int) (hF : pf a2 a3 a4 a5 m h s.size = 0) (w1 : 1 ≤ why) (w6 : why ≤ 6) :
    Ev (fun k => fault_Tell.f k a0 a1 a2 a3 a4 a5 m h s why src) (let r := toldv a0 a1 a2 a3 a4 a5 m h s why src; (r.1, r.2.1, r.2.2.1, r.2.2.2.1, r.2.2.2.2.1, r.2.2.2.2.2.1, r.2.2.2.2.2.2.1, r.2.2.2.2.2.2.2.1, r.2.2.2.2.2.2.2.2.1, r.2.2.2.2.2.2.2.2.2, 0)) := by
  have E := Encode_ev a0 a1 a2 a3 a4 a5 m h s (by omega) s0 s1 d0 d1
  unfold told at E
  rw [hF, if_pos rfl] at E
  refine Ev.congr (fun k => rfl) (Ev.bind E (Ev.pos rfl (Ev.neg (by omega) ?_)))
  rw [show decide (why > 6) = false from decide_eq_false (by omega)]
  refine Ev.step (fun k => rfl) ?_
  simp only [fault_Tell.j0]
  refine Ev.neg (by simp) ?_
  have hz := enc_size a0 a1 a2 a3 a4 a5 m h s
  simp only [silent_eq, unicast_eq, Option.bind_some]
  unfold toldv
  cases hS : sil a0 a1 a2 a5 s
  · cases hU : uc src
    · exact Ev.val (by simp)
    · simp only [Bool.false_eq_true, if_false, if_true]
      have hm : mn ((enc a0 a1 a2 a3 a4 a5 m h s).size : Int) 28 = ((min (enc a0 a1 a2 a3 a4 a5 m h s).size 28 : Nat) : Int) := by unfold mn; split <;> omega
      rw [hm]
      refine Ev.pos (by omega) (Ev.pos (by omega) (Ev.pos ?_ (Ev.val ?_)))
      · rw [strOfNums_size, ByteArray.size_extract]; simp; omega
      · rw [show why % 256 = why by omega, Int.toNat_natCast, extract_min]; simp
  · exact Ev.val (by simp)
theorem Told_good (a0 a1 a2 a3 a4 a5 : Int) (m h : Bool) (s : ByteArray) (hs : s.size ≤ 1500) (s0 : 0 ≤ a0) (s1 : a0 < 4294967296) (d0 : 0 ≤ a1) (d1 : a1 < 4294967296) (why src : Int) (u0 : 0 ≤ src) (u1 : src < 4294967296) (hF : pf a2 a3 a4 a5 m h s.size = 0) (w1 : 1 ≤ why) (w6 : why ≤ 6) :
    Ev (fun k => patchbayref2_ToldOf.f k a0 a1 a2 a3 a4 a5 m h s why src) (toldv a0 a1 a2 a3 a4 a5 m h s why src) := by
  have F := fits_of s0 s1 d0 d1 hF
  have PT := PacketText_ev a0 a1 a2 a3 a4 a5 m h s F
  have hz := enc_size a0 a1 a2 a3 a4 a5 m h s
  have J1 : ∀ (b : Bool), b = (sil a0 a1 a2 a5 s || !(uc src)) → Ev (fun k => patchbayref2_ToldOf.j1 k why src b a0 a1 a2 a3 a4 a5 m h s) (toldv a0 a1 a2 a3 a4 a5 m h s why src) := by
    intro b hb
    refine Ev.step (fun k => rfl) ?_
    simp only [patchbayref2_ToldOf.j1]
    unfold toldv
    cases hS : (sil a0 a1 a2 a5 s || !(uc src))
    · simp only [Bool.or_eq_false_iff, Bool.not_eq_false'] at hS
      rw [hS.1, hS.2] at hb
      subst hb
      refine Ev.neg (by simp) (Ev.bind PT ?_)
      have hD := Digits_ev why 1 (by omega) (by omega) (by omega)
      have e : dg why 1 ++ (⟨#[0, 0, 0]⟩ : ByteArray) = strOfNums [why, 0, 0, 0] := by
        rw [show dg why 1 = strOfNums [why % 256] from rfl, show why % 256 = why by omega]; rfl
      by_cases h28 : ((enc a0 a1 a2 a3 a4 a5 m h s).size : Int) > 28
      · refine Ev.pos h28 (Ev.pos (by omega) (Ev.pos (by omega) (Ev.bind hD (Ev.pos (by rw [dg_size, z3]; omega) (Ev.pos (by rw [ByteArray.size_append, dg_size, z3, ByteArray.size_extract]; omega) (Ev.val ?_))))))
        rw [e]; simp [hS]
      · refine Ev.neg h28 (Ev.bind hD (Ev.pos (by rw [dg_size, z3]; omega) (Ev.pos (by rw [ByteArray.size_append, dg_size, z3]; omega) (Ev.val ?_))))
        rw [e, extract_big _ 28 (by omega)]; simp [hS]
    · rw [hS] at hb
      subst hb
      refine Ev.pos rfl (Ev.val ?_)
      rw [if_pos]
      simpa using hS
  have J0 : ∀ (b : Bool), b = ((a2 == 1) && !(echo s)) → Ev (fun k => patchbayref2_ToldOf.j0 k why src b a0 a1 a2 a3 a4 a5 m h s) (toldv a0 a1 a2 a3 a4 a5 m h s why src) := by
    intro b hb
    refine Ev.step (fun k => rfl) ?_
    simp only [patchbayref2_ToldOf.j0]
    by_cases h5 : a5 > 0
    · exact Ev.pos h5 (J1 true (by simp [sil, h5]))
    · refine Ev.neg h5 ?_
      cases b
      · refine Ev.neg (by simp) ?_
        simp only [single_eq a0 s0 s1, single_eq a1 d0 d1, single_eq src u0 u1, Option.bind_some]
        cases g0 : uc a0
        · exact Ev.neg (by simp) (J1 true (by simp [sil, g0]))
        · refine Ev.pos rfl ?_
          cases g1 : uc a1
          · exact Ev.neg (by simp) (J1 true (by simp [sil, g1]))
          · refine Ev.pos rfl (J1 _ ?_)
            have h5' : ¬ 0 < a5 := by omega
            simp only [sil, ← hb, g0, g1]; simp [h5']
      · exact Ev.pos rfl (J1 true (by simp only [sil, ← hb]; simp))
  unfold patchbayref2_ToldOf.f
  by_cases h2 : a2 = 1
  · refine Ev.pos h2 ?_
    by_cases hn : s.size = 0
    · exact Ev.pos ((nil_iff s).2 hn) (J0 true (by simp [h2, echo, hn]))
    · refine Ev.neg (fun q => hn ((nil_iff s).1 q)) (Ev.pos (by omega) ?_)
      have hp : 0 < s.size := by omega
      by_cases h8 : bt s 0 = 8
      · exact Ev.pos h8 (J0 false (by simp [h2, echo, hp, h8]))
      · refine Ev.neg h8 (J0 _ ?_)
        have e8 : (bt s 0 == 8) = false := by simpa using h8
        simp [h2, echo, hp, e8, bne]
  · exact Ev.neg h2 (J0 false (by simp [h2]))
/-- the reply to an echo -/
def ansv (a0 a1 a2 a5 : Int) (m : Bool) (s : ByteArray) : Int × Int × Int × Int × Int × Int × Bool × Bool × ByteArray × Bool :=
  if a2 = 1 ∧ ¬ a5 > 0 ∧ m = false ∧ 8 ≤ s.size ∧ (s.extract 0 4).toList = [8, 0, 0, 0] ∧ uc a0 = true ∧ uc a1 = true then (a1, a0, 1, 64, 0, 0, false, false, (⟨#[9]⟩ : ByteArray) ++ s.extract 1 s.size, true)
  else (0, 0, 0, 0, 0, 0, false, false, (⟨#[]⟩ : ByteArray), false)
theorem AnswerOf_eq (a0 a1 a2 a3 a4 a5 : Int) (m h : Bool) (s : ByteArray) (hs : s.size ≤ 1048576) (s0 : 0 ≤ a0) (s1 : a0 < 4294967296) (d0 : 0 ≤ a1) (d1 : a1 < 4294967296) :
    patchbayref2_AnswerOf.f a0 a1 a2 a3 a4 a5 m h s = some (ansv a0 a1 a2 a5 m s) := by
  unfold patchbayref2_AnswerOf.f ansv
  simp only [single_eq a0 s0 s1, single_eq a1 d0 d1, Option.bind_some]
  by_cases h2 : a2 = 1
  · by_cases h5 : a5 > 0
    · simp [h2, h5]
    · cases m
      · by_cases h8 : (s.size : Int) < 8
        · rw [if_pos h2, if_neg h5, if_neg (by simp), if_pos h8, if_neg (by omega)]
        · rw [if_pos h2, if_neg h5, if_neg (by simp), if_neg h8, if_pos (by omega), if_pos (by omega)]
          have h8' : 8 ≤ s.size := by omega
          have h1' : (1 : Int) ≤ s.size := by omega
          have hz : (⟨#[9]⟩ : ByteArray).size + (s.extract 1 s.size).size ≤ 9223372036854775807 := by rw [z1, ByteArray.size_extract]; omega
          by_cases he : (s.extract 0 4).toList = [8, 0, 0, 0]
          · rw [if_pos he, if_pos h1', if_pos hz]
            cases uc a0 <;> cases uc a1 <;> simp [h2, h5, h8', he]
          · rw [if_neg he]; simp [he]
      · simp [h2, h5]
  · simp [h2]
theorem Answer_err (a0 a1 a2 a3 a4 a5 : Int) (m h : Bool) (s : ByteArray) (hs : s.size ≤ 1048576) (F : Int) (hF : pf a2 a3 a4 a5 m h s.size = F) (h0 : F ≠ 0) :
    Ev (fun k => fault_Answer.f k a0 a1 a2 a3 a4 a5 m h s) (0, 0, 0, 0, 0, 0, false, false, (⟨#[]⟩ : ByteArray), false, F) := by
  refine Ev.congr (fun k => rfl) (Ev.bind (a := F) ⟨2, fun k hk => by rw [← hF]; exact check_eq a0 a1 a2 a3 a4 a5 m h s hs k hk⟩ (Ev.neg h0 (Ev.val rfl)))
theorem Answer_good (a0 a1 a2 a3 a4 a5 : Int) (m h : Bool) (s : ByteArray) (hs : s.size ≤ 1048576) (hF : pf a2 a3 a4 a5 m h s.size = 0) :
    Ev (fun k => fault_Answer.f k a0 a1 a2 a3 a4 a5 m h s) (let r := ansv a0 a1 a2 a5 m s; (r.1, r.2.1, r.2.2.1, r.2.2.2.1, r.2.2.2.2.1, r.2.2.2.2.2.1, r.2.2.2.2.2.2.1, r.2.2.2.2.2.2.2.1, r.2.2.2.2.2.2.2.2.1, r.2.2.2.2.2.2.2.2.2, 0)) := by
  refine Ev.congr (fun k => rfl) (Ev.bind (a := 0) ⟨2, fun k hk => by rw [← hF]; exact check_eq a0 a1 a2 a3 a4 a5 m h s hs k hk⟩ (Ev.pos rfl ?_))
  refine Ev.val' ?_
  unfold ansv
  simp only [unicast_eq, Option.bind_some]
  by_cases h2 : a2 = 1
  · by_cases h5 : a5 > 0
    · simp [h2, h5]
    · cases m
      · by_cases h8 : (s.size : Int) < 8
        · rw [if_pos h2, if_neg h5, if_neg (by simp), if_pos h8, if_neg (by omega)]
        · rw [if_pos h2, if_neg h5, if_neg (by simp), if_neg h8, if_pos (by omega), if_pos (by omega)]
          have h8' : 8 ≤ s.size := by omega
          have h1' : (1 : Int) ≤ s.size := by omega
          have hz : (strOfNums [9]).size + (s.extract 1 s.size).size ≤ 9223372036854775807 := by rw [strOfNums_size, ByteArray.size_extract]; simp; omega
          have h9 : strOfNums [9] = (⟨#[9]⟩ : ByteArray) := rfl
          by_cases he : (s.extract 0 4).toList = [8, 0, 0, 0]
          · rw [if_pos he, if_pos h1', if_pos hz, h9]
            cases uc a0 <;> cases uc a1 <;> simp [h2, h5, h8', he]
          · rw [if_neg he]; simp [he]
      · simp [h2, h5]
  · simp [h2]
end Go.Proofs.Ythpohaafphaidaa.UbFaultTells
