/- A packet's check: the program's and the reference's come to the same. -/
import Derived.Test.YthpohaafphaidaaQPl
import Derived.Test.YthpohaafphaidaaPPktEncodesx3
import Derived.Test.YthpohaafphaidaaPPktEncodesx5
namespace Go.Proofs.Ythpohaafphaidaa.CkPktEncodes
open Go.RowKit Go.Proofs.YthpohaafphaidaaW.PrintWords Go.Proofs.YthpohaafphaidaaW.PrintLast Go.Proofs.Ythpohaafphaidaa.Pl Go.Proofs.Ythpohaafphaidaa.PPktEncodes
/-- what is wrong with a packet -/
def pf (a2 a3 a4 a5 : Int) (m h : Bool) (n : Nat) : Int :=
  if a2 < 0 ∨ a2 > 255 ∨ a3 < 1 ∨ a3 > 255 ∨ a4 < 0 ∨ a4 > 65535 ∨ a5 < 0 ∨ a5 > 65528 then 10
  else if (n : Int) > 1500 ∨ a5 + (n : Int) > 65535 then 2
  else if a5 % 8 ≠ 0 then 3
  else if m = true ∧ n % 8 ≠ 0 then 3
  else if (m = true ∨ a5 > 0) ∧ (n = 0 ∨ h = true) then 3 else 0
theorem nil_iff (s : ByteArray) : s.toList = ([] : List UInt8) ↔ s.size = 0 := by
  rw [ByteArray.toList_eq]
  have e : s.data.toList.length = s.size := rfl
  rw [← e, List.length_eq_zero_iff]
theorem check_eq (a0 a1 a2 a3 a4 a5 : Int) (m h : Bool) (s : ByteArray) (hs : s.size ≤ 1048576) (k : Nat) (hk : 2 ≤ k) :
    pkt_Check.f k a0 a1 a2 a3 a4 a5 m h s = some (pf a2 a3 a4 a5 m h s.size) := by
  obtain ⟨k, rfl⟩ : ∃ j, k = j + 2 := ⟨k - 2, by omega⟩
  unfold pkt_Check.f
  by_cases c0 : a2 < 0 ∨ a2 > 255 ∨ a3 < 1 ∨ a3 > 255 ∨ a4 < 0 ∨ a4 > 65535 ∨ a5 < 0 ∨ a5 > 65528
  · have e : pf a2 a3 a4 a5 m h s.size = 10 := by unfold pf; rw [if_pos c0]
    rw [e]
    simp only [pkt_Check.j0, if_true]
    repeat' split
    all_goals first | rfl | (simp at *; omega)
  · have e5 : decide (a5 > 65528) = false := by simp; omega
    rw [if_neg (by omega), if_neg (by omega), if_neg (by omega), if_neg (by omega), if_neg (by omega), if_neg (by omega), if_neg (by omega), e5]
    simp only [pkt_Check.j0, Bool.false_eq_true, if_false]
    have ew : wrap64 (a5 + (s.size : Int)) = a5 + (s.size : Int) := w64 (by omega) (by omega)
    have et : Int.tmod a5 8 = a5 % 8 := Int.tmod_eq_emod_of_nonneg (by omega)
    rw [ew]
    unfold pf
    rw [if_neg c0]
    by_cases c1 : (s.size : Int) > 1500 ∨ a5 + (s.size : Int) > 65535
    · rw [if_pos c1]
      simp only [pkt_Check.j1, if_true]
      split
      · rfl
      · have : decide (a5 + (s.size : Int) > 65535) = true := by simp; omega
        rw [if_pos this]
    · rw [if_neg c1, if_neg (by omega)]
      have : decide (a5 + (s.size : Int) > 65535) = false := by simp; omega
      rw [this]
      simp only [pkt_Check.j1, Bool.false_eq_true, if_false, et, nil_iff]
      have e8 : ((s.size : Int) % 8 = 0) ↔ s.size % 8 = 0 := by omega
      simp only [e8]
      by_cases d0 : a5 % 8 = 0 <;> by_cases d1 : s.size % 8 = 0 <;> by_cases d2 : s.size = 0 <;> by_cases d3 : a5 > 0 <;> cases m <;> cases h <;> simp [d0, d1, d2, d3]
theorem fault_eq (a0 a1 a2 a3 a4 a5 : Int) (m h : Bool) (s : ByteArray) (hs : s.size ≤ 1048576) (k : Nat) (hk : 2 ≤ k) :
    patchbayref2_PacketFault.f k a0 a1 a2 a3 a4 a5 m h s = some (pf a2 a3 a4 a5 m h s.size) := by
  obtain ⟨k, rfl⟩ : ∃ j, k = j + 2 := ⟨k - 2, by omega⟩
  unfold patchbayref2_PacketFault.f
  by_cases c0 : a2 < 0 ∨ a2 > 255 ∨ a3 < 1 ∨ a3 > 255 ∨ a4 < 0 ∨ a4 > 65535 ∨ a5 < 0 ∨ a5 > 65528
  · have e : pf a2 a3 a4 a5 m h s.size = 10 := by unfold pf; rw [if_pos c0]
    rw [e]
    simp only [patchbayref2_PacketFault.j0, if_true]
    repeat' split
    all_goals first | rfl | (simp at *; omega)
  · have e5 : decide (a5 > 65528) = false := by simp; omega
    rw [if_neg (by omega), if_neg (by omega), if_neg (by omega), if_neg (by omega), if_neg (by omega), if_neg (by omega), if_neg (by omega), e5]
    simp only [patchbayref2_PacketFault.j0, Bool.false_eq_true, if_false]
    have ew : wrap64 (a5 + (s.size : Int)) = a5 + (s.size : Int) := w64 (by omega) (by omega)
    have et : Int.tmod a5 8 = a5 % 8 := Int.tmod_eq_emod_of_nonneg (by omega)
    rw [ew]
    unfold pf
    rw [if_neg c0]
    by_cases c1 : (s.size : Int) > 1500 ∨ a5 + (s.size : Int) > 65535
    · rw [if_pos c1]
      simp only [patchbayref2_PacketFault.j1, if_true]
      split
      · rfl
      · have : decide (a5 + (s.size : Int) > 65535) = true := by simp; omega
        rw [if_pos this]
    · rw [if_neg c1, if_neg (by omega)]
      have : decide (a5 + (s.size : Int) > 65535) = false := by simp; omega
      rw [this]
      simp only [patchbayref2_PacketFault.j1, Bool.false_eq_true, if_false, et]
      have e8 : ((s.size : Int) % 8 > 0) ↔ ¬ s.size % 8 = 0 := by omega
      have e9 : ((s.size : Int) = 0) ↔ s.size = 0 := by omega
      have e10 : (a5 % 8 > 0) ↔ ¬ a5 % 8 = 0 := by omega
      have e11 : (a5 = 0) ↔ ¬ a5 > 0 := by omega
      simp only [e8, e9, e10, e11]
      by_cases d0 : a5 % 8 = 0 <;> by_cases d1 : s.size % 8 = 0 <;> by_cases d2 : s.size = 0 <;> by_cases d3 : a5 > 0 <;> cases m <;> cases h <;> simp [d0, d1, d2, d3]
end Go.Proofs.Ythpohaafphaidaa.CkPktEncodes
