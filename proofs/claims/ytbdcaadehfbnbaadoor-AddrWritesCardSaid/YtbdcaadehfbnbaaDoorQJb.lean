/- The library's Join in the print's words. -/
import Derived.Test.YtbdcaadehfbnbaaDoorQVb
import Derived.Lib.Join
namespace Go.Proofs.YtbdcaadehfbnbaaDoor.Vb
open Go Go.RowKit Go.Proofs.YtbdcaadehfbnbaaDoorW.PrintWords Go.Proofs.YtbdcaadehfbnbaaDoorW.PrintLast Go.Proofs.YtbdcaadehfbnbaaDoor.Pl
set_option linter.unusedVariables false
set_option linter.unusedSimpArgs false
def joinV (l : List ByteArray) (sep : ByteArray) : ByteArray := ⟨(Lib.join (l.map (·.data.toList)) sep.data.toList).toArray⟩
def joinF (l : List ByteArray) (sep : ByteArray) : Option ByteArray := if l.length ≤ 1000 ∧ (joinV l sep).size ≤ 1000000 then some (joinV l sep) else none
theorem join_calls (A0 : Option Addr) (c0 : Nat) (l0 : List ByteArray) (a1 : ByteArray) (r : ByteArray) (w : World) (hr0 : Kd.C Kd.string w A0 l0.length l0) (hc0 : l0.length ≤ c0) (h : joinF l0 a1 = some r) :
    Calls Tryd.prog 68 #[.slice A0 l0.length c0, .string a1] w fun e w' => e = .returned (.string r) ∧ Below w.heap.size w w' := by
  unfold joinF at h
  by_cases c : l0.length ≤ 1000 ∧ (joinV l0 a1).size ≤ 1000000
  · rw [if_pos c] at h
    obtain rfl := Option.some.inj h
    rcases Nat.eq_zero_or_pos l0.length with h0 | h0
    · obtain rfl := List.length_eq_zero_iff.1 h0
      exact (Tryd.strings_Join_none A0 c0 a1 w).mono fun e w' hh => ⟨hh.1, by rw [hh.2]; exact Below.refl _ _⟩
    · obtain ⟨ad, rfl, hc⟩ := hr0.2.2 h0
      have cell : ∀ (j : Nat) x, l0[j]? = some x → w.cell? (ad.add j) = some (.string x) := by
        intro j x hj
        obtain ⟨cs, hs, hk, hu⟩ := hc j x hj
        have hk' : cs = [.string x] := hk
        subst hk'
        have g := hu 0 _ rfl
        rw [show j * Kd.string.sz + 0 = j from Nat.mul_one j] at g
        exact g
      obtain ⟨bk, o, ix⟩ := ad
      obtain rfl : ix = none := by
        have g := cell 0 _ (List.getElem?_eq_getElem h0)
        cases ix with
        | none => rfl
        | some i =>
          exfalso
          unfold World.cell? at g
          split at g
          · rw [if_pos (show (Addr.add ⟨bk, o, some i⟩ 0).spot.isSome = true from rfl)] at g; cases g
          · cases g
      have hbk : bk < w.heap.size := World.block_lt_of_cell? w _ (cell 0 _ (List.getElem?_eq_getElem h0))
      have hsz : (joinV l0 a1).size = (Lib.join (l0.map (·.data.toList)) a1.data.toList).length := by simp [joinV, ByteArray.size]
      have hle : (Lib.join (l0.map (·.data.toList)) a1.data.toList).length ≤ 140737488355328 := by rw [← hsz]; omega
      have cell2 : ∀ (j : Nat) x, l0[j]? = some x → w.cell? ⟨bk, o + j, none⟩ = some (.string x) := by
        intro j x hj
        have g := cell j x hj
        unfold Addr.add at g
        by_cases q : j = 0
        · subst q; exact g
        · rw [if_neg q] at g; exact g
      exact Tryd.strings_Join bk o c0 l0 a1 w cell2 hbk (by omega) hc0 hle
  · rw [if_neg c] at h; simp at h
end Go.Proofs.YtbdcaadehfbnbaaDoor.Vb
