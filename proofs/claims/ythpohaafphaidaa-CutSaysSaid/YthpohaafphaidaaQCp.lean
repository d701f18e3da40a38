/- Pieces of a packet, as lists. -/
import Derived.Test.YthpohaafphaidaaQPl
import Derived.Test.YthpohaafphaidaaGCutSaysx0
namespace Go.Proofs.Ythpohaafphaidaa.Cp
open Go.RowKit Go.Proofs.YthpohaafphaidaaW.PrintWords Go.Proofs.YthpohaafphaidaaW.PrintLast Go.Proofs.Ythpohaafphaidaa.Pl Go.Proofs.Ythpohaafphaidaa.GCutSays
set_option linter.unusedVariables false
set_option linter.unusedSimpArgs false
theorem ext_eq {s t : ByteArray} (hz : s.size = t.size) (h : ∀ i (h1 : i < s.data.size) (h2 : i < t.data.size), s.data[i] = t.data[i]) : s = t := by
  apply ByteArray.ext
  exact Array.ext hz h
theorem cut_cut (s : ByteArray) (a b c d : Nat) (hd : d = a + c) (h : a + c ≤ s.size) (hb : b = a + b - a) : (s.extract a s.size).extract b c = s.extract (a + b) d := by
  subst hd
  refine ext_eq (by simp only [ByteArray.size_extract]; omega) fun i h1 h2 => ?_
  simp only [ByteArray.data_extract, Array.getElem_extract, Nat.add_assoc]
theorem least (p : Nat → Prop) [DecidablePred p] : ∀ k, p k → ∃ M, p M ∧ ∀ j, j < M → ¬ p j := by
  intro k
  induction k using Nat.strongRecOn with
  | ind k ih =>
    intro h
    by_cases c : ∃ j, j < k ∧ p j
    · obtain ⟨j, hj, hp⟩ := c
      exact ih j hj hp
    · exact ⟨k, h, fun j hj hp => c ⟨j, hj, hp⟩⟩
section
variable (a0 a1 a2 a3 a4 o : Int) (m h : Bool) (b : ByteArray) (e : Nat)
/-- a piece that is not the last one -/
def nl (i : Nat) : S30 := ⟨a0, a1, a2, a3, a4, o + ((i * e : Nat) : Int), true, h, b.extract (i * e) (i * e + e)⟩
/-- the last piece -/
def la (i : Nat) : S30 := ⟨a0, a1, a2, a3, a4, o + ((i * e : Nat) : Int), m, h, b.extract (i * e) b.size⟩
/-- all pieces -/
def pcs (M : Nat) : List S30 := (List.range M).map (nl a0 a1 a2 a3 a4 o h b e) ++ [la a0 a1 a2 a3 a4 o m h b e M]
end
structure Num (n e : Nat) (z M : Nat) : Prop where
  n0 : 28 ≤ n
  n1 : n ≤ 1520
  e0 : e = (n - 20) / 8 * 8
  z1 : z ≤ 60
  go : ∀ j, j < M → j * e + n < z + 20
  st : z + 20 ≤ M * e + n
theorem Num.small {n e z M : Nat} (N : Num n e z M) : M ≤ 60 := by
  cases M with
  | zero => omega
  | succ M =>
    have := N.go M (by omega)
    have h1 := Nat.le_mul_of_pos_right M (show 0 < e by have := N.e0; have := N.n0; omega)
    have := N.n0; have := N.z1; omega
theorem Num.at_ {n e z M : Nat} (N : Num n e z M) {j : Nat} (hj : j < M) : j * e + e ≤ z := by
  have := N.go j hj
  have := N.e0; have := N.n0
  omega
theorem nums (n : Nat) (n0 : 28 ≤ n) (n1 : n ≤ 1520) (z : Nat) (z1 : z ≤ 60) : ∃ M, Num n ((n - 20) / 8 * 8) z M := by
  obtain ⟨M, h1, h2⟩ := least (fun M => z + 20 ≤ M * ((n - 20) / 8 * 8) + n) z (by
    have := Nat.le_mul_of_pos_right z (show 0 < (n - 20) / 8 * 8 by omega)
    show z + 20 ≤ z * ((n - 20) / 8 * 8) + n
    generalize z * ((n - 20) / 8 * 8) = p at *
    omega)
  exact ⟨M, ⟨n0, n1, rfl, z1, fun j hj => Nat.not_le.1 (h2 j hj), h1⟩⟩
/-- how many pieces there are, but one -/
def cnt (n z : Nat) : Nat := ((List.range 61).find? (fun M => z + 20 ≤ M * ((n - 20) / 8 * 8) + n)).getD 0
theorem cnt_num (n : Nat) (n0 : 28 ≤ n) (n1 : n ≤ 1520) (z : Nat) (z1 : z ≤ 60) : Num n ((n - 20) / 8 * 8) z (cnt n z) := by
  obtain ⟨M, N⟩ := nums n n0 n1 z z1
  have hM := N.small
  have : cnt n z = M := by
    unfold cnt
    have hf : (List.range 61).find? (fun M => z + 20 ≤ M * ((n - 20) / 8 * 8) + n) = some M := by
      rw [List.find?_range_eq_some]
      refine ⟨by simpa using N.st, by simp; omega, fun j hj => ?_⟩
      have := N.go j hj
      simp; omega
    rw [hf]; rfl
  rw [this]; exact N
theorem put9 {w : World} {B : Nat} {T : TypeId} {v0 v1 v2 v3 v4 v5 v6 v7 v8 : Value} (u0 u1 u2 u3 u4 u5 u6 u7 u8 : Value) (h : w.heap[B]? = some (.cells #[v0, v1, v2, v3, v4, v5, v6, v7, v8] T (0, 0))) :
    (((((((((w.setCell ⟨B, 0, none⟩ u0).setCell ⟨B, 1, none⟩ u1).setCell ⟨B, 2, none⟩ u2).setCell ⟨B, 3, none⟩ u3).setCell ⟨B, 4, none⟩ u4).setCell ⟨B, 5, none⟩ u5).setCell ⟨B, 6, none⟩ u6).setCell ⟨B, 7, none⟩ u7).setCell ⟨B, 8, none⟩ u8).heap[B]? = some (.cells #[u0, u1, u2, u3, u4, u5, u6, u7, u8] T (0, 0)) := by
  refine blk_put (cs := #[u0, u1, u2, u3, u4, u5, u6, u7, v8]) ?_ 8 u8 rfl
  refine blk_put (cs := #[u0, u1, u2, u3, u4, u5, u6, v7, v8]) ?_ 7 u7 rfl
  refine blk_put (cs := #[u0, u1, u2, u3, u4, u5, v6, v7, v8]) ?_ 6 u6 rfl
  refine blk_put (cs := #[u0, u1, u2, u3, u4, v5, v6, v7, v8]) ?_ 5 u5 rfl
  refine blk_put (cs := #[u0, u1, u2, u3, v4, v5, v6, v7, v8]) ?_ 4 u4 rfl
  refine blk_put (cs := #[u0, u1, u2, v3, v4, v5, v6, v7, v8]) ?_ 3 u3 rfl
  refine blk_put (cs := #[u0, u1, v2, v3, v4, v5, v6, v7, v8]) ?_ 2 u2 rfl
  refine blk_put (cs := #[u0, v1, v2, v3, v4, v5, v6, v7, v8]) ?_ 1 u1 rfl
  exact blk_put h 0 u0 rfl
theorem below9 {n : Nat} {W w : World} {B : Nat} (u0 u1 u2 u3 u4 u5 u6 u7 u8 : Value) (h : Below n W w) (hB : n ≤ B) : Below n W (((((((((w.setCell ⟨B, 0, none⟩ u0).setCell ⟨B, 1, none⟩ u1).setCell ⟨B, 2, none⟩ u2).setCell ⟨B, 3, none⟩ u3).setCell ⟨B, 4, none⟩ u4).setCell ⟨B, 5, none⟩ u5).setCell ⟨B, 6, none⟩ u6).setCell ⟨B, 7, none⟩ u7).setCell ⟨B, 8, none⟩ u8) :=
  ((((((((h.setCell hB _).setCell hB _).setCell hB _).setCell hB _).setCell hB _).setCell hB _).setCell hB _).setCell hB _).setCell hB _
/-- nine stores into one block leave another. -/
theorem far9 {w : World} {B q : Nat} {o : Obj} (u0 u1 u2 u3 u4 u5 u6 u7 u8 : Value) (h : w.heap[q]? = some o) (ne : B ≠ q) : (((((((((w.setCell ⟨B, 0, none⟩ u0).setCell ⟨B, 1, none⟩ u1).setCell ⟨B, 2, none⟩ u2).setCell ⟨B, 3, none⟩ u3).setCell ⟨B, 4, none⟩ u4).setCell ⟨B, 5, none⟩ u5).setCell ⟨B, 6, none⟩ u6).setCell ⟨B, 7, none⟩ u7).setCell ⟨B, 8, none⟩ u8).heap[q]? = some o := by
  have e : ∀ (x : World) (j : Nat) (u : Value), x.heap[q]? = some o → (x.setCell ⟨B, j, none⟩ u).heap[q]? = some o := fun x j u hx => (Below.heap_setCell x ⟨B, j, none⟩ u q (fun e => ne e.symm)).trans hx
  exact e _ 8 _ (e _ 7 _ (e _ 6 _ (e _ 5 _ (e _ 4 _ (e _ 3 _ (e _ 2 _ (e _ 1 _ (e _ 0 _ h))))))))
end Go.Proofs.Ythpohaafphaidaa.Cp
