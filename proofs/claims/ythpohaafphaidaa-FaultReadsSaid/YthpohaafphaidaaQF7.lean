/- Seven stores into one block. -/
import Derived.Test.YthpohaafphaidaaQFit
namespace Go.Proofs.Ythpohaafphaidaa.Fit
open Go Go.RowKit Go.Proofs.YthpohaafphaidaaW.PrintWords Go.Proofs.YthpohaafphaidaaW.PrintLast
theorem put7 {w : World} {B : Nat} {T : TypeId} {v0 v1 v2 v3 v4 v5 v6 u0 u1 u2 u3 u4 u5 u6 : Value} (h : w.heap[B]? = some (.cells #[v0, v1, v2, v3, v4, v5, v6] T (0, 0))) :
    (((((((w.setCell ⟨B, 0, none⟩ u0).setCell ⟨B, 1, none⟩ u1).setCell ⟨B, 2, none⟩ u2).setCell ⟨B, 3, none⟩ u3).setCell ⟨B, 4, none⟩ u4).setCell ⟨B, 5, none⟩ u5).setCell ⟨B, 6, none⟩ u6).heap[B]? = some (.cells #[u0, u1, u2, u3, u4, u5, u6] T (0, 0)) := by
  refine blk_put (cs := #[u0, u1, u2, u3, u4, u5, v6]) ?_ 6 u6 rfl
  refine blk_put (cs := #[u0, u1, u2, u3, u4, v5, v6]) ?_ 5 u5 rfl
  refine blk_put (cs := #[u0, u1, u2, u3, v4, v5, v6]) ?_ 4 u4 rfl
  refine blk_put (cs := #[u0, u1, u2, v3, v4, v5, v6]) ?_ 3 u3 rfl
  refine blk_put (cs := #[u0, u1, v2, v3, v4, v5, v6]) ?_ 2 u2 rfl
  refine blk_put (cs := #[u0, v1, v2, v3, v4, v5, v6]) ?_ 1 u1 rfl
  exact blk_put h 0 u0 rfl
theorem below7 {n : Nat} {W w : World} {B : Nat} {u0 u1 u2 u3 u4 u5 u6 : Value} (h : Below n W w) (hB : n ≤ B) : Below n W (((((((w.setCell ⟨B, 0, none⟩ u0).setCell ⟨B, 1, none⟩ u1).setCell ⟨B, 2, none⟩ u2).setCell ⟨B, 3, none⟩ u3).setCell ⟨B, 4, none⟩ u4).setCell ⟨B, 5, none⟩ u5).setCell ⟨B, 6, none⟩ u6) :=
  ((((((h.setCell hB _).setCell hB _).setCell hB _).setCell hB _).setCell hB _).setCell hB _).setCell hB _
theorem far7 {w : World} {B q : Nat} {o : Obj} {u0 u1 u2 u3 u4 u5 u6 : Value} (h : w.heap[q]? = some o) (ne : B ≠ q) : (((((((w.setCell ⟨B, 0, none⟩ u0).setCell ⟨B, 1, none⟩ u1).setCell ⟨B, 2, none⟩ u2).setCell ⟨B, 3, none⟩ u3).setCell ⟨B, 4, none⟩ u4).setCell ⟨B, 5, none⟩ u5).setCell ⟨B, 6, none⟩ u6).heap[q]? = some o := by
  have e : ∀ (x : World) (j : Nat) (u : Value), x.heap[q]? = some o → (x.setCell ⟨B, j, none⟩ u).heap[q]? = some o := fun x j u hx => (Below.heap_setCell x ⟨B, j, none⟩ u q (fun e => ne e.symm)).trans hx
  exact e _ 6 _ (e _ 5 _ (e _ 4 _ (e _ 3 _ (e _ 2 _ (e _ 1 _ (e _ 0 _ h))))))
theorem far9i {w : World} {B q : Nat} {o : Obj} {u0 u1 u2 u3 u4 u5 u6 u7 u8 : Value} (h : w.heap[q]? = some o) (ne : B ≠ q) : (((((((((w.setCell ⟨B, 0, none⟩ u0).setCell ⟨B, 1, none⟩ u1).setCell ⟨B, 2, none⟩ u2).setCell ⟨B, 3, none⟩ u3).setCell ⟨B, 4, none⟩ u4).setCell ⟨B, 5, none⟩ u5).setCell ⟨B, 6, none⟩ u6).setCell ⟨B, 7, none⟩ u7).setCell ⟨B, 8, none⟩ u8).heap[q]? = some o := by
  have e : ∀ (x : World) (j : Nat) (u : Value), x.heap[q]? = some o → (x.setCell ⟨B, j, none⟩ u).heap[q]? = some o := fun x j u hx => (Below.heap_setCell x ⟨B, j, none⟩ u q (fun e => ne e.symm)).trans hx
  exact e _ 8 _ (e _ 7 _ (e _ 6 _ (e _ 5 _ (e _ 4 _ (e _ 3 _ (e _ 2 _ (e _ 1 _ (e _ 0 _ h))))))))
end Go.Proofs.Ythpohaafphaidaa.Fit
