/- Two facts for the law's walk: a slice's first 17 links; the boxes behind the two stores. -/
import Derived.Test.YtbdcaadehfbnbaaGAdvEncodesx2
import Derived.Test.YtbdcaadehfbnbaaQSo
namespace Go.Proofs.Ytbdcaadehfbnbaa.Lx
open Go.RowKit Go.Proofs.YtbdcaadehfbnbaaW.PrintWords Go.Proofs.YtbdcaadehfbnbaaW.PrintLast Go.Proofs.YtbdcaadehfbnbaaW.PrintMore Go.Proofs.Ytbdcaadehfbnbaa.GAdvEncodes
theorem C_take17 {w : World} {A : Option Addr} {L : List S28} (h : Kd.C k28 w A L.length L) : Kd.C k28 w A (L.take 17).length (L.take 17) := by
  by_cases hl : 17 ≤ L.length
  · exact Kd.C_take h (m := 17) hl
  · rw [List.take_of_length_le (by omega)]; exact h
theorem two_puts {w w1 : World} {g h : Nat} {t : TypeId} {x0 x1 x2 x3 x y0 y1 y2 y3 y : Value} (bg : Aside0 (w1.heap[g]? = some (.cells #[x0, x1, x2, x3] t (0, 0)))) (bh : Aside0 (w1.heap[h]? = some (.cells #[y0, y1, y2, y3] t (0, 0)))) (hne : Aside0 (g ≠ h))
    (hb : Aside0 (Below w.heap.size w w1)) (hg : Aside0 (w.heap.size ≤ g)) (hh : Aside0 (w.heap.size ≤ h)) :
    Aside0 (((w1.setCell ⟨g, 3, none⟩ x).setCell ⟨h, 3, none⟩ y).heap[g]? = some (.cells #[x0, x1, x2, x] t (0, 0))) ∧ Aside0 (((w1.setCell ⟨g, 3, none⟩ x).setCell ⟨h, 3, none⟩ y).heap[h]? = some (.cells #[y0, y1, y2, y] t (0, 0))) ∧ Aside0 (Below w.heap.size w ((w1.setCell ⟨g, 3, none⟩ x).setCell ⟨h, 3, none⟩ y)) :=
  ⟨⟨blk_far (blk_put bg.out 3 x rfl) hne.out y⟩, ⟨blk_put (blk_far bh.out (Ne.symm hne.out) x) 3 y rfl⟩, ⟨below_set (below_set hb.out hg.out) hh.out⟩⟩
theorem some17 {A : Option Addr} {c : Nat} {L l : List S28} {w : World} (hl : l = L.take 17) (hr : Kd.C k28 w A L.length L) (hc : L.length ≤ c) :
    Calls Try.prog 7 #[.slice A L.length c, .int .i64 17] w fun e w' => e = .returned (.slice A l.length c) ∧ w' = w := by
  refine (So.some_calls A c L 17 w hr hc (by decide) (by decide)).mono fun e w' h => ⟨?_, h.2.symm⟩
  rw [h.1, hl]; rfl
end Go.Proofs.Ytbdcaadehfbnbaa.Lx
