/- Worlds that only grow: what a comparison leaves. -/
import Derived.Test.YtbdcaadehfbnbaaDoorQCk
namespace Go.Proofs.YtbdcaadehfbnbaaDoor.Ck
open Go Go.RowKit Go.Sort Go.Proofs.YtbdcaadehfbnbaaDoorW.PrintWords Go.Proofs.YtbdcaadehfbnbaaDoorW.PrintLast Go.Proofs.YtbdcaadehfbnbaaDoorW.PrintMore Go.Proofs.YtbdcaadehfbnbaaDoor.GPsetMakes
set_option linter.unusedVariables false
set_option linter.unusedSimpArgs false
def Grown (a b : World) : Prop := ∃ q os, b = grow (a.drewN q) os
theorem Grown.refl (a : World) : Grown a a := ⟨0, #[], by rw [grow_empty]; rfl⟩
theorem Grown.drewN {a b : World} (h : Grown a b) {n : Nat} : Grown a (b.drewN n) := by
  obtain ⟨q, os, rfl⟩ := h
  refine ⟨q + n, os, ?_⟩
  show ({ heap := _, tape := _, drawn := _, os := _, output := _ } : World) = { heap := _, tape := _, drawn := _, os := _, output := _ }
  simp [grow, World.drewN, Nat.add_assoc]
theorem Grown.drew {a b : World} (h : Grown a b) : Grown a b.drew := Grown.drewN (n := 1) h
theorem Grown.alloc {a b : World} (h : Grown a b) {o : Obj} : Grown a (b.alloc o) := by
  obtain ⟨q, os, rfl⟩ := h
  exact ⟨q, os ++ #[o], by rw [alloc_eq_grow, grow_grow]⟩
theorem Grown.trans {a b c : World} (h : Grown a b) (k : Grown b c) : Grown a c := by
  obtain ⟨q, os, rfl⟩ := h
  obtain ⟨p, ps, rfl⟩ := k
  refine ⟨q + p, os ++ ps, ?_⟩
  simp [grow, World.drewN, Nat.add_assoc, Array.append_assoc]
section
variable {P : Program} {ops : Array Oper} {rest : List Oper} {o : Oper} {a : Act} {Q : Exit → Act → World → Prop}
theorem box_eventG {W : World} (hgd : o.guard = none) {N : Tmp} (_hd : o.dst = some N) {cs : Array Value} {t : TypeId}
    (hrun : (execOp a.eval o).run P W = .ok (.value (.pointer (some ⟨W.heap.size, 0, none⟩))) (W.alloc (.cells cs t (0, 0))))
    (h : ∀ g, g = W.heap.size → ∀ w1, w1.heap[g]? = some (.cells cs t (0, 0)) → Below W.heap.size W w1 → Grown W w1 → wpList P ops Q rest (a.put o.dst (.pointer (some ⟨g, 0, none⟩))) w1) : wpList P ops Q (o :: rest) a W :=
  Kd.event_run hgd hrun (h _ rfl _ (blk_new W _) (below_alloc (Below.refl _ _) _) (Grown.refl W).alloc)
variable {Kc : Act → World → Prop}
/-- a literal list of integers -/
theorem R_lit_stepG {w0 W : World} (base e : Nat) (hw : Region.wanted o (yielded ops a.tmps) = true) {N : Tmp} (_hd : o.dst = some N) {xs : List Int} {inner : List Value} {ok okp : Nat → Prop}
    (hrun : (execOp a.eval o).run P W = .ok (.value (.slice (some ⟨W.heap.size, 0, none⟩) xs.length xs.length)) (W.alloc (.cells inner.toArray e)))
    (hrep : Reps ((Kd.int .i64).M W base okp) (Kd.int .i64).sz xs inner) (_hok : ∀ k, okp k → ok k) (hfresh : ok W.heap.size) (HB : Below base w0 W) (hbase : base ≤ W.heap.size) (hm : xs.length ≤ 9223372036854775807)
    (h : ∀ v1 w1, (Kd.int .i64).R e w1 base ok v1 xs → Below base w0 w1 → W.grownBy w1 none → (∃ b, v1.ownBlock = some b ∧ W.heap.size ≤ b) → Grown W w1 → Kc (a.put o.dst v1) w1) : if Region.wanted o (yielded ops a.tmps) = true then Oper.wp P o a W Kc Q else Kc (a.put o.dst undef) W := by
  have hown : (W.alloc (.cells inner.toArray e)).ownsRow base e 1 (.slice (some ⟨W.heap.size, 0, none⟩) xs.length xs.length) xs.length inner := by
    have h2 := World.ownsRow_lit (base := base) (e := e) (size := 1) W inner.toArray xs.length hbase (by unfold maxLen; omega) (by rw [List.size_toArray]; exact hrep.1)
    simpa using h2
  refine event_step hw hrun (h _ _ ⟨fun k hk => ?_, inner, hown, hrep.imp_ (fun p c hp => hp)⟩ (HB.alloc hbase _) (World.grownBy_alloc W _ none) ⟨W.heap.size, rfl, Nat.le_refl _⟩ (Grown.refl W).alloc)
  have : W.heap.size = k := by simpa [Value.ownBlock] using hk
  subst this
  exact hfresh
end
end Go.Proofs.YtbdcaadehfbnbaaDoor.Ck
