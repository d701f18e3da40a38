/-
AdvEncodes returns true for every two advertisements.
-/
import Derived.Test.YtbdcaadehfbnbaaRows
import Derived.Test.YtbdcaadehfbnbaaQLa
import Derived.WalkKit
import Derived.ProofKit
import Derived.OpenShut
import Derived.ShutString
import Derived.ChangeOld
import Derived.Below
import Derived.Carry
import Derived.SizedLaws
import Derived.Lib.SmallJoins
import Derived.Deep.SlicePairs
namespace Go.Proofs.Ytbdcaadehfbnbaa.lawAdvEncodes
open Go.ChangeShapes Go.WideShapes Go.ChangeAt Go.RowKit Go.Joins Go.Deep
open Go.Proofs.YtbdcaadehfbnbaaW.PrintWords Go.Proofs.Ytbdcaadehfbnbaa.GAdvEncodes
set_option linter.unusedVariables false
theorem own : ownKnob Try.prog.godebug = none := by kernel_rfl
theorem laid : laidOutB Try.prog = true := by kernel_rfl
theorem one24 : oneCellFields Try.prog #[{ name := "ID", type := 3, offset := 0, embedded := false, tag := "", pkgPath := "", byteOffset := 0 }, { name := "Seq", type := 3, offset := 1, embedded := false, tag := "", pkgPath := "", byteOffset := 8 }, { name := "Age", type := 3, offset := 2, embedded := false, tag := "", pkgPath := "", byteOffset := 16 }, { name := "Links", type := 22, offset := 3, embedded := false, tag := "", pkgPath := "", byteOffset := 24 }] = true := by kernel_rfl
def num : Value → Int
  | .int _ n => n
  | _ => 0
set_option maxRecDepth 100000 in
/-- an advertisement that comes in: its three numbers and its links -/
theorem open_adv {H : Type} {enc : TypeId × Value → H} {w : World} {base b0 : Nat} {r : Reach} {v : Value} {d : DataW H} {p : List MemPlace}
    (hv : Value.okWide Try.prog w r b0 24 v) (h : DataW.Trod enc Try.prog w base (fun _ => true) true 24 v d p) :
    ∃ (a0 a1 a2 : Int) (A : Option Addr) (c : Nat) (l : List S28), v = .agg #[.int .i64 a0, .int .i64 a1, .int .i64 a2, .slice A l.length c] ∧ Kd.C k28 w A l.length l ∧ l.length ≤ c := by
  obtain ⟨v0, v1, v2, v3, y0, y1, y2, y3, n, rfl, hd, hp, t0, t1, t2, t3⟩ := open_agg4 Try.underlying24 one24 (by kernel_rfl) hv h
  obtain ⟨a0, e0, _, _⟩ := DataW.trod_int Try.underlying3 t0
  obtain ⟨a1, e1, _, _⟩ := DataW.trod_int Try.underlying3 t1
  obtain ⟨a2, e2, _, _⟩ := DataW.trod_int Try.underlying3 t2
  simp only [List.cons.injEq, and_true] at e0 e1 e2
  subst e0 e1 e2
  rcases open_slice_pairs Try.underlying22 Try.underlying28 (by kernel_rfl) rfl rfl (by kernel_rfl) (by kernel_rfl) t3 with ⟨e3, _⟩ | ⟨a, len, cap, m, n', V0, V1, D0, D1, P0, P1, e3, _, hl, hm, hmm, _, hc⟩
  · simp only [List.cons.injEq, and_true] at e3
    subst e3
    exact ⟨a0, a1, a2, none, 0, [], rfl, ⟨rfl, by decide, fun h => absurd h (by decide)⟩, Nat.le_refl _⟩
  · simp only [List.cons.injEq, and_true] at e3
    subst e3
    have hlm : len ≤ m := by rw [hmm]; simp; exact hl
    have hlen : ((List.range len).map fun i => (⟨num (V0 i), num (V1 i)⟩ : S28)).length = len := by simp
    refine ⟨a0, a1, a2, some a, cap, (List.range len).map fun i => ⟨num (V0 i), num (V1 i)⟩, by rw [hlen], ?_, by rw [hlen]; exact hl⟩
    rw [hlen]
    refine ⟨hlen, by unfold maxLen at hm; omega, fun _ => ⟨a, rfl, fun j x hj => ?_⟩⟩
    rw [List.getElem?_map] at hj
    have hjl : j < len := by
      rcases Nat.lt_or_ge j len with g | g
      · exact g
      · rw [List.getElem?_eq_none (by simpa using g)] at hj; cases hj
    rw [List.getElem?_range hjl] at hj
    obtain rfl := Option.some.inj hj
    obtain ⟨c0, c1, g0, g1⟩ := hc j (by omega)
    obtain ⟨x0, f0, _, _⟩ := DataW.trod_int Try.underlying3 g0
    obtain ⟨x1, f1, _, _⟩ := DataW.trod_int Try.underlying3 g1
    simp only [List.cons.injEq, and_true] at f0 f1
    rw [f0] at c0
    rw [f1] at c1
    refine ⟨[.int .i64 x0, .int .i64 x1], rfl, ?_, fun i u hu => ?_⟩
    · have n0 : num (V0 j) = x0 := by rw [f0]; rfl
      have n1 : num (V1 j) = x1 := by rw [f1]; rfl
      show k28.K w ⟨num (V0 j), num (V1 j)⟩ _
      rw [n0, n1]
      exact k28_mk w ⟨x0, x1⟩
    · match i, hu with
      | 0, hu => obtain rfl := Option.some.inj hu; exact c0
      | 1, hu => obtain rfl := Option.some.inj hu; exact c1
set_option maxRecDepth 100000 in
theorem lifted (os : Os) (started : os.Started) (H : Type) (enc : TypeId × Value → H) :
    ReturnsInHanded {} Try.checked os 3 .any (Rows.advEncodesSpec.pre6 enc Try.prog Try.f3 Rows.advEncodesRow.domain false) (Rows.advEncodesSpec.post enc Try.prog Try.f3 false true false false) := by
  refine returnsInHanded_of_change_sized (C := Try.checked) own started (by kernel_rfl) Try.func3
    (ChangeSpec.witness6 (enc := enc) (C := Try.checked) false ⟨#[], #[.agg #[.int .i64 0, .int .i64 0, .int .i64 0, .slice none 0 0], .agg #[.int .i64 0, .int .i64 0, .int .i64 0, .slice none 0 0]], []⟩ 8 (by kernel_rfl) (by kernel_rfl) (by kernel_rfl) (by kernel_rfl)) ?_
  intro W base args ds gs before hval0 hW hcnd hsz0 _
  have hval : ∀ (j : Nat) t v, Try.f3.params[j]? = some t → args[j]? = some v → Value.okWide Try.prog W .any base t v := hval0
  have hW' := hW
  obtain ⟨p, q, hA0, hV, rfl, hfz, hnd⟩ := hW
  have hA : DataW.TrodAll enc Try.prog W 0 (fun _ => true) true Try.f3.params.toList args.toList ds p := hA0
  rw [Try.params3] at hA hval
  obtain ⟨v0, vs0, d0, ds0, p0, q0, hargs, rfl, rfl, h0, r0⟩ := trodAll_cons hA
  obtain ⟨v1, vs1, d1, ds1, p1, q1, rfl, rfl, rfl, h1, r1⟩ := trodAll_cons r0
  obtain ⟨rfl, rfl, rfl⟩ := trodAll_nil r1
  obtain rfl : args = #[v0, v1] := by cases args; simp_all
  obtain ⟨rfl, rfl⟩ := trodVars_none hV
  have hlt0 : ∀ x ∈ p0, x.block < W.heap.size := fun x hx => hW'.lt x (by simp [hx])
  have hlt1 : ∀ x ∈ p1, x.block < W.heap.size := fun x hx => hW'.lt x (by simp [hx])
  obtain ⟨a0, a1, a2, A, c, L, rfl, hL, hc⟩ := open_adv (hval 0 24 v0 rfl rfl) h0
  obtain ⟨b0, b1, b2, B, d, M, rfl, hM, hd⟩ := open_adv (hval 1 24 v1 rfl rfl) h1
  clear hA0 hval0 hsz0
  refine Calls.mono (La.law_calls a0 a1 a2 A c L b0 b1 b2 B d M W hL hc hM hd) fun e W' ⟨he, bel⟩ => ?_
  subst he
  exact ⟨_, rfl, _, _, _, [], _, [], hW', trodAll_mk1 (shut_bool Try.underlying4 _), (trodAll_cons_mk (Below.trod laid (by kernel_rfl) (of_decide_eq_true (by kernel_rfl)) h0 bel hlt0) (trodAll_cons_mk (Below.trod laid (by kernel_rfl) (of_decide_eq_true (by kernel_rfl)) h1 bel hlt1) trodAll_mk0)), rfl, bel.frame _, fun h => by cases h⟩
theorem over : Rows.advEncodesRow.holds Try.pinned (OpenSpec.ofChange Rows.advEncodesSpec) :=
  OpenClaim.holds_of_wide 3 Try.f3 rfl rfl rfl rfl rfl rfl rfl ⟨rfl, rfl, rfl, rfl, rfl⟩ rfl rfl rfl rfl rfl (by kernel_rfl) Try.func3 (by kernel_rfl)
    (of_decide_eq_true (by kernel_rfl)) (by unfold Func.isWrapper; first | (rw [if_pos (by decide +kernel)]; kernel_rfl) | (rw [if_neg (by decide +kernel)]; exact ⟨rfl, rfl⟩))
    (fun os started H enc _ => lifted os started H enc)
theorem proved : Rows.AdvEncodesSaid := over
end Go.Proofs.Ytbdcaadehfbnbaa.lawAdvEncodes
namespace Go.Proofs.Ytbdcaadehfbnbaa
/-- The row. -/
theorem advEncodes_holds : Rows.AdvEncodesSaid := lawAdvEncodes.proved
end Go.Proofs.Ytbdcaadehfbnbaa
