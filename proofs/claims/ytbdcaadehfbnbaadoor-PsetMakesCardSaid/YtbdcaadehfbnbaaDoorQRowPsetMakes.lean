/-
PsetMakes returns true for every list of prefixes and every two addresses. Condition: the row's table of the library holds what the library's text lays; the card ties that.
-/
import Derived.Test.YtbdcaadehfbnbaaDoorRows
import Derived.Test.YtbdcaadehfbnbaaDoorCards
import Derived.Test.YtbdcaadehfbnbaaDoorTie
import Derived.Test.YtbdcaadehfbnbaaDoorQPm
import Derived.Test.YtbdcaadehfbnbaaDoorQRk
import Derived.WalkKit
import Derived.ProofKit
import Derived.OpenShut
import Derived.ChangeOld
import Derived.Below
import Derived.Carry
import Derived.SizedLaws
import Derived.Lib.SmallJoins
import Derived.LaidMore
import Derived.Lay
import Derived.SevenTiedAt
import Derived.Stop.Joined
import Derived.ShapedOpen
import Derived.Shelf.Vars
import Derived.Lib.LaidTab
import Derived.Deep.SlicePairs
namespace Go.Proofs.YtbdcaadehfbnbaaDoor.lawPsetMakes
open Go.Proofs.YtbdcaadehfbnbaaDoorW.PrintWords Go.Proofs.YtbdcaadehfbnbaaDoor.GPsetMakes
open Go.ChangeShapes Go.WideShapes Go.ChangeAt Go.RowKit Go.Joins Go.Deep
set_option linter.unusedVariables false
theorem own : ownKnob Tryd.prog.godebug = none := by kernel_rfl
theorem laid : laidOutB Tryd.prog = true := by kernel_rfl
theorem one24 : oneCellFields Tryd.prog #[{ name := "Addr", type := 22, offset := 0, embedded := false, tag := "", pkgPath := "", byteOffset := 0 }, { name := "Bits", type := 3, offset := 1, embedded := false, tag := "", pkgPath := "", byteOffset := 8 }] = true := by kernel_rfl
theorem hmin : IntKind.u32.min = 0 := rfl
theorem hmax : IntKind.u32.max = 4294967295 := rfl
theorem in32 {x : Int} (h : (Lit.int .u32 x).wf = true) : 0 ≤ x ∧ x < 4294967296 := by
  simp only [Lit.wf, Bool.and_eq_true, hmin, hmax] at h
  have h1 : 0 ≤ x := of_decide_eq_true h.1
  have h2 : x ≤ 4294967295 := of_decide_eq_true h.2
  omega
def num : Value → Int
  | .int _ n => n
  | _ => 0
set_option maxRecDepth 100000 in
/-- a list of prefixes that comes in -/
theorem open_prefixes {H : Type} {enc : TypeId × Value → H} {w : World} {base b0 : Nat} {r : Reach} {v : Value} {d : DataW H} {p : List MemPlace}
    (hv : Value.okWide Tryd.prog w r b0 32 v) (h : DataW.Trod enc Tryd.prog w base (fun _ => true) true 32 v d p) :
    ∃ (A : Option Addr) (c : Nat) (l : List S24), v = .slice A l.length c ∧ Kd.C k24 w A l.length l ∧ l.length ≤ c ∧ ∀ q ∈ l, 0 ≤ q.f0 ∧ q.f0 < 4294967296 := by
  obtain ⟨a0, len, cap, rfl⟩ := Go.WideShapes.okWide_slice Tryd.underlying32 hv
  obtain ⟨fuel, hf⟩ := h
  have hcs : (Value.slice a0 len cap).cells.toList = [Value.slice a0 len cap] := rfl
  rw [hcs] at hf
  rcases open_slice_pairs Tryd.underlying32 Tryd.underlying24 (by kernel_rfl) rfl rfl (by kernel_rfl) (by kernel_rfl) hf with ⟨e3, _⟩ | ⟨a, len1, cap1, m, n', V0, V1, D0, D1, P0, P1, e3, _, hl, hm, hmm, _, hc⟩
  · simp only [List.cons.injEq, and_true] at e3
    injection e3 with q1 q2 q3
    subst q1; subst q2; subst q3
    exact ⟨none, 0, [], rfl, ⟨rfl, by decide, fun h => absurd h (by decide)⟩, Nat.le_refl _, fun q hq => absurd hq List.not_mem_nil⟩
  · simp only [List.cons.injEq, and_true] at e3
    injection e3 with q1 q2 q3
    cases q1; cases q2; cases q3
    have hlm : len ≤ m := by rw [hmm]; simp; exact hl
    have hlen : ((List.range len).map fun i => (⟨num (V0 i), num (V1 i)⟩ : S24)).length = len := by simp
    refine ⟨some a, cap, (List.range len).map fun i => ⟨num (V0 i), num (V1 i)⟩, by rw [hlen], ?_, by rw [hlen]; exact hl, ?_⟩
    · rw [hlen]
      refine ⟨hlen, by unfold maxLen at hm; omega, fun _ => ⟨a, rfl, fun j x hj => ?_⟩⟩
      rw [List.getElem?_map] at hj
      have hjl : j < len := by
        rcases Nat.lt_or_ge j len with g | g
        · exact g
        · rw [List.getElem?_eq_none (by simpa using g)] at hj; cases hj
      rw [List.getElem?_range hjl] at hj
      obtain rfl := Option.some.inj hj
      obtain ⟨c0, c1, g0, g1⟩ := hc j (by omega)
      obtain ⟨x0, f0, _, _⟩ := DataW.trod_int Tryd.underlying22 g0
      obtain ⟨x1, f1, _, _⟩ := DataW.trod_int Tryd.underlying3 g1
      simp only [List.cons.injEq, and_true] at f0 f1
      rw [f0] at c0
      rw [f1] at c1
      refine ⟨[.int .u32 x0, .int .i64 x1], rfl, ?_, fun i u hu => ?_⟩
      · have n0 : num (V0 j) = x0 := by rw [f0]; rfl
        have n1 : num (V1 j) = x1 := by rw [f1]; rfl
        show k24.K w ⟨num (V0 j), num (V1 j)⟩ _
        rw [n0, n1]
        exact k24_mk w ⟨x0, x1⟩
      · match i, hu with
        | 0, hu => obtain rfl := Option.some.inj hu; exact c0
        | 1, hu => obtain rfl := Option.some.inj hu; exact c1
    · intro q hq
      obtain ⟨j, hj, rfl⟩ := List.mem_map.1 hq
      have hjl : j < len := List.mem_range.1 hj
      obtain ⟨c0, c1, g0, g1⟩ := hc j (by omega)
      obtain ⟨x0, f0, _, b0⟩ := DataW.trod_int Tryd.underlying22 g0
      simp only [List.cons.injEq, and_true] at f0
      have n0 : num (V0 j) = x0 := by rw [f0]; rfl
      show 0 ≤ num (V0 j) ∧ num (V0 j) < _
      rw [n0]
      exact in32 b0
set_option maxRecDepth 100000 in
theorem ok_of {W : World} (hL : laidMetH Tryd.prog Rows.psetMakesRow.laid W) : Tz.Ok W := by
  rw [MakeChecks.laidMetH_plain _ _ _ (by kernel_rfl)] at hL
  have hg : Tryd.prog.globalNamed "math/bits.deBruijn64tab" = some 0 := by kernel_rfl
  have h : Lib.TabIs Tryd.prog W "math/bits.deBruijn64tab" .u8 (Lib.deBruijn64tab.map Int.ofNat) := Lib.tabIs_of_head (g := 0) hg (by kernel_rfl) Tryd.underlying114 Tryd.underlying5 (by kernel_rfl) (by kernel_rfl) hL
  intro j hj
  have e := World.var?_cell hg h j
  rw [e, List.getElem?_toArray, List.getElem?_map, List.getElem?_map, List.getElem?_eq_getElem hj, List.getD_eq_getElem?_getD, List.getElem?_eq_getElem hj]
  rfl
set_option maxRecDepth 100000 in
theorem lifted (os : Os) (started : os.Started) (H : Type) (enc : TypeId × Value → H) :
    ReturnsInHanded {} Tryd.checked os 4 .any (fun w args => (Rows.psetMakesSpec.pre enc Tryd.prog Tryd.f4 Rows.psetMakesRow.domain false w args ∧ laidMetH Tryd.prog Rows.psetMakesRow.laid w) ∧ sizedMet enc Tryd.prog Tryd.f4 (OpenSpec.ofChange Rows.psetMakesSpec) false w args)
      (Rows.psetMakesSpec.post enc Tryd.prog Tryd.f4 false true false false) := by
  refine Rk.handed (C := Tryd.checked) (X := fun w _ => laidMetH Tryd.prog Rows.psetMakesRow.laid w) (fun _ _ _ hh h => h.of_heap hh) own started (by kernel_rfl) Tryd.func4
    (ChangeSpec.witness_shaped (enc := enc) (C := Tryd.checked) (os := os) (X := fun w _ => laidMetH Tryd.prog Rows.psetMakesRow.laid w) false (World.laidAll Tryd.prog os Rows.psetMakesRow.laid) #[.slice none 0 0, .int .u32 0, .int .u32 0] 8 (World.laidAll_os _ _ _)
      (World.shaped_of_ZipB (by kernel_rfl) (by kernel_rfl)) (by kernel_rfl) (by kernel_rfl) (by kernel_rfl)
      (by rw [MakeChecks.laidMetH_plain _ _ _ (by kernel_rfl)]; exact laidMet_laidAll _ (by kernel_rfl) (by kernel_rfl))) ?_
  intro W base args ds gs before hval0 hW hL hsh
  have hval : ∀ (j : Nat) t v, Tryd.f4.params[j]? = some t → args[j]? = some v → Value.okWide Tryd.prog W .any base t v := hval0
  have hW' := hW
  obtain ⟨p, q, hA0, hV, rfl, hfz, hnd⟩ := hW
  have hA : DataW.TrodAll enc Tryd.prog W 0 (fun _ => true) true Tryd.f4.params.toList args.toList ds p := hA0
  rw [Tryd.params4] at hA hval
  obtain ⟨v0, vs0, d0, ds0, p0, q0, hargs, rfl, rfl, h0, r0⟩ := trodAll_cons hA
  obtain ⟨v1, vs1, d1, ds1, p1, q1, rfl, rfl, rfl, h1, r1⟩ := trodAll_cons r0
  obtain ⟨v2, vs2, d2, ds2, p2, q2, rfl, rfl, rfl, h2, r2⟩ := trodAll_cons r1
  obtain ⟨rfl, rfl, rfl⟩ := trodAll_nil r2
  obtain rfl : args = #[v0, v1, v2] := by cases args; simp_all
  obtain ⟨rfl, rfl⟩ := trodVars_none hV
  have hlt0 : ∀ x ∈ p0, x.block < W.heap.size := fun x hx => hW'.lt x (by simp [hx])
  obtain ⟨A, c, l, rfl, hC, hc, hR⟩ := open_prefixes (hval 0 32 v0 rfl rfl) h0
  obtain ⟨a, rfl, rfl, rfl, wa⟩ := open_int Tryd.underlying22 (hval 1 22 v1 rfl rfl) h1
  obtain ⟨b, rfl, rfl, rfl, wb⟩ := open_int Tryd.underlying22 (hval 2 22 v2 rfl rfl) h2
  clear hA0 hval0
  refine Calls.mono (Pm.law_calls A c l a b W (ok_of hL) hC hc hR (in32 wa).1 (in32 wa).2 (in32 wb).1 (in32 wb).2) fun e W' ⟨he, bel⟩ => ?_
  subst he
  exact ⟨_, rfl, _, _, _, [], _, [], hW', trodAll_mk1 (shut_bool Tryd.underlying4 _), (trodAll_cons_mk (Below.trod laid (by kernel_rfl) (of_decide_eq_true (by kernel_rfl)) h0 bel hlt0) (trodAll_cons_mk (shut_int Tryd.underlying22 wa) (trodAll_cons_mk (shut_int Tryd.underlying22 wb) trodAll_mk0))), rfl, bel.frame _, fun h => by cases h⟩
theorem holds : Rows.PsetMakesSaid :=
  OpenClaim.holds_of_wide 4 Tryd.f4 rfl rfl rfl rfl rfl rfl rfl ⟨rfl, rfl, rfl, rfl, rfl⟩ rfl rfl rfl rfl rfl (by kernel_rfl) Tryd.func4 (by kernel_rfl)
    (of_decide_eq_true (by kernel_rfl)) (by unfold Func.isWrapper; first | (rw [if_pos (by decide +kernel)]; kernel_rfl) | (rw [if_neg (by decide +kernel)]; exact ⟨rfl, rfl⟩))
    (fun os started H enc _ => lifted os started H enc)
theorem card : Rows.PsetMakesCardSaid :=
  Claim7.holds_tied_plain_at .later [] [.data] true (true, "430b3ed0d4b62ea8f16051ce3310d3f3935a7cfcc00c65fb6c680f0a82dbdf94") true holds (fun _ h => by cases h) (by kernel_rfl) (fun _ h => by cases h) psetMakes_row_tie rfl ⟨rfl, rfl⟩ (by kernel_rfl) rfl
    (fun f fn hf hfn => by
      obtain rfl : f = 4 := Option.some.inj ((show Tryd.prog.funcNamed "patchbay/patchbaylaw2.PsetMakes" = some 4 by kernel_rfl).symm.trans hf) |>.symm
      obtain rfl : fn = Tryd.f4 := (Option.some.inj (Tryd.func4.symm.trans hfn)).symm
      exact ⟨by kernel_rfl, fun j t ht => by
        rw [Tryd.params4] at ht
        have hm : t ∈ [32, 22, 22] := by simpa using Array.mem_of_getElem? ht
        have hall : ([32, 22, 22].all fun u => !Tryd.prog.wantsStandIn u) = true := by kernel_rfl
        exact (show Tryd.prog.wantsStandIn t = false by simpa using List.all_eq_true.1 hall t hm)⟩)
    (by kernel_rfl)
end Go.Proofs.YtbdcaadehfbnbaaDoor.lawPsetMakes
namespace Go.Proofs.YtbdcaadehfbnbaaDoor
/-- The card. -/
theorem psetMakes_holds : Rows.PsetMakesCardSaid := lawPsetMakes.card
end Go.Proofs.YtbdcaadehfbnbaaDoor
