/- number reads one to three digits. -/
import Derived.Test.YtbdcaadehfbnbaaDoorProg
import Derived.Test.YtbdcaadehfbnbaaDoorQFit
import Derived.Below
import Derived.Deep.Draws
import Derived.Deep.AppendLies
import Derived.Maps.AppendAt
import Derived.OwnWalk
import Derived.Laws.BytesArg
import Derived.Laws.MakeOwn
import Derived.Laws.OwnMore
import Derived.Deep.OwnRows
import Derived.Tactics
import Derived.Lib.ConvBytes
import Derived.Laws.Slices
import Derived.WalkKit
import Derived.KernelRfl
import Derived.RowKit3
import Derived.Deep.LoopGhost
import Derived.Deep.QuietTactic
import Derived.BigQuiet
import Derived.WideLaws
import Derived.Deep.DeepCutAuto
import Derived.Deep.CutBlock
import Derived.Deep.RegionHeld3
import Derived.Laws.Rows
import Derived.Lib.AppendStr
import Derived.ArgAppend
import Derived.Laws.IdiomCopy
import Derived.OrdersHeld
import Derived.Laws.BitsLemmas
import Derived.RowKit
import Derived.Test.YtbdcaadehfbnbaaDoorWWords
import Derived.Test.YtbdcaadehfbnbaaDoorWLast
import Derived.Test.YtbdcaadehfbnbaaDoorWTab
import Derived.Test.YtbdcaadehfbnbaaDoorWFour
import Derived.Test.YtbdcaadehfbnbaaDoorWQPut
import Derived.Test.YtbdcaadehfbnbaaDoorWApart
import Derived.Test.YtbdcaadehfbnbaaDoorWArr
import Derived.Test.YtbdcaadehfbnbaaDoorWZeros
import Derived.Test.YtbdcaadehfbnbaaDoorWFoot
import Derived.Test.YtbdcaadehfbnbaaDoorWKept
import Derived.Test.YtbdcaadehfbnbaaDoorWShare
import Derived.Test.YtbdcaadehfbnbaaDoorWN
import Derived.Test.YtbdcaadehfbnbaaDoorWFootNe
import Derived.Test.YtbdcaadehfbnbaaDoorWAt
import Derived.Test.YtbdcaadehfbnbaaDoorWEqStruct
import Derived.Test.YtbdcaadehfbnbaaDoorWRepsOne
import Derived.Test.YtbdcaadehfbnbaaDoorWInv
import Derived.Test.YtbdcaadehfbnbaaDoorWInvWords
import Derived.Test.YtbdcaadehfbnbaaDoorWGuard
import Derived.Test.YtbdcaadehfbnbaaDoorWNEv
import Derived.Test.YtbdcaadehfbnbaaDoorWMore
namespace Go.Proofs.YtbdcaadehfbnbaaDoor.Nb
open Go Go.RowKit Go.Proofs.YtbdcaadehfbnbaaDoorW.PrintWords
set_option linter.unusedSimpArgs false
set_option linter.unusedVariables false
theorem below_bytes {w wc : World} (h : Below w.heap.size w wc) (s : ByteArray) : Below w.heap.size w (Lib.bytesWorld wc 5 s) :=
  below_then h h.size ⟨rfl, rfl, rfl, by rw [Lib.bytesWorld_size]; omega, fun i hi => Lib.bytesWorld_at_old wc 5 s i hi⟩
theorem bytes_cell (wc : World) (s : ByteArray) (j : Nat) (hj : j < s.size) : (Lib.bytesWorld wc 5 s).cell? ⟨wc.heap.size, j, none⟩ = some (.int .u8 (bt s (j : Int))) := by
  rw [Lib.bytesWorld_cell wc 5 s j hj]
  unfold bt
  rw [dif_pos (by rw [Int.toNat_natCast]; exact hj)]
  simp [List.getD, Array.getElem?_eq_getElem, hj]
  rfl
theorem cells_on {w : World} {g n : Nat} {f : Nat → Value} (h : ∀ j : Nat, j < n → w.cell? ⟨g, j, none⟩ = some (f j)) : ∀ j : Nat, j < n → w.cell? ⟨g, j, none⟩ = some (f j) := h
end Go.Proofs.YtbdcaadehfbnbaaDoor.Nb
namespace Go.Proofs.YtbdcaadehfbnbaaDoor.Nf
open Go.RowKit Go.Proofs.YtbdcaadehfbnbaaDoorW.PrintWords Go.Proofs.YtbdcaadehfbnbaaDoorW.PrintLast Go.Proofs.YtbdcaadehfbnbaaDoorW.PrintMore
attribute [local go_sem] max2_int min2_int max_two min_two max_three min_three max_four min_four   -- for this text's walks alone
attribute [local go_sem high] Go.Proofs.YtbdcaadehfbnbaaDoor.Fit.run_string_add_fit
set_option linter.unusedVariables false
set_option linter.unusedSimpArgs false

-- NOT PRINTED: function 81 (utf8_RuneCountInString)

-- NOT PRINTED: function 82 (bytealg_CountString)

-- NOT PRINTED: function 95 (bytealg_IndexByteString)

-- NOT PRINTED: function 84 (stringslite_IndexByte)

-- NOT PRINTED: function 111 (bytealg_IndexString)

/-! ### addr_number: function 62 -/
mutual
def addr_number.j0 : Nat → ByteArray → Bool → Option (Int × Bool)
 | 0, _, _ => none
 | k + 1, x0, x23 => if x23 = true then (some (0, false)) else (addr_number.l0 k 0 x0 (x0.size : Int) 0)
def addr_number.l0 : Nat → Int → ByteArray → Int → Int → Option (Int × Bool)
 | 0, _, _, _, _ => none
 | k + 1, x4, x25, x26, x27 => if x27 < x26 then (if 0 ≤ x27 then (if x27 < (x25.size : Int) then (if (bt x25 x27) < 48 then (some (0, false)) else (if (bt x25 x27) > 57 then (some (0, false)) else (addr_number.l0 k (wrap64 ((wrap64 (10 * x4)) + (((bt x25 x27) - 48) % 256))) x25 x26 (wrap64 (x27 + 1))))) else (none)) else (none)) else (some (x4, true))
end
def addr_number.f (k : Nat) (a0 : ByteArray) : Option (Int × Bool) := if a0.toList = ([] : List UInt8) then (addr_number.j0 k a0 true) else (if (a0.size : Int) > 3 then (addr_number.j0 k a0 true) else (if (a0.size : Int) > 1 then (if 0 < (a0.size : Int) then (addr_number.j0 k a0 ((bt a0 0) == 48)) else (none)) else (addr_number.j0 k a0 false)))
theorem addr_number.mono_l : ∀ k, (∀ y0 y1, LeO (addr_number.j0 k y0 y1) (addr_number.j0 (k + 1) y0 y1)) ∧ (∀ y0 y1 y2 y3, LeO (addr_number.l0 k y0 y1 y2 y3) (addr_number.l0 (k + 1) y0 y1 y2 y3))
 | 0 => ⟨fun _ _ r h => by simp [addr_number.j0] at h, fun _ _ _ _ r h => by simp [addr_number.l0] at h⟩
 | k + 1 => by
  obtain ⟨ih0, ih1⟩ := addr_number.mono_l k
  refine ⟨?_, ?_⟩
  ·intro y0 y1
   unfold addr_number.j0
   repeat' first
   | (with_reducible exact ih0 _ _)
   | (with_reducible exact ih1 _ _ _ _)
   | (with_reducible exact LeO.refl _)
   | (with_reducible exact LeO.none _)
   | (with_reducible refine LeO.ite ?_ ?_)
   | (with_reducible refine LeO.bind ?_ (fun _ => ?_))
   | exact ih0 _ _
   | exact ih1 _ _ _ _
   | exact LeO.none _
   | refine LeO.ite ?_ ?_
   | refine LeO.bind ?_ (fun _ => ?_)
  ·intro y0 y1 y2 y3
   unfold addr_number.l0
   repeat' first
   | (with_reducible exact ih0 _ _)
   | (with_reducible exact ih1 _ _ _ _)
   | (with_reducible exact LeO.refl _)
   | (with_reducible exact LeO.none _)
   | (with_reducible refine LeO.ite ?_ ?_)
   | (with_reducible refine LeO.bind ?_ (fun _ => ?_))
   | exact ih0 _ _
   | exact ih1 _ _ _ _
   | exact LeO.none _
   | refine LeO.ite ?_ ?_
   | refine LeO.bind ?_ (fun _ => ?_)
theorem addr_number.mono : ∀ a0 k, LeO (addr_number.f k a0) (addr_number.f (k + 1) a0) := by
 intro a0 k
 obtain ⟨ih0, ih1⟩ := addr_number.mono_l k
 unfold addr_number.f
 repeat' first
   | (with_reducible exact ih0 _ _)
   | (with_reducible exact ih1 _ _ _ _)
   | (with_reducible exact LeO.refl _)
   | (with_reducible exact LeO.none _)
   | (with_reducible refine LeO.ite ?_ ?_)
   | (with_reducible refine LeO.bind ?_ (fun _ => ?_))
   | exact ih0 _ _
   | exact ih1 _ _ _ _
   | exact LeO.none _
   | refine LeO.ite ?_ ?_
   | refine LeO.bind ?_ (fun _ => ?_)
set_option maxHeartbeats 8000000 in
set_option maxRecDepth 100000 in
theorem addr_number.calls (k : Nat) (a0 : ByteArray) (r1 : Int) (r2 : Bool) (w : World) (h : addr_number.f k a0 = some (r1, r2)) :
  Calls Tryd.prog 62 #[.string a0] w fun e w' => e = .returned (.tuple #[.int .i64 r1, .bool r2]) ∧ Below w.heap.size w w' := by
 have HB := Aside0.mk (Below.refl w.heap.size w)
 have H : (if a0.toList = ([] : List UInt8) then (addr_number.j0 k a0 true) else (if (a0.size : Int) > 3 then (addr_number.j0 k a0 true) else (if (a0.size : Int) > 1 then (if 0 < (a0.size : Int) then (addr_number.j0 k a0 ((bt a0 0) == 48)) else (none)) else (addr_number.j0 k a0 false)))) = some (r1, r2) := h
 clear h
 have HC2 := Aside0.mk H
 clear H
 go_enter Tryd.func62, Tryd.ntmps62
 go_upto_region 1 with (fail)
 go_cut [23] (fun v23 wc => ∃ (kq : Nat) (x23_1 : Bool), v23 = .bool x23_1 ∧ Aside0 (addr_number.j0 kq a0 x23_1 = some (r1, r2)) ∧ Aside0 (kq ≤ k) ∧ Aside0 (Below w.heap.size w wc))
 case first =>
  have H := HC2.out
  clear HC2
  by_cases c3 : a0.toList = ([] : List UInt8)
  ·rw [if_pos c3] at H
   have c3b0 : (a0.toList == ([] : List UInt8)) = true := beq_iff_eq.mpr c3
   have c3b1 : (a0.toList != ([] : List UInt8)) = false := bne_eq_false_iff_eq.mpr c3
   clear c3
   (first | rw [c3b0] | (simp only [i64_w, i32_w]; rw [c3b0]) | skip)
   have H' := Aside0.mk H
   clear H
   go_wp2
   go_meet
   case rel => exact ⟨_, (true), (by first | rfl | (simp; done) | (simp [*]; done)), H', ⟨by first | omega | exact Nat.le_refl _⟩, ⟨Fit.bl HB.out⟩⟩
  ·rw [if_neg c3] at H
   have c3b0 : (a0.toList == ([] : List UInt8)) = false := beq_eq_false_iff_ne.mpr c3
   have c3b1 : (a0.toList != ([] : List UInt8)) = true := bne_iff_ne.mpr c3
   (first | rw [c3b0] | (simp only [i64_w, i32_w]; rw [c3b0]) | skip)
   by_cases c4 : (a0.size : Int) > 3
   ·rw [if_pos c4] at H
    have c4b0 : decide (3 < (a0.size : Int)) = true := decide_eq_true c4
    have c4b1 : decide (3 < a0.size) = true := decide_eq_true (by omega)
    clear c4
    have H' := Aside0.mk H
    clear H
    go_wp2
    go_meet
    case rel => exact ⟨_, (true), (by first | rfl | (simp; done) | (simp [*]; done)), H', ⟨by first | omega | exact Nat.le_refl _⟩, ⟨Fit.bl HB.out⟩⟩
   ·rw [if_neg c4] at H
    have c4b0 : decide (3 < (a0.size : Int)) = false := decide_eq_false c4
    have c4b1 : decide (3 < a0.size) = false := decide_eq_false (by omega)
    clear c4
    by_cases c5 : (a0.size : Int) > 1
    ·rw [if_pos c5] at H
     have c5b0 : decide (1 < (a0.size : Int)) = true := decide_eq_true c5
     have c5b1 : decide (1 < a0.size) = true := decide_eq_true (by omega)
     clear c5
     by_cases c6 : 0 < (a0.size : Int)
     ·rw [if_pos c6] at H
      have c6b0 : decide (0 < (a0.size : Int)) = true := decide_eq_true c6
      have c6b1 : decide (0 < a0.size) = true := decide_eq_true (by omega)
      clear c6
      have H' := Aside0.mk H
      clear H
      have p7 : 0 ≤ (0 : Int) := (by omega)
      have q7 : 0 < a0.size := (by have : (0 : Int) < (a0.size : Int) := of_decide_eq_true (by first | (with_reducible assumption) | assumption); omega)
      have hx7 : ∀ h : 0 < a0.size, ((a0[0]'h).toNat : Int) = bt a0 0 := bt_at a0 0
      clear p7
      have qi7 : (0 < (a0.size : Int)) = True := eq_true (of_decide_eq_true (by first | (with_reducible assumption) | assumption))
      replace q7 := eq_true q7
      go_wp2
      go_meet
      case rel => exact ⟨_, (((bt a0 0) == 48)), (by first | rfl | (simp; done) | (simp [*]; done)), H', ⟨by first | omega | exact Nat.le_refl _⟩, ⟨Fit.bl HB.out⟩⟩
     ·rw [if_neg c6] at H
      exact absurd H (by simp)
    ·rw [if_neg c5] at H
     have c5b0 : decide (1 < (a0.size : Int)) = false := decide_eq_false c5
     have c5b1 : decide (1 < a0.size) = false := decide_eq_false (by omega)
     clear c5
     have H' := Aside0.mk H
     clear H
     go_wp2
     go_meet
     case rel => exact ⟨_, (false), (by first | rfl | (simp; done) | (simp [*]; done)), H', ⟨by first | omega | exact Nat.le_refl _⟩, ⟨Fit.bl HB.out⟩⟩
 case rest =>
  clear HC2
  try clear p2
  try clear c3
  try clear c3b0
  try clear c3b1
  try clear c4
  try clear c4b0
  try clear c4b1
  try clear c5
  try clear c5b0
  try clear c5b1
  try clear c6
  try clear c6b0
  try clear c6b1
  try clear p7
  try clear q7
  try clear hx7
  try clear qi7
  try clear p7
  try clear q7
  obtain ⟨kq, x23_1, rfl, HA, HJ1, HB⟩ := hcut
  cases kq with
  | zero => exact absurd HA.out (by simp [addr_number.j0])
  | succ kj1 =>
   have H := HA.out
   clear HA
   simp only [addr_number.j0] at H
   by_cases c8 : x23_1 = true
   ·subst c8
    have H1 : (some (0, false)) = some (r1, r2) := by rw [if_pos rfl] at H; exact H
    clear H
    have H := H1
    clear H1
    simp only [Option.some.injEq, Prod.mk.injEq] at H
    obtain ⟨rfl, rfl⟩ := H
    go_wp2
    go_ret2
    exact ⟨rfl, Fit.bl HB.out⟩
   ·replace c8 := Bool.eq_false_iff.mpr c8
    subst c8
    have H1 : (addr_number.l0 kj1 0 a0 (a0.size : Int) 0) = some (r1, r2) := by rw [if_neg (show ¬ (false = true) by decide)] at H; exact H
    clear H
    have H := H1
    clear H1
    have H' := Aside0.mk H
    clear H
    have hcv := fun W : World => Lib.run_convert_string_bytes (P := Tryd.prog) W 9 101 5 a0 Tryd.underlying9 Tryd.underlying101 Tryd.underlying5
    go_wp2
    clear hcv
    have hz : wc.heap.size ≤ (Lib.bytesWorld wc 5 a0).heap.size := by rw [Lib.bytesWorld_size]; omega
    have n0_ : Aside0 (Below w.heap.size w (Lib.bytesWorld wc 5 a0)) := ⟨Nb.below_bytes HB.out a0⟩
    have HBy : Aside0 (∀ j : Nat, j < a0.size → (Lib.bytesWorld wc 5 a0).cell? ⟨wc.heap.size, j, none⟩ = some (.int .u8 (bt a0 (j : Int)))) := ⟨Nb.bytes_cell wc a0⟩
    clear HB hz
    have HB := n0_
    clear n0_
    generalize Lib.bytesWorld wc 5 a0 = wb at HB HBy ⊢
    generalize wc.heap.size = gby at HBy ⊢
    go_loopg [4, 27] kj1 (fun kq v4 v27 w' => ∃ (x4_2 : Int) (x27_2 : Int), v4 = .int .i64 x4_2 ∧ v27 = .int .i64 x27_2 ∧ Aside0 (addr_number.l0 kq x4_2 a0 (a0.size : Int) x27_2 = some (r1, r2)) ∧ Aside0 (kq ≤ kj1) ∧ Aside0 (∀ j : Nat, j < a0.size → w'.cell? ⟨gby, j, none⟩ = some (.int .u8 (bt a0 (j : Int)))) ∧ Aside0 (Below w.heap.size w w'))
    case atStart => exact ⟨(0), (0), (by first | rfl | (simp; done) | (simp [*]; done)), (by first | rfl | (simp; done) | (simp [*]; done)), H', ⟨Nat.le_refl _⟩, HBy, ⟨Fit.bl HB.out⟩⟩
    case round =>
     clear HBy
     clear H'
     try clear p2
     try clear c3
     try clear c3b0
     try clear c3b1
     try clear c4
     try clear c4b0
     try clear c4b1
     try clear c5
     try clear c5b0
     try clear c5b1
     try clear c6
     try clear c6b0
     try clear c6b1
     try clear p7
     try clear q7
     try clear hx7
     try clear qi7
     try clear c8
     try clear p2
     try clear p7
     try clear q7
     obtain ⟨x4_2, x27_2, rfl, rfl, HA, HK2, HBy, HB⟩ := hrel
     cases gk with
     | zero => exact absurd HA.out (by simp [addr_number.l0])
     | succ k2 =>
      have H := HA.out
      clear HA
      simp only [addr_number.l0] at H
      by_cases c9 : x27_2 < (a0.size : Int)
      ·rw [if_pos c9] at H
       have c9b0 : decide (x27_2 < (a0.size : Int)) = true := decide_eq_true c9
       clear c9
       by_cases c10 : 0 ≤ x27_2
       ·rw [if_pos c10] at H
        have c10b0 : decide (0 ≤ x27_2) = true := decide_eq_true c10
        clear c10
        by_cases c11 : x27_2 < (a0.size : Int)
        ·rw [if_pos c11] at H
         have c11b0 : decide (x27_2 < (a0.size : Int)) = true := decide_eq_true c11
         clear c11
         by_cases c13 : (bt a0 x27_2) < 48
         ·rw [if_pos c13] at H
          have c13b0 : decide ((bt a0 x27_2) < 48) = true := decide_eq_true c13
          clear c13
          simp only [Option.some.injEq, Prod.mk.injEq] at H
          obtain ⟨rfl, rfl⟩ := H
          have p12 : 0 ≤ (x27_2 : Int) := of_decide_eq_true (by first | (with_reducible assumption) | assumption)
          have q12 : x27_2 < (a0.size : Int) := of_decide_eq_true (by first | (with_reducible assumption) | assumption)
          obtain ⟨n27, hn27⟩ := Int.eq_ofNat_of_zero_le p12
          subst hn27
          have hcl := HBy.out n27 (by omega)
          replace p12 := eq_true p12
          replace q12 := eq_true q12
          go_wp2
          go_ret2
          exact ⟨rfl, Fit.bl HB.out⟩
         ·rw [if_neg c13] at H
          have c13b0 : decide ((bt a0 x27_2) < 48) = false := decide_eq_false c13
          clear c13
          by_cases c14 : (bt a0 x27_2) > 57
          ·rw [if_pos c14] at H
           have c14b0 : decide (57 < (bt a0 x27_2)) = true := decide_eq_true c14
           clear c14
           simp only [Option.some.injEq, Prod.mk.injEq] at H
           obtain ⟨rfl, rfl⟩ := H
           have p12 : 0 ≤ (x27_2 : Int) := of_decide_eq_true (by first | (with_reducible assumption) | assumption)
           have q12 : x27_2 < (a0.size : Int) := of_decide_eq_true (by first | (with_reducible assumption) | assumption)
           obtain ⟨n27, hn27⟩ := Int.eq_ofNat_of_zero_le p12
           subst hn27
           have hcl := HBy.out n27 (by omega)
           replace p12 := eq_true p12
           replace q12 := eq_true q12
           go_wp2
           go_ret2
           exact ⟨rfl, Fit.bl HB.out⟩
          ·rw [if_neg c14] at H
           have c14b0 : decide (57 < (bt a0 x27_2)) = false := decide_eq_false c14
           clear c14
           have H' := Aside0.mk H
           clear H
           have p12 : 0 ≤ (x27_2 : Int) := of_decide_eq_true (by first | (with_reducible assumption) | assumption)
           have q12 : x27_2 < (a0.size : Int) := of_decide_eq_true (by first | (with_reducible assumption) | assumption)
           obtain ⟨n27, hn27⟩ := Int.eq_ofNat_of_zero_le p12
           subst hn27
           have hcl := HBy.out n27 (by omega)
           replace p12 := eq_true p12
           replace q12 := eq_true q12
           go_wp2
           go_roundg k2
           case measure => have := HJ1.out; have := HK2.out; omega
           case rel => exact ⟨(wrap64 ((wrap64 (10 * x4_2)) + (((bt a0 (n27 : Int)) - 48) % 256))), (wrap64 ((n27 : Int) + 1)), (by first | rfl | (simp; done) | (simp [*]; done)), (by first | rfl | (simp; done) | (simp [*]; done)), H', ⟨by have := HJ1.out; have := HK2.out; omega⟩, ⟨Nb.cells_on HBy.out⟩, ⟨Fit.bl HB.out⟩⟩
        ·rw [if_neg c11] at H
         exact absurd H (by simp)
       ·rw [if_neg c10] at H
        exact absurd H (by simp)
      ·rw [if_neg c9] at H
       have c9b0 : decide (x27_2 < (a0.size : Int)) = false := decide_eq_false c9
       clear c9
       simp only [Option.some.injEq, Prod.mk.injEq] at H
       obtain ⟨rfl, rfl⟩ := H
       go_wp2
       go_ret2
       exact ⟨rfl, Fit.bl HB.out⟩

end Go.Proofs.YtbdcaadehfbnbaaDoor.Nf
