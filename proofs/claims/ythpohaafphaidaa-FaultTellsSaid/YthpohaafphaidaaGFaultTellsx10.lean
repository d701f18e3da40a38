-- a text that a program of this session wrote
import Derived.Test.YthpohaafphaidaaGFaultTellsx0
import Derived.Test.YthpohaafphaidaaGFaultTellsx8
namespace Go.Proofs.Ythpohaafphaidaa.GFaultTells
open Go.RowKit Go.Proofs.YthpohaafphaidaaW.PrintWords Go.Proofs.YthpohaafphaidaaW.PrintLast Go.Proofs.YthpohaafphaidaaW.PrintMore
attribute [local go_sem] max2_int min2_int max_two min_two max_three min_three max_four min_four   -- for this text's walks alone
attribute [local go_sem high] Go.Proofs.Ythpohaafphaidaa.Fit.run_string_add_fit
set_option linter.unusedVariables false
set_option linter.unusedSimpArgs false

/-! ### patchbayref2_PacketHead: function 44 -/
mutual
def patchbayref2_PacketHead.j0 : Nat → Int → Int → Int → Int → Int → Int → Int → Int → Bool → Bool → ByteArray → Option (ByteArray)
 | 0, _, _, _, _, _, _, _, _, _, _, _ => none
 | k + 1, x1, x5, x201000, x201001, x201002, x201003, x201004, x201005, x201006, x201007, x201008 => if x201007 = true then (patchbayref2_PacketHead.j1 k x1 (wrap64 (x5 + 16384)) x201000 x201001 x201002 x201003 x201004 x201005 x201006 x201007 x201008) else (patchbayref2_PacketHead.j1 k x1 x5 x201000 x201001 x201002 x201003 x201004 x201005 x201006 x201007 x201008)
def patchbayref2_PacketHead.j1 : Nat → Int → Int → Int → Int → Int → Int → Int → Int → Bool → Bool → ByteArray → Option (ByteArray)
 | 0, _, _, _, _, _, _, _, _, _, _, _ => none
 | k + 1, x1, x5, x201000, x201001, x201002, x201003, x201004, x201005, x201006, x201007, x201008 => (patchbayref2_Digits.f k (wrap64 (20 + (x201008.size : Int))) 2).bind fun t201 => (if (⟨#[69, 0]⟩ : ByteArray).size + t201.size ≤ 9223372036854775807 then ((patchbayref2_Digits.f k x201004 2).bind fun t202 => (if ((⟨#[69, 0]⟩ : ByteArray) ++ t201).size + t202.size ≤ 9223372036854775807 then ((patchbayref2_Digits.f k x5 2).bind fun t203 => (if (((⟨#[69, 0]⟩ : ByteArray) ++ t201) ++ t202).size + t203.size ≤ 9223372036854775807 then ((patchbayref2_Digits.f k x201003 1).bind fun t204 => (if ((((⟨#[69, 0]⟩ : ByteArray) ++ t201) ++ t202) ++ t203).size + t204.size ≤ 9223372036854775807 then ((patchbayref2_Digits.f k x201002 1).bind fun t205 => (if (((((⟨#[69, 0]⟩ : ByteArray) ++ t201) ++ t202) ++ t203) ++ t204).size + t205.size ≤ 9223372036854775807 then ((patchbayref2_Digits.f k x1 2).bind fun t206 => (if ((((((⟨#[69, 0]⟩ : ByteArray) ++ t201) ++ t202) ++ t203) ++ t204) ++ t205).size + t206.size ≤ 9223372036854775807 then ((patchbayref2_Digits.f k (wrap64 (x201000)) 4).bind fun t207 => (if (((((((⟨#[69, 0]⟩ : ByteArray) ++ t201) ++ t202) ++ t203) ++ t204) ++ t205) ++ t206).size + t207.size ≤ 9223372036854775807 then ((patchbayref2_Digits.f k (wrap64 (x201001)) 4).bind fun t208 => (if ((((((((⟨#[69, 0]⟩ : ByteArray) ++ t201) ++ t202) ++ t203) ++ t204) ++ t205) ++ t206) ++ t207).size + t208.size ≤ 9223372036854775807 then (some (((((((((⟨#[69, 0]⟩ : ByteArray) ++ t201) ++ t202) ++ t203) ++ t204) ++ t205) ++ t206) ++ t207) ++ t208)) else (none))) else (none))) else (none))) else (none))) else (none))) else (none))) else (none))) else (none))
end
def patchbayref2_PacketHead.f (k : Nat) (a0_0 : Int) (a0_1 : Int) (a0_2 : Int) (a0_3 : Int) (a0_4 : Int) (a0_5 : Int) (a0_6 : Bool) (a0_7 : Bool) (a0_8 : ByteArray) (a1 : Int) : Option (ByteArray) := if a0_6 = true then (patchbayref2_PacketHead.j0 k a1 (wrap64 ((wrap64 (Int.tdiv a0_5 8)) + 8192)) a0_0 a0_1 a0_2 a0_3 a0_4 a0_5 a0_6 a0_7 a0_8) else (patchbayref2_PacketHead.j0 k a1 (wrap64 (Int.tdiv a0_5 8)) a0_0 a0_1 a0_2 a0_3 a0_4 a0_5 a0_6 a0_7 a0_8)
theorem patchbayref2_PacketHead.mono_l : ∀ k, (∀ y0 y1 y2 y3 y4 y5 y6 y7 y8 y9 y10, LeO (patchbayref2_PacketHead.j0 k y0 y1 y2 y3 y4 y5 y6 y7 y8 y9 y10) (patchbayref2_PacketHead.j0 (k + 1) y0 y1 y2 y3 y4 y5 y6 y7 y8 y9 y10)) ∧ (∀ y0 y1 y2 y3 y4 y5 y6 y7 y8 y9 y10, LeO (patchbayref2_PacketHead.j1 k y0 y1 y2 y3 y4 y5 y6 y7 y8 y9 y10) (patchbayref2_PacketHead.j1 (k + 1) y0 y1 y2 y3 y4 y5 y6 y7 y8 y9 y10))
 | 0 => ⟨fun _ _ _ _ _ _ _ _ _ _ _ r h => by simp [patchbayref2_PacketHead.j0] at h, fun _ _ _ _ _ _ _ _ _ _ _ r h => by simp [patchbayref2_PacketHead.j1] at h⟩
 | k + 1 => by
  obtain ⟨ih0, ih1⟩ := patchbayref2_PacketHead.mono_l k
  refine ⟨?_, ?_⟩
  ·intro y0 y1 y2 y3 y4 y5 y6 y7 y8 y9 y10
   unfold patchbayref2_PacketHead.j0
   repeat' first
   | (with_reducible exact ih0 _ _ _ _ _ _ _ _ _ _ _)
   | (with_reducible exact ih1 _ _ _ _ _ _ _ _ _ _ _)
   | (with_reducible exact patchbayref2_Digits.mono _ _ _)
   | (with_reducible exact LeO.refl _)
   | (with_reducible exact LeO.none _)
   | (with_reducible refine LeO.ite ?_ ?_)
   | (with_reducible refine LeO.bind ?_ (fun _ => ?_))
   | exact ih0 _ _ _ _ _ _ _ _ _ _ _
   | exact ih1 _ _ _ _ _ _ _ _ _ _ _
   | exact patchbayref2_Digits.mono _ _ _
   | exact LeO.none _
   | refine LeO.ite ?_ ?_
   | refine LeO.bind ?_ (fun _ => ?_)
  ·intro y0 y1 y2 y3 y4 y5 y6 y7 y8 y9 y10
   unfold patchbayref2_PacketHead.j1
   repeat' first
   | (with_reducible exact ih0 _ _ _ _ _ _ _ _ _ _ _)
   | (with_reducible exact ih1 _ _ _ _ _ _ _ _ _ _ _)
   | (with_reducible exact patchbayref2_Digits.mono _ _ _)
   | (with_reducible exact LeO.refl _)
   | (with_reducible exact LeO.none _)
   | (with_reducible refine LeO.ite ?_ ?_)
   | (with_reducible refine LeO.bind ?_ (fun _ => ?_))
   | exact ih0 _ _ _ _ _ _ _ _ _ _ _
   | exact ih1 _ _ _ _ _ _ _ _ _ _ _
   | exact patchbayref2_Digits.mono _ _ _
   | exact LeO.none _
   | refine LeO.ite ?_ ?_
   | refine LeO.bind ?_ (fun _ => ?_)
theorem patchbayref2_PacketHead.mono : ∀ a0 a1 a2 a3 a4 a5 a6 a7 a8 a9 k, LeO (patchbayref2_PacketHead.f k a0 a1 a2 a3 a4 a5 a6 a7 a8 a9) (patchbayref2_PacketHead.f (k + 1) a0 a1 a2 a3 a4 a5 a6 a7 a8 a9) := by
 intro a0 a1 a2 a3 a4 a5 a6 a7 a8 a9 k
 obtain ⟨ih0, ih1⟩ := patchbayref2_PacketHead.mono_l k
 unfold patchbayref2_PacketHead.f
 repeat' first
   | (with_reducible exact ih0 _ _ _ _ _ _ _ _ _ _ _)
   | (with_reducible exact ih1 _ _ _ _ _ _ _ _ _ _ _)
   | (with_reducible exact patchbayref2_Digits.mono _ _ _)
   | (with_reducible exact LeO.refl _)
   | (with_reducible exact LeO.none _)
   | (with_reducible refine LeO.ite ?_ ?_)
   | (with_reducible refine LeO.bind ?_ (fun _ => ?_))
   | exact ih0 _ _ _ _ _ _ _ _ _ _ _
   | exact ih1 _ _ _ _ _ _ _ _ _ _ _
   | exact patchbayref2_Digits.mono _ _ _
   | exact LeO.none _
   | refine LeO.ite ?_ ?_
   | refine LeO.bind ?_ (fun _ => ?_)
def patchbayref2_PacketHead.T6 : Bool × List (List Nat × List Nat) := (true, [([], []), ([0], [0]), ([1], [1]), ([2], [2]), ([3], [3]), ([4], [4]), ([], []), ([6], [6]), ([7, 4], [7]), ([5, 8], [5, 8]), ([], []), ([10, 8], [10]), ([9, 11], [9, 11]), ([], []), ([13], [13]), ([14, 11], [14]), ([12, 15], [12, 15]), ([], []), ([17], [17]), ([18, 15], [18]), ([16, 19], [16, 19]), ([], []), ([21, 19], [21]), ([20, 22], [20, 22]), ([], []), ([24], [24]), ([25], [25]), ([26, 22], [26]), ([23, 27], [23, 27]), ([], []), ([29], [29]), ([30], [30]), ([31, 27], [31]), ([28, 32], [28, 32]), ([33, 32, 0, 1, 2, 3, 4, 5, 6, 7, 8, 9, 10, 11, 12, 13, 14, 15, 16, 17, 18, 19, 20, 21, 22, 23, 24, 25, 26, 27, 28, 29, 30, 31, 32, 33], [33])])
def patchbayref2_PacketHead.B6 : List Nat := [0, 1, 3, 7, 15, 31, 0, 64, 223, 511, 0, 1503, 4095, 0, 8192, 28127, 65535, 0, 131072, 454111, 1048575, 0, 3075551, 8388607, 0, 16777216, 50331648, 124710367, 268435455, 0, 536870912, 1610612736, 4017024479, 8589934591, 17179869183]
theorem patchbayref2_PacketHead.tab6 : rtab .any (opsOf Try.f44 6) = patchbayref2_PacketHead.T6 := by kernel_rfl
theorem patchbayref2_PacketHead.bits6 : waitsOk patchbayref2_PacketHead.T6.2 patchbayref2_PacketHead.B6 = true := by kernel_rfl
set_option maxHeartbeats 8000000 in
set_option maxRecDepth 100000 in
theorem patchbayref2_PacketHead.calls (k : Nat) (a0_0 : Int) (a0_1 : Int) (a0_2 : Int) (a0_3 : Int) (a0_4 : Int) (a0_5 : Int) (a0_6 : Bool) (a0_7 : Bool) (a0_8 : ByteArray) (a1 : Int) (r : ByteArray) (w : World) (h : patchbayref2_PacketHead.f k a0_0 a0_1 a0_2 a0_3 a0_4 a0_5 a0_6 a0_7 a0_8 a1 = some r) :
  Calls Try.prog 44 #[.agg #[.int .u32 a0_0, .int .u32 a0_1, .int .i64 a0_2, .int .i64 a0_3, .int .i64 a0_4, .int .i64 a0_5, .bool a0_6, .bool a0_7, .string a0_8], .int .i64 a1] w fun e w' => e = .returned (.string r) ∧ Below w.heap.size w w' := by
 have hu30 := Try.underlying30
 have HB := Aside0.mk (Below.refl w.heap.size w)
 have H : (if a0_6 = true then (patchbayref2_PacketHead.j0 k a1 (wrap64 ((wrap64 (Int.tdiv a0_5 8)) + 8192)) a0_0 a0_1 a0_2 a0_3 a0_4 a0_5 a0_6 a0_7 a0_8) else (patchbayref2_PacketHead.j0 k a1 (wrap64 (Int.tdiv a0_5 8)) a0_0 a0_1 a0_2 a0_3 a0_4 a0_5 a0_6 a0_7 a0_8)) = some r := h
 clear h
 have HC3 := Aside0.mk H
 clear H
 go_enter Try.func44, Try.ntmps44
 go_upto_if 10 with (first | ((with_reducible refine gate_dst (N := 2) rfl ?_); refine box_event ?hg (N := 2) ?hd (cs := #[.int .u32 a0_0, .int .u32 a0_1, .int .i64 a0_2, .int .i64 a0_3, .int .i64 a0_4, .int .i64 a0_5, .bool a0_6, .bool a0_7, .string a0_8]) (t := 30) ?hr ?_; (case hd => rfl); (case hg => rfl); (case hr => first | (go_simp; done) | (go_simp; rfl)); intro gb200 hg w4 hbox hb; have n0_ := Aside0.mk (below_step (Fit.bl HB.out) hb); have n1_ := Aside0.mk (hbox); have n2_ := Aside0.mk ((by rw [hg]; exact (below_size (Fit.bl HB.out)) : w.heap.size ≤ gb200)); have n3_ := Aside0.mk ((by rw [hg]; exact (below_size (Fit.bl HB.out)) : w.heap.size ≤ gb200)); clear HB; have HB := n0_; have BK200 := n1_; have GW200 := n2_; have GE200 := n3_; clear n0_ n1_ n2_ n3_; clear hb hbox hg; obtain ⟨hcz5_0, hcz5_1, hcz5_2, hcz5_3, hcz5_4, hcz5_5, hcz5_6, hcz5_7, hcz5_8, hfz5_0⟩ := Fit.cells9 BK200.out))
 (try simp only [Act.put, List.setIfInBounds_toArray, List.set_cons_zero, List.set_cons_succ])
 go_cut [5] (fun v5 wc => ∃ (kq : Nat) (x5_2 : Int), v5 = .int .i64 x5_2 ∧ Aside0 (patchbayref2_PacketHead.j0 kq a1 x5_2 a0_0 a0_1 a0_2 a0_3 a0_4 a0_5 a0_6 a0_7 a0_8 = some r) ∧ Aside0 (kq ≤ k) ∧ Aside0 (wc.heap[gb200]? = some (.cells #[.int .u32 a0_0, .int .u32 a0_1, .int .i64 a0_2, .int .i64 a0_3, .int .i64 a0_4, .int .i64 a0_5, .bool a0_6, .bool a0_7, .string a0_8] 30 (0, 0))) ∧ Aside0 (Below w.heap.size w wc))
 case first =>
  have H := HC3.out
  clear HC3
  by_cases c6 : a0_6 = true
  ·subst c6
   have H1 : (patchbayref2_PacketHead.j0 k a1 (wrap64 ((wrap64 (Int.tdiv a0_5 8)) + 8192)) a0_0 a0_1 a0_2 a0_3 a0_4 a0_5 true a0_7 a0_8) = some r := by rw [if_pos rfl] at H; exact H
   clear H
   have H := H1
   clear H1
   have H' := Aside0.mk H
   clear H
   go_wp2
   go_meet
   case rel => exact ⟨_, (wrap64 ((wrap64 (Int.tdiv a0_5 8)) + 8192)), (by first | rfl | (simp; done) | (simp [*]; done)), H', ⟨by first | omega | exact Nat.le_refl _⟩, ⟨by (with_reducible repeat first | apply blk_drewN | apply blk_drew | apply blk_alloc); exact BK200.out⟩, ⟨Fit.bl HB.out⟩⟩
  ·replace c6 := Bool.eq_false_iff.mpr c6
   subst c6
   have H1 : (patchbayref2_PacketHead.j0 k a1 (wrap64 (Int.tdiv a0_5 8)) a0_0 a0_1 a0_2 a0_3 a0_4 a0_5 false a0_7 a0_8) = some r := by rw [if_neg (show ¬ (false = true) by decide)] at H; exact H
   clear H
   have H := H1
   clear H1
   have H' := Aside0.mk H
   clear H
   go_wp2
   go_meet
   case rel => exact ⟨_, (wrap64 (Int.tdiv a0_5 8)), (by first | rfl | (simp; done) | (simp [*]; done)), H', ⟨by first | omega | exact Nat.le_refl _⟩, ⟨by (with_reducible repeat first | apply blk_drewN | apply blk_drew | apply blk_alloc); exact BK200.out⟩, ⟨Fit.bl HB.out⟩⟩
 case rest =>
  clear HC3
  try clear p2
  try clear c4
  try clear c6
  try clear p6
  try clear hcz5_0
  try clear hcz5_1
  try clear hcz5_2
  try clear hcz5_3
  try clear hcz5_4
  try clear hcz5_5
  try clear hcz5_6
  try clear hcz5_7
  try clear hcz5_8
  try clear hfz5_0
  obtain ⟨kq, x5_2, rfl, HA, HJ2, BK200, HB⟩ := hcut
  cases kq with
  | zero => exact absurd HA.out (by simp [patchbayref2_PacketHead.j0])
  | succ kj2 =>
   have H := HA.out
   clear HA
   simp only [patchbayref2_PacketHead.j0] at H
   have HC7 := Aside0.mk H
   clear H
   obtain ⟨hcz8_0, hcz8_1, hcz8_2, hcz8_3, hcz8_4, hcz8_5, hcz8_6, hcz8_7, hcz8_8, hfz8_0⟩ := Fit.cells9 BK200.out
   go_upto_if 14 with (fail)
   go_cut [5] (fun v5 wc => ∃ (kq : Nat) (x5_6 : Int), v5 = .int .i64 x5_6 ∧ Aside0 (patchbayref2_PacketHead.j1 kq a1 x5_6 a0_0 a0_1 a0_2 a0_3 a0_4 a0_5 a0_6 a0_7 a0_8 = some r) ∧ Aside0 (kq ≤ kj2) ∧ Aside0 (wc.heap[gb200]? = some (.cells #[.int .u32 a0_0, .int .u32 a0_1, .int .i64 a0_2, .int .i64 a0_3, .int .i64 a0_4, .int .i64 a0_5, .bool a0_6, .bool a0_7, .string a0_8] 30 (0, 0))) ∧ Aside0 (Below w.heap.size w wc))
   case first =>
    have H := HC7.out
    clear HC7
    by_cases c9 : a0_7 = true
    ·subst c9
     have H1 : (patchbayref2_PacketHead.j1 kj2 a1 (wrap64 (x5_2 + 16384)) a0_0 a0_1 a0_2 a0_3 a0_4 a0_5 a0_6 true a0_8) = some r := by rw [if_pos rfl] at H; exact H
     clear H
     have H := H1
     clear H1
     have H' := Aside0.mk H
     clear H
     go_wp2
     go_meet
     case rel => exact ⟨_, (wrap64 (x5_2 + 16384)), (by first | rfl | (simp; done) | (simp [*]; done)), H', ⟨by have := HJ2.out; first | omega | exact Nat.le_refl _⟩, ⟨by (with_reducible repeat first | apply blk_drewN | apply blk_drew | apply blk_alloc); exact BK200.out⟩, ⟨Fit.bl HB.out⟩⟩
    ·replace c9 := Bool.eq_false_iff.mpr c9
     subst c9
     have H1 : (patchbayref2_PacketHead.j1 kj2 a1 x5_2 a0_0 a0_1 a0_2 a0_3 a0_4 a0_5 a0_6 false a0_8) = some r := by rw [if_neg (show ¬ (false = true) by decide)] at H; exact H
     clear H
     have H := H1
     clear H1
     have H' := Aside0.mk H
     clear H
     go_wp2
     go_meet
     case rel => exact ⟨_, (x5_2), (by first | rfl | (simp; done) | (simp [*]; done)), H', ⟨by have := HJ2.out; first | omega | exact Nat.le_refl _⟩, ⟨by (with_reducible repeat first | apply blk_drewN | apply blk_drew | apply blk_alloc); exact BK200.out⟩, ⟨Fit.bl HB.out⟩⟩
   case rest =>
    clear HC7
    try clear p2
    try clear c4
    try clear c6
    try clear p6
    try clear c9
    try clear hcz5_0
    try clear hcz5_1
    try clear hcz5_2
    try clear hcz5_3
    try clear hcz5_4
    try clear hcz5_5
    try clear hcz5_6
    try clear hcz5_7
    try clear hcz5_8
    try clear hcz8_0
    try clear hcz8_1
    try clear hcz8_2
    try clear hcz8_3
    try clear hcz8_4
    try clear hcz8_5
    try clear hcz8_6
    try clear hcz8_7
    try clear hcz8_8
    try clear hfz5_0
    try clear hfz8_0
    try clear p2
    try clear p6
    obtain ⟨kq, x5_6, rfl, HA, HJ6, BK200, HB⟩ := hcut
    cases kq with
    | zero => exact absurd HA.out (by simp [patchbayref2_PacketHead.j1])
    | succ kj6 =>
     have H := HA.out
     clear HA
     simp only [patchbayref2_PacketHead.j1] at H
     replace H := Option.bind_eq_some_iff.mp H
     obtain ⟨t201, A100, H⟩ := H
     replace H : (if (⟨#[69, 0]⟩ : ByteArray).size + t201.size ≤ 9223372036854775807 then ((patchbayref2_Digits.f kj6 a0_4 2).bind fun t202 => (if ((⟨#[69, 0]⟩ : ByteArray) ++ t201).size + t202.size ≤ 9223372036854775807 then ((patchbayref2_Digits.f kj6 x5_6 2).bind fun t203 => (if (((⟨#[69, 0]⟩ : ByteArray) ++ t201) ++ t202).size + t203.size ≤ 9223372036854775807 then ((patchbayref2_Digits.f kj6 a0_3 1).bind fun t204 => (if ((((⟨#[69, 0]⟩ : ByteArray) ++ t201) ++ t202) ++ t203).size + t204.size ≤ 9223372036854775807 then ((patchbayref2_Digits.f kj6 a0_2 1).bind fun t205 => (if (((((⟨#[69, 0]⟩ : ByteArray) ++ t201) ++ t202) ++ t203) ++ t204).size + t205.size ≤ 9223372036854775807 then ((patchbayref2_Digits.f kj6 a1 2).bind fun t206 => (if ((((((⟨#[69, 0]⟩ : ByteArray) ++ t201) ++ t202) ++ t203) ++ t204) ++ t205).size + t206.size ≤ 9223372036854775807 then ((patchbayref2_Digits.f kj6 (wrap64 (a0_0)) 4).bind fun t207 => (if (((((((⟨#[69, 0]⟩ : ByteArray) ++ t201) ++ t202) ++ t203) ++ t204) ++ t205) ++ t206).size + t207.size ≤ 9223372036854775807 then ((patchbayref2_Digits.f kj6 (wrap64 (a0_1)) 4).bind fun t208 => (if ((((((((⟨#[69, 0]⟩ : ByteArray) ++ t201) ++ t202) ++ t203) ++ t204) ++ t205) ++ t206) ++ t207).size + t208.size ≤ 9223372036854775807 then (some (((((((((⟨#[69, 0]⟩ : ByteArray) ++ t201) ++ t202) ++ t203) ++ t204) ++ t205) ++ t206) ++ t207) ++ t208)) else (none))) else (none))) else (none))) else (none))) else (none))) else (none))) else (none))) else (none)) = some r := H
     have A10 := Aside0.mk A100
     clear A100
     by_cases c11 : (⟨#[69, 0]⟩ : ByteArray).size + t201.size ≤ 9223372036854775807
     ·rw [if_pos c11] at H
      have c11b0 := eq_true c11
      have c11b1 : decide ((⟨#[69, 0]⟩ : ByteArray).size + t201.size ≤ 9223372036854775807) = true := decide_eq_true c11
      have c11fit : Fit.Fits2 (⟨#[69, 0]⟩ : ByteArray) t201 := c11
      try have c11b2 : (9223372036854775807 < (⟨#[69, 0]⟩ : ByteArray).size + t201.size) = False := eq_false (Nat.not_lt.2 c11)
      replace H := Option.bind_eq_some_iff.mp H
      obtain ⟨t202, A120, H⟩ := H
      replace H : (if ((⟨#[69, 0]⟩ : ByteArray) ++ t201).size + t202.size ≤ 9223372036854775807 then ((patchbayref2_Digits.f kj6 x5_6 2).bind fun t203 => (if (((⟨#[69, 0]⟩ : ByteArray) ++ t201) ++ t202).size + t203.size ≤ 9223372036854775807 then ((patchbayref2_Digits.f kj6 a0_3 1).bind fun t204 => (if ((((⟨#[69, 0]⟩ : ByteArray) ++ t201) ++ t202) ++ t203).size + t204.size ≤ 9223372036854775807 then ((patchbayref2_Digits.f kj6 a0_2 1).bind fun t205 => (if (((((⟨#[69, 0]⟩ : ByteArray) ++ t201) ++ t202) ++ t203) ++ t204).size + t205.size ≤ 9223372036854775807 then ((patchbayref2_Digits.f kj6 a1 2).bind fun t206 => (if ((((((⟨#[69, 0]⟩ : ByteArray) ++ t201) ++ t202) ++ t203) ++ t204) ++ t205).size + t206.size ≤ 9223372036854775807 then ((patchbayref2_Digits.f kj6 (wrap64 (a0_0)) 4).bind fun t207 => (if (((((((⟨#[69, 0]⟩ : ByteArray) ++ t201) ++ t202) ++ t203) ++ t204) ++ t205) ++ t206).size + t207.size ≤ 9223372036854775807 then ((patchbayref2_Digits.f kj6 (wrap64 (a0_1)) 4).bind fun t208 => (if ((((((((⟨#[69, 0]⟩ : ByteArray) ++ t201) ++ t202) ++ t203) ++ t204) ++ t205) ++ t206) ++ t207).size + t208.size ≤ 9223372036854775807 then (some (((((((((⟨#[69, 0]⟩ : ByteArray) ++ t201) ++ t202) ++ t203) ++ t204) ++ t205) ++ t206) ++ t207) ++ t208)) else (none))) else (none))) else (none))) else (none))) else (none))) else (none))) else (none)) = some r := H
      have A12 := Aside0.mk A120
      clear A120
      by_cases c13 : ((⟨#[69, 0]⟩ : ByteArray) ++ t201).size + t202.size ≤ 9223372036854775807
      ·rw [if_pos c13] at H
       have c13b0 := eq_true c13
       have c13b1 : decide (((⟨#[69, 0]⟩ : ByteArray) ++ t201).size + t202.size ≤ 9223372036854775807) = true := decide_eq_true c13
       have c13fit : Fit.Fits2 ((⟨#[69, 0]⟩ : ByteArray) ++ t201) t202 := c13
       try have c13b2 : (9223372036854775807 < ((⟨#[69, 0]⟩ : ByteArray) ++ t201).size + t202.size) = False := eq_false (Nat.not_lt.2 c13)
       replace H := Option.bind_eq_some_iff.mp H
       obtain ⟨t203, A140, H⟩ := H
       replace H : (if (((⟨#[69, 0]⟩ : ByteArray) ++ t201) ++ t202).size + t203.size ≤ 9223372036854775807 then ((patchbayref2_Digits.f kj6 a0_3 1).bind fun t204 => (if ((((⟨#[69, 0]⟩ : ByteArray) ++ t201) ++ t202) ++ t203).size + t204.size ≤ 9223372036854775807 then ((patchbayref2_Digits.f kj6 a0_2 1).bind fun t205 => (if (((((⟨#[69, 0]⟩ : ByteArray) ++ t201) ++ t202) ++ t203) ++ t204).size + t205.size ≤ 9223372036854775807 then ((patchbayref2_Digits.f kj6 a1 2).bind fun t206 => (if ((((((⟨#[69, 0]⟩ : ByteArray) ++ t201) ++ t202) ++ t203) ++ t204) ++ t205).size + t206.size ≤ 9223372036854775807 then ((patchbayref2_Digits.f kj6 (wrap64 (a0_0)) 4).bind fun t207 => (if (((((((⟨#[69, 0]⟩ : ByteArray) ++ t201) ++ t202) ++ t203) ++ t204) ++ t205) ++ t206).size + t207.size ≤ 9223372036854775807 then ((patchbayref2_Digits.f kj6 (wrap64 (a0_1)) 4).bind fun t208 => (if ((((((((⟨#[69, 0]⟩ : ByteArray) ++ t201) ++ t202) ++ t203) ++ t204) ++ t205) ++ t206) ++ t207).size + t208.size ≤ 9223372036854775807 then (some (((((((((⟨#[69, 0]⟩ : ByteArray) ++ t201) ++ t202) ++ t203) ++ t204) ++ t205) ++ t206) ++ t207) ++ t208)) else (none))) else (none))) else (none))) else (none))) else (none))) else (none)) = some r := H
       have A14 := Aside0.mk A140
       clear A140
       by_cases c15 : (((⟨#[69, 0]⟩ : ByteArray) ++ t201) ++ t202).size + t203.size ≤ 9223372036854775807
       ·rw [if_pos c15] at H
        have c15b0 := eq_true c15
        have c15b1 : decide ((((⟨#[69, 0]⟩ : ByteArray) ++ t201) ++ t202).size + t203.size ≤ 9223372036854775807) = true := decide_eq_true c15
        have c15fit : Fit.Fits2 (((⟨#[69, 0]⟩ : ByteArray) ++ t201) ++ t202) t203 := c15
        try have c15b2 : (9223372036854775807 < (((⟨#[69, 0]⟩ : ByteArray) ++ t201) ++ t202).size + t203.size) = False := eq_false (Nat.not_lt.2 c15)
        replace H := Option.bind_eq_some_iff.mp H
        obtain ⟨t204, A160, H⟩ := H
        replace H : (if ((((⟨#[69, 0]⟩ : ByteArray) ++ t201) ++ t202) ++ t203).size + t204.size ≤ 9223372036854775807 then ((patchbayref2_Digits.f kj6 a0_2 1).bind fun t205 => (if (((((⟨#[69, 0]⟩ : ByteArray) ++ t201) ++ t202) ++ t203) ++ t204).size + t205.size ≤ 9223372036854775807 then ((patchbayref2_Digits.f kj6 a1 2).bind fun t206 => (if ((((((⟨#[69, 0]⟩ : ByteArray) ++ t201) ++ t202) ++ t203) ++ t204) ++ t205).size + t206.size ≤ 9223372036854775807 then ((patchbayref2_Digits.f kj6 (wrap64 (a0_0)) 4).bind fun t207 => (if (((((((⟨#[69, 0]⟩ : ByteArray) ++ t201) ++ t202) ++ t203) ++ t204) ++ t205) ++ t206).size + t207.size ≤ 9223372036854775807 then ((patchbayref2_Digits.f kj6 (wrap64 (a0_1)) 4).bind fun t208 => (if ((((((((⟨#[69, 0]⟩ : ByteArray) ++ t201) ++ t202) ++ t203) ++ t204) ++ t205) ++ t206) ++ t207).size + t208.size ≤ 9223372036854775807 then (some (((((((((⟨#[69, 0]⟩ : ByteArray) ++ t201) ++ t202) ++ t203) ++ t204) ++ t205) ++ t206) ++ t207) ++ t208)) else (none))) else (none))) else (none))) else (none))) else (none)) = some r := H
        have A16 := Aside0.mk A160
        clear A160
        by_cases c17 : ((((⟨#[69, 0]⟩ : ByteArray) ++ t201) ++ t202) ++ t203).size + t204.size ≤ 9223372036854775807
        ·rw [if_pos c17] at H
         have c17b0 := eq_true c17
         have c17b1 : decide (((((⟨#[69, 0]⟩ : ByteArray) ++ t201) ++ t202) ++ t203).size + t204.size ≤ 9223372036854775807) = true := decide_eq_true c17
         have c17fit : Fit.Fits2 ((((⟨#[69, 0]⟩ : ByteArray) ++ t201) ++ t202) ++ t203) t204 := c17
         try have c17b2 : (9223372036854775807 < ((((⟨#[69, 0]⟩ : ByteArray) ++ t201) ++ t202) ++ t203).size + t204.size) = False := eq_false (Nat.not_lt.2 c17)
         replace H := Option.bind_eq_some_iff.mp H
         obtain ⟨t205, A180, H⟩ := H
         replace H : (if (((((⟨#[69, 0]⟩ : ByteArray) ++ t201) ++ t202) ++ t203) ++ t204).size + t205.size ≤ 9223372036854775807 then ((patchbayref2_Digits.f kj6 a1 2).bind fun t206 => (if ((((((⟨#[69, 0]⟩ : ByteArray) ++ t201) ++ t202) ++ t203) ++ t204) ++ t205).size + t206.size ≤ 9223372036854775807 then ((patchbayref2_Digits.f kj6 (wrap64 (a0_0)) 4).bind fun t207 => (if (((((((⟨#[69, 0]⟩ : ByteArray) ++ t201) ++ t202) ++ t203) ++ t204) ++ t205) ++ t206).size + t207.size ≤ 9223372036854775807 then ((patchbayref2_Digits.f kj6 (wrap64 (a0_1)) 4).bind fun t208 => (if ((((((((⟨#[69, 0]⟩ : ByteArray) ++ t201) ++ t202) ++ t203) ++ t204) ++ t205) ++ t206) ++ t207).size + t208.size ≤ 9223372036854775807 then (some (((((((((⟨#[69, 0]⟩ : ByteArray) ++ t201) ++ t202) ++ t203) ++ t204) ++ t205) ++ t206) ++ t207) ++ t208)) else (none))) else (none))) else (none))) else (none)) = some r := H
         have A18 := Aside0.mk A180
         clear A180
         by_cases c19 : (((((⟨#[69, 0]⟩ : ByteArray) ++ t201) ++ t202) ++ t203) ++ t204).size + t205.size ≤ 9223372036854775807
         ·rw [if_pos c19] at H
          have c19b0 := eq_true c19
          have c19b1 : decide ((((((⟨#[69, 0]⟩ : ByteArray) ++ t201) ++ t202) ++ t203) ++ t204).size + t205.size ≤ 9223372036854775807) = true := decide_eq_true c19
          have c19fit : Fit.Fits2 (((((⟨#[69, 0]⟩ : ByteArray) ++ t201) ++ t202) ++ t203) ++ t204) t205 := c19
          try have c19b2 : (9223372036854775807 < (((((⟨#[69, 0]⟩ : ByteArray) ++ t201) ++ t202) ++ t203) ++ t204).size + t205.size) = False := eq_false (Nat.not_lt.2 c19)
          replace H := Option.bind_eq_some_iff.mp H
          obtain ⟨t206, A200, H⟩ := H
          replace H : (if ((((((⟨#[69, 0]⟩ : ByteArray) ++ t201) ++ t202) ++ t203) ++ t204) ++ t205).size + t206.size ≤ 9223372036854775807 then ((patchbayref2_Digits.f kj6 (wrap64 (a0_0)) 4).bind fun t207 => (if (((((((⟨#[69, 0]⟩ : ByteArray) ++ t201) ++ t202) ++ t203) ++ t204) ++ t205) ++ t206).size + t207.size ≤ 9223372036854775807 then ((patchbayref2_Digits.f kj6 (wrap64 (a0_1)) 4).bind fun t208 => (if ((((((((⟨#[69, 0]⟩ : ByteArray) ++ t201) ++ t202) ++ t203) ++ t204) ++ t205) ++ t206) ++ t207).size + t208.size ≤ 9223372036854775807 then (some (((((((((⟨#[69, 0]⟩ : ByteArray) ++ t201) ++ t202) ++ t203) ++ t204) ++ t205) ++ t206) ++ t207) ++ t208)) else (none))) else (none))) else (none)) = some r := H
          have A20 := Aside0.mk A200
          clear A200
          by_cases c21 : ((((((⟨#[69, 0]⟩ : ByteArray) ++ t201) ++ t202) ++ t203) ++ t204) ++ t205).size + t206.size ≤ 9223372036854775807
          ·rw [if_pos c21] at H
           have c21b0 := eq_true c21
           have c21b1 : decide (((((((⟨#[69, 0]⟩ : ByteArray) ++ t201) ++ t202) ++ t203) ++ t204) ++ t205).size + t206.size ≤ 9223372036854775807) = true := decide_eq_true c21
           have c21fit : Fit.Fits2 ((((((⟨#[69, 0]⟩ : ByteArray) ++ t201) ++ t202) ++ t203) ++ t204) ++ t205) t206 := c21
           try have c21b2 : (9223372036854775807 < ((((((⟨#[69, 0]⟩ : ByteArray) ++ t201) ++ t202) ++ t203) ++ t204) ++ t205).size + t206.size) = False := eq_false (Nat.not_lt.2 c21)
           replace H := Option.bind_eq_some_iff.mp H
           obtain ⟨t207, A220, H⟩ := H
           replace H : (if (((((((⟨#[69, 0]⟩ : ByteArray) ++ t201) ++ t202) ++ t203) ++ t204) ++ t205) ++ t206).size + t207.size ≤ 9223372036854775807 then ((patchbayref2_Digits.f kj6 (wrap64 (a0_1)) 4).bind fun t208 => (if ((((((((⟨#[69, 0]⟩ : ByteArray) ++ t201) ++ t202) ++ t203) ++ t204) ++ t205) ++ t206) ++ t207).size + t208.size ≤ 9223372036854775807 then (some (((((((((⟨#[69, 0]⟩ : ByteArray) ++ t201) ++ t202) ++ t203) ++ t204) ++ t205) ++ t206) ++ t207) ++ t208)) else (none))) else (none)) = some r := H
           have A22 := Aside0.mk A220
           clear A220
           by_cases c23 : (((((((⟨#[69, 0]⟩ : ByteArray) ++ t201) ++ t202) ++ t203) ++ t204) ++ t205) ++ t206).size + t207.size ≤ 9223372036854775807
           ·rw [if_pos c23] at H
            have c23b0 := eq_true c23
            have c23b1 : decide ((((((((⟨#[69, 0]⟩ : ByteArray) ++ t201) ++ t202) ++ t203) ++ t204) ++ t205) ++ t206).size + t207.size ≤ 9223372036854775807) = true := decide_eq_true c23
            have c23fit : Fit.Fits2 (((((((⟨#[69, 0]⟩ : ByteArray) ++ t201) ++ t202) ++ t203) ++ t204) ++ t205) ++ t206) t207 := c23
            try have c23b2 : (9223372036854775807 < (((((((⟨#[69, 0]⟩ : ByteArray) ++ t201) ++ t202) ++ t203) ++ t204) ++ t205) ++ t206).size + t207.size) = False := eq_false (Nat.not_lt.2 c23)
            replace H := Option.bind_eq_some_iff.mp H
            obtain ⟨t208, A240, H⟩ := H
            replace H : (if ((((((((⟨#[69, 0]⟩ : ByteArray) ++ t201) ++ t202) ++ t203) ++ t204) ++ t205) ++ t206) ++ t207).size + t208.size ≤ 9223372036854775807 then (some (((((((((⟨#[69, 0]⟩ : ByteArray) ++ t201) ++ t202) ++ t203) ++ t204) ++ t205) ++ t206) ++ t207) ++ t208)) else (none)) = some r := H
            have A24 := Aside0.mk A240
            clear A240
            by_cases c25 : ((((((((⟨#[69, 0]⟩ : ByteArray) ++ t201) ++ t202) ++ t203) ++ t204) ++ t205) ++ t206) ++ t207).size + t208.size ≤ 9223372036854775807
            ·rw [if_pos c25] at H
             have c25b0 := eq_true c25
             have c25b1 : decide (((((((((⟨#[69, 0]⟩ : ByteArray) ++ t201) ++ t202) ++ t203) ++ t204) ++ t205) ++ t206) ++ t207).size + t208.size ≤ 9223372036854775807) = true := decide_eq_true c25
             have c25fit : Fit.Fits2 ((((((((⟨#[69, 0]⟩ : ByteArray) ++ t201) ++ t202) ++ t203) ++ t204) ++ t205) ++ t206) ++ t207) t208 := c25
             try have c25b2 : (9223372036854775807 < ((((((((⟨#[69, 0]⟩ : ByteArray) ++ t201) ++ t202) ++ t203) ++ t204) ++ t205) ++ t206) ++ t207).size + t208.size) = False := eq_false (Nat.not_lt.2 c25)
             obtain rfl := Option.some.inj H
             try go_wp2
             have n0_ := Aside0.mk (blk_drew BK200.out)
             have n1_ := Aside0.mk (below_drew1 HB.out)
             clear BK200
             clear HB
             have BK200 := n0_
             have HB := n1_
             clear n0_ n1_
             refine start_ (n := 35) (S := fun w' => w'.cell? ⟨gb200, 0, none⟩ = some (.int .u32 a0_0) ∧ w'.cell? ⟨gb200, 1, none⟩ = some (.int .u32 a0_1) ∧ w'.cell? ⟨gb200, 2, none⟩ = some (.int .i64 a0_2) ∧ w'.cell? ⟨gb200, 3, none⟩ = some (.int .i64 a0_3) ∧ w'.cell? ⟨gb200, 4, none⟩ = some (.int .i64 a0_4) ∧ w'.cell? ⟨gb200, 5, none⟩ = some (.int .i64 a0_5) ∧ w'.cell? ⟨gb200, 6, none⟩ = some (.bool a0_6) ∧ w'.cell? ⟨gb200, 7, none⟩ = some (.bool a0_7) ∧ w'.cell? ⟨gb200, 8, none⟩ = some (.string a0_8)) (ds := []) #[false, false, false, false, false, false, false, false, false, false, false, false, false, false, false, false, false, false, false, false, false, false, false, false, false, false, false, false, false, false, false, false, false, false, false] (by kernel_rfl) rfl rfl ⟨(blk_cell BK200.out 0).trans rfl, (blk_cell BK200.out 1).trans rfl, (blk_cell BK200.out 2).trans rfl, (blk_cell BK200.out 3).trans rfl, (blk_cell BK200.out 4).trans rfl, (blk_cell BK200.out 5).trans rfl, (blk_cell BK200.out 6).trans rfl, (blk_cell BK200.out 7).trans rfl, (blk_cell BK200.out 8).trans rfl⟩ (fun hHeld => ?_); refine with_tabW patchbayref2_PacketHead.tab6 patchbayref2_PacketHead.bits6 (fun HT_ HW_ => ?_)
             generalize wc.drew = w26 at BK200 HB hHeld ⊢
             refine pure_ (i := 0) (N := some 17) (v := ?_) (a' := ?_) #[true, false, false, false, false, false, false, false, false, false, false, false, false, false, false, false, false, false, false, false, false, false, false, false, false, false, false, false, false, false, false, false, false, false, false] rfl rfl (any_of HT_.out (by kernel_rfl)) (fun _ _ _ h => h) (Or.inl ⟨by rfl, ?_⟩) ?_ ?_
             rotate_left
             ·intro w'
              go_simp
              with_reducible rfl
             rotate_left
             ·simp only [Act.put, List.setIfInBounds_toArray, List.set_cons_zero, List.set_cons_succ, i64_w, i32_w]
              rfl
             refine pure_ (i := 6) (N := some 23) (v := ?_) (a' := ?_) #[true, false, false, false, false, false, true, false, false, false, false, false, false, false, false, false, false, false, false, false, false, false, false, false, false, false, false, false, false, false, false, false, false, false, false] rfl rfl (any_of HT_.out (by kernel_rfl)) (fun _ _ _ h => h) (Or.inl ⟨by rfl, ?_⟩) ?_ ?_
             rotate_left
             ·intro w'
              go_simp
              with_reducible rfl
             rotate_left
             ·simp only [Act.put, List.setIfInBounds_toArray, List.set_cons_zero, List.set_cons_succ, i64_w, i32_w]
              rfl
             refine pure_ (i := 10) (N := some 27) (v := ?_) (a' := ?_) #[true, false, false, false, false, false, true, false, false, false, true, false, false, false, false, false, false, false, false, false, false, false, false, false, false, false, false, false, false, false, false, false, false, false, false] rfl rfl (any_of HT_.out (by kernel_rfl)) (fun _ _ _ h => h) (Or.inl ⟨by rfl, ?_⟩) ?_ ?_
             rotate_left
             ·intro w'
              go_simp
              with_reducible rfl
             rotate_left
             ·simp only [Act.put, List.setIfInBounds_toArray, List.set_cons_zero, List.set_cons_succ, i64_w, i32_w]
              rfl
             refine pure_ (i := 13) (N := some 30) (v := ?_) (a' := ?_) #[true, false, false, false, false, false, true, false, false, false, true, false, false, true, false, false, false, false, false, false, false, false, false, false, false, false, false, false, false, false, false, false, false, false, false] rfl rfl (any_of HT_.out (by kernel_rfl)) (fun _ _ _ h => h) (Or.inl ⟨by rfl, ?_⟩) ?_ ?_
             rotate_left
             ·intro w'
              go_simp
              with_reducible rfl
             rotate_left
             ·simp only [Act.put, List.setIfInBounds_toArray, List.set_cons_zero, List.set_cons_succ, i64_w, i32_w]
              rfl
             refine pure_ (i := 17) (N := some 34) (v := ?_) (a' := ?_) #[true, false, false, false, false, false, true, false, false, false, true, false, false, true, false, false, false, true, false, false, false, false, false, false, false, false, false, false, false, false, false, false, false, false, false] rfl rfl (any_of HT_.out (by kernel_rfl)) (fun _ _ _ h => h) (Or.inl ⟨by rfl, ?_⟩) ?_ ?_
             rotate_left
             ·intro w'
              go_simp
              with_reducible rfl
             rotate_left
             ·simp only [Act.put, List.setIfInBounds_toArray, List.set_cons_zero, List.set_cons_succ, i64_w, i32_w]
              rfl
             refine pure_ (i := 21) (N := some 38) (v := ?_) (a' := ?_) #[true, false, false, false, false, false, true, false, false, false, true, false, false, true, false, false, false, true, false, false, false, true, false, false, false, false, false, false, false, false, false, false, false, false, false] rfl rfl (any_of HT_.out (by kernel_rfl)) (fun _ _ _ h => h) (Or.inl ⟨by rfl, ?_⟩) ?_ ?_
             rotate_left
             ·intro w'
              go_simp
              with_reducible rfl
             rotate_left
             ·simp only [Act.put, List.setIfInBounds_toArray, List.set_cons_zero, List.set_cons_succ, i64_w, i32_w]
              rfl
             refine pure_ (i := 24) (N := some 41) (v := ?_) (a' := ?_) #[true, false, false, false, false, false, true, false, false, false, true, false, false, true, false, false, false, true, false, false, false, true, false, false, true, false, false, false, false, false, false, false, false, false, false] rfl rfl (any_of HT_.out (by kernel_rfl)) (fun _ _ _ h => h) (Or.inl ⟨by rfl, ?_⟩) ?_ ?_
             rotate_left
             ·intro w'
              go_simp
              with_reducible rfl
             rotate_left
             ·simp only [Act.put, List.setIfInBounds_toArray, List.set_cons_zero, List.set_cons_succ, i64_w, i32_w]
              rfl
             refine pure_ (i := 29) (N := some 46) (v := ?_) (a' := ?_) #[true, false, false, false, false, false, true, false, false, false, true, false, false, true, false, false, false, true, false, false, false, true, false, false, true, false, false, false, false, true, false, false, false, false, false] rfl rfl (any_of HT_.out (by kernel_rfl)) (fun _ _ _ h => h) (Or.inl ⟨by rfl, ?_⟩) ?_ ?_
             rotate_left
             ·intro w'
              go_simp
              with_reducible rfl
             rotate_left
             ·simp only [Act.put, List.setIfInBounds_toArray, List.set_cons_zero, List.set_cons_succ, i64_w, i32_w]
              rfl
             refine take_ (i := 1) (N := some 18) (v := ?_) (a' := ?_) #[true, true, false, false, false, false, true, false, false, false, true, false, false, true, false, false, false, true, false, false, false, true, false, false, true, false, false, false, false, true, false, false, false, false, false] rfl rfl (take_ofW HT_.out HW_.out (by kernel_rfl)) (fun _ _ _ h => h) (Or.inl ⟨by rfl, ?_⟩) hHeld ?_ ?_
             rotate_left
             ·rintro w' ⟨s0, s1, s2, s3, s4, s5, s6, s7, s8⟩
              go_simp
              with_reducible rfl
             rotate_left
             ·simp only [Act.put, List.setIfInBounds_toArray, List.set_cons_zero, List.set_cons_succ, i64_w, i32_w]
              rfl
             refine pure_ (i := 2) (N := some 19) (v := ?_) (a' := ?_) #[true, true, true, false, false, false, true, false, false, false, true, false, false, true, false, false, false, true, false, false, false, true, false, false, true, false, false, false, false, true, false, false, false, false, false] rfl rfl (any_of HT_.out (by kernel_rfl)) (fun _ _ _ h => h) (Or.inl ⟨by rfl, ?_⟩) ?_ ?_
             rotate_left
             ·intro w'
              go_simp
              with_reducible rfl
             rotate_left
             ·simp only [Act.put, List.setIfInBounds_toArray, List.set_cons_zero, List.set_cons_succ, i64_w, i32_w]
              rfl
             refine pure_ (i := 3) (N := some 20) (v := ?_) (a' := ?_) #[true, true, true, true, false, false, true, false, false, false, true, false, false, true, false, false, false, true, false, false, false, true, false, false, true, false, false, false, false, true, false, false, false, false, false] rfl rfl (any_of HT_.out (by kernel_rfl)) (fun _ _ _ h => h) (Or.inl ⟨by rfl, ?_⟩) ?_ ?_
             rotate_left
             ·intro w'
              go_simp
              with_reducible rfl
             rotate_left
             ·simp only [Act.put, List.setIfInBounds_toArray, List.set_cons_zero, List.set_cons_succ, i64_w, i32_w]
              rfl
             refine take_ (i := 7) (N := some 24) (v := ?_) (a' := ?_) #[true, true, true, true, false, false, true, true, false, false, true, false, false, true, false, false, false, true, false, false, false, true, false, false, true, false, false, false, false, true, false, false, false, false, false] rfl rfl (take_ofW HT_.out HW_.out (by kernel_rfl)) (fun _ _ _ h => h) (Or.inl ⟨by rfl, ?_⟩) hHeld ?_ ?_
             rotate_left
             ·rintro w' ⟨s0, s1, s2, s3, s4, s5, s6, s7, s8⟩
              go_simp
              with_reducible rfl
             rotate_left
             ·simp only [Act.put, List.setIfInBounds_toArray, List.set_cons_zero, List.set_cons_succ, i64_w, i32_w]
              rfl
             refine take_ (i := 14) (N := some 31) (v := ?_) (a' := ?_) #[true, true, true, true, false, false, true, true, false, false, true, false, false, true, true, false, false, true, false, false, false, true, false, false, true, false, false, false, false, true, false, false, false, false, false] rfl rfl (take_ofW HT_.out HW_.out (by kernel_rfl)) (fun _ _ _ h => h) (Or.inl ⟨by rfl, ?_⟩) hHeld ?_ ?_
             rotate_left
             ·rintro w' ⟨s0, s1, s2, s3, s4, s5, s6, s7, s8⟩
              go_simp
              with_reducible rfl
             rotate_left
             ·simp only [Act.put, List.setIfInBounds_toArray, List.set_cons_zero, List.set_cons_succ, i64_w, i32_w]
              rfl
             refine take_ (i := 18) (N := some 35) (v := ?_) (a' := ?_) #[true, true, true, true, false, false, true, true, false, false, true, false, false, true, true, false, false, true, true, false, false, true, false, false, true, false, false, false, false, true, false, false, false, false, false] rfl rfl (take_ofW HT_.out HW_.out (by kernel_rfl)) (fun _ _ _ h => h) (Or.inl ⟨by rfl, ?_⟩) hHeld ?_ ?_
             rotate_left
             ·rintro w' ⟨s0, s1, s2, s3, s4, s5, s6, s7, s8⟩
              go_simp
              with_reducible rfl
             rotate_left
             ·simp only [Act.put, List.setIfInBounds_toArray, List.set_cons_zero, List.set_cons_succ, i64_w, i32_w]
              rfl
             refine take_ (i := 25) (N := some 42) (v := ?_) (a' := ?_) #[true, true, true, true, false, false, true, true, false, false, true, false, false, true, true, false, false, true, true, false, false, true, false, false, true, true, false, false, false, true, false, false, false, false, false] rfl rfl (take_ofW HT_.out HW_.out (by kernel_rfl)) (fun _ _ _ h => h) (Or.inl ⟨by rfl, ?_⟩) hHeld ?_ ?_
             rotate_left
             ·rintro w' ⟨s0, s1, s2, s3, s4, s5, s6, s7, s8⟩
              go_simp
              with_reducible rfl
             rotate_left
             ·simp only [Act.put, List.setIfInBounds_toArray, List.set_cons_zero, List.set_cons_succ, i64_w, i32_w]
              rfl
             refine pure_ (i := 26) (N := some 43) (v := ?_) (a' := ?_) #[true, true, true, true, false, false, true, true, false, false, true, false, false, true, true, false, false, true, true, false, false, true, false, false, true, true, true, false, false, true, false, false, false, false, false] rfl rfl (any_of HT_.out (by kernel_rfl)) (fun _ _ _ h => h) (Or.inl ⟨by rfl, ?_⟩) ?_ ?_
             rotate_left
             ·intro w'
              go_simp
              with_reducible rfl
             rotate_left
             ·simp only [Act.put, List.setIfInBounds_toArray, List.set_cons_zero, List.set_cons_succ, i64_w, i32_w]
              rfl
             refine take_ (i := 30) (N := some 47) (v := ?_) (a' := ?_) #[true, true, true, true, false, false, true, true, false, false, true, false, false, true, true, false, false, true, true, false, false, true, false, false, true, true, true, false, false, true, true, false, false, false, false] rfl rfl (take_ofW HT_.out HW_.out (by kernel_rfl)) (fun _ _ _ h => h) (Or.inl ⟨by rfl, ?_⟩) hHeld ?_ ?_
             rotate_left
             ·rintro w' ⟨s0, s1, s2, s3, s4, s5, s6, s7, s8⟩
              go_simp
              with_reducible rfl
             rotate_left
             ·simp only [Act.put, List.setIfInBounds_toArray, List.set_cons_zero, List.set_cons_succ, i64_w, i32_w]
              rfl
             refine pure_ (i := 31) (N := some 48) (v := ?_) (a' := ?_) #[true, true, true, true, false, false, true, true, false, false, true, false, false, true, true, false, false, true, true, false, false, true, false, false, true, true, true, false, false, true, true, true, false, false, false] rfl rfl (any_of HT_.out (by kernel_rfl)) (fun _ _ _ h => h) (Or.inl ⟨by rfl, ?_⟩) ?_ ?_
             rotate_left
             ·intro w'
              go_simp
              with_reducible rfl
             rotate_left
             ·simp only [Act.put, List.setIfInBounds_toArray, List.set_cons_zero, List.set_cons_succ, i64_w, i32_w]
              rfl
             refine one_ (i := 4) (N := some 21) #[true, true, true, true, true, false, true, true, false, false, true, false, false, true, true, false, false, true, true, false, false, true, false, false, true, true, true, false, false, true, true, true, false, false, false] rfl rfl (one_of HT_.out (by kernel_rfl)) (by decide) (fun K hK => ?_)
             refine goes_ Try.func13 (by kernel_rfl) rfl #[.int .i64 (wrap64 (20 + (a0_8.size : Int))), .int .i64 2] (by rfl) rfl rfl (by (try simp only [List.map_toArray, List.map_cons, List.map_nil]); first | done | rfl | (simp only [List.length_drop, List.length_take]; rfl)) ?_
             with_reducible refine (patchbayref2_Digits.calls kj6 (wrap64 (20 + (a0_8.size : Int))) 2 t201 _ A10.out).mono ?_
             rintro e w27 ⟨rfl, hb⟩
             refine ⟨_, rfl, ?_⟩
             have n0_ := Aside0.mk (blk_below (g := gb200) (Fit.pk BK200.out) hb)
             have n1_ := Aside0.mk (below_step (Fit.bl HB.out) hb)
             clear BK200
             clear HB
             have BK200 := n0_
             have HB := n1_
             clear n0_ n1_
             (try clear hb)
             (try clear hb2)
             (try clear hk)
             (try clear hi)
             refine hK.out _ _ ⟨(blk_cell BK200.out 0).trans rfl, (blk_cell BK200.out 1).trans rfl, (blk_cell BK200.out 2).trans rfl, (blk_cell BK200.out 3).trans rfl, (blk_cell BK200.out 4).trans rfl, (blk_cell BK200.out 5).trans rfl, (blk_cell BK200.out 6).trans rfl, (blk_cell BK200.out 7).trans rfl, (blk_cell BK200.out 8).trans rfl⟩ (fun hHeld => ?_)
             clear hK K
             refine norm_ (a' := ?_) ?_ ?_
             rotate_left
             ·show Act.put _ (some 21) _ = _
              simp only [Act.put, List.setIfInBounds_toArray, List.set_cons_zero, List.set_cons_succ, i64_w, i32_w]
              rfl
             refine pure_ (i := 5) (N := some 22) (v := ?_) (a' := ?_) #[true, true, true, true, true, true, true, true, false, false, true, false, false, true, true, false, false, true, true, false, false, true, false, false, true, true, true, false, false, true, true, true, false, false, false] rfl rfl (any_of HT_.out (by kernel_rfl)) (fun _ _ _ h => h) (Or.inl ⟨by rfl, ?_⟩) ?_ ?_
             rotate_left
             ·intro w'
              go_simp
              with_reducible rfl
             rotate_left
             ·simp only [Act.put, List.setIfInBounds_toArray, List.set_cons_zero, List.set_cons_succ, i64_w, i32_w]
              rfl
             refine one_ (i := 8) (N := some 25) #[true, true, true, true, true, true, true, true, true, false, true, false, false, true, true, false, false, true, true, false, false, true, false, false, true, true, true, false, false, true, true, true, false, false, false] rfl rfl (one_of HT_.out (by kernel_rfl)) (by decide) (fun K hK => ?_)
             refine goes_ Try.func13 (by kernel_rfl) rfl #[.int .i64 a0_4, .int .i64 2] (by rfl) rfl rfl (by (try simp only [List.map_toArray, List.map_cons, List.map_nil]); first | done | rfl | (simp only [List.length_drop, List.length_take]; rfl)) ?_
             with_reducible refine (patchbayref2_Digits.calls kj6 a0_4 2 t202 _ A12.out).mono ?_
             rintro e w28 ⟨rfl, hb⟩
             refine ⟨_, rfl, ?_⟩
             have n0_ := Aside0.mk (blk_below (g := gb200) (Fit.pk BK200.out) hb)
             have n1_ := Aside0.mk (below_step (Fit.bl HB.out) hb)
             clear BK200
             clear HB
             have BK200 := n0_
             have HB := n1_
             clear n0_ n1_
             (try clear hb)
             (try clear hb2)
             (try clear hk)
             (try clear hi)
             refine hK.out _ _ ⟨(blk_cell BK200.out 0).trans rfl, (blk_cell BK200.out 1).trans rfl, (blk_cell BK200.out 2).trans rfl, (blk_cell BK200.out 3).trans rfl, (blk_cell BK200.out 4).trans rfl, (blk_cell BK200.out 5).trans rfl, (blk_cell BK200.out 6).trans rfl, (blk_cell BK200.out 7).trans rfl, (blk_cell BK200.out 8).trans rfl⟩ (fun hHeld => ?_)
             clear hK K
             refine norm_ (a' := ?_) ?_ ?_
             rotate_left
             ·show Act.put _ (some 25) _ = _
              simp only [Act.put, List.setIfInBounds_toArray, List.set_cons_zero, List.set_cons_succ, i64_w, i32_w]
              rfl
             refine pure_ (i := 9) (N := some 26) (v := ?_) (a' := ?_) #[true, true, true, true, true, true, true, true, true, true, true, false, false, true, true, false, false, true, true, false, false, true, false, false, true, true, true, false, false, true, true, true, false, false, false] rfl rfl (any_of HT_.out (by kernel_rfl)) (fun _ _ _ h => h) (Or.inl ⟨by rfl, ?_⟩) ?_ ?_
             rotate_left
             ·intro w'
              go_simp
              with_reducible rfl
             rotate_left
             ·simp only [Act.put, List.setIfInBounds_toArray, List.set_cons_zero, List.set_cons_succ, i64_w, i32_w]
              rfl
             refine one_ (i := 11) (N := some 28) #[true, true, true, true, true, true, true, true, true, true, true, true, false, true, true, false, false, true, true, false, false, true, false, false, true, true, true, false, false, true, true, true, false, false, false] rfl rfl (one_of HT_.out (by kernel_rfl)) (by decide) (fun K hK => ?_)
             refine goes_ Try.func13 (by kernel_rfl) rfl #[.int .i64 x5_6, .int .i64 2] (by rfl) rfl rfl (by (try simp only [List.map_toArray, List.map_cons, List.map_nil]); first | done | rfl | (simp only [List.length_drop, List.length_take]; rfl)) ?_
             with_reducible refine (patchbayref2_Digits.calls kj6 x5_6 2 t203 _ A14.out).mono ?_
             rintro e w29 ⟨rfl, hb⟩
             refine ⟨_, rfl, ?_⟩
             have n0_ := Aside0.mk (blk_below (g := gb200) (Fit.pk BK200.out) hb)
             have n1_ := Aside0.mk (below_step (Fit.bl HB.out) hb)
             clear BK200
             clear HB
             have BK200 := n0_
             have HB := n1_
             clear n0_ n1_
             (try clear hb)
             (try clear hb2)
             (try clear hk)
             (try clear hi)
             refine hK.out _ _ ⟨(blk_cell BK200.out 0).trans rfl, (blk_cell BK200.out 1).trans rfl, (blk_cell BK200.out 2).trans rfl, (blk_cell BK200.out 3).trans rfl, (blk_cell BK200.out 4).trans rfl, (blk_cell BK200.out 5).trans rfl, (blk_cell BK200.out 6).trans rfl, (blk_cell BK200.out 7).trans rfl, (blk_cell BK200.out 8).trans rfl⟩ (fun hHeld => ?_)
             clear hK K
             refine norm_ (a' := ?_) ?_ ?_
             rotate_left
             ·show Act.put _ (some 28) _ = _
              simp only [Act.put, List.setIfInBounds_toArray, List.set_cons_zero, List.set_cons_succ, i64_w, i32_w]
              rfl
             refine pure_ (i := 12) (N := some 29) (v := ?_) (a' := ?_) #[true, true, true, true, true, true, true, true, true, true, true, true, true, true, true, false, false, true, true, false, false, true, false, false, true, true, true, false, false, true, true, true, false, false, false] rfl rfl (any_of HT_.out (by kernel_rfl)) (fun _ _ _ h => h) (Or.inl ⟨by rfl, ?_⟩) ?_ ?_
             rotate_left
             ·intro w'
              go_simp
              with_reducible rfl
             rotate_left
             ·simp only [Act.put, List.setIfInBounds_toArray, List.set_cons_zero, List.set_cons_succ, i64_w, i32_w]
              rfl
             refine one_ (i := 15) (N := some 32) #[true, true, true, true, true, true, true, true, true, true, true, true, true, true, true, true, false, true, true, false, false, true, false, false, true, true, true, false, false, true, true, true, false, false, false] rfl rfl (one_of HT_.out (by kernel_rfl)) (by decide) (fun K hK => ?_)
             refine goes_ Try.func13 (by kernel_rfl) rfl #[.int .i64 a0_3, .int .i64 1] (by rfl) rfl rfl (by (try simp only [List.map_toArray, List.map_cons, List.map_nil]); first | done | rfl | (simp only [List.length_drop, List.length_take]; rfl)) ?_
             with_reducible refine (patchbayref2_Digits.calls kj6 a0_3 1 t204 _ A16.out).mono ?_
             rintro e w30 ⟨rfl, hb⟩
             refine ⟨_, rfl, ?_⟩
             have n0_ := Aside0.mk (blk_below (g := gb200) (Fit.pk BK200.out) hb)
             have n1_ := Aside0.mk (below_step (Fit.bl HB.out) hb)
             clear BK200
             clear HB
             have BK200 := n0_
             have HB := n1_
             clear n0_ n1_
             (try clear hb)
             (try clear hb2)
             (try clear hk)
             (try clear hi)
             refine hK.out _ _ ⟨(blk_cell BK200.out 0).trans rfl, (blk_cell BK200.out 1).trans rfl, (blk_cell BK200.out 2).trans rfl, (blk_cell BK200.out 3).trans rfl, (blk_cell BK200.out 4).trans rfl, (blk_cell BK200.out 5).trans rfl, (blk_cell BK200.out 6).trans rfl, (blk_cell BK200.out 7).trans rfl, (blk_cell BK200.out 8).trans rfl⟩ (fun hHeld => ?_)
             clear hK K
             refine norm_ (a' := ?_) ?_ ?_
             rotate_left
             ·show Act.put _ (some 32) _ = _
              simp only [Act.put, List.setIfInBounds_toArray, List.set_cons_zero, List.set_cons_succ, i64_w, i32_w]
              rfl
             refine pure_ (i := 16) (N := some 33) (v := ?_) (a' := ?_) #[true, true, true, true, true, true, true, true, true, true, true, true, true, true, true, true, true, true, true, false, false, true, false, false, true, true, true, false, false, true, true, true, false, false, false] rfl rfl (any_of HT_.out (by kernel_rfl)) (fun _ _ _ h => h) (Or.inl ⟨by rfl, ?_⟩) ?_ ?_
             rotate_left
             ·intro w'
              go_simp
              with_reducible rfl
             rotate_left
             ·simp only [Act.put, List.setIfInBounds_toArray, List.set_cons_zero, List.set_cons_succ, i64_w, i32_w]
              rfl
             refine one_ (i := 19) (N := some 36) #[true, true, true, true, true, true, true, true, true, true, true, true, true, true, true, true, true, true, true, true, false, true, false, false, true, true, true, false, false, true, true, true, false, false, false] rfl rfl (one_of HT_.out (by kernel_rfl)) (by decide) (fun K hK => ?_)
             refine goes_ Try.func13 (by kernel_rfl) rfl #[.int .i64 a0_2, .int .i64 1] (by rfl) rfl rfl (by (try simp only [List.map_toArray, List.map_cons, List.map_nil]); first | done | rfl | (simp only [List.length_drop, List.length_take]; rfl)) ?_
             with_reducible refine (patchbayref2_Digits.calls kj6 a0_2 1 t205 _ A18.out).mono ?_
             rintro e w31 ⟨rfl, hb⟩
             refine ⟨_, rfl, ?_⟩
             have n0_ := Aside0.mk (blk_below (g := gb200) (Fit.pk BK200.out) hb)
             have n1_ := Aside0.mk (below_step (Fit.bl HB.out) hb)
             clear BK200
             clear HB
             have BK200 := n0_
             have HB := n1_
             clear n0_ n1_
             (try clear hb)
             (try clear hb2)
             (try clear hk)
             (try clear hi)
             refine hK.out _ _ ⟨(blk_cell BK200.out 0).trans rfl, (blk_cell BK200.out 1).trans rfl, (blk_cell BK200.out 2).trans rfl, (blk_cell BK200.out 3).trans rfl, (blk_cell BK200.out 4).trans rfl, (blk_cell BK200.out 5).trans rfl, (blk_cell BK200.out 6).trans rfl, (blk_cell BK200.out 7).trans rfl, (blk_cell BK200.out 8).trans rfl⟩ (fun hHeld => ?_)
             clear hK K
             refine norm_ (a' := ?_) ?_ ?_
             rotate_left
             ·show Act.put _ (some 36) _ = _
              simp only [Act.put, List.setIfInBounds_toArray, List.set_cons_zero, List.set_cons_succ, i64_w, i32_w]
              rfl
             refine pure_ (i := 20) (N := some 37) (v := ?_) (a' := ?_) #[true, true, true, true, true, true, true, true, true, true, true, true, true, true, true, true, true, true, true, true, true, true, false, false, true, true, true, false, false, true, true, true, false, false, false] rfl rfl (any_of HT_.out (by kernel_rfl)) (fun _ _ _ h => h) (Or.inl ⟨by rfl, ?_⟩) ?_ ?_
             rotate_left
             ·intro w'
              go_simp
              with_reducible rfl
             rotate_left
             ·simp only [Act.put, List.setIfInBounds_toArray, List.set_cons_zero, List.set_cons_succ, i64_w, i32_w]
              rfl
             refine one_ (i := 22) (N := some 39) #[true, true, true, true, true, true, true, true, true, true, true, true, true, true, true, true, true, true, true, true, true, true, true, false, true, true, true, false, false, true, true, true, false, false, false] rfl rfl (one_of HT_.out (by kernel_rfl)) (by decide) (fun K hK => ?_)
             refine goes_ Try.func13 (by kernel_rfl) rfl #[.int .i64 a1, .int .i64 2] (by rfl) rfl rfl (by (try simp only [List.map_toArray, List.map_cons, List.map_nil]); first | done | rfl | (simp only [List.length_drop, List.length_take]; rfl)) ?_
             with_reducible refine (patchbayref2_Digits.calls kj6 a1 2 t206 _ A20.out).mono ?_
             rintro e w32 ⟨rfl, hb⟩
             refine ⟨_, rfl, ?_⟩
             have n0_ := Aside0.mk (blk_below (g := gb200) (Fit.pk BK200.out) hb)
             have n1_ := Aside0.mk (below_step (Fit.bl HB.out) hb)
             clear BK200
             clear HB
             have BK200 := n0_
             have HB := n1_
             clear n0_ n1_
             (try clear hb)
             (try clear hb2)
             (try clear hk)
             (try clear hi)
             refine hK.out _ _ ⟨(blk_cell BK200.out 0).trans rfl, (blk_cell BK200.out 1).trans rfl, (blk_cell BK200.out 2).trans rfl, (blk_cell BK200.out 3).trans rfl, (blk_cell BK200.out 4).trans rfl, (blk_cell BK200.out 5).trans rfl, (blk_cell BK200.out 6).trans rfl, (blk_cell BK200.out 7).trans rfl, (blk_cell BK200.out 8).trans rfl⟩ (fun hHeld => ?_)
             clear hK K
             refine norm_ (a' := ?_) ?_ ?_
             rotate_left
             ·show Act.put _ (some 39) _ = _
              simp only [Act.put, List.setIfInBounds_toArray, List.set_cons_zero, List.set_cons_succ, i64_w, i32_w]
              rfl
             refine pure_ (i := 23) (N := some 40) (v := ?_) (a' := ?_) #[true, true, true, true, true, true, true, true, true, true, true, true, true, true, true, true, true, true, true, true, true, true, true, true, true, true, true, false, false, true, true, true, false, false, false] rfl rfl (any_of HT_.out (by kernel_rfl)) (fun _ _ _ h => h) (Or.inl ⟨by rfl, ?_⟩) ?_ ?_
             rotate_left
             ·intro w'
              go_simp
              with_reducible rfl
             rotate_left
             ·simp only [Act.put, List.setIfInBounds_toArray, List.set_cons_zero, List.set_cons_succ, i64_w, i32_w]
              rfl
             refine one_ (i := 27) (N := some 44) #[true, true, true, true, true, true, true, true, true, true, true, true, true, true, true, true, true, true, true, true, true, true, true, true, true, true, true, true, false, true, true, true, false, false, false] rfl rfl (one_of HT_.out (by kernel_rfl)) (by decide) (fun K hK => ?_)
             refine goes_ Try.func13 (by kernel_rfl) rfl #[.int .i64 (wrap64 (a0_0)), .int .i64 4] (by rfl) rfl rfl (by (try simp only [List.map_toArray, List.map_cons, List.map_nil]); first | done | rfl | (simp only [List.length_drop, List.length_take]; rfl)) ?_
             with_reducible refine (patchbayref2_Digits.calls kj6 (wrap64 (a0_0)) 4 t207 _ A22.out).mono ?_
             rintro e w33 ⟨rfl, hb⟩
             refine ⟨_, rfl, ?_⟩
             have n0_ := Aside0.mk (blk_below (g := gb200) (Fit.pk BK200.out) hb)
             have n1_ := Aside0.mk (below_step (Fit.bl HB.out) hb)
             clear BK200
             clear HB
             have BK200 := n0_
             have HB := n1_
             clear n0_ n1_
             (try clear hb)
             (try clear hb2)
             (try clear hk)
             (try clear hi)
             refine hK.out _ _ ⟨(blk_cell BK200.out 0).trans rfl, (blk_cell BK200.out 1).trans rfl, (blk_cell BK200.out 2).trans rfl, (blk_cell BK200.out 3).trans rfl, (blk_cell BK200.out 4).trans rfl, (blk_cell BK200.out 5).trans rfl, (blk_cell BK200.out 6).trans rfl, (blk_cell BK200.out 7).trans rfl, (blk_cell BK200.out 8).trans rfl⟩ (fun hHeld => ?_)
             clear hK K
             refine norm_ (a' := ?_) ?_ ?_
             rotate_left
             ·show Act.put _ (some 44) _ = _
              simp only [Act.put, List.setIfInBounds_toArray, List.set_cons_zero, List.set_cons_succ, i64_w, i32_w]
              rfl
             refine pure_ (i := 28) (N := some 45) (v := ?_) (a' := ?_) #[true, true, true, true, true, true, true, true, true, true, true, true, true, true, true, true, true, true, true, true, true, true, true, true, true, true, true, true, true, true, true, true, false, false, false] rfl rfl (any_of HT_.out (by kernel_rfl)) (fun _ _ _ h => h) (Or.inl ⟨by rfl, ?_⟩) ?_ ?_
             rotate_left
             ·intro w'
              go_simp
              with_reducible rfl
             rotate_left
             ·simp only [Act.put, List.setIfInBounds_toArray, List.set_cons_zero, List.set_cons_succ, i64_w, i32_w]
              rfl
             refine one_ (i := 32) (N := some 49) #[true, true, true, true, true, true, true, true, true, true, true, true, true, true, true, true, true, true, true, true, true, true, true, true, true, true, true, true, true, true, true, true, true, false, false] rfl rfl (one_of HT_.out (by kernel_rfl)) (by decide) (fun K hK => ?_)
             refine goes_ Try.func13 (by kernel_rfl) rfl #[.int .i64 (wrap64 (a0_1)), .int .i64 4] (by rfl) rfl rfl (by (try simp only [List.map_toArray, List.map_cons, List.map_nil]); first | done | rfl | (simp only [List.length_drop, List.length_take]; rfl)) ?_
             with_reducible refine (patchbayref2_Digits.calls kj6 (wrap64 (a0_1)) 4 t208 _ A24.out).mono ?_
             rintro e w34 ⟨rfl, hb⟩
             refine ⟨_, rfl, ?_⟩
             have n0_ := Aside0.mk (blk_below (g := gb200) (Fit.pk BK200.out) hb)
             have n1_ := Aside0.mk (below_step (Fit.bl HB.out) hb)
             clear BK200
             clear HB
             have BK200 := n0_
             have HB := n1_
             clear n0_ n1_
             (try clear hb)
             (try clear hb2)
             (try clear hk)
             (try clear hi)
             refine hK.out _ _ ⟨(blk_cell BK200.out 0).trans rfl, (blk_cell BK200.out 1).trans rfl, (blk_cell BK200.out 2).trans rfl, (blk_cell BK200.out 3).trans rfl, (blk_cell BK200.out 4).trans rfl, (blk_cell BK200.out 5).trans rfl, (blk_cell BK200.out 6).trans rfl, (blk_cell BK200.out 7).trans rfl, (blk_cell BK200.out 8).trans rfl⟩ (fun hHeld => ?_)
             clear hK K
             refine norm_ (a' := ?_) ?_ ?_
             rotate_left
             ·show Act.put _ (some 49) _ = _
              simp only [Act.put, List.setIfInBounds_toArray, List.set_cons_zero, List.set_cons_succ, i64_w, i32_w]
              rfl
             refine pure_ (i := 33) (N := some 50) (v := ?_) (a' := ?_) #[true, true, true, true, true, true, true, true, true, true, true, true, true, true, true, true, true, true, true, true, true, true, true, true, true, true, true, true, true, true, true, true, true, true, false] rfl rfl (any_of HT_.out (by kernel_rfl)) (fun _ _ _ h => h) (Or.inl ⟨by rfl, ?_⟩) ?_ ?_
             rotate_left
             ·intro w'
              go_simp
              with_reducible rfl
             rotate_left
             ·simp only [Act.put, List.setIfInBounds_toArray, List.set_cons_zero, List.set_cons_succ, i64_w, i32_w]
              rfl
             refine pure_ (i := 34) (N := some 4) (v := ?_) (a' := ?_) #[true, true, true, true, true, true, true, true, true, true, true, true, true, true, true, true, true, true, true, true, true, true, true, true, true, true, true, true, true, true, true, true, true, true, true] rfl rfl (any_of HT_.out (by kernel_rfl)) (fun _ _ _ h => h) (Or.inl ⟨by rfl, ?_⟩) ?_ ?_
             rotate_left
             ·intro w'
              go_simp
              with_reducible rfl
             rotate_left
             ·simp only [Act.put, List.setIfInBounds_toArray, List.set_cons_zero, List.set_cons_succ, i64_w, i32_w]
              rfl
             refine done_ (done_of HT_.out (by kernel_rfl)) ?_
             try go_wp2
             go_ret
             exact ⟨by first | rfl | (simp [errW_none, errW_some] <;> rfl) | (simp [*, errW_none, errW_some] <;> rfl), Fit.bl HB.out⟩
            ·rw [if_neg c25] at H
             exact absurd H (by simp)
           ·rw [if_neg c23] at H
            exact absurd H (by simp)
          ·rw [if_neg c21] at H
           exact absurd H (by simp)
         ·rw [if_neg c19] at H
          exact absurd H (by simp)
        ·rw [if_neg c17] at H
         exact absurd H (by simp)
       ·rw [if_neg c15] at H
        exact absurd H (by simp)
      ·rw [if_neg c13] at H
       exact absurd H (by simp)
     ·rw [if_neg c11] at H
      exact absurd H (by simp)

end Go.Proofs.Ythpohaafphaidaa.GFaultTells
