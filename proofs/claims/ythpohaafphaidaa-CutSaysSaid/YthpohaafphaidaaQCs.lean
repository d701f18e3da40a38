/- What SamePackets returns of two lists that are equal. -/
import Derived.Test.YthpohaafphaidaaQCp
import Derived.LoopTactic
import Derived.IntWalk
import Derived.Lib.Hide
import Derived.Outline
namespace Go.Proofs.Ythpohaafphaidaa.Cs
open Go.RowKit Go.Proofs.YthpohaafphaidaaW.PrintWords Go.Proofs.YthpohaafphaidaaW.PrintLast Go.Proofs.YthpohaafphaidaaW.PrintMore Go.Proofs.Ythpohaafphaidaa.Pl Go.Proofs.Ythpohaafphaidaa.GCutSays Go.Proofs.Ythpohaafphaidaa.Cp
attribute [local go_sem] max2_int min2_int max_two min_two max_three min_three max_four min_four
set_option linter.unusedVariables false
set_option linter.unusedSimpArgs false
/-- a packet's parts -/
def key (x : S30) : Int × Int × Int × Int × Int × Int × Bool × Bool × List UInt8 := (x.f0, x.f1, x.f2, x.f3, x.f4, x.f5, x.f6, x.f7, x.f8.data.toList)
instance decA : DecidableEq (Bool × Bool × List UInt8) := inferInstance
instance decB : DecidableEq (Int × Bool × Bool × List UInt8) := inferInstance
instance decC : DecidableEq (Int × Int × Bool × Bool × List UInt8) := inferInstance
instance decD : DecidableEq (Int × Int × Int × Bool × Bool × List UInt8) := inferInstance
instance decE : DecidableEq (Int × Int × Int × Int × Bool × Bool × List UInt8) := inferInstance
instance decF : DecidableEq (Int × Int × Int × Int × Int × Bool × Bool × List UInt8) := inferInstance
instance decG : DecidableEq (Int × Int × Int × Int × Int × Int × Bool × Bool × List UInt8) := inferInstance
instance keysDec (l m : List S30) : Decidable (l.map key = m.map key) := inferInstance
theorem key_inj {x y : S30} (h : key x = key y) : x = y := by
  cases x; cases y
  simp only [key, Prod.mk.injEq] at h
  obtain ⟨rfl, rfl, rfl, rfl, rfl, rfl, rfl, rfl, h8⟩ := h
  have e := ByteArray.ext (Array.toList_inj.1 h8)
  subst e
  rfl
theorem keys_inj : ∀ {l m : List S30}, l.map key = m.map key → l = m := by
  intro l
  induction l with
  | nil => intro m h; cases m with
    | nil => rfl
    | cons y m => simp at h
  | cons x l ih => intro m h; cases m with
    | nil => simp at h
    | cons y m =>
      simp only [List.map_cons, List.cons.injEq] at h
      rw [key_inj h.1, ih h.2]
set_option maxHeartbeats 8000000 in
set_option maxRecDepth 100000 in
theorem Same_walk (A0 : Option Addr) (c0 : Nat) (l : List S30) (A1 : Option Addr) (c1 : Nat) (w : World) (hl : l.length ≤ 1000000) (hr0 : Kd.C k30 w A0 l.length l) (hc0 : l.length ≤ c0) (hr1 : Kd.C k30 w A1 l.length l) (hc1 : l.length ≤ c1) :
    Calls Try.prog 21 #[.slice A0 l.length c0, .slice A1 l.length c1] w fun e w' => e = .returned (.bool true) ∧ Below w.heap.size w w' := by
  have hu30 := Try.underlying30
  have HR0 := Aside0.mk hr0
  have HR1 := Aside0.mk hr1
  clear hr0 hr1
  have HB := Aside0.mk (Below.refl w.heap.size w)
  go_enter Try.func21, Try.ntmps21
  go_wp2
  repeat (go_quiet (fail); try go_wp2)
  go_loopw [14] (fun v14 wr => ∃ i : Int, 0 ≤ i ∧ i ≤ (l.length : Int) ∧ v14 = .int .i64 i ∧ Aside0 (Below w.heap.size w wr)) (fun v14 _ => 2000000 - (intOf v14).toNat)
  case atStart => exact ⟨0, by omega, by omega, by simp, ⟨Fit.bl HB.out⟩⟩
  case round =>
    clear HB
    obtain ⟨i, h0i, hi, rfl, HB⟩ := hrel
    by_cases hlt : i < (l.length : Int)
    · obtain ⟨ad, ea, ga⟩ := at_T30 HR0.out i h0i hlt
      obtain ⟨bd, eb, gb⟩ := at_T30 HR1.out i h0i hlt
      subst ea
      subst eb
      generalize (rd_T30 l i).f0 = y0 at ga gb
      generalize (rd_T30 l i).f1 = y1 at ga gb
      generalize (rd_T30 l i).f2 = y2 at ga gb
      generalize (rd_T30 l i).f3 = y3 at ga gb
      generalize (rd_T30 l i).f4 = y4 at ga gb
      generalize (rd_T30 l i).f5 = y5 at ga gb
      generalize (rd_T30 l i).f6 = y6 at ga gb
      generalize (rd_T30 l i).f7 = y7 at ga gb
      generalize (rd_T30 l i).f8 = y8 at ga gb
      have p1_ := eq_true h0i
      have p2_ := eq_true hlt
      have ha := Aside0.mk ga
      have hb := Aside0.mk gb
      clear ga gb
      have pa0 := (HB.out.cell (World.block_lt_of_cell? w _ ha.out.1)).trans ha.out.1
      have pa1 := (HB.out.cell (World.block_lt_of_cell? w _ ha.out.2.1)).trans ha.out.2.1
      have pa2 := (HB.out.cell (World.block_lt_of_cell? w _ ha.out.2.2.1)).trans ha.out.2.2.1
      have pa3 := (HB.out.cell (World.block_lt_of_cell? w _ ha.out.2.2.2.1)).trans ha.out.2.2.2.1
      have pa4 := (HB.out.cell (World.block_lt_of_cell? w _ ha.out.2.2.2.2.1)).trans ha.out.2.2.2.2.1
      have pa5 := (HB.out.cell (World.block_lt_of_cell? w _ ha.out.2.2.2.2.2.1)).trans ha.out.2.2.2.2.2.1
      have pa6 := (HB.out.cell (World.block_lt_of_cell? w _ ha.out.2.2.2.2.2.2.1)).trans ha.out.2.2.2.2.2.2.1
      have pa7 := (HB.out.cell (World.block_lt_of_cell? w _ ha.out.2.2.2.2.2.2.2.1)).trans ha.out.2.2.2.2.2.2.2.1
      have pa8 := (HB.out.cell (World.block_lt_of_cell? w _ ha.out.2.2.2.2.2.2.2.2)).trans ha.out.2.2.2.2.2.2.2.2
      have pb0 := (HB.out.cell (World.block_lt_of_cell? w _ hb.out.1)).trans hb.out.1
      have pb1 := (HB.out.cell (World.block_lt_of_cell? w _ hb.out.2.1)).trans hb.out.2.1
      have pb2 := (HB.out.cell (World.block_lt_of_cell? w _ hb.out.2.2.1)).trans hb.out.2.2.1
      have pb3 := (HB.out.cell (World.block_lt_of_cell? w _ hb.out.2.2.2.1)).trans hb.out.2.2.2.1
      have pb4 := (HB.out.cell (World.block_lt_of_cell? w _ hb.out.2.2.2.2.1)).trans hb.out.2.2.2.2.1
      have pb5 := (HB.out.cell (World.block_lt_of_cell? w _ hb.out.2.2.2.2.2.1)).trans hb.out.2.2.2.2.2.1
      have pb6 := (HB.out.cell (World.block_lt_of_cell? w _ hb.out.2.2.2.2.2.2.1)).trans hb.out.2.2.2.2.2.2.1
      have pb7 := (HB.out.cell (World.block_lt_of_cell? w _ hb.out.2.2.2.2.2.2.2.1)).trans hb.out.2.2.2.2.2.2.2.1
      have pb8 := (HB.out.cell (World.block_lt_of_cell? w _ hb.out.2.2.2.2.2.2.2.2)).trans hb.out.2.2.2.2.2.2.2.2
      go_upto_region 6 with (first | ((with_reducible refine gate_dst (N := 6) rfl ?_); refine box_event ?hg (N := 6) ?hd (cs := #[.int .u32 0, .int .u32 0, .int .i64 0, .int .i64 0, .int .i64 0, .int .i64 0, .bool false, .bool false, .string (⟨#[]⟩ : ByteArray)]) (t := 30) ?hr ?_; (case hd => rfl); (case hg => rfl); (case hr => first | (go_simp; done) | (go_simp; rfl)); intro gq hg w16 hbox hb; have n2_ := Aside0.mk (below_step (Fit.bl HB.out) hb); have n3_ := Aside0.mk (hbox); have n4_ := Aside0.mk ((by rw [hg]; exact (below_size (Fit.bl HB.out)) : w.heap.size ≤ gq)); clear HB; have HB := n2_; have BQ := n3_; have GQ := n4_; clear n2_ n3_ n4_; clear hb hbox hg; obtain ⟨hcz18_0, hcz18_1, hcz18_2, hcz18_3, hcz18_4, hcz18_5, hcz18_6, hcz18_7, hcz18_8, hfz18_0⟩ := Fit.cells9 BQ.out))
      (try simp only [Act.put, List.setIfInBounds_toArray, List.set_cons_zero, List.set_cons_succ])
      have n1_ : Aside0 ((((((((((w16.setCell ⟨gq, 0, none⟩ (.int .u32 y0)).setCell ⟨gq, 1, none⟩ (.int .u32 y1)).setCell ⟨gq, 2, none⟩ (.int .i64 y2)).setCell ⟨gq, 3, none⟩ (.int .i64 y3)).setCell ⟨gq, 4, none⟩ (.int .i64 y4)).setCell ⟨gq, 5, none⟩ (.int .i64 y5)).setCell ⟨gq, 6, none⟩ (.bool y6)).setCell ⟨gq, 7, none⟩ (.bool y7)).setCell ⟨gq, 8, none⟩ (.string y8)).heap[gq]? = some (.cells #[.int .u32 y0, .int .u32 y1, .int .i64 y2, .int .i64 y3, .int .i64 y4, .int .i64 y5, .bool y6, .bool y7, .string y8] 30 (0, 0))) := ⟨put9 (.int .u32 y0) (.int .u32 y1) (.int .i64 y2) (.int .i64 y3) (.int .i64 y4) (.int .i64 y5) (.bool y6) (.bool y7) (.string y8) BQ.out⟩
      have n2_ : Aside0 (Below w.heap.size w (((((((((w16.setCell ⟨gq, 0, none⟩ (.int .u32 y0)).setCell ⟨gq, 1, none⟩ (.int .u32 y1)).setCell ⟨gq, 2, none⟩ (.int .i64 y2)).setCell ⟨gq, 3, none⟩ (.int .i64 y3)).setCell ⟨gq, 4, none⟩ (.int .i64 y4)).setCell ⟨gq, 5, none⟩ (.int .i64 y5)).setCell ⟨gq, 6, none⟩ (.bool y6)).setCell ⟨gq, 7, none⟩ (.bool y7)).setCell ⟨gq, 8, none⟩ (.string y8))) := ⟨below9 (.int .u32 y0) (.int .u32 y1) (.int .i64 y2) (.int .i64 y3) (.int .i64 y4) (.int .i64 y5) (.bool y6) (.bool y7) (.string y8) HB.out GQ.out⟩
      clear BQ HB
      generalize (((((((((w16.setCell ⟨gq, 0, none⟩ (.int .u32 y0)).setCell ⟨gq, 1, none⟩ (.int .u32 y1)).setCell ⟨gq, 2, none⟩ (.int .i64 y2)).setCell ⟨gq, 3, none⟩ (.int .i64 y3)).setCell ⟨gq, 4, none⟩ (.int .i64 y4)).setCell ⟨gq, 5, none⟩ (.int .i64 y5)).setCell ⟨gq, 6, none⟩ (.bool y6)).setCell ⟨gq, 7, none⟩ (.bool y7)).setCell ⟨gq, 8, none⟩ (.string y8)) = w17 at n1_ n2_ ⊢
      have BQ := n1_
      have HB := n2_
      clear n1_ n2_
      obtain ⟨hq_0, hq_1, hq_2, hq_3, hq_4, hq_5, hq_6, hq_7, hq_8, hqf⟩ := Fit.cells9 BQ.out
      have qa0 := (HB.out.cell (World.block_lt_of_cell? w _ ha.out.1)).trans ha.out.1
      have qa1 := (HB.out.cell (World.block_lt_of_cell? w _ ha.out.2.1)).trans ha.out.2.1
      have qa2 := (HB.out.cell (World.block_lt_of_cell? w _ ha.out.2.2.1)).trans ha.out.2.2.1
      have qa3 := (HB.out.cell (World.block_lt_of_cell? w _ ha.out.2.2.2.1)).trans ha.out.2.2.2.1
      have qa4 := (HB.out.cell (World.block_lt_of_cell? w _ ha.out.2.2.2.2.1)).trans ha.out.2.2.2.2.1
      have qa5 := (HB.out.cell (World.block_lt_of_cell? w _ ha.out.2.2.2.2.2.1)).trans ha.out.2.2.2.2.2.1
      have qa6 := (HB.out.cell (World.block_lt_of_cell? w _ ha.out.2.2.2.2.2.2.1)).trans ha.out.2.2.2.2.2.2.1
      have qa7 := (HB.out.cell (World.block_lt_of_cell? w _ ha.out.2.2.2.2.2.2.2.1)).trans ha.out.2.2.2.2.2.2.2.1
      have qa8 := (HB.out.cell (World.block_lt_of_cell? w _ ha.out.2.2.2.2.2.2.2.2)).trans ha.out.2.2.2.2.2.2.2.2
      have qb0 := (HB.out.cell (World.block_lt_of_cell? w _ hb.out.1)).trans hb.out.1
      have qb1 := (HB.out.cell (World.block_lt_of_cell? w _ hb.out.2.1)).trans hb.out.2.1
      have qb2 := (HB.out.cell (World.block_lt_of_cell? w _ hb.out.2.2.1)).trans hb.out.2.2.1
      have qb3 := (HB.out.cell (World.block_lt_of_cell? w _ hb.out.2.2.2.1)).trans hb.out.2.2.2.1
      have qb4 := (HB.out.cell (World.block_lt_of_cell? w _ hb.out.2.2.2.2.1)).trans hb.out.2.2.2.2.1
      have qb5 := (HB.out.cell (World.block_lt_of_cell? w _ hb.out.2.2.2.2.2.1)).trans hb.out.2.2.2.2.2.1
      have qb6 := (HB.out.cell (World.block_lt_of_cell? w _ hb.out.2.2.2.2.2.2.1)).trans hb.out.2.2.2.2.2.2.1
      have qb7 := (HB.out.cell (World.block_lt_of_cell? w _ hb.out.2.2.2.2.2.2.2.1)).trans hb.out.2.2.2.2.2.2.2.1
      have qb8 := (HB.out.cell (World.block_lt_of_cell? w _ hb.out.2.2.2.2.2.2.2.2)).trans hb.out.2.2.2.2.2.2.2.2
      go_quiet (fail)
      go_wp2
      go_roundw
      case rel => exact ⟨i + 1, by omega, by omega, by first | rfl | go_num, ⟨Fit.bl HB.out⟩⟩
      case measure => simp [intOf]; omega
    · obtain rfl : i = (l.length : Int) := by omega
      go_wp2
      go_ret
      exact ⟨rfl, HB.out⟩
end Go.Proofs.Ythpohaafphaidaa.Cs
