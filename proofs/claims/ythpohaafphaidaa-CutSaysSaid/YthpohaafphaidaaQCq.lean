/- What Pieces returns. -/
import Derived.Test.YthpohaafphaidaaQCp
import Derived.LoopTactic
import Derived.IntWalk
import Derived.Outline
import Derived.Lib.Hide
namespace Go.Proofs.Ythpohaafphaidaa.Cq
open Go.RowKit Go.Proofs.YthpohaafphaidaaW.PrintWords Go.Proofs.YthpohaafphaidaaW.PrintLast Go.Proofs.YthpohaafphaidaaW.PrintMore Go.Proofs.Ythpohaafphaidaa.Pl Go.Proofs.Ythpohaafphaidaa.GCutSays Go.Proofs.Ythpohaafphaidaa.Cp
attribute [local go_sem] max2_int min2_int max_two min_two max_three min_three max_four min_four
set_option linter.unusedVariables false
set_option linter.unusedSimpArgs false
/-- what the loop has gathered -/
def lst (a0 a1 a2 a3 a4 o : Int) (m h : Bool) (b : ByteArray) (e M j : Nat) : List S30 := if j ≤ M then (List.range j).map (nl a0 a1 a2 a3 a4 o h b e) else pcs a0 a1 a2 a3 a4 o m h b e M
theorem mulb {e M j : Nat} (he : e ≤ 1500) (hM : M ≤ 60) (hj : j ≤ M) : (0 : Int) ≤ (j : Int) * (e : Int) ∧ (j : Int) * (e : Int) ≤ 90000 ∧ (0 : Int) ≤ (e : Int) * (j : Int) ∧ (e : Int) * (j : Int) ≤ 90000 := by
  have h1 : j * e ≤ 60 * 1500 := Nat.mul_le_mul (by omega) he
  have h2 : (j : Int) * (e : Int) = ((j * e : Nat) : Int) := (Int.natCast_mul j e).symm
  have h3 : (e : Int) * (j : Int) = ((j * e : Nat) : Int) := by rw [Int.mul_comm]; exact h2
  rw [h2, h3]
  omega
set_option maxHeartbeats 8000000 in
set_option maxRecDepth 100000 in
theorem Pieces_walk (a0 a1 a2 a3 a4 o : Int) (m h : Bool) (b : ByteArray) (n e M : Nat) (N : Num n e b.size M) (o0 : 0 ≤ o) (o1 : o ≤ 65528) (w : World) :
    Calls Try.prog 20 #[.agg #[.int .u32 a0, .int .u32 a1, .int .i64 a2, .int .i64 a3, .int .i64 a4, .int .i64 o, .bool m, .bool h, .string b], .int .i64 (n : Int)] w fun e' w' => ∃ v0_ : Value, e' = .returned (v0_) ∧ Kd.R k30 30 w' w.heap.size (fun _ => True) v0_ (pcs a0 a1 a2 a3 a4 o m h b e M) ∧ Below w.heap.size w w' := by
  have hu30 := Try.underlying30
  have HB := Aside0.mk (Below.refl w.heap.size w)
  have hM := N.small
  have n0 := N.n0; have n1 := N.n1; have z1 := N.z1
  have HE := Lib.hid N.e0
  have he0 : 8 ≤ e := by have := N.e0; omega
  have he1 : e ≤ 1500 := by have := N.e0; omega
  have hq : ((n : Int) - 20) - ((n : Int) - 20) % 8 = (e : Int) := by have := N.e0; omega
  go_enter Try.func20, Try.ntmps20
  go_wp2_with (first | ((with_reducible refine gate_dst (N := 2) rfl ?_); refine box_event ?hg (N := 2) ?hd (cs := #[.int .u32 a0, .int .u32 a1, .int .i64 a2, .int .i64 a3, .int .i64 a4, .int .i64 o, .bool m, .bool h, .string b]) (t := 30) ?hr ?_; (case hd => rfl); (case hg => rfl); (case hr => first | (go_simp; done) | (go_simp; rfl)); intro gb hg w3 hbox hb; have n0_ := Aside0.mk (below_step (Fit.bl HB.out) hb); have n1_ := Aside0.mk (hbox); have n2_ := Aside0.mk ((by rw [hg]; exact (below_size (Fit.bl HB.out)) : w.heap.size ≤ gb)); clear HB; have HB := n0_; have BK := n1_; have GE := n2_; clear n0_ n1_ n2_; clear hb hbox hg))
  have HQ := Lib.hid hq
  clear hq
  go_loopw [6] (fun v6 wr => ∃ j : Nat, j ≤ M ∧ v6 = .int .i64 ((j : Int) + 1) ∧ Aside0 (wr.heap[gb]? = some (.cells #[.int .u32 a0, .int .u32 a1, .int .i64 a2, .int .i64 a3, .int .i64 a4, .int .i64 o, .bool m, .bool h, .string b] 30 (0, 0))) ∧ Aside0 (Below w.heap.size w wr)) (fun v6 _ => 100 - (intOf v6).toNat)
  case atStart => exact ⟨0, Nat.zero_le _, by simp, ⟨BK.out⟩, ⟨HB.out⟩⟩
  case round =>
    clear BK HB
    obtain ⟨j, hj, rfl, BK, HB⟩ := hrel
    obtain ⟨p0, p1, p2, p3⟩ := mulb he1 hM hj
    obtain ⟨c0, c1, c2, c3, c4, c5, c6, c7, c8, cf⟩ := Fit.cells9 BK.out
    by_cases hlt : j < M
    · have hc : decide ((e : Int) * (j : Int) + (n : Int) - 20 < (b.size : Int)) = true := by
        have := N.go j hlt
        have h3 : (e : Int) * (j : Int) = ((j * e : Nat) : Int) := by rw [Int.mul_comm]; exact (Int.natCast_mul j e).symm
        rw [h3]; exact decide_eq_true (by omega)
      go_wp2
      go_roundw
      case rel => exact ⟨j + 1, by omega, by go_num, BK, HB⟩
      case measure => simp [intOf]; omega
    · obtain rfl : j = M := by omega
      have hc : decide ((e : Int) * (j : Int) + (n : Int) - 20 < (b.size : Int)) = false := by
        have := N.st
        have h3 : (e : Int) * (j : Int) = ((j * e : Nat) : Int) := by rw [Int.mul_comm]; exact (Int.natCast_mul j e).symm
        rw [h3]; exact decide_eq_false (by omega)
      go_wp2
      go_loopw [7, 30] (fun v7 v30 wr => ∃ i : Nat, i ≤ j + 1 ∧ v30 = .int .i64 (i : Int) ∧ Aside0 (Kd.R k30 30 wr w.heap.size (fun k_ => k_ ≠ gb) v7 (lst a0 a1 a2 a3 a4 o m h b e j i)) ∧ Aside0 (wr.heap[gb]? = some (.cells #[.int .u32 a0, .int .u32 a1, .int .i64 a2, .int .i64 a3, .int .i64 a4, .int .i64 o, .bool m, .bool h, .string b] 30 (0, 0))) ∧ Aside0 (Below w.heap.size w wr)) (fun _ v30 _ => 100 - (intOf v30).toNat)
      case atStart => exact ⟨0, Nat.zero_le _, by simp, ⟨Kd.R_nil _ _ _ _ _⟩, BK, HB⟩
      case round =>
        clear BK HB
        obtain ⟨i, hi, rfl, HO, BK, HB⟩ := hrel
        by_cases hlt2 : i < j + 1
        · obtain ⟨p0, p1, p2, p3⟩ := mulb he1 hM (show i ≤ j by omega)
          have hcI : (i : Int) * (e : Int) = ((i * e : Nat) : Int) := (Int.natCast_mul i e).symm
          have endp : i * e ≤ b.size := by
            cases i with
            | zero => omega
            | succ i => have := N.at_ (j := i) (by omega); rw [Nat.succ_mul]; exact this
          have LM : Aside0 ((lst a0 a1 a2 a3 a4 o m h b e j i).length < 2199023255552) := ⟨by rw [lst, if_pos (by omega)]; simp; omega⟩
          by_cases hlt3 : i < j
          · have ha := N.at_ hlt3
            have HL0 : lst a0 a1 a2 a3 a4 o m h b e j i ++ [(⟨a0, a1, a2, a3, a4, o + ((i * e : Nat) : Int), true, h, (b.extract (i * e) b.size).extract 0 e⟩ : S30)] = lst a0 a1 a2 a3 a4 o m h b e j (i + 1) := by
              rw [lst, if_pos (by omega), lst, if_pos (by omega), List.range_succ, List.map_append, cut_cut b (i * e) 0 e (i * e + e) rfl ha (by omega)]; rfl
            generalize i * e = p at hcI endp ha HL0
            have HL := Lib.hid HL0
            clear HL0
            have hp0 : (0 : Int) ≤ (p : Int) := by omega
            have hp1 : (p : Int) ≤ (b.size : Int) := by omega
            have hp2 : (p : Int) ≤ 60 := by omega
            have he2 : e ≤ b.size - p := by omega
            have he3 : (e : Int) ≤ ((b.size - p : Nat) : Int) := by omega
            have hd1 : decide ((i : Int) < (j : Int)) = true := decide_eq_true (by omega)
            have hd2 : decide (i < j) = true := decide_eq_true hlt3
            clear p0 p1 p2 p3
            obtain ⟨c0, c1, c2, c3, c4, c5, c6, c7, c8, cf⟩ := Fit.cells9 BK.out
            go_upto_region 10 with (first | ((with_reducible refine gate_dst (N := 9) rfl ?_); refine box_event ?hg (N := 9) ?hd (cs := #[.int .u32 0, .int .u32 0, .int .i64 0, .int .i64 0, .int .i64 0, .int .i64 0, .bool false, .bool false, .string (⟨#[]⟩ : ByteArray)]) (t := 30) ?hr ?_; (case hd => rfl); (case hg => rfl); (case hr => first | (go_simp; done) | (go_simp; rfl)); intro gq hg w16 hbox hb; have n0_ := Aside0.mk (Kd.R_below (Kd.R_elderB HO.out gq (Nat.le_of_eq hg.symm)) hb); have n1_ := Aside0.mk (blk_below (g := gb) (Fit.pk BK.out) hb); have n2_ := Aside0.mk (below_step (Fit.bl HB.out) hb); have n3_ := Aside0.mk (hbox); have n4_ := Aside0.mk ((by rw [hg]; exact (below_size (Fit.bl HB.out)) : w.heap.size ≤ gq)); have n6_ := Aside0.mk ((by rw [hg]; exact Nat.ne_of_lt (blk_lt (g := gb) (Fit.pk BK.out)) : gb ≠ gq)); have n7_ := Aside0.mk ((by rw [hg]; exact Nat.ne_of_gt (blk_lt (g := gb) (Fit.pk BK.out)) : gq ≠ gb)); clear HO; clear BK; clear HB; have HO := n0_; have BK := n1_; have HB := n2_; have BQ := n3_; have GQ := n4_; have NQ1 := n6_; have NQ2 := n7_; clear n0_ n1_ n2_ n3_ n4_ n6_ n7_; clear hb hbox hg; have hnb17 := NQ1.out; have hnc17 := NQ2.out; obtain ⟨hcz18_0, hcz18_1, hcz18_2, hcz18_3, hcz18_4, hcz18_5, hcz18_6, hcz18_7, hcz18_8, hfz18_0⟩ := Fit.cells9 BQ.out; obtain ⟨hcz19_0, hcz19_1, hcz19_2, hcz19_3, hcz19_4, hcz19_5, hcz19_6, hcz19_7, hcz19_8, hfz19_0⟩ := Fit.cells9 BK.out))
            (try simp only [Act.put, List.setIfInBounds_toArray, List.set_cons_zero, List.set_cons_succ])
            have n0_ : Aside0 ((((((((((w16.setCell ⟨gq, 0, none⟩ (.int .u32 a0)).setCell ⟨gq, 1, none⟩ (.int .u32 a1)).setCell ⟨gq, 2, none⟩ (.int .i64 a2)).setCell ⟨gq, 3, none⟩ (.int .i64 a3)).setCell ⟨gq, 4, none⟩ (.int .i64 a4)).setCell ⟨gq, 5, none⟩ (.int .i64 o)).setCell ⟨gq, 6, none⟩ (.bool m)).setCell ⟨gq, 7, none⟩ (.bool h)).setCell ⟨gq, 8, none⟩ (.string b)).heap[gb]? = some (.cells #[.int .u32 a0, .int .u32 a1, .int .i64 a2, .int .i64 a3, .int .i64 a4, .int .i64 o, .bool m, .bool h, .string b] 30 (0, 0))) := ⟨far9 (.int .u32 a0) (.int .u32 a1) (.int .i64 a2) (.int .i64 a3) (.int .i64 a4) (.int .i64 o) (.bool m) (.bool h) (.string b) BK.out (Ne.symm NQ1.out)⟩
            have n1_ : Aside0 ((((((((((w16.setCell ⟨gq, 0, none⟩ (.int .u32 a0)).setCell ⟨gq, 1, none⟩ (.int .u32 a1)).setCell ⟨gq, 2, none⟩ (.int .i64 a2)).setCell ⟨gq, 3, none⟩ (.int .i64 a3)).setCell ⟨gq, 4, none⟩ (.int .i64 a4)).setCell ⟨gq, 5, none⟩ (.int .i64 o)).setCell ⟨gq, 6, none⟩ (.bool m)).setCell ⟨gq, 7, none⟩ (.bool h)).setCell ⟨gq, 8, none⟩ (.string b)).heap[gq]? = some (.cells #[.int .u32 a0, .int .u32 a1, .int .i64 a2, .int .i64 a3, .int .i64 a4, .int .i64 o, .bool m, .bool h, .string b] 30 (0, 0))) := ⟨put9 (.int .u32 a0) (.int .u32 a1) (.int .i64 a2) (.int .i64 a3) (.int .i64 a4) (.int .i64 o) (.bool m) (.bool h) (.string b) BQ.out⟩
            have n2_ : Aside0 (Below w.heap.size w (((((((((w16.setCell ⟨gq, 0, none⟩ (.int .u32 a0)).setCell ⟨gq, 1, none⟩ (.int .u32 a1)).setCell ⟨gq, 2, none⟩ (.int .i64 a2)).setCell ⟨gq, 3, none⟩ (.int .i64 a3)).setCell ⟨gq, 4, none⟩ (.int .i64 a4)).setCell ⟨gq, 5, none⟩ (.int .i64 o)).setCell ⟨gq, 6, none⟩ (.bool m)).setCell ⟨gq, 7, none⟩ (.bool h)).setCell ⟨gq, 8, none⟩ (.string b))) := ⟨below9 (.int .u32 a0) (.int .u32 a1) (.int .i64 a2) (.int .i64 a3) (.int .i64 a4) (.int .i64 o) (.bool m) (.bool h) (.string b) HB.out GQ.out⟩
            have n3_ : Aside0 (Kd.R k30 30 (((((((((w16.setCell ⟨gq, 0, none⟩ (.int .u32 a0)).setCell ⟨gq, 1, none⟩ (.int .u32 a1)).setCell ⟨gq, 2, none⟩ (.int .i64 a2)).setCell ⟨gq, 3, none⟩ (.int .i64 a3)).setCell ⟨gq, 4, none⟩ (.int .i64 a4)).setCell ⟨gq, 5, none⟩ (.int .i64 o)).setCell ⟨gq, 6, none⟩ (.bool m)).setCell ⟨gq, 7, none⟩ (.bool h)).setCell ⟨gq, 8, none⟩ (.string b)) w.heap.size (fun k_ => k_ ≠ gb ∧ k_ ≠ gq) u7 (lst a0 a1 a2 a3 a4 o m h b e j i)) := ⟨Kd.R_mono (Kd.R_far (p := ⟨gq, 8, none⟩) (Kd.R_far (p := ⟨gq, 7, none⟩) (Kd.R_far (p := ⟨gq, 6, none⟩) (Kd.R_far (p := ⟨gq, 5, none⟩) (Kd.R_far (p := ⟨gq, 4, none⟩) (Kd.R_far (p := ⟨gq, 3, none⟩) (Kd.R_far (p := ⟨gq, 2, none⟩) (Kd.R_far (p := ⟨gq, 1, none⟩) (Kd.R_far (p := ⟨gq, 0, none⟩) (Kd.R_mono HO.out (fun k_ hk => (⟨hk, hk.2⟩ : _ ∧ k_ ≠ gq))) (fun _ hk => hk.2) (.int .u32 a0)) (fun _ hk => hk.2) (.int .u32 a1)) (fun _ hk => hk.2) (.int .i64 a2)) (fun _ hk => hk.2) (.int .i64 a3)) (fun _ hk => hk.2) (.int .i64 a4)) (fun _ hk => hk.2) (.int .i64 o)) (fun _ hk => hk.2) (.bool m)) (fun _ hk => hk.2) (.bool h)) (fun _ hk => hk.2) (.string b)) (fun _ hk => hk.1)⟩
            clear BK BQ HB HO
            generalize (((((((((w16.setCell ⟨gq, 0, none⟩ (.int .u32 a0)).setCell ⟨gq, 1, none⟩ (.int .u32 a1)).setCell ⟨gq, 2, none⟩ (.int .i64 a2)).setCell ⟨gq, 3, none⟩ (.int .i64 a3)).setCell ⟨gq, 4, none⟩ (.int .i64 a4)).setCell ⟨gq, 5, none⟩ (.int .i64 o)).setCell ⟨gq, 6, none⟩ (.bool m)).setCell ⟨gq, 7, none⟩ (.bool h)).setCell ⟨gq, 8, none⟩ (.string b)) = w17 at n0_ n1_ n2_ n3_ ⊢
            have BK := n0_
            have BQ := n1_
            have HB := n2_
            have HO := n3_
            clear n0_ n1_ n2_ n3_
            obtain ⟨hca1_0, hca1_1, hca1_2, hca1_3, hca1_4, hca1_5, hca1_6, hca1_7, hca1_8, hfa1⟩ := Fit.cells9 BK.out
            obtain ⟨hca2_0, hca2_1, hca2_2, hca2_3, hca2_4, hca2_5, hca2_6, hca2_7, hca2_8, hfa2⟩ := Fit.cells9 BQ.out
            go_upto_region 11 with (fail)
            (try simp only [Act.put, List.setIfInBounds_toArray, List.set_cons_zero, List.set_cons_succ])
            have n0_ : Aside0 ((w17.setCell ⟨gq, 5, none⟩ (.int .i64 (o + (p : Int)))).heap[gb]? = some (.cells #[.int .u32 a0, .int .u32 a1, .int .i64 a2, .int .i64 a3, .int .i64 a4, .int .i64 o, .bool m, .bool h, .string b] 30 (0, 0))) := ⟨(blk_far BK.out NQ1.out (p := ⟨gq, 5, none⟩) (.int .i64 (o + (p : Int))))⟩
            have n1_ : Aside0 ((w17.setCell ⟨gq, 5, none⟩ (.int .i64 (o + (p : Int)))).heap[gq]? = some (.cells #[.int .u32 a0, .int .u32 a1, .int .i64 a2, .int .i64 a3, .int .i64 a4, .int .i64 (o + (p : Int)), .bool m, .bool h, .string b] 30 (0, 0))) := ⟨(blk_put BQ.out 5 (.int .i64 (o + (p : Int))) rfl)⟩
            have n2_ : Aside0 (Below w.heap.size w (w17.setCell ⟨gq, 5, none⟩ (.int .i64 (o + (p : Int))))) := ⟨(Below.setCell HB.out (p := ⟨gq, 5, none⟩) (by exact GQ.out) (.int .i64 (o + (p : Int))))⟩
            have n3_ : Aside0 (Kd.R k30 30 (w17.setCell ⟨gq, 5, none⟩ (.int .i64 (o + (p : Int)))) w.heap.size (fun k_ => k_ ≠ gb ∧ k_ ≠ gq) u7 (lst a0 a1 a2 a3 a4 o m h b e j i)) := ⟨Kd.R_mono (Kd.R_far (p := ⟨gq, 5, none⟩) (Kd.R_mono HO.out (fun k_ hk => (⟨hk, hk.2⟩ : _ ∧ k_ ≠ gq))) (fun _ hk => hk.2) (.int .i64 (o + (p : Int)))) (fun _ hk => hk.1)⟩
            clear BK BQ HB HO
            generalize (w17.setCell ⟨gq, 5, none⟩ (.int .i64 (o + (p : Int)))) = w18 at n0_ n1_ n2_ n3_ ⊢
            have BK := n0_
            have BQ := n1_
            have HB := n2_
            have HO := n3_
            clear n0_ n1_ n2_ n3_
            obtain ⟨hcb1_0, hcb1_1, hcb1_2, hcb1_3, hcb1_4, hcb1_5, hcb1_6, hcb1_7, hcb1_8, hfb1⟩ := Fit.cells9 BK.out
            obtain ⟨hcb2_0, hcb2_1, hcb2_2, hcb2_3, hcb2_4, hcb2_5, hcb2_6, hcb2_7, hcb2_8, hfb2⟩ := Fit.cells9 BQ.out
            go_upto_region 12 with (fail)
            (try simp only [Act.put, List.setIfInBounds_toArray, List.set_cons_zero, List.set_cons_succ])
            have n0_ : Aside0 ((w18.setCell ⟨gq, 8, none⟩ (.string (b.extract p b.size))).heap[gb]? = some (.cells #[.int .u32 a0, .int .u32 a1, .int .i64 a2, .int .i64 a3, .int .i64 a4, .int .i64 o, .bool m, .bool h, .string b] 30 (0, 0))) := ⟨(blk_far BK.out NQ1.out (p := ⟨gq, 8, none⟩) (.string (b.extract p b.size)))⟩
            have n1_ : Aside0 ((w18.setCell ⟨gq, 8, none⟩ (.string (b.extract p b.size))).heap[gq]? = some (.cells #[.int .u32 a0, .int .u32 a1, .int .i64 a2, .int .i64 a3, .int .i64 a4, .int .i64 (o + (p : Int)), .bool m, .bool h, .string (b.extract p b.size)] 30 (0, 0))) := ⟨(blk_put BQ.out 8 (.string (b.extract p b.size)) rfl)⟩
            have n2_ : Aside0 (Below w.heap.size w (w18.setCell ⟨gq, 8, none⟩ (.string (b.extract p b.size)))) := ⟨(Below.setCell HB.out (p := ⟨gq, 8, none⟩) (by exact GQ.out) (.string (b.extract p b.size)))⟩
            have n3_ : Aside0 (Kd.R k30 30 (w18.setCell ⟨gq, 8, none⟩ (.string (b.extract p b.size))) w.heap.size (fun k_ => k_ ≠ gb ∧ k_ ≠ gq) u7 (lst a0 a1 a2 a3 a4 o m h b e j i)) := ⟨Kd.R_mono (Kd.R_far (p := ⟨gq, 8, none⟩) (Kd.R_mono HO.out (fun k_ hk => (⟨hk, hk.2⟩ : _ ∧ k_ ≠ gq))) (fun _ hk => hk.2) (.string (b.extract p b.size))) (fun _ hk => hk.1)⟩
            clear BK BQ HB HO
            generalize (w18.setCell ⟨gq, 8, none⟩ (.string (b.extract p b.size))) = w19 at n0_ n1_ n2_ n3_ ⊢
            have BK := n0_
            have BQ := n1_
            have HB := n2_
            have HO := n3_
            clear n0_ n1_ n2_ n3_
            obtain ⟨hcc1_0, hcc1_1, hcc1_2, hcc1_3, hcc1_4, hcc1_5, hcc1_6, hcc1_7, hcc1_8, hfc1⟩ := Fit.cells9 BK.out
            obtain ⟨hcc2_0, hcc2_1, hcc2_2, hcc2_3, hcc2_4, hcc2_5, hcc2_6, hcc2_7, hcc2_8, hfc2⟩ := Fit.cells9 BQ.out
            go_upto_region 14 with (fail)
            (try simp only [Act.put, List.setIfInBounds_toArray, List.set_cons_zero, List.set_cons_succ])
            have n0_ : Aside0 (((w19.setCell ⟨gq, 8, none⟩ (.string ((b.extract p b.size).extract 0 e))).setCell ⟨gq, 6, none⟩ (.bool true)).heap[gb]? = some (.cells #[.int .u32 a0, .int .u32 a1, .int .i64 a2, .int .i64 a3, .int .i64 a4, .int .i64 o, .bool m, .bool h, .string b] 30 (0, 0))) := ⟨(blk_far (blk_far BK.out NQ1.out (p := ⟨gq, 8, none⟩) (.string ((b.extract p b.size).extract 0 e))) NQ1.out (p := ⟨gq, 6, none⟩) (.bool true))⟩
            have n1_ : Aside0 (((w19.setCell ⟨gq, 8, none⟩ (.string ((b.extract p b.size).extract 0 e))).setCell ⟨gq, 6, none⟩ (.bool true)).heap[gq]? = some (.cells #[.int .u32 a0, .int .u32 a1, .int .i64 a2, .int .i64 a3, .int .i64 a4, .int .i64 (o + (p : Int)), .bool true, .bool h, .string ((b.extract p b.size).extract 0 e)] 30 (0, 0))) := ⟨(blk_put (blk_put BQ.out 8 (.string ((b.extract p b.size).extract 0 e)) rfl) 6 (.bool true) rfl)⟩
            have n2_ : Aside0 (Below w.heap.size w ((w19.setCell ⟨gq, 8, none⟩ (.string ((b.extract p b.size).extract 0 e))).setCell ⟨gq, 6, none⟩ (.bool true))) := ⟨(Below.setCell (Below.setCell HB.out (p := ⟨gq, 8, none⟩) (by exact GQ.out) (.string ((b.extract p b.size).extract 0 e))) (p := ⟨gq, 6, none⟩) (by exact GQ.out) (.bool true))⟩
            have n3_ : Aside0 (Kd.R k30 30 ((w19.setCell ⟨gq, 8, none⟩ (.string ((b.extract p b.size).extract 0 e))).setCell ⟨gq, 6, none⟩ (.bool true)) w.heap.size (fun k_ => k_ ≠ gb ∧ k_ ≠ gq) u7 (lst a0 a1 a2 a3 a4 o m h b e j i)) := ⟨Kd.R_mono (Kd.R_far (p := ⟨gq, 6, none⟩) (Kd.R_far (p := ⟨gq, 8, none⟩) (Kd.R_mono HO.out (fun k_ hk => (⟨hk, hk.2⟩ : _ ∧ k_ ≠ gq))) (fun _ hk => hk.2) (.string ((b.extract p b.size).extract 0 e))) (fun _ hk => hk.2) (.bool true)) (fun _ hk => hk.1)⟩
            clear BK BQ HB HO
            generalize ((w19.setCell ⟨gq, 8, none⟩ (.string ((b.extract p b.size).extract 0 e))).setCell ⟨gq, 6, none⟩ (.bool true)) = w19b at n0_ n1_ n2_ n3_ ⊢
            have BK := n0_
            have BQ := n1_
            have HB := n2_
            have HO := n3_
            clear n0_ n1_ n2_ n3_
            obtain ⟨hcd1_0, hcd1_1, hcd1_2, hcd1_3, hcd1_4, hcd1_5, hcd1_6, hcd1_7, hcd1_8, hfd1⟩ := Fit.cells9 BK.out
            obtain ⟨hcd2_0, hcd2_1, hcd2_2, hcd2_3, hcd2_4, hcd2_5, hcd2_6, hcd2_7, hcd2_8, hfd2⟩ := Fit.cells9 BQ.out
            go_wp2_with (first | ((with_reducible refine gate_builtin (b := .append) (xs := #[.tmp 58, .tmp 60]) rfl ?_); at_builtin; refine Kd.R_append k30 (w0 := w) w.heap.size rfl (.tmp 58) (.tmp 60) 35 30 (.agg #[(.int .u32 0), (.int .u32 0), (.int .i64 0), (.int .i64 0), (.int .i64 0), (.int .i64 0), (.bool false), (.bool false), (.string ⟨#[]⟩)]) 64 rfl Try.underlying35 info30 rfl (by decide) (by omega) u7 (lst a0 a1 a2 a3 a4 o m h b e j i) (⟨a0, a1, a2, a3, a4, o + (p : Int), true, h, (b.extract p b.size).extract 0 e⟩ : S30) [.int .u32 a0, .int .u32 a1, .int .i64 a2, .int .i64 a3, .int .i64 a4, .int .i64 (o + (p : Int)), .bool true, .bool h, .string ((b.extract p b.size).extract 0 e)] (fun k_ => k_ ≠ gb ∧ k_ ≠ gq) (fun _ => False) rfl (by first | rfl | (go_simp; done) | (go_simp; rfl)) ?aP (fun _ hk => hk.elim) ?aF ?aO ?aB ?aS ?aL ?_; (case aP => exact k30_mkM _ _ _ (⟨a0, a1, a2, a3, a4, o + (p : Int), true, h, (b.extract p b.size).extract 0 e⟩ : S30)); (case aB => exact (Fit.bl HB.out)); (case aF => exact (fun k_ hk => ⟨Kd.freshB (g := gb) (o := .cells #[.int .u32 a0, .int .u32 a1, .int .i64 a2, .int .i64 a3, .int .i64 a4, .int .i64 o, .bool m, .bool h, .string b] 30 (0, 0)) (Fit.pk BK.out) k_ hk, Kd.freshB (g := gq) (o := .cells #[.int .u32 a0, .int .u32 a1, .int .i64 a2, .int .i64 a3, .int .i64 a4, .int .i64 (o + (p : Int)), .bool true, .bool h, .string ((b.extract p b.size).extract 0 e)] 30 (0, 0)) (Fit.pk BQ.out) k_ hk⟩)); (case aO => exact (by (with_reducible repeat (first | apply Kd.R_alloc | apply Kd.R_drewN | apply Kd.R_drew)); exact HO.out)); (case aS => exact (below_size (Fit.bl HB.out))); (case aL => have := LM.out; omega); intro v108 w20 ho hb hg hat; rw [HL.out] at ho; have n0_ := Aside0.mk (blk_grown (g := gb) (o := .cells #[.int .u32 a0, .int .u32 a1, .int .i64 a2, .int .i64 a3, .int .i64 a4, .int .i64 o, .bool m, .bool h, .string b] 30 (0, 0)) (Fit.pk BK.out) hg (Kd.R_away HO.out (fun _ hk => hk.1))); have n2_ := Aside0.mk (hb); have n3_ := Aside0.mk (ho); clear BK; clear BQ; clear HB; clear HO; have BK := n0_; have HB := n2_; have HO := n3_; clear n0_ n2_ n3_; clear ho hb hg hat))
            go_roundw
            case rel => exact ⟨i + 1, by omega, by go_num, ⟨Kd.R_mono HO.out (fun _ hk => hk.1)⟩, BK, HB⟩
            case measure => simp [intOf]; omega
          · obtain rfl : i = j := by omega
            have HL0 : lst a0 a1 a2 a3 a4 o m h b e i i ++ [(⟨a0, a1, a2, a3, a4, o + ((i * e : Nat) : Int), m, h, b.extract (i * e) b.size⟩ : S30)] = lst a0 a1 a2 a3 a4 o m h b e i (i + 1) := by
              rw [lst, if_pos (by omega), lst, if_neg (by omega)]; rfl
            generalize hpe : i * e = p at hcI endp HL0
            have HPE := Lib.hid hpe
            clear hpe
            have HL := Lib.hid HL0
            clear HL0
            have hp0 : (0 : Int) ≤ (p : Int) := by omega
            have hp1 : (p : Int) ≤ (b.size : Int) := by omega
            have hp2 : (p : Int) ≤ 60 := by omega
            clear p0 p1 p2 p3
            obtain ⟨c0, c1, c2, c3, c4, c5, c6, c7, c8, cf⟩ := Fit.cells9 BK.out
            go_upto_region 10 with (first | ((with_reducible refine gate_dst (N := 9) rfl ?_); refine box_event ?hg (N := 9) ?hd (cs := #[.int .u32 0, .int .u32 0, .int .i64 0, .int .i64 0, .int .i64 0, .int .i64 0, .bool false, .bool false, .string (⟨#[]⟩ : ByteArray)]) (t := 30) ?hr ?_; (case hd => rfl); (case hg => rfl); (case hr => first | (go_simp; done) | (go_simp; rfl)); intro gq hg w16 hbox hb; have n0_ := Aside0.mk (Kd.R_below (Kd.R_elderB HO.out gq (Nat.le_of_eq hg.symm)) hb); have n1_ := Aside0.mk (blk_below (g := gb) (Fit.pk BK.out) hb); have n2_ := Aside0.mk (below_step (Fit.bl HB.out) hb); have n3_ := Aside0.mk (hbox); have n4_ := Aside0.mk ((by rw [hg]; exact (below_size (Fit.bl HB.out)) : w.heap.size ≤ gq)); have n6_ := Aside0.mk ((by rw [hg]; exact Nat.ne_of_lt (blk_lt (g := gb) (Fit.pk BK.out)) : gb ≠ gq)); have n7_ := Aside0.mk ((by rw [hg]; exact Nat.ne_of_gt (blk_lt (g := gb) (Fit.pk BK.out)) : gq ≠ gb)); clear HO; clear BK; clear HB; have HO := n0_; have BK := n1_; have HB := n2_; have BQ := n3_; have GQ := n4_; have NQ1 := n6_; have NQ2 := n7_; clear n0_ n1_ n2_ n3_ n4_ n6_ n7_; clear hb hbox hg; have hnb17 := NQ1.out; have hnc17 := NQ2.out; obtain ⟨hcz18_0, hcz18_1, hcz18_2, hcz18_3, hcz18_4, hcz18_5, hcz18_6, hcz18_7, hcz18_8, hfz18_0⟩ := Fit.cells9 BQ.out; obtain ⟨hcz19_0, hcz19_1, hcz19_2, hcz19_3, hcz19_4, hcz19_5, hcz19_6, hcz19_7, hcz19_8, hfz19_0⟩ := Fit.cells9 BK.out))
            (try simp only [Act.put, List.setIfInBounds_toArray, List.set_cons_zero, List.set_cons_succ])
            have n0_ : Aside0 ((((((((((w16.setCell ⟨gq, 0, none⟩ (.int .u32 a0)).setCell ⟨gq, 1, none⟩ (.int .u32 a1)).setCell ⟨gq, 2, none⟩ (.int .i64 a2)).setCell ⟨gq, 3, none⟩ (.int .i64 a3)).setCell ⟨gq, 4, none⟩ (.int .i64 a4)).setCell ⟨gq, 5, none⟩ (.int .i64 o)).setCell ⟨gq, 6, none⟩ (.bool m)).setCell ⟨gq, 7, none⟩ (.bool h)).setCell ⟨gq, 8, none⟩ (.string b)).heap[gb]? = some (.cells #[.int .u32 a0, .int .u32 a1, .int .i64 a2, .int .i64 a3, .int .i64 a4, .int .i64 o, .bool m, .bool h, .string b] 30 (0, 0))) := ⟨far9 (.int .u32 a0) (.int .u32 a1) (.int .i64 a2) (.int .i64 a3) (.int .i64 a4) (.int .i64 o) (.bool m) (.bool h) (.string b) BK.out (Ne.symm NQ1.out)⟩
            have n1_ : Aside0 ((((((((((w16.setCell ⟨gq, 0, none⟩ (.int .u32 a0)).setCell ⟨gq, 1, none⟩ (.int .u32 a1)).setCell ⟨gq, 2, none⟩ (.int .i64 a2)).setCell ⟨gq, 3, none⟩ (.int .i64 a3)).setCell ⟨gq, 4, none⟩ (.int .i64 a4)).setCell ⟨gq, 5, none⟩ (.int .i64 o)).setCell ⟨gq, 6, none⟩ (.bool m)).setCell ⟨gq, 7, none⟩ (.bool h)).setCell ⟨gq, 8, none⟩ (.string b)).heap[gq]? = some (.cells #[.int .u32 a0, .int .u32 a1, .int .i64 a2, .int .i64 a3, .int .i64 a4, .int .i64 o, .bool m, .bool h, .string b] 30 (0, 0))) := ⟨put9 (.int .u32 a0) (.int .u32 a1) (.int .i64 a2) (.int .i64 a3) (.int .i64 a4) (.int .i64 o) (.bool m) (.bool h) (.string b) BQ.out⟩
            have n2_ : Aside0 (Below w.heap.size w (((((((((w16.setCell ⟨gq, 0, none⟩ (.int .u32 a0)).setCell ⟨gq, 1, none⟩ (.int .u32 a1)).setCell ⟨gq, 2, none⟩ (.int .i64 a2)).setCell ⟨gq, 3, none⟩ (.int .i64 a3)).setCell ⟨gq, 4, none⟩ (.int .i64 a4)).setCell ⟨gq, 5, none⟩ (.int .i64 o)).setCell ⟨gq, 6, none⟩ (.bool m)).setCell ⟨gq, 7, none⟩ (.bool h)).setCell ⟨gq, 8, none⟩ (.string b))) := ⟨below9 (.int .u32 a0) (.int .u32 a1) (.int .i64 a2) (.int .i64 a3) (.int .i64 a4) (.int .i64 o) (.bool m) (.bool h) (.string b) HB.out GQ.out⟩
            have n3_ : Aside0 (Kd.R k30 30 (((((((((w16.setCell ⟨gq, 0, none⟩ (.int .u32 a0)).setCell ⟨gq, 1, none⟩ (.int .u32 a1)).setCell ⟨gq, 2, none⟩ (.int .i64 a2)).setCell ⟨gq, 3, none⟩ (.int .i64 a3)).setCell ⟨gq, 4, none⟩ (.int .i64 a4)).setCell ⟨gq, 5, none⟩ (.int .i64 o)).setCell ⟨gq, 6, none⟩ (.bool m)).setCell ⟨gq, 7, none⟩ (.bool h)).setCell ⟨gq, 8, none⟩ (.string b)) w.heap.size (fun k_ => k_ ≠ gb ∧ k_ ≠ gq) u7 (lst a0 a1 a2 a3 a4 o m h b e i i)) := ⟨Kd.R_mono (Kd.R_far (p := ⟨gq, 8, none⟩) (Kd.R_far (p := ⟨gq, 7, none⟩) (Kd.R_far (p := ⟨gq, 6, none⟩) (Kd.R_far (p := ⟨gq, 5, none⟩) (Kd.R_far (p := ⟨gq, 4, none⟩) (Kd.R_far (p := ⟨gq, 3, none⟩) (Kd.R_far (p := ⟨gq, 2, none⟩) (Kd.R_far (p := ⟨gq, 1, none⟩) (Kd.R_far (p := ⟨gq, 0, none⟩) (Kd.R_mono HO.out (fun k_ hk => (⟨hk, hk.2⟩ : _ ∧ k_ ≠ gq))) (fun _ hk => hk.2) (.int .u32 a0)) (fun _ hk => hk.2) (.int .u32 a1)) (fun _ hk => hk.2) (.int .i64 a2)) (fun _ hk => hk.2) (.int .i64 a3)) (fun _ hk => hk.2) (.int .i64 a4)) (fun _ hk => hk.2) (.int .i64 o)) (fun _ hk => hk.2) (.bool m)) (fun _ hk => hk.2) (.bool h)) (fun _ hk => hk.2) (.string b)) (fun _ hk => hk.1)⟩
            clear BK BQ HB HO
            generalize (((((((((w16.setCell ⟨gq, 0, none⟩ (.int .u32 a0)).setCell ⟨gq, 1, none⟩ (.int .u32 a1)).setCell ⟨gq, 2, none⟩ (.int .i64 a2)).setCell ⟨gq, 3, none⟩ (.int .i64 a3)).setCell ⟨gq, 4, none⟩ (.int .i64 a4)).setCell ⟨gq, 5, none⟩ (.int .i64 o)).setCell ⟨gq, 6, none⟩ (.bool m)).setCell ⟨gq, 7, none⟩ (.bool h)).setCell ⟨gq, 8, none⟩ (.string b)) = w17 at n0_ n1_ n2_ n3_ ⊢
            have BK := n0_
            have BQ := n1_
            have HB := n2_
            have HO := n3_
            clear n0_ n1_ n2_ n3_
            obtain ⟨hca1_0, hca1_1, hca1_2, hca1_3, hca1_4, hca1_5, hca1_6, hca1_7, hca1_8, hfa1⟩ := Fit.cells9 BK.out
            obtain ⟨hca2_0, hca2_1, hca2_2, hca2_3, hca2_4, hca2_5, hca2_6, hca2_7, hca2_8, hfa2⟩ := Fit.cells9 BQ.out
            go_upto_region 11 with (fail)
            (try simp only [Act.put, List.setIfInBounds_toArray, List.set_cons_zero, List.set_cons_succ])
            have n0_ : Aside0 ((w17.setCell ⟨gq, 5, none⟩ (.int .i64 (o + (p : Int)))).heap[gb]? = some (.cells #[.int .u32 a0, .int .u32 a1, .int .i64 a2, .int .i64 a3, .int .i64 a4, .int .i64 o, .bool m, .bool h, .string b] 30 (0, 0))) := ⟨(blk_far BK.out NQ1.out (p := ⟨gq, 5, none⟩) (.int .i64 (o + (p : Int))))⟩
            have n1_ : Aside0 ((w17.setCell ⟨gq, 5, none⟩ (.int .i64 (o + (p : Int)))).heap[gq]? = some (.cells #[.int .u32 a0, .int .u32 a1, .int .i64 a2, .int .i64 a3, .int .i64 a4, .int .i64 (o + (p : Int)), .bool m, .bool h, .string b] 30 (0, 0))) := ⟨(blk_put BQ.out 5 (.int .i64 (o + (p : Int))) rfl)⟩
            have n2_ : Aside0 (Below w.heap.size w (w17.setCell ⟨gq, 5, none⟩ (.int .i64 (o + (p : Int))))) := ⟨(Below.setCell HB.out (p := ⟨gq, 5, none⟩) (by exact GQ.out) (.int .i64 (o + (p : Int))))⟩
            have n3_ : Aside0 (Kd.R k30 30 (w17.setCell ⟨gq, 5, none⟩ (.int .i64 (o + (p : Int)))) w.heap.size (fun k_ => k_ ≠ gb ∧ k_ ≠ gq) u7 (lst a0 a1 a2 a3 a4 o m h b e i i)) := ⟨Kd.R_mono (Kd.R_far (p := ⟨gq, 5, none⟩) (Kd.R_mono HO.out (fun k_ hk => (⟨hk, hk.2⟩ : _ ∧ k_ ≠ gq))) (fun _ hk => hk.2) (.int .i64 (o + (p : Int)))) (fun _ hk => hk.1)⟩
            clear BK BQ HB HO
            generalize (w17.setCell ⟨gq, 5, none⟩ (.int .i64 (o + (p : Int)))) = w18 at n0_ n1_ n2_ n3_ ⊢
            have BK := n0_
            have BQ := n1_
            have HB := n2_
            have HO := n3_
            clear n0_ n1_ n2_ n3_
            obtain ⟨hcb1_0, hcb1_1, hcb1_2, hcb1_3, hcb1_4, hcb1_5, hcb1_6, hcb1_7, hcb1_8, hfb1⟩ := Fit.cells9 BK.out
            obtain ⟨hcb2_0, hcb2_1, hcb2_2, hcb2_3, hcb2_4, hcb2_5, hcb2_6, hcb2_7, hcb2_8, hfb2⟩ := Fit.cells9 BQ.out
            go_upto_region 12 with (fail)
            (try simp only [Act.put, List.setIfInBounds_toArray, List.set_cons_zero, List.set_cons_succ])
            have n0_ : Aside0 ((w18.setCell ⟨gq, 8, none⟩ (.string (b.extract p b.size))).heap[gb]? = some (.cells #[.int .u32 a0, .int .u32 a1, .int .i64 a2, .int .i64 a3, .int .i64 a4, .int .i64 o, .bool m, .bool h, .string b] 30 (0, 0))) := ⟨(blk_far BK.out NQ1.out (p := ⟨gq, 8, none⟩) (.string (b.extract p b.size)))⟩
            have n1_ : Aside0 ((w18.setCell ⟨gq, 8, none⟩ (.string (b.extract p b.size))).heap[gq]? = some (.cells #[.int .u32 a0, .int .u32 a1, .int .i64 a2, .int .i64 a3, .int .i64 a4, .int .i64 (o + (p : Int)), .bool m, .bool h, .string (b.extract p b.size)] 30 (0, 0))) := ⟨(blk_put BQ.out 8 (.string (b.extract p b.size)) rfl)⟩
            have n2_ : Aside0 (Below w.heap.size w (w18.setCell ⟨gq, 8, none⟩ (.string (b.extract p b.size)))) := ⟨(Below.setCell HB.out (p := ⟨gq, 8, none⟩) (by exact GQ.out) (.string (b.extract p b.size)))⟩
            have n3_ : Aside0 (Kd.R k30 30 (w18.setCell ⟨gq, 8, none⟩ (.string (b.extract p b.size))) w.heap.size (fun k_ => k_ ≠ gb ∧ k_ ≠ gq) u7 (lst a0 a1 a2 a3 a4 o m h b e i i)) := ⟨Kd.R_mono (Kd.R_far (p := ⟨gq, 8, none⟩) (Kd.R_mono HO.out (fun k_ hk => (⟨hk, hk.2⟩ : _ ∧ k_ ≠ gq))) (fun _ hk => hk.2) (.string (b.extract p b.size))) (fun _ hk => hk.1)⟩
            clear BK BQ HB HO
            generalize (w18.setCell ⟨gq, 8, none⟩ (.string (b.extract p b.size))) = w19 at n0_ n1_ n2_ n3_ ⊢
            have BK := n0_
            have BQ := n1_
            have HB := n2_
            have HO := n3_
            clear n0_ n1_ n2_ n3_
            obtain ⟨hcc1_0, hcc1_1, hcc1_2, hcc1_3, hcc1_4, hcc1_5, hcc1_6, hcc1_7, hcc1_8, hfc1⟩ := Fit.cells9 BK.out
            obtain ⟨hcc2_0, hcc2_1, hcc2_2, hcc2_3, hcc2_4, hcc2_5, hcc2_6, hcc2_7, hcc2_8, hfc2⟩ := Fit.cells9 BQ.out
            go_wp2_with (first | ((with_reducible refine gate_builtin (b := .append) (xs := #[.tmp 58, .tmp 60]) rfl ?_); at_builtin; refine Kd.R_append k30 (w0 := w) w.heap.size rfl (.tmp 58) (.tmp 60) 35 30 (.agg #[(.int .u32 0), (.int .u32 0), (.int .i64 0), (.int .i64 0), (.int .i64 0), (.int .i64 0), (.bool false), (.bool false), (.string ⟨#[]⟩)]) 64 rfl Try.underlying35 info30 rfl (by decide) (by omega) u7 (lst a0 a1 a2 a3 a4 o m h b e i i) (⟨a0, a1, a2, a3, a4, o + (p : Int), m, h, b.extract p b.size⟩ : S30) [.int .u32 a0, .int .u32 a1, .int .i64 a2, .int .i64 a3, .int .i64 a4, .int .i64 (o + (p : Int)), .bool m, .bool h, .string (b.extract p b.size)] (fun k_ => k_ ≠ gb ∧ k_ ≠ gq) (fun _ => False) rfl (by first | rfl | (go_simp; done) | (go_simp; rfl)) ?aP (fun _ hk => hk.elim) ?aF ?aO ?aB ?aS ?aL ?_; (case aP => exact k30_mkM _ _ _ (⟨a0, a1, a2, a3, a4, o + (p : Int), m, h, b.extract p b.size⟩ : S30)); (case aB => exact (Fit.bl HB.out)); (case aF => exact (fun k_ hk => ⟨Kd.freshB (g := gb) (o := .cells #[.int .u32 a0, .int .u32 a1, .int .i64 a2, .int .i64 a3, .int .i64 a4, .int .i64 o, .bool m, .bool h, .string b] 30 (0, 0)) (Fit.pk BK.out) k_ hk, Kd.freshB (g := gq) (o := .cells #[.int .u32 a0, .int .u32 a1, .int .i64 a2, .int .i64 a3, .int .i64 a4, .int .i64 (o + (p : Int)), .bool m, .bool h, .string (b.extract p b.size)] 30 (0, 0)) (Fit.pk BQ.out) k_ hk⟩)); (case aO => exact (by (with_reducible repeat (first | apply Kd.R_alloc | apply Kd.R_drewN | apply Kd.R_drew)); exact HO.out)); (case aS => exact (below_size (Fit.bl HB.out))); (case aL => have := LM.out; omega); intro v108 w20 ho hb hg hat; rw [HL.out] at ho; have n0_ := Aside0.mk (blk_grown (g := gb) (o := .cells #[.int .u32 a0, .int .u32 a1, .int .i64 a2, .int .i64 a3, .int .i64 a4, .int .i64 o, .bool m, .bool h, .string b] 30 (0, 0)) (Fit.pk BK.out) hg (Kd.R_away HO.out (fun _ hk => hk.1))); have n2_ := Aside0.mk (hb); have n3_ := Aside0.mk (ho); clear BK; clear BQ; clear HB; clear HO; have BK := n0_; have HB := n2_; have HO := n3_; clear n0_ n2_ n3_; clear ho hb hg hat))
            go_roundw
            case rel => exact ⟨i + 1, by omega, by go_num, ⟨Kd.R_mono HO.out (fun _ hk => hk.1)⟩, BK, HB⟩
            case measure => simp [intOf]; omega
        · obtain rfl : i = j + 1 := by omega
          have HL0 : lst a0 a1 a2 a3 a4 o m h b e j (j + 1) = pcs a0 a1 a2 a3 a4 o m h b e j := by rw [lst, if_neg (by omega)]
          rw [HL0] at HO
          clear HL0
          go_wp2
          go_ret
          exact ⟨_, rfl, Kd.R_mono HO.out (fun _ hk => trivial), HB.out⟩
end Go.Proofs.Ythpohaafphaidaa.Cq
