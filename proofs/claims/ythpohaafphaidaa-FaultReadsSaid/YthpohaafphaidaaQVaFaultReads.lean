/- What Head and HeadRead tell of a string: the same. -/
import Derived.Test.YthpohaafphaidaaQPl
import Derived.Test.YthpohaafphaidaaQRg
import Derived.IntWalk
import Derived.Lib.Hide
import Derived.LoopTactic
import Derived.Laws.BitsAllLaws
import Derived.Test.YthpohaafphaidaaGFaultReadsx3
import Derived.Test.YthpohaafphaidaaGFaultReadsx5
import Derived.Test.YthpohaafphaidaaGFaultReadsx6
import Derived.Test.YthpohaafphaidaaGFaultReadsx10
namespace Go.Proofs.Ythpohaafphaidaa.VaFaultReads
open Go.RowKit Go.Proofs.YthpohaafphaidaaW.PrintWords Go.Proofs.YthpohaafphaidaaW.PrintLast Go.Proofs.Ythpohaafphaidaa.Pl Go.Proofs.Ythpohaafphaidaa.GFaultReads
set_option linter.unusedVariables false
set_option linter.unusedSimpArgs false
/-- the fold of a sum of words -/
def fv (n : Nat) : Nat := if n = 0 then 0 else (n - 1) % 65535 + 1
theorem fv_le (n : Nat) : fv n ≤ 65535 := by unfold fv; split <;> omega
theorem fold_ev (n : Nat) : n < 4611686018427387904 → Ev (fun k => pkt_fold.l0 k (n : Int)) (fv n : Int) := by
  induction n using Nat.strongRecOn with
  | ind n ih =>
    intro hn
    refine Ev.step (fun k => rfl) ?_
    by_cases h : (n : Int) > 65535
    · refine Ev.pos h ?_
      have e : wrap64 ((n : Int) / 65536 + Go.bits .and .i64 (n : Int) 65535) = ((n / 65536 + n % 65536 : Nat) : Int) := by
        rw [and65535 (by omega) (by omega), w64 (by omega) (by omega)]; omega
      rw [e]
      have := ih (n / 65536 + n % 65536) (by omega) (by omega)
      have e2 : fv (n / 65536 + n % 65536) = fv n := by unfold fv; rw [if_neg (by omega), if_neg (by omega)]; omega
      rw [e2] at this
      exact this
    · refine Ev.neg h (Ev.val ?_)
      unfold fv; split <;> omega
/-- the sum of the words of the first i bytes -/
def ps (s : ByteArray) : Nat → Nat
  | 0 => 0
  | i + 1 => ps s i + (if i % 2 = 0 then (bt s i).toNat * 256 else (bt s i).toNat)
theorem ps_le (s : ByteArray) (i : Nat) : ps s i ≤ i * 65280 := by
  induction i with
  | zero => simp [ps]
  | succ i ih => have := bt_range s i; simp only [ps]; split <;> omega
/-- what both checksums are -/
def ck (n : Nat) : Int := if n = 0 then 65535 else 65534 - ((n : Int) - 1) % 65535
theorem ck_fv (n : Nat) : Go.bits .xor .i64 (fv n : Int) 65535 = ck n := by
  rw [xor65535 _ (fv_le n)]; unfold ck fv; split <;> omega
theorem ck_range (n : Nat) : 0 ≤ ck n ∧ ck n ≤ 65535 := by unfold ck; split <;> omega
theorem sum_ev (s : ByteArray) (hs : s.size ≤ 1048576) (d : Nat) : ∀ i : Nat, i + d = s.size → Ev (fun k => pkt_Sum.l0 k s (ps s i) (s.size : Int) (i : Int)) (ck (ps s s.size)) := by
  induction d with
  | zero =>
    intro i hi
    refine Ev.step (fun k => rfl) ?_
    refine Ev.neg (by omega) ?_
    obtain rfl : i = s.size := by omega
    have hp := ps_le s s.size
    refine Ev.bind (Ev.congr (fun k => rfl) (fold_ev (ps s s.size) (by omega))) (Ev.val (ck_fv _))
  | succ d ih =>
    intro i hi
    have hp := ps_le s i
    have hb := bt_range s i
    have ih1 := ih (i + 1) (by omega)
    have e1 : wrap64 ((i : Int) + 1) = ((i + 1 : Nat) : Int) := by rw [w64 (by omega) (by omega)]; omega
    refine Ev.step (fun k => rfl) ?_
    refine Ev.pos (by omega) ?_
    by_cases hm : Int.tmod (i : Int) 2 = 0
    · refine Ev.pos hm (Ev.pos (by omega) (Ev.pos (by omega) ?_))
      have hm' : i % 2 = 0 := by rw [Int.tmod_eq_emod_of_nonneg (by omega)] at hm; omega
      have e2 : wrap64 ((ps s i : Int) + wrap64 (wrap64 (bt s i) * 256)) = (ps s (i + 1) : Int) := by
        rw [w64 (x := bt s i) (by omega) (by omega), w64 (x := bt s i * 256) (by omega) (by omega), w64 (by omega) (by omega)]
        simp only [ps, if_pos hm']; omega
      rw [e1, e2]; exact ih1
    · refine Ev.neg hm (Ev.pos (by omega) (Ev.pos (by omega) ?_))
      have hm' : ¬ i % 2 = 0 := by rw [Int.tmod_eq_emod_of_nonneg (by omega)] at hm; omega
      have e2 : wrap64 ((ps s i : Int) + wrap64 (bt s i)) = (ps s (i + 1) : Int) := by
        rw [w64 (x := bt s i) (by omega) (by omega), w64 (by omega) (by omega)]
        simp only [ps, if_neg hm']; omega
      rw [e1, e2]; exact ih1
theorem Sum_ev (s : ByteArray) (hs : s.size ≤ 1048576) : Ev (fun k => pkt_Sum.f k s) (ck (ps s s.size)) := Ev.congr (fun _ => rfl) (sum_ev s hs s.size 0 (by omega))
theorem tail_ck (n : Nat) (h : n < 4611686018427387904) : Ev (fun _ => if ((n : Int)) = 0 then some (65535 : Int) else some (wrap64 (65534 - Int.tmod (wrap64 ((n : Int) - 1)) 65535))) (ck n) := by
  by_cases h0 : (n : Int) = 0
  · refine Ev.pos h0 (Ev.val ?_); unfold ck; rw [if_pos (by omega)]
  · refine Ev.neg h0 (Ev.val ?_)
    rw [w64 (x := (n : Int) - 1) (by omega) (by omega), Int.tmod_eq_emod_of_nonneg (by omega), w64 (by omega) (by omega)]
    unfold ck; rw [if_neg (by omega)]
theorem sumof_ev (s : ByteArray) (hs : s.size ≤ 1048576) (d : Nat) : ∀ i : Nat, i % 2 = 0 → s.size ≤ i + d → Ev (fun k => patchbayref2_SumOf.l0 k s (ps s (min i s.size)) (i : Int)) (ck (ps s s.size)) := by
  induction d using Nat.strongRecOn with
  | ind d ih =>
  intro i he hi
  have hp := ps_le s (min i s.size)
  refine Ev.step (fun k => rfl) ?_
  by_cases h : (i : Int) < (s.size : Int)
  · refine Ev.pos h (Ev.pos (by omega) ?_)
    have e1 : wrap64 ((i : Int) + 1) = ((i + 1 : Nat) : Int) := by rw [w64 (by omega) (by omega)]; omega
    have e3 : wrap64 ((i : Int) + 2) = ((i + 2 : Nat) : Int) := by rw [w64 (by omega) (by omega)]; omega
    have hb := bt_range s i
    have hb1 := bt_range s ((i + 1 : Nat) : Int)
    have em : min i s.size = i := by omega
    rw [em] at hp ⊢
    have q1 : ps s (i + 1) = ps s i + (bt s i).toNat * 256 := by simp only [ps, if_pos he]
    have q2 : ps s (i + 2) = ps s i + (bt s i).toNat * 256 + (bt s ((i + 1 : Nat) : Int)).toNat := by
      rw [show i + 2 = (i + 1) + 1 from rfl]; simp only [ps, if_pos he, if_neg (show ¬ (i + 1) % 2 = 0 by omega)]
    by_cases h2 : wrap64 ((i : Int) + 1) < (s.size : Int)
    · refine Ev.pos h2 (Ev.pos (by omega) ?_)
      have := ih (d - 2) (by omega) (i + 2) (by omega) (by omega)
      rw [show min (i + 2) s.size = i + 2 by omega, q2] at this
      have e2 : wrap64 (wrap64 ((ps s i : Int) + wrap64 (wrap64 (bt s i) * 256)) + wrap64 (bt s (wrap64 ((i : Int) + 1)))) = ((ps s i + (bt s i).toNat * 256 + (bt s ((i + 1 : Nat) : Int)).toNat : Nat) : Int) := by
        rw [e1, w64 (x := bt s i) (by omega) (by omega), w64 (x := bt s i * 256) (by omega) (by omega), w64 (x := bt s ((i + 1 : Nat) : Int)) (by omega) (by omega), w64 (x := (ps s i : Int) + bt s i * 256) (by omega) (by omega), w64 (by omega) (by omega)]
        omega
      rw [e2, e3]; exact this
    · refine Ev.neg h2 ?_
      have := ih (d - 1) (by omega) (i + 2) (by omega) (by omega)
      rw [show min (i + 2) s.size = i + 1 by omega, q1] at this
      have e2 : wrap64 ((ps s i : Int) + wrap64 (wrap64 (bt s i) * 256)) = ((ps s i + (bt s i).toNat * 256 : Nat) : Int) := by
        rw [w64 (x := bt s i) (by omega) (by omega), w64 (x := bt s i * 256) (by omega) (by omega), w64 (by omega) (by omega)]
        omega
      rw [e2, e3]; exact this
  · refine Ev.neg h ?_
    rw [show min i s.size = s.size by omega] at hp ⊢
    exact tail_ck _ (by omega)
theorem SumOf_ev (s : ByteArray) (hs : s.size ≤ 1048576) : Ev (fun k => patchbayref2_SumOf.f k s) (ck (ps s s.size)) := by
  have := sumof_ev s hs s.size 0 (by omega) (by omega)
  rw [show min 0 s.size = 0 by omega] at this
  exact Ev.congr (fun _ => rfl) this
/-- what is wrong with a packet -/
def pf (a2 a3 a4 a5 : Int) (m h : Bool) (n : Nat) : Int :=
  if a2 < 0 ∨ a2 > 255 ∨ a3 < 1 ∨ a3 > 255 ∨ a4 < 0 ∨ a4 > 65535 ∨ a5 < 0 ∨ a5 > 65528 then 10
  else if (n : Int) > 1500 ∨ a5 + (n : Int) > 65535 then 2
  else if a5 % 8 ≠ 0 then 3
  else if m = true ∧ n % 8 ≠ 0 then 3
  else if (m = true ∨ a5 > 0) ∧ (n = 0 ∨ h = true) then 3 else 0
theorem nil_iff (s : ByteArray) : s.toList = ([] : List UInt8) ↔ s.size = 0 := by
  rw [ByteArray.toList_eq]
  have e : s.data.toList.length = s.size := rfl
  rw [← e, List.length_eq_zero_iff]
theorem check_eq (a0 a1 a2 a3 a4 a5 : Int) (m h : Bool) (s : ByteArray) (hs : s.size ≤ 1048576) (k : Nat) (hk : 2 ≤ k) :
    pkt_Check.f k a0 a1 a2 a3 a4 a5 m h s = some (pf a2 a3 a4 a5 m h s.size) := by
  obtain ⟨k, rfl⟩ : ∃ j, k = j + 2 := ⟨k - 2, by omega⟩
  unfold pkt_Check.f
  by_cases c0 : a2 < 0 ∨ a2 > 255 ∨ a3 < 1 ∨ a3 > 255 ∨ a4 < 0 ∨ a4 > 65535 ∨ a5 < 0 ∨ a5 > 65528
  · have e : pf a2 a3 a4 a5 m h s.size = 10 := by unfold pf; rw [if_pos c0]
    rw [e]
    simp only [pkt_Check.j0, if_true]
    repeat' split
    all_goals first | rfl | (simp at *; omega)
  · have e5 : decide (a5 > 65528) = false := by simp; omega
    rw [if_neg (by omega), if_neg (by omega), if_neg (by omega), if_neg (by omega), if_neg (by omega), if_neg (by omega), if_neg (by omega), e5]
    simp only [pkt_Check.j0, Bool.false_eq_true, if_false]
    have ew : wrap64 (a5 + (s.size : Int)) = a5 + (s.size : Int) := w64 (by omega) (by omega)
    have et : Int.tmod a5 8 = a5 % 8 := Int.tmod_eq_emod_of_nonneg (by omega)
    rw [ew]
    unfold pf
    rw [if_neg c0]
    by_cases c1 : (s.size : Int) > 1500 ∨ a5 + (s.size : Int) > 65535
    · rw [if_pos c1]
      simp only [pkt_Check.j1, if_true]
      split
      · rfl
      · have : decide (a5 + (s.size : Int) > 65535) = true := by simp; omega
        rw [if_pos this]
    · rw [if_neg c1, if_neg (by omega)]
      have : decide (a5 + (s.size : Int) > 65535) = false := by simp; omega
      rw [this]
      simp only [pkt_Check.j1, Bool.false_eq_true, if_false, et, nil_iff]
      have e8 : ((s.size : Int) % 8 = 0) ↔ s.size % 8 = 0 := by omega
      simp only [e8]
      by_cases d0 : a5 % 8 = 0 <;> by_cases d1 : s.size % 8 = 0 <;> by_cases d2 : s.size = 0 <;> by_cases d3 : a5 > 0 <;> cases m <;> cases h <;> simp [d0, d1, d2, d3]
theorem fault_eq (a0 a1 a2 a3 a4 a5 : Int) (m h : Bool) (s : ByteArray) (hs : s.size ≤ 1048576) (k : Nat) (hk : 2 ≤ k) :
    patchbayref2_PacketFault.f k a0 a1 a2 a3 a4 a5 m h s = some (pf a2 a3 a4 a5 m h s.size) := by
  obtain ⟨k, rfl⟩ : ∃ j, k = j + 2 := ⟨k - 2, by omega⟩
  unfold patchbayref2_PacketFault.f
  by_cases c0 : a2 < 0 ∨ a2 > 255 ∨ a3 < 1 ∨ a3 > 255 ∨ a4 < 0 ∨ a4 > 65535 ∨ a5 < 0 ∨ a5 > 65528
  · have e : pf a2 a3 a4 a5 m h s.size = 10 := by unfold pf; rw [if_pos c0]
    rw [e]
    simp only [patchbayref2_PacketFault.j0, if_true]
    repeat' split
    all_goals first | rfl | (simp at *; omega)
  · have e5 : decide (a5 > 65528) = false := by simp; omega
    rw [if_neg (by omega), if_neg (by omega), if_neg (by omega), if_neg (by omega), if_neg (by omega), if_neg (by omega), if_neg (by omega), e5]
    simp only [patchbayref2_PacketFault.j0, Bool.false_eq_true, if_false]
    have ew : wrap64 (a5 + (s.size : Int)) = a5 + (s.size : Int) := w64 (by omega) (by omega)
    have et : Int.tmod a5 8 = a5 % 8 := Int.tmod_eq_emod_of_nonneg (by omega)
    rw [ew]
    unfold pf
    rw [if_neg c0]
    by_cases c1 : (s.size : Int) > 1500 ∨ a5 + (s.size : Int) > 65535
    · rw [if_pos c1]
      simp only [patchbayref2_PacketFault.j1, if_true]
      split
      · rfl
      · have : decide (a5 + (s.size : Int) > 65535) = true := by simp; omega
        rw [if_pos this]
    · rw [if_neg c1, if_neg (by omega)]
      have : decide (a5 + (s.size : Int) > 65535) = false := by simp; omega
      rw [this]
      simp only [patchbayref2_PacketFault.j1, Bool.false_eq_true, if_false, et]
      have e8 : ((s.size : Int) % 8 > 0) ↔ ¬ s.size % 8 = 0 := by omega
      have e9 : ((s.size : Int) = 0) ↔ s.size = 0 := by omega
      have e10 : (a5 % 8 > 0) ↔ ¬ a5 % 8 = 0 := by omega
      have e11 : (a5 = 0) ↔ ¬ a5 > 0 := by omega
      simp only [e8, e9, e10, e11]
      by_cases d0 : a5 % 8 = 0 <;> by_cases d1 : s.size % 8 = 0 <;> by_cases d2 : s.size = 0 <;> by_cases d3 : a5 > 0 <;> cases m <;> cases h <;> simp [d0, d1, d2, d3]
theorem Sum_calls (s : ByteArray) (hs : s.size ≤ 1048576) (w : World) : Calls Try.prog 10 #[.string s] w fun e w' => e = .returned (.int .i64 (ck (ps s s.size))) ∧ Below w.heap.size w w' := by
  obtain ⟨k, hk⟩ := (Sum_ev s hs).rounds
  refine (pkt_Sum.calls k s _ w hk).mono fun e w' ⟨h, d⟩ => ⟨h, ?_⟩
  obtain ⟨n, rfl⟩ := d.out
  exact pw_below_drewN (Below.refl _ _) n
theorem SumOf_calls (s : ByteArray) (hs : s.size ≤ 1048576) (w : World) : Calls Try.prog 11 #[.string s] w fun e w' => e = .returned (.int .i64 (ck (ps s s.size))) ∧ Below w.heap.size w w' := by
  obtain ⟨k, hk⟩ := (SumOf_ev s hs).rounds
  refine (patchbayref2_SumOf.calls k s _ w hk).mono fun e w' ⟨h, d⟩ => ⟨h, ?_⟩
  obtain ⟨n, rfl⟩ := d.out
  exact pw_below_drewN (Below.refl _ _) n
theorem SumOf20 (s : ByteArray) (hs : s.size = 20) (w : World) : Calls Try.prog 11 #[.string s] w fun e w' => e = .returned (.int .i64 (ck (ps s 20))) ∧ Below w.heap.size w w' := by
  have := SumOf_calls s (by omega) w
  rwa [hs] at this
theorem cells9 {w : World} {B : Nat} {T : TypeId} {v0 v1 v2 v3 v4 v5 v6 v7 v8 : Value} (h : w.heap[B]? = some (.cells #[v0, v1, v2, v3, v4, v5, v6, v7, v8] T (0, 0))) :
    w.cell? ⟨B, 0, none⟩ = some v0 ∧ w.cell? ⟨B, 1, none⟩ = some v1 ∧ w.cell? ⟨B, 2, none⟩ = some v2 ∧ w.cell? ⟨B, 3, none⟩ = some v3 ∧ w.cell? ⟨B, 4, none⟩ = some v4 ∧ w.cell? ⟨B, 5, none⟩ = some v5 ∧ w.cell? ⟨B, 6, none⟩ = some v6 ∧ w.cell? ⟨B, 7, none⟩ = some v7 ∧ w.cell? ⟨B, 8, none⟩ = some v8 ∧ (∀ j, w.frozen? ⟨B, j, none⟩ = false) ∧ B < w.heap.size :=
  ⟨blk_cell h 0, blk_cell h 1, blk_cell h 2, blk_cell h 3, blk_cell h 4, blk_cell h 5, blk_cell h 6, blk_cell h 7, blk_cell h 8, fun j => blk_frozen h j, blk_lt h⟩
theorem put9 {w : World} {B : Nat} {T : TypeId} {v0 v1 v2 v3 v4 v5 v6 v7 v8 : Value} (u0 u1 u2 u3 u4 u5 u6 u7 u8 : Value) (h : w.heap[B]? = some (.cells #[v0, v1, v2, v3, v4, v5, v6, v7, v8] T (0, 0))) :
    (((((((((w.setCell ⟨B, 0, none⟩ u0).setCell ⟨B, 1, none⟩ u1).setCell ⟨B, 2, none⟩ u2).setCell ⟨B, 3, none⟩ u3).setCell ⟨B, 4, none⟩ u4).setCell ⟨B, 5, none⟩ u5).setCell ⟨B, 6, none⟩ u6).setCell ⟨B, 7, none⟩ u7).setCell ⟨B, 8, none⟩ u8).heap[B]? = some (.cells #[u0, u1, u2, u3, u4, u5, u6, u7, u8] T (0, 0)) := by
  refine blk_put (cs := #[u0, u1, u2, u3, u4, u5, u6, u7, v8]) ?_ 8 u8 rfl
  refine blk_put (cs := #[u0, u1, u2, u3, u4, u5, u6, v7, v8]) ?_ 7 u7 rfl
  refine blk_put (cs := #[u0, u1, u2, u3, u4, u5, v6, v7, v8]) ?_ 6 u6 rfl
  refine blk_put (cs := #[u0, u1, u2, u3, u4, v5, v6, v7, v8]) ?_ 5 u5 rfl
  refine blk_put (cs := #[u0, u1, u2, u3, v4, v5, v6, v7, v8]) ?_ 4 u4 rfl
  refine blk_put (cs := #[u0, u1, u2, v3, v4, v5, v6, v7, v8]) ?_ 3 u3 rfl
  refine blk_put (cs := #[u0, u1, v2, v3, v4, v5, v6, v7, v8]) ?_ 2 u2 rfl
  refine blk_put (cs := #[u0, v1, v2, v3, v4, v5, v6, v7, v8]) ?_ 1 u1 rfl
  exact blk_put h 0 u0 rfl
theorem below9 {n : Nat} {W w : World} {B : Nat} (u0 u1 u2 u3 u4 u5 u6 u7 u8 : Value) (h : Below n W w) (hB : n ≤ B) : Below n W (((((((((w.setCell ⟨B, 0, none⟩ u0).setCell ⟨B, 1, none⟩ u1).setCell ⟨B, 2, none⟩ u2).setCell ⟨B, 3, none⟩ u3).setCell ⟨B, 4, none⟩ u4).setCell ⟨B, 5, none⟩ u5).setCell ⟨B, 6, none⟩ u6).setCell ⟨B, 7, none⟩ u7).setCell ⟨B, 8, none⟩ u8) :=
  ((((((((h.setCell hB _).setCell hB _).setCell hB _).setCell hB _).setCell hB _).setCell hB _).setCell hB _).setCell hB _).setCell hB _
set_option linter.unusedVariables false
theorem bt_lit (s : ByteArray) (i : Nat) : ∀ h : i < s.size, ((s[i]'h).toNat : Int) = bt s i := fun h => bt_at s i (by simpa using h)
/-- the number of len bytes from at on -/
def bv (s : ByteArray) (a : Nat) : Nat → Int
  | 0 => 0
  | k + 1 => bv s a k * 256 + bt s ((a + k : Nat) : Int)
theorem bv_range (s : ByteArray) (a : Nat) (k : Nat) : 0 ≤ bv s a k ∧ bv s a k < 256 ^ k := by
  induction k with
  | zero => simp [bv]
  | succ k ih =>
    have := bt_range s ((a + k : Nat) : Int)
    simp only [bv, Int.pow_succ]
    omega
theorem bv_small (s : ByteArray) (a : Nat) (k : Nat) (hk : k ≤ 6) : 0 ≤ bv s a k ∧ bv s a k < 281474976710656 := by
  have h := bv_range s a k
  have h2 : (256 : Nat) ^ k ≤ 256 ^ 6 := Nat.pow_le_pow_right (by decide) hk
  have h3 : ((256 ^ k : Nat) : Int) = (256 : Int) ^ k := by simp
  omega
theorem join8 (x y : Int) (h0 : 0 ≤ x) (h1 : x < 281474976710656) (y0 : 0 ≤ y) (y1 : y ≤ 255) : Go.bits .or .i64 (x * 256) y = x * 256 + y :=
  bits_join .i64 63 (by decide) wraps_i64 8 (x * 256) y (by omega) (by omega) (by omega) y0 (by omega) (by omega)
theorem get_calls (s : ByteArray) (a len : Nat) (hs : s.size ≤ 1048576) (ha : a + len ≤ s.size) (hl : len ≤ 6) (w : World) :
    Calls Try.prog 48 #[.string s, .int .i64 a, .int .i64 len] w fun e w' => e = .returned (.int .i64 (bv s a len)) ∧ w = w' := by
  go_enter Try.func48, Try.ntmps48
  go_wp2
  go_loop [7, 10] (fun n i => ∃ k : Nat, k ≤ len ∧ i = .int .i64 k ∧ n = .int .i64 (bv s a k)) (fun _ i => len - (intOf i).toNat)
  case atStart => exact ⟨0, Nat.zero_le _, rfl, rfl⟩
  case round =>
    obtain ⟨k, hk, rfl, rfl⟩ := hrel
    have hb := bv_small s a k (by omega)
    have hr := bt_range s ((a + k : Nat) : Int)
    by_cases hlt : k < len
    · have ex : Go.bits .or .i64 (bv s a k * 256) (wrap64 ((s[a + k]'(by omega)).toNat : Int)) = bv s a (k + 1) := by
        rw [bt_lit s (a + k) (by omega), w64 (by omega) (by omega), join8 _ _ hb.1 hb.2 hr.1 hr.2]; rfl
      have EX := Lib.hid ex
      clear ex
      generalize bv s a k = n at hb EX ⊢
      go_wp2
      go_round
      case rel => exact ⟨k + 1, by omega, by go_num, by rw [← EX]⟩
      case measure => simp [intOf]; omega
    · obtain rfl : k = len := by omega
      go_wp2
      go_ret
      exact ⟨rfl, rfl⟩
theorem Value_calls (s : ByteArray) (hs : s.size ≤ 6) (w : World) :
    Calls Try.prog 49 #[.string s] w fun e w' => e = .returned (.int .i64 (bv s 0 s.size)) ∧ w = w' := by
  go_enter Try.func49, Try.ntmps49
  go_wp2
  go_loop [3, 7] (fun n i => ∃ k : Nat, k ≤ s.size ∧ i = .int .i64 k ∧ n = .int .i64 (bv s 0 k)) (fun _ i => s.size - (intOf i).toNat)
  case atStart => exact ⟨0, Nat.zero_le _, rfl, rfl⟩
  case round =>
    obtain ⟨k, hk, rfl, rfl⟩ := hrel
    have hb := bv_small s 0 k (by omega)
    have hr := bt_range s (k : Int)
    by_cases hlt : k < s.size
    · have ex : bv s 0 k * 256 + ((s[k]'hlt).toNat : Int) = bv s 0 (k + 1) := by
        rw [bt_lit s k hlt]; simp only [bv, Nat.zero_add]
      have hy : ((s[k]'hlt).toNat : Int) ≤ 255 := by rw [bt_lit s k hlt]; exact hr.2
      have EX := Lib.hid ex
      clear ex
      generalize bv s 0 k = n at hb EX ⊢
      go_wp2
      go_round
      case rel => exact ⟨k + 1, by omega, by go_num, by rw [← EX]⟩
      case measure => simp [intOf]; omega
    · obtain rfl : k = s.size := by omega
      go_wp2
      go_ret
      exact ⟨rfl, rfl⟩
theorem bt_extract (s : ByteArray) (a b i : Nat) (hi : a + i < b) (hb : b ≤ s.size) : bt (s.extract a b) (i : Int) = bt s ((a + i : Nat) : Int) := by
  rw [← bt_lit (s.extract a b) i (by rw [ByteArray.size_extract]; omega), ← bt_lit s (a + i) (by omega)]
  rw [ByteArray.getElem_extract]
theorem bv_extract (s : ByteArray) (a b : Nat) (hb : b ≤ s.size) : ∀ k, a + k ≤ b → bv (s.extract a b) 0 k = bv s a k := by
  intro k
  induction k with
  | zero => intro _; rfl
  | succ k ih =>
    intro hk
    simp only [bv, Nat.zero_add]
    rw [ih (by omega), bt_extract s a b k (by omega) hb]
/-- Value of a cut. -/
theorem Val_calls (s : ByteArray) (a b : Nat) (n : Nat) (hn : b = a + n) (hn6 : n ≤ 6) (hb : b ≤ s.size) (w : World) :
    Calls Try.prog 49 #[.string (s.extract a b)] w fun e w' => e = .returned (.int .i64 (bv s a n)) ∧ w = w' := by
  subst hn
  have hz : (s.extract a (a + n)).size = n := by rw [ByteArray.size_extract]; omega
  have h := Value_calls (s.extract a (a + n)) (by omega) w
  rw [hz, bv_extract s a (a + n) hb n (by omega)] at h
  exact h
set_option linter.unusedVariables false
/-- the head without its sum -/
def hs (s : ByteArray) : ByteArray := s.extract 0 10 ++ (⟨#[0, 0]⟩ : ByteArray) ++ s.extract 12 20
theorem hs_size (s : ByteArray) (h : 20 ≤ s.size) : (hs s).size = 20 := by
  simp only [hs, ByteArray.size_append, ByteArray.size_extract]
  have : (⟨#[0, 0]⟩ : ByteArray).size = 2 := rfl
  omega
theorem SumH_calls (s : ByteArray) (h : 20 ≤ s.size) (w : World) : Calls Try.prog 10 #[.string (s.extract 0 10 ++ (⟨#[0, 0]⟩ : ByteArray) ++ s.extract 12 20)] w fun e w' => e = .returned (.int .i64 (ck (ps (hs s) 20))) ∧ Below w.heap.size w w' := by
  have := Sum_calls (hs s) (by rw [hs_size s h]; omega) w
  rwa [hs_size s h] at this
theorem and_32768 (x : Int) (h0 : 0 ≤ x) (h1 : x < 65536) : Go.bits .and .i64 x 32768 = x / 32768 * 32768 := by
  obtain ⟨n, rfl⟩ := Int.eq_ofNat_of_zero_le h0
  rw [show (32768 : Int) = ((32768 : Nat) : Int) from rfl, (bits_nat .i64 63 (by decide) wraps_i64 n 32768 (by omega) (by omega)).1, show (32768 : Nat) = 2 ^ 15 from rfl, nat_bit]
  omega
theorem and_16384 (x : Int) (h0 : 0 ≤ x) (h1 : x < 32768) : Go.bits .and .i64 x 16384 = x / 16384 * 16384 := by
  obtain ⟨n, rfl⟩ := Int.eq_ofNat_of_zero_le h0
  rw [show (16384 : Int) = ((16384 : Nat) : Int) from rfl, (bits_nat .i64 63 (by decide) wraps_i64 n 16384 (by omega) (by omega)).1, show (16384 : Nat) = 2 ^ 14 from rfl, nat_bit]
  omega
theorem and_8192 (x : Int) (h0 : 0 ≤ x) (h1 : x < 32768) : Go.bits .and .i64 x 8192 = x / 8192 % 2 * 8192 := by
  obtain ⟨n, rfl⟩ := Int.eq_ofNat_of_zero_le h0
  rw [show (8192 : Int) = ((8192 : Nat) : Int) from rfl, (bits_nat .i64 63 (by decide) wraps_i64 n 8192 (by omega) (by omega)).1, show (8192 : Nat) = 2 ^ 13 from rfl, nat_bit]
  omega
theorem and_8191 (x : Int) (h0 : 0 ≤ x) (h1 : x < 32768) : Go.bits .and .i64 x 8191 = x % 8192 := by
  have := bits_mask .i64 63 (by decide) wraps_i64 13 (by decide) x h0 (by omega)
  simpa using this
theorem keepB {B : Nat} {W w1 w2 : World} {o : Obj} (hb : Below w1.heap.size w1 w2) (h : w1.heap[B]? = some o ∧ Below W.heap.size W w1) : w2.heap[B]? = some o ∧ Below W.heap.size W w2 := ⟨blk_below h.1 hb, below_step h.2 hb⟩
theorem keepA {B : Nat} {W w1 : World} {o : Obj} (h : w1.heap[B]? = some o ∧ Below W.heap.size W w1) (x : Obj) : (w1.alloc x).heap[B]? = some o ∧ Below W.heap.size W (w1.alloc x) := ⟨blk_alloc h.1 x, below_alloc h.2 x⟩
theorem keepAD {B : Nat} {W w1 : World} {o : Obj} (h : w1.drew.heap[B]? = some o ∧ Below W.heap.size W w1.drew) (x : Obj) : (w1.alloc x).drew.heap[B]? = some o ∧ Below W.heap.size W (w1.alloc x).drew := ⟨blk_alloc h.1 x, below_alloc h.2 x⟩
theorem keepD1 {B : Nat} {W w1 : World} {o : Obj} (h : w1.heap[B]? = some o) (z : Below W.heap.size W w1) : w1.drew.heap[B]? = some o ∧ Below W.heap.size W w1.drew := ⟨blk_drew h, below_drew1 z⟩
theorem keepD2 {B : Nat} {W w1 : World} {o : Obj} (h : w1.heap[B]? = some o) (z : Below W.heap.size W w1) (x : Obj) : (w1.alloc x).drew.heap[B]? = some o ∧ Below W.heap.size W (w1.alloc x).drew := ⟨blk_drew (blk_alloc h x), below_drew1 (below_alloc z x)⟩
/-- no packet -/
def zp : Value := .agg #[.int .u32 0, .int .u32 0, .int .i64 0, .int .i64 0, .int .i64 0, .int .i64 0, .bool false, .bool false, .string ⟨#[]⟩]
/-- the head's form is wrong -/
def bad (s : ByteArray) : Prop := bt s 0 ≠ 69 ∨ bt s 1 ≠ 0 ∨ bv s 2 2 < 20 ∨ 32768 ≤ bv s 6 2 ∨ bt s 8 = 0
set_option maxRecDepth 100000 in
theorem Head_short (s : ByteArray) (h : s.size < 20) (w : World) :
    Calls Try.prog 35 #[.string s] w fun e w' => e = .returned (.tuple #[zp, .int .i64 0, .int .i64 9]) ∧ Below w.heap.size w w' := by
  go_enter Try.func35, Try.ntmps35
  go_wp2
  exact bodyPost_ret (v := .tuple #[zp, .int .i64 0, .int .i64 9]) (by simp [results, Try.results35, go_sem, zp]) rfl ⟨rfl, (Below.refl _ _).alloc (Nat.le_refl _) _⟩
set_option maxRecDepth 100000 in
set_option maxHeartbeats 3200000 in
theorem Head_bad0 (s : ByteArray) (h20 : 20 ≤ s.size) (b0 b1 b8 n f : Int)
    (x0 : ∀ h : 0 < s.size, ((s[0]'h).toNat : Int) = b0) (x1 : ∀ h : 1 < s.size, ((s[1]'h).toNat : Int) = b1) (x8 : ∀ h : 8 < s.size, ((s[8]'h).toNat : Int) = b8)
    (f0 : 0 ≤ f) (f1 : f < 65536)
    (G1 : Hid (∀ w, Calls Try.prog 48 #[.string s, .int .i64 2, .int .i64 2] w fun e w' => e = .returned (.int .i64 n) ∧ w = w'))
    (G2 : Hid (∀ w, Calls Try.prog 48 #[.string s, .int .i64 6, .int .i64 2] w fun e w' => e = .returned (.int .i64 f) ∧ w = w'))
    (hb : b0 ≠ 69 ∨ b1 ≠ 0 ∨ n < 20 ∨ 32768 ≤ f ∨ b8 = 0) (w : World) :
    Calls Try.prog 35 #[.string s] w fun e w' => e = .returned (.tuple #[zp, .int .i64 0, .int .i64 3]) ∧ Below w.heap.size w w' := by
  have i0 : (0 : Int) < (s.size : Int) := by omega
  have i1 : (1 : Int) < (s.size : Int) := by omega
  have i8 : (8 : Int) < (s.size : Int) := by omega
  have ha := and_32768 f f0 f1
  have HB : Hid (b0 ≠ 69 ∨ b1 ≠ 0 ∨ n < 20 ∨ 32768 ≤ f ∨ b8 = 0) := hb
  clear hb
  go_enter Try.func35, Try.ntmps35
  go_wp2_with fail
  refine (G1 _).mono ?_
  rintro e w1 ⟨rfl, rfl⟩
  go_wp2_with fail
  refine (G2 _).mono ?_
  rintro e w1 ⟨rfl, rfl⟩
  have fin : ∀ w1 : World, True := fun _ => trivial
  by_cases c0 : b0 = 69
  · have d0 : (b0 != 69) = false := by simpa using c0
    by_cases c1 : b1 = 0
    · have d1 : (b1 != 0) = false := by simpa using c1
      by_cases c2 : n < 20
      · clear HB c0 c1
        go_wp2_with fail
        exact bodyPost_ret (v := .tuple #[zp, .int .i64 0, .int .i64 3]) (by simp [results, Try.results35, go_sem, zp]) rfl ⟨rfl, (Below.refl _ _).alloc (Nat.le_refl _) _⟩
      · by_cases c3 : 32768 ≤ f
        · have d3 : (f / 32768 * 32768 != 0) = true := by rw [bne_iff_ne]; omega
          clear HB c0 c1
          go_wp2_with fail
          exact bodyPost_ret (v := .tuple #[zp, .int .i64 0, .int .i64 3]) (by simp [results, Try.results35, go_sem, zp]) rfl ⟨rfl, (Below.refl _ _).alloc (Nat.le_refl _) _⟩
        · have d3 : (f / 32768 * 32768 != 0) = false := by rw [bne_eq_false_iff_eq]; omega
          have c4 : (b8 == 0) = true := by have := HB; rw [beq_iff_eq]; unfold Hid at this; omega
          clear HB c0 c1
          go_wp2_with fail
          exact bodyPost_ret (v := .tuple #[zp, .int .i64 0, .int .i64 3]) (by simp [results, Try.results35, go_sem, zp]) rfl ⟨rfl, (Below.refl _ _).alloc (Nat.le_refl _) _⟩
    · have d1 : (b1 != 0) = true := by simpa using c1
      clear HB c0 c1
      go_wp2_with fail
      exact bodyPost_ret (v := .tuple #[zp, .int .i64 0, .int .i64 3]) (by simp [results, Try.results35, go_sem, zp]) rfl ⟨rfl, (Below.refl _ _).alloc (Nat.le_refl _) _⟩
  · have d0 : (b0 != 69) = true := by simpa using c0
    clear HB c0
    go_wp2_with fail
    exact bodyPost_ret (v := .tuple #[zp, .int .i64 0, .int .i64 3]) (by simp [results, Try.results35, go_sem, zp]) rfl ⟨rfl, (Below.refl _ _).alloc (Nat.le_refl _) _⟩
theorem Head_bad (s : ByteArray) (h20 : 20 ≤ s.size) (hz : s.size ≤ 1048576) (hb : bad s) (w : World) :
    Calls Try.prog 35 #[.string s] w fun e w' => e = .returned (.tuple #[zp, .int .i64 0, .int .i64 3]) ∧ Below w.heap.size w w' :=
  Head_bad0 s h20 _ _ _ _ _ (bt_lit s 0) (bt_lit s 1) (bt_lit s 8) (bv_range s 6 2).1 (bv_range s 6 2).2 (fun w => get_calls s 2 2 hz (by omega) (by omega) w) (fun w => get_calls s 6 2 hz (by omega) (by omega) w) hb w
set_option maxRecDepth 100000 in
set_option maxHeartbeats 3200000 in
theorem Head_sum0 (s : ByteArray) (h20 : 20 ≤ s.size) (hz : s.size ≤ 1048576) (b8 n f g c : Int)
    (x0 : ∀ h : 0 < s.size, ((s[0]'h).toNat : Int) = 69) (x1 : ∀ h : 1 < s.size, ((s[1]'h).toNat : Int) = 0) (x8 : ∀ h : 8 < s.size, ((s[8]'h).toNat : Int) = b8)
    (f0 : 0 ≤ f) (f1 : f < 32768) (n0 : 20 ≤ n) (d8 : (b8 == 0) = false) (dg : (g != c) = true)
    (G1 : Hid (∀ w, Calls Try.prog 48 #[.string s, .int .i64 2, .int .i64 2] w fun e w' => e = .returned (.int .i64 n) ∧ w = w'))
    (G2 : Hid (∀ w, Calls Try.prog 48 #[.string s, .int .i64 6, .int .i64 2] w fun e w' => e = .returned (.int .i64 f) ∧ w = w'))
    (G3 : Hid (∀ w, Calls Try.prog 48 #[.string s, .int .i64 10, .int .i64 2] w fun e w' => e = .returned (.int .i64 g) ∧ w = w'))
    (G4 : Hid (∀ w, Calls Try.prog 10 #[.string (s.extract 0 10 ++ (⟨#[0, 0]⟩ : ByteArray) ++ s.extract 12 20)] w fun e w' => e = .returned (.int .i64 c) ∧ Below w.heap.size w w')) (w : World) :
    Calls Try.prog 35 #[.string s] w fun e w' => e = .returned (.tuple #[zp, .int .i64 0, .int .i64 8]) ∧ Below w.heap.size w w' := by
  have i0 : (0 : Int) < (s.size : Int) := by omega
  have i1 : (1 : Int) < (s.size : Int) := by omega
  have i8 : (8 : Int) < (s.size : Int) := by omega
  have i10 : (10 : Int) ≤ (s.size : Int) := by omega
  have i20 : (20 : Int) ≤ (s.size : Int) := by omega
  have ha := and_32768 f f0 (by omega)
  have d3 : (f / 32768 * 32768 != 0) = false := by rw [bne_eq_false_iff_eq]; omega
  have q1 : (9223372036854775807 < min 10 s.size + 2) = False := eq_false (by omega)
  have q2 : (9223372036854775807 < min 10 s.size + 2 + 8) = False := eq_false (by omega)
  go_enter Try.func35, Try.ntmps35
  go_wp2_with fail
  refine (G1 _).mono ?_
  rintro e w1 ⟨rfl, rfl⟩
  go_wp2_with fail
  refine (G2 _).mono ?_
  rintro e w1 ⟨rfl, rfl⟩
  go_wp2_with fail
  go_region_held3 (fun w' => w'.heap[w.heap.size]? = some (.cells #[.int .u32 0, .int .u32 0, .int .i64 0, .int .i64 0, .int .i64 0, .int .i64 0, .bool false, .bool false, .string ⟨#[]⟩] 30 (0, 0)) ∧ Below w.heap.size w w')
      (first | exact ⟨blk_drew (blk_new w _), ((Below.refl _ _).alloc (Nat.le_refl _) _).drew⟩ | exact keepB (by assumption) (by assumption) | assumption)
      (first | (go_at_call 48; refine (G3 _).mono ?_; rintro e w' ⟨rfl, rfl⟩) | (go_at_call 10; refine (G4 _).mono ?_; rintro e w' ⟨rfl, hb⟩))
  all_goals
    obtain ⟨B1, Z1⟩ := ‹_ ∧ Below w.heap.size w _›
    have Z2 := Lib.hid Z1
    obtain ⟨c0, c1, c2, c3, c4, c5, c6, c7, c8, cf, cl⟩ := cells9 B1
    clear B1 Z1
    go_wp2_with fail
    exact bodyPost_ret (v := .tuple #[zp, .int .i64 0, .int .i64 8]) (by simp [results, Try.results35, go_sem, zp, c0, c1, c2, c3, c4, c5, c6, c7, c8, cf]) rfl ⟨rfl, below9 _ _ _ _ _ _ _ _ _ Z2 (Nat.le_refl _)⟩
set_option maxRecDepth 100000 in
set_option maxHeartbeats 6400000 in
theorem Head_ok0 (s : ByteArray) (h20 : 20 ≤ s.size) (hz : s.size ≤ 1048576) (b8 b9 n f g sv dv iv : Int) (m h : Bool)
    (x0 : ∀ h : 0 < s.size, ((s[0]'h).toNat : Int) = 69) (x1 : ∀ h : 1 < s.size, ((s[1]'h).toNat : Int) = 0) (x8 : ∀ h : 8 < s.size, ((s[8]'h).toNat : Int) = b8) (x9 : ∀ h : 9 < s.size, ((s[9]'h).toNat : Int) = b9)
    (r8 : 0 ≤ b8 ∧ b8 ≤ 255) (r9 : 0 ≤ b9 ∧ b9 ≤ 255)
    (f0 : 0 ≤ f) (f1 : f < 32768) (n0 : 20 ≤ n) (d8 : (b8 == 0) = false) (s0 : 0 ≤ sv) (s1 : sv < 4294967296) (d0 : 0 ≤ dv) (d1 : dv < 4294967296)
    (hm : (f / 8192 % 2 * 8192 != 0) = m) (hh : (f / 16384 * 16384 != 0) = h)
    (G1 : Hid (∀ w, Calls Try.prog 48 #[.string s, .int .i64 2, .int .i64 2] w fun e w' => e = .returned (.int .i64 n) ∧ w = w'))
    (G2 : Hid (∀ w, Calls Try.prog 48 #[.string s, .int .i64 6, .int .i64 2] w fun e w' => e = .returned (.int .i64 f) ∧ w = w'))
    (G3 : Hid (∀ w, Calls Try.prog 48 #[.string s, .int .i64 10, .int .i64 2] w fun e w' => e = .returned (.int .i64 g) ∧ w = w'))
    (G5 : Hid (∀ w, Calls Try.prog 48 #[.string s, .int .i64 12, .int .i64 4] w fun e w' => e = .returned (.int .i64 sv) ∧ w = w'))
    (G6 : Hid (∀ w, Calls Try.prog 48 #[.string s, .int .i64 16, .int .i64 4] w fun e w' => e = .returned (.int .i64 dv) ∧ w = w'))
    (G7 : Hid (∀ w, Calls Try.prog 48 #[.string s, .int .i64 4, .int .i64 2] w fun e w' => e = .returned (.int .i64 iv) ∧ w = w'))
    (G4 : Hid (∀ w, Calls Try.prog 10 #[.string (s.extract 0 10 ++ (⟨#[0, 0]⟩ : ByteArray) ++ s.extract 12 20)] w fun e w' => e = .returned (.int .i64 g) ∧ Below w.heap.size w w')) (w : World) :
    Calls Try.prog 35 #[.string s] w fun e w' => e = .returned (.tuple #[.agg #[.int .u32 sv, .int .u32 dv, .int .i64 b9, .int .i64 b8, .int .i64 iv, .int .i64 (f % 8192 * 8), .bool m, .bool h, .string ⟨#[]⟩], .int .i64 n, .int .i64 0]) ∧ Below w.heap.size w w' := by
  have i0 : (0 : Int) < (s.size : Int) := by omega
  have i1 : (1 : Int) < (s.size : Int) := by omega
  have i8 : (8 : Int) < (s.size : Int) := by omega
  have i9 : (9 : Int) < (s.size : Int) := by omega
  have i10 : (10 : Int) ≤ (s.size : Int) := by omega
  have i20 : (20 : Int) ≤ (s.size : Int) := by omega
  have ha := and_32768 f f0 (by omega)
  have d3 : (f / 32768 * 32768 != 0) = false := by rw [bne_eq_false_iff_eq]; omega
  have q1 : (9223372036854775807 < min 10 s.size + 2) = False := eq_false (by omega)
  have q2 : (9223372036854775807 < min 10 s.size + 2 + 8) = False := eq_false (by omega)
  have a1 := and_8191 f f0 f1
  have a2 := and_8192 f f0 f1
  have a3 := and_16384 f f0 f1
  have W1 : IntKind.u32.wrap sv = sv := by rw [IntKind.wrap_u32]; omega
  have W2 : IntKind.u32.wrap dv = dv := by rw [IntKind.wrap_u32]; omega
  have W3 : IntKind.i64.wrap b8 = b8 := by rw [IntKind.wrap_i64]; omega
  have W4 : IntKind.i64.wrap b9 = b9 := by rw [IntKind.wrap_i64]; omega
  have W5 : IntKind.i64.wrap (f % 8192 * 8) = f % 8192 * 8 := by rw [IntKind.wrap_i64]; omega
  go_enter Try.func35, Try.ntmps35
  go_wp2_with fail
  refine (G1 _).mono ?_
  rintro e w1 ⟨rfl, rfl⟩
  go_wp2_with fail
  refine (G2 _).mono ?_
  rintro e w1 ⟨rfl, rfl⟩
  go_wp2_with fail
  go_region_held3 (fun w' => w'.heap[w.heap.size]? = some (.cells #[.int .u32 0, .int .u32 0, .int .i64 0, .int .i64 0, .int .i64 0, .int .i64 0, .bool false, .bool false, .string ⟨#[]⟩] 30 (0, 0)) ∧ Below w.heap.size w w')
      (first | exact ⟨blk_drew (blk_new w _), ((Below.refl _ _).alloc (Nat.le_refl _) _).drew⟩ | exact keepB (by assumption) (by assumption) | assumption)
      (first | (go_at_call 48; refine (G3 _).mono ?_; rintro e w' ⟨rfl, rfl⟩) | (go_at_call 10; refine (G4 _).mono ?_; rintro e w' ⟨rfl, hb⟩))
  obtain ⟨B1, Z1⟩ := ‹_ ∧ Below w.heap.size w _›
  rename_i w2 hb2
  clear hb2
  have B2 := Lib.hid B1
  have Z2 := Lib.hid Z1
  clear B1 Z1
  go_wp2_with fail
  refine Rg.start (n := 26) (S := (fun w' => w'.heap[w.heap.size]? = some (.cells #[.int .u32 0, .int .u32 0, .int .i64 0, .int .i64 0, .int .i64 0, .int .i64 0, .bool false, .bool false, .string ⟨#[]⟩] 30 (0, 0)) ∧ Below w.heap.size w w')) #[false, false, false, false, false, false, false, false, false, false, false, false, false, false, false, false, false, false, false, false, false, false, false, false, false, false] (by kernel_rfl) rfl rfl (keepD1 B2 Z2) (fun hS => ?_)
  refine Rg.tk (i := 0) (N := (some 52)) (v := ?_) (a' := ?_) #[true, false, false, false, false, false, false, false, false, false, false, false, false, false, false, false, false, false, false, false, false, false, false, false, false, false] rfl rfl (by kernel_rfl) (fun _ _ _ h => h) (Or.inl ⟨by rfl, ?_⟩) hS ?_ ?_
  rotate_left
  · intro w' hS'
    go_simp
    with_reducible rfl
  rotate_left
  · simp only [Act.put, List.setIfInBounds_toArray, List.set_cons_zero, List.set_cons_succ, i64_w, i32_w]
    rfl
  refine Rg.tkF (i := 1) (N := (some 53)) (a' := ?_) (.int .i64 sv) #[true, true, false, false, false, false, false, false, false, false, false, false, false, false, false, false, false, false, false, false, false, false, false, false, false, false] rfl rfl (by kernel_rfl) (fun _ _ _ h => h) Try.func48 (by kernel_rfl) rfl #[.string s, .int .i64 12, .int .i64 4] (by rfl) rfl (by (try simp only [List.map_toArray, List.map_cons, List.map_nil]); first | done | rfl) (fun w _ => G5 w) hS ?_ ?_
  rotate_left
  · simp only [Act.put, List.setIfInBounds_toArray, List.set_cons_zero, List.set_cons_succ, i64_w, i32_w]
    rfl
  refine Rg.tk (i := 2) (N := (some 54)) (v := ?_) (a' := ?_) #[true, true, true, false, false, false, false, false, false, false, false, false, false, false, false, false, false, false, false, false, false, false, false, false, false, false] rfl rfl (by kernel_rfl) (fun _ _ _ h => h) (Or.inl ⟨by rfl, ?_⟩) hS ?_ ?_
  rotate_left
  · intro w' hS'
    go_simp
    with_reducible rfl
  rotate_left
  · simp only [Act.put, List.setIfInBounds_toArray, List.set_cons_zero, List.set_cons_succ, i64_w, i32_w]
    rfl
  refine Rg.tk (i := 3) (N := (some 55)) (v := ?_) (a' := ?_) #[true, true, true, true, false, false, false, false, false, false, false, false, false, false, false, false, false, false, false, false, false, false, false, false, false, false] rfl rfl (by kernel_rfl) (fun _ _ _ h => h) (Or.inl ⟨by rfl, ?_⟩) hS ?_ ?_
  rotate_left
  · intro w' hS'
    go_simp
    with_reducible rfl
  rotate_left
  · simp only [Act.put, List.setIfInBounds_toArray, List.set_cons_zero, List.set_cons_succ, i64_w, i32_w]
    rfl
  refine Rg.tkF (i := 4) (N := (some 56)) (a' := ?_) (.int .i64 dv) #[true, true, true, true, true, false, false, false, false, false, false, false, false, false, false, false, false, false, false, false, false, false, false, false, false, false] rfl rfl (by kernel_rfl) (fun _ _ _ h => h) Try.func48 (by kernel_rfl) rfl #[.string s, .int .i64 16, .int .i64 4] (by rfl) rfl (by (try simp only [List.map_toArray, List.map_cons, List.map_nil]); first | done | rfl) (fun w _ => G6 w) hS ?_ ?_
  rotate_left
  · simp only [Act.put, List.setIfInBounds_toArray, List.set_cons_zero, List.set_cons_succ, i64_w, i32_w]
    rfl
  refine Rg.tk (i := 5) (N := (some 57)) (v := ?_) (a' := ?_) #[true, true, true, true, true, true, false, false, false, false, false, false, false, false, false, false, false, false, false, false, false, false, false, false, false, false] rfl rfl (by kernel_rfl) (fun _ _ _ h => h) (Or.inl ⟨by rfl, ?_⟩) hS ?_ ?_
  rotate_left
  · intro w' hS'
    go_simp
    with_reducible rfl
  rotate_left
  · simp only [Act.put, List.setIfInBounds_toArray, List.set_cons_zero, List.set_cons_succ, i64_w, i32_w]
    rfl
  refine Rg.tk (i := 6) (N := (some 58)) (v := ?_) (a' := ?_) #[true, true, true, true, true, true, true, false, false, false, false, false, false, false, false, false, false, false, false, false, false, false, false, false, false, false] rfl rfl (by kernel_rfl) (fun _ _ _ h => h) (Or.inl ⟨by rfl, ?_⟩) hS ?_ ?_
  rotate_left
  · intro w' hS'
    go_simp
    with_reducible rfl
  rotate_left
  · simp only [Act.put, List.setIfInBounds_toArray, List.set_cons_zero, List.set_cons_succ, i64_w, i32_w]
    rfl
  refine Rg.tk (i := 7) (N := (some 59)) (v := ?_) (a' := ?_) #[true, true, true, true, true, true, true, true, false, false, false, false, false, false, false, false, false, false, false, false, false, false, false, false, false, false] rfl rfl (by kernel_rfl) (fun _ _ _ h => h) (Or.inl ⟨by rfl, ?_⟩) hS ?_ ?_
  rotate_left
  · intro w' hS'
    go_simp
    with_reducible rfl
  rotate_left
  · simp only [Act.put, List.setIfInBounds_toArray, List.set_cons_zero, List.set_cons_succ, i64_w, i32_w]
    rfl
  refine Rg.tk (i := 8) (N := (some 60)) (v := ?_) (a' := ?_) #[true, true, true, true, true, true, true, true, true, false, false, false, false, false, false, false, false, false, false, false, false, false, false, false, false, false] rfl rfl (by kernel_rfl) (fun _ _ _ h => h) (Or.inl ⟨by rfl, ?_⟩) hS ?_ ?_
  rotate_left
  · intro w' hS'
    go_simp
    with_reducible rfl
  rotate_left
  · simp only [Act.put, List.setIfInBounds_toArray, List.set_cons_zero, List.set_cons_succ, i64_w, i32_w]
    rfl
  refine Rg.tk (i := 9) (N := (some 61)) (v := ?_) (a' := ?_) #[true, true, true, true, true, true, true, true, true, true, false, false, false, false, false, false, false, false, false, false, false, false, false, false, false, false] rfl rfl (by kernel_rfl) (fun _ _ _ h => h) (Or.inl ⟨by rfl, ?_⟩) hS ?_ ?_
  rotate_left
  · intro w' hS'
    go_simp
    with_reducible rfl
  rotate_left
  · simp only [Act.put, List.setIfInBounds_toArray, List.set_cons_zero, List.set_cons_succ, i64_w, i32_w]
    rfl
  refine Rg.tk (i := 10) (N := (some 62)) (v := ?_) (a' := ?_) #[true, true, true, true, true, true, true, true, true, true, true, false, false, false, false, false, false, false, false, false, false, false, false, false, false, false] rfl rfl (by kernel_rfl) (fun _ _ _ h => h) (Or.inl ⟨by rfl, ?_⟩) hS ?_ ?_
  rotate_left
  · intro w' hS'
    go_simp
    with_reducible rfl
  rotate_left
  · simp only [Act.put, List.setIfInBounds_toArray, List.set_cons_zero, List.set_cons_succ, i64_w, i32_w]
    rfl
  refine Rg.tk (i := 11) (N := (some 63)) (v := ?_) (a' := ?_) #[true, true, true, true, true, true, true, true, true, true, true, true, false, false, false, false, false, false, false, false, false, false, false, false, false, false] rfl rfl (by kernel_rfl) (fun _ _ _ h => h) (Or.inl ⟨by rfl, ?_⟩) hS ?_ ?_
  rotate_left
  · intro w' hS'
    go_simp
    with_reducible rfl
  rotate_left
  · simp only [Act.put, List.setIfInBounds_toArray, List.set_cons_zero, List.set_cons_succ, i64_w, i32_w]
    rfl
  refine Rg.tk (i := 12) (N := (some 64)) (v := ?_) (a' := ?_) #[true, true, true, true, true, true, true, true, true, true, true, true, true, false, false, false, false, false, false, false, false, false, false, false, false, false] rfl rfl (by kernel_rfl) (fun _ _ _ h => h) (Or.inl ⟨by rfl, ?_⟩) hS ?_ ?_
  rotate_left
  · intro w' hS'
    go_simp
    with_reducible rfl
  rotate_left
  · simp only [Act.put, List.setIfInBounds_toArray, List.set_cons_zero, List.set_cons_succ, i64_w, i32_w]
    rfl
  refine Rg.tkF (i := 13) (N := (some 65)) (a' := ?_) (.int .i64 iv) #[true, true, true, true, true, true, true, true, true, true, true, true, true, true, false, false, false, false, false, false, false, false, false, false, false, false] rfl rfl (by kernel_rfl) (fun _ _ _ h => h) Try.func48 (by kernel_rfl) rfl #[.string s, .int .i64 4, .int .i64 2] (by rfl) rfl (by (try simp only [List.map_toArray, List.map_cons, List.map_nil]); first | done | rfl) (fun w _ => G7 w) hS ?_ ?_
  rotate_left
  · simp only [Act.put, List.setIfInBounds_toArray, List.set_cons_zero, List.set_cons_succ, i64_w, i32_w]
    rfl
  refine Rg.tk (i := 14) (N := (some 66)) (v := ?_) (a' := ?_) #[true, true, true, true, true, true, true, true, true, true, true, true, true, true, true, false, false, false, false, false, false, false, false, false, false, false] rfl rfl (by kernel_rfl) (fun _ _ _ h => h) (Or.inl ⟨by rfl, ?_⟩) hS ?_ ?_
  rotate_left
  · intro w' hS'
    go_simp
    with_reducible rfl
  rotate_left
  · simp only [Act.put, List.setIfInBounds_toArray, List.set_cons_zero, List.set_cons_succ, i64_w, i32_w]
    rfl
  refine Rg.tk (i := 15) (N := (some 67)) (v := ?_) (a' := ?_) #[true, true, true, true, true, true, true, true, true, true, true, true, true, true, true, true, false, false, false, false, false, false, false, false, false, false] rfl rfl (by kernel_rfl) (fun _ _ _ h => h) (Or.inl ⟨by rfl, ?_⟩) hS ?_ ?_
  rotate_left
  · intro w' hS'
    go_simp
    with_reducible rfl
  rotate_left
  · simp only [Act.put, List.setIfInBounds_toArray, List.set_cons_zero, List.set_cons_succ, i64_w, i32_w]
    rfl
  refine Rg.tk (i := 16) (N := (some 68)) (v := ?_) (a' := ?_) #[true, true, true, true, true, true, true, true, true, true, true, true, true, true, true, true, true, false, false, false, false, false, false, false, false, false] rfl rfl (by kernel_rfl) (fun _ _ _ h => h) (Or.inl ⟨by rfl, ?_⟩) hS ?_ ?_
  rotate_left
  · intro w' hS'
    go_simp
    with_reducible rfl
  rotate_left
  · simp only [Act.put, List.setIfInBounds_toArray, List.set_cons_zero, List.set_cons_succ, i64_w, i32_w]
    rfl
  refine Rg.tk (i := 17) (N := (some 69)) (v := ?_) (a' := ?_) #[true, true, true, true, true, true, true, true, true, true, true, true, true, true, true, true, true, true, false, false, false, false, false, false, false, false] rfl rfl (by kernel_rfl) (fun _ _ _ h => h) (Or.inl ⟨by rfl, ?_⟩) hS ?_ ?_
  rotate_left
  · intro w' hS'
    go_simp
    with_reducible rfl
  rotate_left
  · simp only [Act.put, List.setIfInBounds_toArray, List.set_cons_zero, List.set_cons_succ, i64_w, i32_w]
    rfl
  refine Rg.tk (i := 18) (N := (some 70)) (v := ?_) (a' := ?_) #[true, true, true, true, true, true, true, true, true, true, true, true, true, true, true, true, true, true, true, false, false, false, false, false, false, false] rfl rfl (by kernel_rfl) (fun _ _ _ h => h) (Or.inl ⟨by rfl, ?_⟩) hS ?_ ?_
  rotate_left
  · intro w' hS'
    go_simp
    with_reducible rfl
  rotate_left
  · simp only [Act.put, List.setIfInBounds_toArray, List.set_cons_zero, List.set_cons_succ, i64_w, i32_w]
    rfl
  refine Rg.tk (i := 19) (N := (some 71)) (v := ?_) (a' := ?_) #[true, true, true, true, true, true, true, true, true, true, true, true, true, true, true, true, true, true, true, true, false, false, false, false, false, false] rfl rfl (by kernel_rfl) (fun _ _ _ h => h) (Or.inl ⟨by rfl, ?_⟩) hS ?_ ?_
  rotate_left
  · intro w' hS'
    go_simp
    with_reducible rfl
  rotate_left
  · simp only [Act.put, List.setIfInBounds_toArray, List.set_cons_zero, List.set_cons_succ, i64_w, i32_w]
    rfl
  refine Rg.tk (i := 20) (N := (some 72)) (v := ?_) (a' := ?_) #[true, true, true, true, true, true, true, true, true, true, true, true, true, true, true, true, true, true, true, true, true, false, false, false, false, false] rfl rfl (by kernel_rfl) (fun _ _ _ h => h) (Or.inl ⟨by rfl, ?_⟩) hS ?_ ?_
  rotate_left
  · intro w' hS'
    go_simp
    with_reducible rfl
  rotate_left
  · simp only [Act.put, List.setIfInBounds_toArray, List.set_cons_zero, List.set_cons_succ, i64_w, i32_w]
    rfl
  refine Rg.tk (i := 21) (N := (some 73)) (v := ?_) (a' := ?_) #[true, true, true, true, true, true, true, true, true, true, true, true, true, true, true, true, true, true, true, true, true, true, false, false, false, false] rfl rfl (by kernel_rfl) (fun _ _ _ h => h) (Or.inl ⟨by rfl, ?_⟩) hS ?_ ?_
  rotate_left
  · intro w' hS'
    go_simp
    with_reducible rfl
  rotate_left
  · simp only [Act.put, List.setIfInBounds_toArray, List.set_cons_zero, List.set_cons_succ, i64_w, i32_w]
    rfl
  refine Rg.tk (i := 22) (N := (some 74)) (v := ?_) (a' := ?_) #[true, true, true, true, true, true, true, true, true, true, true, true, true, true, true, true, true, true, true, true, true, true, true, false, false, false] rfl rfl (by kernel_rfl) (fun _ _ _ h => h) (Or.inl ⟨by rfl, ?_⟩) hS ?_ ?_
  rotate_left
  · intro w' hS'
    go_simp
    with_reducible rfl
  rotate_left
  · simp only [Act.put, List.setIfInBounds_toArray, List.set_cons_zero, List.set_cons_succ, i64_w, i32_w]
    rfl
  refine Rg.tk (i := 23) (N := (some 75)) (v := ?_) (a' := ?_) #[true, true, true, true, true, true, true, true, true, true, true, true, true, true, true, true, true, true, true, true, true, true, true, true, false, false] rfl rfl (by kernel_rfl) (fun _ _ _ h => h) (Or.inl ⟨by rfl, ?_⟩) hS ?_ ?_
  rotate_left
  · intro w' hS'
    go_simp
    with_reducible rfl
  rotate_left
  · simp only [Act.put, List.setIfInBounds_toArray, List.set_cons_zero, List.set_cons_succ, i64_w, i32_w]
    rfl
  refine Rg.go1 (i := 24) (N := (some 7)) #[true, true, true, true, true, true, true, true, true, true, true, true, true, true, true, true, true, true, true, true, true, true, true, true, true, false] rfl rfl (by kernel_rfl) (fun K hK => ?_)
  go_simp
  refine hK.out _ _ (keepD2 B2 Z2 _) (fun hS => ?_)
  clear hK K
  refine Rg.go1 (i := 25) (N := none) #[true, true, true, true, true, true, true, true, true, true, true, true, true, true, true, true, true, true, true, true, true, true, true, true, true, true] rfl rfl (by kernel_rfl) (fun K hK => ?_)
  go_simp
  refine hK.out _ _ (keepD2 B2 Z2 _) (fun hS => ?_)
  clear hK K
  refine Rg.fin (by kernel_rfl) ?_
  have Q3 := Lib.hid (blk_drew (blk_new w' (.cells #[.int .u32 sv, .int .u32 dv, .int .i64 b9, .int .i64 b8, .int .i64 iv, .int .i64 (f % 8192 * 8), .bool m, .bool h, .string ⟨#[]⟩] 30)))
  obtain ⟨B3, Z3⟩ := hS
  have ne : Hid (w.heap.size ≠ w'.heap.size) := by
    have := blk_lt B2
    show _ ≠ _
    omega
  clear B2 Z2
  generalize (w'.alloc (.cells #[.int .u32 sv, .int .u32 dv, .int .i64 b9, .int .i64 b8, .int .i64 iv, .int .i64 (f % 8192 * 8), .bool m, .bool h, .string ⟨#[]⟩] 30)).drew = W at Q3 B3 Z3 ⊢
  generalize w'.heap.size = q at Q3 ne ⊢
  have B4 := Lib.hid B3
  have Z4 := Lib.hid Z3
  clear B3 Z3
  obtain ⟨c0, c1, c2, c3, c4, c5, c6, c7, c8, cf, cl⟩ := cells9 B4
  obtain ⟨q0, q1', q2', q3, q4, q5, q6, q7, q8, qf, ql⟩ := cells9 Q3
  have n1 : (q = w.heap.size) = False := eq_false (Ne.symm ne)
  have n2 : (w.heap.size = q) = False := eq_false ne
  go_wp2_with fail
  exact bodyPost_ret (v := .tuple #[.agg #[.int .u32 sv, .int .u32 dv, .int .i64 b9, .int .i64 b8, .int .i64 iv, .int .i64 (f % 8192 * 8), .bool m, .bool h, .string ⟨#[]⟩], .int .i64 n, .int .i64 0]) (by simp [results, Try.results35, go_sem, c0, c1, c2, c3, c4, c5, c6, c7, c8, cf]) rfl ⟨rfl, below9 _ _ _ _ _ _ _ _ _ Z4 (Nat.le_refl _)⟩
set_option linter.unusedVariables false
theorem below3 {n : Nat} {W w : World} {q : Nat} (h : Below n W w) (hq : n ≤ q) (i j k : Nat) (u v x : Value) : Below n W (((w.setCell ⟨q, i, none⟩ u).setCell ⟨q, j, none⟩ v).setCell ⟨q, k, none⟩ x) :=
  Below.setCell (Below.setCell (Below.setCell h (p := ⟨q, i, none⟩) hq u) (p := ⟨q, j, none⟩) hq v) (p := ⟨q, k, none⟩) hq x
set_option maxRecDepth 100000 in
theorem HeadRead_short (s : ByteArray) (h : s.size < 20) (w : World) :
    Calls Try.prog 36 #[.string s] w fun e w' => e = .returned (.tuple #[zp, .int .i64 0, .int .i64 9]) ∧ Below w.heap.size w w' := by
  go_enter Try.func36, Try.ntmps36
  go_wp2
  exact bodyPost_ret (v := .tuple #[zp, .int .i64 0, .int .i64 9]) (by simp [results, Try.results36, go_sem, zp]) rfl ⟨rfl, (Below.refl _ _).alloc (Nat.le_refl _) _⟩
set_option maxRecDepth 100000 in
set_option maxHeartbeats 6400000 in
theorem HeadRead_bad0 (s : ByteArray) (h20 : 20 ≤ s.size) (b8 n f : Int) (t : Bool)
    (ht : ((s.extract 0 2).toList == [69, 0]) = t) (x8 : ∀ h : 8 < s.size, ((s[8]'h).toNat : Int) = b8)
    (f0 : 0 ≤ f) (f1 : f < 65536)
    (G1 : Hid (∀ w, Calls Try.prog 49 #[.string (s.extract 2 4)] w fun e w' => e = .returned (.int .i64 n) ∧ w = w'))
    (G2 : Hid (∀ w, Calls Try.prog 49 #[.string (s.extract 6 8)] w fun e w' => e = .returned (.int .i64 f) ∧ w = w'))
    (hb : t = false ∨ n < 20 ∨ 32768 ≤ f ∨ b8 = 0) (w : World) :
    Calls Try.prog 36 #[.string s] w fun e w' => e = .returned (.tuple #[zp, .int .i64 0, .int .i64 3]) ∧ Below w.heap.size w w' := by
  have HB : Hid (t = false ∨ n < 20 ∨ 32768 ≤ f ∨ b8 = 0) := hb
  clear hb
  have i2 : (2 : Int) ≤ (s.size : Int) := by omega
  have i4 : (4 : Int) ≤ (s.size : Int) := by omega
  have i6 : (6 : Int) ≤ (s.size : Int) := by omega
  have i8' : (8 : Int) ≤ (s.size : Int) := by omega
  have i8 : (8 : Int) < (s.size : Int) := by omega
  have i9 : (9 : Int) ≤ (s.size : Int) := by omega
  have i10 : (10 : Int) ≤ (s.size : Int) := by omega
  have i12 : (12 : Int) ≤ (s.size : Int) := by omega
  have i16 : (16 : Int) ≤ (s.size : Int) := by omega
  have i20 : (20 : Int) ≤ (s.size : Int) := by omega
  go_enter Try.func36, Try.ntmps36
  go_wp2_with fail
  refine Rg.start (n := 8) (S := (fun w' => w'.heap[w.heap.size]? = some (.cells #[.int .u32 0, .int .u32 0, .int .i64 0, .int .i64 0, .int .i64 0, .int .i64 0, .bool false, .bool false, .string ⟨#[]⟩] 30 (0, 0)) ∧ Below w.heap.size w w')) #[false, false, false, false, false, false, false, false] (by kernel_rfl) rfl rfl ⟨blk_drew (blk_new w _), ((Below.refl _ _).alloc (Nat.le_refl _) _).drew⟩ (fun hS => ?_)
  refine Rg.tk (i := 0) (N := (some 12)) (v := ?_) (a' := ?_) #[true, false, false, false, false, false, false, false] rfl rfl (by kernel_rfl) (fun _ _ _ h => h) (Or.inl ⟨by rfl, ?_⟩) hS ?_ ?_
  rotate_left
  · intro w' hS'
    go_simp
    with_reducible rfl
  rotate_left
  · simp only [Act.put, List.setIfInBounds_toArray, List.set_cons_zero, List.set_cons_succ, i64_w, i32_w]
    rfl
  refine Rg.tk (i := 1) (N := (some 13)) (v := ?_) (a' := ?_) #[true, true, false, false, false, false, false, false] rfl rfl (by kernel_rfl) (fun _ _ _ h => h) (Or.inl ⟨by rfl, ?_⟩) hS ?_ ?_
  rotate_left
  · intro w' hS'
    go_simp
    with_reducible rfl
  rotate_left
  · simp only [Act.put, List.setIfInBounds_toArray, List.set_cons_zero, List.set_cons_succ, i64_w, i32_w]
    rfl
  refine Rg.tkF (i := 2) (N := (some 14)) (a' := ?_) (.int .i64 n) #[true, true, true, false, false, false, false, false] rfl rfl (by kernel_rfl) (fun _ _ _ h => h) Try.func49 (by kernel_rfl) rfl #[.string (s.extract 2 4)] (by rfl) rfl (by (try simp only [List.map_toArray, List.map_cons, List.map_nil]); first | done | rfl) (fun w _ => G1 w) hS ?_ ?_
  rotate_left
  · simp only [Act.put, List.setIfInBounds_toArray, List.set_cons_zero, List.set_cons_succ, i64_w, i32_w]
    rfl
  refine Rg.tk (i := 3) (N := (some 15)) (v := ?_) (a' := ?_) #[true, true, true, true, false, false, false, false] rfl rfl (by kernel_rfl) (fun _ _ _ h => h) (Or.inl ⟨by rfl, ?_⟩) hS ?_ ?_
  rotate_left
  · intro w' hS'
    go_simp
    with_reducible rfl
  rotate_left
  · simp only [Act.put, List.setIfInBounds_toArray, List.set_cons_zero, List.set_cons_succ, i64_w, i32_w]
    rfl
  refine Rg.tk (i := 4) (N := (some 16)) (v := ?_) (a' := ?_) #[true, true, true, true, true, false, false, false] rfl rfl (by kernel_rfl) (fun _ _ _ h => h) (Or.inl ⟨by rfl, ?_⟩) hS ?_ ?_
  rotate_left
  · intro w' hS'
    go_simp
    with_reducible rfl
  rotate_left
  · simp only [Act.put, List.setIfInBounds_toArray, List.set_cons_zero, List.set_cons_succ, i64_w, i32_w]
    rfl
  refine Rg.tkF (i := 5) (N := (some 17)) (a' := ?_) (.int .i64 f) #[true, true, true, true, true, true, false, false] rfl rfl (by kernel_rfl) (fun _ _ _ h => h) Try.func49 (by kernel_rfl) rfl #[.string (s.extract 6 8)] (by rfl) rfl (by (try simp only [List.map_toArray, List.map_cons, List.map_nil]); first | done | rfl) (fun w _ => G2 w) hS ?_ ?_
  rotate_left
  · simp only [Act.put, List.setIfInBounds_toArray, List.set_cons_zero, List.set_cons_succ, i64_w, i32_w]
    rfl
  refine Rg.tk (i := 6) (N := (some 5)) (v := ?_) (a' := ?_) #[true, true, true, true, true, true, true, false] rfl rfl (by kernel_rfl) (fun _ _ _ h => h) (Or.inl ⟨by rfl, ?_⟩) hS ?_ ?_
  rotate_left
  · intro w' hS'
    go_simp
    with_reducible rfl
  rotate_left
  · simp only [Act.put, List.setIfInBounds_toArray, List.set_cons_zero, List.set_cons_succ, i64_w, i32_w]
    rfl
  refine Rg.tk (i := 7) (N := (some 6)) (v := ?_) (a' := ?_) #[true, true, true, true, true, true, true, true] rfl rfl (by kernel_rfl) (fun _ _ _ h => h) (Or.inl ⟨by rfl, ?_⟩) hS ?_ ?_
  rotate_left
  · intro w' hS'
    go_simp
    with_reducible rfl
  rotate_left
  · simp only [Act.put, List.setIfInBounds_toArray, List.set_cons_zero, List.set_cons_succ, i64_w, i32_w]
    rfl
  refine Rg.fin (by kernel_rfl) ?_
  obtain ⟨B1, Z1⟩ := hS
  generalize (w.alloc (.cells #[.int .u32 0, .int .u32 0, .int .i64 0, .int .i64 0, .int .i64 0, .int .i64 0, .bool false, .bool false, .string ⟨#[]⟩] 30)).drew = W1 at B1 Z1 ⊢
  have B2 := Lib.hid B1
  have Z2 := Lib.hid Z1
  clear B1 Z1
  have Z4 := Z2
  obtain ⟨c0, c1, c2, c3, c4, c5, c6, c7, c8, cf, cl⟩ := cells9 B2
  cases t
  · clear HB
    go_wp2_with fail
    exact bodyPost_ret (v := .tuple #[zp, .int .i64 0, .int .i64 3]) (by simp [results, Try.results36, go_sem, zp, c0, c1, c2, c3, c4, c5, c6, c7, c8, cf]) rfl ⟨rfl, below9 _ _ _ _ _ _ _ _ _ Z4 (Nat.le_refl _)⟩
  · by_cases c2' : n < 20
    · clear HB
      go_wp2_with fail
      exact bodyPost_ret (v := .tuple #[zp, .int .i64 0, .int .i64 3]) (by simp [results, Try.results36, go_sem, zp, c0, c1, c2, c3, c4, c5, c6, c7, c8, cf]) rfl ⟨rfl, below9 _ _ _ _ _ _ _ _ _ Z4 (Nat.le_refl _)⟩
    · by_cases c3' : 32768 ≤ f
      · clear HB
        go_wp2_with fail
        exact bodyPost_ret (v := .tuple #[zp, .int .i64 0, .int .i64 3]) (by simp [results, Try.results36, go_sem, zp, c0, c1, c2, c3, c4, c5, c6, c7, c8, cf]) rfl ⟨rfl, below9 _ _ _ _ _ _ _ _ _ Z4 (Nat.le_refl _)⟩
      · have c4' : (b8 == 0) = true := by
          have hb := HB
          rw [beq_iff_eq]
          unfold Hid at hb
          rcases hb with hb | hb
          · cases hb
          · omega
        clear HB
        go_wp2_with fail
        exact bodyPost_ret (v := .tuple #[zp, .int .i64 0, .int .i64 3]) (by simp [results, Try.results36, go_sem, zp, c0, c1, c2, c3, c4, c5, c6, c7, c8, cf]) rfl ⟨rfl, below9 _ _ _ _ _ _ _ _ _ Z4 (Nat.le_refl _)⟩
set_option maxRecDepth 100000 in
set_option maxHeartbeats 6400000 in
theorem HeadRead_sum0 (s : ByteArray) (h20 : 20 ≤ s.size) (hz : s.size ≤ 1048576) (b8 n f g c : Int)
    (ht : ((s.extract 0 2).toList == [69, 0]) = true) (x8 : ∀ h : 8 < s.size, ((s[8]'h).toNat : Int) = b8)
    (f0 : 0 ≤ f) (f1 : f < 32768) (n0 : 20 ≤ n) (d8 : (b8 == 0) = false) (dg : (g != c) = true)
    (G1 : Hid (∀ w, Calls Try.prog 49 #[.string (s.extract 2 4)] w fun e w' => e = .returned (.int .i64 n) ∧ w = w'))
    (G2 : Hid (∀ w, Calls Try.prog 49 #[.string (s.extract 6 8)] w fun e w' => e = .returned (.int .i64 f) ∧ w = w'))
    (G3 : Hid (∀ w, Calls Try.prog 49 #[.string (s.extract 10 12)] w fun e w' => e = .returned (.int .i64 g) ∧ w = w'))
    (G4 : Hid (∀ w, Calls Try.prog 11 #[.string (s.extract 0 10 ++ (⟨#[0, 0]⟩ : ByteArray) ++ s.extract 12 20)] w fun e w' => e = .returned (.int .i64 c) ∧ Below w.heap.size w w')) (w : World) :
    Calls Try.prog 36 #[.string s] w fun e w' => e = .returned (.tuple #[zp, .int .i64 0, .int .i64 8]) ∧ Below w.heap.size w w' := by
  have q1 : (9223372036854775807 < min 10 s.size + 2) = False := eq_false (by omega)
  have q2 : (9223372036854775807 < min 10 s.size + 2 + 8) = False := eq_false (by omega)
  have i2 : (2 : Int) ≤ (s.size : Int) := by omega
  have i4 : (4 : Int) ≤ (s.size : Int) := by omega
  have i6 : (6 : Int) ≤ (s.size : Int) := by omega
  have i8' : (8 : Int) ≤ (s.size : Int) := by omega
  have i8 : (8 : Int) < (s.size : Int) := by omega
  have i9 : (9 : Int) ≤ (s.size : Int) := by omega
  have i10 : (10 : Int) ≤ (s.size : Int) := by omega
  have i12 : (12 : Int) ≤ (s.size : Int) := by omega
  have i16 : (16 : Int) ≤ (s.size : Int) := by omega
  have i20 : (20 : Int) ≤ (s.size : Int) := by omega
  go_enter Try.func36, Try.ntmps36
  go_wp2_with fail
  refine Rg.start (n := 8) (S := (fun w' => w'.heap[w.heap.size]? = some (.cells #[.int .u32 0, .int .u32 0, .int .i64 0, .int .i64 0, .int .i64 0, .int .i64 0, .bool false, .bool false, .string ⟨#[]⟩] 30 (0, 0)) ∧ Below w.heap.size w w')) #[false, false, false, false, false, false, false, false] (by kernel_rfl) rfl rfl ⟨blk_drew (blk_new w _), ((Below.refl _ _).alloc (Nat.le_refl _) _).drew⟩ (fun hS => ?_)
  refine Rg.tk (i := 0) (N := (some 12)) (v := ?_) (a' := ?_) #[true, false, false, false, false, false, false, false] rfl rfl (by kernel_rfl) (fun _ _ _ h => h) (Or.inl ⟨by rfl, ?_⟩) hS ?_ ?_
  rotate_left
  · intro w' hS'
    go_simp
    with_reducible rfl
  rotate_left
  · simp only [Act.put, List.setIfInBounds_toArray, List.set_cons_zero, List.set_cons_succ, i64_w, i32_w]
    rfl
  refine Rg.tk (i := 1) (N := (some 13)) (v := ?_) (a' := ?_) #[true, true, false, false, false, false, false, false] rfl rfl (by kernel_rfl) (fun _ _ _ h => h) (Or.inl ⟨by rfl, ?_⟩) hS ?_ ?_
  rotate_left
  · intro w' hS'
    go_simp
    with_reducible rfl
  rotate_left
  · simp only [Act.put, List.setIfInBounds_toArray, List.set_cons_zero, List.set_cons_succ, i64_w, i32_w]
    rfl
  refine Rg.tkF (i := 2) (N := (some 14)) (a' := ?_) (.int .i64 n) #[true, true, true, false, false, false, false, false] rfl rfl (by kernel_rfl) (fun _ _ _ h => h) Try.func49 (by kernel_rfl) rfl #[.string (s.extract 2 4)] (by rfl) rfl (by (try simp only [List.map_toArray, List.map_cons, List.map_nil]); first | done | rfl) (fun w _ => G1 w) hS ?_ ?_
  rotate_left
  · simp only [Act.put, List.setIfInBounds_toArray, List.set_cons_zero, List.set_cons_succ, i64_w, i32_w]
    rfl
  refine Rg.tk (i := 3) (N := (some 15)) (v := ?_) (a' := ?_) #[true, true, true, true, false, false, false, false] rfl rfl (by kernel_rfl) (fun _ _ _ h => h) (Or.inl ⟨by rfl, ?_⟩) hS ?_ ?_
  rotate_left
  · intro w' hS'
    go_simp
    with_reducible rfl
  rotate_left
  · simp only [Act.put, List.setIfInBounds_toArray, List.set_cons_zero, List.set_cons_succ, i64_w, i32_w]
    rfl
  refine Rg.tk (i := 4) (N := (some 16)) (v := ?_) (a' := ?_) #[true, true, true, true, true, false, false, false] rfl rfl (by kernel_rfl) (fun _ _ _ h => h) (Or.inl ⟨by rfl, ?_⟩) hS ?_ ?_
  rotate_left
  · intro w' hS'
    go_simp
    with_reducible rfl
  rotate_left
  · simp only [Act.put, List.setIfInBounds_toArray, List.set_cons_zero, List.set_cons_succ, i64_w, i32_w]
    rfl
  refine Rg.tkF (i := 5) (N := (some 17)) (a' := ?_) (.int .i64 f) #[true, true, true, true, true, true, false, false] rfl rfl (by kernel_rfl) (fun _ _ _ h => h) Try.func49 (by kernel_rfl) rfl #[.string (s.extract 6 8)] (by rfl) rfl (by (try simp only [List.map_toArray, List.map_cons, List.map_nil]); first | done | rfl) (fun w _ => G2 w) hS ?_ ?_
  rotate_left
  · simp only [Act.put, List.setIfInBounds_toArray, List.set_cons_zero, List.set_cons_succ, i64_w, i32_w]
    rfl
  refine Rg.tk (i := 6) (N := (some 5)) (v := ?_) (a' := ?_) #[true, true, true, true, true, true, true, false] rfl rfl (by kernel_rfl) (fun _ _ _ h => h) (Or.inl ⟨by rfl, ?_⟩) hS ?_ ?_
  rotate_left
  · intro w' hS'
    go_simp
    with_reducible rfl
  rotate_left
  · simp only [Act.put, List.setIfInBounds_toArray, List.set_cons_zero, List.set_cons_succ, i64_w, i32_w]
    rfl
  refine Rg.tk (i := 7) (N := (some 6)) (v := ?_) (a' := ?_) #[true, true, true, true, true, true, true, true] rfl rfl (by kernel_rfl) (fun _ _ _ h => h) (Or.inl ⟨by rfl, ?_⟩) hS ?_ ?_
  rotate_left
  · intro w' hS'
    go_simp
    with_reducible rfl
  rotate_left
  · simp only [Act.put, List.setIfInBounds_toArray, List.set_cons_zero, List.set_cons_succ, i64_w, i32_w]
    rfl
  refine Rg.fin (by kernel_rfl) ?_
  obtain ⟨B1, Z1⟩ := hS
  generalize (w.alloc (.cells #[.int .u32 0, .int .u32 0, .int .i64 0, .int .i64 0, .int .i64 0, .int .i64 0, .bool false, .bool false, .string ⟨#[]⟩] 30)).drew = W1 at B1 Z1 ⊢
  have B2 := Lib.hid B1
  have Z2 := Lib.hid Z1
  clear B1 Z1
  go_wp2_with fail
  refine Rg.start (n := 11) (S := (fun w' => w'.heap[w.heap.size]? = some (.cells #[.int .u32 0, .int .u32 0, .int .i64 0, .int .i64 0, .int .i64 0, .int .i64 0, .bool false, .bool false, .string ⟨#[]⟩] 30 (0, 0)) ∧ Below w.heap.size w w')) #[false, false, false, false, false, false, false, false, false, false, false] (by kernel_rfl) rfl rfl (keepD1 B2 Z2) (fun hS => ?_)
  refine Rg.tk (i := 0) (N := (some 35)) (v := ?_) (a' := ?_) #[true, false, false, false, false, false, false, false, false, false, false] rfl rfl (by kernel_rfl) (fun _ _ _ h => h) (Or.inl ⟨by rfl, ?_⟩) hS ?_ ?_
  rotate_left
  · intro w' hS'
    go_simp
    with_reducible rfl
  rotate_left
  · simp only [Act.put, List.setIfInBounds_toArray, List.set_cons_zero, List.set_cons_succ, i64_w, i32_w]
    rfl
  refine Rg.tk (i := 1) (N := (some 36)) (v := ?_) (a' := ?_) #[true, true, false, false, false, false, false, false, false, false, false] rfl rfl (by kernel_rfl) (fun _ _ _ h => h) (Or.inl ⟨by rfl, ?_⟩) hS ?_ ?_
  rotate_left
  · intro w' hS'
    go_simp
    with_reducible rfl
  rotate_left
  · simp only [Act.put, List.setIfInBounds_toArray, List.set_cons_zero, List.set_cons_succ, i64_w, i32_w]
    rfl
  refine Rg.tkF (i := 2) (N := (some 37)) (a' := ?_) (.int .i64 g) #[true, true, true, false, false, false, false, false, false, false, false] rfl rfl (by kernel_rfl) (fun _ _ _ h => h) Try.func49 (by kernel_rfl) rfl #[.string (s.extract 10 12)] (by rfl) rfl (by (try simp only [List.map_toArray, List.map_cons, List.map_nil]); first | done | rfl) (fun w _ => G3 w) hS ?_ ?_
  rotate_left
  · simp only [Act.put, List.setIfInBounds_toArray, List.set_cons_zero, List.set_cons_succ, i64_w, i32_w]
    rfl
  refine Rg.tk (i := 3) (N := (some 38)) (v := ?_) (a' := ?_) #[true, true, true, true, false, false, false, false, false, false, false] rfl rfl (by kernel_rfl) (fun _ _ _ h => h) (Or.inl ⟨by rfl, ?_⟩) hS ?_ ?_
  rotate_left
  · intro w' hS'
    go_simp
    with_reducible rfl
  rotate_left
  · simp only [Act.put, List.setIfInBounds_toArray, List.set_cons_zero, List.set_cons_succ, i64_w, i32_w]
    rfl
  refine Rg.tk (i := 4) (N := (some 39)) (v := ?_) (a' := ?_) #[true, true, true, true, true, false, false, false, false, false, false] rfl rfl (by kernel_rfl) (fun _ _ _ h => h) (Or.inl ⟨by rfl, ?_⟩) hS ?_ ?_
  rotate_left
  · intro w' hS'
    go_simp
    with_reducible rfl
  rotate_left
  · simp only [Act.put, List.setIfInBounds_toArray, List.set_cons_zero, List.set_cons_succ, i64_w, i32_w]
    rfl
  refine Rg.tk (i := 5) (N := (some 40)) (v := ?_) (a' := ?_) #[true, true, true, true, true, true, false, false, false, false, false] rfl rfl (by kernel_rfl) (fun _ _ _ h => h) (Or.inl ⟨by rfl, ?_⟩) hS ?_ ?_
  rotate_left
  · intro w' hS'
    go_simp
    with_reducible rfl
  rotate_left
  · simp only [Act.put, List.setIfInBounds_toArray, List.set_cons_zero, List.set_cons_succ, i64_w, i32_w]
    rfl
  refine Rg.tk (i := 6) (N := (some 41)) (v := ?_) (a' := ?_) #[true, true, true, true, true, true, true, false, false, false, false] rfl rfl (by kernel_rfl) (fun _ _ _ h => h) (Or.inl ⟨by rfl, ?_⟩) hS ?_ ?_
  rotate_left
  · intro w' hS'
    go_simp
    with_reducible rfl
  rotate_left
  · simp only [Act.put, List.setIfInBounds_toArray, List.set_cons_zero, List.set_cons_succ, i64_w, i32_w]
    rfl
  refine Rg.tk (i := 7) (N := (some 42)) (v := ?_) (a' := ?_) #[true, true, true, true, true, true, true, true, false, false, false] rfl rfl (by kernel_rfl) (fun _ _ _ h => h) (Or.inl ⟨by rfl, ?_⟩) hS ?_ ?_
  rotate_left
  · intro w' hS'
    go_simp
    with_reducible rfl
  rotate_left
  · simp only [Act.put, List.setIfInBounds_toArray, List.set_cons_zero, List.set_cons_succ, i64_w, i32_w]
    rfl
  refine Rg.tk (i := 8) (N := (some 43)) (v := ?_) (a' := ?_) #[true, true, true, true, true, true, true, true, true, false, false] rfl rfl (by kernel_rfl) (fun _ _ _ h => h) (Or.inl ⟨by rfl, ?_⟩) hS ?_ ?_
  rotate_left
  · intro w' hS'
    go_simp
    with_reducible rfl
  rotate_left
  · simp only [Act.put, List.setIfInBounds_toArray, List.set_cons_zero, List.set_cons_succ, i64_w, i32_w]
    rfl
  refine Rg.go1 (i := 9) (N := (some 44)) #[true, true, true, true, true, true, true, true, true, true, false] rfl rfl (by kernel_rfl) (fun K hK => ?_)
  refine goes_ Try.func11 (by kernel_rfl) rfl #[.string (s.extract 0 10 ++ (⟨#[0, 0]⟩ : ByteArray) ++ s.extract 12 20)] (by rfl) rfl rfl (by (try simp only [List.map_toArray, List.map_cons, List.map_nil]); first | done | rfl) ?_
  refine (G4 _).mono ?_
  rintro e w' ⟨rfl, hb⟩
  refine ⟨_, rfl, ?_⟩
  refine hK.out _ _ (keepB hb hS) (fun hS => ?_)
  clear hK K
  refine Rg.norm (a' := ?_) ?_ ?_
  rotate_left
  · simp only [Act.put, List.setIfInBounds_toArray, List.set_cons_zero, List.set_cons_succ, i64_w, i32_w]
    rfl
  refine Rg.tk (i := 10) (N := (some 45)) (v := ?_) (a' := ?_) #[true, true, true, true, true, true, true, true, true, true, true] rfl rfl (by kernel_rfl) (fun _ _ _ h => h) (Or.inl ⟨by rfl, ?_⟩) hS ?_ ?_
  rotate_left
  · intro w' hS'
    go_simp
    with_reducible rfl
  rotate_left
  · simp only [Act.put, List.setIfInBounds_toArray, List.set_cons_zero, List.set_cons_succ, i64_w, i32_w]
    rfl
  refine Rg.fin (by kernel_rfl) ?_
  obtain ⟨B1, Z1⟩ := hS
  have B3 := Lib.hid B1
  have Z4 := Lib.hid Z1
  clear B1 Z1 B2 Z2
  obtain ⟨c0, c1, c2, c3, c4, c5, c6, c7, c8, cf, cl⟩ := cells9 B3
  go_wp2_with fail
  exact bodyPost_ret (v := .tuple #[zp, .int .i64 0, .int .i64 8]) (by simp [results, Try.results36, go_sem, zp, c0, c1, c2, c3, c4, c5, c6, c7, c8, cf]) rfl ⟨rfl, below9 _ _ _ _ _ _ _ _ _ Z4 (Nat.le_refl _)⟩
set_option maxRecDepth 100000 in
set_option maxHeartbeats 6400000 in
theorem HeadRead_ok0 (s : ByteArray) (h20 : 20 ≤ s.size) (hz : s.size ≤ 1048576) (b8 b9 n f g sv dv iv : Int) (m h : Bool)
    (ht : ((s.extract 0 2).toList == [69, 0]) = true) (x8 : ∀ h : 8 < s.size, ((s[8]'h).toNat : Int) = b8)
    (f0 : 0 ≤ f) (f1 : f < 32768) (n0 : 20 ≤ n) (d8 : (b8 == 0) = false) (s0 : 0 ≤ sv) (s1 : sv < 4294967296) (d0 : 0 ≤ dv) (d1 : dv < 4294967296)
    (hm : decide (8192 ≤ f % 16384) = m) (hh : decide (16384 ≤ f) = h)
    (G1 : Hid (∀ w, Calls Try.prog 49 #[.string (s.extract 2 4)] w fun e w' => e = .returned (.int .i64 n) ∧ w = w'))
    (G2 : Hid (∀ w, Calls Try.prog 49 #[.string (s.extract 6 8)] w fun e w' => e = .returned (.int .i64 f) ∧ w = w'))
    (G3 : Hid (∀ w, Calls Try.prog 49 #[.string (s.extract 10 12)] w fun e w' => e = .returned (.int .i64 g) ∧ w = w'))
    (G5 : Hid (∀ w, Calls Try.prog 49 #[.string (s.extract 12 16)] w fun e w' => e = .returned (.int .i64 sv) ∧ w = w'))
    (G6 : Hid (∀ w, Calls Try.prog 49 #[.string (s.extract 16 20)] w fun e w' => e = .returned (.int .i64 dv) ∧ w = w'))
    (G7 : Hid (∀ w, Calls Try.prog 49 #[.string (s.extract 4 6)] w fun e w' => e = .returned (.int .i64 iv) ∧ w = w'))
    (G8 : Hid (∀ w, Calls Try.prog 49 #[.string (s.extract 9 10)] w fun e w' => e = .returned (.int .i64 b9) ∧ w = w'))
    (G9 : Hid (∀ w, Calls Try.prog 49 #[.string (s.extract 8 9)] w fun e w' => e = .returned (.int .i64 b8) ∧ w = w'))
    (G4 : Hid (∀ w, Calls Try.prog 11 #[.string (s.extract 0 10 ++ (⟨#[0, 0]⟩ : ByteArray) ++ s.extract 12 20)] w fun e w' => e = .returned (.int .i64 g) ∧ Below w.heap.size w w')) (w : World) :
    Calls Try.prog 36 #[.string s] w fun e w' => e = .returned (.tuple #[.agg #[.int .u32 sv, .int .u32 dv, .int .i64 b9, .int .i64 b8, .int .i64 iv, .int .i64 (f % 8192 * 8), .bool m, .bool h, .string ⟨#[]⟩], .int .i64 n, .int .i64 0]) ∧ Below w.heap.size w w' := by
  have q1 : (9223372036854775807 < min 10 s.size + 2) = False := eq_false (by omega)
  have q2 : (9223372036854775807 < min 10 s.size + 2 + 8) = False := eq_false (by omega)
  have W1 : IntKind.u32.wrap sv = sv := by rw [IntKind.wrap_u32]; omega
  have W2 : IntKind.u32.wrap dv = dv := by rw [IntKind.wrap_u32]; omega
  have i2 : (2 : Int) ≤ (s.size : Int) := by omega
  have i4 : (4 : Int) ≤ (s.size : Int) := by omega
  have i6 : (6 : Int) ≤ (s.size : Int) := by omega
  have i8' : (8 : Int) ≤ (s.size : Int) := by omega
  have i8 : (8 : Int) < (s.size : Int) := by omega
  have i9 : (9 : Int) ≤ (s.size : Int) := by omega
  have i10 : (10 : Int) ≤ (s.size : Int) := by omega
  have i12 : (12 : Int) ≤ (s.size : Int) := by omega
  have i16 : (16 : Int) ≤ (s.size : Int) := by omega
  have i20 : (20 : Int) ≤ (s.size : Int) := by omega
  go_enter Try.func36, Try.ntmps36
  go_wp2_with fail
  refine Rg.start (n := 8) (S := (fun w' => w'.heap[w.heap.size]? = some (.cells #[.int .u32 0, .int .u32 0, .int .i64 0, .int .i64 0, .int .i64 0, .int .i64 0, .bool false, .bool false, .string ⟨#[]⟩] 30 (0, 0)) ∧ Below w.heap.size w w')) #[false, false, false, false, false, false, false, false] (by kernel_rfl) rfl rfl ⟨blk_drew (blk_new w _), ((Below.refl _ _).alloc (Nat.le_refl _) _).drew⟩ (fun hS => ?_)
  refine Rg.tk (i := 0) (N := (some 12)) (v := ?_) (a' := ?_) #[true, false, false, false, false, false, false, false] rfl rfl (by kernel_rfl) (fun _ _ _ h => h) (Or.inl ⟨by rfl, ?_⟩) hS ?_ ?_
  rotate_left
  · intro w' hS'
    go_simp
    with_reducible rfl
  rotate_left
  · simp only [Act.put, List.setIfInBounds_toArray, List.set_cons_zero, List.set_cons_succ, i64_w, i32_w]
    rfl
  refine Rg.tk (i := 1) (N := (some 13)) (v := ?_) (a' := ?_) #[true, true, false, false, false, false, false, false] rfl rfl (by kernel_rfl) (fun _ _ _ h => h) (Or.inl ⟨by rfl, ?_⟩) hS ?_ ?_
  rotate_left
  · intro w' hS'
    go_simp
    with_reducible rfl
  rotate_left
  · simp only [Act.put, List.setIfInBounds_toArray, List.set_cons_zero, List.set_cons_succ, i64_w, i32_w]
    rfl
  refine Rg.tkF (i := 2) (N := (some 14)) (a' := ?_) (.int .i64 n) #[true, true, true, false, false, false, false, false] rfl rfl (by kernel_rfl) (fun _ _ _ h => h) Try.func49 (by kernel_rfl) rfl #[.string (s.extract 2 4)] (by rfl) rfl (by (try simp only [List.map_toArray, List.map_cons, List.map_nil]); first | done | rfl) (fun w _ => G1 w) hS ?_ ?_
  rotate_left
  · simp only [Act.put, List.setIfInBounds_toArray, List.set_cons_zero, List.set_cons_succ, i64_w, i32_w]
    rfl
  refine Rg.tk (i := 3) (N := (some 15)) (v := ?_) (a' := ?_) #[true, true, true, true, false, false, false, false] rfl rfl (by kernel_rfl) (fun _ _ _ h => h) (Or.inl ⟨by rfl, ?_⟩) hS ?_ ?_
  rotate_left
  · intro w' hS'
    go_simp
    with_reducible rfl
  rotate_left
  · simp only [Act.put, List.setIfInBounds_toArray, List.set_cons_zero, List.set_cons_succ, i64_w, i32_w]
    rfl
  refine Rg.tk (i := 4) (N := (some 16)) (v := ?_) (a' := ?_) #[true, true, true, true, true, false, false, false] rfl rfl (by kernel_rfl) (fun _ _ _ h => h) (Or.inl ⟨by rfl, ?_⟩) hS ?_ ?_
  rotate_left
  · intro w' hS'
    go_simp
    with_reducible rfl
  rotate_left
  · simp only [Act.put, List.setIfInBounds_toArray, List.set_cons_zero, List.set_cons_succ, i64_w, i32_w]
    rfl
  refine Rg.tkF (i := 5) (N := (some 17)) (a' := ?_) (.int .i64 f) #[true, true, true, true, true, true, false, false] rfl rfl (by kernel_rfl) (fun _ _ _ h => h) Try.func49 (by kernel_rfl) rfl #[.string (s.extract 6 8)] (by rfl) rfl (by (try simp only [List.map_toArray, List.map_cons, List.map_nil]); first | done | rfl) (fun w _ => G2 w) hS ?_ ?_
  rotate_left
  · simp only [Act.put, List.setIfInBounds_toArray, List.set_cons_zero, List.set_cons_succ, i64_w, i32_w]
    rfl
  refine Rg.tk (i := 6) (N := (some 5)) (v := ?_) (a' := ?_) #[true, true, true, true, true, true, true, false] rfl rfl (by kernel_rfl) (fun _ _ _ h => h) (Or.inl ⟨by rfl, ?_⟩) hS ?_ ?_
  rotate_left
  · intro w' hS'
    go_simp
    with_reducible rfl
  rotate_left
  · simp only [Act.put, List.setIfInBounds_toArray, List.set_cons_zero, List.set_cons_succ, i64_w, i32_w]
    rfl
  refine Rg.tk (i := 7) (N := (some 6)) (v := ?_) (a' := ?_) #[true, true, true, true, true, true, true, true] rfl rfl (by kernel_rfl) (fun _ _ _ h => h) (Or.inl ⟨by rfl, ?_⟩) hS ?_ ?_
  rotate_left
  · intro w' hS'
    go_simp
    with_reducible rfl
  rotate_left
  · simp only [Act.put, List.setIfInBounds_toArray, List.set_cons_zero, List.set_cons_succ, i64_w, i32_w]
    rfl
  refine Rg.fin (by kernel_rfl) ?_
  obtain ⟨B1, Z1⟩ := hS
  generalize (w.alloc (.cells #[.int .u32 0, .int .u32 0, .int .i64 0, .int .i64 0, .int .i64 0, .int .i64 0, .bool false, .bool false, .string ⟨#[]⟩] 30)).drew = W1 at B1 Z1 ⊢
  have B2 := Lib.hid B1
  have Z2 := Lib.hid Z1
  clear B1 Z1
  go_wp2_with fail
  refine Rg.start (n := 11) (S := (fun w' => w'.heap[w.heap.size]? = some (.cells #[.int .u32 0, .int .u32 0, .int .i64 0, .int .i64 0, .int .i64 0, .int .i64 0, .bool false, .bool false, .string ⟨#[]⟩] 30 (0, 0)) ∧ Below w.heap.size w w')) #[false, false, false, false, false, false, false, false, false, false, false] (by kernel_rfl) rfl rfl (keepD1 B2 Z2) (fun hS => ?_)
  refine Rg.tk (i := 0) (N := (some 35)) (v := ?_) (a' := ?_) #[true, false, false, false, false, false, false, false, false, false, false] rfl rfl (by kernel_rfl) (fun _ _ _ h => h) (Or.inl ⟨by rfl, ?_⟩) hS ?_ ?_
  rotate_left
  · intro w' hS'
    go_simp
    with_reducible rfl
  rotate_left
  · simp only [Act.put, List.setIfInBounds_toArray, List.set_cons_zero, List.set_cons_succ, i64_w, i32_w]
    rfl
  refine Rg.tk (i := 1) (N := (some 36)) (v := ?_) (a' := ?_) #[true, true, false, false, false, false, false, false, false, false, false] rfl rfl (by kernel_rfl) (fun _ _ _ h => h) (Or.inl ⟨by rfl, ?_⟩) hS ?_ ?_
  rotate_left
  · intro w' hS'
    go_simp
    with_reducible rfl
  rotate_left
  · simp only [Act.put, List.setIfInBounds_toArray, List.set_cons_zero, List.set_cons_succ, i64_w, i32_w]
    rfl
  refine Rg.tkF (i := 2) (N := (some 37)) (a' := ?_) (.int .i64 g) #[true, true, true, false, false, false, false, false, false, false, false] rfl rfl (by kernel_rfl) (fun _ _ _ h => h) Try.func49 (by kernel_rfl) rfl #[.string (s.extract 10 12)] (by rfl) rfl (by (try simp only [List.map_toArray, List.map_cons, List.map_nil]); first | done | rfl) (fun w _ => G3 w) hS ?_ ?_
  rotate_left
  · simp only [Act.put, List.setIfInBounds_toArray, List.set_cons_zero, List.set_cons_succ, i64_w, i32_w]
    rfl
  refine Rg.tk (i := 3) (N := (some 38)) (v := ?_) (a' := ?_) #[true, true, true, true, false, false, false, false, false, false, false] rfl rfl (by kernel_rfl) (fun _ _ _ h => h) (Or.inl ⟨by rfl, ?_⟩) hS ?_ ?_
  rotate_left
  · intro w' hS'
    go_simp
    with_reducible rfl
  rotate_left
  · simp only [Act.put, List.setIfInBounds_toArray, List.set_cons_zero, List.set_cons_succ, i64_w, i32_w]
    rfl
  refine Rg.tk (i := 4) (N := (some 39)) (v := ?_) (a' := ?_) #[true, true, true, true, true, false, false, false, false, false, false] rfl rfl (by kernel_rfl) (fun _ _ _ h => h) (Or.inl ⟨by rfl, ?_⟩) hS ?_ ?_
  rotate_left
  · intro w' hS'
    go_simp
    with_reducible rfl
  rotate_left
  · simp only [Act.put, List.setIfInBounds_toArray, List.set_cons_zero, List.set_cons_succ, i64_w, i32_w]
    rfl
  refine Rg.tk (i := 5) (N := (some 40)) (v := ?_) (a' := ?_) #[true, true, true, true, true, true, false, false, false, false, false] rfl rfl (by kernel_rfl) (fun _ _ _ h => h) (Or.inl ⟨by rfl, ?_⟩) hS ?_ ?_
  rotate_left
  · intro w' hS'
    go_simp
    with_reducible rfl
  rotate_left
  · simp only [Act.put, List.setIfInBounds_toArray, List.set_cons_zero, List.set_cons_succ, i64_w, i32_w]
    rfl
  refine Rg.tk (i := 6) (N := (some 41)) (v := ?_) (a' := ?_) #[true, true, true, true, true, true, true, false, false, false, false] rfl rfl (by kernel_rfl) (fun _ _ _ h => h) (Or.inl ⟨by rfl, ?_⟩) hS ?_ ?_
  rotate_left
  · intro w' hS'
    go_simp
    with_reducible rfl
  rotate_left
  · simp only [Act.put, List.setIfInBounds_toArray, List.set_cons_zero, List.set_cons_succ, i64_w, i32_w]
    rfl
  refine Rg.tk (i := 7) (N := (some 42)) (v := ?_) (a' := ?_) #[true, true, true, true, true, true, true, true, false, false, false] rfl rfl (by kernel_rfl) (fun _ _ _ h => h) (Or.inl ⟨by rfl, ?_⟩) hS ?_ ?_
  rotate_left
  · intro w' hS'
    go_simp
    with_reducible rfl
  rotate_left
  · simp only [Act.put, List.setIfInBounds_toArray, List.set_cons_zero, List.set_cons_succ, i64_w, i32_w]
    rfl
  refine Rg.tk (i := 8) (N := (some 43)) (v := ?_) (a' := ?_) #[true, true, true, true, true, true, true, true, true, false, false] rfl rfl (by kernel_rfl) (fun _ _ _ h => h) (Or.inl ⟨by rfl, ?_⟩) hS ?_ ?_
  rotate_left
  · intro w' hS'
    go_simp
    with_reducible rfl
  rotate_left
  · simp only [Act.put, List.setIfInBounds_toArray, List.set_cons_zero, List.set_cons_succ, i64_w, i32_w]
    rfl
  refine Rg.go1 (i := 9) (N := (some 44)) #[true, true, true, true, true, true, true, true, true, true, false] rfl rfl (by kernel_rfl) (fun K hK => ?_)
  refine goes_ Try.func11 (by kernel_rfl) rfl #[.string (s.extract 0 10 ++ (⟨#[0, 0]⟩ : ByteArray) ++ s.extract 12 20)] (by rfl) rfl rfl (by (try simp only [List.map_toArray, List.map_cons, List.map_nil]); first | done | rfl) ?_
  refine (G4 _).mono ?_
  rintro e w' ⟨rfl, hb⟩
  refine ⟨_, rfl, ?_⟩
  refine hK.out _ _ (keepB hb hS) (fun hS => ?_)
  clear hK K
  refine Rg.norm (a' := ?_) ?_ ?_
  rotate_left
  · simp only [Act.put, List.setIfInBounds_toArray, List.set_cons_zero, List.set_cons_succ, i64_w, i32_w]
    rfl
  refine Rg.tk (i := 10) (N := (some 45)) (v := ?_) (a' := ?_) #[true, true, true, true, true, true, true, true, true, true, true] rfl rfl (by kernel_rfl) (fun _ _ _ h => h) (Or.inl ⟨by rfl, ?_⟩) hS ?_ ?_
  rotate_left
  · intro w' hS'
    go_simp
    with_reducible rfl
  rotate_left
  · simp only [Act.put, List.setIfInBounds_toArray, List.set_cons_zero, List.set_cons_succ, i64_w, i32_w]
    rfl
  refine Rg.fin (by kernel_rfl) ?_
  obtain ⟨B1, Z1⟩ := hS
  clear B2 Z2
  have B2 := Lib.hid B1
  have Z2 := Lib.hid Z1
  clear B1 Z1
  go_wp2_with fail
  refine Rg.start (n := 20) (S := (fun w' => w'.heap[w.heap.size]? = some (.cells #[.int .u32 0, .int .u32 0, .int .i64 0, .int .i64 0, .int .i64 0, .int .i64 0, .bool false, .bool false, .string ⟨#[]⟩] 30 (0, 0)) ∧ Below w.heap.size w w')) #[false, false, false, false, false, false, false, false, false, false, false, false, false, false, false, false, false, false, false, false] (by kernel_rfl) rfl rfl (keepD1 B2 Z2) (fun hS => ?_)
  refine Rg.tk (i := 0) (N := (some 47)) (v := ?_) (a' := ?_) #[true, false, false, false, false, false, false, false, false, false, false, false, false, false, false, false, false, false, false, false] rfl rfl (by kernel_rfl) (fun _ _ _ h => h) (Or.inl ⟨by rfl, ?_⟩) hS ?_ ?_
  rotate_left
  · intro w' hS'
    go_simp
    with_reducible rfl
  rotate_left
  · simp only [Act.put, List.setIfInBounds_toArray, List.set_cons_zero, List.set_cons_succ, i64_w, i32_w]
    rfl
  refine Rg.tk (i := 1) (N := (some 48)) (v := ?_) (a' := ?_) #[true, true, false, false, false, false, false, false, false, false, false, false, false, false, false, false, false, false, false, false] rfl rfl (by kernel_rfl) (fun _ _ _ h => h) (Or.inl ⟨by rfl, ?_⟩) hS ?_ ?_
  rotate_left
  · intro w' hS'
    go_simp
    with_reducible rfl
  rotate_left
  · simp only [Act.put, List.setIfInBounds_toArray, List.set_cons_zero, List.set_cons_succ, i64_w, i32_w]
    rfl
  refine Rg.tkF (i := 2) (N := (some 49)) (a' := ?_) (.int .i64 sv) #[true, true, true, false, false, false, false, false, false, false, false, false, false, false, false, false, false, false, false, false] rfl rfl (by kernel_rfl) (fun _ _ _ h => h) Try.func49 (by kernel_rfl) rfl #[.string (s.extract 12 16)] (by rfl) rfl (by (try simp only [List.map_toArray, List.map_cons, List.map_nil]); first | done | rfl) (fun w _ => G5 w) hS ?_ ?_
  rotate_left
  · simp only [Act.put, List.setIfInBounds_toArray, List.set_cons_zero, List.set_cons_succ, i64_w, i32_w]
    rfl
  refine Rg.tk (i := 3) (N := (some 50)) (v := ?_) (a' := ?_) #[true, true, true, true, false, false, false, false, false, false, false, false, false, false, false, false, false, false, false, false] rfl rfl (by kernel_rfl) (fun _ _ _ h => h) (Or.inl ⟨by rfl, ?_⟩) hS ?_ ?_
  rotate_left
  · intro w' hS'
    go_simp
    with_reducible rfl
  rotate_left
  · simp only [Act.put, List.setIfInBounds_toArray, List.set_cons_zero, List.set_cons_succ, i64_w, i32_w]
    rfl
  refine Rg.tk (i := 4) (N := (some 51)) (v := ?_) (a' := ?_) #[true, true, true, true, true, false, false, false, false, false, false, false, false, false, false, false, false, false, false, false] rfl rfl (by kernel_rfl) (fun _ _ _ h => h) (Or.inl ⟨by rfl, ?_⟩) hS ?_ ?_
  rotate_left
  · intro w' hS'
    go_simp
    with_reducible rfl
  rotate_left
  · simp only [Act.put, List.setIfInBounds_toArray, List.set_cons_zero, List.set_cons_succ, i64_w, i32_w]
    rfl
  refine Rg.tk (i := 5) (N := (some 52)) (v := ?_) (a' := ?_) #[true, true, true, true, true, true, false, false, false, false, false, false, false, false, false, false, false, false, false, false] rfl rfl (by kernel_rfl) (fun _ _ _ h => h) (Or.inl ⟨by rfl, ?_⟩) hS ?_ ?_
  rotate_left
  · intro w' hS'
    go_simp
    with_reducible rfl
  rotate_left
  · simp only [Act.put, List.setIfInBounds_toArray, List.set_cons_zero, List.set_cons_succ, i64_w, i32_w]
    rfl
  refine Rg.tkF (i := 6) (N := (some 53)) (a' := ?_) (.int .i64 dv) #[true, true, true, true, true, true, true, false, false, false, false, false, false, false, false, false, false, false, false, false] rfl rfl (by kernel_rfl) (fun _ _ _ h => h) Try.func49 (by kernel_rfl) rfl #[.string (s.extract 16 20)] (by rfl) rfl (by (try simp only [List.map_toArray, List.map_cons, List.map_nil]); first | done | rfl) (fun w _ => G6 w) hS ?_ ?_
  rotate_left
  · simp only [Act.put, List.setIfInBounds_toArray, List.set_cons_zero, List.set_cons_succ, i64_w, i32_w]
    rfl
  refine Rg.tk (i := 7) (N := (some 54)) (v := ?_) (a' := ?_) #[true, true, true, true, true, true, true, true, false, false, false, false, false, false, false, false, false, false, false, false] rfl rfl (by kernel_rfl) (fun _ _ _ h => h) (Or.inl ⟨by rfl, ?_⟩) hS ?_ ?_
  rotate_left
  · intro w' hS'
    go_simp
    with_reducible rfl
  rotate_left
  · simp only [Act.put, List.setIfInBounds_toArray, List.set_cons_zero, List.set_cons_succ, i64_w, i32_w]
    rfl
  refine Rg.tk (i := 8) (N := (some 55)) (v := ?_) (a' := ?_) #[true, true, true, true, true, true, true, true, true, false, false, false, false, false, false, false, false, false, false, false] rfl rfl (by kernel_rfl) (fun _ _ _ h => h) (Or.inl ⟨by rfl, ?_⟩) hS ?_ ?_
  rotate_left
  · intro w' hS'
    go_simp
    with_reducible rfl
  rotate_left
  · simp only [Act.put, List.setIfInBounds_toArray, List.set_cons_zero, List.set_cons_succ, i64_w, i32_w]
    rfl
  refine Rg.tk (i := 9) (N := (some 56)) (v := ?_) (a' := ?_) #[true, true, true, true, true, true, true, true, true, true, false, false, false, false, false, false, false, false, false, false] rfl rfl (by kernel_rfl) (fun _ _ _ h => h) (Or.inl ⟨by rfl, ?_⟩) hS ?_ ?_
  rotate_left
  · intro w' hS'
    go_simp
    with_reducible rfl
  rotate_left
  · simp only [Act.put, List.setIfInBounds_toArray, List.set_cons_zero, List.set_cons_succ, i64_w, i32_w]
    rfl
  refine Rg.tkF (i := 10) (N := (some 57)) (a' := ?_) (.int .i64 b9) #[true, true, true, true, true, true, true, true, true, true, true, false, false, false, false, false, false, false, false, false] rfl rfl (by kernel_rfl) (fun _ _ _ h => h) Try.func49 (by kernel_rfl) rfl #[.string (s.extract 9 10)] (by rfl) rfl (by (try simp only [List.map_toArray, List.map_cons, List.map_nil]); first | done | rfl) (fun w _ => G8 w) hS ?_ ?_
  rotate_left
  · simp only [Act.put, List.setIfInBounds_toArray, List.set_cons_zero, List.set_cons_succ, i64_w, i32_w]
    rfl
  refine Rg.tk (i := 11) (N := (some 58)) (v := ?_) (a' := ?_) #[true, true, true, true, true, true, true, true, true, true, true, true, false, false, false, false, false, false, false, false] rfl rfl (by kernel_rfl) (fun _ _ _ h => h) (Or.inl ⟨by rfl, ?_⟩) hS ?_ ?_
  rotate_left
  · intro w' hS'
    go_simp
    with_reducible rfl
  rotate_left
  · simp only [Act.put, List.setIfInBounds_toArray, List.set_cons_zero, List.set_cons_succ, i64_w, i32_w]
    rfl
  refine Rg.tk (i := 12) (N := (some 59)) (v := ?_) (a' := ?_) #[true, true, true, true, true, true, true, true, true, true, true, true, true, false, false, false, false, false, false, false] rfl rfl (by kernel_rfl) (fun _ _ _ h => h) (Or.inl ⟨by rfl, ?_⟩) hS ?_ ?_
  rotate_left
  · intro w' hS'
    go_simp
    with_reducible rfl
  rotate_left
  · simp only [Act.put, List.setIfInBounds_toArray, List.set_cons_zero, List.set_cons_succ, i64_w, i32_w]
    rfl
  refine Rg.tkF (i := 13) (N := (some 60)) (a' := ?_) (.int .i64 b8) #[true, true, true, true, true, true, true, true, true, true, true, true, true, true, false, false, false, false, false, false] rfl rfl (by kernel_rfl) (fun _ _ _ h => h) Try.func49 (by kernel_rfl) rfl #[.string (s.extract 8 9)] (by rfl) rfl (by (try simp only [List.map_toArray, List.map_cons, List.map_nil]); first | done | rfl) (fun w _ => G9 w) hS ?_ ?_
  rotate_left
  · simp only [Act.put, List.setIfInBounds_toArray, List.set_cons_zero, List.set_cons_succ, i64_w, i32_w]
    rfl
  refine Rg.tk (i := 14) (N := (some 61)) (v := ?_) (a' := ?_) #[true, true, true, true, true, true, true, true, true, true, true, true, true, true, true, false, false, false, false, false] rfl rfl (by kernel_rfl) (fun _ _ _ h => h) (Or.inl ⟨by rfl, ?_⟩) hS ?_ ?_
  rotate_left
  · intro w' hS'
    go_simp
    with_reducible rfl
  rotate_left
  · simp only [Act.put, List.setIfInBounds_toArray, List.set_cons_zero, List.set_cons_succ, i64_w, i32_w]
    rfl
  refine Rg.tk (i := 15) (N := (some 62)) (v := ?_) (a' := ?_) #[true, true, true, true, true, true, true, true, true, true, true, true, true, true, true, true, false, false, false, false] rfl rfl (by kernel_rfl) (fun _ _ _ h => h) (Or.inl ⟨by rfl, ?_⟩) hS ?_ ?_
  rotate_left
  · intro w' hS'
    go_simp
    with_reducible rfl
  rotate_left
  · simp only [Act.put, List.setIfInBounds_toArray, List.set_cons_zero, List.set_cons_succ, i64_w, i32_w]
    rfl
  refine Rg.tkF (i := 16) (N := (some 63)) (a' := ?_) (.int .i64 iv) #[true, true, true, true, true, true, true, true, true, true, true, true, true, true, true, true, true, false, false, false] rfl rfl (by kernel_rfl) (fun _ _ _ h => h) Try.func49 (by kernel_rfl) rfl #[.string (s.extract 4 6)] (by rfl) rfl (by (try simp only [List.map_toArray, List.map_cons, List.map_nil]); first | done | rfl) (fun w _ => G7 w) hS ?_ ?_
  rotate_left
  · simp only [Act.put, List.setIfInBounds_toArray, List.set_cons_zero, List.set_cons_succ, i64_w, i32_w]
    rfl
  refine Rg.tk (i := 17) (N := (some 64)) (v := ?_) (a' := ?_) #[true, true, true, true, true, true, true, true, true, true, true, true, true, true, true, true, true, true, false, false] rfl rfl (by kernel_rfl) (fun _ _ _ h => h) (Or.inl ⟨by rfl, ?_⟩) hS ?_ ?_
  rotate_left
  · intro w' hS'
    go_simp
    with_reducible rfl
  rotate_left
  · simp only [Act.put, List.setIfInBounds_toArray, List.set_cons_zero, List.set_cons_succ, i64_w, i32_w]
    rfl
  refine Rg.go1 (i := 18) (N := (some 7)) #[true, true, true, true, true, true, true, true, true, true, true, true, true, true, true, true, true, true, true, false] rfl rfl (by kernel_rfl) (fun K hK => ?_)
  go_simp
  refine hK.out _ _ (keepD2 B2 Z2 _) (fun hS => ?_)
  clear hK K
  refine Rg.go1 (i := 19) (N := none) #[true, true, true, true, true, true, true, true, true, true, true, true, true, true, true, true, true, true, true, true] rfl rfl (by kernel_rfl) (fun K hK => ?_)
  go_simp
  refine hK.out _ _ (keepD2 B2 Z2 _) (fun hS => ?_)
  clear hK K
  refine Rg.fin (by kernel_rfl) ?_
  have Q3 := Lib.hid (blk_drew (blk_new w' (.cells #[.int .u32 sv, .int .u32 dv, .int .i64 b9, .int .i64 b8, .int .i64 iv, .int .i64 0, .bool false, .bool false, .string ⟨#[]⟩] 30)))
  obtain ⟨B3, Z3⟩ := hS
  have ne : Hid (w.heap.size ≠ w'.heap.size) := by
    have := blk_lt B2
    show _ ≠ _
    omega
  have Z5 := Lib.hid (Nat.le_of_lt (blk_lt B2))
  clear B2 Z2
  generalize (w'.alloc (.cells #[.int .u32 sv, .int .u32 dv, .int .i64 b9, .int .i64 b8, .int .i64 iv, .int .i64 0, .bool false, .bool false, .string ⟨#[]⟩] 30)).drew = W at Q3 B3 Z3 ⊢
  generalize w'.heap.size = q at Q3 ne Z5 ⊢
  have B4 := Lib.hid B3
  have Z4 := Lib.hid Z3
  clear B3 Z3
  obtain ⟨c0, c1, c2, c3, c4, c5, c6, c7, c8, cf, cl⟩ := cells9 B4
  obtain ⟨p0, p1, p2, p3, p4, p5, p6, p7, p8, pf, pl⟩ := cells9 Q3
  have n1 : (q = w.heap.size) = False := eq_false (Ne.symm ne)
  have n2 : (w.heap.size = q) = False := eq_false ne
  have W5 : IntKind.i64.wrap (f % 8192 * 8) = f % 8192 * 8 := by rw [IntKind.wrap_i64]; omega
  go_wp2_with fail
  exact bodyPost_ret (v := .tuple #[.agg #[.int .u32 sv, .int .u32 dv, .int .i64 b9, .int .i64 b8, .int .i64 iv, .int .i64 (f % 8192 * 8), .bool m, .bool h, .string ⟨#[]⟩], .int .i64 n, .int .i64 0]) (by simp [results, Try.results36, go_sem, c0, c1, c2, c3, c4, c5, c6, c7, c8, cf, n1, n2]) rfl ⟨rfl, below9 _ _ _ _ _ _ _ _ _ (below3 Z4 Z5 _ _ _ _ _ _) (Nat.le_refl _)⟩
set_option linter.unusedVariables false
theorem head2 (s : ByteArray) (h : 2 ≤ s.size) : ((s.extract 0 2).toList == [69, 0]) = (decide (bt s 0 = 69) && decide (bt s 1 = 0)) := by
  have e0 := bt_lit s 0 (by omega)
  have e1 := bt_lit s 1 (by omega)
  have x0 : bt s 0 = (s[0].toNat : Int) := e0.symm
  have x1 : bt s 1 = (s[1].toNat : Int) := e1.symm
  have hl : (s.extract 0 2).toList = [s[0], s[1]] := by
    rw [ByteArray.toList_eq]
    apply List.ext_getElem
    · simp; omega
    · intro i h1 h2
      have hi : i < 2 := by simpa using h2
      match i, hi with
      | 0, _ => simp; rfl
      | 1, _ => simp; rfl
  rw [hl, x0, x1]
  have u : ∀ (x : UInt8) (k : UInt8), (x == k) = decide ((x.toNat : Int) = (k.toNat : Int)) := by
    intro x k
    rw [Bool.eq_iff_iff]
    simp only [beq_iff_eq, decide_eq_true_eq]
    constructor
    · intro h; rw [h]
    · intro h; exact UInt8.toNat.inj (by omega)
  simp only [List.cons_beq_cons, u]
  simp
/-- Head and HeadRead tell the same. -/
instance badDec (s : ByteArray) : Decidable (bad s) := by unfold bad; infer_instance
/-- what Head and HeadRead tell -/
def headv (s : ByteArray) : Int × Int × Int × Int × Int × Int × Bool × Bool × ByteArray × Int × Int :=
  if s.size < 20 then (0, 0, 0, 0, 0, 0, false, false, (⟨#[]⟩ : ByteArray), 0, 9) else if bad s then (0, 0, 0, 0, 0, 0, false, false, (⟨#[]⟩ : ByteArray), 0, 3)
  else if bv s 10 2 = ck (ps (hs s) 20) then (bv s 12 4, bv s 16 4, bt s 9, bt s 8, bv s 4 2, bv s 6 2 % 8192 * 8, decide (8192 ≤ bv s 6 2 % 16384), decide (16384 ≤ bv s 6 2), (⟨#[]⟩ : ByteArray), bv s 2 2, 0)
  else (0, 0, 0, 0, 0, 0, false, false, (⟨#[]⟩ : ByteArray), 0, 8)
theorem heads (s : ByteArray) (hz : s.size ≤ 1048576) : ∃ (a0 a1 a2 a3 a4 a5 : Int) (m h : Bool) (n e : Int), headv s = (a0, a1, a2, a3, a4, a5, m, h, (⟨#[]⟩ : ByteArray), n, e) ∧ (e = 0 → 20 ≤ s.size) ∧
    (∀ w, Calls Try.prog 35 #[.string s] w fun x w' => x = .returned (.tuple #[.agg #[.int .u32 a0, .int .u32 a1, .int .i64 a2, .int .i64 a3, .int .i64 a4, .int .i64 a5, .bool m, .bool h, .string ⟨#[]⟩], .int .i64 n, .int .i64 e]) ∧ Below w.heap.size w w') ∧
    (∀ w, Calls Try.prog 36 #[.string s] w fun x w' => x = .returned (.tuple #[.agg #[.int .u32 a0, .int .u32 a1, .int .i64 a2, .int .i64 a3, .int .i64 a4, .int .i64 a5, .bool m, .bool h, .string ⟨#[]⟩], .int .i64 n, .int .i64 e]) ∧ Below w.heap.size w w') := by
  by_cases h20 : s.size < 20
  · exact ⟨0, 0, 0, 0, 0, 0, false, false, 0, 9, by unfold headv; rw [if_pos h20], fun h => by omega, Head_short s h20, HeadRead_short s h20⟩
  · have h20 : 20 ≤ s.size := by omega
    have rn := bv_range s 2 2
    have rf := bv_range s 6 2
    have r8 := bt_range s 8
    have r9 := bt_range s 9
    have V1 := fun w => Val_calls s 2 4 2 rfl (by omega) (by omega) w
    have V2 := fun w => Val_calls s 6 8 2 rfl (by omega) (by omega) w
    have V3 := fun w => Val_calls s 10 12 2 rfl (by omega) (by omega) w
    have V4 : ∀ w, Calls Try.prog 11 #[.string (s.extract 0 10 ++ (⟨#[0, 0]⟩ : ByteArray) ++ s.extract 12 20)] w fun e w' => e = .returned (.int .i64 (ck (ps (hs s) 20))) ∧ Below w.heap.size w w' := fun w => SumOf20 (hs s) (hs_size s h20) w
    have V5 := fun w => Val_calls s 12 16 4 rfl (by omega) (by omega) w
    have V6 := fun w => Val_calls s 16 20 4 rfl (by omega) (by omega) w
    have V7 := fun w => Val_calls s 4 6 2 rfl (by omega) (by omega) w
    have b9 : bv s 9 1 = bt s 9 := by simp [bv]
    have b8 : bv s 8 1 = bt s 8 := by simp [bv]
    have V8 := fun w => Val_calls s 9 10 1 rfl (by omega) (by omega) w
    have V9 := fun w => Val_calls s 8 9 1 rfl (by omega) (by omega) w
    rw [b9] at V8
    rw [b8] at V9
    by_cases hb : bad s
    · refine ⟨0, 0, 0, 0, 0, 0, false, false, 0, 3, by unfold headv; rw [if_neg (by omega), if_pos hb], fun h => by omega, Head_bad s h20 hz hb, fun w => HeadRead_bad0 s h20 (bt s 8) _ _ _ rfl (bt_lit s 8) rf.1 rf.2 V1 V2 ?_ w⟩
      rw [head2 s (by omega)]
      unfold bad at hb
      rcases hb with h | h | h | h | h
      · exact .inl (by simp [h])
      · exact .inl (by simp [h])
      · exact .inr (.inl h)
      · exact .inr (.inr (.inl h))
      · exact .inr (.inr (.inr h))
    · have hb2 := hb
      unfold bad at hb
      have x0 : bt s 0 = 69 := by omega
      have x1 : bt s 1 = 0 := by omega
      have n0 : 20 ≤ bv s 2 2 := by omega
      have f1 : bv s 6 2 < 32768 := by omega
      have d8 : (bt s 8 == 0) = false := by rw [beq_eq_false_iff_ne]; omega
      have ht : ((s.extract 0 2).toList == [69, 0]) = true := by rw [head2 s (by omega)]; simp [x0, x1]
      have y0 : ∀ h : 0 < s.size, ((s[0]'h).toNat : Int) = 69 := fun h => (bt_lit s 0 h).trans x0
      have y1 : ∀ h : 1 < s.size, ((s[1]'h).toNat : Int) = 0 := fun h => (bt_lit s 1 h).trans x1
      have K1 := fun w => get_calls s 2 2 hz (by omega) (by omega) w
      have K2 := fun w => get_calls s 6 2 hz (by omega) (by omega) w
      have K3 := fun w => get_calls s 10 2 hz (by omega) (by omega) w
      have K5 := fun w => get_calls s 12 4 hz (by omega) (by omega) w
      have K6 := fun w => get_calls s 16 4 hz (by omega) (by omega) w
      have K7 := fun w => get_calls s 4 2 hz (by omega) (by omega) w
      have K4 : ∀ w, Calls Try.prog 10 #[.string (s.extract 0 10 ++ (⟨#[0, 0]⟩ : ByteArray) ++ s.extract 12 20)] w fun e w' => e = .returned (.int .i64 (ck (ps (hs s) 20))) ∧ Below w.heap.size w w' := fun w => SumH_calls s h20 w
      by_cases hc : bv s 10 2 = ck (ps (hs s) 20)
      · rw [← hc] at K4 V4
        have r5 := bv_range s 12 4
        have r6 := bv_range s 16 4
        have em : (bv s 6 2 / 8192 % 2 * 8192 != 0) = decide (8192 ≤ bv s 6 2 % 16384) := by
          rw [Bool.eq_iff_iff]; simp only [bne_iff_ne, ne_eq, decide_eq_true_eq]; omega
        have eh : (bv s 6 2 / 16384 * 16384 != 0) = decide (16384 ≤ bv s 6 2) := by
          rw [Bool.eq_iff_iff]; simp only [bne_iff_ne, ne_eq, decide_eq_true_eq]; omega
        exact ⟨bv s 12 4, bv s 16 4, bt s 9, bt s 8, bv s 4 2, bv s 6 2 % 8192 * 8, _, _, bv s 2 2, 0, by unfold headv; rw [if_neg (by omega), if_neg hb2, if_pos hc], fun _ => h20,
          fun w => Head_ok0 s h20 hz (bt s 8) (bt s 9) _ _ _ _ _ _ _ _ y0 y1 (bt_lit s 8) (bt_lit s 9) r8 r9 rf.1 f1 n0 d8 r5.1 r5.2 r6.1 r6.2 em eh K1 K2 K3 K5 K6 K7 K4 w,
          fun w => HeadRead_ok0 s h20 hz (bt s 8) (bt s 9) _ _ _ _ _ _ _ _ ht (bt_lit s 8) rf.1 f1 n0 d8 r5.1 r5.2 r6.1 r6.2 rfl rfl V1 V2 V3 V5 V6 V7 V8 V9 V4 w⟩
      · have dg : (bv s 10 2 != ck (ps (hs s) 20)) = true := by rw [bne_iff_ne]; exact hc
        exact ⟨0, 0, 0, 0, 0, 0, false, false, 0, 8, by unfold headv; rw [if_neg (by omega), if_neg hb2, if_neg hc], fun h => by omega,
          fun w => Head_sum0 s h20 hz (bt s 8) _ _ _ _ y0 y1 (bt_lit s 8) rf.1 f1 n0 d8 dg K1 K2 K3 K4 w,
          fun w => HeadRead_sum0 s h20 hz (bt s 8) _ _ _ _ ht (bt_lit s 8) rf.1 f1 n0 d8 dg V1 V2 V3 V4 w⟩
theorem head_calls (s : ByteArray) (hz : s.size ≤ 1048576) (a0 a1 a2 a3 a4 a5 : Int) (m h : Bool) (b : ByteArray) (n e : Int) (g : headv s = (a0, a1, a2, a3, a4, a5, m, h, b, n, e)) (w : World) :
    Calls Try.prog 35 #[.string s] w fun x w' => x = .returned (.tuple #[.agg #[.int .u32 a0, .int .u32 a1, .int .i64 a2, .int .i64 a3, .int .i64 a4, .int .i64 a5, .bool m, .bool h, .string b], .int .i64 n, .int .i64 e]) ∧ Below w.heap.size w w' := by
  obtain ⟨b0, b1, b2, b3, b4, b5, m', h', n', e', g', _, c1, c2⟩ := heads s hz
  rw [g'] at g
  simp only [Prod.mk.injEq] at g
  obtain ⟨rfl, rfl, rfl, rfl, rfl, rfl, rfl, rfl, rfl, rfl, rfl⟩ := g
  exact c1 w
theorem read_calls (s : ByteArray) (hz : s.size ≤ 1048576) (a0 a1 a2 a3 a4 a5 : Int) (m h : Bool) (b : ByteArray) (n e : Int) (g : headv s = (a0, a1, a2, a3, a4, a5, m, h, b, n, e)) (w : World) :
    Calls Try.prog 36 #[.string s] w fun x w' => x = .returned (.tuple #[.agg #[.int .u32 a0, .int .u32 a1, .int .i64 a2, .int .i64 a3, .int .i64 a4, .int .i64 a5, .bool m, .bool h, .string b], .int .i64 n, .int .i64 e]) ∧ Below w.heap.size w w' := by
  obtain ⟨b0, b1, b2, b3, b4, b5, m', h', n', e', g', _, c1, c2⟩ := heads s hz
  rw [g'] at g
  simp only [Prod.mk.injEq] at g
  obtain ⟨rfl, rfl, rfl, rfl, rfl, rfl, rfl, rfl, rfl, rfl, rfl⟩ := g
  exact c2 w
theorem head_20 (s : ByteArray) (h : s.size < 20) : headv s = (0, 0, 0, 0, 0, 0, false, false, (⟨#[]⟩ : ByteArray), 0, 9) := by unfold headv; rw [if_pos h]
theorem head_ok (s : ByteArray) (h : (headv s).2.2.2.2.2.2.2.2.2.2 = 0) : 20 ≤ s.size := by
  unfold headv at h
  split at h
  · simp at h
  · omega
end Go.Proofs.Ythpohaafphaidaa.VaFaultReads
