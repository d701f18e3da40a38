/- The checksum: what the program's Sum and the reference's SumOf come to. -/
import Derived.Test.YthpohaafphaidaaQPl
import Derived.Test.YthpohaafphaidaaPPktSumsx1
namespace Go.Proofs.Ythpohaafphaidaa.SmPktSums
open Go.RowKit Go.Proofs.YthpohaafphaidaaW.PrintWords Go.Proofs.YthpohaafphaidaaW.PrintLast Go.Proofs.Ythpohaafphaidaa.Pl Go.Proofs.Ythpohaafphaidaa.PPktSums
/-- the fold of a sum of words -/
def fv (n : Nat) : Nat := if n = 0 then 0 else (n - 1) % 65535 + 1
theorem fv_le (n : Nat) : fv n ≤ 65535 := by unfold fv; split <;> omega
theorem fold_ev (n : Nat) : n < 4611686018427387904 → Ev (fun k => pkt_fold.l0 k (n : Int)) (fv n : Int) := by
  induction n using Nat.strongRecOn with
  | ind n ih =>
    intro hn
    refine Ev.step (fun k => rfl) ?_
    by_cases h : (n : Int) > 65535
    · refine Ev.pos h ?_
      have e : wrap64 ((n : Int) / 65536 + Go.bits .and .i64 (n : Int) 65535) = ((n / 65536 + n % 65536 : Nat) : Int) := by
        rw [and65535 (by omega) (by omega), w64 (by omega) (by omega)]; omega
      rw [e]
      have := ih (n / 65536 + n % 65536) (by omega) (by omega)
      have e2 : fv (n / 65536 + n % 65536) = fv n := by unfold fv; rw [if_neg (by omega), if_neg (by omega)]; omega
      rw [e2] at this
      exact this
    · refine Ev.neg h (Ev.val ?_)
      unfold fv; split <;> omega
/-- the sum of the words of the first i bytes -/
def ps (s : ByteArray) : Nat → Nat
  | 0 => 0
  | i + 1 => ps s i + (if i % 2 = 0 then (bt s i).toNat * 256 else (bt s i).toNat)
theorem ps_le (s : ByteArray) (i : Nat) : ps s i ≤ i * 65280 := by
  induction i with
  | zero => simp [ps]
  | succ i ih => have := bt_range s i; simp only [ps]; split <;> omega
/-- what both checksums are -/
def ck (n : Nat) : Int := if n = 0 then 65535 else 65534 - ((n : Int) - 1) % 65535
theorem ck_fv (n : Nat) : Go.bits .xor .i64 (fv n : Int) 65535 = ck n := by
  rw [xor65535 _ (fv_le n)]; unfold ck fv; split <;> omega
theorem ck_range (n : Nat) : 0 ≤ ck n ∧ ck n ≤ 65535 := by unfold ck; split <;> omega
theorem sum_ev (s : ByteArray) (hs : s.size ≤ 1048576) (d : Nat) : ∀ i : Nat, i + d = s.size → Ev (fun k => pkt_Sum.l0 k s (ps s i) (s.size : Int) (i : Int)) (ck (ps s s.size)) := by
  induction d with
  | zero =>
    intro i hi
    refine Ev.step (fun k => rfl) ?_
    refine Ev.neg (by omega) ?_
    obtain rfl : i = s.size := by omega
    have hp := ps_le s s.size
    refine Ev.bind (Ev.congr (fun k => rfl) (fold_ev (ps s s.size) (by omega))) (Ev.val (ck_fv _))
  | succ d ih =>
    intro i hi
    have hp := ps_le s i
    have hb := bt_range s i
    have ih1 := ih (i + 1) (by omega)
    have e1 : wrap64 ((i : Int) + 1) = ((i + 1 : Nat) : Int) := by rw [w64 (by omega) (by omega)]; omega
    refine Ev.step (fun k => rfl) ?_
    refine Ev.pos (by omega) ?_
    by_cases hm : Int.tmod (i : Int) 2 = 0
    · refine Ev.pos hm (Ev.pos (by omega) (Ev.pos (by omega) ?_))
      have hm' : i % 2 = 0 := by rw [Int.tmod_eq_emod_of_nonneg (by omega)] at hm; omega
      have e2 : wrap64 ((ps s i : Int) + wrap64 (wrap64 (bt s i) * 256)) = (ps s (i + 1) : Int) := by
        rw [w64 (x := bt s i) (by omega) (by omega), w64 (x := bt s i * 256) (by omega) (by omega), w64 (by omega) (by omega)]
        simp only [ps, if_pos hm']; omega
      rw [e1, e2]; exact ih1
    · refine Ev.neg hm (Ev.pos (by omega) (Ev.pos (by omega) ?_))
      have hm' : ¬ i % 2 = 0 := by rw [Int.tmod_eq_emod_of_nonneg (by omega)] at hm; omega
      have e2 : wrap64 ((ps s i : Int) + wrap64 (bt s i)) = (ps s (i + 1) : Int) := by
        rw [w64 (x := bt s i) (by omega) (by omega), w64 (by omega) (by omega)]
        simp only [ps, if_neg hm']; omega
      rw [e1, e2]; exact ih1
theorem Sum_ev (s : ByteArray) (hs : s.size ≤ 1048576) : Ev (fun k => pkt_Sum.f k s) (ck (ps s s.size)) := Ev.congr (fun _ => rfl) (sum_ev s hs s.size 0 (by omega))
theorem tail_ck (n : Nat) (h : n < 4611686018427387904) : Ev (fun _ => if ((n : Int)) = 0 then some (65535 : Int) else some (wrap64 (65534 - Int.tmod (wrap64 ((n : Int) - 1)) 65535))) (ck n) := by
  by_cases h0 : (n : Int) = 0
  · refine Ev.pos h0 (Ev.val ?_); unfold ck; rw [if_pos (by omega)]
  · refine Ev.neg h0 (Ev.val ?_)
    rw [w64 (x := (n : Int) - 1) (by omega) (by omega), Int.tmod_eq_emod_of_nonneg (by omega), w64 (by omega) (by omega)]
    unfold ck; rw [if_neg (by omega)]
theorem sumof_ev (s : ByteArray) (hs : s.size ≤ 1048576) (d : Nat) : ∀ i : Nat, i % 2 = 0 → s.size ≤ i + d → Ev (fun k => patchbayref2_SumOf.l0 k s (ps s (min i s.size)) (i : Int)) (ck (ps s s.size)) := by
  induction d using Nat.strongRecOn with
  | ind d ih =>
  intro i he hi
  have hp := ps_le s (min i s.size)
  refine Ev.step (fun k => rfl) ?_
  by_cases h : (i : Int) < (s.size : Int)
  · refine Ev.pos h (Ev.pos (by omega) ?_)
    have e1 : wrap64 ((i : Int) + 1) = ((i + 1 : Nat) : Int) := by rw [w64 (by omega) (by omega)]; omega
    have e3 : wrap64 ((i : Int) + 2) = ((i + 2 : Nat) : Int) := by rw [w64 (by omega) (by omega)]; omega
    have hb := bt_range s i
    have hb1 := bt_range s ((i + 1 : Nat) : Int)
    have em : min i s.size = i := by omega
    rw [em] at hp ⊢
    have q1 : ps s (i + 1) = ps s i + (bt s i).toNat * 256 := by simp only [ps, if_pos he]
    have q2 : ps s (i + 2) = ps s i + (bt s i).toNat * 256 + (bt s ((i + 1 : Nat) : Int)).toNat := by
      rw [show i + 2 = (i + 1) + 1 from rfl]; simp only [ps, if_pos he, if_neg (show ¬ (i + 1) % 2 = 0 by omega)]
    by_cases h2 : wrap64 ((i : Int) + 1) < (s.size : Int)
    · refine Ev.pos h2 (Ev.pos (by omega) ?_)
      have := ih (d - 2) (by omega) (i + 2) (by omega) (by omega)
      rw [show min (i + 2) s.size = i + 2 by omega, q2] at this
      have e2 : wrap64 (wrap64 ((ps s i : Int) + wrap64 (wrap64 (bt s i) * 256)) + wrap64 (bt s (wrap64 ((i : Int) + 1)))) = ((ps s i + (bt s i).toNat * 256 + (bt s ((i + 1 : Nat) : Int)).toNat : Nat) : Int) := by
        rw [e1, w64 (x := bt s i) (by omega) (by omega), w64 (x := bt s i * 256) (by omega) (by omega), w64 (x := bt s ((i + 1 : Nat) : Int)) (by omega) (by omega), w64 (x := (ps s i : Int) + bt s i * 256) (by omega) (by omega), w64 (by omega) (by omega)]
        omega
      rw [e2, e3]; exact this
    · refine Ev.neg h2 ?_
      have := ih (d - 1) (by omega) (i + 2) (by omega) (by omega)
      rw [show min (i + 2) s.size = i + 1 by omega, q1] at this
      have e2 : wrap64 ((ps s i : Int) + wrap64 (wrap64 (bt s i) * 256)) = ((ps s i + (bt s i).toNat * 256 : Nat) : Int) := by
        rw [w64 (x := bt s i) (by omega) (by omega), w64 (x := bt s i * 256) (by omega) (by omega), w64 (by omega) (by omega)]
        omega
      rw [e2, e3]; exact this
  · refine Ev.neg h ?_
    rw [show min i s.size = s.size by omega] at hp ⊢
    exact tail_ck _ (by omega)
theorem SumOf_ev (s : ByteArray) (hs : s.size ≤ 1048576) : Ev (fun k => patchbayref2_SumOf.f k s) (ck (ps s s.size)) := by
  have := sumof_ev s hs s.size 0 (by omega) (by omega)
  rw [show min 0 s.size = 0 by omega] at this
  exact Ev.congr (fun _ => rfl) this
end Go.Proofs.Ythpohaafphaidaa.SmPktSums
