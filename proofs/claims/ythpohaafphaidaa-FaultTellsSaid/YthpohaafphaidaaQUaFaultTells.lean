/- What the packet's functions come to: checks, sums, digits, headers, encodings. -/
import Derived.Test.YthpohaafphaidaaQPl
import Derived.Test.YthpohaafphaidaaGFaultTellsx9
import Derived.Test.YthpohaafphaidaaGFaultTellsx7
import Derived.Test.YthpohaafphaidaaGFaultTellsx8
import Derived.Test.YthpohaafphaidaaGFaultTellsx3
namespace Go.Proofs.Ythpohaafphaidaa.UaFaultTells
open Go.RowKit Go.Proofs.YthpohaafphaidaaW.PrintWords Go.Proofs.YthpohaafphaidaaW.PrintLast Go.Proofs.Ythpohaafphaidaa.Pl Go.Proofs.Ythpohaafphaidaa.GFaultTells
set_option linter.unusedVariables false
set_option linter.unusedSimpArgs false
/-- the fold of a sum of words -/
def fv (n : Nat) : Nat := if n = 0 then 0 else (n - 1) % 65535 + 1
theorem fv_le (n : Nat) : fv n ≤ 65535 := by unfold fv; split <;> omega
theorem fold_ev (n : Nat) : n < 4611686018427387904 → Ev (fun k => pkt_fold.l0 k (n : Int)) (fv n : Int) := by
  induction n using Nat.strongRecOn with
  | ind n ih =>
    intro hn
    refine Ev.step (fun k => rfl) ?_
    by_cases h : (n : Int) > 65535
    · refine Ev.pos h ?_
      have e : wrap64 ((n : Int) / 65536 + Go.bits .and .i64 (n : Int) 65535) = ((n / 65536 + n % 65536 : Nat) : Int) := by
        rw [and65535 (by omega) (by omega), w64 (by omega) (by omega)]; omega
      rw [e]
      have := ih (n / 65536 + n % 65536) (by omega) (by omega)
      have e2 : fv (n / 65536 + n % 65536) = fv n := by unfold fv; rw [if_neg (by omega), if_neg (by omega)]; omega
      rw [e2] at this
      exact this
    · refine Ev.neg h (Ev.val ?_)
      unfold fv; split <;> omega
/-- the sum of the words of the first i bytes -/
def ps (s : ByteArray) : Nat → Nat
  | 0 => 0
  | i + 1 => ps s i + (if i % 2 = 0 then (bt s i).toNat * 256 else (bt s i).toNat)
theorem ps_le (s : ByteArray) (i : Nat) : ps s i ≤ i * 65280 := by
  induction i with
  | zero => simp [ps]
  | succ i ih => have := bt_range s i; simp only [ps]; split <;> omega
/-- what both checksums are -/
def ck (n : Nat) : Int := if n = 0 then 65535 else 65534 - ((n : Int) - 1) % 65535
theorem ck_fv (n : Nat) : Go.bits .xor .i64 (fv n : Int) 65535 = ck n := by
  rw [xor65535 _ (fv_le n)]; unfold ck fv; split <;> omega
theorem ck_range (n : Nat) : 0 ≤ ck n ∧ ck n ≤ 65535 := by unfold ck; split <;> omega
theorem sum_ev (s : ByteArray) (hs : s.size ≤ 1048576) (d : Nat) : ∀ i : Nat, i + d = s.size → Ev (fun k => pkt_Sum.l0 k s (ps s i) (s.size : Int) (i : Int)) (ck (ps s s.size)) := by
  induction d with
  | zero =>
    intro i hi
    refine Ev.step (fun k => rfl) ?_
    refine Ev.neg (by omega) ?_
    obtain rfl : i = s.size := by omega
    have hp := ps_le s s.size
    refine Ev.bind (Ev.congr (fun k => rfl) (fold_ev (ps s s.size) (by omega))) (Ev.val (ck_fv _))
  | succ d ih =>
    intro i hi
    have hp := ps_le s i
    have hb := bt_range s i
    have ih1 := ih (i + 1) (by omega)
    have e1 : wrap64 ((i : Int) + 1) = ((i + 1 : Nat) : Int) := by rw [w64 (by omega) (by omega)]; omega
    refine Ev.step (fun k => rfl) ?_
    refine Ev.pos (by omega) ?_
    by_cases hm : Int.tmod (i : Int) 2 = 0
    · refine Ev.pos hm (Ev.pos (by omega) (Ev.pos (by omega) ?_))
      have hm' : i % 2 = 0 := by rw [Int.tmod_eq_emod_of_nonneg (by omega)] at hm; omega
      have e2 : wrap64 ((ps s i : Int) + wrap64 (wrap64 (bt s i) * 256)) = (ps s (i + 1) : Int) := by
        rw [w64 (x := bt s i) (by omega) (by omega), w64 (x := bt s i * 256) (by omega) (by omega), w64 (by omega) (by omega)]
        simp only [ps, if_pos hm']; omega
      rw [e1, e2]; exact ih1
    · refine Ev.neg hm (Ev.pos (by omega) (Ev.pos (by omega) ?_))
      have hm' : ¬ i % 2 = 0 := by rw [Int.tmod_eq_emod_of_nonneg (by omega)] at hm; omega
      have e2 : wrap64 ((ps s i : Int) + wrap64 (bt s i)) = (ps s (i + 1) : Int) := by
        rw [w64 (x := bt s i) (by omega) (by omega), w64 (by omega) (by omega)]
        simp only [ps, if_neg hm']; omega
      rw [e1, e2]; exact ih1
theorem Sum_ev (s : ByteArray) (hs : s.size ≤ 1048576) : Ev (fun k => pkt_Sum.f k s) (ck (ps s s.size)) := Ev.congr (fun _ => rfl) (sum_ev s hs s.size 0 (by omega))
theorem tail_ck (n : Nat) (h : n < 4611686018427387904) : Ev (fun _ => if ((n : Int)) = 0 then some (65535 : Int) else some (wrap64 (65534 - Int.tmod (wrap64 ((n : Int) - 1)) 65535))) (ck n) := by
  by_cases h0 : (n : Int) = 0
  · refine Ev.pos h0 (Ev.val ?_); unfold ck; rw [if_pos (by omega)]
  · refine Ev.neg h0 (Ev.val ?_)
    rw [w64 (x := (n : Int) - 1) (by omega) (by omega), Int.tmod_eq_emod_of_nonneg (by omega), w64 (by omega) (by omega)]
    unfold ck; rw [if_neg (by omega)]
theorem sumof_ev (s : ByteArray) (hs : s.size ≤ 1048576) (d : Nat) : ∀ i : Nat, i % 2 = 0 → s.size ≤ i + d → Ev (fun k => patchbayref2_SumOf.l0 k s (ps s (min i s.size)) (i : Int)) (ck (ps s s.size)) := by
  induction d using Nat.strongRecOn with
  | ind d ih =>
  intro i he hi
  have hp := ps_le s (min i s.size)
  refine Ev.step (fun k => rfl) ?_
  by_cases h : (i : Int) < (s.size : Int)
  · refine Ev.pos h (Ev.pos (by omega) ?_)
    have e1 : wrap64 ((i : Int) + 1) = ((i + 1 : Nat) : Int) := by rw [w64 (by omega) (by omega)]; omega
    have e3 : wrap64 ((i : Int) + 2) = ((i + 2 : Nat) : Int) := by rw [w64 (by omega) (by omega)]; omega
    have hb := bt_range s i
    have hb1 := bt_range s ((i + 1 : Nat) : Int)
    have em : min i s.size = i := by omega
    rw [em] at hp ⊢
    have q1 : ps s (i + 1) = ps s i + (bt s i).toNat * 256 := by simp only [ps, if_pos he]
    have q2 : ps s (i + 2) = ps s i + (bt s i).toNat * 256 + (bt s ((i + 1 : Nat) : Int)).toNat := by
      rw [show i + 2 = (i + 1) + 1 from rfl]; simp only [ps, if_pos he, if_neg (show ¬ (i + 1) % 2 = 0 by omega)]
    by_cases h2 : wrap64 ((i : Int) + 1) < (s.size : Int)
    · refine Ev.pos h2 (Ev.pos (by omega) ?_)
      have := ih (d - 2) (by omega) (i + 2) (by omega) (by omega)
      rw [show min (i + 2) s.size = i + 2 by omega, q2] at this
      have e2 : wrap64 (wrap64 ((ps s i : Int) + wrap64 (wrap64 (bt s i) * 256)) + wrap64 (bt s (wrap64 ((i : Int) + 1)))) = ((ps s i + (bt s i).toNat * 256 + (bt s ((i + 1 : Nat) : Int)).toNat : Nat) : Int) := by
        rw [e1, w64 (x := bt s i) (by omega) (by omega), w64 (x := bt s i * 256) (by omega) (by omega), w64 (x := bt s ((i + 1 : Nat) : Int)) (by omega) (by omega), w64 (x := (ps s i : Int) + bt s i * 256) (by omega) (by omega), w64 (by omega) (by omega)]
        omega
      rw [e2, e3]; exact this
    · refine Ev.neg h2 ?_
      have := ih (d - 1) (by omega) (i + 2) (by omega) (by omega)
      rw [show min (i + 2) s.size = i + 1 by omega, q1] at this
      have e2 : wrap64 ((ps s i : Int) + wrap64 (wrap64 (bt s i) * 256)) = ((ps s i + (bt s i).toNat * 256 : Nat) : Int) := by
        rw [w64 (x := bt s i) (by omega) (by omega), w64 (x := bt s i * 256) (by omega) (by omega), w64 (by omega) (by omega)]
        omega
      rw [e2, e3]; exact this
  · refine Ev.neg h ?_
    rw [show min i s.size = s.size by omega] at hp ⊢
    exact tail_ck _ (by omega)
theorem SumOf_ev (s : ByteArray) (hs : s.size ≤ 1048576) : Ev (fun k => patchbayref2_SumOf.f k s) (ck (ps s s.size)) := by
  have := sumof_ev s hs s.size 0 (by omega) (by omega)
  rw [show min 0 s.size = 0 by omega] at this
  exact Ev.congr (fun _ => rfl) this
/-- what is wrong with a packet -/
def pf (a2 a3 a4 a5 : Int) (m h : Bool) (n : Nat) : Int :=
  if a2 < 0 ∨ a2 > 255 ∨ a3 < 1 ∨ a3 > 255 ∨ a4 < 0 ∨ a4 > 65535 ∨ a5 < 0 ∨ a5 > 65528 then 10
  else if (n : Int) > 1500 ∨ a5 + (n : Int) > 65535 then 2
  else if a5 % 8 ≠ 0 then 3
  else if m = true ∧ n % 8 ≠ 0 then 3
  else if (m = true ∨ a5 > 0) ∧ (n = 0 ∨ h = true) then 3 else 0
theorem nil_iff (s : ByteArray) : s.toList = ([] : List UInt8) ↔ s.size = 0 := by
  rw [ByteArray.toList_eq]
  have e : s.data.toList.length = s.size := rfl
  rw [← e, List.length_eq_zero_iff]
theorem check_eq (a0 a1 a2 a3 a4 a5 : Int) (m h : Bool) (s : ByteArray) (hs : s.size ≤ 1048576) (k : Nat) (hk : 2 ≤ k) :
    pkt_Check.f k a0 a1 a2 a3 a4 a5 m h s = some (pf a2 a3 a4 a5 m h s.size) := by
  obtain ⟨k, rfl⟩ : ∃ j, k = j + 2 := ⟨k - 2, by omega⟩
  unfold pkt_Check.f
  by_cases c0 : a2 < 0 ∨ a2 > 255 ∨ a3 < 1 ∨ a3 > 255 ∨ a4 < 0 ∨ a4 > 65535 ∨ a5 < 0 ∨ a5 > 65528
  · have e : pf a2 a3 a4 a5 m h s.size = 10 := by unfold pf; rw [if_pos c0]
    rw [e]
    simp only [pkt_Check.j0, if_true]
    repeat' split
    all_goals first | rfl | (simp at *; omega)
  · have e5 : decide (a5 > 65528) = false := by simp; omega
    rw [if_neg (by omega), if_neg (by omega), if_neg (by omega), if_neg (by omega), if_neg (by omega), if_neg (by omega), if_neg (by omega), e5]
    simp only [pkt_Check.j0, Bool.false_eq_true, if_false]
    have ew : wrap64 (a5 + (s.size : Int)) = a5 + (s.size : Int) := w64 (by omega) (by omega)
    have et : Int.tmod a5 8 = a5 % 8 := Int.tmod_eq_emod_of_nonneg (by omega)
    rw [ew]
    unfold pf
    rw [if_neg c0]
    by_cases c1 : (s.size : Int) > 1500 ∨ a5 + (s.size : Int) > 65535
    · rw [if_pos c1]
      simp only [pkt_Check.j1, if_true]
      split
      · rfl
      · have : decide (a5 + (s.size : Int) > 65535) = true := by simp; omega
        rw [if_pos this]
    · rw [if_neg c1, if_neg (by omega)]
      have : decide (a5 + (s.size : Int) > 65535) = false := by simp; omega
      rw [this]
      simp only [pkt_Check.j1, Bool.false_eq_true, if_false, et, nil_iff]
      have e8 : ((s.size : Int) % 8 = 0) ↔ s.size % 8 = 0 := by omega
      simp only [e8]
      by_cases d0 : a5 % 8 = 0 <;> by_cases d1 : s.size % 8 = 0 <;> by_cases d2 : s.size = 0 <;> by_cases d3 : a5 > 0 <;> cases m <;> cases h <;> simp [d0, d1, d2, d3]
theorem fault_eq (a0 a1 a2 a3 a4 a5 : Int) (m h : Bool) (s : ByteArray) (hs : s.size ≤ 1048576) (k : Nat) (hk : 2 ≤ k) :
    patchbayref2_PacketFault.f k a0 a1 a2 a3 a4 a5 m h s = some (pf a2 a3 a4 a5 m h s.size) := by
  obtain ⟨k, rfl⟩ : ∃ j, k = j + 2 := ⟨k - 2, by omega⟩
  unfold patchbayref2_PacketFault.f
  by_cases c0 : a2 < 0 ∨ a2 > 255 ∨ a3 < 1 ∨ a3 > 255 ∨ a4 < 0 ∨ a4 > 65535 ∨ a5 < 0 ∨ a5 > 65528
  · have e : pf a2 a3 a4 a5 m h s.size = 10 := by unfold pf; rw [if_pos c0]
    rw [e]
    simp only [patchbayref2_PacketFault.j0, if_true]
    repeat' split
    all_goals first | rfl | (simp at *; omega)
  · have e5 : decide (a5 > 65528) = false := by simp; omega
    rw [if_neg (by omega), if_neg (by omega), if_neg (by omega), if_neg (by omega), if_neg (by omega), if_neg (by omega), if_neg (by omega), e5]
    simp only [patchbayref2_PacketFault.j0, Bool.false_eq_true, if_false]
    have ew : wrap64 (a5 + (s.size : Int)) = a5 + (s.size : Int) := w64 (by omega) (by omega)
    have et : Int.tmod a5 8 = a5 % 8 := Int.tmod_eq_emod_of_nonneg (by omega)
    rw [ew]
    unfold pf
    rw [if_neg c0]
    by_cases c1 : (s.size : Int) > 1500 ∨ a5 + (s.size : Int) > 65535
    · rw [if_pos c1]
      simp only [patchbayref2_PacketFault.j1, if_true]
      split
      · rfl
      · have : decide (a5 + (s.size : Int) > 65535) = true := by simp; omega
        rw [if_pos this]
    · rw [if_neg c1, if_neg (by omega)]
      have : decide (a5 + (s.size : Int) > 65535) = false := by simp; omega
      rw [this]
      simp only [patchbayref2_PacketFault.j1, Bool.false_eq_true, if_false, et]
      have e8 : ((s.size : Int) % 8 > 0) ↔ ¬ s.size % 8 = 0 := by omega
      have e9 : ((s.size : Int) = 0) ↔ s.size = 0 := by omega
      have e10 : (a5 % 8 > 0) ↔ ¬ a5 % 8 = 0 := by omega
      have e11 : (a5 = 0) ↔ ¬ a5 > 0 := by omega
      simp only [e8, e9, e10, e11]
      by_cases d0 : a5 % 8 = 0 <;> by_cases d1 : s.size % 8 = 0 <;> by_cases d2 : s.size = 0 <;> by_cases d3 : a5 > 0 <;> cases m <;> cases h <;> simp [d0, d1, d2, d3]
theorem strOfNums_append (a b : List Int) : strOfNums (a ++ b) = strOfNums a ++ strOfNums b := by
  apply ByteArray.ext; simp [strOfNums, ByteArray.data_append]
theorem strOfNums_size (a : List Int) : (strOfNums a).size = a.length := by simp [strOfNums, ByteArray.size]
theorem strOfNums_nil : strOfNums [] = (⟨#[]⟩ : ByteArray) := rfl
/-- the digits of n in base 256, c of them -/
def dgl : Nat → Int → List Int
  | 0, _ => []
  | c + 1, n => dgl c (n / 256) ++ [n % 256]
theorem dgl_length (c : Nat) : ∀ n, (dgl c n).length = c := by
  induction c with
  | zero => intro n; rfl
  | succ c ih => intro n; simp [dgl, ih]
theorem dgl_cons (c : Nat) : ∀ n, dgl (c + 1) n = (n / 256 ^ c % 256) :: dgl c n := by
  induction c with
  | zero => intro n; simp [dgl]
  | succ c ih =>
    intro n
    rw [dgl, ih (n / 256), dgl, Int.ediv_ediv_of_nonneg (by omega)]
    have : (256 : Int) * 256 ^ c = 256 ^ (c + 1) := by rw [Int.pow_succ]; omega
    rw [this]; rfl
/-- the digits as a string -/
def dg (n : Int) (c : Nat) : ByteArray := strOfNums (dgl c n)
theorem dg_size (n : Int) (c : Nat) : (dg n c).size = c := by rw [dg, strOfNums_size, dgl_length]
theorem digits_ev (c : Nat) (hc : c ≤ 1000) (d : Nat) : ∀ (i : Nat) (n : Int) (s : ByteArray), i + d = c → 0 ≤ n → n < 9223372036854775808 → s.size + d ≤ 1000000 →
    Ev (fun k => patchbayref2_Digits.l0 k n s (c : Int) (i : Int)) (dg n d ++ s) := by
  induction d with
  | zero =>
    intro i n s hi h0 h1 hs
    refine Ev.step (fun k => rfl) (Ev.neg (by omega) (Ev.val ?_))
    rw [dg, dgl, strOfNums_nil]; apply ByteArray.ext; simp [ByteArray.data_append]
  | succ d ih =>
    intro i n s hi h0 h1 hs
    refine Ev.step (fun k => rfl) (Ev.pos (by omega) ?_)
    refine Ev.congr (f := fun k => if (strOfNums [Int.tmod n 256 % 256]).size + s.size ≤ 9223372036854775807 then patchbayref2_Digits.l0 k (wrap64 (Int.tdiv n 256)) (strOfNums [Int.tmod n 256 % 256] ++ s) (c : Int) (wrap64 ((i : Int) + 1)) else none) (fun k => rfl) ?_
    refine Ev.pos (by rw [strOfNums_size]; simp; omega) ?_
    have e1 : wrap64 ((i : Int) + 1) = ((i + 1 : Nat) : Int) := by rw [w64 (by omega) (by omega)]; omega
    have e2 : Int.tmod n 256 % 256 = n % 256 := by rw [Int.tmod_eq_emod_of_nonneg h0]; omega
    have e3 : wrap64 (Int.tdiv n 256) = n / 256 := by rw [Int.tdiv_eq_ediv_of_nonneg h0, w64 (by omega) (by omega)]
    rw [e1, e2, e3]
    have := ih (i + 1) (n / 256) (strOfNums [n % 256] ++ s) (by omega) (by omega) (by omega) (by rw [ByteArray.size_append, strOfNums_size]; simp; omega)
    have e4 : dg n (d + 1) ++ s = dg (n / 256) d ++ (strOfNums [n % 256] ++ s) := by
      rw [dg, dgl, strOfNums_append, dg, ByteArray.append_assoc]
    rw [e4]; exact this
theorem Digits_ev (n : Int) (c : Nat) (hc : c ≤ 1000) (h0 : 0 ≤ n) (h1 : n < 9223372036854775808) : Ev (fun k => patchbayref2_Digits.f k n (c : Int)) (dg n c) := by
  have := digits_ev c hc c 0 n (⟨#[]⟩ : ByteArray) (by omega) h0 h1 (by simp [ByteArray.size]; omega)
  have e : dg n c ++ (⟨#[]⟩ : ByteArray) = dg n c := by apply ByteArray.ext; simp [ByteArray.data_append]
  rw [e] at this
  exact Ev.congr (fun k => rfl) this
theorem shr64 (n : Int) (i : Nat) (hi : i < 8) : shr .i64 n (8 * (i : Int)) = n / 256 ^ i := by
  unfold shr
  have e : (8 * (i : Int)).toNat = 8 * i := by omega
  have e2 : min (8 * i) IntKind.i64.bits = 8 * i := by show min (8 * i) 64 = 8 * i; omega
  rw [e, e2, Int.pow_mul]; rfl
theorem put_ev (n : Int) : ∀ (i : Nat) (b : List Int), i ≤ 8 → b.length + i ≤ 1000000 →
    Ev (fun k => pkt_put.l0 k b n ((i : Int) - 1)) (b ++ dgl i n) := by
  intro i
  induction i with
  | zero =>
    intro b _ _
    refine Ev.step (fun k => rfl) (Ev.neg (by omega) (Ev.val ?_))
    simp [dgl]
  | succ i ih =>
    intro b hi hl
    refine Ev.step (fun k => rfl) (Ev.pos (by omega) ?_)
    have e0 : (((i + 1 : Nat) : Int) - 1) = (i : Int) := by omega
    rw [e0]
    have e1 : wrap64 (8 * (i : Int)) = 8 * (i : Int) := w64 (by omega) (by omega)
    rw [e1]
    refine Ev.pos (by omega) (Ev.pos (by omega) ?_)
    rw [w64 (x := (i : Int) - 1) (by omega) (by omega), shr64 n i (by omega)]
    have := ih (b ++ [n / 256 ^ i % 256]) (by omega) (by simp; omega)
    rw [dgl_cons]
    simpa using this
theorem Put_ev (b : List Int) (n : Int) (c : Nat) (hc : c ≤ 8) (hb : b.length ≤ 1000) : Ev (fun k => pkt_put.f k b n (c : Int)) (b ++ dgl c n) := by
  have := put_ev n c b hc (by omega)
  refine Ev.congr (fun k => ?_) this
  show pkt_put.l0 k b n (wrap64 ((c : Int) - 1)) = _
  rw [w64 (by omega) (by omega)]
/-- the word of the flags -/
def flg (a5 : Int) (m h : Bool) : Int := a5 / 8 + (if m = true then 8192 else 0) + (if h = true then 16384 else 0)
/-- the header with a checksum -/
def hdr (a0 a1 a2 a3 a4 a5 : Int) (m h : Bool) (n : Nat) (sum : Int) : ByteArray :=
  (⟨#[69, 0]⟩ : ByteArray) ++ dg (20 + (n : Int)) 2 ++ dg a4 2 ++ dg (flg a5 m h) 2 ++ dg a3 1 ++ dg a2 1 ++ dg sum 2 ++ dg a0 4 ++ dg a1 4
theorem hdr_size (a0 a1 a2 a3 a4 a5 : Int) (m h : Bool) (n : Nat) (sum : Int) : (hdr a0 a1 a2 a3 a4 a5 m h n sum).size = 20 := by
  simp only [hdr, ByteArray.size_append, dg_size]; rfl
def enc (a0 a1 a2 a3 a4 a5 : Int) (m h : Bool) (s : ByteArray) : ByteArray :=
  hdr a0 a1 a2 a3 a4 a5 m h s.size (ck (ps (hdr a0 a1 a2 a3 a4 a5 m h s.size 0) 20)) ++ s
theorem or_nat (a b : Nat) (ha : a < 9223372036854775808) (hb : b < 9223372036854775808) : Go.bits .or .i64 (a : Int) (b : Int) = ((a ||| b : Nat) : Int) :=
  (bits_nat .i64 63 (by decide) wraps_i64 a b ha hb).2
theorem flg1 (a : Nat) (h : a < 8192) : a ||| 16384 = a + 16384 := by
  have := Nat.two_pow_add_eq_or_of_lt (i := 14) (b := a) (by omega) 1
  rw [show 2 ^ 14 * 1 = 16384 from rfl] at this
  rw [Nat.or_comm]; omega
theorem flg2 (a : Nat) (h : a < 8192) : a ||| 8192 = a + 8192 := by
  have := Nat.two_pow_add_eq_or_of_lt (i := 13) (b := a) (by omega) 1
  rw [show 2 ^ 13 * 1 = 8192 from rfl] at this
  rw [Nat.or_comm]; omega
theorem flg3 (a : Nat) (h : a < 8192) : (a + 16384) ||| 8192 = a + 16384 + 8192 := by
  rw [show (a + 16384) ||| 8192 = (a ||| 16384) ||| 8192 from by rw [flg1 a h], Nat.or_assoc, Nat.or_comm 16384 8192, ← Nat.or_assoc, flg2 a h]
  have := Nat.two_pow_add_eq_or_of_lt (i := 14) (b := a + 8192) (by omega) 1
  rw [show 2 ^ 14 * 1 = 16384 from rfl] at this
  rw [Nat.or_comm]; omega
/-- the header's bytes, as numbers -/
def hdl (a0 a1 a2 a3 a4 a5 : Int) (m h : Bool) (n : Nat) (sum : Int) : List Int :=
  [69, 0] ++ dgl 2 (20 + (n : Int)) ++ dgl 2 a4 ++ dgl 2 (flg a5 m h) ++ [a3 % 256, a2 % 256] ++ dgl 2 sum ++ dgl 4 a0 ++ dgl 4 a1
theorem hdl_str (a0 a1 a2 a3 a4 a5 : Int) (m h : Bool) (n : Nat) (sum : Int) : strOfNums (hdl a0 a1 a2 a3 a4 a5 m h n sum) = hdr a0 a1 a2 a3 a4 a5 m h n sum := by
  unfold hdl hdr dg
  rw [show ([a3 % 256, a2 % 256] : List Int) = dgl 1 a3 ++ dgl 1 a2 from rfl]
  simp only [strOfNums_append, ByteArray.append_assoc]
  rfl
structure Fits (a0 a1 a2 a3 a4 a5 : Int) (n : Nat) : Prop where
  s0 : 0 ≤ a0
  s1 : a0 < 4294967296
  d0 : 0 ≤ a1
  d1 : a1 < 4294967296
  p0 : 0 ≤ a2
  p1 : a2 ≤ 255
  t0 : 1 ≤ a3
  t1 : a3 ≤ 255
  i0 : 0 ≤ a4
  i1 : a4 ≤ 65535
  o0 : 0 ≤ a5
  o1 : a5 ≤ 65528
  n1 : n ≤ 1500
theorem fits_of {a0 a1 a2 a3 a4 a5 : Int} {m h : Bool} {n : Nat} (s0 : 0 ≤ a0) (s1 : a0 < 4294967296) (d0 : 0 ≤ a1) (d1 : a1 < 4294967296) (e : pf a2 a3 a4 a5 m h n = 0) : Fits a0 a1 a2 a3 a4 a5 n := by
  unfold pf at e
  split at e
  · omega
  · split at e
    · omega
    · exact ⟨s0, s1, d0, d1, by omega, by omega, by omega, by omega, by omega, by omega, by omega, by omega, by omega⟩
theorem header_j1 (a0 a1 a2 a3 a4 a5 : Int) (m h : Bool) (s : ByteArray) (sum : Int) (F : Fits a0 a1 a2 a3 a4 a5 s.size) (mm hh : Bool) :
    Ev (fun k => pkt_header.j1 k sum (flg a5 m h) a0 a1 a2 a3 a4 a5 mm hh s) (hdl a0 a1 a2 a3 a4 a5 m h s.size sum) := by
  have := F.s0; have := F.s1; have := F.d0; have := F.d1; have := F.n1
  refine Ev.step (fun k => rfl) ?_
  simp only [pkt_header.j1]
  have e1 : wrap64 (20 + (s.size : Int)) = 20 + (s.size : Int) := w64 (by omega) (by omega)
  have e2 : wrap64 a0 = a0 := w64 (by omega) (by omega)
  have e3 : wrap64 a1 = a1 := w64 (by omega) (by omega)
  rw [e1, e2, e3]
  refine Ev.bind (Put_ev _ _ 2 (by omega) (by simp)) ?_
  refine Ev.bind (Put_ev _ _ 2 (by omega) (by simp [dgl_length])) ?_
  refine Ev.bind (Put_ev _ _ 2 (by omega) (by simp [dgl_length])) ?_
  refine Ev.bind (Ev.now _) ?_
  refine Ev.pos (by simp [dgl_length]) ?_
  refine Ev.bind (Put_ev _ _ 2 (by omega) (by simp [dgl_length])) ?_
  refine Ev.bind (Put_ev _ _ 4 (by omega) (by simp [dgl_length])) ?_
  refine Ev.bind (Put_ev _ _ 4 (by omega) (by simp [dgl_length])) ?_
  exact Ev.val rfl
theorem header_ev (a0 a1 a2 a3 a4 a5 : Int) (m h : Bool) (s : ByteArray) (sum : Int) (F : Fits a0 a1 a2 a3 a4 a5 s.size) :
    Ev (fun k => pkt_header.f k a0 a1 a2 a3 a4 a5 m h s sum) (hdl a0 a1 a2 a3 a4 a5 m h s.size sum) := by
  have := F.o0; have := F.o1
  have e1 : wrap64 (Int.tdiv a5 8) = a5 / 8 := by rw [Int.tdiv_eq_ediv_of_nonneg F.o0, w64 (by omega) (by omega)]
  obtain ⟨q, hq⟩ : ∃ q : Nat, a5 / 8 = (q : Int) := ⟨(a5 / 8).toNat, by omega⟩
  have hq1 : q < 8192 := by omega
  have o1 : Go.bits .or .i64 (a5 / 8) 16384 = a5 / 8 + 16384 := by rw [hq, show (16384 : Int) = ((16384 : Nat) : Int) from rfl, or_nat _ _ (by omega) (by omega), flg1 q hq1]; omega
  have o2 : Go.bits .or .i64 (a5 / 8) 8192 = a5 / 8 + 8192 := by rw [hq, show (8192 : Int) = ((8192 : Nat) : Int) from rfl, or_nat _ _ (by omega) (by omega), flg2 q hq1]; omega
  have o3 : Go.bits .or .i64 (a5 / 8 + 16384) 8192 = a5 / 8 + 8192 + 16384 := by
    rw [hq, show ((q : Int) + 16384) = ((q + 16384 : Nat) : Int) from by omega, show (8192 : Int) = ((8192 : Nat) : Int) from rfl, or_nat _ _ (by omega) (by omega), flg3 q hq1]; omega
  have H := header_j1 a0 a1 a2 a3 a4 a5 m h s sum F m h
  refine Ev.congr (f := fun k => if h = true then pkt_header.j0 k sum (Go.bits .or .i64 (wrap64 (Int.tdiv a5 8)) 16384) a0 a1 a2 a3 a4 a5 m h s else pkt_header.j0 k sum (wrap64 (Int.tdiv a5 8)) a0 a1 a2 a3 a4 a5 m h s) (fun k => rfl) ?_
  rw [e1, o1]
  cases h
  · refine Ev.neg (by simp) (Ev.step (fun k => rfl) ?_)
    simp only [pkt_header.j0]
    rw [o2]
    cases m
    · refine Ev.neg (by simp) ?_
      simpa [flg] using H
    · refine Ev.pos rfl ?_
      simpa [flg] using H
  · refine Ev.pos rfl (Ev.step (fun k => rfl) ?_)
    simp only [pkt_header.j0]
    rw [o3]
    cases m
    · refine Ev.neg (by simp) ?_
      simpa [flg] using H
    · refine Ev.pos rfl ?_
      simpa [flg] using H
/-- what Encode tells -/
def told (a0 a1 a2 a3 a4 a5 : Int) (m h : Bool) (s : ByteArray) : ByteArray × Int :=
  if pf a2 a3 a4 a5 m h s.size = 0 then (enc a0 a1 a2 a3 a4 a5 m h s, 0) else ((⟨#[]⟩ : ByteArray), pf a2 a3 a4 a5 m h s.size)
theorem Encode_ev (a0 a1 a2 a3 a4 a5 : Int) (m h : Bool) (s : ByteArray) (hs : s.size ≤ 1048576) (s0 : 0 ≤ a0) (s1 : a0 < 4294967296) (d0 : 0 ≤ a1) (d1 : a1 < 4294967296) :
    Ev (fun k => pkt_Encode.f k a0 a1 a2 a3 a4 a5 m h s) (told a0 a1 a2 a3 a4 a5 m h s) := by
  unfold pkt_Encode.f
  refine Ev.bind (a := pf a2 a3 a4 a5 m h s.size) ⟨2, fun k hk => check_eq a0 a1 a2 a3 a4 a5 m h s hs k hk⟩ ?_
  unfold told
  by_cases e : pf a2 a3 a4 a5 m h s.size = 0
  · have F := fits_of s0 s1 d0 d1 e
    have := F.n1
    rw [if_pos e]
    refine Ev.pos e ?_
    refine Ev.bind (header_ev a0 a1 a2 a3 a4 a5 m h s 0 F) ?_
    rw [hdl_str]
    have hz : (hdr a0 a1 a2 a3 a4 a5 m h s.size 0).size = 20 := hdr_size ..
    have S := Sum_ev (hdr a0 a1 a2 a3 a4 a5 m h s.size 0) (by rw [hz]; omega)
    rw [hz] at S
    refine Ev.bind S ?_
    refine Ev.bind (header_ev a0 a1 a2 a3 a4 a5 m h s _ F) ?_
    rw [hdl_str]
    refine Ev.pos (by rw [hdr_size]; omega) ?_
    exact Ev.now _
  · rw [if_neg e]
    refine Ev.neg e (Ev.now _)
end Go.Proofs.Ythpohaafphaidaa.UaFaultTells
