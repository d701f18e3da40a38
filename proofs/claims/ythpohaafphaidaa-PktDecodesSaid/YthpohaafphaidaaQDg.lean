/- The digits of a number in base 256: what Digits, and what put, append. -/
import Derived.Test.YthpohaafphaidaaQPl
import Derived.Test.YthpohaafphaidaaPPktEncodesx4
import Derived.Test.YthpohaafphaidaaPPktEncodesx6
namespace Go.Proofs.Ythpohaafphaidaa.Dg
open Go.RowKit Go.Proofs.YthpohaafphaidaaW.PrintWords Go.Proofs.YthpohaafphaidaaW.PrintLast Go.Proofs.Ythpohaafphaidaa.Pl Go.Proofs.Ythpohaafphaidaa.PPktEncodes
theorem strOfNums_append (a b : List Int) : strOfNums (a ++ b) = strOfNums a ++ strOfNums b := by
  apply ByteArray.ext; simp [strOfNums, ByteArray.data_append]
theorem strOfNums_size (a : List Int) : (strOfNums a).size = a.length := by simp [strOfNums, ByteArray.size]
theorem strOfNums_nil : strOfNums [] = (⟨#[]⟩ : ByteArray) := rfl
/-- the digits of n in base 256, c of them -/
def dgl : Nat → Int → List Int
  | 0, _ => []
  | c + 1, n => dgl c (n / 256) ++ [n % 256]
theorem dgl_length (c : Nat) : ∀ n, (dgl c n).length = c := by
  induction c with
  | zero => intro n; rfl
  | succ c ih => intro n; simp [dgl, ih]
theorem dgl_cons (c : Nat) : ∀ n, dgl (c + 1) n = (n / 256 ^ c % 256) :: dgl c n := by
  induction c with
  | zero => intro n; simp [dgl]
  | succ c ih =>
    intro n
    rw [dgl, ih (n / 256), dgl, Int.ediv_ediv_of_nonneg (by omega)]
    have : (256 : Int) * 256 ^ c = 256 ^ (c + 1) := by rw [Int.pow_succ]; omega
    rw [this]; rfl
/-- the digits as a string -/
def dg (n : Int) (c : Nat) : ByteArray := strOfNums (dgl c n)
theorem dg_size (n : Int) (c : Nat) : (dg n c).size = c := by rw [dg, strOfNums_size, dgl_length]
theorem digits_ev (c : Nat) (hc : c ≤ 1000) (d : Nat) : ∀ (i : Nat) (n : Int) (s : ByteArray), i + d = c → 0 ≤ n → n < 9223372036854775808 → s.size + d ≤ 1000000 →
    Ev (fun k => patchbayref2_Digits.l0 k n s (c : Int) (i : Int)) (dg n d ++ s) := by
  induction d with
  | zero =>
    intro i n s hi h0 h1 hs
    refine Ev.step (fun k => rfl) (Ev.neg (by omega) (Ev.val ?_))
    rw [dg, dgl, strOfNums_nil]; apply ByteArray.ext; simp [ByteArray.data_append]
  | succ d ih =>
    intro i n s hi h0 h1 hs
    refine Ev.step (fun k => rfl) (Ev.pos (by omega) ?_)
    refine Ev.congr (f := fun k => if (strOfNums [Int.tmod n 256 % 256]).size + s.size ≤ 9223372036854775807 then patchbayref2_Digits.l0 k (wrap64 (Int.tdiv n 256)) (strOfNums [Int.tmod n 256 % 256] ++ s) (c : Int) (wrap64 ((i : Int) + 1)) else none) (fun k => rfl) ?_
    refine Ev.pos (by rw [strOfNums_size]; simp; omega) ?_
    have e1 : wrap64 ((i : Int) + 1) = ((i + 1 : Nat) : Int) := by rw [w64 (by omega) (by omega)]; omega
    have e2 : Int.tmod n 256 % 256 = n % 256 := by rw [Int.tmod_eq_emod_of_nonneg h0]; omega
    have e3 : wrap64 (Int.tdiv n 256) = n / 256 := by rw [Int.tdiv_eq_ediv_of_nonneg h0, w64 (by omega) (by omega)]
    rw [e1, e2, e3]
    have := ih (i + 1) (n / 256) (strOfNums [n % 256] ++ s) (by omega) (by omega) (by omega) (by rw [ByteArray.size_append, strOfNums_size]; simp; omega)
    have e4 : dg n (d + 1) ++ s = dg (n / 256) d ++ (strOfNums [n % 256] ++ s) := by
      rw [dg, dgl, strOfNums_append, dg, ByteArray.append_assoc]
    rw [e4]; exact this
theorem Digits_ev (n : Int) (c : Nat) (hc : c ≤ 1000) (h0 : 0 ≤ n) (h1 : n < 9223372036854775808) : Ev (fun k => patchbayref2_Digits.f k n (c : Int)) (dg n c) := by
  have := digits_ev c hc c 0 n (⟨#[]⟩ : ByteArray) (by omega) h0 h1 (by simp [ByteArray.size]; omega)
  have e : dg n c ++ (⟨#[]⟩ : ByteArray) = dg n c := by apply ByteArray.ext; simp [ByteArray.data_append]
  rw [e] at this
  exact Ev.congr (fun k => rfl) this
/-- A call of Digits. -/
theorem Digits_calls (n : Int) (c : Nat) (w : World) (hc : c ≤ 1000) (h0 : 0 ≤ n) (h1 : n < 9223372036854775808) :
    Calls Try.prog 13 #[.int .i64 n, .int .i64 c] w fun e w' => e = .returned (.string (dg n c)) ∧ Below w.heap.size w w' := by
  obtain ⟨k, hk⟩ := (Digits_ev n c hc h0 h1).rounds
  exact patchbayref2_Digits.calls k n c (dg n c) w hk
theorem Digits1 (n : Int) (w : World) (h0 : 0 ≤ n) (h1 : n < 9223372036854775808) : Calls Try.prog 13 #[.int .i64 n, .int .i64 1] w fun e w' => e = .returned (.string (dg n 1)) ∧ Below w.heap.size w w' := Digits_calls n 1 w (by decide) h0 h1
theorem Digits2 (n : Int) (w : World) (h0 : 0 ≤ n) (h1 : n < 9223372036854775808) : Calls Try.prog 13 #[.int .i64 n, .int .i64 2] w fun e w' => e = .returned (.string (dg n 2)) ∧ Below w.heap.size w w' := Digits_calls n 2 w (by decide) h0 h1
theorem Digits4 (n : Int) (w : World) (h0 : 0 ≤ n) (h1 : n < 9223372036854775808) : Calls Try.prog 13 #[.int .i64 n, .int .i64 4] w fun e w' => e = .returned (.string (dg n 4)) ∧ Below w.heap.size w w' := Digits_calls n 4 w (by decide) h0 h1
theorem shr64 (n : Int) (i : Nat) (hi : i < 8) : shr .i64 n (8 * (i : Int)) = n / 256 ^ i := by
  unfold shr
  have e : (8 * (i : Int)).toNat = 8 * i := by omega
  have e2 : min (8 * i) IntKind.i64.bits = 8 * i := by show min (8 * i) 64 = 8 * i; omega
  rw [e, e2, Int.pow_mul]; rfl
theorem put_ev (n : Int) : ∀ (i : Nat) (b : List Int), i ≤ 8 → b.length + i ≤ 1000000 →
    Ev (fun k => pkt_put.l0 k b n ((i : Int) - 1)) (b ++ dgl i n) := by
  intro i
  induction i with
  | zero =>
    intro b _ _
    refine Ev.step (fun k => rfl) (Ev.neg (by omega) (Ev.val ?_))
    simp [dgl]
  | succ i ih =>
    intro b hi hl
    refine Ev.step (fun k => rfl) (Ev.pos (by omega) ?_)
    have e0 : (((i + 1 : Nat) : Int) - 1) = (i : Int) := by omega
    rw [e0]
    have e1 : wrap64 (8 * (i : Int)) = 8 * (i : Int) := w64 (by omega) (by omega)
    rw [e1]
    refine Ev.pos (by omega) (Ev.pos (by omega) ?_)
    rw [w64 (x := (i : Int) - 1) (by omega) (by omega), shr64 n i (by omega)]
    have := ih (b ++ [n / 256 ^ i % 256]) (by omega) (by simp; omega)
    rw [dgl_cons]
    simpa using this
theorem Put_ev (b : List Int) (n : Int) (c : Nat) (hc : c ≤ 8) (hb : b.length ≤ 1000) : Ev (fun k => pkt_put.f k b n (c : Int)) (b ++ dgl c n) := by
  have := put_ev n c b hc (by omega)
  refine Ev.congr (fun k => ?_) this
  show pkt_put.l0 k b n (wrap64 ((c : Int) - 1)) = _
  rw [w64 (by omega) (by omega)]
end Go.Proofs.Ythpohaafphaidaa.Dg
