/- A packet's header and its encoding, as the program makes it. -/
import Derived.Test.YthpohaafphaidaaQDg
import Derived.Test.YthpohaafphaidaaQSmPktEncodes
import Derived.Test.YthpohaafphaidaaQCkPktEncodes
namespace Go.Proofs.Ythpohaafphaidaa.Hd
open Go.RowKit Go.Proofs.YthpohaafphaidaaW.PrintWords Go.Proofs.YthpohaafphaidaaW.PrintLast Go.Proofs.Ythpohaafphaidaa.Pl Go.Proofs.Ythpohaafphaidaa.PPktEncodes Go.Proofs.Ythpohaafphaidaa.Dg Go.Proofs.Ythpohaafphaidaa.SmPktEncodes Go.Proofs.Ythpohaafphaidaa.CkPktEncodes
/-- the word of the flags -/
def flg (a5 : Int) (m h : Bool) : Int := a5 / 8 + (if m = true then 8192 else 0) + (if h = true then 16384 else 0)
/-- the header with a checksum -/
def hdr (a0 a1 a2 a3 a4 a5 : Int) (m h : Bool) (n : Nat) (sum : Int) : ByteArray :=
  (⟨#[69, 0]⟩ : ByteArray) ++ dg (20 + (n : Int)) 2 ++ dg a4 2 ++ dg (flg a5 m h) 2 ++ dg a3 1 ++ dg a2 1 ++ dg sum 2 ++ dg a0 4 ++ dg a1 4
theorem hdr_size (a0 a1 a2 a3 a4 a5 : Int) (m h : Bool) (n : Nat) (sum : Int) : (hdr a0 a1 a2 a3 a4 a5 m h n sum).size = 20 := by
  simp only [hdr, ByteArray.size_append, dg_size]; rfl
def enc (a0 a1 a2 a3 a4 a5 : Int) (m h : Bool) (s : ByteArray) : ByteArray :=
  hdr a0 a1 a2 a3 a4 a5 m h s.size (ck (ps (hdr a0 a1 a2 a3 a4 a5 m h s.size 0) 20)) ++ s
theorem or_nat (a b : Nat) (ha : a < 9223372036854775808) (hb : b < 9223372036854775808) : Go.bits .or .i64 (a : Int) (b : Int) = ((a ||| b : Nat) : Int) :=
  (bits_nat .i64 63 (by decide) wraps_i64 a b ha hb).2
theorem flg1 (a : Nat) (h : a < 8192) : a ||| 16384 = a + 16384 := by
  have := Nat.two_pow_add_eq_or_of_lt (i := 14) (b := a) (by omega) 1
  rw [show 2 ^ 14 * 1 = 16384 from rfl] at this
  rw [Nat.or_comm]; omega
theorem flg2 (a : Nat) (h : a < 8192) : a ||| 8192 = a + 8192 := by
  have := Nat.two_pow_add_eq_or_of_lt (i := 13) (b := a) (by omega) 1
  rw [show 2 ^ 13 * 1 = 8192 from rfl] at this
  rw [Nat.or_comm]; omega
theorem flg3 (a : Nat) (h : a < 8192) : (a + 16384) ||| 8192 = a + 16384 + 8192 := by
  rw [show (a + 16384) ||| 8192 = (a ||| 16384) ||| 8192 from by rw [flg1 a h], Nat.or_assoc, Nat.or_comm 16384 8192, ← Nat.or_assoc, flg2 a h]
  have := Nat.two_pow_add_eq_or_of_lt (i := 14) (b := a + 8192) (by omega) 1
  rw [show 2 ^ 14 * 1 = 16384 from rfl] at this
  rw [Nat.or_comm]; omega
/-- the header's bytes, as numbers -/
def hdl (a0 a1 a2 a3 a4 a5 : Int) (m h : Bool) (n : Nat) (sum : Int) : List Int :=
  [69, 0] ++ dgl 2 (20 + (n : Int)) ++ dgl 2 a4 ++ dgl 2 (flg a5 m h) ++ [a3 % 256, a2 % 256] ++ dgl 2 sum ++ dgl 4 a0 ++ dgl 4 a1
theorem hdl_str (a0 a1 a2 a3 a4 a5 : Int) (m h : Bool) (n : Nat) (sum : Int) : strOfNums (hdl a0 a1 a2 a3 a4 a5 m h n sum) = hdr a0 a1 a2 a3 a4 a5 m h n sum := by
  unfold hdl hdr dg
  rw [show ([a3 % 256, a2 % 256] : List Int) = dgl 1 a3 ++ dgl 1 a2 from rfl]
  simp only [strOfNums_append, ByteArray.append_assoc]
  rfl
structure Fits (a0 a1 a2 a3 a4 a5 : Int) (n : Nat) : Prop where
  s0 : 0 ≤ a0
  s1 : a0 < 4294967296
  d0 : 0 ≤ a1
  d1 : a1 < 4294967296
  p0 : 0 ≤ a2
  p1 : a2 ≤ 255
  t0 : 1 ≤ a3
  t1 : a3 ≤ 255
  i0 : 0 ≤ a4
  i1 : a4 ≤ 65535
  o0 : 0 ≤ a5
  o1 : a5 ≤ 65528
  n1 : n ≤ 1500
theorem fits_of {a0 a1 a2 a3 a4 a5 : Int} {m h : Bool} {n : Nat} (s0 : 0 ≤ a0) (s1 : a0 < 4294967296) (d0 : 0 ≤ a1) (d1 : a1 < 4294967296) (e : pf a2 a3 a4 a5 m h n = 0) : Fits a0 a1 a2 a3 a4 a5 n := by
  unfold pf at e
  split at e
  · omega
  · split at e
    · omega
    · exact ⟨s0, s1, d0, d1, by omega, by omega, by omega, by omega, by omega, by omega, by omega, by omega, by omega⟩
theorem header_j1 (a0 a1 a2 a3 a4 a5 : Int) (m h : Bool) (s : ByteArray) (sum : Int) (F : Fits a0 a1 a2 a3 a4 a5 s.size) (mm hh : Bool) :
    Ev (fun k => pkt_header.j1 k sum (flg a5 m h) a0 a1 a2 a3 a4 a5 mm hh s) (hdl a0 a1 a2 a3 a4 a5 m h s.size sum) := by
  have := F.s0; have := F.s1; have := F.d0; have := F.d1; have := F.n1
  refine Ev.step (fun k => rfl) ?_
  simp only [pkt_header.j1]
  have e1 : wrap64 (20 + (s.size : Int)) = 20 + (s.size : Int) := w64 (by omega) (by omega)
  have e2 : wrap64 a0 = a0 := w64 (by omega) (by omega)
  have e3 : wrap64 a1 = a1 := w64 (by omega) (by omega)
  rw [e1, e2, e3]
  refine Ev.bind (Put_ev _ _ 2 (by omega) (by simp)) ?_
  refine Ev.bind (Put_ev _ _ 2 (by omega) (by simp [dgl_length])) ?_
  refine Ev.bind (Put_ev _ _ 2 (by omega) (by simp [dgl_length])) ?_
  refine Ev.bind (Ev.now _) ?_
  refine Ev.pos (by simp [dgl_length]) ?_
  refine Ev.bind (Put_ev _ _ 2 (by omega) (by simp [dgl_length])) ?_
  refine Ev.bind (Put_ev _ _ 4 (by omega) (by simp [dgl_length])) ?_
  refine Ev.bind (Put_ev _ _ 4 (by omega) (by simp [dgl_length])) ?_
  exact Ev.val rfl
theorem header_ev (a0 a1 a2 a3 a4 a5 : Int) (m h : Bool) (s : ByteArray) (sum : Int) (F : Fits a0 a1 a2 a3 a4 a5 s.size) :
    Ev (fun k => pkt_header.f k a0 a1 a2 a3 a4 a5 m h s sum) (hdl a0 a1 a2 a3 a4 a5 m h s.size sum) := by
  have := F.o0; have := F.o1
  have e1 : wrap64 (Int.tdiv a5 8) = a5 / 8 := by rw [Int.tdiv_eq_ediv_of_nonneg F.o0, w64 (by omega) (by omega)]
  obtain ⟨q, hq⟩ : ∃ q : Nat, a5 / 8 = (q : Int) := ⟨(a5 / 8).toNat, by omega⟩
  have hq1 : q < 8192 := by omega
  have o1 : Go.bits .or .i64 (a5 / 8) 16384 = a5 / 8 + 16384 := by rw [hq, show (16384 : Int) = ((16384 : Nat) : Int) from rfl, or_nat _ _ (by omega) (by omega), flg1 q hq1]; omega
  have o2 : Go.bits .or .i64 (a5 / 8) 8192 = a5 / 8 + 8192 := by rw [hq, show (8192 : Int) = ((8192 : Nat) : Int) from rfl, or_nat _ _ (by omega) (by omega), flg2 q hq1]; omega
  have o3 : Go.bits .or .i64 (a5 / 8 + 16384) 8192 = a5 / 8 + 8192 + 16384 := by
    rw [hq, show ((q : Int) + 16384) = ((q + 16384 : Nat) : Int) from by omega, show (8192 : Int) = ((8192 : Nat) : Int) from rfl, or_nat _ _ (by omega) (by omega), flg3 q hq1]; omega
  have H := header_j1 a0 a1 a2 a3 a4 a5 m h s sum F m h
  refine Ev.congr (f := fun k => if h = true then pkt_header.j0 k sum (Go.bits .or .i64 (wrap64 (Int.tdiv a5 8)) 16384) a0 a1 a2 a3 a4 a5 m h s else pkt_header.j0 k sum (wrap64 (Int.tdiv a5 8)) a0 a1 a2 a3 a4 a5 m h s) (fun k => rfl) ?_
  rw [e1, o1]
  cases h
  · refine Ev.neg (by simp) (Ev.step (fun k => rfl) ?_)
    simp only [pkt_header.j0]
    rw [o2]
    cases m
    · refine Ev.neg (by simp) ?_
      simpa [flg] using H
    · refine Ev.pos rfl ?_
      simpa [flg] using H
  · refine Ev.pos rfl (Ev.step (fun k => rfl) ?_)
    simp only [pkt_header.j0]
    rw [o3]
    cases m
    · refine Ev.neg (by simp) ?_
      simpa [flg] using H
    · refine Ev.pos rfl ?_
      simpa [flg] using H
/-- what Encode tells -/
def told (a0 a1 a2 a3 a4 a5 : Int) (m h : Bool) (s : ByteArray) : ByteArray × Int :=
  if pf a2 a3 a4 a5 m h s.size = 0 then (enc a0 a1 a2 a3 a4 a5 m h s, 0) else ((⟨#[]⟩ : ByteArray), pf a2 a3 a4 a5 m h s.size)
theorem Encode_ev (a0 a1 a2 a3 a4 a5 : Int) (m h : Bool) (s : ByteArray) (hs : s.size ≤ 1048576) (s0 : 0 ≤ a0) (s1 : a0 < 4294967296) (d0 : 0 ≤ a1) (d1 : a1 < 4294967296) :
    Ev (fun k => pkt_Encode.f k a0 a1 a2 a3 a4 a5 m h s) (told a0 a1 a2 a3 a4 a5 m h s) := by
  unfold pkt_Encode.f
  refine Ev.bind (a := pf a2 a3 a4 a5 m h s.size) ⟨2, fun k hk => check_eq a0 a1 a2 a3 a4 a5 m h s hs k hk⟩ ?_
  unfold told
  by_cases e : pf a2 a3 a4 a5 m h s.size = 0
  · have F := fits_of s0 s1 d0 d1 e
    have := F.n1
    rw [if_pos e]
    refine Ev.pos e ?_
    refine Ev.bind (header_ev a0 a1 a2 a3 a4 a5 m h s 0 F) ?_
    rw [hdl_str]
    have hz : (hdr a0 a1 a2 a3 a4 a5 m h s.size 0).size = 20 := hdr_size ..
    have S := Sum_ev (hdr a0 a1 a2 a3 a4 a5 m h s.size 0) (by rw [hz]; omega)
    rw [hz] at S
    refine Ev.bind S ?_
    refine Ev.bind (header_ev a0 a1 a2 a3 a4 a5 m h s _ F) ?_
    rw [hdl_str]
    refine Ev.pos (by rw [hdr_size]; omega) ?_
    exact Ev.now _
  · rw [if_neg e]
    refine Ev.neg e (Ev.now _)
end Go.Proofs.Ythpohaafphaidaa.Hd
