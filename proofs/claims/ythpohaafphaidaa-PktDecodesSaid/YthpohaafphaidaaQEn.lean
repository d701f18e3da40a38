/- The calls of the packet's functions, each with what it tells; the walk of the law PktEncodes. -/
import Derived.Test.YthpohaafphaidaaQTt
namespace Go.Proofs.Ythpohaafphaidaa.En
open Go.RowKit Go.Proofs.YthpohaafphaidaaW.PrintWords Go.Proofs.YthpohaafphaidaaW.PrintLast Go.Proofs.Ythpohaafphaidaa.Pl Go.Proofs.Ythpohaafphaidaa.PPktEncodes Go.Proofs.Ythpohaafphaidaa.Dg Go.Proofs.Ythpohaafphaidaa.SmPktEncodes Go.Proofs.Ythpohaafphaidaa.CkPktEncodes Go.Proofs.Ythpohaafphaidaa.Hd Go.Proofs.Ythpohaafphaidaa.Tx Go.Proofs.Ythpohaafphaidaa.Tt
set_option linter.unusedVariables false
set_option linter.unusedSimpArgs false
theorem Check_calls (a0 a1 a2 a3 a4 a5 : Int) (m h : Bool) (s : ByteArray) (hs : s.size ≤ 1048576) (F : Int) (hF : pf a2 a3 a4 a5 m h s.size = F) (w : World) :
    Calls Try.prog 26 #[.agg #[.int .u32 a0, .int .u32 a1, .int .i64 a2, .int .i64 a3, .int .i64 a4, .int .i64 a5, .bool m, .bool h, .string s]] w fun e w' => e = .returned (.int .i64 F) ∧ Below w.heap.size w w' :=
  pkt_Check.calls 2 _ _ _ _ _ _ _ _ _ _ w (by rw [check_eq _ _ _ _ _ _ _ _ _ hs 2 (by omega), hF])
theorem Fault_calls (a0 a1 a2 a3 a4 a5 : Int) (m h : Bool) (s : ByteArray) (hs : s.size ≤ 1048576) (F : Int) (hF : pf a2 a3 a4 a5 m h s.size = F) (w : World) :
    Calls Try.prog 23 #[.agg #[.int .u32 a0, .int .u32 a1, .int .i64 a2, .int .i64 a3, .int .i64 a4, .int .i64 a5, .bool m, .bool h, .string s]] w fun e w' => e = .returned (.int .i64 F) ∧ Below w.heap.size w w' :=
  patchbayref2_PacketFault.calls 2 _ _ _ _ _ _ _ _ _ _ w (by rw [fault_eq _ _ _ _ _ _ _ _ _ hs 2 (by omega), hF])
theorem Encode_calls (a0 a1 a2 a3 a4 a5 : Int) (m h : Bool) (s : ByteArray) (hs : s.size ≤ 1048576) (s0 : 0 ≤ a0) (s1 : a0 < 4294967296) (d0 : 0 ≤ a1) (d1 : a1 < 4294967296) (r : ByteArray) (F : Int) (hF : told a0 a1 a2 a3 a4 a5 m h s = (r, F)) (w : World) :
    Calls Try.prog 24 #[.agg #[.int .u32 a0, .int .u32 a1, .int .i64 a2, .int .i64 a3, .int .i64 a4, .int .i64 a5, .bool m, .bool h, .string s]] w fun e w' => e = .returned (.tuple #[.string r, .int .i64 F]) ∧ Below w.heap.size w w' := by
  obtain ⟨k, hk⟩ := (Encode_ev a0 a1 a2 a3 a4 a5 m h s hs s0 s1 d0 d1).rounds
  rw [hF] at hk
  exact pkt_Encode.calls k _ _ _ _ _ _ _ _ _ _ _ w hk
theorem pktLives_calls (w : World) : Calls Try.prog 22 #[] w fun e w' => e = .returned (.bool true) ∧ Below w.heap.size w w' := by
  have H : Ev (fun k => patchbaylaw2_pktLives.f k) true := by
    have E := Encode_ev 0 0 0 1 0 0 false false (⟨#[]⟩ : ByteArray) (by simp [ByteArray.size]) (by omega) (by omega) (by omega) (by omega)
    have p0 : pf 0 1 0 0 false false (⟨#[]⟩ : ByteArray).size = 0 := by decide
    have e0 : told 0 0 0 1 0 0 false false (⟨#[]⟩ : ByteArray) = (enc 0 0 0 1 0 0 false false (⟨#[]⟩ : ByteArray), 0) := by unfold told; rw [if_pos p0]
    rw [e0] at E
    refine Ev.bind E (Ev.pos rfl (Ev.val ?_))
    have : (enc 0 0 0 1 0 0 false false (⟨#[]⟩ : ByteArray)).size = 20 := by rw [enc, ByteArray.size_append, hdr_size]; rfl
    simp [this]
  obtain ⟨k, hk⟩ := H.rounds
  exact patchbaylaw2_pktLives.calls k true w hk
/-- the body cut to n bytes -/
def cutb (s : ByteArray) (n : Nat) : ByteArray := s.extract 0 (min s.size n)
theorem cutb_size (s : ByteArray) (n : Nat) : (cutb s n).size ≤ n := by simp [cutb, ByteArray.size_extract]; omega
theorem begin_eq (s : ByteArray) (n : Nat) (hs : s.size ≤ 9223372036854775807) : patchbaylaw2_begin.f s n = some (cutb s n) := by
  have e : mn (s.size : Int) (n : Int) = ((min s.size n : Nat) : Int) := by unfold mn; split <;> omega
  unfold patchbaylaw2_begin.f
  rw [e, if_pos (by omega), if_pos (by omega)]
  rfl
theorem bare_calls (a0 a1 a2 a3 a4 a5 : Int) (m h : Bool) (s : ByteArray) (n : Nat) (hs : s.size ≤ 9223372036854775807) (w : World) :
    Calls Try.prog 16 #[.agg #[.int .u32 a0, .int .u32 a1, .int .i64 a2, .int .i64 a3, .int .i64 a4, .int .i64 a5, .bool m, .bool h, .string s], .int .i64 n] w fun e w' => e = .returned (.agg #[.int .u32 a0, .int .u32 a1, .int .i64 a2, .int .i64 a3, .int .i64 a4, .int .i64 a5, .bool m, .bool h, .string (cutb s n)]) ∧ Below w.heap.size w w' :=
  patchbaylaw2_bare.calls _ _ _ _ _ _ _ _ _ _ _ _ _ _ _ _ _ _ _ w (by unfold patchbaylaw2_bare.f; rw [begin_eq s n hs]; rfl)
theorem Hop_no (a0 a1 a2 a3 a4 a5 : Int) (m h : Bool) (s : ByteArray) (hs : s.size ≤ 1048576) (F : Int) (hF : pf a2 a3 a4 a5 m h s.size = F) (h0 : F ≠ 0) (w : World) :
    Calls Try.prog 25 #[.agg #[.int .u32 a0, .int .u32 a1, .int .i64 a2, .int .i64 a3, .int .i64 a4, .int .i64 a5, .bool m, .bool h, .string s]] w fun e w' => e = .returned (.tuple #[.agg #[.int .u32 0, .int .u32 0, .int .i64 0, .int .i64 0, .int .i64 0, .int .i64 0, .bool false, .bool false, .string ⟨#[]⟩], .int .i64 F]) ∧ Below w.heap.size w w' :=
  pkt_Hop.calls 2 _ _ _ _ _ _ _ _ _ _ _ _ _ _ _ _ _ _ _ w (by unfold pkt_Hop.f; rw [check_eq _ _ _ _ _ _ _ _ _ hs 2 (by omega), hF]; simp [h0])
theorem Hop_one (a0 a1 a2 a4 a5 : Int) (m h : Bool) (s : ByteArray) (hs : s.size ≤ 1048576) (hF : pf a2 1 a4 a5 m h s.size = 0) (w : World) :
    Calls Try.prog 25 #[.agg #[.int .u32 a0, .int .u32 a1, .int .i64 a2, .int .i64 1, .int .i64 a4, .int .i64 a5, .bool m, .bool h, .string s]] w fun e w' => e = .returned (.tuple #[.agg #[.int .u32 0, .int .u32 0, .int .i64 0, .int .i64 0, .int .i64 0, .int .i64 0, .bool false, .bool false, .string ⟨#[]⟩], .int .i64 16]) ∧ Below w.heap.size w w' :=
  pkt_Hop.calls 2 _ _ _ _ _ _ _ _ _ _ _ _ _ _ _ _ _ _ _ w (by unfold pkt_Hop.f; rw [check_eq _ _ _ _ _ _ _ _ _ hs 2 (by omega), hF]; simp)
theorem Hop_yes (a0 a1 a2 a3 a4 a5 : Int) (m h : Bool) (s : ByteArray) (hs : s.size ≤ 1048576) (hF : pf a2 a3 a4 a5 m h s.size = 0) (h1 : 2 ≤ a3) (h2 : a3 ≤ 255) (w : World) :
    Calls Try.prog 25 #[.agg #[.int .u32 a0, .int .u32 a1, .int .i64 a2, .int .i64 a3, .int .i64 a4, .int .i64 a5, .bool m, .bool h, .string s]] w fun e w' => e = .returned (.tuple #[.agg #[.int .u32 a0, .int .u32 a1, .int .i64 a2, .int .i64 (a3 - 1), .int .i64 a4, .int .i64 a5, .bool m, .bool h, .string s], .int .i64 0]) ∧ Below w.heap.size w w' :=
  pkt_Hop.calls 2 _ _ _ _ _ _ _ _ _ _ _ _ _ _ _ _ _ _ _ w (by unfold pkt_Hop.f; rw [check_eq _ _ _ _ _ _ _ _ _ hs 2 (by omega), hF]; simp [show ¬ a3 = 1 by omega, w64 (x := a3 - 1) (by omega) (by omega)])
end Go.Proofs.Ythpohaafphaidaa.En
