/- The law FaultTells on numbers and strings. -/
import Derived.Test.YthpohaafphaidaaQUbFaultTells
import Derived.Test.YthpohaafphaidaaGFaultTellsx13
namespace Go.Proofs.Ythpohaafphaidaa.UcFaultTells
open Go.RowKit Go.Proofs.YthpohaafphaidaaW.PrintWords Go.Proofs.YthpohaafphaidaaW.PrintLast Go.Proofs.Ythpohaafphaidaa.Pl Go.Proofs.Ythpohaafphaidaa.GFaultTells Go.Proofs.Ythpohaafphaidaa.UaFaultTells Go.Proofs.Ythpohaafphaidaa.UbFaultTells
set_option linter.unusedVariables false
set_option linter.unusedSimpArgs false
theorem mn_nat (a b : Nat) : mn (a : Int) (b : Int) = ((min a b : Nat) : Int) := by unfold mn; split <;> omega
theorem begin_eq (s : ByteArray) : patchbaylaw2_begin.f s 40 = some (s.extract 0 40) := by
  unfold patchbaylaw2_begin.f
  rw [show (40 : Int) = ((40 : Nat) : Int) from rfl, mn_nat, if_pos (by omega), if_pos (by omega), Int.toNat_natCast, extract_min]
theorem cut_size (s : ByteArray) : (s.extract 0 40).size ≤ 40 := by rw [ByteArray.size_extract]; omega
abbrev T11 := Int × Int × Int × Int × Int × Int × Bool × Bool × ByteArray × Int
theorem Echo_bad (a0 a1 id sq : Int) (s : ByteArray) (hb : id < 0 ∨ 65535 < id ∨ sq < 0 ∨ 65535 < sq) :
    Ev (fun k => fault_Echo.f k a0 a1 id sq s) (0, 0, 0, 0, 0, 0, false, false, (⟨#[]⟩ : ByteArray), 10) := by
  have J : Ev (fun k => fault_Echo.j0 k a0 a1 id sq s true) (0, 0, 0, 0, 0, 0, false, false, (⟨#[]⟩ : ByteArray), 10) := by
    refine Ev.step (fun k => rfl) ?_
    simp only [fault_Echo.j0]
    exact Ev.pos trivial (Ev.val rfl)
  unfold fault_Echo.f
  by_cases h1 : id < 0
  · exact Ev.pos h1 J
  · refine Ev.neg h1 ?_
    by_cases h2 : id > 65535
    · exact Ev.pos h2 J
    · refine Ev.neg h2 ?_
      by_cases h3 : sq < 0
      · exact Ev.pos h3 J
      · refine Ev.neg h3 ?_
        rw [show decide (sq > 65535) = true from decide_eq_true (by omega)]; exact J
theorem EchoOf_bad (a0 a1 id sq : Int) (s : ByteArray) (hb : id < 0 ∨ 65535 < id ∨ sq < 0 ∨ 65535 < sq) :
    Ev (fun k => patchbayref2_EchoOf.f k a0 a1 id sq s) (0, 0, 0, 0, 0, 0, false, false, (⟨#[]⟩ : ByteArray), 10) := by
  have J : Ev (fun k => patchbayref2_EchoOf.j0 k a0 a1 id sq s true) (0, 0, 0, 0, 0, 0, false, false, (⟨#[]⟩ : ByteArray), 10) := by
    refine Ev.step (fun k => rfl) ?_
    simp only [patchbayref2_EchoOf.j0]
    exact Ev.pos trivial (Ev.val rfl)
  unfold patchbayref2_EchoOf.f
  by_cases h1 : id < 0
  · exact Ev.pos h1 J
  · refine Ev.neg h1 ?_
    by_cases h2 : id > 65535
    · exact Ev.pos h2 J
    · refine Ev.neg h2 ?_
      by_cases h3 : sq < 0
      · exact Ev.pos h3 J
      · refine Ev.neg h3 ?_
        rw [show decide (sq > 65535) = true from decide_eq_true (by omega)]; exact J
theorem Echo_good (a0 a1 id sq : Int) (s : ByteArray) (i0 : 0 ≤ id) (i1 : id ≤ 65535) (q0 : 0 ≤ sq) (q1 : sq ≤ 65535) (hs : s.size ≤ 1492) :
    Ev (fun k => fault_Echo.f k a0 a1 id sq s) (a0, a1, 1, 64, 0, 0, false, false, strOfNums [8, 0, 0, 0, id / 256 % 256, id % 256, sq / 256 % 256, sq % 256] ++ s, 0) := by
  unfold fault_Echo.f
  refine Ev.neg (by omega) (Ev.neg (by omega) (Ev.neg (by omega) ?_))
  rw [show decide (sq > 65535) = false from decide_eq_false (by omega)]
  refine Ev.step (fun k => rfl) ?_
  simp only [fault_Echo.j0]
  refine Ev.neg (by simp) (Ev.neg (by omega) (Ev.bind (Ev.now _) (Ev.pos ?_ (Ev.val rfl))))
  rw [strOfNums_size]; simp; omega
theorem EchoOf_good (a0 a1 id sq : Int) (s : ByteArray) (i0 : 0 ≤ id) (i1 : id ≤ 65535) (q0 : 0 ≤ sq) (q1 : sq ≤ 65535) (hs : s.size ≤ 1492) :
    Ev (fun k => patchbayref2_EchoOf.f k a0 a1 id sq s) (a0, a1, 1, 64, 0, 0, false, false, strOfNums [8, 0, 0, 0, id / 256 % 256, id % 256, sq / 256 % 256, sq % 256] ++ s, 0) := by
  unfold patchbayref2_EchoOf.f
  refine Ev.neg (by omega) (Ev.neg (by omega) (Ev.neg (by omega) ?_))
  rw [show decide (sq > 65535) = false from decide_eq_false (by omega)]
  refine Ev.step (fun k => rfl) ?_
  simp only [patchbayref2_EchoOf.j0]
  have D1 := Digits_ev id 2 (by omega) i0 (by omega)
  have D2 := Digits_ev sq 2 (by omega) q0 (by omega)
  refine Ev.neg (by simp) (Ev.neg (by omega) (Ev.bind D1 (Ev.pos (by rw [dg_size, z4]; omega) (Ev.bind D2 (Ev.pos ?_ (Ev.pos ?_ (Ev.val ?_)))))))
  · simp only [ByteArray.size_append, dg_size, z4]; omega
  · simp only [ByteArray.size_append, dg_size, z4]; omega
  · have e : strOfNums [8, 0, 0, 0, id / 256 % 256, id % 256, sq / 256 % 256, sq % 256] = (⟨#[8, 0, 0, 0]⟩ : ByteArray) ++ dg id 2 ++ dg sq 2 := by
      rw [show [8, 0, 0, 0, id / 256 % 256, id % 256, sq / 256 % 256, sq % 256] = [8, 0, 0, 0] ++ [id / 256 % 256, id % 256] ++ [sq / 256 % 256, sq % 256] from rfl, strOfNums_append, strOfNums_append]; rfl
    rw [e]
theorem Echoes (a0 a1 id sq : Int) (s : ByteArray) (hs : s.size ≤ 1492) : ∃ v : T11, Ev (fun k => fault_Echo.f k a0 a1 id sq s) v ∧ Ev (fun k => patchbayref2_EchoOf.f k a0 a1 id sq s) v := by
  by_cases hb : id < 0 ∨ 65535 < id ∨ sq < 0 ∨ 65535 < sq
  · exact ⟨_, Echo_bad a0 a1 id sq s hb, EchoOf_bad a0 a1 id sq s hb⟩
  · exact ⟨_, Echo_good a0 a1 id sq s (by omega) (by omega) (by omega) (by omega) hs, EchoOf_good a0 a1 id sq s (by omega) (by omega) (by omega) (by omega) hs⟩
theorem lives_ev : Ev (fun k => patchbaylaw2_faultLives.f k) true := by
  refine Ev.congr (fun k => rfl) (Ev.bind (Echo_good 1 2 3 4 (⟨#[]⟩ : ByteArray) (by omega) (by omega) (by omega) (by omega) (by simp [z0])) (Ev.pos rfl (Ev.val rfl)))
theorem Fault_ev (a0 a1 a2 a3 a4 a5 : Int) (m h : Bool) (s : ByteArray) (hs : s.size ≤ 1048576) : Ev (fun k => patchbayref2_PacketFault.f k a0 a1 a2 a3 a4 a5 m h s) (pf a2 a3 a4 a5 m h s.size) :=
  ⟨2, fun k hk => fault_eq a0 a1 a2 a3 a4 a5 m h s hs k hk⟩
theorem law (a0 a1 a2 a3 a4 a5 : Int) (m h : Bool) (s : ByteArray) (s0 : 0 ≤ a0) (s1 : a0 < 4294967296) (d0 : 0 ≤ a1) (d1 : a1 < 4294967296) (why src id sq : Int) (u0 : 0 ≤ src) (u1 : src < 4294967296) (body : ByteArray) :
    Ev (fun k => patchbaylaw2_FaultTells.f k a0 a1 a2 a3 a4 a5 m h s why src id sq body) true := by
  unfold patchbaylaw2_FaultTells.f patchbaylaw2_bare.f
  simp only [begin_eq, Option.bind_some]
  have hb := cut_size s
  have hc := cut_size body
  generalize s.extract 0 40 = b at hb ⊢
  generalize body.extract 0 40 = c at hc ⊢
  refine Ev.bind lives_ev (Ev.pos rfl ?_)
  have FE := Fault_ev a0 a1 a2 a3 a4 a5 m h b (by omega)
  obtain ⟨⟨e1, e2, e3, e4, e5, e6, e7, e8, e9, e10⟩, hE, hO⟩ := Echoes a0 a1 id sq c (by omega)
  by_cases hF : pf a2 a3 a4 a5 m h b.size = 0
  · rw [hF] at FE
    have AG := Answer_good a0 a1 a2 a3 a4 a5 m h b (by omega) hF
    have AO : Ev (fun _ => patchbayref2_AnswerOf.f a0 a1 a2 a3 a4 a5 m h b) _ := Ev.val' (AnswerOf_eq a0 a1 a2 a3 a4 a5 m h b (by omega) s0 s1 d0 d1)
    obtain ⟨r1, r2, r3, r4, r5, r6, r7, r8, r9, r10⟩ := ansv a0 a1 a2 a5 m b
    dsimp only at AG
    by_cases hw : why < 1 ∨ 6 < why
    · refine Ev.bind FE (Ev.bind (Tell_arg a0 a1 a2 a3 a4 a5 m h b (by omega) s0 s1 d0 d1 why src hF hw) (Ev.bind AG (Ev.bind hE (Ev.bind hO ?_))))
      dsimp only
      refine Ev.neg (by simp) (Ev.pos rfl ?_)
      refine Ev.step (fun k => rfl) ?_
      simp only [patchbaylaw2_FaultTells.j0]
      refine Ev.neg (by simp) (Ev.pos trivial (Ev.bind AO ?_))
      (try dsimp only)
      refine Ev.neg (by simp) ?_
      refine Ev.step (fun k => rfl) ?_
      simp only [patchbaylaw2_FaultTells.j1]
      refine Ev.neg (by simp) ?_
      by_cases h1 : why < 1
      · exact Ev.pos h1 (Ev.pos trivial (Ev.neg (by simp) (Ev.val (by simp [nil_iff, z0]))))
      · exact Ev.neg h1 (Ev.pos (by omega) (Ev.pos trivial (Ev.neg (by simp) (Ev.val (by simp [nil_iff, z0])))))
    · have TG := Tell_good a0 a1 a2 a3 a4 a5 m h b (by omega) s0 s1 d0 d1 why src hF (by omega) (by omega)
      have TO := Told_good a0 a1 a2 a3 a4 a5 m h b (by omega) s0 s1 d0 d1 why src u0 u1 hF (by omega) (by omega)
      obtain ⟨t1, t2, t3, t4, t5, t6, t7, t8, t9, t10⟩ := toldv a0 a1 a2 a3 a4 a5 m h b why src
      dsimp only at TG
      refine Ev.bind FE (Ev.bind TG (Ev.bind AG (Ev.bind hE (Ev.bind hO ?_))))
      dsimp only
      refine Ev.neg (by simp) (Ev.pos rfl ?_)
      refine Ev.step (fun k => rfl) ?_
      simp only [patchbaylaw2_FaultTells.j0]
      refine Ev.neg (by simp) (Ev.pos trivial (Ev.bind AO ?_))
      (try dsimp only)
      refine Ev.neg (by simp) ?_
      refine Ev.step (fun k => rfl) ?_
      simp only [patchbaylaw2_FaultTells.j1]
      refine Ev.neg (by simp) (Ev.neg (by omega) (Ev.neg (by omega) (Ev.bind TO ?_)))
      (try dsimp only)
      exact Ev.pos trivial (Ev.pos (by simp) (Ev.val (by simp)))
  · refine Ev.bind FE (Ev.bind (Tell_err a0 a1 a2 a3 a4 a5 m h b (by omega) s0 s1 d0 d1 why src _ rfl hF) (Ev.bind (Answer_err a0 a1 a2 a3 a4 a5 m h b (by omega) _ rfl hF) (Ev.bind hE (Ev.bind hO ?_))))
    dsimp only
    refine Ev.neg (by simp) (Ev.pos rfl ?_)
    refine Ev.step (fun k => rfl) ?_
    simp only [patchbaylaw2_FaultTells.j0]
    exact Ev.neg (by simp) (Ev.neg hF (Ev.pos trivial (Ev.neg (by simp) (Ev.neg (by simp) (Ev.pos (by simp [nil_iff, z0]) (Ev.val (by simp [nil_iff, z0])))))))
/-- A call of the law. -/
theorem law_calls (a0 a1 a2 a3 a4 a5 : Int) (m h : Bool) (s : ByteArray) (s0 : 0 ≤ a0) (s1 : a0 < 4294967296) (d0 : 0 ≤ a1) (d1 : a1 < 4294967296) (why src id sq : Int) (u0 : 0 ≤ src) (u1 : src < 4294967296) (body : ByteArray) (w : World) :
    Calls Try.prog 6 #[.agg #[.int .u32 a0, .int .u32 a1, .int .i64 a2, .int .i64 a3, .int .i64 a4, .int .i64 a5, .bool m, .bool h, .string s], .int .i64 why, .int .u32 src, .int .i64 id, .int .i64 sq, .string body] w fun e w' => e = .returned (.bool true) ∧ Below w.heap.size w w' := by
  obtain ⟨k, hk⟩ := (law a0 a1 a2 a3 a4 a5 m h s s0 s1 d0 d1 why src id sq u0 u1 body).rounds
  exact patchbaylaw2_FaultTells.calls k a0 a1 a2 a3 a4 a5 m h s why src id sq body true w hk
end Go.Proofs.Ythpohaafphaidaa.UcFaultTells
