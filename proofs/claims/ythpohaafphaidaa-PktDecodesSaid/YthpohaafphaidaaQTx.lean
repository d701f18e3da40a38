/- A packet's header and its text, as the reference makes them. -/
import Derived.Test.YthpohaafphaidaaQHd
import Derived.Outline
import Derived.WalkKit
import Derived.WalkSpells
import Derived.Deep.RegionHeld3
import Derived.Lib.Hide
namespace Go.Proofs.Ythpohaafphaidaa.Tx
open Go.RowKit Go.Proofs.YthpohaafphaidaaW.PrintWords Go.Proofs.YthpohaafphaidaaW.PrintLast Go.Proofs.Ythpohaafphaidaa.Pl Go.Proofs.Ythpohaafphaidaa.PPktEncodes Go.Proofs.Ythpohaafphaidaa.Dg Go.Proofs.Ythpohaafphaidaa.SmPktEncodes Go.Proofs.Ythpohaafphaidaa.CkPktEncodes Go.Proofs.Ythpohaafphaidaa.Hd
set_option linter.unusedVariables false
set_option linter.unusedSimpArgs false
attribute [local go_sem] dg_size hdr_size
/-- A packet's box keeps the cells of its numbers and its body where a call makes new memory. -/
theorem keep7 {B : Nat} {v0 v1 v2 v3 v4 v5 v8 : Value} {W w1 w2 : World} (hb : Below w1.heap.size w1 w2)
   (h : w1.cell? ⟨B, 0, none⟩ = some v0 ∧ w1.cell? ⟨B, 1, none⟩ = some v1 ∧ w1.cell? ⟨B, 2, none⟩ = some v2 ∧ w1.cell? ⟨B, 3, none⟩ = some v3 ∧ w1.cell? ⟨B, 4, none⟩ = some v4 ∧ w1.cell? ⟨B, 5, none⟩ = some v5 ∧ w1.cell? ⟨B, 8, none⟩ = some v8 ∧ Below W.heap.size W w1) :
   w2.cell? ⟨B, 0, none⟩ = some v0 ∧ w2.cell? ⟨B, 1, none⟩ = some v1 ∧ w2.cell? ⟨B, 2, none⟩ = some v2 ∧ w2.cell? ⟨B, 3, none⟩ = some v3 ∧ w2.cell? ⟨B, 4, none⟩ = some v4 ∧ w2.cell? ⟨B, 5, none⟩ = some v5 ∧ w2.cell? ⟨B, 8, none⟩ = some v8 ∧ Below W.heap.size W w2 := by
  obtain ⟨h0, h1, h2, h3, h4, h5, h8, h9⟩ := h
  have hl := World.block_lt_of_cell? _ _ h0
  have k : ∀ j, w2.cell? ⟨B, j, none⟩ = w1.cell? ⟨B, j, none⟩ := fun j => hb.cell (p := ⟨B, j, none⟩) hl
  exact ⟨(k 0).trans h0, (k 1).trans h1, (k 2).trans h2, (k 3).trans h3, (k 4).trans h4, (k 5).trans h5, (k 8).trans h8, h9.trans (hb.mono h9.size)⟩
theorem start7 {T : TypeId} {v0 v1 v2 v3 v4 v5 v6 v7 v8 : Value} (W : World) :
   (W.alloc (.cells #[v0, v1, v2, v3, v4, v5, v6, v7, v8] T)).drew.cell? ⟨W.heap.size, 0, none⟩ = some v0 ∧ (W.alloc (.cells #[v0, v1, v2, v3, v4, v5, v6, v7, v8] T)).drew.cell? ⟨W.heap.size, 1, none⟩ = some v1 ∧ (W.alloc (.cells #[v0, v1, v2, v3, v4, v5, v6, v7, v8] T)).drew.cell? ⟨W.heap.size, 2, none⟩ = some v2 ∧ (W.alloc (.cells #[v0, v1, v2, v3, v4, v5, v6, v7, v8] T)).drew.cell? ⟨W.heap.size, 3, none⟩ = some v3 ∧ (W.alloc (.cells #[v0, v1, v2, v3, v4, v5, v6, v7, v8] T)).drew.cell? ⟨W.heap.size, 4, none⟩ = some v4 ∧ (W.alloc (.cells #[v0, v1, v2, v3, v4, v5, v6, v7, v8] T)).drew.cell? ⟨W.heap.size, 5, none⟩ = some v5 ∧ (W.alloc (.cells #[v0, v1, v2, v3, v4, v5, v6, v7, v8] T)).drew.cell? ⟨W.heap.size, 8, none⟩ = some v8 ∧ Below W.heap.size W (W.alloc (.cells #[v0, v1, v2, v3, v4, v5, v6, v7, v8] T)).drew := by
  refine ⟨?_, ?_, ?_, ?_, ?_, ?_, ?_, ((Below.refl _ _).alloc (Nat.le_refl _) _).drew⟩
  all_goals go_simp
set_option maxRecDepth 100000 in
set_option maxHeartbeats 3200000 in
theorem PacketHead_calls (a0 a1 a2 a3 a4 a5 : Int) (m h : Bool) (s : ByteArray) (sum : Int) (w : World) (F : Fits a0 a1 a2 a3 a4 a5 s.size) (u0 : 0 ≤ sum) (u1 : sum ≤ 65535) :
    Calls Try.prog 44 #[.agg #[.int .u32 a0, .int .u32 a1, .int .i64 a2, .int .i64 a3, .int .i64 a4, .int .i64 a5, .bool m, .bool h, .string s], .int .i64 sum] w
      fun e w' => e = .returned (.string (hdr a0 a1 a2 a3 a4 a5 m h s.size sum)) ∧ Below w.heap.size w w' := by
  have s0 := F.s0; have s1 := F.s1; have d0 := F.d0; have d1 := F.d1; have p0 := F.p0; have p1 := F.p1; have t0 := F.t0; have t1 := F.t1; have i0 := F.i0; have i1 := F.i1; have o0 := F.o0; have o1 := F.o1; have n1 := F.n1
  have R0 : (hdr a0 a1 a2 a3 a4 a5 m h s.size sum = (⟨#[69, 0]⟩ : ByteArray) ++ dg (20 + (s.size : Int)) 2 ++ dg a4 2 ++ dg (flg a5 m h) 2 ++ dg a3 1 ++ dg a2 1 ++ dg sum 2 ++ dg a0 4 ++ dg a1 4) := rfl
  have R := Lib.hid R0
  clear R0
  generalize hdr a0 a1 a2 a3 a4 a5 m h s.size sum = R0 at R ⊢
  clear F
  cases m <;> cases h
  all_goals
    go_enter Try.func44, Try.ntmps44
    go_wp2
    have W1 : IntKind.i64.wrap (20 + (s.size : Int)) = 20 + (s.size : Int) := by rw [IntKind.wrap_i64]; omega
    have W2 : IntKind.i64.wrap a0 = a0 := by rw [IntKind.wrap_i64]; omega
    have W3 : IntKind.i64.wrap a1 = a1 := by rw [IntKind.wrap_i64]; omega
    go_region_held3 (fun w' => w'.cell? ⟨w.heap.size, 0, none⟩ = some (.int .u32 a0) ∧ w'.cell? ⟨w.heap.size, 1, none⟩ = some (.int .u32 a1) ∧ w'.cell? ⟨w.heap.size, 2, none⟩ = some (.int .i64 a2) ∧ w'.cell? ⟨w.heap.size, 3, none⟩ = some (.int .i64 a3) ∧ w'.cell? ⟨w.heap.size, 4, none⟩ = some (.int .i64 a4) ∧ w'.cell? ⟨w.heap.size, 5, none⟩ = some (.int .i64 a5) ∧ w'.cell? ⟨w.heap.size, 8, none⟩ = some (.string s) ∧ Below w.heap.size w w')
      (first | exact start7 _ | exact keep7 (by assumption) (by assumption))
      (first | (go_at_call 13; (first | (with_reducible refine (Digits2 _ _ (by omega) (by omega)).mono ?_) | (with_reducible refine (Digits1 _ _ (by omega) (by omega)).mono ?_) | (with_reducible refine (Digits4 _ _ (by omega) (by omega)).mono ?_)); rintro e w' ⟨rfl, hb⟩))
    go_wp2
    go_ret
    refine ⟨?_, by first | assumption | (obtain ⟨_, _, _, _, _, _, _, hB⟩ := ‹_ ∧ _›; exact hB)⟩
    rw [R]
    simp [flg]
end Go.Proofs.Ythpohaafphaidaa.Tx
