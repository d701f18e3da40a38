/- A packet's text, as the reference makes it. -/
import Derived.Test.YthpohaafphaidaaQTx
import Derived.Outline
import Derived.WalkKit
import Derived.WalkSpells
import Derived.Deep.RegionHeld3
import Derived.Lib.Hide
namespace Go.Proofs.Ythpohaafphaidaa.Tt
open Go.RowKit Go.Proofs.YthpohaafphaidaaW.PrintWords Go.Proofs.YthpohaafphaidaaW.PrintLast Go.Proofs.Ythpohaafphaidaa.Pl Go.Proofs.Ythpohaafphaidaa.PPktEncodes Go.Proofs.Ythpohaafphaidaa.Dg Go.Proofs.Ythpohaafphaidaa.SmPktEncodes Go.Proofs.Ythpohaafphaidaa.CkPktEncodes Go.Proofs.Ythpohaafphaidaa.Hd Go.Proofs.Ythpohaafphaidaa.Tx
set_option linter.unusedVariables false
set_option linter.unusedSimpArgs false
attribute [local go_sem] dg_size hdr_size
theorem SumOf_calls (s : ByteArray) (hs : s.size ≤ 1048576) (w : World) : Calls Try.prog 11 #[.string s] w fun e w' => e = .returned (.int .i64 (ck (ps s s.size))) ∧ Below w.heap.size w w' := by
  obtain ⟨k, hk⟩ := (SumOf_ev s hs).rounds
  refine (patchbayref2_SumOf.calls k s _ w hk).mono fun e w' ⟨h, d⟩ => ⟨h, ?_⟩
  obtain ⟨n, rfl⟩ := d.out
  exact pw_below_drewN (Below.refl _ _) n
theorem SumOf20 (s : ByteArray) (hs : s.size = 20) (w : World) : Calls Try.prog 11 #[.string s] w fun e w' => e = .returned (.int .i64 (ck (ps s 20))) ∧ Below w.heap.size w w' := by
  have := SumOf_calls s (by omega) w
  rwa [hs] at this
/-- A packet's box keeps all its cells where a call makes new memory. -/
theorem keep9 {B : Nat} {v0 v1 v2 v3 v4 v5 v6 v7 v8 : Value} {W w1 w2 : World} (hb : Below w1.heap.size w1 w2)
   (h : w1.cell? ⟨B, 0, none⟩ = some v0 ∧ w1.cell? ⟨B, 1, none⟩ = some v1 ∧ w1.cell? ⟨B, 2, none⟩ = some v2 ∧ w1.cell? ⟨B, 3, none⟩ = some v3 ∧ w1.cell? ⟨B, 4, none⟩ = some v4 ∧ w1.cell? ⟨B, 5, none⟩ = some v5 ∧ w1.cell? ⟨B, 6, none⟩ = some v6 ∧ w1.cell? ⟨B, 7, none⟩ = some v7 ∧ w1.cell? ⟨B, 8, none⟩ = some v8 ∧ Below W.heap.size W w1) :
   w2.cell? ⟨B, 0, none⟩ = some v0 ∧ w2.cell? ⟨B, 1, none⟩ = some v1 ∧ w2.cell? ⟨B, 2, none⟩ = some v2 ∧ w2.cell? ⟨B, 3, none⟩ = some v3 ∧ w2.cell? ⟨B, 4, none⟩ = some v4 ∧ w2.cell? ⟨B, 5, none⟩ = some v5 ∧ w2.cell? ⟨B, 6, none⟩ = some v6 ∧ w2.cell? ⟨B, 7, none⟩ = some v7 ∧ w2.cell? ⟨B, 8, none⟩ = some v8 ∧ Below W.heap.size W w2 := by
  obtain ⟨h0, h1, h2, h3, h4, h5, h6, h7, h8, h9⟩ := h
  have hl := World.block_lt_of_cell? _ _ h0
  have k : ∀ j, w2.cell? ⟨B, j, none⟩ = w1.cell? ⟨B, j, none⟩ := fun j => hb.cell (p := ⟨B, j, none⟩) hl
  exact ⟨(k 0).trans h0, (k 1).trans h1, (k 2).trans h2, (k 3).trans h3, (k 4).trans h4, (k 5).trans h5, (k 6).trans h6, (k 7).trans h7, (k 8).trans h8, h9.trans (hb.mono h9.size)⟩
theorem start9 {T : TypeId} {v0 v1 v2 v3 v4 v5 v6 v7 v8 : Value} (W : World) :
   (W.alloc (.cells #[v0, v1, v2, v3, v4, v5, v6, v7, v8] T)).drew.cell? ⟨W.heap.size, 0, none⟩ = some v0 ∧ (W.alloc (.cells #[v0, v1, v2, v3, v4, v5, v6, v7, v8] T)).drew.cell? ⟨W.heap.size, 1, none⟩ = some v1 ∧ (W.alloc (.cells #[v0, v1, v2, v3, v4, v5, v6, v7, v8] T)).drew.cell? ⟨W.heap.size, 2, none⟩ = some v2 ∧ (W.alloc (.cells #[v0, v1, v2, v3, v4, v5, v6, v7, v8] T)).drew.cell? ⟨W.heap.size, 3, none⟩ = some v3 ∧ (W.alloc (.cells #[v0, v1, v2, v3, v4, v5, v6, v7, v8] T)).drew.cell? ⟨W.heap.size, 4, none⟩ = some v4 ∧ (W.alloc (.cells #[v0, v1, v2, v3, v4, v5, v6, v7, v8] T)).drew.cell? ⟨W.heap.size, 5, none⟩ = some v5 ∧ (W.alloc (.cells #[v0, v1, v2, v3, v4, v5, v6, v7, v8] T)).drew.cell? ⟨W.heap.size, 6, none⟩ = some v6 ∧ (W.alloc (.cells #[v0, v1, v2, v3, v4, v5, v6, v7, v8] T)).drew.cell? ⟨W.heap.size, 7, none⟩ = some v7 ∧ (W.alloc (.cells #[v0, v1, v2, v3, v4, v5, v6, v7, v8] T)).drew.cell? ⟨W.heap.size, 8, none⟩ = some v8 ∧ Below W.heap.size W (W.alloc (.cells #[v0, v1, v2, v3, v4, v5, v6, v7, v8] T)).drew := by
  refine ⟨?_, ?_, ?_, ?_, ?_, ?_, ?_, ?_, ?_, ((Below.refl _ _).alloc (Nat.le_refl _) _).drew⟩
  all_goals go_simp
set_option maxRecDepth 100000 in
set_option maxHeartbeats 3200000 in
theorem PacketText_calls (a0 a1 a2 a3 a4 a5 : Int) (m h : Bool) (s : ByteArray) (w : World) (F : Fits a0 a1 a2 a3 a4 a5 s.size) :
    Calls Try.prog 27 #[.agg #[.int .u32 a0, .int .u32 a1, .int .i64 a2, .int .i64 a3, .int .i64 a4, .int .i64 a5, .bool m, .bool h, .string s]] w
      fun e w' => e = .returned (.string (enc a0 a1 a2 a3 a4 a5 m h s)) ∧ Below w.heap.size w w' := by
  have R0 : enc a0 a1 a2 a3 a4 a5 m h s = hdr a0 a1 a2 a3 a4 a5 m h s.size (ck (ps (hdr a0 a1 a2 a3 a4 a5 m h s.size 0) 20)) ++ s := rfl
  have R := Lib.hid R0
  clear R0
  have n1 := F.n1
  have cr := ck_range (ps (hdr a0 a1 a2 a3 a4 a5 m h s.size 0) 20)
  generalize enc a0 a1 a2 a3 a4 a5 m h s = R0 at R ⊢
  have q1 : (9223372036854775807 < 20 + s.size) = False := eq_false (by omega)
  go_enter Try.func27, Try.ntmps27
  go_wp2
  go_region_held3 (fun w' => w'.cell? ⟨w.heap.size, 0, none⟩ = some (.int .u32 a0) ∧ w'.cell? ⟨w.heap.size, 1, none⟩ = some (.int .u32 a1) ∧ w'.cell? ⟨w.heap.size, 2, none⟩ = some (.int .i64 a2) ∧ w'.cell? ⟨w.heap.size, 3, none⟩ = some (.int .i64 a3) ∧ w'.cell? ⟨w.heap.size, 4, none⟩ = some (.int .i64 a4) ∧ w'.cell? ⟨w.heap.size, 5, none⟩ = some (.int .i64 a5) ∧ w'.cell? ⟨w.heap.size, 6, none⟩ = some (.bool m) ∧ w'.cell? ⟨w.heap.size, 7, none⟩ = some (.bool h) ∧ w'.cell? ⟨w.heap.size, 8, none⟩ = some (.string s) ∧ Below w.heap.size w w')
      (first | exact start9 _ | exact keep9 (by assumption) (by assumption))
      (first | (go_at_call 44; (first | (with_reducible refine (PacketHead_calls _ _ _ _ _ _ _ _ _ _ _ F (by omega) (by omega)).mono ?_) | (with_reducible refine (PacketHead_calls _ _ _ _ _ _ _ _ _ _ _ F cr.1 cr.2).mono ?_)); rintro e w' ⟨rfl, hb⟩) | (go_at_call 11; refine (SumOf20 _ (hdr_size _ _ _ _ _ _ _ _ _ _) _).mono ?_; rintro e w' ⟨rfl, hb⟩))
  go_wp2
  go_ret
  refine ⟨?_, by first | assumption | (obtain ⟨_, _, _, _, _, _, _, _, _, hB⟩ := ‹_ ∧ _›; exact hB)⟩
  rw [R]
  simp
end Go.Proofs.Ythpohaafphaidaa.Tt
