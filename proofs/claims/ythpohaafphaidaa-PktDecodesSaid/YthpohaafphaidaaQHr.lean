/- What HeadRead tells of a string. -/
import Derived.Test.YthpohaafphaidaaQHe
import Derived.Test.YthpohaafphaidaaQRg
namespace Go.Proofs.Ythpohaafphaidaa.Hr
open Go.RowKit Go.Proofs.YthpohaafphaidaaW.PrintWords Go.Proofs.YthpohaafphaidaaW.PrintLast Go.Proofs.Ythpohaafphaidaa.Pl Go.Proofs.Ythpohaafphaidaa.Gt Go.Proofs.Ythpohaafphaidaa.SmPktEncodes Go.Proofs.Ythpohaafphaidaa.LwPktSums Go.Proofs.Ythpohaafphaidaa.He
set_option linter.unusedVariables false
set_option linter.unusedSimpArgs false
theorem below3 {n : Nat} {W w : World} {q : Nat} (h : Below n W w) (hq : n ≤ q) (i j k : Nat) (u v x : Value) : Below n W (((w.setCell ⟨q, i, none⟩ u).setCell ⟨q, j, none⟩ v).setCell ⟨q, k, none⟩ x) :=
  Below.setCell (Below.setCell (Below.setCell h (p := ⟨q, i, none⟩) hq u) (p := ⟨q, j, none⟩) hq v) (p := ⟨q, k, none⟩) hq x
set_option maxRecDepth 100000 in
theorem HeadRead_short (s : ByteArray) (h : s.size < 20) (w : World) :
    Calls Try.prog 36 #[.string s] w fun e w' => e = .returned (.tuple #[zp, .int .i64 0, .int .i64 9]) ∧ Below w.heap.size w w' := by
  go_enter Try.func36, Try.ntmps36
  go_wp2
  exact bodyPost_ret (v := .tuple #[zp, .int .i64 0, .int .i64 9]) (by simp [results, Try.results36, go_sem, zp]) rfl ⟨rfl, (Below.refl _ _).alloc (Nat.le_refl _) _⟩
set_option maxRecDepth 100000 in
set_option maxHeartbeats 6400000 in
theorem HeadRead_bad0 (s : ByteArray) (h20 : 20 ≤ s.size) (b8 n f : Int) (t : Bool)
    (ht : ((s.extract 0 2).toList == [69, 0]) = t) (x8 : ∀ h : 8 < s.size, ((s[8]'h).toNat : Int) = b8)
    (f0 : 0 ≤ f) (f1 : f < 65536)
    (G1 : Hid (∀ w, Calls Try.prog 49 #[.string (s.extract 2 4)] w fun e w' => e = .returned (.int .i64 n) ∧ w = w'))
    (G2 : Hid (∀ w, Calls Try.prog 49 #[.string (s.extract 6 8)] w fun e w' => e = .returned (.int .i64 f) ∧ w = w'))
    (hb : t = false ∨ n < 20 ∨ 32768 ≤ f ∨ b8 = 0) (w : World) :
    Calls Try.prog 36 #[.string s] w fun e w' => e = .returned (.tuple #[zp, .int .i64 0, .int .i64 3]) ∧ Below w.heap.size w w' := by
  have HB : Hid (t = false ∨ n < 20 ∨ 32768 ≤ f ∨ b8 = 0) := hb
  clear hb
  have i2 : (2 : Int) ≤ (s.size : Int) := by omega
  have i4 : (4 : Int) ≤ (s.size : Int) := by omega
  have i6 : (6 : Int) ≤ (s.size : Int) := by omega
  have i8' : (8 : Int) ≤ (s.size : Int) := by omega
  have i8 : (8 : Int) < (s.size : Int) := by omega
  have i9 : (9 : Int) ≤ (s.size : Int) := by omega
  have i10 : (10 : Int) ≤ (s.size : Int) := by omega
  have i12 : (12 : Int) ≤ (s.size : Int) := by omega
  have i16 : (16 : Int) ≤ (s.size : Int) := by omega
  have i20 : (20 : Int) ≤ (s.size : Int) := by omega
  go_enter Try.func36, Try.ntmps36
  go_wp2_with fail
  refine Rg.start (n := 8) (S := (fun w' => w'.heap[w.heap.size]? = some (.cells #[.int .u32 0, .int .u32 0, .int .i64 0, .int .i64 0, .int .i64 0, .int .i64 0, .bool false, .bool false, .string ⟨#[]⟩] 30 (0, 0)) ∧ Below w.heap.size w w')) #[false, false, false, false, false, false, false, false] (by kernel_rfl) rfl rfl ⟨blk_drew (blk_new w _), ((Below.refl _ _).alloc (Nat.le_refl _) _).drew⟩ (fun hS => ?_)
  refine Rg.tk (i := 0) (N := (some 12)) (v := ?_) (a' := ?_) #[true, false, false, false, false, false, false, false] rfl rfl (by kernel_rfl) (fun _ _ _ h => h) (Or.inl ⟨by rfl, ?_⟩) hS ?_ ?_
  rotate_left
  · intro w' hS'
    go_simp
    with_reducible rfl
  rotate_left
  · simp only [Act.put, List.setIfInBounds_toArray, List.set_cons_zero, List.set_cons_succ, i64_w, i32_w]
    rfl
  refine Rg.tk (i := 1) (N := (some 13)) (v := ?_) (a' := ?_) #[true, true, false, false, false, false, false, false] rfl rfl (by kernel_rfl) (fun _ _ _ h => h) (Or.inl ⟨by rfl, ?_⟩) hS ?_ ?_
  rotate_left
  · intro w' hS'
    go_simp
    with_reducible rfl
  rotate_left
  · simp only [Act.put, List.setIfInBounds_toArray, List.set_cons_zero, List.set_cons_succ, i64_w, i32_w]
    rfl
  refine Rg.tkF (i := 2) (N := (some 14)) (a' := ?_) (.int .i64 n) #[true, true, true, false, false, false, false, false] rfl rfl (by kernel_rfl) (fun _ _ _ h => h) Try.func49 (by kernel_rfl) rfl #[.string (s.extract 2 4)] (by rfl) rfl (by (try simp only [List.map_toArray, List.map_cons, List.map_nil]); first | done | rfl) (fun w _ => G1 w) hS ?_ ?_
  rotate_left
  · simp only [Act.put, List.setIfInBounds_toArray, List.set_cons_zero, List.set_cons_succ, i64_w, i32_w]
    rfl
  refine Rg.tk (i := 3) (N := (some 15)) (v := ?_) (a' := ?_) #[true, true, true, true, false, false, false, false] rfl rfl (by kernel_rfl) (fun _ _ _ h => h) (Or.inl ⟨by rfl, ?_⟩) hS ?_ ?_
  rotate_left
  · intro w' hS'
    go_simp
    with_reducible rfl
  rotate_left
  · simp only [Act.put, List.setIfInBounds_toArray, List.set_cons_zero, List.set_cons_succ, i64_w, i32_w]
    rfl
  refine Rg.tk (i := 4) (N := (some 16)) (v := ?_) (a' := ?_) #[true, true, true, true, true, false, false, false] rfl rfl (by kernel_rfl) (fun _ _ _ h => h) (Or.inl ⟨by rfl, ?_⟩) hS ?_ ?_
  rotate_left
  · intro w' hS'
    go_simp
    with_reducible rfl
  rotate_left
  · simp only [Act.put, List.setIfInBounds_toArray, List.set_cons_zero, List.set_cons_succ, i64_w, i32_w]
    rfl
  refine Rg.tkF (i := 5) (N := (some 17)) (a' := ?_) (.int .i64 f) #[true, true, true, true, true, true, false, false] rfl rfl (by kernel_rfl) (fun _ _ _ h => h) Try.func49 (by kernel_rfl) rfl #[.string (s.extract 6 8)] (by rfl) rfl (by (try simp only [List.map_toArray, List.map_cons, List.map_nil]); first | done | rfl) (fun w _ => G2 w) hS ?_ ?_
  rotate_left
  · simp only [Act.put, List.setIfInBounds_toArray, List.set_cons_zero, List.set_cons_succ, i64_w, i32_w]
    rfl
  refine Rg.tk (i := 6) (N := (some 5)) (v := ?_) (a' := ?_) #[true, true, true, true, true, true, true, false] rfl rfl (by kernel_rfl) (fun _ _ _ h => h) (Or.inl ⟨by rfl, ?_⟩) hS ?_ ?_
  rotate_left
  · intro w' hS'
    go_simp
    with_reducible rfl
  rotate_left
  · simp only [Act.put, List.setIfInBounds_toArray, List.set_cons_zero, List.set_cons_succ, i64_w, i32_w]
    rfl
  refine Rg.tk (i := 7) (N := (some 6)) (v := ?_) (a' := ?_) #[true, true, true, true, true, true, true, true] rfl rfl (by kernel_rfl) (fun _ _ _ h => h) (Or.inl ⟨by rfl, ?_⟩) hS ?_ ?_
  rotate_left
  · intro w' hS'
    go_simp
    with_reducible rfl
  rotate_left
  · simp only [Act.put, List.setIfInBounds_toArray, List.set_cons_zero, List.set_cons_succ, i64_w, i32_w]
    rfl
  refine Rg.fin (by kernel_rfl) ?_
  obtain ⟨B1, Z1⟩ := hS
  generalize (w.alloc (.cells #[.int .u32 0, .int .u32 0, .int .i64 0, .int .i64 0, .int .i64 0, .int .i64 0, .bool false, .bool false, .string ⟨#[]⟩] 30)).drew = W1 at B1 Z1 ⊢
  have B2 := Lib.hid B1
  have Z2 := Lib.hid Z1
  clear B1 Z1
  have Z4 := Z2
  obtain ⟨c0, c1, c2, c3, c4, c5, c6, c7, c8, cf, cl⟩ := LwPktEncodes.cells9 B2
  cases t
  · clear HB
    go_wp2_with fail
    exact bodyPost_ret (v := .tuple #[zp, .int .i64 0, .int .i64 3]) (by simp [results, Try.results36, go_sem, zp, c0, c1, c2, c3, c4, c5, c6, c7, c8, cf]) rfl ⟨rfl, LwPktEncodes.below9 _ _ _ _ _ _ _ _ _ Z4 (Nat.le_refl _)⟩
  · by_cases c2' : n < 20
    · clear HB
      go_wp2_with fail
      exact bodyPost_ret (v := .tuple #[zp, .int .i64 0, .int .i64 3]) (by simp [results, Try.results36, go_sem, zp, c0, c1, c2, c3, c4, c5, c6, c7, c8, cf]) rfl ⟨rfl, LwPktEncodes.below9 _ _ _ _ _ _ _ _ _ Z4 (Nat.le_refl _)⟩
    · by_cases c3' : 32768 ≤ f
      · clear HB
        go_wp2_with fail
        exact bodyPost_ret (v := .tuple #[zp, .int .i64 0, .int .i64 3]) (by simp [results, Try.results36, go_sem, zp, c0, c1, c2, c3, c4, c5, c6, c7, c8, cf]) rfl ⟨rfl, LwPktEncodes.below9 _ _ _ _ _ _ _ _ _ Z4 (Nat.le_refl _)⟩
      · have c4' : (b8 == 0) = true := by
          have hb := HB
          rw [beq_iff_eq]
          unfold Hid at hb
          rcases hb with hb | hb
          · cases hb
          · omega
        clear HB
        go_wp2_with fail
        exact bodyPost_ret (v := .tuple #[zp, .int .i64 0, .int .i64 3]) (by simp [results, Try.results36, go_sem, zp, c0, c1, c2, c3, c4, c5, c6, c7, c8, cf]) rfl ⟨rfl, LwPktEncodes.below9 _ _ _ _ _ _ _ _ _ Z4 (Nat.le_refl _)⟩
set_option maxRecDepth 100000 in
set_option maxHeartbeats 6400000 in
theorem HeadRead_sum0 (s : ByteArray) (h20 : 20 ≤ s.size) (hz : s.size ≤ 1048576) (b8 n f g c : Int)
    (ht : ((s.extract 0 2).toList == [69, 0]) = true) (x8 : ∀ h : 8 < s.size, ((s[8]'h).toNat : Int) = b8)
    (f0 : 0 ≤ f) (f1 : f < 32768) (n0 : 20 ≤ n) (d8 : (b8 == 0) = false) (dg : (g != c) = true)
    (G1 : Hid (∀ w, Calls Try.prog 49 #[.string (s.extract 2 4)] w fun e w' => e = .returned (.int .i64 n) ∧ w = w'))
    (G2 : Hid (∀ w, Calls Try.prog 49 #[.string (s.extract 6 8)] w fun e w' => e = .returned (.int .i64 f) ∧ w = w'))
    (G3 : Hid (∀ w, Calls Try.prog 49 #[.string (s.extract 10 12)] w fun e w' => e = .returned (.int .i64 g) ∧ w = w'))
    (G4 : Hid (∀ w, Calls Try.prog 11 #[.string (s.extract 0 10 ++ (⟨#[0, 0]⟩ : ByteArray) ++ s.extract 12 20)] w fun e w' => e = .returned (.int .i64 c) ∧ Below w.heap.size w w')) (w : World) :
    Calls Try.prog 36 #[.string s] w fun e w' => e = .returned (.tuple #[zp, .int .i64 0, .int .i64 8]) ∧ Below w.heap.size w w' := by
  have q1 : (9223372036854775807 < min 10 s.size + 2) = False := eq_false (by omega)
  have q2 : (9223372036854775807 < min 10 s.size + 2 + 8) = False := eq_false (by omega)
  have i2 : (2 : Int) ≤ (s.size : Int) := by omega
  have i4 : (4 : Int) ≤ (s.size : Int) := by omega
  have i6 : (6 : Int) ≤ (s.size : Int) := by omega
  have i8' : (8 : Int) ≤ (s.size : Int) := by omega
  have i8 : (8 : Int) < (s.size : Int) := by omega
  have i9 : (9 : Int) ≤ (s.size : Int) := by omega
  have i10 : (10 : Int) ≤ (s.size : Int) := by omega
  have i12 : (12 : Int) ≤ (s.size : Int) := by omega
  have i16 : (16 : Int) ≤ (s.size : Int) := by omega
  have i20 : (20 : Int) ≤ (s.size : Int) := by omega
  go_enter Try.func36, Try.ntmps36
  go_wp2_with fail
  refine Rg.start (n := 8) (S := (fun w' => w'.heap[w.heap.size]? = some (.cells #[.int .u32 0, .int .u32 0, .int .i64 0, .int .i64 0, .int .i64 0, .int .i64 0, .bool false, .bool false, .string ⟨#[]⟩] 30 (0, 0)) ∧ Below w.heap.size w w')) #[false, false, false, false, false, false, false, false] (by kernel_rfl) rfl rfl ⟨blk_drew (blk_new w _), ((Below.refl _ _).alloc (Nat.le_refl _) _).drew⟩ (fun hS => ?_)
  refine Rg.tk (i := 0) (N := (some 12)) (v := ?_) (a' := ?_) #[true, false, false, false, false, false, false, false] rfl rfl (by kernel_rfl) (fun _ _ _ h => h) (Or.inl ⟨by rfl, ?_⟩) hS ?_ ?_
  rotate_left
  · intro w' hS'
    go_simp
    with_reducible rfl
  rotate_left
  · simp only [Act.put, List.setIfInBounds_toArray, List.set_cons_zero, List.set_cons_succ, i64_w, i32_w]
    rfl
  refine Rg.tk (i := 1) (N := (some 13)) (v := ?_) (a' := ?_) #[true, true, false, false, false, false, false, false] rfl rfl (by kernel_rfl) (fun _ _ _ h => h) (Or.inl ⟨by rfl, ?_⟩) hS ?_ ?_
  rotate_left
  · intro w' hS'
    go_simp
    with_reducible rfl
  rotate_left
  · simp only [Act.put, List.setIfInBounds_toArray, List.set_cons_zero, List.set_cons_succ, i64_w, i32_w]
    rfl
  refine Rg.tkF (i := 2) (N := (some 14)) (a' := ?_) (.int .i64 n) #[true, true, true, false, false, false, false, false] rfl rfl (by kernel_rfl) (fun _ _ _ h => h) Try.func49 (by kernel_rfl) rfl #[.string (s.extract 2 4)] (by rfl) rfl (by (try simp only [List.map_toArray, List.map_cons, List.map_nil]); first | done | rfl) (fun w _ => G1 w) hS ?_ ?_
  rotate_left
  · simp only [Act.put, List.setIfInBounds_toArray, List.set_cons_zero, List.set_cons_succ, i64_w, i32_w]
    rfl
  refine Rg.tk (i := 3) (N := (some 15)) (v := ?_) (a' := ?_) #[true, true, true, true, false, false, false, false] rfl rfl (by kernel_rfl) (fun _ _ _ h => h) (Or.inl ⟨by rfl, ?_⟩) hS ?_ ?_
  rotate_left
  · intro w' hS'
    go_simp
    with_reducible rfl
  rotate_left
  · simp only [Act.put, List.setIfInBounds_toArray, List.set_cons_zero, List.set_cons_succ, i64_w, i32_w]
    rfl
  refine Rg.tk (i := 4) (N := (some 16)) (v := ?_) (a' := ?_) #[true, true, true, true, true, false, false, false] rfl rfl (by kernel_rfl) (fun _ _ _ h => h) (Or.inl ⟨by rfl, ?_⟩) hS ?_ ?_
  rotate_left
  · intro w' hS'
    go_simp
    with_reducible rfl
  rotate_left
  · simp only [Act.put, List.setIfInBounds_toArray, List.set_cons_zero, List.set_cons_succ, i64_w, i32_w]
    rfl
  refine Rg.tkF (i := 5) (N := (some 17)) (a' := ?_) (.int .i64 f) #[true, true, true, true, true, true, false, false] rfl rfl (by kernel_rfl) (fun _ _ _ h => h) Try.func49 (by kernel_rfl) rfl #[.string (s.extract 6 8)] (by rfl) rfl (by (try simp only [List.map_toArray, List.map_cons, List.map_nil]); first | done | rfl) (fun w _ => G2 w) hS ?_ ?_
  rotate_left
  · simp only [Act.put, List.setIfInBounds_toArray, List.set_cons_zero, List.set_cons_succ, i64_w, i32_w]
    rfl
  refine Rg.tk (i := 6) (N := (some 5)) (v := ?_) (a' := ?_) #[true, true, true, true, true, true, true, false] rfl rfl (by kernel_rfl) (fun _ _ _ h => h) (Or.inl ⟨by rfl, ?_⟩) hS ?_ ?_
  rotate_left
  · intro w' hS'
    go_simp
    with_reducible rfl
  rotate_left
  · simp only [Act.put, List.setIfInBounds_toArray, List.set_cons_zero, List.set_cons_succ, i64_w, i32_w]
    rfl
  refine Rg.tk (i := 7) (N := (some 6)) (v := ?_) (a' := ?_) #[true, true, true, true, true, true, true, true] rfl rfl (by kernel_rfl) (fun _ _ _ h => h) (Or.inl ⟨by rfl, ?_⟩) hS ?_ ?_
  rotate_left
  · intro w' hS'
    go_simp
    with_reducible rfl
  rotate_left
  · simp only [Act.put, List.setIfInBounds_toArray, List.set_cons_zero, List.set_cons_succ, i64_w, i32_w]
    rfl
  refine Rg.fin (by kernel_rfl) ?_
  obtain ⟨B1, Z1⟩ := hS
  generalize (w.alloc (.cells #[.int .u32 0, .int .u32 0, .int .i64 0, .int .i64 0, .int .i64 0, .int .i64 0, .bool false, .bool false, .string ⟨#[]⟩] 30)).drew = W1 at B1 Z1 ⊢
  have B2 := Lib.hid B1
  have Z2 := Lib.hid Z1
  clear B1 Z1
  go_wp2_with fail
  refine Rg.start (n := 11) (S := (fun w' => w'.heap[w.heap.size]? = some (.cells #[.int .u32 0, .int .u32 0, .int .i64 0, .int .i64 0, .int .i64 0, .int .i64 0, .bool false, .bool false, .string ⟨#[]⟩] 30 (0, 0)) ∧ Below w.heap.size w w')) #[false, false, false, false, false, false, false, false, false, false, false] (by kernel_rfl) rfl rfl (keepD1 B2 Z2) (fun hS => ?_)
  refine Rg.tk (i := 0) (N := (some 35)) (v := ?_) (a' := ?_) #[true, false, false, false, false, false, false, false, false, false, false] rfl rfl (by kernel_rfl) (fun _ _ _ h => h) (Or.inl ⟨by rfl, ?_⟩) hS ?_ ?_
  rotate_left
  · intro w' hS'
    go_simp
    with_reducible rfl
  rotate_left
  · simp only [Act.put, List.setIfInBounds_toArray, List.set_cons_zero, List.set_cons_succ, i64_w, i32_w]
    rfl
  refine Rg.tk (i := 1) (N := (some 36)) (v := ?_) (a' := ?_) #[true, true, false, false, false, false, false, false, false, false, false] rfl rfl (by kernel_rfl) (fun _ _ _ h => h) (Or.inl ⟨by rfl, ?_⟩) hS ?_ ?_
  rotate_left
  · intro w' hS'
    go_simp
    with_reducible rfl
  rotate_left
  · simp only [Act.put, List.setIfInBounds_toArray, List.set_cons_zero, List.set_cons_succ, i64_w, i32_w]
    rfl
  refine Rg.tkF (i := 2) (N := (some 37)) (a' := ?_) (.int .i64 g) #[true, true, true, false, false, false, false, false, false, false, false] rfl rfl (by kernel_rfl) (fun _ _ _ h => h) Try.func49 (by kernel_rfl) rfl #[.string (s.extract 10 12)] (by rfl) rfl (by (try simp only [List.map_toArray, List.map_cons, List.map_nil]); first | done | rfl) (fun w _ => G3 w) hS ?_ ?_
  rotate_left
  · simp only [Act.put, List.setIfInBounds_toArray, List.set_cons_zero, List.set_cons_succ, i64_w, i32_w]
    rfl
  refine Rg.tk (i := 3) (N := (some 38)) (v := ?_) (a' := ?_) #[true, true, true, true, false, false, false, false, false, false, false] rfl rfl (by kernel_rfl) (fun _ _ _ h => h) (Or.inl ⟨by rfl, ?_⟩) hS ?_ ?_
  rotate_left
  · intro w' hS'
    go_simp
    with_reducible rfl
  rotate_left
  · simp only [Act.put, List.setIfInBounds_toArray, List.set_cons_zero, List.set_cons_succ, i64_w, i32_w]
    rfl
  refine Rg.tk (i := 4) (N := (some 39)) (v := ?_) (a' := ?_) #[true, true, true, true, true, false, false, false, false, false, false] rfl rfl (by kernel_rfl) (fun _ _ _ h => h) (Or.inl ⟨by rfl, ?_⟩) hS ?_ ?_
  rotate_left
  · intro w' hS'
    go_simp
    with_reducible rfl
  rotate_left
  · simp only [Act.put, List.setIfInBounds_toArray, List.set_cons_zero, List.set_cons_succ, i64_w, i32_w]
    rfl
  refine Rg.tk (i := 5) (N := (some 40)) (v := ?_) (a' := ?_) #[true, true, true, true, true, true, false, false, false, false, false] rfl rfl (by kernel_rfl) (fun _ _ _ h => h) (Or.inl ⟨by rfl, ?_⟩) hS ?_ ?_
  rotate_left
  · intro w' hS'
    go_simp
    with_reducible rfl
  rotate_left
  · simp only [Act.put, List.setIfInBounds_toArray, List.set_cons_zero, List.set_cons_succ, i64_w, i32_w]
    rfl
  refine Rg.tk (i := 6) (N := (some 41)) (v := ?_) (a' := ?_) #[true, true, true, true, true, true, true, false, false, false, false] rfl rfl (by kernel_rfl) (fun _ _ _ h => h) (Or.inl ⟨by rfl, ?_⟩) hS ?_ ?_
  rotate_left
  · intro w' hS'
    go_simp
    with_reducible rfl
  rotate_left
  · simp only [Act.put, List.setIfInBounds_toArray, List.set_cons_zero, List.set_cons_succ, i64_w, i32_w]
    rfl
  refine Rg.tk (i := 7) (N := (some 42)) (v := ?_) (a' := ?_) #[true, true, true, true, true, true, true, true, false, false, false] rfl rfl (by kernel_rfl) (fun _ _ _ h => h) (Or.inl ⟨by rfl, ?_⟩) hS ?_ ?_
  rotate_left
  · intro w' hS'
    go_simp
    with_reducible rfl
  rotate_left
  · simp only [Act.put, List.setIfInBounds_toArray, List.set_cons_zero, List.set_cons_succ, i64_w, i32_w]
    rfl
  refine Rg.tk (i := 8) (N := (some 43)) (v := ?_) (a' := ?_) #[true, true, true, true, true, true, true, true, true, false, false] rfl rfl (by kernel_rfl) (fun _ _ _ h => h) (Or.inl ⟨by rfl, ?_⟩) hS ?_ ?_
  rotate_left
  · intro w' hS'
    go_simp
    with_reducible rfl
  rotate_left
  · simp only [Act.put, List.setIfInBounds_toArray, List.set_cons_zero, List.set_cons_succ, i64_w, i32_w]
    rfl
  refine Rg.go1 (i := 9) (N := (some 44)) #[true, true, true, true, true, true, true, true, true, true, false] rfl rfl (by kernel_rfl) (fun K hK => ?_)
  refine goes_ Try.func11 (by kernel_rfl) rfl #[.string (s.extract 0 10 ++ (⟨#[0, 0]⟩ : ByteArray) ++ s.extract 12 20)] (by rfl) rfl rfl (by (try simp only [List.map_toArray, List.map_cons, List.map_nil]); first | done | rfl) ?_
  refine (G4 _).mono ?_
  rintro e w' ⟨rfl, hb⟩
  refine ⟨_, rfl, ?_⟩
  refine hK.out _ _ (keepB hb hS) (fun hS => ?_)
  clear hK K
  refine Rg.norm (a' := ?_) ?_ ?_
  rotate_left
  · simp only [Act.put, List.setIfInBounds_toArray, List.set_cons_zero, List.set_cons_succ, i64_w, i32_w]
    rfl
  refine Rg.tk (i := 10) (N := (some 45)) (v := ?_) (a' := ?_) #[true, true, true, true, true, true, true, true, true, true, true] rfl rfl (by kernel_rfl) (fun _ _ _ h => h) (Or.inl ⟨by rfl, ?_⟩) hS ?_ ?_
  rotate_left
  · intro w' hS'
    go_simp
    with_reducible rfl
  rotate_left
  · simp only [Act.put, List.setIfInBounds_toArray, List.set_cons_zero, List.set_cons_succ, i64_w, i32_w]
    rfl
  refine Rg.fin (by kernel_rfl) ?_
  obtain ⟨B1, Z1⟩ := hS
  have B3 := Lib.hid B1
  have Z4 := Lib.hid Z1
  clear B1 Z1 B2 Z2
  obtain ⟨c0, c1, c2, c3, c4, c5, c6, c7, c8, cf, cl⟩ := LwPktEncodes.cells9 B3
  go_wp2_with fail
  exact bodyPost_ret (v := .tuple #[zp, .int .i64 0, .int .i64 8]) (by simp [results, Try.results36, go_sem, zp, c0, c1, c2, c3, c4, c5, c6, c7, c8, cf]) rfl ⟨rfl, LwPktEncodes.below9 _ _ _ _ _ _ _ _ _ Z4 (Nat.le_refl _)⟩
set_option maxRecDepth 100000 in
set_option maxHeartbeats 6400000 in
theorem HeadRead_ok0 (s : ByteArray) (h20 : 20 ≤ s.size) (hz : s.size ≤ 1048576) (b8 b9 n f g sv dv iv : Int) (m h : Bool)
    (ht : ((s.extract 0 2).toList == [69, 0]) = true) (x8 : ∀ h : 8 < s.size, ((s[8]'h).toNat : Int) = b8)
    (f0 : 0 ≤ f) (f1 : f < 32768) (n0 : 20 ≤ n) (d8 : (b8 == 0) = false) (s0 : 0 ≤ sv) (s1 : sv < 4294967296) (d0 : 0 ≤ dv) (d1 : dv < 4294967296)
    (hm : decide (8192 ≤ f % 16384) = m) (hh : decide (16384 ≤ f) = h)
    (G1 : Hid (∀ w, Calls Try.prog 49 #[.string (s.extract 2 4)] w fun e w' => e = .returned (.int .i64 n) ∧ w = w'))
    (G2 : Hid (∀ w, Calls Try.prog 49 #[.string (s.extract 6 8)] w fun e w' => e = .returned (.int .i64 f) ∧ w = w'))
    (G3 : Hid (∀ w, Calls Try.prog 49 #[.string (s.extract 10 12)] w fun e w' => e = .returned (.int .i64 g) ∧ w = w'))
    (G5 : Hid (∀ w, Calls Try.prog 49 #[.string (s.extract 12 16)] w fun e w' => e = .returned (.int .i64 sv) ∧ w = w'))
    (G6 : Hid (∀ w, Calls Try.prog 49 #[.string (s.extract 16 20)] w fun e w' => e = .returned (.int .i64 dv) ∧ w = w'))
    (G7 : Hid (∀ w, Calls Try.prog 49 #[.string (s.extract 4 6)] w fun e w' => e = .returned (.int .i64 iv) ∧ w = w'))
    (G8 : Hid (∀ w, Calls Try.prog 49 #[.string (s.extract 9 10)] w fun e w' => e = .returned (.int .i64 b9) ∧ w = w'))
    (G9 : Hid (∀ w, Calls Try.prog 49 #[.string (s.extract 8 9)] w fun e w' => e = .returned (.int .i64 b8) ∧ w = w'))
    (G4 : Hid (∀ w, Calls Try.prog 11 #[.string (s.extract 0 10 ++ (⟨#[0, 0]⟩ : ByteArray) ++ s.extract 12 20)] w fun e w' => e = .returned (.int .i64 g) ∧ Below w.heap.size w w')) (w : World) :
    Calls Try.prog 36 #[.string s] w fun e w' => e = .returned (.tuple #[.agg #[.int .u32 sv, .int .u32 dv, .int .i64 b9, .int .i64 b8, .int .i64 iv, .int .i64 (f % 8192 * 8), .bool m, .bool h, .string ⟨#[]⟩], .int .i64 n, .int .i64 0]) ∧ Below w.heap.size w w' := by
  have q1 : (9223372036854775807 < min 10 s.size + 2) = False := eq_false (by omega)
  have q2 : (9223372036854775807 < min 10 s.size + 2 + 8) = False := eq_false (by omega)
  have W1 : IntKind.u32.wrap sv = sv := by rw [IntKind.wrap_u32]; omega
  have W2 : IntKind.u32.wrap dv = dv := by rw [IntKind.wrap_u32]; omega
  have i2 : (2 : Int) ≤ (s.size : Int) := by omega
  have i4 : (4 : Int) ≤ (s.size : Int) := by omega
  have i6 : (6 : Int) ≤ (s.size : Int) := by omega
  have i8' : (8 : Int) ≤ (s.size : Int) := by omega
  have i8 : (8 : Int) < (s.size : Int) := by omega
  have i9 : (9 : Int) ≤ (s.size : Int) := by omega
  have i10 : (10 : Int) ≤ (s.size : Int) := by omega
  have i12 : (12 : Int) ≤ (s.size : Int) := by omega
  have i16 : (16 : Int) ≤ (s.size : Int) := by omega
  have i20 : (20 : Int) ≤ (s.size : Int) := by omega
  go_enter Try.func36, Try.ntmps36
  go_wp2_with fail
  refine Rg.start (n := 8) (S := (fun w' => w'.heap[w.heap.size]? = some (.cells #[.int .u32 0, .int .u32 0, .int .i64 0, .int .i64 0, .int .i64 0, .int .i64 0, .bool false, .bool false, .string ⟨#[]⟩] 30 (0, 0)) ∧ Below w.heap.size w w')) #[false, false, false, false, false, false, false, false] (by kernel_rfl) rfl rfl ⟨blk_drew (blk_new w _), ((Below.refl _ _).alloc (Nat.le_refl _) _).drew⟩ (fun hS => ?_)
  refine Rg.tk (i := 0) (N := (some 12)) (v := ?_) (a' := ?_) #[true, false, false, false, false, false, false, false] rfl rfl (by kernel_rfl) (fun _ _ _ h => h) (Or.inl ⟨by rfl, ?_⟩) hS ?_ ?_
  rotate_left
  · intro w' hS'
    go_simp
    with_reducible rfl
  rotate_left
  · simp only [Act.put, List.setIfInBounds_toArray, List.set_cons_zero, List.set_cons_succ, i64_w, i32_w]
    rfl
  refine Rg.tk (i := 1) (N := (some 13)) (v := ?_) (a' := ?_) #[true, true, false, false, false, false, false, false] rfl rfl (by kernel_rfl) (fun _ _ _ h => h) (Or.inl ⟨by rfl, ?_⟩) hS ?_ ?_
  rotate_left
  · intro w' hS'
    go_simp
    with_reducible rfl
  rotate_left
  · simp only [Act.put, List.setIfInBounds_toArray, List.set_cons_zero, List.set_cons_succ, i64_w, i32_w]
    rfl
  refine Rg.tkF (i := 2) (N := (some 14)) (a' := ?_) (.int .i64 n) #[true, true, true, false, false, false, false, false] rfl rfl (by kernel_rfl) (fun _ _ _ h => h) Try.func49 (by kernel_rfl) rfl #[.string (s.extract 2 4)] (by rfl) rfl (by (try simp only [List.map_toArray, List.map_cons, List.map_nil]); first | done | rfl) (fun w _ => G1 w) hS ?_ ?_
  rotate_left
  · simp only [Act.put, List.setIfInBounds_toArray, List.set_cons_zero, List.set_cons_succ, i64_w, i32_w]
    rfl
  refine Rg.tk (i := 3) (N := (some 15)) (v := ?_) (a' := ?_) #[true, true, true, true, false, false, false, false] rfl rfl (by kernel_rfl) (fun _ _ _ h => h) (Or.inl ⟨by rfl, ?_⟩) hS ?_ ?_
  rotate_left
  · intro w' hS'
    go_simp
    with_reducible rfl
  rotate_left
  · simp only [Act.put, List.setIfInBounds_toArray, List.set_cons_zero, List.set_cons_succ, i64_w, i32_w]
    rfl
  refine Rg.tk (i := 4) (N := (some 16)) (v := ?_) (a' := ?_) #[true, true, true, true, true, false, false, false] rfl rfl (by kernel_rfl) (fun _ _ _ h => h) (Or.inl ⟨by rfl, ?_⟩) hS ?_ ?_
  rotate_left
  · intro w' hS'
    go_simp
    with_reducible rfl
  rotate_left
  · simp only [Act.put, List.setIfInBounds_toArray, List.set_cons_zero, List.set_cons_succ, i64_w, i32_w]
    rfl
  refine Rg.tkF (i := 5) (N := (some 17)) (a' := ?_) (.int .i64 f) #[true, true, true, true, true, true, false, false] rfl rfl (by kernel_rfl) (fun _ _ _ h => h) Try.func49 (by kernel_rfl) rfl #[.string (s.extract 6 8)] (by rfl) rfl (by (try simp only [List.map_toArray, List.map_cons, List.map_nil]); first | done | rfl) (fun w _ => G2 w) hS ?_ ?_
  rotate_left
  · simp only [Act.put, List.setIfInBounds_toArray, List.set_cons_zero, List.set_cons_succ, i64_w, i32_w]
    rfl
  refine Rg.tk (i := 6) (N := (some 5)) (v := ?_) (a' := ?_) #[true, true, true, true, true, true, true, false] rfl rfl (by kernel_rfl) (fun _ _ _ h => h) (Or.inl ⟨by rfl, ?_⟩) hS ?_ ?_
  rotate_left
  · intro w' hS'
    go_simp
    with_reducible rfl
  rotate_left
  · simp only [Act.put, List.setIfInBounds_toArray, List.set_cons_zero, List.set_cons_succ, i64_w, i32_w]
    rfl
  refine Rg.tk (i := 7) (N := (some 6)) (v := ?_) (a' := ?_) #[true, true, true, true, true, true, true, true] rfl rfl (by kernel_rfl) (fun _ _ _ h => h) (Or.inl ⟨by rfl, ?_⟩) hS ?_ ?_
  rotate_left
  · intro w' hS'
    go_simp
    with_reducible rfl
  rotate_left
  · simp only [Act.put, List.setIfInBounds_toArray, List.set_cons_zero, List.set_cons_succ, i64_w, i32_w]
    rfl
  refine Rg.fin (by kernel_rfl) ?_
  obtain ⟨B1, Z1⟩ := hS
  generalize (w.alloc (.cells #[.int .u32 0, .int .u32 0, .int .i64 0, .int .i64 0, .int .i64 0, .int .i64 0, .bool false, .bool false, .string ⟨#[]⟩] 30)).drew = W1 at B1 Z1 ⊢
  have B2 := Lib.hid B1
  have Z2 := Lib.hid Z1
  clear B1 Z1
  go_wp2_with fail
  refine Rg.start (n := 11) (S := (fun w' => w'.heap[w.heap.size]? = some (.cells #[.int .u32 0, .int .u32 0, .int .i64 0, .int .i64 0, .int .i64 0, .int .i64 0, .bool false, .bool false, .string ⟨#[]⟩] 30 (0, 0)) ∧ Below w.heap.size w w')) #[false, false, false, false, false, false, false, false, false, false, false] (by kernel_rfl) rfl rfl (keepD1 B2 Z2) (fun hS => ?_)
  refine Rg.tk (i := 0) (N := (some 35)) (v := ?_) (a' := ?_) #[true, false, false, false, false, false, false, false, false, false, false] rfl rfl (by kernel_rfl) (fun _ _ _ h => h) (Or.inl ⟨by rfl, ?_⟩) hS ?_ ?_
  rotate_left
  · intro w' hS'
    go_simp
    with_reducible rfl
  rotate_left
  · simp only [Act.put, List.setIfInBounds_toArray, List.set_cons_zero, List.set_cons_succ, i64_w, i32_w]
    rfl
  refine Rg.tk (i := 1) (N := (some 36)) (v := ?_) (a' := ?_) #[true, true, false, false, false, false, false, false, false, false, false] rfl rfl (by kernel_rfl) (fun _ _ _ h => h) (Or.inl ⟨by rfl, ?_⟩) hS ?_ ?_
  rotate_left
  · intro w' hS'
    go_simp
    with_reducible rfl
  rotate_left
  · simp only [Act.put, List.setIfInBounds_toArray, List.set_cons_zero, List.set_cons_succ, i64_w, i32_w]
    rfl
  refine Rg.tkF (i := 2) (N := (some 37)) (a' := ?_) (.int .i64 g) #[true, true, true, false, false, false, false, false, false, false, false] rfl rfl (by kernel_rfl) (fun _ _ _ h => h) Try.func49 (by kernel_rfl) rfl #[.string (s.extract 10 12)] (by rfl) rfl (by (try simp only [List.map_toArray, List.map_cons, List.map_nil]); first | done | rfl) (fun w _ => G3 w) hS ?_ ?_
  rotate_left
  · simp only [Act.put, List.setIfInBounds_toArray, List.set_cons_zero, List.set_cons_succ, i64_w, i32_w]
    rfl
  refine Rg.tk (i := 3) (N := (some 38)) (v := ?_) (a' := ?_) #[true, true, true, true, false, false, false, false, false, false, false] rfl rfl (by kernel_rfl) (fun _ _ _ h => h) (Or.inl ⟨by rfl, ?_⟩) hS ?_ ?_
  rotate_left
  · intro w' hS'
    go_simp
    with_reducible rfl
  rotate_left
  · simp only [Act.put, List.setIfInBounds_toArray, List.set_cons_zero, List.set_cons_succ, i64_w, i32_w]
    rfl
  refine Rg.tk (i := 4) (N := (some 39)) (v := ?_) (a' := ?_) #[true, true, true, true, true, false, false, false, false, false, false] rfl rfl (by kernel_rfl) (fun _ _ _ h => h) (Or.inl ⟨by rfl, ?_⟩) hS ?_ ?_
  rotate_left
  · intro w' hS'
    go_simp
    with_reducible rfl
  rotate_left
  · simp only [Act.put, List.setIfInBounds_toArray, List.set_cons_zero, List.set_cons_succ, i64_w, i32_w]
    rfl
  refine Rg.tk (i := 5) (N := (some 40)) (v := ?_) (a' := ?_) #[true, true, true, true, true, true, false, false, false, false, false] rfl rfl (by kernel_rfl) (fun _ _ _ h => h) (Or.inl ⟨by rfl, ?_⟩) hS ?_ ?_
  rotate_left
  · intro w' hS'
    go_simp
    with_reducible rfl
  rotate_left
  · simp only [Act.put, List.setIfInBounds_toArray, List.set_cons_zero, List.set_cons_succ, i64_w, i32_w]
    rfl
  refine Rg.tk (i := 6) (N := (some 41)) (v := ?_) (a' := ?_) #[true, true, true, true, true, true, true, false, false, false, false] rfl rfl (by kernel_rfl) (fun _ _ _ h => h) (Or.inl ⟨by rfl, ?_⟩) hS ?_ ?_
  rotate_left
  · intro w' hS'
    go_simp
    with_reducible rfl
  rotate_left
  · simp only [Act.put, List.setIfInBounds_toArray, List.set_cons_zero, List.set_cons_succ, i64_w, i32_w]
    rfl
  refine Rg.tk (i := 7) (N := (some 42)) (v := ?_) (a' := ?_) #[true, true, true, true, true, true, true, true, false, false, false] rfl rfl (by kernel_rfl) (fun _ _ _ h => h) (Or.inl ⟨by rfl, ?_⟩) hS ?_ ?_
  rotate_left
  · intro w' hS'
    go_simp
    with_reducible rfl
  rotate_left
  · simp only [Act.put, List.setIfInBounds_toArray, List.set_cons_zero, List.set_cons_succ, i64_w, i32_w]
    rfl
  refine Rg.tk (i := 8) (N := (some 43)) (v := ?_) (a' := ?_) #[true, true, true, true, true, true, true, true, true, false, false] rfl rfl (by kernel_rfl) (fun _ _ _ h => h) (Or.inl ⟨by rfl, ?_⟩) hS ?_ ?_
  rotate_left
  · intro w' hS'
    go_simp
    with_reducible rfl
  rotate_left
  · simp only [Act.put, List.setIfInBounds_toArray, List.set_cons_zero, List.set_cons_succ, i64_w, i32_w]
    rfl
  refine Rg.go1 (i := 9) (N := (some 44)) #[true, true, true, true, true, true, true, true, true, true, false] rfl rfl (by kernel_rfl) (fun K hK => ?_)
  refine goes_ Try.func11 (by kernel_rfl) rfl #[.string (s.extract 0 10 ++ (⟨#[0, 0]⟩ : ByteArray) ++ s.extract 12 20)] (by rfl) rfl rfl (by (try simp only [List.map_toArray, List.map_cons, List.map_nil]); first | done | rfl) ?_
  refine (G4 _).mono ?_
  rintro e w' ⟨rfl, hb⟩
  refine ⟨_, rfl, ?_⟩
  refine hK.out _ _ (keepB hb hS) (fun hS => ?_)
  clear hK K
  refine Rg.norm (a' := ?_) ?_ ?_
  rotate_left
  · simp only [Act.put, List.setIfInBounds_toArray, List.set_cons_zero, List.set_cons_succ, i64_w, i32_w]
    rfl
  refine Rg.tk (i := 10) (N := (some 45)) (v := ?_) (a' := ?_) #[true, true, true, true, true, true, true, true, true, true, true] rfl rfl (by kernel_rfl) (fun _ _ _ h => h) (Or.inl ⟨by rfl, ?_⟩) hS ?_ ?_
  rotate_left
  · intro w' hS'
    go_simp
    with_reducible rfl
  rotate_left
  · simp only [Act.put, List.setIfInBounds_toArray, List.set_cons_zero, List.set_cons_succ, i64_w, i32_w]
    rfl
  refine Rg.fin (by kernel_rfl) ?_
  obtain ⟨B1, Z1⟩ := hS
  clear B2 Z2
  have B2 := Lib.hid B1
  have Z2 := Lib.hid Z1
  clear B1 Z1
  go_wp2_with fail
  refine Rg.start (n := 20) (S := (fun w' => w'.heap[w.heap.size]? = some (.cells #[.int .u32 0, .int .u32 0, .int .i64 0, .int .i64 0, .int .i64 0, .int .i64 0, .bool false, .bool false, .string ⟨#[]⟩] 30 (0, 0)) ∧ Below w.heap.size w w')) #[false, false, false, false, false, false, false, false, false, false, false, false, false, false, false, false, false, false, false, false] (by kernel_rfl) rfl rfl (keepD1 B2 Z2) (fun hS => ?_)
  refine Rg.tk (i := 0) (N := (some 47)) (v := ?_) (a' := ?_) #[true, false, false, false, false, false, false, false, false, false, false, false, false, false, false, false, false, false, false, false] rfl rfl (by kernel_rfl) (fun _ _ _ h => h) (Or.inl ⟨by rfl, ?_⟩) hS ?_ ?_
  rotate_left
  · intro w' hS'
    go_simp
    with_reducible rfl
  rotate_left
  · simp only [Act.put, List.setIfInBounds_toArray, List.set_cons_zero, List.set_cons_succ, i64_w, i32_w]
    rfl
  refine Rg.tk (i := 1) (N := (some 48)) (v := ?_) (a' := ?_) #[true, true, false, false, false, false, false, false, false, false, false, false, false, false, false, false, false, false, false, false] rfl rfl (by kernel_rfl) (fun _ _ _ h => h) (Or.inl ⟨by rfl, ?_⟩) hS ?_ ?_
  rotate_left
  · intro w' hS'
    go_simp
    with_reducible rfl
  rotate_left
  · simp only [Act.put, List.setIfInBounds_toArray, List.set_cons_zero, List.set_cons_succ, i64_w, i32_w]
    rfl
  refine Rg.tkF (i := 2) (N := (some 49)) (a' := ?_) (.int .i64 sv) #[true, true, true, false, false, false, false, false, false, false, false, false, false, false, false, false, false, false, false, false] rfl rfl (by kernel_rfl) (fun _ _ _ h => h) Try.func49 (by kernel_rfl) rfl #[.string (s.extract 12 16)] (by rfl) rfl (by (try simp only [List.map_toArray, List.map_cons, List.map_nil]); first | done | rfl) (fun w _ => G5 w) hS ?_ ?_
  rotate_left
  · simp only [Act.put, List.setIfInBounds_toArray, List.set_cons_zero, List.set_cons_succ, i64_w, i32_w]
    rfl
  refine Rg.tk (i := 3) (N := (some 50)) (v := ?_) (a' := ?_) #[true, true, true, true, false, false, false, false, false, false, false, false, false, false, false, false, false, false, false, false] rfl rfl (by kernel_rfl) (fun _ _ _ h => h) (Or.inl ⟨by rfl, ?_⟩) hS ?_ ?_
  rotate_left
  · intro w' hS'
    go_simp
    with_reducible rfl
  rotate_left
  · simp only [Act.put, List.setIfInBounds_toArray, List.set_cons_zero, List.set_cons_succ, i64_w, i32_w]
    rfl
  refine Rg.tk (i := 4) (N := (some 51)) (v := ?_) (a' := ?_) #[true, true, true, true, true, false, false, false, false, false, false, false, false, false, false, false, false, false, false, false] rfl rfl (by kernel_rfl) (fun _ _ _ h => h) (Or.inl ⟨by rfl, ?_⟩) hS ?_ ?_
  rotate_left
  · intro w' hS'
    go_simp
    with_reducible rfl
  rotate_left
  · simp only [Act.put, List.setIfInBounds_toArray, List.set_cons_zero, List.set_cons_succ, i64_w, i32_w]
    rfl
  refine Rg.tk (i := 5) (N := (some 52)) (v := ?_) (a' := ?_) #[true, true, true, true, true, true, false, false, false, false, false, false, false, false, false, false, false, false, false, false] rfl rfl (by kernel_rfl) (fun _ _ _ h => h) (Or.inl ⟨by rfl, ?_⟩) hS ?_ ?_
  rotate_left
  · intro w' hS'
    go_simp
    with_reducible rfl
  rotate_left
  · simp only [Act.put, List.setIfInBounds_toArray, List.set_cons_zero, List.set_cons_succ, i64_w, i32_w]
    rfl
  refine Rg.tkF (i := 6) (N := (some 53)) (a' := ?_) (.int .i64 dv) #[true, true, true, true, true, true, true, false, false, false, false, false, false, false, false, false, false, false, false, false] rfl rfl (by kernel_rfl) (fun _ _ _ h => h) Try.func49 (by kernel_rfl) rfl #[.string (s.extract 16 20)] (by rfl) rfl (by (try simp only [List.map_toArray, List.map_cons, List.map_nil]); first | done | rfl) (fun w _ => G6 w) hS ?_ ?_
  rotate_left
  · simp only [Act.put, List.setIfInBounds_toArray, List.set_cons_zero, List.set_cons_succ, i64_w, i32_w]
    rfl
  refine Rg.tk (i := 7) (N := (some 54)) (v := ?_) (a' := ?_) #[true, true, true, true, true, true, true, true, false, false, false, false, false, false, false, false, false, false, false, false] rfl rfl (by kernel_rfl) (fun _ _ _ h => h) (Or.inl ⟨by rfl, ?_⟩) hS ?_ ?_
  rotate_left
  · intro w' hS'
    go_simp
    with_reducible rfl
  rotate_left
  · simp only [Act.put, List.setIfInBounds_toArray, List.set_cons_zero, List.set_cons_succ, i64_w, i32_w]
    rfl
  refine Rg.tk (i := 8) (N := (some 55)) (v := ?_) (a' := ?_) #[true, true, true, true, true, true, true, true, true, false, false, false, false, false, false, false, false, false, false, false] rfl rfl (by kernel_rfl) (fun _ _ _ h => h) (Or.inl ⟨by rfl, ?_⟩) hS ?_ ?_
  rotate_left
  · intro w' hS'
    go_simp
    with_reducible rfl
  rotate_left
  · simp only [Act.put, List.setIfInBounds_toArray, List.set_cons_zero, List.set_cons_succ, i64_w, i32_w]
    rfl
  refine Rg.tk (i := 9) (N := (some 56)) (v := ?_) (a' := ?_) #[true, true, true, true, true, true, true, true, true, true, false, false, false, false, false, false, false, false, false, false] rfl rfl (by kernel_rfl) (fun _ _ _ h => h) (Or.inl ⟨by rfl, ?_⟩) hS ?_ ?_
  rotate_left
  · intro w' hS'
    go_simp
    with_reducible rfl
  rotate_left
  · simp only [Act.put, List.setIfInBounds_toArray, List.set_cons_zero, List.set_cons_succ, i64_w, i32_w]
    rfl
  refine Rg.tkF (i := 10) (N := (some 57)) (a' := ?_) (.int .i64 b9) #[true, true, true, true, true, true, true, true, true, true, true, false, false, false, false, false, false, false, false, false] rfl rfl (by kernel_rfl) (fun _ _ _ h => h) Try.func49 (by kernel_rfl) rfl #[.string (s.extract 9 10)] (by rfl) rfl (by (try simp only [List.map_toArray, List.map_cons, List.map_nil]); first | done | rfl) (fun w _ => G8 w) hS ?_ ?_
  rotate_left
  · simp only [Act.put, List.setIfInBounds_toArray, List.set_cons_zero, List.set_cons_succ, i64_w, i32_w]
    rfl
  refine Rg.tk (i := 11) (N := (some 58)) (v := ?_) (a' := ?_) #[true, true, true, true, true, true, true, true, true, true, true, true, false, false, false, false, false, false, false, false] rfl rfl (by kernel_rfl) (fun _ _ _ h => h) (Or.inl ⟨by rfl, ?_⟩) hS ?_ ?_
  rotate_left
  · intro w' hS'
    go_simp
    with_reducible rfl
  rotate_left
  · simp only [Act.put, List.setIfInBounds_toArray, List.set_cons_zero, List.set_cons_succ, i64_w, i32_w]
    rfl
  refine Rg.tk (i := 12) (N := (some 59)) (v := ?_) (a' := ?_) #[true, true, true, true, true, true, true, true, true, true, true, true, true, false, false, false, false, false, false, false] rfl rfl (by kernel_rfl) (fun _ _ _ h => h) (Or.inl ⟨by rfl, ?_⟩) hS ?_ ?_
  rotate_left
  · intro w' hS'
    go_simp
    with_reducible rfl
  rotate_left
  · simp only [Act.put, List.setIfInBounds_toArray, List.set_cons_zero, List.set_cons_succ, i64_w, i32_w]
    rfl
  refine Rg.tkF (i := 13) (N := (some 60)) (a' := ?_) (.int .i64 b8) #[true, true, true, true, true, true, true, true, true, true, true, true, true, true, false, false, false, false, false, false] rfl rfl (by kernel_rfl) (fun _ _ _ h => h) Try.func49 (by kernel_rfl) rfl #[.string (s.extract 8 9)] (by rfl) rfl (by (try simp only [List.map_toArray, List.map_cons, List.map_nil]); first | done | rfl) (fun w _ => G9 w) hS ?_ ?_
  rotate_left
  · simp only [Act.put, List.setIfInBounds_toArray, List.set_cons_zero, List.set_cons_succ, i64_w, i32_w]
    rfl
  refine Rg.tk (i := 14) (N := (some 61)) (v := ?_) (a' := ?_) #[true, true, true, true, true, true, true, true, true, true, true, true, true, true, true, false, false, false, false, false] rfl rfl (by kernel_rfl) (fun _ _ _ h => h) (Or.inl ⟨by rfl, ?_⟩) hS ?_ ?_
  rotate_left
  · intro w' hS'
    go_simp
    with_reducible rfl
  rotate_left
  · simp only [Act.put, List.setIfInBounds_toArray, List.set_cons_zero, List.set_cons_succ, i64_w, i32_w]
    rfl
  refine Rg.tk (i := 15) (N := (some 62)) (v := ?_) (a' := ?_) #[true, true, true, true, true, true, true, true, true, true, true, true, true, true, true, true, false, false, false, false] rfl rfl (by kernel_rfl) (fun _ _ _ h => h) (Or.inl ⟨by rfl, ?_⟩) hS ?_ ?_
  rotate_left
  · intro w' hS'
    go_simp
    with_reducible rfl
  rotate_left
  · simp only [Act.put, List.setIfInBounds_toArray, List.set_cons_zero, List.set_cons_succ, i64_w, i32_w]
    rfl
  refine Rg.tkF (i := 16) (N := (some 63)) (a' := ?_) (.int .i64 iv) #[true, true, true, true, true, true, true, true, true, true, true, true, true, true, true, true, true, false, false, false] rfl rfl (by kernel_rfl) (fun _ _ _ h => h) Try.func49 (by kernel_rfl) rfl #[.string (s.extract 4 6)] (by rfl) rfl (by (try simp only [List.map_toArray, List.map_cons, List.map_nil]); first | done | rfl) (fun w _ => G7 w) hS ?_ ?_
  rotate_left
  · simp only [Act.put, List.setIfInBounds_toArray, List.set_cons_zero, List.set_cons_succ, i64_w, i32_w]
    rfl
  refine Rg.tk (i := 17) (N := (some 64)) (v := ?_) (a' := ?_) #[true, true, true, true, true, true, true, true, true, true, true, true, true, true, true, true, true, true, false, false] rfl rfl (by kernel_rfl) (fun _ _ _ h => h) (Or.inl ⟨by rfl, ?_⟩) hS ?_ ?_
  rotate_left
  · intro w' hS'
    go_simp
    with_reducible rfl
  rotate_left
  · simp only [Act.put, List.setIfInBounds_toArray, List.set_cons_zero, List.set_cons_succ, i64_w, i32_w]
    rfl
  refine Rg.go1 (i := 18) (N := (some 7)) #[true, true, true, true, true, true, true, true, true, true, true, true, true, true, true, true, true, true, true, false] rfl rfl (by kernel_rfl) (fun K hK => ?_)
  go_simp
  refine hK.out _ _ (keepD2 B2 Z2 _) (fun hS => ?_)
  clear hK K
  refine Rg.go1 (i := 19) (N := none) #[true, true, true, true, true, true, true, true, true, true, true, true, true, true, true, true, true, true, true, true] rfl rfl (by kernel_rfl) (fun K hK => ?_)
  go_simp
  refine hK.out _ _ (keepD2 B2 Z2 _) (fun hS => ?_)
  clear hK K
  refine Rg.fin (by kernel_rfl) ?_
  have Q3 := Lib.hid (blk_drew (blk_new w' (.cells #[.int .u32 sv, .int .u32 dv, .int .i64 b9, .int .i64 b8, .int .i64 iv, .int .i64 0, .bool false, .bool false, .string ⟨#[]⟩] 30)))
  obtain ⟨B3, Z3⟩ := hS
  have ne : Hid (w.heap.size ≠ w'.heap.size) := by
    have := blk_lt B2
    show _ ≠ _
    omega
  have Z5 := Lib.hid (Nat.le_of_lt (blk_lt B2))
  clear B2 Z2
  generalize (w'.alloc (.cells #[.int .u32 sv, .int .u32 dv, .int .i64 b9, .int .i64 b8, .int .i64 iv, .int .i64 0, .bool false, .bool false, .string ⟨#[]⟩] 30)).drew = W at Q3 B3 Z3 ⊢
  generalize w'.heap.size = q at Q3 ne Z5 ⊢
  have B4 := Lib.hid B3
  have Z4 := Lib.hid Z3
  clear B3 Z3
  obtain ⟨c0, c1, c2, c3, c4, c5, c6, c7, c8, cf, cl⟩ := LwPktEncodes.cells9 B4
  obtain ⟨p0, p1, p2, p3, p4, p5, p6, p7, p8, pf, pl⟩ := LwPktEncodes.cells9 Q3
  have n1 : (q = w.heap.size) = False := eq_false (Ne.symm ne)
  have n2 : (w.heap.size = q) = False := eq_false ne
  have W5 : IntKind.i64.wrap (f % 8192 * 8) = f % 8192 * 8 := by rw [IntKind.wrap_i64]; omega
  go_wp2_with fail
  exact bodyPost_ret (v := .tuple #[.agg #[.int .u32 sv, .int .u32 dv, .int .i64 b9, .int .i64 b8, .int .i64 iv, .int .i64 (f % 8192 * 8), .bool m, .bool h, .string ⟨#[]⟩], .int .i64 n, .int .i64 0]) (by simp [results, Try.results36, go_sem, c0, c1, c2, c3, c4, c5, c6, c7, c8, cf, n1, n2]) rfl ⟨rfl, LwPktEncodes.below9 _ _ _ _ _ _ _ _ _ (below3 Z4 Z5 _ _ _ _ _ _) (Nat.le_refl _)⟩
end Go.Proofs.Ythpohaafphaidaa.Hr
