/- What the readers of addresses and prefixes come to: the program's and the reference's. -/
import Derived.Test.YtbdcaadehfbnbaaDoorQDc
import Derived.Test.YtbdcaadehfbnbaaDoorQPxAddrWrites
import Derived.Test.YtbdcaadehfbnbaaDoorGAddrWritesx5
import Derived.Test.YtbdcaadehfbnbaaDoorGAddrWritesx2
import Derived.Test.YtbdcaadehfbnbaaDoorGAddrWritesx7
namespace Go.Proofs.YtbdcaadehfbnbaaDoor.RdAddrWrites
open Go Go.RowKit Go.Proofs.YtbdcaadehfbnbaaDoorW.PrintWords Go.Proofs.YtbdcaadehfbnbaaDoorW.PrintLast Go.Proofs.YtbdcaadehfbnbaaDoor.Pl Go.Proofs.YtbdcaadehfbnbaaDoor.Bm Go.Proofs.YtbdcaadehfbnbaaDoor.GAddrWrites Go.Proofs.YtbdcaadehfbnbaaDoor.PxAddrWrites
set_option linter.unusedVariables false
set_option linter.unusedSimpArgs false
theorem lives_ev : Ev (fun k => patchbaylaw2_addrLives.f k) true :=
  Ev.of (fun k => patchbaylaw2_addrLives.mono k) (k := 10) (by kernel_rfl)
theorem plus1 (i : Nat) (h : i ≤ 1000000) : wrap64 ((i : Int) + 1) = ((i + 1 : Nat) : Int) := by rw [w64 (by omega) (by omega)]; omega
def pts : ByteArray := ⟨#[46]⟩
/-- the pieces between points -/
def pcs (s : ByteArray) : List ByteArray := Lib.splitB pts 0 (Lib.countB s pts) s
theorem pcs_len (s : ByteArray) : (pcs s).length = Lib.countB s pts + 1 := Lib.splitB_all pts (by decide) 0 _ s rfl
/-- the program's value of pieces -/
def pv : List ByteArray → Int → Bool → Int × Int
  | [], out, large => if large = true then (0, 10) else (out, 0)
  | w :: r, out, large => if (Vk.nv w).2 = true then pv r (Go.bits .or .u32 ((out * 256) % 4294967296) ((Go.bits .and .i64 (Vk.nv w).1 255) % 4294967296)) (large || decide ((Vk.nv w).1 > 255)) else (0, 11)
def rdv (s : ByteArray) : Int × Int := if Lib.countB s pts = 3 then pv (pcs s) 0 false else (0, 11)
theorem rdOf_at (l : List ByteArray) (i : Nat) (h : i < l.length) : l.drop i = rdOf ByteArray.empty l (i : Int) :: l.drop (i + 1) := by
  rw [List.drop_eq_getElem_cons h]
  congr 1
  show l[i] = l.getD (i : Int).toNat ByteArray.empty
  rw [Int.toNat_natCast, List.getD_eq_getElem?_getD, List.getElem?_eq_getElem h]; rfl
theorem rdOf_in (l : List ByteArray) (i : Nat) (h : i < l.length) : rdOf ByteArray.empty l (i : Int) ∈ l := by
  show l.getD (i : Int).toNat ByteArray.empty ∈ l
  rw [Int.toNat_natCast, List.getD_eq_getElem?_getD, List.getElem?_eq_getElem h]
  exact List.getElem_mem h
theorem num_ev (w : ByteArray) (hw : w.size ≤ 1000000) : Ev (fun _ => addr_number.f w) (Vk.nv w) := by
  refine Ev.congr (fun _ => ?_) (Ev.now _)
  show Vk.numF w = _
  unfold Vk.numF; rw [if_pos (by omega)]
theorem parse_l0 (l : List ByteArray) (hl : l.length ≤ 1000) (hz : ∀ w ∈ l, w.size ≤ 1000000) (d : Nat) : ∀ (i : Nat) (out : Int) (large : Bool), i + d = l.length →
    Ev (fun k => addr_Parse.l0 k out large l (l.length : Int) (i : Int)) (pv (l.drop i) out large) := by
  induction d with
  | zero =>
    intro i out large hi
    rw [List.drop_of_length_le (by omega)]
    unfold pv
    refine Ev.step (fun k => rfl) (Ev.neg (by omega) ?_)
    by_cases h : large = true
    · exact Ev.eq (if_pos h) (Ev.pos h (Ev.now _))
    · exact Ev.eq (if_neg h) (Ev.neg h (Ev.now _))
  | succ d ih =>
    intro i out large hi
    have hm := hz _ (rdOf_in l i (by omega))
    refine Ev.step (fun k => rfl) (Ev.pos (by omega) (Ev.pos (by omega) (Ev.pos (by omega) ?_)))
    rw [rdOf_at l i (by omega), plus1 i (by omega)]
    generalize rdOf ByteArray.empty l (i : Int) = w at *
    refine Ev.bind (num_ev w hm) ?_
    unfold pv
    by_cases h : (Vk.nv w).2 = true
    · refine Ev.eq (if_pos h) (Ev.pos h ?_)
      by_cases g : large = true
      · subst g
        exact Ev.pos rfl (Ev.eq (by rw [Bool.true_or]) (ih (i + 1) _ true (by omega)))
      · have g' : large = false := by simpa using g
        subst g'
        exact Ev.neg g (Ev.eq (by rw [Bool.false_or]) (ih (i + 1) _ _ (by omega)))
    · exact Ev.eq (if_neg h) (Ev.neg h (Ev.now _))
theorem pieces_small (k : Nat) : ∀ (s : ByteArray), ∀ w ∈ Lib.splitB pts 0 k s, w.size ≤ s.size := by
  induction k with
  | zero => intro s w hw; rw [Lib.splitB_zero] at hw; rw [List.mem_singleton.1 hw]; exact Nat.le_refl _
  | succ k ih =>
    intro s w hw
    rcases Lib.indexB_cases s pts with h | ⟨i, h, hi⟩
    · rw [Lib.splitB_miss pts 0 (k + 1) s h] at hw; rw [List.mem_singleton.1 hw]; exact Nat.le_refl _
    · rw [Lib.splitB_hit pts 0 k s i h] at hw
      rcases List.mem_cons.1 hw with rfl | hw
      · rw [ByteArray.size_extract]; omega
      · have := ih _ w hw
        rw [ByteArray.size_extract] at this
        omega
theorem Parse_ev (s : ByteArray) (hs : s.size ≤ 900) : Ev (fun k => addr_Parse.f k s) (rdv s) := by
  unfold addr_Parse.f
  have e : strings_Split.f s (⟨#[46]⟩ : ByteArray) = some (pcs s) := by
    show Vk.splitF s ⟨#[46]⟩ = _
    unfold Vk.splitF; rw [if_pos ⟨by decide, by omega⟩]; rfl
  have hc := Lib.countB_le pts (by decide) s.size s (Nat.le_refl _)
  refine Ev.bind (g := fun _ => strings_Split.f s (⟨#[46]⟩ : ByteArray)) (Ev.congr (fun _ => e) (Ev.now _)) ?_
  have hl := pcs_len s
  unfold rdv
  by_cases h : Lib.countB s pts = 3
  · refine Ev.eq (if_pos h) (Ev.pos (by omega) ?_)
    exact parse_l0 (pcs s) (by omega) (fun w hw => by have := pieces_small _ s w hw; omega) (pcs s).length 0 0 false (by omega)
  · exact Ev.eq (if_neg h) (Ev.neg (by omega) (Ev.now _))
/-! ### the reference -/
theorem l0_eq (k : Nat) (x0 : ByteArray) (x4 : Int) (x5 : Int) (x6 : Int) (x15 : Int) (x16 : Int) : patchbayref2_AddrRead.l0 (k + 1) x0 x4 x5 x6 x15 x16 = if x16 < x15 then ((strings_IndexByte.f x0 46).bind fun t149 => (if t149 ≥ 0 then (if 0 ≤ t149 then (if t149 ≤ (x0.size : Int) then (if 0 ≤ (wrap64 (t149 + 1)) then (if (wrap64 (t149 + 1)) ≤ (x0.size : Int) then (patchbayref2_AddrRead.j1 k (x0.extract ((wrap64 (t149 + 1)) : Int).toNat x0.size) x4 x5 x6 x16 (x0.extract 0 (t149 : Int).toNat) x15 x16) else (none)) else (none)) else (none)) else (none)) else (patchbayref2_AddrRead.j1 k x0 x4 x5 x6 x16 x0 x15 x16))) else (if x5 = 0 then (some ((x4) % 4294967296, 0)) else (some (0, x5))) := rfl
theorem j1_eq (k : Nat) (x0 : ByteArray) (x4 : Int) (x5 : Int) (x6 : Int) (x7 : Int) (x8 : ByteArray) (x15 : Int) (x16 : Int) : patchbayref2_AddrRead.j1 (k + 1) x0 x4 x5 x6 x7 x8 x15 x16 = (patchbayref2_decimal.f x8).bind fun bt150 => (if bt150.2 = true then (patchbayref2_AddrRead.j2 k x0 x4 x5 x6 x7 bt150.1 x15 x16 (x6 != 3)) else (patchbayref2_AddrRead.j2 k x0 x4 x5 x6 x7 bt150.1 x15 x16 true)) := rfl
theorem j2_eq (k : Nat) (x0 : ByteArray) (x4 : Int) (x5 : Int) (x6 : Int) (x7 : Int) (x10 : Int) (x15 : Int) (x16 : Int) (x36 : Bool) : patchbayref2_AddrRead.j2 (k + 1) x0 x4 x5 x6 x7 x10 x15 x16 x36 = if x36 = true then (some (0, 11)) else (if x10 > 255 then ((some (([16777216, 65536, 256, 1] : List Int) : List Int)).bind fun y152 => (if 0 ≤ x7 then (if x7 < (y152.length : Int) then (patchbayref2_AddrRead.l0 k x0 (wrap64 (x4 + (wrap64 (x10 * (rd y152 x7))))) 10 x6 x15 (wrap64 (x16 + 1))) else (none)) else (none))) else ((some (([16777216, 65536, 256, 1] : List Int) : List Int)).bind fun y156 => (if 0 ≤ x7 then (if x7 < (y156.length : Int) then (patchbayref2_AddrRead.l0 k x0 (wrap64 (x4 + (wrap64 (x10 * (rd y156 x7))))) x5 x6 x15 (wrap64 (x16 + 1))) else (none)) else (none)))) := rfl
def pw (i : Nat) : Int := rd [16777216, 65536, 256, 1] (i : Int)
/-- the reference's value of pieces -/
def av : List ByteArray → Int → Int → Nat → Int × Int
  | [], out, e, _ => if e = 0 then (out % 4294967296, 0) else (0, e)
  | w :: r, out, e, i => if (Vb.dcv w).2 = true then av r (out + (Vb.dcv w).1 * pw i) (if (Vb.dcv w).1 > 255 then 10 else e) (i + 1) else (0, 11)
theorem dec_ev (w : ByteArray) (hw : w.size ≤ 1000000) : Ev (fun _ => patchbayref2_decimal.f w) (Vb.dcv w) := by
  refine Ev.congr (fun _ => ?_) (Ev.now _)
  show Vb.dcF w = _
  unfold Vb.dcF; rw [if_pos (by omega)]
theorem pw_range (i : Nat) (h : i ≤ 3) : 0 ≤ pw i ∧ pw i ≤ 16777216 := by
  have : i = 0 ∨ i = 1 ∨ i = 2 ∨ i = 3 := by omega
  rcases this with rfl | rfl | rfl | rfl <;> decide
theorem read_j1 (s w : ByteArray) (hw : w.size ≤ 1000000) (i : Nat) (hi : i ≤ 3) (out e : Int) (o0 : 0 ≤ out) (o1 : out ≤ 100000000000) (r : Int × Int)
    (hok : (Vb.dcv w).2 = true → Ev (fun k => patchbayref2_AddrRead.l0 k s (out + (Vb.dcv w).1 * pw i) (if (Vb.dcv w).1 > 255 then 10 else e) 3 4 ((i + 1 : Nat) : Int)) r)
    (hbad : (Vb.dcv w).2 = false → r = (0, 11)) :
    Ev (fun k => patchbayref2_AddrRead.j1 k s out e 3 (i : Int) w 4 (i : Int)) r := by
  refine Ev.step (fun k => j1_eq k _ _ _ _ _ _ _ _) (Ev.bind (dec_ev w hw) ?_)
  have hsm := Dc.same w
  by_cases h : (Vb.dcv w).2 = true
  · obtain ⟨q1, q2, q3⟩ := hsm.2 (by rw [← hsm.1]; exact h)
    have hp := pw_range i hi
    have hok := hok h
    have hd : 0 ≤ (Vb.dcv w).1 ∧ (Vb.dcv w).1 ≤ 999 := by omega
    clear hbad hsm q1 q2 q3
    generalize (Vb.dcv w).1 = v at *
    have h1 : 0 ≤ v * pw i := Int.mul_nonneg (by omega) (by omega)
    have h2 : v * pw i ≤ 999 * 16777216 := by
      have := Int.mul_le_mul (show v ≤ 999 by omega) hp.2 hp.1 (by omega)
      omega
    have e1 : wrap64 (out + wrap64 (v * rd [16777216, 65536, 256, 1] (i : Int))) = out + v * pw i := by
      show wrap64 (out + wrap64 (v * pw i)) = _
      rw [w64 (x := v * pw i) (by omega) (by omega), w64 (by omega) (by omega)]
    have hb : ((3 : Int) != 3) = false := by decide
    rw [hb]
    refine Ev.pos h (Ev.step (fun k => j2_eq k _ _ _ _ _ _ _ _ _) (Ev.neg Bool.false_ne_true ?_))
    by_cases g : v > 255
    · rw [if_pos g] at hok
      refine Ev.pos g (Ev.bind (Ev.now _) (Ev.pos (by omega) (Ev.pos (by simp; omega) ?_)))
      rw [e1, plus1 i (by omega)]; exact hok
    · rw [if_neg g] at hok
      refine Ev.neg g (Ev.bind (Ev.now _) (Ev.pos (by omega) (Ev.pos (by simp; omega) ?_)))
      rw [e1, plus1 i (by omega)]; exact hok
  · rw [hbad (by simpa using h)]
    exact Ev.neg h (Ev.step (fun k => j2_eq k _ _ _ _ _ _ _ _ _) (Ev.pos rfl (Ev.now _)))
theorem idx_ev (s : ByteArray) (c : Int) : Ev (fun _ => strings_IndexByte.f s c) (Lib.indexByte s.data.toList c.toNat.toUInt8) := Ev.congr (fun _ => rfl) (Ev.now _)
theorem idx_eq (s : ByteArray) : Lib.indexByte s.data.toList (46 : Int).toNat.toUInt8 = Lib.indexB s pts := (Dc.indexB_one s 46).symm
theorem av_mul {v p out : Int} {i : Nat} (h0 : 0 ≤ v) (h1 : v ≤ 999) (hi : i ≤ 3) : 0 ≤ v * pw i ∧ v * pw i ≤ 20000000000 := by
  have hp := pw_range i hi
  have h2 : 0 ≤ v * pw i := Int.mul_nonneg h0 hp.1
  have h3 := Int.mul_le_mul h1 hp.2 hp.1 (by omega)
  omega
theorem read_l0 (d : Nat) : ∀ (i : Nat) (s : ByteArray) (out e : Int), i + d = 3 → Lib.countB s pts = d → s.size ≤ 900 → 0 ≤ out → out ≤ 20000000000 * i →
    Ev (fun k => patchbayref2_AddrRead.l0 k s out e 3 4 (i : Int)) (av (Lib.splitB pts 0 d s) out e i) := by
  induction d with
  | zero =>
    intro i s out e hi hc hs o0 o1
    have hm : Lib.indexB s pts = -1 := by
      rcases Lib.indexB_cases s pts with h | ⟨j, h, _⟩
      · exact h
      · rw [Lib.countB_hit s pts j (by decide) h] at hc; omega
    refine Ev.step (fun k => l0_eq k _ _ _ _ _ _) (Ev.pos (by omega) (Ev.bind (idx_ev s 46) ?_))
    rw [idx_eq, hm]
    refine Ev.neg (by decide) ?_
    rw [Lib.splitB_zero]
    refine read_j1 s s (by omega) i (by omega) out e o0 (by omega) _ (fun h => ?_) (fun h => by unfold av; rw [if_neg (by rw [h]; exact Bool.false_ne_true)])
    unfold av; rw [if_pos h]; unfold av
    refine Ev.step (fun k => l0_eq k _ _ _ _ _ _) (Ev.neg (by omega) ?_)
    generalize (if (Vb.dcv s).1 > 255 then 10 else e) = f
    by_cases g : f = 0
    · exact Ev.eq (if_pos g) (Ev.pos g (Ev.now _))
    · exact Ev.eq (if_neg g) (Ev.neg g (Ev.now _))
  | succ d ih =>
    intro i s out e hi hc hs o0 o1
    obtain ⟨j, hj, hr⟩ : ∃ j : Nat, Lib.indexB s pts = j ∧ j + pts.size ≤ s.size := by
      rcases Lib.indexB_cases s pts with h | h
      · rw [Lib.countB_miss s pts h] at hc; omega
      · exact h
    have hz : pts.size = 1 := rfl
    refine Ev.step (fun k => l0_eq k _ _ _ _ _ _) (Ev.pos (by omega) (Ev.bind (idx_ev s 46) ?_))
    rw [idx_eq, hj, plus1 j (by omega)]
    refine Ev.pos (by omega) (Ev.pos (by omega) (Ev.pos (by omega) (Ev.pos (by omega) (Ev.pos (by omega) ?_))))
    rw [Int.toNat_natCast, Int.toNat_natCast, Lib.splitB_hit pts 0 d s j hj]
    have hcd : Lib.countB (s.extract (j + pts.size) s.size) pts = d := by
      have := Lib.countB_hit s pts j (by decide) hj
      omega
    rw [hz] at hcd ⊢
    have hes : (s.extract (j + 1) s.size).size ≤ 900 := by rw [ByteArray.size_extract]; omega
    rw [show j + 0 = j from rfl]
    refine read_j1 _ _ (by rw [ByteArray.size_extract]; omega) i (by omega) out e o0 (by omega) _ (fun h => ?_) (fun h => by unfold av; rw [if_neg (by rw [h]; exact Bool.false_ne_true)])
    have hsm := Dc.same (s.extract 0 j)
    obtain ⟨q1, q2, q3⟩ := hsm.2 (by rw [← hsm.1]; exact h)
    have hmul := av_mul (v := (Vb.dcv (s.extract 0 j)).1) (p := 0) (out := 0) (i := i) (by omega) (by omega) (by omega)
    unfold av; rw [if_pos h]
    exact ih (i + 1) _ _ _ (by omega) hcd hes (by omega) (by omega)
theorem Read_raw (s : ByteArray) (hs : s.size ≤ 900) : Ev (fun k => patchbayref2_AddrRead.f k s) (if Lib.countB s pts = 3 then av (pcs s) 0 0 0 else (0, 11)) := by
  have hc := Lib.countB_le pts (by decide) s.size s (Nat.le_refl _)
  have e : strings_Count.f s (⟨#[46]⟩ : ByteArray) = some (Lib.countB s pts : Int) := by
    show Vb.countF s ⟨#[46]⟩ = _
    unfold Vb.countF; rw [if_pos rfl]
    exact congrArg (fun n : Nat => some (n : Int)) (Dc.countB_one s 46).symm
  unfold patchbayref2_AddrRead.f
  refine Ev.bind (g := fun _ => strings_Count.f s (⟨#[46]⟩ : ByteArray)) (Ev.congr (fun _ => e) (Ev.now _)) ?_
  rw [plus1 _ (by omega)]
  by_cases h : Lib.countB s pts = 3
  · refine Ev.eq (if_pos h) ?_
    have hp : pcs s = Lib.splitB pts 0 3 s := by unfold pcs; rw [h]
    rw [hp, h]
    exact read_l0 3 0 s 0 0 (by omega) h hs (by omega) (by omega)
  · refine Ev.eq (if_neg h) ?_
    generalize hn : Lib.countB s pts = n at *
    have key : ∀ (x w : ByteArray), w.size ≤ 1000000 → Ev (fun k => patchbayref2_AddrRead.j1 k x 0 0 (n : Int) 0 w ((n + 1 : Nat) : Int) 0) ((0 : Int), (11 : Int)) := by
      intro x w hw
      have hb : ((n : Int) != 3) = true := bne_iff_ne.2 (by omega)
      refine Ev.step (fun k => j1_eq k _ _ _ _ _ _ _ _) (Ev.bind (dec_ev w hw) ?_)
      rw [hb]
      by_cases g : (Vb.dcv w).2 = true
      · exact Ev.pos g (Ev.step (fun k => j2_eq k _ _ _ _ _ _ _ _ _) (Ev.pos rfl (Ev.now _)))
      · exact Ev.neg g (Ev.step (fun k => j2_eq k _ _ _ _ _ _ _ _ _) (Ev.pos rfl (Ev.now _)))
    refine Ev.step (fun k => l0_eq k _ _ _ _ _ _) (Ev.pos (by omega) (Ev.bind (idx_ev s 46) ?_))
    rw [idx_eq]
    rcases Lib.indexB_cases s pts with q | ⟨j, q, hr⟩
    · rw [q]
      exact Ev.neg (by decide) (key s s (by omega))
    · have hz : pts.size = 1 := rfl
      rw [q, plus1 j (by omega)]
      refine Ev.pos (by omega) (Ev.pos (by omega) (Ev.pos (by omega) (Ev.pos (by omega) (Ev.pos (by omega) ?_))))
      exact key _ _ (by rw [ByteArray.size_extract]; omega)
/-! ### both are one -/
theorem low8 (v : Int) (h0 : 0 ≤ v) (h1 : v ≤ 999) : (Go.bits .and .i64 v 255) % 4294967296 = v % 256 := by
  have := bits_mask .i64 63 (by decide) wraps_i64 8 (by decide) v h0 (by omega)
  have e : Go.bits .and .i64 v 255 = v % 256 := by simpa using this
  rw [e]; omega
theorem join8 (x y : Int) (h0 : 0 ≤ x) (h1 : x < 16777216) (y0 : 0 ≤ y) (y1 : y ≤ 255) : Go.bits .or .u32 ((x * 256) % 4294967296) y = x * 256 + y := by
  rw [Int.emod_eq_of_lt (by omega) (by omega)]
  exact bits_join .u32 32 (by decide) wraps_u32 8 (x * 256) y (by omega) (by omega) (by omega) y0 (by omega) (by omega)
theorem pv_large (l : List ByteArray) : ∀ out, (∀ w ∈ l, (Vk.nv w).2 = true) → pv l out true = (0, 10) := by
  induction l with
  | nil => intro out _; rfl
  | cons w l ih =>
    intro out h
    unfold pv; rw [if_pos (h w (List.mem_cons_self ..)), Bool.true_or]
    exact ih _ (fun x hx => h x (List.mem_cons_of_mem _ hx))
theorem pv_bad (l : List ByteArray) : ∀ out large, (∃ w ∈ l, (Vk.nv w).2 = false) → pv l out large = (0, 11) := by
  induction l with
  | nil => intro out large h; obtain ⟨w, hw, _⟩ := h; cases hw
  | cons x l ih =>
    intro out large h
    unfold pv
    by_cases g : (Vk.nv x).2 = true
    · rw [if_pos g]
      obtain ⟨w, hw, hb⟩ := h
      rcases List.mem_cons.1 hw with rfl | hw
      · rw [g] at hb; cases hb
      · exact ih _ _ ⟨w, hw, hb⟩
    · rw [if_neg g]
theorem av_bad (l : List ByteArray) : ∀ out e i, (∃ w ∈ l, (Vk.nv w).2 = false) → av l out e i = (0, 11) := by
  induction l with
  | nil => intro out e i h; obtain ⟨w, hw, _⟩ := h; cases hw
  | cons x l ih =>
    intro out e i h
    unfold av
    rw [(Dc.same x).1]
    by_cases g : (Vk.nv x).2 = true
    · rw [if_pos g]
      obtain ⟨w, hw, hb⟩ := h
      rcases List.mem_cons.1 hw with rfl | hw
      · rw [g] at hb; cases hb
      · exact ih _ _ _ ⟨w, hw, hb⟩
    · rw [if_neg g]
theorem four (a b c d : ByteArray) : pv [a, b, c, d] 0 false = av [a, b, c, d] 0 0 0 := by
  by_cases hb : ∃ w ∈ [a, b, c, d], (Vk.nv w).2 = false
  · rw [pv_bad _ _ _ hb, av_bad _ _ _ _ hb]
  have all : ∀ w ∈ [a, b, c, d], (Vk.nv w).2 = true := fun w hw => by
    cases h : (Vk.nv w).2 with
    | true => rfl
    | false => exact absurd ⟨w, hw, h⟩ hb
  have ha := all a (by simp); have hb' := all b (by simp); have hc := all c (by simp); have hd := all d (by simp)
  obtain ⟨a1, a2, a3⟩ := (Dc.same a).2 ha
  obtain ⟨b1, b2, b3⟩ := (Dc.same b).2 hb'
  obtain ⟨c1, c2, c3⟩ := (Dc.same c).2 hc
  obtain ⟨d1, d2, d3⟩ := (Dc.same d).2 hd
  have p0 : pw 0 = 16777216 := rfl
  have p1 : pw 1 = 65536 := rfl
  have p2 : pw 2 = 256 := rfl
  have p3 : pw 3 = 1 := rfl
  simp only [pv, av, (Dc.same a).1, (Dc.same b).1, (Dc.same c).1, (Dc.same d).1, ha, hb', hc, hd, if_true, a1, b1, c1, d1, p0, p1, p2, p3, low8 _ a2 a3, low8 _ b2 b3, low8 _ c2 c3, low8 _ d2 d3]
  generalize (Vk.nv a).1 = x at *
  generalize (Vk.nv b).1 = y at *
  generalize (Vk.nv c).1 = z at *
  generalize (Vk.nv d).1 = t at *
  by_cases gx : x > 255
  · simp [gx]; repeat' split
    all_goals simp_all
  by_cases gy : y > 255
  · simp [gx, gy]; repeat' split
    all_goals simp_all
  by_cases gz : z > 255
  · simp [gx, gy, gz]; try repeat' split
    all_goals simp_all
  by_cases gt : t > 255
  · simp [gx, gy, gz, gt]
  have e1 : Go.bits .or .u32 ((0 * 256) % 4294967296) (x % 256) = x := by
    have := join8 0 x (by omega) (by omega) a2 (by omega)
    rw [Int.emod_eq_of_lt a2 (by omega)]; omega
  have e2 : Go.bits .or .u32 ((x * 256) % 4294967296) (y % 256) = x * 256 + y := by
    rw [Int.emod_eq_of_lt (a := y) b2 (by omega)]; exact join8 x y a2 (by omega) b2 (by omega)
  have e3 : Go.bits .or .u32 (((x * 256 + y) * 256) % 4294967296) (z % 256) = (x * 256 + y) * 256 + z := by
    rw [Int.emod_eq_of_lt (a := z) c2 (by omega)]; exact join8 _ z (by omega) (by omega) c2 (by omega)
  have e4 : Go.bits .or .u32 ((((x * 256 + y) * 256 + z) * 256) % 4294967296) (t % 256) = ((x * 256 + y) * 256 + z) * 256 + t := by
    rw [Int.emod_eq_of_lt (a := t) d2 (by omega)]; exact join8 _ t (by omega) (by omega) d2 (by omega)
  rw [e1, e2, e3, e4]
  rw [if_neg gx, if_neg gy, if_neg gz, if_neg gt]
  have hf : ¬ ((false || decide (x > 255) || decide (y > 255) || decide (z > 255) || decide (t > 255)) = true) := by simp [gx, gy, gz, gt]
  rw [if_neg hf, if_pos rfl]
  refine Prod.ext ?_ rfl
  show ((x * 256 + y) * 256 + z) * 256 + t = (0 + x * 16777216 + y * 65536 + z * 256 + t * 1) % 4294967296
  omega
theorem Read_ev (s : ByteArray) (hs : s.size ≤ 900) : Ev (fun k => patchbayref2_AddrRead.f k s) (rdv s) := by
  have := Read_raw s hs
  unfold rdv
  by_cases h : Lib.countB s pts = 3
  · rw [if_pos h] at this ⊢
    have hl := pcs_len s
    rw [h] at hl
    generalize pcs s = l at *
    match l, hl with
    | [a, b, c, d], _ => rw [four]; exact this
  · rw [if_neg h] at this ⊢; exact this
theorem pv_range (l : List ByteArray) : ∀ out large, 0 ≤ out → out < 4294967296 → 0 ≤ (pv l out large).1 ∧ (pv l out large).1 < 4294967296 := by
  induction l with
  | nil => intro out large h0 h1; unfold pv; split <;> simp <;> omega
  | cons w l ih =>
    intro out large h0 h1
    unfold pv
    by_cases h : (Vk.nv w).2 = true
    · rw [if_pos h]
      refine ih _ _ ?_ ?_
      · unfold Go.bits; simp only [IntKind.wrap_u32]; omega
      · unfold Go.bits; simp only [IntKind.wrap_u32]; omega
    · rw [if_neg h]; simp
theorem rdv_range (s : ByteArray) : 0 ≤ (rdv s).1 ∧ (rdv s).1 < 4294967296 := by
  unfold rdv; split
  · exact pv_range _ _ _ (by decide) (by decide)
  · simp
theorem pv_err (l : List ByteArray) : ∀ out large, (pv l out large).2 = 0 ∨ (pv l out large).2 = 10 ∨ (pv l out large).2 = 11 := by
  induction l with
  | nil => intro out large; unfold pv; split <;> simp
  | cons w l ih =>
    intro out large
    unfold pv; split
    · exact ih _ _
    · simp
theorem rdv_err (s : ByteArray) : (rdv s).2 = 0 ∨ (rdv s).2 = 10 ∨ (rdv s).2 = 11 := by
  unfold rdv; split
  · exact pv_err _ _ _
  · simp
end Go.Proofs.YtbdcaadehfbnbaaDoor.RdAddrWrites
