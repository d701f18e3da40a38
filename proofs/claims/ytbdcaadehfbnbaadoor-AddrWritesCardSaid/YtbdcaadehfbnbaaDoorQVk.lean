/- Library contracts in the print's words: Split; what number and Split ask of the world. -/
import Derived.Test.YtbdcaadehfbnbaaDoorQSf
import Derived.Test.YtbdcaadehfbnbaaDoorQNb
import Derived.Test.YtbdcaadehfbnbaaDoorQPl
import Derived.Lib.SplitLaws
namespace Go.Proofs.YtbdcaadehfbnbaaDoor.Vk
open Go Go.RowKit Go.Proofs.YtbdcaadehfbnbaaDoorW.PrintWords Go.Proofs.YtbdcaadehfbnbaaDoorW.PrintLast Go.Proofs.YtbdcaadehfbnbaaDoor.Pl
set_option linter.unusedVariables false
/-- the library's variable that Split reads holds a number -/
def Ok (w : World) : Prop := ∃ m, w.cell? ⟨1, 0, none⟩ = some (.int .i64 m)
theorem Ok.on {w w' : World} (h : Ok w) (hb : Below w.heap.size w w') : Ok w' := by
  obtain ⟨m, hm⟩ := h
  exact ⟨m, (hb.cell (p := ⟨1, 0, none⟩) (World.block_lt_of_cell? w _ hm)).trans hm⟩
def splitF (s sep : ByteArray) : Option (List ByteArray) := if 1 ≤ sep.size ∧ s.size < 4294967281 then some (Lib.splitB sep 0 (Lib.countB s sep) s) else none
theorem split_calls (s sep : ByteArray) (r : List ByteArray) (w : World) (hv : Ok w) (h : splitF s sep = some r) :
    Calls Tryd.prog 61 #[.string s, .string sep] w fun e w' => ∃ v0_ : Value, e = .returned (v0_) ∧ Kd.R Kd.string 9 w' w.heap.size (fun _ => True) v0_ r ∧ Below w.heap.size w w' := by
  unfold splitF at h
  by_cases c : 1 ≤ sep.size ∧ s.size < 4294967281
  · rw [if_pos c] at h
    obtain rfl := Option.some.inj h
    obtain ⟨m, hm⟩ := hv
    refine (Tryd.strings_Split s sep m w c.2 hm c.1).mono fun e w' hh => ?_
    obtain ⟨rfl, rfl⟩ := hh
    have hl := Lib.splitB_all sep c.1 0 _ s rfl
    generalize hr : Lib.splitB sep 0 (Lib.countB s sep) s = r at *
    have hcl := Lib.countB_le sep c.1 s.size s (Nat.le_refl _)
    refine ⟨_, rfl, ⟨fun _ _ => trivial, ⟨r.map Value.string, ?_, Kd.reps_scalar r⟩⟩, (Below.refl _ _).alloc (Nat.le_refl _) _⟩
    rw [← hl]
    show World.ownsRow _ _ 9 1 _ _ _
    have := World.ownsRow_lit (base := w.heap.size) (e := 9) (size := 1) w (r.map Value.string).toArray r.length (Nat.le_refl _) (by unfold maxLen; omega) (by simp)
    simpa using this
  · rw [if_neg c] at h; simp at h
/-- the value of a part -/
def nvf (s : ByteArray) : Int → Nat → Nat → Int × Bool
  | acc, _, 0 => (acc, true)
  | acc, i, d + 1 => if bt s i < 48 then (0, false) else if bt s i > 57 then (0, false) else nvf s (10 * acc + (bt s i - 48)) (i + 1) d
def nv (s : ByteArray) : Int × Bool := if s.size = 0 ∨ 3 < s.size ∨ (1 < s.size ∧ bt s 0 = 48) then (0, false) else nvf s 0 0 s.size
theorem nvf_ev (s : ByteArray) (hs : s.size ≤ 3) (d : Nat) : ∀ (i : Nat) (acc : Int), i + d = s.size → 0 ≤ acc → acc < 10 ^ i →
    Ev (fun k => Nf.addr_number.l0 k acc s (s.size : Int) (i : Int)) (nvf s acc i d) := by
  induction d with
  | zero =>
    intro i acc hi h0 h1
    exact Ev.step (fun k => rfl) (Ev.neg (by omega) (Ev.now _))
  | succ d ih =>
    intro i acc hi h0 h1
    have hp : (10 : Int) ^ i ≤ 100 := by
      have : i = 0 ∨ i = 1 ∨ i = 2 := by omega
      rcases this with rfl | rfl | rfl <;> decide
    have hq : (10 : Int) ^ (i + 1) = 10 * 10 ^ i := by rw [Int.pow_succ]; omega
    have hb := bt_range s i
    refine Ev.step (fun k => rfl) (Ev.pos (by omega) (Ev.pos (by omega) (Ev.pos (by omega) ?_)))
    by_cases g1 : bt s (i : Int) < 48
    · exact Ev.pos g1 (Ev.val (by unfold nvf; rw [if_pos g1]))
    by_cases g2 : bt s (i : Int) > 57
    · exact Ev.neg g1 (Ev.pos g2 (Ev.val (by unfold nvf; rw [if_neg g1, if_pos g2])))
    refine Ev.neg g1 (Ev.neg g2 ?_)
    have e1 : wrap64 (wrap64 (10 * acc) + (bt s i - 48) % 256) = 10 * acc + (bt s i - 48) := by
      rw [w64 (x := 10 * acc) (by omega) (by omega), Int.emod_eq_of_lt (by omega) (by omega), w64 (by omega) (by omega)]
    have e2 : wrap64 ((i : Int) + 1) = ((i + 1 : Nat) : Int) := by rw [w64 (by omega) (by omega)]; omega
    rw [e1, e2]
    have := ih (i + 1) (10 * acc + (bt s i - 48)) (by omega) (by omega) (by omega)
    have e3 : nvf s acc i (d + 1) = nvf s (10 * acc + (bt s i - 48)) (i + 1) d := by rw [nvf, if_neg g1, if_neg g2]
    rw [e3]; exact this
theorem nil_iff (s : ByteArray) : s.toList = ([] : List UInt8) ↔ s.size = 0 := by
  rw [ByteArray.toList_eq]
  have e : s.data.toList.length = s.size := rfl
  rw [← e, List.length_eq_zero_iff]
theorem number_ev (s : ByteArray) (hs : s.size ≤ 4611686018427387904) : Ev (fun k => Nf.addr_number.f k s) (nv s) := by
  have key : ∀ c : Bool, Ev (fun k => Nf.addr_number.j0 k s c) (if c = true then (0, false) else if s.size ≤ 3 then nvf s 0 0 s.size else nv s) ∨ 3 < s.size ∧ c = false := by
    intro c
    by_cases hc : c = true
    · exact Or.inl (Ev.step (fun k => rfl) (Ev.pos hc (Ev.val (if_pos hc).symm)))
    · by_cases h3 : s.size ≤ 3
      · refine Or.inl (Ev.step (fun k => rfl) (Ev.neg hc ?_))
        rw [if_neg hc, if_pos h3]
        exact nvf_ev s h3 s.size 0 0 (by omega) (by omega) (by decide)
      · exact Or.inr ⟨by omega, by simpa using hc⟩
  have kt : Ev (fun k => Nf.addr_number.j0 k s true) (0, false) := Ev.step (fun k => rfl) (Ev.val rfl)
  unfold Nf.addr_number.f nv
  by_cases h0 : s.toList = ([] : List UInt8)
  · have hz := (nil_iff s).1 h0
    rw [if_pos (Or.inl hz)]
    exact Ev.pos h0 kt
  have hz : s.size ≠ 0 := fun h => h0 ((nil_iff s).2 h)
  refine Ev.neg h0 ?_
  by_cases h1 : (s.size : Int) > 3
  · rw [if_pos (Or.inr (Or.inl (by omega)))]
    exact Ev.pos h1 kt
  refine Ev.neg h1 ?_
  have kf : ∀ c : Bool, c = false → Ev (fun k => Nf.addr_number.j0 k s c) (nvf s 0 0 s.size) := by
    intro c hc
    rcases key c with h | h
    · rw [if_neg (by rw [hc]; exact Bool.false_ne_true), if_pos (by omega)] at h; exact h
    · omega
  by_cases h2 : (s.size : Int) > 1
  · refine Ev.pos h2 (Ev.pos (by omega) ?_)
    by_cases h4 : bt s 0 = 48
    · rw [if_pos (Or.inr (Or.inr ⟨by omega, h4⟩))]
      rw [show (bt s 0 == 48) = true from beq_iff_eq.2 h4]; exact kt
    · rw [if_neg (by omega)]
      exact kf _ (beq_eq_false_iff_ne.2 h4)
  · refine Ev.neg h2 ?_
    rw [if_neg (by omega)]
    exact kf _ rfl
def numF (s : ByteArray) : Option (Int × Bool) := if s.size ≤ 4611686018427387904 then some (nv s) else none
theorem number_calls (s : ByteArray) (r1 : Int) (r2 : Bool) (w : World) (h : numF s = some (r1, r2)) :
    Calls Tryd.prog 62 #[.string s] w fun e w' => e = .returned (.tuple #[.int .i64 r1, .bool r2]) ∧ Below w.heap.size w w' := by
  unfold numF at h
  by_cases c : s.size ≤ 4611686018427387904
  · rw [if_pos c] at h
    obtain ⟨k, hk⟩ := (number_ev s c).rounds
    rw [Option.some.inj h] at hk
    exact Nf.addr_number.calls k s r1 r2 w hk
  · rw [if_neg c] at h; simp at h
end Go.Proofs.YtbdcaadehfbnbaaDoor.Vk
