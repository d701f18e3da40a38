/- Library contracts in the print's words: Count, IndexByte, Cut, Itoa; decimal reads a number by Atoi and Itoa. -/
import Derived.Test.YtbdcaadehfbnbaaDoorQVk
import Derived.Lib.CutLaws
import Derived.WalkSmall
namespace Go.Proofs.YtbdcaadehfbnbaaDoor.Vb
open Go Go.RowKit Go.Proofs.YtbdcaadehfbnbaaDoorW.PrintWords Go.Proofs.YtbdcaadehfbnbaaDoorW.PrintLast Go.Proofs.YtbdcaadehfbnbaaDoor.Pl
set_option linter.unusedVariables false
set_option linter.unusedSimpArgs false
def Er (w : World) (g : Nat) : Prop := ∃ ev, w.cell? ⟨g, 0, none⟩ = some ev ∧ (ev = .nilIface ∨ ∃ te pe, ev = .iface te pe)
def Tb (w : World) : Prop := Lib.TabIs Tryd.prog w "internal/strconv.uint64pow10" .u64 Lib.pow10Tab
/-- what the library's functions ask of its variables -/
def Ok (w : World) : Prop := Vk.Ok w ∧ Er w 2 ∧ Er w 3 ∧ Tb w
theorem Er.on {w w' : World} {g : Nat} (h : Er w g) (hb : Below w.heap.size w w') : Er w' g := by
  obtain ⟨ev, h1, h2⟩ := h
  exact ⟨ev, (hb.cell (p := ⟨g, 0, none⟩) (World.block_lt_of_cell? w _ h1)).trans h1, h2⟩
theorem Tb.on {w w' : World} (h : Tb w) (hb : Below w.heap.size w w') : Tb w' := by
  unfold Tb Lib.TabIs at *
  have h2 := h
  unfold World.var? at h2
  cases hg : Tryd.prog.globalNamed "internal/strconv.uint64pow10" with
  | none => rw [hg] at h2; cases h2
  | some g =>
    rw [hg] at h2
    simp only [Option.bind_some] at h2
    have hlt : g < w.heap.size := by
      rcases Nat.lt_or_ge g w.heap.size with q | q
      · exact q
      · rw [Array.getElem?_eq_none q] at h2; cases h2
    exact var?_below hb hg hlt h
theorem Ok.on {w w' : World} (h : Ok w) (hb : Below w.heap.size w w') : Ok w' := ⟨h.1.on hb, h.2.1.on hb, h.2.2.1.on hb, h.2.2.2.on hb⟩
def countF (s sep : ByteArray) : Option Int := if sep.data = #[46] then some (Lib.countByte s.data.toList 46 : Int) else none
theorem count_calls (s sep : ByteArray) (r : Int) (w : World) (h : countF s sep = some r) :
    Calls Tryd.prog 63 #[.string s, .string sep] w fun e w' => e = .returned (.int .i64 r) ∧ Below w.heap.size w w' := by
  unfold countF at h
  by_cases c : sep.data = #[46]
  · rw [if_pos c] at h
    obtain rfl := Option.some.inj h
    obtain ⟨d⟩ := sep
    obtain rfl : d = #[46] := c
    exact (Tryd.strings_Count_one s 46 w).mono fun e w' hh => ⟨hh.1, by rw [hh.2]; exact Below.refl _ _⟩
  · rw [if_neg c] at h; simp at h
def indexF (s : ByteArray) (c : Int) : Option Int := some (Lib.indexByte s.data.toList c.toNat.toUInt8)
theorem index_calls (s : ByteArray) (c r : Int) (w : World) (h : indexF s c = some r) :
    Calls Tryd.prog 64 #[.string s, .int .u8 c] w fun e w' => e = .returned (.int .i64 r) ∧ Below w.heap.size w w' := by
  obtain rfl := Option.some.inj h
  exact (Tryd.strings_IndexByte s c w).mono fun e w' hh => ⟨hh.1, by rw [hh.2]; exact Below.refl _ _⟩
theorem index_one (c : UInt8) : ∀ l : List UInt8, Lib.index l [c] = Lib.indexByte l c
  | [] => rfl
  | b :: l => by
    have ih := index_one c l
    have e : [c].isPrefixOf (b :: l) = (b == c) := by
      simp [List.isPrefixOf, Bool.beq_comm]
    rw [Lib.index, Lib.indexByte, e, ih]
/-- a string cut at a byte's first place -/
def cutv (s : ByteArray) (c : UInt8) : ByteArray × ByteArray × Bool :=
  if 0 ≤ Lib.indexByte s.data.toList c then (s.extract 0 (Lib.indexByte s.data.toList c).toNat, s.extract ((Lib.indexByte s.data.toList c).toNat + 1) s.size, true) else (s, ⟨#[]⟩, false)
def cutF (s sep : ByteArray) : Option (ByteArray × ByteArray × Bool) := if sep.data = #[47] ∧ s.size < 4294967281 then some (cutv s 47) else none
theorem cut_calls (s sep : ByteArray) (r1 r2 : ByteArray) (r3 : Bool) (w : World) (hv : Vk.Ok w) (h : cutF s sep = some (r1, r2, r3)) :
    Calls Tryd.prog 66 #[.string s, .string sep] w fun e w' => e = .returned (.tuple #[.string r1, .string r2, .bool r3]) ∧ Below w.heap.size w w' := by
  unfold cutF at h
  by_cases c : sep.data = #[47] ∧ s.size < 4294967281
  · rw [if_pos c] at h
    obtain ⟨d⟩ := sep
    obtain rfl : d = #[47] := c.1
    obtain ⟨m, hm⟩ := hv
    have e : ((Lib.cut s.data.toList [47]).1.toArray, (Lib.cut s.data.toList [47]).2.1.toArray, (Lib.cut s.data.toList [47]).2.2) = (r1.data, r2.data, r3) := by
      have hh := Option.some.inj h
      have e1 := congrArg Prod.fst hh
      have e2 := congrArg (fun x => x.2.1) hh
      have e3 := congrArg (fun x => x.2.2) hh
      unfold cutv at e1 e2 e3
      unfold Lib.cut
      rw [index_one]
      by_cases g : 0 ≤ Lib.indexByte s.data.toList 47
      · rw [if_pos g] at e1 e2 e3 ⊢
        simp only at e1 e2 e3
        subst e1 e2 e3
        refine Prod.ext ?_ (Prod.ext ?_ rfl)
        · show (List.take _ s.data.toList).toArray = (s.extract 0 _).data
          rw [ByteArray.data_extract]; apply Array.toList_inj.1; simp
        · show (List.drop _ s.data.toList).toArray = (s.extract _ s.size).data
          apply Array.toList_inj.1
          rw [Lib.extract_to_end]; rfl
      · rw [if_neg g] at e1 e2 e3 ⊢
        simp only at e1 e2 e3
        subst e1 e2 e3
        refine Prod.ext ?_ (Prod.ext rfl rfl)
        show s.data.toList.toArray = s.data
        exact Array.toArray_toList
    refine (Tryd.strings_Cut s ⟨#[47]⟩ m w c.2 hm).mono fun e' w' hh => ⟨?_, ?_⟩
    · have e1 := congrArg Prod.fst e
      have e2 := congrArg (fun x => x.2.1) e
      have e3 := congrArg (fun x => x.2.2) e
      simp only at e1 e2 e3
      rw [hh.1]
      show Ending.returned (.tuple #[.string ⟨(Lib.cut s.data.toList [47]).1.toArray⟩, .string ⟨(Lib.cut s.data.toList [47]).2.1.toArray⟩, .bool (Lib.cut s.data.toList [47]).2.2]) = _
      rw [e1, e2, e3]
    · obtain ⟨n, rfl⟩ := hh.2
      exact pw_below_drewN (Below.refl _ _) n
  · rw [if_neg c] at h; simp at h
def itoaF (n : Int) : Option ByteArray := if -9223372036854775808 ≤ n ∧ n ≤ 9223372036854775807 then some ⟨(Lib.itoa n).toArray⟩ else none
theorem itoa_below {w w' : World} (h : ∃ k os, w' = Go.Sort.grow (w.drewN k) os) : Below w.heap.size w w' := by
  obtain ⟨k, os, rfl⟩ := h
  refine ⟨rfl, rfl, rfl, ?_, fun i hi => ?_⟩
  · show w.heap.size ≤ (Go.Sort.grow (w.drewN k) os).heap.size
    rw [Go.Sort.size_grow]; exact Nat.le_add_right _ _
  · show ((w.drewN k).heap ++ os)[i]? = w.heap[i]?
    exact Array.getElem?_append_left hi
theorem itoa_calls (n : Int) (r : ByteArray) (w : World) (hv : Tb w) (h : itoaF n = some r) :
    Calls Tryd.prog 67 #[.int .i64 n] w fun e w' => e = .returned (.string r) ∧ Below w.heap.size w w' := by
  unfold itoaF at h
  by_cases c : -9223372036854775808 ≤ n ∧ n ≤ 9223372036854775807
  · rw [if_pos c] at h
    obtain rfl := Option.some.inj h
    exact (Tryd.strconv_Itoa n c.1 c.2 w hv).mono fun e w' hh => ⟨hh.1, itoa_below hh.2⟩
  · rw [if_neg c] at h; simp at h
theorem ok_range {l : List UInt8} {v : Int} (h : Lib.atoiAll l = .ok v) : -9223372036854775808 ≤ v ∧ v ≤ 9223372036854775807 := by
  unfold Lib.atoiAll at h
  cases l with
  | nil => cases h
  | cons c r =>
    simp only at h
    generalize Lib.parseMag (if c.toNat = 43 ∨ c.toNat = 45 then r else c :: r) = m at h
    cases m with
    | «syntax» => cases h
    | range => cases h
    | ok u =>
      simp only at h
      by_cases hn : c.toNat = 45
      · simp only [hn, not_true_eq_false, false_and, if_false, true_and, if_true] at h
        by_cases g : 9223372036854775808 < u
        · rw [if_pos g] at h; cases h
        · rw [if_neg g] at h; injection h with h; omega
      · simp only [hn, not_false_eq_true, true_and, false_and, if_false] at h
        by_cases g : 9223372036854775808 ≤ u
        · rw [if_pos g] at h; cases h
        · rw [if_neg g] at h; injection h with h; omega
/-- what decimal returns -/
def dcv (s : ByteArray) : Int × Bool := match Lib.atoiAll s.data.toList with
  | .ok v => (v, decide (0 ≤ v) && (decide (s.size ≤ 3) && decide (Lib.itoa v = s.data.toList)))
  | .«syntax» => (0, false)
  | .range => (Lib.atoiSat s.data.toList, false)
def dcF (s : ByteArray) : Option (Int × Bool) := if s.size ≤ 281474976710656 then some (dcv s) else none
theorem bytes_below (w : World) (t : ByteArray) : Below w.heap.size w (Lib.bytesWorld w 5 t) := Nb.below_bytes (Below.refl _ _) t
theorem atoi_below {w w' : World} (h : w' = w ∨ ∃ t, w' = Lib.bytesWorld w 5 t) : Below w.heap.size w w' := by
  rcases h with rfl | ⟨t, rfl⟩
  · exact Below.refl _ _
  · exact bytes_below w t
set_option maxHeartbeats 8000000 in
set_option maxRecDepth 100000 in
theorem decimal_err (s : ByteArray) (w : World) (x : Int) (N : Nat) (hA : Calls Tryd.prog 85 #[.string s] w fun e w' => ∃ N, e = .returned (.tuple #[.int .i64 x, .iface 133 (.pointer (some ⟨N, 0, none⟩))]) ∧ Below w.heap.size w w') :
    Calls Tryd.prog 65 #[.string s] w fun e w' => e = .returned (.tuple #[.int .i64 x, .bool false]) ∧ Below w.heap.size w w' := by
  have HA := Aside0.mk hA
  clear hA
  go_enter Tryd.func65, Tryd.ntmps65
  go_wp2_with (first | (go_at_call 85; refine HA.out.mono ?_; rintro e w1 ⟨N, rfl, hb⟩; have HB := Aside0.mk hb; clear hb))
  go_ret2
  exact ⟨rfl, Fit.bl HB.out⟩
set_option maxHeartbeats 8000000 in
set_option maxRecDepth 100000 in
theorem decimal_ok (s : ByteArray) (v : Int) (b : Bool) (w : World) (hv : Ok w) (hs : s.size ≤ 281474976710656) (h : Lib.atoiAll s.data.toList = .ok v) (hb : b = (decide (0 ≤ v) && (decide (s.size ≤ 3) && decide (Lib.itoa v = s.data.toList)))) :
    Calls Tryd.prog 65 #[.string s] w fun e w' => e = .returned (.tuple #[.int .i64 v, .bool b]) ∧ Below w.heap.size w w' := by
  have hr := ok_range h
  have HV := Aside0.mk hv
  have H := Aside0.mk h
  have HS := Aside0.mk hs
  have HR := Aside0.mk hr
  have HBt := Aside0.mk hb
  clear hv h hs hb hr
  by_cases h0 : 0 ≤ v
  · have c0 : decide (0 ≤ v) = true := decide_eq_true h0
    by_cases h1 : (s.size : Int) ≤ 3
    · have c1 : decide ((s.size : Int) ≤ 3) = true := decide_eq_true h1
      have c2 : decide (s.size ≤ 3) = true := decide_eq_true (by omega)
      obtain ⟨r, hr⟩ : ∃ r, itoaF v = some r := ⟨_, if_pos HR.out⟩
      have hri : r.data.toList = Lib.itoa v := by
        have := hr
        unfold itoaF at this
        rw [if_pos HR.out] at this
        rw [← Option.some.inj this]
      have HRi := Aside0.mk hr
      have HRd := Aside0.mk hri
      clear hr hri
      by_cases h2 : r.toList = s.toList
      · have c3 : (r.toList == s.toList) = true := beq_iff_eq.2 h2
        have HT := Aside0.mk h2
        clear h2
        go_enter Tryd.func65, Tryd.ntmps65
        go_wp2_with (first | (go_at_call 85; refine (Tryd.strconv_Atoi_ok s (by have := HS.out; omega) v H.out _).mono ?_; rintro e w1 ⟨rfl, hb⟩; have HB := Aside0.mk (atoi_below hb); clear hb) | (go_at_call 67; refine (itoa_calls v r _ (HV.out.2.2.2.on (Fit.bl HB.out)) HRi.out).mono ?_; rintro e w2 ⟨rfl, hb⟩; have n0_ := Aside0.mk (below_step (Fit.bl HB.out) hb); clear HB; have HB := n0_; clear n0_; clear hb))
        go_ret2
        refine ⟨?_, Fit.bl HB.out⟩
        rw [HBt.out, c0, c2, decide_eq_true (show Lib.itoa v = s.data.toList by rw [← HRd.out, ← ByteArray.toList_eq, ← ByteArray.toList_eq]; exact HT.out)]; rfl
      · have c3 : (r.toList == s.toList) = false := beq_eq_false_iff_ne.2 h2
        have HT := Aside0.mk h2
        clear h2
        go_enter Tryd.func65, Tryd.ntmps65
        go_wp2_with (first | (go_at_call 85; refine (Tryd.strconv_Atoi_ok s (by have := HS.out; omega) v H.out _).mono ?_; rintro e w1 ⟨rfl, hb⟩; have HB := Aside0.mk (atoi_below hb); clear hb) | (go_at_call 67; refine (itoa_calls v r _ (HV.out.2.2.2.on (Fit.bl HB.out)) HRi.out).mono ?_; rintro e w2 ⟨rfl, hb⟩; have n0_ := Aside0.mk (below_step (Fit.bl HB.out) hb); clear HB; have HB := n0_; clear n0_; clear hb))
        go_ret2
        refine ⟨?_, Fit.bl HB.out⟩
        rw [HBt.out, decide_eq_false (show ¬ Lib.itoa v = s.data.toList by rw [← HRd.out, ← ByteArray.toList_eq, ← ByteArray.toList_eq]; exact HT.out)]; simp
    · have c1 : decide ((s.size : Int) ≤ 3) = false := decide_eq_false h1
      have c2 : decide (s.size ≤ 3) = false := decide_eq_false (by omega)
      go_enter Tryd.func65, Tryd.ntmps65
      go_wp2_with (first | (go_at_call 85; refine (Tryd.strconv_Atoi_ok s (by have := HS.out; omega) v H.out _).mono ?_; rintro e w1 ⟨rfl, hb⟩; have HB := Aside0.mk (atoi_below hb); clear hb))
      go_ret2
      refine ⟨?_, Fit.bl HB.out⟩
      rw [HBt.out, c2]; simp
  · have c0 : decide (0 ≤ v) = false := decide_eq_false h0
    go_enter Tryd.func65, Tryd.ntmps65
    go_wp2_with (first | (go_at_call 85; refine (Tryd.strconv_Atoi_ok s (by have := HS.out; omega) v H.out _).mono ?_; rintro e w1 ⟨rfl, hb⟩; have HB := Aside0.mk (atoi_below hb); clear hb))
    go_ret2
    refine ⟨?_, Fit.bl HB.out⟩
    rw [HBt.out, c0]; simp
theorem decimal_calls (s : ByteArray) (r1 : Int) (r2 : Bool) (w : World) (hv : Ok w) (h : dcF s = some (r1, r2)) :
    Calls Tryd.prog 65 #[.string s] w fun e w' => e = .returned (.tuple #[.int .i64 r1, .bool r2]) ∧ Below w.heap.size w w' := by
  unfold dcF at h
  by_cases c : s.size ≤ 281474976710656
  · rw [if_pos c] at h
    have hh := Option.some.inj h
    unfold dcv at hh
    cases ha : Lib.atoiAll s.data.toList with
    | ok v =>
      rw [ha] at hh
      have e1 := congrArg Prod.fst hh
      have e2 := congrArg Prod.snd hh
      simp only at e1 e2
      subst e1
      exact decimal_ok s v r2 w hv c ha e2.symm
    | «syntax» =>
      rw [ha] at hh
      have e1 := congrArg Prod.fst hh
      have e2 := congrArg Prod.snd hh
      simp only at e1 e2
      subst e1 e2
      obtain ⟨ev, h1, h2⟩ := hv.2.1
      refine decimal_err s w 0 0 ((Tryd.strconv_Atoi_syntax s c ha ev w h1 h2).mono fun e w' hq => ?_)
      obtain ⟨N, g1, _, _, g2⟩ := hq
      exact ⟨N, g1, g2⟩
    | range =>
      rw [ha] at hh
      have e1 := congrArg Prod.fst hh
      have e2 := congrArg Prod.snd hh
      simp only at e1 e2
      subst e1 e2
      obtain ⟨ev, h1, h2⟩ := hv.2.2.1
      refine decimal_err s w _ 0 ((Tryd.strconv_Atoi_range s c ha ev w h1 h2).mono fun e w' hq => ?_)
      obtain ⟨N, g1, _, _, g2⟩ := hq
      exact ⟨N, g1, g2⟩
  · rw [if_neg c] at h; simp at h
end Go.Proofs.YtbdcaadehfbnbaaDoor.Vb
