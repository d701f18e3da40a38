/- SortFunc at prefixes, by addr.Compare, in the print's words. -/
import Derived.Test.YtbdcaadehfbnbaaDoorQCg
import Derived.Test.YtbdcaadehfbnbaaDoorQPl
import Derived.Shelf.SlSortCmp.NoneTotal
namespace Go.Proofs.YtbdcaadehfbnbaaDoor.Sr
open Go Go.RowKit Go.Lib Go.Proofs.YtbdcaadehfbnbaaDoorW.PrintWords Go.Proofs.YtbdcaadehfbnbaaDoorW.PrintLast Go.Proofs.YtbdcaadehfbnbaaDoorW.PrintMore Go.Proofs.YtbdcaadehfbnbaaDoor.Pl Go.Proofs.YtbdcaadehfbnbaaDoor.GPsetMakes
open Go.Sort (flatK size_flatK get_flatK HoldsK putRowK grow SWO insertionSort Holds putRow putCells mapBlock onCells)
set_option linter.unusedVariables false
set_option linter.unusedSimpArgs false
instance : Inhabited S24 := ⟨z24⟩
/-- addr.Compare -/
def cf (x y : S24) : Int := if x.f0 < y.f0 then -1 else if y.f0 < x.f0 then 1 else if x.f1 < y.f1 then -1 else if y.f1 < x.f1 then 1 else 0
def c2 (a b : Int) : Int := if a < b then -1 else if a > b then 1 else 0
theorem cmp32_eq (a b : Int) : cmp_Compare_uint32.f a b = some (c2 a b) := by
  unfold cmp_Compare_uint32.f cmp_isNaN_uint32.f c2
  simp only [Option.bind_some, bne_self_eq_false, Bool.false_eq_true, if_false]
  split
  · rfl
  · split <;> rfl
theorem cmpint_eq (a b : Int) : cmp_Compare_int.f a b = some (c2 a b) := by
  unfold cmp_Compare_int.f cmp_isNaN_int.f c2
  simp only [Option.bind_some, bne_self_eq_false, Bool.false_eq_true, if_false]
  split
  · rfl
  · split <;> rfl
theorem or_l0 (k : Nat) (x3 : Int) (x6 : List Int) (x7 x8 : Int) : cmp_Or_int.l0 (k + 1) x3 x6 x7 x8 = if x8 < x7 then (if 0 ≤ x8 then (if x8 < (x6.length : Int) then (if (rd x6 x8) = x3 then (cmp_Or_int.l0 k x3 x6 x7 (wrap64 (x8 + 1))) else (some (rd x6 x8))) else (none)) else (none)) else (some x3) := rfl
theorem or_eq (a b : Int) : cmp_Or_int.f 3 [a, b] = some (if a = 0 then b else a) := by
  show cmp_Or_int.l0 (2 + 1) 0 [a, b] 2 0 = _
  rw [or_l0, if_pos (by decide), if_pos (by decide), if_pos (by simp), show rd [a, b] 0 = a from rfl]
  by_cases h : a = 0
  · rw [if_pos h, if_pos h, w64 (by decide) (by decide)]
    show cmp_Or_int.l0 (1 + 1) 0 [a, b] 2 1 = _
    rw [or_l0, if_pos (by decide), if_pos (by decide), if_pos (by simp), show rd [a, b] 1 = b from rfl]
    by_cases g : b = 0
    · rw [if_pos g, w64 (by decide) (by decide)]
      show cmp_Or_int.l0 (0 + 1) 0 [a, b] 2 2 = _
      rw [or_l0, if_neg (by decide), g]
    · rw [if_neg g]
  · rw [if_neg h, if_neg h]
theorem Compare_eq (x y : S24) : addr_Compare.f 3 x.f0 x.f1 y.f0 y.f1 = some (cf x y) := by
  unfold addr_Compare.f
  rw [cmp32_eq, cmpint_eq]
  simp only [Option.bind_some]
  rw [or_eq]
  simp only [Option.bind_some]
  congr 1
  unfold c2 cf
  by_cases h1 : x.f0 < y.f0
  · rw [if_pos h1, if_pos h1, if_neg (by decide)]
  · by_cases h2 : y.f0 < x.f0
    · rw [if_neg h1, if_neg h1, if_pos h2, if_pos h2, if_neg (by decide)]
    · rw [if_neg h1, if_neg h1, if_neg h2, if_neg h2, if_pos rfl]
theorem ltOf_cf (x y : S24) : ltOf cf x y = decide (x.f0 < y.f0 ∨ (x.f0 = y.f0 ∧ x.f1 < y.f1)) := by
  unfold ltOf cf
  congr 1
  apply propext
  by_cases h1 : x.f0 < y.f0
  · simp [h1]
  · by_cases h2 : y.f0 < x.f0
    · simp [h1, h2]; omega
    · by_cases h3 : x.f1 < y.f1
      · simp [h1, h2, h3]; omega
      · by_cases h4 : y.f1 < x.f1
        · simp [h1, h2, h3, h4]
        · simp [h1, h2, h3, h4]
theorem swo_cf : SWO (ltOf cf) where
  irrefl x := by rw [ltOf_cf]; simp
  trans x y z h1 h2 := by rw [ltOf_cf] at *; simp only [decide_eq_true_eq] at *; omega
  ntrans x y z h1 h2 := by rw [ltOf_cf] at *; simp only [decide_eq_false_iff_not] at *; omega
/-- the sorted list -/
def srt (xs : List S24) : List S24 := (insertionSort (ltOf cf) xs.toArray 0 xs.length).toList
theorem srt_spec (xs : List S24) : (srt xs).length = xs.length ∧ (srt xs).Perm xs ∧ ∀ i j, i < j → j < xs.length → ltOf cf ((srt xs).getD j z24) ((srt xs).getD i z24) = false := by
  have h := Go.Sort.insertionSort_holds (lt := ltOf cf) swo_cf xs.toArray 0 xs.length (Nat.zero_le _) (Nat.le_refl _)
  obtain ⟨⟨hs, _, hp⟩, ho⟩ := h
  have hs' : (insertionSort (ltOf cf) xs.toArray 0 xs.length).size = xs.length := hs
  refine ⟨by unfold srt; rw [Array.length_toList]; exact hs', ?_, ?_⟩
  · unfold srt
    have e1 : (insertionSort (ltOf cf) xs.toArray 0 xs.length).extract 0 xs.length = insertionSort (ltOf cf) xs.toArray 0 xs.length := by
      have g := Array.extract_size (xs := insertionSort (ltOf cf) xs.toArray 0 xs.length)
      rw [hs'] at g; exact g
    have e2 : xs.toArray.extract 0 xs.length = xs.toArray := by
      exact Array.extract_size (xs := xs.toArray)
    rw [e1, e2] at hp
    simpa using hp
  · intro i j hij hj
    have g := ho i j (Nat.zero_le _) hij hj
    have get : ∀ k, k < xs.length → (insertionSort (ltOf cf) xs.toArray 0 xs.length)[k]! = (srt xs).getD k z24 := by
      intro k hk
      unfold srt
      rw [getElem!_pos _ k (by omega), List.getD_eq_getElem?_getD, List.getElem?_eq_getElem (by rw [Array.length_toList]; omega)]
      rfl
    rw [get j hj, get i (by omega)] at g
    exact g
theorem flat_eq (d : Array S24) : (flatK Ck.enc 2 d).toList = Ck.encs24 d.toList := by
  apply List.ext_getElem
  · rw [Array.length_toList, size_flatK, Ck.encs24_length, Array.length_toList]
  · intro t h1 h2
    have ht : t < d.size * 2 := by rw [Array.length_toList, size_flatK] at h1; exact h1
    have g := get_flatK Ck.enc 2 d t ht
    rw [getElem!_pos _ t (by rw [size_flatK]; exact ht)] at g
    rw [Array.getElem_toList, g]
    have hi : t / 2 < d.size := by omega
    have hq := (Ck.reps24 (R := fun x cs => cs = Ck.enc x) (fun x => rfl) d.toList).2 (t / 2) d[t / 2]! (by rw [getElem!_pos d _ hi, List.getElem?_eq_getElem (by rw [Array.length_toList]; exact hi), Array.getElem_toList])
    have e : (Ck.encs24 d.toList)[t]? = (Ck.enc d[t / 2]!)[t % 2]? := by
      rw [← hq, List.getElem?_take_of_lt (show t % 2 < 2 by omega), List.getElem?_drop, show t / 2 * 2 + t % 2 = t by omega]
    have hl : t % 2 < (Ck.enc d[t / 2]!).length := by show t % 2 < 2; omega
    rw [getElem!_pos (Ck.enc d[t / 2]!) (t % 2) hl]
    rw [List.getElem?_eq_getElem h2, List.getElem?_eq_getElem hl] at e
    exact (Option.some.inj e).symm
theorem cmpLays (blk off size : Nat) (w : World) : CmpLays Tryd.prog 15 #[] Ck.enc 2 cf blk off size w := by
  intro m os dk hs x y
  have h := addr_Compare.calls 3 x.f0 x.f1 y.f0 y.f1 (cf x y) (sortWorldK Ck.enc 2 w blk off m dk os) (Compare_eq x y)
  exact h.mono fun e w' hh => hh
theorem heap_mapBlock (w : World) (blk k : Nat) (f : Array Value → Array Value) : (mapBlock w blk f).heap[k]? = if blk = k then w.heap[k]?.map (onCells f) else w.heap[k]? := by
  unfold mapBlock
  exact Array.getElem?_modify ..
theorem sort_calls (A : Option Addr) (c : Nat) (xs : List S24) (W : World) (base : Nat) (HO : Kd.R k24 24 W base (fun _ => True) (.slice A xs.length c) xs) (hbase : base ≤ W.heap.size) (h12 : xs.length ≤ 12) :
    Calls Tryd.prog 72 #[.slice A xs.length c, .func (.func 15) #[] #[]] W fun e W' => e = .returned (.tuple #[]) ∧ Kd.R k24 24 W' base (fun _ => True) (.slice A xs.length c) (srt xs) ∧ Below base W W' := by
  rcases Nat.eq_zero_or_pos xs.length with h0 | h0
  · obtain rfl := List.length_eq_zero_iff.1 h0
    refine (AnyF.slices_SortFunc_none Tryd.laysSort A c (.func (.func 15) #[] #[]) W).mono fun e W' hh => ?_
    obtain ⟨rfl, rfl⟩ := hh
    have e0 : srt ([] : List S24) = [] := List.length_eq_zero_iff.1 (srt_spec []).1
    exact ⟨rfl, by rw [e0]; exact HO, Below.refl _ _⟩
  · obtain ⟨inner, ⟨hl, hown⟩, hr⟩ := HO.2
    have hin := Ck.inner24 (fun x cs hk => k24_openM hk) xs inner hr
    subst hin
    rcases hown with ⟨hv, hz⟩ | ⟨g, cap, cur, hv, hg, hheap, hcap, hmax, hsz, htake⟩
    · omega
    injection hv with e1 e2 e3
    subst e1
    subst e3
    change cur.size = c * 2 at hsz
    change cur.toList.take (xs.length * 2) = _ at htake
    have hlt : g < W.heap.size := by
      rcases Nat.lt_or_ge g W.heap.size with q | q
      · exact q
      · rw [Array.getElem?_eq_none q] at hheap; cases hheap
    have hflat : ∀ t, t < xs.length * 2 → (flatK Ck.enc 2 xs.toArray)[t]? = cur[t]? := by
      intro t ht
      rw [← Array.getElem?_toList, flat_eq, ← Array.getElem?_toList]
      show (Ck.encs24 xs)[t]? = _
      rw [← htake, List.getElem?_take_of_lt (by exact ht)]
    have hH : HoldsK Ck.enc 2 W g 0 xs.toArray := by
      intro j hj
      have hj' : j < xs.length * 2 := by simpa using hj
      have hc := hflat j hj'
      have hjc : j < cur.size := by rw [hsz]; omega
      refine ⟨?_, ?_⟩
      · unfold World.cell?
        simp only [hheap, Nat.zero_add]
        rw [if_neg (by simp), ← hc, Array.getElem?_eq_getElem hj, getElem!_pos _ j hj]; rfl
      · simp [World.frozen?, hheap]
    have eg : ∀ args w, (callFunc 15 args).run Tryd.prog w = .ok (.enter 15 args) w := enters_of Tryd.func15 (by kernel_rfl) rfl
    have hlen : ∀ (n : Nat) (W : World), n ≤ 12 → Calls Tryd.prog 92 #[.int .u64 n] W fun e w' => (∃ l : Int, e = .returned (.int .i64 l)) ∧ w' = W :=
      fun n W h => (Tryd.bits_Len n W (by omega) (by omega)).mono fun _ _ ⟨he, hw⟩ => ⟨⟨_, he⟩, hw⟩
    have hcon := AnyQ.slices_SortFunc_small Tryd.laysSort 2 Tryd.isAgg24 Tryd.sizeOf24 Ck.enc (fun _ => rfl) (fun x v hv => by simp [Ck.enc] at hv; rcases hv with rfl | rfl <;> rfl) cf 15 #[] g 0 c xs.toArray W eg (cmpLays g 0 _ W) hH hlt h12 hlen
    refine Calls.mono hcon fun e W' hh => ?_
    obtain ⟨rfl, n, os, rfl⟩ := hh
    refine ⟨rfl, ?_, ?_⟩
    · obtain ⟨hs1, _, _⟩ := srt_spec xs
      have hd : (insertionSort (ltOf cf) xs.toArray 0 xs.length).size = xs.length := by
        have gg := hs1
        unfold srt at gg
        rw [Array.length_toList] at gg
        exact gg
      show Kd.R k24 24 (sortWorldK Ck.enc 2 W g 0 n (insertionSort (ltOf cf) xs.toArray 0 xs.length) os) base (fun _ => True) _ _
      have key : Kd.R k24 24 (sortWorldK Ck.enc 2 W g 0 n (insertionSort (ltOf cf) xs.toArray 0 xs.length) os) base (fun _ => True) (.slice (some ⟨g, 0, none⟩) (srt xs).length c) (srt xs) := by
        refine Ck.R_of_own24 ⟨Ck.encs24_length _, Or.inr ⟨g, c, putCells id 0 (flatK Ck.enc 2 (insertionSort (ltOf cf) xs.toArray 0 xs.length)) cur, rfl, hg, ?_, by rw [hs1]; exact hcap, hmax, by simp [putCells, hsz], ?_⟩⟩ (fun _ _ => trivial)
        · unfold sortWorldK putRowK putRow
          show ((mapBlock (Go.Sort.ahead W n) g _).heap ++ os)[g]? = _
          rw [Array.getElem?_append_left (by simp [mapBlock, Go.Sort.ahead]; exact hlt), heap_mapBlock, if_pos rfl]
          show (W.heap[g]?).map _ = _
          rw [hheap]; rfl
        · rw [hs1]
          have hfl := flat_eq (insertionSort (ltOf cf) xs.toArray 0 xs.length)
          rw [show (srt xs) = (insertionSort (ltOf cf) xs.toArray 0 xs.length).toList from rfl, ← hfl]
          generalize hF : flatK Ck.enc 2 (insertionSort (ltOf cf) xs.toArray 0 xs.length) = F at *
          have hFs : F.size = xs.length * 2 := by rw [← hF, size_flatK, hd]
          apply List.ext_getElem?
          intro t
          rcases Nat.lt_or_ge t (xs.length * 2) with q | q
          · rw [List.getElem?_take_of_lt q, Array.getElem?_toList, Array.getElem?_toList]
            unfold putCells
            rw [Array.getElem?_mapIdx, Array.getElem?_eq_getElem (show t < cur.size by rw [hsz]; omega)]
            simp only [Option.map_some]
            rw [if_pos ⟨Nat.zero_le _, by omega⟩, getElem!_pos F (t - 0) (by omega), Array.getElem?_eq_getElem (by omega)]
            rfl
          · rw [List.getElem?_eq_none (by rw [List.length_take]; omega), List.getElem?_eq_none (by rw [Array.length_toList]; omega)]
      rw [hs1] at key
      exact key
    · refine ⟨rfl, rfl, rfl, ?_, fun k hk => ?_⟩
      · show W.heap.size ≤ ((mapBlock (Go.Sort.ahead W n) g _).heap ++ os).size
        simp [mapBlock, Go.Sort.ahead]
      · show ((mapBlock (Go.Sort.ahead W n) g _).heap ++ os)[k]? = _
        rw [Array.getElem?_append_left (by simp [mapBlock, Go.Sort.ahead]; omega), heap_mapBlock, if_neg (by omega)]; rfl
def sortF (xs : List S24) : Option (List S24) := if xs.length ≤ 12 then some (srt xs) else none
theorem sort_len {xs r : List S24} (h : sortF xs = some r) : xs.length = r.length := by
  unfold sortF at h
  by_cases c : xs.length ≤ 12
  · rw [if_pos c] at h
    obtain rfl := Option.some.inj h
    exact (srt_spec xs).1.symm
  · rw [if_neg c] at h; cases h
theorem sortC (A : Option Addr) (c : Nat) (xs r : List S24) (W : World) (base : Nat) (HO : Kd.R k24 24 W base (fun _ => True) (.slice A xs.length c) xs) (hbase : base ≤ W.heap.size) (h : sortF xs = some r) :
    Calls Tryd.prog 72 #[.slice A xs.length c, .func (.func 15) #[] #[]] W fun e W' => e = .returned (.tuple #[]) ∧ Kd.R k24 24 W' base (fun _ => True) (.slice A xs.length c) r ∧ Below base W W' := by
  unfold sortF at h
  by_cases h12 : xs.length ≤ 12
  · rw [if_pos h12] at h
    obtain rfl := Option.some.inj h
    exact sort_calls A c xs W base HO hbase h12
  · rw [if_neg h12] at h; cases h
end Go.Proofs.YtbdcaadehfbnbaaDoor.Sr
