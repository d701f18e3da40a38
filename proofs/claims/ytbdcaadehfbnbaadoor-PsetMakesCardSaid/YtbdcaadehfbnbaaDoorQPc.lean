/- cover and within come to the blocks of a set. -/
import Derived.Test.YtbdcaadehfbnbaaDoorQPa
namespace Go.Proofs.YtbdcaadehfbnbaaDoor.Pc
open Go Go.RowKit Go.Proofs.YtbdcaadehfbnbaaDoorW.PrintWords Go.Proofs.YtbdcaadehfbnbaaDoorW.PrintLast Go.Proofs.YtbdcaadehfbnbaaDoorW.PrintMore Go.Proofs.YtbdcaadehfbnbaaDoor.Pl Go.Proofs.YtbdcaadehfbnbaaDoor.Bm Go.Proofs.YtbdcaadehfbnbaaDoor.GPsetMakes Go.Proofs.YtbdcaadehfbnbaaDoor.PxPsetMakes Go.Proofs.YtbdcaadehfbnbaaDoor.Cn Go.Proofs.YtbdcaadehfbnbaaDoor.Pa
set_option linter.unusedVariables false
set_option linter.unusedSimpArgs false
theorem cl_eq (k : Nat) (x5 : List (S24)) (x12 : List (S24)) (x13 : Int) (x14 : Int) (x203000 : Int) (x203001 : Int) : patchbayref2_cover.l0 (k + 1) x5 x12 x13 x14 x203000 x203001 = if x14 < x13 then (if 0 ≤ x14 then (if x14 < (x12.length : Int) then ((patchbayref2_Below.f k x203000 x203001 ((rd_T24 x12 x14).f0) ((rd_T24 x12 x14).f1)).bind fun t205 => (if t205 = true then (some (([(⟨x203000, x203001⟩ : S24)] : List (S24)))) else ((patchbayref2_Below.f k ((rd_T24 x12 x14).f0) ((rd_T24 x12 x14).f1) x203000 x203001).bind fun t209 => (if t209 = true then (if x5.length < 8796093022208 then (patchbayref2_cover.l0 k (x5 ++ [(⟨(rd_T24 x12 x14).f0, (rd_T24 x12 x14).f1⟩ : S24)]) x12 x13 (wrap64 (x14 + 1)) x203000 x203001) else (none)) else (patchbayref2_cover.l0 k x5 x12 x13 (wrap64 (x14 + 1)) x203000 x203001))))) else (none)) else (none)) else (if (x5.length : Int) = 0 then (some ([] : List (S24))) else ((patchbayref2_halves.f k x203000 x203001).bind fun bt213 => ((patchbayref2_cover.f k bt213.1 bt213.2.1 x5).bind fun t219 => ((patchbayref2_cover.f k bt213.2.2.1 bt213.2.2.2 x5).bind fun t222 => (if (t219.length : Int) = 1 then (if (t222.length : Int) = 1 then (if 0 < (t219.length : Int) then (if (((rd_T24 t219 0).f0) == bt213.1 && (((rd_T24 t219 0).f1) == bt213.2.1)) = true then (if 0 < (t222.length : Int) then (if (((rd_T24 t222 0).f0) == bt213.2.2.1 && (((rd_T24 t222 0).f1) == bt213.2.2.2)) = true then (some (([(⟨x203000, x203001⟩ : S24)] : List (S24)))) else ((some (([] : List (S24)) : List (S24))).bind fun y230 => (if y230.length + t219.length < 8796093022208 then ((some (y230 ++ t219 : List (S24))).bind fun y233 => (if y233.length + t222.length < 8796093022208 then (some (y233 ++ t222)) else (none))) else (none)))) else (none)) else ((some (([] : List (S24)) : List (S24))).bind fun y239 => (if y239.length + t219.length < 8796093022208 then ((some (y239 ++ t219 : List (S24))).bind fun y242 => (if y242.length + t222.length < 8796093022208 then (some (y242 ++ t222)) else (none))) else (none)))) else (none)) else ((some (([] : List (S24)) : List (S24))).bind fun y248 => (if y248.length + t219.length < 8796093022208 then ((some (y248 ++ t219 : List (S24))).bind fun y251 => (if y251.length + t222.length < 8796093022208 then (some (y251 ++ t222)) else (none))) else (none)))) else ((some (([] : List (S24)) : List (S24))).bind fun y257 => (if y257.length + t219.length < 8796093022208 then ((some (y257 ++ t219 : List (S24))).bind fun y260 => (if y260.length + t222.length < 8796093022208 then (some (y260 ++ t222)) else (none))) else (none)))))))) := rfl
theorem cf_eq (k : Nat) (a0_0 : Int) (a0_1 : Int) (l1 : List (S24)) : patchbayref2_cover.f (k + 1) a0_0 a0_1 l1 = patchbayref2_cover.l0 k ([] : List (S24)) l1 (l1.length : Int) 0 a0_0 a0_1 := rfl
theorem wf_eq (k : Nat) (a0_0 : Int) (a0_1 : Int) (a1 : Int) (a2 : Int) : patchbayref2_within.f (k + 1) a0_0 a0_1 a1 a2 = (patchbayref2_Block.f k a0_1).bind fun t282 => (if ((a0_0 + (IntKind.u64.wrap (t282 - 1))) % 4294967296) < a1 then (patchbayref2_within.j0 k a1 a2 ((a0_0 + (IntKind.u64.wrap (t282 - 1))) % 4294967296) true a0_0 a0_1) else (patchbayref2_within.j0 k a1 a2 ((a0_0 + (IntKind.u64.wrap (t282 - 1))) % 4294967296) (decide (a0_0 > a2)) a0_0 a0_1)) := rfl
theorem wj0_eq (k : Nat) (x1 : Int) (x2 : Int) (x7 : Int) (x18 : Bool) (x282000 : Int) (x282001 : Int) : patchbayref2_within.j0 (k + 1) x1 x2 x7 x18 x282000 x282001 = if x18 = true then (some ([] : List (S24))) else (if x1 ≤ x282000 then (patchbayref2_within.j1 k x1 x2 (decide (x7 ≤ x2)) x282000 x282001) else (patchbayref2_within.j1 k x1 x2 false x282000 x282001)) := rfl
theorem wj1_eq (k : Nat) (x1 : Int) (x2 : Int) (x28 : Bool) (x282000 : Int) (x282001 : Int) : patchbayref2_within.j1 (k + 1) x1 x2 x28 x282000 x282001 = if x28 = true then (some (([(⟨x282000, x282001⟩ : S24)] : List (S24)))) else ((patchbayref2_halves.f k x282000 x282001).bind fun bt286 => ((some (([] : List (S24)) : List (S24))).bind fun y292 => ((patchbayref2_within.f k bt286.1 bt286.2.1 x1 x2).bind fun t295 => (if y292.length + t295.length < 8796093022208 then ((some (y292 ++ t295 : List (S24))).bind fun y298 => ((patchbayref2_within.f k bt286.2.2.1 bt286.2.2.2 x1 x2).bind fun t301 => (if y298.length + t301.length < 8796093022208 then (some (y298 ++ t301)) else (none)))) else (none))))) := rfl

theorem tail_ev (A C : List S24) (h : A.length + C.length < 8796093022208) : Ev (fun _ : Nat => ((some (([] : List (S24)) : List (S24))).bind fun y => (if y.length + A.length < 8796093022208 then ((some (y ++ A : List (S24))).bind fun z => (if z.length + C.length < 8796093022208 then (some (z ++ C)) else (none))) else (none)))) (A ++ C) := by
  refine Ev.bind (g := fun _ => some ([] : List S24)) (Ev.now _) (Ev.pos (by simp; omega) ?_)
  refine Ev.bind (g := fun _ => some ([] ++ A : List S24)) (Ev.now _) (Ev.pos (by simp; omega) (Ev.val (by simp)))
theorem cover_end (j b : Nat) (M : List (Nat × Nat)) (X : List S24) (n : Nat) (hM : ∀ q ∈ M, Blk q) (hb : Blk (b, j)) (hs : ∀ q ∈ M, sub q (b, j) ∧ ¬ sub (b, j) q)
    (ih : ∀ j', j = j' + 1 → ∀ b', Blk (b', j') → Ev (fun k => patchbayref2_cover.f k (b' : Int) (32 - (j' : Int)) (M.map tq)) ((can (U M) j' b').map toS)) :
    Ev (fun k => patchbayref2_cover.l0 k (M.map tq) X (n : Int) (n : Int) (b : Int) (32 - (j : Int))) ((can (U M) j b).map toS) := by
  refine Ev.step (fun k => cl_eq k _ _ _ _ _ _) (Ev.neg (by omega) ?_)
  cases M with
  | nil =>
    refine Ev.pos rfl (Ev.val ?_)
    rw [can_none j b (fun x _ _ q => by obtain ⟨q, hq, _⟩ := q; cases hq)]
    rfl
  | cons q0 M' =>
    generalize hMM : q0 :: M' = M at *
    have hlen : M.length ≠ 0 := by rw [← hMM]; simp
    have hq0 : q0 ∈ M := by rw [← hMM]; exact List.mem_cons_self
    have hj0 : q0.2 < j := by
      obtain ⟨h1, h2⟩ := hs q0 hq0
      rcases Nat.lt_or_ge q0.2 j with g | g
      · exact g
      · exfalso
        have e : q0.2 = j := Nat.le_antisymm h1.1 g
        refine h2 ⟨by show j ≤ _; omega, ?_, ?_⟩
        · have hd : 2 ^ j ∣ q0.1 := e ▸ (hM q0 hq0).dvd
          have hd2 : 2 ^ j ∣ b := hb.dvd
          have h3 : b ≤ q0.1 := h1.2.1
          have h4 : q0.1 < b + 2 ^ j := h1.2.2
          show q0.1 ≤ b
          rcases Nat.lt_or_ge b q0.1 with g2 | g2
          · have := between hd hd2 g2; omega
          · exact g2
        · have h3 : b ≤ q0.1 := h1.2.1
          have := Nat.two_pow_pos q0.2
          show b < q0.1 + 2 ^ q0.2
          omega
    cases j with
    | zero => omega
    | succ j =>
      have hl : j + 1 ≤ 32 := hb.le
      obtain ⟨hlow, hhigh⟩ := halves_blk hb
      have e2 : 2 ^ (j + 1) = 2 ^ j + 2 ^ j := by rw [Nat.pow_succ]; omega
      have hp := Nat.two_pow_pos j
      refine Ev.neg (by rw [List.length_map]; omega) (Ev.bind (halves_ev b j hb) ?_)
      refine Ev.bind (ih j rfl b hlow) (Ev.bind (ih j rfl (b + 2 ^ j) hhigh) ?_)
      have e32 : ((32 - j : Nat) : Int) = 32 - (j : Int) := by omega
      by_cases hf : full (U M) (j + 1) b
      · have f1 : full (U M) j b := fun x h1 h2 => hf x h1 (by omega)
        have f2 : full (U M) j (b + 2 ^ j) := fun x h1 h2 => hf x (by omega) (by omega)
        rw [can_full f1, can_full f2, can_full hf]
        refine Ev.pos rfl (Ev.pos rfl (Ev.pos (by simp) (Ev.pos ?_ (Ev.pos (by simp) (Ev.pos ?_ (Ev.val ?_))))))
        · show (((b : Int) == (b : Int)) && (((32 - j : Nat) : Int) == 32 - (j : Int))) = true
          rw [e32]; simp
        · show ((((b + 2 ^ j : Nat) : Int) == ((b + 2 ^ j : Nat) : Int)) && (((32 - j : Nat) : Int) == 32 - (j : Int))) = true
          rw [e32]; simp
        · show [(⟨(b : Int), 32 - ((j + 1 : Nat) : Int)⟩ : S24)] = [toS (b, 32 - (j + 1))]
          rw [toS_tq b (j + 1) hl]; rfl
      · rw [can_step hf, List.map_append]
        have l1 : (can (U M) j b).length ≤ 4294967296 := Nat.le_trans (len_can _ _ _) (pow_le32 (by omega))
        have l2 : (can (U M) j (b + 2 ^ j)).length ≤ 4294967296 := Nat.le_trans (len_can _ _ _) (pow_le32 (by omega))
        have T := tail_ev ((can (U M) j b).map toS) ((can (U M) j (b + 2 ^ j)).map toS) (by rw [List.length_map, List.length_map]; omega)
        by_cases c1 : (((can (U M) j b).map toS).length : Int) = 1
        · refine Ev.pos c1 ?_
          by_cases c2 : (((can (U M) j (b + 2 ^ j)).map toS).length : Int) = 1
          · refine Ev.pos c2 (Ev.pos (by omega) ?_)
            by_cases c3 : (((rd_T24 ((can (U M) j b).map toS) 0).f0) == (b : Int) && (((rd_T24 ((can (U M) j b).map toS) 0).f1) == 32 - (j : Int))) = true
            · refine Ev.pos c3 (Ev.pos (by omega) ?_)
              by_cases c4 : (((rd_T24 ((can (U M) j (b + 2 ^ j)).map toS) 0).f0) == ((b + 2 ^ j : Nat) : Int) && (((rd_T24 ((can (U M) j (b + 2 ^ j)).map toS) 0).f1) == 32 - (j : Int))) = true
              · exfalso
                have one : ∀ b', (((can (U M) j b').map toS).length : Int) = 1 → (((rd_T24 ((can (U M) j b').map toS) 0).f0) == (b' : Int) && (((rd_T24 ((can (U M) j b').map toS) 0).f1) == 32 - (j : Int))) = true → full (U M) j b' := by
                  intro b' h1 h2
                  refine single (by omega) ?_
                  rw [List.length_map] at h1
                  match hc : can (U M) j b', h1 with
                  | [p], _ =>
                    rw [hc] at h2
                    have h3 : (((p.1 : Int) == (b' : Int)) && ((p.2 : Int) == 32 - (j : Int))) = true := h2
                    rw [Bool.and_eq_true, beq_iff_eq, beq_iff_eq] at h3
                    congr 1
                    exact Prod.ext (by show p.1 = b'; omega) (by show p.2 = 32 - j; omega)
                  | [], h1 => simp at h1
                  | p :: q :: r, h1 => simp at h1; omega
                have g1 := one b c1 c3
                have g2 := one (b + 2 ^ j) c2 c4
                refine hf fun x h1 h2 => ?_
                rcases Nat.lt_or_ge x (b + 2 ^ j) with q | q
                · exact g1 x h1 q
                · exact g2 x q (by omega)
              · exact Ev.neg c4 T
            · exact Ev.neg c3 T
          · exact Ev.neg c2 T
        · exact Ev.neg c1 T
theorem cover_loop (j b : Nat) (hb : Blk (b, j)) (L : List (Nat × Nat)) (hL : ∀ q ∈ L, Blk q) (hl : L.length ≤ 1000) (R : List S24) (d : Nat) : ∀ (i : Nat) (M : List (Nat × Nat)), i + d = L.length → M.length ≤ i →
    ((∃ q ∈ L.drop i, sub (b, j) q) → R = [tq (b, j)]) →
    ((¬ ∃ q ∈ L.drop i, sub (b, j) q) → Ev (fun k => patchbayref2_cover.l0 k ((M ++ (L.drop i).filter (fun q => decide (sub q (b, j)))).map tq) (L.map tq) (L.length : Int) (L.length : Int) (b : Int) (32 - (j : Int))) R) →
    Ev (fun k => patchbayref2_cover.l0 k (M.map tq) (L.map tq) (L.length : Int) (i : Int) (b : Int) (32 - (j : Int))) R := by
  induction d with
  | zero =>
    intro i M hi hm h1 h2
    have e : L.drop i = [] := List.drop_of_length_le (by omega)
    rw [e] at h2
    have := h2 (fun q => by obtain ⟨q, hq, _⟩ := q; cases hq)
    rw [List.filter_nil, List.append_nil] at this
    rw [show (i : Int) = (L.length : Int) by omega]
    exact this
  | succ d ih =>
    intro i M hi hm h1 h2
    have hil : i < L.length := by omega
    have hd : L.drop i = L[i] :: L.drop (i + 1) := List.drop_eq_getElem_cons hil
    have hr : rd_T24 (L.map tq) (i : Int) = tq L[i] := by
      show (L.map tq).getD (i : Int).toNat z24 = _
      rw [Int.toNat_natCast, List.getD_eq_getElem?_getD, List.getElem?_map, List.getElem?_eq_getElem hil]; rfl
    have hq := hL _ (List.getElem_mem hil)
    rw [hd] at h1 h2
    refine Ev.step (fun k => cl_eq k _ _ _ _ _ _) (Ev.pos (by omega) (Ev.pos (by omega) (Ev.pos (by rw [List.length_map]; omega) ?_)))
    rw [hr, plus1 i (by omega)]
    generalize L[i] = q at *
    refine Ev.bind (Below_ev (b, j) q hb hq) ?_
    by_cases g : sub (b, j) q
    · refine Ev.pos (decide_eq_true g) (Ev.val ?_)
      rw [h1 ⟨q, List.mem_cons_self, g⟩]; rfl
    · refine Ev.neg (by simpa using g) (Ev.bind (Below_ev q (b, j) hq hb) ?_)
      have h1' : (∃ q ∈ L.drop (i + 1), sub (b, j) q) → R = [tq (b, j)] := fun ⟨p, hp, hs⟩ => h1 ⟨p, List.mem_cons_of_mem _ hp, hs⟩
      have h2' : (¬ ∃ q ∈ L.drop (i + 1), sub (b, j) q) → ¬ ∃ p ∈ q :: L.drop (i + 1), sub (b, j) p := by
        rintro hn ⟨p, hp, hs⟩
        rcases List.mem_cons.1 hp with rfl | hp
        · exact g hs
        · exact hn ⟨p, hp, hs⟩
      by_cases g2 : sub q (b, j)
      · refine Ev.pos (decide_eq_true g2) (Ev.pos (by rw [List.length_map]; omega) ?_)
        have e : M.map tq ++ [(⟨(tq q).f0, (tq q).f1⟩ : S24)] = (M ++ [q]).map tq := by rw [List.map_append]; rfl
        rw [e]
        refine ih (i + 1) (M ++ [q]) (by omega) (by rw [List.length_append]; simp; omega) h1' (fun hn => ?_)
        have := h2 (h2' hn)
        rw [List.filter_cons_of_pos (by simpa using g2)] at this
        simpa using this
      · refine Ev.neg (by simpa using g2) ?_
        refine ih (i + 1) M (by omega) (by omega) h1' (fun hn => ?_)
        have := h2 (h2' hn)
        rw [List.filter_cons_of_neg (by simpa using g2)] at this
        exact this
theorem cover_ev (j : Nat) : ∀ (b : Nat) (L : List (Nat × Nat)), Blk (b, j) → (∀ q ∈ L, Blk q) → L.length ≤ 1000 → Ev (fun k => patchbayref2_cover.f k (b : Int) (32 - (j : Int)) (L.map tq)) ((can (U L) j b).map toS) := by
  induction j with
  | zero => exact fun b L hb hL hl => main 0 (fun j' h => by omega) b L hb hL hl
  | succ j ih => exact fun b L hb hL hl => main (j + 1) (fun j' h b L => by obtain rfl : j = j' := by omega
                                                                            exact ih b L) b L hb hL hl
where
  main (j : Nat) (ih : ∀ j', j = j' + 1 → ∀ (b : Nat) (L : List (Nat × Nat)), Blk (b, j') → (∀ q ∈ L, Blk q) → L.length ≤ 1000 → Ev (fun k => patchbayref2_cover.f k (b : Int) (32 - (j' : Int)) (L.map tq)) ((can (U L) j' b).map toS)) (b : Nat) (L : List (Nat × Nat)) (hb : Blk (b, j)) (hL : ∀ q ∈ L, Blk q) (hl : L.length ≤ 1000) : Ev (fun k => patchbayref2_cover.f k (b : Int) (32 - (j : Int)) (L.map tq)) ((can (U L) j b).map toS) := by
    refine Ev.step (fun k => cf_eq k _ _ _) ?_
    rw [List.length_map]
    refine cover_loop j b hb L hL hl _ L.length 0 [] (by omega) (by simp) ?_ ?_
    · rintro ⟨q, hq, hs⟩
      have hq' : q ∈ L := by simpa using hq
      have he := sub_end hb.dvd (hL q hq').dvd hs
      have hf : full (U L) j b := fun x h1 h2 => ⟨q, hq', by have g : q.1 ≤ b := hs.2.1; omega, by have g : b + 2 ^ j ≤ q.1 + 2 ^ q.2 := he; omega⟩
      rw [can_full hf]
      show [toS (b, 32 - j)] = _
      rw [toS_tq b j hb.le]
    · intro hn
      rw [List.drop_zero, List.nil_append]
      rw [List.drop_zero] at hn
      have hMm : ∀ q ∈ L.filter (fun q => decide (sub q (b, j))), q ∈ L ∧ sub q (b, j) := fun q hq => by
        have := List.mem_filter.1 hq
        exact ⟨this.1, by simpa using this.2⟩
      have hcon : ∀ x, b ≤ x → x < b + 2 ^ j → (U L x ↔ U (L.filter (fun q => decide (sub q (b, j)))) x) := by
        intro x h1 h2
        constructor
        · rintro ⟨q, hq, h3, h4⟩
          rcases nest (hL q hq).dvd hb.dvd x h3 h4 h1 h2 with g | g
          · exact ⟨q, List.mem_filter.2 ⟨hq, by simpa using g⟩, h3, h4⟩
          · exact absurd ⟨q, hq, g⟩ hn
        · rintro ⟨q, hq, h3, h4⟩
          exact ⟨q, (hMm q hq).1, h3, h4⟩
      rw [can_congr j b hcon]
      exact cover_end j b _ _ _ (fun q hq => hL q (hMm q hq).1) hb (fun q hq => ⟨(hMm q hq).2, fun g => hn ⟨q, (hMm q hq).1, g⟩⟩)
        (fun j' hj b' hb' => ih j' hj b' _ hb' (fun q hq => hL q (hMm q hq).1) (Nat.le_trans (List.length_filter_le ..) hl))
theorem within_ev (f t : Nat) (ht : t < 4294967296) (hft : f ≤ t) (j : Nat) : ∀ b, Blk (b, j) → Ev (fun k => patchbayref2_within.f k (b : Int) (32 - (j : Int)) (f : Int) (t : Int)) ((can (iv f (t + 1)) j b).map toS) := by
  have pre : ∀ (j b : Nat) (hb : Blk (b, j)) (R : List S24), (∀ c : Bool, c = decide (b + 2 ^ j ≤ f ∨ t < b) → Ev (fun k => patchbayref2_within.j0 k (f : Int) (t : Int) ((b + 2 ^ j - 1 : Nat) : Int) c (b : Int) (32 - (j : Int))) R) → Ev (fun k => patchbayref2_within.f k (b : Int) (32 - (j : Int)) (f : Int) (t : Int)) R := by
    intro j b hb R h
    have hl : j ≤ 32 := hb.le
    have htop : b + 2 ^ j ≤ 4294967296 := hb.top
    have hp := Nat.two_pow_pos j
    refine Ev.step (fun k => wf_eq k _ _ _ _) (Ev.bind (Block_ev (32 - (j : Int)) (by omega) (by omega)) ?_)
    rw [B_lev j hl]
    have e : ((b : Int) + IntKind.u64.wrap (((2 ^ j : Nat) : Int) - 1)) % 4294967296 = ((b + 2 ^ j - 1 : Nat) : Int) := by
      rw [wrap_u64]; omega
    rw [e]
    by_cases g : b + 2 ^ j ≤ f
    · exact Ev.pos (by omega) (h true (decide_eq_true (Or.inl g)).symm)
    · refine Ev.neg (by omega) (h _ ?_)
      rw [Bool.eq_iff_iff, decide_eq_true_eq, decide_eq_true_eq]
      omega
  have body : ∀ (j b : Nat), Blk (b, j) → (¬ (b + 2 ^ j ≤ f ∨ t < b) → ¬ (f ≤ b ∧ b + 2 ^ j ≤ t + 1) → Ev (fun k => patchbayref2_within.j1 k (f : Int) (t : Int) false (b : Int) (32 - (j : Int))) ((can (iv f (t + 1)) j b).map toS)) → Ev (fun k => patchbayref2_within.f k (b : Int) (32 - (j : Int)) (f : Int) (t : Int)) ((can (iv f (t + 1)) j b).map toS) := by
    intro j b hb h
    have hp := Nat.two_pow_pos j
    refine pre j b hb _ fun c hc => ?_
    refine Ev.step (fun k => wj0_eq k _ _ _ _ _ _) ?_
    by_cases g : b + 2 ^ j ≤ f ∨ t < b
    · refine Ev.pos (by rw [hc]; exact decide_eq_true g) (Ev.val ?_)
      rw [can_none j b (fun x h1 h2 q => by unfold iv at q; omega)]; rfl
    · refine Ev.neg (by rw [hc, decide_eq_false g]; exact Bool.false_ne_true) ?_
      by_cases g2 : f ≤ b
      · refine Ev.pos (by omega) ?_
        by_cases g3 : b + 2 ^ j ≤ t + 1
        · rw [decide_eq_true (show ((b + 2 ^ j - 1 : Nat) : Int) ≤ (t : Int) by omega)]
          refine Ev.step (fun k => wj1_eq k _ _ _ _ _) (Ev.pos rfl (Ev.val ?_))
          rw [can_full ((full_iv _ _ _ _).2 ⟨g2, g3⟩)]
          show _ = [toS (b, 32 - j)]
          rw [toS_tq b j hb.le]; rfl
        · rw [decide_eq_false (show ¬ ((b + 2 ^ j - 1 : Nat) : Int) ≤ (t : Int) by omega)]
          exact h g (fun q => g3 q.2)
      · exact Ev.neg (by omega) (h g (fun q => g2 q.1))
  induction j with
  | zero =>
    intro b hb
    refine body 0 b hb fun h1 h2 => ?_
    exact absurd ⟨by simp at h1; omega, by simp at h1; simp; omega⟩ h2
  | succ j ih =>
    intro b hb
    refine body (j + 1) b hb fun h1 h2 => ?_
    obtain ⟨hlow, hhigh⟩ := halves_blk hb
    have hl : j + 1 ≤ 32 := hb.le
    have hf : ¬ full (iv f (t + 1)) (j + 1) b := fun q => h2 ((full_iv _ _ _ _).1 q)
    refine Ev.step (fun k => wj1_eq k _ _ _ _ _) (Ev.neg Bool.false_ne_true (Ev.bind (halves_ev b j hb) ?_))
    have l1 : (can (iv f (t + 1)) j b).length ≤ 4294967296 := Nat.le_trans (len_can _ _ _) (pow_le32 (by omega))
    have l2 : (can (iv f (t + 1)) j (b + 2 ^ j)).length ≤ 4294967296 := Nat.le_trans (len_can _ _ _) (pow_le32 (by omega))
    refine Ev.bind (g := fun _ => some ([] : List S24)) (Ev.now _) (Ev.bind (ih b hlow) (Ev.pos (by simp; omega) ?_))
    refine Ev.bind (g := fun _ => some ([] ++ (can (iv f (t + 1)) j b).map toS : List S24)) (Ev.now _) (Ev.bind (ih (b + 2 ^ j) hhigh) (Ev.pos (by simp; omega) (Ev.val ?_)))
    rw [can_step hf, List.map_append]; simp
end Go.Proofs.YtbdcaadehfbnbaaDoor.Pc
