/- The law on addresses and prefixes: AddrWrites comes to true. -/
import Derived.Test.YtbdcaadehfbnbaaDoorQRdAddrWrites
namespace Go.Proofs.YtbdcaadehfbnbaaDoor.Aw
open Go Go.RowKit Go.Proofs.YtbdcaadehfbnbaaDoorW.PrintWords Go.Proofs.YtbdcaadehfbnbaaDoorW.PrintLast Go.Proofs.YtbdcaadehfbnbaaDoorW.PrintMore Go.Proofs.YtbdcaadehfbnbaaDoor.Pl Go.Proofs.YtbdcaadehfbnbaaDoor.Bm Go.Proofs.YtbdcaadehfbnbaaDoor.GAddrWrites Go.Proofs.YtbdcaadehfbnbaaDoor.PxAddrWrites Go.Proofs.YtbdcaadehfbnbaaDoor.RdAddrWrites
set_option linter.unusedVariables false
set_option linter.unusedSimpArgs false
/-- what the readers of prefixes return, by where the stroke stands -/
def prv (s : ByteArray) : Int × Int × Int :=
  if Lib.indexByte s.data.toList 47 < 0 then (0, 0, 11)
  else if (rdv (s.extract 0 (Lib.indexByte s.data.toList 47).toNat)).2 = 11 ∨ (Vk.nv (s.extract ((Lib.indexByte s.data.toList 47).toNat + 1) s.size)).2 = false then (0, 0, 11)
  else if (rdv (s.extract 0 (Lib.indexByte s.data.toList 47).toNat)).2 ≠ 0 ∨ (Vk.nv (s.extract ((Lib.indexByte s.data.toList 47).toNat + 1) s.size)).1 > 32 then (0, 0, 10)
  else if pf (rdv (s.extract 0 (Lib.indexByte s.data.toList 47).toNat)).1 (Vk.nv (s.extract ((Lib.indexByte s.data.toList 47).toNat + 1) s.size)).1 = 0 then ((rdv (s.extract 0 (Lib.indexByte s.data.toList 47).toNat)).1, (Vk.nv (s.extract ((Lib.indexByte s.data.toList 47).toNat + 1) s.size)).1, 0)
  else (0, 0, 3)
theorem r0_eq (k : Nat) (x5 : Int) (x6 : Int) (x7 : Int) (x30 : Bool) : patchbayref2_PrefixRead.j0 (k + 1) x5 x6 x7 x30 = if x30 = true then (some (0, 0, 11)) else (if x6 = 10 then (patchbayref2_PrefixRead.j1 k x5 x7 true) else (patchbayref2_PrefixRead.j1 k x5 x7 (decide (x7 > 32)))) := rfl
theorem r1_eq (k : Nat) (x5 : Int) (x7 : Int) (x38 : Bool) : patchbayref2_PrefixRead.j1 (k + 1) x5 x7 x38 = if x38 = true then (some (0, 0, 10)) else ((patchbayref2_PrefixFault.f k x5 x7).bind fun t169 => (if t169 = 0 then (some (x5, x7, 0)) else (some (0, 0, 3)))) := rfl
theorem pl_eq (k : Nat) (x0 : Int) (x3 : List ByteArray) (x4 : Int) : addr_Print.l0 (k + 1) x0 x3 x4 = if x4 ≥ 0 then (if 0 ≤ x4 then ((strconv_Itoa_67.f (wrap64 (Go.bits .and .u32 (shr .u32 x0 x4) 255))).bind fun t170 => (if x3.length < 8796093022208 then (addr_Print.l0 k x0 (x3 ++ [t170]) (wrap64 (x4 - 8))) else (none))) else (none)) else ((strings_Join.f x3 (⟨#[46]⟩ : ByteArray)).bind fun t174 => (some t174)) := rfl
theorem tl_eq (k : Nat) (x0 : Int) (x3 : ByteArray) (x8 : Int) : patchbayref2_AddrText.l0 (k + 1) x0 x3 x8 = if x8 < 3 then ((strconv_Itoa_67.f ((Int.tdiv x0 256) % 256)).bind fun t176 => (if t176.size + (⟨#[46]⟩ : ByteArray).size ≤ 9223372036854775807 then (if (t176 ++ (⟨#[46]⟩ : ByteArray)).size + x3.size ≤ 9223372036854775807 then (patchbayref2_AddrText.l0 k ((Int.tdiv x0 256) % 4294967296) ((t176 ++ (⟨#[46]⟩ : ByteArray)) ++ x3) (wrap64 (x8 + 1))) else (none)) else (none))) else (some x3) := rfl
theorem w0_eq (k : Nat) (x5 : Int) (x29 : Bool) (x189000 : Int) (x189001 : Int) : patchbaylaw2_AddrWrites.j0 (k + 1) x5 x29 x189000 x189001 = if x29 = true then (some false) else ((addr_PrintPrefix.f k x189000 x189001).bind fun bt194 => ((addr_Last.f x189000 x189001).bind fun bt196 => ((addr_Mask.f x189001).bind fun bt198 => (if bt194.2 = x5 then (patchbaylaw2_AddrWrites.j1 k x5 bt194.1 bt196.1 bt198.1 bt198.2 (bt196.2 != x5) x189000 x189001) else (patchbaylaw2_AddrWrites.j1 k x5 bt194.1 bt196.1 bt198.1 bt198.2 true x189000 x189001))))) := rfl
theorem w1_eq (k : Nat) (x5 : Int) (x6 : ByteArray) (x8 : Int) (x10 : Int) (x11 : Int) (x53 : Bool) (x189000 : Int) (x189001 : Int) : patchbaylaw2_AddrWrites.j1 (k + 1) x5 x6 x8 x10 x11 x53 x189000 x189001 = if x53 = true then (some false) else (if x5 = 10 then (if x6.toList = ([] : List UInt8) then (if x8 = 0 then (if x10 = 0 then (some (x11 == 10)) else (some false)) else (some false)) else (some false)) else ((patchbayref2_Block.f k x189001).bind fun t200 => (if x11 = 0 then (patchbaylaw2_AddrWrites.j2 k x5 x6 x8 t200 ((IntKind.u64.wrap (x10)) != (IntKind.u64.wrap (4294967296 - t200))) x189000 x189001) else (patchbaylaw2_AddrWrites.j2 k x5 x6 x8 t200 true x189000 x189001)))) := rfl
theorem w2_eq (k : Nat) (x5 : Int) (x6 : ByteArray) (x8 : Int) (x12 : Int) (x81 : Bool) (x189000 : Int) (x189001 : Int) : patchbaylaw2_AddrWrites.j2 (k + 1) x5 x6 x8 x12 x81 x189000 x189001 = if x81 = true then (some false) else (if x5 = 0 then ((patchbayref2_PrefixRead.f k x6).bind fun bt201 => (if bt201.2.2 = 0 then (if (bt201.1 == x189000 && (bt201.2.1 == x189001)) = true then (some ((IntKind.u64.wrap (x8)) == (IntKind.u64.wrap ((IntKind.u64.wrap ((IntKind.u64.wrap (x189000)) + x12)) - 1)))) else (some false)) else (some false))) else (if x6.toList = ([] : List UInt8) then (some (x8 == 0)) else (some false))) := rfl

theorem pf_three {a n : Int} (n0 : 0 ≤ n) (n1 : n ≤ 32) (h : pf a n ≠ 0) : pf a n = 3 := by
  unfold pf at *
  rw [if_neg (by omega)] at *
  by_cases g : a % (B n : Int) = 0
  · rw [if_pos g] at h; exact absurd rfl h
  · rw [if_neg g]
theorem rj1 (a n : Int) (c : Bool) (a0 : 0 ≤ a) (a1 : a < 4294967296) (n0 : 0 ≤ n) (hc : c = decide (n > 32)) : Ev (fun k => patchbayref2_PrefixRead.j1 k a n c) (if n > 32 then (0, 0, 10) else if pf a n = 0 then (a, n, 0) else (0, 0, 3)) := by
  refine Ev.step (fun k => r1_eq k _ _ _) ?_
  by_cases h : n > 32
  · exact Ev.eq (if_pos h) (Ev.pos (by rw [hc]; exact decide_eq_true h) (Ev.now _))
  · refine Ev.eq (if_neg h) (Ev.neg (by rw [hc, decide_eq_false h]; exact Bool.false_ne_true) (Ev.bind (Fault_ev a n a0 a1) ?_))
    by_cases g : pf a n = 0
    · exact Ev.eq (if_pos g) (Ev.pos g (Ev.now _))
    · exact Ev.eq (if_neg g) (Ev.neg g (Ev.now _))
theorem Ref_ev (s : ByteArray) (hs : s.size ≤ 900) : Ev (fun k => patchbayref2_PrefixRead.f k s) (prv s) := by
  unfold patchbayref2_PrefixRead.f
  have e : strings_IndexByte.f s 47 = some (Lib.indexByte s.data.toList 47) := rfl
  refine Ev.bind (g := fun _ => strings_IndexByte.f s 47) (Ev.congr (fun _ => e) (Ev.now _)) ?_
  unfold prv
  by_cases h : Lib.indexByte s.data.toList 47 < 0
  · exact Ev.eq (if_pos h) (Ev.pos h (Ev.now _))
  · refine Ev.eq (if_neg h) (Ev.neg h ?_)
    obtain ⟨i, hi⟩ := Int.eq_ofNat_of_zero_le (show 0 ≤ Lib.indexByte s.data.toList 47 by omega)
    have hlt : i < s.size := by
      have g := (Lib.indexByte_some hi).1
      rcases Nat.lt_or_ge i s.data.toList.length with q | q
      · exact q
      · rw [List.getElem?_eq_none q] at g; cases g
    rw [hi, plus1 i (by omega)]
    simp only [Int.toNat_natCast]
    refine Ev.pos (by omega) (Ev.pos (by omega) ?_)
    have hl : (s.extract 0 i).size ≤ 900 := by rw [ByteArray.size_extract]; omega
    have hr : (s.extract (i + 1) s.size).size ≤ 900 := by rw [ByteArray.size_extract]; omega
    generalize s.extract 0 i = l at *
    generalize hre0 : s.extract (i + 1) s.size = r at *
    have hrg := rdv_range l
    have hre := rdv_err l
    have hsm := Dc.same r
    refine Ev.bind (Read_ev l hl) (Ev.pos (by omega) (Ev.pos (by omega) ?_))
    refine Ev.bind (dec_ev r (by omega)) ?_
    have kT : ∀ (x e n : Int) (c : Bool), c = true → Ev (fun k => patchbayref2_PrefixRead.j0 k x e n c) (0, 0, 11) := fun x e n c hc => Ev.step (fun k => r0_eq k _ _ _ _) (Ev.pos hc (Ev.now _))
    by_cases h2 : (rdv l).2 = 11
    · exact Ev.eq (if_pos (Or.inl h2)) (Ev.pos h2 (kT _ _ _ _ rfl))
    · refine Ev.neg h2 ?_
      by_cases h1 : (Vk.nv r).2 = true
      · obtain ⟨e1, n0, n1⟩ := hsm.2 h1
        refine Ev.eq (if_neg (by rw [h1]; simp [h2])) ?_
        rw [e1]
        refine Ev.step (fun k => r0_eq k _ _ _ _) (Ev.neg (by rw [hsm.1, h1]; exact Bool.false_ne_true) ?_)
        by_cases h3 : (rdv l).2 = 10
        · refine Ev.pos h3 (Ev.eq (if_pos (Or.inl (by rw [h3]; decide))) (Ev.step (fun k => r1_eq k _ _ _) (Ev.pos rfl (Ev.now _))))
        · have h4 : (rdv l).2 = 0 := by omega
          refine Ev.neg h3 (Ev.eq ?_ (rj1 _ _ _ hrg.1 hrg.2 n0 rfl))
          by_cases g : (Vk.nv r).1 > 32
          · rw [if_pos (Or.inr g), if_pos g]
          · rw [if_neg (by rw [h4]; simp; omega), if_neg g]
      · have h1' : (Vk.nv r).2 = false := by simpa using h1
        exact Ev.eq (if_pos (Or.inr h1')) (kT _ _ _ _ (by rw [hsm.1, h1']; rfl))
/-! ### texts -/
def bs (l : List UInt8) : ByteArray := ⟨l.toArray⟩
theorem bs_app (l m : List UInt8) : bs l ++ bs m = bs (l ++ m) := by
  apply ByteArray.ext
  show (bs l ++ bs m).data = _
  rw [ByteArray.data_append]
  simp [bs]
theorem bs_size (l : List UInt8) : (bs l).size = l.length := by simp [bs, ByteArray.size]
theorem bs_data (l : List UInt8) : (bs l).data.toList = l := by simp [bs]
theorem itoa_eq (v : Int) (h0 : 0 ≤ v) (h1 : v ≤ 999) : strconv_Itoa_67.f v = some (bs (Dc.dec3 v.toNat)) := by
  show Vb.itoaF v = _
  unfold Vb.itoaF
  rw [if_pos ⟨by omega, by omega⟩]
  unfold Lib.itoa
  rw [if_neg (by omega), Dc.digits_dec3 _ (by omega)]; rfl
theorem itoa_ev (v : Int) (h0 : 0 ≤ v) (h1 : v ≤ 999) : Ev (fun _ => strconv_Itoa_67.f v) (bs (Dc.dec3 v.toNat)) := Ev.congr (fun _ => itoa_eq v h0 h1) (Ev.now _)
def txt (a : Int) : List UInt8 := Dc.dec3 (a / 16777216 % 256).toNat ++ 46 :: (Dc.dec3 (a / 65536 % 256).toNat ++ 46 :: (Dc.dec3 (a / 256 % 256).toNat ++ 46 :: Dc.dec3 (a % 256).toNat))
theorem byte_eq (a : Int) (i : Nat) (hi : i ≤ 24) (a0 : 0 ≤ a) (a1 : a < 4294967296) : wrap64 (Go.bits .and .u32 (shr .u32 a (i : Int)) 255) = a / 2 ^ i % 256 := by
  have e1 : shr .u32 a (i : Int) = a / 2 ^ i := by
    unfold shr
    rw [Int.toNat_natCast, Nat.min_eq_left (by show i ≤ 32; omega)]
  rw [e1]
  have d0 : 0 ≤ a / 2 ^ i := Int.ediv_nonneg a0 (Int.le_of_lt (Int.pow_pos (by decide)))
  have d1 : a / 2 ^ i ≤ a := Int.ediv_le_self _ a0
  have := bits_mask .u32 32 (by decide) wraps_u32 8 (by decide) (a / 2 ^ i) d0 (by omega)
  have e : Go.bits .and .u32 (a / 2 ^ i) 255 = a / 2 ^ i % 256 := by simpa using this
  rw [e, w64 (by omega) (by omega)]
theorem print_step (a : Int) (a0 : 0 ≤ a) (a1 : a < 4294967296) (l : List ByteArray) (hl : l.length ≤ 4) (i : Nat) (hi : i ≤ 24) (r : ByteArray) (ih : Ev (fun k => addr_Print.l0 k a (l ++ [bs (Dc.dec3 (a / 2 ^ i % 256).toNat)]) ((i : Int) - 8)) r) : Ev (fun k => addr_Print.l0 k a l (i : Int)) r := by
  refine Ev.step (fun k => pl_eq k _ _ _) (Ev.pos (by omega) (Ev.pos (by omega) ?_))
  rw [byte_eq a i hi a0 a1]
  refine Ev.bind (itoa_ev _ (by omega) (by omega)) (Ev.pos (by omega) ?_)
  rw [w64 (by omega) (by omega)]; exact ih
theorem print_end (a : Int) (x y z t : List UInt8) (hx : x.length ≤ 3) (hy : y.length ≤ 3) (hz : z.length ≤ 3) (ht : t.length ≤ 3) : Ev (fun k => addr_Print.l0 k a [bs x, bs y, bs z, bs t] (-8)) (bs (x ++ 46 :: (y ++ 46 :: (z ++ 46 :: t)))) := by
  refine Ev.step (fun k => pl_eq k _ _ _) (Ev.neg (by decide) ?_)
  have e : Vb.joinV [bs x, bs y, bs z, bs t] (⟨#[46]⟩ : ByteArray) = bs (x ++ 46 :: (y ++ 46 :: (z ++ 46 :: t))) := by
    unfold Vb.joinV bs
    simp [Lib.join, List.intercalate, List.intersperse]
  refine Ev.bind (g := fun _ => strings_Join.f [bs x, bs y, bs z, bs t] (⟨#[46]⟩ : ByteArray)) (Ev.congr (fun _ => ?_) (Ev.now _)) (Ev.now _)
  show Vb.joinF _ _ = _
  unfold Vb.joinF
  rw [e, if_pos ⟨by simp, by rw [bs_size]; simp; omega⟩]
theorem Print_ev (a : Int) (a0 : 0 ≤ a) (a1 : a < 4294967296) : Ev (fun k => addr_Print.f k a) (bs (txt a)) := by
  unfold addr_Print.f
  refine print_step a a0 a1 _ (by decide) 24 (by decide) _ ?_
  refine print_step a a0 a1 _ (by simp) 16 (by decide) _ ?_
  refine print_step a a0 a1 _ (by simp) 8 (by decide) _ ?_
  refine print_step a a0 a1 _ (by simp) 0 (by decide) _ ?_
  have := print_end a (Dc.dec3 (a / 2 ^ 24 % 256).toNat) (Dc.dec3 (a / 2 ^ 16 % 256).toNat) (Dc.dec3 (a / 2 ^ 8 % 256).toNat) (Dc.dec3 (a / 2 ^ 0 % 256).toNat) (Dc.dec3_length _) (Dc.dec3_length _) (Dc.dec3_length _) (Dc.dec3_length _)
  simpa [txt] using this
theorem text_step (x : Int) (x0 : 0 ≤ x) (x1 : x < 4294967296) (l : List UInt8) (hl : l.length ≤ 100) (i : Nat) (hi : i < 3) (r : ByteArray) (ih : Ev (fun k => patchbayref2_AddrText.l0 k (x / 256) (bs (Dc.dec3 (x / 256 % 256).toNat ++ 46 :: l)) ((i + 1 : Nat) : Int)) r) : Ev (fun k => patchbayref2_AddrText.l0 k x (bs l) (i : Int)) r := by
  refine Ev.step (fun k => tl_eq k _ _ _) (Ev.pos (by omega) ?_)
  have ht : Int.tdiv x 256 = x / 256 := Int.tdiv_eq_ediv_of_nonneg x0
  rw [ht]
  have hd := Dc.dec3_length (x / 256 % 256).toNat
  refine Ev.bind (itoa_ev _ (by omega) (by omega)) ?_
  have e1 : bs (Dc.dec3 (x / 256 % 256).toNat) ++ (⟨#[46]⟩ : ByteArray) = bs (Dc.dec3 (x / 256 % 256).toNat ++ [46]) := bs_app _ [46]
  have z1 : (⟨#[46]⟩ : ByteArray).size = 1 := rfl
  rw [e1, z1]
  refine Ev.pos (by rw [bs_size]; omega) (Ev.pos (by rw [bs_size, bs_size, List.length_append]; simp; omega) ?_)
  rw [bs_app, Int.emod_eq_of_lt (by omega) (by omega), w64 (by omega) (by omega)]
  simpa using ih
theorem Text_ev (a : Int) (a0 : 0 ≤ a) (a1 : a < 4294967296) : Ev (fun k => patchbayref2_AddrText.f k a) (bs (txt a)) := by
  unfold patchbayref2_AddrText.f
  have ht : Int.tmod a 256 = a % 256 := Int.tmod_eq_emod_of_nonneg a0
  rw [ht, w64 (by omega) (by omega)]
  refine Ev.bind (itoa_ev _ (by omega) (by omega)) ?_
  have h0 := Dc.dec3_length (a % 256).toNat
  have h1 := Dc.dec3_length (a / 256 % 256).toNat
  have h2 := Dc.dec3_length (a / 256 / 256 % 256).toNat
  have h3 := Dc.dec3_length (a / 256 / 256 / 256 % 256).toNat
  refine text_step a a0 a1 _ (by omega) 0 (by decide) _ ?_
  refine text_step (a / 256) (by omega) (by omega) _ (by rw [List.length_append]; simp; omega) 1 (by decide) _ ?_
  refine text_step (a / 256 / 256) (by omega) (by omega) _ (by simp; omega) 2 (by decide) _ ?_
  refine Ev.step (fun k => tl_eq k _ _ _) (Ev.neg (by decide) (Ev.val ?_))
  unfold txt
  rw [show a / 256 / 256 / 256 = a / 16777216 by omega, show a / 256 / 256 = a / 65536 by omega]
/-- the text of a prefix -/
def ptx (a n : Int) : List UInt8 := txt a ++ 47 :: Dc.dec3 n.toNat
def pxv (a n : Int) : ByteArray × Int := if pf a n = 0 then (bs (ptx a n), 0) else (⟨#[]⟩, pf a n)
theorem txt_len (a : Int) : (txt a).length ≤ 15 := by
  have h0 := Dc.dec3_length (a % 256).toNat
  have h1 := Dc.dec3_length (a / 256 % 256).toNat
  have h2 := Dc.dec3_length (a / 65536 % 256).toNat
  have h3 := Dc.dec3_length (a / 16777216 % 256).toNat
  unfold txt; simp; omega
theorem PP_ev (a n : Int) (a0 : 0 ≤ a) (a1 : a < 4294967296) : Ev (fun k => addr_PrintPrefix.f k a n) (pxv a n) := by
  unfold addr_PrintPrefix.f pxv
  refine Ev.bind (g := fun _ => addr_Check.f a n) (Ev.congr (fun _ => Check_eq a n a0 a1) (Ev.now _)) ?_
  by_cases h : pf a n = 0
  · obtain ⟨n0, n1, _⟩ := pf_ok h
    refine Ev.eq (if_pos h) (Ev.pos h (Ev.bind (Print_ev a a0 a1) ?_))
    have hl := txt_len a
    have hd := Dc.dec3_length n.toNat
    have z1 : (⟨#[47]⟩ : ByteArray).size = 1 := rfl
    refine Ev.pos (by rw [bs_size, z1]; omega) (Ev.bind (itoa_ev n n0 (by omega)) ?_)
    have e1 : bs (txt a) ++ (⟨#[47]⟩ : ByteArray) = bs (txt a ++ [47]) := bs_app _ [47]
    rw [e1, bs_app]
    refine Ev.pos (by rw [bs_size, bs_size, List.length_append]; simp; omega) (Ev.val ?_)
    unfold ptx; simp
  · exact Ev.eq (if_neg h) (Ev.neg h (Ev.now _))
theorem or_low (a n : Int) (h : pf a n = 0) (a0 : 0 ≤ a) (a1 : a < 4294967296) : Go.bits .or .u32 a (Go.bits .xor .u32 4294967295 (M n : Int)) = a + (B n : Int) - 1 := by
  obtain ⟨n0, n1, hm⟩ := pf_ok h
  have key : ∀ j : Fin 33, Go.bits .xor .u32 4294967295 (M (j.val : Int) : Int) = (B (j.val : Int) : Int) - 1 := by decide +kernel
  have e := key ⟨n.toNat, by omega⟩
  rw [show ((⟨n.toNat, by omega⟩ : Fin 33).val : Int) = n by show (n.toNat : Int) = n; omega] at e
  rw [e]
  have hb := B_pos n
  have hl := B_le n n0
  have hdvd : (B n : Int) ∣ a := Int.dvd_of_emod_eq_zero hm
  obtain ⟨x, rfl⟩ := Int.eq_ofNat_of_zero_le a0
  have e2 : ((B n : Int) - 1) = ((B n - 1 : Nat) : Int) := by omega
  rw [e2, (bits_nat .u32 32 (by decide) wraps_u32 x (B n - 1) (by omega) (by omega)).2]
  have hd : B n ∣ x := by exact_mod_cast hdvd
  obtain ⟨q, rfl⟩ := hd
  unfold B at *
  rw [← Nat.two_pow_add_eq_or_of_lt (by have := Nat.two_pow_pos (32 - n).toNat; omega)]
  omega
def lv (a n : Int) : Int × Int := if pf a n = 0 then (a + (B n : Int) - 1, 0) else (0, pf a n)
theorem Last_eq (a n : Int) (a0 : 0 ≤ a) (a1 : a < 4294967296) : addr_Last.f a n = some (lv a n) := by
  unfold addr_Last.f lv
  rw [Check_eq a n a0 a1]
  simp only [Option.bind_some]
  by_cases h : pf a n = 0
  · obtain ⟨n0, n1, _⟩ := pf_ok h
    rw [if_pos h, if_pos h, Mask_ok n n0 n1]
    simp only [Option.bind_some]
    rw [or_low a n h a0 a1]
  · rw [if_neg h, if_neg h]
def mv (n : Int) : Int × Int := if n < 0 ∨ n > 32 then (0, 10) else ((M n : Int), 0)
theorem Mask_eq (n : Int) : addr_Mask.f n = some (mv n) := by
  unfold mv
  by_cases h : n < 0 ∨ n > 32
  · rw [if_pos h, Mask_bad n h]
  · rw [if_neg h, Mask_ok n (by omega) (by omega)]
/-! ### a text's pieces -/
theorem index_at (c : UInt8) (r : List UInt8) : ∀ l : List UInt8, c ∉ l → Lib.indexByte (l ++ c :: r) c = (l.length : Int)
  | [], _ => by show (if (c == c) = true then (0 : Int) else _) = _; rw [if_pos (beq_self_eq_true c)]; rfl
  | b :: l, h => by
    have hb : ¬ (b == c) = true := fun e => h (by rw [beq_iff_eq.1 e]; exact List.mem_cons_self)
    have ih := index_at c r l (fun q => h (List.mem_cons_of_mem _ q))
    show (if (b == c) = true then (0 : Int) else if (Lib.indexByte (l ++ c :: r) c == -1) = true then -1 else Lib.indexByte (l ++ c :: r) c + 1) = _
    rw [if_neg hb, ih, if_neg (fun e => by have := beq_iff_eq.1 e; omega)]
    simp
theorem bs_take (l m : List UInt8) : (bs (l ++ m)).extract 0 l.length = bs l := by
  apply ByteArray.ext; apply Array.toList_inj.1
  rw [ByteArray.data_extract]; simp [bs]
theorem bs_drop (c : UInt8) (l r : List UInt8) : (bs (l ++ c :: r)).extract (l.length + 1) (bs (l ++ c :: r)).size = bs r := by
  apply ByteArray.ext; apply Array.toList_inj.1
  rw [Lib.extract_to_end, bs_data]
  show _ = r.toArray.toList
  simp
theorem dec_clean : ∀ v : Fin 256, 46 ∉ Dc.dec3 v.val ∧ 47 ∉ Dc.dec3 v.val := by decide +kernel
theorem split_step (l r : List UInt8) (k : Nat) (h : 46 ∉ l) : Lib.splitB pts 0 (k + 1) (bs (l ++ 46 :: r)) = bs l :: Lib.splitB pts 0 k (bs r) := by
  have hi : Lib.indexB (bs (l ++ 46 :: r)) pts = (l.length : Int) := by
    rw [show pts = (⟨#[46]⟩ : ByteArray) from rfl, Dc.indexB_one, bs_data]; exact index_at 46 r l h
  rw [Lib.splitB_hit pts 0 k _ _ hi, show l.length + 0 = l.length from rfl, bs_take, show pts.size = 1 from rfl, bs_drop]
theorem count_bs (l : List UInt8) : Lib.countB (bs l) pts = l.count 46 := by
  rw [show pts = (⟨#[46]⟩ : ByteArray) from rfl, Dc.countB_one, bs_data]; rfl
theorem clean (v : Int) (h0 : 0 ≤ v) (h1 : v < 256) : 46 ∉ Dc.dec3 v.toNat ∧ 47 ∉ Dc.dec3 v.toNat := dec_clean ⟨v.toNat, by omega⟩
theorem nv_dec (v : Int) (h0 : 0 ≤ v) (h1 : v < 256) : Vk.nv (bs (Dc.dec3 v.toNat)) = (v, true) := by
  have := (Dc.tab ⟨v.toNat, by omega⟩).1
  rw [show ((v.toNat : Nat) : Int) = v by omega] at this
  exact this
theorem rdv_txt (a : Int) (a0 : 0 ≤ a) (a1 : a < 4294967296) : rdv (bs (txt a)) = (a, 0) := by
  have cx := clean (a / 16777216 % 256) (by omega) (by omega)
  have cy := clean (a / 65536 % 256) (by omega) (by omega)
  have cz := clean (a / 256 % 256) (by omega) (by omega)
  have ct := clean (a % 256) (by omega) (by omega)
  have hc : Lib.countB (bs (txt a)) pts = 3 := by
    rw [count_bs]; unfold txt
    simp only [List.count_append, List.count_cons_self, List.count_eq_zero.2 cx.1, List.count_eq_zero.2 cy.1, List.count_eq_zero.2 cz.1, List.count_eq_zero.2 ct.1]
  unfold rdv pcs
  rw [if_pos hc, hc]
  unfold txt
  rw [split_step _ _ _ cx.1, split_step _ _ _ cy.1, split_step _ _ _ cz.1, Lib.splitB_zero]
  simp only [pv, nv_dec (a / 16777216 % 256) (by omega) (by omega), nv_dec (a / 65536 % 256) (by omega) (by omega), nv_dec (a / 256 % 256) (by omega) (by omega), nv_dec (a % 256) (by omega) (by omega), if_true]
  rw [low8 _ (by omega) (by omega), low8 _ (by omega) (by omega), low8 _ (by omega) (by omega), low8 _ (by omega) (by omega)]
  have hx : 0 ≤ a / 16777216 % 256 ∧ a / 16777216 % 256 ≤ 255 := by omega
  have hy : 0 ≤ a / 65536 % 256 ∧ a / 65536 % 256 ≤ 255 := by omega
  have hz : 0 ≤ a / 256 % 256 ∧ a / 256 % 256 ≤ 255 := by omega
  have ht : 0 ≤ a % 256 ∧ a % 256 ≤ 255 := by omega
  have hs : a = ((a / 16777216 % 256 * 256 + a / 65536 % 256) * 256 + a / 256 % 256) * 256 + a % 256 := by omega
  generalize a / 16777216 % 256 = x at *
  generalize a / 65536 % 256 = y at *
  generalize a / 256 % 256 = z at *
  generalize a % 256 = t at *
  have e1 : Go.bits .or .u32 ((0 * 256) % 4294967296) (x % 256) = x := by
    have := join8 0 x (by omega) (by omega) hx.1 (by omega)
    rw [Int.emod_eq_of_lt hx.1 (by omega)]; omega
  have e2 : Go.bits .or .u32 ((x * 256) % 4294967296) (y % 256) = x * 256 + y := by
    rw [Int.emod_eq_of_lt (a := y) hy.1 (by omega)]; exact join8 x y hx.1 (by omega) hy.1 (by omega)
  have e3 : Go.bits .or .u32 (((x * 256 + y) * 256) % 4294967296) (z % 256) = (x * 256 + y) * 256 + z := by
    rw [Int.emod_eq_of_lt (a := z) hz.1 (by omega)]; exact join8 _ z (by omega) (by omega) hz.1 (by omega)
  have e4 : Go.bits .or .u32 ((((x * 256 + y) * 256 + z) * 256) % 4294967296) (t % 256) = ((x * 256 + y) * 256 + z) * 256 + t := by
    rw [Int.emod_eq_of_lt (a := t) ht.1 (by omega)]; exact join8 _ t (by omega) (by omega) ht.1 (by omega)
  rw [e1, e2, e3, e4, ← hs]
  have hf : ¬ ((false || decide (x > 255) || decide (y > 255) || decide (z > 255) || decide (t > 255)) = true) := by
    simp; omega
  rw [if_neg hf]
theorem prv_ptx (a n : Int) (a0 : 0 ≤ a) (a1 : a < 4294967296) (h : pf a n = 0) : prv (bs (ptx a n)) = (a, n, 0) := by
  obtain ⟨n0, n1, _⟩ := pf_ok h
  have hi : Lib.indexByte (bs (ptx a n)).data.toList 47 = ((txt a).length : Int) := by
    rw [bs_data]
    refine index_at 47 _ _ ?_
    have cx := clean (a / 16777216 % 256) (by omega) (by omega)
    have cy := clean (a / 65536 % 256) (by omega) (by omega)
    have cz := clean (a / 256 % 256) (by omega) (by omega)
    have ct := clean (a % 256) (by omega) (by omega)
    unfold txt
    simp [cx.2, cy.2, cz.2, ct.2]
  have el : (bs (ptx a n)).extract 0 (txt a).length = bs (txt a) := bs_take _ _
  have er : (bs (ptx a n)).extract ((txt a).length + 1) (bs (ptx a n)).size = bs (Dc.dec3 n.toNat) := bs_drop _ _ _
  unfold prv
  rw [hi, if_neg (by omega), Int.toNat_natCast, el, er, rdv_txt a a0 a1, nv_dec n n0 (by omega)]
  rw [if_neg (by simp), if_neg (by simp; omega), if_pos h]
theorem pf_ten {a n : Int} : pf a n = 10 ↔ (n < 0 ∨ n > 32) := by
  unfold pf
  by_cases h : n < 0 ∨ n > 32
  · rw [if_pos h]; simp [h]
  · rw [if_neg h]
    by_cases g : a % (B n : Int) = 0
    · rw [if_pos g]; simp [h]
    · rw [if_neg g]; simp [h]
theorem law_ev (x a n : Int) (x0 : 0 ≤ x) (x1 : x < 4294967296) (a0 : 0 ≤ a) (a1 : a < 4294967296) : Ev (fun k => patchbaylaw2_AddrWrites.f k x a n) true := by
  unfold patchbaylaw2_AddrWrites.f
  refine Ev.bind lives_ev (Ev.pos rfl (Ev.bind (Fault_ev a n a0 a1) (Ev.bind (Print_ev x x0 x1) (Ev.bind (Text_ev x x0 x1) (Ev.pos rfl ?_)))))
  refine Ev.bind (g := fun _ => addr_Check.f a n) (Ev.congr (fun _ => Check_eq a n a0 a1) (Ev.now _)) ?_
  refine Ev.step (fun k => w0_eq k _ _ _ _) (Ev.neg (by simp) (Ev.bind (PP_ev a n a0 a1) ?_))
  refine Ev.bind (g := fun _ => addr_Last.f a n) (Ev.congr (fun _ => Last_eq a n a0 a1) (Ev.now _)) ?_
  refine Ev.bind (g := fun _ => addr_Mask.f n) (Ev.congr (fun _ => Mask_eq n) (Ev.now _)) ?_
  have h0 : (⟨#[]⟩ : ByteArray).toList = [] := by rw [ByteArray.toList_eq]
  have hp : (pxv a n).2 = pf a n := by unfold pxv; by_cases h : pf a n = 0
                                       · rw [if_pos h, h]
                                       · rw [if_neg h]
  have hl : (lv a n).2 = pf a n := by unfold lv; by_cases h : pf a n = 0
                                      · rw [if_pos h, h]
                                      · rw [if_neg h]
  refine Ev.pos hp (Ev.step (fun k => w1_eq k _ _ _ _ _ _ _ _) (Ev.neg (by rw [hl]; simp) ?_))
  by_cases h10 : pf a n = 10
  · have hn := pf_ten.1 h10
    have e1 : pxv a n = (⟨#[]⟩, 10) := by unfold pxv; rw [if_neg (by omega), h10]
    have e2 : lv a n = (0, 10) := by unfold lv; rw [if_neg (by omega), h10]
    have e3 : mv n = (0, 10) := by unfold mv; rw [if_pos hn]
    rw [e1, e2, e3]
    exact Ev.pos h10 (Ev.pos h0 (Ev.pos rfl (Ev.pos rfl (Ev.val rfl))))
  have hn : ¬ (n < 0 ∨ n > 32) := fun q => h10 (pf_ten.2 q)
  have e3 : mv n = ((M n : Int), 0) := by unfold mv; rw [if_neg hn]
  have hb := B_pos n
  have hle := B_le n (by omega)
  have hM := M_eq n (by omega) (by omega)
  rw [e3]
  refine Ev.neg h10 (Ev.bind (Block_ev n (by omega) (by omega)) (Ev.pos rfl ?_))
  refine Ev.step (fun k => w2_eq k _ _ _ _ _ _ _) (Ev.neg ?_ ?_)
  · have : ((M n : Int)) = 4294967296 - (B n : Int) := by omega
    rw [this]; simp
  by_cases h : pf a n = 0
  · have e1 : pxv a n = (bs (ptx a n), 0) := by unfold pxv; rw [if_pos h]
    have e2 : lv a n = (a + (B n : Int) - 1, 0) := by unfold lv; rw [if_pos h]
    have hz : (bs (ptx a n)).size ≤ 900 := by
      have := txt_len a
      have := Dc.dec3_length n.toNat
      rw [bs_size]; unfold ptx; simp; omega
    rw [e1, e2]
    refine Ev.pos h (Ev.bind (Ref_ev _ hz) ?_)
    rw [prv_ptx a n a0 a1 h]
    refine Ev.pos rfl (Ev.pos (by simp) (Ev.val ?_))
    rw [beq_iff_eq]
    have ha : a + (B n : Int) ≤ 4294967296 * 2 := by omega
    rw [wrap_u64, wrap_u64, wrap_u64, wrap_u64]; omega
  · have e1 : pxv a n = (⟨#[]⟩, pf a n) := by unfold pxv; rw [if_neg h]
    have e2 : lv a n = (0, pf a n) := by unfold lv; rw [if_neg h]
    rw [e1, e2]
    exact Ev.neg h (Ev.pos h0 (Ev.val rfl))
theorem law_calls (x a n : Int) (w : World) (x0 : 0 ≤ x) (x1 : x < 4294967296) (a0 : 0 ≤ a) (a1 : a < 4294967296) (hv : Vb.Ok w) : Calls Tryd.prog 7 #[.int .u32 x, .agg #[.int .u32 a, .int .i64 n]] w fun e w' => e = .returned (.bool true) ∧ Below w.heap.size w w' := by
  obtain ⟨k, hk⟩ := (law_ev x a n x0 x1 a0 a1).rounds
  exact patchbaylaw2_AddrWrites.calls k x a n true w hv hk
end Go.Proofs.YtbdcaadehfbnbaaDoor.Aw
