/- The plain law of AddrBack. Conditions: the text is of no more than 1048577 bytes. -/
import Derived.Test.YtbnihnggljagnaaDoorAddrBackTextsCore
import Derived.Test.YtbnihnggljagnaaDoorAddrBackPureAddrWorks
namespace Go.Proofs.YtbnihnggljagnaaDoor.QAddrBack
open Go.RowKit Go.Proofs.YtbnihnggljagnaaDoorW.PrintWords Go.Proofs.YtbnihnggljagnaaDoorW.PrintLast Go.Proofs.YtbnihnggljagnaaDoorW.PrintMore Go.Proofs.YtbnihnggljagnaaDoor.Tools Go.Proofs.YtbnihnggljagnaaDoor.AM Go.Proofs.YtbnihnggljagnaaDoor.LexMath Go.Proofs.YtbnihnggljagnaaDoor.NumMath
open Go.Lib (decDigits)
set_option linter.unusedVariables false
set_option linter.unusedSimpArgs false
/-! ### texts in parts -/
theorem list_mid (x : ByteArray) (p m : Nat) : (x.extract p m).data.toList = (x.data.toList.drop p).take (m - p) := by
  simp [ByteArray.data_extract]
theorem part_bt (s : ByteArray) (a : Nat) (w r : List UInt8) (h : s.data.toList.drop a = w ++ r) (c : UInt8) (hw : ∀ x ∈ w, x ≠ c) (i : Nat) (h1 : a ≤ i) (h2 : i < a + w.length) : ¬ bt s i = c.toNat := by
  intro e
  have hl := congrArg List.length h
  rw [List.length_drop, List.length_append, size_list] at hl
  have hi : i < s.size := by omega
  have hg := some_bt hi e
  have e2 : s.data.toList[i]? = w[i - a]? := by
    have : (s.data.toList.drop a)[i - a]? = (w ++ r)[i - a]? := by rw [h]
    rw [List.getElem?_drop, show a + (i - a) = i by omega, List.getElem?_append_left (by omega)] at this
    exact this
  rw [e2] at hg
  exact hw c (List.mem_of_getElem? hg) rfl
theorem part_at (s : ByteArray) (a : Nat) (w r : List UInt8) (c : UInt8) (h : s.data.toList.drop a = w ++ c :: r) : a + w.length < s.size ∧ bt s ((a + w.length : Nat) : Int) = c.toNat ∧ s.data.toList.drop (a + w.length + 1) = r := by
  have hl := congrArg List.length h
  rw [List.length_drop, List.length_append, size_list, List.length_cons] at hl
  have hi : a + w.length < s.size := by omega
  refine ⟨hi, ?_, ?_⟩
  · have e2 : s.data.toList[a + w.length]? = some c := by
      have : (s.data.toList.drop a)[w.length]? = (w ++ c :: r)[w.length]? := by rw [h]
      rw [List.getElem?_drop, List.getElem?_append_right (Nat.le_refl _), Nat.sub_self] at this
      exact this
    exact (bt_some e2).2
  · rw [show a + w.length + 1 = a + (w.length + 1) by omega, ← List.drop_drop, h, show w ++ c :: r = (w ++ [c]) ++ r by simp]
    exact List.drop_left' (by simp)
theorem SP_cons (s : ByteArray) (a : Nat) (w r : List UInt8) (h : s.data.toList.drop a = w ++ 46 :: r) (hw : ∀ x ∈ w, x ≠ 46) :
    SP s a = s.extract a (a + w.length) :: SP s (a + w.length + 1) ∧ (s.extract a (a + w.length)).data.toList = w ∧ s.data.toList.drop (a + w.length + 1) = r := by
  obtain ⟨h1, h2, h3⟩ := part_at s a w r 46 h
  refine ⟨?_, ?_, h3⟩
  · rw [split_at s a (a + w.length) (by omega) (by omega) (fun i g1 g2 => part_bt s a w (46 :: r) h 46 hw i g1 g2) (fun _ => h2), if_pos h1]
  · rw [list_mid, h, show a + w.length - a = w.length by omega]
    exact List.take_left' rfl
theorem SP_last (s : ByteArray) (a : Nat) (ha : a ≤ s.size) (w : List UInt8) (h : s.data.toList.drop a = w) (hw : ∀ x ∈ w, x ≠ 46) : SP s a = [s.extract a s.size] ∧ (s.extract a s.size).data.toList = w := by
  have hl := congrArg List.length h
  rw [List.length_drop, size_list] at hl
  refine ⟨?_, by rw [list_ext, h]⟩
  rw [split_at s a s.size ha (Nat.le_refl _) (fun i g1 g2 => part_bt s a w [] (by rw [List.append_nil]; exact h) 46 hw i g1 (by omega)) (fun h => absurd h (by omega)), if_neg (by omega)]
theorem SP_join (s : ByteArray) : ∀ d a : Nat, a + d = s.size → Lib.join ((SP s a).map fun p => p.data.toList) [46] = s.data.toList.drop a := by
  intro d
  induction d using Nat.strongRecOn with
  | _ d ih =>
    intro a had
    obtain ⟨j, h1, h2, h3, h4⟩ := scan_ex (fun j => bt s j = 46) s.size d a had
    rw [split_at s a j h1 h2 h3 (fun h => h4.resolve_left (by omega))]
    by_cases hl : j < s.size
    · have hb : bt s j = 46 := h4.resolve_left (by omega)
      have hne : SP s (j + 1) ≠ [] := by
        intro e
        obtain ⟨j', g1, g2, g3, g4⟩ := scan_ex (fun j => bt s j = 46) s.size (s.size - (j + 1)) (j + 1) (by omega)
        rw [split_at s (j + 1) j' g1 g2 g3 (fun h => g4.resolve_left (by omega))] at e
        split at e <;> cases e
      have e := ih (s.size - (j + 1)) (by omega) (j + 1) (by omega)
      rw [if_pos hl, List.map_cons]
      obtain ⟨x, r, hx⟩ := List.exists_cons_of_ne_nil hne
      rw [hx, List.map_cons, Lib.join_cons] at e
      rw [hx, List.map_cons, Lib.join_cons]
      show (s.extract a j).data.toList ++ (([46] ++ x.data.toList) ++ Lib.joinTail [46] (r.map fun p => p.data.toList)) = _
      rw [List.append_assoc, e, list_mid]
      have hd : s.data.toList.drop j = 46 :: s.data.toList.drop (j + 1) := by
        have hg := some_bt (c := 46) hl hb
        have hlt : j < s.data.toList.length := by rw [size_list]; exact hl
        rw [List.getElem?_eq_getElem hlt] at hg
        rw [List.drop_eq_getElem_cons hlt, Option.some.inj hg]
      show _ ++ (46 :: s.data.toList.drop (j + 1)) = _
      rw [← hd]
      have : s.data.toList.drop j = (s.data.toList.drop a).drop (j - a) := by rw [List.drop_drop, show a + (j - a) = j by omega]
      rw [this]
      exact List.take_append_drop _ _
    · have : j = s.size := by omega
      subst this
      rw [if_neg hl, List.map_cons, List.map_nil, Lib.join_one, list_ext]
/-! ### digits -/
theorem byte_text (p : Int) (hp : 0 ≤ p ∧ p ≤ 255) : Lib.itoa p = decDigits p.toNat := by
  obtain ⟨n, rfl⟩ : ∃ n : Nat, p = n := ⟨p.toNat, by omega⟩
  rw [Lib.itoa_nonneg, Int.toNat_natCast]
theorem no_sign (p : Int) (hp : 0 ≤ p) (c : UInt8) (hc : c.toNat < 48) : ∀ x ∈ Lib.itoa p, x ≠ c := by
  obtain ⟨n, rfl⟩ : ∃ n : Nat, p = n := ⟨p.toNat, by omega⟩
  rw [Lib.itoa_nonneg]
  intro x hx e
  have := dec_digits n x hx
  rw [e] at this
  omega
theorem numS_text (p : Int) (most : Int) (h0 : 0 ≤ p) (h1 : p ≤ most) (h2 : most ≤ 255) : numS (Lib.itoa p) most = some p.toNat := by
  obtain ⟨n, rfl⟩ : ∃ n : Nat, p = n := ⟨p.toNat, by omega⟩
  rw [Lib.itoa_nonneg, Int.toNat_natCast]
  exact (numS_iff _ _ _).2 ⟨rfl, by omega, h1⟩
def textOf (a : Int) : ByteArray := textT (a / 16777216 % 256) (a / 65536 % 256) (a / 256 % 256) (a % 256)
theorem parse_parts (s x0 x1 x2 x3 : ByteArray) (p0 p1 p2 p3 : Int) (h : SP s 0 = [x0, x1, x2, x3]) (l0 : x0.data.toList = Lib.itoa p0) (l1 : x1.data.toList = Lib.itoa p1) (l2 : x2.data.toList = Lib.itoa p2) (l3 : x3.data.toList = Lib.itoa p3)
    (b0 : 0 ≤ p0 ∧ p0 ≤ 255) (b1 : 0 ≤ p1 ∧ p1 ≤ 255) (b2 : 0 ≤ p2 ∧ p2 ≤ 255) (b3 : 0 ≤ p3 ∧ p3 ≤ 255) : parse s = some ((((0 * 256 + p0.toNat) * 256 + p1.toNat) * 256 + p2.toNat) * 256 + p3.toNat) := by
  unfold parse
  rw [h]
  refine (if_pos rfl).trans ?_
  simp only [pv, n255]
  rw [l0, l1, l2, l3, numS_text p0 255 b0.1 b0.2 (by omega), numS_text p1 255 b1.1 b1.2 (by omega), numS_text p2 255 b2.1 b2.2 (by omega), numS_text p3 255 b3.1 b3.2 (by omega)]
theorem parse_text (a : Int) (ha : isA a) : parse (textOf a) = some a.toNat := by
  obtain ⟨b0, b1, b2, b3⟩ := bts a
  have hl := text_list (a / 16777216 % 256) (a / 65536 % 256) (a / 256 % 256) (a % 256)
  have h46 : (46 : UInt8).toNat < 48 := by decide
  obtain ⟨e0, l0, d0⟩ := SP_cons (textOf a) 0 _ _ (by rw [List.drop_zero]; exact hl) (no_sign _ b0.1 46 h46)
  obtain ⟨e1, l1, d1⟩ := SP_cons (textOf a) _ _ _ d0 (no_sign _ b1.1 46 h46)
  obtain ⟨e2, l2, d2⟩ := SP_cons (textOf a) _ _ _ d1 (no_sign _ b2.1 46 h46)
  have hsz : (textOf a).size = _ := (size_list (textOf a)).symm.trans (congrArg List.length hl)
  simp only [List.length_append, List.length_cons] at hsz
  obtain ⟨e3, l3⟩ := SP_last (textOf a) _ (by omega) _ d2 (no_sign _ b3.1 46 h46)
  have hS : SP (textOf a) 0 = [_, _, _, _] := e0.trans (congrArg _ (e1.trans (congrArg _ (e2.trans (congrArg _ e3)))))
  rw [parse_parts (textOf a) _ _ _ _ _ _ _ _ hS l0 l1 l2 l3 b0 b1 b2 b3]
  obtain ⟨a0, a1⟩ := ha
  clear e0 e1 e2 e3 l0 l1 l2 l3 d0 d1 d2 hl hsz hS
  congr 1
  omega
theorem text_parse (s : ByteArray) (a : Nat) (h : parse s = some a) : textOf a = s := by
  unfold parse at h
  split at h
  · rename_i h4
    have hj := SP_join s s.size 0 (by omega)
    obtain ⟨e0, e1, e2, e3, hS⟩ : ∃ e0 e1 e2 e3, SP s 0 = [e0, e1, e2, e3] := by
      match hh : SP s 0, h4 with
      | [e0, e1, e2, e3], _ => exact ⟨e0, e1, e2, e3, rfl⟩
    rw [hS] at h hj
    simp only [pv, n255] at h
    cases h0 : numS e0.data.toList 255 with
    | none => rw [h0] at h; cases h
    | some v0 =>
    cases h1 : numS e1.data.toList 255 with
    | none => rw [h0, h1] at h; cases h
    | some v1 =>
    cases h2 : numS e2.data.toList 255 with
    | none => rw [h0, h1, h2] at h; cases h
    | some v2 =>
    cases h3 : numS e3.data.toList 255 with
    | none => rw [h0, h1, h2, h3] at h; cases h
    | some v3 =>
    rw [h0, h1, h2, h3] at h
    obtain ⟨g0, -, k0⟩ := (numS_iff _ _ _).1 h0
    obtain ⟨g1, -, k1⟩ := (numS_iff _ _ _).1 h1
    obtain ⟨g2, -, k2⟩ := (numS_iff _ _ _).1 h2
    obtain ⟨g3, -, k3⟩ := (numS_iff _ _ _).1 h3
    have ea : (((0 * 256 + v0) * 256 + v1) * 256 + v2) * 256 + v3 = a := Option.some.inj h
    have hl := text_list ((a : Int) / 16777216 % 256) ((a : Int) / 65536 % 256) ((a : Int) / 256 % 256) ((a : Int) % 256)
    rw [show (a : Int) / 16777216 % 256 = (v0 : Int) by omega, show (a : Int) / 65536 % 256 = (v1 : Int) by omega, show (a : Int) / 256 % 256 = (v2 : Int) by omega, show (a : Int) % 256 = (v3 : Int) by omega, Lib.itoa_nonneg, Lib.itoa_nonneg, Lib.itoa_nonneg, Lib.itoa_nonneg, ← g0, ← g1, ← g2, ← g3] at hl
    simp only [List.map_cons, List.map_nil, Lib.join_cons, Lib.joinTail, List.flatten_cons, List.flatten_nil, List.append_nil, List.drop_zero] at hj
    have : (textOf a).data.toList = s.data.toList := by
      unfold textOf
      rw [show (a : Int) / 16777216 % 256 = (v0 : Int) by omega, show (a : Int) / 65536 % 256 = (v1 : Int) by omega, show (a : Int) / 256 % 256 = (v2 : Int) by omega, show (a : Int) % 256 = (v3 : Int) by omega, hl, ← hj]
      simp
    rw [← mk_eq _ (textOf a) this, mk_eq _ s rfl]
  · cases h
/-! ### prefixes -/
theorem ptext_list (a b : Int) : (ptextT a b).data.toList = (textOf a).data.toList ++ 47 :: Lib.itoa b := by
  unfold ptextT textOf
  rw [ByteArray.data_append, ByteArray.data_append, Array.toList_append, Array.toList_append, List.append_assoc]
  rfl
theorem text_no (a : Int) : ∀ x ∈ (textOf a).data.toList, x ≠ 47 := by
  obtain ⟨b0, b1, b2, b3⟩ := bts a
  have h47 : (47 : UInt8).toNat < 48 := by decide
  intro x hx
  unfold textOf at hx
  rw [text_list] at hx
  simp only [List.mem_append, List.mem_cons] at hx
  rcases hx with h | h | h | h | h | h | h
  · exact no_sign _ b0.1 47 h47 x h
  · rw [h]; decide
  · exact no_sign _ b1.1 47 h47 x h
  · rw [h]; decide
  · exact no_sign _ b2.1 47 h47 x h
  · rw [h]; decide
  · exact no_sign _ b3.1 47 h47 x h
theorem ptext_stroke (a b : Int) : (textOf a).size < (ptextT a b).size ∧ (∀ j : Nat, j < (textOf a).size → ¬ bt (ptextT a b) j = 47) ∧ bt (ptextT a b) ((textOf a).size : Nat) = 47 ∧ (ptextT a b).extract 0 (textOf a).size = textOf a ∧ ((ptextT a b).extract ((textOf a).size + 1) (ptextT a b).size).data.toList = Lib.itoa b := by
  have hl := ptext_list a b
  obtain ⟨h1, h2, h3⟩ := part_at (ptextT a b) 0 (textOf a).data.toList (Lib.itoa b) 47 (by rw [List.drop_zero]; exact hl)
  rw [Nat.zero_add, size_list] at h1 h2 h3
  refine ⟨h1, fun j hj => part_bt (ptextT a b) 0 (textOf a).data.toList (47 :: Lib.itoa b) (by rw [List.drop_zero]; exact hl) 47 (text_no a) j (by omega) (by rw [size_list]; omega), h2, ?_, ?_⟩
  · have e : ((ptextT a b).extract 0 (textOf a).size).data.toList = (textOf a).data.toList := by
      rw [list_mid, List.drop_zero, hl, Nat.sub_zero]
      exact List.take_left' (size_list _)
    exact (mk_eq _ _ e).symm.trans (mk_eq _ (textOf a) rfl)
  · rw [list_ext, h3]
theorem chk_bits {a b : Int} (h : chk a b = 0) : 0 ≤ b ∧ b ≤ 32 := by
  obtain ⟨h0, h1, -⟩ := chk_zero.1 h
  exact ⟨h0, h1⟩
theorem pfx_text (a b : Int) (ha : isA a) (h : chk a b = 0) : pfxAt (ptextT a b) (textOf a).size = (a, b, 0) := by
  obtain ⟨h1, -, -, h2, h3⟩ := ptext_stroke a b
  obtain ⟨g0, g1⟩ := chk_bits h
  obtain ⟨a0, a1⟩ := ha
  unfold pfxAt
  rw [if_pos h1, h2, h3, parse_text a ⟨a0, a1⟩, numS_text b 32 g0 g1 (by omega)]
  unfold pfxOf
  simp only
  rw [Int.toNat_of_nonneg a0, Int.toNat_of_nonneg g0, if_pos h]
theorem text_pfx (s : ByteArray) (m : Nat) (hm : m ≤ s.size) (h2 : m < s.size → bt s m = 47) (h : (pfxAt s m).2.2 = 0) : isA (pfxAt s m).1 ∧ (0 ≤ (pfxAt s m).2.1 ∧ (pfxAt s m).2.1 ≤ 32) ∧ ptextT (pfxAt s m).1 (pfxAt s m).2.1 = s := by
  unfold pfxAt at h ⊢
  by_cases hl : m < s.size
  · rw [if_pos hl] at h ⊢
    cases hp : parse (s.extract 0 m) with
    | none => rw [hp] at h; unfold pfxOf at h; cases h
    | some a =>
      cases hn : numS (s.extract (m + 1) s.size).data.toList 32 with
      | none => rw [hp, hn] at h; unfold pfxOf at h; cases h
      | some b =>
        rw [hp, hn] at h
        unfold pfxOf at h ⊢
        simp only at h ⊢
        by_cases hc : chk (a : Int) (b : Int) = 0
        · rw [if_pos hc]
          have hb := chk_bits hc
          refine ⟨parse_isA _ _ hp, hb, ?_⟩
          obtain ⟨g, -, -⟩ := (numS_iff _ _ _).1 hn
          have ht := text_parse _ _ hp
          have hl2 := ptext_list (a : Int) (b : Int)
          rw [ht, Lib.itoa_nonneg, ← g] at hl2
          have hd : s.data.toList.drop m = 47 :: s.data.toList.drop (m + 1) := by
            have hg := some_bt (c := 47) hl (h2 hl)
            have hlt : m < s.data.toList.length := by rw [size_list]; exact hl
            rw [List.getElem?_eq_getElem hlt] at hg
            rw [List.drop_eq_getElem_cons hlt, Option.some.inj hg]
          rw [list_take, list_ext, ← hd, List.take_append_drop] at hl2
          rw [← mk_eq _ (ptextT a b) hl2, mk_eq _ s rfl]
        · rw [if_neg hc] at h
          exact absurd h hc
  · rw [if_neg hl] at h
    cases h
/-! ### masks -/
def mk (n : Int) : Int × Int := if 0 ≤ n ∧ n ≤ 32 then (4294967296 - sz n, 0) else (0, 1)
theorem mask_val (n : Int) : addr_Mask.f n = some (mk n) := by
  unfold addr_Mask.f mk
  by_cases h : 0 ≤ n ∧ n ≤ 32
  · have hp := sz_pos n
    have hl := sz_le h.1
    rw [if_neg (by omega), if_neg (by omega), if_pos h, behind_val n h.1 h.2, Option.bind_some, not_u32 _ (by omega) (by omega)]
    congr 2
    omega
  · rw [if_neg h]
    by_cases h1 : n < 0
    · rw [if_pos h1]
    · rw [if_neg h1, if_pos (by omega)]
theorem bitLen_ones (k : Nat) (hk : k ≤ 32) : Lib.bitLen (2 ^ k - 1) = k := by
  have hp : 0 < 2 ^ k := Nat.two_pow_pos k
  have hl : 2 ^ k ≤ 2 ^ 32 := Nat.pow_le_pow_right (by decide) hk
  have h1 := (bitLen_le (2 ^ k - 1) k (by omega)).2 (by omega)
  rcases Nat.eq_zero_or_pos k with h0 | h0
  · omega
  · have h2 : ¬ Lib.bitLen (2 ^ k - 1) ≤ k - 1 := by
      rw [bitLen_le _ _ (by omega)]
      have : 2 ^ k = 2 ^ (k - 1) * 2 := by rw [← Nat.pow_succ, show (k - 1).succ = k from by omega]
      have : 0 < 2 ^ (k - 1) := Nat.two_pow_pos _
      omega
    omega
theorem bits_some (a n : Int) (ha : isA a) (h0 : 0 ≤ n) (h1 : n ≤ 32) (h : 4294967296 - sz n = a) : addr_Bits.f a = some (n, 0) := by
  obtain ⟨a0, a1⟩ := ha
  have hp := sz_pos n
  unfold addr_Bits.f bits_LeadingZeros32.f
  rw [not_u32 a a0 a1, if_pos (by omega), Option.bind_some]
  have e : (4294967295 - a).toNat = 2 ^ (32 - n).toNat - 1 := by rw [sz_nat] at h; omega
  rw [e, bitLen_ones _ (by omega), show 32 - ((32 - n).toNat : Int) = n from by omega, behind_val n h0 h1, Option.bind_some, not_u32 _ (by omega) (by omega), if_pos (by omega)]
/-! ### a prefix out of any numbers -/
theorem u64_mod (n : Int) (h0 : -9223372036854775808 ≤ n) (h1 : n ≤ 9223372036854775807) : 0 ≤ Int.tmod (IntKind.u64.wrap n) 33 ∧ Int.tmod (IntKind.u64.wrap n) 33 ≤ 32 := by
  have hw : 0 ≤ IntKind.u64.wrap n := by
    rw [IntKind.wrap_u64]
    exact Int.emod_nonneg _ (by decide)
  rw [Int.tmod_eq_emod_of_nonneg hw]
  omega
theorem fit_val (a n : Int) (ha : isA a) (h0 : -9223372036854775808 ≤ n) (h1 : n ≤ 9223372036854775807) : ∃ b, (0 ≤ b ∧ b ≤ 32) ∧ waymarklaw01_fit.f a n = some (sz b * (a / sz b), b) := by
  have hb := u64_mod n h0 h1
  refine ⟨Int.tmod (IntKind.u64.wrap n) 33, hb, ?_⟩
  unfold waymarklaw01_fit.f
  generalize Int.tmod (IntKind.u64.wrap n) 33 = b at hb ⊢
  have hv := behind_val b hb.1 hb.2
  unfold addr_behind.f at hv
  rw [w64_id b (by omega) (by omega)]
  by_cases c : 0 ≤ wrap64 (32 - b)
  · rw [if_pos c] at hv ⊢
    rw [Option.some.inj hv, andNot_mask a ha.1 ha.2 b hb.1 hb.2]
  · rw [if_neg c] at hv
    cases hv
theorem fit_facts (a b : Int) (ha : isA a) (hb : 0 ≤ b ∧ b ≤ 32) : isA (sz b * (a / sz b)) ∧ chk (sz b * (a / sz b)) b = 0 := by
  obtain ⟨a0, a1⟩ := ha
  have hp := sz_pos b
  have h1 := Int.mul_ediv_add_emod a (sz b)
  have h2 := Int.emod_nonneg a (show sz b ≠ 0 by omega)
  have h3 : 0 ≤ sz b * (a / sz b) := Int.mul_nonneg (by omega) (Int.ediv_nonneg a0 (by omega))
  exact ⟨⟨h3, by omega⟩, chk_zero.2 ⟨hb.1, hb.2, Int.mul_emod_right _ _⟩⟩
theorem ptext_size (a b : Int) (h0 : -9223372036854775808 ≤ b) (h1 : b ≤ 9223372036854775807) : (ptextT a b).size ≤ 41 := by
  obtain ⟨b0, b1, b2, b3⟩ := bts a
  have ht := text_size _ _ _ _ b0 b1 b2 b3
  have hi := itoa_size b h0 h1
  have e1 : (⟨#[47]⟩ : ByteArray).size = 1 := rfl
  unfold ptextT
  rw [ByteArray.size_append, ByteArray.size_append, e1]
  omega
theorem back_j0 (s : ByteArray) (hs : s.size ≤ 1048577) : Ev (fun k => waymarklaw01_AddrBack.j0 k s false) true := by
  obtain ⟨m, -, h2, h3, h4⟩ := scan_ex (fun j => bt s j = 47) s.size s.size 0 (by omega)
  have h3' : ∀ j : Nat, j < m → ¬ bt s j = 47 := fun j hj => h3 j (by omega) hj
  have h4' : m < s.size → bt s m = 47 := fun h => h4.resolve_left (by omega)
  have hx := text_pfx s m h2 h4'
  refine Ev.step (fun k => by rw [waymarklaw01_AddrBack.j0]) (ev_neg (by simp) ?_)
  refine ev_bind _ (parse_val s hs) (ev_bind _ (pfx_val s m hs h2 h3' h4') ?_)
  have last : Ev (fun k => if (pfxAt s m).2.2 = 0 then ((addr_PrefixText.f (pfxAt s m).1 (pfxAt s m).2.1).bind fun t => (some (t.toList == s.toList))) else (some true)) true := by
    by_cases hc : (pfxAt s m).2.2 = 0
    · obtain ⟨g1, g2, g3⟩ := hx hc
      refine ev_pos hc (ev_is _ (ptext_val _ _ g1 (by omega) (by omega)) (ev_to (ev_now _) ?_))
      rw [g3]
      simp
    · exact ev_neg hc (ev_now _)
  cases hp : parse s with
  | none => exact ev_neg (by decide) last
  | some a =>
    refine ev_pos rfl ?_
    have ha := parse_isA _ _ hp
    refine ev_is _ (text_val (a : Int) ha) (ev_pos ?_ last)
    show (textOf a).toList = s.toList
    rw [text_parse s a hp]
theorem addrBack_pure (a n : Int) (s : ByteArray) (hs : s.size ≤ 1048577) (ha : isA a) (h0 : -9223372036854775808 ≤ n) (h1 : n ≤ 9223372036854775807) : ∃ k, waymarklaw01_AddrBack.f k a n s = some true := by
  obtain ⟨b, hb, hf⟩ := fit_val a n ha h0 h1
  obtain ⟨hx, hc⟩ := fit_facts a b ha hb
  have hp := sz_pos b
  have hl := sz_le hb.1
  generalize sz b * (a / sz b) = x at hf hx hc
  have hsz := text_size _ _ _ _ (bts a).1 (bts a).2.1 (bts a).2.2.1 (bts a).2.2.2
  have hps := ptext_size x b (by omega) (by omega)
  have e1 : Ev (fun k => addr_Parse.f k (textOf a)) (a, 0) := ev_to (parse_val (textOf a) (by unfold textOf; omega)) (by
    rw [parse_text a ha]
    show ((a.toNat : Int), (0 : Int)) = _
    rw [Int.toNat_of_nonneg ha.1])
  obtain ⟨g1, g2, g3, -, -⟩ := ptext_stroke x b
  have e2 : Ev (fun k => addr_ParsePrefix.f k (ptextT x b)) (x, b, 0) := ev_to (pfx_val (ptextT x b) (textOf x).size (by omega) (by omega) g2 (fun _ => g3)) (pfx_text x b hx hc)
  have e3 : addr_Mask.f b = some (4294967296 - sz b, 0) := by rw [mask_val, mk, if_pos hb]
  refine Ev.rounds ?_
  unfold waymarklaw01_AddrBack.f
  refine ev_bind true (Ev.of waymarklaw01_works.mono works_true) (ev_pos rfl ?_)
  refine ev_is _ hf (ev_is _ (text_val a ha) (ev_bind _ e1 (ev_is _ (ptext_val x b hx (by omega) (by omega)) (ev_bind _ e2 (ev_is _ e3 (ev_is _ (bits_some (4294967296 - sz b) b ⟨by omega, by omega⟩ hb.1 hb.2 rfl) ?_))))))
  refine ev_pos rfl (ev_pos rfl (ev_pos rfl (ev_pos rfl (ev_pos rfl ?_))))
  have hsame : waymarklaw01_same.f x b x b = some true := by
    unfold waymarklaw01_same.f
    rw [if_pos rfl]
    simp
  refine ev_is _ hsame (ev_pos rfl ?_)
  show Ev (fun k => waymarklaw01_AddrBack.j0 k s (b != b)) true
  rw [show (b != b) = false by simp]
  exact back_j0 s hs
end Go.Proofs.YtbnihnggljagnaaDoor.QAddrBack
