/- The plain law of AddrTexts: the document's reader and writer, and the law. Conditions: the text is of no more than 1048577 bytes. -/
import Derived.Test.YtbnihnggljagnaaDoorAddrTextsTextsCore
namespace Go.Proofs.YtbnihnggljagnaaDoor.QAddrTexts
open Go.RowKit Go.Proofs.YtbnihnggljagnaaDoorW.PrintWords Go.Proofs.YtbnihnggljagnaaDoorW.PrintLast Go.Proofs.YtbnihnggljagnaaDoorW.PrintMore Go.Proofs.YtbnihnggljagnaaDoor.Tools Go.Proofs.YtbnihnggljagnaaDoor.AM Go.Proofs.YtbnihnggljagnaaDoor.LexMath Go.Proofs.YtbnihnggljagnaaDoor.NumMath
open Go.Lib (decDigits)
set_option linter.unusedVariables false
set_option linter.unusedSimpArgs false
theorem drop_cons (x : ByteArray) (m : Nat) (h : m < x.size) : x.data.toList.drop m = (bt x m).toNat.toUInt8 :: x.data.toList.drop (m + 1) := by
  have e := bt_list x m h
  have hl : m < x.data.toList.length := by rw [size_list]; exact h
  rw [List.getElem?_eq_getElem hl] at e
  rw [List.drop_eq_getElem_cons hl, Option.some.inj e]
theorem byte_nat (s : ByteArray) (i : Int) : ((bt s i).toNat.toUInt8).toNat = (bt s i).toNat := by
  have h := bt_nn s i
  have := (byte_eq (bt s i) h (bt s i).toNat.toUInt8).1 rfl
  omega
theorem valD_at (s : ByteArray) (i acc : Nat) (h : i < s.size) : valD acc (s.data.toList.drop i) = if 48 ≤ bt s i ∧ bt s i ≤ 57 then valD (acc * 10 + ((bt s i).toNat - 48)) (s.data.toList.drop (i + 1)) else none := by
  rw [drop_cons s i h, valD, byte_nat]
  have hb := bt_nn s i
  by_cases hd : 48 ≤ bt s i ∧ bt s i ≤ 57
  · rw [if_pos hd, if_pos (by omega)]
  · rw [if_neg hd, if_neg (by omega)]
theorem valD_end (s : ByteArray) (acc : Nat) : valD acc (s.data.toList.drop s.size) = some acc := by
  rw [List.drop_of_length_le (by rw [size_list]; omega)]; rfl
/-! ### the document's numbers -/
def told (most : Int) : Option Nat → Int
  | some v => if (v : Int) > most then -1 else (v : Int)
  | none => -1
theorem read_l0 (s : ByteArray) (most : Int) (hs : s.size ≤ 12) : ∀ d i acc : Nat, i + d = s.size → acc < 10 ^ i → Ev (fun k => waymarkref01_Read.l0 k s most acc i) (told most (valD acc (s.data.toList.drop i))) := by
  intro d
  induction d with
  | zero =>
    intro i acc hi ha
    obtain rfl : i = s.size := by omega
    rw [valD_end]
    refine Ev.step (fun k => by rw [waymarkref01_Read.l0]) (ev_neg (by omega) ?_)
    show Ev _ (if (acc : Int) > most then (-1 : Int) else (acc : Int))
    by_cases hm : (acc : Int) > most
    · exact ev_to (ev_pos hm (ev_now _)) (if_pos hm).symm
    · exact ev_to (ev_neg hm (ev_now _)) (if_neg hm).symm
  | succ d ih =>
    intro i acc hi ha
    have hil : i < s.size := by omega
    have hb := bt_nn s i
    rw [valD_at s i acc hil]
    refine Ev.step (fun k => by rw [waymarkref01_Read.l0]) (ev_pos (by omega) (ev_pos (by omega) ?_))
    by_cases h1 : bt s i < 48
    · rw [if_neg (by omega)]; exact ev_pos h1 (ev_now _)
    by_cases h2 : bt s i > 57
    · rw [if_neg (by omega)]; exact ev_neg h1 (ev_pos h2 (ev_now _))
    rw [if_pos ⟨by omega, by omega⟩]
    refine ev_neg h1 (ev_neg h2 ?_)
    have hp : 10 ^ i ≤ 10 ^ 11 := Nat.pow_le_pow_right (by decide) (by omega)
    have hp' : (10 : Nat) ^ 11 = 100000000000 := by decide
    have e := ih (i + 1) (acc * 10 + ((bt s i).toNat - 48)) (by omega) (by rw [Nat.pow_succ]; omega)
    have e1 : (bt s i - 48) % 256 = bt s i - 48 := Int.emod_eq_of_lt (by omega) (by omega)
    rw [e1, w64_id (10 * (acc : Int)) (by omega) (by omega), w64_id _ (by omega) (by omega), w64_id _ (by omega) (by omega), show 10 * (acc : Int) + (bt s i - 48) = ((acc * 10 + ((bt s i).toNat - 48) : Nat) : Int) by omega]
    exact e
theorem head_bt (s : ByteArray) (h : 0 < s.size) : s.data.toList.head? = some (bt s 0).toNat.toUInt8 := by
  rw [List.head?_eq_getElem?]
  exact bt_list s 0 h
theorem head_48 (s : ByteArray) (h : 0 < s.size) : s.data.toList.head? = some 48 ↔ bt s 0 = 48 := by
  rw [head_bt s h, Option.some.injEq, byte_eq (bt s 0) (bt_nn s 0) 48]
  exact Iff.rfl
def rd (r : Option Nat) : Int := match r with
  | some v => (v : Int)
  | none => -1
theorem read_val (s : ByteArray) (most : Int) (hm : most ≤ 255) : Ev (fun k => waymarkref01_Read.f k s most) (rd (numS s.data.toList most)) := by
  have out : numS s.data.toList most = none → Ev (fun k => waymarkref01_Read.j0 k s most true) (rd (numS s.data.toList most)) := fun h => by
    rw [h]
    refine Ev.step (fun k => by rw [waymarkref01_Read.j0]) ?_
    exact ev_pos rfl (ev_now _)
  have go : s.size ≤ 12 → (s.data.toList ≠ [] ∧ (s.data.toList.length = 1 ∨ s.data.toList.head? ≠ some 48)) → Ev (fun k => waymarkref01_Read.j0 k s most false) (rd (numS s.data.toList most)) := fun h hc => by
    refine Ev.step (fun k => by rw [waymarkref01_Read.j0]) (ev_neg (by simp) ?_)
    have h1 := read_l0 s most h s.size 0 0 (by omega) (by decide)
    rw [List.drop_zero] at h1
    refine ev_to h1 ?_
    unfold numS
    cases hv : valD 0 s.data.toList with
    | none => rfl
    | some v =>
      have hb := (valD_ge _ _ _ hv).2
      rw [size_list] at hb
      have hp : 10 ^ s.size ≤ 10 ^ 12 := Nat.pow_le_pow_right (by decide) h
      have hp' : (10 : Nat) ^ 12 = 1000000000000 := by decide
      show (if (v : Int) > most then (-1 : Int) else (v : Int)) = _
      simp only
      by_cases hm : (v : Int) > most
      · rw [if_pos hm, if_neg (by rintro ⟨_, _, h⟩; omega)]; rfl
      · rw [if_neg hm, if_pos ⟨hc, by omega, by omega⟩]; rfl
  have none_of : (∀ v : Nat, v ≤ 255 → s.data.toList = decDigits v → False) → numS s.data.toList most = none := fun h => by
    cases e : numS s.data.toList most with
    | none => rfl
    | some v =>
      obtain ⟨h1, h2, h3⟩ := (numS_iff _ _ _).1 e
      exact absurd h1 (fun h1 => h v (by omega) h1)
  unfold waymarkref01_Read.f
  by_cases h0 : s.toList = ([] : List UInt8)
  · refine ev_pos h0 (out (none_of fun v _ e => ?_))
    rw [ByteArray.toList_eq] at h0
    rw [h0] at e
    exact dec_ne v e.symm
  · refine ev_neg h0 ?_
    have hne : s.data.toList ≠ [] := by rw [ByteArray.toList_eq] at h0; exact h0
    have hpos : 0 < s.size := by
      rw [← size_list]
      exact List.length_pos_iff.2 hne
    by_cases h1 : (s.size : Int) > 12
    · refine ev_pos h1 (out (none_of fun v hv e => ?_))
      have := part_size (v : Int) (by omega)
      rw [Lib.itoa_nonneg, ← e, size_list] at this
      omega
    · refine ev_neg h1 ?_
      by_cases h2 : (s.size : Int) > 1
      · refine ev_pos h2 (ev_pos (by omega) ?_)
        by_cases h3 : bt s 0 = 48
        · rw [show (bt s 0 == 48) = true from beq_iff_eq.2 h3]
          refine out (none_of fun v hv e => ?_)
          obtain ⟨-, hc⟩ := dec_canon v
          rw [← e, size_list] at hc
          rcases hc with h | h
          · omega
          · exact h ((head_48 s hpos).2 h3)
        · rw [show (bt s 0 == 48) = false from beq_eq_false_iff_ne.2 h3]
          exact go (by omega) ⟨hne, .inr (fun h => h3 ((head_48 s hpos).1 h))⟩
      · refine ev_neg h2 (go (by omega) ⟨hne, .inl (by rw [size_list]; omega)⟩)
/-! ### the document's addresses -/
theorem rparse_l1 (L : List ByteArray) (hL : L.length = 4) : ∀ d i acc : Nat, i + d = 4 → acc < 256 ^ i → Ev (fun k => waymarkref01_Parse.l1 k L acc i) (ans (pv acc (L.drop i))) := by
  intro d
  induction d with
  | zero =>
    intro i acc hi ha
    obtain rfl : i = 4 := by omega
    have e4 : (256 : Nat) ^ 4 = 4294967296 := by decide
    rw [List.drop_of_length_le (by omega)]
    refine Ev.step (fun k => by rw [waymarkref01_Parse.l1]) (ev_neg (by omega) ?_)
    rw [Int.emod_eq_of_lt (by omega) (by omega)]
    exact ev_now _
  | succ d ih =>
    intro i acc hi ha
    have hil : i < L.length := by omega
    have hp3 : 256 ^ i ≤ 256 ^ 3 := Nat.pow_le_pow_right (by decide) (by omega)
    have e3 : (256 : Nat) ^ 3 = 16777216 := by decide
    rw [List.drop_eq_getElem_cons hil, pv]
    refine Ev.step (fun k => by rw [waymarkref01_Parse.l1]) (ev_pos (by omega) (ev_pos (by omega) (ev_pos (by omega) ?_)))
    rw [rd_at L i hil]
    refine ev_bind _ (read_val L[i] 255 (by omega)) ?_
    unfold n255
    cases hn : numS L[i].data.toList 255 with
    | none => exact ev_pos (by decide) (ev_now _)
    | some v =>
      have hv := numS_le _ _ _ hn
      refine ev_neg (show ¬ (v : Int) < 0 by omega) ?_
      show Ev (fun k => waymarkref01_Parse.l1 k L (wrap64 (wrap64 (256 * (acc : Int)) + (v : Int))) (wrap64 ((i : Int) + 1))) _
      rw [w64_id (256 * (acc : Int)) (by omega) (by omega), w64_id _ (by omega) (by omega), w64_id _ (by omega) (by omega)]
      have := ih (i + 1) (acc * 256 + v) (by omega) (by rw [Nat.pow_succ]; omega)
      rw [show ((acc * 256 + v : Nat) : Int) = 256 * (acc : Int) + v by omega, show ((i + 1 : Nat) : Int) = (i : Int) + 1 by omega] at this
      exact this
def fin (L : List ByteArray) : Int × Int := if L.length = 4 then ans (pv 0 L) else (0, 4)
theorem rparse_skip (s : ByteArray) (hs : s.size ≤ 1048577) (parts : List ByteArray) (a j : Nat) (hj : j ≤ s.size) (r : Int × Int) (h : Ev (fun k => waymarkref01_Parse.l0 k s parts a j) r) : ∀ d i : Nat, i + d = j → (∀ q : Nat, i ≤ q → q < j → ¬ bt s q = 46) → Ev (fun k => waymarkref01_Parse.l0 k s parts a i) r := by
  intro d
  induction d with
  | zero => intro i hi _; obtain rfl : i = j := by omega
            exact h
  | succ d ih =>
    intro i hi hno
    refine Ev.step (fun k => by rw [waymarkref01_Parse.l0]) (ev_pos (by omega) (ev_neg (by omega) (ev_pos (by omega) (ev_pos (by omega) (ev_neg (hno i (by omega) (by omega)) ?_)))))
    rw [w64_id _ (by omega) (by omega)]
    exact ih (i + 1) (by omega) (fun q h1 h2 => hno q (by omega) h2)
theorem rparse_l0 (s : ByteArray) (hs : s.size ≤ 1048577) : ∀ d a : Nat, a + d = s.size → ∀ parts : List ByteArray, parts.length ≤ a → Ev (fun k => waymarkref01_Parse.l0 k s parts a a) (fin (parts ++ SP s a)) := by
  intro d
  induction d using Nat.strongRecOn with
  | _ d ih =>
    intro a had parts hp
    obtain ⟨j, h1, h2, h3, h4⟩ := scan_ex (fun j => bt s j = 46) s.size d a had
    refine rparse_skip s hs parts a j h2 _ ?_ (j - a) a (by omega) h3
    rw [split_at s a j h1 h2 h3 (fun h => h4.resolve_left (by omega))]
    by_cases hl : j < s.size
    · rw [if_pos hl]
      have hb : bt s j = 46 := h4.resolve_left (by omega)
      refine Ev.step (fun k => by rw [waymarkref01_Parse.l0]) (ev_pos (by omega) (ev_neg (by omega) (ev_pos (by omega) (ev_pos (by omega) (ev_pos hb (ev_pos (by omega) (ev_pos (by omega) (ev_pos (by omega) ?_))))))))
      rw [w64_id _ (by omega) (by omega), Int.toNat_natCast, Int.toNat_natCast]
      have := ih (s.size - (j + 1)) (by omega) (j + 1) (by omega) (parts ++ [s.extract a j]) (by simp; omega)
      rw [List.append_assoc] at this
      exact this
    · rw [if_neg hl]
      have hje : j = s.size := by omega
      subst hje
      refine Ev.step (fun k => by rw [waymarkref01_Parse.l0]) (ev_pos (by omega) (ev_pos rfl (ev_pos (by omega) (ev_pos (by omega) (ev_pos (by omega) ?_)))))
      rw [w64_id _ (by omega) (by omega), Int.toNat_natCast, Int.toNat_natCast]
      refine Ev.step (fun k => by rw [waymarkref01_Parse.l0]) (ev_neg (by omega) ?_)
      unfold fin
      by_cases h4 : (parts ++ [s.extract a s.size]).length = 4
      · rw [if_pos h4]
        refine ev_pos (by omega) ?_
        have := rparse_l1 _ h4 4 0 0 rfl (by decide)
        rw [List.drop_zero] at this
        exact this
      · rw [if_neg h4]
        exact ev_neg (by omega) (ev_now _)
theorem rparse_val (s : ByteArray) (hs : s.size ≤ 1048577) : Ev (fun k => waymarkref01_Parse.f k s) (ans (parse s)) := by
  have h := rparse_l0 s hs s.size 0 (by omega) [] (by simp)
  rw [List.nil_append] at h
  refine ev_to h ?_
  unfold fin parse
  split <;> rfl
/-! ### the document's prefixes -/
theorem size_l0 : ∀ (d : Nat) (i e : Int), i + d = 32 → 0 ≤ i → 1 ≤ e → e * sz i ≤ 4294967296 → Ev (fun k => waymarkref01_size.l0 k e i) (e * sz i) := by
  intro d
  induction d with
  | zero =>
    intro i e hi h0 he hl
    refine Ev.step (f := fun _ => some e) (fun k => ?_) (ev_to (ev_now _) (by rw [show i = 32 from by omega, sz_32]; omega))
    simp only [waymarkref01_size.l0]
    rw [if_neg (by omega)]
  | succ d ih =>
    intro i e hi h0 he hl
    have hh := sz_half h0 (by omega)
    have hp := sz_pos (i + 1)
    have e2 : e * sz i = 2 * e * sz (i + 1) := by rw [hh, ← Int.mul_assoc, Int.mul_comm e 2]
    have hb : 2 * e ≤ 2 * e * sz (i + 1) := by
      have := Int.mul_le_mul_of_nonneg_left (show (1 : Int) ≤ sz (i + 1) by omega) (show 0 ≤ 2 * e by omega)
      omega
    refine Ev.step (f := fun k => waymarkref01_size.l0 k (2 * e) (i + 1)) (fun k => ?_) (ev_to (ih (i + 1) (2 * e) (by omega) (by omega) (by omega) (by omega)) e2.symm)
    simp only [waymarkref01_size.l0]
    rw [if_pos (by omega), u64_id _ (by omega) (by omega), w64_id (i + 1) (by omega) (by omega)]
theorem size_val (n : Int) (h0 : 0 ≤ n) (h1 : n ≤ 32) : Ev (fun k => waymarkref01_size.f k n) (sz n) := by
  have := size_l0 (32 - n).toNat n 1 (by omega) h0 (by omega) (by have := sz_le h0; omega)
  rw [Int.one_mul] at this
  exact this
theorem rchk_val (a b : Int) (ha : isA a) : Ev (fun k => waymarkref01_Check.f k a b) (chk a b) := by
  unfold waymarkref01_Check.f chk
  by_cases h : 0 ≤ b ∧ b ≤ 32
  · have hp := sz_pos b
    rw [if_pos h]
    refine ev_neg (by omega) (Ev.step (f := fun k => (waymarkref01_size.f k b).bind fun t => if t = 0 then none else if Int.tmod (IntKind.u64.wrap a) t = 0 then some 0 else some 10) (fun k => ?_) (ev_bind _ (size_val b h.1 h.2) (ev_neg (by omega) ?_)))
    · simp only [waymarkref01_Check.j0]; rw [if_neg (by simp; omega)]
    · obtain ⟨a0, a1⟩ := ha
      rw [u64_id a (by omega) (by omega), Int.tmod_eq_emod_of_nonneg a0]
      by_cases h2 : a % sz b = 0
      · exact ev_posr h2 h2 (ev_now _)
      · exact ev_negr h2 h2 (ev_now _)
  · rw [if_neg h]
    by_cases h1 : b < 0
    · refine ev_pos h1 (Ev.step (f := fun _ => some 1) (fun k => ?_) (ev_now _))
      simp only [waymarkref01_Check.j0]; rw [if_pos True.intro]
    · refine ev_neg h1 (Ev.step (f := fun _ => some 1) (fun k => ?_) (ev_now _))
      simp only [waymarkref01_Check.j0]; rw [if_pos (by simp; omega)]
theorem rpfx_skip (s : ByteArray) (hs : s.size ≤ 1048577) (j : Nat) (hj : j ≤ s.size) (r : Int × Int × Int) (h : Ev (fun k => waymarkref01_ParsePrefix.l0 k s j) r) : ∀ d i : Nat, i + d = j → (∀ q : Nat, q < j → ¬ bt s q = 47) → Ev (fun k => waymarkref01_ParsePrefix.l0 k s i) r := by
  intro d
  induction d with
  | zero => intro i hi _; obtain rfl : i = j := by omega
            exact h
  | succ d ih =>
    intro i hi hno
    refine Ev.step (fun k => by rw [waymarkref01_ParsePrefix.l0]) (ev_pos (by omega) (ev_pos (by omega) (ev_neg (hno i (by omega)) ?_)))
    rw [w64_id _ (by omega) (by omega)]
    exact ih (i + 1) (by omega) hno
theorem rpfx_val (s : ByteArray) (m : Nat) (hs : s.size ≤ 1048577) (hm : m ≤ s.size) (h1 : ∀ j : Nat, j < m → ¬ bt s j = 47) (h2 : m < s.size → bt s m = 47) : Ev (fun k => waymarkref01_ParsePrefix.f k s) (pfxAt s m) := by
  refine rpfx_skip s hs m hm _ ?_ m 0 (by omega) h1
  unfold pfxAt
  by_cases hl : m < s.size
  · rw [if_pos hl]
    have hx : (s.extract 0 m).size ≤ 1048577 := by rw [ByteArray.size_extract]; omega
    refine Ev.step (fun k => by rw [waymarkref01_ParsePrefix.l0]) (ev_pos (by omega) (ev_pos (by omega) (ev_pos (h2 hl) (ev_pos (by omega) ?_))))
    rw [Int.toNat_natCast]
    refine ev_bind _ (rparse_val _ hx) ?_
    rw [w64_id _ (by omega) (by omega), show ((m : Int) + 1).toNat = m + 1 by omega]
    refine ev_pos (by omega) (ev_pos (by omega) ?_)
    refine ev_bind _ (read_val (s.extract (m + 1) s.size) 32 (by omega)) ?_
    have bad : ∀ a b : Int, Ev (fun k => waymarkref01_ParsePrefix.j1 k a b true) ((0 : Int), (0 : Int), (4 : Int)) := fun a b => Ev.step (fun k => by rw [waymarkref01_ParsePrefix.j1]) (ev_pos rfl (ev_now _))
    cases hp : parse (s.extract 0 m) with
    | none =>
      refine ev_neg (by decide) (ev_to (bad _ _) ?_)
      rfl
    | some a =>
      refine ev_pos rfl ?_
      cases hn : numS (s.extract (m + 1) s.size).data.toList 32 with
      | none => exact bad _ _
      | some b =>
        have ha := parse_isA _ _ hp
        have hb := numS_le _ _ _ hn
        have e : decide (rd (some b) < 0) = false := decide_eq_false (show ¬ (b : Int) < 0 by omega)
        rw [e]
        refine Ev.step (fun k => by rw [waymarkref01_ParsePrefix.j1]) (ev_neg (by simp) ?_)
        refine ev_bind _ (rchk_val (a : Int) (b : Int) ha) ?_
        show Ev _ (if chk (a : Int) (b : Int) = 0 then ((a : Int), (b : Int), (0 : Int)) else (0, 0, chk a b))
        by_cases hc : chk (a : Int) (b : Int) = 0
        · exact ev_posr hc hc (ev_now _)
        · have h10 : chk (a : Int) (b : Int) = 10 := by
            unfold chk at hc ⊢
            rw [if_pos ⟨by omega, by omega⟩] at hc ⊢
            by_cases h : (a : Int) % sz b = 0
            · exact absurd (if_pos h) hc
            · exact if_neg h
          rw [h10]
          exact ev_neg (by decide) (ev_now _)
  · rw [if_neg hl]
    exact Ev.step (fun k => by rw [waymarkref01_ParsePrefix.l0]) (ev_neg (by omega) (ev_now _))
/-! ### the document's texts -/
theorem digits_val : ∀ n : Nat, n < 18446744073709551616 → ∀ s : ByteArray, s.size + (decDigits n).length ≤ 1000 → Ev (fun k => waymarkref01_digits.l0 k n s) (⟨(decDigits n ++ s.data.toList).toArray⟩ : ByteArray) := by
  intro n
  induction n using Nat.strongRecOn with
  | _ n ih =>
    intro hn s hs
    have mk1 : ∀ d : Int, 0 ≤ d → d ≤ 9 → IntKind.u64.wrap (48 + d) % 256 = 48 + d := fun d h0 h1 => by
      rw [u64_id _ (by omega) (by omega), Int.emod_eq_of_lt (by omega) (by omega)]
    have sz1 : ∀ d : Int, (strOfNums [d]).size = 1 := fun d => by rw [strOfNums_size]; rfl
    by_cases h9 : n ≤ 9
    · rw [Lib.decDigits_one (show n < 10 by omega)] at hs ⊢
      simp at hs
      refine Ev.step (fun k => by rw [waymarkref01_digits.l0]) (ev_neg (by omega) (ev_some ?_))
      rw [mk1 n (by omega) (by omega)]
      refine ev_pos (by rw [sz1]; omega) (ev_to (ev_now _) ?_)
      refine (mk_eq _ _ ?_).symm
      rw [ByteArray.data_append, Array.toList_append, strOfNums_data]
      simp only [List.map_cons, List.map_nil]
      rw [show ((48 : Int) + n).toNat = 48 + n by omega]
    · have hd : decDigits n = decDigits (n / 10) ++ [UInt8.ofNat (48 + n % 10)] := by rw [decDigits, dif_neg (by omega)]
      rw [hd] at hs ⊢
      rw [List.length_append] at hs
      have hs1 : s.size + ((decDigits (n / 10)).length + 1) ≤ 1000 := hs
      refine Ev.step (fun k => by rw [waymarkref01_digits.l0]) (ev_pos (by omega) (ev_some ?_))
      rw [Int.tmod_eq_emod_of_nonneg (by omega), mk1 ((n : Int) % 10) (by omega) (by omega), Int.tdiv_eq_ediv_of_nonneg (by omega), u64_id _ (by omega) (by omega)]
      refine ev_pos (by rw [sz1]; omega) ?_
      have := ih (n / 10) (by omega) (by omega) (strOfNums [48 + (n : Int) % 10] ++ s) (by rw [ByteArray.size_append, sz1]; omega)
      rw [show ((n / 10 : Nat) : Int) = (n : Int) / 10 by omega] at this
      refine ev_to this ?_
      rw [ByteArray.data_append, Array.toList_append, strOfNums_data]
      simp only [List.map_cons, List.map_nil]
      rw [show ((48 : Int) + (n : Int) % 10).toNat = 48 + n % 10 by omega, List.append_assoc]
theorem number_val (n : Int) (h0 : -9223372036854775808 ≤ n) (h1 : n ≤ 9223372036854775807) : Ev (fun k => waymarkref01_Number.f k n) (⟨(Lib.itoa n).toArray⟩ : ByteArray) := by
  have hl := Lib.itoa_length_le n h0 h1
  unfold waymarkref01_Number.f
  by_cases hneg : n < 0
  · obtain ⟨u, rfl⟩ : ∃ u : Nat, n = -(u : Int) := ⟨n.natAbs, by omega⟩
    rw [Lib.itoa_neg u (by omega)] at hl ⊢
    refine ev_pos hneg ?_
    rw [w64_id (-(u : Int) + 1) (by omega) (by omega), w64_id _ (by omega) (by omega), u64_id (-(-(u : Int) + 1)) (by omega) (by omega), u64_id _ (by omega) (by omega), show -(-(u : Int) + 1) + 1 = (u : Int) by omega]
    rw [List.length_cons] at hl
    have hd := digits_val u (by omega) (⟨#[]⟩ : ByteArray) (by show 0 + _ ≤ _; omega)
    refine ev_bind _ hd ?_
    have hs : (⟨(decDigits u ++ (⟨#[]⟩ : ByteArray).data.toList).toArray⟩ : ByteArray).size ≤ 21 := by
      rw [← size_list]
      show (decDigits u ++ []).length ≤ 21
      rw [List.append_nil]; omega
    refine ev_pos (by omega) (ev_to (ev_now _) ?_)
    refine (mk_eq _ _ ?_).symm
    rw [ByteArray.data_append, Array.toList_append]
    show [45] ++ (decDigits u ++ []) = _
    rw [List.append_nil]; rfl
  · obtain ⟨u, rfl⟩ : ∃ u : Nat, n = u := ⟨n.toNat, by omega⟩
    rw [Lib.itoa_nonneg] at hl ⊢
    refine ev_neg hneg ?_
    rw [u64_id _ (by omega) (by omega)]
    have hd := digits_val u (by omega) (⟨#[]⟩ : ByteArray) (by show 0 + _ ≤ _; omega)
    refine ev_bind _ hd (ev_to (ev_now _) ?_)
    refine (mk_eq _ _ ?_).symm
    show (decDigits u ++ []) = _
    rw [List.append_nil]
theorem rtext_val (a : Int) (ha : isA a) : Ev (fun k => waymarkref01_Text.f k a) (textT (a / 16777216 % 256) (a / 65536 % 256) (a / 256 % 256) (a % 256)) := by
  obtain ⟨b0, b1, b2, b3⟩ := bts a
  obtain ⟨a0, a1⟩ := ha
  have ps : ∀ p : Int, 0 ≤ p ∧ p ≤ 255 → (⟨(Lib.itoa p).toArray⟩ : ByteArray).size ≤ 4 := fun p hp => by rw [← size_list]; exact part_size p hp
  have e46 : (⟨#[46]⟩ : ByteArray).size = 1 := rfl
  have s0 := ps _ b0
  have s1 := ps _ b1
  have s2 := ps _ b2
  have s3 := ps _ b3
  unfold waymarkref01_Text.f
  rw [w64_id a (by omega) (by omega), Int.tdiv_eq_ediv_of_nonneg a0, Int.tdiv_eq_ediv_of_nonneg a0, Int.tdiv_eq_ediv_of_nonneg a0, w64_id (a / 16777216) (by omega) (by omega), w64_id (a / 65536) (by omega) (by omega), w64_id (a / 256) (by omega) (by omega),
    Int.tmod_eq_emod_of_nonneg (show 0 ≤ a / 65536 by omega), Int.tmod_eq_emod_of_nonneg (show 0 ≤ a / 256 by omega), Int.tmod_eq_emod_of_nonneg a0, show a / 16777216 = a / 16777216 % 256 by omega]
  refine ev_bind _ (number_val _ (by omega) (by omega)) (ev_pos (by omega) ?_)
  refine ev_bind _ (number_val _ (by omega) (by omega)) (ev_pos (by simp only [ByteArray.size_append, e46]; omega) (ev_pos (by simp only [ByteArray.size_append, e46]; omega) ?_))
  refine ev_bind _ (number_val _ (by omega) (by omega)) (ev_pos (by simp only [ByteArray.size_append, e46]; omega) (ev_pos (by simp only [ByteArray.size_append, e46]; omega) ?_))
  refine ev_bind _ (number_val _ (by omega) (by omega)) (ev_pos (by simp only [ByteArray.size_append, e46]; omega) (ev_to (ev_now _) ?_))
  unfold textT
  refine (mk_eq _ _ ?_).symm
  simp [ByteArray.data_append, Array.toList_append, Lib.join_cons, Lib.joinTail, part_list]
theorem rptext_val (a b : Int) (ha : isA a) (h0 : -9223372036854775808 ≤ b) (h1 : b ≤ 9223372036854775807) : Ev (fun k => waymarkref01_PrefixText.f k a b) (ptextT a b) := by
  obtain ⟨b0, b1, b2, b3⟩ := bts a
  have ht := text_size _ _ _ _ b0 b1 b2 b3
  have hi := itoa_size b h0 h1
  have e1 : (⟨#[47]⟩ : ByteArray).size = 1 := rfl
  unfold waymarkref01_PrefixText.f
  refine ev_bind _ (rtext_val a ha) (ev_pos (by omega) ?_)
  refine ev_bind _ (number_val b h0 h1) (ev_pos (by rw [ByteArray.size_append, e1]; omega) ?_)
  exact ev_now _
theorem addrTexts_pure (s : ByteArray) (a b c : Int) (hs : s.size ≤ 1048577) (ha : isA a) (hb : isA b) (h0 : -9223372036854775808 ≤ c) (h1 : c ≤ 9223372036854775807) : ∃ k, waymarklaw01_AddrTexts.f k s a b c = some true := by
  obtain ⟨m, -, h2, h3, h4⟩ := scan_ex (fun j => bt s j = 47) s.size s.size 0 (by omega)
  have h3' : ∀ j : Nat, j < m → ¬ bt s j = 47 := fun j hj => h3 j (by omega) hj
  have h4' : m < s.size → bt s m = 47 := fun h => h4.resolve_left (by omega)
  refine Ev.rounds ?_
  unfold waymarklaw01_AddrTexts.f
  refine ev_bind _ (parse_val s hs) (ev_bind _ (rparse_val s hs) (ev_bind _ (pfx_val s m hs h2 h3' h4') (ev_bind _ (rpfx_val s m hs h2 h3' h4') ?_)))
  refine ev_pos rfl (ev_pos rfl ?_)
  have hsame : waymarklaw01_same.f (pfxAt s m).1 (pfxAt s m).2.1 (pfxAt s m).1 (pfxAt s m).2.1 = some true := by
    unfold waymarklaw01_same.f
    rw [if_pos rfl]
    simp
  refine ev_is _ hsame (ev_pos rfl (ev_pos rfl ?_))
  refine ev_is _ (text_val a ha) (ev_bind _ (rtext_val a ha) (ev_pos rfl ?_))
  refine ev_is _ (ptext_val b c hb h0 h1) (ev_bind _ (rptext_val b c hb h0 h1) (ev_to (ev_now _) ?_))
  simp
end Go.Proofs.YtbnihnggljagnaaDoor.QAddrTexts
