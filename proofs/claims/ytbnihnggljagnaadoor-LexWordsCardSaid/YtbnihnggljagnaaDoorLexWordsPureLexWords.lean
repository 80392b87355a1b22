/- The plain law of LexWords. Conditions: none. -/
import Derived.Test.YtbnihnggljagnaaDoorQLexWordsx3
import Derived.Test.YtbnihnggljagnaaDoorLexMath
import Derived.Test.YtbnihnggljagnaaDoorNumMath
namespace Go.Proofs.YtbnihnggljagnaaDoor.QLexWords
open Go.RowKit Go.Proofs.YtbnihnggljagnaaDoorW.PrintWords Go.Proofs.YtbnihnggljagnaaDoor.Tools Go.Proofs.YtbnihnggljagnaaDoor.LexMath Go.Proofs.YtbnihnggljagnaaDoor.NumMath
set_option linter.unusedVariables false
set_option linter.unusedSimpArgs false
theorem drop_cons (x : ByteArray) (m : Nat) (h : m < x.size) : x.data.toList.drop m = (bt x m).toNat.toUInt8 :: x.data.toList.drop (m + 1) := by
  have e := bt_list x m h
  have hl : m < x.data.toList.length := by rw [size_list]; exact h
  rw [List.getElem?_eq_getElem hl] at e
  rw [List.drop_eq_getElem_cons hl, Option.some.inj e]
theorem byte_nat (s : ByteArray) (i : Int) : ((bt s i).toNat.toUInt8).toNat = (bt s i).toNat := by
  have h := bt_nn s i
  have := (byte_eq (bt s i) h (bt s i).toNat.toUInt8).1 rfl
  omega
/-- One byte more. -/
theorem valD_at (s : ByteArray) (i acc : Nat) (h : i < s.size) : valD acc (s.data.toList.drop i) = if 48 ≤ bt s i ∧ bt s i ≤ 57 then valD (acc * 10 + ((bt s i).toNat - 48)) (s.data.toList.drop (i + 1)) else none := by
  rw [drop_cons s i h, valD, byte_nat]
  have hb := bt_nn s i
  by_cases hd : 48 ≤ bt s i ∧ bt s i ≤ 57
  · rw [if_pos hd, if_pos (by omega)]
  · rw [if_neg hd, if_neg (by omega)]
theorem valD_end (s : ByteArray) (acc : Nat) : valD acc (s.data.toList.drop s.size) = some acc := by
  rw [List.drop_of_length_le (by rw [size_list]; omega)]; rfl
/-- What both tell of a number that was read. -/
def told (most : Int) : Option Nat → Int × Bool
  | some v => if (v : Int) > most then (0, false) else ((v : Int), true)
  | none => (0, false)
theorem ref_small (s : ByteArray) (most : Int) (hs : s.size ≤ 18) : ∀ d i acc : Nat, i + d = s.size → acc < 10 ^ i → Ev (fun k => waymarkref07_Number.l0 k s most acc i) (told most (valD acc (s.data.toList.drop i))) := by
  intro d
  induction d with
  | zero =>
    intro i acc hi ha
    obtain rfl : i = s.size := by omega
    rw [valD_end]
    refine Ev.step (fun k => by rw [waymarkref07_Number.l0]) (ev_neg (by omega) ?_)
    show Ev _ (if (acc : Int) > most then ((0 : Int), false) else ((acc : Int), true))
    by_cases hm : (acc : Int) > most
    · exact ev_to (ev_pos hm (ev_now _)) (if_pos hm).symm
    · exact ev_to (ev_neg hm (ev_now _)) (if_neg hm).symm
  | succ d ih =>
    intro i acc hi ha
    have hil : i < s.size := by omega
    have hb := bt_nn s i
    rw [valD_at s i acc hil]
    refine Ev.step (fun k => by rw [waymarkref07_Number.l0]) (ev_pos (by omega) (ev_pos (by omega) ?_))
    by_cases h1 : bt s i < 48
    · rw [if_neg (by omega)]; exact ev_pos h1 (ev_now _)
    by_cases h2 : bt s i > 57
    · rw [if_neg (by omega)]; exact ev_neg h1 (ev_pos h2 (ev_now _))
    rw [if_pos ⟨by omega, by omega⟩]
    refine ev_neg h1 (ev_neg h2 ?_)
    have hp : 10 ^ i ≤ 10 ^ 17 := Nat.pow_le_pow_right (by decide) (by omega)
    have hp' : (10 : Nat) ^ 17 = 100000000000000000 := by decide
    have e := ih (i + 1) (acc * 10 + ((bt s i).toNat - 48)) (by omega) (by rw [Nat.pow_succ]; omega)
    have e1 : (bt s i - 48) % 256 = bt s i - 48 := Int.emod_eq_of_lt (by omega) (by omega)
    rw [e1, w64_id (10 * (acc : Int)) (by omega) (by omega), w64_id _ (by omega) (by omega), w64_id _ (by omega) (by omega), show 10 * (acc : Int) + (bt s i - 48) = ((acc * 10 + ((bt s i).toNat - 48) : Nat) : Int) by omega]
    exact e
/-- A byte that is no digit: whatever was read. -/
theorem big_bad (s : ByteArray) (most : Int) (hs : s.size = 19) : ∀ d i acc : Nat, ∀ x : Int, i + d = 19 → valD acc (s.data.toList.drop i) = none → Ev (fun k => waymarkref07_big.l0 k s most x i) (0, false) := by
  intro d
  induction d with
  | zero =>
    intro i acc x hi hv
    rw [show i = s.size by omega, valD_end] at hv
    cases hv
  | succ d ih =>
    intro i acc x hi hv
    have hil : i < s.size := by omega
    have hb := bt_nn s i
    rw [valD_at s i acc hil] at hv
    refine Ev.step (fun k => by rw [waymarkref07_big.l0]) (ev_pos (by omega) (ev_pos (by omega) (ev_pos (by omega) ?_)))
    by_cases h1 : bt s i < 48
    · exact ev_pos h1 (ev_now _)
    by_cases h2 : bt s i > 57
    · exact ev_neg h1 (ev_pos h2 (ev_now _))
    rw [if_pos ⟨by omega, by omega⟩] at hv
    refine ev_neg h1 (ev_neg h2 ?_)
    rw [w64_id ((i : Int) + 1) (by omega) (by omega)]
    exact ih (i + 1) _ _ (by omega) hv
theorem big_good (s : ByteArray) (most : Int) (hs : s.size = 19) (v : Nat) (hv63 : v < 9223372036854775808) : ∀ d i acc : Nat, i + d = 19 → valD acc (s.data.toList.drop i) = some v → Ev (fun k => waymarkref07_big.l0 k s most acc i) (told most (some v)) := by
  intro d
  induction d with
  | zero =>
    intro i acc hi hv
    rw [show i = s.size by omega, valD_end] at hv
    obtain rfl := Option.some.inj hv
    refine Ev.step (fun k => by rw [waymarkref07_big.l0]) (ev_neg (by omega) ?_)
    show Ev _ (if (acc : Int) > most then ((0 : Int), false) else ((acc : Int), true))
    by_cases hm : (acc : Int) > most
    · exact ev_to (ev_pos hm (ev_now _)) (if_pos hm).symm
    · exact ev_to (ev_neg hm (ev_now _)) (if_neg hm).symm
  | succ d ih =>
    intro i acc hi hv
    have hil : i < s.size := by omega
    have hb := bt_nn s i
    rw [valD_at s i acc hil] at hv
    refine Ev.step (fun k => by rw [waymarkref07_big.l0]) (ev_pos (by omega) (ev_pos (by omega) (ev_pos (by omega) ?_)))
    by_cases hd : 48 ≤ bt s i ∧ bt s i ≤ 57
    · rw [if_pos hd] at hv
      have hle := valD_le _ _ _ hv
      refine ev_neg (by omega) (ev_neg (by omega) ?_)
      have e1 : (bt s i - 48) % 256 = bt s i - 48 := Int.emod_eq_of_lt (by omega) (by omega)
      rw [e1, w64_id (10 * (acc : Int)) (by omega) (by omega), w64_id _ (by omega) (by omega), w64_id _ (by omega) (by omega), show 10 * (acc : Int) + (bt s i - 48) = ((acc * 10 + ((bt s i).toNat - 48) : Nat) : Int) by omega]
      exact ih (i + 1) _ (by omega) hv
    · rw [if_neg hd] at hv; cases hv
theorem less_val : ∀ (l m : List UInt8) (a b u v : Nat), valD a l = some u → valD b m = some v → l.length = m.length → (a < b → u < v) ∧ (a = b → (Op.bytesLess l m = true ↔ u < v))
  | [], [], a, b, u, v, hu, hv, _ => by
    simp only [valD, Option.some.injEq] at hu hv
    subst hu; subst hv
    exact ⟨fun h => h, fun h => by subst h; simp [Op.bytesLess]⟩
  | [], _ :: _, _, _, _, _, _, _, h => by simp at h
  | _ :: _, [], _, _, _, _, _, _, h => by simp at h
  | c :: l, d :: m, a, b, u, v, hu, hv, h => by
    rw [valD] at hu hv
    split at hu
    · rename_i hc
      split at hv
      · rename_i hd
        have hl : l.length = m.length := by simpa using h
        obtain ⟨i1, i2⟩ := less_val l m _ _ u v hu hv hl
        refine ⟨fun hab => i1 (by omega), fun hab => ?_⟩
        subst hab
        rw [Op.bytesLess]
        rcases Nat.lt_trichotomy c.toNat d.toNat with hcd | hcd | hcd
        · have hlt : decide (c < d) = true := decide_eq_true (UInt8.lt_iff_toNat_lt.2 hcd)
          rw [hlt, Bool.true_or]
          exact ⟨fun _ => i1 (by omega), fun _ => rfl⟩
        · have hceq : c = d := UInt8.toNat_inj.1 hcd
          subst hceq
          rw [decide_eq_false (by simp), beq_self_eq_true, Bool.false_or, Bool.true_and]
          exact i2 rfl
        · have hlt : decide (c < d) = false := decide_eq_false (fun h => by have := UInt8.lt_iff_toNat_lt.1 h; omega)
          have hne : (c == d) = false := beq_eq_false_iff_ne.2 (fun h => by subst h; omega)
          rw [hlt, hne, Bool.false_and, Bool.false_or]
          have := (less_val m l (a * 10 + (d.toNat - 48)) (a * 10 + (c.toNat - 48)) v u hv hu hl.symm).1 (by omega)
          exact ⟨fun h => by simp at h, fun h => by omega⟩
      · cases hv
    · cases hu
  termination_by l => l.length
/-- The greatest int, written. -/
def most63 : List UInt8 := [57, 50, 50, 51, 51, 55, 50, 48, 51, 54, 56, 53, 52, 55, 55, 53, 56, 48, 55]
theorem number_most : Ev (fun k => waymarkref01_Number.f k 9223372036854775807) (⟨most63.toArray⟩ : ByteArray) := by
  have h : waymarkref01_Number.f 25 9223372036854775807 = some (⟨most63.toArray⟩ : ByteArray) := by decide +kernel
  exact Ev.of (waymarkref01_Number.mono _) h
theorem numS_told (s : ByteArray) (most : Int) (hc : s.data.toList ≠ [] ∧ (s.data.toList.length = 1 ∨ s.data.toList.head? ≠ some 48)) (h63 : ∀ v, valD 0 s.data.toList = some v → v < 9223372036854775808) : told most (valD 0 s.data.toList) = (match numS s.data.toList most with | some v => ((v : Int), true) | none => (0, false)) := by
  unfold numS
  cases hv : valD 0 s.data.toList with
  | none => rfl
  | some v =>
    have := h63 v hv
    simp only [told]
    by_cases hm : (v : Int) > most
    · rw [if_pos hm, if_neg (by rintro ⟨_, _, h⟩; omega)]
    · rw [if_neg hm, if_pos ⟨hc, this, by omega⟩]
theorem head_bt (s : ByteArray) (h : 0 < s.size) : s.data.toList.head? = some (bt s 0).toNat.toUInt8 := by
  rw [List.head?_eq_getElem?]
  exact bt_list s 0 h
theorem head_48 (s : ByteArray) (h : 0 < s.size) : s.data.toList.head? = some 48 ↔ bt s 0 = 48 := by
  rw [head_bt s h, Option.some.injEq, byte_eq (bt s 0) (bt_nn s 0) 48]
  exact Iff.rfl
/-- What the reference tells of a text. -/
def refR (s : ByteArray) (most : Int) : Int × Bool := match numS s.data.toList most with | some v => ((v : Int), true) | none => (0, false)
theorem refR_none (s : ByteArray) (most : Int) (h : ∀ v, valD 0 s.data.toList = some v → (s.data.toList ≠ [] ∧ (s.data.toList.length = 1 ∨ s.data.toList.head? ≠ some 48)) → v < 9223372036854775808 → False) : refR s most = (0, false) := by
  unfold refR numS
  cases hv : valD 0 s.data.toList with
  | none => rfl
  | some v =>
    simp only
    rw [if_neg (fun hc => h v hv hc.1 hc.2.1)]
theorem canon_low (l : List UInt8) (v : Nat) (hv : valD 0 l = some v) (h : l.head? ≠ some 48) (hn : l ≠ []) : 10 ^ (l.length - 1) ≤ v := by
  cases l with
  | nil => exact absurd rfl hn
  | cons c l =>
    rw [valD] at hv
    split at hv
    · rename_i hc
      have h48 : ¬ c.toNat = 48 := fun e => h (by rw [List.head?_cons, UInt8.toNat_inj.1 (show c.toNat = (48 : UInt8).toNat from e)])
      obtain ⟨g, _⟩ := valD_ge _ _ _ hv
      show 10 ^ (l.length + 1 - 1) ≤ v
      rw [Nat.add_sub_cancel]
      refine Nat.le_trans ?_ g
      exact Nat.le_mul_of_pos_left _ (by omega)
    · cases hv
theorem big_val (s : ByteArray) (most : Int) (h : s.size > 18 ∨ s.size = 0 ∨ (s.size > 1 ∧ bt s 0 = 48)) : Ev (fun k => waymarkref07_big.f k s most) (refR s most) := by
  have out : ∀ r : Int × Bool, r = (0, false) → Ev (fun k => waymarkref07_big.j0 k s most true) r := fun r hr => by
    rw [hr]
    refine Ev.step (fun k => by rw [waymarkref07_big.j0]) ?_
    exact ev_pos rfl (ev_now _)
  refine Ev.congr (fun k => by rw [waymarkref07_big.f]) ?_
  by_cases h19 : s.size = 19
  · refine ev_pos (by omega) (ev_pos (by omega) ?_)
    have hne : s.data.toList ≠ [] := fun e => by
      have := congrArg List.length e
      rw [size_list] at this
      have : s.size = 0 := this
      omega
    by_cases h48 : bt s 0 = 48
    · refine ev_pos h48 (out _ (refR_none s most fun v _ hc _ => ?_))
      rcases hc.2 with h1 | h1
      · rw [size_list] at h1; omega
      · exact h1 ((head_48 s (by omega)).2 h48)
    · refine ev_neg h48 (Ev.bind number_most ?_)
      have hl : (⟨most63.toArray⟩ : ByteArray).toList = most63 := by rw [ByteArray.toList_eq]
      have hs : s.toList = s.data.toList := ByteArray.toList_eq _
      rw [hl, hs]
      have hlen : most63.length = s.data.toList.length := by rw [size_list, h19]; rfl
      have hcan : s.data.toList ≠ [] ∧ (s.data.toList.length = 1 ∨ s.data.toList.head? ≠ some 48) := ⟨hne, .inr (fun e => h48 ((head_48 s (by omega)).1 e))⟩
      have hm63 : valD 0 most63 = some 9223372036854775807 := by decide +kernel
      have go0 : ∀ r, Ev (fun k => waymarkref07_big.l0 k s most 0 0) r → Ev (fun k => waymarkref07_big.j0 k s most false) r := fun r hr => by
        refine Ev.step (fun k => by rw [waymarkref07_big.j0]) ?_
        exact ev_neg (by decide) hr
      cases hv : valD 0 s.data.toList with
      | none =>
        have hr : refR s most = (0, false) := refR_none s most fun v hv' _ _ => by rw [hv] at hv'; cases hv'
        cases hb : Op.bytesLess most63 s.data.toList with
        | true => exact out _ hr
        | false =>
          rw [hr]
          exact go0 _ (big_bad s most h19 19 0 0 0 (by omega) (by rw [List.drop_zero]; exact hv))
      | some v =>
        have hcmp := (less_val most63 s.data.toList 0 0 _ v hm63 hv hlen).2 rfl
        by_cases hgt : 9223372036854775807 < v
        · rw [hcmp.2 hgt]
          exact out _ (refR_none s most fun v' hv' _ h63 => by rw [hv] at hv'; obtain rfl := Option.some.inj hv'; omega)
        · have hb : Op.bytesLess most63 s.data.toList = false := by
            cases hb : Op.bytesLess most63 s.data.toList with
            | true => exact absurd (hcmp.1 hb) hgt
            | false => rfl
          rw [hb]
          have e := big_good s most h19 v (by omega) 19 0 0 (by omega) (by rw [List.drop_zero]; exact hv)
          have e2 := numS_told s most hcan (fun v' hv' => by rw [hv] at hv'; obtain rfl := Option.some.inj hv'; omega)
          rw [hv] at e2
          unfold refR
          rw [← e2]
          exact go0 _ e
  · refine ev_neg (by omega) (out _ (refR_none s most fun v hv hc h63 => ?_))
    have hlen := size_list s
    rcases h with h | h | ⟨h, h48⟩
    · have hne := hc.1
      have hh : s.data.toList.head? ≠ some 48 := by
        rcases hc.2 with h1 | h1
        · omega
        · exact h1
      have g := canon_low _ v hv hh hne
      have : 10 ^ 19 ≤ 10 ^ (s.data.toList.length - 1) := Nat.pow_le_pow_right (by decide) (by omega)
      have p : (10 : Nat) ^ 19 = 10000000000000000000 := by decide
      omega
    · exact hc.1 (List.length_eq_zero_iff.1 (by omega))
    · rcases hc.2 with h1 | h1
      · omega
      · exact h1 ((head_48 s (by omega)).2 h48)
theorem number_val (s : ByteArray) (most : Int) : Ev (fun k => waymarkref07_Number.f k s most) (refR s most) := by
  have big : (s.size > 18 ∨ s.size = 0 ∨ (s.size > 1 ∧ bt s 0 = 48)) → Ev (fun k => waymarkref07_Number.j0 k s most true) (refR s most) := fun h => by
    refine Ev.step (fun k => by rw [waymarkref07_Number.j0]) ?_
    exact ev_pos rfl (Ev.bind (big_val s most h) (ev_now _))
  have small : 0 < s.size → s.size ≤ 18 → (s.size = 1 ∨ ¬ bt s 0 = 48) → Ev (fun k => waymarkref07_Number.j0 k s most false) (refR s most) := fun h0 h1 h2 => by
    refine Ev.step (fun k => by rw [waymarkref07_Number.j0]) ?_
    refine ev_neg (by decide) ?_
    have e := ref_small s most h1 s.size 0 0 (by omega) (by decide)
    rw [List.drop_zero] at e
    have hlen := size_list s
    have e2 := numS_told s most ⟨fun e => by rw [e] at hlen; simp at hlen; omega, by rcases h2 with h2 | h2; exact .inl (by omega); exact .inr (fun e => h2 ((head_48 s h0).1 e))⟩ (fun v hv => by
      obtain ⟨_, g⟩ := valD_ge _ _ _ hv
      have : 10 ^ s.data.toList.length ≤ 10 ^ 18 := Nat.pow_le_pow_right (by decide) (by omega)
      have p : (10 : Nat) ^ 18 = 1000000000000000000 := by decide
      omega)
    unfold refR
    rw [← e2]
    exact e
  refine Ev.congr (fun k => by rw [waymarkref07_Number.f]) ?_
  by_cases h18 : s.size > 18
  · exact ev_pos (by omega) (big (.inl h18))
  refine ev_neg (by omega) ?_
  by_cases h0 : s.size = 0
  · refine ev_pos ?_ (big (.inr (.inl h0)))
    rw [ByteArray.toList_eq]
    exact List.length_eq_zero_iff.1 (by rw [size_list]; exact h0)
  · refine ev_neg (fun e => h0 ?_) ?_
    · rw [ByteArray.toList_eq] at e
      have := congrArg List.length e
      rw [size_list] at this
      exact this
    by_cases h1 : s.size > 1
    · refine ev_pos (by omega) (ev_pos (by omega) ?_)
      by_cases h48 : bt s 0 = 48
      · rw [show (bt s 0 == 48) = true from beq_iff_eq.2 h48]
        exact big (.inr (.inr ⟨h1, h48⟩))
      · rw [show (bt s 0 == 48) = false from beq_eq_false_iff_ne.2 h48]
        exact small (by omega) (by omega) (.inr h48)
    · exact ev_neg (by omega) (small (by omega) (by omega) (.inl (by omega)))
theorem name_val (s : ByteArray) (hs : s.size ≤ 281474976710656) : Ev (fun k => waymarkref07_Name.f k s) (if 1 ≤ s.size ∧ s.size ≤ 32 then nameFrom s s.size 0 else false) := by
  have key : ∀ d i : Nat, i + d = s.size → Ev (fun k => waymarkref07_Name.l0 k s i) (nameFrom s (s.size - i) i && decide (1 ≤ s.size ∧ s.size ≤ 32)) := by
    intro d
    induction d with
    | zero =>
      intro i hi
      refine Ev.step (fun k => by rw [waymarkref07_Name.l0]) (ev_neg (by omega) ?_)
      rw [show s.size - i = 0 by omega]
      show Ev _ (true && decide (1 ≤ s.size ∧ s.size ≤ 32))
      rw [Bool.true_and]
      by_cases h1 : (s.size : Int) ≥ 1
      · refine ev_to (ev_pos h1 (ev_now _)) ?_
        by_cases h2 : s.size ≤ 32
        · rw [decide_eq_true (by omega), decide_eq_true (by omega)]
        · rw [decide_eq_false (by omega), decide_eq_false (by omega)]
      · refine ev_to (ev_neg h1 (ev_now _)) ?_
        rw [decide_eq_false (by omega)]
    | succ d ih =>
      intro i hi
      have hil : i < s.size := by omega
      have hb := bt_nn s i
      rw [nameFrom_step s i hil]
      generalize hR : ((nameC i (bt s i) && nameFrom s (s.size - (i + 1)) (i + 1)) && decide (1 ≤ s.size ∧ s.size ≤ 32)) = R
      have j3 : Ev (fun k => waymarkref07_Name.j3 k s i (!(nameC i (bt s i)))) R := by
        refine Ev.step (fun k => by rw [waymarkref07_Name.j3]) ?_
        cases hn : nameC i (bt s i) with
        | false =>
          rw [hn] at hR
          subst hR
          exact ev_pos rfl (ev_now _)
        | true =>
          rw [hn, Bool.true_and] at hR
          subst hR
          refine ev_neg (by decide) ?_
          rw [w64_id _ (by omega) (by omega)]
          exact ih (i + 1) (by omega)
      have j2 : Ev (fun k => waymarkref07_Name.j2 k s i (letterB (bt s i)) (otherB (bt s i))) R := by
        refine Ev.step (fun k => by rw [waymarkref07_Name.j2]) ?_
        unfold nameC at j3
        cases hl : letterB (bt s i) with
        | true =>
          rw [hl] at j3
          exact ev_pos rfl j3
        | false =>
          rw [hl, Bool.false_or] at j3
          refine ev_neg (by decide) ?_
          by_cases hi0 : (i : Int) = 0
          · rw [decide_eq_false (by omega), Bool.false_and] at j3
            exact ev_pos hi0 j3
          · rw [decide_eq_true (by omega), Bool.true_and] at j3
            exact ev_neg hi0 j3
      have j1 : Ev (fun k => waymarkref07_Name.j1 k s i (bt s i) (letterB (bt s i))) R := by
        have yes : ((48 ≤ bt s i ∧ bt s i ≤ 57) ∨ bt s i = 45 ∨ bt s i = 95 ∨ bt s i = 46 ∨ bt s i = 47) → Ev (fun k => waymarkref07_Name.j2 k s i (letterB (bt s i)) true) R := fun h => by
          have : otherB (bt s i) = true := decide_eq_true h
          rw [this] at j2; exact j2
        have no : ¬ ((48 ≤ bt s i ∧ bt s i ≤ 57) ∨ bt s i = 45 ∨ bt s i = 95 ∨ bt s i = 46 ∨ bt s i = 47) → Ev (fun k => waymarkref07_Name.j2 k s i (letterB (bt s i)) false) R := fun h => by
          have : otherB (bt s i) = false := decide_eq_false h
          rw [this] at j2; exact j2
        refine Ev.step (fun k => by rw [waymarkref07_Name.j1]) ?_
        by_cases h1 : bt s i ≥ 48
        · refine ev_pos h1 ?_
          by_cases h2 : bt s i ≤ 57
          · exact ev_pos h2 (yes (.inl ⟨h1, h2⟩))
          refine ev_neg h2 ?_
          by_cases h3 : bt s i = 45
          · omega
          refine ev_neg h3 ?_
          by_cases h4 : bt s i = 95
          · exact ev_pos h4 (yes (by omega))
          refine ev_neg h4 (ev_neg (by omega) ?_)
          rw [show (bt s i == 47) = false from beq_eq_false_iff_ne.2 (by omega)]
          exact no (by omega)
        · refine ev_neg h1 ?_
          by_cases h3 : bt s i = 45
          · exact ev_pos h3 (yes (by omega))
          refine ev_neg h3 (ev_neg (by omega) ?_)
          by_cases h5 : bt s i = 46
          · exact ev_pos h5 (yes (by omega))
          refine ev_neg h5 ?_
          by_cases h6 : bt s i = 47
          · rw [show (bt s i == 47) = true from beq_iff_eq.2 h6]
            exact yes (by omega)
          · rw [show (bt s i == 47) = false from beq_eq_false_iff_ne.2 h6]
            exact no (by omega)
      refine Ev.step (fun k => by rw [waymarkref07_Name.l0]) (ev_pos (by omega) (ev_pos (by omega) ?_))
      have yes : ((97 ≤ bt s i ∧ bt s i ≤ 122) ∨ (65 ≤ bt s i ∧ bt s i ≤ 90)) → Ev (fun k => waymarkref07_Name.j1 k s i (bt s i) true) R := fun h => by
        have : letterB (bt s i) = true := decide_eq_true h
        rw [this] at j1; exact j1
      have no : ¬ ((97 ≤ bt s i ∧ bt s i ≤ 122) ∨ (65 ≤ bt s i ∧ bt s i ≤ 90)) → Ev (fun k => waymarkref07_Name.j1 k s i (bt s i) false) R := fun h => by
        have : letterB (bt s i) = false := decide_eq_false h
        rw [this] at j1; exact j1
      have rest : ¬ (97 ≤ bt s i ∧ bt s i ≤ 122) → Ev (fun k => if bt s i ≥ 65 then waymarkref07_Name.j1 k s i (bt s i) (decide (bt s i ≤ 90)) else waymarkref07_Name.j1 k s i (bt s i) false) R := fun h => by
        by_cases h65 : bt s i ≥ 65
        · refine ev_pos h65 ?_
          by_cases h90 : bt s i ≤ 90
          · rw [decide_eq_true h90]; exact yes (by omega)
          · rw [decide_eq_false h90]; exact no (by omega)
        · exact ev_neg h65 (no (by omega))
      by_cases h97 : bt s i ≥ 97
      · refine ev_pos h97 ?_
        by_cases h122 : bt s i ≤ 122
        · exact ev_pos h122 (yes (by omega))
        · exact ev_neg h122 (rest (by omega))
      · exact ev_neg h97 (rest (by omega))
  have e := key s.size 0 (by omega)
  rw [Nat.sub_zero] at e
  have e : Ev (fun k => waymarkref07_Name.l0 k s 0) (nameFrom s s.size 0 && decide (1 ≤ s.size ∧ s.size ≤ 32)) := e
  refine Ev.congr (fun k => by rw [waymarkref07_Name.f]) (ev_to e ?_)
  by_cases hc : 1 ≤ s.size ∧ s.size ≤ 32
  · rw [decide_eq_true hc, if_pos hc, Bool.and_true]
  · rw [decide_eq_false hc, if_neg hc, Bool.and_false]
theorem lexWords_pure (s : ByteArray) (most : Int) (hs : s.size ≤ 281474976710656) : ∃ k, waymarklaw07_LexWords.f k s most = some true := by
  apply Ev.rounds
  have hn : lex_Number.f s most = some (refR s most) := by
    unfold lex_Number.f
    rw [if_pos hs]
    unfold numR refR
    rw [backS_eq]
    cases numS s.data.toList most <;> rfl
  refine Ev.congr (fun k => by rw [waymarklaw07_LexWords.f]) ?_
  refine ev_is _ hn (Ev.bind (number_val s most) (ev_pos rfl (ev_pos (by rw [beq_self_eq_true]) (ev_is _ rfl (Ev.bind (name_val s hs) ?_)))))
  rw [beq_self_eq_true]
  exact ev_now _
end Go.Proofs.YtbnihnggljagnaaDoor.QLexWords
