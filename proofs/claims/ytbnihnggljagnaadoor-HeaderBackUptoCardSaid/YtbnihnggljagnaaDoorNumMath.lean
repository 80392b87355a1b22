/- Numbers as texts: what a text of digits says, and which text a number has. Conditions: none. -/
import Derived.Lib.ItoaNum
import Derived.Lib.ItoaMem
import Derived.Lib.AtoiAll
namespace Go.Proofs.YtbnihnggljagnaaDoor.NumMath
open Go.Lib
set_option linter.unusedVariables false
/-- What digits say behind a number that was read; none: a byte that is no digit. -/
def valD (acc : Nat) : List UInt8 → Option Nat
  | [] => some acc
  | c :: r => if 48 ≤ c.toNat ∧ c.toNat ≤ 57 then valD (acc * 10 + (c.toNat - 48)) r else none
/-- At least one byte, and no 0 ahead of another one. -/
def canon (l : List UInt8) : Prop := l ≠ [] ∧ (l.length = 1 ∨ l.head? ≠ some 48)
theorem valD_snoc (l : List UInt8) (c : UInt8) : ∀ acc, valD acc (l ++ [c]) = (valD acc l).bind fun v => if 48 ≤ c.toNat ∧ c.toNat ≤ 57 then some (v * 10 + (c.toNat - 48)) else none := by
  induction l with
  | nil => intro acc; simp [valD]
  | cons x l ih =>
    intro acc
    rw [List.cons_append, valD, valD]
    split
    · exact ih _
    · rfl
theorem valD_ge (l : List UInt8) : ∀ acc u, valD acc l = some u → acc * 10 ^ l.length ≤ u ∧ u < (acc + 1) * 10 ^ l.length := by
  induction l with
  | nil => intro acc u h; simp [valD] at h; subst h; simp
  | cons c l ih =>
    intro acc u h
    rw [valD] at h
    split at h
    · rename_i hc
      obtain ⟨h1, h2⟩ := ih _ _ h
      rw [List.length_cons, Nat.pow_succ]
      have e1 : acc * (10 ^ l.length * 10) = acc * 10 * 10 ^ l.length := by rw [Nat.mul_comm (10 ^ l.length) 10, Nat.mul_assoc]
      have e2 : (acc + 1) * (10 ^ l.length * 10) = (acc * 10 + 10) * 10 ^ l.length := by rw [Nat.mul_comm (10 ^ l.length) 10, ← Nat.mul_assoc, Nat.add_mul]
      rw [e1, e2]
      constructor
      · exact Nat.le_trans (Nat.mul_le_mul_right _ (by omega)) h1
      · exact Nat.lt_of_lt_of_le h2 (Nat.mul_le_mul_right _ (by omega))
    · cases h
theorem ofNat_toNat {d : Nat} (h : d < 10) : (UInt8.ofNat (48 + d)).toNat = 48 + d := by
  rw [UInt8.toNat_ofNat']; omega
theorem dec_val : ∀ u : Nat, valD 0 (decDigits u) = some u := by
  intro u
  induction u using Nat.strongRecOn with
  | _ u ih =>
    rw [decDigits]
    split
    · rename_i h
      simp only [valD, ofNat_toNat h]
      rw [if_pos (by omega)]
      congr 1
      omega
    · rename_i h
      have hd : u % 10 < 10 := Nat.mod_lt _ (by decide)
      rw [valD_snoc, ih (u / 10) (by omega), Option.bind_some, ofNat_toNat hd, if_pos (by omega)]
      congr 1
      omega
theorem dec_ne (u : Nat) : decDigits u ≠ [] := by
  rw [decDigits]
  split <;> simp
theorem dec_canon : ∀ u : Nat, canon (decDigits u) := by
  intro u
  induction u using Nat.strongRecOn with
  | _ u ih =>
    refine ⟨dec_ne u, ?_⟩
    by_cases h : u < 10
    · left; rw [decDigits_one h]; rfl
    · right
      rw [decDigits, dif_neg h]
      obtain ⟨h1, h2⟩ := ih (u / 10) (by omega)
      rw [List.head?_append]
      by_cases h10 : u / 10 < 10
      · rw [decDigits_one h10]
        show some (UInt8.ofNat (48 + u / 10)) ≠ some 48
        intro e
        have := congrArg UInt8.toNat (Option.some.inj e)
        rw [ofNat_toNat h10] at this
        have : 48 + u / 10 = 48 := this
        omega
      · rcases h2 with h2 | h2
        · rw [decDigits, dif_neg h10, List.length_append, List.length_singleton] at h2
          have := List.length_eq_zero_iff.1 (show (decDigits (u / 10 / 10)).length = 0 by omega)
          exact absurd this (dec_ne _)
        · cases e : decDigits (u / 10) with
          | nil => exact absurd e h1
          | cons c l => rw [e] at h2; exact h2
theorem dec_of (l : List UInt8) : ∀ v, valD 0 l = some v → canon l → l = decDigits v := by
  generalize hn : l.length = n
  induction n generalizing l with
  | zero => intro v _ hc; exact absurd (List.length_eq_zero_iff.1 hn) hc.1
  | succ n ih =>
    intro v hv hc
    obtain ⟨l', c, rfl⟩ : ∃ l' c, l = l' ++ [c] := by
      refine ⟨l.dropLast, l.getLast (by intro h; rw [h] at hn; simp at hn), ?_⟩
      exact (List.dropLast_concat_getLast _).symm
    rw [List.length_append, List.length_singleton] at hn
    rw [valD_snoc] at hv
    obtain ⟨v', hv', hd⟩ := Option.bind_eq_some_iff.1 hv
    split at hd
    · rename_i hdig
      have hd := Option.some.inj hd
      have hcc : UInt8.ofNat (48 + (c.toNat - 48)) = c := by
        apply UInt8.toNat_inj.1
        rw [ofNat_toNat (by omega)]
        omega
      cases l' with
      | nil =>
        have : v' = 0 := by simpa [valD] using hv'.symm
        subst this
        rw [decDigits_one (by omega), ← hd, List.nil_append, show 0 * 10 + (c.toNat - 48) = c.toNat - 48 by omega, hcc]
      | cons x l' =>
        have hx : (x :: l').head? ≠ some 48 := by
          rcases hc.2 with h | h
          · simp at h
          · exact h
        have e := ih (x :: l') (by omega) v' hv' ⟨by simp, .inr hx⟩
        have hv0 : v' ≠ 0 := by
          intro h0
          subst h0
          rw [decDigits_one (by decide)] at e
          rw [e] at hx
          exact hx rfl
        rw [decDigits, dif_neg (by omega), e]
        have e1 : v / 10 = v' := by omega
        have e2 : v % 10 = c.toNat - 48 := by omega
        rw [e1, e2, hcc, ← e]
    · cases hd
theorem pu_ok (l : List UInt8) : ∀ acc u, parseUint10 acc l = .ok u → valD acc l = some u := by
  induction l with
  | nil => intro acc u h; rw [parseUint10] at h; injection h with h; rw [h]; rfl
  | cons c l ih =>
    intro acc u h
    rw [parseUint10] at h
    rw [valD]
    split at h
    · rename_i hc
      rw [if_pos hc]
      split at h
      · cases h
      · split at h
        · cases h
        · exact ih _ _ h
    · cases h
theorem valD_le (l : List UInt8) (acc u : Nat) (h : valD acc l = some u) : acc ≤ u := by
  obtain ⟨h1, _⟩ := valD_ge l acc u h
  exact Nat.le_trans (Nat.le_mul_of_pos_right _ (Nat.pow_pos (by decide))) h1
theorem pu_of (l : List UInt8) : ∀ acc u, valD acc l = some u → u < 18446744073709551616 → parseUint10 acc l = .ok u := by
  induction l with
  | nil => intro acc u h _; rw [valD] at h; rw [parseUint10, Option.some.inj h]
  | cons c l ih =>
    intro acc u h hu
    rw [valD] at h
    rw [parseUint10]
    split at h
    · rename_i hc
      rw [if_pos hc]
      have := valD_le _ _ _ h
      rw [if_neg (by omega), if_neg (by omega)]
      exact ih _ _ h hu
    · cases h
theorem dec_head (u : Nat) : ∃ c l, decDigits u = c :: l ∧ 48 ≤ c.toNat ∧ c.toNat ≤ 57 := by
  cases e : decDigits u with
  | nil => exact absurd e (dec_ne u)
  | cons c l =>
    have h := dec_val u
    rw [e, valD] at h
    split at h
    · rename_i hc; exact ⟨c, l, rfl, hc.1, hc.2⟩
    · cases h
theorem dec_digits (u : Nat) : ∀ c ∈ decDigits u, 48 ≤ c.toNat ∧ c.toNat ≤ 57 := by
  induction u using Nat.strongRecOn with
  | _ u ih =>
    intro c hc
    rw [decDigits] at hc
    split at hc
    · rename_i h
      rw [List.mem_singleton.1 hc, ofNat_toNat h]
      omega
    · rename_i h
      rcases List.mem_append.1 hc with h1 | h1
      · exact ih (u / 10) (by omega) c h1
      · rw [List.mem_singleton.1 h1, ofNat_toNat (Nat.mod_lt _ (by decide))]
        omega
theorem atoi_dec (v : Nat) (h : v < 9223372036854775808) : atoiAll (decDigits v) = .ok v := by
  obtain ⟨c, l, e, h1, h2⟩ := dec_head v
  have hp : parseMag (c :: l) = .ok v := by
    unfold parseMag
    rw [if_neg (by simp), ← e]
    exact pu_of _ _ _ (dec_val v) (by omega)
  rw [e]
  unfold atoiAll
  simp only
  rw [if_neg (by omega), hp]
  simp only
  rw [if_neg (by omega), if_neg (by omega), if_neg (by omega)]
/-- A number's text, in its one form, at most so great; none: it is none. -/
def numS (l : List UInt8) (most : Int) : Option Nat :=
  match valD 0 l with
  | some v => if (l ≠ [] ∧ (l.length = 1 ∨ l.head? ≠ some 48)) ∧ v < 9223372036854775808 ∧ (v : Int) ≤ most then some v else none
  | none => none
theorem numS_iff (l : List UInt8) (most : Int) (v : Nat) : numS l most = some v ↔ l = decDigits v ∧ v < 9223372036854775808 ∧ (v : Int) ≤ most := by
  unfold numS
  constructor
  · intro h
    split at h
    · rename_i v' e
      split at h
      · rename_i hc
        have := Option.some.inj h
        subst this
        exact ⟨dec_of l _ e hc.1, hc.2⟩
      · cases h
    · cases h
  · rintro ⟨rfl, h1, h2⟩
    rw [dec_val]
    simp only
    rw [if_pos ⟨dec_canon v, h1, h2⟩]
/-- What strconv's Atoi, then Itoa, tell of a text. -/
def backS (l : List UInt8) (most : Int) : Option Int :=
  match atoiAll l with
  | .ok v => if v < 0 ∨ v > most ∨ itoa v ≠ l then none else some v
  | _ => none
theorem atoi_bound (l : List UInt8) (v : Int) (h : atoiAll l = .ok v) : -9223372036854775808 ≤ v ∧ v ≤ 9223372036854775807 := by
  unfold atoiAll at h
  split at h
  · cases h
  · simp only at h
    split at h
    · cases h
    · cases h
    · split at h
      · cases h
      · split at h
        · cases h
        · injection h with h
          subst h
          split <;> omega
theorem backS_eq (l : List UInt8) (most : Int) : backS l most = (numS l most).map fun v => (v : Int) := by
  cases e : numS l most with
  | some v =>
    obtain ⟨h1, h2, h3⟩ := (numS_iff l most v).1 e
    unfold backS
    rw [h1, atoi_dec v h2]
    simp only
    rw [if_neg]
    · rfl
    · rw [itoa_nonneg]
      intro h
      rcases h with h | h | h
      · omega
      · omega
      · exact h rfl
  | none =>
    unfold backS
    split
    · rename_i v hv
      split
      · rfl
      · rename_i hc
        exfalso
        have hb := atoi_bound l v hv
        have h0 : 0 ≤ v := by
          rcases Int.lt_or_le v 0 with h | h
          · exact absurd (.inl h) hc
          · exact h
        obtain ⟨n, rfl⟩ := Int.eq_ofNat_of_zero_le h0
        have h2 : (n : Int) ≤ most := by
          rcases Int.lt_or_le most n with h | h
          · exact absurd (.inr (.inl h)) hc
          · exact h
        have h3 : itoa (n : Int) = l := by
          apply Classical.byContradiction
          intro h
          exact hc (.inr (.inr h))
        rw [itoa_nonneg] at h3
        have := (numS_iff l most n).2 ⟨h3.symm, by omega, h2⟩
        rw [e] at this
        cases this
    · rfl
end Go.Proofs.YtbnihnggljagnaaDoor.NumMath
