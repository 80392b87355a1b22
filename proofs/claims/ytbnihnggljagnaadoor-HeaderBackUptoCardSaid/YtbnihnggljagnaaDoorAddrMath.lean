/- Plain numbers on prefixes: how many addresses a prefix has, which are in it, and what the bits of addresses come to. No program in it. Conditions: none. -/
import Derived.Laws.BitsAllLaws
import Derived.Laws.BitsLemmas
import Derived.Lib.ItoaNum
import Derived.Lib.BitFns
namespace Go.Proofs.YtbnihnggljagnaaDoor.AM
open Go
set_option linter.unusedVariables false

/-- How many addresses a prefix of n bits has. -/
def sz (n : Int) : Int := 2 ^ (32 - n).toNat
theorem sz_nat (n : Int) : sz n = ((2 ^ (32 - n).toNat : Nat) : Int) := by unfold sz; simp
theorem sz_pos (n : Int) : 0 < sz n := by rw [sz_nat]; exact_mod_cast Nat.two_pow_pos _
theorem sz_le {n : Int} (h : 0 ≤ n) : sz n ≤ 4294967296 := by
  rw [sz_nat]
  have : 2 ^ (32 - n).toNat ≤ 2 ^ 32 := Nat.pow_le_pow_right (by decide) (by omega)
  have e : (2 : Nat) ^ 32 = 4294967296 := by decide
  omega
theorem sz_half {n : Int} (h0 : 0 ≤ n) (h1 : n ≤ 31) : sz n = 2 * sz (n + 1) := by
  unfold sz
  rw [show (32 - n).toNat = (32 - (n + 1)).toNat + 1 from by omega, Int.pow_succ, Int.mul_comm]
theorem sz_32 : sz 32 = 1 := by decide
theorem sz_0 : sz 0 = 4294967296 := by decide
theorem sz_dvd {m n : Int} (h0 : 0 ≤ m) (h : m ≤ n) (h1 : n ≤ 32) : ∃ q : Int, 0 < q ∧ sz m = sz n * q := by
  refine ⟨2 ^ (n - m).toNat, ?_, ?_⟩
  · exact_mod_cast Nat.two_pow_pos _
  · unfold sz
    rw [← Int.pow_add, show (32 - m).toNat = (32 - n).toNat + (n - m).toNat from by omega]
theorem sz_inj {m n : Int} (h0 : 0 ≤ m) (h1 : m ≤ 32) (h2 : 0 ≤ n) (h3 : n ≤ 32) (h : sz m = sz n) : m = n := by
  rw [sz_nat, sz_nat] at h
  have h' : 2 ^ (32 - m).toNat = 2 ^ (32 - n).toNat := by exact_mod_cast h
  have h4 := (Nat.pow_le_pow_iff_right (a := 2) (by decide)).1 (Nat.le_of_eq h')
  have h5 := (Nat.pow_le_pow_iff_right (a := 2) (by decide)).1 (Nat.le_of_eq h'.symm)
  omega

/-! ### the bits of addresses -/
theorem wraps_u32 (n : Int) (h₀ : 0 ≤ n) (h₁ : n < 2 ^ 32) : IntKind.u32.wrap n = n := by
  rw [IntKind.wrap_u32]
  have : (2 : Int) ^ 32 = 4294967296 := by decide
  omega
theorem p32 : (2 : Int) ^ 32 = 4294967296 := by decide
theorem and_mask (a : Int) (h0 : 0 ≤ a) (h1 : a ≤ 4294967295) (n : Int) (g0 : 0 ≤ n) (g1 : n ≤ 32) : bits .and .u32 a (sz n - 1) = a % sz n :=
  bits_mask .u32 32 (by decide) wraps_u32 (32 - n).toNat (by omega) a h0 (by rw [p32]; omega)
theorem or_low (a : Int) (h0 : 0 ≤ a) (h1 : a ≤ 4294967295) (n : Int) (g0 : 0 ≤ n) (g1 : n ≤ 32) (h : a % sz n = 0) : bits .or .u32 a (sz n - 1) = a + (sz n - 1) := by
  have hp := sz_pos n
  have hl := sz_le g0
  exact bits_join .u32 32 (by decide) wraps_u32 (32 - n).toNat a (sz n - 1) h0 h (by rw [p32]; omega) (by omega) (show sz n - 1 < sz n by omega) (by rw [p32]; omega)
theorem or_bit (a : Int) (h0 : 0 ≤ a) (h1 : a ≤ 4294967295) (n : Int) (g0 : 0 ≤ n) (g1 : n ≤ 31) (h : a % sz n = 0) : bits .or .u32 a (sz (n + 1)) = a + sz (n + 1) := by
  have hp := sz_pos (n + 1)
  have hl := sz_le g0
  have hh := sz_half g0 g1
  exact bits_join .u32 32 (by decide) wraps_u32 (32 - n).toNat a (sz (n + 1)) h0 h (by rw [p32]; omega) (by omega) (show sz (n + 1) < sz n by omega) (by rw [p32]; omega)
theorem nat_andNot (a k : Nat) (ha : a < 2 ^ 32) (hk : k ≤ 32) : a &&& (2 ^ 32 - 1 - (2 ^ k - 1)) = 2 ^ k * (a / 2 ^ k) := by
  have hpk : 0 < 2 ^ k := Nat.two_pow_pos k
  have hle : 2 ^ k ≤ 2 ^ 32 := Nat.pow_le_pow_right (by decide) hk
  rw [show 2 ^ 32 - 1 - (2 ^ k - 1) = 2 ^ 32 - ((2 ^ k - 1) + 1) from by omega]
  apply Nat.eq_of_testBit_eq
  intro i
  rw [Nat.testBit_and, Nat.testBit_two_pow_sub_succ (by omega), Nat.testBit_two_pow_sub_one, Nat.testBit_two_pow_mul, Nat.testBit_div_two_pow]
  by_cases h : k ≤ i
  · rw [show i - k + k = i from by omega]
    by_cases h2 : i < 32
    · simp [h2, h]
    · have : a.testBit i = false := Nat.testBit_lt_two_pow (Nat.lt_of_lt_of_le ha (Nat.pow_le_pow_right (by decide) (by omega)))
      simp [this]
  · simp [h]; omega
theorem andNot_mask (a : Int) (h0 : 0 ≤ a) (h1 : a ≤ 4294967295) (n : Int) (g0 : 0 ≤ n) (g1 : n ≤ 32) : bits .andNot .u32 a (sz n - 1) = sz n * (a / sz n) := by
  have hp := sz_pos n
  have hl := sz_le g0
  obtain ⟨A, rfl⟩ := Int.eq_ofNat_of_zero_le h0
  rw [u32_andNot _ _ h0 (by omega) (by omega) (by omega)]
  rw [sz_nat, Int.toNat_natCast]
  have e : (((2 ^ (32 - n).toNat : Nat) : Int) - 1).toNat = 2 ^ (32 - n).toNat - 1 := by omega
  rw [e]
  have := nat_andNot A (32 - n).toNat (by omega) (by omega)
  rw [show (4294967295 : Nat) = 2 ^ 32 - 1 from by decide, this]
  simp
theorem nat_not (x : Nat) (hx : x < 2 ^ 32) : (2 ^ 32 - 1) ^^^ x = 2 ^ 32 - 1 - x := by
  rw [show 2 ^ 32 - 1 - x = 2 ^ 32 - (x + 1) from by omega]
  apply Nat.eq_of_testBit_eq
  intro i
  rw [Nat.testBit_xor, Nat.testBit_two_pow_sub_succ hx, Nat.testBit_two_pow_sub_one]
  by_cases h : i < 32
  · simp [h]
  · have : x.testBit i = false := Nat.testBit_lt_two_pow (Nat.lt_of_lt_of_le hx (Nat.pow_le_pow_right (by decide) (by omega)))
    simp [h, this]
theorem not_u32 (x : Int) (h0 : 0 ≤ x) (h1 : x ≤ 4294967295) : bits .xor .u32 4294967295 x = 4294967295 - x := by
  obtain ⟨A, rfl⟩ := Int.eq_ofNat_of_zero_le h0
  rw [u32_xor _ _ (by omega) (by omega) h0 (by omega), Int.toNat_natCast]
  have := nat_not A (by omega)
  rw [show (4294967295 : Int).toNat = 2 ^ 32 - 1 from by decide, this]
  omega
/-- The bits of a number up to its highest one. -/
theorem bitLen_le (x m : Nat) (hx : x < 2 ^ 64) : Lib.bitLen x ≤ m ↔ x < 2 ^ m := by
  by_cases h0 : x = 0
  · subst h0
    have : Lib.bitLen 0 = 0 := by decide
    rw [this]
    simp [Nat.two_pow_pos]
  · obtain ⟨h1, h2, h3⟩ := Lib.bitLenAux_bounds 64 x hx h0
    have e : Lib.bitLen x = Lib.bitLenAux 64 x := rfl
    rw [e]
    constructor
    · intro h; exact Nat.lt_of_lt_of_le h3 (Nat.pow_le_pow_right (by decide) h)
    · intro h
      have : 2 ^ (Lib.bitLenAux 64 x - 1) < 2 ^ m := Nat.lt_of_le_of_lt h2 h
      have := (Nat.pow_lt_pow_iff_right (by decide)).1 this
      omega
theorem xor_small (a b m : Nat) : a ^^^ b < 2 ^ m ↔ a / 2 ^ m = b / 2 ^ m := by
  constructor
  · intro h
    apply Nat.eq_of_testBit_eq
    intro i
    rw [Nat.testBit_div_two_pow, Nat.testBit_div_two_pow]
    have : (a ^^^ b).testBit (i + m) = false := Nat.testBit_lt_two_pow (Nat.lt_of_lt_of_le h (Nat.pow_le_pow_right (by decide) (by omega)))
    rw [Nat.testBit_xor] at this
    cases h1 : a.testBit (i + m) <;> cases h2 : b.testBit (i + m) <;> simp_all
  · intro h
    apply Nat.lt_pow_two_of_testBit
    intro i hi
    rw [Nat.testBit_xor]
    have h1 : (a / 2 ^ m).testBit (i - m) = (b / 2 ^ m).testBit (i - m) := by rw [h]
    rw [Nat.testBit_div_two_pow, Nat.testBit_div_two_pow, show i - m + m = i from by omega] at h1
    simp [h1]
theorem xor_u32 (a b : Int) (h0 : 0 ≤ a) (h1 : a ≤ 4294967295) (g0 : 0 ≤ b) (g1 : b ≤ 4294967295) : 0 ≤ bits .xor .u32 a b ∧ bits .xor .u32 a b ≤ 4294967295 ∧ (bits .xor .u32 a b).toNat = a.toNat ^^^ b.toNat := by
  rw [u32_xor _ _ h0 (by omega) g0 (by omega), Int.toNat_natCast]
  have : a.toNat ^^^ b.toNat < 2 ^ 32 := Nat.xor_lt_two_pow (by omega) (by omega)
  omega
/-- How many bits two addresses have in common, from the highest one on. -/
def lcp (a b : Int) : Int := 32 - (Lib.bitLen (a.toNat ^^^ b.toNat) : Int)
theorem lcp_le (a b : Int) : lcp a b ≤ 32 := by unfold lcp; omega
theorem lcp_ge (a b : Int) (h0 : 0 ≤ a) (h1 : a ≤ 4294967295) (g0 : 0 ≤ b) (g1 : b ≤ 4294967295) (n : Int) (k0 : 0 ≤ n) (k1 : n ≤ 32) : n ≤ lcp a b ↔ a / sz n = b / sz n := by
  have hx : a.toNat ^^^ b.toNat < 2 ^ 32 := Nat.xor_lt_two_pow (by omega) (by omega)
  have h2 := bitLen_le (a.toNat ^^^ b.toNat) (32 - n).toNat (Nat.lt_trans hx (by decide))
  rw [xor_small] at h2
  obtain ⟨A, rfl⟩ := Int.eq_ofNat_of_zero_le h0
  obtain ⟨B, rfl⟩ := Int.eq_ofNat_of_zero_le g0
  rw [Int.toNat_natCast, Int.toNat_natCast] at h2
  unfold lcp
  rw [sz_nat, Int.toNat_natCast, Int.toNat_natCast]
  have e : ((A : Int) / ((2 ^ (32 - n).toNat : Nat) : Int) = (B : Int) / ((2 ^ (32 - n).toNat : Nat) : Int)) ↔ A / 2 ^ (32 - n).toNat = B / 2 ^ (32 - n).toNat := by
    rw [← Int.natCast_ediv, ← Int.natCast_ediv]
    exact Int.ofNat_inj
  rw [e, ← h2]
  omega
theorem lcp_nonneg (a b : Int) (h0 : 0 ≤ a) (h1 : a ≤ 4294967295) (g0 : 0 ≤ b) (g1 : b ≤ 4294967295) : 0 ≤ lcp a b := by
  refine (lcp_ge a b h0 h1 g0 g1 0 (by omega) (by omega)).2 ?_
  rw [sz_0]; omega
theorem lz_xor (a b : Int) (h0 : 0 ≤ a) (h1 : a ≤ 4294967295) (g0 : 0 ≤ b) (g1 : b ≤ 4294967295) : 32 - (Lib.bitLen (bits .xor .u32 a b).toNat : Int) = lcp a b := by
  unfold lcp
  rw [(xor_u32 a b h0 h1 g0 g1).2.2]

/-! ### prefixes -/
/-- What Check answers. -/
def chk (a b : Int) : Int := if 0 ≤ b ∧ b ≤ 32 then (if a % sz b = 0 then 0 else 10) else 1
theorem chk_zero {a b : Int} : chk a b = 0 ↔ 0 ≤ b ∧ b ≤ 32 ∧ a % sz b = 0 := by
  unfold chk
  by_cases h : 0 ≤ b ∧ b ≤ 32
  · rw [if_pos h]
    by_cases h2 : a % sz b = 0
    · simp [h, h2]
    · simp [h2]
  · rw [if_neg h]
    constructor
    · intro h'; cases h'
    · intro h'; exact absurd ⟨h'.1, h'.2.1⟩ h
/-- Is x in the prefix a, b? -/
def pin (x a b : Int) : Bool := decide (chk a b = 0 ∧ a ≤ x ∧ x < a + sz b)
/-- Is the prefix a, b in the prefix c, d? -/
def pwithin (a b c d : Int) : Bool := decide (chk a b = 0 ∧ chk c d = 0 ∧ d ≤ b ∧ c ≤ a ∧ a < c + sz d)
def pcmp (a b c d : Int) : Int := if a < c then -1 else if a > c then 1 else if b < d then -1 else if b > d then 1 else 0
/-- The bits of what two prefixes have in common. -/
def cbits (a b c d : Int) : Int := min (min b d) (lcp a c)
theorem block_iff {x a s : Int} (hs : 0 < s) (ha : a % s = 0) : (a ≤ x ∧ x < a + s) ↔ s * (x / s) = a := by
  have h1 := Int.mul_ediv_add_emod x s
  have h2 := Int.emod_nonneg x (by omega : s ≠ 0)
  have h3 := Int.emod_lt_of_pos x hs
  have h4 := Int.mul_ediv_add_emod a s
  constructor
  · intro ⟨h5, h6⟩
    have : x / s = a / s := by
      have e : x = a + (x - a) := by omega
      rw [e, show a = s * (a / s) from by omega, Int.add_comm, Int.add_mul_ediv_left _ _ (by omega)]
      rw [Int.ediv_eq_zero_of_lt (by omega) (by omega), Int.mul_ediv_cancel_left _ (by omega)]
      omega
    rw [this]; omega
  · intro h; omega
end Go.Proofs.YtbnihnggljagnaaDoor.AM
