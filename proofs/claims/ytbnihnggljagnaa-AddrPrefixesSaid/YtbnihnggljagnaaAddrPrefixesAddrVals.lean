/- What the program's and the document's functions on prefixes come to, as plain numbers. Conditions: the arguments are of their kinds. -/
import Derived.Test.YtbnihnggljagnaaQAddrPrefixesx
import Derived.Test.YtbnihnggljagnaaTools
import Derived.Test.YtbnihnggljagnaaAddrMath
namespace Go.Proofs.Ytbnihnggljagnaa.QAddrPrefixes
open Go.RowKit Go.Proofs.YtbnihnggljagnaaW.PrintWords Go.Proofs.YtbnihnggljagnaaW.PrintLast Go.Proofs.YtbnihnggljagnaaW.PrintMore Go.Proofs.Ytbnihnggljagnaa.Tools Go.Proofs.Ytbnihnggljagnaa.AM
set_option linter.unusedVariables false

theorem behind_val (n : Int) (h0 : 0 ≤ n) (h1 : n ≤ 32) : addr_behind.f n = some (sz n - 1) := by
  have hp := sz_pos n
  have hl := sz_le h0
  unfold addr_behind.f
  rw [w64_id (32 - n) (by omega) (by omega), if_pos (by omega)]
  unfold shl
  have e : (1 : Int) * 2 ^ min (32 - n).toNat IntKind.u64.bits = sz n := by
    rw [Nat.min_eq_left (show (32 - n).toNat ≤ IntKind.u64.bits from (show (32 - n).toNat ≤ 64 by omega)), Int.one_mul]; rfl
  rw [e, u64_id (sz n) (by omega) (by omega), u64_id (sz n - 1) (by omega) (by omega), Int.emod_eq_of_lt (by omega) (by omega)]
theorem size_l0 : ∀ (d : Nat) (i e : Int), i + d = 32 → 0 ≤ i → 1 ≤ e → e * sz i ≤ 4294967296 → Ev (fun k => waymarkref01_size.l0 k e i) (e * sz i) := by
  intro d
  induction d with
  | zero =>
    intro i e hi h0 he hl
    refine Ev.step (f := fun _ => some e) (fun k => ?_) (ev_to (ev_now _) (by rw [show i = 32 from by omega, sz_32]; omega))
    simp only [waymarkref01_size.l0]
    rw [if_neg (by omega)]
  | succ d ih =>
    intro i e hi h0 he hl
    have hh := sz_half h0 (by omega)
    have hp := sz_pos (i + 1)
    have e2 : e * sz i = 2 * e * sz (i + 1) := by rw [hh, ← Int.mul_assoc, Int.mul_comm e 2]
    have hb : 2 * e ≤ 2 * e * sz (i + 1) := by
      have := Int.mul_le_mul_of_nonneg_left (show (1 : Int) ≤ sz (i + 1) by omega) (show 0 ≤ 2 * e by omega)
      omega
    refine Ev.step (f := fun k => waymarkref01_size.l0 k (2 * e) (i + 1)) (fun k => ?_) (ev_to (ih (i + 1) (2 * e) (by omega) (by omega) (by omega) (by omega)) e2.symm)
    simp only [waymarkref01_size.l0]
    rw [if_pos (by omega), u64_id _ (by omega) (by omega), w64_id (i + 1) (by omega) (by omega)]
theorem size_val (n : Int) (h0 : 0 ≤ n) (h1 : n ≤ 32) : Ev (fun k => waymarkref01_size.f k n) (sz n) := by
  have := size_l0 (32 - n).toNat n 1 (by omega) h0 (by omega) (by have := sz_le h0; omega)
  rw [Int.one_mul] at this
  exact this

/-- Is a number an address? -/
def isA (a : Int) : Prop := 0 ≤ a ∧ a ≤ 4294967295
def i64 (n : Int) : Prop := -9223372036854775808 ≤ n ∧ n ≤ 9223372036854775807

def mk (n : Int) : Int × Int := if 0 ≤ n ∧ n ≤ 32 then (4294967296 - sz n, 0) else (0, 1)
theorem mask_val (n : Int) : addr_Mask.f n = some (mk n) := by
  unfold addr_Mask.f mk
  by_cases h : 0 ≤ n ∧ n ≤ 32
  · have hp := sz_pos n
    have hl := sz_le h.1
    rw [if_neg (by omega), if_neg (by omega), if_pos h, behind_val n h.1 h.2, Option.bind_some, not_u32 _ (by omega) (by omega)]
    congr 2
    omega
  · rw [if_neg h]
    by_cases h1 : n < 0
    · rw [if_pos h1]
    · rw [if_neg h1, if_pos (by omega)]
theorem rmask_val (n : Int) : Ev (fun k => waymarkref01_Mask.f k n) (mk n) := by
  unfold waymarkref01_Mask.f mk
  by_cases h : 0 ≤ n ∧ n ≤ 32
  · have hp := sz_pos n
    have hl := sz_le h.1
    refine ev_neg (by omega) (ev_neg (by omega) (ev_bind _ (size_val n h.1 h.2) (ev_to (ev_now _) ?_)))
    rw [if_pos h, u64_id _ (by omega) (by omega), Int.emod_eq_of_lt (by omega) (by omega)]
  · rw [if_neg h]
    by_cases h1 : n < 0
    · exact ev_pos h1 (ev_now _)
    · exact ev_neg h1 (ev_pos (by omega) (ev_now _))

theorem bitLen_ones (k : Nat) (hk : k ≤ 32) : Lib.bitLen (2 ^ k - 1) = k := by
  have hp : 0 < 2 ^ k := Nat.two_pow_pos k
  have hl : 2 ^ k ≤ 2 ^ 32 := Nat.pow_le_pow_right (by decide) hk
  have h1 := (bitLen_le (2 ^ k - 1) k (by omega)).2 (by omega)
  rcases Nat.eq_zero_or_pos k with h0 | h0
  · omega
  · have h2 : ¬ Lib.bitLen (2 ^ k - 1) ≤ k - 1 := by
      rw [bitLen_le _ _ (by omega)]
      have : 2 ^ k = 2 ^ (k - 1) * 2 := by rw [← Nat.pow_succ, show (k - 1).succ = k from by omega]
      have : 0 < 2 ^ (k - 1) := Nat.two_pow_pos _
      omega
    omega
theorem bits_some (a n : Int) (ha : isA a) (h0 : 0 ≤ n) (h1 : n ≤ 32) (h : 4294967296 - sz n = a) : addr_Bits.f a = some (n, 0) := by
  obtain ⟨a0, a1⟩ := ha
  have hp := sz_pos n
  unfold addr_Bits.f bits_LeadingZeros32.f
  rw [not_u32 a a0 a1, if_pos (by omega), Option.bind_some]
  have e : (4294967295 - a).toNat = 2 ^ (32 - n).toNat - 1 := by rw [sz_nat] at h; omega
  rw [e, bitLen_ones _ (by omega), show 32 - ((32 - n).toNat : Int) = n from by omega, behind_val n h0 h1, Option.bind_some, not_u32 _ (by omega) (by omega), if_pos (by omega)]
theorem bits_none (a : Int) (ha : isA a) (h : ∀ n, 0 ≤ n → n ≤ 32 → 4294967296 - sz n ≠ a) : addr_Bits.f a = some (0, 10) := by
  obtain ⟨a0, a1⟩ := ha
  unfold addr_Bits.f bits_LeadingZeros32.f
  rw [not_u32 a a0 a1, if_pos (by omega), Option.bind_some]
  have hb : Lib.bitLen (4294967295 - a).toNat ≤ 32 := (bitLen_le _ 32 (by omega)).2 (by omega)
  have h2 := h (32 - (Lib.bitLen (4294967295 - a).toNat : Int)) (by omega) (by omega)
  have hp := sz_pos (32 - (Lib.bitLen (4294967295 - a).toNat : Int))
  have hl := sz_le (show 0 ≤ 32 - (Lib.bitLen (4294967295 - a).toNat : Int) by omega)
  rw [behind_val _ (by omega) (by omega), Option.bind_some, not_u32 _ (by omega) (by omega), if_neg (by omega)]
theorem rbits_l0 (a : Int) (n : Int) (h0 : 0 ≤ n) (h1 : n ≤ 32) (h : 4294967296 - sz n = a) : ∀ (d : Nat) (i : Int), i + d = n → 0 ≤ i → Ev (fun k => waymarkref01_Bits.l0 k a i) (n, 0) := by
  intro d
  induction d with
  | zero =>
    intro i hi hi0
    obtain rfl : i = n := by omega
    refine Ev.step (f := fun k => (waymarkref01_Mask.f k i).bind fun bt105 => if bt105.1 = a then some (i, 0) else waymarkref01_Bits.l0 k a (wrap64 (i + 1))) (fun k => ?_) (ev_bind _ (rmask_val i) (ev_pos ?_ (ev_now _)))
    · simp only [waymarkref01_Bits.l0]; rw [if_pos (by omega)]
    · unfold mk; rw [if_pos ⟨h0, h1⟩]; exact h
  | succ d ih =>
    intro i hi hi0
    refine Ev.step (f := fun k => (waymarkref01_Mask.f k i).bind fun bt105 => if bt105.1 = a then some (i, 0) else waymarkref01_Bits.l0 k a (wrap64 (i + 1))) (fun k => ?_) (ev_bind _ (rmask_val i) (ev_neg ?_ ?_))
    · simp only [waymarkref01_Bits.l0]; rw [if_pos (by omega)]
    · unfold mk; rw [if_pos ⟨hi0, by omega⟩]
      intro e
      have := sz_inj hi0 (by omega) h0 h1 (by have e' : 4294967296 - sz i = a := e; omega)
      omega
    · rw [w64_id _ (by omega) (by omega)]; exact ih (i + 1) (by omega) (by omega)
theorem rbits_none (a : Int) (h : ∀ n, 0 ≤ n → n ≤ 32 → 4294967296 - sz n ≠ a) : ∀ (d : Nat) (i : Int), i + d = 33 → 0 ≤ i → Ev (fun k => waymarkref01_Bits.l0 k a i) (0, 10) := by
  intro d
  induction d with
  | zero =>
    intro i hi hi0
    refine Ev.step (f := fun _ => some (0, 10)) (fun k => ?_) (ev_now _)
    simp only [waymarkref01_Bits.l0]; rw [if_neg (by omega)]
  | succ d ih =>
    intro i hi hi0
    refine Ev.step (f := fun k => (waymarkref01_Mask.f k i).bind fun bt105 => if bt105.1 = a then some (i, 0) else waymarkref01_Bits.l0 k a (wrap64 (i + 1))) (fun k => ?_) (ev_bind _ (rmask_val i) (ev_neg ?_ ?_))
    · simp only [waymarkref01_Bits.l0]; rw [if_pos (by omega)]
    · unfold mk; rw [if_pos ⟨hi0, by omega⟩]; exact h i hi0 (by omega)
    · rw [w64_id _ (by omega) (by omega)]; exact ih (i + 1) (by omega) (by omega)
/-- Bits: the program's answer is the document's. -/
theorem bits_val (a : Int) (ha : isA a) : ∃ r : Int × Int, addr_Bits.f a = some r ∧ Ev (fun k => waymarkref01_Bits.f k a) r := by
  by_cases h : ∃ n, 0 ≤ n ∧ n ≤ 32 ∧ 4294967296 - sz n = a
  · obtain ⟨n, h0, h1, h2⟩ := h
    exact ⟨(n, 0), bits_some a n ha h0 h1 h2, rbits_l0 a n h0 h1 h2 n.toNat 0 (by omega) (by omega)⟩
  · have h' : ∀ n, 0 ≤ n → n ≤ 32 → 4294967296 - sz n ≠ a := fun n h0 h1 h2 => h ⟨n, h0, h1, h2⟩
    exact ⟨(0, 10), bits_none a ha h', rbits_none a h' 33 0 (by omega) (by omega)⟩

def sn (a n : Int) : Int × Int × Int := if 0 ≤ n ∧ n ≤ 32 then (sz n * (a / sz n), n, 0) else (0, 0, 1)
theorem low_le {a s : Int} (ha : isA a) (hs : 0 < s) : 0 ≤ s * (a / s) ∧ s * (a / s) ≤ a := by
  have h1 := Int.mul_ediv_add_emod a s
  have h2 := Int.emod_nonneg a (show s ≠ 0 by omega)
  have h3 := Int.ediv_nonneg ha.1 (show 0 ≤ s by omega)
  exact ⟨Int.mul_nonneg (by omega) h3, by omega⟩
theorem sub_val (a n : Int) (ha : isA a) : addr_Subnet.f a n = some (sn a n) := by
  unfold addr_Subnet.f sn
  by_cases h : 0 ≤ n ∧ n ≤ 32
  · rw [if_neg (by omega), if_neg (by omega), if_pos h, behind_val n h.1 h.2, Option.bind_some, andNot_mask a ha.1 ha.2 n h.1 h.2]
  · rw [if_neg h]
    by_cases h1 : n < 0
    · rw [if_pos h1]
    · rw [if_neg h1, if_pos (by omega)]
theorem rsub_val (a n : Int) (ha : isA a) : Ev (fun k => waymarkref01_Subnet.f k a n) (sn a n) := by
  unfold waymarkref01_Subnet.f sn
  by_cases h : 0 ≤ n ∧ n ≤ 32
  · have hp := sz_pos n
    have hl := sz_le h.1
    have hq := low_le ha hp
    have ha' := ha
    obtain ⟨a0, a1⟩ := ha'
    have hd := Int.ediv_nonneg a0 (show 0 ≤ sz n by omega)
    have hd2 : a / sz n ≤ a := Int.ediv_le_self _ a0
    rw [if_pos h]
    refine ev_neg (by omega) (Ev.step (f := fun k => (waymarkref01_size.f k n).bind fun t110 => if t110 = 0 then none else (waymarkref01_size.f k n).bind fun t111 => some (IntKind.u64.wrap (IntKind.u64.wrap (Int.tdiv (IntKind.u64.wrap a) t110) * t111) % 4294967296, n, 0)) (fun k => ?_) (ev_bind _ (size_val n h.1 h.2) (ev_neg (by omega) (ev_bind _ (size_val n h.1 h.2) (ev_to (ev_now _) ?_)))))
    · simp only [waymarkref01_Subnet.j0]; rw [if_neg (by simp; omega)]
    · have e : IntKind.u64.wrap (IntKind.u64.wrap (Int.tdiv (IntKind.u64.wrap a) (sz n)) * sz n) % 4294967296 = sz n * (a / sz n) := by
        rw [u64_id a (by omega) (by omega), Int.tdiv_eq_ediv_of_nonneg a0, u64_id (a / sz n) (by omega) (by omega), Int.mul_comm, u64_id _ (by omega) (by omega), Int.emod_eq_of_lt (by omega) (by omega)]
      rw [e]
  · rw [if_neg h]
    by_cases h1 : n < 0
    · refine ev_pos h1 (Ev.step (f := fun _ => some (0, 0, 1)) (fun k => ?_) (ev_now _))
      simp only [waymarkref01_Subnet.j0]; rw [if_pos True.intro]
    · refine ev_neg h1 (Ev.step (f := fun _ => some (0, 0, 1)) (fun k => ?_) (ev_now _))
      simp only [waymarkref01_Subnet.j0]; rw [if_pos (by simp; omega)]

theorem chk_val (a b : Int) (ha : isA a) : Ev (fun k => addr_Check.f k a b) (chk a b) := by
  unfold addr_Check.f chk
  by_cases h : 0 ≤ b ∧ b ≤ 32
  · rw [if_pos h]
    refine ev_neg (by omega) (Ev.step (f := fun _ => (addr_behind.f b).bind fun t => if bits .and .u32 a t = 0 then some 0 else some 10) (fun k => ?_) (ev_is _ (behind_val b h.1 h.2) ?_))
    · simp only [addr_Check.j0]; rw [if_neg (by simp; omega)]
    · rw [and_mask a ha.1 ha.2 b h.1 h.2]
      by_cases h2 : a % sz b = 0
      · exact ev_posr h2 h2 (ev_now _)
      · exact ev_negr h2 h2 (ev_now _)
  · rw [if_neg h]
    by_cases h1 : b < 0
    · refine ev_pos h1 (Ev.step (f := fun _ => some 1) (fun k => ?_) (ev_now _))
      simp only [addr_Check.j0]; rw [if_pos True.intro]
    · refine ev_neg h1 (Ev.step (f := fun _ => some 1) (fun k => ?_) (ev_now _))
      simp only [addr_Check.j0]; rw [if_pos (by simp; omega)]
theorem rchk_val (a b : Int) (ha : isA a) : Ev (fun k => waymarkref01_Check.f k a b) (chk a b) := by
  unfold waymarkref01_Check.f chk
  by_cases h : 0 ≤ b ∧ b ≤ 32
  · have hp := sz_pos b
    rw [if_pos h]
    refine ev_neg (by omega) (Ev.step (f := fun k => (waymarkref01_size.f k b).bind fun t => if t = 0 then none else if Int.tmod (IntKind.u64.wrap a) t = 0 then some 0 else some 10) (fun k => ?_) (ev_bind _ (size_val b h.1 h.2) (ev_neg (by omega) ?_)))
    · simp only [waymarkref01_Check.j0]; rw [if_neg (by simp; omega)]
    · obtain ⟨a0, a1⟩ := ha
      rw [u64_id a (by omega) (by omega), Int.tmod_eq_emod_of_nonneg a0]
      by_cases h2 : a % sz b = 0
      · exact ev_posr h2 h2 (ev_now _)
      · exact ev_negr h2 h2 (ev_now _)
  · rw [if_neg h]
    by_cases h1 : b < 0
    · refine ev_pos h1 (Ev.step (f := fun _ => some 1) (fun k => ?_) (ev_now _))
      simp only [waymarkref01_Check.j0]; rw [if_pos True.intro]
    · refine ev_neg h1 (Ev.step (f := fun _ => some 1) (fun k => ?_) (ev_now _))
      simp only [waymarkref01_Check.j0]; rw [if_pos (by simp; omega)]
/-- A prefix that may be ends within the addresses. -/
theorem chk_room {a b : Int} (ha : isA a) (h : chk a b = 0) : a + sz b ≤ 4294967296 := by
  obtain ⟨h0, h1, h2⟩ := chk_zero.1 h
  obtain ⟨q, hq, e⟩ := sz_dvd (m := 0) (n := b) (by omega) h0 h1
  rw [sz_0] at e
  have hp := sz_pos b
  have hm := Int.mul_ediv_add_emod a (sz b)
  obtain ⟨a0, a1⟩ := ha
  have hlt : a / sz b < q := by
    have : sz b * (a / sz b) < sz b * q := by omega
    exact Int.lt_of_mul_lt_mul_left this (by omega)
  have : sz b * (a / sz b + 1) ≤ sz b * q := Int.mul_le_mul_of_nonneg_left (by omega) (by omega)
  rw [Int.mul_add] at this
  omega

def ends (a b : Int) : Int × Int × Int := if chk a b = 0 then (a, a + (sz b - 1), 0) else (0, 0, chk a b)
theorem ends_val (a b : Int) (ha : isA a) : Ev (fun k => addr_Ends.f k a b) (ends a b) := by
  unfold addr_Ends.f ends
  refine ev_bind _ (chk_val a b ha) ?_
  by_cases h : chk a b = 0
  · obtain ⟨h0, h1, h2⟩ := chk_zero.1 h
    refine ev_posr h h (ev_is _ (behind_val b h0 h1) (ev_to (ev_now _) ?_))
    rw [or_low a ha.1 ha.2 b h0 h1 h2]
  · exact ev_negr h h (ev_now _)
theorem rends_val (a b : Int) (ha : isA a) : Ev (fun k => waymarkref01_Ends.f k a b) (ends a b) := by
  unfold waymarkref01_Ends.f ends
  refine ev_bind _ (rchk_val a b ha) ?_
  by_cases h : chk a b = 0
  · obtain ⟨h0, h1, h2⟩ := chk_zero.1 h
    have hr := chk_room ha h
    have hp := sz_pos b
    obtain ⟨a0, a1⟩ := ha
    refine ev_posr h h (ev_bind _ (size_val b h0 h1) (ev_to (ev_now _) ?_))
    rw [u64_id a (by omega) (by omega), u64_id (a + sz b) (by omega) (by omega), u64_id _ (by omega) (by omega), Int.emod_eq_of_lt (by omega) (by omega)]
    congr 2
    omega
  · exact ev_negr h h (ev_now _)

def halves (a b : Int) : Int × Int × Int × Int × Int := if chk a b = 0 then (if b = 32 then (0, 0, 0, 0, 5) else (a, b + 1, a + sz (b + 1), b + 1, 0)) else (0, 0, 0, 0, chk a b)
theorem halves_val (a b : Int) (ha : isA a) : Ev (fun k => addr_Halves.f k a b) (halves a b) := by
  unfold addr_Halves.f halves
  refine ev_bind _ (chk_val a b ha) ?_
  by_cases h : chk a b = 0
  · obtain ⟨h0, h1, h2⟩ := chk_zero.1 h
    refine ev_posr h h ?_
    by_cases h3 : b = 32
    · exact ev_posr h3 h3 (ev_now _)
    · refine ev_negr h3 h3 (ev_pos (by omega) (ev_to (ev_now _) ?_))
      have hh := sz_half h0 (by omega)
      have hl := sz_le h0
      have hp := sz_pos (b + 1)
      have e : (2 : Int) ^ (31 - b).toNat % 4294967296 = sz (b + 1) := by
        have : (2 : Int) ^ (31 - b).toNat = sz (b + 1) := by unfold sz; rw [show (32 - (b + 1)).toNat = (31 - b).toNat from by omega]
        rw [this, Int.emod_eq_of_lt (by omega) (by omega)]
      rw [e, or_bit a ha.1 ha.2 b h0 (by omega) h2]
  · exact ev_negr h h (ev_now _)
theorem rhalves_val (a b : Int) (ha : isA a) (hb : i64 b) : Ev (fun k => waymarkref01_Halves.f k a b) (halves a b) := by
  unfold waymarkref01_Halves.f halves
  refine ev_bind _ (rchk_val a b ha) ?_
  by_cases h : chk a b = 0
  · obtain ⟨h0, h1, h2⟩ := chk_zero.1 h
    refine ev_posr h h ?_
    by_cases h3 : b = 32
    · rw [if_pos h3]
      refine Ev.step (f := fun _ => some (0, 0, 0, 0, 5)) (fun k => ?_) (ev_now _)
      simp only [waymarkref01_Halves.j0]; rw [if_pos (by simpa using h3)]
    · rw [if_neg h3]
      have hr := chk_room ha h
      have hh := sz_half h0 (by omega)
      have hp := sz_pos (b + 1)
      obtain ⟨a0, a1⟩ := ha
      refine Ev.step (f := fun k => (waymarkref01_size.f k (wrap64 (b + 1))).bind fun t => some (a, wrap64 (b + 1), IntKind.u64.wrap (IntKind.u64.wrap a + t) % 4294967296, wrap64 (b + 1), 0)) (fun k => ?_) ?_
      · simp only [waymarkref01_Halves.j0]; rw [if_neg (by simpa using h3), if_pos h]
      · rw [w64_id (b + 1) (by omega) (by omega)]
        refine ev_bind _ (size_val (b + 1) (by omega) (by omega)) (ev_to (ev_now _) ?_)
        rw [u64_id a (by omega) (by omega), u64_id _ (by omega) (by omega), Int.emod_eq_of_lt (by omega) (by omega)]
  · refine ev_negr h h (Ev.step (f := fun _ => some (0, 0, 0, 0, chk a b)) (fun k => ?_) (ev_now _))
    simp only [waymarkref01_Halves.j0]; rw [if_neg (by simp), if_neg h]

theorem in_val (x a b : Int) (hx : isA x) (ha : isA a) : Ev (fun k => addr_In.f k x a b) (pin x a b) := by
  unfold addr_In.f pin
  refine ev_bind _ (chk_val a b ha) ?_
  by_cases h : chk a b = 0
  · obtain ⟨h0, h1, h2⟩ := chk_zero.1 h
    refine ev_pos h (ev_is _ (behind_val b h0 h1) (ev_to (ev_now _) ?_))
    rw [andNot_mask x hx.1 hx.2 b h0 h1, Bool.eq_iff_iff, beq_iff_eq, decide_eq_true_iff]
    have := block_iff (x := x) (sz_pos b) h2
    exact ⟨fun e => ⟨h, this.2 e⟩, fun e => this.1 e.2⟩
  · refine ev_neg h (ev_to (ev_now _) ?_)
    symm
    rw [decide_eq_false_iff_not]
    exact fun e => h e.1
theorem rin_val (x a b : Int) (hx : isA x) (ha : isA a) : Ev (fun k => waymarkref01_In.f k x a b) (pin x a b) := by
  unfold waymarkref01_In.f pin
  refine ev_bind _ (rchk_val a b ha) ?_
  by_cases h : chk a b = 0
  · obtain ⟨h0, h1, h2⟩ := chk_zero.1 h
    obtain ⟨a0, a1⟩ := ha
    obtain ⟨x0, x1⟩ := hx
    refine ev_pos h ?_
    by_cases h3 : x ≥ a
    · refine ev_pos h3 (ev_bind _ (size_val b h0 h1) (ev_to (ev_now _) ?_))
      rw [u64_id x (by omega) (by omega), u64_id a (by omega) (by omega), u64_id _ (by omega) (by omega), Bool.eq_iff_iff, decide_eq_true_iff, decide_eq_true_iff]
      omega
    · refine ev_neg h3 (ev_to (ev_now _) ?_)
      symm
      rw [decide_eq_false_iff_not]
      omega
  · refine ev_neg h (ev_to (ev_now _) ?_)
    symm
    rw [decide_eq_false_iff_not]
    exact fun e => h e.1

theorem within_val (a b c d : Int) (ha : isA a) (hc : isA c) : Ev (fun k => addr_Within.f k a b c d) (pwithin a b c d) := by
  unfold addr_Within.f pwithin
  refine ev_bind _ (chk_val a b ha) ?_
  by_cases h : chk a b = 0
  · refine ev_pos h ?_
    by_cases h3 : b ≥ d
    · refine ev_pos h3 (ev_bind _ (in_val a c d ha hc) (ev_to (ev_now _) ?_))
      unfold pin
      rw [Bool.eq_iff_iff, decide_eq_true_iff, decide_eq_true_iff]
      exact ⟨fun e => ⟨h, e.1, h3, e.2⟩, fun e => ⟨e.2.1, e.2.2.2⟩⟩
    · refine ev_neg h3 (ev_to (ev_now _) ?_)
      symm; rw [decide_eq_false_iff_not]; exact fun e => h3 e.2.2.1
  · refine ev_neg h (ev_to (ev_now _) ?_)
    symm; rw [decide_eq_false_iff_not]; exact fun e => h e.1
theorem rwithin_val (a b c d : Int) (ha : isA a) (hc : isA c) : Ev (fun k => waymarkref01_Within.f k a b c d) (pwithin a b c d) := by
  unfold waymarkref01_Within.f pwithin
  refine ev_bind _ (rchk_val a b ha) ?_
  by_cases h : chk a b = 0
  · refine ev_pos h (ev_bind _ (rchk_val c d hc) ?_)
    by_cases h4 : chk c d = 0
    · refine ev_pos h4 ?_
      by_cases h3 : b ≥ d
      · refine ev_pos h3 (ev_bind _ (rin_val a c d ha hc) (ev_to (ev_now _) ?_))
        unfold pin
        rw [Bool.eq_iff_iff, decide_eq_true_iff, decide_eq_true_iff]
        exact ⟨fun e => ⟨h, e.1, h3, e.2⟩, fun e => ⟨e.2.1, e.2.2.2⟩⟩
      · refine ev_neg h3 (ev_to (ev_now _) ?_)
        symm; rw [decide_eq_false_iff_not]; exact fun e => h3 e.2.2.1
    · refine ev_neg h4 (ev_to (ev_now _) ?_)
      symm; rw [decide_eq_false_iff_not]; exact fun e => h4 e.2.1
  · refine ev_neg h (ev_to (ev_now _) ?_)
    symm; rw [decide_eq_false_iff_not]; exact fun e => h e.1

theorem cmpA_val (a c : Int) : api_Addr_55.f a c = some (if a < c then -1 else if a > c then 1 else 0) := by
  unfold api_Addr_55.f api_Addr_88.f
  simp only [bne_self_eq_false, Option.bind_some, Bool.false_eq_true, if_false]
  by_cases h : a < c
  · rw [if_pos h, if_pos h]
  · rw [if_neg h, if_neg h]
    by_cases h2 : a > c
    · rw [if_pos h2, if_pos h2]
    · rw [if_neg h2, if_neg h2]
theorem cmpI_val (a c : Int) : cmp_Compare_int.f a c = some (if a < c then -1 else if a > c then 1 else 0) := by
  unfold cmp_Compare_int.f cmp_isNaN_int.f
  simp only [bne_self_eq_false, Option.bind_some, Bool.false_eq_true, if_false]
  by_cases h : a < c
  · rw [if_pos h, if_pos h]
  · rw [if_neg h, if_neg h]
    by_cases h2 : a > c
    · rw [if_pos h2, if_pos h2]
    · rw [if_neg h2, if_neg h2]
theorem or2_val (x y : Int) : Ev (fun k => cmp_Or_int.f k [x, y]) (if x = 0 then y else x) := by
  unfold cmp_Or_int.f
  refine Ev.step (f := fun k => if x = 0 then cmp_Or_int.l0 k 0 [x, y] 2 1 else some x) (fun k => ?_) ?_
  · simp only [cmp_Or_int.l0]
    rw [if_pos (by simp), if_pos (by decide), if_pos (by simp), show rd [x, y] 0 = x by simp [rd], w64_id (0 + 1) (by decide) (by decide)]
    rfl
  · by_cases h : x = 0
    · rw [if_pos h]
      refine ev_pos h (Ev.step (f := fun k => if y = 0 then cmp_Or_int.l0 k 0 [x, y] 2 2 else some y) (fun k => ?_) ?_)
      · simp only [cmp_Or_int.l0]
        rw [if_pos (by decide), if_pos (by decide), if_pos (by simp), show rd [x, y] 1 = y by simp [rd], w64_id (1 + 1) (by decide) (by decide)]
        rfl
      · by_cases h2 : y = 0
        · refine ev_pos h2 (Ev.step (f := fun _ => some 0) (fun k => ?_) (ev_to (ev_now _) h2.symm))
          simp only [cmp_Or_int.l0]
          rw [if_neg (by decide)]
        · exact ev_neg h2 (ev_now _)
    · exact ev_negr h h (ev_now _)
theorem cmp_val (a b c d : Int) : Ev (fun k => addr_Cmp.f k a b c d) (pcmp a b c d) := by
  unfold addr_Cmp.f
  refine ev_is _ (cmpA_val a c) (ev_is _ (cmpI_val b d) (ev_bind _ (or2_val _ _) (ev_to (ev_now _) ?_)))
  unfold pcmp
  by_cases h1 : a < c
  · simp [h1]
  · by_cases h2 : a > c
    · simp [h1, h2]
    · simp [h1, h2]
theorem rcmp_val (a b c d : Int) : Ev (fun k => waymarkref01_Cmp.f k a b c d) (pcmp a b c d) := by
  unfold waymarkref01_Cmp.f pcmp
  by_cases h1 : a < c
  · rw [if_pos h1]
    refine ev_pos h1 (Ev.step (f := fun _ => some (-1)) (fun k => ?_) (ev_now _))
    simp only [waymarkref01_Cmp.j0]; rw [if_pos True.intro]
  · rw [if_neg h1]
    refine ev_neg h1 ?_
    by_cases h2 : a = c
    · rw [if_neg (by omega)]
      refine ev_pos h2 ?_
      by_cases h3 : b < d
      · rw [if_pos h3]
        refine Ev.step (f := fun _ => some (-1)) (fun k => ?_) (ev_now _)
        simp only [waymarkref01_Cmp.j0]; rw [if_pos (by simpa using h3)]
      · rw [if_neg h3]
        refine Ev.step (f := fun _ => if b = d then some 0 else some 1) (fun k => ?_) ?_
        · simp only [waymarkref01_Cmp.j0]; rw [if_neg (by simpa using h3), if_pos h2]
        · by_cases h4 : b = d
          · refine ev_pos h4 ?_
            rw [if_neg (by omega)]; exact ev_now _
          · refine ev_neg h4 ?_
            rw [if_pos (by omega)]; exact ev_now _
    · rw [if_pos (by omega)]
      refine ev_neg h2 (Ev.step (f := fun _ => some 1) (fun k => ?_) (ev_now _))
      simp only [waymarkref01_Cmp.j0]; rw [if_neg (by simp), if_neg h2]

theorem mn_min (x y : Int) : mn x y = min x y := by unfold mn; omega
def common (a b c d : Int) : Int × Int × Int := if chk a b = 0 then (if chk c d = 0 then sn a (cbits a b c d) else (0, 0, chk c d)) else (0, 0, chk a b)
theorem common_val (a b c d : Int) (ha : isA a) (hc : isA c) : Ev (fun k => addr_Common.f k a b c d) (common a b c d) := by
  unfold addr_Common.f common
  refine ev_bind _ (chk_val a b ha) ?_
  by_cases h : chk a b = 0
  · refine ev_posr h h (ev_bind _ (chk_val c d hc) ?_)
    by_cases h2 : chk c d = 0
    · have hx := xor_u32 a c ha.1 ha.2 hc.1 hc.2
      refine ev_posr h2 h2 (ev_is (lcp a c) ?_ (ev_is _ (sub_val a _ ha) (ev_to (ev_now _) ?_)))
      · unfold bits_LeadingZeros32.f
        rw [if_pos ⟨hx.1, hx.2.1⟩, lz_xor a c ha.1 ha.2 hc.1 hc.2]
      · rw [mn_min, mn_min]; rfl
    · exact ev_negr h2 h2 (ev_now _)
  · exact ev_negr h h (ev_now _)
theorem sub_block (a i : Int) : sz i * (a / sz i) % sz i = 0 := Int.mul_emod_right _ _
theorem sub_isA (a i : Int) (ha : isA a) (h : 0 ≤ i) : isA (sz i * (a / sz i)) := by
  have := low_le ha (sz_pos i)
  exact ⟨this.1, by have := ha.2; omega⟩
theorem within_sub (a c d i : Int) (ha : isA a) (hc : isA c) (hcd : chk c d = 0) (h0 : 0 ≤ i) (h1 : i ≤ 32) : pwithin c d (sz i * (a / sz i)) i = true ↔ i ≤ d ∧ i ≤ lcp a c := by
  unfold pwithin
  rw [decide_eq_true_iff, block_iff (sz_pos i) (sub_block a i), lcp_ge a c ha.1 ha.2 hc.1 hc.2 i h0 h1]
  have hp := sz_pos i
  constructor
  · intro ⟨_, _, h3, h4⟩
    exact ⟨h3, (Int.eq_of_mul_eq_mul_left (by omega) h4).symm⟩
  · intro ⟨h3, h4⟩
    exact ⟨hcd, chk_zero.2 ⟨h0, h1, sub_block a i⟩, h3, by rw [h4]⟩
theorem lcp_self (a : Int) : lcp a a = 32 := by
  unfold lcp
  rw [Nat.xor_self]
  have : Lib.bitLen 0 = 0 := by decide
  rw [this]; rfl
theorem rcommon_l0 (a b c d : Int) (ha : isA a) (hc : isA c) (h : chk a b = 0) (h2 : chk c d = 0) : ∀ (e : Nat) (i : Int), i = e → i ≤ 32 → cbits a b c d ≤ i → Ev (fun k => waymarkref01_Common.l0 k i a b c d) (sn a (cbits a b c d)) := by
  have hb := chk_zero.1 h
  have hd := chk_zero.1 h2
  have hn : 0 ≤ cbits a b c d := by have := lcp_nonneg a c ha.1 ha.2 hc.1 hc.2; unfold cbits; omega
  intro e
  induction e with
  | zero =>
    intro i hi h32 hci
    refine Ev.step (f := fun _ => some (0, 0, 0)) (fun k => ?_) (ev_to (ev_now _) ?_)
    · simp only [waymarkref01_Common.l0]; rw [if_neg (by omega)]
    · rw [show cbits a b c d = 0 from by omega]
      unfold sn
      rw [if_pos (by omega), sz_0, Int.ediv_eq_zero_of_lt ha.1 (by have := ha.2; omega)]
      rfl
  | succ e ih =>
    intro i hi h32 hci
    have hs : sn a i = (sz i * (a / sz i), i, 0) := by unfold sn; rw [if_pos (by omega)]
    have hsa := sub_isA a i ha (by omega)
    refine Ev.step (f := fun k => (waymarkref01_Subnet.f k a i).bind fun bt151 => (waymarkref01_Within.f k a b bt151.1 bt151.2.1).bind fun t155 => if t155 = true then (waymarkref01_Within.f k c d bt151.1 bt151.2.1).bind fun t156 => if t156 = true then some (bt151.1, bt151.2.1, 0) else waymarkref01_Common.l0 k (wrap64 (i - 1)) a b c d else waymarkref01_Common.l0 k (wrap64 (i - 1)) a b c d) (fun k => ?_) (ev_bind _ (rsub_val a i ha) ?_)
    · simp only [waymarkref01_Common.l0]; rw [if_pos (by omega)]
    · rw [hs]
      refine ev_bind _ (rwithin_val a b (sz i * (a / sz i)) i ha hsa) ?_
      have hw1 := within_sub a a b i ha ha h (by omega) h32
      have hw2 := within_sub a c d i ha hc h2 (by omega) h32
      rw [lcp_self] at hw1
      have hgo : ¬ i ≤ cbits a b c d → Ev (fun k => waymarkref01_Common.l0 k (wrap64 (i - 1)) a b c d) (sn a (cbits a b c d)) := by
        intro hlt
        rw [w64_id _ (by omega) (by omega)]
        exact ih (i - 1) (by omega) (by omega) (by omega)
      by_cases c1 : i ≤ b
      · refine ev_pos (hw1.2 ⟨c1, h32⟩) (ev_bind _ (rwithin_val c d (sz i * (a / sz i)) i hc hsa) ?_)
        by_cases c2 : i ≤ d ∧ i ≤ lcp a c
        · refine ev_pos (hw2.2 c2) (ev_to (ev_now _) ?_)
          have : cbits a b c d = i := by unfold cbits at hci ⊢; omega
          rw [this, hs]
        · exact ev_neg (fun e => c2 (hw2.1 e)) (hgo (by unfold cbits; omega))
      · exact ev_neg (fun e => c1 (hw1.1 e).1) (hgo (by unfold cbits; omega))
theorem rcommon_val (a b c d : Int) (ha : isA a) (hc : isA c) : Ev (fun k => waymarkref01_Common.f k a b c d) (common a b c d) := by
  unfold waymarkref01_Common.f common
  refine ev_bind _ (rchk_val a b ha) ?_
  by_cases h : chk a b = 0
  · refine ev_posr h h (ev_bind _ (rchk_val c d hc) ?_)
    by_cases h2 : chk c d = 0
    · rw [if_pos h2]
      refine Ev.step (f := fun k => waymarkref01_Common.l0 k 32 a b c d) (fun k => ?_) (rcommon_l0 a b c d ha hc h h2 32 32 (by omega) (by omega) ?_)
      · simp only [waymarkref01_Common.j0]; rw [if_pos h2]
      · have := lcp_le a c; unfold cbits; omega
    · rw [if_neg h2]
      refine Ev.step (f := fun _ => some (0, 0, chk c d)) (fun k => ?_) (ev_now _)
      simp only [waymarkref01_Common.j0]; rw [if_neg h2]
  · refine ev_negr h h (Ev.step (f := fun _ => some (0, 0, chk a b)) (fun k => ?_) (ev_now _))
    simp only [waymarkref01_Common.j0]; rw [if_neg h]
end Go.Proofs.Ytbnihnggljagnaa.QAddrPrefixes
