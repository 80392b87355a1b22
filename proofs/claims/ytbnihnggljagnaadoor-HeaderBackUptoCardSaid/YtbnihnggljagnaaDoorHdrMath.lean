/- Headers, their thirteen bytes and their bits, in plain numbers. Conditions: none. -/
import Derived.IntWalk
namespace Go.Proofs.YtbnihnggljagnaaDoor.HdrMath
set_option linter.unusedSimpArgs false
set_option linter.unusedVariables false
/-- A header's byte at a place. -/
def byteN (s d p sp dp : Int) : Nat → Int
  | 0 => s / 16777216 % 256 | 1 => s / 65536 % 256 | 2 => s / 256 % 256 | 3 => s % 256
  | 4 => d / 16777216 % 256 | 5 => d / 65536 % 256 | 6 => d / 256 % 256 | 7 => d % 256
  | 8 => p | 9 => sp / 256 % 256 | 10 => sp % 256 | 11 => dp / 256 % 256 | _ => dp % 256
theorem byteN_range (s d p sp dp : Int) (hp : 0 ≤ p ∧ p ≤ 255) (n : Nat) : 0 ≤ byteN s d p sp dp n ∧ byteN s d p sp dp n ≤ 255 := by
  unfold byteN
  split <;> omega
/-- The header of bytes. -/
def four (a b c d : Int) : Int := ((a * 256 + b) * 256 + c) * 256 + d
def ofN (b : Nat → Int) : Int × Int × Int × Int × Int := (four (b 0) (b 1) (b 2) (b 3), four (b 4) (b 5) (b 6) (b 7), b 8, b 9 * 256 + b 10, b 11 * 256 + b 12)
def byteT (h : Int × Int × Int × Int × Int) (n : Nat) : Int := byteN h.1 h.2.1 h.2.2.1 h.2.2.2.1 h.2.2.2.2 n
/-- A header whose fields are in their ranges. -/
structure InT (h : Int × Int × Int × Int × Int) : Prop where
  s : 0 ≤ h.1 ∧ h.1 ≤ 4294967295
  d : 0 ≤ h.2.1 ∧ h.2.1 ≤ 4294967295
  p : 0 ≤ h.2.2.1 ∧ h.2.2.1 ≤ 255
  sp : 0 ≤ h.2.2.2.1 ∧ h.2.2.2.1 ≤ 65535
  dp : 0 ≤ h.2.2.2.2 ∧ h.2.2.2.2 ≤ 65535
theorem byteT_range {h : Int × Int × Int × Int × Int} (hh : InT h) (n : Nat) : 0 ≤ byteT h n ∧ byteT h n ≤ 255 := byteN_range _ _ _ _ _ hh.p n
theorem four_range {a b c d : Int} (h0 : 0 ≤ a ∧ a ≤ 255) (h1 : 0 ≤ b ∧ b ≤ 255) (h2 : 0 ≤ c ∧ c ≤ 255) (h3 : 0 ≤ d ∧ d ≤ 255) : 0 ≤ four a b c d ∧ four a b c d ≤ 4294967295 := by
  unfold four; omega
theorem four_eq {a b c d : Int} (h0 : 0 ≤ a ∧ a ≤ 255) (h1 : 0 ≤ b ∧ b ≤ 255) (h2 : 0 ≤ c ∧ c ≤ 255) (h3 : 0 ≤ d ∧ d ≤ 255) :
    four a b c d / 16777216 % 256 = a ∧ four a b c d / 65536 % 256 = b ∧ four a b c d / 256 % 256 = c ∧ four a b c d % 256 = d := by
  unfold four; omega
theorem ofN_in {b : Nat → Int} (hb : ∀ n, 0 ≤ b n ∧ b n ≤ 255) : InT (ofN b) := by
  refine ⟨four_range (hb 0) (hb 1) (hb 2) (hb 3), four_range (hb 4) (hb 5) (hb 6) (hb 7), hb 8, ?_, ?_⟩
  · have h0 := hb 9; have h1 := hb 10; show 0 ≤ b 9 * 256 + b 10 ∧ b 9 * 256 + b 10 ≤ 65535; omega
  · have h0 := hb 11; have h1 := hb 12; show 0 ≤ b 11 * 256 + b 12 ∧ b 11 * 256 + b 12 ≤ 65535; omega
theorem byte_ofN {b : Nat → Int} (hb : ∀ n, 0 ≤ b n ∧ b n ≤ 255) (n : Nat) (hn : n ≤ 12) : byteT (ofN b) n = b n := by
  have f0 := four_eq (hb 0) (hb 1) (hb 2) (hb 3)
  have f1 := four_eq (hb 4) (hb 5) (hb 6) (hb 7)
  have g9 := hb 9; have g10 := hb 10; have g11 := hb 11; have g12 := hb 12
  match n, hn with
  | 0, _ => exact f0.1
  | 1, _ => exact f0.2.1
  | 2, _ => exact f0.2.2.1
  | 3, _ => exact f0.2.2.2
  | 4, _ => exact f1.1
  | 5, _ => exact f1.2.1
  | 6, _ => exact f1.2.2.1
  | 7, _ => exact f1.2.2.2
  | 8, _ => rfl
  | 9, _ => show (b 9 * 256 + b 10) / 256 % 256 = b 9; omega
  | 10, _ => show (b 9 * 256 + b 10) % 256 = b 10; omega
  | 11, _ => show (b 11 * 256 + b 12) / 256 % 256 = b 11; omega
  | 12, _ => show (b 11 * 256 + b 12) % 256 = b 12; omega
  | n + 13, h => exact absurd h (by omega)
theorem four_back (s : Int) (h : 0 ≤ s ∧ s ≤ 4294967295) : four (s / 16777216 % 256) (s / 65536 % 256) (s / 256 % 256) (s % 256) = s := by
  unfold four; omega
theorem ofN_byte {h : Int × Int × Int × Int × Int} (hh : InT h) : ofN (byteT h) = h := by
  obtain ⟨s, d, p, sp, dp⟩ := h
  have h1 := four_back s hh.s
  have h2 := four_back d hh.d
  have h3 := hh.sp; have h4 := hh.dp
  simp only at h3 h4
  have h5 : sp / 256 % 256 * 256 + sp % 256 = sp := by omega
  have h6 : dp / 256 % 256 * 256 + dp % 256 = dp := by omega
  show (four (s / 16777216 % 256) (s / 65536 % 256) (s / 256 % 256) (s % 256), four (d / 16777216 % 256) (d / 65536 % 256) (d / 256 % 256) (d % 256), p, sp / 256 % 256 * 256 + sp % 256, dp / 256 % 256 * 256 + dp % 256) = (s, d, p, sp, dp)
  rw [h1, h2, h5, h6]
theorem ofN_congr {a b : Nat → Int} (h : ∀ n, n ≤ 12 → a n = b n) : ofN a = ofN b := by
  unfold ofN
  rw [h 0 (by omega), h 1 (by omega), h 2 (by omega), h 3 (by omega), h 4 (by omega), h 5 (by omega), h 6 (by omega), h 7 (by omega), h 8 (by omega), h 9 (by omega), h 10 (by omega), h 11 (by omega), h 12 (by omega)]
/-- Same bytes, same header. -/
theorem ext_bytes {g h : Int × Int × Int × Int × Int} (hg : InT g) (hh : InT h) (e : ∀ n, n ≤ 12 → byteT g n = byteT h n) : g = h := by
  rw [← ofN_byte hg, ← ofN_byte hh]
  exact ofN_congr e
/-- The bit at a place. -/
def bitT (h : Int × Int × Int × Int × Int) (i : Nat) : Bool := byteT h (i / 8) / 2 ^ (7 - i % 8) % 2 == 1
/-- A byte with a bit set so. -/
def setB (v : Int) (m : Nat) (b : Bool) : Int := if (v / 2 ^ (7 - m) % 2 == 1) = b then v else if b then v + 2 ^ (7 - m) else v - 2 ^ (7 - m)
theorem setB_nat : ∀ v : Nat, v < 256 → ∀ m : Nat, m < 8 → ∀ b : Bool, (0 ≤ setB v m b ∧ setB v m b ≤ 255) ∧ ∀ k : Nat, k < 8 → (setB v m b / 2 ^ (7 - k) % 2 == 1) = if k = m then b else ((v : Int) / 2 ^ (7 - k) % 2 == 1) := by decide +kernel
theorem setB_range {v : Int} (hv : 0 ≤ v ∧ v ≤ 255) {m : Nat} (hm : m < 8) (b : Bool) : 0 ≤ setB v m b ∧ setB v m b ≤ 255 := by
  obtain ⟨n, rfl⟩ : ∃ n : Nat, v = n := ⟨v.toNat, by omega⟩
  exact (setB_nat n (by omega) m hm b).1
theorem setB_bit {v : Int} (hv : 0 ≤ v ∧ v ≤ 255) {m : Nat} (hm : m < 8) (b : Bool) {k : Nat} (hk : k < 8) : (setB v m b / 2 ^ (7 - k) % 2 == 1) = if k = m then b else (v / 2 ^ (7 - k) % 2 == 1) := by
  obtain ⟨n, rfl⟩ : ∃ n : Nat, v = n := ⟨v.toNat, by omega⟩
  exact (setB_nat n (by omega) m hm b).2 k hk
/-- A header with a bit set so. -/
def withT (h : Int × Int × Int × Int × Int) (i : Nat) (b : Bool) : Int × Int × Int × Int × Int := ofN fun n => if n = i / 8 then setB (byteT h n) (i % 8) b else byteT h n
theorem withB_range {h : Int × Int × Int × Int × Int} (hh : InT h) (i : Nat) (b : Bool) (n : Nat) : 0 ≤ (if n = i / 8 then setB (byteT h n) (i % 8) b else byteT h n) ∧ (if n = i / 8 then setB (byteT h n) (i % 8) b else byteT h n) ≤ 255 := by
  by_cases e : n = i / 8
  · rw [if_pos e]; exact setB_range (byteT_range hh n) (Nat.mod_lt _ (by decide)) b
  · rw [if_neg e]; exact byteT_range hh n
theorem with_in {h : Int × Int × Int × Int × Int} (hh : InT h) (i : Nat) (b : Bool) : InT (withT h i b) := ofN_in (withB_range hh i b)
theorem with_byte {h : Int × Int × Int × Int × Int} (hh : InT h) (i : Nat) (b : Bool) (n : Nat) (hn : n ≤ 12) : byteT (withT h i b) n = if n = i / 8 then setB (byteT h n) (i % 8) b else byteT h n := byte_ofN (withB_range hh i b) n hn
theorem with_bit {h : Int × Int × Int × Int × Int} (hh : InT h) (i : Nat) (b : Bool) (j : Nat) (hj : j < 104) : bitT (withT h i b) j = if j = i then b else bitT h j := by
  unfold bitT
  rw [with_byte hh i b (j / 8) (by omega)]
  by_cases e : j / 8 = i / 8
  · rw [if_pos e, setB_bit (byteT_range hh _) (Nat.mod_lt _ (by decide)) b (Nat.mod_lt _ (by decide))]
    by_cases e2 : j % 8 = i % 8
    · rw [if_pos e2, if_pos (by omega)]
    · rw [if_neg e2, if_neg (by rintro rfl; exact e2 rfl)]
  · rw [if_neg e, if_neg (by rintro rfl; exact e rfl)]
theorem byte_bits : ∀ v : Nat, v < 256 → ∀ u : Nat, u < 256 → (∀ k : Nat, k < 8 → ((v : Int) / 2 ^ (7 - k) % 2 == 1) = ((u : Int) / 2 ^ (7 - k) % 2 == 1)) → v = u := by
  intro v hv u hu h
  have g : ∀ k : Nat, k < 8 → (v : Int) / 2 ^ (7 - k) % 2 = (u : Int) / 2 ^ (7 - k) % 2 := by
    intro k hk
    have := h k hk
    by_cases a : (v : Int) / 2 ^ (7 - k) % 2 = 1
    · rw [a] at this
      have := beq_iff_eq.1 this.symm
      omega
    · have h1 := beq_eq_false_iff_ne.2 a
      rw [h1] at this
      have := beq_eq_false_iff_ne.1 this.symm
      omega
  have g0 : (v : Int) / 128 % 2 = u / 128 % 2 := g 0 (by omega)
  have g1 : (v : Int) / 64 % 2 = u / 64 % 2 := g 1 (by omega)
  have g2 : (v : Int) / 32 % 2 = u / 32 % 2 := g 2 (by omega)
  have g3 : (v : Int) / 16 % 2 = u / 16 % 2 := g 3 (by omega)
  have g4 : (v : Int) / 8 % 2 = u / 8 % 2 := g 4 (by omega)
  have g5 : (v : Int) / 4 % 2 = u / 4 % 2 := g 5 (by omega)
  have g6 : (v : Int) / 2 % 2 = u / 2 % 2 := g 6 (by omega)
  have g7 : (v : Int) / 1 % 2 = u / 1 % 2 := g 7 (by omega)
  omega
/-- Same bits, same header. -/
theorem ext_bits {g h : Int × Int × Int × Int × Int} (hg : InT g) (hh : InT h) (e : ∀ j, j < 104 → bitT g j = bitT h j) : g = h := by
  refine ext_bytes hg hh fun n hn => ?_
  have r1 := byteT_range hg n
  have r2 := byteT_range hh n
  obtain ⟨v, hv⟩ : ∃ v : Nat, byteT g n = v := ⟨(byteT g n).toNat, by omega⟩
  obtain ⟨u, hu⟩ : ∃ u : Nat, byteT h n = u := ⟨(byteT h n).toNat, by omega⟩
  rw [hv, hu, byte_bits v (by omega) u (by omega) fun k hk => ?_]
  have := e (8 * n + k) (by omega)
  unfold bitT at this
  rw [show (8 * n + k) / 8 = n by omega, show (8 * n + k) % 8 = k by omega, hv, hu] at this
  exact this
/-- The order of rows of numbers. -/
def lexI : List Int → List Int → Int
  | x :: l, y :: m => if x < y then -1 else if x > y then 1 else lexI l m
  | _, _ => 0
def val : List Int → Int
  | [] => 0
  | x :: l => x * 256 ^ l.length + val l
def Digs (l : List Int) : Prop := ∀ x ∈ l, 0 ≤ x ∧ x ≤ 255
theorem val_range : ∀ l : List Int, Digs l → 0 ≤ val l ∧ val l < 256 ^ l.length
  | [], _ => ⟨Int.le_refl 0, by simp [val]⟩
  | x :: l, h => by
    have hx := h x (by simp)
    have hl := val_range l fun y hy => h y (by simp [hy])
    have e : (256 : Int) ^ (x :: l).length = 256 * 256 ^ l.length := by rw [List.length_cons, Int.pow_succ, Int.mul_comm]
    have e2 : val (x :: l) = x * 256 ^ l.length + val l := rfl
    rw [e, e2]
    generalize (256 : Int) ^ l.length = P at *
    have hP : 0 < P := by omega
    have h1 : 0 ≤ x * P := Int.mul_nonneg hx.1 (by omega)
    have h2 : x * P ≤ 255 * P := Int.mul_le_mul_of_nonneg_right hx.2 (by omega)
    omega
theorem lex_val : ∀ l m : List Int, l.length = m.length → Digs l → Digs m → (lexI l m = -1 ∧ val l < val m) ∨ (lexI l m = 0 ∧ val l = val m) ∨ (lexI l m = 1 ∧ val l > val m)
  | [], [], _, _, _ => .inr (.inl ⟨rfl, rfl⟩)
  | x :: l, y :: m, hl, h1, h2 => by
    have hlen : l.length = m.length := by simpa using hl
    have d1 : Digs l := fun z hz => h1 z (by simp [hz])
    have d2 : Digs m := fun z hz => h2 z (by simp [hz])
    have ih := lex_val l m hlen d1 d2
    have r1 := val_range l d1
    have r2 := val_range m d2
    have e1 : val (x :: l) = x * 256 ^ l.length + val l := rfl
    have e2 : val (y :: m) = y * 256 ^ m.length + val m := rfl
    rw [e1, e2, ← hlen]
    rw [← hlen] at r2
    have e3 : lexI (x :: l) (y :: m) = if x < y then -1 else if x > y then 1 else lexI l m := rfl
    rw [e3]
    generalize (256 : Int) ^ l.length = P at *
    have hP : 0 < P := by omega
    by_cases a : x < y
    · rw [if_pos a]
      have : (x + 1) * P ≤ y * P := Int.mul_le_mul_of_nonneg_right (by omega) (by omega)
      rw [Int.add_mul, Int.one_mul] at this
      exact .inl ⟨rfl, by omega⟩
    · rw [if_neg a]
      by_cases b : x > y
      · rw [if_pos b]
        have : (y + 1) * P ≤ x * P := Int.mul_le_mul_of_nonneg_right (by omega) (by omega)
        rw [Int.add_mul, Int.one_mul] at this
        exact .inr (.inr ⟨rfl, by omega⟩)
      · rw [if_neg b]
        obtain rfl : x = y := by omega
        omega
/-- A header's bytes in a row, and the number that they are. -/
def rowT (h : Int × Int × Int × Int × Int) : List Int := [byteT h 0, byteT h 1, byteT h 2, byteT h 3, byteT h 4, byteT h 5, byteT h 6, byteT h 7, byteT h 8, byteT h 9, byteT h 10, byteT h 11, byteT h 12]
def numT (h : Int × Int × Int × Int × Int) : Int := h.1 * 4722366482869645213696 + h.2.1 * 1099511627776 + h.2.2.1 * 4294967296 + h.2.2.2.1 * 65536 + h.2.2.2.2
theorem row_digs {h : Int × Int × Int × Int × Int} (hh : InT h) : Digs (rowT h) := by
  intro x hx
  unfold rowT at hx
  simp only [List.mem_cons, List.not_mem_nil, or_false] at hx
  rcases hx with rfl | rfl | rfl | rfl | rfl | rfl | rfl | rfl | rfl | rfl | rfl | rfl | rfl <;> exact byteT_range hh _
theorem val_ofN (b : Nat → Int) : val [b 0, b 1, b 2, b 3, b 4, b 5, b 6, b 7, b 8, b 9, b 10, b 11, b 12] = numT (ofN b) := by
  simp only [val, numT, ofN, four, List.length_cons, List.length_nil]
  generalize b 0 = b0; generalize b 1 = b1; generalize b 2 = b2; generalize b 3 = b3; generalize b 4 = b4; generalize b 5 = b5; generalize b 6 = b6
  generalize b 7 = b7; generalize b 8 = b8; generalize b 9 = b9; generalize b 10 = b10; generalize b 11 = b11; generalize b 12 = b12
  omega
theorem val_row {h : Int × Int × Int × Int × Int} (hh : InT h) : val (rowT h) = numT h := by
  have := val_ofN (byteT h)
  rw [ofN_byte hh] at this
  exact this
theorem num_inj {g h : Int × Int × Int × Int × Int} (hg : InT g) (hh : InT h) (e : numT g = numT h) : g = h := by
  obtain ⟨s, d, p, sp, dp⟩ := g
  obtain ⟨s', d', p', sp', dp'⟩ := h
  have a1 := hg.s; have a2 := hg.d; have a3 := hg.p; have a4 := hg.sp; have a5 := hg.dp
  have b1 := hh.s; have b2 := hh.d; have b3 := hh.p; have b4 := hh.sp; have b5 := hh.dp
  unfold numT at e
  simp only at a1 a2 a3 a4 a5 b1 b2 b3 b4 b5 e
  have e1 : s = s' := by omega
  have e2 : d = d' := by omega
  have e3 : p = p' := by omega
  have e4 : sp = sp' := by omega
  have e5 : dp = dp' := by omega
  rw [e1, e2, e3, e4, e5]
/-- The order of headers. -/
def cmpT (g h : Int × Int × Int × Int × Int) : Int := lexI (rowT g) (rowT h)
theorem cmp_num {g h : Int × Int × Int × Int × Int} (hg : InT g) (hh : InT h) : (cmpT g h = -1 ∧ numT g < numT h) ∨ (cmpT g h = 0 ∧ numT g = numT h) ∨ (cmpT g h = 1 ∧ numT g > numT h) := by
  have := lex_val (rowT g) (rowT h) rfl (row_digs hg) (row_digs hh)
  rwa [val_row hg, val_row hh] at this
/-- The bytes right behind, from a place on towards the first. -/
def upB : Nat → (Nat → Int) → Option (Nat → Int)
  | 0, _ => none
  | k + 1, b => if b k = 255 then upB k (fun n => if n = k then 0 else b n) else some (fun n => if n = k then b k + 1 else b n)
def nextT (h : Int × Int × Int × Int × Int) : Option (Int × Int × Int × Int × Int) := (upB 13 (byteT h)).map ofN
theorem upd_num (b : Nat → Int) (v : Int) (k : Nat) (hk : k ≤ 12) : numT (ofN fun n => if n = k then v else b n) = numT (ofN b) + (v - b k) * 256 ^ (12 - k) := by
  match k, hk with
  | 0, _ => simp (decide := true) only [numT, ofN, four, if_true, if_false, Nat.reduceSub, Int.reducePow, ↓reduceIte]; omega
  | 1, _ => simp (decide := true) only [numT, ofN, four, if_true, if_false, Nat.reduceSub, Int.reducePow, ↓reduceIte]; omega
  | 2, _ => simp (decide := true) only [numT, ofN, four, if_true, if_false, Nat.reduceSub, Int.reducePow, ↓reduceIte]; omega
  | 3, _ => simp (decide := true) only [numT, ofN, four, if_true, if_false, Nat.reduceSub, Int.reducePow, ↓reduceIte]; omega
  | 4, _ => simp (decide := true) only [numT, ofN, four, if_true, if_false, Nat.reduceSub, Int.reducePow, ↓reduceIte]; omega
  | 5, _ => simp (decide := true) only [numT, ofN, four, if_true, if_false, Nat.reduceSub, Int.reducePow, ↓reduceIte]; omega
  | 6, _ => simp (decide := true) only [numT, ofN, four, if_true, if_false, Nat.reduceSub, Int.reducePow, ↓reduceIte]; omega
  | 7, _ => simp (decide := true) only [numT, ofN, four, if_true, if_false, Nat.reduceSub, Int.reducePow, ↓reduceIte]; omega
  | 8, _ => simp (decide := true) only [numT, ofN, four, if_true, if_false, Nat.reduceSub, Int.reducePow, ↓reduceIte]; omega
  | 9, _ => simp (decide := true) only [numT, ofN, four, if_true, if_false, Nat.reduceSub, Int.reducePow, ↓reduceIte]; omega
  | 10, _ => simp (decide := true) only [numT, ofN, four, if_true, if_false, Nat.reduceSub, Int.reducePow, ↓reduceIte]; omega
  | 11, _ => simp (decide := true) only [numT, ofN, four, if_true, if_false, Nat.reduceSub, Int.reducePow, ↓reduceIte]; omega
  | 12, _ => simp (decide := true) only [numT, ofN, four, if_true, if_false, Nat.reduceSub, Int.reducePow, ↓reduceIte]; omega
  | n + 13, h => exact absurd h (by omega)
theorem up_some : ∀ (k : Nat), k ≤ 13 → ∀ (b c : Nat → Int), (∀ n, 0 ≤ b n ∧ b n ≤ 255) → upB k b = some c → (∀ n, 0 ≤ c n ∧ c n ≤ 255) ∧ numT (ofN c) = numT (ofN b) + 256 ^ (13 - k)
  | 0, _, _, _, _, h => by simp [upB] at h
  | k + 1, hk, b, c, hb, h => by
    have e1 : 13 - (k + 1) = 12 - k := by omega
    have e2 : 13 - k = 12 - k + 1 := by omega
    unfold upB at h
    by_cases a : b k = 255
    · rw [if_pos a] at h
      have ih := up_some k (by omega) (fun n => if n = k then 0 else b n) c (fun n => by by_cases q : n = k; simp [q]; simp only [if_neg q]; exact hb n) h
      refine ⟨ih.1, ?_⟩
      rw [ih.2, upd_num b 0 k (by omega), a, e1, e2, Int.pow_succ]
      generalize (256 : Int) ^ (12 - k) = P
      omega
    · rw [if_neg a] at h
      obtain rfl := Option.some.inj h
      refine ⟨fun n => ?_, ?_⟩
      · by_cases q : n = k
        · subst q; have := hb n; simp only [if_true]; omega
        · simp only [if_neg q]; exact hb n
      · rw [upd_num b (b k + 1) k (by omega), e1, Int.add_comm (b k), Int.add_sub_cancel, Int.one_mul]
theorem up_none : ∀ (k : Nat), k ≤ 13 → ∀ (b : Nat → Int), upB k b = none → ∀ n, n < k → b n = 255
  | 0, _, _, _, n, h => absurd h (by omega)
  | k + 1, hk, b, h, n, hn => by
    unfold upB at h
    by_cases a : b k = 255
    · rw [if_pos a] at h
      by_cases q : n = k
      · rw [q]; exact a
      · have ih := up_none k (by omega) (fun n => if n = k then 0 else b n) h n (by omega)
        simp only [if_neg q] at ih
        exact ih
    · rw [if_neg a] at h; cases h
theorem next_some {h c : Int × Int × Int × Int × Int} (hh : InT h) (e : nextT h = some c) : InT c ∧ numT c = numT h + 1 := by
  unfold nextT at e
  obtain ⟨b, hb, rfl⟩ := Option.map_eq_some_iff.1 e
  have := up_some 13 (by omega) (byteT h) b (byteT_range hh) hb
  refine ⟨ofN_in this.1, ?_⟩
  rw [this.2, ofN_byte hh]
  rfl
theorem next_none {h g : Int × Int × Int × Int × Int} (hh : InT h) (hg : InT g) (e : nextT h = none) : numT g ≤ numT h := by
  unfold nextT at e
  have hn := up_none 13 (by omega) (byteT h) (Option.map_eq_none_iff.1 e)
  rw [← ofN_byte hh, ← ofN_byte hg]
  have r := byteT_range hg
  unfold numT ofN four
  simp only [hn 0 (by omega), hn 1 (by omega), hn 2 (by omega), hn 3 (by omega), hn 4 (by omega), hn 5 (by omega), hn 6 (by omega), hn 7 (by omega), hn 8 (by omega), hn 9 (by omega), hn 10 (by omega), hn 11 (by omega), hn 12 (by omega)]
  have r0 := r 0; have r1 := r 1; have r2 := r 2; have r3 := r 3; have r4 := r 4; have r5 := r 5; have r6 := r 6; have r7 := r 7; have r8 := r 8; have r9 := r 9; have r10 := r 10; have r11 := r 11; have r12 := r 12
  omega
/-- A header whose bit is as wished stays. -/
theorem with_self {h : Int × Int × Int × Int × Int} (hh : InT h) (i : Nat) (b : Bool) (e : bitT h i = b) : withT h i b = h := by
  have : withT h i b = ofN (byteT h) := by
    refine ofN_congr fun n _ => ?_
    by_cases q : n = i / 8
    · rw [if_pos q, q]; unfold setB; exact if_pos e
    · rw [if_neg q]
  rw [this, ofN_byte hh]
theorem with_num {h : Int × Int × Int × Int × Int} (hh : InT h) (i : Nat) (hi : i < 104) (b : Bool) : numT (withT h i b) = numT h + (setB (byteT h (i / 8)) (i % 8) b - byteT h (i / 8)) * 256 ^ (12 - i / 8) := by
  have := upd_num (byteT h) (setB (byteT h (i / 8)) (i % 8) b) (i / 8) (by omega)
  rw [ofN_byte hh] at this
  rw [← this]
  unfold withT
  congr 2
  funext n
  by_cases q : n = i / 8
  · rw [if_pos q, if_pos q, q]
  · rw [if_neg q, if_neg q]
theorem setB_turn (v : Int) (m : Nat) : (if (v / 2 ^ (7 - m) % 2 == 1) = true then setB v m (!(v / 2 ^ (7 - m) % 2 == 1)) < v else setB v m (!(v / 2 ^ (7 - m) % 2 == 1)) > v) := by
  have P : (0 : Int) < 2 ^ (7 - m) := Int.pow_pos (by decide)
  unfold setB
  by_cases e : (v / 2 ^ (7 - m) % 2 == 1) = true
  · rw [if_pos e, e, if_neg (by decide), if_neg (by decide)]; omega
  · have e2 : (v / 2 ^ (7 - m) % 2 == 1) = false := by simpa using e
    rw [if_neg e, e2, if_neg (by decide), if_pos (by decide)]; omega
/-- A bit that is turned moves a header the way the bit says. -/
theorem turn_num {h : Int × Int × Int × Int × Int} (hh : InT h) (i : Nat) (hi : i < 104) : if bitT h i = true then numT (withT h i (!(bitT h i))) < numT h else numT (withT h i (!(bitT h i))) > numT h := by
  have t := setB_turn (byteT h (i / 8)) (i % 8)
  rw [with_num hh i hi]
  have P : (0 : Int) < 256 ^ (12 - i / 8) := Int.pow_pos (by decide)
  generalize (256 : Int) ^ (12 - i / 8) = Q at *
  by_cases e : bitT h i = true
  · rw [if_pos e]
    have e' : (byteT h (i / 8) / 2 ^ (7 - i % 8) % 2 == 1) = true := e
    rw [if_pos e'] at t
    have : (setB (byteT h (i / 8)) (i % 8) (!(bitT h i)) - byteT h (i / 8)) * Q < 0 := Int.mul_neg_of_neg_of_pos (by unfold bitT; omega) P
    omega
  · rw [if_neg e]
    have e' : ¬ (byteT h (i / 8) / 2 ^ (7 - i % 8) % 2 == 1) = true := e
    rw [if_neg e'] at t
    have : 0 < (setB (byteT h (i / 8)) (i % 8) (!(bitT h i)) - byteT h (i / 8)) * Q := Int.mul_pos (by unfold bitT; omega) P
    omega
end Go.Proofs.YtbnihnggljagnaaDoor.HdrMath
