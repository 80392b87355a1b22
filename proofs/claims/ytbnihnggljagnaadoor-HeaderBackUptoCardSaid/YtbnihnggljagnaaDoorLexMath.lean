/- Plain laws of texts, for the laws of layer 7. Conditions: none. -/
import Derived.Test.YtbnihnggljagnaaDoorWWords
import Derived.Test.YtbnihnggljagnaaDoorTools
import Derived.Lib.IndexMore
import Derived.Lib.IndexAny
import Derived.Lib.IndexBytes
namespace Go.Proofs.YtbnihnggljagnaaDoor.LexMath
open Go.RowKit Go.Proofs.YtbnihnggljagnaaDoorW.PrintWords Go.Proofs.YtbnihnggljagnaaDoor.Tools
set_option linter.unusedVariables false
/-- The place of byte i. -/
def pl (s : ByteArray) : Nat → Int × Int
  | 0 => (1, 1)
  | i + 1 => if bt s i = 10 then ((pl s i).1 + 1, 1) else ((pl s i).1, (pl s i).2 + 1)
theorem pl_bounds (s : ByteArray) : ∀ i : Nat, 1 ≤ (pl s i).1 ∧ (pl s i).1 ≤ i + 1 ∧ 1 ≤ (pl s i).2 ∧ (pl s i).2 ≤ i + 1 := by
  intro i
  induction i with
  | zero => simp [pl]
  | succ i ih =>
    rw [pl]
    split <;> simp only <;> omega
theorem pl_line {s : ByteArray} {i : Nat} (h : bt s i = 10) : pl s (i + 1) = ((pl s i).1 + 1, 1) := by rw [pl, if_pos h]
theorem pl_same {s : ByteArray} {i : Nat} (h : ¬ bt s i = 10) : pl s (i + 1) = ((pl s i).1, (pl s i).2 + 1) := by rw [pl, if_neg h]
/-- A byte that may stand. -/
def good (s : ByteArray) (i : Nat) : Prop := bt s i = 10 ∨ (32 ≤ bt s i ∧ bt s i ≤ 126)
theorem bt_get (s : ByteArray) (i : Nat) (h : i < s.size) : bt s i = ((s[i]'h).toNat : Int) := by simp [bt, h]
theorem bt_nn (s : ByteArray) (i : Int) : 0 ≤ bt s i ∧ bt s i ≤ 255 := bt_range s i
theorem size_list (s : ByteArray) : s.data.toList.length = s.size := Array.length_toList
theorem bt_list (s : ByteArray) (i : Nat) (h : i < s.size) : s.data.toList[i]? = some (bt s i).toNat.toUInt8 := by
  rw [bt_get s i h, Array.getElem?_toList, Array.getElem?_eq_getElem (show i < s.data.size from h)]
  simp
  rfl
theorem bt_ext (s : ByteArray) (i j n : Nat) (hn : n ≤ s.size) (h : i + j < n) : bt (s.extract i n) j = bt s (i + j : Nat) := by
  have h1 : j < (s.extract i n).size := by rw [ByteArray.size_extract]; omega
  rw [bt_get _ _ h1, bt_get s (i + j) (by omega)]
  congr 2
  rw [ByteArray.getElem_extract]
theorem ext_ext (s : ByteArray) (i a b : Nat) (h : i + b ≤ s.size) : (s.extract i s.size).extract a b = s.extract (i + a) (i + b) := by
  rw [ByteArray.extract_extract]
  congr 1
  omega
theorem ext_all (s : ByteArray) : s.extract 0 s.size = s := by
  simp
theorem ext_none (s : ByteArray) : s.extract s.size s.size = ⟨#[]⟩ := by
  apply ByteArray.ext
  simp
theorem list_ext (s : ByteArray) (i : Nat) : (s.extract i s.size).data.toList = s.data.toList.drop i := by
  simp [ByteArray.data_extract]
  exact List.take_of_length_le (by rw [List.length_drop, Array.length_toList]; exact Nat.le_refl _)
theorem indexAny_spec : ∀ (l cs : List UInt8), (Lib.indexAny l cs = -1 ∧ ∀ (j : Nat) (b : UInt8), l[j]? = some b → cs.contains b = false) ∨ (∃ m : Nat, Lib.indexAny l cs = m ∧ (∃ b : UInt8, l[m]? = some b ∧ cs.contains b = true) ∧ ∀ (j : Nat) (b : UInt8), j < m → l[j]? = some b → cs.contains b = false)
  | [], cs => .inl ⟨rfl, by simp⟩
  | x :: l, cs => by
    rcases indexAny_spec l cs with ⟨h, hn⟩ | ⟨m, h, ⟨b, hb, hc⟩, hn⟩
    · simp only [Lib.indexAny]
      by_cases hx : cs.contains x = true
      · exact .inr ⟨0, by rw [if_pos hx]; rfl, ⟨x, rfl, hx⟩, by omega⟩
      · refine .inl ⟨by rw [if_neg hx, h]; rfl, ?_⟩
        intro j b hj
        cases j with
        | zero => cases hj; simpa using hx
        | succ j => exact hn j b (by simpa using hj)
    · simp only [Lib.indexAny]
      by_cases hx : cs.contains x = true
      · exact .inr ⟨0, by rw [if_pos hx]; rfl, ⟨x, rfl, hx⟩, by omega⟩
      · refine .inr ⟨m + 1, ?_, ⟨b, by simpa using hb, hc⟩, ?_⟩
        · rw [if_neg hx, h, if_neg (by simp)]
          rfl
        · intro j b hj hb
          cases j with
          | zero => cases hb; simpa using hx
          | succ j => exact hn j b (by omega) (by simpa using hb)
/-- The kind of a sign. -/
def sgn (c : Int) : Int := if c = 123 then 2 else if c = 125 then 3 else if c = 59 then 4 else if c = 91 then 5 else if c = 93 then 6 else 0
theorem byte_cases {p : Int → Prop} (h : ∀ n : Fin 256, p (n.val : Int)) (c : Int) (h0 : 0 ≤ c ∧ c ≤ 255) : p c := by
  obtain ⟨n, rfl⟩ := Int.eq_ofNat_of_zero_le h0.1
  exact h ⟨n, by omega⟩
theorem sgn_idx (c : Int) (h : 0 ≤ c ∧ c ≤ 255) : Lib.indexByte [123, 125, 59, 91, 93] c.toNat.toUInt8 = (if sgn c = 0 then -1 else sgn c - 2) := by
  refine byte_cases (p := fun c => Lib.indexByte [123, 125, 59, 91, 93] c.toNat.toUInt8 = (if sgn c = 0 then -1 else sgn c - 2)) ?_ c h
  decide +kernel
theorem end_idx (c : Int) (h : 0 ≤ c ∧ c ≤ 255) : decide (0 ≤ Lib.indexByte [32, 10, 123, 125, 59, 91, 93, 34, 35] c.toNat.toUInt8) = decide (c = 32 ∨ c = 10 ∨ c = 34 ∨ c = 35 ∨ ¬ sgn c = 0) := by
  refine byte_cases (p := fun c => decide (0 ≤ Lib.indexByte [32, 10, 123, 125, 59, 91, 93, 34, 35] c.toNat.toUInt8) = decide (c = 32 ∨ c = 10 ∨ c = 34 ∨ c = 35 ∨ ¬ sgn c = 0)) ?_ c h
  decide +kernel
theorem byte_eq (c : Int) (h : 0 ≤ c ∧ c ≤ 255) (a : UInt8) : c.toNat.toUInt8 = a ↔ c = a.toNat := by
  obtain ⟨n, rfl⟩ := Int.eq_ofNat_of_zero_le h.1
  constructor
  · intro e
    rw [← e]
    simp
    omega
  · intro e
    have e2 : n = a.toNat := by omega
    rw [Int.toNat_natCast, e2]
    simp
theorem prefix2 (a b : UInt8) (l : List UInt8) : [a, b].isPrefixOf l = (decide (l[0]? = some a) && decide (l[1]? = some b)) := by
  cases l with
  | nil => rfl
  | cons x l =>
    cases l with
    | nil => simp [List.isPrefixOf]
    | cons y l =>
      simp only [List.isPrefixOf, List.getElem?_cons_zero, List.getElem?_cons_succ, Bool.and_true, Option.some.injEq]
      have e1 : (a == x) = decide (x = a) := by by_cases h : x = a <;> simp [h]; exact fun e => h e.symm
      have e2 : (b == y) = decide (y = b) := by by_cases h : y = b <;> simp [h]; exact fun e => h e.symm
      rw [e1, e2]
theorem pre2 (s : ByteArray) (a b : UInt8) (m : Nat) : [a, b].isPrefixOf (s.data.toList.drop m) = decide (m + 1 < s.size ∧ bt s m = a.toNat ∧ bt s ((m : Int) + 1) = b.toNat) := by
  rw [prefix2, List.getElem?_drop, List.getElem?_drop]
  have hl := size_list s
  by_cases h0 : m + 1 < s.size
  · rw [Nat.add_zero, bt_list s m (by omega), bt_list s (m + 1) h0]
    have e : bt s ((m : Int) + 1) = bt s ((m + 1 : Nat) : Int) := rfl
    rw [e]
    have h1 := byte_eq (bt s m) (bt_nn s m) a
    have h2 := byte_eq (bt s ((m + 1 : Nat) : Int)) (bt_nn s _) b
    simp only [Option.some.injEq, h1, h2, h0, true_and, ← Bool.decide_and]
  · rw [List.getElem?_eq_none (show s.data.toList.length ≤ m + 1 by omega)]
    simp [h0]
end Go.Proofs.YtbnihnggljagnaaDoor.LexMath
