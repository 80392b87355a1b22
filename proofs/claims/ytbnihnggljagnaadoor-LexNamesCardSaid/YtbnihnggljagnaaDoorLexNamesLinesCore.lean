/- What lex.Lines answers, by its rows and words: for the laws that do not ask the document. Conditions: none. -/
import Derived.Test.YtbnihnggljagnaaDoorQLexNamesx1
import Derived.Test.YtbnihnggljagnaaDoorLexMath
import Derived.Test.YtbnihnggljagnaaDoorLexSpec
import Derived.Lib.TrimByte
import Derived.Lib.SplitLaws
import Derived.Lib.CountLaws
import Derived.Lib.IndexLaws
namespace Go.Proofs.YtbnihnggljagnaaDoor.QLexNames
open Go.RowKit Go.Proofs.YtbnihnggljagnaaDoorW.PrintWords Go.Proofs.YtbnihnggljagnaaDoor.Tools Go.Proofs.YtbnihnggljagnaaDoor.LexMath Go.Proofs.YtbnihnggljagnaaDoor.LexSpec
set_option linter.unusedVariables false
theorem mk_eq (l : List UInt8) (y : ByteArray) (h : y.data.toList = l) : (⟨l.toArray⟩ : ByteArray) = y := by
  cases y with
  | mk d =>
    subst h
    simp
theorem bt_some {x : ByteArray} {j : Nat} {c : UInt8} (h : x.data.toList[j]? = some c) : j < x.size ∧ bt x j = c.toNat := by
  have hj : j < x.size := by
    have := (List.getElem?_eq_some_iff.1 h).1
    rw [size_list] at this
    exact this
  refine ⟨hj, ?_⟩
  rw [bt_list x j hj] at h
  exact (byte_eq (bt x j) (bt_nn x j) c).1 (Option.some.inj h)
theorem some_bt {x : ByteArray} {j : Nat} {c : UInt8} (hj : j < x.size) (h : bt x j = c.toNat) : x.data.toList[j]? = some c := by
  rw [bt_list x j hj, (byte_eq (bt x j) (bt_nn x j) c).2 h]
theorem idx_val (x : ByteArray) (c : UInt8) (m : Nat) (hm : m ≤ x.size) (h1 : ∀ j : Nat, j < m → ¬ bt x j = c.toNat) (h2 : m < x.size → bt x m = c.toNat) : Lib.index x.data.toList [c] = if m < x.size then (m : Int) else -1 := by
  rw [Lib.index_one]
  have hge := Lib.indexByte_ge x.data.toList c
  by_cases hn : Lib.indexByte x.data.toList c = -1
  · have := Lib.indexByte_none hn m
    by_cases hl : m < x.size
    · exact absurd (some_bt hl (h2 hl)) this
    · rw [if_neg hl, hn]
  · obtain ⟨o, ho⟩ := Int.eq_ofNat_of_zero_le (show 0 ≤ Lib.indexByte x.data.toList c by omega)
    obtain ⟨o1, o2⟩ := Lib.indexByte_some ho
    obtain ⟨o3, o4⟩ := bt_some o1
    have hmo : ¬ o < m := fun h => h1 o h o4
    have hom : ¬ m < o := fun h => o2 m h (some_bt (by omega) (h2 (by omega)))
    rw [if_pos (by omega), ho]
    omega
theorem trim_val (x : ByteArray) (q : Nat) (hq : q ≤ x.size) (h1 : ∀ j : Nat, j < q → bt x j = 32) (h2 : q < x.size → ¬ bt x q = 32) : strings_TrimLeft.f x (⟨#[32]⟩ : ByteArray) = some (x.extract q x.size) := by
  have e : Lib.trimLeftB x.data.toList 32 = x.data.toList.drop q := by
    refine Lib.trimLeftB_drop _ _ q (by rw [size_list]; exact hq) (fun j b hj hb => ?_) (fun b hb => ?_)
    · obtain ⟨b1, b2⟩ := bt_some hb
      rw [h1 j hj] at b2
      have : b.toNat = 32 := by omega
      exact UInt8.toNat_inj.1 this
    · obtain ⟨b1, b2⟩ := bt_some hb
      intro hb32
      subst hb32
      exact h2 b1 b2
  unfold strings_TrimLeft.f
  show (if (32 : UInt8).toNat < 128 then some (⟨(Lib.trimLeftB x.data.toList 32).toArray⟩ : ByteArray) else none) = _
  rw [if_pos (by decide), e, mk_eq _ (x.extract q x.size) (list_ext x q)]
theorem list_take (x : ByteArray) (m : Nat) : (x.extract 0 m).data.toList = x.data.toList.take m := by
  simp [ByteArray.data_extract]
theorem cut_val (x : ByteArray) (m : Nat) (hs : x.size ≤ 65536) (hm : m ≤ x.size) (h1 : ∀ j : Nat, j < m → ¬ bt x j = 32) (h2 : m < x.size → bt x m = 32) :
    strings_Cut.f x (⟨#[32]⟩ : ByteArray) = some (x.extract 0 m, (if m < x.size then x.extract (m + 1) x.size else ⟨#[]⟩), decide (m < x.size)) := by
  have e := idx_val x 32 m hm h1 h2
  unfold strings_Cut.f
  rw [if_pos (by omega)]
  show some ((⟨(Lib.cut x.data.toList [32]).1.toArray⟩ : ByteArray), (⟨(Lib.cut x.data.toList [32]).2.1.toArray⟩ : ByteArray), (Lib.cut x.data.toList [32]).2.2) = _
  unfold Lib.cut
  rw [e]
  by_cases hl : m < x.size
  · rw [if_pos hl, if_pos hl, if_pos (by omega), Int.toNat_natCast, mk_eq _ (x.extract 0 m) (list_take x m)]
    show some (x.extract 0 m, (⟨(x.data.toList.drop (m + 1)).toArray⟩ : ByteArray), true) = _
    rw [mk_eq _ (x.extract (m + 1) x.size) (list_ext x (m + 1)), decide_eq_true hl]
  · rw [if_neg hl, if_neg hl, if_neg (by decide), decide_eq_false hl]
    have : m = x.size := by omega
    subst this
    show some ((⟨x.data.toList.toArray⟩ : ByteArray), (⟨#[]⟩ : ByteArray), false) = _
    rw [mk_eq _ (x.extract 0 x.size) (by rw [ext_all])]
theorem scan_ex (P : Nat → Prop) (n : Nat) : ∀ d p : Nat, p + d = n → ∃ m, p ≤ m ∧ m ≤ n ∧ (∀ j, p ≤ j → j < m → ¬ P j) ∧ (m = n ∨ P m) := by
  intro d
  induction d with
  | zero => intro p hp; exact ⟨p, by omega, by omega, by omega, .inl (by omega)⟩
  | succ d ih =>
    intro p hp
    by_cases h : P p
    · exact ⟨p, by omega, by omega, by omega, .inr h⟩
    · obtain ⟨m, h1, h2, h3, h4⟩ := ih (p + 1) (by omega)
      refine ⟨m, by omega, h2, fun j hj hj2 => ?_, h4⟩
      by_cases hji : j = p
      · subst hji; exact h
      · exact h3 j (by omega) hj2
/-- A word as both have it. -/
structure Wd where
  text : ByteArray
  line : Int
  col : Int
def Wd.a (t : Wd) : S37 := ⟨t.text, ⟨t.line, t.col⟩⟩
/-- The words of a row, from p on, in their places: each within the row, a blank ahead of the next. -/
def Wds (row : ByteArray) (n : Int) : Nat → List Wd → Prop
  | _, [] => True
  | p, t :: A => ∃ a m : Nat, p ≤ a ∧ a < m ∧ m ≤ row.size ∧ t = ⟨row.extract a m, n + 1, a + 1⟩ ∧ (∀ j : Nat, a ≤ j → j < m → ¬ bt row j = 32) ∧ Wds row n (m + 1) A
theorem Wds.mono {row : ByteArray} {n : Int} {p q : Nat} (h : q ≤ p) : ∀ {A : List Wd}, Wds row n p A → Wds row n q A
  | [], _ => trivial
  | _ :: _, ⟨a, m, h1, h2⟩ => ⟨a, m, by omega, h2⟩
theorem ext_sub (x : ByteArray) (p a b : Nat) (h : p + b ≤ x.size) : (x.extract p x.size).extract a b = x.extract (p + a) (p + b) := ext_ext x p a b h
theorem lw_step {x7 : List S35} {n : Int} {row : ByteArray} {R : List ByteArray} {ln idx ind : Int} {oa : List S37} {p m q : Nat} {r : List S35 × Int × Int × Int} (hs : row.size ≤ 65536) (hn : 0 ≤ n ∧ n ≤ 65536) (hpm : p < m) (hm : m ≤ row.size) (hq : q ≤ row.size) (hmq : m < row.size → m + 1 ≤ q) (hmq2 : m = row.size → q = row.size) (hw : ∀ j : Nat, p ≤ j → j < m → ¬ bt row j = 32) (hb : m < row.size → bt row m = 32) (hk : ∀ j : Nat, m ≤ j → j < q → bt row j = 32) (hq2 : q < row.size → ¬ bt row q = 32) (ho : oa.length ≤ 65536)
    (h : Ev (fun k => lex_Lines.l1 k x7 n row (row.extract q row.size) R ln idx ind (oa ++ [Wd.a ⟨row.extract p m, n + 1, p + 1⟩])) r) :
    Ev (fun k => lex_Lines.l1 k x7 n row (row.extract p row.size) R ln idx ind oa) r := by
  have hsz : (row.extract p row.size).size = row.size - p := by rw [ByteArray.size_extract]; omega
  have hne : ¬ (row.extract p row.size).toList = ([] : List UInt8) := by
    rw [ByteArray.toList_eq]
    intro e
    have := congrArg List.length e
    rw [size_list, hsz] at this
    simp at this
    omega
  have hcut := cut_val (row.extract p row.size) (m - p) (by omega) (by omega) (fun j hj => by rw [bt_ext row p j row.size (by omega) (by omega)]; exact hw (p + j) (by omega) (by omega)) (fun hl => by rw [bt_ext row p (m - p) row.size (by omega) (by omega), show p + (m - p) = m by omega]; exact hb (by omega))
  rw [hsz, ext_sub row p 0 (m - p) (by omega), Nat.add_zero, show p + (m - p) = m by omega] at hcut
  refine Ev.step (fun k => by rw [lex_Lines.l1]) ?_
  refine ev_neg hne (ev_is _ hcut (ev_pos (by omega) ?_))
  have htr : strings_TrimLeft.f (if m - p < row.size - p then (row.extract p row.size).extract (m - p + 1) (row.size - p) else ⟨#[]⟩) (⟨#[32]⟩ : ByteArray) = some (row.extract q row.size) := by
    by_cases hl : m < row.size
    · rw [if_pos (by omega), ext_sub row p (m - p + 1) (row.size - p) (by omega), show p + (m - p + 1) = m + 1 by omega, show p + (row.size - p) = row.size by omega]
      have hsz2 : (row.extract (m + 1) row.size).size = row.size - (m + 1) := by rw [ByteArray.size_extract]; omega
      have t := trim_val (row.extract (m + 1) row.size) (q - (m + 1)) (by omega) (fun j hj => by rw [bt_ext row (m + 1) j row.size (by omega) (by omega)]; exact hk (m + 1 + j) (by omega) (by omega)) (fun h2 => by rw [bt_ext row (m + 1) _ row.size (by omega) (by omega), show m + 1 + (q - (m + 1)) = q by omega]; exact hq2 (by omega))
      rw [hsz2, ext_sub row (m + 1) _ _ (by omega), show m + 1 + (q - (m + 1)) = q by omega, show m + 1 + (row.size - (m + 1)) = row.size by omega] at t
      exact t
    · rw [if_neg (by omega)]
      have hqe : q = row.size := hmq2 (by omega)
      have t := trim_val (⟨#[]⟩ : ByteArray) 0 (by decide) (by omega) (fun h2 => absurd h2 (by decide))
      rw [hqe, ext_none]
      exact t
  refine ev_is _ htr ?_
  rw [w64_id _ (by omega) (by omega), hsz, w64_id (((row.size : Int) - ((row.size - p : Nat) : Int))) (by omega) (by omega), w64_id _ (by omega) (by omega), show ((row.size : Int) - ((row.size - p : Nat) : Int)) + 1 = (p : Int) + 1 by omega]
  exact h
theorem split_at (s : ByteArray) (a j : Nat) (hs : s.size ≤ 65536) (ha : a ≤ j) (hj : j ≤ s.size) (hno : ∀ i : Nat, a ≤ i → i < j → ¬ bt s i = 10) (hb : j < s.size → bt s j = 10) :
    Lib.splitB ⟨#[10]⟩ 0 (Lib.countB (s.extract a s.size) ⟨#[10]⟩) (s.extract a s.size) = if j < s.size then s.extract a j :: Lib.splitB ⟨#[10]⟩ 0 (Lib.countB (s.extract (j + 1) s.size) ⟨#[10]⟩) (s.extract (j + 1) s.size) else [s.extract a j] := by
  have hsz : (s.extract a s.size).size = s.size - a := by rw [ByteArray.size_extract]; omega
  have hi : Lib.indexB (s.extract a s.size) ⟨#[10]⟩ = if j - a < (s.extract a s.size).size then ((j - a : Nat) : Int) else -1 :=
    idx_val (s.extract a s.size) 10 (j - a) (by omega) (fun i h => by rw [bt_ext s a i s.size (by omega) (by omega)]; exact hno (a + i) (by omega) (by omega)) (fun h => by rw [bt_ext s a (j - a) s.size (by omega) (by omega), show a + (j - a) = j by omega]; exact hb (by omega))
  by_cases hl : j < s.size
  · rw [if_pos (by omega)] at hi
    rw [if_pos hl, Lib.countB_hit _ _ _ (by decide) hi, Nat.add_comm, Lib.splitB_hit _ _ _ _ _ hi, hsz]
    show (s.extract a s.size).extract 0 (j - a + 0) :: _ = _
    have e1 : (s.extract a s.size).extract 0 (j - a + 0) = s.extract a j := by rw [ext_ext s a 0 _ (by omega)]; congr 1; omega
    have e2 : (s.extract a s.size).extract (j - a + (⟨#[10]⟩ : ByteArray).size) (s.size - a) = s.extract (j + 1) s.size := by
      show (s.extract a s.size).extract (j - a + 1) (s.size - a) = _
      rw [ext_ext s a _ _ (by omega)]; congr 1 <;> omega
    rw [e1, e2]
  · rw [if_neg (by omega)] at hi
    have : j = s.size := by omega
    subst this
    rw [if_neg hl, Lib.splitB_miss _ _ _ _ hi]
theorem list_mid (x : ByteArray) (p m : Nat) : (x.extract p m).data.toList = (x.data.toList.drop p).take (m - p) := by
  simp [ByteArray.data_extract]
theorem drop_cons (x : ByteArray) (m : Nat) (h : m < x.size) : x.data.toList.drop m = (bt x m).toNat.toUInt8 :: x.data.toList.drop (m + 1) := by
  have e := bt_list x m h
  have hl : m < x.data.toList.length := by rw [size_list]; exact h
  rw [List.getElem?_eq_getElem hl] at e
  rw [List.drop_eq_getElem_cons hl, Option.some.inj e]
theorem words_skip (x : ByteArray) (q : Nat) (hq : q ≤ x.size) : ∀ d m : Nat, m + d = q → (∀ j : Nat, m ≤ j → j < q → bt x j = 32) → wordsA (x.data.toList.drop m) [] = wordsA (x.data.toList.drop q) [] := by
  intro d
  induction d with
  | zero => intro m hm _; rw [show m = q by omega]
  | succ d ih =>
    intro m hm hb
    have h := hb m (by omega) (by omega)
    rw [drop_cons x m (by omega), h]
    show wordsA (32 :: x.data.toList.drop (m + 1)) [] = _
    rw [words_blank]
    exact ih (m + 1) (by omega) (fun j h1 h2 => hb j (by omega) h2)
theorem lrow {row : ByteArray} (hs : row.size ≤ 65536) (n : Int) (hn : 0 ≤ n ∧ n ≤ 65536) : ∀ d p : Nat, p + d = row.size → (p < row.size → ¬ bt row p = 32) → ∃ A : List Wd, A.length ≤ row.size - p ∧ A.map (fun t => t.text.data.toList) = wordsA (row.data.toList.drop p) [] ∧ (p < row.size → ∃ t B, A = t :: B ∧ t.col = p + 1 ∧ 0 < t.text.size ∧ bt t.text 0 = bt row p) ∧ Wds row n p A ∧
    (∀ (x7 : List S35) (R : List ByteArray) (ln idx ind : Int) (oa : List S37) (r : List S35 × Int × Int × Int), oa.length ≤ p → Ev (fun k => lex_Lines.l1 k x7 n row ⟨#[]⟩ R ln idx ind (oa ++ A.map Wd.a)) r → Ev (fun k => lex_Lines.l1 k x7 n row (row.extract p row.size) R ln idx ind oa) r) := by
  intro d
  induction d using Nat.strongRecOn with
  | _ d IH =>
  intro p hp hb
  by_cases hl : p < row.size
  · obtain ⟨m, m1, m2, m3, m4⟩ := scan_ex (fun j => bt row j = 32) row.size (row.size - p) p (by omega)
    have hpm : p < m := by
      by_cases h : m = p
      · subst h
        rcases m4 with h | h
        · omega
        · exact absurd h (hb hl)
      · omega
    obtain ⟨q, q1, q2, q3, q4⟩ := scan_ex (fun j => ¬ bt row j = 32) row.size (row.size - m) m (by omega)
    have q3' : ∀ j : Nat, m ≤ j → j < q → bt row j = 32 := fun j h1 h2 => Decidable.not_not.1 (q3 j h1 h2)
    have q4' : q < row.size → ¬ bt row q = 32 := fun h => by rcases q4 with h2 | h2; omega; exact h2
    have m4' : m < row.size → bt row m = 32 := fun h => by rcases m4 with h2 | h2; omega; exact h2
    have hmq : m < row.size → m + 1 ≤ q := fun h => by
      by_cases hqm : q = m
      · subst hqm; exact absurd (m4' h) (q4' h)
      · omega
    obtain ⟨A, a1, a2, a3, a5, a4⟩ := IH (row.size - q) (by omega) q (by omega) q4'
    have a5' : Wds row n (m + 1) A := by
      by_cases hml : m < row.size
      · exact a5.mono (hmq hml)
      · cases A with
        | nil => trivial
        | cons t B => have h : (t :: B).length ≤ row.size - q := a1; rw [List.length_cons] at h; omega
    refine ⟨⟨row.extract p m, n + 1, p + 1⟩ :: A, by rw [List.length_cons]; omega, ?_, fun _ => ⟨_, A, rfl, rfl, ?_, ?_⟩, ⟨p, m, Nat.le_refl _, hpm, m2, rfl, m3, a5'⟩, ?_⟩
    · rw [List.map_cons, a2]
      show (row.extract p m).data.toList :: _ = _
      rw [list_mid]
      have hne : (row.data.toList.drop p).take (m - p) ≠ [] := by
        intro h
        have := congrArg List.length h
        rw [List.length_take, List.length_drop, size_list] at this
        simp at this
        omega
      have hno : ∀ c ∈ (row.data.toList.drop p).take (m - p), c ≠ 32 := by
        intro c hc hc2
        obtain ⟨j, hj⟩ := List.mem_iff_getElem?.1 hc
        have hjl : j < m - p := by
          have := (List.getElem?_eq_some_iff.1 hj).1
          rw [List.length_take] at this
          omega
        rw [List.getElem?_take, if_pos hjl, List.getElem?_drop] at hj
        obtain ⟨h1, h2⟩ := bt_some hj
        rw [hc2] at h2
        exact m3 (p + j) (by omega) (by omega) h2
      have hsplit : row.data.toList.drop p = (row.data.toList.drop p).take (m - p) ++ row.data.toList.drop m := by
        have := (List.take_append_drop (m - p) (row.data.toList.drop p)).symm
        rwa [List.drop_drop, show p + (m - p) = m by omega] at this
      by_cases hml : m < row.size
      · have e32 : row.data.toList.drop m = 32 :: row.data.toList.drop (m + 1) := by
          rw [drop_cons row m hml, m4' hml]; rfl
        conv => rhs; rw [hsplit, e32]
        rw [words_word _ _ hne hno, words_skip row q q2 (q - (m + 1)) (m + 1) (by have := hmq hml; omega) (fun j h1 h2 => q3' j (by omega) h2)]
      · have hme : m = row.size := by omega
        have hqe : q = row.size := by omega
        have e0 : row.data.toList.drop row.size = [] := List.drop_of_length_le (by rw [size_list]; omega)
        conv => rhs; rw [hsplit, hme, e0, List.append_nil]
        rw [hqe, e0, ← hme, words_end _ hne hno]
        rfl
    · show 0 < (row.extract p m).size
      rw [ByteArray.size_extract]; omega
    · exact bt_ext row p 0 m m2 (by omega)
    · intro x7 R ln idx ind oa r ho hr
      refine lw_step hs hn hpm m2 q2 hmq (by omega) m3 m4' q3' q4' (by omega) (a4 x7 R ln idx ind _ r (by rw [List.length_append]; simp; omega) ?_)
      rw [List.append_assoc]
      exact hr
  · have hpe : p = row.size := by omega
    subst hpe
    refine ⟨[], by simp, ?_, by omega, trivial, ?_⟩
    · rw [List.drop_of_length_le (by rw [size_list]; omega)]
      rfl
    · intro x7 R ln idx ind oa r ho hr
      rw [ext_none]
      rw [List.map_nil, List.append_nil] at hr
      exact hr
/-- A line as it is answered. -/
structure Ln where
  indent : Nat
  words : List Wd
def Ln.a (l : Ln) : S35 := ⟨l.indent, l.words.map Wd.a⟩
def Ln.spec (l : Ln) : Nat × List (List UInt8) := (l.indent, l.words.map fun t => t.text.data.toList)
/-- The lines from place a and row n on: each is a row of the text, its words in their places. -/
def Lns (s : ByteArray) : Nat → Nat → List Ln → Prop
  | _, _, [] => True
  | a, n, l :: A => ∃ b j m : Nat, a ≤ b ∧ b ≤ j ∧ j ≤ s.size ∧ n ≤ m ∧ (pl s b) = ((m : Int) + 1, 1) ∧ (∀ i : Nat, b ≤ i → i < j → ¬ bt s i = 10) ∧ (j < s.size → bt s j = 10) ∧ l.words ≠ [] ∧ Wds (s.extract b j) m 0 l.words ∧ (∃ t B, l.words = t :: B ∧ t.col = l.indent + 1) ∧ Lns s (j + 1) (m + 1) A
theorem Lns.mono {s : ByteArray} {a b n m : Nat} (h : b ≤ a) (h' : m ≤ n) : ∀ {A : List Ln}, Lns s a n A → Lns s b m A
  | [], _ => trivial
  | _ :: _, ⟨c, j, k, h1, h2, h3, h4, h5⟩ => ⟨c, j, k, by omega, h2, h3, by omega, h5⟩
theorem pl_row {s : ByteArray} {b j : Nat} {n : Int} (h : pl s b = (n, 1)) (hno : ∀ i : Nat, b ≤ i → i < j → ¬ bt s i = 10) : ∀ d : Nat, b + d ≤ j → pl s (b + d) = (n, (d : Int) + 1) := by
  intro d
  induction d with
  | zero => intro _; rw [Nat.add_zero, h]; rfl
  | succ d ih =>
    intro hd
    rw [← Nat.add_assoc, pl_same (hno (b + d) (by omega) (by omega)), ih (by omega)]
    simp
theorem rows_at (s : ByteArray) (a j : Nat) (ha : a ≤ j) (hj : j ≤ s.size) (hno : ∀ i : Nat, a ≤ i → i < j → ¬ bt s i = 10) (hb : j < s.size → bt s j = 10) :
    rowsL (s.data.toList.drop a) = if j < s.size then (s.extract a j).data.toList :: rowsL (s.data.toList.drop (j + 1)) else [(s.extract a j).data.toList] := by
  have hno' : ∀ c ∈ (s.extract a j).data.toList, c ≠ 10 := by
    intro c hc hc2
    obtain ⟨i, hi⟩ := List.mem_iff_getElem?.1 hc
    obtain ⟨h1, h2⟩ := bt_some hi
    have hsz : (s.extract a j).size = j - a := by rw [ByteArray.size_extract]; omega
    rw [bt_ext s a i j hj (by omega), hc2] at h2
    exact hno (a + i) (by omega) (by omega) h2
  have hsplit : s.data.toList.drop a = (s.extract a j).data.toList ++ s.data.toList.drop j := by
    rw [list_mid]
    have := (List.take_append_drop (j - a) (s.data.toList.drop a)).symm
    rwa [List.drop_drop, show a + (j - a) = j by omega] at this
  by_cases hl : j < s.size
  · rw [if_pos hl, hsplit, drop_cons s j hl, hb hl]
    exact rows_row _ _ hno'
  · rw [if_neg hl, hsplit, List.drop_of_length_le (by rw [size_list]; omega), List.append_nil]
    exact rows_last _ hno'
theorem indent_at (row : ByteArray) (q : Nat) (hq : q ≤ row.size) (h1 : ∀ j : Nat, j < q → bt row j = 32) (h2 : q < row.size → ¬ bt row q = 32) : indentL row.data.toList = q := by
  have key : ∀ d m : Nat, m + d = q → ((row.data.toList.drop m).takeWhile (· == 32)).length = d := by
    intro d
    induction d with
    | zero =>
      intro m hm
      by_cases hl : m < row.size
      · rw [drop_cons row m hl, List.takeWhile_cons, if_neg]
        · rfl
        · intro h
          have := (byte_eq (bt row m) (bt_nn row m) 32).1 (by simpa using h)
          exact h2 (by omega) (by rw [show q = m by omega]; exact this)
      · rw [List.drop_of_length_le (by rw [size_list]; omega)]
        rfl
    | succ d ih =>
      intro m hm
      rw [drop_cons row m (by omega), h1 m (by omega), List.takeWhile_cons, if_pos (by rfl), List.length_cons, ih (m + 1) (by omega)]
  have := key q 0 (by omega)
  rwa [List.drop_zero] at this
theorem llines (s : ByteArray) (hs : s.size ≤ 65536) : ∀ d a n : Nat, a + d = s.size → n ≤ a → pl s a = ((n : Int) + 1, 1) → ∀ R : List ByteArray, R.length ≤ 65537 → R.drop n = Lib.splitB ⟨#[10]⟩ 0 (Lib.countB (s.extract a s.size) ⟨#[10]⟩) (s.extract a s.size) →
    ∃ A : List Ln, A.length ≤ s.size - a + 1 ∧ A.map Ln.spec = linesL (s.data.toList.drop a) ∧ Lns s a n A ∧ ∀ (oa : List S35), oa.length ≤ n →
      Ev (fun k => lex_Lines.l0 k oa R R.length n) (oa ++ A.map Ln.a, 0, 0, 0) := by
  intro d
  induction d using Nat.strongRecOn with
  | _ d IH =>
  intro a n hd hn hpl R hR hdrop
  obtain ⟨j, j1, j2, j3, j4⟩ := scan_ex (fun i => bt s i = 10) s.size (s.size - a) a (by omega)
  have j4' : j < s.size → bt s j = 10 := fun h => by rcases j4 with h2 | h2; omega; exact h2
  rw [split_at s a j hs j1 j2 j3 j4'] at hdrop
  have hrows := rows_at s a j j1 j2 j3 j4'
  have hrow : (s.extract a j).size = j - a := by rw [ByteArray.size_extract]; omega
  have hn1 : n < R.length ∧ R[n]? = some (s.extract a j) := by
    have h0 : (R.drop n)[0]? = some (s.extract a j) := by rw [hdrop]; split <;> rfl
    rw [List.getElem?_drop, Nat.add_zero] at h0
    exact ⟨(List.getElem?_eq_some_iff.1 h0).1, h0⟩
  obtain ⟨hnl, hget⟩ := hn1
  have hrd : rdOf ByteArray.empty R (n : Int) = s.extract a j := by
    unfold rdOf
    rw [Int.toNat_natCast, List.getD, hget]
    rfl
  have htail : R.drop (n + 1) = (R.drop n).tail := by rw [List.tail_drop]
  have NX : ∃ A : List Ln, A.length ≤ s.size - j ∧ linesL (s.data.toList.drop a) = (lineL (s.extract a j).data.toList).toList ++ A.map Ln.spec ∧ Lns s (j + 1) (n + 1) A ∧ ∀ (oa : List S35), oa.length ≤ n + 1 →
      Ev (fun k => lex_Lines.l0 k oa R R.length ((n + 1 : Nat) : Int)) (oa ++ A.map Ln.a, 0, 0, 0) := by
    by_cases hl : j < s.size
    · rw [if_pos hl] at hdrop hrows
      have hpj : pl s (j + 1) = (((n + 1 : Nat) : Int) + 1, 1) := by
        have e := pl_row hpl j3 (j - a) (by omega)
        rw [show a + (j - a) = j by omega] at e
        rw [pl_line (j4' hl), e]
        simp
      obtain ⟨A, a1, a2, a3, a4⟩ := IH (s.size - (j + 1)) (by omega) (j + 1) (n + 1) (by omega) (by omega) hpj R hR (by rw [htail, hdrop]; rfl)
      refine ⟨A, by omega, ?_, a3, a4⟩
      rw [a2]
      show (rowsL _).filterMap lineL = _
      rw [hrows, List.filterMap_cons]
      cases lineL (s.extract a j).data.toList <;> rfl
    · rw [if_neg hl] at hdrop hrows
      have hlen : R.length = n + 1 := by
        have := congrArg List.length hdrop
        rw [List.length_drop] at this
        simp at this
        omega
      refine ⟨[], by simp, ?_, trivial, fun oa _ => ?_⟩
      · show (rowsL _).filterMap lineL = _
        rw [hrows, List.filterMap_cons]
        cases lineL (s.extract a j).data.toList <;> rfl
      · rw [List.map_nil, List.append_nil]
        exact Ev.step (fun k => by rw [lex_Lines.l0]) (ev_neg (by omega) (ev_now _))
  obtain ⟨A, a1, a2, a3, a4⟩ := NX
  clear hdrop htail hget hrows
  generalize hrw : s.extract a j = row at hrow hrd a2
  obtain ⟨q, q1, q2, q3, q4⟩ := scan_ex (fun i => ¬ bt row i = 32) (j - a) (j - a) 0 (by omega)
  have q3' : ∀ i : Nat, i < q → bt row i = 32 := fun i h => Decidable.not_not.1 (q3 i (by omega) h)
  have q4' : q < row.size → ¬ bt row q = 32 := fun h => by rcases q4 with h2 | h2; omega; exact h2
  have hqr : q ≤ row.size := by rw [hrow]; exact q2
  have q0 : row.size ≤ 65536 := by omega
  clear q1 q3 q4
  have hind := indent_at row q hqr q3' q4'
  obtain ⟨W, w1, w2, w3, w5, w4⟩ := lrow (row := row) (by omega) (n : Int) ⟨by omega, by omega⟩ (row.size - q) q (by omega) q4'
  have hws : wordsA row.data.toList [] = W.map fun t => t.text.data.toList := by
    have e := words_skip row q hqr q 0 (by omega) (fun i _ h => q3' i h)
    rw [List.drop_zero] at e
    rw [e, w2]
  have w3' := Aside0.mk w3
  clear w3
  have htrim := trim_val row q (by omega) q3' q4'
  have hrest : ((row.extract q row.size).size) = j - a - q := by rw [ByteArray.size_extract, Nat.min_self, hrow]
  have hemp : (row.extract q row.size).toList = ([] : List UInt8) ↔ q = j - a := by
    rw [ByteArray.toList_eq, ← List.length_eq_zero_iff, size_list, hrest]
    omega
  have lskip : ∀ (oa : List S35) (r : List S35 × Int × Int × Int), Ev (fun k => lex_Lines.l0 k oa R R.length ((n + 1 : Nat) : Int)) r → Ev (fun k => lex_Lines.j1 k oa n row (row.extract q row.size) R R.length n true) r := fun oa r h => by
    refine Ev.step (fun k => by rw [lex_Lines.j1]) ?_
    refine ev_pos rfl ?_
    rw [w64_id _ (by omega) (by omega)]
    exact h
  have a3' : Lns s a n A := a3.mono (by omega) (by omega)
  by_cases hqe : q = j - a
  · have hW : W = [] := List.length_eq_zero_iff.1 (by omega)
    have hline : lineL row.data.toList = none := by unfold lineL; rw [hws, hW]; rfl
    refine ⟨A, by omega, by rw [a2, hline]; rfl, a3', fun oa ha => ?_⟩
    refine Ev.step (fun k => by rw [lex_Lines.l0]) ?_
    rw [hrd]
    exact ev_pos (by omega) (ev_pos (by omega) (ev_pos (by omega) (ev_is _ htrim (ev_pos (hemp.2 hqe) (lskip oa _ (a4 oa (by omega)))))))
  obtain ⟨t, B, hW, hcol, ht1, ht2⟩ := w3'.out (by omega)
  have hbt0 : bt (row.extract q row.size) 0 = bt row q := bt_ext row q 0 _ (by omega) (by omega)
  have hhead : t.text.data.toList.head? = some (bt row q).toNat.toUInt8 := by
    rw [← ht2, List.head?_eq_getElem?]
    exact bt_list t.text 0 ht1
  by_cases h33 : bt row q = 33
  · have hline : lineL row.data.toList = none := by
      unfold lineL
      rw [hws, hW, List.map_cons]
      show (if t.text.data.toList.head? = some 33 then _ else _) = _
      rw [hhead, h33]
      rfl
    refine ⟨A, by omega, by rw [a2, hline]; rfl, a3', fun oa ha => ?_⟩
    refine Ev.step (fun k => by rw [lex_Lines.l0]) ?_
    rw [hrd]
    refine ev_pos (by omega) (ev_pos (by omega) (ev_pos (by omega) (ev_is _ htrim (ev_neg (fun h => hqe (hemp.1 h)) (ev_pos (by omega) ?_)))))
    rw [show (bt (row.extract q row.size) 0 == 33) = true by rw [hbt0, h33]; rfl]
    exact lskip oa _ (a4 oa (by omega))
  · have hline : lineL row.data.toList = some (Ln.spec ⟨q, W⟩) := by
      unfold lineL
      rw [hws, hW, List.map_cons]
      show (if t.text.data.toList.head? = some 33 then _ else _) = _
      rw [hhead, if_neg, hind]
      · rfl
      · intro h
        exact h33 ((byte_eq (bt row q) (bt_nn row q) 33).1 (Option.some.inj h))
    refine ⟨⟨q, W⟩ :: A, by rw [List.length_cons]; omega, by rw [a2, hline]; rfl, ⟨a, j, n, Nat.le_refl _, j1, j2, Nat.le_refl _, hpl, j3, j4', by rw [hW]; simp, by rw [hrw]; exact w5.mono (by omega), ⟨t, B, hW, hcol⟩, a3⟩, fun oa ha => ?_⟩
    refine Ev.step (fun k => by rw [lex_Lines.l0]) ?_
    rw [hrd]
    refine ev_pos (by omega) (ev_pos (by omega) (ev_pos (by omega) (ev_is _ htrim (ev_neg (fun h => hqe (hemp.1 h)) (ev_pos (by omega) ?_)))))
    rw [show (bt (row.extract q row.size) 0 == 33) = false by rw [hbt0]; simpa using h33]
    refine Ev.step (fun k => by rw [lex_Lines.j1]) ?_
    refine ev_neg (by decide) ?_
    rw [hrest, hrow, w64_id _ (by omega) (by omega), show ((j - a : Nat) : Int) - ((j - a - q : Nat) : Int) = (q : Int) by omega, ← hrow]
    refine w4 oa R R.length n q [] _ (by simp) ?_
    rw [List.nil_append]
    refine Ev.step (fun k => by rw [lex_Lines.l1]) ?_
    refine ev_pos (by rw [ByteArray.toList_eq]) (ev_pos (by omega) ?_)
    rw [w64_id _ (by omega) (by omega)]
    have e := a4 (oa ++ [Ln.a ⟨q, W⟩]) (by rw [List.length_append]; simp; omega)
    rw [List.append_assoc] at e
    exact e
/-- 'check' answers with no fault only at bytes that may stand. -/
theorem check_val (s : ByteArray) : ∃ r : Int × Int × Int, Ev (fun k => lex_check.f k s) r ∧ (r.2.2 = 0 → r = (0, 0, 0) ∧ s.size ≤ 65536 ∧ ∀ j, j < s.size → good s j) ∧ (s.size ≤ 65536 → (∀ j, j < s.size → good s j) → (∀ j, j < s.size → (pl s j).1 ≤ 4096) → r.2.2 = 0) := by
  by_cases hs : s.size ≤ 65536
  · have key : ∀ d i : Nat, i + d = s.size → ∃ r : Int × Int × Int, Ev (fun k => lex_check.l0 k s s.size i (pl s i).1 (pl s i).2) r ∧ (r.2.2 = 0 → r = (0, 0, 0) ∧ ∀ j, i ≤ j → j < s.size → good s j) ∧ ((∀ j, i ≤ j → j < s.size → good s j) → (∀ j, i ≤ j → j < s.size → (pl s j).1 ≤ 4096) → r.2.2 = 0) := by
      intro d
      induction d with
      | zero =>
        intro i hi
        refine ⟨(0, 0, 0), Ev.step (fun k => by rw [lex_check.l0]) (ev_neg (by omega) (ev_now _)), fun _ => ⟨rfl, by omega⟩, fun _ _ => rfl⟩
      | succ d ih =>
        intro i hi
        have hb := pl_bounds s i
        by_cases h1 : (pl s i).1 > 4096
        · exact ⟨((pl s i).1, (pl s i).2, 3), Ev.step (fun k => by rw [lex_check.l0]) (ev_pos (by omega) (ev_pos h1 (ev_now _))), fun h => absurd h (by simp), fun _ h => absurd (h i (by omega) (by omega)) (by omega)⟩
        obtain ⟨r, e1, e3, e4⟩ := ih (i + 1) (by omega)
        by_cases h2 : bt s i = 10
        · rw [pl_line h2] at e1
          refine ⟨r, Ev.step (fun k => by rw [lex_check.l0]) (ev_pos (by omega) (ev_neg h1 (ev_pos (by omega) (ev_pos (by omega) (ev_pos h2 ?_))))), fun h => ⟨(e3 h).1, fun j hj hj2 => ?_⟩, fun g1 g2 => e4 (fun j hj => g1 j (by omega)) (fun j hj => g2 j (by omega))⟩
          · rw [w64_id _ (by omega) (by omega), w64_id _ (by omega) (by omega)]
            exact e1
          · by_cases hji : j = i
            · subst hji; exact .inl h2
            · exact (e3 h).2 j (by omega) hj2
        by_cases h3 : bt s i < 32
        · exact ⟨((pl s i).1, (pl s i).2, 70), Ev.step (fun k => by rw [lex_check.l0]) (ev_pos (by omega) (ev_neg h1 (ev_pos (by omega) (ev_pos (by omega) (ev_neg h2 (ev_pos h3 (ev_now _))))))), fun h => absurd h (by simp), fun g _ => by rcases g i (by omega) (by omega) with h | h; exact absurd h h2; omega⟩
        by_cases h4 : bt s i > 126
        · exact ⟨((pl s i).1, (pl s i).2, 70), Ev.step (fun k => by rw [lex_check.l0]) (ev_pos (by omega) (ev_neg h1 (ev_pos (by omega) (ev_pos (by omega) (ev_neg h2 (ev_neg h3 (ev_pos h4 (ev_now _)))))))), fun h => absurd h (by simp), fun g _ => by rcases g i (by omega) (by omega) with h | h; exact absurd h h2; omega⟩
        rw [pl_same h2] at e1
        refine ⟨r, Ev.step (fun k => by rw [lex_check.l0]) (ev_pos (by omega) (ev_neg h1 (ev_pos (by omega) (ev_pos (by omega) (ev_neg h2 (ev_neg h3 (ev_neg h4 ?_))))))), fun h => ⟨(e3 h).1, fun j hj hj2 => ?_⟩, fun g1 g2 => e4 (fun j hj => g1 j (by omega)) (fun j hj => g2 j (by omega))⟩
        · rw [w64_id _ (by omega) (by omega), w64_id _ (by omega) (by omega)]
          exact e1
        · by_cases hji : j = i
          · subst hji; exact .inr ⟨by omega, by omega⟩
          · exact (e3 h).2 j (by omega) hj2
    obtain ⟨r, e1, e3, e4⟩ := key s.size 0 (by omega)
    have e1 : Ev (fun k => lex_check.l0 k s s.size 0 1 1) r := e1
    exact ⟨r, Ev.congr (fun k => by rw [lex_check.f]) (ev_neg (by omega) e1), fun h => ⟨(e3 h).1, hs, fun j hj => (e3 h).2 j (by omega) hj⟩, fun _ g1 g2 => e4 (fun j _ => g1 j) (fun j _ => g2 j)⟩
  · exact ⟨(0, 0, 3), Ev.congr (fun k => by rw [lex_check.f]) (ev_pos (by omega) (ev_now _)), fun h => absurd h (by simp), fun h => absurd h hs⟩
theorem check_ok (s : ByteArray) (hs : s.size ≤ 65536) (hg : ∀ j, j < s.size → good s j) (hl : ∀ j, j < s.size → (pl s j).1 ≤ 4096) : Ev (fun k => lex_check.f k s) (0, 0, 0) := by
  obtain ⟨r, h1, h2, h3⟩ := check_val s
  rw [← (h2 (h3 hs hg hl)).1]
  exact h1
theorem check_big (s : ByteArray) (hs : 65536 < s.size) : Ev (fun k => lex_check.f k s) (0, 0, 3) :=
  Ev.congr (fun k => by rw [lex_check.f]) (ev_pos (by omega) (ev_now _))
/-- What lex.Lines answers at a text that may stand. -/
theorem lines_ok (s : ByteArray) (hs : s.size ≤ 65536) (hc : Ev (fun k => lex_check.f k s) (0, 0, 0)) : ∃ A : List Ln, A.length ≤ 65537 ∧ A.map Ln.spec = linesL s.data.toList ∧ Lns s 0 0 A ∧ Ev (fun k => lex_Lines.f k s) (A.map Ln.a, 0, 0, 0) := by
  have hcl := Lib.countB_le ⟨#[10]⟩ (by decide) s.size s (Nat.le_refl _)
  have hlen := Lib.splitB_all ⟨#[10]⟩ (by decide) 0 _ s rfl
  obtain ⟨A, a1, a2, a3, H⟩ := llines s hs s.size 0 0 (by omega) (by omega) rfl (Lib.splitB ⟨#[10]⟩ 0 (Lib.countB s ⟨#[10]⟩) s) (by omega) (by rw [ext_all]; rfl)
  have H1 := H [] (by simp)
  have hsp : strings_Split.f s (⟨#[10]⟩ : ByteArray) = some (Lib.splitB ⟨#[10]⟩ 0 (Lib.countB s ⟨#[10]⟩) s) := by
    unfold strings_Split.f
    rw [if_pos ⟨by omega, by decide⟩]
  exact ⟨A, by omega, a2, a3, Ev.congr (fun k => by rw [lex_Lines.f]) (Ev.bind hc (ev_pos rfl (ev_is _ hsp H1)))⟩
theorem lines_bad (s : ByteArray) (r : Int × Int × Int) (hc : Ev (fun k => lex_check.f k s) r) (h : ¬ r.2.2 = 0) : Ev (fun k => lex_Lines.f k s) ([], r) :=
  Ev.congr (fun k => by rw [lex_Lines.f]) (Ev.bind hc (ev_neg h (ev_now _)))
end Go.Proofs.YtbnihnggljagnaaDoor.QLexNames
