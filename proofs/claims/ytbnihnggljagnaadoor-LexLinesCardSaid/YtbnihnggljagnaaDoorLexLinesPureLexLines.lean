/- The plain law of LexLines. Conditions: none. -/
import Derived.Test.YtbnihnggljagnaaDoorQLexLinesx1
import Derived.Test.YtbnihnggljagnaaDoorQLexLinesx2
import Derived.Test.YtbnihnggljagnaaDoorQLexLinesx3
import Derived.Test.YtbnihnggljagnaaDoorQLexLinesx4
import Derived.Test.YtbnihnggljagnaaDoorQLexLinesx5
import Derived.Test.YtbnihnggljagnaaDoorQLexLinesx6
import Derived.Test.YtbnihnggljagnaaDoorLexMath
import Derived.Lib.TrimByte
import Derived.Lib.SplitLaws
import Derived.Lib.CountLaws
import Derived.Lib.IndexLaws
namespace Go.Proofs.YtbnihnggljagnaaDoor.QLexLines
open Go.RowKit Go.Proofs.YtbnihnggljagnaaDoorW.PrintWords Go.Proofs.YtbnihnggljagnaaDoor.Tools Go.Proofs.YtbnihnggljagnaaDoor.LexMath
set_option linter.unusedVariables false
theorem mk_eq (l : List UInt8) (y : ByteArray) (h : y.data.toList = l) : (⟨l.toArray⟩ : ByteArray) = y := by
  cases y with
  | mk d =>
    subst h
    simp
theorem bt_some {x : ByteArray} {j : Nat} {c : UInt8} (h : x.data.toList[j]? = some c) : j < x.size ∧ bt x j = c.toNat := by
  have hj : j < x.size := by
    have := (List.getElem?_eq_some_iff.1 h).1
    rw [size_list] at this
    exact this
  refine ⟨hj, ?_⟩
  rw [bt_list x j hj] at h
  exact (byte_eq (bt x j) (bt_nn x j) c).1 (Option.some.inj h)
theorem some_bt {x : ByteArray} {j : Nat} {c : UInt8} (hj : j < x.size) (h : bt x j = c.toNat) : x.data.toList[j]? = some c := by
  rw [bt_list x j hj, (byte_eq (bt x j) (bt_nn x j) c).2 h]
theorem idx_val (x : ByteArray) (c : UInt8) (m : Nat) (hm : m ≤ x.size) (h1 : ∀ j : Nat, j < m → ¬ bt x j = c.toNat) (h2 : m < x.size → bt x m = c.toNat) : Lib.index x.data.toList [c] = if m < x.size then (m : Int) else -1 := by
  rw [Lib.index_one]
  have hge := Lib.indexByte_ge x.data.toList c
  by_cases hn : Lib.indexByte x.data.toList c = -1
  · have := Lib.indexByte_none hn m
    by_cases hl : m < x.size
    · exact absurd (some_bt hl (h2 hl)) this
    · rw [if_neg hl, hn]
  · obtain ⟨o, ho⟩ := Int.eq_ofNat_of_zero_le (show 0 ≤ Lib.indexByte x.data.toList c by omega)
    obtain ⟨o1, o2⟩ := Lib.indexByte_some ho
    obtain ⟨o3, o4⟩ := bt_some o1
    have hmo : ¬ o < m := fun h => h1 o h o4
    have hom : ¬ m < o := fun h => o2 m h (some_bt (by omega) (h2 (by omega)))
    rw [if_pos (by omega), ho]
    omega
theorem trim_val (x : ByteArray) (q : Nat) (hq : q ≤ x.size) (h1 : ∀ j : Nat, j < q → bt x j = 32) (h2 : q < x.size → ¬ bt x q = 32) : strings_TrimLeft.f x (⟨#[32]⟩ : ByteArray) = some (x.extract q x.size) := by
  have e : Lib.trimLeftB x.data.toList 32 = x.data.toList.drop q := by
    refine Lib.trimLeftB_drop _ _ q (by rw [size_list]; exact hq) (fun j b hj hb => ?_) (fun b hb => ?_)
    · obtain ⟨b1, b2⟩ := bt_some hb
      rw [h1 j hj] at b2
      have : b.toNat = 32 := by omega
      exact UInt8.toNat_inj.1 this
    · obtain ⟨b1, b2⟩ := bt_some hb
      intro hb32
      subst hb32
      exact h2 b1 b2
  unfold strings_TrimLeft.f
  show (if (32 : UInt8).toNat < 128 then some (⟨(Lib.trimLeftB x.data.toList 32).toArray⟩ : ByteArray) else none) = _
  rw [if_pos (by decide), e, mk_eq _ (x.extract q x.size) (list_ext x q)]
theorem list_take (x : ByteArray) (m : Nat) : (x.extract 0 m).data.toList = x.data.toList.take m := by
  simp [ByteArray.data_extract]
theorem cut_val (x : ByteArray) (m : Nat) (hs : x.size ≤ 65536) (hm : m ≤ x.size) (h1 : ∀ j : Nat, j < m → ¬ bt x j = 32) (h2 : m < x.size → bt x m = 32) :
    strings_Cut.f x (⟨#[32]⟩ : ByteArray) = some (x.extract 0 m, (if m < x.size then x.extract (m + 1) x.size else ⟨#[]⟩), decide (m < x.size)) := by
  have e := idx_val x 32 m hm h1 h2
  unfold strings_Cut.f
  rw [if_pos (by omega)]
  show some ((⟨(Lib.cut x.data.toList [32]).1.toArray⟩ : ByteArray), (⟨(Lib.cut x.data.toList [32]).2.1.toArray⟩ : ByteArray), (Lib.cut x.data.toList [32]).2.2) = _
  unfold Lib.cut
  rw [e]
  by_cases hl : m < x.size
  · rw [if_pos hl, if_pos hl, if_pos (by omega), Int.toNat_natCast, mk_eq _ (x.extract 0 m) (list_take x m)]
    show some (x.extract 0 m, (⟨(x.data.toList.drop (m + 1)).toArray⟩ : ByteArray), true) = _
    rw [mk_eq _ (x.extract (m + 1) x.size) (list_ext x (m + 1)), decide_eq_true hl]
  · rw [if_neg hl, if_neg hl, if_neg (by decide), decide_eq_false hl]
    have : m = x.size := by omega
    subst this
    show some ((⟨x.data.toList.toArray⟩ : ByteArray), (⟨#[]⟩ : ByteArray), false) = _
    rw [mk_eq _ (x.extract 0 x.size) (by rw [ext_all])]
theorem scan_ex (P : Nat → Prop) (n : Nat) : ∀ d p : Nat, p + d = n → ∃ m, p ≤ m ∧ m ≤ n ∧ (∀ j, p ≤ j → j < m → ¬ P j) ∧ (m = n ∨ P m) := by
  intro d
  induction d with
  | zero => intro p hp; exact ⟨p, by omega, by omega, by omega, .inl (by omega)⟩
  | succ d ih =>
    intro p hp
    by_cases h : P p
    · exact ⟨p, by omega, by omega, by omega, .inr h⟩
    · obtain ⟨m, h1, h2, h3, h4⟩ := ih (p + 1) (by omega)
      refine ⟨m, by omega, h2, fun j hj hj2 => ?_, h4⟩
      by_cases hji : j = p
      · subst hji; exact h
      · exact h3 j (by omega) hj2
/-- A word as both have it. -/
structure Wd where
  text : ByteArray
  line : Int
  col : Int
def Wd.a (t : Wd) : S37 := ⟨t.text, ⟨t.line, t.col⟩⟩
def Wd.b (t : Wd) : S131 := ⟨t.text, ⟨t.line, t.col⟩⟩
section
variable {row : ByteArray} {num : Int}
theorem rw_end {ind : Int} {ob : List S131} : Ev (fun k => waymarkref07_words.l0 k row num (-1) ((row.size + 1 : Nat) : Int) ind ob) (ind, ob) :=
  Ev.step (fun k => by rw [waymarkref07_words.l0]) (ev_neg (by omega) (ev_now _))
theorem rw_skip {ind : Int} {ob : List S131} {q : Nat} {r : Int × List S131} (hs : row.size ≤ 65536) (hq : q ≤ row.size) (h : ∀ d i : Nat, i + d = q → (∀ j : Nat, i ≤ j → j < q → bt row j = 32) → Ev (fun k => waymarkref07_words.l0 k row num (-1) (q : Int) ind ob) r) :
    ∀ d i : Nat, i + d = q → (∀ j : Nat, i ≤ j → j < q → bt row j = 32) → Ev (fun k => waymarkref07_words.l0 k row num (-1) (i : Int) ind ob) r := by
  intro d
  induction d with
  | zero =>
    intro i hi hb
    obtain rfl : i = q := by omega
    exact h 0 i hi hb
  | succ d ih =>
    intro i hi hb
    have e := ih (i + 1) (by omega) (fun j h1 h2 => hb j (by omega) h2)
    refine Ev.step (fun k => by rw [waymarkref07_words.l0]) ?_
    refine ev_pos (by omega) (ev_pos (by omega) (ev_pos (by omega) ?_))
    rw [show (bt row i != 32) = false by rw [hb i (by omega) (by omega)]; rfl]
    refine Ev.step (fun k => by rw [waymarkref07_words.j1]) ?_
    refine ev_neg (by decide) (ev_neg (by decide) ?_)
    rw [w64_id _ (by omega) (by omega)]
    exact e
theorem rw_in {ind : Int} {ob : List S131} {p m : Nat} {r : Int × List S131} (hs : row.size ≤ 65536) (hm : m ≤ row.size) (h : Ev (fun k => waymarkref07_words.l0 k row num (p : Int) (m : Int) ind ob) r) :
    ∀ d i : Nat, p ≤ i → i + d = m → (∀ j : Nat, i ≤ j → j < m → ¬ bt row j = 32) → Ev (fun k => waymarkref07_words.l0 k row num (p : Int) (i : Int) ind ob) r := by
  intro d
  induction d with
  | zero =>
    intro i hp hi hb
    obtain rfl : i = m := by omega
    exact h
  | succ d ih =>
    intro i hp hi hb
    have e := ih (i + 1) (by omega) (by omega) (fun j h1 h2 => hb j (by omega) h2)
    refine Ev.step (fun k => by rw [waymarkref07_words.l0]) ?_
    refine ev_pos (by omega) (ev_pos (by omega) (ev_pos (by omega) ?_))
    rw [show (bt row i != 32) = true by exact bne_iff_ne.2 (hb i (by omega) (by omega))]
    refine Ev.step (fun k => by rw [waymarkref07_words.j1]) ?_
    refine ev_pos rfl (ev_neg (by omega) ?_)
    rw [w64_id _ (by omega) (by omega)]
    exact e
theorem rw_put {ind : Int} {ob : List S131} {p m : Nat} {r : Int × List S131} (hs : row.size ≤ 65536) (hpm : p ≤ m) (hm : m ≤ row.size) (hb : m < row.size → bt row m = 32) (ho : ob.length ≤ p)
    (h : Ev (fun k => waymarkref07_words.l0 k row num (-1) ((m + 1 : Nat) : Int) (if ob = [] then (p : Int) else ind) (ob ++ [Wd.b ⟨row.extract p m, num, p + 1⟩])) r) : Ev (fun k => waymarkref07_words.l0 k row num (p : Int) (m : Int) ind ob) r := by
  have e : Ev (fun k => waymarkref07_words.j1 k row num (p : Int) (m : Int) false ind ob) r := by
    refine Ev.step (fun k => by rw [waymarkref07_words.j1]) ?_
    refine ev_neg (by decide) (ev_pos (by omega) ?_)
    rw [w64_id _ (by omega) (by omega), w64_id _ (by omega) (by omega), Int.toNat_natCast, Int.toNat_natCast]
    by_cases h0 : ob = []
    · rw [if_pos h0] at h
      exact ev_pos (by rw [h0]; rfl) (ev_pos (by omega) (ev_pos (by omega) (ev_pos (by omega) (ev_pos (by omega) h))))
    · rw [if_neg h0] at h
      refine ev_neg (fun h1 => h0 (List.length_eq_zero_iff.1 (by omega))) (ev_pos (by omega) (ev_pos (by omega) (ev_pos (by omega) (ev_pos (by omega) h))))
  refine Ev.step (fun k => by rw [waymarkref07_words.l0]) ?_
  refine ev_pos (by omega) ?_
  by_cases hl : m < row.size
  · refine ev_pos (by omega) (ev_pos (by omega) ?_)
    rw [show (bt row m != 32) = false by rw [hb hl]; rfl]
    exact e
  · exact ev_neg (by omega) e
theorem rw_start {ind : Int} {ob : List S131} {p : Nat} {r : Int × List S131} (hs : row.size ≤ 65536) (hp : p < row.size) (hb : ¬ bt row p = 32)
    (h : Ev (fun k => waymarkref07_words.l0 k row num (p : Int) ((p + 1 : Nat) : Int) ind ob) r) : Ev (fun k => waymarkref07_words.l0 k row num (-1) (p : Int) ind ob) r := by
  refine Ev.step (fun k => by rw [waymarkref07_words.l0]) ?_
  refine ev_pos (by omega) (ev_pos (by omega) (ev_pos (by omega) ?_))
  rw [show (bt row p != 32) = true by exact bne_iff_ne.2 hb]
  refine Ev.step (fun k => by rw [waymarkref07_words.j1]) ?_
  refine ev_pos rfl (ev_pos (by decide) ?_)
  rw [w64_id _ (by omega) (by omega)]
  exact h
end
theorem ext_sub (x : ByteArray) (p a b : Nat) (h : p + b ≤ x.size) : (x.extract p x.size).extract a b = x.extract (p + a) (p + b) := ext_ext x p a b h
theorem lw_step {x7 : List S35} {n : Int} {row : ByteArray} {R : List ByteArray} {ln idx ind : Int} {oa : List S37} {p m q : Nat} {r : List S35 × Int × Int × Int} (hs : row.size ≤ 65536) (hn : 0 ≤ n ∧ n ≤ 65536) (hpm : p < m) (hm : m ≤ row.size) (hq : q ≤ row.size) (hmq : m < row.size → m + 1 ≤ q) (hmq2 : m = row.size → q = row.size) (hw : ∀ j : Nat, p ≤ j → j < m → ¬ bt row j = 32) (hb : m < row.size → bt row m = 32) (hk : ∀ j : Nat, m ≤ j → j < q → bt row j = 32) (hq2 : q < row.size → ¬ bt row q = 32) (ho : oa.length ≤ 65536)
    (h : Ev (fun k => lex_Lines.l1 k x7 n row (row.extract q row.size) R ln idx ind (oa ++ [Wd.a ⟨row.extract p m, n + 1, p + 1⟩])) r) :
    Ev (fun k => lex_Lines.l1 k x7 n row (row.extract p row.size) R ln idx ind oa) r := by
  have hsz : (row.extract p row.size).size = row.size - p := by rw [ByteArray.size_extract]; omega
  have hne : ¬ (row.extract p row.size).toList = ([] : List UInt8) := by
    rw [ByteArray.toList_eq]
    intro e
    have := congrArg List.length e
    rw [size_list, hsz] at this
    simp at this
    omega
  have hcut := cut_val (row.extract p row.size) (m - p) (by omega) (by omega) (fun j hj => by rw [bt_ext row p j row.size (by omega) (by omega)]; exact hw (p + j) (by omega) (by omega)) (fun hl => by rw [bt_ext row p (m - p) row.size (by omega) (by omega), show p + (m - p) = m by omega]; exact hb (by omega))
  rw [hsz, ext_sub row p 0 (m - p) (by omega), Nat.add_zero, show p + (m - p) = m by omega] at hcut
  refine Ev.step (fun k => by rw [lex_Lines.l1]) ?_
  refine ev_neg hne (ev_is _ hcut (ev_pos (by omega) ?_))
  have htr : strings_TrimLeft.f (if m - p < row.size - p then (row.extract p row.size).extract (m - p + 1) (row.size - p) else ⟨#[]⟩) (⟨#[32]⟩ : ByteArray) = some (row.extract q row.size) := by
    by_cases hl : m < row.size
    · rw [if_pos (by omega), ext_sub row p (m - p + 1) (row.size - p) (by omega), show p + (m - p + 1) = m + 1 by omega, show p + (row.size - p) = row.size by omega]
      have hsz2 : (row.extract (m + 1) row.size).size = row.size - (m + 1) := by rw [ByteArray.size_extract]; omega
      have t := trim_val (row.extract (m + 1) row.size) (q - (m + 1)) (by omega) (fun j hj => by rw [bt_ext row (m + 1) j row.size (by omega) (by omega)]; exact hk (m + 1 + j) (by omega) (by omega)) (fun h2 => by rw [bt_ext row (m + 1) _ row.size (by omega) (by omega), show m + 1 + (q - (m + 1)) = q by omega]; exact hq2 (by omega))
      rw [hsz2, ext_sub row (m + 1) _ _ (by omega), show m + 1 + (q - (m + 1)) = q by omega, show m + 1 + (row.size - (m + 1)) = row.size by omega] at t
      exact t
    · rw [if_neg (by omega)]
      have hqe : q = row.size := hmq2 (by omega)
      have t := trim_val (⟨#[]⟩ : ByteArray) 0 (by decide) (by omega) (fun h2 => absurd h2 (by decide))
      rw [hqe, ext_none]
      exact t
  refine ev_is _ htr ?_
  rw [w64_id _ (by omega) (by omega), hsz, w64_id (((row.size : Int) - ((row.size - p : Nat) : Int))) (by omega) (by omega), w64_id _ (by omega) (by omega), show ((row.size : Int) - ((row.size - p : Nat) : Int)) + 1 = (p : Int) + 1 by omega]
  exact h
theorem wrow {row : ByteArray} (hs : row.size ≤ 65536) (n : Int) (hn : 0 ≤ n ∧ n ≤ 65536) : ∀ d p : Nat, p + d = row.size → (p < row.size → ¬ bt row p = 32) → ∃ A : List Wd, A.length ≤ row.size - p ∧ (p = row.size → A = []) ∧ (p < row.size → ∃ t B, A = t :: B ∧ 0 < t.text.size ∧ bt t.text 0 = bt row p) ∧
    (∀ (x7 : List S35) (R : List ByteArray) (ln idx ind : Int) (oa : List S37) (r : List S35 × Int × Int × Int), oa.length ≤ p → Ev (fun k => lex_Lines.l1 k x7 n row ⟨#[]⟩ R ln idx ind (oa ++ A.map Wd.a)) r → Ev (fun k => lex_Lines.l1 k x7 n row (row.extract p row.size) R ln idx ind oa) r) ∧
    (∀ (ind : Int) (ob : List S131), ob.length ≤ p → Ev (fun k => waymarkref07_words.l0 k row (n + 1) (-1) (p : Int) ind ob) (if A = [] ∨ ob ≠ [] then ind else (p : Int), ob ++ A.map Wd.b)) := by
  intro d
  induction d using Nat.strongRecOn with
  | _ d IH =>
  intro p hp hb
  by_cases hl : p < row.size
  · obtain ⟨m, m1, m2, m3, m4⟩ := scan_ex (fun j => bt row j = 32) row.size (row.size - p) p (by omega)
    have hpm : p < m := by
      by_cases h : m = p
      · subst h
        rcases m4 with h | h
        · omega
        · exact absurd h (hb hl)
      · omega
    obtain ⟨q, q1, q2, q3, q4⟩ := scan_ex (fun j => ¬ bt row j = 32) row.size (row.size - m) m (by omega)
    have q3' : ∀ j : Nat, m ≤ j → j < q → bt row j = 32 := fun j h1 h2 => Decidable.not_not.1 (q3 j h1 h2)
    have q4' : q < row.size → ¬ bt row q = 32 := fun h => by rcases q4 with h2 | h2; omega; exact h2
    have m4' : m < row.size → bt row m = 32 := fun h => by rcases m4 with h2 | h2; omega; exact h2
    have hmq : m < row.size → m + 1 ≤ q := fun h => by
      by_cases hqm : q = m
      · subst hqm; exact absurd (m4' h) (q4' h)
      · omega
    obtain ⟨A, a1, a2, a3, a4, a5⟩ := IH (row.size - q) (by omega) q (by omega) q4'
    refine ⟨⟨row.extract p m, n + 1, p + 1⟩ :: A, by rw [List.length_cons]; omega, by omega, fun _ => ⟨_, A, rfl, ?_, ?_⟩, ?_, ?_⟩
    · show 0 < (row.extract p m).size
      rw [ByteArray.size_extract]; omega
    · exact bt_ext row p 0 m m2 (by omega)
    · intro x7 R ln idx ind oa r ho hr
      refine lw_step hs hn hpm m2 q2 hmq (by omega) m3 m4' q3' q4' (by omega) (a4 x7 R ln idx ind _ r (by rw [List.length_append]; simp; omega) ?_)
      rw [List.append_assoc]
      exact hr
    · intro ind ob ho
      obtain ⟨ind', hi'⟩ : ∃ v, v = if ob = [] then (p : Int) else ind := ⟨_, rfl⟩
      have e := a5 ind' (ob ++ [Wd.b ⟨row.extract p m, n + 1, p + 1⟩]) (by rw [List.length_append]; simp; omega)
      have hne : ob ++ [Wd.b ⟨row.extract p m, n + 1, p + 1⟩] ≠ [] := by simp
      rw [if_pos (.inr hne)] at e
      have e2 : Ev (fun k => waymarkref07_words.l0 k row (n + 1) (-1) ((m + 1 : Nat) : Int) ind' (ob ++ [Wd.b ⟨row.extract p m, n + 1, p + 1⟩])) (ind', (ob ++ [Wd.b ⟨row.extract p m, n + 1, p + 1⟩]) ++ A.map Wd.b) := by
        by_cases hml : m < row.size
        · exact rw_skip hs q2 (fun _ _ _ _ => e) (q - (m + 1)) (m + 1) (by have := hmq hml; omega) (fun j h1 h2 => q3' j (by omega) h2)
        · have hme : m = row.size := by omega
          have hqe : q = row.size := by omega
          rw [hme, a2 hqe, List.map_nil, List.append_nil]
          exact rw_end
      have e3 := rw_start hs hl (hb hl) (rw_in hs m2 (rw_put (p := p) (m := m) (ind := ind) hs m1 m2 m4' ho (by rw [← hi']; exact e2)) (m - (p + 1)) (p + 1) (by omega) (by omega) (fun j h1 h2 => m3 j (by omega) h2))
      refine ev_to e3 ?_
      rw [hi', List.append_assoc]
      by_cases h0 : ob = []
      · rw [if_pos h0, if_neg (by rintro (h | h); cases h; exact h h0)]
        rfl
      · rw [if_neg h0, if_pos (.inr h0)]
        rfl
  · have hpe : p = row.size := by omega
    subst hpe
    refine ⟨[], by simp, fun _ => rfl, by omega, ?_, ?_⟩
    · intro x7 R ln idx ind oa r ho hr
      rw [ext_none]
      rw [List.map_nil, List.append_nil] at hr
      exact hr
    · intro ind ob ho
      rw [if_pos (.inl rfl), List.map_nil, List.append_nil]
      refine Ev.step (fun k => by rw [waymarkref07_words.l0]) ?_
      refine ev_pos (by omega) (ev_neg (by omega) ?_)
      refine Ev.step (fun k => by rw [waymarkref07_words.j1]) ?_
      refine ev_neg (by decide) (ev_neg (by decide) ?_)
      rw [w64_id _ (by omega) (by omega)]
      exact rw_end
theorem split_at (s : ByteArray) (a j : Nat) (hs : s.size ≤ 65536) (ha : a ≤ j) (hj : j ≤ s.size) (hno : ∀ i : Nat, a ≤ i → i < j → ¬ bt s i = 10) (hb : j < s.size → bt s j = 10) :
    Lib.splitB ⟨#[10]⟩ 0 (Lib.countB (s.extract a s.size) ⟨#[10]⟩) (s.extract a s.size) = if j < s.size then s.extract a j :: Lib.splitB ⟨#[10]⟩ 0 (Lib.countB (s.extract (j + 1) s.size) ⟨#[10]⟩) (s.extract (j + 1) s.size) else [s.extract a j] := by
  have hsz : (s.extract a s.size).size = s.size - a := by rw [ByteArray.size_extract]; omega
  have hi : Lib.indexB (s.extract a s.size) ⟨#[10]⟩ = if j - a < (s.extract a s.size).size then ((j - a : Nat) : Int) else -1 :=
    idx_val (s.extract a s.size) 10 (j - a) (by omega) (fun i h => by rw [bt_ext s a i s.size (by omega) (by omega)]; exact hno (a + i) (by omega) (by omega)) (fun h => by rw [bt_ext s a (j - a) s.size (by omega) (by omega), show a + (j - a) = j by omega]; exact hb (by omega))
  by_cases hl : j < s.size
  · rw [if_pos (by omega)] at hi
    rw [if_pos hl, Lib.countB_hit _ _ _ (by decide) hi, Nat.add_comm, Lib.splitB_hit _ _ _ _ _ hi, hsz]
    show (s.extract a s.size).extract 0 (j - a + 0) :: _ = _
    have e1 : (s.extract a s.size).extract 0 (j - a + 0) = s.extract a j := by rw [ext_ext s a 0 _ (by omega)]; congr 1; omega
    have e2 : (s.extract a s.size).extract (j - a + (⟨#[10]⟩ : ByteArray).size) (s.size - a) = s.extract (j + 1) s.size := by
      show (s.extract a s.size).extract (j - a + 1) (s.size - a) = _
      rw [ext_ext s a _ _ (by omega)]; congr 1 <;> omega
    rw [e1, e2]
  · rw [if_neg (by omega)] at hi
    have : j = s.size := by omega
    subst this
    rw [if_neg hl, Lib.splitB_miss _ _ _ _ hi]
/-- A line as both have it. -/
structure Ln where
  indent : Int
  words : List Wd
def Ln.a (l : Ln) : S35 := ⟨l.indent, l.words.map Wd.a⟩
def Ln.b (l : Ln) : S129 := ⟨l.indent, l.words.map Wd.b⟩
theorem rlines {s : ByteArray} {ob : List S129} {a j : Nat} {num : Int} {r : List S129 × Int × Int × Int} (hs : s.size ≤ 65536) (hj : j ≤ s.size) (hno : ∀ i : Nat, a ≤ i → i < j → ¬ bt s i = 10) (h : Ev (fun k => waymarkref07_Lines.l0 k s ob a num j) r) :
    ∀ d i : Nat, a ≤ i → i + d = j → Ev (fun k => waymarkref07_Lines.l0 k s ob a num i) r := by
  intro d
  induction d with
  | zero =>
    intro i ha hi
    obtain rfl : i = j := by omega
    exact h
  | succ d ih =>
    intro i ha hi
    have e := ih (i + 1) (by omega) (by omega)
    refine Ev.step (fun k => by rw [waymarkref07_Lines.l0]) ?_
    refine ev_pos (by omega) (ev_pos (by omega) (ev_pos (by omega) ?_))
    rw [show (bt s i != 10) = true from bne_iff_ne.2 (hno i ha (by omega))]
    refine Ev.step (fun k => by rw [waymarkref07_Lines.j1]) ?_
    refine ev_pos rfl ?_
    rw [w64_id _ (by omega) (by omega)]
    exact e
theorem lines_from (s : ByteArray) (hs : s.size ≤ 65536) : ∀ d a n : Nat, a + d = s.size → n ≤ a → ∀ R : List ByteArray, R.length ≤ 65537 → R.drop n = Lib.splitB ⟨#[10]⟩ 0 (Lib.countB (s.extract a s.size) ⟨#[10]⟩) (s.extract a s.size) →
    ∃ A : List Ln, A.length ≤ s.size - a + 1 ∧ (∀ l ∈ A, l.words.length ≤ 65536) ∧ ∀ (oa : List S35) (ob : List S129), oa.length ≤ n → ob.length ≤ n →
      Ev (fun k => lex_Lines.l0 k oa R R.length n) (oa ++ A.map Ln.a, 0, 0, 0) ∧ Ev (fun k => waymarkref07_Lines.l0 k s ob a ((n : Int) + 1) a) (ob ++ A.map Ln.b, 0, 0, 0) := by
  intro d
  induction d using Nat.strongRecOn with
  | _ d IH =>
  intro a n hd hn R hR hdrop
  obtain ⟨j, j1, j2, j3, j4⟩ := scan_ex (fun i => bt s i = 10) s.size (s.size - a) a (by omega)
  have j4' : j < s.size → bt s j = 10 := fun h => by rcases j4 with h2 | h2; omega; exact h2
  rw [split_at s a j hs j1 j2 j3 j4'] at hdrop
  have hrow : (s.extract a j).size = j - a := by rw [ByteArray.size_extract]; omega
  have hn1 : n < R.length ∧ R[n]? = some (s.extract a j) := by
    have h0 : (R.drop n)[0]? = some (s.extract a j) := by rw [hdrop]; split <;> rfl
    rw [List.getElem?_drop, Nat.add_zero] at h0
    exact ⟨(List.getElem?_eq_some_iff.1 h0).1, h0⟩
  obtain ⟨hnl, hget⟩ := hn1
  have hrd : rdOf ByteArray.empty R (n : Int) = s.extract a j := by
    unfold rdOf
    rw [Int.toNat_natCast, List.getD, hget]
    rfl
  have htail : R.drop (n + 1) = (R.drop n).tail := by rw [List.tail_drop]
  have NX : ∃ A : List Ln, A.length ≤ s.size - j ∧ (∀ l ∈ A, l.words.length ≤ 65536) ∧ ∀ (oa : List S35) (ob : List S129), oa.length ≤ n + 1 → ob.length ≤ n + 1 →
      Ev (fun k => lex_Lines.l0 k oa R R.length ((n + 1 : Nat) : Int)) (oa ++ A.map Ln.a, 0, 0, 0) ∧ Ev (fun k => waymarkref07_Lines.l0 k s ob ((j + 1 : Nat) : Int) ((n : Int) + 1 + 1) ((j + 1 : Nat) : Int)) (ob ++ A.map Ln.b, 0, 0, 0) := by
    by_cases hl : j < s.size
    · rw [if_pos hl] at hdrop
      obtain ⟨A, a1, a2, a3⟩ := IH (s.size - (j + 1)) (by omega) (j + 1) (n + 1) (by omega) (by omega) R hR (by rw [htail, hdrop]; rfl)
      exact ⟨A, by omega, a2, a3⟩
    · rw [if_neg hl] at hdrop
      have hlen : R.length = n + 1 := by
        have := congrArg List.length hdrop
        rw [List.length_drop] at this
        simp at this
        omega
      refine ⟨[], by simp, by simp, fun oa ob _ _ => ⟨?_, ?_⟩⟩
      · rw [List.map_nil, List.append_nil]
        exact Ev.step (fun k => by rw [lex_Lines.l0]) (ev_neg (by omega) (ev_now _))
      · rw [List.map_nil, List.append_nil]
        exact Ev.step (fun k => by rw [waymarkref07_Lines.l0]) (ev_neg (by omega) (ev_now _))
  obtain ⟨A, a1, a2, a3⟩ := NX
  clear hdrop htail hget
  generalize hrw : s.extract a j = row at hrow hrd
  obtain ⟨q, q1, q2, q3, q4⟩ := scan_ex (fun i => ¬ bt row i = 32) (j - a) (j - a) 0 (by omega)
  have q3' : ∀ i : Nat, i < q → bt row i = 32 := fun i h => Decidable.not_not.1 (q3 i (by omega) h)
  have q4' : q < row.size → ¬ bt row q = 32 := fun h => by rcases q4 with h2 | h2; omega; exact h2
  have hqr : q ≤ row.size := by rw [hrow]; exact q2
  have q0 : row.size ≤ 65536 := by omega
  clear q1 q3 q4
  obtain ⟨W, w1, w2, w3, w4, w5⟩ := wrow (row := row) (by omega) (n : Int) ⟨by omega, by omega⟩ (row.size - q) q (by omega) q4'
  have w3' := Aside0.mk w3
  clear w3
  have hwords : Ev (fun k => waymarkref07_words.f k row ((n : Int) + 1)) ((if W = [] then (0 : Int) else (q : Int)), W.map Wd.b) := by
    have e := w5 0 [] (by simp)
    rw [List.nil_append] at e
    have e2 : Ev (fun k => waymarkref07_words.l0 k row ((n : Int) + 1) (-1) ((0 : Nat) : Int) 0 []) _ := rw_skip (by omega) (by omega) (fun _ _ _ _ => e) q 0 (by omega) (fun i _ h => q3' i h)
    refine Ev.congr (fun k => by rw [waymarkref07_words.f]) ?_
    refine ev_to e2 ?_
    by_cases hW : W = []
    · rw [if_pos hW, if_pos (.inl hW)]
    · rw [if_neg hW, if_neg (by rintro (h | h); exact hW h; exact h rfl)]
  have htrim := trim_val row q (by omega) q3' q4'
  -- the reference, at the line's end
  have refl : ∀ (ob : List S129) (r : List S129 × Int × Int × Int), Ev (fun k => (waymarkref07_words.f k row ((n : Int) + 1)).bind fun bt146 => (if (bt146.2.length : Int) > 0 then (if 0 < (bt146.2.length : Int) then (if 0 < (((rd_T131 bt146.2 0).f0).size : Int) then (if (bt ((rd_T131 bt146.2 0).f0) 0) = 33 then (waymarkref07_Lines.l0 k s ob ((j + 1 : Nat) : Int) ((n : Int) + 1 + 1) ((j + 1 : Nat) : Int)) else (if ob.length < 4398046511104 then (waymarkref07_Lines.l0 k s (ob ++ [(⟨bt146.1, bt146.2⟩ : S129)]) ((j + 1 : Nat) : Int) ((n : Int) + 1 + 1) ((j + 1 : Nat) : Int)) else (none))) else (none)) else (none)) else (waymarkref07_Lines.l0 k s ob ((j + 1 : Nat) : Int) ((n : Int) + 1 + 1) ((j + 1 : Nat) : Int)))) r →
      Ev (fun k => waymarkref07_Lines.l0 k s ob a ((n : Int) + 1) a) r := fun ob r h => by
    refine rlines hs j2 j3 ?_ (j - a) a (by omega) (by omega)
    have e : Ev (fun k => waymarkref07_Lines.j1 k s ob a ((n : Int) + 1) j false) r := by
      refine Ev.step (fun k => by rw [waymarkref07_Lines.j1]) ?_
      refine ev_neg (by decide) (ev_pos (by omega) (ev_pos (by omega) (ev_pos (by omega) ?_)))
      rw [w64_id _ (by omega) (by omega), w64_id _ (by omega) (by omega), Int.toNat_natCast, Int.toNat_natCast, hrw]
      exact h
    refine Ev.step (fun k => by rw [waymarkref07_Lines.l0]) ?_
    refine ev_pos (by omega) ?_
    by_cases hl : j < s.size
    · refine ev_pos (by omega) (ev_pos (by omega) ?_)
      rw [show (bt s j != 10) = false by rw [j4' hl]; rfl]
      exact e
    · exact ev_neg (by omega) e
  have hrest : ((row.extract q row.size).size) = j - a - q := by rw [ByteArray.size_extract, Nat.min_self, hrow]
  have hemp : (row.extract q row.size).toList = ([] : List UInt8) ↔ q = j - a := by
    rw [ByteArray.toList_eq, ← List.length_eq_zero_iff, size_list, hrest]
    omega
  have lskip : ∀ (oa : List S35) (r : List S35 × Int × Int × Int), Ev (fun k => lex_Lines.l0 k oa R R.length ((n + 1 : Nat) : Int)) r → Ev (fun k => lex_Lines.j1 k oa n row (row.extract q row.size) R R.length n true) r := fun oa r h => by
    refine Ev.step (fun k => by rw [lex_Lines.j1]) ?_
    refine ev_pos rfl ?_
    rw [w64_id _ (by omega) (by omega)]
    exact h
  by_cases hqe : q = j - a
  · have hW := w2 (by omega)
    refine ⟨A, by omega, a2, fun oa ob ha hb => ⟨?_, ?_⟩⟩
    · refine Ev.step (fun k => by rw [lex_Lines.l0]) ?_
      rw [hrd]
      exact ev_pos (by omega) (ev_pos (by omega) (ev_pos (by omega) (ev_is _ htrim (ev_pos (hemp.2 hqe) (lskip oa _ (a3 oa ob (by omega) (by omega)).1)))))
    · refine refl ob _ (Ev.bind hwords ?_)
      rw [hW]
      exact ev_neg (show ¬ ((([] : List Wd).map Wd.b).length : Int) > 0 by decide) (a3 oa ob (by omega) (by omega)).2
  obtain ⟨t, B, hW, ht1, ht2⟩ := w3'.out (by omega)
  have hbt0 : bt (row.extract q row.size) 0 = bt row q := bt_ext row q 0 _ (by omega) (by omega)
  by_cases h33 : bt row q = 33
  · refine ⟨A, by omega, a2, fun oa ob ha hb => ⟨?_, ?_⟩⟩
    · refine Ev.step (fun k => by rw [lex_Lines.l0]) ?_
      rw [hrd]
      refine ev_pos (by omega) (ev_pos (by omega) (ev_pos (by omega) (ev_is _ htrim (ev_neg (fun h => hqe (hemp.1 h)) (ev_pos (by omega) ?_)))))
      rw [show (bt (row.extract q row.size) 0 == 33) = true by rw [hbt0, h33]; rfl]
      exact lskip oa _ (a3 oa ob (by omega) (by omega)).1
    · refine refl ob _ (Ev.bind hwords ?_)
      rw [hW]
      exact ev_pos (by simp) (ev_pos (by simp) (ev_pos (show (0 : Int) < (t.text.size : Int) by omega) (ev_pos (show bt t.text 0 = 33 from ht2.trans h33) (a3 oa ob (by omega) (by omega)).2)))
  · refine ⟨⟨q, W⟩ :: A, by rw [List.length_cons]; omega, fun l hl => by rcases List.mem_cons.1 hl with h | h; (subst h; show W.length ≤ 65536; omega); exact a2 l h, fun oa ob ha hb => ⟨?_, ?_⟩⟩
    · refine Ev.step (fun k => by rw [lex_Lines.l0]) ?_
      rw [hrd]
      refine ev_pos (by omega) (ev_pos (by omega) (ev_pos (by omega) (ev_is _ htrim (ev_neg (fun h => hqe (hemp.1 h)) (ev_pos (by omega) ?_)))))
      rw [show (bt (row.extract q row.size) 0 == 33) = false by rw [hbt0]; simpa using h33]
      refine Ev.step (fun k => by rw [lex_Lines.j1]) ?_
      refine ev_neg (by decide) ?_
      rw [hrest, hrow, w64_id _ (by omega) (by omega), show ((j - a : Nat) : Int) - ((j - a - q : Nat) : Int) = (q : Int) by omega, ← hrow]
      refine w4 oa R R.length n q [] _ (by simp) ?_
      rw [List.nil_append]
      refine Ev.step (fun k => by rw [lex_Lines.l1]) ?_
      refine ev_pos (by rw [ByteArray.toList_eq]) (ev_pos (by omega) ?_)
      rw [w64_id _ (by omega) (by omega)]
      have e := (a3 (oa ++ [Ln.a ⟨q, W⟩]) (ob ++ [Ln.b ⟨q, W⟩]) (by rw [List.length_append]; simp; omega) (by rw [List.length_append]; simp; omega)).1
      rw [List.append_assoc] at e
      exact e
    · refine refl ob _ (Ev.bind hwords ?_)
      have e := (a3 (oa ++ [Ln.a ⟨q, W⟩]) (ob ++ [Ln.b ⟨q, W⟩]) (by rw [List.length_append]; simp; omega) (by rw [List.length_append]; simp; omega)).2
      rw [List.append_assoc] at e
      have hWne : ¬ W = [] := by rw [hW]; simp
      rw [if_neg hWne]
      have hr0 : rd_T131 (W.map Wd.b) 0 = t.b := by rw [hW]; rfl
      have hlen0 : 0 < (W.map Wd.b).length := by rw [hW]; simp
      refine ev_pos (show ((W.map Wd.b).length : Int) > 0 by omega) (ev_pos (show (0 : Int) < ((W.map Wd.b).length : Int) by omega) (ev_pos ?_ (ev_neg ?_ (ev_pos (by omega) e))))
      · show (0 : Int) < ((rd_T131 (W.map Wd.b) 0).f0.size : Int)
        rw [hr0]
        show (0 : Int) < (t.text.size : Int)
        omega
      · show ¬ bt ((rd_T131 (W.map Wd.b) 0).f0) 0 = 33
        rw [hr0]
        exact fun h => h33 (ht2.symm.trans h)
theorem rat_val (s : ByteArray) (i : Nat) (h : i ≤ s.size) (hs : s.size ≤ 65536) : Ev (fun k => waymarkref07_at.f k s i) (pl s i) := by
  have key : ∀ d j : Nat, j + d = i → Ev (fun k => waymarkref07_at.l0 k s i j (pl s j).1 (pl s j).2) (pl s i) := by
    intro d
    induction d with
    | zero =>
      intro j hj
      obtain rfl : j = i := by omega
      refine Ev.step (fun k => by rw [waymarkref07_at.l0]) (ev_neg (by omega) (ev_now _))
    | succ d ih =>
      intro j hj
      have hb := pl_bounds s j
      refine Ev.step (fun k => by rw [waymarkref07_at.l0]) (ev_pos (by omega) (ev_pos (by omega) (ev_pos (by omega) ?_)))
      rw [w64_id _ (by omega) (by omega), w64_id _ (by omega) (by omega), w64_id _ (by omega) (by omega)]
      have := ih (j + 1) (by omega)
      by_cases hc : bt s j = 10
      · rw [pl_line hc] at this
        exact ev_pos hc this
      · rw [pl_same hc] at this
        exact ev_neg hc this
  exact key i 0 (by omega)
theorem check_vals (s : ByteArray) : ∃ r : Int × Int × Int, Ev (fun k => lex_check.f k s) r ∧ Ev (fun k => waymarkref07_Check.f k s) r ∧ (r.2.2 = 0 → r = (0, 0, 0) ∧ s.size ≤ 65536 ∧ ∀ j, j < s.size → good s j) := by
  by_cases hs : s.size ≤ 65536
  · have key : ∀ d i : Nat, i + d = s.size → ∃ r : Int × Int × Int, Ev (fun k => lex_check.l0 k s s.size i (pl s i).1 (pl s i).2) r ∧ Ev (fun k => waymarkref07_Check.l0 k s (pl s i).1 i) r ∧ (r.2.2 = 0 → r = (0, 0, 0) ∧ ∀ j, i ≤ j → j < s.size → good s j) := by
      intro d
      induction d with
      | zero =>
        intro i hi
        refine ⟨(0, 0, 0), Ev.step (fun k => by rw [lex_check.l0]) (ev_neg (by omega) (ev_now _)), Ev.step (fun k => by rw [waymarkref07_Check.l0]) (ev_neg (by omega) (ev_now _)), fun _ => ⟨rfl, by omega⟩⟩
      | succ d ih =>
        intro i hi
        have hb := pl_bounds s i
        have hat := rat_val s i (by omega) hs
        by_cases h1 : (pl s i).1 > 4096
        · exact ⟨((pl s i).1, (pl s i).2, 3), Ev.step (fun k => by rw [lex_check.l0]) (ev_pos (by omega) (ev_pos h1 (ev_now _))), Ev.step (fun k => by rw [waymarkref07_Check.l0]) (ev_pos (by omega) (ev_pos h1 (ev_bind _ hat (ev_now _)))), fun h => absurd h (by simp)⟩
        obtain ⟨r, e1, e2, e3⟩ := ih (i + 1) (by omega)
        by_cases h2 : bt s i = 10
        · rw [pl_line h2] at e1 e2
          refine ⟨r, Ev.step (fun k => by rw [lex_check.l0]) (ev_pos (by omega) (ev_neg h1 (ev_pos (by omega) (ev_pos (by omega) (ev_pos h2 ?_))))), Ev.step (fun k => by rw [waymarkref07_Check.l0]) (ev_pos (by omega) (ev_neg h1 (ev_pos (by omega) (ev_pos h2 ?_)))), fun h => ⟨(e3 h).1, fun j hj hj2 => ?_⟩⟩
          · rw [w64_id _ (by omega) (by omega), w64_id _ (by omega) (by omega)]
            exact e1
          · rw [w64_id _ (by omega) (by omega), w64_id _ (by omega) (by omega)]
            exact e2
          · by_cases hji : j = i
            · subst hji; exact .inl h2
            · exact (e3 h).2 j (by omega) hj2
        by_cases h3 : bt s i < 32
        · exact ⟨((pl s i).1, (pl s i).2, 70), Ev.step (fun k => by rw [lex_check.l0]) (ev_pos (by omega) (ev_neg h1 (ev_pos (by omega) (ev_pos (by omega) (ev_neg h2 (ev_pos h3 (ev_now _))))))), Ev.step (fun k => by rw [waymarkref07_Check.l0]) (ev_pos (by omega) (ev_neg h1 (ev_pos (by omega) (ev_neg h2 (ev_pos h3 (ev_bind _ hat (ev_now _))))))), fun h => absurd h (by simp)⟩
        by_cases h4 : bt s i > 126
        · exact ⟨((pl s i).1, (pl s i).2, 70), Ev.step (fun k => by rw [lex_check.l0]) (ev_pos (by omega) (ev_neg h1 (ev_pos (by omega) (ev_pos (by omega) (ev_neg h2 (ev_neg h3 (ev_pos h4 (ev_now _)))))))), Ev.step (fun k => by rw [waymarkref07_Check.l0]) (ev_pos (by omega) (ev_neg h1 (ev_pos (by omega) (ev_neg h2 (ev_neg h3 (ev_pos h4 (ev_bind _ hat (ev_now _)))))))), fun h => absurd h (by simp)⟩
        rw [pl_same h2] at e1 e2
        refine ⟨r, Ev.step (fun k => by rw [lex_check.l0]) (ev_pos (by omega) (ev_neg h1 (ev_pos (by omega) (ev_pos (by omega) (ev_neg h2 (ev_neg h3 (ev_neg h4 ?_))))))), Ev.step (fun k => by rw [waymarkref07_Check.l0]) (ev_pos (by omega) (ev_neg h1 (ev_pos (by omega) (ev_neg h2 (ev_neg h3 (ev_neg h4 ?_)))))), fun h => ⟨(e3 h).1, fun j hj hj2 => ?_⟩⟩
        · rw [w64_id _ (by omega) (by omega), w64_id _ (by omega) (by omega)]
          exact e1
        · rw [w64_id _ (by omega) (by omega)]
          exact e2
        · by_cases hji : j = i
          · subst hji; exact .inr ⟨by omega, by omega⟩
          · exact (e3 h).2 j (by omega) hj2
    obtain ⟨r, e1, e2, e3⟩ := key s.size 0 (by omega)
    have e1 : Ev (fun k => lex_check.l0 k s s.size 0 1 1) r := e1
    have e2 : Ev (fun k => waymarkref07_Check.l0 k s 1 0) r := e2
    exact ⟨r, Ev.congr (fun k => by rw [lex_check.f]) (ev_neg (by omega) e1), Ev.congr (fun k => by rw [waymarkref07_Check.f]) (ev_neg (by omega) e2), fun h => ⟨(e3 h).1, hs, fun j hj => (e3 h).2 j (by omega) hj⟩⟩
  · exact ⟨(0, 0, 3), Ev.congr (fun k => by rw [lex_check.f]) (ev_pos (by omega) (ev_now _)), Ev.congr (fun k => by rw [waymarkref07_Check.f]) (ev_pos (by omega) (ev_now _)), fun h => absurd h (by simp)⟩
theorem samePos_val (a b : Int) : waymarklaw07_samePos.f a b a b = some true := by
  unfold waymarklaw07_samePos.f
  rw [if_pos rfl, beq_self_eq_true]
theorem both (s : ByteArray) : ∃ (A : List Ln) (p : Int × Int × Int), A.length ≤ 65537 ∧ (∀ l ∈ A, l.words.length ≤ 65536) ∧ Ev (fun k => lex_Lines.f k s) (A.map Ln.a, p) ∧ Ev (fun k => waymarkref07_Lines.f k s) (A.map Ln.b, p) := by
  obtain ⟨r, c1, c2, c3⟩ := check_vals s
  by_cases h0 : r.2.2 = 0
  · obtain ⟨hr, hs, hg⟩ := c3 h0
    have hcl := Lib.countB_le ⟨#[10]⟩ (by decide) s.size s (Nat.le_refl _)
    have hlen := Lib.splitB_all ⟨#[10]⟩ (by decide) 0 _ s rfl
    obtain ⟨A, a1, a2, H⟩ := lines_from s hs s.size 0 0 (by omega) (by omega) (Lib.splitB ⟨#[10]⟩ 0 (Lib.countB s ⟨#[10]⟩) s) (by omega) (by rw [ext_all]; rfl)
    obtain ⟨H1, H2⟩ := H [] [] (by simp) (by simp)
    have hsp : strings_Split.f s (⟨#[10]⟩ : ByteArray) = some (Lib.splitB ⟨#[10]⟩ 0 (Lib.countB s ⟨#[10]⟩) s) := by
      unfold strings_Split.f
      rw [if_pos ⟨by omega, by decide⟩]
    refine ⟨A, (0, 0, 0), by omega, a2, ?_, ?_⟩
    · exact Ev.congr (fun k => by rw [lex_Lines.f]) (Ev.bind c1 (ev_pos h0 (ev_is _ hsp H1)))
    · exact Ev.congr (fun k => by rw [waymarkref07_Lines.f]) (Ev.bind c2 (ev_pos h0 H2))
  · refine ⟨[], r, by simp, by simp, ?_, ?_⟩
    · exact Ev.congr (fun k => by rw [lex_Lines.f]) (Ev.bind c1 (ev_neg h0 (ev_now _)))
    · exact Ev.congr (fun k => by rw [waymarkref07_Lines.f]) (Ev.bind c2 (ev_neg h0 (ev_now _)))
theorem rdLa (A : List Ln) (i : Nat) (h : i < A.length) : rd_T35 (A.map Ln.a) i = (A[i]'h).a := by
  unfold rd_T35
  simp [List.getD, h]
theorem rdLb (A : List Ln) (i : Nat) (h : i < A.length) : rd_T129 (A.map Ln.b) i = (A[i]'h).b := by
  unfold rd_T129
  simp [List.getD, h]
theorem rdWa (A : List Wd) (i : Nat) (h : i < A.length) : rd_T37 (A.map Wd.a) i = (A[i]'h).a := by
  unfold rd_T37
  simp [List.getD, h]
theorem rdWb (A : List Wd) (i : Nat) (h : i < A.length) : rd_T131 (A.map Wd.b) i = (A[i]'h).b := by
  unfold rd_T131
  simp [List.getD, h]
theorem same_val (A : List Ln) (hA : A.length ≤ 65537) (hW : ∀ l ∈ A, l.words.length ≤ 65536) : Ev (fun k => waymarklaw07_sameLines.f k (A.map Ln.a) (A.map Ln.b)) true := by
  have key : ∀ d i : Nat, i + d = A.length → Ev (fun k => waymarklaw07_sameLines.l0 k (A.map Ln.a) (A.map Ln.b) i) true := by
    intro d
    induction d with
    | zero =>
      intro i hi
      refine Ev.step (fun k => by rw [waymarklaw07_sameLines.l0]) ?_
      exact ev_neg (by rw [List.length_map]; omega) (ev_now _)
    | succ d ih =>
      intro i hi
      have hil : i < A.length := by omega
      have hw := hW _ (List.getElem_mem hil)
      have ra := rdLa A i hil
      have rb := rdLb A i hil
      have inner : ∀ d2 j : Nat, j + d2 = (A[i]'hil).words.length → Ev (fun k => waymarklaw07_sameLines.l1 k (A.map Ln.a) (A.map Ln.b) i j) true := by
        intro d2
        induction d2 with
        | zero =>
          intro j hj
          refine Ev.step (fun k => by rw [waymarklaw07_sameLines.l1]) ?_
          refine ev_pos (by omega) (ev_pos (by rw [List.length_map]; omega) (ev_neg ?_ ?_))
          · rw [ra]
            show ¬ (j : Int) < (((A[i]'hil).words.map Wd.a).length : Int)
            rw [List.length_map]; omega
          · rw [w64_id _ (by omega) (by omega)]
            exact ih (i + 1) (by omega)
        | succ d2 ih2 =>
          intro j hj
          have hjl : j < (A[i]'hil).words.length := by omega
          refine Ev.step (fun k => by rw [waymarklaw07_sameLines.l1]) ?_
          rw [ra, rb]
          refine ev_pos (by omega) (ev_pos (by rw [List.length_map]; omega) (ev_pos ?_ (ev_pos (by omega) (ev_pos (by rw [List.length_map]; omega) (ev_pos ?_ ?_)))))
          · show (j : Int) < (((A[i]'hil).words.map Wd.a).length : Int)
            rw [List.length_map]; omega
          · show (j : Int) < (((A[i]'hil).words.map Wd.b).length : Int)
            rw [List.length_map]; omega
          · have wa : rd_T37 (A[i]'hil).a.f1 j = _ := rdWa _ j hjl
            have wb : rd_T131 (A[i]'hil).b.f1 j = _ := rdWb _ j hjl
            rw [wa, wb]
            refine ev_pos rfl (ev_is _ (samePos_val _ _) (ev_pos rfl ?_))
            rw [w64_id _ (by omega) (by omega)]
            exact ih2 (j + 1) (by omega)
      refine Ev.step (fun k => by rw [waymarklaw07_sameLines.l0]) ?_
      rw [ra, rb]
      refine ev_pos (by rw [List.length_map]; omega) (ev_pos (by omega) (ev_pos (by rw [List.length_map]; omega) (ev_pos rfl ?_)))
      rw [show ((((A[i]'hil).a.f1).length : Int) != (((A[i]'hil).b.f1).length : Int)) = false by
        show ((((A[i]'hil).words.map Wd.a).length : Int) != (((A[i]'hil).words.map Wd.b).length : Int)) = false
        rw [List.length_map, List.length_map, bne_self_eq_false]]
      refine Ev.step (fun k => by rw [waymarklaw07_sameLines.j1]) ?_
      exact ev_neg (by decide) (inner _ 0 (Nat.zero_add _))
  refine Ev.congr (fun k => by rw [waymarklaw07_sameLines.f]) ?_
  exact ev_pos (by rw [List.length_map, List.length_map]) (key A.length 0 (by omega))
theorem rd_mem (X : List S35) (i : Nat) (h : i < X.length) : rd_T35 X i ∈ X := by
  unfold rd_T35
  rw [Int.toNat_natCast, List.getD, List.getElem?_eq_getElem h]
  exact List.getElem_mem h
theorem rd_set (X : List S35) (i : Nat) (h : i < X.length) (v : S35) : rd_T35 (X.set i v) i = v := by
  unfold rd_T35
  rw [Int.toNat_natCast, List.getD, List.getElem?_set_self h]
  rfl
theorem lexLines_pure (s : ByteArray) : ∃ k, waymarklaw07_LexLines.f k s = some true := by
  apply Ev.rounds
  obtain ⟨A, p, hA, hW, F1, F2⟩ := both s
  have key : ∀ d i (X : List S35), X.length ≤ 65537 → (∀ l ∈ X, l.f1.length ≤ 65536) → i + d = X.length → Ev (fun k => waymarklaw07_LexLines.l0 k s X (A.map Ln.b) (i : Nat)) true := by
    intro d
    induction d with
    | zero =>
      intro i X hX hM hi
      refine Ev.step (fun k => by rw [waymarklaw07_LexLines.l0]) ?_
      exact ev_neg (by omega) (Ev.bind F1 (Ev.bind (same_val A hA hW) (ev_now _)))
    | succ d ih =>
      intro i X hX hM hi
      have inner : ∀ d2 j (X : List S35), X.length ≤ 65537 → (∀ l ∈ X, l.f1.length ≤ 65536) → i + (d + 1) = X.length → j + d2 = (rd_T35 X i).f1.length → Ev (fun k => waymarklaw07_LexLines.l1 k s X (A.map Ln.b) (i : Nat) (j : Nat)) true := by
        intro d2
        induction d2 with
        | zero =>
          intro j X hX hM hi hj
          refine Ev.step (fun k => by rw [waymarklaw07_LexLines.l1]) ?_
          refine ev_pos (by omega) (ev_pos (by omega) (ev_neg (by omega) ?_))
          rw [w64_id _ (by omega) (by omega)]
          exact ih (i + 1) X hX hM (by omega)
        | succ d2 ih2 =>
          intro j X hX hM hi hj
          have hil : i < X.length := by omega
          have hb := hM _ (rd_mem X i hil)
          refine Ev.step (fun k => by rw [waymarklaw07_LexLines.l1]) ?_
          refine ev_pos (by omega) (ev_pos (by omega) (ev_pos (by omega) (ev_pos (by omega) ?_)))
          rw [w64_id _ (by omega) (by omega), Int.toNat_natCast, Int.toNat_natCast]
          refine ih2 (j + 1) _ (by rw [List.length_set]; exact hX) (fun l hl => ?_) (by rw [List.length_set]; exact hi) ?_
          · rcases List.mem_or_eq_of_mem_set hl with h | h
            · exact hM l h
            · subst h
              show ((rd_T35 X i).f1.set j _).length ≤ 65536
              rw [List.length_set]; exact hb
          · rw [rd_set X i hil]
            show j + 1 + d2 = ((rd_T35 X i).f1.set j _).length
            rw [List.length_set]; omega
      refine Ev.step (fun k => by rw [waymarklaw07_LexLines.l0]) ?_
      exact ev_pos (by omega) (inner _ 0 X hX hM hi (Nat.zero_add _))
  refine Ev.congr (fun k => by rw [waymarklaw07_LexLines.f]) ?_
  refine Ev.bind F1 (Ev.bind F2 (Ev.bind (same_val A hA hW) ?_))
  refine ev_pos rfl (ev_is _ (samePos_val _ _) ?_)
  refine ev_pos rfl ?_
  refine Ev.step (fun k => by rw [waymarklaw07_LexLines.j0]) ?_
  refine ev_neg (by simp) ?_
  refine key (A.map Ln.a).length 0 (A.map Ln.a) (by rw [List.length_map]; exact hA) (fun l hl => ?_) (Nat.zero_add _)
  obtain ⟨x, hx, rfl⟩ := List.mem_map.1 hl
  show (x.words.map Wd.a).length ≤ 65536
  rw [List.length_map]
  exact hW x hx
end Go.Proofs.YtbnihnggljagnaaDoor.QLexLines
