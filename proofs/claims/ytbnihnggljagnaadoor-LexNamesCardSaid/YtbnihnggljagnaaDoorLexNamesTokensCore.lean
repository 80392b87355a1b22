/- What lex.Tokens answers, by its tokens and their places: for the laws that do not ask the document. Conditions: none. -/
import Derived.Test.YtbnihnggljagnaaDoorQLexNamesx4
import Derived.Test.YtbnihnggljagnaaDoorLexNamesLinesCore
namespace Go.Proofs.YtbnihnggljagnaaDoor.QLexNames
open Go.RowKit Go.Proofs.YtbnihnggljagnaaDoorW.PrintWords Go.Proofs.YtbnihnggljagnaaDoor.Tools Go.Proofs.YtbnihnggljagnaaDoor.LexMath Go.Proofs.YtbnihnggljagnaaDoor.LexSpec
set_option linter.unusedVariables false
theorem take_val (s : ByteArray) (i n : Nat) (h : i + n ≤ s.size) (hs : s.size ≤ 65536) : Ev (fun k => lex_reader_take.f k (s.extract i s.size) (pl s i).1 (pl s i).2 n) (s.extract i (i + n), s.extract (i + n) s.size, (pl s (i + n)).1, (pl s (i + n)).2) := by
  have hX : (s.extract i (i + n)).size = n := by rw [ByteArray.size_extract]; omega
  have hsz : (s.extract i s.size).size = s.size - i := by rw [ByteArray.size_extract]; omega
  have key : ∀ d j : Nat, j + d = n → Ev (fun k => lex_reader_take.l0 k (s.extract i (i + n)) n j (s.extract (i + n) s.size) (pl s (i + j)).1 (pl s (i + j)).2) (s.extract i (i + n), s.extract (i + n) s.size, (pl s (i + n)).1, (pl s (i + n)).2) := by
    intro d
    induction d with
    | zero =>
      intro j hj
      obtain rfl : j = n := by omega
      exact Ev.step (fun k => by rw [lex_reader_take.l0]) (ev_neg (by omega) (ev_now _))
    | succ d ih =>
      intro j hj
      have hb := pl_bounds s (i + j)
      have hbt := bt_ext s i j (i + n) h (by omega)
      have e := ih (j + 1) (by omega)
      refine Ev.step (fun k => by rw [lex_reader_take.l0]) (ev_pos (by omega) (ev_pos (by omega) (ev_pos (by rw [hX]; omega) ?_)))
      rw [w64_id _ (by omega) (by omega), w64_id _ (by omega) (by omega), w64_id _ (by omega) (by omega), hbt]
      by_cases hc : bt s (i + j : Nat) = 10
      · rw [← Nat.add_assoc, pl_line hc] at e
        exact ev_pos hc e
      · rw [← Nat.add_assoc, pl_same hc] at e
        exact ev_neg hc e
  have e := key n 0 (by omega)
  refine Ev.congr (fun k => by rw [lex_reader_take.f]) (ev_pos (by omega) (ev_pos (by rw [hsz]; omega) ?_))
  rw [Int.toNat_natCast, hsz, ext_ext s i 0 n h, show (s.extract i s.size).extract n (s.size - i) = s.extract (i + n) s.size by rw [ext_ext s i n (s.size - i) (by omega)]; congr 1; omega]
  exact e
theorem scan_spec (p : Nat → Bool) (n : Nat) : ∀ d i : Nat, i + d = n → ∃ m, scan p d i = m ∧ i ≤ m ∧ m ≤ n ∧ (∀ j, i ≤ j → j < m → p j = false) ∧ (m = n ∨ p m = true) := by
  intro d
  induction d with
  | zero => intro i hi; exact ⟨i, rfl, by omega, by omega, by omega, .inl (by omega)⟩
  | succ d ih =>
    intro i hi
    by_cases h : p i = true
    · exact ⟨i, by rw [scan, if_pos h], by omega, by omega, by omega, .inr h⟩
    · obtain ⟨m, e, h1, h2, h3, h4⟩ := ih (i + 1) (by omega)
      refine ⟨m, by rw [scan, if_neg h, e], by omega, h2, fun j hj hj2 => ?_, h4⟩
      by_cases hji : j = i
      · subst hji; simpa using h
      · exact h3 j (by omega) hj2
/-- Where a word ends. -/
def stop (s : ByteArray) (m : Nat) : Bool := decide (bt s m = 32 ∨ bt s m = 10 ∨ bt s m = 34 ∨ bt s m = 35 ∨ ¬ sgn (bt s m) = 0) || decide (m + 1 < s.size ∧ bt s m = 47 ∧ bt s ((m : Int) + 1) = 42)
theorem isEnd_val (s : ByteArray) (i k : Nat) (h : i + k < s.size) : isEnd (s.extract i s.size) k = stop s (i + k) := by
  have hsz : (s.extract i s.size).size = s.size - i := by rw [ByteArray.size_extract]; omega
  unfold isEnd stop
  rw [bt_ext s i k s.size (by omega) h, end_idx _ (bt_nn _ _), hsz, ext_ext s i k (s.size - i) (by omega), show i + (s.size - i) = s.size by omega, list_ext]
  unfold Lib.hasPrefix
  rw [pre2]
  rfl
theorem isLine_val (s : ByteArray) (i k : Nat) (h : i + k < s.size) : isLine (s.extract i s.size) k = (bt s (i + k : Nat) == 10) := by
  unfold isLine
  rw [bt_ext s i k s.size (by omega) h]
/-- A token as it is answered. -/
structure Tk where
  kind : Int
  text : ByteArray
  line : Int
  col : Int
def Tk.a (t : Tk) : S64 := ⟨t.kind, t.text, ⟨t.line, t.col⟩⟩
def resA (out : List S64) (A : List Tk) (e : Int × Int × Int) : List S64 × Int × Int × Int := if e.2.2 = 0 then (out ++ A.map Tk.a, 0, 0, 0) else ([], e)
theorem resA_cons (out : List S64) (t : Tk) (A : List Tk) (e : Int × Int × Int) : resA (out ++ [t.a]) A e = resA out (t :: A) e := by
  unfold resA; split <;> simp
theorem lex_skip {s : ByteArray} {i j : Nat} {oa : List S64} {r : List S64 × Int × Int × Int} (hne : ¬ s.extract i s.size = ⟨#[]⟩)
    (ht : Ev (fun k => lex_reader_token.f k (s.extract i s.size) (pl s i).1 (pl s i).2) (1, ⟨#[]⟩, (pl s i).1, (pl s i).2, false, 0, s.extract j s.size, (pl s j).1, (pl s j).2))
    (hr : Ev (fun k => lex_Tokens.l0 k (s.extract j s.size) (pl s j).1 (pl s j).2 oa) r) : Ev (fun k => lex_Tokens.l0 k (s.extract i s.size) (pl s i).1 (pl s i).2 oa) r :=
  Ev.step (fun k => by rw [lex_Tokens.l0, if_neg hne]) (ev_bind _ ht (ev_pos rfl (ev_neg (fun h => absurd h Bool.false_ne_true) hr)))
theorem lex_put {s : ByteArray} {i j : Nat} {oa : List S64} {t : Tk} {r : List S64 × Int × Int × Int} (hne : ¬ s.extract i s.size = ⟨#[]⟩) (ho : oa.length < 3518437208883) (hl : t.line = (pl s i).1) (hc : t.col = (pl s i).2)
    (ht : Ev (fun k => lex_reader_token.f k (s.extract i s.size) (pl s i).1 (pl s i).2) (t.kind, t.text, t.line, t.col, true, 0, s.extract j s.size, (pl s j).1, (pl s j).2))
    (hr : Ev (fun k => lex_Tokens.l0 k (s.extract j s.size) (pl s j).1 (pl s j).2 (oa ++ [t.a])) r) : Ev (fun k => lex_Tokens.l0 k (s.extract i s.size) (pl s i).1 (pl s i).2 oa) r :=
  Ev.step (fun k => by rw [lex_Tokens.l0, if_neg hne]) (ev_bind _ ht (ev_pos rfl (ev_pos rfl (ev_pos ho hr))))
theorem lex_err {s : ByteArray} {i : Nat} {oa : List S64} (hne : ¬ s.extract i s.size = ⟨#[]⟩)
    (ht : Ev (fun k => lex_reader_token.f k (s.extract i s.size) (pl s i).1 (pl s i).2) (1, ⟨#[]⟩, (pl s i).1, (pl s i).2, false, 71, s.extract i s.size, (pl s i).1, (pl s i).2)) : Ev (fun k => lex_Tokens.l0 k (s.extract i s.size) (pl s i).1 (pl s i).2 oa) (resA oa [] ((pl s i).1, (pl s i).2, 71)) :=
  Ev.step (fun k => by rw [lex_Tokens.l0, if_neg hne]) (ev_bind _ ht (ev_neg (show ¬ (71 : Int) = 0 by decide) (ev_now _)))
/-- What lex.Tokens does from place i on. -/
def At0 (s : ByteArray) (i : Nat) (oa : List S64) (r : List S64 × Int × Int × Int) : Prop := Ev (fun k => lex_Tokens.l0 k (s.extract i s.size) (pl s i).1 (pl s i).2 oa) r
section
variable {s : ByteArray} {i : Nat} (hs : s.size ≤ 65536) (hg : ∀ j, j < s.size → good s j) (hlt : i < s.size)
include hlt
theorem sz_at : (s.extract i s.size).size = s.size - i := by rw [ByteArray.size_extract]; omega
theorem ne_at : ¬ s.extract i s.size = ⟨#[]⟩ := fun h => by
  have := congrArg ByteArray.size h
  rw [sz_at hlt] at this
  have : s.size - i = 0 := this
  omega
theorem b0_at : bt (s.extract i s.size) 0 = bt s i := bt_ext s i 0 s.size (by omega) (by omega)
include hs hg
theorem p_at : 0 < (s.extract i s.size).size ∧ (s.extract i s.size).size ≤ 65536 ∧ (s.extract i s.size).data.toList.all (fun b => decide (b.toNat < 128)) = true := by
  have hsz := sz_at hlt
  refine ⟨by omega, by omega, List.all_eq_true.2 fun b hb => decide_eq_true ?_⟩
  rw [list_ext] at hb
  obtain ⟨j, hj⟩ := List.mem_iff_getElem?.1 (List.mem_of_mem_drop hb)
  have hjl : j < s.size := by
    have := (List.getElem?_eq_some_iff.1 hj).1
    rw [size_list] at this
    exact this
  rw [bt_list s j hjl] at hj
  obtain rfl := Option.some.inj hj
  have h1 := bt_nn s j
  have h2 := (byte_eq (bt s j) h1 (bt s j).toNat.toUInt8).1 rfl
  rcases hg j hjl with h | h <;> omega
theorem step_blank {oa : List S64} {r : List S64 × Int × Int × Int} (h32 : bt s i = 32 ∨ bt s i = 10) (h : At0 s (i + 1) oa r) : At0 s i oa r := by
  have hP := p_at hs hg hlt
  have b0 := b0_at hlt
  have t1 : Ev (fun k => lex_reader_take.f k (s.extract i s.size) (pl s i).1 (pl s i).2 1) (s.extract i (i + 1), s.extract (i + 1) s.size, (pl s (i + 1)).1, (pl s (i + 1)).2) := take_val s i 1 (by omega) hs
  exact lex_skip (j := i + 1) (ne_at hlt) (Ev.congr (fun k => by rw [lex_reader_token.f, if_pos hP, if_pos (by rw [b0]; exact h32)]) (ev_bind _ t1 (ev_now _))) h
theorem step_line {oa : List S64} {r : List S64 × Int × Int × Int} (h35 : bt s i = 35) (m : Nat) (hm : i + m ≤ s.size) (hno : ∀ j : Nat, i ≤ j → j < i + m → ¬ bt s j = 10) (he : i + m = s.size ∨ bt s (i + m : Nat) = 10) (h : At0 s (i + m) oa r) : At0 s i oa r := by
  have hP := p_at hs hg hlt
  have b0 := b0_at hlt
  have hsz := sz_at hlt
  obtain ⟨m', em, m0, m1, m2, m3⟩ := scan_spec (isLine (s.extract i s.size)) (s.size - i) (s.size - i) 0 (by omega)
  have hmm : m' = m := by
    rcases Nat.lt_trichotomy m' m with h1 | h1 | h1
    · rcases m3 with h2 | h2
      · omega
      · rw [isLine_val s i m' (by omega)] at h2
        exact absurd (beq_iff_eq.1 h2) (hno (i + m') (by omega) (by omega))
    · exact h1
    · have h2 := m2 m (by omega) h1
      rw [isLine_val s i m (by omega)] at h2
      rcases he with h3 | h3
      · omega
      · rw [h3] at h2; cases h2
  subst hmm
  exact lex_skip (j := i + m') (ne_at hlt) (Ev.congr (fun k => by rw [lex_reader_token.f, if_pos hP, if_neg (by rw [b0, h35]; decide), if_pos (b0.trans h35), hsz, em]) (ev_bind _ (take_val s i m' (by omega) hs) (ev_now _))) h
omit hs hg hlt in
theorem hp_at (s : ByteArray) (i : Nat) : Lib.hasPrefix (s.extract i s.size).data.toList [47, 42] = decide (i + 1 < s.size ∧ bt s i = 47 ∧ bt s ((i : Int) + 1) = 42) := by
  rw [list_ext]
  unfold Lib.hasPrefix
  rw [pre2]
  rfl
omit hs hg hlt in
theorem occ_at (s : ByteArray) (i j : Nat) : Lib.occAt ((s.extract i s.size).data.toList.drop 2) [42, 47] j = decide (i + 2 + j + 1 < s.size ∧ bt s (i + 2 + j : Nat) = 42 ∧ bt s (((i + 2 + j : Nat) : Int) + 1) = 47) := by
  rw [list_ext, List.drop_drop]
  unfold Lib.occAt
  rw [List.drop_drop, pre2]
  rfl
theorem step_comm {oa : List S64} {r : List S64 × Int × Int × Int} (hc : i + 1 < s.size ∧ bt s i = 47 ∧ bt s ((i : Int) + 1) = 42) (m : Nat) (o1 : i + 2 + m + 1 < s.size) (o2 : bt s (i + 2 + m : Nat) = 42) (o3 : bt s (((i + 2 + m : Nat) : Int) + 1) = 47) (hno : ∀ j : Nat, j < m → ¬ (bt s (i + 2 + j : Nat) = 42 ∧ bt s (((i + 2 + j : Nat) : Int) + 1) = 47)) (h : At0 s (i + (m + 4)) oa r) : At0 s i oa r := by
  have hP := p_at hs hg hlt
  have b0 := b0_at hlt
  have hp := (hp_at s i).trans (decide_eq_true hc)
  have h32 : ¬ (bt s i = 32 ∨ bt s i = 10) := by rw [hc.2.1]; decide
  have h35 : ¬ bt s i = 35 := by rw [hc.2.1]; decide
  have en : Lib.index ((s.extract i s.size).data.toList.drop 2) [42, 47] = (m : Int) := by
    rcases Lib.index_spec ((s.extract i s.size).data.toList.drop 2) [42, 47] with ⟨en, hn⟩ | ⟨m', en, hml, hoc, hn⟩
    · have := hn m (by rw [list_ext, List.drop_drop, List.length_drop, size_list]; omega)
      rw [occ_at] at this
      exact absurd ⟨o1, o2, o3⟩ (of_decide_eq_false this)
    · rw [en]
      rw [occ_at] at hoc
      obtain ⟨p1, p2, p3⟩ := of_decide_eq_true hoc
      have h1 : ¬ m' < m := fun h1 => hno m' h1 ⟨p2, p3⟩
      have h2 : ¬ m < m' := fun h2 => by
        have := hn m h2
        rw [occ_at] at this
        exact absurd ⟨o1, o2, o3⟩ (of_decide_eq_false this)
      omega
  have tk : Ev (fun k => lex_reader_take.f k (s.extract i s.size) (pl s i).1 (pl s i).2 (Lib.index ((s.extract i s.size).data.toList.drop 2) [42, 47] + 4)) (s.extract i (i + (m + 4)), s.extract (i + (m + 4)) s.size, (pl s (i + (m + 4))).1, (pl s (i + (m + 4))).2) := by
    rw [en]
    exact take_val s i (m + 4) (by omega) hs
  exact lex_skip (j := i + (m + 4)) (ne_at hlt) (Ev.congr (fun k => by rw [lex_reader_token.f, if_pos hP, if_neg (by rw [b0]; exact h32), if_neg (by rw [b0]; exact h35), if_pos hp, if_neg (by rw [en]; omega)]) (ev_bind _ tk (ev_now _))) h
theorem err_comm {oa : List S64} (hc : i + 1 < s.size ∧ bt s i = 47 ∧ bt s ((i : Int) + 1) = 42) (hno : ∀ j : Nat, i + 2 + j + 1 < s.size → ¬ (bt s (i + 2 + j : Nat) = 42 ∧ bt s (((i + 2 + j : Nat) : Int) + 1) = 47)) : At0 s i oa (resA oa [] ((pl s i).1, (pl s i).2, 71)) := by
  have hP := p_at hs hg hlt
  have b0 := b0_at hlt
  have hp := (hp_at s i).trans (decide_eq_true hc)
  have h32 : ¬ (bt s i = 32 ∨ bt s i = 10) := by rw [hc.2.1]; decide
  have h35 : ¬ bt s i = 35 := by rw [hc.2.1]; decide
  have en : Lib.index ((s.extract i s.size).data.toList.drop 2) [42, 47] = -1 := by
    rcases Lib.index_spec ((s.extract i s.size).data.toList.drop 2) [42, 47] with ⟨en, hn⟩ | ⟨m', en, hml, hoc, hn⟩
    · exact en
    · rw [occ_at] at hoc
      obtain ⟨p1, p2, p3⟩ := of_decide_eq_true hoc
      exact absurd ⟨p2, p3⟩ (hno m' p1)
  exact lex_err (ne_at hlt) (Ev.congr (fun k => by rw [lex_reader_token.f, if_pos hP, if_neg (by rw [b0]; exact h32), if_neg (by rw [b0]; exact h35), if_pos hp, if_pos (by rw [en]; decide)]) (ev_now _))
omit hs hg hlt in
theorem nc_at (h : ¬ bt s i = 47) : ¬ Lib.hasPrefix (s.extract i s.size).data.toList [47, 42] = true := by
  rw [hp_at, decide_eq_false (fun h2 => h h2.2.1)]; decide
omit hs hg hlt in
theorem get_at (s : ByteArray) (i j : Nat) (hj : i + 1 + j < s.size) : ((s.extract i s.size).data.toList.drop 1)[j]? = some (bt s (i + 1 + j : Nat)).toNat.toUInt8 := by
  rw [list_ext, List.drop_drop, List.getElem?_drop, bt_list s (i + 1 + j) hj]
omit hs hg hlt in
theorem mem_at (s : ByteArray) (j : Nat) : [(34 : UInt8), 10].contains (bt s (j : Nat)).toNat.toUInt8 = decide (bt s j = 34 ∨ bt s j = 10) := by
  have e1 := byte_eq (bt s j) (bt_nn s j) 34
  have e2 := byte_eq (bt s j) (bt_nn s j) 10
  have e1 : (bt s j).toNat.toUInt8 = 34 ↔ bt s j = 34 := e1
  have e2 : (bt s j).toNat.toUInt8 = 10 ↔ bt s j = 10 := e2
  rw [Bool.eq_iff_iff, List.contains_iff_mem, decide_eq_true_iff, List.mem_cons, List.mem_singleton, e1, e2]
omit hs hg in
theorem any_at (m : Nat) (hm : i + 1 + m < s.size) (hb : bt s (i + 1 + m : Nat) = 34 ∨ bt s (i + 1 + m : Nat) = 10) (hno : ∀ j : Nat, i + 1 ≤ j → j < i + 1 + m → ¬ bt s j = 10 ∧ ¬ bt s j = 34) : Lib.indexAny ((s.extract i s.size).data.toList.drop 1) [34, 10] = (m : Int) := by
  rcases indexAny_spec ((s.extract i s.size).data.toList.drop 1) [34, 10] with ⟨en, hn⟩ | ⟨m', en, ⟨b, hb0, hb1⟩, hn⟩
  · have := hn m _ (get_at s i m hm)
    rw [mem_at] at this
    exact absurd hb (of_decide_eq_false this)
  · rw [en]
    have hml : i + 1 + m' < s.size := by
      have := (List.getElem?_eq_some_iff.1 hb0).1
      rw [list_ext, List.drop_drop, List.length_drop, size_list] at this
      omega
    rw [get_at s i m' hml] at hb0
    obtain rfl := Option.some.inj hb0
    rw [mem_at] at hb1
    have hb1 := of_decide_eq_true hb1
    have h1 : ¬ m' < m := fun h1 => by
      obtain ⟨n1, n2⟩ := hno (i + 1 + m') (by omega) (by omega)
      rcases hb1 with h | h
      · exact n2 h
      · exact n1 h
    have h2 : ¬ m < m' := fun h2 => by
      have := hn m _ h2 (get_at s i m hm)
      rw [mem_at] at this
      exact absurd hb (of_decide_eq_false this)
    omega
theorem step_quot {oa : List S64} {r : List S64 × Int × Int × Int} (ho : oa.length < 3518437208883) (h34 : bt s i = 34) (m : Nat) (hm : i + 1 + m < s.size) (hq : bt s (i + 1 + m : Nat) = 34) (hno : ∀ j : Nat, i + 1 ≤ j → j < i + 1 + m → ¬ bt s j = 10 ∧ ¬ bt s j = 34)
    (h : At0 s (i + (m + 2)) (oa ++ [Tk.a ⟨1, s.extract (i + 1) (i + m + 1), (pl s i).1, (pl s i).2⟩]) r) : At0 s i oa r := by
  have hP := p_at hs hg hlt
  have b0 := b0_at hlt
  have hp := nc_at (s := s) (i := i) (by rw [h34]; decide)
  have h32 : ¬ (bt s i = 32 ∨ bt s i = 10) := by rw [h34]; decide
  have h35 : ¬ bt s i = 35 := by rw [h34]; decide
  have en := any_at hlt m hm (.inl hq) hno
  have bn : bt (s.extract i s.size) (Lib.indexAny ((s.extract i s.size).data.toList.drop 1) [34, 10] + 1) = bt s (i + 1 + m : Nat) := by
    rw [en]
    have := bt_ext s i (m + 1) s.size (by omega) (by omega)
    rw [show i + (m + 1) = i + 1 + m by omega] at this
    exact this
  have tk : Ev (fun k => lex_reader_take.f k (s.extract i s.size) (pl s i).1 (pl s i).2 (Lib.indexAny ((s.extract i s.size).data.toList.drop 1) [34, 10] + 2)) (s.extract i (i + (m + 2)), s.extract (i + (m + 2)) s.size, (pl s (i + (m + 2))).1, (pl s (i + (m + 2))).2) := by
    rw [en]
    exact take_val s i (m + 2) (by omega) hs
  have ex : (s.extract i (i + (m + 2))).extract 1 (Lib.indexAny ((s.extract i s.size).data.toList.drop 1) [34, 10] + 1).toNat = s.extract (i + 1) (i + m + 1) := by
    rw [en, ByteArray.extract_extract]
    congr 1
    omega
  exact lex_put (t := ⟨1, s.extract (i + 1) (i + m + 1), (pl s i).1, (pl s i).2⟩) (j := i + (m + 2)) (ne_at hlt) ho rfl rfl (Ev.congr (fun k => by rw [lex_reader_token.f, if_pos hP, if_neg (by rw [b0]; exact h32), if_neg (by rw [b0]; exact h35), if_neg hp, if_pos (b0.trans h34), if_neg (by rw [bn, en, hq]; rintro (h | h); omega; exact absurd h (by decide))]) (ev_bind _ tk (ev_to (ev_now _) (by simp only [ex])))) h
theorem err_quot {oa : List S64} (h34 : bt s i = 34) (m : Nat) (hm : i + 1 + m ≤ s.size) (hq : i + 1 + m = s.size ∨ bt s (i + 1 + m : Nat) = 10) (hno : ∀ j : Nat, i + 1 ≤ j → j < i + 1 + m → ¬ bt s j = 10 ∧ ¬ bt s j = 34) : At0 s i oa (resA oa [] ((pl s i).1, (pl s i).2, 71)) := by
  have hP := p_at hs hg hlt
  have b0 := b0_at hlt
  have hp := nc_at (s := s) (i := i) (by rw [h34]; decide)
  have h32 : ¬ (bt s i = 32 ∨ bt s i = 10) := by rw [h34]; decide
  have h35 : ¬ bt s i = 35 := by rw [h34]; decide
  by_cases hl : i + 1 + m < s.size
  · have hten : bt s (i + 1 + m : Nat) = 10 := by rcases hq with h | h; omega; exact h
    have en := any_at hlt m hl (.inr hten) hno
    have bn : bt (s.extract i s.size) (Lib.indexAny ((s.extract i s.size).data.toList.drop 1) [34, 10] + 1) = bt s (i + 1 + m : Nat) := by
      rw [en]
      have := bt_ext s i (m + 1) s.size (by omega) (by omega)
      rw [show i + (m + 1) = i + 1 + m by omega] at this
      exact this
    exact lex_err (ne_at hlt) (Ev.congr (fun k => by rw [lex_reader_token.f, if_pos hP, if_neg (by rw [b0]; exact h32), if_neg (by rw [b0]; exact h35), if_neg hp, if_pos (b0.trans h34), if_pos (.inr (bn.trans hten))]) (ev_now _))
  · have en : Lib.indexAny ((s.extract i s.size).data.toList.drop 1) [34, 10] = -1 := by
      rcases indexAny_spec ((s.extract i s.size).data.toList.drop 1) [34, 10] with ⟨en, hn⟩ | ⟨m', en, ⟨b, hb0, hb1⟩, hn⟩
      · exact en
      · have hml : i + 1 + m' < s.size := by
          have := (List.getElem?_eq_some_iff.1 hb0).1
          rw [list_ext, List.drop_drop, List.length_drop, size_list] at this
          omega
        rw [get_at s i m' hml] at hb0
        obtain rfl := Option.some.inj hb0
        rw [mem_at] at hb1
        obtain ⟨n1, n2⟩ := hno (i + 1 + m') (by omega) (by omega)
        rcases of_decide_eq_true hb1 with h | h
        · exact absurd h n2
        · exact absurd h n1
    exact lex_err (ne_at hlt) (Ev.congr (fun k => by rw [lex_reader_token.f, if_pos hP, if_neg (by rw [b0]; exact h32), if_neg (by rw [b0]; exact h35), if_neg hp, if_pos (b0.trans h34), if_pos (.inl (by rw [en]; decide))]) (ev_now _))
theorem step_sign {oa : List S64} {r : List S64 × Int × Int × Int} (ho : oa.length < 3518437208883) (hsg : ¬ sgn (bt s i) = 0)
    (h : At0 s (i + 1) (oa ++ [Tk.a ⟨sgn (bt s i), s.extract i (i + 1), (pl s i).1, (pl s i).2⟩]) r) : At0 s i oa r := by
  have hP := p_at hs hg hlt
  have b0 := b0_at hlt
  have hnn := bt_nn s i
  have hidx := sgn_idx (bt s i) hnn
  rw [if_neg hsg] at hidx
  have h47 : ¬ bt s i = 47 := fun h => hsg (by rw [h]; decide)
  have hp := nc_at (s := s) (i := i) h47
  have h32 : ¬ (bt s i = 32 ∨ bt s i = 10) := fun h => by rcases h with h | h <;> exact hsg (by rw [h]; decide)
  have h35 : ¬ bt s i = 35 := fun h => hsg (by rw [h]; decide)
  have h34 : ¬ bt s i = 34 := fun h => hsg (by rw [h]; decide)
  have hge : 2 ≤ sgn (bt s i) := by
    unfold sgn at hsg ⊢
    repeat' split
    all_goals first | omega | (exfalso; apply hsg; simp_all)
  have t1 : Ev (fun k => lex_reader_take.f k (s.extract i s.size) (pl s i).1 (pl s i).2 1) (s.extract i (i + 1), s.extract (i + 1) s.size, (pl s (i + 1)).1, (pl s (i + 1)).2) := take_val s i 1 (by omega) hs
  exact lex_put (t := ⟨sgn (bt s i), s.extract i (i + 1), (pl s i).1, (pl s i).2⟩) (j := i + 1) (ne_at hlt) ho rfl rfl (Ev.congr (fun k => by rw [lex_reader_token.f, if_pos hP, if_neg (by rw [b0]; exact h32), if_neg (by rw [b0]; exact h35), if_neg hp, if_neg (by rw [b0]; exact h34), if_pos (by rw [b0, hidx]; omega), b0, hidx, show 2 + (sgn (bt s i) - 2) = sgn (bt s i) by omega]) (ev_bind _ t1 (ev_now _))) h
theorem step_word {oa : List S64} {r : List S64 × Int × Int × Int} (ho : oa.length < 3518437208883) (hst : stop s i = false) (m : Nat) (hm0 : 0 < m) (hm : i + m ≤ s.size) (hno : ∀ j : Nat, i ≤ j → j < i + m → stop s j = false) (he : i + m = s.size ∨ stop s (i + m) = true)
    (h : At0 s (i + m) (oa ++ [Tk.a ⟨1, s.extract i (i + m), (pl s i).1, (pl s i).2⟩]) r) : At0 s i oa r := by
  have hP := p_at hs hg hlt
  have b0 := b0_at hlt
  have hsz := sz_at hlt
  have hnn := bt_nn s i
  have hst' := hst
  simp only [stop, Bool.or_eq_false_iff, decide_eq_false_iff_not, not_or] at hst'
  obtain ⟨⟨h1, h2, h3, h4, h5⟩, h6⟩ := hst'
  have h5 : sgn (bt s i) = 0 := by simpa using h5
  have hidx := sgn_idx (bt s i) hnn
  rw [if_pos h5] at hidx
  have hp : ¬ Lib.hasPrefix (s.extract i s.size).data.toList [47, 42] = true := by rw [hp_at, decide_eq_false h6]; decide
  have h32 : ¬ (bt s i = 32 ∨ bt s i = 10) := fun h => by rcases h with h | h; exact h1 h; exact h2 h
  obtain ⟨m', em, m0, m1, m2, m3⟩ := scan_spec (isEnd (s.extract i s.size)) (s.size - i) (s.size - i) 0 (by omega)
  have hmm : m' = m := by
    rcases Nat.lt_trichotomy m' m with h1 | h1 | h1
    · rcases m3 with h2 | h2
      · omega
      · rw [isEnd_val s i m' (by omega), hno (i + m') (by omega) (by omega)] at h2
        cases h2
    · exact h1
    · have h2 := m2 m (by omega) h1
      rw [isEnd_val s i m (by omega)] at h2
      rcases he with h3 | h3
      · omega
      · rw [h3] at h2; cases h2
  subst hmm
  exact lex_put (t := ⟨1, s.extract i (i + m'), (pl s i).1, (pl s i).2⟩) (j := i + m') (ne_at hlt) ho rfl rfl (Ev.congr (fun k => by rw [lex_reader_token.f, if_pos hP, if_neg (by rw [b0]; exact h32), if_neg (by rw [b0]; exact h4), if_neg hp, if_neg (by rw [b0]; exact h3), if_neg (by rw [b0, hidx]; decide), hsz, em]) (ev_bind _ (take_val s i m' (by omega) hs) (ev_now _))) h
end
/-- Where a token stands, and what it is. -/
def At (s : ByteArray) (i : Nat) (t : Tk) : Prop := i < s.size ∧ t.line = (pl s i).1 ∧ t.col = (pl s i).2 ∧
  ((bt s i = 34 ∧ t.kind = 1 ∧ ∃ m : Nat, i + 1 + m < s.size ∧ t.text = s.extract (i + 1) (i + m + 1) ∧ ∀ j : Nat, i + 1 ≤ j → j < i + 1 + m → ¬ bt s j = 10 ∧ ¬ bt s j = 34) ∨
   (¬ bt s i = 34 ∧ t.kind = 1 ∧ ∃ m : Nat, 0 < m ∧ i + m ≤ s.size ∧ t.text = s.extract i (i + m) ∧ ∀ j : Nat, i ≤ j → j < i + m → ¬ bt s j = 10 ∧ ¬ bt s j = 34) ∨
   (¬ sgn (bt s i) = 0 ∧ t.kind = sgn (bt s i) ∧ t.text = s.extract i (i + 1)))
/-- Tokens from place i on, each in its place, one behind another. -/
def Toks (s : ByteArray) : Nat → List Tk → Prop
  | _, [] => True
  | i, t :: A => ∃ a : Nat, i ≤ a ∧ At s a t ∧ Toks s (a + 1) A
theorem Toks.mono {s : ByteArray} {i j : Nat} (h : j ≤ i) : ∀ {A : List Tk}, Toks s i A → Toks s j A
  | [], _ => trivial
  | _ :: _, ⟨a, h1, h2⟩ => ⟨a, by omega, h2⟩
def From (s : ByteArray) (i : Nat) : Prop := ∃ (A : List Tk) (e : Int × Int × Int), A.length ≤ s.size - i ∧ Toks s i A ∧ ∀ (oa : List S64), oa.length ≤ i → At0 s i oa (resA oa A e)
theorem steps (s : ByteArray) (hs : s.size ≤ 65536) (hg : ∀ j, j < s.size → good s j) : ∀ d i : Nat, i + d = s.size → From s i := by
  intro d
  induction d using Nat.strongRecOn with
  | _ d IH =>
  intro i hi
  by_cases hlt : i < s.size
  · have ih : ∀ j, i < j → j ≤ s.size → From s j := fun j h1 h2 => IH (s.size - j) (by omega) j (by omega)
    by_cases h32 : bt s i = 32 ∨ bt s i = 10
    · obtain ⟨A, e, hA, hT, H⟩ := ih (i + 1) (by omega) (by omega)
      exact ⟨A, e, by omega, hT.mono (by omega), fun oa ha => step_blank hs hg hlt h32 (H oa (by omega))⟩
    have n32 : ¬ bt s i = 32 := fun h => h32 (.inl h)
    have n10 : ¬ bt s i = 10 := fun h => h32 (.inr h)
    by_cases h35 : bt s i = 35
    · obtain ⟨j, j1, j2, j3, j4⟩ := scan_ex (fun j => bt s j = 10) s.size (s.size - i) i (by omega)
      have hij : i < j := by
        rcases Nat.lt_or_ge i j with h | h
        · exact h
        · have : j = i := by omega
          subst this
          rcases j4 with h | h
          · omega
          · exact absurd h n10
      obtain ⟨A, e, hA, hT, H⟩ := ih j hij j2
      obtain ⟨m, rfl⟩ : ∃ m, j = i + m := ⟨j - i, by omega⟩
      exact ⟨A, e, by omega, hT.mono (by omega), fun oa ha => step_line hs hg hlt h35 m j2 j3 j4 (H oa (by omega))⟩
    by_cases hc : i + 1 < s.size ∧ bt s i = 47 ∧ bt s ((i : Int) + 1) = 42
    · obtain ⟨j, j1, j2, j3, j4⟩ := scan_ex (fun j => bt s j = 42 ∧ bt s ((j : Int) + 1) = 47) (s.size - 1) (s.size - 1 - (i + 1)) (i + 1) (by omega)
      by_cases hj : ∃ m, i + 2 + m + 1 < s.size ∧ (bt s (i + 2 + m : Nat) = 42 ∧ bt s (((i + 2 + m : Nat) : Int) + 1) = 47)
      · have hsome := hj
        obtain ⟨m0, q1, q2⟩ := hj
        obtain ⟨j, j1, j2, j3, j4⟩ := scan_ex (fun j => bt s j = 42 ∧ bt s ((j : Int) + 1) = 47) (s.size - 1) (s.size - 1 - (i + 2)) (i + 2) (by omega)
        have hjl : j < s.size - 1 := by
          rcases Nat.lt_or_ge j (s.size - 1) with h | h
          · exact h
          · exact absurd q2 (j3 (i + 2 + m0) (by omega) (by omega))
        have j4' : bt s j = 42 ∧ bt s ((j : Int) + 1) = 47 := by rcases j4 with h | h; omega; exact h
        obtain ⟨m, rfl⟩ : ∃ m, j = i + 2 + m := ⟨j - (i + 2), by omega⟩
        obtain ⟨A, e, hA, hT, H⟩ := ih (i + (m + 4)) (by omega) (by omega)
        exact ⟨A, e, by omega, hT.mono (by omega), fun oa ha => step_comm hs hg hlt hc m (by omega) j4'.1 j4'.2 (fun j hj => j3 (i + 2 + j) (by omega) (by omega)) (H oa (by omega))⟩
      · exact ⟨[], ((pl s i).1, (pl s i).2, 71), by simp, trivial, fun oa ha => err_comm hs hg hlt hc (fun j h1 h2 => hj ⟨j, h1, h2⟩)⟩
    by_cases h34 : bt s i = 34
    · obtain ⟨j, j1, j2, j3, j4⟩ := scan_ex (fun j => bt s j = 10 ∨ bt s j = 34) s.size (s.size - (i + 1)) (i + 1) (by omega)
      obtain ⟨m, rfl⟩ : ∃ m, j = i + 1 + m := ⟨j - (i + 1), by omega⟩
      have hno : ∀ j : Nat, i + 1 ≤ j → j < i + 1 + m → ¬ bt s j = 10 ∧ ¬ bt s j = 34 := fun j h1 h2 => ⟨fun h => j3 j h1 h2 (.inl h), fun h => j3 j h1 h2 (.inr h)⟩
      by_cases hq : i + 1 + m < s.size ∧ bt s (i + 1 + m : Nat) = 34
      · obtain ⟨A, e, hA, hT, H⟩ := ih (i + (m + 2)) (by omega) (by omega)
        refine ⟨⟨1, s.extract (i + 1) (i + m + 1), (pl s i).1, (pl s i).2⟩ :: A, e, by rw [List.length_cons]; omega, ⟨i, Nat.le_refl _, ⟨hlt, rfl, rfl, .inl ⟨h34, rfl, m, hq.1, rfl, hno⟩⟩, hT.mono (by omega)⟩, fun oa ha => ?_⟩
        rw [← resA_cons]
        exact step_quot hs hg hlt (by omega) h34 m hq.1 hq.2 hno (H _ (by rw [List.length_append]; simp; omega))
      · refine ⟨[], ((pl s i).1, (pl s i).2, 71), by simp, trivial, fun oa ha => err_quot hs hg hlt h34 m j2 ?_ hno⟩
        rcases j4 with h | h | h
        · exact .inl h
        · exact .inr h
        · exact .inl (by rcases Nat.lt_or_ge (i + 1 + m) s.size with h2 | h2; exact absurd ⟨h2, h⟩ hq; omega)
    by_cases hsg : sgn (bt s i) = 0
    · have hst : stop s i = false := by
        simp [stop, n32, n10, h34, h35, hsg]
        intro a1 a2 a3
        exact hc ⟨a1, a2, a3⟩
      obtain ⟨j, j1, j2, j3, j4⟩ := scan_ex (fun j => stop s j = true) s.size (s.size - i) i (by omega)
      have hij : i < j := by
        rcases Nat.lt_or_ge i j with h | h
        · exact h
        · have : j = i := by omega
          subst this
          rcases j4 with h | h
          · omega
          · rw [hst] at h; cases h
      obtain ⟨m, rfl⟩ : ∃ m, j = i + m := ⟨j - i, by omega⟩
      have hno : ∀ j : Nat, i ≤ j → j < i + m → stop s j = false := fun j h1 h2 => by simpa using j3 j h1 h2
      obtain ⟨A, e, hA, hT, H⟩ := ih (i + m) hij j2
      refine ⟨⟨1, s.extract i (i + m), (pl s i).1, (pl s i).2⟩ :: A, e, by rw [List.length_cons]; omega, ⟨i, Nat.le_refl _, ⟨hlt, rfl, rfl, .inr (.inl ⟨h34, rfl, m, by omega, j2, rfl, fun j h1 h2 => ?_⟩)⟩, hT.mono (by omega)⟩, fun oa ha => ?_⟩
      · have := hno j h1 h2
        simp only [stop, Bool.or_eq_false_iff, decide_eq_false_iff_not, not_or] at this
        exact ⟨this.1.2.1, this.1.2.2.1⟩
      · rw [← resA_cons]
        exact step_word hs hg hlt (by omega) hst m (by omega) j2 hno j4 (H _ (by rw [List.length_append]; simp; omega))
    · obtain ⟨A, e, hA, hT, H⟩ := ih (i + 1) (by omega) (by omega)
      refine ⟨⟨sgn (bt s i), s.extract i (i + 1), (pl s i).1, (pl s i).2⟩ :: A, e, by rw [List.length_cons]; omega, ⟨i, Nat.le_refl _, ⟨hlt, rfl, rfl, .inr (.inr ⟨hsg, rfl, rfl⟩)⟩, hT⟩, fun oa ha => ?_⟩
      rw [← resA_cons]
      exact step_sign hs hg hlt (by omega) hsg (H _ (by rw [List.length_append]; simp; omega))
  · have hi : i = s.size := by omega
    subst hi
    refine ⟨[], (0, 0, 0), by simp, trivial, fun oa _ => ?_⟩
    exact Ev.step (fun k => by rw [lex_Tokens.l0, if_pos (ext_none s)]) (ev_to (ev_now _) (by simp [resA]))
/-- What lex.Tokens answers. -/
theorem tokens_val (s : ByteArray) : ∃ (A : List Tk) (e : Int × Int × Int), Ev (fun k => lex_Tokens.f k s) (resA [] A e) ∧ (e.2.2 = 0 → A.length ≤ s.size ∧ Toks s 0 A ∧ s.size ≤ 65536 ∧ ∀ j, j < s.size → good s j) := by
  obtain ⟨r, c1, c3, _⟩ := check_val s
  by_cases h0 : r.2.2 = 0
  · obtain ⟨hr, hs, hg⟩ := c3 h0
    obtain ⟨A, e, hA, hT, H⟩ := steps s hs hg s.size 0 (by omega)
    have H1 := H [] (by simp)
    unfold At0 at H1
    rw [ext_all] at H1
    have H1 : Ev (fun k => lex_Tokens.l0 k s 1 1 []) (resA [] A e) := H1
    exact ⟨A, e, Ev.congr (fun k => by rw [lex_Tokens.f]) (Ev.bind c1 (ev_pos h0 H1)), fun _ => ⟨by omega, hT, hs, hg⟩⟩
  · refine ⟨[], r, ?_, fun h => absurd h h0⟩
    have : resA [] [] r = ([], r) := by simp [resA, h0]
    rw [this]
    exact Ev.congr (fun k => by rw [lex_Tokens.f]) (Ev.bind c1 (ev_neg h0 (ev_now _)))
/-- A text that may stand, whose tokens are known from its first place on. -/
theorem tokens_of (s : ByteArray) (r : List S64 × Int × Int × Int) (hc : Ev (fun k => lex_check.f k s) (0, 0, 0)) (h : At0 s 0 [] r) : Ev (fun k => lex_Tokens.f k s) r := by
  unfold At0 at h
  rw [ext_all] at h
  have h : Ev (fun k => lex_Tokens.l0 k s 1 1 []) r := h
  exact Ev.congr (fun k => by rw [lex_Tokens.f]) (Ev.bind hc (ev_pos rfl h))
theorem tokens_end (s : ByteArray) (oa : List S64) : At0 s s.size oa (oa, 0, 0, 0) :=
  Ev.step (fun k => by rw [lex_Tokens.l0, if_pos (ext_none s)]) (ev_now _)
end Go.Proofs.YtbnihnggljagnaaDoor.QLexNames
