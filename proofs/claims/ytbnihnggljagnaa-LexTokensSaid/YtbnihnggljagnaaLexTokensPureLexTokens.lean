/- The plain law of LexTokens. Conditions: none. -/
import Derived.Test.YtbnihnggljagnaaQLexTokensx8
import Derived.Test.YtbnihnggljagnaaLexMath
namespace Go.Proofs.Ytbnihnggljagnaa.QLexTokens
open Go.RowKit Go.Proofs.YtbnihnggljagnaaW.PrintWords Go.Proofs.Ytbnihnggljagnaa.Tools Go.Proofs.Ytbnihnggljagnaa.LexMath
set_option linter.unusedVariables false
theorem rat_val (s : ByteArray) (i : Nat) (h : i ≤ s.size) (hs : s.size ≤ 65536) : Ev (fun k => waymarkref07_at.f k s i) (pl s i) := by
  have key : ∀ d j : Nat, j + d = i → Ev (fun k => waymarkref07_at.l0 k s i j (pl s j).1 (pl s j).2) (pl s i) := by
    intro d
    induction d with
    | zero =>
      intro j hj
      obtain rfl : j = i := by omega
      refine Ev.step (fun k => by rw [waymarkref07_at.l0]) (ev_neg (by omega) (ev_now _))
    | succ d ih =>
      intro j hj
      have hb := pl_bounds s j
      refine Ev.step (fun k => by rw [waymarkref07_at.l0]) (ev_pos (by omega) (ev_pos (by omega) (ev_pos (by omega) ?_)))
      rw [w64_id _ (by omega) (by omega), w64_id _ (by omega) (by omega), w64_id _ (by omega) (by omega)]
      have := ih (j + 1) (by omega)
      by_cases hc : bt s j = 10
      · rw [pl_line hc] at this
        exact ev_pos hc this
      · rw [pl_same hc] at this
        exact ev_neg hc this
  exact key i 0 (by omega)
theorem check_vals (s : ByteArray) : ∃ r : Int × Int × Int, Ev (fun k => lex_check.f k s) r ∧ Ev (fun k => waymarkref07_Check.f k s) r ∧ (r.2.2 = 0 → r = (0, 0, 0) ∧ s.size ≤ 65536 ∧ ∀ j, j < s.size → good s j) := by
  by_cases hs : s.size ≤ 65536
  · have key : ∀ d i : Nat, i + d = s.size → ∃ r : Int × Int × Int, Ev (fun k => lex_check.l0 k s s.size i (pl s i).1 (pl s i).2) r ∧ Ev (fun k => waymarkref07_Check.l0 k s (pl s i).1 i) r ∧ (r.2.2 = 0 → r = (0, 0, 0) ∧ ∀ j, i ≤ j → j < s.size → good s j) := by
      intro d
      induction d with
      | zero =>
        intro i hi
        refine ⟨(0, 0, 0), Ev.step (fun k => by rw [lex_check.l0]) (ev_neg (by omega) (ev_now _)), Ev.step (fun k => by rw [waymarkref07_Check.l0]) (ev_neg (by omega) (ev_now _)), fun _ => ⟨rfl, by omega⟩⟩
      | succ d ih =>
        intro i hi
        have hb := pl_bounds s i
        have hat := rat_val s i (by omega) hs
        by_cases h1 : (pl s i).1 > 4096
        · exact ⟨((pl s i).1, (pl s i).2, 3), Ev.step (fun k => by rw [lex_check.l0]) (ev_pos (by omega) (ev_pos h1 (ev_now _))), Ev.step (fun k => by rw [waymarkref07_Check.l0]) (ev_pos (by omega) (ev_pos h1 (ev_bind _ hat (ev_now _)))), fun h => absurd h (by simp)⟩
        obtain ⟨r, e1, e2, e3⟩ := ih (i + 1) (by omega)
        by_cases h2 : bt s i = 10
        · rw [pl_line h2] at e1 e2
          refine ⟨r, Ev.step (fun k => by rw [lex_check.l0]) (ev_pos (by omega) (ev_neg h1 (ev_pos (by omega) (ev_pos (by omega) (ev_pos h2 ?_))))), Ev.step (fun k => by rw [waymarkref07_Check.l0]) (ev_pos (by omega) (ev_neg h1 (ev_pos (by omega) (ev_pos h2 ?_)))), fun h => ⟨(e3 h).1, fun j hj hj2 => ?_⟩⟩
          · rw [w64_id _ (by omega) (by omega), w64_id _ (by omega) (by omega)]
            exact e1
          · rw [w64_id _ (by omega) (by omega), w64_id _ (by omega) (by omega)]
            exact e2
          · by_cases hji : j = i
            · subst hji; exact .inl h2
            · exact (e3 h).2 j (by omega) hj2
        by_cases h3 : bt s i < 32
        · exact ⟨((pl s i).1, (pl s i).2, 70), Ev.step (fun k => by rw [lex_check.l0]) (ev_pos (by omega) (ev_neg h1 (ev_pos (by omega) (ev_pos (by omega) (ev_neg h2 (ev_pos h3 (ev_now _))))))), Ev.step (fun k => by rw [waymarkref07_Check.l0]) (ev_pos (by omega) (ev_neg h1 (ev_pos (by omega) (ev_neg h2 (ev_pos h3 (ev_bind _ hat (ev_now _))))))), fun h => absurd h (by simp)⟩
        by_cases h4 : bt s i > 126
        · exact ⟨((pl s i).1, (pl s i).2, 70), Ev.step (fun k => by rw [lex_check.l0]) (ev_pos (by omega) (ev_neg h1 (ev_pos (by omega) (ev_pos (by omega) (ev_neg h2 (ev_neg h3 (ev_pos h4 (ev_now _)))))))), Ev.step (fun k => by rw [waymarkref07_Check.l0]) (ev_pos (by omega) (ev_neg h1 (ev_pos (by omega) (ev_neg h2 (ev_neg h3 (ev_pos h4 (ev_bind _ hat (ev_now _)))))))), fun h => absurd h (by simp)⟩
        rw [pl_same h2] at e1 e2
        refine ⟨r, Ev.step (fun k => by rw [lex_check.l0]) (ev_pos (by omega) (ev_neg h1 (ev_pos (by omega) (ev_pos (by omega) (ev_neg h2 (ev_neg h3 (ev_neg h4 ?_))))))), Ev.step (fun k => by rw [waymarkref07_Check.l0]) (ev_pos (by omega) (ev_neg h1 (ev_pos (by omega) (ev_neg h2 (ev_neg h3 (ev_neg h4 ?_)))))), fun h => ⟨(e3 h).1, fun j hj hj2 => ?_⟩⟩
        · rw [w64_id _ (by omega) (by omega), w64_id _ (by omega) (by omega)]
          exact e1
        · rw [w64_id _ (by omega) (by omega)]
          exact e2
        · by_cases hji : j = i
          · subst hji; exact .inr ⟨by omega, by omega⟩
          · exact (e3 h).2 j (by omega) hj2
    obtain ⟨r, e1, e2, e3⟩ := key s.size 0 (by omega)
    have e1 : Ev (fun k => lex_check.l0 k s s.size 0 1 1) r := e1
    have e2 : Ev (fun k => waymarkref07_Check.l0 k s 1 0) r := e2
    exact ⟨r, Ev.congr (fun k => by rw [lex_check.f]) (ev_neg (by omega) e1), Ev.congr (fun k => by rw [waymarkref07_Check.f]) (ev_neg (by omega) e2), fun h => ⟨(e3 h).1, hs, fun j hj => (e3 h).2 j (by omega) hj⟩⟩
  · exact ⟨(0, 0, 3), Ev.congr (fun k => by rw [lex_check.f]) (ev_pos (by omega) (ev_now _)), Ev.congr (fun k => by rw [waymarkref07_Check.f]) (ev_pos (by omega) (ev_now _)), fun h => absurd h (by simp)⟩
theorem take_val (s : ByteArray) (i n : Nat) (h : i + n ≤ s.size) (hs : s.size ≤ 65536) : Ev (fun k => lex_reader_take.f k (s.extract i s.size) (pl s i).1 (pl s i).2 n) (s.extract i (i + n), s.extract (i + n) s.size, (pl s (i + n)).1, (pl s (i + n)).2) := by
  have hX : (s.extract i (i + n)).size = n := by rw [ByteArray.size_extract]; omega
  have hsz : (s.extract i s.size).size = s.size - i := by rw [ByteArray.size_extract]; omega
  have key : ∀ d j : Nat, j + d = n → Ev (fun k => lex_reader_take.l0 k (s.extract i (i + n)) n j (s.extract (i + n) s.size) (pl s (i + j)).1 (pl s (i + j)).2) (s.extract i (i + n), s.extract (i + n) s.size, (pl s (i + n)).1, (pl s (i + n)).2) := by
    intro d
    induction d with
    | zero =>
      intro j hj
      obtain rfl : j = n := by omega
      exact Ev.step (fun k => by rw [lex_reader_take.l0]) (ev_neg (by omega) (ev_now _))
    | succ d ih =>
      intro j hj
      have hb := pl_bounds s (i + j)
      have hbt := bt_ext s i j (i + n) h (by omega)
      have e := ih (j + 1) (by omega)
      refine Ev.step (fun k => by rw [lex_reader_take.l0]) (ev_pos (by omega) (ev_pos (by omega) (ev_pos (by rw [hX]; omega) ?_)))
      rw [w64_id _ (by omega) (by omega), w64_id _ (by omega) (by omega), w64_id _ (by omega) (by omega), hbt]
      by_cases hc : bt s (i + j : Nat) = 10
      · rw [← Nat.add_assoc, pl_line hc] at e
        exact ev_pos hc e
      · rw [← Nat.add_assoc, pl_same hc] at e
        exact ev_neg hc e
  have e := key n 0 (by omega)
  refine Ev.congr (fun k => by rw [lex_reader_take.f]) (ev_pos (by omega) (ev_pos (by rw [hsz]; omega) ?_))
  rw [Int.toNat_natCast, hsz, ext_ext s i 0 n h, show (s.extract i s.size).extract n (s.size - i) = s.extract (i + n) s.size by rw [ext_ext s i n (s.size - i) (by omega)]; congr 1; omega]
  exact e
theorem scan_spec (p : Nat → Bool) (n : Nat) : ∀ d i : Nat, i + d = n → ∃ m, scan p d i = m ∧ i ≤ m ∧ m ≤ n ∧ (∀ j, i ≤ j → j < m → p j = false) ∧ (m = n ∨ p m = true) := by
  intro d
  induction d with
  | zero => intro i hi; exact ⟨i, rfl, by omega, by omega, by omega, .inl (by omega)⟩
  | succ d ih =>
    intro i hi
    by_cases h : p i = true
    · exact ⟨i, by rw [scan, if_pos h], by omega, by omega, by omega, .inr h⟩
    · obtain ⟨m, e, h1, h2, h3, h4⟩ := ih (i + 1) (by omega)
      refine ⟨m, by rw [scan, if_neg h, e], by omega, h2, fun j hj hj2 => ?_, h4⟩
      by_cases hji : j = i
      · subst hji; simpa using h
      · exact h3 j (by omega) hj2
theorem rl1 {s : ByteArray} {out : List S96} {i j : Nat} {r : List S96 × Int × Int × Int} (hs : s.size ≤ 65536) (hj : j ≤ s.size) (hn : ∀ m, i ≤ m → m < j → ¬ bt s m = 10) (he : j = s.size ∨ bt s j = 10) (hr : Ev (fun k => waymarkref07_Tokens.l0 k s out j) r) :
    ∀ d m : Nat, i ≤ m → m + d = j → Ev (fun k => waymarkref07_Tokens.l1 k s out m) r := by
  intro d
  induction d with
  | zero =>
    intro m hm hd
    obtain rfl : m = j := by omega
    by_cases hlt : m < s.size
    · refine Ev.step (fun k => by rw [waymarkref07_Tokens.l1]) (ev_pos (by omega) (ev_pos (by omega) (ev_pos (by rcases he with h | h; omega; exact h) hr)))
    · exact Ev.step (fun k => by rw [waymarkref07_Tokens.l1]) (ev_neg (by omega) hr)
  | succ d ih =>
    intro m hm hd
    refine Ev.step (fun k => by rw [waymarkref07_Tokens.l1]) (ev_pos (by omega) (ev_pos (by omega) (ev_neg (hn m hm (by omega)) ?_)))
    rw [w64_id _ (by omega) (by omega)]
    exact ih (m + 1) (by omega) (by omega)
theorem closedC_hit {s : ByteArray} {a j : Nat} (hs : s.size ≤ 65536) (hj : j + 1 < s.size) (h1 : bt s j = 42) (h2 : bt s ((j : Int) + 1) = 47) (hn : ∀ m : Nat, a ≤ m → m < j → ¬ (bt s m = 42 ∧ bt s ((m : Int) + 1) = 47)) :
    ∀ d m : Nat, a ≤ m → m + d = j → Ev (fun k => waymarkref07_closed.l1 k s m) ((j : Int) + 2) := by
  intro d
  induction d with
  | zero =>
    intro m hm hd
    obtain rfl : m = j := by omega
    refine Ev.step (fun k => by rw [waymarkref07_closed.l1]) ?_
    rw [w64_id _ (by omega) (by omega), w64_id _ (by omega) (by omega)]
    exact ev_pos (by omega) (ev_pos (by omega) (ev_pos (by omega) (ev_pos h1 (ev_pos (by omega) (ev_pos h2 (ev_now _))))))
  | succ d ih =>
    intro m hm hd
    have e := ih (m + 1) (by omega) (by omega)
    have hno := hn m hm (by omega)
    refine Ev.step (fun k => by rw [waymarkref07_closed.l1]) ?_
    rw [w64_id _ (by omega) (by omega), w64_id _ (by omega) (by omega)]
    refine ev_pos (by omega) (ev_pos (by omega) (ev_pos (by omega) ?_))
    by_cases hc : bt s m = 42
    · exact ev_pos hc (ev_pos (by omega) (ev_neg (fun h => hno ⟨hc, h⟩) e))
    · exact ev_neg hc e
theorem closedC_miss {s : ByteArray} {a : Nat} (hs : s.size ≤ 65536) (hn : ∀ m : Nat, a ≤ m → m + 1 < s.size → ¬ (bt s m = 42 ∧ bt s ((m : Int) + 1) = 47)) :
    ∀ d m : Nat, a ≤ m → m + d = s.size → Ev (fun k => waymarkref07_closed.l1 k s m) (-1) := by
  intro d
  induction d with
  | zero =>
    intro m hm hd
    refine Ev.step (fun k => by rw [waymarkref07_closed.l1]) ?_
    rw [w64_id _ (by omega) (by omega), w64_id _ (by omega) (by omega)]
    exact ev_neg (by omega) (ev_now _)
  | succ d ih =>
    intro m hm hd
    have e := ih (m + 1) (by omega) (by omega)
    refine Ev.step (fun k => by rw [waymarkref07_closed.l1]) ?_
    rw [w64_id _ (by omega) (by omega), w64_id _ (by omega) (by omega)]
    by_cases hl : m + 1 < s.size
    · have hno := hn m hm hl
      refine ev_pos (by omega) (ev_pos (by omega) (ev_pos (by omega) ?_))
      by_cases hc : bt s m = 42
      · exact ev_pos hc (ev_pos (by omega) (ev_neg (fun h => hno ⟨hc, h⟩) e))
      · exact ev_neg hc e
    · exact ev_neg (by omega) (ev_now _)
theorem closedQ_hit {s : ByteArray} {a j : Nat} (hs : s.size ≤ 65536) (hj : j < s.size) (h1 : bt s j = 34) (hn : ∀ m : Nat, a ≤ m → m < j → ¬ bt s m = 10 ∧ ¬ bt s m = 34) :
    ∀ d m : Nat, a ≤ m → m + d = j → Ev (fun k => waymarkref07_closed.l0 k s m) ((j : Int) + 1) := by
  intro d
  induction d with
  | zero =>
    intro m hm hd
    obtain rfl : m = j := by omega
    refine Ev.step (fun k => by rw [waymarkref07_closed.l0]) (ev_pos (by omega) (ev_pos (by omega) (Ev.step (fun k => by rw [waymarkref07_closed.j1]) ?_)))
    rw [w64_id _ (by omega) (by omega)]
    exact ev_pos (by rw [h1]; rfl) (ev_pos (by omega) (ev_pos (by omega) (ev_pos h1 (ev_now _))))
  | succ d ih =>
    intro m hm hd
    have e := ih (m + 1) (by omega) (by omega)
    obtain ⟨n1, n2⟩ := hn m hm (by omega)
    refine Ev.step (fun k => by rw [waymarkref07_closed.l0]) (ev_pos (by omega) (ev_pos (by omega) (Ev.step (fun k => by rw [waymarkref07_closed.j1]) ?_)))
    rw [w64_id _ (by omega) (by omega)]
    exact ev_pos (bne_iff_ne.2 n1) (ev_pos (by omega) (ev_pos (by omega) (ev_neg n2 e)))
theorem closedQ_miss {s : ByteArray} {a j : Nat} (hs : s.size ≤ 65536) (hj : j ≤ s.size) (he : j = s.size ∨ bt s j = 10) (hn : ∀ m : Nat, a ≤ m → m < j → ¬ bt s m = 10 ∧ ¬ bt s m = 34) :
    ∀ d m : Nat, a ≤ m → m + d = j → Ev (fun k => waymarkref07_closed.l0 k s m) (-1) := by
  intro d
  induction d with
  | zero =>
    intro m hm hd
    obtain rfl : m = j := by omega
    by_cases hl : m < s.size
    · have h1 : bt s m = 10 := by rcases he with h | h; omega; exact h
      exact Ev.step (fun k => by rw [waymarkref07_closed.l0]) (ev_pos (by omega) (ev_pos (by omega) (Ev.step (fun k => by rw [waymarkref07_closed.j1]) (ev_neg (by rw [h1]; decide) (ev_now _)))))
    · exact Ev.step (fun k => by rw [waymarkref07_closed.l0]) (ev_neg (by omega) (Ev.step (fun k => by rw [waymarkref07_closed.j1]) (ev_neg (by decide) (ev_now _))))
  | succ d ih =>
    intro m hm hd
    have e := ih (m + 1) (by omega) (by omega)
    obtain ⟨n1, n2⟩ := hn m hm (by omega)
    refine Ev.step (fun k => by rw [waymarkref07_closed.l0]) (ev_pos (by omega) (ev_pos (by omega) (Ev.step (fun k => by rw [waymarkref07_closed.j1]) ?_)))
    rw [w64_id _ (by omega) (by omega)]
    exact ev_pos (bne_iff_ne.2 n1) (ev_pos (by omega) (ev_pos (by omega) (ev_neg n2 e)))
theorem begins_val (s : ByteArray) (i : Nat) (h : i < s.size) (hs : s.size ≤ 65536) : waymarkref07_begins.f s i = some (decide (i + 1 < s.size ∧ bt s i = 47 ∧ bt s ((i : Int) + 1) = 42)) := by
  unfold waymarkref07_begins.f
  rw [w64_id _ (by omega) (by omega)]
  by_cases h1 : i + 1 < s.size
  · rw [if_pos (by omega), if_pos (by omega), if_pos (by omega)]
    by_cases h2 : bt s i = 47
    · rw [if_pos h2, if_pos (by omega)]
      by_cases h3 : bt s ((i : Int) + 1) = 42
      · simp [h1, h2, h3]
      · simp [h1, h2, h3]
    · rw [if_neg h2]
      simp [h2]
  · rw [if_neg (by omega)]
    simp [h1]
theorem sign_val (c : Int) : waymarkref07_sign.f c = some (sgn c) := by
  unfold waymarkref07_sign.f sgn
  repeat' split
  all_goals first | rfl | omega
/-- Where a word ends. -/
def stop (s : ByteArray) (m : Nat) : Bool := decide (bt s m = 32 ∨ bt s m = 10 ∨ bt s m = 34 ∨ bt s m = 35 ∨ ¬ sgn (bt s m) = 0) || decide (m + 1 < s.size ∧ bt s m = 47 ∧ bt s ((m : Int) + 1) = 42)
theorem isEnd_val (s : ByteArray) (i k : Nat) (h : i + k < s.size) : isEnd (s.extract i s.size) k = stop s (i + k) := by
  have hsz : (s.extract i s.size).size = s.size - i := by rw [ByteArray.size_extract]; omega
  unfold isEnd stop
  rw [bt_ext s i k s.size (by omega) h, end_idx _ (bt_nn _ _), hsz, ext_ext s i k (s.size - i) (by omega), show i + (s.size - i) = s.size by omega, list_ext]
  unfold Lib.hasPrefix
  rw [pre2]
  rfl
theorem isLine_val (s : ByteArray) (i k : Nat) (h : i + k < s.size) : isLine (s.extract i s.size) k = (bt s (i + k : Nat) == 10) := by
  unfold isLine
  rw [bt_ext s i k s.size (by omega) h]
/-- The word loop of the reference: from a place inside a word to the word's end. -/
theorem rl2 {s : ByteArray} {out : List S96} {i j : Nat} {r : List S96 × Int × Int × Int} (hs : s.size ≤ 65536) (hi : i ≤ j) (hj : j ≤ s.size) (ho : out.length < 3518437208883) (hn : ∀ m, i ≤ m → m < j → stop s m = false) (he : j = s.size ∨ stop s j = true)
    (hr : Ev (fun k => waymarkref07_Tokens.l0 k s (out ++ [⟨1, s.extract i j, ⟨(pl s i).1, (pl s i).2⟩⟩]) j) r) :
    ∀ d m : Nat, i ≤ m → m + d = j → Ev (fun k => waymarkref07_Tokens.l2 k s out m i) r := by
  have fin : Ev (fun k => waymarkref07_Tokens.j5 k s out j i false) r := by
    refine Ev.step (fun k => by rw [waymarkref07_Tokens.j5]) (ev_neg (by decide) (ev_pos (by omega) (ev_pos (by omega) (ev_pos (by omega) (ev_bind _ (rat_val s i (by omega) hs) (ev_pos ho ?_))))))
    rw [Int.toNat_natCast, Int.toNat_natCast]
    exact hr
  intro d
  induction d with
  | zero =>
    intro m hm hd
    obtain rfl : m = j := by omega
    by_cases hl : m < s.size
    · have hst : stop s m = true := by rcases he with h | h; omega; exact h
      refine Ev.step (fun k => by rw [waymarkref07_Tokens.l2]) (ev_pos (by omega) (ev_pos (by omega) ?_))
      by_cases h1 : bt s m = 32
      · exact ev_pos h1 fin
      refine ev_neg h1 ?_
      by_cases h2 : bt s m = 10
      · exact ev_pos h2 fin
      refine ev_neg h2 ?_
      by_cases h3 : bt s m = 34
      · exact ev_pos h3 fin
      refine ev_neg h3 ?_
      by_cases h4 : bt s m = 35
      · exact ev_pos h4 fin
      refine ev_neg h4 (ev_is _ (sign_val _) ?_)
      by_cases h5 : sgn (bt s m) = 0
      · refine ev_pos h5 (ev_is _ (begins_val s m hl hs) ?_)
        simp only [stop, h1, h2, h3, h4, h5, not_true_eq_false, or_self, decide_false, Bool.false_or] at hst
        rw [hst]
        exact fin
      · exact ev_neg h5 fin
    · exact Ev.step (fun k => by rw [waymarkref07_Tokens.l2]) (ev_neg (by omega) fin)
  | succ d ih =>
    intro m hm hd
    have hst := hn m hm (by omega)
    have e := ih (m + 1) (by omega) (by omega)
    simp only [stop, Bool.or_eq_false_iff, decide_eq_false_iff_not, not_or] at hst
    obtain ⟨⟨h1, h2, h3, h4, h5⟩, h6⟩ := hst
    have h5 : sgn (bt s m) = 0 := by simpa using h5
    refine Ev.step (fun k => by rw [waymarkref07_Tokens.l2]) (ev_pos (by omega) (ev_pos (by omega) (ev_neg h1 (ev_neg h2 (ev_neg h3 (ev_neg h4 (ev_is _ (sign_val _) (ev_pos h5 (ev_is _ (begins_val s m (by omega) hs) ?_)))))))))
    rw [decide_eq_false h6]
    refine Ev.step (fun k => by rw [waymarkref07_Tokens.j5]) (ev_pos (show (!false) = true from rfl) ?_)
    rw [w64_id _ (by omega) (by omega)]
    exact e
/-- A token as both have it. -/
structure Tk where
  kind : Int
  text : ByteArray
  line : Int
  col : Int
def Tk.a (t : Tk) : S59 := ⟨t.kind, t.text, ⟨t.line, t.col⟩⟩
def Tk.b (t : Tk) : S96 := ⟨t.kind, t.text, ⟨t.line, t.col⟩⟩
def resA (out : List S59) (A : List Tk) (e : Int × Int × Int) : List S59 × Int × Int × Int := if e.2.2 = 0 then (out ++ A.map Tk.a, 0, 0, 0) else ([], e)
def resB (out : List S96) (A : List Tk) (e : Int × Int × Int) : List S96 × Int × Int × Int := if e.2.2 = 0 then (out ++ A.map Tk.b, 0, 0, 0) else ([], e)
theorem resA_cons (out : List S59) (t : Tk) (A : List Tk) (e : Int × Int × Int) : resA (out ++ [t.a]) A e = resA out (t :: A) e := by
  unfold resA; split <;> simp
theorem resB_cons (out : List S96) (t : Tk) (A : List Tk) (e : Int × Int × Int) : resB (out ++ [t.b]) A e = resB out (t :: A) e := by
  unfold resB; split <;> simp
/-- What both answer from place i on. -/
def From (s : ByteArray) (i : Nat) : Prop := ∃ (A : List Tk) (e : Int × Int × Int), A.length ≤ s.size - i ∧ ∀ (oa : List S59) (ob : List S96), oa.length ≤ i → ob.length ≤ i →
  Ev (fun k => lex_Tokens.l0 k (s.extract i s.size) (pl s i).1 (pl s i).2 oa) (resA oa A e) ∧ Ev (fun k => waymarkref07_Tokens.l0 k s ob i) (resB ob A e)
theorem lex_skip {s : ByteArray} {i j : Nat} {oa : List S59} {r : List S59 × Int × Int × Int} (hne : ¬ s.extract i s.size = ⟨#[]⟩)
    (ht : Ev (fun k => lex_reader_token.f k (s.extract i s.size) (pl s i).1 (pl s i).2) (1, ⟨#[]⟩, (pl s i).1, (pl s i).2, false, 0, s.extract j s.size, (pl s j).1, (pl s j).2))
    (hr : Ev (fun k => lex_Tokens.l0 k (s.extract j s.size) (pl s j).1 (pl s j).2 oa) r) : Ev (fun k => lex_Tokens.l0 k (s.extract i s.size) (pl s i).1 (pl s i).2 oa) r :=
  Ev.step (fun k => by rw [lex_Tokens.l0, if_neg hne]) (ev_bind _ ht (ev_pos rfl (ev_neg (fun h => absurd h Bool.false_ne_true) hr)))
theorem lex_put {s : ByteArray} {i j : Nat} {oa : List S59} {t : Tk} {r : List S59 × Int × Int × Int} (hne : ¬ s.extract i s.size = ⟨#[]⟩) (ho : oa.length < 3518437208883) (hl : t.line = (pl s i).1) (hc : t.col = (pl s i).2)
    (ht : Ev (fun k => lex_reader_token.f k (s.extract i s.size) (pl s i).1 (pl s i).2) (t.kind, t.text, t.line, t.col, true, 0, s.extract j s.size, (pl s j).1, (pl s j).2))
    (hr : Ev (fun k => lex_Tokens.l0 k (s.extract j s.size) (pl s j).1 (pl s j).2 (oa ++ [t.a])) r) : Ev (fun k => lex_Tokens.l0 k (s.extract i s.size) (pl s i).1 (pl s i).2 oa) r :=
  Ev.step (fun k => by rw [lex_Tokens.l0, if_neg hne]) (ev_bind _ ht (ev_pos rfl (ev_pos rfl (ev_pos ho hr))))
theorem lex_err {s : ByteArray} {i : Nat} {oa : List S59} (hne : ¬ s.extract i s.size = ⟨#[]⟩)
    (ht : Ev (fun k => lex_reader_token.f k (s.extract i s.size) (pl s i).1 (pl s i).2) (1, ⟨#[]⟩, (pl s i).1, (pl s i).2, false, 71, s.extract i s.size, (pl s i).1, (pl s i).2)) : Ev (fun k => lex_Tokens.l0 k (s.extract i s.size) (pl s i).1 (pl s i).2 oa) (resA oa [] ((pl s i).1, (pl s i).2, 71)) :=
  Ev.step (fun k => by rw [lex_Tokens.l0, if_neg hne]) (ev_bind _ ht (ev_neg (show ¬ (71 : Int) = 0 by decide) (ev_now _)))
section
variable {s : ByteArray} {i : Nat} {ob : List S96} {r : List S96 × Int × Int × Int}
theorem ref_blank (hi : i < s.size) (hs : s.size ≤ 65536) (h : bt s i = 32 ∨ bt s i = 10) (hr : Ev (fun k => waymarkref07_Tokens.l0 k s ob ((i + 1 : Nat) : Int)) r) : Ev (fun k => waymarkref07_Tokens.l0 k s ob i) r := by
  have e : Ev (fun k => waymarkref07_Tokens.j1 k s ob i true) r := by
    refine Ev.step (fun k => by rw [waymarkref07_Tokens.j1]) (ev_pos rfl ?_)
    rw [w64_id _ (by omega) (by omega)]
    exact hr
  refine Ev.step (fun k => by rw [waymarkref07_Tokens.l0]) (ev_pos (by omega) (ev_pos (by omega) ?_))
  by_cases h1 : bt s i = 32
  · exact ev_pos h1 e
  · refine ev_neg h1 ?_
    rw [show (bt s i == 10) = true by rcases h with h | h; exact absurd h h1; simp [h]]
    exact e
theorem ref_to_j1 (hi : i < s.size) (h1 : ¬ bt s i = 32) (h2 : ¬ bt s i = 10) (hr : Ev (fun k => waymarkref07_Tokens.j1 k s ob i false) r) : Ev (fun k => waymarkref07_Tokens.l0 k s ob i) r := by
  refine Ev.step (fun k => by rw [waymarkref07_Tokens.l0]) (ev_pos (by omega) (ev_pos (by omega) (ev_neg h1 ?_)))
  rw [show (bt s i == 10) = false by simpa using h2]
  exact hr
theorem ref_35 (hi : i < s.size) (h : bt s i = 35) (hr : Ev (fun k => waymarkref07_Tokens.l1 k s ob i) r) : Ev (fun k => waymarkref07_Tokens.j1 k s ob i false) r :=
  Ev.step (fun k => by rw [waymarkref07_Tokens.j1]) (ev_neg (by decide) (ev_pos (by omega) (ev_pos (by omega) (ev_pos h hr))))
theorem ref_to_j3 (hi : i < s.size) (hs : s.size ≤ 65536) (h : ¬ bt s i = 35) (hr : Ev (fun k => waymarkref07_Tokens.j3 k s ob i (decide ((i + 1 < s.size ∧ bt s i = 47 ∧ bt s ((i : Int) + 1) = 42) ∨ bt s i = 34))) r) : Ev (fun k => waymarkref07_Tokens.j1 k s ob i false) r := by
  refine Ev.step (fun k => by rw [waymarkref07_Tokens.j1]) (ev_neg (by decide) (ev_pos (by omega) (ev_pos (by omega) (ev_neg h (ev_is _ (begins_val s i hi hs) ?_)))))
  by_cases hb : i + 1 < s.size ∧ bt s i = 47 ∧ bt s ((i : Int) + 1) = 42
  · rw [decide_eq_true (.inl hb)] at hr
    exact ev_pos (decide_eq_true hb) hr
  · refine ev_neg (by rw [decide_eq_false hb]; decide) ?_
    rw [show (bt s i == 34) = decide ((i + 1 < s.size ∧ bt s i = 47 ∧ bt s ((i : Int) + 1) = 42) ∨ bt s i = 34) by simp only [hb, false_or]; by_cases h34 : bt s i = 34 <;> simp [h34]]
    exact hr
end
theorem steps (s : ByteArray) (hs : s.size ≤ 65536) (hg : ∀ j, j < s.size → good s j) : ∀ d i : Nat, i + d = s.size → From s i := by
  intro d
  induction d using Nat.strongRecOn with
  | _ d IH =>
  intro i hi
  by_cases hlt : i < s.size
  · have ih : ∀ j, i < j → j ≤ s.size → From s j := fun j h1 h2 => IH (s.size - j) (by omega) j (by omega)
    have hsz : (s.extract i s.size).size = s.size - i := by rw [ByteArray.size_extract]; omega
    have hne : ¬ s.extract i s.size = ⟨#[]⟩ := fun h => by
      have := congrArg ByteArray.size h
      rw [hsz] at this
      have : s.size - i = 0 := this
      omega
    have hP : 0 < (s.extract i s.size).size ∧ (s.extract i s.size).size ≤ 65536 ∧ (s.extract i s.size).data.toList.all (fun b => decide (b.toNat < 128)) = true := by
      refine ⟨by omega, by omega, List.all_eq_true.2 fun b hb => decide_eq_true ?_⟩
      rw [list_ext] at hb
      obtain ⟨j, hj⟩ := List.mem_iff_getElem?.1 (List.mem_of_mem_drop hb)
      have hjl : j < s.size := by
        have := (List.getElem?_eq_some_iff.1 hj).1
        rw [size_list] at this
        exact this
      rw [bt_list s j hjl] at hj
      obtain rfl := Option.some.inj hj
      have h1 := bt_nn s j
      have h2 := (byte_eq (bt s j) h1 (bt s j).toNat.toUInt8).1 rfl
      rcases hg j hjl with h | h <;> omega
    have b0 : bt (s.extract i s.size) 0 = bt s i := bt_ext s i 0 s.size (by omega) (by omega)
    have hnn := bt_nn s i
    have t1 : Ev (fun k => lex_reader_take.f k (s.extract i s.size) (pl s i).1 (pl s i).2 1) (s.extract i (i + 1), s.extract (i + 1) s.size, (pl s (i + 1)).1, (pl s (i + 1)).2) := take_val s i 1 (by omega) hs
    have hat := rat_val s i (by omega) hs
    by_cases h32 : bt s i = 32 ∨ bt s i = 10
    · obtain ⟨A, e, hA, H⟩ := ih (i + 1) (by omega) (by omega)
      refine ⟨A, e, by omega, fun oa ob ha hb => ⟨lex_skip (j := i + 1) hne (Ev.congr (fun k => by rw [lex_reader_token.f, if_pos hP, if_pos (by rw [b0]; exact h32)]) (ev_bind _ t1 (ev_now _))) (H oa ob (by omega) (by omega)).1, ref_blank hlt hs h32 (H oa ob (by omega) (by omega)).2⟩⟩
    have n32 : ¬ bt s i = 32 := fun h => h32 (.inl h)
    have n10 : ¬ bt s i = 10 := fun h => h32 (.inr h)
    by_cases h35 : bt s i = 35
    · obtain ⟨m, em, m0, m1, m2, m3⟩ := scan_spec (isLine (s.extract i s.size)) (s.size - i) (s.size - i) 0 (by omega)
      have mp : 0 < m := by
        rcases Nat.eq_zero_or_pos m with h | h
        · subst h
          rcases m3 with h | h
          · omega
          · rw [isLine_val s i 0 (by omega)] at h
            have := beq_iff_eq.1 h
            exact absurd this n10
        · exact h
      obtain ⟨A, e, hA, H⟩ := ih (i + m) (by omega) (by omega)
      have hl1 : ∀ j, i ≤ j → j < i + m → ¬ bt s j = 10 := fun j h1 h2 => by
        have := m2 (j - i) (by omega) (by omega)
        rw [isLine_val s i (j - i) (by omega), show i + (j - i) = j by omega] at this
        simpa using this
      have hl2 : i + m = s.size ∨ bt s (i + m : Nat) = 10 := by
        by_cases hm : m = s.size - i
        · left; omega
        · right
          rcases m3 with h | h
          · exact absurd h hm
          · rw [isLine_val s i m (by omega)] at h
            exact beq_iff_eq.1 h
      refine ⟨A, e, by omega, fun oa ob ha hb => ⟨lex_skip (j := i + m) hne (Ev.congr (fun k => by rw [lex_reader_token.f, if_pos hP, if_neg (by rw [b0]; exact h32), if_pos (b0.trans h35), hsz, em]) (ev_bind _ (take_val s i m (by omega) hs) (ev_now _))) (H oa ob (by omega) (by omega)).1, ?_⟩⟩
      exact ref_to_j1 hlt n32 n10 (ref_35 hlt h35 (rl1 hs (by omega) hl1 hl2 (H oa ob (by omega) (by omega)).2 m i (by omega) rfl))
    have hp_eq : Lib.hasPrefix (s.extract i s.size).data.toList [47, 42] = decide (i + 1 < s.size ∧ bt s i = 47 ∧ bt s ((i : Int) + 1) = 42) := by
      rw [list_ext]
      unfold Lib.hasPrefix
      rw [pre2]
      rfl
    by_cases hc : i + 1 < s.size ∧ bt s i = 47 ∧ bt s ((i : Int) + 1) = 42
    · have hp := hp_eq.trans (decide_eq_true hc)
      have n34 : ¬ bt s i = 34 := by rw [hc.2.1]; decide
      have occ : ∀ j, Lib.occAt ((s.extract i s.size).data.toList.drop 2) [42, 47] j = decide (i + 2 + j + 1 < s.size ∧ bt s (i + 2 + j : Nat) = 42 ∧ bt s (((i + 2 + j : Nat) : Int) + 1) = 47) := fun j => by
        rw [list_ext, List.drop_drop]
        unfold Lib.occAt
        rw [List.drop_drop, pre2]
        rfl
      have toJ3 : ∀ {ob : List S96} {r : List S96 × Int × Int × Int}, Ev (fun k => waymarkref07_Tokens.j3 k s ob i true) r → Ev (fun k => waymarkref07_Tokens.l0 k s ob i) r := fun {ob r} hr =>
        ref_to_j1 hlt n32 n10 (ref_to_j3 hlt hs h35 (by rw [decide_eq_true (.inl hc)]; exact hr))
      rcases Lib.index_spec ((s.extract i s.size).data.toList.drop 2) [42, 47] with ⟨en, hno⟩ | ⟨m, en, hml, hoc, hno⟩
      · have cl : Ev (fun k => waymarkref07_closed.f k s i) (-1) := by
          refine Ev.congr (fun k => by rw [waymarkref07_closed.f]) (ev_pos (by omega) (ev_pos (by omega) (ev_neg n34 ?_)))
          rw [w64_id _ (by omega) (by omega)]
          refine closedC_miss (a := i + 2) hs (fun m h1 h2 h3 => ?_) (s.size - (i + 2)) (i + 2) (by omega) (by omega)
          have := hno (m - (i + 2)) (by rw [list_ext, List.drop_drop, List.length_drop, size_list]; omega)
          rw [occ, show i + 2 + (m - (i + 2)) = m by omega] at this
          exact absurd ⟨h2, h3⟩ (of_decide_eq_false this)
        refine ⟨[], ((pl s i).1, (pl s i).2, 71), by simp, fun oa ob _ _ => ⟨lex_err hne (Ev.congr (fun k => by rw [lex_reader_token.f, if_pos hP, if_neg (by rw [b0]; exact h32), if_neg (by rw [b0]; exact h35), if_pos hp, if_pos (by rw [en]; decide)]) (ev_now _)), ?_⟩⟩
        refine toJ3 (Ev.step (fun k => by rw [waymarkref07_Tokens.j3]) (ev_pos rfl (ev_bind _ cl (ev_pos (show (-1 : Int) < 0 by decide) (ev_bind _ hat ?_)))))
        exact ev_now (([], (pl s i).1, (pl s i).2, 71) : List S96 × Int × Int × Int)
      · rw [occ] at hoc
        obtain ⟨o1, o2, o3⟩ := of_decide_eq_true hoc
        obtain ⟨A, e, hA, H⟩ := ih (i + (m + 4)) (by omega) (by omega)
        have cl : Ev (fun k => waymarkref07_closed.f k s i) ((i + (m + 4) : Nat) : Int) := by
          refine Ev.congr (fun k => by rw [waymarkref07_closed.f]) (ev_pos (by omega) (ev_pos (by omega) (ev_neg n34 ?_)))
          rw [w64_id _ (by omega) (by omega)]
          refine ev_to (closedC_hit (a := i + 2) (j := i + 2 + m) hs o1 o2 o3 (fun m2 h1 h2 h3 => ?_) m (i + 2) (by omega) (by omega)) (by omega)
          have := hno (m2 - (i + 2)) (by omega)
          rw [occ, show i + 2 + (m2 - (i + 2)) = m2 by omega] at this
          exact absurd ⟨by omega, h3⟩ (of_decide_eq_false this)
        have tk : Ev (fun k => lex_reader_take.f k (s.extract i s.size) (pl s i).1 (pl s i).2 (Lib.index ((s.extract i s.size).data.toList.drop 2) [42, 47] + 4)) (s.extract i (i + (m + 4)), s.extract (i + (m + 4)) s.size, (pl s (i + (m + 4))).1, (pl s (i + (m + 4))).2) := by
          rw [en]
          exact take_val s i (m + 4) (by omega) hs
        refine ⟨A, e, by omega, fun oa ob ha hb => ⟨lex_skip (j := i + (m + 4)) hne (Ev.congr (fun k => by rw [lex_reader_token.f, if_pos hP, if_neg (by rw [b0]; exact h32), if_neg (by rw [b0]; exact h35), if_pos hp, if_neg (by rw [en]; omega)]) (ev_bind _ tk (ev_now _))) (H oa ob (by omega) (by omega)).1, ?_⟩⟩
        refine toJ3 (Ev.step (fun k => by rw [waymarkref07_Tokens.j3]) ?_)
        refine ev_pos rfl (ev_bind _ cl ?_)
        exact ev_neg (by omega) (ev_pos (by omega) (ev_pos (by omega) (ev_neg n34 (H oa ob (by omega) (by omega)).2)))
    have hp : ¬ Lib.hasPrefix (s.extract i s.size).data.toList [47, 42] = true := by rw [hp_eq, decide_eq_false hc]; decide
    by_cases h34 : bt s i = 34
    · have hget : ∀ j, i + 1 + j < s.size → ((s.extract i s.size).data.toList.drop 1)[j]? = some (bt s (i + 1 + j : Nat)).toNat.toUInt8 := fun j hj => by
        rw [list_ext, List.drop_drop, List.getElem?_drop, bt_list s (i + 1 + j) hj]
      have hmem : ∀ j, [(34 : UInt8), 10].contains (bt s (j : Nat)).toNat.toUInt8 = decide (bt s j = 34 ∨ bt s j = 10) := fun j => by
        have e1 := byte_eq (bt s j) (bt_nn s j) 34
        have e2 := byte_eq (bt s j) (bt_nn s j) 10
        have e1 : (bt s j).toNat.toUInt8 = 34 ↔ bt s j = 34 := e1
        have e2 : (bt s j).toNat.toUInt8 = 10 ↔ bt s j = 10 := e2
        rw [Bool.eq_iff_iff, List.contains_iff_mem, decide_eq_true_iff, List.mem_cons, List.mem_singleton, e1, e2]
      have toJ3 : ∀ {ob : List S96} {r : List S96 × Int × Int × Int}, Ev (fun k => waymarkref07_Tokens.j3 k s ob i true) r → Ev (fun k => waymarkref07_Tokens.l0 k s ob i) r := fun {ob r} hr =>
        ref_to_j1 hlt n32 n10 (ref_to_j3 hlt hs h35 (by rw [decide_eq_true (.inr h34)]; exact hr))
      have err : ∀ j : Nat, i + 1 ≤ j → j ≤ s.size → (j = s.size ∨ bt s j = 10) → (∀ m : Nat, i + 1 ≤ m → m < j → ¬ bt s m = 10 ∧ ¬ bt s m = 34) → ∀ ob : List S96, Ev (fun k => waymarkref07_Tokens.l0 k s ob i) (resB ob [] ((pl s i).1, (pl s i).2, 71)) := fun j j1 j2 j3 j4 ob => by
        have cl : Ev (fun k => waymarkref07_closed.f k s i) (-1) := by
          refine Ev.congr (fun k => by rw [waymarkref07_closed.f]) (ev_pos (by omega) (ev_pos (by omega) (ev_pos h34 ?_)))
          rw [w64_id _ (by omega) (by omega)]
          exact closedQ_miss (a := i + 1) (j := j) hs j2 j3 j4 (j - (i + 1)) (i + 1) (by omega) (by omega)
        refine toJ3 (Ev.step (fun k => by rw [waymarkref07_Tokens.j3]) (ev_pos rfl (ev_bind _ cl (ev_pos (show (-1 : Int) < 0 by decide) (ev_bind _ hat ?_)))))
        exact ev_now (([], (pl s i).1, (pl s i).2, 71) : List S96 × Int × Int × Int)
      rcases indexAny_spec ((s.extract i s.size).data.toList.drop 1) [34, 10] with ⟨en, hno⟩ | ⟨m, en, ⟨b, hb0, hb1⟩, hno⟩
      · refine ⟨[], ((pl s i).1, (pl s i).2, 71), by simp, fun oa ob _ _ => ⟨lex_err hne (Ev.congr (fun k => by rw [lex_reader_token.f, if_pos hP, if_neg (by rw [b0]; exact h32), if_neg (by rw [b0]; exact h35), if_neg hp, if_pos (b0.trans h34), if_pos (.inl (by rw [en]; decide))]) (ev_now _)), err s.size (by omega) (by omega) (.inl rfl) (fun m h1 h2 => ?_) ob⟩⟩
        have := hno (m - (i + 1)) _ (hget _ (by omega))
        rw [hmem, show i + 1 + (m - (i + 1)) = m by omega] at this
        have := of_decide_eq_false this
        exact ⟨fun h => this (.inr h), fun h => this (.inl h)⟩
      · have hml : i + 1 + m < s.size := by
          have := (List.getElem?_eq_some_iff.1 hb0).1
          rw [list_ext, List.drop_drop, List.length_drop, size_list] at this
          omega
        rw [hget m hml] at hb0
        obtain rfl := Option.some.inj hb0
        rw [hmem] at hb1
        have hb1 := of_decide_eq_true hb1
        have hb2 : ∀ m2 : Nat, i + 1 ≤ m2 → m2 < i + 1 + m → ¬ bt s m2 = 10 ∧ ¬ bt s m2 = 34 := fun m2 h1 h2 => by
          have := hno (m2 - (i + 1)) _ (by omega) (hget _ (by omega))
          rw [hmem, show i + 1 + (m2 - (i + 1)) = m2 by omega] at this
          have := of_decide_eq_false this
          exact ⟨fun h => this (.inr h), fun h => this (.inl h)⟩
        have bn : bt (s.extract i s.size) (Lib.indexAny ((s.extract i s.size).data.toList.drop 1) [34, 10] + 1) = bt s (i + 1 + m : Nat) := by
          rw [en]
          have := bt_ext s i (m + 1) s.size (by omega) (by omega)
          rw [show i + (m + 1) = i + 1 + m by omega] at this
          exact this
        by_cases hten : bt s (i + 1 + m : Nat) = 10
        · exact ⟨[], ((pl s i).1, (pl s i).2, 71), by simp, fun oa ob _ _ => ⟨lex_err hne (Ev.congr (fun k => by rw [lex_reader_token.f, if_pos hP, if_neg (by rw [b0]; exact h32), if_neg (by rw [b0]; exact h35), if_neg hp, if_pos (b0.trans h34), if_pos (.inr (bn.trans hten))]) (ev_now _)), err (i + 1 + m) (by omega) (by omega) (.inr hten) hb2 ob⟩⟩
        have hq : bt s (i + 1 + m : Nat) = 34 := by rcases hb1 with h | h; exact h; exact absurd h hten
        obtain ⟨A, e, hA, H⟩ := ih (i + (m + 2)) (by omega) (by omega)
        have cl : Ev (fun k => waymarkref07_closed.f k s i) ((i + (m + 2) : Nat) : Int) := by
          refine Ev.congr (fun k => by rw [waymarkref07_closed.f]) (ev_pos (by omega) (ev_pos (by omega) (ev_pos h34 ?_)))
          rw [w64_id _ (by omega) (by omega)]
          exact ev_to (closedQ_hit (a := i + 1) (j := i + 1 + m) hs hml hq hb2 m (i + 1) (by omega) (by omega)) (by omega)
        have tk : Ev (fun k => lex_reader_take.f k (s.extract i s.size) (pl s i).1 (pl s i).2 (Lib.indexAny ((s.extract i s.size).data.toList.drop 1) [34, 10] + 2)) (s.extract i (i + (m + 2)), s.extract (i + (m + 2)) s.size, (pl s (i + (m + 2))).1, (pl s (i + (m + 2))).2) := by
          rw [en]
          exact take_val s i (m + 2) (by omega) hs
        have ex : (s.extract i (i + (m + 2))).extract 1 (Lib.indexAny ((s.extract i s.size).data.toList.drop 1) [34, 10] + 1).toNat = s.extract (i + 1) (i + m + 1) := by
          rw [en, ByteArray.extract_extract]
          congr 1
          omega
        refine ⟨⟨1, s.extract (i + 1) (i + m + 1), (pl s i).1, (pl s i).2⟩ :: A, e, by rw [List.length_cons]; omega, fun oa ob ha hb => ?_⟩
        obtain ⟨H1, H2⟩ := H (oa ++ [Tk.a ⟨1, s.extract (i + 1) (i + m + 1), (pl s i).1, (pl s i).2⟩]) (ob ++ [Tk.b ⟨1, s.extract (i + 1) (i + m + 1), (pl s i).1, (pl s i).2⟩]) (by rw [List.length_append]; simp; omega) (by rw [List.length_append]; simp; omega)
        rw [← resA_cons, ← resB_cons]
        refine ⟨lex_put (t := ⟨1, s.extract (i + 1) (i + m + 1), (pl s i).1, (pl s i).2⟩) (j := i + (m + 2)) hne (by omega) rfl rfl (Ev.congr (fun k => by rw [lex_reader_token.f, if_pos hP, if_neg (by rw [b0]; exact h32), if_neg (by rw [b0]; exact h35), if_neg hp, if_pos (b0.trans h34), if_neg (by rw [bn, en]; rintro (h | h); omega; exact hten h)]) (ev_bind _ tk (ev_to (ev_now _) (by simp only [ex])))) H1, ?_⟩
        refine toJ3 (Ev.step (fun k => by rw [waymarkref07_Tokens.j3]) ?_)
        refine ev_pos rfl (ev_bind _ cl ?_)
        refine ev_neg (by omega) (ev_pos (by omega) (ev_pos (by omega) (ev_pos h34 ?_)))
        rw [w64_id _ (by omega) (by omega), w64_id _ (by omega) (by omega)]
        refine ev_pos (by omega) (ev_pos (by omega) (ev_pos (by omega) (ev_bind _ hat (ev_pos (by omega) ?_))))
        rw [show (((i + (m + 2) : Nat) : Int) - 1).toNat = i + m + 1 by omega, show ((i : Int) + 1).toNat = i + 1 by omega]
        exact H2
    have toJ3 : ∀ {ob : List S96} {r : List S96 × Int × Int × Int}, Ev (fun k => waymarkref07_Tokens.j3 k s ob i false) r → Ev (fun k => waymarkref07_Tokens.l0 k s ob i) r := fun {ob r} hr =>
      ref_to_j1 hlt n32 n10 (ref_to_j3 hlt hs h35 (by rw [decide_eq_false (by rintro (h | h); exact hc h; exact h34 h)]; exact hr))
    have hidx := sgn_idx (bt s i) hnn
    by_cases hsg : sgn (bt s i) = 0
    · rw [if_pos hsg] at hidx
      obtain ⟨m, em, m0, m1, m2, m3⟩ := scan_spec (isEnd (s.extract i s.size)) (s.size - i) (s.size - i) 0 (by omega)
      have hst : stop s i = false := by
        simp [stop, n32, n10, h34, h35, hsg]
        intro a1 a2 a3
        exact hc ⟨a1, a2, a3⟩
      have mp : 0 < m := by
        rcases Nat.eq_zero_or_pos m with h | h
        · subst h
          rcases m3 with h | h
          · omega
          · rw [isEnd_val s i 0 (by omega)] at h
            rw [Nat.add_zero, hst] at h
            cases h
        · exact h
      have hw1 : ∀ j, i ≤ j → j < i + m → stop s j = false := fun j h1 h2 => by
        have := m2 (j - i) (by omega) (by omega)
        rw [isEnd_val s i (j - i) (by omega), show i + (j - i) = j by omega] at this
        exact this
      have hw2 : i + m = s.size ∨ stop s (i + m) = true := by
        by_cases hm : m = s.size - i
        · left; omega
        · right
          rcases m3 with h | h
          · exact absurd h hm
          · rw [isEnd_val s i m (by omega)] at h
            exact h
      obtain ⟨A, e, hA, H⟩ := ih (i + m) (by omega) (by omega)
      refine ⟨⟨1, s.extract i (i + m), (pl s i).1, (pl s i).2⟩ :: A, e, by rw [List.length_cons]; omega, fun oa ob ha hb => ?_⟩
      obtain ⟨H1, H2⟩ := H (oa ++ [Tk.a ⟨1, s.extract i (i + m), (pl s i).1, (pl s i).2⟩]) (ob ++ [Tk.b ⟨1, s.extract i (i + m), (pl s i).1, (pl s i).2⟩]) (by rw [List.length_append]; simp; omega) (by rw [List.length_append]; simp; omega)
      rw [← resA_cons, ← resB_cons]
      refine ⟨lex_put (t := ⟨1, s.extract i (i + m), (pl s i).1, (pl s i).2⟩) (j := i + m) hne (by omega) rfl rfl (Ev.congr (fun k => by rw [lex_reader_token.f, if_pos hP, if_neg (by rw [b0]; exact h32), if_neg (by rw [b0]; exact h35), if_neg hp, if_neg (by rw [b0]; exact h34), if_neg (by rw [b0, hidx]; decide), hsz, em]) (ev_bind _ (take_val s i m (by omega) hs) (ev_now _))) H1, ?_⟩
      refine toJ3 (Ev.step (fun k => by rw [waymarkref07_Tokens.j3]) ?_)
      refine ev_neg (by decide) (ev_pos (by omega) (ev_pos (by omega) (ev_is _ (sign_val _) ?_)))
      refine ev_neg (by omega) ?_
      exact rl2 hs (by omega) (by omega) (by omega) hw1 hw2 H2 m i (by omega) rfl
    · rw [if_neg hsg] at hidx
      have hpos : 0 < sgn (bt s i) := by
        unfold sgn at hsg ⊢
        repeat' split
        all_goals first | omega | (exfalso; apply hsg; simp_all)
      have hge : 2 ≤ sgn (bt s i) := by
        have := Lib.indexByte_ge [123, 125, 59, 91, 93] (bt s i).toNat.toUInt8
        unfold sgn at hsg ⊢
        repeat' split
        all_goals first | omega | (exfalso; apply hsg; simp_all)
      obtain ⟨A, e, hA, H⟩ := ih (i + 1) (by omega) (by omega)
      refine ⟨⟨sgn (bt s i), s.extract i (i + 1), (pl s i).1, (pl s i).2⟩ :: A, e, by rw [List.length_cons]; omega, fun oa ob ha hb => ?_⟩
      obtain ⟨H1, H2⟩ := H (oa ++ [Tk.a ⟨sgn (bt s i), s.extract i (i + 1), (pl s i).1, (pl s i).2⟩]) (ob ++ [Tk.b ⟨sgn (bt s i), s.extract i (i + 1), (pl s i).1, (pl s i).2⟩]) (by rw [List.length_append]; simp; omega) (by rw [List.length_append]; simp; omega)
      rw [← resA_cons, ← resB_cons]
      refine ⟨lex_put (t := ⟨sgn (bt s i), s.extract i (i + 1), (pl s i).1, (pl s i).2⟩) (j := i + 1) hne (by omega) rfl rfl (Ev.congr (fun k => by rw [lex_reader_token.f, if_pos hP, if_neg (by rw [b0]; exact h32), if_neg (by rw [b0]; exact h35), if_neg hp, if_neg (by rw [b0]; exact h34), if_pos (by rw [b0, hidx]; omega), b0, hidx, show 2 + (sgn (bt s i) - 2) = sgn (bt s i) by omega]) (ev_bind _ t1 (ev_now _))) H1, ?_⟩
      refine toJ3 (Ev.step (fun k => by rw [waymarkref07_Tokens.j3]) ?_)
      refine ev_neg (by decide) (ev_pos (by omega) (ev_pos (by omega) (ev_is _ (sign_val _) ?_)))
      refine ev_pos hpos (ev_is _ (sign_val _) ?_)
      rw [w64_id _ (by omega) (by omega), Int.toNat_natCast, show ((i : Int) + 1).toNat = i + 1 by omega]
      exact ev_pos (by omega) (ev_pos (by omega) (ev_bind _ hat (ev_pos (by omega) H2)))
  · have hi : i = s.size := by omega
    subst hi
    refine ⟨[], (0, 0, 0), by simp, fun oa ob _ _ => ⟨?_, ?_⟩⟩
    · exact Ev.step (fun k => by rw [lex_Tokens.l0, if_pos (ext_none s)]) (ev_to (ev_now _) (by simp [resA]))
    · exact Ev.step (fun k => by rw [waymarkref07_Tokens.l0]) (ev_neg (by omega) (ev_to (ev_now _) (by simp [resB])))
theorem both (s : ByteArray) : ∃ (A : List Tk) (p : Int × Int × Int), A.length ≤ 65536 ∧ Ev (fun k => lex_Tokens.f k s) (A.map Tk.a, p) ∧ Ev (fun k => waymarkref07_Tokens.f k s) (A.map Tk.b, p) := by
  obtain ⟨r, c1, c2, c3⟩ := check_vals s
  by_cases h0 : r.2.2 = 0
  · obtain ⟨hr, hs, hg⟩ := c3 h0
    obtain ⟨A, e, hA, H⟩ := steps s hs hg s.size 0 (by omega)
    obtain ⟨H1, H2⟩ := H [] [] (by simp) (by simp)
    rw [ext_all] at H1
    have H1 : Ev (fun k => lex_Tokens.l0 k s 1 1 []) (resA [] A e) := H1
    have H2 : Ev (fun k => waymarkref07_Tokens.l0 k s [] 0) (resB [] A e) := H2
    have F1 : Ev (fun k => lex_Tokens.f k s) (resA [] A e) := Ev.congr (fun k => by rw [lex_Tokens.f]) (Ev.bind c1 (ev_pos h0 H1))
    have F2 : Ev (fun k => waymarkref07_Tokens.f k s) (resB [] A e) := Ev.congr (fun k => by rw [waymarkref07_Tokens.f]) (Ev.bind c2 (ev_pos h0 H2))
    by_cases he : e.2.2 = 0
    · refine ⟨A, (0, 0, 0), by omega, ?_, ?_⟩
      · have : resA [] A e = (A.map Tk.a, 0, 0, 0) := by simp [resA, he]
        rw [← this]; exact F1
      · have : resB [] A e = (A.map Tk.b, 0, 0, 0) := by simp [resB, he]
        rw [← this]; exact F2
    · refine ⟨[], e, by simp, ?_, ?_⟩
      · have : resA [] A e = ([], e) := by simp [resA, he]
        rw [List.map_nil, ← this]; exact F1
      · have : resB [] A e = ([], e) := by simp [resB, he]
        rw [List.map_nil, ← this]; exact F2
  · refine ⟨[], r, by simp, ?_, ?_⟩
    · exact Ev.congr (fun k => by rw [lex_Tokens.f]) (Ev.bind c1 (ev_neg h0 (ev_now _)))
    · exact Ev.congr (fun k => by rw [waymarkref07_Tokens.f]) (Ev.bind c2 (ev_neg h0 (ev_now _)))
theorem rdA (A : List Tk) (i : Nat) (h : i < A.length) : rd_T59 (A.map Tk.a) i = (A[i]'h).a := by
  unfold rd_T59
  simp [List.getD, h]
theorem rdB (A : List Tk) (i : Nat) (h : i < A.length) : rd_T96 (A.map Tk.b) i = (A[i]'h).b := by
  unfold rd_T96
  simp [List.getD, h]
theorem samePos_val (a b : Int) : waymarklaw07_samePos.f a b a b = some true := by
  unfold waymarklaw07_samePos.f
  rw [if_pos rfl, beq_self_eq_true]
theorem same_val (A : List Tk) (hA : A.length ≤ 65536) : Ev (fun k => waymarklaw07_sameTokens.f k (A.map Tk.a) (A.map Tk.b)) true := by
  have key : ∀ d i : Nat, i + d = A.length → Ev (fun k => waymarklaw07_sameTokens.l0 k (A.map Tk.a) (A.map Tk.b) i) true := by
    intro d
    induction d with
    | zero =>
      intro i hi
      refine Ev.step (fun k => by rw [waymarklaw07_sameTokens.l0]) ?_
      exact ev_neg (by rw [List.length_map]; omega) (ev_now _)
    | succ d ih =>
      intro i hi
      refine Ev.step (fun k => by rw [waymarklaw07_sameTokens.l0]) ?_
      rw [rdA A i (by omega), rdB A i (by omega)]
      refine ev_pos (by rw [List.length_map]; omega) (ev_pos (by omega) (ev_pos (by rw [List.length_map]; omega) (ev_pos rfl (ev_pos rfl (ev_is _ (samePos_val _ _) ?_)))))
      refine Ev.step (fun k => by rw [waymarklaw07_sameTokens.j1]) ?_
      refine ev_neg (by decide) ?_
      rw [w64_id _ (by omega) (by omega)]
      exact ih (i + 1) (by omega)
  refine Ev.congr (fun k => by rw [waymarklaw07_sameTokens.f]) ?_
  exact ev_pos (by rw [List.length_map, List.length_map]) (key A.length 0 (by omega))
theorem lexTokens_pure (s : ByteArray) : ∃ k, waymarklaw07_LexTokens.f k s = some true := by
  apply Ev.rounds
  obtain ⟨A, p, hA, F1, F2⟩ := both s
  have key : ∀ d i (X : List S59), X.length ≤ 65536 → i + d = X.length → Ev (fun k => waymarklaw07_LexTokens.l0 k s X (A.map Tk.b) (i : Nat)) true := by
    intro d
    induction d with
    | zero =>
      intro i X hX hi
      refine Ev.step (fun k => by rw [waymarklaw07_LexTokens.l0]) ?_
      exact ev_neg (by omega) (Ev.bind F1 (Ev.bind (same_val A hA) (ev_now _)))
    | succ d ih =>
      intro i X hX hi
      refine Ev.step (fun k => by rw [waymarklaw07_LexTokens.l0]) ?_
      refine ev_pos (by omega) (ev_pos (by omega) ?_)
      rw [w64_id _ (by omega) (by omega)]
      exact ih (i + 1) _ (by rw [List.length_set]; exact hX) (by rw [List.length_set]; omega)
  refine Ev.congr (fun k => by rw [waymarklaw07_LexTokens.f]) ?_
  refine Ev.bind F1 (Ev.bind F2 (Ev.bind (same_val A hA) ?_))
  refine ev_pos rfl (ev_is _ (samePos_val _ _) ?_)
  refine ev_pos rfl ?_
  refine Ev.step (fun k => by rw [waymarklaw07_LexTokens.j0]) ?_
  refine ev_neg (by simp) ?_
  exact key (A.map Tk.a).length 0 (A.map Tk.a) (by rw [List.length_map]; exact hA) (Nat.zero_add _)
end Go.Proofs.Ytbnihnggljagnaa.QLexTokens
