/- The plain law of LexPlaces. Conditions: none. -/
import Derived.Test.YtbnihnggljagnaaDoorQLexPlacesx5
import Derived.Test.YtbnihnggljagnaaDoorLexPlacesTokensCore
import Derived.Test.YtbnihnggljagnaaDoorLexPlacesPureLexWorks
namespace Go.Proofs.YtbnihnggljagnaaDoor.QLexPlaces
open Go.RowKit Go.Proofs.YtbnihnggljagnaaDoorW.PrintWords Go.Proofs.YtbnihnggljagnaaDoor.Tools Go.Proofs.YtbnihnggljagnaaDoor.LexMath Go.Proofs.YtbnihnggljagnaaDoor.LexSpec
set_option linter.unusedVariables false
set_option linter.unusedSimpArgs false
theorem pl_mono (s : ByteArray) (i : Nat) : ∀ d : Nat, (pl s i).1 ≤ (pl s (i + d)).1
  | 0 => Int.le_refl _
  | d + 1 => by
    have h := pl_mono s i d
    rw [← Nat.add_assoc]
    by_cases hc : bt s ((i + d : Nat) : Int) = 10
    · rw [pl_line hc]; show _ ≤ (pl s (i + d)).1 + 1; omega
    · rw [pl_same hc]; exact h
theorem pl_lt (s : ByteArray) (i : Nat) : ∀ d : Nat, (pl s i).1 < (pl s (i + (d + 1))).1 ∨ ((pl s i).1 = (pl s (i + (d + 1))).1 ∧ (pl s i).2 < (pl s (i + (d + 1))).2)
  | 0 => by
    by_cases hc : bt s (i : Int) = 10
    · left; rw [pl_line hc]; show _ < (pl s i).1 + 1; omega
    · right; rw [pl_same hc]; exact ⟨rfl, by show _ < (pl s i).2 + 1; omega⟩
  | d + 1 => by
    have h := pl_lt s i d
    rw [← Nat.add_assoc i (d + 1) 1]
    by_cases hc : bt s ((i + (d + 1) : Nat) : Int) = 10
    · left; rw [pl_line hc]; show _ < (pl s (i + (d + 1))).1 + 1; rcases h with h | h <;> omega
    · rw [pl_same hc]
      rcases h with h | h
      · exact .inl h
      · exact .inr ⟨h.1, by show _ < (pl s (i + (d + 1))).2 + 1; omega⟩
/-- Where the row of a place begins. -/
theorem pl_start (s : ByteArray) : ∀ i : Nat, ∃ b : Nat, b ≤ i ∧ pl s b = ((pl s i).1, 1) ∧ (pl s i).2 = (i : Int) - b + 1 ∧ ∀ j : Nat, b ≤ j → j < i → ¬ bt s j = 10
  | 0 => ⟨0, Nat.le_refl _, rfl, by show (1 : Int) = _; omega, by omega⟩
  | i + 1 => by
    obtain ⟨b, b1, b2, b3, b4⟩ := pl_start s i
    by_cases hc : bt s (i : Int) = 10
    · refine ⟨i + 1, Nat.le_refl _, ?_, ?_, by omega⟩
      · rw [pl_line hc]
      · rw [pl_line hc]; show (1 : Int) = _; omega
    · refine ⟨b, by omega, ?_, ?_, fun j h1 h2 => ?_⟩
      · rw [pl_same hc]; exact b2
      · rw [pl_same hc]; show (pl s i).2 + 1 = _; omega
      · by_cases hj : j = i
        · subst hj; exact hc
        · exact b4 j h1 (by omega)
section
variable {s : ByteArray} (hs : s.size ≤ 65536)
include hs
theorem row_val {b j : Nat} {n : Int} (hb : pl s b = (n, 1)) (hbj : b ≤ j) (hj : j ≤ s.size) (hno : ∀ i : Nat, b ≤ i → i < j → ¬ bt s i = 10) (he : j < s.size → bt s j = 10) : Ev (fun k => waymarklaw07_row.f k s n) (s.extract b j) := by
  have hn : 1 ≤ n ∧ n ≤ 65537 := by have := pl_bounds s b; rw [hb] at this; simp only at this; omega
  have second : ∀ d i : Nat, b ≤ i → i + d = j → Ev (fun k => waymarklaw07_row.l0 k s 1 b i) (s.extract b j) := by
    intro d
    induction d with
    | zero =>
      intro i hi hd
      obtain rfl : i = j := by omega
      refine Ev.step (fun k => by rw [waymarklaw07_row.l0]) ?_
      by_cases hl : i < s.size
      · refine ev_pos (by omega) (ev_pos (by omega) (ev_pos (he hl) (ev_pos rfl (ev_pos (by omega) (ev_pos (by omega) (ev_pos (by omega) ?_))))))
        exact ev_now _
      · have hie : i = s.size := by omega
        refine ev_neg (by omega) (ev_pos rfl (ev_pos (by omega) (ev_pos (by omega) ?_)))
        rw [hie]
        exact ev_now _
    | succ d ih =>
      intro i hi hd
      refine Ev.step (fun k => by rw [waymarklaw07_row.l0]) (ev_pos (by omega) (ev_pos (by omega) (ev_neg (hno i hi (by omega)) ?_)))
      rw [w64_id _ (by omega) (by omega)]
      exact ih (i + 1) (by omega) (by omega)
  have first : ∀ d i : Nat, i + d = b → Ev (fun k => waymarklaw07_row.l0 k s (n + 1 - (pl s i).1) ((i : Int) - ((pl s i).2 - 1)) i) (s.extract b j) := by
    intro d
    induction d with
    | zero =>
      intro i hd
      obtain rfl : i = b := by omega
      rw [hb]
      have := second (j - i) i (Nat.le_refl _) (by omega)
      rw [show n + 1 - (n, (1 : Int)).1 = 1 by show n + 1 - n = 1; omega, show (i : Int) - ((n, (1 : Int)).2 - 1) = i by show (i : Int) - (1 - 1) = i; omega]
      exact this
    | succ d ih =>
      intro i hd
      have e := ih (i + 1) (by omega)
      have hbd := pl_bounds s i
      refine Ev.step (fun k => by rw [waymarklaw07_row.l0]) (ev_pos (by omega) (ev_pos (by omega) ?_))
      by_cases hc : bt s (i : Int) = 10
      · have hm := pl_mono s (i + 1) (b - (i + 1))
        rw [show i + 1 + (b - (i + 1)) = b by omega, hb, pl_line hc] at hm
        have hm : (pl s i).1 + 1 ≤ n := hm
        rw [pl_line hc] at e
        refine ev_pos hc (ev_neg (by omega) ?_)
        rw [w64_id _ (by omega) (by omega), w64_id _ (by omega) (by omega)]
        have e1 : n + 1 - ((pl s i).1 + 1, (1 : Int)).1 = n + 1 - (pl s i).1 - 1 := by show n + 1 - ((pl s i).1 + 1) = _; omega
        have e2 : ((i + 1 : Nat) : Int) - (((pl s i).1 + 1, (1 : Int)).2 - 1) = (i : Int) + 1 := by show ((i + 1 : Nat) : Int) - (1 - 1) = _; omega
        rw [e1, e2] at e
        exact e
      · rw [pl_same hc] at e
        refine ev_neg hc ?_
        rw [w64_id _ (by omega) (by omega)]
        have e2 : ((i + 1 : Nat) : Int) - (((pl s i).1, (pl s i).2 + 1).2 - 1) = (i : Int) - ((pl s i).2 - 1) := by show ((i + 1 : Nat) : Int) - ((pl s i).2 + 1 - 1) = _; omega
        rw [e2] at e
        exact e
  have := first b 0 (by omega)
  have e1 : n + 1 - (pl s 0).1 = n := by show n + 1 - 1 = n; omega
  have e2 : ((0 : Nat) : Int) - ((pl s 0).2 - 1) = 0 := by show ((0 : Nat) : Int) - (1 - 1) = 0; omega
  rw [e1, e2] at this
  have this : Ev (fun k => waymarklaw07_row.l0 k s n 0 0) (s.extract b j) := this
  exact Ev.congr (fun k => by rw [waymarklaw07_row.f]) this
theorem stands_val (x : ByteArray) {p q : Nat} (hpq : p ≤ q) (hq : q ≤ s.size) (hx : x.size = q - p) (hno : ∀ i : Nat, p ≤ i → i < q → ¬ bt s i = 10) : Ev (fun k => waymarklaw07_stands.f k s x (pl s p).1 (pl s p).2) ((s.extract p q).toList == x.toList) := by
  obtain ⟨b, b1, b2, b3, b4⟩ := pl_start s p
  obtain ⟨j, j1, j2, j3, j4⟩ := scan_ex (fun i => bt s i = 10) s.size (s.size - q) q (by omega)
  have hno2 : ∀ i : Nat, b ≤ i → i < j → ¬ bt s i = 10 := fun i h1 h2 => by
    by_cases h3 : i < p
    · exact b4 i h1 h3
    · by_cases h4 : i < q
      · exact hno i (by omega) h4
      · exact j3 i (by omega) h2
  have r := row_val hs (b := b) (j := j) b2 (by omega) j2 hno2 (fun h => by rcases j4 with h2 | h2; omega; exact h2)
  have hsz : (s.extract b j).size = j - b := by rw [ByteArray.size_extract]; omega
  refine Ev.congr (fun k => by rw [waymarklaw07_stands.f]) (Ev.bind r ?_)
  have e1 : wrap64 ((pl s p).2 - 1) = ((p - b : Nat) : Int) := by rw [b3, w64_id _ (by omega) (by omega)]; omega
  have e2 : wrap64 (((p - b : Nat) : Int) + (x.size : Int)) = ((q - b : Nat) : Int) := by rw [hx, w64_id _ (by omega) (by omega)]; omega
  rw [e1, e2]
  refine ev_pos (by omega) (ev_pos (by omega) (ev_pos (by omega) (ev_pos (by omega) ?_)))
  rw [Int.toNat_natCast, Int.toNat_natCast]
  have e3 : (s.extract b j).extract (p - b) (q - b) = s.extract p q := by
    rw [ByteArray.extract_extract]
    congr 1 <;> omega
  rw [e3]
  exact ev_now _
theorem stands_yes (x : ByteArray) {p q : Nat} (hpq : p ≤ q) (hq : q ≤ s.size) (hx : x = s.extract p q) (hno : ∀ i : Nat, p ≤ i → i < q → ¬ bt s i = 10) : Ev (fun k => waymarklaw07_stands.f k s x (pl s p).1 (pl s p).2) true := by
  have h := stands_val hs x hpq hq (by rw [hx, ByteArray.size_extract]; omega) hno
  rw [hx, beq_self_eq_true] at h
  rw [hx]
  exact h
omit hs in
theorem one_at {i : Nat} (hi : i < s.size) : (s.extract i (i + 1)).data.toList = [(bt s i).toNat.toUInt8] := by
  rw [list_mid, drop_cons s i hi, show i + 1 - i = 1 by omega]
  rfl
theorem stands_q {i : Nat} (hi : i < s.size) (h10 : ¬ bt s i = 10) : Ev (fun k => waymarklaw07_stands.f k s (⟨#[34]⟩ : ByteArray) (pl s i).1 (pl s i).2) (decide (bt s i = 34)) := by
  have h := stands_val hs (⟨#[34]⟩ : ByteArray) (p := i) (q := i + 1) (by omega) (by omega) (by show (1 : Nat) = _; omega) (fun j h1 h2 => by rw [show j = i by omega]; exact h10)
  refine ev_to h ?_
  rw [ByteArray.toList_eq, ByteArray.toList_eq, one_at hi]
  show (([(bt s i).toNat.toUInt8] : List UInt8) == [34]) = _
  have e := byte_eq (bt s i) (bt_nn s i) 34
  have e : (bt s i).toNat.toUInt8 = 34 ↔ bt s i = 34 := e
  by_cases h34 : bt s i = 34
  · rw [decide_eq_true h34, e.2 h34]; rfl
  · rw [decide_eq_false h34]
    apply beq_eq_false_iff_ne.2
    intro h2
    exact h34 (e.1 (List.head_eq_of_cons_eq h2))
end
theorem rdLa (A : List Ln) (i : Nat) (h : i < A.length) : rd_T35 (A.map Ln.a) i = (A[i]'h).a := by
  unfold rd_T35
  simp [List.getD, h]
theorem rdWa (A : List Wd) (i : Nat) (h : i < A.length) : rd_T37 (A.map Wd.a) i = (A[i]'h).a := by
  unfold rd_T37
  simp [List.getD, h]
theorem rdTa (A : List Tk) (i : Nat) (h : i < A.length) : rd_T64 (A.map Tk.a) i = (A[i]'h).a := by
  unfold rd_T64
  simp [List.getD, h]
theorem toks_part (s : ByteArray) : ∃ (X : List S64) (e : Int × Int × Int), Ev (fun k => lex_Tokens.f k s) (X, e) ∧ Ev (fun k => waymarklaw07_LexPlaces.l2 k s e.2.2 X 0 0 0) true := by
  obtain ⟨A, e, F, T⟩ := tokens_val s
  by_cases h0 : e.2.2 = 0
  · obtain ⟨T1, T2, hs, hgood⟩ := T h0
    have hr : resA [] A e = (A.map Tk.a, 0, 0, 0) := by simp [resA, h0]
    rw [hr] at F
    refine ⟨A.map Tk.a, (0, 0, 0), F, ?_⟩
    have key : ∀ d i p : Nat, ∀ l c : Int, i + d = A.length → Toks s p (A.drop i) → (l = 0 ∧ c = 0 ∨ ∃ q : Nat, q < p ∧ l = (pl s q).1 ∧ c = (pl s q).2) → Ev (fun k => waymarklaw07_LexPlaces.l2 k s 0 (A.map Tk.a) i l c) true := by
      intro d
      induction d with
      | zero =>
        intro i p l c hi hT hlc
        refine Ev.step (fun k => by rw [waymarklaw07_LexPlaces.l2]) (ev_neg (by rw [List.length_map]; omega) ?_)
        refine Ev.step (fun k => by rw [waymarklaw07_LexPlaces.j6]) ?_
        exact ev_neg (by decide) (ev_now _)
      | succ d ih =>
        intro i p l c hi hT hlc
        have hil : i < A.length := by omega
        rw [List.drop_eq_getElem_cons hil] at hT
        obtain ⟨a, ha, ⟨h1, h2, h3, h4⟩, hT'⟩ := hT
        have rt := rdTa A i hil
        have t0 : (A[i]'hil).a.f2.f0 = (A[i]'hil).line := rfl
        have t1 : (A[i]'hil).a.f2.f1 = (A[i]'hil).col := rfl
        have t2 : (A[i]'hil).a.f1 = (A[i]'hil).text := rfl
        have hpb := pl_bounds s a
        have hrise : l < (pl s a).1 ∨ (l = (pl s a).1 ∧ c < (pl s a).2) := by
          rcases hlc with ⟨rfl, rfl⟩ | ⟨q, hq, rfl, rfl⟩
          · left; omega
          · have := pl_lt s q (a - q - 1)
            rw [show q + (a - q - 1 + 1) = a by omega] at this
            exact this
        have next : Ev (fun k => waymarklaw07_LexPlaces.j9 k s 0 (A.map Tk.a) i false) true := by
          refine Ev.step (fun k => by rw [waymarklaw07_LexPlaces.j9]) ?_
          rw [rt, t0, t1, h2, h3]
          refine ev_neg (by decide) (ev_pos (by omega) (ev_pos (by rw [List.length_map]; omega) ?_))
          rw [w64_id _ (by omega) (by omega)]
          exact ih (i + 1) (a + 1) _ _ (by omega) hT' (.inr ⟨a, by omega, rfl, rfl⟩)
        -- the two kinds
        have fin : Ev (fun k => waymarklaw07_LexPlaces.j7 k s 0 (A.map Tk.a) i false (pl s a).1 (pl s a).2) true := by
          refine Ev.step (fun k => by rw [waymarklaw07_LexPlaces.j7]) ?_
          refine ev_neg (by decide) ?_
          by_cases h34 : bt s a = 34
          · have hq := stands_q hs h1 (by rw [h34]; decide)
            rw [decide_eq_true h34] at hq
            rcases h4 with ⟨_, hk, m, m1, m2, m3⟩ | ⟨hn, _⟩ | ⟨hn, _⟩
            · refine Ev.bind hq (ev_pos rfl ?_)
              refine Ev.step (fun k => by rw [waymarklaw07_LexPlaces.j8]) ?_
              rw [rt, t2, w64_id _ (by omega) (by omega)]
              have hp1 : pl s (a + 1) = ((pl s a).1, (pl s a).2 + 1) := pl_same (by rw [h34]; decide)
              have y := stands_yes hs (A[i]'hil).text (p := a + 1) (q := a + m + 1) (by omega) (by omega) m2 (fun j h5 h6 => (m3 j h5 (by omega)).1)
              rw [hp1] at y
              exact ev_pos (by omega) (ev_pos (by rw [List.length_map]; omega) (Ev.bind y (ev_pos rfl (ev_pos rfl next))))
            · exact absurd h34 hn
            · exact absurd (by rw [h34]; decide) hn
          · have main : ∀ q : Nat, a < q → q ≤ s.size → (A[i]'hil).text = s.extract a q → (∀ j : Nat, a ≤ j → j < q → ¬ bt s j = 10) → Ev (fun k => (waymarklaw07_stands.f k s (⟨#[34]⟩ : ByteArray) (pl s a).1 (pl s a).2).bind fun t177 => (if t177 = true then (waymarklaw07_LexPlaces.j8 k s 0 (A.map Tk.a) i t177 (pl s a).1 (wrap64 ((pl s a).2 + 1))) else (waymarklaw07_LexPlaces.j8 k s 0 (A.map Tk.a) i t177 (pl s a).1 (pl s a).2))) true := by
              intro q q1 q2 q3 q4
              have hq := stands_q hs h1 (q4 a (Nat.le_refl _) q1)
              rw [decide_eq_false h34] at hq
              refine Ev.bind hq (ev_neg (by decide) ?_)
              refine Ev.step (fun k => by rw [waymarklaw07_LexPlaces.j8]) ?_
              rw [rt, t2]
              have y := stands_yes hs (A[i]'hil).text (p := a) (q := q) (by omega) q2 q3 q4
              refine ev_pos (by omega) (ev_pos (by rw [List.length_map]; omega) (Ev.bind y (ev_pos rfl (ev_neg (by decide) ?_))))
              rw [show ((A[i]'hil).text.toList == ([] : List UInt8)) = false by
                apply beq_eq_false_iff_ne.2
                intro h
                have := congrArg List.length h
                rw [ByteArray.toList_eq, size_list, q3, ByteArray.size_extract] at this
                have : min q s.size - a = 0 := this
                omega]
              exact next
            rcases h4 with ⟨hn, _⟩ | ⟨_, hk, m, m0, m1, m2, m3⟩ | ⟨hn, hk, m2⟩
            · exact absurd hn h34
            · exact main (a + m) (by omega) m1 m2 (fun j h5 h6 => (m3 j h5 h6).1)
            · refine main (a + 1) (by omega) (by omega) m2 (fun j h5 h6 => ?_)
              rw [show j = a by omega]
              intro h
              exact hn (by rw [h]; decide)
        refine Ev.step (fun k => by rw [waymarklaw07_LexPlaces.l2]) (ev_pos (by rw [List.length_map]; omega) ?_)
        refine Ev.step (fun k => by rw [waymarklaw07_LexPlaces.j6]) ?_
        rw [rt, t0, t1, h2, h3]
        refine ev_pos rfl (ev_pos (by omega) (ev_pos (by rw [List.length_map]; omega) (ev_neg (by rcases hrise with h | h <;> omega) ?_)))
        by_cases hl : (pl s a).1 = l
        · refine ev_pos hl ?_
          rw [decide_eq_false (by rcases hrise with h | h <;> omega)]
          exact fin
        · exact ev_neg hl fin
    exact key A.length 0 0 0 0 (by omega) T2 (.inl ⟨rfl, rfl⟩)
  · have hr : resA [] A e = ([], e) := by simp [resA, h0]
    rw [hr] at F
    refine ⟨[], e, F, ?_⟩
    refine Ev.step (fun k => by rw [waymarklaw07_LexPlaces.l2]) (ev_neg (by show ¬ (0 : Int) < ((0 : Nat) : Int); omega) ?_)
    refine Ev.step (fun k => by rw [waymarklaw07_LexPlaces.j6]) ?_
    exact ev_neg (by decide) (ev_now _)
theorem lexPlaces_pure (s : ByteArray) : ∃ k, waymarklaw07_LexPlaces.f k s = some true := by
  apply Ev.rounds
  have hw : Ev (fun k => waymarklaw07_works.f k) true := Ev.of (waymarklaw07_works.mono) works_true
  obtain ⟨X, ex, F2, G2⟩ := toks_part s
  have out : ∀ (Y : List S35) (e l i : Int), Ev (fun k => waymarklaw07_LexPlaces.j1 k s Y e l i false) true := fun Y e l i => by
    refine Ev.step (fun k => by rw [waymarklaw07_LexPlaces.j1]) ?_
    exact ev_neg (by decide) (Ev.bind F2 G2)
  obtain ⟨r, c1, c2, _⟩ := check_val s
  by_cases h0 : r.2.2 = 0
  · obtain ⟨hr, hs, hgood⟩ := c2 h0
    subst hr
    obtain ⟨A, a1, a2, a3, F⟩ := lines_ok s hs c1
    refine Ev.congr (fun k => by rw [waymarklaw07_LexPlaces.f]) (Ev.bind hw (ev_pos rfl (Ev.bind F ?_)))
    have key : ∀ d i p n : Nat, ∀ l : Int, i + d = A.length → Lns s p n (A.drop i) → l ≤ n → Ev (fun k => waymarklaw07_LexPlaces.l0 k s (A.map Ln.a) 0 l i) true := by
      intro d
      induction d with
      | zero =>
        intro i p n l hi hL hl
        exact Ev.step (fun k => by rw [waymarklaw07_LexPlaces.l0]) (ev_neg (by rw [List.length_map]; omega) (out _ _ _ _))
      | succ d ih =>
        intro i p n l hi hL hl
        have hil : i < A.length := by omega
        rw [List.drop_eq_getElem_cons hil] at hL
        obtain ⟨b, j, m, h1, h2, h3, h4, h5, h6, h7, h8, h9, ⟨t, B, ht, hcol⟩, hL'⟩ := hL
        have rl := rdLa A i hil
        have f0 : (A[i]'hil).a.f0 = ((A[i]'hil).indent : Int) := rfl
        have f1 : (A[i]'hil).a.f1 = (A[i]'hil).words.map Wd.a := rfl
        have hrow : (s.extract b j).size = j - b := by rw [ByteArray.size_extract]; omega
        have hm : (m : Int) + 1 ≤ 65537 := by have := pl_bounds s b; rw [h5] at this; simp only at this; omega
        have hlen : 0 < (A[i]'hil).words.length := List.length_pos_iff.2 h8
        have w0 : rd_T37 ((A[i]'hil).words.map Wd.a) 0 = t.a := by
          have := rdWa (A[i]'hil).words 0 hlen
          have e0 : (A[i]'hil).words[0]'hlen = t := by simp only [ht, List.getElem_cons_zero]
          rw [e0] at this
          exact this
        have hline : ∀ u ∈ (A[i]'hil).words, u.line = (m : Int) + 1 := by
          have go : ∀ (ws : List Wd) (q : Nat), Wds (s.extract b j) m q ws → ∀ u ∈ ws, u.line = (m : Int) + 1 := by
            intro ws
            induction ws with
            | nil => intro q _ u hu; cases hu
            | cons v vs ihv =>
              intro q hq u hu
              obtain ⟨a, c, _, _, _, hv, _, hrest⟩ := hq
              rcases List.mem_cons.1 hu with rfl | hu
              · rw [hv]
              · exact ihv _ hrest u hu
          exact go _ _ h9
        have tl : t.line = (m : Int) + 1 := hline t (by rw [ht]; exact List.mem_cons_self ..)
        have t0 : t.a.f1.f0 = (m : Int) + 1 := tl
        have t1 : t.a.f1.f1 = ((A[i]'hil).indent : Int) + 1 := hcol
        have hind : (A[i]'hil).indent ≤ 65536 := by
          have h9' := h9
          rw [ht] at h9'
          obtain ⟨a, c, q1, q2, q3, q4, _⟩ := h9'
          rw [q4] at hcol
          have hcol : (a : Int) + 1 = _ := hcol
          omega
        -- the words
        have inner : ∀ d2 j2 q : Nat, ∀ c : Int, j2 + d2 = (A[i]'hil).words.length → Wds (s.extract b j) m q ((A[i]'hil).words.drop j2) → c ≤ q → Ev (fun k => waymarklaw07_LexPlaces.l1 k s (A.map Ln.a) 0 ((m : Int) + 1) i c j2) true := by
          intro d2
          induction d2 with
          | zero =>
            intro j2 q c hj _ _
            refine Ev.step (fun k => by rw [waymarklaw07_LexPlaces.l1]) ?_
            rw [rl, f1]
            refine ev_pos (by omega) (ev_pos (by rw [List.length_map]; omega) (ev_neg (by rw [List.length_map]; omega) ?_))
            rw [w64_id _ (by omega) (by omega)]
            exact ih (i + 1) (j + 1) (m + 1) _ (by omega) hL' (by omega)
          | succ d2 ih2 =>
            intro j2 q c hj hW hc
            have hjl : j2 < (A[i]'hil).words.length := by omega
            rw [List.drop_eq_getElem_cons hjl] at hW
            obtain ⟨a, e, e1, e2, e3, e4, e5, hW'⟩ := hW
            have rw1 : rd_T37 ((A[i]'hil).words.map Wd.a) j2 = ((A[i]'hil).words[j2]'hjl).a := rdWa _ j2 hjl
            have hjle : j2 ≤ 65537 := by
              have go : ∀ (ws : List Wd) (q : Nat), Wds (s.extract b j) m q ws → ws.length ≤ (s.extract b j).size + 1 - q + 1 := by
                intro ws
                induction ws with
                | nil => intro q _; simp
                | cons v vs ihv =>
                  intro q hq
                  obtain ⟨a, c, g1, g2, g3, _, _, hrest⟩ := hq
                  have := ihv _ hrest
                  rw [List.length_cons]
                  omega
              have := go _ _ h9
              omega
            rw [hrow] at e3
            refine Ev.step (fun k => by rw [waymarklaw07_LexPlaces.l1]) ?_
            rw [rl, f1, rw1, e4]
            have g0 : (Wd.a ⟨(s.extract b j).extract a e, (m : Int) + 1, (a : Int) + 1⟩).f0 = s.extract (b + a) (b + e) := by
              show (s.extract b j).extract a e = _
              rw [ByteArray.extract_extract]
              congr 1
              omega
            have g1 : (Wd.a ⟨(s.extract b j).extract a e, (m : Int) + 1, (a : Int) + 1⟩).f1.f0 = (m : Int) + 1 := rfl
            have g2 : (Wd.a ⟨(s.extract b j).extract a e, (m : Int) + 1, (a : Int) + 1⟩).f1.f1 = (a : Int) + 1 := rfl
            rw [g0, g1, g2]
            have gsz : (s.extract (b + a) (b + e)).size = e - a := by rw [ByteArray.size_extract]; omega
            have hpl := pl_row h5 h6 a (by omega)
            have y := stands_yes hs (s.extract (b + a) (b + e)) (p := b + a) (q := b + e) (by omega) (by omega) rfl (fun x h10 h11 => h6 x (by omega) (by omega))
            rw [hpl] at y
            refine ev_pos (by omega) (ev_pos (by rw [List.length_map]; omega) (ev_pos (by rw [List.length_map]; omega) (ev_pos (by omega) (ev_neg ?_ (ev_pos rfl (ev_neg (by omega) (Ev.bind y ?_)))))))
            · intro h
              have := congrArg List.length h
              rw [ByteArray.toList_eq, size_list, gsz] at this
              have : e - a = 0 := this
              omega
            · refine Ev.step (fun k => by rw [waymarklaw07_LexPlaces.j4]) (ev_neg (by decide) ?_)
              rw [gsz, w64_id _ (by omega) (by omega), w64_id _ (by omega) (by omega), show (a : Int) + 1 + ((e - a : Nat) : Int) = ((e + 1 : Nat) : Int) by omega]
              exact ih2 (j2 + 1) (e + 1) _ (by omega) hW' (by omega)
        refine Ev.step (fun k => by rw [waymarklaw07_LexPlaces.l0]) (ev_pos (by rw [List.length_map]; omega) ?_)
        refine Ev.step (fun k => by rw [waymarklaw07_LexPlaces.j1]) ?_
        rw [rl, f0, f1, w0, t0, t1]
        refine ev_pos rfl (ev_pos (by omega) (ev_pos (by rw [List.length_map]; omega) (ev_neg (by rw [List.length_map]; omega) (ev_pos (by rw [List.length_map]; omega) (ev_neg (by omega) ?_)))))
        rw [w64_id _ (by omega) (by omega), bne_self_eq_false]
        refine Ev.step (fun k => by rw [waymarklaw07_LexPlaces.j2]) ?_
        rw [rl, f1, w0, t0]
        refine ev_neg (by decide) (ev_pos (by omega) (ev_pos (by rw [List.length_map]; omega) (ev_pos (by rw [List.length_map]; omega) ?_)))
        exact inner _ 0 0 0 (Nat.zero_add _) (by rw [List.drop_zero]; exact h9) (Int.le_refl _)
    exact key A.length 0 0 0 0 (by omega) a3 (Int.le_refl _)
  · refine Ev.congr (fun k => by rw [waymarklaw07_LexPlaces.f]) (Ev.bind hw (ev_pos rfl (Ev.bind (lines_bad s r c1 h0) ?_)))
    exact Ev.step (fun k => by rw [waymarklaw07_LexPlaces.l0]) (ev_neg (by show ¬ (0 : Int) < ((0 : Nat) : Int); omega) (out _ _ _ _))
end Go.Proofs.YtbnihnggljagnaaDoor.QLexPlaces
