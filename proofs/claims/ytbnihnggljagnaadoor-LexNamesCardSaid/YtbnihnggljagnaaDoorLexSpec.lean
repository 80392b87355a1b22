/- What a text of lines is cut into, on lists of bytes. Conditions: none. -/
import Derived.Test.YtbnihnggljagnaaDoorLexMath
namespace Go.Proofs.YtbnihnggljagnaaDoor.LexSpec
/-- The rows of a text. -/
def rowsL : List UInt8 → List (List UInt8)
  | [] => [[]]
  | c :: l => if c = 10 then [] :: rowsL l else (match rowsL l with | r :: rs => (c :: r) :: rs | [] => [[c]])
/-- The words of a row, behind what of a word was read. -/
def wordsA : List UInt8 → List UInt8 → List (List UInt8)
  | [], acc => if acc = [] then [] else [acc]
  | c :: l, acc => if c = 32 then (if acc = [] then wordsA l [] else acc :: wordsA l []) else wordsA l (acc ++ [c])
def indentL (r : List UInt8) : Nat := (r.takeWhile (· == 32)).length
/-- The line of a row; none: it does not count. -/
def lineL (r : List UInt8) : Option (Nat × List (List UInt8)) :=
  match wordsA r [] with
  | [] => none
  | w :: ws => if w.head? = some 33 then none else some (indentL r, w :: ws)
def linesL (l : List UInt8) : List (Nat × List (List UInt8)) := (rowsL l).filterMap lineL
theorem rows_ne (l : List UInt8) : rowsL l ≠ [] := by
  cases l with
  | nil => simp [rowsL]
  | cons c l =>
    rw [rowsL]
    split
    · simp
    · split <;> simp
theorem rows_row (r l : List UInt8) (h : ∀ c ∈ r, c ≠ 10) : rowsL (r ++ 10 :: l) = r :: rowsL l := by
  induction r with
  | nil => simp [rowsL]
  | cons c r ih =>
    have hc := h c (by simp)
    rw [List.cons_append, rowsL, if_neg hc, ih (fun c hc => h c (by simp [hc]))]
theorem rows_last (r : List UInt8) (h : ∀ c ∈ r, c ≠ 10) : rowsL r = [r] := by
  induction r with
  | nil => rfl
  | cons c r ih => rw [rowsL, if_neg (h c (by simp)), ih (fun c hc => h c (by simp [hc]))]
theorem words_blank (l : List UInt8) : wordsA (32 :: l) [] = wordsA l [] := by simp [wordsA]
theorem words_in (w l acc : List UInt8) (h : ∀ c ∈ w, c ≠ 32) : wordsA (w ++ l) acc = wordsA l (acc ++ w) := by
  induction w generalizing acc with
  | nil => simp
  | cons c w ih =>
    rw [List.cons_append, wordsA, if_neg (h c (by simp)), ih _ (fun c hc => h c (by simp [hc]))]
    simp
theorem words_word (w l : List UInt8) (hw : w ≠ []) (h : ∀ c ∈ w, c ≠ 32) : wordsA (w ++ 32 :: l) [] = w :: wordsA l [] := by
  rw [words_in w (32 :: l) [] h, List.nil_append, wordsA, if_pos rfl, if_neg hw]
theorem words_end (w : List UInt8) (hw : w ≠ []) (h : ∀ c ∈ w, c ≠ 32) : wordsA w [] = [w] := by
  have := words_in w [] [] h
  rw [List.append_nil, List.nil_append, wordsA, if_neg hw] at this
  exact this
/-- A line that may be put together again. -/
def okLine (L : Nat × List (List UInt8)) : Prop := L.2 ≠ [] ∧ (∀ w ∈ L.2, w ≠ [] ∧ ∀ c ∈ w, c ≠ 32 ∧ c ≠ 10) ∧ ∀ w ws, L.2 = w :: ws → w.head? ≠ some 33
theorem wordsA_ok : ∀ (l acc : List UInt8), (∀ c ∈ acc, c ≠ 32) → ∀ w ∈ wordsA l acc, w ≠ [] ∧ w.length ≤ acc.length + l.length ∧ ∀ c ∈ w, c ≠ 32 ∧ (c ∈ acc ∨ c ∈ l)
  | [], acc, h, w, hw => by
    rw [wordsA] at hw
    split at hw
    · cases hw
    · rename_i h0
      obtain rfl := List.mem_singleton.1 hw
      exact ⟨h0, by simp, fun c hc => ⟨h c hc, .inl hc⟩⟩
  | c :: l, acc, h, w, hw => by
    have hnil : ∀ c ∈ ([] : List UInt8), c ≠ 32 := by simp
    have H0 : ∀ w ∈ wordsA l [], w ≠ [] ∧ w.length ≤ acc.length + (c :: l).length ∧ ∀ x ∈ w, x ≠ 32 ∧ (x ∈ acc ∨ x ∈ c :: l) := fun w hw => by
      obtain ⟨h1, h3, h2⟩ := wordsA_ok l [] hnil w hw
      refine ⟨h1, by rw [List.length_nil] at h3; rw [List.length_cons]; omega, fun x hx => ⟨(h2 x hx).1, .inr ?_⟩⟩
      rcases (h2 x hx).2 with h | h
      · cases h
      · exact List.mem_cons_of_mem _ h
    rw [wordsA] at hw
    split at hw
    · rename_i hc
      split at hw
      · exact H0 w hw
      · rename_i h0
        rcases List.mem_cons.1 hw with rfl | hw
        · exact ⟨h0, by omega, fun x hx => ⟨h x hx, .inl hx⟩⟩
        · exact H0 w hw
    · rename_i hc
      obtain ⟨h1, h3, h2⟩ := wordsA_ok l (acc ++ [c]) (by
        intro x hx
        rcases List.mem_append.1 hx with h1 | h1
        · exact h x h1
        · rw [List.mem_singleton.1 h1]; exact hc) w hw
      refine ⟨h1, by rw [List.length_append] at h3; simp only [List.length_cons, List.length_nil] at h3 ⊢; omega, fun x hx => ⟨(h2 x hx).1, ?_⟩⟩
      rcases (h2 x hx).2 with h3 | h3
      · rcases List.mem_append.1 h3 with h4 | h4
        · exact .inl h4
        · exact .inr (by rw [List.mem_singleton.1 h4]; exact List.mem_cons_self ..)
      · exact .inr (List.mem_cons_of_mem _ h3)
theorem wordsA_len : ∀ (l acc : List UInt8), (wordsA l acc).length ≤ l.length + 1
  | [], acc => by rw [wordsA]; split <;> simp
  | c :: l, acc => by
    rw [wordsA]
    split
    · split
      · have := wordsA_len l []; rw [List.length_cons]; omega
      · have := wordsA_len l []; rw [List.length_cons, List.length_cons]; omega
    · have := wordsA_len l (acc ++ [c]); rw [List.length_cons]; omega
theorem rows_ok : ∀ (l : List UInt8), ∀ r ∈ rowsL l, r.length ≤ l.length ∧ ∀ c ∈ r, c ≠ 10 ∧ c ∈ l
  | [], r, hr => by rw [rowsL] at hr; obtain rfl := List.mem_singleton.1 hr; simp
  | c :: l, r, hr => by
    rw [rowsL] at hr
    split at hr
    · rcases List.mem_cons.1 hr with rfl | hr
      · simp
      · obtain ⟨h1, h2⟩ := rows_ok l r hr
        exact ⟨by rw [List.length_cons]; omega, fun x hx => ⟨(h2 x hx).1, List.mem_cons_of_mem _ (h2 x hx).2⟩⟩
    · rename_i hc
      split at hr
      · rename_i r0 rs e
        rcases List.mem_cons.1 hr with rfl | hr
        · obtain ⟨h1, h2⟩ := rows_ok l r0 (by rw [e]; exact List.mem_cons_self ..)
          refine ⟨by rw [List.length_cons, List.length_cons]; omega, fun x hx => ?_⟩
          rcases List.mem_cons.1 hx with rfl | hx
          · exact ⟨hc, List.mem_cons_self ..⟩
          · exact ⟨(h2 x hx).1, List.mem_cons_of_mem _ (h2 x hx).2⟩
        · obtain ⟨h1, h2⟩ := rows_ok l r (by rw [e]; exact List.mem_cons_of_mem _ hr)
          exact ⟨by rw [List.length_cons]; omega, fun x hx => ⟨(h2 x hx).1, List.mem_cons_of_mem _ (h2 x hx).2⟩⟩
      · rename_i e
        exact absurd e (rows_ne l)
theorem indent_le (r : List UInt8) : indentL r ≤ r.length := by
  unfold indentL
  induction r with
  | nil => exact Nat.le_refl _
  | cons c r ih =>
    rw [List.takeWhile_cons]
    split
    · rw [List.length_cons, List.length_cons]; omega
    · simp
theorem linesL_ok (l : List UInt8) : ∀ L ∈ linesL l, okLine L ∧ L.1 ≤ l.length ∧ L.2.length ≤ l.length + 1 ∧ ∀ w ∈ L.2, w.length ≤ l.length ∧ ∀ c ∈ w, c ∈ l := by
  intro L hL
  obtain ⟨r, hr, hl⟩ := List.mem_filterMap.1 hL
  obtain ⟨r1, r2⟩ := rows_ok l r hr
  have hi := indent_le r
  have hw := wordsA_ok r [] (by simp)
  have hn := wordsA_len r []
  unfold lineL at hl
  split at hl
  · cases hl
  · rename_i w ws e
    split at hl
    · cases hl
    · rename_i h33
      obtain rfl := Option.some.inj hl
      rw [e] at hw hn
      refine ⟨⟨by simp, fun w' hw' => ⟨(hw w' hw').1, fun c hc => ⟨((hw w' hw').2.2 c hc).1, ?_⟩⟩, fun w' ws' h => ?_⟩, by show indentL r ≤ _; omega, by show (w :: ws).length ≤ _; omega, fun w' hw' => ?_⟩
      · rcases ((hw w' hw').2.2 c hc).2 with h | h
        · cases h
        · exact (r2 c h).1
      · cases h; exact h33
      · obtain ⟨h1, h2, h3⟩ := hw w' hw'
        refine ⟨by rw [List.length_nil] at h2; omega, fun c hc => ?_⟩
        rcases (h3 c hc).2 with h | h
        · cases h
        · exact (r2 c h).2
/-- Lines put together: blanks ahead, words with blanks behind each, a row that is a comment, an empty one. -/
def lineT (g : Nat) (L : Nat × List (List UInt8)) : List UInt8 := List.replicate L.1 32 ++ L.2.flatMap (fun w => w ++ List.replicate g 32)
def againT (g : Nat) (note : List UInt8) (A : List (Nat × List (List UInt8))) : List UInt8 := A.flatMap fun L => lineT g L ++ 10 :: (([32, 32, 33, 32] ++ note) ++ 10 :: ([] ++ 10 :: []))
theorem words_blanks (n : Nat) (l : List UInt8) : wordsA (List.replicate n 32 ++ l) [] = wordsA l [] := by
  induction n with
  | zero => rfl
  | succ n ih => rw [List.replicate_succ, List.cons_append, words_blank, ih]
theorem words_flat (g : Nat) (hg : 0 < g) : ∀ ws : List (List UInt8), (∀ w ∈ ws, w ≠ [] ∧ ∀ c ∈ w, c ≠ 32 ∧ c ≠ 10) → wordsA (ws.flatMap (fun w => w ++ List.replicate g 32)) [] = ws
  | [], _ => rfl
  | w :: ws, h => by
    obtain ⟨g', rfl⟩ : ∃ g', g = g' + 1 := ⟨g - 1, by omega⟩
    obtain ⟨h1, h2⟩ := h w (List.mem_cons_self ..)
    rw [List.flatMap_cons, List.replicate_succ, List.append_assoc, List.cons_append, words_word w _ h1 (fun c hc => (h2 c hc).1), words_blanks]
    have := words_flat (g' + 1) hg ws (fun w hw => h w (List.mem_cons_of_mem _ hw))
    rw [List.replicate_succ] at this
    rw [this]
theorem indent_blanks (n : Nat) (l : List UInt8) (h : l.head? ≠ some 32) : indentL (List.replicate n 32 ++ l) = n := by
  unfold indentL
  induction n with
  | zero =>
    cases l with
    | nil => rfl
    | cons c l =>
      rw [List.replicate_zero, List.nil_append, List.takeWhile_cons, if_neg]
      · rfl
      · intro h2; exact h (by rw [List.head?_cons]; congr 1; simpa using h2)
  | succ n ih =>
    rw [List.replicate_succ, List.cons_append, List.takeWhile_cons, if_pos (by rfl), List.length_cons, ih]
theorem lineL_lineT (g : Nat) (hg : 0 < g) (L : Nat × List (List UInt8)) (h : okLine L) : lineL (lineT g L) = some L := by
  obtain ⟨n, ws⟩ := L
  obtain ⟨h1, h2, h3⟩ := h
  cases ws with
  | nil => exact absurd rfl h1
  | cons w ws =>
    obtain ⟨w1, w2⟩ := h2 w (List.mem_cons_self ..)
    have e : wordsA (lineT g (n, w :: ws)) [] = w :: ws := by
      show wordsA (List.replicate n 32 ++ (w :: ws).flatMap (fun w => w ++ List.replicate g 32)) [] = _
      rw [words_blanks, words_flat g hg _ h2]
    have ei : indentL (lineT g (n, w :: ws)) = n := by
      refine indent_blanks n _ ?_
      rw [List.flatMap_cons]
      cases w with
      | nil => exact absurd rfl w1
      | cons c w =>
        intro h
        exact (w2 c (List.mem_cons_self ..)).1 (Option.some.inj h)
    unfold lineL
    rw [e]
    show (if w.head? = some 33 then _ else _) = _
    rw [if_neg (h3 w ws rfl), ei]
theorem lineT_ten (g : Nat) (L : Nat × List (List UInt8)) (h : okLine L) : ∀ c ∈ lineT g L, c ≠ 10 := by
  intro c hc
  rcases List.mem_append.1 hc with hc | hc
  · rw [List.eq_of_mem_replicate hc]; decide
  · obtain ⟨w, hw, hc⟩ := List.mem_flatMap.1 hc
    rcases List.mem_append.1 hc with hc | hc
    · exact ((h.2.1 w hw).2 c hc).2
    · rw [List.eq_of_mem_replicate hc]; decide
theorem note_ten (note : List UInt8) (hn : ∀ c ∈ note, c ≠ 10) : ∀ c ∈ ([32, 32, 33, 32] ++ note : List UInt8), c ≠ 10 := by
  intro c hc
  rcases List.mem_append.1 hc with hc | hc
  · intro h; subst h; revert hc; decide
  · exact hn c hc
theorem note_line (note : List UInt8) : lineL ([32, 32, 33, 32] ++ note) = none := by
  have e : wordsA ([32, 32, 33, 32] ++ note) [] = [33] :: wordsA note [] := by
    show wordsA (32 :: 32 :: ([33] ++ 32 :: note)) [] = _
    rw [words_blank, words_blank, words_word [33] note (by simp) (by decide)]
  unfold lineL
  rw [e]
  rfl
theorem linesL_again (g : Nat) (note : List UInt8) (hg : 0 < g) (hn : ∀ c ∈ note, c ≠ 10) : ∀ A : List (Nat × List (List UInt8)), (∀ L ∈ A, okLine L) → linesL (againT g note A) = A
  | [], _ => rfl
  | L :: A, h => by
    have hL := h L (List.mem_cons_self ..)
    have ih := linesL_again g note hg hn A (fun L hL => h L (List.mem_cons_of_mem _ hL))
    have e : againT g note (L :: A) = lineT g L ++ 10 :: (([32, 32, 33, 32] ++ note) ++ 10 :: ([] ++ 10 :: againT g note A)) := by
      unfold againT
      rw [List.flatMap_cons]
      simp only [List.append_assoc, List.cons_append, List.nil_append]
    unfold linesL at ih ⊢
    rw [e, rows_row _ _ (lineT_ten g L hL), rows_row _ _ (note_ten note hn), rows_row _ _ (by simp), List.filterMap_cons, List.filterMap_cons, List.filterMap_cons, lineL_lineT g hg L hL, note_line]
    show L :: _ = _
    have e0 : lineL [] = none := rfl
    rw [e0, ih]
theorem again_count (g : Nat) (note : List UInt8) (hn : ∀ c ∈ note, c ≠ 10) : ∀ A : List (Nat × List (List UInt8)), (∀ L ∈ A, okLine L) → (againT g note A).count 10 = 3 * A.length
  | [], _ => rfl
  | L :: A, h => by
    have ih := again_count g note hn A (fun L hL => h L (List.mem_cons_of_mem _ hL))
    have z : ∀ l : List UInt8, (∀ c ∈ l, c ≠ 10) → l.count 10 = 0 := fun l hl => List.count_eq_zero.2 fun h => hl 10 h rfl
    unfold againT at ih ⊢
    rw [List.flatMap_cons, List.count_append, ih, List.count_append, List.count_cons, List.count_append, List.count_cons, z _ (lineT_ten g L (h L (List.mem_cons_self ..))), z _ (note_ten note hn), List.length_cons]
    simp
    omega
theorem again_mem (g : Nat) (note : List UInt8) (A : List (Nat × List (List UInt8))) : ∀ c ∈ againT g note A, c = 32 ∨ c = 10 ∨ c = 33 ∨ c ∈ note ∨ ∃ L ∈ A, ∃ w ∈ L.2, c ∈ w := by
  intro c hc
  obtain ⟨L, hL, hc⟩ := List.mem_flatMap.1 hc
  rcases List.mem_append.1 hc with hc | hc
  · rcases List.mem_append.1 hc with hc | hc
    · exact .inl (List.eq_of_mem_replicate hc)
    · obtain ⟨w, hw, hc⟩ := List.mem_flatMap.1 hc
      rcases List.mem_append.1 hc with hc | hc
      · exact .inr (.inr (.inr (.inr ⟨L, hL, w, hw, hc⟩)))
      · exact .inl (List.eq_of_mem_replicate hc)
  · simp only [List.cons_append, List.nil_append, List.mem_cons, List.mem_append, List.not_mem_nil, or_false] at hc
    rcases hc with h | h | h | h | h | h | h | h
    all_goals first | exact .inl h | exact .inr (.inl h) | exact .inr (.inr (.inl h)) | exact .inr (.inr (.inr (.inl h)))
/-- Tokens put together: a plain one in quotes, blanks, a comment of either kind. -/
def wordT (t : Int × List UInt8) : List UInt8 := if t.1 = 1 then 34 :: (t.2 ++ [34]) else t.2
def tailT (g : Nat) (note : List UInt8) : List UInt8 := List.replicate g 32 ++ (47 :: 42 :: (note ++ 42 :: 47 :: 32 :: 35 :: 32 :: (note ++ [10])))
def anewT (g : Nat) (note : List UInt8) (A : List (Int × List UInt8)) : List UInt8 := A.flatMap fun t => wordT t ++ tailT g note
end Go.Proofs.YtbnihnggljagnaaDoor.LexSpec
