/- The plain law of LexNames. Conditions: none. -/
import Derived.Test.YtbnihnggljagnaaDoorQLexNamesx5
import Derived.Test.YtbnihnggljagnaaDoorLexNamesTokensCore
import Derived.Test.YtbnihnggljagnaaDoorLexNamesPureLexWorks
namespace Go.Proofs.YtbnihnggljagnaaDoor.QLexNames
open Go.RowKit Go.Proofs.YtbnihnggljagnaaDoorW.PrintWords Go.Proofs.YtbnihnggljagnaaDoor.Tools Go.Proofs.YtbnihnggljagnaaDoor.LexMath Go.Proofs.YtbnihnggljagnaaDoor.LexSpec
set_option linter.unusedVariables false
set_option linter.unusedSimpArgs false
theorem nums_rep (n : Nat) (v : Int) : (strOfNums (List.replicate n v)).data.toList = List.replicate n (UInt8.ofNat v.toNat) := by
  rw [strOfNums_data, List.map_replicate]
theorem nums_size (n : Nat) (v : Int) : (strOfNums (List.replicate n v)).size = n := by rw [strOfNums_size, List.length_replicate]
theorem rep_bt (s : ByteArray) (n : Nat) (c : UInt8) (l : List UInt8) (h : s.data.toList = List.replicate n c ++ l) (i : Nat) (hi : i < n) : bt s i = c.toNat := by
  have e : s.data.toList[i]? = some c := by
    rw [h, List.getElem?_append_left (by rw [List.length_replicate]; exact hi), List.getElem?_replicate, if_pos hi]
  exact (bt_some e).2
theorem set_take (x : List Int) (i : Nat) (v : Int) (n : Nat) (hi : i < x.length) (h : x.take i = List.replicate i v) : (x.set i v).take (i + 1) = List.replicate (i + 1) v := by
  rw [List.take_add_one, List.getElem?_set_self hi, List.take_set_of_le (Nat.le_refl _), h]
  exact List.replicate_succ'.symm
theorem one_line (n : Nat) (hn : 0 < n) : (linesL (List.replicate n 97)).length = 1 := by
  have h10 : ∀ c ∈ List.replicate n (97 : UInt8), c ≠ 10 := fun c hc => by rw [List.eq_of_mem_replicate hc]; decide
  have h32 : ∀ c ∈ List.replicate n (97 : UInt8), c ≠ 32 := fun c hc => by rw [List.eq_of_mem_replicate hc]; decide
  have hne : List.replicate n (97 : UInt8) ≠ [] := fun e => by have := congrArg List.length e; rw [List.length_replicate] at this; have : n = 0 := this; omega
  have hh : (List.replicate n (97 : UInt8)).head? = some 97 := by rw [List.head?_replicate, if_neg (by omega)]
  have e : lineL (List.replicate n 97) = some (indentL (List.replicate n 97), [List.replicate n 97]) := by
    unfold lineL
    rw [words_end _ hne h32]
    show (if (List.replicate n (97 : UInt8)).head? = some 33 then _ else _) = _
    rw [hh]
    rfl
  unfold linesL
  rw [rows_last _ h10, List.filterMap_cons, e]
  rfl
theorem check_rows (s : ByteArray) (h : ∀ i : Nat, i < 4096 → bt s i = 10) (hs : s.size = 4097) : Ev (fun k => lex_check.f k s) (4097, 1, 3) := by
  have key : ∀ d i : Nat, i + d = 4096 → Ev (fun k => lex_check.l0 k s s.size i ((i : Int) + 1) 1) (4097, 1, 3) := by
    intro d
    induction d with
    | zero =>
      intro i hi
      refine Ev.step (fun k => by rw [lex_check.l0]) ?_
      exact ev_pos (by omega) (ev_pos (by omega) (ev_to (ev_now _) (by rw [show (i : Int) = 4096 by omega]; rfl)))
    | succ d ih =>
      intro i hi
      have e := ih (i + 1) (by omega)
      refine Ev.step (fun k => by rw [lex_check.l0]) (ev_pos (by omega) (ev_neg (by omega) (ev_pos (by omega) (ev_pos (by omega) (ev_pos (h i (by omega)) ?_)))))
      rw [w64_id _ (by omega) (by omega), w64_id _ (by omega) (by omega)]
      exact e
  have e := key 4096 0 (by omega)
  have e : Ev (fun k => lex_check.l0 k s s.size 0 1 1) (4097, 1, 3) := e
  exact Ev.congr (fun k => by rw [lex_check.f]) (ev_neg (by omega) e)
theorem tokens_bad (s : ByteArray) (r : Int × Int × Int) (hc : Ev (fun k => lex_check.f k s) r) (h : ¬ r.2.2 = 0) : Ev (fun k => lex_Tokens.f k s) (([], r) : List S64 × Int × Int × Int) :=
  Ev.congr (fun k => by rw [lex_Tokens.f]) (Ev.bind hc (ev_neg h (ev_now _)))
theorem name_yes : lex_Name.f ((⟨#[97, 98, 99, 100, 101, 102, 103, 104, 105, 106, 107, 108, 109, 110, 111, 112, 113, 114, 115, 116, 117, 118, 119, 120, 121, 122, 45, 48, 49, 50, 51, 52, 120]⟩ : ByteArray).extract 0 32) = some true := by decide +kernel
theorem name_no : lex_Name.f (⟨#[97, 98, 99, 100, 101, 102, 103, 104, 105, 106, 107, 108, 109, 110, 111, 112, 113, 114, 115, 116, 117, 118, 119, 120, 121, 122, 45, 48, 49, 50, 51, 52, 120]⟩ : ByteArray) = some false := by decide +kernel
theorem blank_bad : lex_check.f 10 (⟨#[97, 98, 10, 32, 127]⟩ : ByteArray) = some (2, 2, 70) := by decide +kernel
theorem lexNames_pure : ∃ k, waymarklaw07_LexNames.f k = some true := by
  apply Ev.rounds
  have hw : Ev (fun k => waymarklaw07_works.f k) true := Ev.of (waymarklaw07_works.mono) works_true
  -- the six texts
  obtain ⟨X1, hX1, L1⟩ : ∃ X : List S35, X.length = 1 ∧ Ev (fun k => lex_Lines.f k (strOfNums (List.replicate 65536 97))) (X, 0, 0, 0) := by
    have hsz := nums_size 65536 97
    have hl := nums_rep 65536 97
    have hl : (strOfNums (List.replicate 65536 97)).data.toList = List.replicate 65536 97 := hl
    generalize strOfNums (List.replicate 65536 97) = s at hsz hl
    have hb : ∀ i : Nat, i < 65536 → bt s i = 97 := fun i hi => rep_bt s 65536 97 [] (by rw [hl, List.append_nil]) i hi
    have hp : ∀ j : Nat, j ≤ 65536 → (pl s j).1 = 1 := by
      intro j
      induction j with
      | zero => intro _; rfl
      | succ j ih => intro hj; rw [pl_same (by rw [hb j (by omega)]; decide)]; exact ih (by omega)
    have hc := check_ok s (by omega) (fun j hj => .inr (by rw [hb j (by omega)]; decide)) (fun j hj => by rw [hp j (by omega)]; decide)
    obtain ⟨A, _, a2, _, F⟩ := lines_ok s (by omega) hc
    refine ⟨A.map Ln.a, ?_, F⟩
    have := congrArg List.length a2
    rw [hl, one_line 65536 (by decide), List.length_map] at this
    rw [List.length_map]
    exact this
  have L2 : Ev (fun k => lex_Lines.f k (strOfNums (List.replicate 65537 97))) (([], 0, 0, 3) : List S35 × Int × Int × Int) :=
    lines_bad _ _ (check_big _ (by rw [nums_size]; omega)) (show ¬ (3 : Int) = 0 by decide)
  have hl3 : (strOfNums (List.replicate 4096 10)).data.toList = List.replicate 4096 10 := nums_rep 4096 10
  have hs3 := nums_size 4096 10
  obtain ⟨X3, L3⟩ : ∃ X : List S35, Ev (fun k => lex_Lines.f k (strOfNums (List.replicate 4096 10))) (X, 0, 0, 0) := by
    generalize strOfNums (List.replicate 4096 10) = s at hs3 hl3
    have hb : ∀ i : Nat, i < 4096 → bt s i = 10 := fun i hi => rep_bt s 4096 10 [] (by rw [hl3, List.append_nil]) i hi
    have hp : ∀ j : Nat, j ≤ 4096 → (pl s j).1 = (j : Int) + 1 := by
      intro j
      induction j with
      | zero => intro _; rfl
      | succ j ih => intro hj; rw [pl_line (hb j (by omega))]; show (pl s j).1 + 1 = _; rw [ih (by omega)]; omega
    have hc := check_ok s (by omega) (fun j hj => .inl (hb j (by omega))) (fun j hj => by rw [hp j (by omega)]; omega)
    obtain ⟨A, _, _, _, F⟩ := lines_ok s (by omega) hc
    exact ⟨_, F⟩
  have two : ∀ x : ByteArray, x.size = 1 → Ev (fun k => lex_check.f k (strOfNums (List.replicate 4096 10) ++ x)) (4097, 1, 3) := fun x hx =>
    check_rows _ (fun i hi => rep_bt _ 4096 10 x.data.toList (by rw [ByteArray.data_append, Array.toList_append, hl3]) i hi) (by rw [ByteArray.size_append, hs3, hx])
  have L4 := lines_bad _ _ (two (⟨#[32]⟩ : ByteArray) rfl) (show ¬ (3 : Int) = 0 by decide)
  have L5 := tokens_bad _ _ (two (⟨#[120]⟩ : ByteArray) rfl) (show ¬ (3 : Int) = 0 by decide)
  have L6 := tokens_bad _ _ (Ev.of (lex_check.mono _) blank_bad) (show ¬ (70 : Int) = 0 by decide)
  have fin : ∀ x1 x3 : List Int, x1 = List.replicate 65537 97 → x3 = List.replicate 4096 10 → ∀ i : Nat, i = 4096 → Ev (fun k => waymarklaw07_LexNames.l1 k x1 x3 i) true := by
    intro x1 x3 h1 h3 i hi
    have e1 : x1.length = 65537 := by rw [h1, List.length_replicate]
    have e3 : x3.length = 4096 := by rw [h3, List.length_replicate]
    have e4 : x1.take 65536 = List.replicate 65536 97 := by rw [h1, List.take_replicate]; rfl
    refine Ev.step (fun k => by rw [waymarklaw07_LexNames.l1]) (ev_neg (by omega) (ev_pos (by omega) ?_))
    rw [e4]
    refine Ev.bind L1 ?_
    rw [h1, h3]
    refine Ev.bind L2 (Ev.bind L3 (ev_pos (by rw [hs3]; omega) (Ev.bind L4 (Ev.bind L5 (Ev.bind L6 ?_)))))
    refine ev_pos rfl (ev_pos (show (X1.length : Int) = 1 by omega) (ev_pos rfl (ev_pos rfl (ev_pos rfl (ev_pos rfl (ev_pos rfl (ev_pos rfl (ev_pos rfl (ev_pos rfl (ev_pos rfl (ev_pos rfl (ev_pos rfl (ev_pos rfl (ev_pos (by decide) (ev_pos (by decide) ?_)))))))))))))))
    exact ev_is _ name_yes (ev_pos rfl (ev_is _ name_no (ev_now _)))
  have l1 : ∀ x1 : List Int, x1 = List.replicate 65537 97 → ∀ d i : Nat, ∀ x3 : List Int, i + d = 4096 → x3.length = 4096 → x3.take i = List.replicate i 10 → Ev (fun k => waymarklaw07_LexNames.l1 k x1 x3 i) true := by
    intro x1 h1 d
    induction d with
    | zero =>
      intro i x3 hi hl ht
      obtain rfl : i = 4096 := by omega
      rw [List.take_of_length_le (by omega)] at ht
      exact fin x1 x3 h1 ht _ rfl
    | succ d ih =>
      intro i x3 hi hl ht
      refine Ev.step (fun k => by rw [waymarklaw07_LexNames.l1]) (ev_pos (by omega) (ev_pos (by omega) ?_))
      rw [w64_id _ (by omega) (by omega), Int.toNat_natCast]
      exact ih (i + 1) _ (by omega) (by rw [List.length_set]; exact hl) (set_take x3 i 10 4096 (by omega) ht)
  have l0 : ∀ d i : Nat, ∀ x1 : List Int, i + d = 65537 → x1.length = 65537 → x1.take i = List.replicate i 97 → Ev (fun k => waymarklaw07_LexNames.l0 k x1 i) true := by
    intro d
    induction d with
    | zero =>
      intro i x1 hi hl ht
      obtain rfl : i = 65537 := by omega
      rw [List.take_of_length_le (by omega)] at ht
      refine Ev.step (fun k => by rw [waymarklaw07_LexNames.l0]) (ev_neg (by omega) ?_)
      refine ev_pos (by decide) ?_
      exact l1 x1 ht 4096 0 _ (by omega) (List.length_replicate) rfl
    | succ d ih =>
      intro i x1 hi hl ht
      refine Ev.step (fun k => by rw [waymarklaw07_LexNames.l0]) (ev_pos (by omega) (ev_pos (by omega) ?_))
      rw [w64_id _ (by omega) (by omega), Int.toNat_natCast]
      exact ih (i + 1) _ (by omega) (by rw [List.length_set]; exact hl) (set_take x1 i 97 65537 (by omega) ht)
  refine Ev.congr (fun k => by rw [waymarklaw07_LexNames.f]) (Ev.bind hw (ev_pos rfl ?_))
  refine ev_pos (by decide) ?_
  exact l0 65537 0 _ (by omega) (List.length_replicate) rfl
end Go.Proofs.YtbnihnggljagnaaDoor.QLexNames
