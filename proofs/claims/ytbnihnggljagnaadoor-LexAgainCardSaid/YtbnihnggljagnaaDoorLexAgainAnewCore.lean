/- What lex.Tokens answers at tokens that were put together anew. Conditions: none. -/
import Derived.Test.YtbnihnggljagnaaDoorLexAgainTokensCore
namespace Go.Proofs.YtbnihnggljagnaaDoor.QLexAgain
open Go.RowKit Go.Proofs.YtbnihnggljagnaaDoorW.PrintWords Go.Proofs.YtbnihnggljagnaaDoor.Tools Go.Proofs.YtbnihnggljagnaaDoor.LexMath Go.Proofs.YtbnihnggljagnaaDoor.LexSpec
set_option linter.unusedVariables false
theorem drop_facts {s : ByteArray} {i : Nat} {x y : List UInt8} (h : s.data.toList.drop i = x ++ y) (hi : i ≤ s.size) : i + x.length ≤ s.size ∧ s.data.toList.drop (i + x.length) = y ∧ ∀ (j : Nat) (hj : j < x.length), bt s ((i + j : Nat) : Int) = (x[j]'hj).toNat := by
  have hl := congrArg List.length h
  rw [List.length_drop, size_list, List.length_append] at hl
  refine ⟨by omega, ?_, fun j hj => ?_⟩
  · rw [← List.drop_drop, h, List.drop_left]
  · have e : s.data.toList[i + j]? = some (x[j]'hj) := by
      rw [← List.getElem?_drop, h, List.getElem?_append_left hj, List.getElem?_eq_getElem hj]
    exact (bt_some e).2
theorem drop_extract {s : ByteArray} {i : Nat} {x y : List UInt8} (h : s.data.toList.drop i = x ++ y) : (s.extract i (i + x.length)).data.toList = x := by
  rw [list_mid, h, show i + x.length - i = x.length by omega, List.take_left]
/-- A token that may be put together. -/
def okTok (t : Int × List UInt8) : Prop := (t.1 = 1 ∧ ∀ c ∈ t.2, c ≠ 34 ∧ c ≠ 10) ∨ ∃ c : UInt8, t.2 = [c] ∧ ¬ sgn c.toNat = 0 ∧ t.1 = sgn c.toNat
theorem sgn_one (c : Int) (h : sgn c = 1) : False := by
  unfold sgn at h
  repeat' split at h
  all_goals omega
section
variable {s : ByteArray} (hs : s.size ≤ 65536) (hg : ∀ j, j < s.size → good s j)
include hs hg
theorem v_blanks {oa : List S64} {r : List S64 × Int × Int × Int} (l : List UInt8) : ∀ (g i : Nat), i ≤ s.size → s.data.toList.drop i = List.replicate g 32 ++ l → At0 s (i + g) oa r → At0 s i oa r
  | 0, i, _, _, h => h
  | g + 1, i, hi, hd, h => by
    have hd' : s.data.toList.drop i = [32] ++ (List.replicate g 32 ++ l) := by rw [hd, List.replicate_succ]; rfl
    obtain ⟨f1, f2, f3⟩ := drop_facts hd' hi
    have b := f3 0 (by simp)
    rw [Nat.add_zero] at b
    refine step_blank hs hg (by simp at f1; omega) (.inl b) (v_blanks l g (i + 1) f1 f2 ?_)
    rw [show i + 1 + g = i + (g + 1) by omega]
    exact h
theorem v_tail {oa : List S64} {r : List S64 × Int × Int × Int} (g : Nat) (note l : List UInt8) (hn : ∀ c ∈ note, c ≠ 42 ∧ c ≠ 10) (i : Nat) (hi : i ≤ s.size) (hd : s.data.toList.drop i = tailT g note ++ l) (h : At0 s (i + (tailT g note).length) oa r) : At0 s i oa r := by
  have e1 : tailT g note ++ l = List.replicate g 32 ++ (([47, 42] ++ (note ++ [42, 47])) ++ ([32] ++ (([35, 32] ++ note) ++ ([10] ++ l)))) := by
    unfold tailT
    simp only [List.append_assoc, List.cons_append, List.nil_append]
  have elen : (tailT g note).length = g + (note.length + 4) + 1 + (note.length + 2) + 1 := by
    unfold tailT
    simp only [List.length_append, List.length_replicate, List.length_cons, List.length_nil]
    omega
  rw [e1] at hd
  obtain ⟨a1, a2, a3⟩ := drop_facts hd hi
  rw [List.length_replicate] at a1 a2
  obtain ⟨b1, b2, b3⟩ := drop_facts a2 a1
  have blen : ([47, 42] ++ (note ++ [42, 47]) : List UInt8).length = note.length + 4 := by simp
  rw [blen] at b1 b2
  obtain ⟨c1, c2, c3⟩ := drop_facts b2 b1
  have c1 : i + g + (note.length + 4) + 1 ≤ s.size := c1
  have c2 : s.data.toList.drop (i + g + (note.length + 4) + 1) = _ := c2
  obtain ⟨d1, d2, d3⟩ := drop_facts c2 c1
  have dlen : ([35, 32] ++ note : List UInt8).length = note.length + 2 := by simp
  rw [dlen] at d1 d2
  obtain ⟨f1, f2, f3⟩ := drop_facts d2 d1
  have f1 : i + g + (note.length + 4) + 1 + (note.length + 2) + 1 ≤ s.size := f1
  refine v_blanks hs hg _ g i hi hd ?_
  -- the comment
  have q0 := b3 0 (by rw [blen]; omega)
  have q1 := b3 1 (by rw [blen]; omega)
  have q2 := b3 (note.length + 2) (by rw [blen]; omega)
  have q3 := b3 (note.length + 3) (by rw [blen]; omega)
  have g2 : ([47, 42] ++ (note ++ [42, 47]) : List UInt8)[note.length + 2]'(by rw [blen]; omega) = 42 := by
    rw [List.getElem_append_right (by simp)]
    simp
  have g3 : ([47, 42] ++ (note ++ [42, 47]) : List UInt8)[note.length + 3]'(by rw [blen]; omega) = 47 := by
    rw [List.getElem_append_right (by simp)]
    simp only [List.length_cons, List.length_nil]
    rw [List.getElem_append_right (by omega)]
    simp
  rw [g2] at q2
  rw [g3] at q3
  rw [Nat.add_zero] at q0
  have q0 : bt s ((i + g : Nat) : Int) = 47 := q0
  have q1 : bt s ((i + g : Nat) + 1 : Int) = 42 := q1
  have q2 : bt s ((i + g + 2 + note.length : Nat) : Int) = 42 := by rw [show i + g + 2 + note.length = i + g + (note.length + 2) by omega]; exact q2
  have q3 : bt s (((i + g + 2 + note.length : Nat) : Int) + 1) = 47 := by
    have : ((i + g + (note.length + 3) : Nat) : Int) = ((i + g + 2 + note.length : Nat) : Int) + 1 := by omega
    rw [← this]; exact q3
  refine step_comm hs hg (i := i + g) (by omega) ⟨by omega, q0, q1⟩ note.length (by omega) q2 q3 (fun j hj h2 => ?_) ?_
  · have := b3 (j + 2) (by rw [blen]; omega)
    have gj : ([47, 42] ++ (note ++ [42, 47]) : List UInt8)[j + 2]'(by rw [blen]; omega) = note[j]'hj := by
      rw [List.getElem_append_right (by simp)]
      simp only [List.length_cons, List.length_nil]
      rw [List.getElem_append_left (by omega)]
      rfl
    rw [gj, show i + g + (j + 2) = i + g + 2 + j by omega, h2.1] at this
    refine (hn (note[j]'hj) (List.getElem_mem hj)).1 (UInt8.toNat_inj.1 ?_)
    show (note[j]'hj).toNat = 42
    omega
  -- the blank
  have r0 := c3 0 (by simp)
  rw [Nat.add_zero] at r0
  refine step_blank hs hg (i := i + g + (note.length + 4)) (by omega) (.inl r0) ?_
  -- the comment to the line's end
  have t0 := d3 0 (by rw [dlen]; omega)
  rw [Nat.add_zero] at t0
  have u0 := f3 0 (by simp)
  rw [Nat.add_zero] at u0
  refine step_line hs hg (i := i + g + (note.length + 4) + 1) (by omega) t0 (note.length + 2) d1 (fun j h1 h2 h3 => ?_) (.inr u0) ?_
  · obtain ⟨k, rfl⟩ : ∃ k, j = i + g + (note.length + 4) + 1 + k := ⟨j - (i + g + (note.length + 4) + 1), by omega⟩
    have hk : k < ([35, 32] ++ note : List UInt8).length := by rw [dlen]; omega
    have := d3 k hk
    rw [h3] at this
    have hm : ([35, 32] ++ note : List UInt8)[k]'hk ∈ ([35, 32] ++ note : List UInt8) := List.getElem_mem hk
    have he : ([35, 32] ++ note : List UInt8)[k]'hk = 10 := UInt8.toNat_inj.1 (by show _ = 10; omega)
    rw [he] at hm
    rcases List.mem_append.1 hm with hm | hm
    · revert hm; decide
    · exact (hn 10 hm).2 rfl
  refine step_blank hs hg (i := i + g + (note.length + 4) + 1 + (note.length + 2)) (by omega) (.inr u0) ?_
  rw [elen] at h
  rw [show i + g + (note.length + 4) + 1 + (note.length + 2) + 1 = i + (g + (note.length + 4) + 1 + (note.length + 2) + 1) by omega]
  exact h
theorem v_word (t : Int × List UInt8) (ht : okTok t) (l : List UInt8) (i : Nat) (hi : i ≤ s.size) (hd : s.data.toList.drop i = wordT t ++ l) :
    ∃ k : Tk, k.kind = t.1 ∧ k.text.data.toList = t.2 ∧ ∀ (oa : List S64) (r : List S64 × Int × Int × Int), oa.length < 3518437208883 → At0 s (i + (wordT t).length) (oa ++ [k.a]) r → At0 s i oa r := by
  rcases ht with ⟨h1, h2⟩ | ⟨c, h1, h2, h3⟩
  · have e : wordT t = [34] ++ (t.2 ++ [34]) := by unfold wordT; rw [if_pos h1]; rfl
    have elen : (wordT t).length = t.2.length + 2 := by rw [e]; simp
    rw [e, List.append_assoc] at hd
    obtain ⟨a1, a2, a3⟩ := drop_facts hd hi
    have a1 : i + 1 ≤ s.size := a1
    have a2 : s.data.toList.drop (i + 1) = (t.2 ++ [34]) ++ l := a2
    have a0 := a3 0 (by simp)
    rw [Nat.add_zero] at a0
    rw [List.append_assoc] at a2
    obtain ⟨b1, b2, b3⟩ := drop_facts a2 a1
    obtain ⟨c1, c2, c3⟩ := drop_facts b2 b1
    have c0 := c3 0 (by simp)
    rw [Nat.add_zero] at c0
    have c1 : i + 1 + t.2.length + 1 ≤ s.size := c1
    refine ⟨⟨1, s.extract (i + 1) (i + t.2.length + 1), (pl s i).1, (pl s i).2⟩, h1.symm, ?_, fun oa r ho hr => ?_⟩
    · have := drop_extract a2
      rw [show i + 1 + t.2.length = i + t.2.length + 1 by omega] at this
      exact this
    · refine step_quot hs hg (by omega) ho a0 t.2.length (by omega) c0 (fun j h3 h4 => ?_) ?_
      · obtain ⟨k, rfl⟩ : ∃ k, j = i + 1 + k := ⟨j - (i + 1), by omega⟩
        have hk : k < t.2.length := by omega
        have hb := b3 k hk
        obtain ⟨n1, n2⟩ := h2 (t.2[k]'hk) (List.getElem_mem hk)
        rw [hb]
        constructor
        · intro h; exact n2 (UInt8.toNat_inj.1 (by show _ = 10; omega))
        · intro h; exact n1 (UInt8.toNat_inj.1 (by show _ = 34; omega))
      · rw [elen] at hr
        exact hr
  · have hne : ¬ t.1 = 1 := fun h => sgn_one c.toNat (h3 ▸ h)
    have e : wordT t = [c] := by unfold wordT; rw [if_neg hne, h1]
    rw [e] at hd ⊢
    obtain ⟨a1, a2, a3⟩ := drop_facts hd hi
    have a1 : i + 1 ≤ s.size := a1
    have a0 := a3 0 (by simp)
    rw [Nat.add_zero] at a0
    have a0 : bt s (i : Int) = c.toNat := a0
    refine ⟨⟨sgn (bt s i), s.extract i (i + 1), (pl s i).1, (pl s i).2⟩, by rw [h3, ← a0], ?_, fun oa r ho hr => ?_⟩
    · rw [h1]
      have e1 := drop_extract hd
      rw [List.length_singleton] at e1
      exact e1
    · exact step_sign hs hg (by omega) ho (by rw [a0]; exact h2) hr
theorem v_all (g : Nat) (note : List UInt8) (hn : ∀ c ∈ note, c ≠ 42 ∧ c ≠ 10) : ∀ (A : List (Int × List UInt8)) (i : Nat), i ≤ s.size → s.data.toList.drop i = anewT g note A → (∀ t ∈ A, okTok t) →
    ∃ T : List Tk, T.map (fun t => (t.kind, t.text.data.toList)) = A ∧ ∀ (oa : List S64), oa.length + A.length < 3518437208883 → At0 s i oa (oa ++ T.map Tk.a, 0, 0, 0)
  | [], i, hi, hd, _ => by
    have hl := congrArg List.length hd
    rw [List.length_drop, size_list] at hl
    have hl : s.size - i = 0 := hl
    have : i = s.size := by omega
    subst this
    refine ⟨[], rfl, fun oa _ => ?_⟩
    rw [List.map_nil, List.append_nil]
    exact tokens_end s oa
  | t :: A, i, hi, hd, hA => by
    have hd' : s.data.toList.drop i = wordT t ++ (tailT g note ++ anewT g note A) := by
      rw [hd]
      unfold anewT
      rw [List.flatMap_cons, List.append_assoc]
    obtain ⟨k, k1, k2, k3⟩ := v_word hs hg t (hA t (List.mem_cons_self ..)) _ i hi hd'
    obtain ⟨a1, a2, _⟩ := drop_facts hd' hi
    obtain ⟨b1, b2, _⟩ := drop_facts a2 a1
    obtain ⟨T, t1, t2⟩ := v_all g note hn A _ b1 b2 (fun t ht => hA t (List.mem_cons_of_mem _ ht))
    refine ⟨k :: T, by rw [List.map_cons, t1, k1, k2], fun oa ho => ?_⟩
    rw [List.length_cons] at ho
    refine k3 oa _ (by omega) (v_tail hs hg g note _ hn _ a1 a2 ?_)
    have := t2 (oa ++ [k.a]) (by rw [List.length_append]; simp; omega)
    rw [List.append_assoc] at this
    exact this
end
/-- What is answered may be put together. -/
theorem at_ok {s : ByteArray} {i : Nat} {t : Tk} (h : At s i t) : okTok (t.kind, t.text.data.toList) := by
  obtain ⟨h0, _, _, h⟩ := h
  have no : ∀ (a b : Nat), b ≤ s.size → (∀ j : Nat, a ≤ j → j < b → ¬ bt s j = 10 ∧ ¬ bt s j = 34) → ∀ c ∈ (s.extract a b).data.toList, c ≠ 34 ∧ c ≠ 10 := fun a b hb hno c hc => by
    obtain ⟨k, hk⟩ := List.mem_iff_getElem?.1 hc
    obtain ⟨h1, h2⟩ := bt_some hk
    have hsz : (s.extract a b).size = b - a := by rw [ByteArray.size_extract]; omega
    rw [bt_ext s a k b hb (by omega)] at h2
    obtain ⟨n1, n2⟩ := hno (a + k) (by omega) (by omega)
    constructor
    · rintro rfl; exact n2 h2
    · rintro rfl; exact n1 h2
  rcases h with ⟨_, k, m, h1, h2, h3⟩ | ⟨_, k, m, _, h1, h2, h3⟩ | ⟨h1, k, h2⟩
  · left
    refine ⟨k, ?_⟩
    show ∀ c ∈ t.text.data.toList, _
    rw [h2]
    exact no (i + 1) (i + m + 1) (by omega) (fun j h4 h5 => h3 j h4 (by omega))
  · left
    refine ⟨k, ?_⟩
    show ∀ c ∈ t.text.data.toList, _
    rw [h2]
    exact no i (i + m) h1 h3
  · right
    have hb := bt_list s i h0
    have hd : s.data.toList.drop i = [(bt s i).toNat.toUInt8] ++ s.data.toList.drop (i + 1) := drop_cons s i h0
    refine ⟨(bt s i).toNat.toUInt8, ?_, ?_, ?_⟩
    · show t.text.data.toList = _
      rw [h2]
      have e1 := drop_extract hd
      rw [List.length_singleton] at e1
      exact e1
    · rw [← (byte_eq (bt s i) (bt_nn s i) _).1 rfl]; exact h1
    · rw [← (byte_eq (bt s i) (bt_nn s i) _).1 rfl]; exact k
theorem toks_ok {s : ByteArray} : ∀ {A : List Tk} {i : Nat}, Toks s i A → ∀ t ∈ A, ∃ a, At s a t
  | _ :: A, i, ⟨a, _, h, hr⟩, t, ht => by
    rcases List.mem_cons.1 ht with rfl | ht
    · exact ⟨a, h⟩
    · exact toks_ok hr t ht
end Go.Proofs.YtbnihnggljagnaaDoor.QLexAgain
