/- A header's text: how it is written, and that it is read back. Conditions: the texts are of no more than 1048577 bytes. -/
import Derived.Test.YtbnihnggljagnaaDoorHeaderBackHdrCore
import Derived.Test.YtbnihnggljagnaaDoorHdrMath
namespace Go.Proofs.YtbnihnggljagnaaDoor.QHeaderBack
open Go.RowKit Go.Proofs.YtbnihnggljagnaaDoorW.PrintWords Go.Proofs.YtbnihnggljagnaaDoorW.PrintLast Go.Proofs.YtbnihnggljagnaaDoorW.PrintMore Go.Proofs.YtbnihnggljagnaaDoor.Tools Go.Proofs.YtbnihnggljagnaaDoor.AM Go.Proofs.YtbnihnggljagnaaDoor.LexMath Go.Proofs.YtbnihnggljagnaaDoor.NumMath Go.Proofs.YtbnihnggljagnaaDoor.HdrMath
open Go.Lib (decDigits)
set_option linter.unusedVariables false
set_option linter.unusedSimpArgs false
/-! ### numbers of a size -/
theorem pm_of (M : Nat) (hM : M < 18446744073709551616) (l : List UInt8) : ∀ acc u, valD acc l = some u → u ≤ M → Lib.parseUintM M acc l = .ok u := by
  induction l with
  | nil => intro acc u h _; rw [valD] at h; rw [Lib.parseUintM, Option.some.inj h]
  | cons c l ih =>
    intro acc u h hu
    rw [valD] at h
    rw [Lib.parseUintM]
    split at h
    · rename_i hc
      rw [if_pos hc]
      have := valD_le _ _ _ h
      rw [if_neg (by omega), if_neg (by omega)]
      exact ih _ _ h hu
    · cases h
theorem puN_itoa (k : Nat) (hk : k ≤ 64) (m : Int) (h0 : 0 ≤ m) (h1 : m ≤ ((2 ^ k - 1 : Nat) : Int)) (y : ByteArray) (hy : y.data.toList = Lib.itoa m) (hd : Lib.itoa m = decDigits m.toNat) : puN k y = some m := by
  have hM : 2 ^ k - 1 < 18446744073709551616 := by
    have := Nat.pow_le_pow_right (n := 2) (by omega) hk
    have e : (2 : Nat) ^ 64 = 18446744073709551616 := by decide
    omega
  unfold puN Lib.parseUintB
  rw [hy, hd, if_neg (dec_ne _), pm_of (2 ^ k - 1) hM _ _ _ (dec_val m.toNat) (by omega)]
  show some ((m.toNat : Nat) : Int) = some m
  rw [Int.toNat_of_nonneg h0]
theorem itoa_dec (m : Int) (h0 : 0 ≤ m) (h1 : m ≤ 65535) : Lib.itoa m = decDigits m.toNat := by
  obtain ⟨n, rfl⟩ : ∃ n : Nat, m = n := ⟨m.toNat, by omega⟩
  rw [Lib.itoa_nonneg, Int.toNat_natCast]
theorem digs_no (m : Int) (h0 : 0 ≤ m) (h1 : m ≤ 65535) (c : UInt8) (hc : c.toNat < 48 ∨ 57 < c.toNat) : ∀ x ∈ Lib.itoa m, x ≠ c := by
  intro x hx
  rw [itoa_dec m h0 h1] at hx
  have := dec_digits _ x hx
  rintro rfl
  omega
theorem text_noC (a : Int) (c : UInt8) (hc : c.toNat < 46 ∨ 57 < c.toNat) : ∀ x ∈ (textOf a).data.toList, x ≠ c := by
  have hb := bts a
  intro x hx
  unfold textOf at hx
  rw [text_list] at hx
  have d : ∀ p : Int, 0 ≤ p ∧ p ≤ 255 → ∀ x ∈ Lib.itoa p, x ≠ c := fun p hp => digs_no p hp.1 (by omega) c (by omega)
  simp only [List.mem_append, List.mem_cons] at hx
  have h46 : (46 : UInt8) ≠ c := by
    intro e
    have : c.toNat = 46 := by rw [← e]; rfl
    omega
  rcases hx with h | h | h | h | h | h | h
  · exact d _ hb.1 x h
  · rw [h]; exact h46
  · exact d _ hb.2.1 x h
  · rw [h]; exact h46
  · exact d _ hb.2.2.1 x h
  · rw [h]; exact h46
  · exact d _ hb.2.2.2 x h
/-! ### the text -/
def endT (a m : Int) : ByteArray := (textOf a ++ (⟨#[58]⟩ : ByteArray)) ++ ⟨(Lib.itoa m).toArray⟩
def hText (X : Int × Int × Int × Int × Int) : ByteArray := spaced (endT X.1 X.2.2.2.1) (endT X.2.1 X.2.2.2.2) ⟨(Lib.itoa X.2.2.1).toArray⟩
theorem end_list (a m : Int) : (endT a m).data.toList = (textOf a).data.toList ++ 58 :: Lib.itoa m := by
  unfold endT
  simp [ByteArray.data_append]
theorem hText_list (X : Int × Int × Int × Int × Int) : (hText X).data.toList = (endT X.1 X.2.2.2.1).data.toList ++ 32 :: ((endT X.2.1 X.2.2.2.2).data.toList ++ 32 :: Lib.itoa X.2.2.1) := by
  unfold hText spaced
  simp [ByteArray.data_append]
theorem textOf_size (a : Int) : (textOf a).size ≤ 19 := by
  have hb := bts a
  exact text_size _ _ _ _ hb.1 hb.2.1 hb.2.2.1 hb.2.2.2
theorem end_size (a m : Int) (h0 : 0 ≤ m) (h1 : m ≤ 65535) : (endT a m).size ≤ 41 := by
  have h := textOf_size a
  have g := itoa_size m (by omega) (by omega)
  unfold endT
  rw [ByteArray.size_append, ByteArray.size_append]
  have : (⟨#[58]⟩ : ByteArray).size = 1 := rfl
  omega
theorem hText_size {X : Int × Int × Int × Int × Int} (hX : InT X) : (hText X).size ≤ 105 := by
  have h1 := end_size X.1 X.2.2.2.1 hX.sp.1 hX.sp.2
  have h2 := end_size X.2.1 X.2.2.2.2 hX.dp.1 hX.dp.2
  have g := itoa_size X.2.2.1 (by have := hX.p; omega) (by have := hX.p; omega)
  unfold hText spaced
  rw [ByteArray.size_append, ByteArray.size_append, ByteArray.size_append, ByteArray.size_append]
  have : (⟨#[32]⟩ : ByteArray).size = 1 := rfl
  omega
theorem text1_val (a m : Int) (ha : isA a) (h0 : 0 ≤ m) (h1 : m ≤ 65535) : header_Text_1.f a m = some (endT a m) := by
  have h := textOf_size a
  have g := itoa_size m (by omega) (by omega)
  unfold header_Text_1.f
  rw [if_pos ⟨h0, h1⟩, text_val a ha, Option.bind_some]
  unfold strconv_Itoa.f
  rw [if_pos (by omega), Option.bind_some, if_pos (by unfold textOf at h; omega)]
  rfl
theorem htext_val {X : Int × Int × Int × Int × Int} (hX : InT X) : header_Text.f X.1 X.2.1 X.2.2.1 X.2.2.2.1 X.2.2.2.2 = some (hText X) := by
  have h1 := end_size X.1 X.2.2.2.1 hX.sp.1 hX.sp.2
  have h2 := end_size X.2.1 X.2.2.2.2 hX.dp.1 hX.dp.2
  have g := itoa_size X.2.2.1 (by have := hX.p; omega) (by have := hX.p; omega)
  unfold header_Text.f
  rw [if_pos hX.p, text1_val X.1 X.2.2.2.1 hX.s hX.sp.1 hX.sp.2, Option.bind_some, text1_val X.2.1 X.2.2.2.2 hX.d hX.dp.1 hX.dp.2, Option.bind_some]
  unfold strconv_Itoa.f
  rw [if_pos (by have := hX.p; omega), Option.bind_some, if_pos (by omega)]
  rfl
/-! ### reading -/
theorem end_no (a m : Int) (h0 : 0 ≤ m) (h1 : m ≤ 65535) : ∀ x ∈ (endT a m).data.toList, x ≠ 32 := by
  intro x hx
  rw [end_list] at hx
  simp only [List.mem_append, List.mem_cons] at hx
  rcases hx with h | h | h
  · exact text_noC a 32 (by decide) x h
  · rw [h]; decide
  · exact digs_no m h0 h1 32 (by decide) x h
theorem split_val (s : ByteArray) (hs : s.size ≤ 1048577) : strings_Split.f s (⟨#[32]⟩ : ByteArray) = some (SQ s 0) := by
  unfold strings_Split.f
  rw [if_pos ⟨by omega, by decide⟩]
  unfold SQ
  rw [ext_all]
theorem eq_of_list {x y : ByteArray} (h : x.data.toList = y.data.toList) : x = y := ByteArray.ext (Array.toList_inj.1 h)
theorem hText_parts {X : Int × Int × Int × Int × Int} (hX : InT X) : SQ (hText X) 0 = [endT X.1 X.2.2.2.1, endT X.2.1 X.2.2.2.2, ⟨(Lib.itoa X.2.2.1).toArray⟩] := by
  have hl := hText_list X
  obtain ⟨h1, l1, r1⟩ := SQ_cons (hText X) 0 _ _ (by rw [List.drop_zero]; exact hl) (end_no X.1 X.2.2.2.1 hX.sp.1 hX.sp.2)
  obtain ⟨h2, l2, r2⟩ := SQ_cons (hText X) _ _ _ r1 (end_no X.2.1 X.2.2.2.2 hX.dp.1 hX.dp.2)
  have hlen := congrArg List.length r2
  rw [List.length_drop, size_list] at hlen
  have hsz := congrArg List.length hl
  rw [size_list] at hsz
  simp only [List.length_append, List.length_cons, List.length_nil] at hsz
  obtain ⟨h3, l3⟩ := SQ_last (hText X) _ (by omega) _ r2 (digs_no X.2.2.1 hX.p.1 (by have := hX.p; omega) 32 (by decide))
  rw [h1, h2, h3, eq_of_list l1, eq_of_list l2, eq_of_list (y := ⟨(Lib.itoa X.2.2.1).toArray⟩) l3]
theorem end_cut (a m : Int) (h0 : 0 ≤ m) (h1 : m ≤ 65535) : ∃ b, strings_Cut.f (endT a m) (⟨#[58]⟩ : ByteArray) = some (textOf a, ⟨(Lib.itoa m).toArray⟩, b) := by
  have hl := end_list a m
  have hz := end_size a m h0 h1
  obtain ⟨g1, g2, g3⟩ := part_at (endT a m) 0 (textOf a).data.toList (Lib.itoa m) 58 (by rw [List.drop_zero]; exact hl)
  rw [size_list] at g1 g2 g3
  simp only [Nat.zero_add] at g1 g2 g3
  have e := cut_valC (endT a m) (textOf a).size (by omega) (by omega) (fun j hj => part_bt (endT a m) 0 (textOf a).data.toList (58 :: Lib.itoa m) (by rw [List.drop_zero]; exact hl) 58 (text_noC a 58 (by decide)) j (by omega) (by rw [size_list]; omega)) (fun _ => g2)
  rw [if_pos g1] at e
  have e1 : (endT a m).extract 0 (textOf a).size = textOf a := by
    refine ByteArray.ext (Array.toList_inj.1 ?_)
    rw [list_take, hl]
    exact List.take_left' (size_list _)
  have e2 : (endT a m).extract ((textOf a).size + 1) (endT a m).size = ⟨(Lib.itoa m).toArray⟩ := by
    refine ByteArray.ext (Array.toList_inj.1 ?_)
    rw [list_ext, g3]
  rw [e1, e2] at e
  exact ⟨_, e⟩
theorem ans_text (a : Int) (ha : isA a) : ans (parse (textOf a)) = (a, 0) := by
  rw [parse_text a ha]
  show (((a.toNat : Nat) : Int), (0 : Int)) = (a, 0)
  rw [Int.toNat_of_nonneg ha.1]
theorem hparse_text {X : Int × Int × Int × Int × Int} (hX : InT X) : Ev (fun k => header_Parse.f k (hText X)) (X.1, X.2.1, X.2.2.1, X.2.2.2.1, X.2.2.2.2, 0) := by
  have hz := hText_size hX
  obtain ⟨b1, c1⟩ := end_cut X.1 X.2.2.2.1 hX.sp.1 hX.sp.2
  obtain ⟨b2, c2⟩ := end_cut X.2.1 X.2.2.2.2 hX.dp.1 hX.dp.2
  have t1 := textOf_size X.1
  have t2 := textOf_size X.2.1
  have v1 := parse_val (textOf X.1) (by omega)
  have v2 := parse_val (textOf X.2.1) (by omega)
  rw [ans_text X.1 hX.s] at v1
  rw [ans_text X.2.1 hX.d] at v2
  obtain ⟨K1, v1⟩ := v1
  obtain ⟨K2, v2⟩ := v2
  simp only at v1 v2
  have g1 := itoa_size X.2.2.2.1 (by have := hX.sp; omega) (by have := hX.sp; omega)
  have g2 := itoa_size X.2.2.2.2 (by have := hX.dp; omega) (by have := hX.dp; omega)
  have g3 := itoa_size X.2.2.1 (by have := hX.p; omega) (by have := hX.p; omega)
  have p1 := puN_itoa 16 (by decide) X.2.2.2.1 hX.sp.1 hX.sp.2 ⟨(Lib.itoa X.2.2.2.1).toArray⟩ rfl (itoa_dec _ hX.sp.1 hX.sp.2)
  have p2 := puN_itoa 16 (by decide) X.2.2.2.2 hX.dp.1 hX.dp.2 ⟨(Lib.itoa X.2.2.2.2).toArray⟩ rfl (itoa_dec _ hX.dp.1 hX.dp.2)
  have p3 := puN_itoa 8 (by decide) X.2.2.1 hX.p.1 hX.p.2 ⟨(Lib.itoa X.2.2.1).toArray⟩ rfl (itoa_dec _ hX.p.1 (by have := hX.p; omega))
  refine ⟨max K1 K2, fun k hk => ?_⟩
  show header_Parse.f k (hText X) = _
  unfold header_Parse.f
  rw [split_val _ (by omega), Option.bind_some, hText_parts hX]
  simp only
  rw [c1, Option.bind_some]
  simp only
  rw [v1 k (by omega), Option.bind_some, c2, Option.bind_some]
  simp only
  rw [v2 k (by omega), Option.bind_some]
  simp only
  rw [if_pos ⟨by omega, by omega, by omega⟩, p1, p2, p3]
  show ((header_Text.f X.1 X.2.1 X.2.2.1 X.2.2.2.1 X.2.2.2.2).bind fun t => if t = hText X then some (X.1, X.2.1, X.2.2.1, X.2.2.2.1, X.2.2.2.2, 0) else some (0, 0, 0, 0, 0, 4)) = _
  rw [htext_val hX, Option.bind_some, if_pos rfl]
/-! ### any text -/
theorem cut_sizes (s : ByteArray) (hs : s.size ≤ 1048577) : ∃ x y b, strings_Cut.f s (⟨#[58]⟩ : ByteArray) = some (x, y, b) ∧ x.size ≤ 1048577 ∧ y.size ≤ 1048577 := by
  obtain ⟨m, h1, h2, h3, h4⟩ := scan_ex (fun j => bt s j = 58) s.size s.size 0 (by omega)
  have e := cut_valC s m hs h2 (fun j hj => h3 j (by omega) hj) (fun h => h4.resolve_left (by omega))
  refine ⟨_, _, _, e, ?_, ?_⟩
  · rw [ByteArray.size_extract]; omega
  · by_cases h : m < s.size
    · rw [if_pos h, ByteArray.size_extract]; omega
    · rw [if_neg h]; show 0 ≤ _; omega
theorem ans_in (s : ByteArray) : isA (ans (parse s)).1 := by
  rcases h : parse s with _ | a
  · exact ⟨by decide, by decide⟩
  · exact parse_isA s a h
theorem headOf_in {x0 y0 x1 y1 p2 : ByteArray} {h : Int × Int × Int × Int × Int} (e : headOf (ans (parse x0)).1 (ans (parse x0)).2 (puN 16 y0) (ans (parse x1)).1 (ans (parse x1)).2 (puN 16 y1) (puN 8 p2) = some h) : InT h := by
  unfold headOf at e
  split at e
  · rcases q0 : puN 16 y0 with _ | m
    · rw [q0] at e; cases e
    · rw [q0] at e
      simp only at e
      split at e
      · rcases q1 : puN 16 y1 with _ | n
        · rw [q1] at e; cases e
        · rw [q1] at e
          simp only at e
          rcases q2 : puN 8 p2 with _ | p
          · rw [q2] at e; cases e
          · rw [q2] at e
            obtain rfl := Option.some.inj e
            exact ⟨ans_in x0, ans_in x1, puN_le 8 p2 p q2, puN_le 16 y0 m q0, puN_le 16 y1 n q1⟩
      · cases e
  · cases e
theorem hparse_any (x : ByteArray) (hs : x.size ≤ 1048577) : ∃ q1 q2 q3 q4 q5 ee : Int, Ev (fun k => header_Parse.f k x) (q1, q2, q3, q4, q5, ee) ∧ (ee = 0 → header_Text.f q1 q2 q3 q4 q5 = some x) := by
  have hsp := split_val x hs
  have hz := SQ_size x x.size 0 (by omega)
  have bad : ∀ w, SQ x 0 = w → (∀ a b c, w ≠ [a, b, c]) → ∃ q1 q2 q3 q4 q5 ee : Int, Ev (fun k => header_Parse.f k x) (q1, q2, q3, q4, q5, ee) ∧ (ee = 0 → header_Text.f q1 q2 q3 q4 q5 = some x) := by
    intro w hw hne
    refine ⟨0, 0, 0, 0, 0, 4, ⟨0, fun k _ => ?_⟩, fun h => absurd h (by decide)⟩
    show header_Parse.f k x = _
    unfold header_Parse.f
    rw [hsp, Option.bind_some, hw]
    rcases w with _ | ⟨a, _ | ⟨b, _ | ⟨c, _ | ⟨d, w⟩⟩⟩⟩
    · rfl
    · rfl
    · rfl
    · exact absurd rfl (hne a b c)
    · rfl
  rcases hw : SQ x 0 with _ | ⟨p0, _ | ⟨p1, _ | ⟨p2, _ | ⟨p3, w⟩⟩⟩⟩
  · exact bad _ hw (by intros; simp)
  · exact bad _ hw (by intros; simp)
  · exact bad _ hw (by intros; simp)
  · rw [hw] at hz
    have s0 := hz p0 (by simp)
    have s1 := hz p1 (by simp)
    have s2 := hz p2 (by simp)
    obtain ⟨x0, y0, b0, c0, z0, z0'⟩ := cut_sizes p0 (by omega)
    obtain ⟨x1, y1, b1, c1, z1, z1'⟩ := cut_sizes p1 (by omega)
    obtain ⟨K0, v0⟩ := parse_val x0 z0
    obtain ⟨K1, v1⟩ := parse_val x1 z1
    simp only at v0 v1
    have key : ∀ k, max K0 K1 ≤ k → header_Parse.f k x = (match headOf (ans (parse x0)).1 (ans (parse x0)).2 (puN 16 y0) (ans (parse x1)).1 (ans (parse x1)).2 (puN 16 y1) (puN 8 p2) with
        | some h => (header_Text.f h.1 h.2.1 h.2.2.1 h.2.2.2.1 h.2.2.2.2).bind fun t => if t = x then some (h.1, h.2.1, h.2.2.1, h.2.2.2.1, h.2.2.2.2, 0) else some (0, 0, 0, 0, 0, 4)
        | none => some (0, 0, 0, 0, 0, 4)) := by
      intro k hk
      unfold header_Parse.f
      rw [hsp, Option.bind_some, hw]
      try simp only
      rw [c0, Option.bind_some]
      try simp only
      rw [v0 k (by omega), Option.bind_some, c1, Option.bind_some]
      try simp only
      rw [v1 k (by omega), Option.bind_some]
      try simp only
      rw [if_pos ⟨by omega, by omega, by omega⟩]
      rfl
    rcases hh : headOf (ans (parse x0)).1 (ans (parse x0)).2 (puN 16 y0) (ans (parse x1)).1 (ans (parse x1)).2 (puN 16 y1) (puN 8 p2) with _ | h
    · rw [hh] at key
      exact ⟨0, 0, 0, 0, 0, 4, ⟨_, key⟩, fun h => absurd h (by decide)⟩
    · rw [hh] at key
      have hI := headOf_in hh
      have ht := htext_val hI
      simp only [ht, Option.bind_some] at key
      by_cases e : hText h = x
      · simp only [if_pos e] at key
        exact ⟨_, _, _, _, _, 0, ⟨_, key⟩, fun _ => by rw [ht, e]⟩
      · simp only [if_neg e] at key
        exact ⟨0, 0, 0, 0, 0, 4, ⟨_, key⟩, fun h => absurd h (by decide)⟩
  · exact bad _ hw (by intros; simp)
end Go.Proofs.YtbnihnggljagnaaDoor.QHeaderBack
