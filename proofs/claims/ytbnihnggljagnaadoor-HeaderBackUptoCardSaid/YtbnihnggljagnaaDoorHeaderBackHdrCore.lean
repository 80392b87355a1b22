/- How addresses are read and written, and texts are parted: what the laws on headers need. Conditions: the texts are of no more than 1048577 bytes. -/
import Derived.Test.YtbnihnggljagnaaDoorQHeaderBackx
import Derived.Test.YtbnihnggljagnaaDoorTools
import Derived.Test.YtbnihnggljagnaaDoorAddrMath
import Derived.Test.YtbnihnggljagnaaDoorLexMath
import Derived.Test.YtbnihnggljagnaaDoorNumMath
import Derived.Lib.SplitLaws
import Derived.Lib.ItoaLen
import Derived.Lib.CountLaws
import Derived.Lib.IndexLaws
namespace Go.Proofs.YtbnihnggljagnaaDoor.QHeaderBack
open Go.RowKit Go.Proofs.YtbnihnggljagnaaDoorW.PrintWords Go.Proofs.YtbnihnggljagnaaDoorW.PrintLast Go.Proofs.YtbnihnggljagnaaDoorW.PrintMore Go.Proofs.YtbnihnggljagnaaDoor.Tools Go.Proofs.YtbnihnggljagnaaDoor.AM Go.Proofs.YtbnihnggljagnaaDoor.LexMath Go.Proofs.YtbnihnggljagnaaDoor.NumMath
set_option linter.unusedVariables false
set_option linter.unusedSimpArgs false
open Go.Lib (decDigits)
theorem mk_eq (l : List UInt8) (y : ByteArray) (h : y.data.toList = l) : (⟨l.toArray⟩ : ByteArray) = y := by
  cases y with
  | mk d =>
    subst h
    simp
theorem bt_some {x : ByteArray} {j : Nat} {c : UInt8} (h : x.data.toList[j]? = some c) : j < x.size ∧ bt x j = c.toNat := by
  have hj : j < x.size := by
    have := (List.getElem?_eq_some_iff.1 h).1
    rw [size_list] at this
    exact this
  refine ⟨hj, ?_⟩
  rw [bt_list x j hj] at h
  exact (byte_eq (bt x j) (bt_nn x j) c).1 (Option.some.inj h)
theorem some_bt {x : ByteArray} {j : Nat} {c : UInt8} (hj : j < x.size) (h : bt x j = c.toNat) : x.data.toList[j]? = some c := by
  rw [bt_list x j hj, (byte_eq (bt x j) (bt_nn x j) c).2 h]
theorem idx_val (x : ByteArray) (c : UInt8) (m : Nat) (hm : m ≤ x.size) (h1 : ∀ j : Nat, j < m → ¬ bt x j = c.toNat) (h2 : m < x.size → bt x m = c.toNat) : Lib.index x.data.toList [c] = if m < x.size then (m : Int) else -1 := by
  rw [Lib.index_one]
  have hge := Lib.indexByte_ge x.data.toList c
  by_cases hn : Lib.indexByte x.data.toList c = -1
  · have := Lib.indexByte_none hn m
    by_cases hl : m < x.size
    · exact absurd (some_bt hl (h2 hl)) this
    · rw [if_neg hl, hn]
  · obtain ⟨o, ho⟩ := Int.eq_ofNat_of_zero_le (show 0 ≤ Lib.indexByte x.data.toList c by omega)
    obtain ⟨o1, o2⟩ := Lib.indexByte_some ho
    obtain ⟨o3, o4⟩ := bt_some o1
    have hmo : ¬ o < m := fun h => h1 o h o4
    have hom : ¬ m < o := fun h => o2 m h (some_bt (by omega) (h2 (by omega)))
    rw [if_pos (by omega), ho]
    omega
theorem list_take (x : ByteArray) (m : Nat) : (x.extract 0 m).data.toList = x.data.toList.take m := by
  simp [ByteArray.data_extract]
theorem cut_val (x : ByteArray) (m : Nat) (hs : x.size ≤ 1048577) (hm : m ≤ x.size) (h1 : ∀ j : Nat, j < m → ¬ bt x j = 47) (h2 : m < x.size → bt x m = 47) :
    strings_Cut.f x (⟨#[47]⟩ : ByteArray) = some (x.extract 0 m, (if m < x.size then x.extract (m + 1) x.size else ⟨#[]⟩), decide (m < x.size)) := by
  have e := idx_val x 47 m hm h1 h2
  unfold strings_Cut.f
  rw [if_pos (by omega)]
  show some ((⟨(Lib.cut x.data.toList [47]).1.toArray⟩ : ByteArray), (⟨(Lib.cut x.data.toList [47]).2.1.toArray⟩ : ByteArray), (Lib.cut x.data.toList [47]).2.2) = _
  unfold Lib.cut
  rw [e]
  by_cases hl : m < x.size
  · rw [if_pos hl, if_pos hl, if_pos (by omega), Int.toNat_natCast, mk_eq _ (x.extract 0 m) (list_take x m)]
    show some (x.extract 0 m, (⟨(x.data.toList.drop (m + 1)).toArray⟩ : ByteArray), true) = _
    rw [mk_eq _ (x.extract (m + 1) x.size) (list_ext x (m + 1)), decide_eq_true hl]
  · rw [if_neg hl, if_neg hl, if_neg (by decide), decide_eq_false hl]
    have : m = x.size := by omega
    subst this
    show some ((⟨x.data.toList.toArray⟩ : ByteArray), (⟨#[]⟩ : ByteArray), false) = _
    rw [mk_eq _ (x.extract 0 x.size) (by rw [ext_all])]
theorem scan_ex (P : Nat → Prop) (n : Nat) : ∀ d p : Nat, p + d = n → ∃ m, p ≤ m ∧ m ≤ n ∧ (∀ j, p ≤ j → j < m → ¬ P j) ∧ (m = n ∨ P m) := by
  intro d
  induction d with
  | zero => intro p hp; exact ⟨p, by omega, by omega, by omega, .inl (by omega)⟩
  | succ d ih =>
    intro p hp
    by_cases h : P p
    · exact ⟨p, by omega, by omega, by omega, .inr h⟩
    · obtain ⟨m, h1, h2, h3, h4⟩ := ih (p + 1) (by omega)
      refine ⟨m, by omega, h2, fun j hj hj2 => ?_, h4⟩
      by_cases hji : j = p
      · subst hji; exact h
      · exact h3 j (by omega) hj2
/-- The parts of a text from byte a on, between the dots. -/
def SP (s : ByteArray) (a : Nat) : List ByteArray := Lib.splitB ⟨#[46]⟩ 0 (Lib.countB (s.extract a s.size) ⟨#[46]⟩) (s.extract a s.size)
theorem split_at (s : ByteArray) (a j : Nat) (ha : a ≤ j) (hj : j ≤ s.size) (hno : ∀ i : Nat, a ≤ i → i < j → ¬ bt s i = 46) (hb : j < s.size → bt s j = 46) :
    SP s a = if j < s.size then s.extract a j :: SP s (j + 1) else [s.extract a j] := by
  unfold SP
  have hsz : (s.extract a s.size).size = s.size - a := by rw [ByteArray.size_extract]; omega
  have hi : Lib.indexB (s.extract a s.size) ⟨#[46]⟩ = if j - a < (s.extract a s.size).size then ((j - a : Nat) : Int) else -1 :=
    idx_val (s.extract a s.size) 46 (j - a) (by omega) (fun i h => by rw [bt_ext s a i s.size (by omega) (by omega)]; exact hno (a + i) (by omega) (by omega)) (fun h => by rw [bt_ext s a (j - a) s.size (by omega) (by omega), show a + (j - a) = j by omega]; exact hb (by omega))
  by_cases hl : j < s.size
  · rw [if_pos (by omega)] at hi
    rw [if_pos hl, Lib.countB_hit _ _ _ (by decide) hi, Nat.add_comm, Lib.splitB_hit _ _ _ _ _ hi, hsz]
    show (s.extract a s.size).extract 0 (j - a + 0) :: _ = _
    have e1 : (s.extract a s.size).extract 0 (j - a + 0) = s.extract a j := by rw [ext_ext s a 0 _ (by omega)]; congr 1; omega
    have e2 : (s.extract a s.size).extract (j - a + (⟨#[46]⟩ : ByteArray).size) (s.size - a) = s.extract (j + 1) s.size := by
      show (s.extract a s.size).extract (j - a + 1) (s.size - a) = _
      rw [ext_ext s a _ _ (by omega)]; congr 1 <;> omega
    rw [e1, e2]
  · rw [if_neg (by omega)] at hi
    have : j = s.size := by omega
    subst this
    rw [if_neg hl, Lib.splitB_miss _ _ _ _ hi]
theorem SP_len (s : ByteArray) : (SP s 0).length ≤ s.size + 1 := by
  unfold SP
  rw [ext_all]
  have := Lib.countB_le ⟨#[46]⟩ (by decide) s.size s (Nat.le_refl _)
  have h := Lib.splitB_all ⟨#[46]⟩ (by decide) 0 _ s rfl
  omega
theorem SP_size (s : ByteArray) : ∀ d a : Nat, a + d = s.size → ∀ p ∈ SP s a, p.size ≤ s.size := by
  intro d
  induction d using Nat.strongRecOn with
  | _ d ih =>
    intro a had p hp
    obtain ⟨j, h1, h2, h3, h4⟩ := scan_ex (fun j => bt s j = 46) s.size d a had
    rw [split_at s a j h1 h2 h3 (fun h => h4.resolve_left (by omega))] at hp
    have hx : (s.extract a j).size ≤ s.size := by rw [ByteArray.size_extract]; omega
    by_cases hl : j < s.size
    · rw [if_pos hl] at hp
      rcases List.mem_cons.1 hp with rfl | hp
      · exact hx
      · exact ih (s.size - (j + 1)) (by omega) (j + 1) (by omega) p hp
    · rw [if_neg hl] at hp
      rw [List.mem_singleton.1 hp]
      exact hx
/-! ### numbers -/
def n255 (p : ByteArray) : Option Nat := numS p.data.toList 255
theorem numA_good (p : ByteArray) (most : Int) : numA p most = (match numS p.data.toList most with | some v => ((v : Int), true) | none => ((numA p most).1, false)) := by
  have h := backS_eq p.data.toList most
  unfold backS at h
  unfold numA
  rcases e : Lib.atoiAll p.data.toList with v | _ | _
  · rw [e] at h
    simp only at h ⊢
    by_cases hc : v < 0 ∨ v > most ∨ Lib.itoa v ≠ p.data.toList
    · rw [if_pos hc] at h
      cases hn : numS p.data.toList most with
      | some u => rw [hn] at h; cases h
      | none => rw [if_pos hc]
    · rw [if_neg hc] at h
      cases hn : numS p.data.toList most with
      | some u =>
        rw [hn] at h
        obtain rfl := Option.some.inj h
        rw [if_neg hc]
      | none => rw [hn] at h; cases h
  · rw [e] at h
    simp only at h ⊢
    cases hn : numS p.data.toList most with
    | some u => rw [hn] at h; cases h
    | none => rfl
  · rw [e] at h
    simp only at h ⊢
    cases hn : numS p.data.toList most with
    | some u => rw [hn] at h; cases h
    | none => rfl
theorem numS_le (l : List UInt8) (most : Int) (v : Nat) (h : numS l most = some v) : (v : Int) ≤ most := ((numS_iff l most v).1 h).2.2
/-- What four parts say, from a number on. -/
def pv (acc : Nat) : List ByteArray → Option Nat
  | [] => some acc
  | p :: r => match n255 p with
    | some v => pv (acc * 256 + v) r
    | none => none
def ans (r : Option Nat) : Int × Int := match r with
  | some a => ((a : Int), 0)
  | none => (0, 4)
def parse (s : ByteArray) : Option Nat := if (SP s 0).length = 4 then pv 0 (SP s 0) else none
theorem pv_lt : ∀ (L : List ByteArray) (acc v : Nat), pv acc L = some v → v < (acc + 1) * 256 ^ L.length
  | [], acc, v, h => by obtain rfl := Option.some.inj h; simp
  | p :: r, acc, v, h => by
    rw [pv] at h
    cases hn : n255 p with
    | none => rw [hn] at h; cases h
    | some u =>
      rw [hn] at h
      have := pv_lt r _ _ h
      have hu := numS_le _ _ _ hn
      rw [List.length_cons, Nat.pow_succ]
      have h2 : (acc * 256 + u + 1) * 256 ^ r.length ≤ (acc + 1) * (256 ^ r.length * 256) := by
        rw [Nat.mul_comm (256 ^ r.length) 256, ← Nat.mul_assoc]
        exact Nat.mul_le_mul_right _ (by omega)
      omega
theorem rd_at (L : List ByteArray) (i : Nat) (h : i < L.length) : rdOf ByteArray.empty L (i : Int) = L[i] := by
  unfold rdOf
  simp [h]
theorem or_byte (a v : Int) (h0 : 0 ≤ a) (h1 : a < 16777216) (g0 : 0 ≤ v) (g1 : v ≤ 255) : Go.bits .or .u32 ((a * 256) % 4294967296) (v % 4294967296) = a * 256 + v := by
  rw [Int.emod_eq_of_lt (by omega) (by omega), Int.emod_eq_of_lt (by omega) (by omega)]
  have e : (2 : Int) ^ 8 = 256 := by decide
  exact bits_join .u32 32 (by decide) wraps_u32 8 (a * 256) v (by omega) (by rw [e]; omega) (by rw [p32]; omega) g0 (by rw [e]; omega) (by rw [p32]; omega)
theorem num_val (p : ByteArray) (most : Int) (hp : p.size ≤ 1048577) : addr_number.f p most = some (numA p most) := by
  unfold addr_number.f
  rw [if_pos (by omega)]
theorem parse_l0 (L : List ByteArray) (hL : L.length = 4) (hs : ∀ p ∈ L, p.size ≤ 1048577) : ∀ d i acc : Nat, i + d = 4 → acc < 256 ^ i → Ev (fun k => addr_Parse.l0 k L acc i) (ans (pv acc (L.drop i))) := by
  intro d
  induction d with
  | zero =>
    intro i acc hi ha
    obtain rfl : i = 4 := by omega
    rw [List.drop_of_length_le (by omega)]
    refine Ev.step (fun k => by rw [addr_Parse.l0]) (ev_neg (by omega) ?_)
    exact ev_now _
  | succ d ih =>
    intro i acc hi ha
    have hil : i < L.length := by omega
    have hp3 : 256 ^ i ≤ 256 ^ 3 := Nat.pow_le_pow_right (by decide) (by omega)
    have e3 : (256 : Nat) ^ 3 = 16777216 := by decide
    rw [List.drop_eq_getElem_cons hil, pv]
    refine Ev.step (fun k => by rw [addr_Parse.l0]) (ev_pos (by omega) (ev_pos (by omega) (ev_pos (by omega) ?_)))
    rw [rd_at L i hil]
    have hg := numA_good L[i] 255
    refine ev_is _ (num_val L[i] 255 (hs _ (List.getElem_mem hil))) ?_
    unfold n255
    cases hn : numS L[i].data.toList 255 with
    | none =>
      rw [hn] at hg
      simp only at hg
      rw [hg]
      exact ev_neg (by simp) (ev_now _)
    | some v =>
      rw [hn] at hg
      simp only at hg
      rw [hg]
      have hv := numS_le _ _ _ hn
      refine ev_pos rfl ?_
      rw [or_byte (acc : Int) (v : Int) (by omega) (by omega) (by omega) (by omega), w64_id _ (by omega) (by omega)]
      have := ih (i + 1) (acc * 256 + v) (by omega) (by rw [Nat.pow_succ]; omega)
      rw [show ((acc * 256 + v : Nat) : Int) = (acc : Int) * 256 + v by omega, show ((i + 1 : Nat) : Int) = (i : Int) + 1 by omega] at this
      exact this
theorem parse_val (s : ByteArray) (hs : s.size ≤ 1048577) : Ev (fun k => addr_Parse.f k s) (ans (parse s)) := by
  unfold addr_Parse.f
  have hsp : strings_Split.f s (⟨#[46]⟩ : ByteArray) = some (SP s 0) := by
    unfold strings_Split.f SP
    rw [if_pos ⟨by omega, by decide⟩, ext_all]
  refine ev_is _ hsp ?_
  unfold parse
  by_cases h4 : (SP s 0).length = 4
  · rw [if_pos h4]
    refine ev_pos (by omega) ?_
    have := parse_l0 (SP s 0) h4 (fun p hp => Nat.le_trans (SP_size s s.size 0 (by omega) p hp) hs) 4 0 0 rfl (by decide)
    rw [List.drop_zero] at this
    exact this
  · rw [if_neg h4]
    exact ev_neg (by omega) (ev_now _)
/-! ### prefixes -/
def isA (a : Int) : Prop := 0 ≤ a ∧ a ≤ 4294967295
theorem parse_isA (s : ByteArray) (a : Nat) (h : parse s = some a) : isA (a : Int) := by
  unfold parse at h
  split at h
  · rename_i h4
    have := pv_lt _ _ _ h
    rw [h4] at this
    have e : (0 + 1) * 256 ^ 4 = 4294967296 := by decide
    constructor <;> omega
  · cases h
theorem text_val (a : Int) (ha : isA a) : addr_Text.f a = some (textT (a / 16777216 % 256) (a / 65536 % 256) (a / 256 % 256) (a % 256)) := by
  unfold addr_Text.f
  exact if_pos ha
theorem part_list (p : Int) : (partT p).data.toList = Lib.itoa p := rfl
theorem text_list (p0 p1 p2 p3 : Int) : (textT p0 p1 p2 p3).data.toList = Lib.itoa p0 ++ 46 :: (Lib.itoa p1 ++ 46 :: (Lib.itoa p2 ++ 46 :: Lib.itoa p3)) := by
  unfold textT
  simp [Lib.join_cons, Lib.joinTail, part_list]
theorem part_size (p : Int) (hp : 0 ≤ p ∧ p ≤ 255) : (Lib.itoa p).length ≤ 4 := by
  have := digits_small p hp
  rw [← part_list, size_list]
  exact this
theorem text_size (p0 p1 p2 p3 : Int) (h0 : 0 ≤ p0 ∧ p0 ≤ 255) (h1 : 0 ≤ p1 ∧ p1 ≤ 255) (h2 : 0 ≤ p2 ∧ p2 ≤ 255) (h3 : 0 ≤ p3 ∧ p3 ≤ 255) : (textT p0 p1 p2 p3).size ≤ 19 := by
  rw [← size_list, text_list]
  have := part_size p0 h0
  have := part_size p1 h1
  have := part_size p2 h2
  have := part_size p3 h3
  simp only [List.length_append, List.length_cons]
  omega
theorem itoa_size (n : Int) (h0 : -9223372036854775808 ≤ n) (h1 : n ≤ 9223372036854775807) : (⟨(Lib.itoa n).toArray⟩ : ByteArray).size ≤ 21 := by
  have := Lib.itoa_length_le n h0 h1
  rw [← size_list]
  exact this
/-- A prefix's text. -/
theorem bts (a : Int) : (0 ≤ a / 16777216 % 256 ∧ a / 16777216 % 256 ≤ 255) ∧ (0 ≤ a / 65536 % 256 ∧ a / 65536 % 256 ≤ 255) ∧ (0 ≤ a / 256 % 256 ∧ a / 256 % 256 ≤ 255) ∧ (0 ≤ a % 256 ∧ a % 256 ≤ 255) := by omega
theorem list_mid (x : ByteArray) (p m : Nat) : (x.extract p m).data.toList = (x.data.toList.drop p).take (m - p) := by
  simp [ByteArray.data_extract]
theorem part_bt (s : ByteArray) (a : Nat) (w r : List UInt8) (h : s.data.toList.drop a = w ++ r) (c : UInt8) (hw : ∀ x ∈ w, x ≠ c) (i : Nat) (h1 : a ≤ i) (h2 : i < a + w.length) : ¬ bt s i = c.toNat := by
  intro e
  have hl := congrArg List.length h
  rw [List.length_drop, List.length_append, size_list] at hl
  have hi : i < s.size := by omega
  have hg := some_bt hi e
  have e2 : s.data.toList[i]? = w[i - a]? := by
    have : (s.data.toList.drop a)[i - a]? = (w ++ r)[i - a]? := by rw [h]
    rw [List.getElem?_drop, show a + (i - a) = i by omega, List.getElem?_append_left (by omega)] at this
    exact this
  rw [e2] at hg
  exact hw c (List.mem_of_getElem? hg) rfl
theorem part_at (s : ByteArray) (a : Nat) (w r : List UInt8) (c : UInt8) (h : s.data.toList.drop a = w ++ c :: r) : a + w.length < s.size ∧ bt s ((a + w.length : Nat) : Int) = c.toNat ∧ s.data.toList.drop (a + w.length + 1) = r := by
  have hl := congrArg List.length h
  rw [List.length_drop, List.length_append, size_list, List.length_cons] at hl
  have hi : a + w.length < s.size := by omega
  refine ⟨hi, ?_, ?_⟩
  · have e2 : s.data.toList[a + w.length]? = some c := by
      have : (s.data.toList.drop a)[w.length]? = (w ++ c :: r)[w.length]? := by rw [h]
      rw [List.getElem?_drop, List.getElem?_append_right (Nat.le_refl _), Nat.sub_self] at this
      exact this
    exact (bt_some e2).2
  · rw [show a + w.length + 1 = a + (w.length + 1) by omega, ← List.drop_drop, h, show w ++ c :: r = (w ++ [c]) ++ r by simp]
    exact List.drop_left' (by simp)
theorem SP_cons (s : ByteArray) (a : Nat) (w r : List UInt8) (h : s.data.toList.drop a = w ++ 46 :: r) (hw : ∀ x ∈ w, x ≠ 46) :
    SP s a = s.extract a (a + w.length) :: SP s (a + w.length + 1) ∧ (s.extract a (a + w.length)).data.toList = w ∧ s.data.toList.drop (a + w.length + 1) = r := by
  obtain ⟨h1, h2, h3⟩ := part_at s a w r 46 h
  refine ⟨?_, ?_, h3⟩
  · rw [split_at s a (a + w.length) (by omega) (by omega) (fun i g1 g2 => part_bt s a w (46 :: r) h 46 hw i g1 g2) (fun _ => h2), if_pos h1]
  · rw [list_mid, h, show a + w.length - a = w.length by omega]
    exact List.take_left' rfl
theorem SP_last (s : ByteArray) (a : Nat) (ha : a ≤ s.size) (w : List UInt8) (h : s.data.toList.drop a = w) (hw : ∀ x ∈ w, x ≠ 46) : SP s a = [s.extract a s.size] ∧ (s.extract a s.size).data.toList = w := by
  have hl := congrArg List.length h
  rw [List.length_drop, size_list] at hl
  refine ⟨?_, by rw [list_ext, h]⟩
  rw [split_at s a s.size ha (Nat.le_refl _) (fun i g1 g2 => part_bt s a w [] (by rw [List.append_nil]; exact h) 46 hw i g1 (by omega)) (fun h => absurd h (by omega)), if_neg (by omega)]
theorem SP_join (s : ByteArray) : ∀ d a : Nat, a + d = s.size → Lib.join ((SP s a).map fun p => p.data.toList) [46] = s.data.toList.drop a := by
  intro d
  induction d using Nat.strongRecOn with
  | _ d ih =>
    intro a had
    obtain ⟨j, h1, h2, h3, h4⟩ := scan_ex (fun j => bt s j = 46) s.size d a had
    rw [split_at s a j h1 h2 h3 (fun h => h4.resolve_left (by omega))]
    by_cases hl : j < s.size
    · have hb : bt s j = 46 := h4.resolve_left (by omega)
      have hne : SP s (j + 1) ≠ [] := by
        intro e
        obtain ⟨j', g1, g2, g3, g4⟩ := scan_ex (fun j => bt s j = 46) s.size (s.size - (j + 1)) (j + 1) (by omega)
        rw [split_at s (j + 1) j' g1 g2 g3 (fun h => g4.resolve_left (by omega))] at e
        split at e <;> cases e
      have e := ih (s.size - (j + 1)) (by omega) (j + 1) (by omega)
      rw [if_pos hl, List.map_cons]
      obtain ⟨x, r, hx⟩ := List.exists_cons_of_ne_nil hne
      rw [hx, List.map_cons, Lib.join_cons] at e
      rw [hx, List.map_cons, Lib.join_cons]
      show (s.extract a j).data.toList ++ (([46] ++ x.data.toList) ++ Lib.joinTail [46] (r.map fun p => p.data.toList)) = _
      rw [List.append_assoc, e, list_mid]
      have hd : s.data.toList.drop j = 46 :: s.data.toList.drop (j + 1) := by
        have hg := some_bt (c := 46) hl hb
        have hlt : j < s.data.toList.length := by rw [size_list]; exact hl
        rw [List.getElem?_eq_getElem hlt] at hg
        rw [List.drop_eq_getElem_cons hlt, Option.some.inj hg]
      show _ ++ (46 :: s.data.toList.drop (j + 1)) = _
      rw [← hd]
      have : s.data.toList.drop j = (s.data.toList.drop a).drop (j - a) := by rw [List.drop_drop, show a + (j - a) = j by omega]
      rw [this]
      exact List.take_append_drop _ _
    · have : j = s.size := by omega
      subst this
      rw [if_neg hl, List.map_cons, List.map_nil, Lib.join_one, list_ext]
/-! ### digits -/
theorem byte_text (p : Int) (hp : 0 ≤ p ∧ p ≤ 255) : Lib.itoa p = decDigits p.toNat := by
  obtain ⟨n, rfl⟩ : ∃ n : Nat, p = n := ⟨p.toNat, by omega⟩
  rw [Lib.itoa_nonneg, Int.toNat_natCast]
theorem no_sign (p : Int) (hp : 0 ≤ p) (c : UInt8) (hc : c.toNat < 48) : ∀ x ∈ Lib.itoa p, x ≠ c := by
  obtain ⟨n, rfl⟩ : ∃ n : Nat, p = n := ⟨p.toNat, by omega⟩
  rw [Lib.itoa_nonneg]
  intro x hx e
  have := dec_digits n x hx
  rw [e] at this
  omega
theorem numS_text (p : Int) (most : Int) (h0 : 0 ≤ p) (h1 : p ≤ most) (h2 : most ≤ 255) : numS (Lib.itoa p) most = some p.toNat := by
  obtain ⟨n, rfl⟩ : ∃ n : Nat, p = n := ⟨p.toNat, by omega⟩
  rw [Lib.itoa_nonneg, Int.toNat_natCast]
  exact (numS_iff _ _ _).2 ⟨rfl, by omega, h1⟩
def textOf (a : Int) : ByteArray := textT (a / 16777216 % 256) (a / 65536 % 256) (a / 256 % 256) (a % 256)
theorem parse_parts (s x0 x1 x2 x3 : ByteArray) (p0 p1 p2 p3 : Int) (h : SP s 0 = [x0, x1, x2, x3]) (l0 : x0.data.toList = Lib.itoa p0) (l1 : x1.data.toList = Lib.itoa p1) (l2 : x2.data.toList = Lib.itoa p2) (l3 : x3.data.toList = Lib.itoa p3)
    (b0 : 0 ≤ p0 ∧ p0 ≤ 255) (b1 : 0 ≤ p1 ∧ p1 ≤ 255) (b2 : 0 ≤ p2 ∧ p2 ≤ 255) (b3 : 0 ≤ p3 ∧ p3 ≤ 255) : parse s = some ((((0 * 256 + p0.toNat) * 256 + p1.toNat) * 256 + p2.toNat) * 256 + p3.toNat) := by
  unfold parse
  rw [h]
  refine (if_pos rfl).trans ?_
  simp only [pv, n255]
  rw [l0, l1, l2, l3, numS_text p0 255 b0.1 b0.2 (by omega), numS_text p1 255 b1.1 b1.2 (by omega), numS_text p2 255 b2.1 b2.2 (by omega), numS_text p3 255 b3.1 b3.2 (by omega)]
theorem parse_text (a : Int) (ha : isA a) : parse (textOf a) = some a.toNat := by
  obtain ⟨b0, b1, b2, b3⟩ := bts a
  have hl := text_list (a / 16777216 % 256) (a / 65536 % 256) (a / 256 % 256) (a % 256)
  have h46 : (46 : UInt8).toNat < 48 := by decide
  obtain ⟨e0, l0, d0⟩ := SP_cons (textOf a) 0 _ _ (by rw [List.drop_zero]; exact hl) (no_sign _ b0.1 46 h46)
  obtain ⟨e1, l1, d1⟩ := SP_cons (textOf a) _ _ _ d0 (no_sign _ b1.1 46 h46)
  obtain ⟨e2, l2, d2⟩ := SP_cons (textOf a) _ _ _ d1 (no_sign _ b2.1 46 h46)
  have hsz : (textOf a).size = _ := (size_list (textOf a)).symm.trans (congrArg List.length hl)
  simp only [List.length_append, List.length_cons] at hsz
  obtain ⟨e3, l3⟩ := SP_last (textOf a) _ (by omega) _ d2 (no_sign _ b3.1 46 h46)
  have hS : SP (textOf a) 0 = [_, _, _, _] := e0.trans (congrArg _ (e1.trans (congrArg _ (e2.trans (congrArg _ e3)))))
  rw [parse_parts (textOf a) _ _ _ _ _ _ _ _ hS l0 l1 l2 l3 b0 b1 b2 b3]
  obtain ⟨a0, a1⟩ := ha
  clear e0 e1 e2 e3 l0 l1 l2 l3 d0 d1 d2 hl hsz hS
  congr 1
  omega
theorem text_parse (s : ByteArray) (a : Nat) (h : parse s = some a) : textOf a = s := by
  unfold parse at h
  split at h
  · rename_i h4
    have hj := SP_join s s.size 0 (by omega)
    obtain ⟨e0, e1, e2, e3, hS⟩ : ∃ e0 e1 e2 e3, SP s 0 = [e0, e1, e2, e3] := by
      match hh : SP s 0, h4 with
      | [e0, e1, e2, e3], _ => exact ⟨e0, e1, e2, e3, rfl⟩
    rw [hS] at h hj
    simp only [pv, n255] at h
    cases h0 : numS e0.data.toList 255 with
    | none => rw [h0] at h; cases h
    | some v0 =>
    cases h1 : numS e1.data.toList 255 with
    | none => rw [h0, h1] at h; cases h
    | some v1 =>
    cases h2 : numS e2.data.toList 255 with
    | none => rw [h0, h1, h2] at h; cases h
    | some v2 =>
    cases h3 : numS e3.data.toList 255 with
    | none => rw [h0, h1, h2, h3] at h; cases h
    | some v3 =>
    rw [h0, h1, h2, h3] at h
    obtain ⟨g0, -, k0⟩ := (numS_iff _ _ _).1 h0
    obtain ⟨g1, -, k1⟩ := (numS_iff _ _ _).1 h1
    obtain ⟨g2, -, k2⟩ := (numS_iff _ _ _).1 h2
    obtain ⟨g3, -, k3⟩ := (numS_iff _ _ _).1 h3
    have ea : (((0 * 256 + v0) * 256 + v1) * 256 + v2) * 256 + v3 = a := Option.some.inj h
    have hl := text_list ((a : Int) / 16777216 % 256) ((a : Int) / 65536 % 256) ((a : Int) / 256 % 256) ((a : Int) % 256)
    rw [show (a : Int) / 16777216 % 256 = (v0 : Int) by omega, show (a : Int) / 65536 % 256 = (v1 : Int) by omega, show (a : Int) / 256 % 256 = (v2 : Int) by omega, show (a : Int) % 256 = (v3 : Int) by omega, Lib.itoa_nonneg, Lib.itoa_nonneg, Lib.itoa_nonneg, Lib.itoa_nonneg, ← g0, ← g1, ← g2, ← g3] at hl
    simp only [List.map_cons, List.map_nil, Lib.join_cons, Lib.joinTail, List.flatten_cons, List.flatten_nil, List.append_nil, List.drop_zero] at hj
    have : (textOf a).data.toList = s.data.toList := by
      unfold textOf
      rw [show (a : Int) / 16777216 % 256 = (v0 : Int) by omega, show (a : Int) / 65536 % 256 = (v1 : Int) by omega, show (a : Int) / 256 % 256 = (v2 : Int) by omega, show (a : Int) % 256 = (v3 : Int) by omega, hl, ← hj]
      simp
    rw [← mk_eq _ (textOf a) this, mk_eq _ s rfl]
  · cases h
/-! ### prefixes -/
def SQ (s : ByteArray) (a : Nat) : List ByteArray := Lib.splitB ⟨#[32]⟩ 0 (Lib.countB (s.extract a s.size) ⟨#[32]⟩) (s.extract a s.size)
theorem split_atQ (s : ByteArray) (a j : Nat) (ha : a ≤ j) (hj : j ≤ s.size) (hno : ∀ i : Nat, a ≤ i → i < j → ¬ bt s i = 32) (hb : j < s.size → bt s j = 32) :
    SQ s a = if j < s.size then s.extract a j :: SQ s (j + 1) else [s.extract a j] := by
  unfold SQ
  have hsz : (s.extract a s.size).size = s.size - a := by rw [ByteArray.size_extract]; omega
  have hi : Lib.indexB (s.extract a s.size) ⟨#[32]⟩ = if j - a < (s.extract a s.size).size then ((j - a : Nat) : Int) else -1 :=
    idx_val (s.extract a s.size) 32 (j - a) (by omega) (fun i h => by rw [bt_ext s a i s.size (by omega) (by omega)]; exact hno (a + i) (by omega) (by omega)) (fun h => by rw [bt_ext s a (j - a) s.size (by omega) (by omega), show a + (j - a) = j by omega]; exact hb (by omega))
  by_cases hl : j < s.size
  · rw [if_pos (by omega)] at hi
    rw [if_pos hl, Lib.countB_hit _ _ _ (by decide) hi, Nat.add_comm, Lib.splitB_hit _ _ _ _ _ hi, hsz]
    show (s.extract a s.size).extract 0 (j - a + 0) :: _ = _
    have e1 : (s.extract a s.size).extract 0 (j - a + 0) = s.extract a j := by rw [ext_ext s a 0 _ (by omega)]; congr 1; omega
    have e2 : (s.extract a s.size).extract (j - a + (⟨#[32]⟩ : ByteArray).size) (s.size - a) = s.extract (j + 1) s.size := by
      show (s.extract a s.size).extract (j - a + 1) (s.size - a) = _
      rw [ext_ext s a _ _ (by omega)]; congr 1 <;> omega
    rw [e1, e2]
  · rw [if_neg (by omega)] at hi
    have : j = s.size := by omega
    subst this
    rw [if_neg hl, Lib.splitB_miss _ _ _ _ hi]
theorem SQ_len (s : ByteArray) : (SQ s 0).length ≤ s.size + 1 := by
  unfold SQ
  rw [ext_all]
  have := Lib.countB_le ⟨#[32]⟩ (by decide) s.size s (Nat.le_refl _)
  have h := Lib.splitB_all ⟨#[32]⟩ (by decide) 0 _ s rfl
  omega
theorem SQ_size (s : ByteArray) : ∀ d a : Nat, a + d = s.size → ∀ p ∈ SQ s a, p.size ≤ s.size := by
  intro d
  induction d using Nat.strongRecOn with
  | _ d ih =>
    intro a had p hp
    obtain ⟨j, h1, h2, h3, h4⟩ := scan_ex (fun j => bt s j = 32) s.size d a had
    rw [split_atQ s a j h1 h2 h3 (fun h => h4.resolve_left (by omega))] at hp
    have hx : (s.extract a j).size ≤ s.size := by rw [ByteArray.size_extract]; omega
    by_cases hl : j < s.size
    · rw [if_pos hl] at hp
      rcases List.mem_cons.1 hp with rfl | hp
      · exact hx
      · exact ih (s.size - (j + 1)) (by omega) (j + 1) (by omega) p hp
    · rw [if_neg hl] at hp
      rw [List.mem_singleton.1 hp]
      exact hx
theorem SQ_cons (s : ByteArray) (a : Nat) (w r : List UInt8) (h : s.data.toList.drop a = w ++ 32 :: r) (hw : ∀ x ∈ w, x ≠ 32) :
    SQ s a = s.extract a (a + w.length) :: SQ s (a + w.length + 1) ∧ (s.extract a (a + w.length)).data.toList = w ∧ s.data.toList.drop (a + w.length + 1) = r := by
  obtain ⟨h1, h2, h3⟩ := part_at s a w r 32 h
  refine ⟨?_, ?_, h3⟩
  · rw [split_atQ s a (a + w.length) (by omega) (by omega) (fun i g1 g2 => part_bt s a w (32 :: r) h 32 hw i g1 g2) (fun _ => h2), if_pos h1]
  · rw [list_mid, h, show a + w.length - a = w.length by omega]
    exact List.take_left' rfl
theorem SQ_last (s : ByteArray) (a : Nat) (ha : a ≤ s.size) (w : List UInt8) (h : s.data.toList.drop a = w) (hw : ∀ x ∈ w, x ≠ 32) : SQ s a = [s.extract a s.size] ∧ (s.extract a s.size).data.toList = w := by
  have hl := congrArg List.length h
  rw [List.length_drop, size_list] at hl
  refine ⟨?_, by rw [list_ext, h]⟩
  rw [split_atQ s a s.size ha (Nat.le_refl _) (fun i g1 g2 => part_bt s a w [] (by rw [List.append_nil]; exact h) 32 hw i g1 (by omega)) (fun h => absurd h (by omega)), if_neg (by omega)]
theorem SQ_join (s : ByteArray) : ∀ d a : Nat, a + d = s.size → Lib.join ((SQ s a).map fun p => p.data.toList) [32] = s.data.toList.drop a := by
  intro d
  induction d using Nat.strongRecOn with
  | _ d ih =>
    intro a had
    obtain ⟨j, h1, h2, h3, h4⟩ := scan_ex (fun j => bt s j = 32) s.size d a had
    rw [split_atQ s a j h1 h2 h3 (fun h => h4.resolve_left (by omega))]
    by_cases hl : j < s.size
    · have hb : bt s j = 32 := h4.resolve_left (by omega)
      have hne : SQ s (j + 1) ≠ [] := by
        intro e
        obtain ⟨j', g1, g2, g3, g4⟩ := scan_ex (fun j => bt s j = 32) s.size (s.size - (j + 1)) (j + 1) (by omega)
        rw [split_atQ s (j + 1) j' g1 g2 g3 (fun h => g4.resolve_left (by omega))] at e
        split at e <;> cases e
      have e := ih (s.size - (j + 1)) (by omega) (j + 1) (by omega)
      rw [if_pos hl, List.map_cons]
      obtain ⟨x, r, hx⟩ := List.exists_cons_of_ne_nil hne
      rw [hx, List.map_cons, Lib.join_cons] at e
      rw [hx, List.map_cons, Lib.join_cons]
      show (s.extract a j).data.toList ++ (([32] ++ x.data.toList) ++ Lib.joinTail [32] (r.map fun p => p.data.toList)) = _
      rw [List.append_assoc, e, list_mid]
      have hd : s.data.toList.drop j = 32 :: s.data.toList.drop (j + 1) := by
        have hg := some_bt (c := 32) hl hb
        have hlt : j < s.data.toList.length := by rw [size_list]; exact hl
        rw [List.getElem?_eq_getElem hlt] at hg
        rw [List.drop_eq_getElem_cons hlt, Option.some.inj hg]
      show _ ++ (32 :: s.data.toList.drop (j + 1)) = _
      rw [← hd]
      have : s.data.toList.drop j = (s.data.toList.drop a).drop (j - a) := by rw [List.drop_drop, show a + (j - a) = j by omega]
      rw [this]
      exact List.take_append_drop _ _
    · have : j = s.size := by omega
      subst this
      rw [if_neg hl, List.map_cons, List.map_nil, Lib.join_one, list_ext]
theorem cut_valC (x : ByteArray) (m : Nat) (hs : x.size ≤ 1048577) (hm : m ≤ x.size) (h1 : ∀ j : Nat, j < m → ¬ bt x j = 58) (h2 : m < x.size → bt x m = 58) :
    strings_Cut.f x (⟨#[58]⟩ : ByteArray) = some (x.extract 0 m, (if m < x.size then x.extract (m + 1) x.size else ⟨#[]⟩), decide (m < x.size)) := by
  have e := idx_val x 58 m hm h1 h2
  unfold strings_Cut.f
  rw [if_pos (by omega)]
  show some ((⟨(Lib.cut x.data.toList [58]).1.toArray⟩ : ByteArray), (⟨(Lib.cut x.data.toList [58]).2.1.toArray⟩ : ByteArray), (Lib.cut x.data.toList [58]).2.2) = _
  unfold Lib.cut
  rw [e]
  by_cases hl : m < x.size
  · rw [if_pos hl, if_pos hl, if_pos (by omega), Int.toNat_natCast, mk_eq _ (x.extract 0 m) (list_take x m)]
    show some (x.extract 0 m, (⟨(x.data.toList.drop (m + 1)).toArray⟩ : ByteArray), true) = _
    rw [mk_eq _ (x.extract (m + 1) x.size) (list_ext x (m + 1)), decide_eq_true hl]
  · rw [if_neg hl, if_neg hl, if_neg (by decide), decide_eq_false hl]
    have : m = x.size := by omega
    subst this
    show some ((⟨x.data.toList.toArray⟩ : ByteArray), (⟨#[]⟩ : ByteArray), false) = _
    rw [mk_eq _ (x.extract 0 x.size) (by rw [ext_all])]
end Go.Proofs.YtbnihnggljagnaaDoor.QHeaderBack
