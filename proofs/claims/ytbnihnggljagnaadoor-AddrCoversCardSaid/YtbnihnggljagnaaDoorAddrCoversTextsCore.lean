/- How addresses and prefixes are read and written, by the program and by the document. Conditions: the texts are of no more than 1048577 bytes. -/
import Derived.Test.YtbnihnggljagnaaDoorQAddrCoversx
import Derived.Test.YtbnihnggljagnaaDoorTools
import Derived.Test.YtbnihnggljagnaaDoorAddrMath
import Derived.Test.YtbnihnggljagnaaDoorLexMath
import Derived.Test.YtbnihnggljagnaaDoorNumMath
import Derived.Lib.SplitLaws
import Derived.Lib.ItoaLen
import Derived.Lib.CountLaws
import Derived.Lib.IndexLaws
namespace Go.Proofs.YtbnihnggljagnaaDoor.QAddrCovers
open Go.RowKit Go.Proofs.YtbnihnggljagnaaDoorW.PrintWords Go.Proofs.YtbnihnggljagnaaDoorW.PrintLast Go.Proofs.YtbnihnggljagnaaDoorW.PrintMore Go.Proofs.YtbnihnggljagnaaDoor.Tools Go.Proofs.YtbnihnggljagnaaDoor.AM Go.Proofs.YtbnihnggljagnaaDoor.LexMath Go.Proofs.YtbnihnggljagnaaDoor.NumMath
set_option linter.unusedVariables false
set_option linter.unusedSimpArgs false
theorem mk_eq (l : List UInt8) (y : ByteArray) (h : y.data.toList = l) : (⟨l.toArray⟩ : ByteArray) = y := by
  cases y with
  | mk d =>
    subst h
    simp
theorem bt_some {x : ByteArray} {j : Nat} {c : UInt8} (h : x.data.toList[j]? = some c) : j < x.size ∧ bt x j = c.toNat := by
  have hj : j < x.size := by
    have := (List.getElem?_eq_some_iff.1 h).1
    rw [size_list] at this
    exact this
  refine ⟨hj, ?_⟩
  rw [bt_list x j hj] at h
  exact (byte_eq (bt x j) (bt_nn x j) c).1 (Option.some.inj h)
theorem some_bt {x : ByteArray} {j : Nat} {c : UInt8} (hj : j < x.size) (h : bt x j = c.toNat) : x.data.toList[j]? = some c := by
  rw [bt_list x j hj, (byte_eq (bt x j) (bt_nn x j) c).2 h]
theorem idx_val (x : ByteArray) (c : UInt8) (m : Nat) (hm : m ≤ x.size) (h1 : ∀ j : Nat, j < m → ¬ bt x j = c.toNat) (h2 : m < x.size → bt x m = c.toNat) : Lib.index x.data.toList [c] = if m < x.size then (m : Int) else -1 := by
  rw [Lib.index_one]
  have hge := Lib.indexByte_ge x.data.toList c
  by_cases hn : Lib.indexByte x.data.toList c = -1
  · have := Lib.indexByte_none hn m
    by_cases hl : m < x.size
    · exact absurd (some_bt hl (h2 hl)) this
    · rw [if_neg hl, hn]
  · obtain ⟨o, ho⟩ := Int.eq_ofNat_of_zero_le (show 0 ≤ Lib.indexByte x.data.toList c by omega)
    obtain ⟨o1, o2⟩ := Lib.indexByte_some ho
    obtain ⟨o3, o4⟩ := bt_some o1
    have hmo : ¬ o < m := fun h => h1 o h o4
    have hom : ¬ m < o := fun h => o2 m h (some_bt (by omega) (h2 (by omega)))
    rw [if_pos (by omega), ho]
    omega
theorem list_take (x : ByteArray) (m : Nat) : (x.extract 0 m).data.toList = x.data.toList.take m := by
  simp [ByteArray.data_extract]
theorem cut_val (x : ByteArray) (m : Nat) (hs : x.size ≤ 1048577) (hm : m ≤ x.size) (h1 : ∀ j : Nat, j < m → ¬ bt x j = 47) (h2 : m < x.size → bt x m = 47) :
    strings_Cut.f x (⟨#[47]⟩ : ByteArray) = some (x.extract 0 m, (if m < x.size then x.extract (m + 1) x.size else ⟨#[]⟩), decide (m < x.size)) := by
  have e := idx_val x 47 m hm h1 h2
  unfold strings_Cut.f
  rw [if_pos (by omega)]
  show some ((⟨(Lib.cut x.data.toList [47]).1.toArray⟩ : ByteArray), (⟨(Lib.cut x.data.toList [47]).2.1.toArray⟩ : ByteArray), (Lib.cut x.data.toList [47]).2.2) = _
  unfold Lib.cut
  rw [e]
  by_cases hl : m < x.size
  · rw [if_pos hl, if_pos hl, if_pos (by omega), Int.toNat_natCast, mk_eq _ (x.extract 0 m) (list_take x m)]
    show some (x.extract 0 m, (⟨(x.data.toList.drop (m + 1)).toArray⟩ : ByteArray), true) = _
    rw [mk_eq _ (x.extract (m + 1) x.size) (list_ext x (m + 1)), decide_eq_true hl]
  · rw [if_neg hl, if_neg hl, if_neg (by decide), decide_eq_false hl]
    have : m = x.size := by omega
    subst this
    show some ((⟨x.data.toList.toArray⟩ : ByteArray), (⟨#[]⟩ : ByteArray), false) = _
    rw [mk_eq _ (x.extract 0 x.size) (by rw [ext_all])]
theorem scan_ex (P : Nat → Prop) (n : Nat) : ∀ d p : Nat, p + d = n → ∃ m, p ≤ m ∧ m ≤ n ∧ (∀ j, p ≤ j → j < m → ¬ P j) ∧ (m = n ∨ P m) := by
  intro d
  induction d with
  | zero => intro p hp; exact ⟨p, by omega, by omega, by omega, .inl (by omega)⟩
  | succ d ih =>
    intro p hp
    by_cases h : P p
    · exact ⟨p, by omega, by omega, by omega, .inr h⟩
    · obtain ⟨m, h1, h2, h3, h4⟩ := ih (p + 1) (by omega)
      refine ⟨m, by omega, h2, fun j hj hj2 => ?_, h4⟩
      by_cases hji : j = p
      · subst hji; exact h
      · exact h3 j (by omega) hj2
/-- The parts of a text from byte a on, between the dots. -/
def SP (s : ByteArray) (a : Nat) : List ByteArray := Lib.splitB ⟨#[46]⟩ 0 (Lib.countB (s.extract a s.size) ⟨#[46]⟩) (s.extract a s.size)
theorem split_at (s : ByteArray) (a j : Nat) (ha : a ≤ j) (hj : j ≤ s.size) (hno : ∀ i : Nat, a ≤ i → i < j → ¬ bt s i = 46) (hb : j < s.size → bt s j = 46) :
    SP s a = if j < s.size then s.extract a j :: SP s (j + 1) else [s.extract a j] := by
  unfold SP
  have hsz : (s.extract a s.size).size = s.size - a := by rw [ByteArray.size_extract]; omega
  have hi : Lib.indexB (s.extract a s.size) ⟨#[46]⟩ = if j - a < (s.extract a s.size).size then ((j - a : Nat) : Int) else -1 :=
    idx_val (s.extract a s.size) 46 (j - a) (by omega) (fun i h => by rw [bt_ext s a i s.size (by omega) (by omega)]; exact hno (a + i) (by omega) (by omega)) (fun h => by rw [bt_ext s a (j - a) s.size (by omega) (by omega), show a + (j - a) = j by omega]; exact hb (by omega))
  by_cases hl : j < s.size
  · rw [if_pos (by omega)] at hi
    rw [if_pos hl, Lib.countB_hit _ _ _ (by decide) hi, Nat.add_comm, Lib.splitB_hit _ _ _ _ _ hi, hsz]
    show (s.extract a s.size).extract 0 (j - a + 0) :: _ = _
    have e1 : (s.extract a s.size).extract 0 (j - a + 0) = s.extract a j := by rw [ext_ext s a 0 _ (by omega)]; congr 1; omega
    have e2 : (s.extract a s.size).extract (j - a + (⟨#[46]⟩ : ByteArray).size) (s.size - a) = s.extract (j + 1) s.size := by
      show (s.extract a s.size).extract (j - a + 1) (s.size - a) = _
      rw [ext_ext s a _ _ (by omega)]; congr 1 <;> omega
    rw [e1, e2]
  · rw [if_neg (by omega)] at hi
    have : j = s.size := by omega
    subst this
    rw [if_neg hl, Lib.splitB_miss _ _ _ _ hi]
theorem SP_len (s : ByteArray) : (SP s 0).length ≤ s.size + 1 := by
  unfold SP
  rw [ext_all]
  have := Lib.countB_le ⟨#[46]⟩ (by decide) s.size s (Nat.le_refl _)
  have h := Lib.splitB_all ⟨#[46]⟩ (by decide) 0 _ s rfl
  omega
theorem SP_size (s : ByteArray) : ∀ d a : Nat, a + d = s.size → ∀ p ∈ SP s a, p.size ≤ s.size := by
  intro d
  induction d using Nat.strongRecOn with
  | _ d ih =>
    intro a had p hp
    obtain ⟨j, h1, h2, h3, h4⟩ := scan_ex (fun j => bt s j = 46) s.size d a had
    rw [split_at s a j h1 h2 h3 (fun h => h4.resolve_left (by omega))] at hp
    have hx : (s.extract a j).size ≤ s.size := by rw [ByteArray.size_extract]; omega
    by_cases hl : j < s.size
    · rw [if_pos hl] at hp
      rcases List.mem_cons.1 hp with rfl | hp
      · exact hx
      · exact ih (s.size - (j + 1)) (by omega) (j + 1) (by omega) p hp
    · rw [if_neg hl] at hp
      rw [List.mem_singleton.1 hp]
      exact hx
/-! ### numbers -/
def n255 (p : ByteArray) : Option Nat := numS p.data.toList 255
theorem numA_good (p : ByteArray) (most : Int) : numA p most = (match numS p.data.toList most with | some v => ((v : Int), true) | none => ((numA p most).1, false)) := by
  have h := backS_eq p.data.toList most
  unfold backS at h
  unfold numA
  rcases e : Lib.atoiAll p.data.toList with v | _ | _
  · rw [e] at h
    simp only at h ⊢
    by_cases hc : v < 0 ∨ v > most ∨ Lib.itoa v ≠ p.data.toList
    · rw [if_pos hc] at h
      cases hn : numS p.data.toList most with
      | some u => rw [hn] at h; cases h
      | none => rw [if_pos hc]
    · rw [if_neg hc] at h
      cases hn : numS p.data.toList most with
      | some u =>
        rw [hn] at h
        obtain rfl := Option.some.inj h
        rw [if_neg hc]
      | none => rw [hn] at h; cases h
  · rw [e] at h
    simp only at h ⊢
    cases hn : numS p.data.toList most with
    | some u => rw [hn] at h; cases h
    | none => rfl
  · rw [e] at h
    simp only at h ⊢
    cases hn : numS p.data.toList most with
    | some u => rw [hn] at h; cases h
    | none => rfl
theorem numS_le (l : List UInt8) (most : Int) (v : Nat) (h : numS l most = some v) : (v : Int) ≤ most := ((numS_iff l most v).1 h).2.2
/-- What four parts say, from a number on. -/
def pv (acc : Nat) : List ByteArray → Option Nat
  | [] => some acc
  | p :: r => match n255 p with
    | some v => pv (acc * 256 + v) r
    | none => none
def ans (r : Option Nat) : Int × Int := match r with
  | some a => ((a : Int), 0)
  | none => (0, 4)
def parse (s : ByteArray) : Option Nat := if (SP s 0).length = 4 then pv 0 (SP s 0) else none
theorem pv_lt : ∀ (L : List ByteArray) (acc v : Nat), pv acc L = some v → v < (acc + 1) * 256 ^ L.length
  | [], acc, v, h => by obtain rfl := Option.some.inj h; simp
  | p :: r, acc, v, h => by
    rw [pv] at h
    cases hn : n255 p with
    | none => rw [hn] at h; cases h
    | some u =>
      rw [hn] at h
      have := pv_lt r _ _ h
      have hu := numS_le _ _ _ hn
      rw [List.length_cons, Nat.pow_succ]
      have h2 : (acc * 256 + u + 1) * 256 ^ r.length ≤ (acc + 1) * (256 ^ r.length * 256) := by
        rw [Nat.mul_comm (256 ^ r.length) 256, ← Nat.mul_assoc]
        exact Nat.mul_le_mul_right _ (by omega)
      omega
theorem rd_at (L : List ByteArray) (i : Nat) (h : i < L.length) : rdOf ByteArray.empty L (i : Int) = L[i] := by
  unfold rdOf
  simp [h]
theorem or_byte (a v : Int) (h0 : 0 ≤ a) (h1 : a < 16777216) (g0 : 0 ≤ v) (g1 : v ≤ 255) : Go.bits .or .u32 ((a * 256) % 4294967296) (v % 4294967296) = a * 256 + v := by
  rw [Int.emod_eq_of_lt (by omega) (by omega), Int.emod_eq_of_lt (by omega) (by omega)]
  have e : (2 : Int) ^ 8 = 256 := by decide
  exact bits_join .u32 32 (by decide) wraps_u32 8 (a * 256) v (by omega) (by rw [e]; omega) (by rw [p32]; omega) g0 (by rw [e]; omega) (by rw [p32]; omega)
theorem num_val (p : ByteArray) (most : Int) (hp : p.size ≤ 1048577) : addr_number.f p most = some (numA p most) := by
  unfold addr_number.f
  rw [if_pos (by omega)]
theorem parse_l0 (L : List ByteArray) (hL : L.length = 4) (hs : ∀ p ∈ L, p.size ≤ 1048577) : ∀ d i acc : Nat, i + d = 4 → acc < 256 ^ i → Ev (fun k => addr_Parse.l0 k L acc i) (ans (pv acc (L.drop i))) := by
  intro d
  induction d with
  | zero =>
    intro i acc hi ha
    obtain rfl : i = 4 := by omega
    rw [List.drop_of_length_le (by omega)]
    refine Ev.step (fun k => by rw [addr_Parse.l0]) (ev_neg (by omega) ?_)
    exact ev_now _
  | succ d ih =>
    intro i acc hi ha
    have hil : i < L.length := by omega
    have hp3 : 256 ^ i ≤ 256 ^ 3 := Nat.pow_le_pow_right (by decide) (by omega)
    have e3 : (256 : Nat) ^ 3 = 16777216 := by decide
    rw [List.drop_eq_getElem_cons hil, pv]
    refine Ev.step (fun k => by rw [addr_Parse.l0]) (ev_pos (by omega) (ev_pos (by omega) (ev_pos (by omega) ?_)))
    rw [rd_at L i hil]
    have hg := numA_good L[i] 255
    refine ev_is _ (num_val L[i] 255 (hs _ (List.getElem_mem hil))) ?_
    unfold n255
    cases hn : numS L[i].data.toList 255 with
    | none =>
      rw [hn] at hg
      simp only at hg
      rw [hg]
      exact ev_neg (by simp) (ev_now _)
    | some v =>
      rw [hn] at hg
      simp only at hg
      rw [hg]
      have hv := numS_le _ _ _ hn
      refine ev_pos rfl ?_
      rw [or_byte (acc : Int) (v : Int) (by omega) (by omega) (by omega) (by omega), w64_id _ (by omega) (by omega)]
      have := ih (i + 1) (acc * 256 + v) (by omega) (by rw [Nat.pow_succ]; omega)
      rw [show ((acc * 256 + v : Nat) : Int) = (acc : Int) * 256 + v by omega, show ((i + 1 : Nat) : Int) = (i : Int) + 1 by omega] at this
      exact this
theorem parse_val (s : ByteArray) (hs : s.size ≤ 1048577) : Ev (fun k => addr_Parse.f k s) (ans (parse s)) := by
  unfold addr_Parse.f
  have hsp : strings_Split.f s (⟨#[46]⟩ : ByteArray) = some (SP s 0) := by
    unfold strings_Split.f SP
    rw [if_pos ⟨by omega, by decide⟩, ext_all]
  refine ev_is _ hsp ?_
  unfold parse
  by_cases h4 : (SP s 0).length = 4
  · rw [if_pos h4]
    refine ev_pos (by omega) ?_
    have := parse_l0 (SP s 0) h4 (fun p hp => Nat.le_trans (SP_size s s.size 0 (by omega) p hp) hs) 4 0 0 rfl (by decide)
    rw [List.drop_zero] at this
    exact this
  · rw [if_neg h4]
    exact ev_neg (by omega) (ev_now _)
/-! ### prefixes -/
theorem behind_val (n : Int) (h0 : 0 ≤ n) (h1 : n ≤ 32) : addr_behind.f n = some (sz n - 1) := by
  have hp := sz_pos n
  have hl := sz_le h0
  unfold addr_behind.f
  rw [w64_id (32 - n) (by omega) (by omega), if_pos (by omega)]
  unfold shl
  have e : (1 : Int) * 2 ^ min (32 - n).toNat IntKind.u64.bits = sz n := by
    rw [Nat.min_eq_left (show (32 - n).toNat ≤ IntKind.u64.bits from (show (32 - n).toNat ≤ 64 by omega)), Int.one_mul]; rfl
  rw [e, u64_id (sz n) (by omega) (by omega), u64_id (sz n - 1) (by omega) (by omega), Int.emod_eq_of_lt (by omega) (by omega)]
def isA (a : Int) : Prop := 0 ≤ a ∧ a ≤ 4294967295
theorem chk_val (a b : Int) (ha : isA a) : Ev (fun k => addr_Check.f k a b) (chk a b) := by
  unfold addr_Check.f chk
  by_cases h : 0 ≤ b ∧ b ≤ 32
  · rw [if_pos h]
    refine ev_neg (by omega) (Ev.step (f := fun _ => (addr_behind.f b).bind fun t => if bits .and .u32 a t = 0 then some 0 else some 10) (fun k => ?_) (ev_is _ (behind_val b h.1 h.2) ?_))
    · simp only [addr_Check.j0]; rw [if_neg (by simp; omega)]
    · rw [and_mask a ha.1 ha.2 b h.1 h.2]
      by_cases h2 : a % sz b = 0
      · exact ev_posr h2 h2 (ev_now _)
      · exact ev_negr h2 h2 (ev_now _)
  · rw [if_neg h]
    by_cases h1 : b < 0
    · refine ev_pos h1 (Ev.step (f := fun _ => some 1) (fun k => ?_) (ev_now _))
      simp only [addr_Check.j0]; rw [if_pos True.intro]
    · refine ev_neg h1 (Ev.step (f := fun _ => some 1) (fun k => ?_) (ev_now _))
      simp only [addr_Check.j0]; rw [if_pos (by simp; omega)]
/-- What both tell of a prefix's text whose stroke stands at m. -/
def pfxOf (a : Option Nat) (b : Option Nat) : Int × Int × Int := match a, b with
  | some a, some b => if chk a b = 0 then ((a : Int), (b : Int), 0) else (0, 0, chk a b)
  | _, _ => (0, 0, 4)
def pfxAt (s : ByteArray) (m : Nat) : Int × Int × Int := if m < s.size then pfxOf (parse (s.extract 0 m)) (numS (s.extract (m + 1) s.size).data.toList 32) else (0, 0, 4)
theorem parse_isA (s : ByteArray) (a : Nat) (h : parse s = some a) : isA (a : Int) := by
  unfold parse at h
  split at h
  · rename_i h4
    have := pv_lt _ _ _ h
    rw [h4] at this
    have e : (0 + 1) * 256 ^ 4 = 4294967296 := by decide
    constructor <;> omega
  · cases h
theorem pfx_val (s : ByteArray) (m : Nat) (hs : s.size ≤ 1048577) (hm : m ≤ s.size) (h1 : ∀ j : Nat, j < m → ¬ bt s j = 47) (h2 : m < s.size → bt s m = 47) : Ev (fun k => addr_ParsePrefix.f k s) (pfxAt s m) := by
  unfold addr_ParsePrefix.f
  refine ev_is _ (cut_val s m hs hm h1 h2) ?_
  have hx : (s.extract 0 m).size ≤ 1048577 := by rw [ByteArray.size_extract]; omega
  have hy : (if m < s.size then s.extract (m + 1) s.size else (⟨#[]⟩ : ByteArray)).size ≤ 1048577 := by
    split
    · rw [ByteArray.size_extract]; omega
    · decide
  refine ev_bind _ (parse_val _ hx) ?_
  refine ev_is _ (num_val _ 32 hy) ?_
  have hg := numA_good (if m < s.size then s.extract (m + 1) s.size else (⟨#[]⟩ : ByteArray)) 32
  have bad : ∀ a b : Int, Ev (fun k => addr_ParsePrefix.j0 k a b true) ((0 : Int), (0 : Int), (4 : Int)) := fun a b => Ev.step (fun k => by rw [addr_ParsePrefix.j0]) (ev_pos rfl (ev_now _))
  unfold pfxAt
  by_cases hl : m < s.size
  · rw [if_pos hl] at hg ⊢
    simp only [if_pos hl] at *
    refine ev_pos (by simp [hl]) ?_
    cases hn : numS (s.extract (m + 1) s.size).data.toList 32 with
    | none =>
      rw [hn] at hg
      simp only at hg
      rw [hg]
      refine ev_neg (by simp) (ev_to (bad _ _) ?_)
      unfold pfxOf
      split
      · rename_i e; cases e
      · rfl
    | some b =>
      rw [hn] at hg
      simp only at hg
      rw [hg]
      refine ev_pos rfl ?_
      cases hp : parse (s.extract 0 m) with
      | none => exact bad _ _
      | some a =>
        have ha := parse_isA _ _ hp
        refine Ev.step (fun k => by rw [addr_ParsePrefix.j0]) (ev_neg (by simp [ans]) ?_)
        refine ev_bind _ (chk_val (a : Int) (b : Int) ha) ?_
        show Ev _ (if chk (a : Int) (b : Int) = 0 then ((a : Int), (b : Int), (0 : Int)) else (0, 0, chk a b))
        by_cases hc : chk (a : Int) (b : Int) = 0
        · exact ev_posr hc hc (ev_now _)
        · exact ev_negr hc hc (ev_now _)
  · exact ev_to (ev_neg (by simp [hl]) (bad _ _)) (if_neg hl).symm
/-! ### texts -/
theorem text_val (a : Int) (ha : isA a) : addr_Text.f a = some (textT (a / 16777216 % 256) (a / 65536 % 256) (a / 256 % 256) (a % 256)) := by
  unfold addr_Text.f
  exact if_pos ha
theorem part_list (p : Int) : (partT p).data.toList = Lib.itoa p := rfl
theorem text_list (p0 p1 p2 p3 : Int) : (textT p0 p1 p2 p3).data.toList = Lib.itoa p0 ++ 46 :: (Lib.itoa p1 ++ 46 :: (Lib.itoa p2 ++ 46 :: Lib.itoa p3)) := by
  unfold textT
  simp [Lib.join_cons, Lib.joinTail, part_list]
theorem part_size (p : Int) (hp : 0 ≤ p ∧ p ≤ 255) : (Lib.itoa p).length ≤ 4 := by
  have := digits_small p hp
  rw [← part_list, size_list]
  exact this
theorem text_size (p0 p1 p2 p3 : Int) (h0 : 0 ≤ p0 ∧ p0 ≤ 255) (h1 : 0 ≤ p1 ∧ p1 ≤ 255) (h2 : 0 ≤ p2 ∧ p2 ≤ 255) (h3 : 0 ≤ p3 ∧ p3 ≤ 255) : (textT p0 p1 p2 p3).size ≤ 19 := by
  rw [← size_list, text_list]
  have := part_size p0 h0
  have := part_size p1 h1
  have := part_size p2 h2
  have := part_size p3 h3
  simp only [List.length_append, List.length_cons]
  omega
theorem itoa_size (n : Int) (h0 : -9223372036854775808 ≤ n) (h1 : n ≤ 9223372036854775807) : (⟨(Lib.itoa n).toArray⟩ : ByteArray).size ≤ 21 := by
  have := Lib.itoa_length_le n h0 h1
  rw [← size_list]
  exact this
/-- A prefix's text. -/
def ptextT (a b : Int) : ByteArray := (textT (a / 16777216 % 256) (a / 65536 % 256) (a / 256 % 256) (a % 256) ++ ⟨#[47]⟩) ++ ⟨(Lib.itoa b).toArray⟩
theorem bts (a : Int) : (0 ≤ a / 16777216 % 256 ∧ a / 16777216 % 256 ≤ 255) ∧ (0 ≤ a / 65536 % 256 ∧ a / 65536 % 256 ≤ 255) ∧ (0 ≤ a / 256 % 256 ∧ a / 256 % 256 ≤ 255) ∧ (0 ≤ a % 256 ∧ a % 256 ≤ 255) := by omega
theorem ptext_val (a b : Int) (ha : isA a) (h0 : -9223372036854775808 ≤ b) (h1 : b ≤ 9223372036854775807) : addr_PrefixText.f a b = some (ptextT a b) := by
  obtain ⟨b0, b1, b2, b3⟩ := bts a
  have ht := text_size _ _ _ _ b0 b1 b2 b3
  have hi := itoa_size b h0 h1
  have e1 : (⟨#[47]⟩ : ByteArray).size = 1 := rfl
  unfold addr_PrefixText.f
  rw [text_val a ha, Option.bind_some, if_pos (by omega)]
  have hn : strconv_Itoa.f b = some ⟨(Lib.itoa b).toArray⟩ := by
    unfold strconv_Itoa.f
    exact if_pos ⟨h0, h1⟩
  rw [hn, Option.bind_some, if_pos (by rw [ByteArray.size_append, e1]; omega)]
  rfl
end Go.Proofs.YtbnihnggljagnaaDoor.QAddrCovers
