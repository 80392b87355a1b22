-- Written by this session's program (wip/tools/printx.py) over the kit's print; the texts marked HAND are its own. Lean checks it.
import Derived.Test.YtbnihnggljagnaaDoorQLexNamesx0
import Derived.Test.YtbnihnggljagnaaDoorQLexNamesx1
import Derived.Test.YtbnihnggljagnaaDoorQLexNamesx2
namespace Go.Proofs.YtbnihnggljagnaaDoor.QLexNames
open Go.RowKit Go.Proofs.YtbnihnggljagnaaDoorW.PrintWords Go.Proofs.YtbnihnggljagnaaDoorW.PrintLast Go.Proofs.YtbnihnggljagnaaDoorW.PrintMore
attribute [local go_sem] max2_int min2_int max_two min_two max_three min_three max_four min_four   -- for this text's walks alone
attribute [local go_sem high] Go.Proofs.YtbnihnggljagnaaDoor.Base.ux_u32 Go.Proofs.YtbnihnggljagnaaDoor.Base.ux_u64 Go.Proofs.YtbnihnggljagnaaDoor.Base.ux_u8 Go.Proofs.YtbnihnggljagnaaDoor.Base.ux_u16
set_option linter.unusedVariables false
set_option linter.unusedSimpArgs false

/-! ### lex_reader_token: function 104 -/
open Go.Proofs.YtbnihnggljagnaaDoor.World
/-- What stands ahead of the first that is so. -/
def scan (p : Nat → Bool) : Nat → Nat → Nat
  | 0, i => i
  | f + 1, i => if p i = true then i else scan p f (i + 1)
def isLine (s : ByteArray) (i : Nat) : Bool := bt s i == 10
def isEnd (s : ByteArray) (i : Nat) : Bool := decide (0 ≤ Lib.indexByte [32, 10, 123, 125, 59, 91, 93, 34, 35] (bt s i).toNat.toUInt8) || Lib.hasPrefix (s.extract i s.size).data.toList [47, 42]
theorem scan_step {p : Nat → Bool} {n i : Nat} (hi : i < n) (h : p i = false) : scan p (n - i) i = scan p (n - (i + 1)) (i + 1) := by
  obtain ⟨k, hk⟩ : ∃ k, n - i = k + 1 := ⟨n - i - 1, by omega⟩
  rw [hk, scan, h, show n - (i + 1) = k by omega]
  rfl
theorem scan_stop {p : Nat → Bool} {n i : Nat} (h : n ≤ i ∨ p i = true) : scan p (n - i) i = i := by
  cases hk : n - i with
  | zero => rfl
  | succ k =>
    rcases h with h | h
    · omega
    · rw [scan, if_pos h]
theorem bt_get (s : ByteArray) (i : Nat) (h : i < s.size) : bt s i = ((s[i]'h).toNat : Int) := by simp [bt, h]
theorem line_calls (g b : Nat) (s : ByteArray) (l c : Int) (i : Nat) (w : World) (hb : w.heap[b]? = some (.cells #[.pointer (some ⟨g, 0, none⟩)] 150 (0, 0))) (hg : w.heap[g]? = some (.cells #[.string s, .int .i64 l, .int .i64 c] 152 (0, 0))) (hi : i < s.size) :
    Calls Tryd.prog 149 #[.int .i64 i, .pointer (some ⟨b, 0, none⟩)] w fun e w' => e = .returned (.bool (isLine s i)) ∧ w' = w := by
  have cb := cell_of_one hb
  have cg := blk_cell hg 0
  simp only [List.getElem?_toArray, List.getElem?_cons_zero] at cg
  have p11 : 0 ≤ (i : Int) := by omega
  have q11 : (i : Int) < (s.size : Int) := by omega
  have hx11 := bt_at s i
  replace p11 := eq_true p11
  replace q11 := eq_true q11
  go_enter Tryd.func149, Tryd.ntmps149
  go_wp2
  go_ret
  refine ⟨?_, rfl⟩
  have e := bt_get s i hi
  simp [isLine, e]
set_option maxHeartbeats 1000000 in
set_option maxRecDepth 100000 in
theorem ends_calls (g : Nat) (s : ByteArray) (l c : Int) (i : Nat) (w : World) (hg : w.heap[g]? = some (.cells #[.string s, .int .i64 l, .int .i64 c] 152 (0, 0))) (hi : i < s.size) :
    Calls Tryd.prog 153 #[.pointer (some ⟨g, 0, none⟩), .int .i64 i] w fun e w' => e = .returned (.bool (isEnd s i)) ∧ w' = w := by
  have cg := blk_cell hg 0
  simp only [List.getElem?_toArray, List.getElem?_cons_zero] at cg
  have p11 : 0 ≤ (i : Int) := by omega
  have q11 : (i : Int) < (s.size : Int) := by omega
  have q12 : (i : Int) ≤ (s.size : Int) := by omega
  have hx11 := bt_at s i
  replace p11 := eq_true p11
  replace q11 := eq_true q11
  have hE : isEnd s i = (decide (0 ≤ Lib.indexByte [32, 10, 123, 125, 59, 91, 93, 34, 35] (s[i]'hi)) || Lib.hasPrefix (List.take (s.size - i) (List.drop i s.data.toList)) [47, 42]) := by
    simp [isEnd, bt_get s i hi]
  rw [hE]
  clear hE
  go_enter Tryd.func153, Tryd.ntmps153
  go_wp2_with (first | (go_at_call 146; refine (Tryd.strings_IndexByte _ _ _).mono ?_; rintro e w' ⟨rfl, rfl⟩) | (go_at_call 150; refine (Tryd.strings_HasPrefix _ _ _).mono ?_; rintro e w' ⟨rfl, rfl⟩))
  all_goals
    go_ret
    refine ⟨?_, rfl⟩
    simp [*]
set_option maxHeartbeats 1000000 in
set_option maxRecDepth 100000 in
theorem until_ends (g : Nat) (s : ByteArray) (l c : Int) (w : World) (hm : s.size ≤ 65536) (hg : w.heap[g]? = some (.cells #[.string s, .int .i64 l, .int .i64 c] 152 (0, 0))) :
    Calls Tryd.prog 148 #[.pointer (some ⟨g, 0, none⟩), .func (.func 153) #[.pointer (some ⟨g, 0, none⟩)] #[]] w fun e w' => e = .returned (.int .i64 (scan (isEnd s) s.size 0 : Nat)) ∧ w' = w := by
  have cg := blk_cell hg 0
  simp only [List.getElem?_toArray, List.getElem?_cons_zero] at cg
  go_enter Tryd.func148, Tryd.ntmps148
  go_wp2_with fail
  go_loop [5] (fun v => ∃ i : Nat, i ≤ s.size ∧ v = .int .i64 (i : Int) ∧ Aside0 (scan (isEnd s) s.size 0 = scan (isEnd s) (s.size - i) i)) (fun v => s.size - (intOf v).toNat)
  case atStart => exact ⟨0, by omega, rfl, ⟨rfl⟩⟩
  case round =>
    obtain ⟨i, hi, rfl, hs⟩ := hrel
    by_cases hlt : i < s.size
    · have hd : decide ((i : Int) < (s.size : Int)) = true := decide_eq_true (by omega)
      have hE := ends_calls g s l c i w hg hlt
      cases hp : isEnd s i with
      | true =>
        rw [hp] at hE
        go_wp2_with (go_at_call 153; refine hE.mono ?_; rintro e w' ⟨rfl, rfl⟩)
        go_ret
        exact ⟨by rw [hs.out, scan_stop (.inr hp)]; rfl, rfl⟩
      | false =>
        rw [hp] at hE
        go_wp2_with (go_at_call 153; refine hE.mono ?_; rintro e w' ⟨rfl, rfl⟩)
        go_round
        case rel => exact ⟨i + 1, by omega, by simp, ⟨by rw [hs.out, scan_step hlt hp]⟩⟩
        case measure => simp [intOf]; omega
    · have hd : decide ((i : Int) < (s.size : Int)) = false := decide_eq_false (by omega)
      go_wp2_with fail
      go_ret
      exact ⟨by rw [hs.out, scan_stop (.inl (by omega))]; rfl, rfl⟩
set_option maxHeartbeats 1000000 in
set_option maxRecDepth 100000 in
theorem until_line (g b : Nat) (s : ByteArray) (l c : Int) (w : World) (hm : s.size ≤ 65536) (hb : w.heap[b]? = some (.cells #[.pointer (some ⟨g, 0, none⟩)] 150 (0, 0))) (hg : w.heap[g]? = some (.cells #[.string s, .int .i64 l, .int .i64 c] 152 (0, 0))) :
    Calls Tryd.prog 148 #[.pointer (some ⟨g, 0, none⟩), .func (.func 149) #[] #[.pointer (some ⟨b, 0, none⟩)]] w fun e w' => e = .returned (.int .i64 (scan (isLine s) s.size 0 : Nat)) ∧ w' = w := by
  have cg := blk_cell hg 0
  simp only [List.getElem?_toArray, List.getElem?_cons_zero] at cg
  go_enter Tryd.func148, Tryd.ntmps148
  go_wp2_with fail
  go_loop [5] (fun v => ∃ i : Nat, i ≤ s.size ∧ v = .int .i64 (i : Int) ∧ Aside0 (scan (isLine s) s.size 0 = scan (isLine s) (s.size - i) i)) (fun v => s.size - (intOf v).toNat)
  case atStart => exact ⟨0, by omega, rfl, ⟨rfl⟩⟩
  case round =>
    obtain ⟨i, hi, rfl, hs⟩ := hrel
    by_cases hlt : i < s.size
    · have hd : decide ((i : Int) < (s.size : Int)) = true := decide_eq_true (by omega)
      have hE := line_calls g b s l c i w hb hg hlt
      cases hp : isLine s i with
      | true =>
        rw [hp] at hE
        go_wp2_with (go_at_call 149; refine hE.mono ?_; rintro e w' ⟨rfl, rfl⟩)
        go_ret
        exact ⟨by rw [hs.out, scan_stop (.inr hp)]; rfl, rfl⟩
      | false =>
        rw [hp] at hE
        go_wp2_with (go_at_call 149; refine hE.mono ?_; rintro e w' ⟨rfl, rfl⟩)
        go_round
        case rel => exact ⟨i + 1, by omega, by simp, ⟨by rw [hs.out, scan_step hlt hp]⟩⟩
        case measure => simp [intOf]; omega
    · have hd : decide ((i : Int) < (s.size : Int)) = false := decide_eq_false (by omega)
      go_wp2_with fail
      go_ret
      exact ⟨by rw [hs.out, scan_stop (.inl (by omega))]; rfl, rfl⟩

abbrev TokR := Int × ByteArray × Int × Int × Bool × Int × ByteArray × Int × Int
/-- What a token is, by what 'take' gives. -/
def lex_reader_token.f (k : Nat) (s : ByteArray) (l c : Int) : Option TokR :=
  if 0 < s.size ∧ s.size ≤ 65536 ∧ s.data.toList.all (fun b => decide (b.toNat < 128)) = true then
    if bt s 0 = 32 ∨ bt s 0 = 10 then (lex_reader_take.f k s l c 1).bind fun t => some (1, ⟨#[]⟩, l, c, false, 0, t.2.1, t.2.2.1, t.2.2.2)
    else if bt s 0 = 35 then (lex_reader_take.f k s l c (scan (isLine s) s.size 0 : Nat)).bind fun t => some (1, ⟨#[]⟩, l, c, false, 0, t.2.1, t.2.2.1, t.2.2.2)
    else if Lib.hasPrefix s.data.toList [47, 42] = true then
      (if Lib.index (s.data.toList.drop 2) [42, 47] < 0 then some (1, ⟨#[]⟩, l, c, false, 71, s, l, c)
       else (lex_reader_take.f k s l c (Lib.index (s.data.toList.drop 2) [42, 47] + 4)).bind fun t => some (1, ⟨#[]⟩, l, c, false, 0, t.2.1, t.2.2.1, t.2.2.2))
    else if bt s 0 = 34 then
      (if Lib.indexAny (s.data.toList.drop 1) [34, 10] < 0 ∨ bt s (Lib.indexAny (s.data.toList.drop 1) [34, 10] + 1) = 10 then some (1, ⟨#[]⟩, l, c, false, 71, s, l, c)
       else (lex_reader_take.f k s l c (Lib.indexAny (s.data.toList.drop 1) [34, 10] + 2)).bind fun t => some (1, t.1.extract 1 (Lib.indexAny (s.data.toList.drop 1) [34, 10] + 1).toNat, l, c, true, 0, t.2.1, t.2.2.1, t.2.2.2))
    else if 0 ≤ Lib.indexByte [123, 125, 59, 91, 93] (bt s 0).toNat.toUInt8 then
      (lex_reader_take.f k s l c 1).bind fun t => some (2 + Lib.indexByte [123, 125, 59, 91, 93] (bt s 0).toNat.toUInt8, t.1, l, c, true, 0, t.2.1, t.2.2.1, t.2.2.2)
    else (lex_reader_take.f k s l c (scan (isEnd s) s.size 0 : Nat)).bind fun t => some (1, t.1, l, c, true, 0, t.2.1, t.2.2.1, t.2.2.2)
  else none
theorem lex_reader_token.mono : ∀ a0 a1 a2 k, LeO (lex_reader_token.f k a0 a1 a2) (lex_reader_token.f (k + 1) a0 a1 a2) := by
  intro a0 a1 a2 k
  have M := fun n => lex_reader_take.mono a0 a1 a2 n k
  have B : ∀ n (g : _ → Option TokR), LeO ((lex_reader_take.f k a0 a1 a2 n).bind g) ((lex_reader_take.f (k + 1) a0 a1 a2 n).bind g) := by
    intro n g r h
    obtain ⟨x, hx, hg⟩ := Option.bind_eq_some_iff.1 h
    exact Option.bind_eq_some_iff.2 ⟨x, M n x hx, hg⟩
  unfold lex_reader_token.f
  repeat' split
  all_goals first | exact B _ _ | exact fun r h => h
theorem cell_kept (w : World) (o1 o2 o3 : Obj) {v : Value} {a : Addr} (h : w.cell? a = some v) : (((w.alloc o1).alloc o2).alloc o3).cell? a = some v := by
  have := World.block_lt_of_cell? w _ h
  exact (below_alloc (below_alloc (below_alloc (Below.refl w.heap.size w) o1) o2) o3).cell this |>.trans h
theorem index_calls (s : ByteArray) (n : Int) (hn : n = Lib.index (s.data.toList.drop 2) [42, 47]) (hmax : s.size ≤ 65536) (h2 : 2 ≤ s.size) (W : World) (m : Int) (hm : W.cell? ⟨0, 0, none⟩ = some (.int .i64 m)) :
    Calls Tryd.prog 151 #[.string (s.extract 2 s.size), .string ⟨#[42, 47]⟩] W fun e w' => e = .returned (.int .i64 n) ∧ w' = W := by
  have := Tryd.strings_Index (s.extract 2 s.size) ⟨#[42, 47]⟩ m W (by rw [ByteArray.size_extract]; omega) hm
  have e : (s.extract 2 s.size).data.toList = s.data.toList.drop 2 := by
    simp [ByteArray.data_extract]
    exact List.take_of_length_le (by rw [List.length_drop, Array.length_toList]; exact Nat.le_refl _)
  rw [e] at this
  rw [hn]
  exact this
theorem after_take {w w1 : World} {g : Nat} {o1 o2 o3 : Obj} (hlt : g < w.heap.size) (hk : KeepBut (((w.alloc o1).alloc o2).alloc o3) w1 g none) :
    w1.heap[w.heap.size]? = some o1 ∧ w1.heap[w.heap.size + 1]? = some o2 ∧ w1.heap[w.heap.size + 1 + 1]? = some o3 := by
  have a1 := blk_alloc (blk_alloc (blk_new w o1) o2) o3
  have a2 := blk_alloc (blk_new (w.alloc o1) o2) o3
  have a3 := blk_new ((w.alloc o1).alloc o2) o3
  exact ⟨hk.blk a1 (by omega) (by simp), hk.blk (by simpa using a2) (by omega) (by simp), hk.blk (by simpa using a3) (by omega) (by simp)⟩
theorem after_take_drew {w w1 : World} {g : Nat} {o1 o2 o3 : Obj} (hlt : g < w.heap.size) (hk : KeepBut (((w.alloc o1).alloc o2).alloc o3).drew w1 g none) :
    w1.heap[w.heap.size]? = some o1 ∧ w1.heap[w.heap.size + 1]? = some o2 ∧ w1.heap[w.heap.size + 1 + 1]? = some o3 := after_take hlt hk
theorem after_any {w w2 : World} {o1 o2 o3 : Obj} (hb : Below (((w.alloc o1).alloc o2).alloc o3).heap.size (((w.alloc o1).alloc o2).alloc o3) w2) :
    w2.heap[w.heap.size]? = some o1 ∧ w2.heap[w.heap.size + 1]? = some o2 ∧ w2.heap[w.heap.size + 1 + 1]? = some o3 := by
  have a1 := blk_alloc (blk_alloc (blk_new w o1) o2) o3
  have a2 := blk_alloc (blk_new (w.alloc o1) o2) o3
  have a3 := blk_new ((w.alloc o1).alloc o2) o3
  exact ⟨blk_below a1 hb, blk_below (by simpa using a2) hb, blk_below (by simpa using a3) hb⟩
theorem any_calls (s : ByteArray) (n : Int) (hn : n = Lib.indexAny (s.data.toList.drop 1) [34, 10]) (hmax : s.size ≤ 65536) (hpos : 0 < s.size) (hasc : s.data.toList.all (fun b => decide (b.toNat < 128)) = true) (W : World) :
    Calls Tryd.prog 152 #[.string (s.extract 1 s.size), .string ⟨#[34, 10]⟩] W fun e w' => e = .returned (.int .i64 n) ∧ Below W.heap.size W w' := by
  have e : (s.extract 1 s.size).data.toList = s.data.toList.drop 1 := by
    simp [ByteArray.data_extract]
    exact List.take_of_length_le (by rw [List.length_tail, Array.length_toList]; exact Nat.le_refl _)
  have := Tryd.strings_IndexAny_laid (s.extract 1 s.size) ⟨#[34, 10]⟩ W (by rw [ByteArray.size_extract]; omega) (by decide) (by
    intro j b hb
    rw [e] at hb
    have := List.all_eq_true.1 hasc b (List.mem_of_mem_drop (List.mem_of_getElem? hb))
    simpa using this) (by
    intro j b hb
    have : b ∈ [(34 : UInt8), 10] := List.mem_of_getElem? hb
    simp at this
    rcases this with rfl | rfl <;> decide)
  rw [e] at this
  rw [hn]
  exact this
theorem sign_calls (c : Int) (n : Int) (hn : n = Lib.indexByte [123, 125, 59, 91, 93] c.toNat.toUInt8) (W : World) :
    Calls Tryd.prog 146 #[.string ⟨#[123, 125, 59, 91, 93]⟩, .int .u8 c] W fun e w' => e = .returned (.int .i64 n) ∧ w' = W := by
  rw [hn]
  exact Tryd.strings_IndexByte ⟨#[123, 125, 59, 91, 93]⟩ c W
theorem take_l0_first : ∀ k x0 x1 x2 x3 x4 x5 r, lex_reader_take.l0 k x0 x1 x2 x3 x4 x5 = some r → r.1 = x0 := by
  intro k
  induction k with
  | zero => intro x0 x1 x2 x3 x4 x5 r h; simp [lex_reader_take.l0] at h
  | succ k ih =>
    intro x0 x1 x2 x3 x4 x5 r h
    rw [lex_reader_take.l0] at h
    repeat' split at h
    all_goals first
      | exact ih _ _ _ _ _ _ _ h
      | (cases h; done)
      | (obtain rfl := Option.some.inj h; rfl)
theorem take_size {k : Nat} {s : ByteArray} {l c n : Int} {x1 x2 : ByteArray} {x3 x4 : Int} (h : lex_reader_take.f k s l c n = some (x1, x2, x3, x4)) : (x1.size : Int) = n ∧ n ≤ s.size := by
  unfold lex_reader_take.f at h
  by_cases h1 : 0 ≤ n
  · rw [if_pos h1] at h
    by_cases h2 : n ≤ (s.size : Int)
    · rw [if_pos h2] at h
      have := take_l0_first _ _ _ _ _ _ _ _ h
      simp only at this
      rw [this, ByteArray.size_extract]
      omega
    · rw [if_neg h2] at h; cases h
  · rw [if_neg h1] at h; cases h
set_option maxHeartbeats 2000000 in
set_option maxRecDepth 100000 in
theorem lex_reader_token.at_32 (k : Nat) (g : Nat) (s0_0 : ByteArray) (s0_1 : Int) (s0_2 : Int) (r1 : Int) (r2 : ByteArray) (r3 : Int) (r4 : Int) (r5 : Bool) (r6 : Int) (r7 : ByteArray) (r8 : Int) (r9 : Int) (w0 w : World) (hI : IsS152 w0 w g s0_0 s0_1 s0_2) (hB : Below w0.heap.size w0 w) (hG : Go.Proofs.YtbnihnggljagnaaDoor.World.GW w0) (hpos : 0 < s0_0.size) (hmax : s0_0.size ≤ 65536) (hasc : s0_0.data.toList.all (fun b => decide (b.toNat < 128)) = true) (e1 : (bt s0_0 0 == 32) = true) (h : ((lex_reader_take.f k s0_0 s0_1 s0_2 1).bind fun t => some (1, ⟨#[]⟩, s0_1, s0_2, false, 0, t.2.1, t.2.2.1, t.2.2.2)) = some (r1, r2, r3, r4, r5, r6, r7, r8, r9)) :
    Calls Tryd.prog 104 #[.pointer (some ⟨g, 0, none⟩)] w fun e w' => e = .returned (.tuple #[.agg #[.int .u8 r1, .string r2, .int .i64 r3, .int .i64 r4], .bool r5, .int .i64 r6]) ∧ IsS152 w0 w' g r7 r8 r9 ∧ Below w0.heap.size w0 w' ∧ KeepBut w w' g none := by
  obtain ⟨hg, hge⟩ := hI
  have hlt := blk_lt hg
  have c0 : ∀ o1 o2 o3, (((w.alloc o1).alloc o2).alloc o3).cell? ⟨g, 0, none⟩ = some (.string s0_0) := fun o1 o2 o3 => by
    have := blk_cell (blk_alloc (blk_alloc (blk_alloc hg o1) o2) o3) 0
    simpa using this
  have d1 := blk_cell hg 1
  have d2 := blk_cell hg 2
  simp only [List.getElem?_toArray, List.getElem?_cons_zero, List.getElem?_cons_succ] at d1 d2
  have c1 : ∀ o1 o2, ((w.alloc o1).alloc o2).cell? ⟨g, 1, none⟩ = some (.int .i64 s0_1) := fun o1 o2 => by
    have := blk_cell (blk_alloc (blk_alloc hg o1) o2) 1
    simpa using this
  have c2 : ∀ o1 o2, ((w.alloc o1).alloc o2).cell? ⟨g, 2, none⟩ = some (.int .i64 s0_2) := fun o1 o2 => by
    have := blk_cell (blk_alloc (blk_alloc hg o1) o2) 2
    simpa using this
  clear d1 d2
  have hx0 : ∀ h : 0 < s0_0.size, ((s0_0[0]'h).toNat : Int) = bt s0_0 0 := bt_at s0_0 0
  have q0 : (0 < (s0_0.size : Int)) = True := eq_true (by omega)
  obtain ⟨⟨x1, x2, x3, x4⟩, ht, hr⟩ := Option.bind_eq_some_iff.1 h
  clear h
  simp only [Option.some.injEq, Prod.mk.injEq] at hr
  obtain ⟨rfl, rfl, rfl, rfl, rfl, rfl, rfl, rfl, rfl⟩ := hr
  have HT := Aside0.mk ht
  clear ht
  go_enter Tryd.func104, Tryd.ntmps104
  go_wp2_with (first | (go_at_call 146; refine (Tryd.strings_IndexByte _ _ _).mono ?_; rintro e w' ⟨rfl, rfl⟩) | (go_at_call 147; refine (lex_reader_take.calls k g _ _ _ _ _ _ _ _ w0 _ ⟨(blk_alloc (blk_alloc (blk_alloc hg _) _) _), hge⟩ (below_alloc (below_alloc (below_alloc hB _) _) _) HT.out).mono ?_; rintro e w1 ⟨rfl, hi1, hb1, hk1⟩; obtain ⟨hz1, hz2, hz3⟩ := after_take hlt hk1; have HI1 := Aside0.mk hi1; have HB1 := Aside0.mk hb1; have HK1 := Aside0.mk (KeepBut.trans (keep_alloc (keep_alloc (keep_alloc (KeepBut.refl w g none) _) _) _) hk1 (.inl rfl)); clear hi1 hb1 hk1; have f0 := blk_cell hz3 0; have f1 := blk_cell hz3 1; have f2 := blk_cell hz3 2; have f3 := blk_cell hz3 3; have g1 := blk_frozen hz3 1; have g0 := blk_frozen hz3 0; have t0 := blk_cell hz2 0; have t1 := blk_cell hz2 1; have t2 := blk_cell hz2 2; have t3 := blk_cell hz2 3; have z0 := blk_frozen hz2 0; have z1 := blk_frozen hz2 1; have z2 := blk_frozen hz2 2; have z3 := blk_frozen hz2 3; simp only [List.getElem?_toArray, List.getElem?_cons_zero, List.getElem?_cons_succ] at f0 f1 f2 f3 t0 t1 t2 t3))
  refine bodyPost_ret (results_ctt rfl _ _ (w.heap.size + 1) 64 #[.int .u8 1, .string ⟨#[]⟩, .int .i64 s0_1, .int .i64 s0_2] (0, 0) _ rfl ?hz Tryd.underlying64 rfl (by kernel_rfl)) rfl ⟨rfl, ?_, ?_, ?_⟩
  case hz => exact blk_put (blk_put (blk_put (blk_put hz2 0 _ rfl) 1 _ rfl) 2 _ rfl) 3 _ rfl
  · repeat (first | with_reducible exact HI1.out | refine IsS152.far ?_ (show g ≠ w.heap.size + 1 by omega) _ | refine IsS152.far ?_ (show g ≠ w.heap.size + 1 + 1 by omega) _)
  · repeat (first | with_reducible exact HB1.out | refine below_set ?_ (show w0.heap.size ≤ w.heap.size + 1 by have := hB.size; omega) | refine below_set ?_ (show w0.heap.size ≤ w.heap.size + 1 + 1 by have := hB.size; omega))
  · repeat (first | with_reducible exact HK1.out | refine keep_far ?_ (show w.heap.size ≤ w.heap.size + 1 by omega) _ | refine keep_far ?_ (show w.heap.size ≤ w.heap.size + 1 + 1 by omega) _)
set_option maxHeartbeats 2000000 in
set_option maxRecDepth 100000 in
theorem lex_reader_token.at_10 (k : Nat) (g : Nat) (s0_0 : ByteArray) (s0_1 : Int) (s0_2 : Int) (r1 : Int) (r2 : ByteArray) (r3 : Int) (r4 : Int) (r5 : Bool) (r6 : Int) (r7 : ByteArray) (r8 : Int) (r9 : Int) (w0 w : World) (hI : IsS152 w0 w g s0_0 s0_1 s0_2) (hB : Below w0.heap.size w0 w) (hG : Go.Proofs.YtbnihnggljagnaaDoor.World.GW w0) (hpos : 0 < s0_0.size) (hmax : s0_0.size ≤ 65536) (hasc : s0_0.data.toList.all (fun b => decide (b.toNat < 128)) = true) (e1 : (bt s0_0 0 == 32) = false) (e2 : (bt s0_0 0 == 10) = true) (h : ((lex_reader_take.f k s0_0 s0_1 s0_2 1).bind fun t => some (1, ⟨#[]⟩, s0_1, s0_2, false, 0, t.2.1, t.2.2.1, t.2.2.2)) = some (r1, r2, r3, r4, r5, r6, r7, r8, r9)) :
    Calls Tryd.prog 104 #[.pointer (some ⟨g, 0, none⟩)] w fun e w' => e = .returned (.tuple #[.agg #[.int .u8 r1, .string r2, .int .i64 r3, .int .i64 r4], .bool r5, .int .i64 r6]) ∧ IsS152 w0 w' g r7 r8 r9 ∧ Below w0.heap.size w0 w' ∧ KeepBut w w' g none := by
  obtain ⟨hg, hge⟩ := hI
  have hlt := blk_lt hg
  have c0 : ∀ o1 o2 o3, (((w.alloc o1).alloc o2).alloc o3).cell? ⟨g, 0, none⟩ = some (.string s0_0) := fun o1 o2 o3 => by
    have := blk_cell (blk_alloc (blk_alloc (blk_alloc hg o1) o2) o3) 0
    simpa using this
  have d1 := blk_cell hg 1
  have d2 := blk_cell hg 2
  simp only [List.getElem?_toArray, List.getElem?_cons_zero, List.getElem?_cons_succ] at d1 d2
  have c1 : ∀ o1 o2, ((w.alloc o1).alloc o2).cell? ⟨g, 1, none⟩ = some (.int .i64 s0_1) := fun o1 o2 => by
    have := blk_cell (blk_alloc (blk_alloc hg o1) o2) 1
    simpa using this
  have c2 : ∀ o1 o2, ((w.alloc o1).alloc o2).cell? ⟨g, 2, none⟩ = some (.int .i64 s0_2) := fun o1 o2 => by
    have := blk_cell (blk_alloc (blk_alloc hg o1) o2) 2
    simpa using this
  clear d1 d2
  have hx0 : ∀ h : 0 < s0_0.size, ((s0_0[0]'h).toNat : Int) = bt s0_0 0 := bt_at s0_0 0
  have q0 : (0 < (s0_0.size : Int)) = True := eq_true (by omega)
  obtain ⟨⟨x1, x2, x3, x4⟩, ht, hr⟩ := Option.bind_eq_some_iff.1 h
  clear h
  simp only [Option.some.injEq, Prod.mk.injEq] at hr
  obtain ⟨rfl, rfl, rfl, rfl, rfl, rfl, rfl, rfl, rfl⟩ := hr
  have HT := Aside0.mk ht
  clear ht
  go_enter Tryd.func104, Tryd.ntmps104
  go_wp2_with (first | (go_at_call 146; refine (Tryd.strings_IndexByte _ _ _).mono ?_; rintro e w' ⟨rfl, rfl⟩) | (go_at_call 147; refine (lex_reader_take.calls k g _ _ _ _ _ _ _ _ w0 _ ⟨(blk_alloc (blk_alloc (blk_alloc hg _) _) _), hge⟩ (below_alloc (below_alloc (below_alloc hB _) _) _) HT.out).mono ?_; rintro e w1 ⟨rfl, hi1, hb1, hk1⟩; obtain ⟨hz1, hz2, hz3⟩ := after_take hlt hk1; have HI1 := Aside0.mk hi1; have HB1 := Aside0.mk hb1; have HK1 := Aside0.mk (KeepBut.trans (keep_alloc (keep_alloc (keep_alloc (KeepBut.refl w g none) _) _) _) hk1 (.inl rfl)); clear hi1 hb1 hk1; have f0 := blk_cell hz3 0; have f1 := blk_cell hz3 1; have f2 := blk_cell hz3 2; have f3 := blk_cell hz3 3; have g1 := blk_frozen hz3 1; have g0 := blk_frozen hz3 0; have t0 := blk_cell hz2 0; have t1 := blk_cell hz2 1; have t2 := blk_cell hz2 2; have t3 := blk_cell hz2 3; have z0 := blk_frozen hz2 0; have z1 := blk_frozen hz2 1; have z2 := blk_frozen hz2 2; have z3 := blk_frozen hz2 3; simp only [List.getElem?_toArray, List.getElem?_cons_zero, List.getElem?_cons_succ] at f0 f1 f2 f3 t0 t1 t2 t3))
  refine bodyPost_ret (results_ctt rfl _ _ (w.heap.size + 1) 64 #[.int .u8 1, .string ⟨#[]⟩, .int .i64 s0_1, .int .i64 s0_2] (0, 0) _ rfl ?hz Tryd.underlying64 rfl (by kernel_rfl)) rfl ⟨rfl, ?_, ?_, ?_⟩
  case hz => exact blk_put (blk_put (blk_put (blk_put hz2 0 _ rfl) 1 _ rfl) 2 _ rfl) 3 _ rfl
  · repeat (first | with_reducible exact HI1.out | refine IsS152.far ?_ (show g ≠ w.heap.size + 1 by omega) _ | refine IsS152.far ?_ (show g ≠ w.heap.size + 1 + 1 by omega) _)
  · repeat (first | with_reducible exact HB1.out | refine below_set ?_ (show w0.heap.size ≤ w.heap.size + 1 by have := hB.size; omega) | refine below_set ?_ (show w0.heap.size ≤ w.heap.size + 1 + 1 by have := hB.size; omega))
  · repeat (first | with_reducible exact HK1.out | refine keep_far ?_ (show w.heap.size ≤ w.heap.size + 1 by omega) _ | refine keep_far ?_ (show w.heap.size ≤ w.heap.size + 1 + 1 by omega) _)
set_option maxHeartbeats 2000000 in
set_option maxRecDepth 100000 in
theorem lex_reader_token.at_35 (k : Nat) (g : Nat) (s0_0 : ByteArray) (s0_1 : Int) (s0_2 : Int) (r1 : Int) (r2 : ByteArray) (r3 : Int) (r4 : Int) (r5 : Bool) (r6 : Int) (r7 : ByteArray) (r8 : Int) (r9 : Int) (w0 w : World) (hI : IsS152 w0 w g s0_0 s0_1 s0_2) (hB : Below w0.heap.size w0 w) (hG : Go.Proofs.YtbnihnggljagnaaDoor.World.GW w0) (hpos : 0 < s0_0.size) (hmax : s0_0.size ≤ 65536) (hasc : s0_0.data.toList.all (fun b => decide (b.toNat < 128)) = true) (e1 : (bt s0_0 0 == 32) = false) (e2 : (bt s0_0 0 == 10) = false) (e3 : (bt s0_0 0 == 35) = true) (h : ((lex_reader_take.f k s0_0 s0_1 s0_2 (scan (isLine s0_0) s0_0.size 0 : Nat)).bind fun t => some (1, ⟨#[]⟩, s0_1, s0_2, false, 0, t.2.1, t.2.2.1, t.2.2.2)) = some (r1, r2, r3, r4, r5, r6, r7, r8, r9)) :
    Calls Tryd.prog 104 #[.pointer (some ⟨g, 0, none⟩)] w fun e w' => e = .returned (.tuple #[.agg #[.int .u8 r1, .string r2, .int .i64 r3, .int .i64 r4], .bool r5, .int .i64 r6]) ∧ IsS152 w0 w' g r7 r8 r9 ∧ Below w0.heap.size w0 w' ∧ KeepBut w w' g none := by
  obtain ⟨hg, hge⟩ := hI
  have hlt := blk_lt hg
  have c0 : ∀ o1 o2 o3, (((w.alloc o1).alloc o2).alloc o3).cell? ⟨g, 0, none⟩ = some (.string s0_0) := fun o1 o2 o3 => by
    have := blk_cell (blk_alloc (blk_alloc (blk_alloc hg o1) o2) o3) 0
    simpa using this
  have d1 := blk_cell hg 1
  have d2 := blk_cell hg 2
  simp only [List.getElem?_toArray, List.getElem?_cons_zero, List.getElem?_cons_succ] at d1 d2
  have c1 : ∀ o1 o2, ((w.alloc o1).alloc o2).cell? ⟨g, 1, none⟩ = some (.int .i64 s0_1) := fun o1 o2 => by
    have := blk_cell (blk_alloc (blk_alloc hg o1) o2) 1
    simpa using this
  have c2 : ∀ o1 o2, ((w.alloc o1).alloc o2).cell? ⟨g, 2, none⟩ = some (.int .i64 s0_2) := fun o1 o2 => by
    have := blk_cell (blk_alloc (blk_alloc hg o1) o2) 2
    simpa using this
  clear d1 d2
  have hx0 : ∀ h : 0 < s0_0.size, ((s0_0[0]'h).toNat : Int) = bt s0_0 0 := bt_at s0_0 0
  have q0 : (0 < (s0_0.size : Int)) = True := eq_true (by omega)
  obtain ⟨⟨x1, x2, x3, x4⟩, ht, hr⟩ := Option.bind_eq_some_iff.1 h
  clear h
  simp only [Option.some.injEq, Prod.mk.injEq] at hr
  obtain ⟨rfl, rfl, rfl, rfl, rfl, rfl, rfl, rfl, rfl⟩ := hr
  have HT := Aside0.mk ht
  clear ht
  go_enter Tryd.func104, Tryd.ntmps104
  go_wp2_with (first | (go_at_call 146; refine (Tryd.strings_IndexByte _ _ _).mono ?_; rintro e w' ⟨rfl, rfl⟩))
  go_region_with (first | (go_at_call 148; refine (until_line g w.heap.size s0_0 s0_1 s0_2 _ hmax ?hb_ ?hg_).mono ?_; (case hb_ => exact blk_drew (blk_alloc (blk_alloc (blk_new w _) _) _)); (case hg_ => exact blk_drew (blk_alloc (blk_alloc (blk_alloc hg _) _) _)); rintro e w' ⟨rfl, rfl⟩) | (go_at_call 147; refine (lex_reader_take.calls k g _ _ _ _ _ _ _ _ w0 _ ?hi_ ?hb_ HT.out).mono ?_; (case hi_ => exact ⟨blk_drew (blk_alloc (blk_alloc (blk_alloc hg _) _) _), hge⟩); (case hb_ => exact below_drew1 (below_alloc (below_alloc (below_alloc hB _) _) _)); rintro e w1 ⟨rfl, hi1, hb1, hk1⟩; obtain ⟨hz1, hz2, hz3⟩ := after_take_drew hlt hk1; have HI1 := Aside0.mk hi1; have HB1 := Aside0.mk hb1; have HK1 := Aside0.mk (KeepBut.trans (keep_drew (keep_alloc (keep_alloc (keep_alloc (KeepBut.refl w g none) _) _) _)) hk1 (.inl rfl)); clear hi1 hb1 hk1; have f0 := blk_cell hz3 0; have f1 := blk_cell hz3 1; have f2 := blk_cell hz3 2; have f3 := blk_cell hz3 3; have g1 := blk_frozen hz3 1; have g0 := blk_frozen hz3 0; have t0 := blk_cell hz2 0; have t1 := blk_cell hz2 1; have t2 := blk_cell hz2 2; have t3 := blk_cell hz2 3; have z0 := blk_frozen hz2 0; have z1 := blk_frozen hz2 1; have z2 := blk_frozen hz2 2; have z3 := blk_frozen hz2 3; simp only [List.getElem?_toArray, List.getElem?_cons_zero, List.getElem?_cons_succ] at f0 f1 f2 f3 t0 t1 t2 t3))
  all_goals
    go_wp2
    refine bodyPost_ret (results_ctt rfl _ _ (w.heap.size + 1) 64 #[.int .u8 1, .string ⟨#[]⟩, .int .i64 s0_1, .int .i64 s0_2] (0, 0) _ rfl ?hz Tryd.underlying64 rfl (by kernel_rfl)) rfl ⟨rfl, ?_, ?_, ?_⟩
    case hz => exact blk_put (blk_put (blk_put (blk_put hz2 0 _ rfl) 1 _ rfl) 2 _ rfl) 3 _ rfl
    · repeat (first | with_reducible exact HI1.out | refine IsS152.far ?_ (show g ≠ w.heap.size + 1 by omega) _ | refine IsS152.far ?_ (show g ≠ w.heap.size + 1 + 1 by omega) _)
    · repeat (first | with_reducible exact HB1.out | refine below_set ?_ (show w0.heap.size ≤ w.heap.size + 1 by have := hB.size; omega) | refine below_set ?_ (show w0.heap.size ≤ w.heap.size + 1 + 1 by have := hB.size; omega))
    · repeat (first | with_reducible exact HK1.out | refine keep_far ?_ (show w.heap.size ≤ w.heap.size + 1 by omega) _ | refine keep_far ?_ (show w.heap.size ≤ w.heap.size + 1 + 1 by omega) _)
set_option maxHeartbeats 2000000 in
set_option maxRecDepth 100000 in
theorem lex_reader_token.at_openC (k : Nat) (g : Nat) (s0_0 : ByteArray) (s0_1 : Int) (s0_2 : Int) (r1 : Int) (r2 : ByteArray) (r3 : Int) (r4 : Int) (r5 : Bool) (r6 : Int) (r7 : ByteArray) (r8 : Int) (r9 : Int) (w0 w : World) (hI : IsS152 w0 w g s0_0 s0_1 s0_2) (hB : Below w0.heap.size w0 w) (hG : Go.Proofs.YtbnihnggljagnaaDoor.World.GW w0) (hpos : 0 < s0_0.size) (hmax : s0_0.size ≤ 65536) (hasc : s0_0.data.toList.all (fun b => decide (b.toNat < 128)) = true) (e1 : (bt s0_0 0 == 32) = false) (e2 : (bt s0_0 0 == 10) = false) (e3 : (bt s0_0 0 == 35) = false) (hp : Lib.hasPrefix s0_0.data.toList [47, 42] = true) (h2 : 2 ≤ s0_0.size) (n : Int) (hn : n = Lib.index (s0_0.data.toList.drop 2) [42, 47]) (n2 : n ≤ 65536) (n1 : -1 ≤ n) (e4 : decide (n < 0) = true) (h : some (1, ⟨#[]⟩, s0_1, s0_2, false, 71, s0_0, s0_1, s0_2) = some (r1, r2, r3, r4, r5, r6, r7, r8, r9)) :
    Calls Tryd.prog 104 #[.pointer (some ⟨g, 0, none⟩)] w fun e w' => e = .returned (.tuple #[.agg #[.int .u8 r1, .string r2, .int .i64 r3, .int .i64 r4], .bool r5, .int .i64 r6]) ∧ IsS152 w0 w' g r7 r8 r9 ∧ Below w0.heap.size w0 w' ∧ KeepBut w w' g none := by
  obtain ⟨hg, hge⟩ := hI
  have hlt := blk_lt hg
  have c0 : ∀ o1 o2 o3, (((w.alloc o1).alloc o2).alloc o3).cell? ⟨g, 0, none⟩ = some (.string s0_0) := fun o1 o2 o3 => by
    have := blk_cell (blk_alloc (blk_alloc (blk_alloc hg o1) o2) o3) 0
    simpa using this
  have d1 := blk_cell hg 1
  have d2 := blk_cell hg 2
  simp only [List.getElem?_toArray, List.getElem?_cons_zero, List.getElem?_cons_succ] at d1 d2
  have c1 : ∀ o1 o2, ((w.alloc o1).alloc o2).cell? ⟨g, 1, none⟩ = some (.int .i64 s0_1) := fun o1 o2 => by
    have := blk_cell (blk_alloc (blk_alloc hg o1) o2) 1
    simpa using this
  have c2 : ∀ o1 o2, ((w.alloc o1).alloc o2).cell? ⟨g, 2, none⟩ = some (.int .i64 s0_2) := fun o1 o2 => by
    have := blk_cell (blk_alloc (blk_alloc hg o1) o2) 2
    simpa using this
  clear d1 d2
  have hx0 : ∀ h : 0 < s0_0.size, ((s0_0[0]'h).toNat : Int) = bt s0_0 0 := bt_at s0_0 0
  have q0 : (0 < (s0_0.size : Int)) = True := eq_true (by omega)
  have q2 : (2 ≤ (s0_0.size : Int)) = True := eq_true (by omega)
  have HN := Aside0.mk hn
  clear hn
  simp only [Option.some.injEq, Prod.mk.injEq] at h
  obtain ⟨rfl, rfl, rfl, rfl, rfl, rfl, rfl, rfl, rfl⟩ := h
  go_enter Tryd.func104, Tryd.ntmps104
  go_wp2_with (first | (go_at_call 146; refine (Tryd.strings_IndexByte _ _ _).mono ?_; rintro e w' ⟨rfl, rfl⟩) | (go_at_call 150; refine (Tryd.strings_HasPrefix _ _ _).mono ?_; rintro e w' ⟨rfl, rfl⟩) | (go_at_call 151; obtain ⟨m_, hm_⟩ := GW.below hG hB; refine (index_calls s0_0 n HN.out hmax h2 _ m_ (cell_kept w _ _ _ hm_)).mono ?_; rintro e w' ⟨rfl, rfl⟩))
  refine bodyPost_ret (results_ctt rfl _ _ (w.heap.size + 1) 64 #[.int .u8 1, .string ⟨#[]⟩, .int .i64 s0_1, .int .i64 s0_2] (0, 0) _ rfl ?hz Tryd.underlying64 rfl (by kernel_rfl)) rfl ⟨rfl, ⟨(blk_alloc (blk_alloc (blk_alloc hg _) _) _), hge⟩, below_alloc (below_alloc (below_alloc hB _) _) _, keep_alloc (keep_alloc (keep_alloc (KeepBut.refl w g none) _) _) _⟩
  case hz => have a2 := blk_alloc (blk_new (w.alloc (.cells #[.pointer (some ⟨g, 0, none⟩)] 150 (0, 0))) (.cells #[.int .u8 1, .string ⟨#[]⟩, .int .i64 s0_1, .int .i64 s0_2] 64 (0, 0))) (.cells #[.int .u8 1, .string ⟨#[]⟩, .int .i64 s0_1, .int .i64 s0_2] 64 (0, 0)); simpa using a2
set_option maxHeartbeats 2000000 in
set_option maxRecDepth 100000 in
theorem lex_reader_token.at_closedC (k : Nat) (g : Nat) (s0_0 : ByteArray) (s0_1 : Int) (s0_2 : Int) (r1 : Int) (r2 : ByteArray) (r3 : Int) (r4 : Int) (r5 : Bool) (r6 : Int) (r7 : ByteArray) (r8 : Int) (r9 : Int) (w0 w : World) (hI : IsS152 w0 w g s0_0 s0_1 s0_2) (hB : Below w0.heap.size w0 w) (hG : Go.Proofs.YtbnihnggljagnaaDoor.World.GW w0) (hpos : 0 < s0_0.size) (hmax : s0_0.size ≤ 65536) (hasc : s0_0.data.toList.all (fun b => decide (b.toNat < 128)) = true) (e1 : (bt s0_0 0 == 32) = false) (e2 : (bt s0_0 0 == 10) = false) (e3 : (bt s0_0 0 == 35) = false) (hp : Lib.hasPrefix s0_0.data.toList [47, 42] = true) (h2 : 2 ≤ s0_0.size) (n : Int) (hn : n = Lib.index (s0_0.data.toList.drop 2) [42, 47]) (n2 : n ≤ 65536) (n1 : 0 ≤ n) (e4 : decide (n < 0) = false) (h : ((lex_reader_take.f k s0_0 s0_1 s0_2 (n + 4)).bind fun t => some (1, ⟨#[]⟩, s0_1, s0_2, false, 0, t.2.1, t.2.2.1, t.2.2.2)) = some (r1, r2, r3, r4, r5, r6, r7, r8, r9)) :
    Calls Tryd.prog 104 #[.pointer (some ⟨g, 0, none⟩)] w fun e w' => e = .returned (.tuple #[.agg #[.int .u8 r1, .string r2, .int .i64 r3, .int .i64 r4], .bool r5, .int .i64 r6]) ∧ IsS152 w0 w' g r7 r8 r9 ∧ Below w0.heap.size w0 w' ∧ KeepBut w w' g none := by
  obtain ⟨hg, hge⟩ := hI
  have hlt := blk_lt hg
  have c0 : ∀ o1 o2 o3, (((w.alloc o1).alloc o2).alloc o3).cell? ⟨g, 0, none⟩ = some (.string s0_0) := fun o1 o2 o3 => by
    have := blk_cell (blk_alloc (blk_alloc (blk_alloc hg o1) o2) o3) 0
    simpa using this
  have d1 := blk_cell hg 1
  have d2 := blk_cell hg 2
  simp only [List.getElem?_toArray, List.getElem?_cons_zero, List.getElem?_cons_succ] at d1 d2
  have c1 : ∀ o1 o2, ((w.alloc o1).alloc o2).cell? ⟨g, 1, none⟩ = some (.int .i64 s0_1) := fun o1 o2 => by
    have := blk_cell (blk_alloc (blk_alloc hg o1) o2) 1
    simpa using this
  have c2 : ∀ o1 o2, ((w.alloc o1).alloc o2).cell? ⟨g, 2, none⟩ = some (.int .i64 s0_2) := fun o1 o2 => by
    have := blk_cell (blk_alloc (blk_alloc hg o1) o2) 2
    simpa using this
  clear d1 d2
  have hx0 : ∀ h : 0 < s0_0.size, ((s0_0[0]'h).toNat : Int) = bt s0_0 0 := bt_at s0_0 0
  have q0 : (0 < (s0_0.size : Int)) = True := eq_true (by omega)
  have q2 : (2 ≤ (s0_0.size : Int)) = True := eq_true (by omega)
  have HN := Aside0.mk hn
  clear hn
  obtain ⟨⟨x1, x2, x3, x4⟩, ht, hr⟩ := Option.bind_eq_some_iff.1 h
  clear h
  simp only [Option.some.injEq, Prod.mk.injEq] at hr
  obtain ⟨rfl, rfl, rfl, rfl, rfl, rfl, rfl, rfl, rfl⟩ := hr
  have HT := Aside0.mk ht
  clear ht
  go_enter Tryd.func104, Tryd.ntmps104
  go_wp2_with (first | (go_at_call 146; refine (Tryd.strings_IndexByte _ _ _).mono ?_; rintro e w' ⟨rfl, rfl⟩) | (go_at_call 150; refine (Tryd.strings_HasPrefix _ _ _).mono ?_; rintro e w' ⟨rfl, rfl⟩) | (go_at_call 151; obtain ⟨m_, hm_⟩ := GW.below hG hB; refine (index_calls s0_0 n HN.out hmax h2 _ m_ (cell_kept w _ _ _ hm_)).mono ?_; rintro e w' ⟨rfl, rfl⟩) | (go_at_call 147; refine (lex_reader_take.calls k g _ _ _ _ _ _ _ _ w0 _ ⟨(blk_alloc (blk_alloc (blk_alloc hg _) _) _), hge⟩ (below_alloc (below_alloc (below_alloc hB _) _) _) HT.out).mono ?_; rintro e w1 ⟨rfl, hi1, hb1, hk1⟩; obtain ⟨hz1, hz2, hz3⟩ := after_take hlt hk1; have HI1 := Aside0.mk hi1; have HB1 := Aside0.mk hb1; have HK1 := Aside0.mk (KeepBut.trans (keep_alloc (keep_alloc (keep_alloc (KeepBut.refl w g none) _) _) _) hk1 (.inl rfl)); clear hi1 hb1 hk1; have f0 := blk_cell hz3 0; have f1 := blk_cell hz3 1; have f2 := blk_cell hz3 2; have f3 := blk_cell hz3 3; have g1 := blk_frozen hz3 1; have g0 := blk_frozen hz3 0; have t0 := blk_cell hz2 0; have t1 := blk_cell hz2 1; have t2 := blk_cell hz2 2; have t3 := blk_cell hz2 3; have z0 := blk_frozen hz2 0; have z1 := blk_frozen hz2 1; have z2 := blk_frozen hz2 2; have z3 := blk_frozen hz2 3; simp only [List.getElem?_toArray, List.getElem?_cons_zero, List.getElem?_cons_succ] at f0 f1 f2 f3 t0 t1 t2 t3))
  refine bodyPost_ret (results_ctt rfl _ _ (w.heap.size + 1) 64 #[.int .u8 1, .string ⟨#[]⟩, .int .i64 s0_1, .int .i64 s0_2] (0, 0) _ rfl ?hz Tryd.underlying64 rfl (by kernel_rfl)) rfl ⟨rfl, ?_, ?_, ?_⟩
  case hz => exact blk_put (blk_put (blk_put (blk_put hz2 0 _ rfl) 1 _ rfl) 2 _ rfl) 3 _ rfl
  · repeat (first | with_reducible exact HI1.out | refine IsS152.far ?_ (show g ≠ w.heap.size + 1 by omega) _ | refine IsS152.far ?_ (show g ≠ w.heap.size + 1 + 1 by omega) _)
  · repeat (first | with_reducible exact HB1.out | refine below_set ?_ (show w0.heap.size ≤ w.heap.size + 1 by have := hB.size; omega) | refine below_set ?_ (show w0.heap.size ≤ w.heap.size + 1 + 1 by have := hB.size; omega))
  · repeat (first | with_reducible exact HK1.out | refine keep_far ?_ (show w.heap.size ≤ w.heap.size + 1 by omega) _ | refine keep_far ?_ (show w.heap.size ≤ w.heap.size + 1 + 1 by omega) _)
set_option maxHeartbeats 2000000 in
set_option maxRecDepth 100000 in
theorem lex_reader_token.at_open34 (k : Nat) (g : Nat) (s0_0 : ByteArray) (s0_1 : Int) (s0_2 : Int) (r1 : Int) (r2 : ByteArray) (r3 : Int) (r4 : Int) (r5 : Bool) (r6 : Int) (r7 : ByteArray) (r8 : Int) (r9 : Int) (w0 w : World) (hI : IsS152 w0 w g s0_0 s0_1 s0_2) (hB : Below w0.heap.size w0 w) (hG : Go.Proofs.YtbnihnggljagnaaDoor.World.GW w0) (hpos : 0 < s0_0.size) (hmax : s0_0.size ≤ 65536) (hasc : s0_0.data.toList.all (fun b => decide (b.toNat < 128)) = true) (e1 : (bt s0_0 0 == 32) = false) (e2 : (bt s0_0 0 == 10) = false) (e3 : (bt s0_0 0 == 35) = false) (hp : Lib.hasPrefix s0_0.data.toList [47, 42] = false) (e4 : (bt s0_0 0 == 34) = true) (n : Int) (hn : n = Lib.indexAny (s0_0.data.toList.drop 1) [34, 10]) (n1 : -1 ≤ n) (e5 : decide (n < 0) = true) (h : some (1, ⟨#[]⟩, s0_1, s0_2, false, 71, s0_0, s0_1, s0_2) = some (r1, r2, r3, r4, r5, r6, r7, r8, r9)) :
    Calls Tryd.prog 104 #[.pointer (some ⟨g, 0, none⟩)] w fun e w' => e = .returned (.tuple #[.agg #[.int .u8 r1, .string r2, .int .i64 r3, .int .i64 r4], .bool r5, .int .i64 r6]) ∧ IsS152 w0 w' g r7 r8 r9 ∧ Below w0.heap.size w0 w' ∧ KeepBut w w' g none := by
  obtain ⟨hg, hge⟩ := hI
  have hlt := blk_lt hg
  have c0 : ∀ o1 o2 o3, (((w.alloc o1).alloc o2).alloc o3).cell? ⟨g, 0, none⟩ = some (.string s0_0) := fun o1 o2 o3 => by
    have := blk_cell (blk_alloc (blk_alloc (blk_alloc hg o1) o2) o3) 0
    simpa using this
  have d1 := blk_cell hg 1
  have d2 := blk_cell hg 2
  simp only [List.getElem?_toArray, List.getElem?_cons_zero, List.getElem?_cons_succ] at d1 d2
  have c1 : ∀ o1 o2, ((w.alloc o1).alloc o2).cell? ⟨g, 1, none⟩ = some (.int .i64 s0_1) := fun o1 o2 => by
    have := blk_cell (blk_alloc (blk_alloc hg o1) o2) 1
    simpa using this
  have c2 : ∀ o1 o2, ((w.alloc o1).alloc o2).cell? ⟨g, 2, none⟩ = some (.int .i64 s0_2) := fun o1 o2 => by
    have := blk_cell (blk_alloc (blk_alloc hg o1) o2) 2
    simpa using this
  clear d1 d2
  have hx0 : ∀ h : 0 < s0_0.size, ((s0_0[0]'h).toNat : Int) = bt s0_0 0 := bt_at s0_0 0
  have q0 : (0 < (s0_0.size : Int)) = True := eq_true (by omega)
  have q1 : (1 ≤ (s0_0.size : Int)) = True := eq_true (by omega)
  have HN := Aside0.mk hn
  clear hn
  simp only [Option.some.injEq, Prod.mk.injEq] at h
  obtain ⟨rfl, rfl, rfl, rfl, rfl, rfl, rfl, rfl, rfl⟩ := h
  go_enter Tryd.func104, Tryd.ntmps104
  go_wp2_with (first | (go_at_call 146; refine (Tryd.strings_IndexByte _ _ _).mono ?_; rintro e w' ⟨rfl, rfl⟩) | (go_at_call 150; refine (Tryd.strings_HasPrefix _ _ _).mono ?_; rintro e w' ⟨rfl, rfl⟩) | (go_at_call 152; refine (any_calls s0_0 n HN.out hmax hpos hasc _).mono ?_; rintro e w2 ⟨rfl, hb2⟩; obtain ⟨hy1, hy2, hy3⟩ := after_any hb2; have hyg := blk_below (blk_alloc (blk_alloc (blk_alloc hg _) _) _) hb2; have HIa : Aside0 (IsS152 w0 w2 g s0_0 s0_1 s0_2) := ⟨⟨hyg, hge⟩⟩; have HBa := Aside0.mk (below_step (below_alloc (below_alloc (below_alloc hB _) _) _) hb2); have HKa := Aside0.mk (KeepBut.trans (keep_alloc (keep_alloc (keep_alloc (KeepBut.refl w g none) _) _) _) (KeepBut.of_below hb2 g none) (.inl rfl)); clear hb2; have ya := blk_cell hy1 0; have yb := blk_cell hyg 0; have yc := blk_cell hy3 1; simp only [List.getElem?_toArray, List.getElem?_cons_zero, List.getElem?_cons_succ] at ya yb yc; clear yc; have f0 := blk_cell hy3 0; have f1 := blk_cell hy3 1; have f2 := blk_cell hy3 2; have f3 := blk_cell hy3 3; have g1 := blk_frozen hy3 1; have g0 := blk_frozen hy3 0; have t0 := blk_cell hy2 0; have t1 := blk_cell hy2 1; have t2 := blk_cell hy2 2; have t3 := blk_cell hy2 3; have z0 := blk_frozen hy2 0; have z1 := blk_frozen hy2 1; have z2 := blk_frozen hy2 2; have z3 := blk_frozen hy2 3; simp only [List.getElem?_toArray, List.getElem?_cons_zero, List.getElem?_cons_succ] at f0 f1 f2 f3 t0 t1 t2 t3))
  have hz2 := hy2
  have hz3 := hy3
  have HI1 := HIa
  have HB1 := HBa
  have HK1 := HKa
  refine bodyPost_ret (results_ctt rfl _ _ (w.heap.size + 1) 64 #[.int .u8 1, .string ⟨#[]⟩, .int .i64 s0_1, .int .i64 s0_2] (0, 0) _ rfl ?hz Tryd.underlying64 rfl (by kernel_rfl)) rfl ⟨rfl, ?_, ?_, ?_⟩
  case hz => exact blk_put (blk_put (blk_put (blk_put hz2 0 _ rfl) 1 _ rfl) 2 _ rfl) 3 _ rfl
  · repeat (first | with_reducible exact HI1.out | refine IsS152.far ?_ (show g ≠ w.heap.size + 1 by omega) _ | refine IsS152.far ?_ (show g ≠ w.heap.size + 1 + 1 by omega) _)
  · repeat (first | with_reducible exact HB1.out | refine below_set ?_ (show w0.heap.size ≤ w.heap.size + 1 by have := hB.size; omega) | refine below_set ?_ (show w0.heap.size ≤ w.heap.size + 1 + 1 by have := hB.size; omega))
  · repeat (first | with_reducible exact HK1.out | refine keep_far ?_ (show w.heap.size ≤ w.heap.size + 1 by omega) _ | refine keep_far ?_ (show w.heap.size ≤ w.heap.size + 1 + 1 by omega) _)
set_option maxHeartbeats 2000000 in
set_option maxRecDepth 100000 in
theorem lex_reader_token.at_line34 (k : Nat) (g : Nat) (s0_0 : ByteArray) (s0_1 : Int) (s0_2 : Int) (r1 : Int) (r2 : ByteArray) (r3 : Int) (r4 : Int) (r5 : Bool) (r6 : Int) (r7 : ByteArray) (r8 : Int) (r9 : Int) (w0 w : World) (hI : IsS152 w0 w g s0_0 s0_1 s0_2) (hB : Below w0.heap.size w0 w) (hG : Go.Proofs.YtbnihnggljagnaaDoor.World.GW w0) (hpos : 0 < s0_0.size) (hmax : s0_0.size ≤ 65536) (hasc : s0_0.data.toList.all (fun b => decide (b.toNat < 128)) = true) (e1 : (bt s0_0 0 == 32) = false) (e2 : (bt s0_0 0 == 10) = false) (e3 : (bt s0_0 0 == 35) = false) (hp : Lib.hasPrefix s0_0.data.toList [47, 42] = false) (e4 : (bt s0_0 0 == 34) = true) (n : Int) (hn : n = Lib.indexAny (s0_0.data.toList.drop 1) [34, 10]) (n1 : 0 ≤ n) (n2 : n + 1 < s0_0.size) (e5 : decide (n < 0) = false) (e6 : (bt s0_0 (n + 1) == 10) = true) (h : some (1, ⟨#[]⟩, s0_1, s0_2, false, 71, s0_0, s0_1, s0_2) = some (r1, r2, r3, r4, r5, r6, r7, r8, r9)) :
    Calls Tryd.prog 104 #[.pointer (some ⟨g, 0, none⟩)] w fun e w' => e = .returned (.tuple #[.agg #[.int .u8 r1, .string r2, .int .i64 r3, .int .i64 r4], .bool r5, .int .i64 r6]) ∧ IsS152 w0 w' g r7 r8 r9 ∧ Below w0.heap.size w0 w' ∧ KeepBut w w' g none := by
  obtain ⟨hg, hge⟩ := hI
  have hlt := blk_lt hg
  have c0 : ∀ o1 o2 o3, (((w.alloc o1).alloc o2).alloc o3).cell? ⟨g, 0, none⟩ = some (.string s0_0) := fun o1 o2 o3 => by
    have := blk_cell (blk_alloc (blk_alloc (blk_alloc hg o1) o2) o3) 0
    simpa using this
  have d1 := blk_cell hg 1
  have d2 := blk_cell hg 2
  simp only [List.getElem?_toArray, List.getElem?_cons_zero, List.getElem?_cons_succ] at d1 d2
  have c1 : ∀ o1 o2, ((w.alloc o1).alloc o2).cell? ⟨g, 1, none⟩ = some (.int .i64 s0_1) := fun o1 o2 => by
    have := blk_cell (blk_alloc (blk_alloc hg o1) o2) 1
    simpa using this
  have c2 : ∀ o1 o2, ((w.alloc o1).alloc o2).cell? ⟨g, 2, none⟩ = some (.int .i64 s0_2) := fun o1 o2 => by
    have := blk_cell (blk_alloc (blk_alloc hg o1) o2) 2
    simpa using this
  clear d1 d2
  have hx0 : ∀ h : 0 < s0_0.size, ((s0_0[0]'h).toNat : Int) = bt s0_0 0 := bt_at s0_0 0
  have q0 : (0 < (s0_0.size : Int)) = True := eq_true (by omega)
  have q1 : (1 ≤ (s0_0.size : Int)) = True := eq_true (by omega)
  have HN := Aside0.mk hn
  clear hn
  have hx1 := bt_at s0_0 (n + 1)
  have p3 : (0 ≤ n + 1) = True := eq_true (by omega)
  have q3 : (n + 1 < (s0_0.size : Int)) = True := eq_true (by omega)
  simp only [Option.some.injEq, Prod.mk.injEq] at h
  obtain ⟨rfl, rfl, rfl, rfl, rfl, rfl, rfl, rfl, rfl⟩ := h
  go_enter Tryd.func104, Tryd.ntmps104
  go_wp2_with (first | (go_at_call 146; refine (Tryd.strings_IndexByte _ _ _).mono ?_; rintro e w' ⟨rfl, rfl⟩) | (go_at_call 150; refine (Tryd.strings_HasPrefix _ _ _).mono ?_; rintro e w' ⟨rfl, rfl⟩) | (go_at_call 152; refine (any_calls s0_0 n HN.out hmax hpos hasc _).mono ?_; rintro e w2 ⟨rfl, hb2⟩; obtain ⟨hy1, hy2, hy3⟩ := after_any hb2; have hyg := blk_below (blk_alloc (blk_alloc (blk_alloc hg _) _) _) hb2; have HIa : Aside0 (IsS152 w0 w2 g s0_0 s0_1 s0_2) := ⟨⟨hyg, hge⟩⟩; have HBa := Aside0.mk (below_step (below_alloc (below_alloc (below_alloc hB _) _) _) hb2); have HKa := Aside0.mk (KeepBut.trans (keep_alloc (keep_alloc (keep_alloc (KeepBut.refl w g none) _) _) _) (KeepBut.of_below hb2 g none) (.inl rfl)); clear hb2; have ya := blk_cell hy1 0; have yb := blk_cell hyg 0; have yc := blk_cell hy3 1; simp only [List.getElem?_toArray, List.getElem?_cons_zero, List.getElem?_cons_succ] at ya yb yc; clear yc; have f0 := blk_cell hy3 0; have f1 := blk_cell hy3 1; have f2 := blk_cell hy3 2; have f3 := blk_cell hy3 3; have g1 := blk_frozen hy3 1; have g0 := blk_frozen hy3 0; have t0 := blk_cell hy2 0; have t1 := blk_cell hy2 1; have t2 := blk_cell hy2 2; have t3 := blk_cell hy2 3; have z0 := blk_frozen hy2 0; have z1 := blk_frozen hy2 1; have z2 := blk_frozen hy2 2; have z3 := blk_frozen hy2 3; simp only [List.getElem?_toArray, List.getElem?_cons_zero, List.getElem?_cons_succ] at f0 f1 f2 f3 t0 t1 t2 t3))
  have hz2 := hy2
  have hz3 := hy3
  have HI1 := HIa
  have HB1 := HBa
  have HK1 := HKa
  refine bodyPost_ret (results_ctt rfl _ _ (w.heap.size + 1) 64 #[.int .u8 1, .string ⟨#[]⟩, .int .i64 s0_1, .int .i64 s0_2] (0, 0) _ rfl ?hz Tryd.underlying64 rfl (by kernel_rfl)) rfl ⟨rfl, ?_, ?_, ?_⟩
  case hz => exact blk_put (blk_put (blk_put (blk_put hz2 0 _ rfl) 1 _ rfl) 2 _ rfl) 3 _ rfl
  · repeat (first | with_reducible exact HI1.out | refine IsS152.far ?_ (show g ≠ w.heap.size + 1 by omega) _ | refine IsS152.far ?_ (show g ≠ w.heap.size + 1 + 1 by omega) _)
  · repeat (first | with_reducible exact HB1.out | refine below_set ?_ (show w0.heap.size ≤ w.heap.size + 1 by have := hB.size; omega) | refine below_set ?_ (show w0.heap.size ≤ w.heap.size + 1 + 1 by have := hB.size; omega))
  · repeat (first | with_reducible exact HK1.out | refine keep_far ?_ (show w.heap.size ≤ w.heap.size + 1 by omega) _ | refine keep_far ?_ (show w.heap.size ≤ w.heap.size + 1 + 1 by omega) _)
set_option maxHeartbeats 2000000 in
set_option maxRecDepth 100000 in
theorem lex_reader_token.at_closed34 (k : Nat) (g : Nat) (s0_0 : ByteArray) (s0_1 : Int) (s0_2 : Int) (r1 : Int) (r2 : ByteArray) (r3 : Int) (r4 : Int) (r5 : Bool) (r6 : Int) (r7 : ByteArray) (r8 : Int) (r9 : Int) (w0 w : World) (hI : IsS152 w0 w g s0_0 s0_1 s0_2) (hB : Below w0.heap.size w0 w) (hG : Go.Proofs.YtbnihnggljagnaaDoor.World.GW w0) (hpos : 0 < s0_0.size) (hmax : s0_0.size ≤ 65536) (hasc : s0_0.data.toList.all (fun b => decide (b.toNat < 128)) = true) (e1 : (bt s0_0 0 == 32) = false) (e2 : (bt s0_0 0 == 10) = false) (e3 : (bt s0_0 0 == 35) = false) (hp : Lib.hasPrefix s0_0.data.toList [47, 42] = false) (e4 : (bt s0_0 0 == 34) = true) (n : Int) (hn : n = Lib.indexAny (s0_0.data.toList.drop 1) [34, 10]) (n1 : 0 ≤ n) (n2 : n + 1 < s0_0.size) (e5 : decide (n < 0) = false) (e6 : (bt s0_0 (n + 1) == 10) = false) (h : ((lex_reader_take.f k s0_0 s0_1 s0_2 (n + 2)).bind fun t => some (1, t.1.extract 1 (n + 1).toNat, s0_1, s0_2, true, 0, t.2.1, t.2.2.1, t.2.2.2)) = some (r1, r2, r3, r4, r5, r6, r7, r8, r9)) :
    Calls Tryd.prog 104 #[.pointer (some ⟨g, 0, none⟩)] w fun e w' => e = .returned (.tuple #[.agg #[.int .u8 r1, .string r2, .int .i64 r3, .int .i64 r4], .bool r5, .int .i64 r6]) ∧ IsS152 w0 w' g r7 r8 r9 ∧ Below w0.heap.size w0 w' ∧ KeepBut w w' g none := by
  obtain ⟨hg, hge⟩ := hI
  have hlt := blk_lt hg
  have c0 : ∀ o1 o2 o3, (((w.alloc o1).alloc o2).alloc o3).cell? ⟨g, 0, none⟩ = some (.string s0_0) := fun o1 o2 o3 => by
    have := blk_cell (blk_alloc (blk_alloc (blk_alloc hg o1) o2) o3) 0
    simpa using this
  have d1 := blk_cell hg 1
  have d2 := blk_cell hg 2
  simp only [List.getElem?_toArray, List.getElem?_cons_zero, List.getElem?_cons_succ] at d1 d2
  have c1 : ∀ o1 o2, ((w.alloc o1).alloc o2).cell? ⟨g, 1, none⟩ = some (.int .i64 s0_1) := fun o1 o2 => by
    have := blk_cell (blk_alloc (blk_alloc hg o1) o2) 1
    simpa using this
  have c2 : ∀ o1 o2, ((w.alloc o1).alloc o2).cell? ⟨g, 2, none⟩ = some (.int .i64 s0_2) := fun o1 o2 => by
    have := blk_cell (blk_alloc (blk_alloc hg o1) o2) 2
    simpa using this
  clear d1 d2
  have hx0 : ∀ h : 0 < s0_0.size, ((s0_0[0]'h).toNat : Int) = bt s0_0 0 := bt_at s0_0 0
  have q0 : (0 < (s0_0.size : Int)) = True := eq_true (by omega)
  have q1 : (1 ≤ (s0_0.size : Int)) = True := eq_true (by omega)
  have HN := Aside0.mk hn
  clear hn
  have hx1 := bt_at s0_0 (n + 1)
  have p3 : (0 ≤ n + 1) = True := eq_true (by omega)
  have q3 : (n + 1 < (s0_0.size : Int)) = True := eq_true (by omega)
  obtain ⟨⟨x1, x2, x3, x4⟩, ht, hr⟩ := Option.bind_eq_some_iff.1 h
  clear h
  simp only [Option.some.injEq, Prod.mk.injEq] at hr
  obtain ⟨rfl, rfl, rfl, rfl, rfl, rfl, rfl, rfl, rfl⟩ := hr
  have HT := Aside0.mk ht
  clear ht
  have hx := Aside0.mk (take_size HT.out)
  have q4 : (n + 1 ≤ (x1.size : Int)) = True := eq_true (by have := hx.out; omega)
  have q5 : (0 ≤ n) = True := eq_true n1
  have q6 : (1 ≤ n + 1) = True := eq_true (by omega)
  go_enter Tryd.func104, Tryd.ntmps104
  go_wp2_with (first | (go_at_call 146; refine (Tryd.strings_IndexByte _ _ _).mono ?_; rintro e w' ⟨rfl, rfl⟩) | (go_at_call 150; refine (Tryd.strings_HasPrefix _ _ _).mono ?_; rintro e w' ⟨rfl, rfl⟩) | (go_at_call 152; refine (any_calls s0_0 n HN.out hmax hpos hasc _).mono ?_; rintro e w2 ⟨rfl, hb2⟩; obtain ⟨hy1, hy2, hy3⟩ := after_any hb2; have hyg := blk_below (blk_alloc (blk_alloc (blk_alloc hg _) _) _) hb2; have HIa : Aside0 (IsS152 w0 w2 g s0_0 s0_1 s0_2) := ⟨⟨hyg, hge⟩⟩; have HBa := Aside0.mk (below_step (below_alloc (below_alloc (below_alloc hB _) _) _) hb2); have HKa := Aside0.mk (KeepBut.trans (keep_alloc (keep_alloc (keep_alloc (KeepBut.refl w g none) _) _) _) (KeepBut.of_below hb2 g none) (.inl rfl)); clear hb2; have ya := blk_cell hy1 0; have yb := blk_cell hyg 0; have yc := blk_cell hy3 1; simp only [List.getElem?_toArray, List.getElem?_cons_zero, List.getElem?_cons_succ] at ya yb yc) | (go_at_call 147; refine (lex_reader_take.calls k g _ _ _ _ _ _ _ _ w0 _ HIa.out HBa.out HT.out).mono ?_; rintro e w1 ⟨rfl, hi1, hb1, hk1⟩; have hz2 := hk1.blk hy2 (by omega) (by simp); have hz3 := hk1.blk hy3 (by omega) (by simp); have hz1 := hk1.blk hy1 (by omega) (by simp); have HI1 := Aside0.mk hi1; have HB1 := Aside0.mk hb1; have HK1 := Aside0.mk (KeepBut.trans HKa.out hk1 (.inl rfl)); clear hi1 hb1 hk1; clear ya yb yc; have yd := blk_cell hz1 0; have f0 := blk_cell hz3 0; have f1 := blk_cell hz3 1; have f2 := blk_cell hz3 2; have f3 := blk_cell hz3 3; have g1 := blk_frozen hz3 1; have g0 := blk_frozen hz3 0; have t0 := blk_cell hz2 0; have t1 := blk_cell hz2 1; have t2 := blk_cell hz2 2; have t3 := blk_cell hz2 3; have z0 := blk_frozen hz2 0; have z1 := blk_frozen hz2 1; have z2 := blk_frozen hz2 2; have z3 := blk_frozen hz2 3; simp only [List.getElem?_toArray, List.getElem?_cons_zero, List.getElem?_cons_succ] at yd f0 f1 f2 f3 t0 t1 t2 t3))
  refine bodyPost_ret (results_ctt rfl _ _ (w.heap.size + 1) 64 #[.int .u8 1, .string (x1.extract 1 (n + 1).toNat), .int .i64 s0_1, .int .i64 s0_2] (0, 0) _ rfl ?hz Tryd.underlying64 rfl (by kernel_rfl)) rfl ⟨rfl, ?_, ?_, ?_⟩
  case hz => exact blk_put (blk_put (blk_put (blk_put (blk_far hz2 (show w.heap.size + 1 ≠ w.heap.size + 1 + 1 by omega) _) 0 _ rfl) 1 _ rfl) 2 _ rfl) 3 _ rfl
  · repeat (first | with_reducible exact HI1.out | refine IsS152.far ?_ (show g ≠ w.heap.size + 1 by omega) _ | refine IsS152.far ?_ (show g ≠ w.heap.size + 1 + 1 by omega) _)
  · repeat (first | with_reducible exact HB1.out | refine below_set ?_ (show w0.heap.size ≤ w.heap.size + 1 by have := hB.size; omega) | refine below_set ?_ (show w0.heap.size ≤ w.heap.size + 1 + 1 by have := hB.size; omega))
  · repeat (first | with_reducible exact HK1.out | refine keep_far ?_ (show w.heap.size ≤ w.heap.size + 1 by omega) _ | refine keep_far ?_ (show w.heap.size ≤ w.heap.size + 1 + 1 by omega) _)
set_option maxHeartbeats 2000000 in
set_option maxRecDepth 100000 in
theorem lex_reader_token.at_sign (k : Nat) (g : Nat) (s0_0 : ByteArray) (s0_1 : Int) (s0_2 : Int) (r1 : Int) (r2 : ByteArray) (r3 : Int) (r4 : Int) (r5 : Bool) (r6 : Int) (r7 : ByteArray) (r8 : Int) (r9 : Int) (w0 w : World) (hI : IsS152 w0 w g s0_0 s0_1 s0_2) (hB : Below w0.heap.size w0 w) (hG : Go.Proofs.YtbnihnggljagnaaDoor.World.GW w0) (hpos : 0 < s0_0.size) (hmax : s0_0.size ≤ 65536) (hasc : s0_0.data.toList.all (fun b => decide (b.toNat < 128)) = true) (e1 : (bt s0_0 0 == 32) = false) (e2 : (bt s0_0 0 == 10) = false) (e3 : (bt s0_0 0 == 35) = false) (hp : Lib.hasPrefix s0_0.data.toList [47, 42] = false) (e4 : (bt s0_0 0 == 34) = false) (n : Int) (hn : n = Lib.indexByte [123, 125, 59, 91, 93] (bt s0_0 0).toNat.toUInt8) (n1 : 0 ≤ n) (n2 : n < 5) (e5 : decide (0 ≤ n) = true) (h : ((lex_reader_take.f k s0_0 s0_1 s0_2 1).bind fun t => some (2 + n, t.1, s0_1, s0_2, true, 0, t.2.1, t.2.2.1, t.2.2.2)) = some (r1, r2, r3, r4, r5, r6, r7, r8, r9)) :
    Calls Tryd.prog 104 #[.pointer (some ⟨g, 0, none⟩)] w fun e w' => e = .returned (.tuple #[.agg #[.int .u8 r1, .string r2, .int .i64 r3, .int .i64 r4], .bool r5, .int .i64 r6]) ∧ IsS152 w0 w' g r7 r8 r9 ∧ Below w0.heap.size w0 w' ∧ KeepBut w w' g none := by
  obtain ⟨hg, hge⟩ := hI
  have hlt := blk_lt hg
  have c0 : ∀ o1 o2 o3, (((w.alloc o1).alloc o2).alloc o3).cell? ⟨g, 0, none⟩ = some (.string s0_0) := fun o1 o2 o3 => by
    have := blk_cell (blk_alloc (blk_alloc (blk_alloc hg o1) o2) o3) 0
    simpa using this
  have d1 := blk_cell hg 1
  have d2 := blk_cell hg 2
  simp only [List.getElem?_toArray, List.getElem?_cons_zero, List.getElem?_cons_succ] at d1 d2
  have c1 : ∀ o1 o2, ((w.alloc o1).alloc o2).cell? ⟨g, 1, none⟩ = some (.int .i64 s0_1) := fun o1 o2 => by
    have := blk_cell (blk_alloc (blk_alloc hg o1) o2) 1
    simpa using this
  have c2 : ∀ o1 o2, ((w.alloc o1).alloc o2).cell? ⟨g, 2, none⟩ = some (.int .i64 s0_2) := fun o1 o2 => by
    have := blk_cell (blk_alloc (blk_alloc hg o1) o2) 2
    simpa using this
  clear d1 d2
  have hx0 : ∀ h : 0 < s0_0.size, ((s0_0[0]'h).toNat : Int) = bt s0_0 0 := bt_at s0_0 0
  have q0 : (0 < (s0_0.size : Int)) = True := eq_true (by omega)
  have HN := Aside0.mk hn
  clear hn
  obtain ⟨⟨x1, x2, x3, x4⟩, ht, hr⟩ := Option.bind_eq_some_iff.1 h
  clear h
  simp only [Option.some.injEq, Prod.mk.injEq] at hr
  obtain ⟨rfl, rfl, rfl, rfl, rfl, rfl, rfl, rfl, rfl⟩ := hr
  have HT := Aside0.mk ht
  clear ht
  go_enter Tryd.func104, Tryd.ntmps104
  go_wp2_with (first | (go_at_call 146; refine (sign_calls _ n HN.out _).mono ?_; rintro e w' ⟨rfl, rfl⟩) | (go_at_call 150; refine (Tryd.strings_HasPrefix _ _ _).mono ?_; rintro e w' ⟨rfl, rfl⟩) | (go_at_call 147; refine (lex_reader_take.calls k g _ _ _ _ _ _ _ _ w0 _ ⟨(blk_alloc (blk_alloc (blk_alloc hg _) _) _), hge⟩ (below_alloc (below_alloc (below_alloc hB _) _) _) HT.out).mono ?_; rintro e w1 ⟨rfl, hi1, hb1, hk1⟩; obtain ⟨hz1, hz2, hz3⟩ := after_take hlt hk1; have HI1 := Aside0.mk hi1; have HB1 := Aside0.mk hb1; have HK1 := Aside0.mk (KeepBut.trans (keep_alloc (keep_alloc (keep_alloc (KeepBut.refl w g none) _) _) _) hk1 (.inl rfl)); clear hi1 hb1 hk1; have f0 := blk_cell hz3 0; have f1 := blk_cell hz3 1; have f2 := blk_cell hz3 2; have f3 := blk_cell hz3 3; have g1 := blk_frozen hz3 1; have g0 := blk_frozen hz3 0; have t0 := blk_cell hz2 0; have t1 := blk_cell hz2 1; have t2 := blk_cell hz2 2; have t3 := blk_cell hz2 3; have z0 := blk_frozen hz2 0; have z1 := blk_frozen hz2 1; have z2 := blk_frozen hz2 2; have z3 := blk_frozen hz2 3; simp only [List.getElem?_toArray, List.getElem?_cons_zero, List.getElem?_cons_succ] at f0 f1 f2 f3 t0 t1 t2 t3))
  refine bodyPost_ret (results_ctt rfl _ _ (w.heap.size + 1) 64 #[.int .u8 (2 + n), .string x1, .int .i64 s0_1, .int .i64 s0_2] (0, 0) _ rfl ?hz Tryd.underlying64 rfl (by kernel_rfl)) rfl ⟨rfl, ?_, ?_, ?_⟩
  case hz => exact blk_put (blk_put (blk_put (blk_put (blk_far (blk_far hz2 (show w.heap.size + 1 ≠ w.heap.size + 1 + 1 by omega) _) (show w.heap.size + 1 ≠ w.heap.size + 1 + 1 by omega) _) 0 _ rfl) 1 _ rfl) 2 _ rfl) 3 _ rfl
  · repeat (first | with_reducible exact HI1.out | refine IsS152.far ?_ (show g ≠ w.heap.size + 1 by omega) _ | refine IsS152.far ?_ (show g ≠ w.heap.size + 1 + 1 by omega) _)
  · repeat (first | with_reducible exact HB1.out | refine below_set ?_ (show w0.heap.size ≤ w.heap.size + 1 by have := hB.size; omega) | refine below_set ?_ (show w0.heap.size ≤ w.heap.size + 1 + 1 by have := hB.size; omega))
  · repeat (first | with_reducible exact HK1.out | refine keep_far ?_ (show w.heap.size ≤ w.heap.size + 1 by omega) _ | refine keep_far ?_ (show w.heap.size ≤ w.heap.size + 1 + 1 by omega) _)
set_option maxHeartbeats 2000000 in
set_option maxRecDepth 100000 in
theorem lex_reader_token.at_word (k : Nat) (g : Nat) (s0_0 : ByteArray) (s0_1 : Int) (s0_2 : Int) (r1 : Int) (r2 : ByteArray) (r3 : Int) (r4 : Int) (r5 : Bool) (r6 : Int) (r7 : ByteArray) (r8 : Int) (r9 : Int) (w0 w : World) (hI : IsS152 w0 w g s0_0 s0_1 s0_2) (hB : Below w0.heap.size w0 w) (hG : Go.Proofs.YtbnihnggljagnaaDoor.World.GW w0) (hpos : 0 < s0_0.size) (hmax : s0_0.size ≤ 65536) (hasc : s0_0.data.toList.all (fun b => decide (b.toNat < 128)) = true) (e1 : (bt s0_0 0 == 32) = false) (e2 : (bt s0_0 0 == 10) = false) (e3 : (bt s0_0 0 == 35) = false) (hp : Lib.hasPrefix s0_0.data.toList [47, 42] = false) (e4 : (bt s0_0 0 == 34) = false) (n : Int) (hn : n = Lib.indexByte [123, 125, 59, 91, 93] (bt s0_0 0).toNat.toUInt8) (e5 : decide (0 ≤ n) = false) (h : ((lex_reader_take.f k s0_0 s0_1 s0_2 (scan (isEnd s0_0) s0_0.size 0 : Nat)).bind fun t => some (1, t.1, s0_1, s0_2, true, 0, t.2.1, t.2.2.1, t.2.2.2)) = some (r1, r2, r3, r4, r5, r6, r7, r8, r9)) :
    Calls Tryd.prog 104 #[.pointer (some ⟨g, 0, none⟩)] w fun e w' => e = .returned (.tuple #[.agg #[.int .u8 r1, .string r2, .int .i64 r3, .int .i64 r4], .bool r5, .int .i64 r6]) ∧ IsS152 w0 w' g r7 r8 r9 ∧ Below w0.heap.size w0 w' ∧ KeepBut w w' g none := by
  obtain ⟨hg, hge⟩ := hI
  have hlt := blk_lt hg
  have c0 : ∀ o1 o2 o3, (((w.alloc o1).alloc o2).alloc o3).cell? ⟨g, 0, none⟩ = some (.string s0_0) := fun o1 o2 o3 => by
    have := blk_cell (blk_alloc (blk_alloc (blk_alloc hg o1) o2) o3) 0
    simpa using this
  have d1 := blk_cell hg 1
  have d2 := blk_cell hg 2
  simp only [List.getElem?_toArray, List.getElem?_cons_zero, List.getElem?_cons_succ] at d1 d2
  have c1 : ∀ o1 o2, ((w.alloc o1).alloc o2).cell? ⟨g, 1, none⟩ = some (.int .i64 s0_1) := fun o1 o2 => by
    have := blk_cell (blk_alloc (blk_alloc hg o1) o2) 1
    simpa using this
  have c2 : ∀ o1 o2, ((w.alloc o1).alloc o2).cell? ⟨g, 2, none⟩ = some (.int .i64 s0_2) := fun o1 o2 => by
    have := blk_cell (blk_alloc (blk_alloc hg o1) o2) 2
    simpa using this
  clear d1 d2
  have hx0 : ∀ h : 0 < s0_0.size, ((s0_0[0]'h).toNat : Int) = bt s0_0 0 := bt_at s0_0 0
  have q0 : (0 < (s0_0.size : Int)) = True := eq_true (by omega)
  have HN := Aside0.mk hn
  clear hn
  obtain ⟨⟨x1, x2, x3, x4⟩, ht, hr⟩ := Option.bind_eq_some_iff.1 h
  clear h
  simp only [Option.some.injEq, Prod.mk.injEq] at hr
  obtain ⟨rfl, rfl, rfl, rfl, rfl, rfl, rfl, rfl, rfl⟩ := hr
  have HT := Aside0.mk ht
  clear ht
  go_enter Tryd.func104, Tryd.ntmps104
  go_wp2_with (first | (go_at_call 146; refine (sign_calls _ n HN.out _).mono ?_; rintro e w' ⟨rfl, rfl⟩) | (go_at_call 150; refine (Tryd.strings_HasPrefix _ _ _).mono ?_; rintro e w' ⟨rfl, rfl⟩))
  go_region_with (first | (go_at_call 148; refine (until_ends g s0_0 s0_1 s0_2 _ hmax ?hg_).mono ?_; (case hg_ => exact blk_drew (blk_alloc (blk_alloc (blk_alloc hg _) _) _)); rintro e w' ⟨rfl, rfl⟩) | (go_at_call 147; refine (lex_reader_take.calls k g _ _ _ _ _ _ _ _ w0 _ ?hi_ ?hb_ HT.out).mono ?_; (case hi_ => exact ⟨blk_drew (blk_alloc (blk_alloc (blk_alloc hg _) _) _), hge⟩); (case hb_ => exact below_drew1 (below_alloc (below_alloc (below_alloc hB _) _) _)); rintro e w1 ⟨rfl, hi1, hb1, hk1⟩; obtain ⟨hz1, hz2, hz3⟩ := after_take_drew hlt hk1; have HI1 := Aside0.mk hi1; have HB1 := Aside0.mk hb1; have HK1 := Aside0.mk (KeepBut.trans (keep_drew (keep_alloc (keep_alloc (keep_alloc (KeepBut.refl w g none) _) _) _)) hk1 (.inl rfl)); clear hi1 hb1 hk1; have f0 := blk_cell hz3 0; have f1 := blk_cell hz3 1; have f2 := blk_cell hz3 2; have f3 := blk_cell hz3 3; have g1 := blk_frozen hz3 1; have g0 := blk_frozen hz3 0; have t0 := blk_cell hz2 0; have t1 := blk_cell hz2 1; have t2 := blk_cell hz2 2; have t3 := blk_cell hz2 3; have z0 := blk_frozen hz2 0; have z1 := blk_frozen hz2 1; have z2 := blk_frozen hz2 2; have z3 := blk_frozen hz2 3; simp only [List.getElem?_toArray, List.getElem?_cons_zero, List.getElem?_cons_succ] at f0 f1 f2 f3 t0 t1 t2 t3))
  all_goals
    go_wp2
    refine bodyPost_ret (results_ctt rfl _ _ (w.heap.size + 1) 64 #[.int .u8 1, .string x1, .int .i64 s0_1, .int .i64 s0_2] (0, 0) _ rfl ?hz Tryd.underlying64 rfl (by kernel_rfl)) rfl ⟨rfl, ?_, ?_, ?_⟩
    case hz => exact blk_put (blk_put (blk_put (blk_put (blk_far hz2 (show w.heap.size + 1 ≠ w.heap.size + 1 + 1 by omega) _) 0 _ rfl) 1 _ rfl) 2 _ rfl) 3 _ rfl
    · repeat (first | with_reducible exact HI1.out | refine IsS152.far ?_ (show g ≠ w.heap.size + 1 by omega) _ | refine IsS152.far ?_ (show g ≠ w.heap.size + 1 + 1 by omega) _)
    · repeat (first | with_reducible exact HB1.out | refine below_set ?_ (show w0.heap.size ≤ w.heap.size + 1 by have := hB.size; omega) | refine below_set ?_ (show w0.heap.size ≤ w.heap.size + 1 + 1 by have := hB.size; omega))
    · repeat (first | with_reducible exact HK1.out | refine keep_far ?_ (show w.heap.size ≤ w.heap.size + 1 by omega) _ | refine keep_far ?_ (show w.heap.size ≤ w.heap.size + 1 + 1 by omega) _)
theorem indexByte_up : ∀ (l : List UInt8) (c : UInt8), Lib.indexByte l c < l.length ∨ Lib.indexByte l c = -1
  | [], c => .inr rfl
  | x :: l, c => by
    rcases indexByte_up l c with h | h <;> simp only [Lib.indexByte] <;> repeat' split
    all_goals simp_all
    all_goals omega
theorem indexAny_up : ∀ (l c : List UInt8), Lib.indexAny l c < l.length ∨ Lib.indexAny l c = -1
  | [], c => .inr rfl
  | x :: l, c => by
    rcases indexAny_up l c with h | h <;> simp only [Lib.indexAny] <;> repeat' split
    all_goals simp_all
    all_goals omega
set_option maxHeartbeats 2000000 in
theorem lex_reader_token.calls (k : Nat) (g : Nat) (s0_0 : ByteArray) (s0_1 : Int) (s0_2 : Int) (r1 : Int) (r2 : ByteArray) (r3 : Int) (r4 : Int) (r5 : Bool) (r6 : Int) (r7 : ByteArray) (r8 : Int) (r9 : Int) (w0 w : World) (hI : IsS152 w0 w g s0_0 s0_1 s0_2) (hB : Below w0.heap.size w0 w) (hG : Go.Proofs.YtbnihnggljagnaaDoor.World.GW w0) (h : lex_reader_token.f k s0_0 s0_1 s0_2 = some (r1, r2, r3, r4, r5, r6, r7, r8, r9)) :
    Calls Tryd.prog 104 #[.pointer (some ⟨g, 0, none⟩)] w fun e w' => e = .returned (.tuple #[.agg #[.int .u8 r1, .string r2, .int .i64 r3, .int .i64 r4], .bool r5, .int .i64 r6]) ∧ IsS152 w0 w' g r7 r8 r9 ∧ Below w0.heap.size w0 w' ∧ KeepBut w w' g none := by
  unfold lex_reader_token.f at h
  by_cases hP : 0 < s0_0.size ∧ s0_0.size ≤ 65536 ∧ s0_0.data.toList.all (fun b => decide (b.toNat < 128)) = true
  · rw [if_pos hP] at h
    obtain ⟨hpos, hmax, hasc⟩ := hP
    have hlen : s0_0.data.toList.length = s0_0.size := Array.length_toList
    by_cases h32 : bt s0_0 0 = 32
    · rw [if_pos (.inl h32)] at h
      exact lex_reader_token.at_32 k g _ _ _ _ _ _ _ _ _ _ _ _ w0 w hI hB hG hpos hmax hasc (by simp [h32]) h
    have e1 : (bt s0_0 0 == 32) = false := by simp [h32]
    by_cases h10 : bt s0_0 0 = 10
    · rw [if_pos (.inr h10)] at h
      exact lex_reader_token.at_10 k g _ _ _ _ _ _ _ _ _ _ _ _ w0 w hI hB hG hpos hmax hasc e1 (by simp [h10]) h
    have e2 : (bt s0_0 0 == 10) = false := by simp [h10]
    rw [if_neg (by rintro (h | h); exact h32 h; exact h10 h)] at h
    by_cases h35 : bt s0_0 0 = 35
    · rw [if_pos h35] at h
      exact lex_reader_token.at_35 k g _ _ _ _ _ _ _ _ _ _ _ _ w0 w hI hB hG hpos hmax hasc e1 e2 (by simp [h35]) h
    have e3 : (bt s0_0 0 == 35) = false := by simp [h35]
    rw [if_neg h35] at h
    by_cases hp : Lib.hasPrefix s0_0.data.toList [47, 42] = true
    · rw [if_pos hp] at h
      have h2 : 2 ≤ s0_0.size := by
        have := Go.Lib.hasPrefix_le hp
        rw [hlen] at this
        simpa using this
      have n1 := Lib.index_ge (s0_0.data.toList.drop 2) [42, 47]
      have n2 := Lib.index_le (s0_0.data.toList.drop 2) [42, 47]
      rw [List.length_drop, hlen] at n2
      by_cases hn : Lib.index (s0_0.data.toList.drop 2) [42, 47] < 0
      · rw [if_pos hn] at h
        exact lex_reader_token.at_openC k g _ _ _ _ _ _ _ _ _ _ _ _ w0 w hI hB hG hpos hmax hasc e1 e2 e3 hp h2 _ rfl (by omega) n1 (decide_eq_true hn) h
      · rw [if_neg hn] at h
        exact lex_reader_token.at_closedC k g _ _ _ _ _ _ _ _ _ _ _ _ w0 w hI hB hG hpos hmax hasc e1 e2 e3 hp h2 _ rfl (by omega) (by omega) (decide_eq_false hn) h
    rw [if_neg hp] at h
    have hp : Lib.hasPrefix s0_0.data.toList [47, 42] = false := by simpa using hp
    by_cases h34 : bt s0_0 0 = 34
    · rw [if_pos h34] at h
      have e4 : (bt s0_0 0 == 34) = true := by simp [h34]
      have n1 := Lib.indexAny_ge [34, 10] (s0_0.data.toList.drop 1)
      have n2 := indexAny_up (s0_0.data.toList.drop 1) [34, 10]
      rw [List.length_drop, hlen] at n2
      by_cases hn : Lib.indexAny (s0_0.data.toList.drop 1) [34, 10] < 0
      · rw [if_pos (.inl hn)] at h
        exact lex_reader_token.at_open34 k g _ _ _ _ _ _ _ _ _ _ _ _ w0 w hI hB hG hpos hmax hasc e1 e2 e3 hp e4 _ rfl n1 (decide_eq_true hn) h
      · by_cases hl : bt s0_0 (Lib.indexAny (s0_0.data.toList.drop 1) [34, 10] + 1) = 10
        · rw [if_pos (.inr hl)] at h
          exact lex_reader_token.at_line34 k g _ _ _ _ _ _ _ _ _ _ _ _ w0 w hI hB hG hpos hmax hasc e1 e2 e3 hp e4 _ rfl (by omega) (by omega) (decide_eq_false hn) (beq_iff_eq.mpr hl) h
        · rw [if_neg (by rintro (h | h); exact hn h; exact hl h)] at h
          exact lex_reader_token.at_closed34 k g _ _ _ _ _ _ _ _ _ _ _ _ w0 w hI hB hG hpos hmax hasc e1 e2 e3 hp e4 _ rfl (by omega) (by omega) (decide_eq_false hn) (beq_eq_false_iff_ne.mpr hl) h
    rw [if_neg h34] at h
    have e4 : (bt s0_0 0 == 34) = false := by simp [h34]
    have n2 := indexByte_up [123, 125, 59, 91, 93] (bt s0_0 0).toNat.toUInt8
    by_cases hn : 0 ≤ Lib.indexByte [123, 125, 59, 91, 93] (bt s0_0 0).toNat.toUInt8
    · rw [if_pos hn] at h
      exact lex_reader_token.at_sign k g _ _ _ _ _ _ _ _ _ _ _ _ w0 w hI hB hG hpos hmax hasc e1 e2 e3 hp e4 _ rfl hn (by simp only [List.length_cons, List.length_nil] at n2; omega) (decide_eq_true hn) h
    · rw [if_neg hn] at h
      exact lex_reader_token.at_word k g _ _ _ _ _ _ _ _ _ _ _ _ w0 w hI hB hG hpos hmax hasc e1 e2 e3 hp e4 _ rfl (decide_eq_false hn) h
  · rw [if_neg hP] at h
    cases h


/-! ### lex_Tokens: function 31 -/

abbrev ToksR := List S64 × Int × Int × Int
/-- The tokens of what is left, behind those that were cut. -/
def lex_Tokens.l0 : Nat → ByteArray → Int → Int → List S64 → Option ToksR
  | 0, _, _, _, _ => none
  | k + 1, s, l, c, out =>
    if s = ⟨#[]⟩ then some (out, 0, 0, 0) else
      (lex_reader_token.f k s l c).bind fun t =>
        if t.2.2.2.2.2.1 = 0 then
          (if t.2.2.2.2.1 = true then (if out.length < 3518437208883 then lex_Tokens.l0 k t.2.2.2.2.2.2.1 t.2.2.2.2.2.2.2.1 t.2.2.2.2.2.2.2.2 (out ++ [⟨t.1, t.2.1, ⟨t.2.2.1, t.2.2.2.1⟩⟩]) else none)
           else lex_Tokens.l0 k t.2.2.2.2.2.2.1 t.2.2.2.2.2.2.2.1 t.2.2.2.2.2.2.2.2 out)
        else some ([], t.2.2.1, t.2.2.2.1, t.2.2.2.2.2.1)
def lex_Tokens.f (k : Nat) (s : ByteArray) : Option ToksR :=
  (lex_check.f k s).bind fun t => if t.2.2 = 0 then lex_Tokens.l0 k s 1 1 [] else some ([], t.1, t.2.1, t.2.2)
theorem lex_Tokens.mono_l : ∀ k s l c out, LeO (lex_Tokens.l0 k s l c out) (lex_Tokens.l0 (k + 1) s l c out) := by
  intro k
  induction k with
  | zero => intro s l c out r h; simp [lex_Tokens.l0] at h
  | succ k ih =>
    intro s l c out r h
    rw [lex_Tokens.l0] at h ⊢
    split at h
    · rename_i h0
      rw [if_pos h0]
      exact h
    · rename_i h0
      rw [if_neg h0]
      obtain ⟨t, ht, hr⟩ := Option.bind_eq_some_iff.1 h
      refine Option.bind_eq_some_iff.2 ⟨t, lex_reader_token.mono _ _ _ k _ ht, ?_⟩
      repeat' split at hr
      all_goals simp_all
      all_goals exact ih _ _ _ _ _ hr
theorem lex_Tokens.mono : ∀ a0 k, LeO (lex_Tokens.f k a0) (lex_Tokens.f (k + 1) a0) := by
  intro a0 k r h
  obtain ⟨t, ht, hr⟩ := Option.bind_eq_some_iff.1 h
  refine Option.bind_eq_some_iff.2 ⟨t, lex_check.mono _ k _ ht, ?_⟩
  split at hr
  · rename_i h0
    rw [if_pos h0]
    exact lex_Tokens.mono_l _ _ _ _ _ _ hr
  · rename_i h0
    rw [if_neg h0]
    exact hr
theorem toList_nil {s : ByteArray} (h : s.toList = []) : s = ⟨#[]⟩ := by
  rw [ByteArray.toList_eq] at h
  cases s with
  | mk d =>
    have : d = #[] := Array.toList_inj.1 h
    rw [this]
set_option maxHeartbeats 2000000 in
set_option maxRecDepth 100000 in
theorem lex_Tokens.calls (k : Nat) (a0 : ByteArray) (r1 : List S64) (r2 r3 r4 : Int) (w : World) (hG : Go.Proofs.YtbnihnggljagnaaDoor.World.GW w) (h : lex_Tokens.f k a0 = some (r1, r2, r3, r4)) :
    Calls Tryd.prog 31 #[.string a0] w fun e w' => ∃ v0_ : Value, e = .returned (.tuple #[v0_, .agg #[.int .i64 r2, .int .i64 r3], .int .i64 r4]) ∧ Kd.R k64 64 w' w.heap.size (fun _ => True) v0_ r1 ∧ Below w.heap.size w w' := by
  have HG := Aside0.mk hG
  clear hG
  obtain ⟨⟨p1, p2, e0⟩, hc, hr⟩ := Option.bind_eq_some_iff.1 h
  clear h
  have HC := Aside0.mk hc
  clear hc
  simp only at hr
  by_cases h0 : e0 = 0
  · subst h0
    rw [if_pos rfl] at hr
    have HR := Aside0.mk hr
    clear hr
    go_enter Tryd.func31, Tryd.ntmps31
    go_wp2_with (go_at_call 79; refine (lex_check.calls k a0 p1 p2 0 _ HC.out).mono ?_; rintro e w1 ⟨rfl, hb1⟩; have HZ := Aside0.mk (blk_below (blk_new w _) hb1); have HB := Aside0.mk (below_step (below_alloc (Below.refl _ _) _) hb1); have HS := Aside0.mk hb1.size; clear hb1)
    have hS : w.heap.size + 1 ≤ w1.heap.size := by have := HS.out; simpa using this
    go_loopg [7] k (fun kq v7 W => ∃ (s : ByteArray) (l c : Int) (xs : List S64), Aside0 (lex_Tokens.l0 kq s l c xs = some (r1, r2, r3, r4)) ∧ Aside0 (IsS152 w W (w1.heap.size + 1) s l c) ∧ Aside0 (Kd.R k64 64 W w.heap.size (fun _ => True) v7 xs) ∧ Aside0 (W.heap[w.heap.size]? = some (.cells #[.int .i64 0, .int .i64 0] 24 (0, 0))) ∧ Aside0 (Below w.heap.size w W))
    case atStart =>
      refine ⟨a0, 1, 1, [], HR, ⟨⟨?_, by omega⟩⟩, ⟨Kd.R_nil _ _ _ _ _⟩, ⟨blk_alloc (blk_alloc HZ.out _) _⟩, ⟨below_alloc (below_alloc HB.out _) _⟩⟩
      have := blk_new (w1.alloc (.cells #[.int .i64 p1, .int .i64 p2] 24 (0, 0))) (.cells #[.string a0, .int .i64 1, .int .i64 1] 152 (0, 0))
      simpa using this
    case round =>
      obtain ⟨s, l, c, xs, HA, HI, HO, HZ2, HW⟩ := hrel
      cases gk with
      | zero => exact absurd HA.out (by simp [lex_Tokens.l0])
      | succ k1 =>
        have H := HA.out
        clear HA
        simp only [lex_Tokens.l0] at H
        have cs0 := blk_cell HI.out.1 0
        simp only [List.getElem?_toArray, List.getElem?_cons_zero] at cs0
        by_cases hs : s = ⟨#[]⟩
        · rw [if_pos hs] at H
          simp only [Option.some.injEq, Prod.mk.injEq] at H
          obtain ⟨rfl, rfl, rfl, rfl⟩ := H
          subst hs
          have z0 := blk_cell HZ2.out 0
          have z1 := blk_cell HZ2.out 1
          have y0 := blk_frozen HZ2.out 0
          have y1 := blk_frozen HZ2.out 1
          simp only [List.getElem?_toArray, List.getElem?_cons_zero, List.getElem?_cons_succ] at z0 z1
          go_wp2_with fail
          refine bodyPost_ret (results_list (rs := [.tmp 2, .cell 3 24, .tmp 4]) rfl (by simp) (.tmp (.cell w.heap.size 24 #[.int .i64 0, .int .i64 0] (0, 0) _ rfl (blk_put (blk_put HZ2.out 0 _ rfl) 1 _ rfl) Tryd.underlying24 rfl (by kernel_rfl) (.tmp .nil)))) rfl ?_
          refine ⟨_, rfl, Kd.R_set (Kd.R_set HO.out HZ2.out (by decide) 0 _) (blk_put HZ2.out 0 _ rfl) (by decide) 1 _, below_set (below_set HW.out (Nat.le_refl _)) (Nat.le_refl _)⟩
        · rw [if_neg hs] at H
          obtain ⟨⟨q1, q2, q3, q4, q5, q6, q7, q8, q9⟩, ht, hr⟩ := Option.bind_eq_some_iff.1 H
          clear H
          simp only at hr
          have HT := Aside0.mk ht
          clear ht
          have hs1 : s.toList ≠ [] := fun h => hs (toList_nil h)
          have hs2 : (s.toList == []) = false := by simpa using hs1
          have hs3 : (s.toList != []) = true := by simpa using hs1
          have hs4 : (s.toList == (⟨#[]⟩ : ByteArray).toList) = false := by
            rw [show (⟨#[]⟩ : ByteArray).toList = [] by rw [ByteArray.toList_eq]]
            exact hs2
          have hs5 : s.toList.isEmpty = false := by simpa using hs1
          by_cases h6 : q6 = 0
          · subst h6
            rw [if_pos rfl] at hr
            cases h5 : q5 with
            | true =>
              subst h5
              rw [if_pos rfl] at hr
              by_cases hl : xs.length < 3518437208883
              · rw [if_pos hl] at hr
                have HH := Aside0.mk hr
                clear hr
                go_wp2_with (first | (go_at_call 104; refine (lex_reader_token.calls k1 _ _ _ _ _ _ _ _ _ _ _ _ _ w _ HI.out HW.out HG.out HT.out).mono ?_; rintro e w2 ⟨rfl, hi, hb, hk⟩; have HI2 := Aside0.mk hi; have HW2 := Aside0.mk hb; have HZ3 := Aside0.mk (hk.blk HZ2.out (by omega) (by simp)); have HO2 := Aside0.mk (Kd.R_mono (Kd.R_keep (Kd.R_types HO.out HI.out.1 (by decide)) hk (fun k hk => hk.2)) (fun _ _ => trivial)); clear hi hb hk) | ((with_reducible refine gate_builtin (b := .append) (xs := #[.tmp 42, .tmp 44]) rfl ?_); at_builtin; go_must (refine Kd.R_append k64 (w0 := w) w.heap.size rfl (.tmp 42) (.tmp 44) 60 64 (.agg #[(.int .u8 0), (.string ⟨#[]⟩), (.int .i64 0), (.int .i64 0)]) 40 rfl Tryd.underlying60 info64 rfl (by decide) (by omega) u7 xs (⟨q1, q2, ⟨q3, q4⟩⟩ : S64) [.int .u8 q1, .string q2, .int .i64 q3, .int .i64 q4] (fun _ => True) (fun _ => False) rfl (by show Value.slice (some ⟨w2.heap.size + 1, 0, none⟩) 1 1 = _; simp) ?aP (fun _ hk => hk.elim) ?aF ?aO ?aB ?aS ?aL ?_; (case aP => exact k64_mkM _ _ _ (⟨q1, q2, ⟨q3, q4⟩⟩ : S64)); (case aF => exact (fun _ _ => trivial)); (case aO => exact Kd.R_alloc HO2.out _); (case aB => exact below_alloc HW2.out _); (case aS => exact (below_alloc HW2.out _).size); (case aL => omega); intro v1 w3 ho hb hg hat; have HO3 := Aside0.mk ho; have HW3 := Aside0.mk hb; have HI3 : Aside0 (IsS152 w w3 (w1.heap.size + 1) q7 q8 q9) := ⟨⟨blk_grown (blk_alloc HI2.out.1 _) hg (Kd.R_ne HO2.out HI2.out.1 (by decide)), HI2.out.2⟩⟩; have HZ4 := Aside0.mk (blk_grown (blk_alloc HZ3.out _) hg (Kd.R_ne HO2.out HZ3.out (by decide))); clear ho hb hg hat)))
                go_roundg k1
                case measure => omega
                case rel => exact ⟨q7, q8, q9, xs ++ [⟨q1, q2, ⟨q3, q4⟩⟩], HH, HI3, HO3, HZ4, HW3⟩
              · rw [if_neg hl] at hr; cases hr
            | false =>
              subst h5
              rw [if_neg (by simp)] at hr
              have HH := Aside0.mk hr
              clear hr
              go_wp2_with (go_at_call 104; refine (lex_reader_token.calls k1 _ _ _ _ _ _ _ _ _ _ _ _ _ w _ HI.out HW.out HG.out HT.out).mono ?_; rintro e w2 ⟨rfl, hi, hb, hk⟩; have HI2 := Aside0.mk hi; have HW2 := Aside0.mk hb; have HZ3 := Aside0.mk (hk.blk HZ2.out (by omega) (by simp)); have HO2 := Aside0.mk (Kd.R_mono (Kd.R_keep (Kd.R_types HO.out HI.out.1 (by decide)) hk (fun k hk => hk.2)) (fun _ _ => trivial)); clear hi hb hk)
              go_roundg k1
              case measure => omega
              case rel => exact ⟨q7, q8, q9, xs, HH, ⟨⟨blk_alloc HI2.out.1 _, HI2.out.2⟩⟩, ⟨Kd.R_alloc HO2.out _⟩, ⟨blk_alloc HZ3.out _⟩, ⟨below_alloc HW2.out _⟩⟩
          · rw [if_neg h6] at hr
            simp only [Option.some.injEq, Prod.mk.injEq] at hr
            obtain ⟨rfl, rfl, rfl, rfl⟩ := hr
            have hd : (q6 != 0) = true := by simp [h6]
            go_wp2_with (go_at_call 104; refine (lex_reader_token.calls k1 _ _ _ _ _ _ _ _ _ _ _ _ _ w _ HI.out HW.out HG.out HT.out).mono ?_; rintro e w2 ⟨rfl, hi, hb, hk⟩; have HI2 := Aside0.mk hi; have HW2 := Aside0.mk hb; have HZ3 := Aside0.mk (hk.blk HZ2.out (by omega) (by simp)); have HO2 := Aside0.mk (Kd.R_mono (Kd.R_keep (Kd.R_types HO.out HI.out.1 (by decide)) hk (fun k hk => hk.2)) (fun _ _ => trivial)); clear hi hb hk; have zz : ∀ o, ((w2.alloc o).drew).heap[w.heap.size]? = some (.cells #[.int .i64 0, .int .i64 0] 24 (0, 0)) := (fun o => blk_drew (blk_alloc HZ3.out o)); have z0 : ∀ o, (w2.alloc o).cell? ⟨w.heap.size, 0, none⟩ = some (.int .i64 0) := (fun o => by have hq_ := blk_cell (zz o) 0; simpa using hq_); have z1 : ∀ o, (w2.alloc o).cell? ⟨w.heap.size, 1, none⟩ = some (.int .i64 0) := (fun o => by have hq_ := blk_cell (zz o) 1; simpa using hq_); have y0 : ∀ o, (w2.alloc o).frozen? ⟨w.heap.size, 0, none⟩ = false := (fun o => blk_frozen (zz o) 0); have y1 : ∀ o, (w2.alloc o).frozen? ⟨w.heap.size, 1, none⟩ = false := (fun o => blk_frozen (zz o) 1); have ZZ := Aside0.mk zz; clear zz; have at0 := blk_drew (blk_new w2 (.cells #[.int .u8 q1, .string q2, .int .i64 q3, .int .i64 q4] 64 (0, 0))); have b0 := blk_cell at0 2; have b1 := blk_cell at0 3; clear at0; simp only [List.getElem?_toArray, List.getElem?_cons_zero, List.getElem?_cons_succ] at b0 b1)
            go_region
            all_goals
              go_wp2
              refine bodyPost_ret (results_list (rs := [.tmp 2, .cell 3 24, .tmp 4]) rfl (by simp) (.tmp (.cell w.heap.size 24 #[.int .i64 q3, .int .i64 q4] (0, 0) _ rfl (blk_drew (blk_put (blk_put (blk_alloc HZ3.out _) 0 _ rfl) 1 _ rfl)) Tryd.underlying24 rfl (by kernel_rfl) (.tmp .nil)))) rfl ?_
              exact ⟨_, rfl, Kd.R_nil _ _ _ _ _, below_drew1 (below_set (below_set (below_alloc HW2.out _) (Nat.le_refl _)) (Nat.le_refl _))⟩
  · rw [if_neg h0] at hr
    simp only [Option.some.injEq, Prod.mk.injEq] at hr
    obtain ⟨rfl, rfl, rfl, rfl⟩ := hr
    have hd : (e0 != 0) = true := by simp [h0]
    go_enter Tryd.func31, Tryd.ntmps31
    go_wp2_with (go_at_call 79; refine (lex_check.calls k a0 p1 p2 e0 _ HC.out).mono ?_; rintro e w1 ⟨rfl, hb1⟩; have HZ := Aside0.mk (blk_below (blk_new w _) hb1); have HB := Aside0.mk (below_step (below_alloc (Below.refl _ _) _) hb1); have HS := Aside0.mk hb1.size; clear hb1)
    have hS : w.heap.size + 1 ≤ w1.heap.size := by have := HS.out; simpa using this
    have zz : ∀ o, ((w1.alloc o).drew).heap[w.heap.size]? = some (.cells #[.int .i64 0, .int .i64 0] 24 (0, 0)) := fun o => blk_drew (blk_alloc HZ.out o)
    have z0 : ∀ o, (w1.alloc o).cell? ⟨w.heap.size, 0, none⟩ = some (.int .i64 0) := (fun o => by have hq_ := blk_cell (zz o) 0; simpa using hq_)
    have z1 : ∀ o, (w1.alloc o).cell? ⟨w.heap.size, 1, none⟩ = some (.int .i64 0) := (fun o => by have hq_ := blk_cell (zz o) 1; simpa using hq_)
    have y0 : ∀ o, (w1.alloc o).frozen? ⟨w.heap.size, 0, none⟩ = false := (fun o => blk_frozen (zz o) 0)
    have y1 : ∀ o, (w1.alloc o).frozen? ⟨w.heap.size, 1, none⟩ = false := (fun o => blk_frozen (zz o) 1)
    have ZZ := Aside0.mk zz
    clear zz
    have at0 := blk_drew (blk_new w1 (.cells #[.int .i64 p1, .int .i64 p2] 24 (0, 0)))
    have b0 := blk_cell at0 0
    have b1 := blk_cell at0 1
    clear at0
    simp only [List.getElem?_toArray, List.getElem?_cons_zero, List.getElem?_cons_succ] at b0 b1
    go_region
    all_goals
      go_wp2
      refine bodyPost_ret (results_list (rs := [.tmp 2, .cell 3 24, .tmp 4]) rfl (by simp) (.tmp (.cell w.heap.size 24 #[.int .i64 p1, .int .i64 p2] (0, 0) _ rfl (blk_drew (blk_put (blk_put (blk_alloc HZ.out _) 0 _ rfl) 1 _ rfl)) Tryd.underlying24 rfl (by kernel_rfl) (.tmp .nil)))) rfl ?_
      exact ⟨_, rfl, Kd.R_nil _ _ _ _ _, below_drew1 (below_set (below_set (below_alloc HB.out _) (Nat.le_refl _)) (Nat.le_refl _))⟩


end Go.Proofs.YtbnihnggljagnaaDoor.QLexNames
