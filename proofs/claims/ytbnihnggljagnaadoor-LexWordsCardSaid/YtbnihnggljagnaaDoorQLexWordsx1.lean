-- Written by this session's program (wip/tools/printx.py) over the kit's print; the texts marked HAND are its own. Lean checks it.
import Derived.Test.YtbnihnggljagnaaDoorQLexWordsx0
namespace Go.Proofs.YtbnihnggljagnaaDoor.QLexWords
open Go.RowKit Go.Proofs.YtbnihnggljagnaaDoorW.PrintWords Go.Proofs.YtbnihnggljagnaaDoorW.PrintLast Go.Proofs.YtbnihnggljagnaaDoorW.PrintMore
attribute [local go_sem] max2_int min2_int max_two min_two max_three min_three max_four min_four   -- for this text's walks alone
attribute [local go_sem high] Go.Proofs.YtbnihnggljagnaaDoor.Base2.gtr_string Go.Proofs.YtbnihnggljagnaaDoor.Base.ux_u32 Go.Proofs.YtbnihnggljagnaaDoor.Base.ux_u64 Go.Proofs.YtbnihnggljagnaaDoor.Base.ux_u8 Go.Proofs.YtbnihnggljagnaaDoor.Base.ux_u16
set_option linter.unusedVariables false
set_option linter.unusedSimpArgs false

/-! ### lex_Name: function 34 -/
/-- The signs that may stand in a name. -/
abbrev seps : ByteArray := ⟨#[45, 95, 46, 47]⟩
theorem seps_none (a e : Nat) (c : UInt8) (hc : 128 ≤ c.toNat) : Lib.indexByte (seps.extract a e).data.toList c = -1 := by
  have h := Lib.indexByte_ge (seps.extract a e).data.toList c
  by_cases hn : Lib.indexByte (seps.extract a e).data.toList c = -1
  · exact hn
  · exfalso
    obtain ⟨o, ho⟩ := Int.eq_ofNat_of_zero_le (show 0 ≤ Lib.indexByte (seps.extract a e).data.toList c by omega)
    have hm := List.mem_of_getElem? (Lib.indexByte_some ho).1
    have hm2 := mem_extract hm
    have : c = 45 ∨ c = 95 ∨ c = 46 ∨ c = 47 := by simpa using hm2
    rcases this with rfl | rfl | rfl | rfl <;> revert hc <;> decide
theorem idx_none (a e : Nat) (c : Int) (h0 : 128 ≤ c) (h1 : c ≤ 255) (W : World) : Calls Tryd.prog 146 #[.string (seps.extract a e), .int .u8 c] W fun e w' => e = .returned (.int .i64 (-1)) ∧ w' = W := by
  have h := Tryd.strings_IndexByte (seps.extract a e) c W
  rw [seps_none a e _ (by simp; omega)] at h
  exact h
theorem quiet_add_same {P : Program} {f : FuncId} {args : Array Value} {w : World} {a n : Nat} {v : Value}
    (h : Calls P f args (w.drewN (a + n)) fun e w' => e = .returned v ∧ w' = w.drewN (a + n)) :
    Calls P f args (w.drewN (a + n)) fun e w'' => e = .returned v ∧ ∃ m, w'' = w.drewN (a + m) :=
  h.mono fun _ _ ⟨he, hm⟩ => ⟨he, n, hm⟩
set_option maxHeartbeats 1000000 in
set_option maxRecDepth 100000 in
theorem rune_fault (w : World) : Calls Tryd.prog 105 #[.string seps, .int .i32 65533] w fun e w' => e = .returned (.int .i64 (-1)) ∧ Below w.heap.size w w' := by
  go_enter Tryd.func105, Tryd.ntmps105
  go_wp2
  go_loopw [5, 6] (fun _ _ wr => ∃ pos : Nat, pos ≤ 4 ∧ wr.heap[w.heap.size]? = some (.stringIter seps pos) ∧ Below w.heap.size w wr) (fun _ _ wr => 4 - wr.iterPos w.heap.size)
  case atStart => exact ⟨0, by omega, World.iter_heap w seps 0, (Below.refl _ w).alloc (Nat.le_refl _) _⟩
  case round =>
    obtain ⟨pos, hp, hit, hb⟩ := hrel
    by_cases h4 : pos < 4
    · have hc : pos = 0 ∨ pos = 1 ∨ pos = 2 ∨ pos = 3 := by omega
      rcases hc with rfl | rfl | rfl | rfl
      · have hnx : ∀ ty, (Instr.next (.pointer (some ⟨w.heap.size, 0, none⟩)) true ty).run Tryd.prog wr = .ok (.tuple #[.bool true, .int .i64 0, .int .i32 45]) (wr.iterAt w.heap.size seps 1) := fun ty => Lib.run_next_ascii_at wr w.heap.size seps 0 ty hit (by decide) (by decide)
        go_wp2
        go_roundw
        case rel => exact ⟨1, by omega, Lib.iterAt_heap wr w.heap.size seps 0 1 hit, Lib.below_iterAt hb (Nat.le_refl _) seps 1⟩
        case measure => simp only [World.iterPos, Lib.iterAt_heap wr w.heap.size seps 0 1 hit, hit]; omega
      · have hnx : ∀ ty, (Instr.next (.pointer (some ⟨w.heap.size, 0, none⟩)) true ty).run Tryd.prog wr = .ok (.tuple #[.bool true, .int .i64 1, .int .i32 95]) (wr.iterAt w.heap.size seps 2) := fun ty => Lib.run_next_ascii_at wr w.heap.size seps 1 ty hit (by decide) (by decide)
        go_wp2
        go_roundw
        case rel => exact ⟨2, by omega, Lib.iterAt_heap wr w.heap.size seps 1 2 hit, Lib.below_iterAt hb (Nat.le_refl _) seps 2⟩
        case measure => simp only [World.iterPos, Lib.iterAt_heap wr w.heap.size seps 1 2 hit, hit]; omega
      · have hnx : ∀ ty, (Instr.next (.pointer (some ⟨w.heap.size, 0, none⟩)) true ty).run Tryd.prog wr = .ok (.tuple #[.bool true, .int .i64 2, .int .i32 46]) (wr.iterAt w.heap.size seps 3) := fun ty => Lib.run_next_ascii_at wr w.heap.size seps 2 ty hit (by decide) (by decide)
        go_wp2
        go_roundw
        case rel => exact ⟨3, by omega, Lib.iterAt_heap wr w.heap.size seps 2 3 hit, Lib.below_iterAt hb (Nat.le_refl _) seps 3⟩
        case measure => simp only [World.iterPos, Lib.iterAt_heap wr w.heap.size seps 2 3 hit, hit]; omega
      · have hnx : ∀ ty, (Instr.next (.pointer (some ⟨w.heap.size, 0, none⟩)) true ty).run Tryd.prog wr = .ok (.tuple #[.bool true, .int .i64 3, .int .i32 47]) (wr.iterAt w.heap.size seps 4) := fun ty => Lib.run_next_ascii_at wr w.heap.size seps 3 ty hit (by decide) (by decide)
        go_wp2
        go_roundw
        case rel => exact ⟨4, by omega, Lib.iterAt_heap wr w.heap.size seps 3 4 hit, Lib.below_iterAt hb (Nat.le_refl _) seps 4⟩
        case measure => simp only [World.iterPos, Lib.iterAt_heap wr w.heap.size seps 3 4 hit, hit]; omega
    · obtain rfl : pos = 4 := by omega
      have hnx : ∀ ty, (Instr.next (.pointer (some ⟨w.heap.size, 0, none⟩)) true ty).run Tryd.prog wr = .ok (.tuple #[.bool false]) wr := fun ty => Lib.run_next_end_at wr w.heap.size seps 4 ty hit (by decide)
      go_wp2
      go_ret
      exact ⟨rfl, hb⟩
set_option maxHeartbeats 1000000 in
set_option maxRecDepth 100000 in
theorem rune_bad (r : Int) (h1 : 128 ≤ r) (hf : ¬ r = 65533) (hv : Lib.validRune r = false) (w : World) : Calls Tryd.prog 105 #[.string seps, .int .i32 r] w fun e w' => e = .returned (.int .i64 (-1)) ∧ w' = w := by
  have a1 : decide (r < 128) = false := decide_eq_false (by omega)
  have a0 : decide (0 ≤ r) = true := decide_eq_true (by omega)
  have a2 : (r == 65533) = false := beq_eq_false_iff_ne.2 hf
  clear h1 hf
  go_enter Tryd.func105, Tryd.ntmps105
  go_wp2_with (go_at_call 154; refine (Tryd.utf8_ValidRune r _).mono ?_; rintro e w' ⟨rfl, rfl⟩)
  go_ret
  exact ⟨rfl, rfl⟩
set_option maxHeartbeats 1000000 in
set_option maxRecDepth 100000 in
theorem rune_good (r : Int) (h1 : 128 ≤ r) (hf : ¬ r = 65533) (hv : Lib.validRune r = true) (w : World) : Calls Tryd.prog 105 #[.string seps, .int .i32 r] w fun e w' => e = .returned (.int .i64 (-1)) ∧ ∃ n, w' = w.drewN n := by
  have a1 : decide (r < 128) = false := decide_eq_false (by omega)
  have a0 : decide (0 ≤ r) = true := decide_eq_true (by omega)
  have a2 : (r == 65533) = false := beq_eq_false_iff_ne.2 hf
  obtain ⟨e1, e2, e3⟩ := encode_facts r ((validRune_eq r).trans hv) h1
  generalize hE : Utf8.encode r = E at e1 e2 e3
  clear h1 hf
  have hc : E.size = 2 ∨ E.size = 3 ∨ E.size = 4 := by omega
  have last : ∀ n : Nat, E.size = n + 1 → 128 ≤ bt E n ∧ bt E n ≤ 255 := fun n hn => by
    have h3 := e3 (by omega)
    have e : E.size - 1 = n := by omega
    have h : n < E.size := by omega
    have hb := bt_range E n
    have : bt E n = ((E[n]'h).toNat : Int) := by simp [bt, h]
    have h4 : 128 ≤ (E[n]'h).toNat := by
      have := h3
      simp only [e] at this
      exact this
    omega
  clear e1 e2 e3
  rcases hc with hc | hc | hc
  · obtain ⟨l1, l2⟩ := last 1 hc
    have l1 : 128 ≤ bt E 1 := l1
    have l2 : bt E 1 ≤ 255 := l2
    clear last
    have cv : ∀ W, (convert 21 9 (.int .i32 r)).run Tryd.prog W = .ok (.string E) W := fun W => by rw [run_convert_int_string W 21 9 .i32 r (by kernel_rfl) Tryd.underlying9, hE]
    clear hE
    have s1 : ∀ h : 1 < seps.size, ((seps[1]'h).toNat : Int) = 95 := fun _ => rfl
    have n1 : ((95 : Int) == bt E 1) = false := beq_eq_false_iff_ne.2 (by omega)
    have n2 : (bt E 1 == (95 : Int)) = false := beq_eq_false_iff_ne.2 (by omega)
    have hx : ∀ h : 1 < E.size, ((E[1]'h).toNat : Int) = bt E 1 := bt_at E 1
    go_enter Tryd.func105, Tryd.ntmps105
    go_wp2_with (go_at_call 154; refine (Tryd.utf8_ValidRune r _).mono ?_; rintro e w' ⟨rfl, rfl⟩)
    go_wp2
    go_step3
    go_wp2
    go_loopw [9] (fun v9 wr => v9 = .int .i64 1 ∧ wr = w') (fun _ _ => 0)
    case atStart => exact ⟨rfl, rfl⟩
    case round =>
      obtain ⟨rfl, rfl⟩ := hrel
      go_wp2
      go_step3
      go_wp2
      go_quiet (fail)
      go_wp2
      go_quiet ((go_at_call 146; exact quiet_add_same (idx_none 2 4 _ l1 l2 _)))
      go_wp2
      rw [Exit.noGoto_ret]
      try go_wp2
      try rw [Exit.noGoto_ret]
      go_ret
      exact ⟨rfl, _, rfl⟩
  · obtain ⟨l1, l2⟩ := last 2 hc
    have l1 : 128 ≤ bt E 2 := l1
    have l2 : bt E 2 ≤ 255 := l2
    clear last
    have cv : ∀ W, (convert 21 9 (.int .i32 r)).run Tryd.prog W = .ok (.string E) W := fun W => by rw [run_convert_int_string W 21 9 .i32 r (by kernel_rfl) Tryd.underlying9, hE]
    clear hE
    have s1 : ∀ h : 2 < seps.size, ((seps[2]'h).toNat : Int) = 46 := fun _ => rfl
    have n1 : ((46 : Int) == bt E 2) = false := beq_eq_false_iff_ne.2 (by omega)
    have n2 : (bt E 2 == (46 : Int)) = false := beq_eq_false_iff_ne.2 (by omega)
    have hx : ∀ h : 2 < E.size, ((E[2]'h).toNat : Int) = bt E 2 := bt_at E 2
    go_enter Tryd.func105, Tryd.ntmps105
    go_wp2_with (go_at_call 154; refine (Tryd.utf8_ValidRune r _).mono ?_; rintro e w' ⟨rfl, rfl⟩)
    go_wp2
    go_step3
    go_wp2
    go_loopw [9] (fun v9 wr => v9 = .int .i64 2 ∧ wr = w') (fun _ _ => 0)
    case atStart => exact ⟨rfl, rfl⟩
    case round =>
      obtain ⟨rfl, rfl⟩ := hrel
      go_wp2
      go_step3
      go_wp2
      go_quiet (fail)
      go_wp2
      go_quiet ((go_at_call 146; exact quiet_add_same (idx_none 3 4 _ l1 l2 _)))
      go_wp2
      rw [Exit.noGoto_ret]
      try go_wp2
      try rw [Exit.noGoto_ret]
      go_ret
      exact ⟨rfl, _, rfl⟩
  · obtain ⟨l1, l2⟩ := last 3 hc
    have l1 : 128 ≤ bt E 3 := l1
    have l2 : bt E 3 ≤ 255 := l2
    clear last
    have cv : ∀ W, (convert 21 9 (.int .i32 r)).run Tryd.prog W = .ok (.string E) W := fun W => by rw [run_convert_int_string W 21 9 .i32 r (by kernel_rfl) Tryd.underlying9, hE]
    clear hE
    have s1 : ∀ h : 3 < seps.size, ((seps[3]'h).toNat : Int) = 47 := fun _ => rfl
    have n1 : ((47 : Int) == bt E 3) = false := beq_eq_false_iff_ne.2 (by omega)
    have n2 : (bt E 3 == (47 : Int)) = false := beq_eq_false_iff_ne.2 (by omega)
    have hx : ∀ h : 3 < E.size, ((E[3]'h).toNat : Int) = bt E 3 := bt_at E 3
    go_enter Tryd.func105, Tryd.ntmps105
    go_wp2_with (go_at_call 154; refine (Tryd.utf8_ValidRune r _).mono ?_; rintro e w' ⟨rfl, rfl⟩)
    go_wp2
    go_step3
    go_wp2
    go_loopw [9] (fun v9 wr => v9 = .int .i64 3 ∧ wr = w') (fun _ _ => 0)
    case atStart => exact ⟨rfl, rfl⟩
    case round =>
      obtain ⟨rfl, rfl⟩ := hrel
      go_wp2
      go_step3
      go_wp2
      go_quiet (fail)
      go_wp2
      go_quiet ((go_at_call 146; exact quiet_add_same (idx_none 4 4 _ l1 l2 _)))
      go_wp2
      rw [Exit.noGoto_ret]
      try go_wp2
      try rw [Exit.noGoto_ret]
      go_ret
      exact ⟨rfl, _, rfl⟩
theorem rune_high (r : Int) (h1 : 128 ≤ r) (w : World) : Calls Tryd.prog 105 #[.string seps, .int .i32 r] w fun e w' => e = .returned (.int .i64 (-1)) ∧ Below w.heap.size w w' := by
  by_cases hf : r = 65533
  · subst hf; exact rune_fault w
  · cases hv : Lib.validRune r with
    | true =>
      refine (rune_good r h1 hf hv w).mono ?_
      rintro e w' ⟨rfl, n, rfl⟩
      exact ⟨rfl, pw_below_drewN (Below.refl _ _) n⟩
    | false =>
      refine (rune_bad r h1 hf hv w).mono ?_
      rintro e w' ⟨rfl, rfl⟩
      exact ⟨rfl, Below.refl _ _⟩
theorem sep_idx (c : Int) (h0 : 0 ≤ c) (h1 : c ≤ 255) : Lib.indexByte [45, 95, 46, 47] c.toNat.toUInt8 = (if c = 45 then 0 else if c = 95 then 1 else if c = 46 then 2 else if c = 47 then 3 else -1) := by
  refine LexMath.byte_cases (p := fun c => Lib.indexByte [45, 95, 46, 47] c.toNat.toUInt8 = (if c = 45 then 0 else if c = 95 then 1 else if c = 46 then 2 else if c = 47 then 3 else -1)) ?_ c ⟨h0, h1⟩
  decide +kernel
theorem rune_low (c n : Int) (hz : 0 ≤ c ∧ c < 128) (hi : Lib.indexByte [45, 95, 46, 47] c.toNat.toUInt8 = n) (W : World) : Calls Tryd.prog 105 #[.string seps, .int .i32 c] W fun e w' => e = .returned (.int .i64 n) ∧ w' = W := by
  have h := Tryd.strings_IndexRune_ascii seps c W hz.1 hz.2
  rw [show seps.data.toList = [45, 95, 46, 47] from rfl, hi] at h
  exact h
/-- A letter; what may stand in a name beside letters. -/
def letterB (c : Int) : Bool := decide ((97 ≤ c ∧ c ≤ 122) ∨ (65 ≤ c ∧ c ≤ 90))
def otherB (c : Int) : Bool := decide ((48 ≤ c ∧ c ≤ 57) ∨ c = 45 ∨ c = 95 ∨ c = 46 ∨ c = 47)
def nameC (i : Nat) (c : Int) : Bool := letterB c || (decide (¬ i = 0) && otherB c)
def nameFrom (s : ByteArray) : Nat → Nat → Bool
  | 0, _ => true
  | f + 1, i => nameC i (bt s i) && nameFrom s f (i + 1)
theorem nameFrom_step (s : ByteArray) (i : Nat) (h : i < s.size) : nameFrom s (s.size - i) i = (nameC i (bt s i) && nameFrom s (s.size - (i + 1)) (i + 1)) := by
  obtain ⟨k, hk⟩ : ∃ k, s.size - i = k + 1 := ⟨s.size - i - 1, by omega⟩
  rw [hk, show s.size - (i + 1) = k by omega]
  rfl
set_option maxHeartbeats 4000000 in
set_option maxRecDepth 100000 in
theorem name_calls (s : ByteArray) (h1 : 1 ≤ s.size) (h2 : s.size ≤ 32) (w : World) : Calls Tryd.prog 34 #[.string s] w fun e w' => e = .returned (.bool (nameFrom s s.size 0)) ∧ Below w.heap.size w w' := by
  have he : (s.toList == []) = false := by
    apply beq_eq_false_iff_ne.2
    intro h
    have := congrArg List.length h
    rw [ByteArray.toList_eq, Array.length_toList] at this
    have : s.size = 0 := this
    omega
  have he2 : ¬ s.toList = [] := beq_eq_false_iff_ne.1 he
  have hl : decide (32 < s.size) = false := decide_eq_false (by omega)
  have hl2 : decide ((32 : Int) < s.size) = false := decide_eq_false (by omega)
  go_enter Tryd.func34, Tryd.ntmps34
  go_wp2
  go_loopw [3] (fun _ wr => ∃ pos : Nat, pos ≤ s.size ∧ wr.heap[w.heap.size]? = some (.stringIter s pos) ∧ Below w.heap.size w wr ∧ Aside0 (nameFrom s s.size 0 = nameFrom s (s.size - pos) pos)) (fun _ wr => s.size - wr.iterPos w.heap.size)
  case atStart => exact ⟨0, by omega, World.iter_heap w s 0, (Below.refl _ w).alloc (Nat.le_refl _) _, ⟨rfl⟩⟩
  case round =>
    obtain ⟨pos, hp, hit, hb, HA⟩ := hrel
    by_cases hlt : pos < s.size
    · have hc0 := bt_range s pos
      have hst := nameFrom_step s pos hlt
      have HS := Aside0.mk hst
      clear hst
      by_cases h128 : bt s pos < 128
      · have hget : ((s[pos]'hlt).toNat : Int) = bt s pos := by simp [bt, hlt]
        have hnx : ∀ ty, (Instr.next (.pointer (some ⟨w.heap.size, 0, none⟩)) true ty).run Tryd.prog wr = .ok (.tuple #[.bool true, .int .i64 pos, .int .i32 (bt s pos)]) (wr.iterAt w.heap.size s (pos + 1)) := fun ty => by
          rw [← hget]
          exact Lib.run_next_ascii_at wr w.heap.size s pos ty hit hlt (by omega)
        clear hget
        have hix := Aside0.mk (sep_idx (bt s pos) hc0.1 (by omega))
        have hC := Aside0.mk (rfl : bt s pos = bt s pos)
        generalize hcc : bt s pos = c at hc0 h128 hnx hix HS
        clear hC
        clear hcc
        have hcases : (0 ≤ c ∧ c ≤ 44) ∨ (45 ≤ c ∧ c ≤ 45) ∨ (46 ≤ c ∧ c ≤ 46) ∨ (47 ≤ c ∧ c ≤ 47) ∨ (48 ≤ c ∧ c ≤ 57) ∨ (58 ≤ c ∧ c ≤ 64) ∨ (65 ≤ c ∧ c ≤ 90) ∨ (91 ≤ c ∧ c ≤ 94) ∨ (95 ≤ c ∧ c ≤ 95) ∨ (96 ≤ c ∧ c ≤ 96) ∨ (97 ≤ c ∧ c ≤ 122) ∨ (123 ≤ c ∧ c ≤ 127) := by omega
        clear h128 hc0
        rcases hcases with ⟨v1, v2⟩ | ⟨v1, v2⟩ | ⟨v1, v2⟩ | ⟨v1, v2⟩ | ⟨v1, v2⟩ | ⟨v1, v2⟩ | ⟨v1, v2⟩ | ⟨v1, v2⟩ | ⟨v1, v2⟩ | ⟨v1, v2⟩ | ⟨v1, v2⟩ | ⟨v1, v2⟩
        · have v0 := v1
          have f97 : decide (97 ≤ c) = false := decide_eq_false (by omega)
          have f122 : decide (c ≤ 122) = true := decide_eq_true (by omega)
          have f65 : decide (65 ≤ c) = false := decide_eq_false (by omega)
          have f90 : decide (c ≤ 90) = true := decide_eq_true (by omega)
          have f48 : decide (c < 48) = true := decide_eq_true (by omega)
          have f57 : decide (57 < c) = false := decide_eq_false (by omega)
          by_cases hp0 : pos = 0
          · subst hp0
            have HN := Aside0.mk (show nameC 0 c = false from by unfold nameC; rw [show letterB c = false from decide_eq_false (by omega)]; rfl)
            clear v0 v1 v2 hix
            go_wp2
            go_ret
            exact ⟨by rw [HA.out, HS.out, HN.out, Bool.false_and]; rfl, Lib.below_iterAt hb (Nat.le_refl _) s (0 + 1)⟩
          · have hz1 : (((pos : Nat) : Int) == 0) = false := beq_eq_false_iff_ne.2 (by omega)
            have hz2 : (pos == 0) = false := beq_eq_false_iff_ne.2 hp0
            have HN := Aside0.mk (show nameC pos c = false from by unfold nameC; rw [show letterB c = false from decide_eq_false (by omega), show otherB c = false from decide_eq_false (by omega), Bool.and_false]; rfl)
            have hgz : 0 ≤ c ∧ c < 128 := by omega
            have HI := Aside0.mk (show Lib.indexByte [45, 95, 46, 47] c.toNat.toUInt8 = (-1) from by rw [hix.out]; repeat (first | rw [if_pos (by omega)] | rw [if_neg (by omega)]))
            have HZ := Aside0.mk hgz
            clear v0 v1 v2 hix hgz
            go_wp2_with (go_at_call 105; refine (rune_low c _ HZ.out HI.out _).mono ?_; rintro e w2 ⟨rfl, rfl⟩)
            go_ret
            exact ⟨by rw [HA.out, HS.out, HN.out, Bool.false_and]; rfl, Lib.below_iterAt hb (Nat.le_refl _) s (pos + 1)⟩
        · have v0 := v1
          have f97 : decide (97 ≤ c) = false := decide_eq_false (by omega)
          have f122 : decide (c ≤ 122) = true := decide_eq_true (by omega)
          have f65 : decide (65 ≤ c) = false := decide_eq_false (by omega)
          have f90 : decide (c ≤ 90) = true := decide_eq_true (by omega)
          have f48 : decide (c < 48) = true := decide_eq_true (by omega)
          have f57 : decide (57 < c) = false := decide_eq_false (by omega)
          by_cases hp0 : pos = 0
          · subst hp0
            have HN := Aside0.mk (show nameC 0 c = false from by unfold nameC; rw [show letterB c = false from decide_eq_false (by omega)]; rfl)
            clear v0 v1 v2 hix
            go_wp2
            go_ret
            exact ⟨by rw [HA.out, HS.out, HN.out, Bool.false_and]; rfl, Lib.below_iterAt hb (Nat.le_refl _) s (0 + 1)⟩
          · have hz1 : (((pos : Nat) : Int) == 0) = false := beq_eq_false_iff_ne.2 (by omega)
            have hz2 : (pos == 0) = false := beq_eq_false_iff_ne.2 hp0
            have HN := Aside0.mk (show nameC pos c = true from by unfold nameC; rw [show otherB c = true from decide_eq_true (by omega), decide_eq_true hp0, Bool.and_self, Bool.or_true])
            have hgz : 0 ≤ c ∧ c < 128 := by omega
            have HI := Aside0.mk (show Lib.indexByte [45, 95, 46, 47] c.toNat.toUInt8 = (0) from by rw [hix.out]; repeat (first | rw [if_pos (by omega)] | rw [if_neg (by omega)]))
            have HZ := Aside0.mk hgz
            clear v0 v1 v2 hix hgz
            go_wp2_with (go_at_call 105; refine (rune_low c _ HZ.out HI.out _).mono ?_; rintro e w2 ⟨rfl, rfl⟩)
            go_roundw
            case rel => exact ⟨pos + 1, by omega, Lib.iterAt_heap wr w.heap.size s pos (pos + 1) hit, Lib.below_iterAt hb (Nat.le_refl _) s (pos + 1), ⟨by rw [HA.out, HS.out, HN.out, Bool.true_and]⟩⟩
            case measure => simp only [World.iterPos, Lib.iterAt_heap wr w.heap.size s pos (pos + 1) hit, hit]; omega
        · have v0 := v1
          have f97 : decide (97 ≤ c) = false := decide_eq_false (by omega)
          have f122 : decide (c ≤ 122) = true := decide_eq_true (by omega)
          have f65 : decide (65 ≤ c) = false := decide_eq_false (by omega)
          have f90 : decide (c ≤ 90) = true := decide_eq_true (by omega)
          have f48 : decide (c < 48) = true := decide_eq_true (by omega)
          have f57 : decide (57 < c) = false := decide_eq_false (by omega)
          by_cases hp0 : pos = 0
          · subst hp0
            have HN := Aside0.mk (show nameC 0 c = false from by unfold nameC; rw [show letterB c = false from decide_eq_false (by omega)]; rfl)
            clear v0 v1 v2 hix
            go_wp2
            go_ret
            exact ⟨by rw [HA.out, HS.out, HN.out, Bool.false_and]; rfl, Lib.below_iterAt hb (Nat.le_refl _) s (0 + 1)⟩
          · have hz1 : (((pos : Nat) : Int) == 0) = false := beq_eq_false_iff_ne.2 (by omega)
            have hz2 : (pos == 0) = false := beq_eq_false_iff_ne.2 hp0
            have HN := Aside0.mk (show nameC pos c = true from by unfold nameC; rw [show otherB c = true from decide_eq_true (by omega), decide_eq_true hp0, Bool.and_self, Bool.or_true])
            have hgz : 0 ≤ c ∧ c < 128 := by omega
            have HI := Aside0.mk (show Lib.indexByte [45, 95, 46, 47] c.toNat.toUInt8 = (2) from by rw [hix.out]; repeat (first | rw [if_pos (by omega)] | rw [if_neg (by omega)]))
            have HZ := Aside0.mk hgz
            clear v0 v1 v2 hix hgz
            go_wp2_with (go_at_call 105; refine (rune_low c _ HZ.out HI.out _).mono ?_; rintro e w2 ⟨rfl, rfl⟩)
            go_roundw
            case rel => exact ⟨pos + 1, by omega, Lib.iterAt_heap wr w.heap.size s pos (pos + 1) hit, Lib.below_iterAt hb (Nat.le_refl _) s (pos + 1), ⟨by rw [HA.out, HS.out, HN.out, Bool.true_and]⟩⟩
            case measure => simp only [World.iterPos, Lib.iterAt_heap wr w.heap.size s pos (pos + 1) hit, hit]; omega
        · have v0 := v1
          have f97 : decide (97 ≤ c) = false := decide_eq_false (by omega)
          have f122 : decide (c ≤ 122) = true := decide_eq_true (by omega)
          have f65 : decide (65 ≤ c) = false := decide_eq_false (by omega)
          have f90 : decide (c ≤ 90) = true := decide_eq_true (by omega)
          have f48 : decide (c < 48) = true := decide_eq_true (by omega)
          have f57 : decide (57 < c) = false := decide_eq_false (by omega)
          by_cases hp0 : pos = 0
          · subst hp0
            have HN := Aside0.mk (show nameC 0 c = false from by unfold nameC; rw [show letterB c = false from decide_eq_false (by omega)]; rfl)
            clear v0 v1 v2 hix
            go_wp2
            go_ret
            exact ⟨by rw [HA.out, HS.out, HN.out, Bool.false_and]; rfl, Lib.below_iterAt hb (Nat.le_refl _) s (0 + 1)⟩
          · have hz1 : (((pos : Nat) : Int) == 0) = false := beq_eq_false_iff_ne.2 (by omega)
            have hz2 : (pos == 0) = false := beq_eq_false_iff_ne.2 hp0
            have HN := Aside0.mk (show nameC pos c = true from by unfold nameC; rw [show otherB c = true from decide_eq_true (by omega), decide_eq_true hp0, Bool.and_self, Bool.or_true])
            have hgz : 0 ≤ c ∧ c < 128 := by omega
            have HI := Aside0.mk (show Lib.indexByte [45, 95, 46, 47] c.toNat.toUInt8 = (3) from by rw [hix.out]; repeat (first | rw [if_pos (by omega)] | rw [if_neg (by omega)]))
            have HZ := Aside0.mk hgz
            clear v0 v1 v2 hix hgz
            go_wp2_with (go_at_call 105; refine (rune_low c _ HZ.out HI.out _).mono ?_; rintro e w2 ⟨rfl, rfl⟩)
            go_roundw
            case rel => exact ⟨pos + 1, by omega, Lib.iterAt_heap wr w.heap.size s pos (pos + 1) hit, Lib.below_iterAt hb (Nat.le_refl _) s (pos + 1), ⟨by rw [HA.out, HS.out, HN.out, Bool.true_and]⟩⟩
            case measure => simp only [World.iterPos, Lib.iterAt_heap wr w.heap.size s pos (pos + 1) hit, hit]; omega
        · have v0 := v1
          have f97 : decide (97 ≤ c) = false := decide_eq_false (by omega)
          have f122 : decide (c ≤ 122) = true := decide_eq_true (by omega)
          have f65 : decide (65 ≤ c) = false := decide_eq_false (by omega)
          have f90 : decide (c ≤ 90) = true := decide_eq_true (by omega)
          have f48 : decide (c < 48) = false := decide_eq_false (by omega)
          have f57 : decide (57 < c) = false := decide_eq_false (by omega)
          by_cases hp0 : pos = 0
          · subst hp0
            have HN := Aside0.mk (show nameC 0 c = false from by unfold nameC; rw [show letterB c = false from decide_eq_false (by omega)]; rfl)
            clear v0 v1 v2 hix
            go_wp2
            go_ret
            exact ⟨by rw [HA.out, HS.out, HN.out, Bool.false_and]; rfl, Lib.below_iterAt hb (Nat.le_refl _) s (0 + 1)⟩
          · have hz1 : (((pos : Nat) : Int) == 0) = false := beq_eq_false_iff_ne.2 (by omega)
            have hz2 : (pos == 0) = false := beq_eq_false_iff_ne.2 hp0
            have HN := Aside0.mk (show nameC pos c = true from by unfold nameC; rw [show otherB c = true from decide_eq_true (by omega), decide_eq_true hp0, Bool.and_self, Bool.or_true])
            have hgz : 0 ≤ c ∧ c < 128 := by omega
            clear v0 v1 v2 hix hgz
            go_wp2
            go_roundw
            case rel => exact ⟨pos + 1, by omega, Lib.iterAt_heap wr w.heap.size s pos (pos + 1) hit, Lib.below_iterAt hb (Nat.le_refl _) s (pos + 1), ⟨by rw [HA.out, HS.out, HN.out, Bool.true_and]⟩⟩
            case measure => simp only [World.iterPos, Lib.iterAt_heap wr w.heap.size s pos (pos + 1) hit, hit]; omega
        · have v0 := v1
          have f97 : decide (97 ≤ c) = false := decide_eq_false (by omega)
          have f122 : decide (c ≤ 122) = true := decide_eq_true (by omega)
          have f65 : decide (65 ≤ c) = false := decide_eq_false (by omega)
          have f90 : decide (c ≤ 90) = true := decide_eq_true (by omega)
          have f48 : decide (c < 48) = false := decide_eq_false (by omega)
          have f57 : decide (57 < c) = true := decide_eq_true (by omega)
          by_cases hp0 : pos = 0
          · subst hp0
            have HN := Aside0.mk (show nameC 0 c = false from by unfold nameC; rw [show letterB c = false from decide_eq_false (by omega)]; rfl)
            clear v0 v1 v2 hix
            go_wp2
            go_ret
            exact ⟨by rw [HA.out, HS.out, HN.out, Bool.false_and]; rfl, Lib.below_iterAt hb (Nat.le_refl _) s (0 + 1)⟩
          · have hz1 : (((pos : Nat) : Int) == 0) = false := beq_eq_false_iff_ne.2 (by omega)
            have hz2 : (pos == 0) = false := beq_eq_false_iff_ne.2 hp0
            have HN := Aside0.mk (show nameC pos c = false from by unfold nameC; rw [show letterB c = false from decide_eq_false (by omega), show otherB c = false from decide_eq_false (by omega), Bool.and_false]; rfl)
            have hgz : 0 ≤ c ∧ c < 128 := by omega
            have HI := Aside0.mk (show Lib.indexByte [45, 95, 46, 47] c.toNat.toUInt8 = (-1) from by rw [hix.out]; repeat (first | rw [if_pos (by omega)] | rw [if_neg (by omega)]))
            have HZ := Aside0.mk hgz
            clear v0 v1 v2 hix hgz
            go_wp2_with (go_at_call 105; refine (rune_low c _ HZ.out HI.out _).mono ?_; rintro e w2 ⟨rfl, rfl⟩)
            go_ret
            exact ⟨by rw [HA.out, HS.out, HN.out, Bool.false_and]; rfl, Lib.below_iterAt hb (Nat.le_refl _) s (pos + 1)⟩
        · have v0 := v1
          have f97 : decide (97 ≤ c) = false := decide_eq_false (by omega)
          have f122 : decide (c ≤ 122) = true := decide_eq_true (by omega)
          have f65 : decide (65 ≤ c) = true := decide_eq_true (by omega)
          have f90 : decide (c ≤ 90) = true := decide_eq_true (by omega)
          have f48 : decide (c < 48) = false := decide_eq_false (by omega)
          have f57 : decide (57 < c) = true := decide_eq_true (by omega)
          have HN := Aside0.mk (show nameC pos c = true from by unfold nameC; rw [show letterB c = true from decide_eq_true (by omega)]; rfl)
          clear v0 v1 v2 hix
          go_wp2
          go_roundw
          case rel => exact ⟨pos + 1, by omega, Lib.iterAt_heap wr w.heap.size s pos (pos + 1) hit, Lib.below_iterAt hb (Nat.le_refl _) s (pos + 1), ⟨by rw [HA.out, HS.out, HN.out, Bool.true_and]⟩⟩
          case measure => simp only [World.iterPos, Lib.iterAt_heap wr w.heap.size s pos (pos + 1) hit, hit]; omega
        · have v0 := v1
          have f97 : decide (97 ≤ c) = false := decide_eq_false (by omega)
          have f122 : decide (c ≤ 122) = true := decide_eq_true (by omega)
          have f65 : decide (65 ≤ c) = true := decide_eq_true (by omega)
          have f90 : decide (c ≤ 90) = false := decide_eq_false (by omega)
          have f48 : decide (c < 48) = false := decide_eq_false (by omega)
          have f57 : decide (57 < c) = true := decide_eq_true (by omega)
          by_cases hp0 : pos = 0
          · subst hp0
            have HN := Aside0.mk (show nameC 0 c = false from by unfold nameC; rw [show letterB c = false from decide_eq_false (by omega)]; rfl)
            clear v0 v1 v2 hix
            go_wp2
            go_ret
            exact ⟨by rw [HA.out, HS.out, HN.out, Bool.false_and]; rfl, Lib.below_iterAt hb (Nat.le_refl _) s (0 + 1)⟩
          · have hz1 : (((pos : Nat) : Int) == 0) = false := beq_eq_false_iff_ne.2 (by omega)
            have hz2 : (pos == 0) = false := beq_eq_false_iff_ne.2 hp0
            have HN := Aside0.mk (show nameC pos c = false from by unfold nameC; rw [show letterB c = false from decide_eq_false (by omega), show otherB c = false from decide_eq_false (by omega), Bool.and_false]; rfl)
            have hgz : 0 ≤ c ∧ c < 128 := by omega
            have HI := Aside0.mk (show Lib.indexByte [45, 95, 46, 47] c.toNat.toUInt8 = (-1) from by rw [hix.out]; repeat (first | rw [if_pos (by omega)] | rw [if_neg (by omega)]))
            have HZ := Aside0.mk hgz
            clear v0 v1 v2 hix hgz
            go_wp2_with (go_at_call 105; refine (rune_low c _ HZ.out HI.out _).mono ?_; rintro e w2 ⟨rfl, rfl⟩)
            go_ret
            exact ⟨by rw [HA.out, HS.out, HN.out, Bool.false_and]; rfl, Lib.below_iterAt hb (Nat.le_refl _) s (pos + 1)⟩
        · have v0 := v1
          have f97 : decide (97 ≤ c) = false := decide_eq_false (by omega)
          have f122 : decide (c ≤ 122) = true := decide_eq_true (by omega)
          have f65 : decide (65 ≤ c) = true := decide_eq_true (by omega)
          have f90 : decide (c ≤ 90) = false := decide_eq_false (by omega)
          have f48 : decide (c < 48) = false := decide_eq_false (by omega)
          have f57 : decide (57 < c) = true := decide_eq_true (by omega)
          by_cases hp0 : pos = 0
          · subst hp0
            have HN := Aside0.mk (show nameC 0 c = false from by unfold nameC; rw [show letterB c = false from decide_eq_false (by omega)]; rfl)
            clear v0 v1 v2 hix
            go_wp2
            go_ret
            exact ⟨by rw [HA.out, HS.out, HN.out, Bool.false_and]; rfl, Lib.below_iterAt hb (Nat.le_refl _) s (0 + 1)⟩
          · have hz1 : (((pos : Nat) : Int) == 0) = false := beq_eq_false_iff_ne.2 (by omega)
            have hz2 : (pos == 0) = false := beq_eq_false_iff_ne.2 hp0
            have HN := Aside0.mk (show nameC pos c = true from by unfold nameC; rw [show otherB c = true from decide_eq_true (by omega), decide_eq_true hp0, Bool.and_self, Bool.or_true])
            have hgz : 0 ≤ c ∧ c < 128 := by omega
            have HI := Aside0.mk (show Lib.indexByte [45, 95, 46, 47] c.toNat.toUInt8 = (1) from by rw [hix.out]; repeat (first | rw [if_pos (by omega)] | rw [if_neg (by omega)]))
            have HZ := Aside0.mk hgz
            clear v0 v1 v2 hix hgz
            go_wp2_with (go_at_call 105; refine (rune_low c _ HZ.out HI.out _).mono ?_; rintro e w2 ⟨rfl, rfl⟩)
            go_roundw
            case rel => exact ⟨pos + 1, by omega, Lib.iterAt_heap wr w.heap.size s pos (pos + 1) hit, Lib.below_iterAt hb (Nat.le_refl _) s (pos + 1), ⟨by rw [HA.out, HS.out, HN.out, Bool.true_and]⟩⟩
            case measure => simp only [World.iterPos, Lib.iterAt_heap wr w.heap.size s pos (pos + 1) hit, hit]; omega
        · have v0 := v1
          have f97 : decide (97 ≤ c) = false := decide_eq_false (by omega)
          have f122 : decide (c ≤ 122) = true := decide_eq_true (by omega)
          have f65 : decide (65 ≤ c) = true := decide_eq_true (by omega)
          have f90 : decide (c ≤ 90) = false := decide_eq_false (by omega)
          have f48 : decide (c < 48) = false := decide_eq_false (by omega)
          have f57 : decide (57 < c) = true := decide_eq_true (by omega)
          by_cases hp0 : pos = 0
          · subst hp0
            have HN := Aside0.mk (show nameC 0 c = false from by unfold nameC; rw [show letterB c = false from decide_eq_false (by omega)]; rfl)
            clear v0 v1 v2 hix
            go_wp2
            go_ret
            exact ⟨by rw [HA.out, HS.out, HN.out, Bool.false_and]; rfl, Lib.below_iterAt hb (Nat.le_refl _) s (0 + 1)⟩
          · have hz1 : (((pos : Nat) : Int) == 0) = false := beq_eq_false_iff_ne.2 (by omega)
            have hz2 : (pos == 0) = false := beq_eq_false_iff_ne.2 hp0
            have HN := Aside0.mk (show nameC pos c = false from by unfold nameC; rw [show letterB c = false from decide_eq_false (by omega), show otherB c = false from decide_eq_false (by omega), Bool.and_false]; rfl)
            have hgz : 0 ≤ c ∧ c < 128 := by omega
            have HI := Aside0.mk (show Lib.indexByte [45, 95, 46, 47] c.toNat.toUInt8 = (-1) from by rw [hix.out]; repeat (first | rw [if_pos (by omega)] | rw [if_neg (by omega)]))
            have HZ := Aside0.mk hgz
            clear v0 v1 v2 hix hgz
            go_wp2_with (go_at_call 105; refine (rune_low c _ HZ.out HI.out _).mono ?_; rintro e w2 ⟨rfl, rfl⟩)
            go_ret
            exact ⟨by rw [HA.out, HS.out, HN.out, Bool.false_and]; rfl, Lib.below_iterAt hb (Nat.le_refl _) s (pos + 1)⟩
        · have v0 := v1
          have f97 : decide (97 ≤ c) = true := decide_eq_true (by omega)
          have f122 : decide (c ≤ 122) = true := decide_eq_true (by omega)
          have f65 : decide (65 ≤ c) = true := decide_eq_true (by omega)
          have f90 : decide (c ≤ 90) = false := decide_eq_false (by omega)
          have f48 : decide (c < 48) = false := decide_eq_false (by omega)
          have f57 : decide (57 < c) = true := decide_eq_true (by omega)
          have HN := Aside0.mk (show nameC pos c = true from by unfold nameC; rw [show letterB c = true from decide_eq_true (by omega)]; rfl)
          clear v0 v1 v2 hix
          go_wp2
          go_roundw
          case rel => exact ⟨pos + 1, by omega, Lib.iterAt_heap wr w.heap.size s pos (pos + 1) hit, Lib.below_iterAt hb (Nat.le_refl _) s (pos + 1), ⟨by rw [HA.out, HS.out, HN.out, Bool.true_and]⟩⟩
          case measure => simp only [World.iterPos, Lib.iterAt_heap wr w.heap.size s pos (pos + 1) hit, hit]; omega
        · have v0 := v1
          have f97 : decide (97 ≤ c) = true := decide_eq_true (by omega)
          have f122 : decide (c ≤ 122) = false := decide_eq_false (by omega)
          have f65 : decide (65 ≤ c) = true := decide_eq_true (by omega)
          have f90 : decide (c ≤ 90) = false := decide_eq_false (by omega)
          have f48 : decide (c < 48) = false := decide_eq_false (by omega)
          have f57 : decide (57 < c) = true := decide_eq_true (by omega)
          by_cases hp0 : pos = 0
          · subst hp0
            have HN := Aside0.mk (show nameC 0 c = false from by unfold nameC; rw [show letterB c = false from decide_eq_false (by omega)]; rfl)
            clear v0 v1 v2 hix
            go_wp2
            go_ret
            exact ⟨by rw [HA.out, HS.out, HN.out, Bool.false_and]; rfl, Lib.below_iterAt hb (Nat.le_refl _) s (0 + 1)⟩
          · have hz1 : (((pos : Nat) : Int) == 0) = false := beq_eq_false_iff_ne.2 (by omega)
            have hz2 : (pos == 0) = false := beq_eq_false_iff_ne.2 hp0
            have HN := Aside0.mk (show nameC pos c = false from by unfold nameC; rw [show letterB c = false from decide_eq_false (by omega), show otherB c = false from decide_eq_false (by omega), Bool.and_false]; rfl)
            have hgz : 0 ≤ c ∧ c < 128 := by omega
            have HI := Aside0.mk (show Lib.indexByte [45, 95, 46, 47] c.toNat.toUInt8 = (-1) from by rw [hix.out]; repeat (first | rw [if_pos (by omega)] | rw [if_neg (by omega)]))
            have HZ := Aside0.mk hgz
            clear v0 v1 v2 hix hgz
            go_wp2_with (go_at_call 105; refine (rune_low c _ HZ.out HI.out _).mono ?_; rintro e w2 ⟨rfl, rfl⟩)
            go_ret
            exact ⟨by rw [HA.out, HS.out, HN.out, Bool.false_and]; rfl, Lib.below_iterAt hb (Nat.le_refl _) s (pos + 1)⟩
      · have hge : 128 ≤ (s[pos]'hlt).toNat := by
          have : ((s[pos]'hlt).toNat : Int) = bt s pos := by simp [bt, hlt]
          omega
        have hnx : ∀ ty, (Instr.next (.pointer (some ⟨w.heap.size, 0, none⟩)) true ty).run Tryd.prog wr = .ok (.tuple #[.bool true, .int .i64 pos, .int .i32 (Utf8.decode s pos).1]) (wr.iterAt w.heap.size s (pos + (Utf8.decode s pos).2)) := fun ty => Lib.run_next_any_at wr w.heap.size s pos ty hit hlt
        obtain ⟨d1, d2⟩ := decode_high s pos hlt hge
        generalize hD : (Utf8.decode s pos).2 = D at hnx
        generalize hR : ((Utf8.decode s pos).1 : Nat) = R at hnx d1
        clear d2 hD hR
        have HN := Aside0.mk (show nameC pos (bt s pos) = false from by unfold nameC; rw [show letterB (bt s pos) = false from decide_eq_false (by omega), show otherB (bt s pos) = false from decide_eq_false (by omega), Bool.and_false]; rfl)
        have f97 : decide ((97 : Int) ≤ R) = true := decide_eq_true (by omega)
        have f122 : decide ((R : Int) ≤ 122) = false := decide_eq_false (by omega)
        have f65 : decide ((65 : Int) ≤ R) = true := decide_eq_true (by omega)
        have f90 : decide ((R : Int) ≤ 90) = false := decide_eq_false (by omega)
        have f48 : decide ((R : Int) < 48) = false := decide_eq_false (by omega)
        have f57 : decide ((57 : Int) < R) = true := decide_eq_true (by omega)
        have g97 : decide (97 ≤ R) = true := decide_eq_true (by omega)
        have g122 : decide (R ≤ 122) = false := decide_eq_false (by omega)
        have g65 : decide (65 ≤ R) = true := decide_eq_true (by omega)
        have g90 : decide (R ≤ 90) = false := decide_eq_false (by omega)
        have g48 : decide (R < 48) = false := decide_eq_false (by omega)
        have g57 : decide (57 < R) = true := decide_eq_true (by omega)
        have HR := Aside0.mk (show 128 ≤ (R : Int) from by omega)
        have hbi := Lib.below_iterAt hb (Nat.le_refl _) s (pos + D)
        have HBI := Aside0.mk hbi
        clear h128 hge d1 hbi hc0
        by_cases hp0 : pos = 0
        · subst hp0
          go_wp2
          go_ret
          exact ⟨by rw [HA.out, HS.out, HN.out, Bool.false_and]; rfl, Lib.below_iterAt hb (Nat.le_refl _) s _⟩
        · have hz1 : (((pos : Nat) : Int) == 0) = false := beq_eq_false_iff_ne.2 (by omega)
          have hz2 : (pos == 0) = false := beq_eq_false_iff_ne.2 hp0
          go_wp2_with (go_at_call 105; refine (rune_high _ HR.out _).mono ?_; rintro e w2 ⟨rfl, hb2⟩; have HB2 := Aside0.mk hb2; clear hb2)
          go_ret
          exact ⟨by rw [HA.out, HS.out, HN.out, Bool.false_and]; rfl, HBI.out.trans (HB2.out.mono HBI.out.size)⟩
    · have hnx : ∀ ty, (Instr.next (.pointer (some ⟨w.heap.size, 0, none⟩)) true ty).run Tryd.prog wr = .ok (.tuple #[.bool false]) wr := fun ty => Lib.run_next_end_at wr w.heap.size s pos ty hit hlt
      go_wp2
      go_ret
      have e0 : s.size - pos = 0 := by omega
      exact ⟨by rw [HA.out, e0]; rfl, hb⟩
def lex_Name.f (a0 : ByteArray) : Option Bool := some (if 1 ≤ a0.size ∧ a0.size ≤ 32 then nameFrom a0 a0.size 0 else false)
set_option maxRecDepth 100000 in
theorem lex_Name.calls (a0 : ByteArray) (r : Bool) (w : World) (h : lex_Name.f a0 = some r) : Calls Tryd.prog 34 #[.string a0] w fun e w' => e = .returned (.bool r) ∧ Below w.heap.size w w' := by
  unfold lex_Name.f at h
  obtain rfl := Option.some.inj h
  clear h
  by_cases h1 : 1 ≤ a0.size
  · by_cases h2 : a0.size ≤ 32
    · rw [if_pos ⟨h1, h2⟩]
      exact name_calls a0 h1 h2 w
    · rw [if_neg (fun h => h2 h.2)]
      have he : (a0.toList == []) = false := by
        apply beq_eq_false_iff_ne.2
        intro h
        have := congrArg List.length h
        rw [ByteArray.toList_eq, Array.length_toList] at this
        have : a0.size = 0 := this
        omega
      have he2 : ¬ a0.toList = [] := beq_eq_false_iff_ne.1 he
      have hl : decide (32 < a0.size) = true := decide_eq_true (by omega)
      have hl2 : decide ((32 : Int) < a0.size) = true := decide_eq_true (by omega)
      clear h1 h2
      go_enter Tryd.func34, Tryd.ntmps34
      go_wp2
      go_ret
      exact ⟨rfl, Below.refl _ _⟩
  · rw [if_neg (fun h => h1 h.1)]
    have he : a0.toList = [] := by
      rw [ByteArray.toList_eq]
      exact List.length_eq_zero_iff.1 (by rw [Array.length_toList]; show a0.size = 0; omega)
    have he1 : (a0.toList == []) = true := beq_iff_eq.2 he
    clear h1
    go_enter Tryd.func34, Tryd.ntmps34
    go_wp2
    go_ret
    exact ⟨rfl, Below.refl _ _⟩


/-! ### lex_Number: function 35 -/
/-- A number that Atoi reads and Itoa writes so again. -/
def numR (a0 : ByteArray) (a1 : Int) : Int × Bool := match NumMath.backS a0.data.toList a1 with | some v => (v, true) | none => (0, false)
theorem bytes_same (l : List UInt8) (s : ByteArray) : (l == s.toList) = decide (l = s.data.toList) := by
  rw [ByteArray.toList_eq]
  by_cases h : l = s.data.toList
  · rw [decide_eq_true h]; exact beq_iff_eq.2 h
  · rw [decide_eq_false h]; exact beq_eq_false_iff_ne.2 h
def lex_Number.f (a0 : ByteArray) (a1 : Int) : Option (Int × Bool) := if a0.size ≤ 281474976710656 then some (numR a0 a1) else none
set_option maxHeartbeats 1000000 in
theorem lex_Number.calls (a0 : ByteArray) (a1 : Int) (r1 : Int) (r2 : Bool) (w : World) (hG : Go.Proofs.YtbnihnggljagnaaDoor.WorldN.GW w) (h : lex_Number.f a0 a1 = some (r1, r2)) :
    Calls Tryd.prog 35 #[.string a0, .int .i64 a1] w fun e w' => e = .returned (.tuple #[.int .i64 r1, .bool r2]) ∧ Below w.heap.size w w' := by
  have HG := Aside0.mk hG.num
  clear hG
  unfold lex_Number.f at h
  by_cases hl : a0.size ≤ 281474976710656
  · rw [if_pos hl] at h
    have h := Option.some.inj h
    unfold numR NumMath.backS at h
    have HL := Aside0.mk hl
    clear hl
    rcases ha : Lib.atoiAll a0.data.toList with v | _ | _
    · have hb := NumMath.atoi_bound _ _ ha
      rw [ha] at h
      simp only at h
      have HA := Aside0.mk ha
      clear ha
      have b1 := hb.1
      have b2 := hb.2
      clear hb
      by_cases h1 : v < 0
      · rw [if_pos (.inl h1)] at h
        obtain ⟨rfl, rfl⟩ := Prod.mk.inj h
        clear h
        have h1b := decide_eq_true h1
        clear h1
        go_enter Tryd.func35, Tryd.ntmps35
        go_wp2_with (go_at_call 106; refine (Tryd.strconv_Atoi_ok a0 (by have := HL.out; omega) v HA.out _).mono ?_; rintro e w1 ⟨rfl, hw1⟩; have HB := Aside0.mk (show Below w.heap.size w w1 from by (rcases hw1 with rfl | ⟨t, rfl⟩; exact Below.refl _ _; exact Lib.bytesWorld_below _ _ _)); clear hw1)
        go_ret2
        exact ⟨rfl, HB.out⟩
      by_cases h2 : v > a1
      · rw [if_pos (.inr (.inl h2))] at h
        obtain ⟨rfl, rfl⟩ := Prod.mk.inj h
        clear h
        have h1b := decide_eq_false h1
        have h2b : decide (v > a1) = true := decide_eq_true h2
        have h2c : decide (a1 < v) = true := decide_eq_true h2
        clear h1 h2
        go_enter Tryd.func35, Tryd.ntmps35
        go_wp2_with (go_at_call 106; refine (Tryd.strconv_Atoi_ok a0 (by have := HL.out; omega) v HA.out _).mono ?_; rintro e w1 ⟨rfl, hw1⟩; have HB := Aside0.mk (show Below w.heap.size w w1 from by (rcases hw1 with rfl | ⟨t, rfl⟩; exact Below.refl _ _; exact Lib.bytesWorld_below _ _ _)); clear hw1)
        go_ret2
        exact ⟨rfl, HB.out⟩
      have h1b := decide_eq_false h1
      have h2b : decide (v > a1) = false := decide_eq_false h2
      have h2c : decide (a1 < v) = false := decide_eq_false h2
      have hs := bytes_same (Lib.itoa v) a0
      by_cases h3 : Lib.itoa v = a0.data.toList
      · rw [if_neg (by rintro (h | h | h); exact h1 h; exact h2 h; exact h h3)] at h
        obtain ⟨rfl, rfl⟩ := Prod.mk.inj h
        clear h
        rw [decide_eq_true h3] at hs
        clear h1 h2 h3
        go_enter Tryd.func35, Tryd.ntmps35
        go_wp2_with (first | (go_at_call 106; refine (Tryd.strconv_Atoi_ok a0 (by have := HL.out; omega) v HA.out _).mono ?_; rintro e w1 ⟨rfl, hw1⟩; have HB := Aside0.mk (show Below w.heap.size w w1 from by (rcases hw1 with rfl | ⟨t, rfl⟩; exact Below.refl _ _; exact Lib.bytesWorld_below _ _ _)); clear hw1) | (go_at_call 89; refine (Tryd.strconv_Itoa v b1 b2 _ (HG.out.below HB.out).tab).mono ?_; rintro e w2 ⟨rfl, k, os, rfl⟩))
        go_ret2
        exact ⟨rfl, HB.out.trans ((Lib.below_grow _ _ (Nat.le_refl _) _ _).mono HB.out.size)⟩
      · rw [if_pos (.inr (.inr h3))] at h
        obtain ⟨rfl, rfl⟩ := Prod.mk.inj h
        clear h
        rw [decide_eq_false h3] at hs
        clear h1 h2 h3
        go_enter Tryd.func35, Tryd.ntmps35
        go_wp2_with (first | (go_at_call 106; refine (Tryd.strconv_Atoi_ok a0 (by have := HL.out; omega) v HA.out _).mono ?_; rintro e w1 ⟨rfl, hw1⟩; have HB := Aside0.mk (show Below w.heap.size w w1 from by (rcases hw1 with rfl | ⟨t, rfl⟩; exact Below.refl _ _; exact Lib.bytesWorld_below _ _ _)); clear hw1) | (go_at_call 89; refine (Tryd.strconv_Itoa v b1 b2 _ (HG.out.below HB.out).tab).mono ?_; rintro e w2 ⟨rfl, k, os, rfl⟩))
        go_ret2
        exact ⟨rfl, HB.out.trans ((Lib.below_grow _ _ (Nat.le_refl _) _ _).mono HB.out.size)⟩
    · rw [ha] at h
      obtain ⟨rfl, rfl⟩ := Prod.mk.inj h
      clear h
      have HA1 := Aside0.mk (show ∀ v, Lib.atoiAll a0.data.toList ≠ .ok v from fun v e => by rw [ha] at e; cases e)
      have HA2 := Aside0.mk (show Lib.atoiAll a0.data.toList ≠ .range from fun e => by rw [ha] at e; cases e)
      clear ha
      obtain ⟨ev, hv, hev⟩ := HG.out.syn
      have HV := Aside0.mk hv
      clear hv
      go_enter Tryd.func35, Tryd.ntmps35
      go_wp2_with (go_at_call 106; refine (Tryd.strconv_Atoi_none a0 HL.out HA1.out HA2.out ev _ HV.out hev).mono ?_; rintro e w1 ⟨N, rfl, -, -, hb⟩; have HB := Aside0.mk hb; clear hb)
      go_ret2
      exact ⟨rfl, HB.out⟩
    · rw [ha] at h
      obtain ⟨rfl, rfl⟩ := Prod.mk.inj h
      clear h
      have HA := Aside0.mk ha
      clear ha
      obtain ⟨ev, hv, hev⟩ := HG.out.rng
      have HV := Aside0.mk hv
      clear hv
      go_enter Tryd.func35, Tryd.ntmps35
      go_wp2_with (go_at_call 106; refine (Tryd.strconv_Atoi_range a0 HL.out HA.out ev _ HV.out hev).mono ?_; rintro e w1 ⟨N, rfl, -, -, hb⟩; have HB := Aside0.mk hb; clear hb)
      go_ret2
      exact ⟨rfl, HB.out⟩
  · rw [if_neg hl] at h; cases h


/-! ### waymarkref01_digits: function 163 -/
def waymarkref01_digits.l0 : Nat → Int → ByteArray → Option (ByteArray)
 | 0, _, _ => none
 | k + 1, x0, x3 => if x0 > 9 then ((some (([(IntKind.u64.wrap (48 + (Int.tmod x0 10))) % 256] : List Int) : List Int)).bind fun y101 => (if (strOfNums y101).size + x3.size ≤ 9223372036854775807 then (waymarkref01_digits.l0 k (IntKind.u64.wrap (Int.tdiv x0 10)) ((strOfNums y101) ++ x3)) else (none))) else ((some (([(IntKind.u64.wrap (48 + x0)) % 256] : List Int) : List Int)).bind fun y104 => (if (strOfNums y104).size + x3.size ≤ 9223372036854775807 then (some ((strOfNums y104) ++ x3)) else (none)))
def waymarkref01_digits.f (k : Nat) (a0 : Int) : Option (ByteArray) := waymarkref01_digits.l0 k a0 (⟨#[]⟩ : ByteArray)
theorem waymarkref01_digits.mono_l : ∀ k, (∀ y0 y1, LeO (waymarkref01_digits.l0 k y0 y1) (waymarkref01_digits.l0 (k + 1) y0 y1))
 | 0 => fun _ _ r h => by simp [waymarkref01_digits.l0] at h
 | k + 1 => by
  have ih0 := waymarkref01_digits.mono_l k
  ·intro y0 y1
   unfold waymarkref01_digits.l0
   repeat' first
   | (with_reducible exact ih0 _ _)
   | (with_reducible exact LeO.refl _)
   | (with_reducible exact LeO.none _)
   | (with_reducible refine LeO.ite ?_ ?_)
   | (with_reducible refine LeO.bind ?_ (fun _ => ?_))
   | exact ih0 _ _
   | exact LeO.none _
   | refine LeO.ite ?_ ?_
   | refine LeO.bind ?_ (fun _ => ?_)
theorem waymarkref01_digits.mono : ∀ a0 k, LeO (waymarkref01_digits.f k a0) (waymarkref01_digits.f (k + 1) a0) := by
 intro a0 k
 have ih0 := waymarkref01_digits.mono_l k
 unfold waymarkref01_digits.f
 repeat' first
   | (with_reducible exact ih0 _ _)
   | (with_reducible exact LeO.refl _)
   | (with_reducible exact LeO.none _)
   | (with_reducible refine LeO.ite ?_ ?_)
   | (with_reducible refine LeO.bind ?_ (fun _ => ?_))
   | exact ih0 _ _
   | exact LeO.none _
   | refine LeO.ite ?_ ?_
   | refine LeO.bind ?_ (fun _ => ?_)
set_option maxHeartbeats 8000000 in
set_option maxRecDepth 100000 in
theorem waymarkref01_digits.calls (k : Nat) (a0 : Int) (r : ByteArray) (w : World) (h : waymarkref01_digits.f k a0 = some r) :
  Calls Tryd.prog 163 #[.int .u64 a0] w fun e w' => e = .returned (.string r) ∧ Below w.heap.size w w' := by
 have HB := Aside0.mk (Below.refl w.heap.size w)
 have H : (waymarkref01_digits.l0 k a0 (⟨#[]⟩ : ByteArray)) = some r := h
 clear h
 have H' := Aside0.mk H
 clear H
 go_enter Tryd.func163, Tryd.ntmps163
 go_wp2
 go_loopg [0, 3] k (fun kq v0 v3 w' => ∃ (x0_1 : Int) (x3_1 : ByteArray), v0 = .int .u64 x0_1 ∧ v3 = .string x3_1 ∧ Aside0 (waymarkref01_digits.l0 kq x0_1 x3_1 = some r) ∧ Aside0 (kq ≤ k) ∧ Aside0 (Below w.heap.size w w'))
 case atStart => exact ⟨(a0), ((⟨#[]⟩ : ByteArray)), (by first | rfl | (simp; done) | (simp [*]; done)), (by first | rfl | (simp; done) | (simp [*]; done)), H', ⟨Nat.le_refl _⟩, ⟨by repeat (first | (with_reducible first | exact HB.out | apply below_alloc | apply pw_below_drewN | apply below_drew1) | exact HB.out)⟩⟩
 case round =>
  clear H'
  try clear c1
  obtain ⟨x0_1, x3_1, rfl, rfl, HA, HK1, HB⟩ := hrel
  cases gk with
  | zero => exact absurd HA.out (by simp [waymarkref01_digits.l0])
  | succ k1 =>
   have H := HA.out
   clear HA
   simp only [waymarkref01_digits.l0] at H
   by_cases c2 : x0_1 > 9
   ·rw [if_pos c2] at H
    have c2b0 : decide (9 < x0_1) = true := decide_eq_true c2
    clear c2
    obtain ⟨y101, hy101⟩ : ∃ y_ : List Int, y_ = (([(IntKind.u64.wrap (48 + (Int.tmod x0_1 10))) % 256] : List Int)) := ⟨_, rfl⟩
    replace H : (if (strOfNums y101).size + x3_1.size ≤ 9223372036854775807 then (waymarkref01_digits.l0 k1 (IntKind.u64.wrap (Int.tdiv x0_1 10)) ((strOfNums y101) ++ x3_1)) else (none)) = some r := by first | (rw [hy101]; with_reducible exact H) | (have H2_ := (Option.bind_some _ _).symm.trans H; rw [hy101]; with_reducible exact H2_) | (have H2_ := (Option.bind_some _ _).symm.trans H; with_reducible exact H2_) | with_reducible exact H | (rw [hy101]; exact H) | exact H
    have Ny101 := Aside0.mk hy101
    clear hy101
    by_cases c3 : (strOfNums y101).size + x3_1.size ≤ 9223372036854775807
    ·rw [if_pos c3] at H
     have c3b0 := eq_true c3
     have c3b1 : decide ((strOfNums y101).size + x3_1.size ≤ 9223372036854775807) = true := decide_eq_true c3
     try have c3b2 : (9223372036854775807 < (strOfNums y101).size + x3_1.size) = False := eq_false (Nat.not_lt.2 c3)
     as_aux_lemma =>
      have H' := Aside0.mk H
      clear H
      go_wp2_with (first | ((with_reducible refine gate_dst (N := 10) rfl ?_); refine Kd.R_lit (Kd.int .u8) _ 5 ?hg (N := 10) ?hd (xs := ([(IntKind.u64.wrap (48 + (Int.tmod x0_1 10))) % 256] : List Int)) (inner := [.int .u8 ((IntKind.u64.wrap (48 + (Int.tmod x0_1 10))) % 256)]) (ok := fun _ => True) (okp := fun _ => True) ?hr ?hp (fun _ hk => hk) trivial (Below.refl _ _) (Nat.le_refl _) (by simp) ?_; (case hd => rfl); (case hg => rfl); (case hr => first | (go_simp; done) | (go_simp; rfl)); (case hp => exact (Reps.one (show Kd.M (Kd.int .u8) _ _ _ ((IntKind.u64.wrap (48 + (Int.tmod x0_1 10))) % 256) [.int .u8 ((IntKind.u64.wrap (48 + (Int.tmod x0_1 10))) % 256)] from rfl) (Reps.none _ _))); intro v102 w4 ho5 hb hg_ hnew_; clear hg_ hnew_; (first | rw [← Ny101.out] at ho5 | (simp only [Int.reduceToNat] at ho5; rw [← Ny101.out] at ho5)); have n0_ := Aside0.mk (Kd.R_lower ho5 (below_size (by repeat (first | (with_reducible first | exact HB.out | apply below_alloc | apply pw_below_drewN | apply below_drew1) | exact HB.out)))); have n1_ := Aside0.mk (below_step (by repeat (first | (with_reducible first | exact HB.out | apply below_alloc | apply pw_below_drewN | apply below_drew1) | exact HB.out)) hb); clear HB; have HO103 := n0_; have HB := n1_; clear n0_ n1_; clear hb ho5; have hcv6 := own_string (P := Tryd.prog) Tryd.underlying67 Tryd.underlying5 Tryd.underlying9 (Kd.own_of_R HO103.out)))
      go_roundg k1
      case measure => have := HK1.out; omega
      case rel => exact ⟨(IntKind.u64.wrap (Int.tdiv x0_1 10)), ((strOfNums y101) ++ x3_1), (by first | rfl | (simp; done) | (simp [*]; done)), (by first | rfl | (simp; done) | (simp [*]; done)), H', ⟨by have := HK1.out; omega⟩, ⟨by repeat (first | (with_reducible first | exact HB.out | apply below_alloc | apply pw_below_drewN | apply below_drew1) | exact HB.out)⟩⟩
    ·rw [if_neg c3] at H
     exact absurd H (by simp)
   ·rw [if_neg c2] at H
    have c2b0 : decide (9 < x0_1) = false := decide_eq_false c2
    clear c2
    obtain ⟨y104, hy104⟩ : ∃ y_ : List Int, y_ = (([(IntKind.u64.wrap (48 + x0_1)) % 256] : List Int)) := ⟨_, rfl⟩
    replace H : (if (strOfNums y104).size + x3_1.size ≤ 9223372036854775807 then (some ((strOfNums y104) ++ x3_1)) else (none)) = some r := by first | (rw [hy104]; with_reducible exact H) | (have H2_ := (Option.bind_some _ _).symm.trans H; rw [hy104]; with_reducible exact H2_) | (have H2_ := (Option.bind_some _ _).symm.trans H; with_reducible exact H2_) | with_reducible exact H | (rw [hy104]; exact H) | exact H
    have Ny104 := Aside0.mk hy104
    clear hy104
    by_cases c7 : (strOfNums y104).size + x3_1.size ≤ 9223372036854775807
    ·rw [if_pos c7] at H
     have c7b0 := eq_true c7
     have c7b1 : decide ((strOfNums y104).size + x3_1.size ≤ 9223372036854775807) = true := decide_eq_true c7
     try have c7b2 : (9223372036854775807 < (strOfNums y104).size + x3_1.size) = False := eq_false (Nat.not_lt.2 c7)
     as_aux_lemma =>
      obtain rfl := Option.some.inj H
      go_wp2_with (first | ((with_reducible refine gate_dst (N := 19) rfl ?_); refine Kd.R_lit (Kd.int .u8) _ 5 ?hg (N := 19) ?hd (xs := ([(IntKind.u64.wrap (48 + x0_1)) % 256] : List Int)) (inner := [.int .u8 ((IntKind.u64.wrap (48 + x0_1)) % 256)]) (ok := fun _ => True) (okp := fun _ => True) ?hr ?hp (fun _ hk => hk) trivial (Below.refl _ _) (Nat.le_refl _) (by simp) ?_; (case hd => rfl); (case hg => rfl); (case hr => first | (go_simp; done) | (go_simp; rfl)); (case hp => exact (Reps.one (show Kd.M (Kd.int .u8) _ _ _ ((IntKind.u64.wrap (48 + x0_1)) % 256) [.int .u8 ((IntKind.u64.wrap (48 + x0_1)) % 256)] from rfl) (Reps.none _ _))); intro v105 w8 ho9 hb hg_ hnew_; clear hg_ hnew_; (first | rw [← Ny104.out] at ho9 | (simp only [Int.reduceToNat] at ho9; rw [← Ny104.out] at ho9)); have n0_ := Aside0.mk (Kd.R_lower ho9 (below_size (by repeat (first | (with_reducible first | exact HB.out | apply below_alloc | apply pw_below_drewN | apply below_drew1) | exact HB.out)))); have n1_ := Aside0.mk (below_step (by repeat (first | (with_reducible first | exact HB.out | apply below_alloc | apply pw_below_drewN | apply below_drew1) | exact HB.out)) hb); clear HB; have HO106 := n0_; have HB := n1_; clear n0_ n1_; clear hb ho9; have hcv10 := own_string (P := Tryd.prog) Tryd.underlying67 Tryd.underlying5 Tryd.underlying9 (Kd.own_of_R HO106.out)))
      go_ret
      exact ⟨by first | rfl | (simp [errW_none, errW_some] <;> rfl) | (simp [*, errW_none, errW_some] <;> rfl), by repeat (first | (with_reducible first | exact HB.out | apply below_alloc | apply pw_below_drewN | apply below_drew1) | exact HB.out)⟩
    ·rw [if_neg c7] at H
     exact absurd H (by simp)

/-! ### waymarkref01_Number: function 112 -/
def waymarkref01_Number.f (k : Nat) (a0 : Int) : Option (ByteArray) := if a0 < 0 then ((waymarkref01_digits.f k (IntKind.u64.wrap ((IntKind.u64.wrap (wrap64 (-(wrap64 (a0 + 1))))) + 1))).bind fun t107 => (if 1 + t107.size ≤ 9223372036854775807 then (some ((⟨#[45]⟩ : ByteArray) ++ t107)) else (none))) else ((waymarkref01_digits.f k (IntKind.u64.wrap (a0))).bind fun t108 => (some t108))
theorem waymarkref01_Number.mono : ∀ a0 k, LeO (waymarkref01_Number.f k a0) (waymarkref01_Number.f (k + 1) a0) := by
 intro a0 k
 unfold waymarkref01_Number.f
 repeat' first
   | (with_reducible exact waymarkref01_digits.mono _ _)
   | (with_reducible exact LeO.refl _)
   | (with_reducible exact LeO.none _)
   | (with_reducible refine LeO.ite ?_ ?_)
   | (with_reducible refine LeO.bind ?_ (fun _ => ?_))
   | exact waymarkref01_digits.mono _ _
   | exact LeO.none _
   | refine LeO.ite ?_ ?_
   | refine LeO.bind ?_ (fun _ => ?_)
set_option maxHeartbeats 8000000 in
set_option maxRecDepth 100000 in
theorem waymarkref01_Number.calls (k : Nat) (a0 : Int) (r : ByteArray) (w : World) (h : waymarkref01_Number.f k a0 = some r) :
  Calls Tryd.prog 112 #[.int .i64 a0] w fun e w' => e = .returned (.string r) ∧ Below w.heap.size w w' := by
 have HB := Aside0.mk (Below.refl w.heap.size w)
 have H : (if a0 < 0 then ((waymarkref01_digits.f k (IntKind.u64.wrap ((IntKind.u64.wrap (wrap64 (-(wrap64 (a0 + 1))))) + 1))).bind fun t107 => (if 1 + t107.size ≤ 9223372036854775807 then (some ((⟨#[45]⟩ : ByteArray) ++ t107)) else (none))) else ((waymarkref01_digits.f k (IntKind.u64.wrap (a0))).bind fun t108 => (some t108))) = some r := h
 clear h
 by_cases c2 : a0 < 0
 ·rw [if_pos c2] at H
  have c2b0 : decide (a0 < 0) = true := decide_eq_true c2
  clear c2
  replace H := Option.bind_eq_some_iff.mp H
  obtain ⟨t107, A30, H⟩ := H
  replace H : (if 1 + t107.size ≤ 9223372036854775807 then (some ((⟨#[45]⟩ : ByteArray) ++ t107)) else (none)) = some r := H
  have A3 := Aside0.mk A30
  clear A30
  by_cases c4 : 1 + t107.size ≤ 9223372036854775807
  ·rw [if_pos c4] at H
   have c4b0 := eq_true c4
   have c4b1 : decide (1 + t107.size ≤ 9223372036854775807) = true := decide_eq_true c4
   try have c4b2 : (9223372036854775807 < 1 + t107.size) = False := eq_false (Nat.not_lt.2 c4)
   as_aux_lemma =>
    obtain rfl := Option.some.inj H
    go_enter Tryd.func112, Tryd.ntmps112
    go_wp2_with (first | ((with_reducible refine gate_callee (f := 163) rfl ?_); refine goesL_ (some 10) rfl rfl Tryd.func163 (by kernel_rfl) rfl #[.int .u64 (IntKind.u64.wrap ((IntKind.u64.wrap (wrap64 (-(wrap64 (a0 + 1))))) + 1))] rfl (by (try simp only [List.map_toArray, List.map_cons, List.map_nil]); first | done | rfl | (simp only [List.length_drop, List.length_take]; rfl)) ?_; (with_reducible refine (waymarkref01_digits.calls k (IntKind.u64.wrap ((IntKind.u64.wrap (wrap64 (-(wrap64 (a0 + 1))))) + 1)) t107 _ A3.out).mono ?_); rintro e w5 ⟨rfl, hb⟩; refine ⟨_, rfl, ?_⟩; have n0_ := Aside0.mk (below_step (by repeat (first | (with_reducible first | exact HB.out | apply below_alloc | apply pw_below_drewN | apply below_drew1) | exact HB.out)) hb); clear HB; have HB := n0_; clear n0_; (try clear hb); (try clear hb2); (try clear hk); (try clear hi)))
    go_ret
    exact ⟨by first | rfl | (simp [errW_none, errW_some] <;> rfl) | (simp [*, errW_none, errW_some] <;> rfl), by repeat (first | (with_reducible first | exact HB.out | apply below_alloc | apply pw_below_drewN | apply below_drew1) | exact HB.out)⟩
  ·rw [if_neg c4] at H
   exact absurd H (by simp)
 ·rw [if_neg c2] at H
  have c2b0 : decide (a0 < 0) = false := decide_eq_false c2
  clear c2
  replace H := Option.bind_eq_some_iff.mp H
  obtain ⟨t108, A60, H⟩ := H
  replace H : (some t108) = some r := H
  have A6 := Aside0.mk A60
  clear A60
  as_aux_lemma =>
   obtain rfl := Option.some.inj H
   go_enter Tryd.func112, Tryd.ntmps112
   go_wp2_with (first | ((with_reducible refine gate_callee (f := 163) rfl ?_); refine goesL_ (some 14) rfl rfl Tryd.func163 (by kernel_rfl) rfl #[.int .u64 (IntKind.u64.wrap (a0))] rfl (by (try simp only [List.map_toArray, List.map_cons, List.map_nil]); first | done | rfl | (simp only [List.length_drop, List.length_take]; rfl)) ?_; (with_reducible refine (waymarkref01_digits.calls k (IntKind.u64.wrap (a0)) t108 _ A6.out).mono ?_); rintro e w7 ⟨rfl, hb⟩; refine ⟨_, rfl, ?_⟩; have n0_ := Aside0.mk (below_step (by repeat (first | (with_reducible first | exact HB.out | apply below_alloc | apply pw_below_drewN | apply below_drew1) | exact HB.out)) hb); clear HB; have HB := n0_; clear n0_; (try clear hb); (try clear hb2); (try clear hk); (try clear hi)))
   go_ret
   exact ⟨by first | rfl | (simp [errW_none, errW_some] <;> rfl) | (simp [*, errW_none, errW_some] <;> rfl), by repeat (first | (with_reducible first | exact HB.out | apply below_alloc | apply pw_below_drewN | apply below_drew1) | exact HB.out)⟩

end Go.Proofs.YtbnihnggljagnaaDoor.QLexWords
