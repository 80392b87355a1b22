-- Written by this session's program (wip/tools/printx.py) over the kit's print; the texts marked HAND are its own. Lean checks it.
import Derived.Test.YtbnihnggljagnaaQAddrCutsx0
namespace Go.Proofs.Ytbnihnggljagnaa.QAddrCuts
open Go.RowKit Go.Proofs.YtbnihnggljagnaaW.PrintWords Go.Proofs.YtbnihnggljagnaaW.PrintLast Go.Proofs.YtbnihnggljagnaaW.PrintMore
attribute [local go_sem] max2_int min2_int max_two min_two max_three min_three max_four min_four   -- for this text's walks alone
set_option linter.unusedVariables false
set_option linter.unusedSimpArgs false

/-! ### addr_Cut: function 8 -/

def pick (x y : Nat) : Nat → Nat
  | 0 => 0
  | e + 1 => if x % 2 ^ (e + 1) = 0 ∧ x + 2 ^ (e + 1) ≤ y then e + 1 else pick x y e
theorem pick_hit {x y e : Nat} (hy : x < y) (h1 : x % 2 ^ e = 0) (h2 : x + 2 ^ e ≤ y) : pick x y e = e := by
  cases e with
  | zero => rfl
  | succ e => rw [pick, if_pos ⟨h1, h2⟩]
theorem pow_le32 {e : Nat} (h : e ≤ 32) : 2 ^ e ≤ 4294967296 := by
  have := Nat.pow_le_pow_right (n := 2) (by omega) h
  simpa using this
theorem pick_miss {x y e : Nat} (h1 : 1 ≤ e) (h : ¬ (x % 2 ^ e = 0 ∧ x + 2 ^ e ≤ y)) : pick x y e = pick x y (e - 1) := by
  obtain ⟨d, rfl⟩ : ∃ d, e = d + 1 := ⟨e - 1, by omega⟩
  rw [pick, if_neg h]
  rfl
theorem half_pow {s e : Nat} (h : s = 2 ^ e) (h1 : 1 ≤ e) : Value.int .u64 ((s : Int) / 2) = .int .u64 ((2 ^ (e - 1) : Nat) : Int) := by
  obtain ⟨d, rfl⟩ : ∃ d, e = d + 1 := ⟨e - 1, by omega⟩
  congr 1
  rw [h, Nat.pow_succ]
  simp
theorem bitLen_pow (e : Nat) (he : e ≤ 62) : Lib.bitLen (2 ^ e) = e + 1 := by
  have hpos : 0 < 2 ^ e := Nat.pow_pos (by omega)
  obtain ⟨h1, h2, h3⟩ := Lib.bitLenAux_bounds 64 (2 ^ e) (Nat.pow_lt_pow_right (by omega) (by omega)) (by omega)
  have a1 : Lib.bitLenAux 64 (2 ^ e) - 1 ≤ e := (Nat.pow_le_pow_iff_right (by omega)).1 h2
  have a2 : e < Lib.bitLenAux 64 (2 ^ e) := (Nat.pow_lt_pow_iff_right (by omega)).1 h3
  show Lib.bitLenAux 64 (2 ^ e) = e + 1
  omega
theorem lz_pow (s e : Nat) (hs : s = 2 ^ e) (he : e ≤ 32) (h64 : s ≤ 4294967296) (w : World) :
    Calls Try.prog 50 #[.int .u64 (s : Int)] w fun r w' => r = .returned (.int .i64 (63 - (e : Int))) ∧ w' = w := by
  refine (Try.bits_LeadingZeros64 _ _ (by omega) (by omega)).mono ?_
  rintro r w' ⟨rfl, rfl⟩
  refine ⟨?_, rfl⟩
  rw [Int.toNat_natCast, hs, bitLen_pow e (by omega)]
  congr 2
  omega
theorem grown_set (w : World) (p : Addr) (u : Value) : w.grownBy (w.setCell p u) (some p.block) :=
  ⟨rfl, rfl, rfl, by simp [World.setCell], fun k _ hne => Below.heap_setCell _ _ _ _ (fun e => hne (by rw [e]))⟩
theorem grown_alloc' {w w1 : World} {row : Option Nat} (h : w.grownBy w1 row) (o : Obj) : w.grownBy (w1.alloc o) row :=
  ⟨h.os, h.tape, h.output, Nat.le_trans h.size (by simp), fun k hk hn => (Below.heap_alloc w1 o k (Nat.lt_of_lt_of_le hk h.size)).trans (h.block k hk hn)⟩
theorem grown_drew' {w w1 : World} {row : Option Nat} (h : w.grownBy w1 row) : w.grownBy w1.drew row := ⟨h.os, h.tape, h.output, h.size, h.block⟩
theorem ret_pair {x a b : Int} (h : a = b) : Ending.returned (.agg #[.int .u32 x, .int .i64 a]) = .returned (.agg #[.int .u32 x, .int .i64 b]) := by rw [h]
theorem own_end (A : Nat) (x y s : Nat) (o1 o2 : Obj) (w : World) (hA : w.heap[A]? = some (.cells #[.int .u64 x] 76 (0, 0))) :
    ((((w.setCell ⟨A, 0, none⟩ (.int .u64 ((x : Int) + (s : Int)))).alloc o1).alloc o2).drew).heap[A]? = some (.cells #[.int .u64 ((x + s : Nat) : Int)] 76 (0, 0)) ∧ w.grownBy ((((w.setCell ⟨A, 0, none⟩ (.int .u64 ((x : Int) + (s : Int)))).alloc o1).alloc o2).drew) (some A) := by
  have h1 := one_setCell hA (u := .int .u64 ((x : Int) + (s : Int)))
  refine ⟨blk_alloc (blk_alloc (by simpa using h1) o1) o2, grown_drew' (grown_alloc' (grown_alloc' (grown_set w _ _) o1) o2)⟩
set_option maxHeartbeats 400000 in
theorem next_calls (A : Nat) (x y : Nat) (hxy : x < y) (hy : y ≤ 4294967296) (w : World) (hA : w.heap[A]? = some (.cells #[.int .u64 x] 76 (0, 0))) (hB : w.heap[A+1]? = some (.cells #[.int .u64 y] 76 (0, 0))) :
    Calls Try.prog 49 #[.pointer (some ⟨A, 0, none⟩), .pointer (some ⟨A+1, 0, none⟩)] w fun e w' => e = .returned (.agg #[.int .u32 x, .int .i64 (32 - pick x y 32)]) ∧ w'.heap[A]? = some (.cells #[.int .u64 ((x + 2 ^ pick x y 32 : Nat) : Int)] 76 (0, 0)) ∧ w.grownBy w' (some A) := by
  have cA := cell_of_one hA
  have cB := cell_of_one hB
  have fA := free_of_one hA
  have lA := lt_of_block hA
  have lB := lt_of_block hB
  have cA' : ∀ o, (w.alloc o).cell? ⟨A, 0, none⟩ = some (.int .u64 x) := fun o => (World.cell?_alloc_past o A 0 lA).trans cA
  have cB' : ∀ o, (w.alloc o).cell? ⟨A+1, 0, none⟩ = some (.int .u64 y) := fun o => (World.cell?_alloc_past o (A+1) 0 lB).trans cB
  go_enter Try.func49, Try.ntmps49
  go_wp2_with fail
  go_loop [3] (fun s => ∃ e : Nat, e ≤ 32 ∧ s = .int .u64 ((2 ^ e : Nat) : Int) ∧ pick x y 32 = pick x y e) (fun s => (intOf s).toNat)
  case atStart => exact ⟨32, by omega, rfl, rfl⟩
  case round =>
    obtain ⟨e, he, rfl, hp⟩ := hrel
    have HP := Aside0.mk hp
    clear hp
    have hpow := pow_le32 he
    have hpos : 0 < 2 ^ e := Nat.pow_pos (by omega)
    obtain ⟨s, hs⟩ : ∃ s, s = 2 ^ e := ⟨_, rfl⟩
    rw [← hs] at hpow hpos ⊢
    have HS := Aside0.mk hs
    clear hs
    have hz := Try.bits_LeadingZeros64
    by_cases h1 : x % s = 0
    · by_cases h2 : x + s ≤ y
      · go_wp2_with fail
        go_region_with (go_at_call 50; refine (lz_pow s e HS.out he hpow _).mono ?_; rintro e w' ⟨rfl, rfl⟩)
        all_goals
          go_wp2
          refine bodyPost_ret (v := .agg #[.int .u32 x, .int .i64 (63 - (e : Int) - 31)]) (by simp [results, Try.results49, go_sem]) rfl ?_
          obtain ⟨q1, q2⟩ := own_end A x y s (.cells #[.int .u32 x, .int .i64 (63 - (e : Int) - 31)] 30) (.cells #[.int .u32 x, .int .i64 (63 - (e : Int) - 31)] 30) w hA
          have q3 : pick x y e = e := pick_hit hxy (by rw [← HS.out]; exact h1) (by rw [← HS.out]; exact h2)
          refine ⟨?_, ?_, q2⟩
          · exact ret_pair (by rw [HP.out, q3]; omega)
          · rw [HP.out, q3, ← HS.out]; exact q1
      · have he1 : 1 ≤ e := by
          rcases Nat.eq_zero_or_pos e with h0 | h0
          · have := HS.out; rw [h0] at this; omega
          · exact h0
        go_wp2_with fail
        go_round
        case rel => exact ⟨e - 1, by omega, half_pow HS.out he1, by rw [HP.out]; exact pick_miss he1 (by rw [← HS.out]; omega)⟩
        case measure => simp [intOf]; omega
    · have he1 : 1 ≤ e := by
        rcases Nat.eq_zero_or_pos e with h0 | h0
        · have := HS.out; rw [h0] at this; exfalso; apply h1; rw [this]; omega
        · exact h0
      go_wp2_with fail
      go_round
      case rel => exact ⟨e - 1, by omega, half_pow HS.out he1, by rw [HP.out]; exact pick_miss he1 (by rw [← HS.out]; omega)⟩
      case measure => simp [intOf]; omega

/-- The prefixes that cover what is from x on and below y. -/
def cuts (y : Nat) : Nat → Nat → List S30
  | 0, _ => []
  | k + 1, x => if x < y then (⟨(x : Int), 32 - (pick x y 32 : Int)⟩ : S30) :: cuts y k (x + 2 ^ pick x y 32) else []
def addr_Cut.f (a0 : Int) (a1 : Int) : Option ((List (S30)) × Int) :=
  if 0 ≤ a0 ∧ a0 ≤ 4294967295 ∧ 0 ≤ a1 ∧ a1 ≤ 4294967295 then (if a0 > a1 then some ([], 1) else some (cuts (a1.toNat + 1) (a1.toNat + 1 - a0.toNat) a0.toNat, 0)) else none
theorem cuts_stop (y k x : Nat) (h : y ≤ x) : cuts y k x = [] := by
  cases k with
  | zero => rfl
  | succ k => rw [cuts, if_neg (by omega)]
theorem cuts_fuel (y : Nat) : ∀ k m x, y - x ≤ k → y - x ≤ m → cuts y k x = cuts y m x := by
  intro k
  induction k with
  | zero => intro m x hk hm; rw [cuts_stop y 0 x (by omega), cuts_stop y m x (by omega)]
  | succ k ih =>
    intro m x hk hm
    by_cases h : x < y
    · obtain ⟨m, rfl⟩ : ∃ n, m = n + 1 := ⟨m - 1, by omega⟩
      have hp : 0 < 2 ^ pick x y 32 := Nat.pow_pos (by omega)
      rw [cuts, cuts, if_pos h, if_pos h, ih m (x + 2 ^ pick x y 32) (by omega) (by omega)]
    · rw [cuts_stop y _ x (by omega), cuts_stop y _ x (by omega)]
theorem cuts_go (y x : Nat) (h : x < y) : cuts y (y - x) x = (⟨(x : Int), 32 - (pick x y 32 : Int)⟩ : S30) :: cuts y (y - (x + 2 ^ pick x y 32)) (x + 2 ^ pick x y 32) := by
  have hp : 0 < 2 ^ pick x y 32 := Nat.pow_pos (by omega)
  obtain ⟨k, hk⟩ : ∃ k, y - x = k + 1 := ⟨y - x - 1, by omega⟩
  rw [hk, cuts, if_pos h, cuts_fuel y k (y - (x + 2 ^ pick x y 32)) _ (by omega) (by omega)]
theorem pick_le (x y : Nat) : ∀ e, pick x y e ≤ e := by
  intro e
  induction e with
  | zero => simp [pick]
  | succ e ih =>
    rw [pick]
    split
    · omega
    · omega
theorem pick_room (x y : Nat) (h : x < y) : ∀ e, x + 2 ^ pick x y e ≤ y := by
  intro e
  induction e with
  | zero => simp [pick]; omega
  | succ e ih =>
    rw [pick]
    split
    · rename_i h2; exact h2.2
    · exact ih
set_option maxHeartbeats 1000000 in
set_option maxRecDepth 100000 in
theorem addr_Cut.calls (a0 : Int) (a1 : Int) (r1 : List (S30)) (r2 : Int) (w : World) (h : addr_Cut.f a0 a1 = some (r1, r2)) :
    Calls Try.prog 8 #[.int .u32 a0, .int .u32 a1] w fun e w' => ∃ v0_ : Value, e = .returned (.tuple #[v0_, .int .i64 r2]) ∧ Kd.R k30 30 w' w.heap.size (fun _ => True) v0_ r1 ∧ Below w.heap.size w w' := by
  unfold addr_Cut.f at h
  by_cases hr : 0 ≤ a0 ∧ a0 ≤ 4294967295 ∧ 0 ≤ a1 ∧ a1 ≤ 4294967295
  · rw [if_pos hr] at h
    obtain ⟨b1, b2, b3, b4⟩ := hr
    by_cases c : a0 > a1
    · rw [if_pos c] at h
      simp only [Option.some.injEq, Prod.mk.injEq] at h
      obtain ⟨rfl, rfl⟩ := h
      go_enter Try.func8, Try.ntmps8
      go_wp2
      go_ret2
      exact ⟨_, rfl, Kd.R_nil _ _ _ _ _, Below.refl _ _⟩
    · rw [if_neg c] at h
      simp only [Option.some.injEq, Prod.mk.injEq] at h
      obtain ⟨h1, rfl⟩ := h
      obtain ⟨x0, rfl⟩ := Int.eq_ofNat_of_zero_le b1
      obtain ⟨y0, rfl⟩ := Int.eq_ofNat_of_zero_le b3
      rw [Int.toNat_natCast, Int.toNat_natCast] at h1
      have H1 := Aside0.mk h1
      clear h1
      have hc : decide ((y0 : Int) < (x0 : Int)) = false := by simp; omega
      have hc2 : decide (y0 < x0) = false := by simp; omega
      go_enter Try.func8, Try.ntmps8
      go_wp2_with fail
      go_loopg [9] (y0 + 1 - x0) (fun kq v9 W => ∃ (x : Nat) (xs : List S30), x ≤ y0 + 1 ∧ x0 ≤ x ∧ kq = y0 + 1 - x ∧ xs.length ≤ x - x0 ∧ Aside0 (xs ++ cuts (y0 + 1) (y0 + 1 - x) x = r1) ∧ Aside0 (W.heap[w.heap.size]? = some (.cells #[.int .u64 (x : Int)] 76 (0, 0))) ∧ Aside0 (W.heap[w.heap.size + 1]? = some (.cells #[.int .u64 ((y0 + 1 : Nat) : Int)] 76 (0, 0))) ∧ Aside0 (Kd.R k30 30 W w.heap.size (fun _ => True) v9 xs) ∧ Aside0 (Below w.heap.size w W))
      case atStart =>
        refine ⟨x0, [], by omega, by omega, rfl, by simp, ⟨by simpa using H1.out⟩, ⟨?_⟩, ⟨?_⟩, ⟨Kd.R_nil _ _ _ _ _⟩, ⟨below_alloc (below_alloc (Below.refl _ _) _) _⟩⟩
        · exact blk_alloc (blk_new w _) _
        · have := blk_new (w.alloc (.cells #[.int .u64 (x0 : Int)] 76)) (.cells #[.int .u64 ((y0 : Int) + 1)] 76)
          simpa using this
      case round =>
        obtain ⟨x, xs, hx, hx0, hq, hl, HX, HA, HB, HO, HW⟩ := hrel
        have HQ := Aside0.mk hq
        clear hq
        have cA := cell_of_one HA.out
        have cB := cell_of_one HB.out
        by_cases hlt : x < y0 + 1
        · have hd : decide ((x : Int) < ((y0 + 1 : Nat) : Int)) = true := by simp; omega
          have hroom := pick_room x (y0 + 1) hlt 32
          have hgo := Aside0.mk (cuts_go (y0 + 1) x hlt)
          have hpp : 0 < 2 ^ pick x (y0 + 1) 32 := Nat.pow_pos (by omega)
          have hl2 : xs.length < 8796093022208 := by omega
          have HS := Aside0.mk (blk_lt HB.out)
          obtain ⟨p, hp⟩ : ∃ p, p = pick x (y0 + 1) 32 := ⟨_, rfl⟩
          have hp32 : p ≤ 32 := by rw [hp]; exact pick_le _ _ _
          rw [← hp] at hgo hroom hpp
          have HP := Aside0.mk hp
          clear hp
          go_wp2_with fail
          refine (next_calls w.heap.size x (y0 + 1) hlt (by omega) wr HA.out HB.out).mono ?_
          rintro e W1 ⟨rfl, hA1, hG1⟩
          rw [← HP.out] at hA1 ⊢
          have HA1 := Aside0.mk hA1
          have HB1 := Aside0.mk (blk_grown HB.out hG1 (by simp))
          have HO1 := Aside0.mk (Kd.R_mono (Kd.R_grown (Kd.R_types HO.out HA.out (by decide)) hG1 (fun k hk => by simp; exact hk.2)) (fun _ _ => trivial))
          have HW1 := Aside0.mk (HW.out.grown hG1 (by have := HS.out; omega) (fun k hk => by cases hk; exact Nat.le_refl _))
          clear hA1 hG1 cA cB
          go_wp2_with ((with_reducible refine gate_builtin (b := .append) (xs := #[.tmp 22, .tmp 25]) rfl ?_); at_builtin; refine Kd.R_append k30 (w0 := w) w.heap.size rfl (.tmp 22) (.tmp 25) 24 30 (.agg #[(.int .u32 0), (.int .i64 0)]) 16 rfl Try.underlying24 info30 rfl (by decide) (by omega) u9 xs (⟨x, 32 - (p : Int)⟩ : S30) [.int .u32 x, .int .i64 (32 - (p : Int))] (fun _ => True) (fun _ => False) rfl rfl ?aP (fun _ hk => hk.elim) ?aF ?aO ?aB ?aS ?aL ?_; (case aP => exact k30_mkM _ _ _ (⟨x, 32 - (p : Int)⟩ : S30)); (case aF => exact (fun _ _ => trivial)); (case aO => exact HO1.out); (case aB => exact HW1.out); (case aS => exact HW1.out.size); (case aL => omega); intro v1 w2 ho hb hg hat; have HA2 := Aside0.mk (blk_grown HA1.out hg (Kd.R_ne HO1.out HA1.out (by decide))); have HB2 := Aside0.mk (blk_grown HB1.out hg (Kd.R_ne HO1.out HB1.out (by decide))); have HO2 := Aside0.mk ho; have HW2 := Aside0.mk hb; clear ho hb hg hat HA1 HB1 HO1 HW1)
          go_roundg (y0 + 1 - (x + 2 ^ p))
          case measure => have := HQ.out; omega
          case rel =>
            refine ⟨x + 2 ^ p, xs ++ [⟨x, 32 - (p : Int)⟩], by omega, by omega, rfl, by rw [List.length_append]; simp; omega, ⟨?_⟩, HA2, HB2, HO2, HW2⟩
            have h1 := HX.out
            rw [hgo.out] at h1
            rw [← h1, List.append_assoc]
            rfl
        · go_wp2_with fail
          go_ret2
          have hx1 : x = y0 + 1 := by omega
          refine ⟨_, rfl, ?_, HW.out⟩
          have := HX.out
          rw [cuts_stop _ _ _ (by omega), List.append_nil] at this
          rw [← this]
          exact HO.out
  · rw [if_neg hr] at h; cases h


/-! ### waymarkref01_size: function 51 -/
def waymarkref01_size.l0 : Nat → Int → Int → Option (Int)
  | 0, _, _ => none
  | k + 1, x3, x4 => if x4 < 32 then (waymarkref01_size.l0 k (IntKind.u64.wrap (2 * x3)) (wrap64 (x4 + 1))) else (some x3)
def waymarkref01_size.f (k : Nat) (a0 : Int) : Option (Int) := waymarkref01_size.l0 k 1 a0
theorem waymarkref01_size.mono_l : ∀ k, (∀ y0 y1, LeO (waymarkref01_size.l0 k y0 y1) (waymarkref01_size.l0 (k + 1) y0 y1))
  | 0 => fun _ _ r h => by simp [waymarkref01_size.l0] at h
  | k + 1 => by
    have ih0 := waymarkref01_size.mono_l k
    · intro y0 y1
      unfold waymarkref01_size.l0
      repeat' first
      | (with_reducible exact ih0 _ _)
      | (with_reducible exact LeO.refl _)
      | (with_reducible exact LeO.none _)
      | (with_reducible refine LeO.ite ?_ ?_)
      | (with_reducible refine LeO.bind ?_ (fun _ => ?_))
      | exact ih0 _ _
      | exact LeO.none _
      | refine LeO.ite ?_ ?_
      | refine LeO.bind ?_ (fun _ => ?_)
theorem waymarkref01_size.mono : ∀ a0 k, LeO (waymarkref01_size.f k a0) (waymarkref01_size.f (k + 1) a0) := by
  intro a0 k
  have ih0 := waymarkref01_size.mono_l k
  unfold waymarkref01_size.f
  repeat' first
      | (with_reducible exact ih0 _ _)
      | (with_reducible exact LeO.refl _)
      | (with_reducible exact LeO.none _)
      | (with_reducible refine LeO.ite ?_ ?_)
      | (with_reducible refine LeO.bind ?_ (fun _ => ?_))
      | exact ih0 _ _
      | exact LeO.none _
      | refine LeO.ite ?_ ?_
      | refine LeO.bind ?_ (fun _ => ?_)
set_option maxHeartbeats 8000000 in
set_option maxRecDepth 100000 in
theorem waymarkref01_size.calls (k : Nat) (a0 : Int) (r : Int) (w : World) (h : waymarkref01_size.f k a0 = some r) :
    Calls Try.prog 51 #[.int .i64 a0] w fun e w' => e = .returned (.int .u64 r) ∧ Drawn0 w w' := by
  have H : (waymarkref01_size.l0 k 1 a0) = some r := h
  clear h
  have H' := Aside0.mk H
  clear H
  go_enter Try.func51, Try.ntmps51
  go_wp2
  go_loopg [3, 4] k (fun kq v3 v4 w' => ∃ (x3_1 : Int) (x4_1 : Int), v3 = .int .u64 x3_1 ∧ v4 = .int .i64 x4_1 ∧ Aside0 (waymarkref01_size.l0 kq x3_1 x4_1 = some r) ∧ Aside0 (kq ≤ k) ∧ Drawn0 w w')
  case atStart => exact ⟨(1), (a0), (by first | rfl | (simp; done) | (simp [*]; done)), (by first | rfl | (simp; done) | (simp [*]; done)), H', ⟨Nat.le_refl _⟩, by repeat (first | exact Drawn0.refl _ | apply Drawn0.step)⟩
  case round =>
    clear H'
    obtain ⟨x3_1, x4_1, rfl, rfl, HA, HK1, ⟨m1, rfl⟩⟩ := hrel
    cases gk with
    | zero => exact absurd HA.out (by simp [waymarkref01_size.l0])
    | succ k1 =>
      have H := HA.out
      clear HA
      simp only [waymarkref01_size.l0] at H
      by_cases c2 : x4_1 < 32
      · rw [if_pos c2] at H
        have c2b0 : decide (x4_1 < 32) = true := decide_eq_true c2
        clear c2
        have H' := Aside0.mk H
        clear H
        go_wp2
        go_roundg k1
        case measure => have := HK1.out; omega
        case rel => exact ⟨(IntKind.u64.wrap (2 * x3_1)), (wrap64 (x4_1 + 1)), (by first | rfl | (simp; done) | (simp [*]; done)), (by first | rfl | (simp; done) | (simp [*]; done)), H', ⟨by have := HK1.out; omega⟩, by repeat (first | exact Drawn0.refl _ | apply Drawn0.step)⟩
      · rw [if_neg c2] at H
        have c2b0 : decide (x4_1 < 32) = false := decide_eq_false c2
        clear c2
        obtain rfl := Option.some.inj H
        go_wp2
        go_ret
        exact ⟨by first | rfl | (simp; done) | (simp [*]; done), by repeat (first | exact Drawn0.refl _ | apply Drawn0.step)⟩

/-! ### waymarkref01_Cut: function 9 -/
mutual
def waymarkref01_Cut.l0 : Nat → Int → List (S30) → Int → Option ((List (S30)) × Int)
  | 0, _, _, _ => none
  | k + 1, x1, x6, x7 => if x7 ≤ (IntKind.u64.wrap (x1)) then (waymarkref01_Cut.l1 k x1 x6 x7 0) else (some (x6, 0))
def waymarkref01_Cut.l1 : Nat → Int → List (S30) → Int → Int → Option ((List (S30)) × Int)
  | 0, _, _, _, _ => none
  | k + 1, x1, x6, x7, x8 => if x8 ≤ 32 then ((waymarkref01_size.f k x8).bind fun t101 => (if t101 = 0 then (none) else (if (Int.tmod x7 t101) = 0 then ((waymarkref01_size.f k x8).bind fun t102 => (if (IntKind.u64.wrap ((IntKind.u64.wrap (x7 + t102)) - 1)) ≤ (IntKind.u64.wrap (x1)) then (if x6.length < 8796093022208 then ((waymarkref01_size.f k x8).bind fun t106 => (waymarkref01_Cut.l0 k x1 (x6 ++ [(⟨(x7) % 4294967296, x8⟩ : S30)]) (IntKind.u64.wrap (x7 + t106)))) else (none)) else (waymarkref01_Cut.l1 k x1 x6 x7 (wrap64 (x8 + 1))))) else (waymarkref01_Cut.l1 k x1 x6 x7 (wrap64 (x8 + 1)))))) else (waymarkref01_Cut.l0 k x1 x6 x7)
end
def waymarkref01_Cut.f (k : Nat) (a0 : Int) (a1 : Int) : Option ((List (S30)) × Int) := if a0 > a1 then (some (([] : List (S30)), 1)) else (waymarkref01_Cut.l0 k a1 ([] : List (S30)) (IntKind.u64.wrap (a0)))
theorem waymarkref01_Cut.mono_l : ∀ k, (∀ y0 y1 y2, LeO (waymarkref01_Cut.l0 k y0 y1 y2) (waymarkref01_Cut.l0 (k + 1) y0 y1 y2)) ∧ (∀ y0 y1 y2 y3, LeO (waymarkref01_Cut.l1 k y0 y1 y2 y3) (waymarkref01_Cut.l1 (k + 1) y0 y1 y2 y3))
  | 0 => ⟨fun _ _ _ r h => by simp [waymarkref01_Cut.l0] at h, fun _ _ _ _ r h => by simp [waymarkref01_Cut.l1] at h⟩
  | k + 1 => by
    obtain ⟨ih0, ih1⟩ := waymarkref01_Cut.mono_l k
    refine ⟨?_, ?_⟩
    · intro y0 y1 y2
      unfold waymarkref01_Cut.l0
      repeat' first
      | (with_reducible exact ih0 _ _ _)
      | (with_reducible exact ih1 _ _ _ _)
      | (with_reducible exact waymarkref01_size.mono _ _)
      | (with_reducible exact LeO.refl _)
      | (with_reducible exact LeO.none _)
      | (with_reducible refine LeO.ite ?_ ?_)
      | (with_reducible refine LeO.bind ?_ (fun _ => ?_))
      | exact ih0 _ _ _
      | exact ih1 _ _ _ _
      | exact waymarkref01_size.mono _ _
      | exact LeO.none _
      | refine LeO.ite ?_ ?_
      | refine LeO.bind ?_ (fun _ => ?_)
    · intro y0 y1 y2 y3
      unfold waymarkref01_Cut.l1
      repeat' first
      | (with_reducible exact ih0 _ _ _)
      | (with_reducible exact ih1 _ _ _ _)
      | (with_reducible exact waymarkref01_size.mono _ _)
      | (with_reducible exact LeO.refl _)
      | (with_reducible exact LeO.none _)
      | (with_reducible refine LeO.ite ?_ ?_)
      | (with_reducible refine LeO.bind ?_ (fun _ => ?_))
      | exact ih0 _ _ _
      | exact ih1 _ _ _ _
      | exact waymarkref01_size.mono _ _
      | exact LeO.none _
      | refine LeO.ite ?_ ?_
      | refine LeO.bind ?_ (fun _ => ?_)
theorem waymarkref01_Cut.mono : ∀ a0 a1 k, LeO (waymarkref01_Cut.f k a0 a1) (waymarkref01_Cut.f (k + 1) a0 a1) := by
  intro a0 a1 k
  obtain ⟨ih0, ih1⟩ := waymarkref01_Cut.mono_l k
  unfold waymarkref01_Cut.f
  repeat' first
      | (with_reducible exact ih0 _ _ _)
      | (with_reducible exact ih1 _ _ _ _)
      | (with_reducible exact waymarkref01_size.mono _ _)
      | (with_reducible exact LeO.refl _)
      | (with_reducible exact LeO.none _)
      | (with_reducible refine LeO.ite ?_ ?_)
      | (with_reducible refine LeO.bind ?_ (fun _ => ?_))
      | exact ih0 _ _ _
      | exact ih1 _ _ _ _
      | exact waymarkref01_size.mono _ _
      | exact LeO.none _
      | refine LeO.ite ?_ ?_
      | refine LeO.bind ?_ (fun _ => ?_)
set_option maxHeartbeats 8000000 in
set_option maxRecDepth 100000 in
theorem waymarkref01_Cut.calls (k : Nat) (a0 : Int) (a1 : Int) (r1 : List (S30)) (r2 : Int) (w : World) (h : waymarkref01_Cut.f k a0 a1 = some (r1, r2)) :
    Calls Try.prog 9 #[.int .u32 a0, .int .u32 a1] w fun e w' => ∃ v0_ : Value, e = .returned (.tuple #[v0_, .int .i64 r2]) ∧ Kd.R k30 30 w' w.heap.size (fun _ => True) v0_ r1 ∧ Below w.heap.size w w' := by
  have hu30 := Try.underlying30
  have HB := Aside0.mk (Below.refl w.heap.size w)
  have H : (if a0 > a1 then (some (([] : List (S30)), 1)) else (waymarkref01_Cut.l0 k a1 ([] : List (S30)) (IntKind.u64.wrap (a0)))) = some (r1, r2) := h
  clear h
  by_cases c3 : a0 > a1
  · rw [if_pos c3] at H
    have c3b0 : decide (a1 < a0) = true := decide_eq_true c3
    clear c3
    simp only [Option.some.injEq, Prod.mk.injEq] at H
    obtain ⟨rfl, rfl⟩ := H
    go_enter Try.func9, Try.ntmps9
    go_wp2
    go_ret2
    exact ⟨_, by first | rfl | (simp [errW_none, errW_some] <;> rfl) | (simp [*, errW_none, errW_some] <;> rfl), by first | exact Kd.R_nil _ _ _ _ _ | exact Kd.N_nil _ _ _ _ _ | exact Kd.V_nil _ _ _ _ _ | exact Kd.Q_nil _ _ _ _ _ | exact Kd.S_nil _ _ _ _ _, by repeat (first | (with_reducible first | exact HB.out | apply below_alloc | apply pw_below_drewN | apply below_drew1) | exact HB.out)⟩
  · rw [if_neg c3] at H
    have c3b0 : decide (a1 < a0) = false := decide_eq_false c3
    clear c3
    have H' := Aside0.mk H
    clear H
    go_enter Try.func9, Try.ntmps9
    go_wp2
    go_loopg [6, 7] k (fun kq v6 v7 w' => ∃ (x6_1 : List (S30)) (x7_1 : Int), v7 = .int .u64 x7_1 ∧ Aside0 (waymarkref01_Cut.l0 kq a1 x6_1 x7_1 = some (r1, r2)) ∧ Aside0 (kq ≤ k) ∧ Aside0 (Kd.R k30 30 w' w.heap.size (fun _ => True) v6 x6_1) ∧ Aside0 (Below w.heap.size w w'))
    case atStart => exact ⟨(([] : List (S30))), (IntKind.u64.wrap (a0)), (by first | rfl | (simp; done) | (simp [*]; done)), H', ⟨Nat.le_refl _⟩, ⟨by first | exact Kd.R_nil _ _ _ _ _ | exact Kd.N_nil _ _ _ _ _ | exact Kd.V_nil _ _ _ _ _ | exact Kd.Q_nil _ _ _ _ _ | exact Kd.S_nil _ _ _ _ _⟩, ⟨by repeat (first | (with_reducible first | exact HB.out | apply below_alloc | apply pw_below_drewN | apply below_drew1) | exact HB.out)⟩⟩
    case round =>
      clear H'
      try clear p2
      try clear c3
      try clear c3b0
      obtain ⟨x6_1, x7_1, rfl, HA, HK1, HO_6, HB⟩ := hrel
      cases gk with
      | zero => exact absurd HA.out (by simp [waymarkref01_Cut.l0])
      | succ k1 =>
        have H := HA.out
        clear HA
        simp only [waymarkref01_Cut.l0] at H
        by_cases c4 : x7_1 ≤ (IntKind.u64.wrap (a1))
        · rw [if_pos c4] at H
          have c4b0 : decide (x7_1 ≤ (IntKind.u64.wrap (a1))) = true := decide_eq_true c4
          clear c4
          have H' := Aside0.mk H
          clear H
          go_wp2
          go_loopg [6, 7, 8] k1 (fun kq v6 v7 v8 w' => ∃ (x6_2 : List (S30)) (x7_2 : Int) (x8_2 : Int), v7 = .int .u64 x7_2 ∧ v8 = .int .i64 x8_2 ∧ Aside0 (waymarkref01_Cut.l1 kq a1 x6_2 x7_2 x8_2 = some (r1, r2)) ∧ Aside0 (kq ≤ k1) ∧ Aside0 (Kd.R k30 30 w' w.heap.size (fun _ => True) v6 x6_2) ∧ Aside0 (Below w.heap.size w w'))
          case atStart => exact ⟨(x6_1), (x7_1), (0), (by first | rfl | (simp; done) | (simp [*]; done)), (by first | rfl | (simp; done) | (simp [*]; done)), H', ⟨Nat.le_refl _⟩, ⟨by (with_reducible repeat (first | apply Kd.R_alloc | apply Kd.R_drewN | apply Kd.R_drew)); exact HO_6.out⟩, ⟨by repeat (first | (with_reducible first | exact HB.out | apply below_alloc | apply pw_below_drewN | apply below_drew1) | exact HB.out)⟩⟩
          case round =>
            clear H'
            try clear p2
            try clear c3
            try clear c3b0
            try clear c4
            try clear c4b0
            try clear p2
            obtain ⟨x6_2, x7_2, x8_2, rfl, rfl, HA, HK2, HO_6, HB⟩ := hrel
            cases gk with
            | zero => exact absurd HA.out (by simp [waymarkref01_Cut.l1])
            | succ k2 =>
              have H := HA.out
              clear HA
              simp only [waymarkref01_Cut.l1] at H
              by_cases c5 : x8_2 ≤ 32
              · rw [if_pos c5] at H
                have c5b0 : decide (x8_2 ≤ 32) = true := decide_eq_true c5
                clear c5
                replace H := Option.bind_eq_some_iff.mp H
                obtain ⟨t101, A60, H⟩ := H
                replace H : (if t101 = 0 then (none) else (if (Int.tmod x7_2 t101) = 0 then ((waymarkref01_size.f k2 x8_2).bind fun t102 => (if (IntKind.u64.wrap ((IntKind.u64.wrap (x7_2 + t102)) - 1)) ≤ (IntKind.u64.wrap (a1)) then (if x6_2.length < 8796093022208 then ((waymarkref01_size.f k2 x8_2).bind fun t106 => (waymarkref01_Cut.l0 k2 a1 (x6_2 ++ [(⟨(x7_2) % 4294967296, x8_2⟩ : S30)]) (IntKind.u64.wrap (x7_2 + t106)))) else (none)) else (waymarkref01_Cut.l1 k2 a1 x6_2 x7_2 (wrap64 (x8_2 + 1))))) else (waymarkref01_Cut.l1 k2 a1 x6_2 x7_2 (wrap64 (x8_2 + 1))))) = some (r1, r2) := H
                have A6 := Aside0.mk A60
                clear A60
                by_cases c7 : t101 = 0
                · rw [if_pos c7] at H
                  exact absurd H (by simp)
                · rw [if_neg c7] at H
                  have c7b0 : (t101 == 0) = false := beq_eq_false_iff_ne.mpr c7
                  have c7b1 : (t101 != 0) = true := bne_iff_ne.mpr c7
                  by_cases c8 : (Int.tmod x7_2 t101) = 0
                  · rw [if_pos c8] at H
                    have c8b0 : ((Int.tmod x7_2 t101) == 0) = true := beq_iff_eq.mpr c8
                    have c8b1 : ((Int.tmod x7_2 t101) != 0) = false := bne_eq_false_iff_eq.mpr c8
                    clear c8
                    replace H := Option.bind_eq_some_iff.mp H
                    obtain ⟨t102, A90, H⟩ := H
                    replace H : (if (IntKind.u64.wrap ((IntKind.u64.wrap (x7_2 + t102)) - 1)) ≤ (IntKind.u64.wrap (a1)) then (if x6_2.length < 8796093022208 then ((waymarkref01_size.f k2 x8_2).bind fun t106 => (waymarkref01_Cut.l0 k2 a1 (x6_2 ++ [(⟨(x7_2) % 4294967296, x8_2⟩ : S30)]) (IntKind.u64.wrap (x7_2 + t106)))) else (none)) else (waymarkref01_Cut.l1 k2 a1 x6_2 x7_2 (wrap64 (x8_2 + 1)))) = some (r1, r2) := H
                    have A9 := Aside0.mk A90
                    clear A90
                    by_cases c10 : (IntKind.u64.wrap ((IntKind.u64.wrap (x7_2 + t102)) - 1)) ≤ (IntKind.u64.wrap (a1))
                    · rw [if_pos c10] at H
                      have c10b0 : decide ((IntKind.u64.wrap ((IntKind.u64.wrap (x7_2 + t102)) - 1)) ≤ (IntKind.u64.wrap (a1))) = true := decide_eq_true c10
                      clear c10
                      by_cases c11 : x6_2.length < 8796093022208
                      · rw [if_pos c11] at H
                        have LMc11 := Aside0.mk c11
                        clear c11
                        obtain ⟨y103, hy103⟩ : ∃ y_ : List (S30), y_ = (x6_2 ++ [(⟨(x7_2) % 4294967296, x8_2⟩ : S30)]) := ⟨_, rfl⟩
                        replace H : ((waymarkref01_size.f k2 x8_2).bind fun t106 => (waymarkref01_Cut.l0 k2 a1 y103 (IntKind.u64.wrap (x7_2 + t106)))) = some (r1, r2) := by first | (rw [hy103]; with_reducible exact H) | (have H2_ := (Option.bind_some _ _).symm.trans H; rw [hy103]; with_reducible exact H2_) | (have H2_ := (Option.bind_some _ _).symm.trans H; with_reducible exact H2_) | with_reducible exact H | (rw [hy103]; exact H) | exact H
                        have Ny103 := Aside0.mk hy103
                        clear hy103
                        replace H := Option.bind_eq_some_iff.mp H
                        obtain ⟨t106, A120, H⟩ := H
                        replace H : (waymarkref01_Cut.l0 k2 a1 y103 (IntKind.u64.wrap (x7_2 + t106))) = some (r1, r2) := H
                        have A12 := Aside0.mk A120
                        clear A120
                        have H' := Aside0.mk H
                        clear H
                        go_wp2_with (first | ((with_reducible refine gate_callee (f := 51) rfl ?_); refine goesL_ (some 24) rfl rfl Try.func51 (by kernel_rfl) rfl #[.int .i64 x8_2] rfl (by (try simp only [List.map_toArray, List.map_cons, List.map_nil]); first | done | rfl | (simp only [List.length_drop, List.length_take]; rfl)) ?_; (with_reducible refine (waymarkref01_size.calls k2 x8_2 t101 _ A6.out).mono ?_); rintro e w' ⟨rfl, ⟨nd, rfl⟩⟩; refine ⟨_, rfl, ?_⟩) | (go_at_call 51; (with_reducible refine (waymarkref01_size.calls k2 x8_2 t102 _ A9.out).mono ?_); rintro e w' ⟨rfl, ⟨nd, rfl⟩⟩) | ((with_reducible refine gate_builtin (b := .append) (xs := #[.tmp 37, .tmp 42]) rfl ?_); at_builtin; refine Kd.R_append k30 (w0 := w) w.heap.size rfl (.tmp 37) (.tmp 42) 24 30 (.agg #[(.int .u32 0), (.int .i64 0)]) 16 rfl Try.underlying24 info30 rfl (by decide) (by omega) u6 x6_2 (⟨(x7_2) % 4294967296, x8_2⟩ : S30) [.int .u32 ((x7_2) % 4294967296), .int .i64 x8_2] (fun _ => True) (fun _ => False) rfl rfl ?aP (fun _ hk => hk.elim) ?aF ?aO ?aB ?aS ?aL ?_; (case aP => exact k30_mkM _ _ _ (⟨(x7_2) % 4294967296, x8_2⟩ : S30)); (case aB => exact (by repeat (first | (with_reducible first | exact HB.out | apply below_alloc | apply pw_below_drewN | apply below_drew1) | exact HB.out))); (case aF => exact (fun _ _ => trivial)); (case aO => exact (by (with_reducible repeat (first | apply Kd.R_alloc | apply Kd.R_drewN | apply Kd.R_drew)); exact HO_6.out)); (case aS => exact (below_size (by repeat (first | (with_reducible first | exact HB.out | apply below_alloc | apply pw_below_drewN | apply below_drew1) | exact HB.out)))); (case aL => have := LMc11.out; omega); intro v104 w13 ho hb hg hat; rw [← Ny103.out] at ho; have n0_ := Aside0.mk (hb); have n1_ := Aside0.mk (ho); clear HB; clear HO_6; have HB := n0_; have HO105 := n1_; clear n0_ n1_; clear ho hb hg hat) | ((with_reducible refine gate_callee (f := 51) rfl ?_); refine goesL_ (some 46) rfl rfl Try.func51 (by kernel_rfl) rfl #[.int .i64 x8_2] rfl (by (try simp only [List.map_toArray, List.map_cons, List.map_nil]); first | done | rfl | (simp only [List.length_drop, List.length_take]; rfl)) ?_; (with_reducible refine (waymarkref01_size.calls k2 x8_2 t106 _ A12.out).mono ?_); rintro e w' ⟨rfl, ⟨nd, rfl⟩⟩; refine ⟨_, rfl, ?_⟩))
                        go_roundg k2
                        case measure => have := HK1.out; have := HK2.out; omega
                        case rel => exact ⟨(y103), (IntKind.u64.wrap (x7_2 + t106)), (by first | rfl | (simp; done) | (simp [*]; done)), H', ⟨by have := HK1.out; have := HK2.out; omega⟩, ⟨by (with_reducible repeat (first | apply Kd.R_alloc | apply Kd.R_drewN | apply Kd.R_drew)); exact HO105.out⟩, ⟨by repeat (first | (with_reducible first | exact HB.out | apply below_alloc | apply pw_below_drewN | apply below_drew1) | exact HB.out)⟩⟩
                      · rw [if_neg c11] at H
                        exact absurd H (by simp)
                    · rw [if_neg c10] at H
                      have c10b0 : decide ((IntKind.u64.wrap ((IntKind.u64.wrap (x7_2 + t102)) - 1)) ≤ (IntKind.u64.wrap (a1))) = false := decide_eq_false c10
                      clear c10
                      have H' := Aside0.mk H
                      clear H
                      go_wp2_with (first | ((with_reducible refine gate_callee (f := 51) rfl ?_); refine goesL_ (some 24) rfl rfl Try.func51 (by kernel_rfl) rfl #[.int .i64 x8_2] rfl (by (try simp only [List.map_toArray, List.map_cons, List.map_nil]); first | done | rfl | (simp only [List.length_drop, List.length_take]; rfl)) ?_; (with_reducible refine (waymarkref01_size.calls k2 x8_2 t101 _ A6.out).mono ?_); rintro e w' ⟨rfl, ⟨nd, rfl⟩⟩; refine ⟨_, rfl, ?_⟩) | (go_at_call 51; (with_reducible refine (waymarkref01_size.calls k2 x8_2 t102 _ A9.out).mono ?_); rintro e w' ⟨rfl, ⟨nd, rfl⟩⟩))
                      go_roundg k2
                      case measure => have := HK1.out; have := HK2.out; omega
                      case rel => exact ⟨(x6_2), (x7_2), (wrap64 (x8_2 + 1)), (by first | rfl | (simp; done) | (simp [*]; done)), (by first | rfl | (simp; done) | (simp [*]; done)), H', ⟨by have := HK1.out; have := HK2.out; omega⟩, ⟨by (with_reducible repeat (first | apply Kd.R_alloc | apply Kd.R_drewN | apply Kd.R_drew)); exact HO_6.out⟩, ⟨by repeat (first | (with_reducible first | exact HB.out | apply below_alloc | apply pw_below_drewN | apply below_drew1) | exact HB.out)⟩⟩
                  · rw [if_neg c8] at H
                    have c8b0 : ((Int.tmod x7_2 t101) == 0) = false := beq_eq_false_iff_ne.mpr c8
                    have c8b1 : ((Int.tmod x7_2 t101) != 0) = true := bne_iff_ne.mpr c8
                    have H' := Aside0.mk H
                    clear H
                    go_wp2_with (first | ((with_reducible refine gate_callee (f := 51) rfl ?_); refine goesL_ (some 24) rfl rfl Try.func51 (by kernel_rfl) rfl #[.int .i64 x8_2] rfl (by (try simp only [List.map_toArray, List.map_cons, List.map_nil]); first | done | rfl | (simp only [List.length_drop, List.length_take]; rfl)) ?_; (with_reducible refine (waymarkref01_size.calls k2 x8_2 t101 _ A6.out).mono ?_); rintro e w' ⟨rfl, ⟨nd, rfl⟩⟩; refine ⟨_, rfl, ?_⟩))
                    go_roundg k2
                    case measure => have := HK1.out; have := HK2.out; omega
                    case rel => exact ⟨(x6_2), (x7_2), (wrap64 (x8_2 + 1)), (by first | rfl | (simp; done) | (simp [*]; done)), (by first | rfl | (simp; done) | (simp [*]; done)), H', ⟨by have := HK1.out; have := HK2.out; omega⟩, ⟨by (with_reducible repeat (first | apply Kd.R_alloc | apply Kd.R_drewN | apply Kd.R_drew)); exact HO_6.out⟩, ⟨by repeat (first | (with_reducible first | exact HB.out | apply below_alloc | apply pw_below_drewN | apply below_drew1) | exact HB.out)⟩⟩
              · rw [if_neg c5] at H
                have c5b0 : decide (x8_2 ≤ 32) = false := decide_eq_false c5
                clear c5
                have H' := Aside0.mk H
                clear H
                go_wp2
                go_roundg k2
                case measure => have := HK1.out; have := HK2.out; omega
                case rel => exact ⟨(x6_2), (x7_2), (by first | rfl | (simp; done) | (simp [*]; done)), H', ⟨by have := HK1.out; have := HK2.out; omega⟩, ⟨by (with_reducible repeat (first | apply Kd.R_alloc | apply Kd.R_drewN | apply Kd.R_drew)); exact HO_6.out⟩, ⟨by repeat (first | (with_reducible first | exact HB.out | apply below_alloc | apply pw_below_drewN | apply below_drew1) | exact HB.out)⟩⟩
        · rw [if_neg c4] at H
          have c4b0 : decide (x7_1 ≤ (IntKind.u64.wrap (a1))) = false := decide_eq_false c4
          clear c4
          simp only [Option.some.injEq, Prod.mk.injEq] at H
          obtain ⟨rfl, rfl⟩ := H
          go_wp2
          go_ret2
          exact ⟨_, by first | rfl | (simp [errW_none, errW_some] <;> rfl) | (simp [*, errW_none, errW_some] <;> rfl), by (with_reducible repeat (first | apply Kd.R_alloc | apply Kd.R_drewN | apply Kd.R_drew)); exact HO_6.out, by repeat (first | (with_reducible first | exact HB.out | apply below_alloc | apply pw_below_drewN | apply below_drew1) | exact HB.out)⟩

/-! ### waymarkref01_Same: function 10 -/
def waymarkref01_Same.l0 : Nat → List (S30) → List (S30) → Int → Option (Bool)
  | 0, _, _, _ => none
  | k + 1, x0, x1, x5 => if x5 < (x0.length : Int) then (if 0 ≤ x5 then (if x5 < (x1.length : Int) then (if ((rd_T30 x0 x5).f0) = ((rd_T30 x1 x5).f0) then (if ((rd_T30 x0 x5).f1) = ((rd_T30 x1 x5).f1) then (waymarkref01_Same.l0 k x0 x1 (wrap64 (x5 + 1))) else (some false)) else (some false)) else (none)) else (none)) else (some true)
def waymarkref01_Same.f (k : Nat) (l0 : List (S30)) (l1 : List (S30)) : Option (Bool) := if (l0.length : Int) = (l1.length : Int) then (waymarkref01_Same.l0 k l0 l1 0) else (some false)
theorem waymarkref01_Same.mono_l : ∀ k, (∀ y0 y1 y2, LeO (waymarkref01_Same.l0 k y0 y1 y2) (waymarkref01_Same.l0 (k + 1) y0 y1 y2))
  | 0 => fun _ _ _ r h => by simp [waymarkref01_Same.l0] at h
  | k + 1 => by
    have ih0 := waymarkref01_Same.mono_l k
    · intro y0 y1 y2
      unfold waymarkref01_Same.l0
      repeat' first
      | (with_reducible exact ih0 _ _ _)
      | (with_reducible exact LeO.refl _)
      | (with_reducible exact LeO.none _)
      | (with_reducible refine LeO.ite ?_ ?_)
      | (with_reducible refine LeO.bind ?_ (fun _ => ?_))
      | exact ih0 _ _ _
      | exact LeO.none _
      | refine LeO.ite ?_ ?_
      | refine LeO.bind ?_ (fun _ => ?_)
theorem waymarkref01_Same.mono : ∀ a0 a1 k, LeO (waymarkref01_Same.f k a0 a1) (waymarkref01_Same.f (k + 1) a0 a1) := by
  intro a0 a1 k
  have ih0 := waymarkref01_Same.mono_l k
  unfold waymarkref01_Same.f
  repeat' first
      | (with_reducible exact ih0 _ _ _)
      | (with_reducible exact LeO.refl _)
      | (with_reducible exact LeO.none _)
      | (with_reducible refine LeO.ite ?_ ?_)
      | (with_reducible refine LeO.bind ?_ (fun _ => ?_))
      | exact ih0 _ _ _
      | exact LeO.none _
      | refine LeO.ite ?_ ?_
      | refine LeO.bind ?_ (fun _ => ?_)
set_option maxHeartbeats 8000000 in
set_option maxRecDepth 100000 in
theorem waymarkref01_Same.calls (k : Nat) (A0 : Option Addr) (c0 : Nat) (l0 : List (S30)) (A1 : Option Addr) (c1 : Nat) (l1 : List (S30)) (r : Bool) (w : World) (hr0 : Kd.C k30 w A0 l0.length l0) (hc0 : l0.length ≤ c0) (hr1 : Kd.C k30 w A1 l1.length l1) (hc1 : l1.length ≤ c1) (h : waymarkref01_Same.f k l0 l1 = some r) :
    Calls Try.prog 10 #[.slice A0 l0.length c0, .slice A1 l1.length c1] w fun e w' => e = .returned (.bool r) ∧ Drawn0 w w' := by
  have HR0 := Aside0.mk hr0
  have HC0 := Aside0.mk hc0
  clear hr0 hc0
  have HR1 := Aside0.mk hr1
  have HC1 := Aside0.mk hc1
  clear hr1 hc1
  have H : (if (l0.length : Int) = (l1.length : Int) then (waymarkref01_Same.l0 k l0 l1 0) else (some false)) = some r := h
  clear h
  by_cases c3 : (l0.length : Int) = (l1.length : Int)
  · rw [if_pos c3] at H
    have c3b0 : ((l0.length : Int) == (l1.length : Int)) = true := beq_iff_eq.mpr c3
    have c3b1 : ((l0.length : Int) != (l1.length : Int)) = false := bne_eq_false_iff_eq.mpr c3
    have c3b2 : (l0.length == l1.length) = true := by first | simpa using c3 | (simp at c3 ⊢; omega)
    clear c3
    have H' := Aside0.mk H
    clear H
    go_enter Try.func10, Try.ntmps10
    go_wp2
    repeat (go_quiet (fail); try go_wp2)
    go_loopg [5] k (fun kq v5 w' => ∃ (x5_1 : Int), v5 = .int .i64 x5_1 ∧ Aside0 (waymarkref01_Same.l0 kq l0 l1 x5_1 = some r) ∧ Aside0 (kq ≤ k) ∧ Drawn0 w w')
    case atStart => exact ⟨(0), (by first | rfl | (simp; done) | (simp [*]; done)), H', ⟨Nat.le_refl _⟩, by repeat (first | exact Drawn0.refl _ | apply Drawn0.step)⟩
    case round =>
      clear H'
      try clear c1
      try clear p2
      try clear c3
      try clear c3b0
      try clear c3b1
      try clear c3b2
      obtain ⟨x5_1, rfl, HA, HK1, ⟨m1, rfl⟩⟩ := hrel
      cases gk with
      | zero => exact absurd HA.out (by simp [waymarkref01_Same.l0])
      | succ k1 =>
        have H := HA.out
        clear HA
        simp only [waymarkref01_Same.l0] at H
        by_cases c4 : x5_1 < (l0.length : Int)
        · rw [if_pos c4] at H
          have c4b0 : decide (x5_1 < (l0.length : Int)) = true := decide_eq_true c4
          clear c4
          by_cases c5 : 0 ≤ x5_1
          · rw [if_pos c5] at H
            have c5b0 : decide (0 ≤ x5_1) = true := decide_eq_true c5
            clear c5
            by_cases c6 : x5_1 < (l1.length : Int)
            · rw [if_pos c6] at H
              have c6b0 : decide (x5_1 < (l1.length : Int)) = true := decide_eq_true c6
              clear c6
              by_cases c7 : ((rd_T30 l0 x5_1).f0) = ((rd_T30 l1 x5_1).f0)
              · rw [if_pos c7] at H
                have c7b0 : (((rd_T30 l0 x5_1).f0) == ((rd_T30 l1 x5_1).f0)) = true := beq_iff_eq.mpr c7
                have c7b1 : (((rd_T30 l0 x5_1).f0) != ((rd_T30 l1 x5_1).f0)) = false := bne_eq_false_iff_eq.mpr c7
                clear c7
                by_cases c8 : ((rd_T30 l0 x5_1).f1) = ((rd_T30 l1 x5_1).f1)
                · rw [if_pos c8] at H
                  have c8b0 : (((rd_T30 l0 x5_1).f1) == ((rd_T30 l1 x5_1).f1)) = true := beq_iff_eq.mpr c8
                  have c8b1 : (((rd_T30 l0 x5_1).f1) != ((rd_T30 l1 x5_1).f1)) = false := bne_eq_false_iff_eq.mpr c8
                  clear c8
                  have H' := Aside0.mk H
                  clear H
                  have p107 : 0 ≤ (x5_1 : Int) := of_decide_eq_true (by first | (with_reducible assumption) | assumption)
                  have q107 : x5_1 < (l0.length : Int) := of_decide_eq_true (by first | (with_reducible assumption) | assumption)
                  obtain ⟨ad107, e107, hx107_0, hx107_1⟩ := at_T30 HR0.out x5_1 p107 q107
                  cases e107
                  replace p107 := eq_true p107
                  replace q107 := eq_true q107
                  have p108 : 0 ≤ (x5_1 : Int) := of_decide_eq_true (by first | (with_reducible assumption) | assumption)
                  have q108 : x5_1 < (l1.length : Int) := of_decide_eq_true (by first | (with_reducible assumption) | assumption)
                  obtain ⟨ad108, e108, hx108_0, hx108_1⟩ := at_T30 HR1.out x5_1 p108 q108
                  cases e108
                  replace p108 := eq_true p108
                  replace q108 := eq_true q108
                  have p109 : 0 ≤ (x5_1 : Int) := of_decide_eq_true (by first | (with_reducible assumption) | assumption)
                  have q109 : x5_1 < (l0.length : Int) := of_decide_eq_true (by first | (with_reducible assumption) | assumption)
                  obtain ⟨ad109, e109, hx109_0, hx109_1⟩ := at_T30 HR0.out x5_1 p109 q109
                  obtain rfl : ad107 = ad109 := (by injection e109)
                  replace p109 := eq_true p109
                  replace q109 := eq_true q109
                  have p110 : 0 ≤ (x5_1 : Int) := of_decide_eq_true (by first | (with_reducible assumption) | assumption)
                  have q110 : x5_1 < (l1.length : Int) := of_decide_eq_true (by first | (with_reducible assumption) | assumption)
                  obtain ⟨ad110, e110, hx110_0, hx110_1⟩ := at_T30 HR1.out x5_1 p110 q110
                  obtain rfl : ad108 = ad110 := (by injection e110)
                  replace p110 := eq_true p110
                  replace q110 := eq_true q110
                  go_wp2
                  repeat (go_quiet (fail); try go_wp2)
                  go_roundg k1
                  case measure => have := HK1.out; omega
                  case rel => exact ⟨(wrap64 (x5_1 + 1)), (by first | rfl | (simp; done) | (simp [*]; done)), H', ⟨by have := HK1.out; omega⟩, by repeat (first | exact Drawn0.refl _ | apply Drawn0.step)⟩
                · rw [if_neg c8] at H
                  have c8b0 : (((rd_T30 l0 x5_1).f1) == ((rd_T30 l1 x5_1).f1)) = false := beq_eq_false_iff_ne.mpr c8
                  have c8b1 : (((rd_T30 l0 x5_1).f1) != ((rd_T30 l1 x5_1).f1)) = true := bne_iff_ne.mpr c8
                  obtain rfl := Option.some.inj H
                  have p107 : 0 ≤ (x5_1 : Int) := of_decide_eq_true (by first | (with_reducible assumption) | assumption)
                  have q107 : x5_1 < (l0.length : Int) := of_decide_eq_true (by first | (with_reducible assumption) | assumption)
                  obtain ⟨ad107, e107, hx107_0, hx107_1⟩ := at_T30 HR0.out x5_1 p107 q107
                  cases e107
                  replace p107 := eq_true p107
                  replace q107 := eq_true q107
                  have p108 : 0 ≤ (x5_1 : Int) := of_decide_eq_true (by first | (with_reducible assumption) | assumption)
                  have q108 : x5_1 < (l1.length : Int) := of_decide_eq_true (by first | (with_reducible assumption) | assumption)
                  obtain ⟨ad108, e108, hx108_0, hx108_1⟩ := at_T30 HR1.out x5_1 p108 q108
                  cases e108
                  replace p108 := eq_true p108
                  replace q108 := eq_true q108
                  have p109 : 0 ≤ (x5_1 : Int) := of_decide_eq_true (by first | (with_reducible assumption) | assumption)
                  have q109 : x5_1 < (l0.length : Int) := of_decide_eq_true (by first | (with_reducible assumption) | assumption)
                  obtain ⟨ad109, e109, hx109_0, hx109_1⟩ := at_T30 HR0.out x5_1 p109 q109
                  obtain rfl : ad107 = ad109 := (by injection e109)
                  replace p109 := eq_true p109
                  replace q109 := eq_true q109
                  have p110 : 0 ≤ (x5_1 : Int) := of_decide_eq_true (by first | (with_reducible assumption) | assumption)
                  have q110 : x5_1 < (l1.length : Int) := of_decide_eq_true (by first | (with_reducible assumption) | assumption)
                  obtain ⟨ad110, e110, hx110_0, hx110_1⟩ := at_T30 HR1.out x5_1 p110 q110
                  obtain rfl : ad108 = ad110 := (by injection e110)
                  replace p110 := eq_true p110
                  replace q110 := eq_true q110
                  go_wp2
                  repeat (go_quiet (fail); try go_wp2)
                  go_ret
                  exact ⟨by first | rfl | (simp; done) | (simp [*]; done), by repeat (first | exact Drawn0.refl _ | apply Drawn0.step)⟩
              · rw [if_neg c7] at H
                have c7b0 : (((rd_T30 l0 x5_1).f0) == ((rd_T30 l1 x5_1).f0)) = false := beq_eq_false_iff_ne.mpr c7
                have c7b1 : (((rd_T30 l0 x5_1).f0) != ((rd_T30 l1 x5_1).f0)) = true := bne_iff_ne.mpr c7
                obtain rfl := Option.some.inj H
                have p107 : 0 ≤ (x5_1 : Int) := of_decide_eq_true (by first | (with_reducible assumption) | assumption)
                have q107 : x5_1 < (l0.length : Int) := of_decide_eq_true (by first | (with_reducible assumption) | assumption)
                obtain ⟨ad107, e107, hx107_0, hx107_1⟩ := at_T30 HR0.out x5_1 p107 q107
                cases e107
                replace p107 := eq_true p107
                replace q107 := eq_true q107
                have p108 : 0 ≤ (x5_1 : Int) := of_decide_eq_true (by first | (with_reducible assumption) | assumption)
                have q108 : x5_1 < (l1.length : Int) := of_decide_eq_true (by first | (with_reducible assumption) | assumption)
                obtain ⟨ad108, e108, hx108_0, hx108_1⟩ := at_T30 HR1.out x5_1 p108 q108
                cases e108
                replace p108 := eq_true p108
                replace q108 := eq_true q108
                go_wp2
                repeat (go_quiet (fail); try go_wp2)
                go_ret
                exact ⟨by first | rfl | (simp; done) | (simp [*]; done), by repeat (first | exact Drawn0.refl _ | apply Drawn0.step)⟩
            · rw [if_neg c6] at H
              exact absurd H (by simp)
          · rw [if_neg c5] at H
            exact absurd H (by simp)
        · rw [if_neg c4] at H
          have c4b0 : decide (x5_1 < (l0.length : Int)) = false := decide_eq_false c4
          clear c4
          obtain rfl := Option.some.inj H
          go_wp2
          repeat (go_quiet (fail); try go_wp2)
          go_ret
          exact ⟨by first | rfl | (simp; done) | (simp [*]; done), by repeat (first | exact Drawn0.refl _ | apply Drawn0.step)⟩
  · rw [if_neg c3] at H
    have c3b0 : ((l0.length : Int) == (l1.length : Int)) = false := beq_eq_false_iff_ne.mpr c3
    have c3b1 : ((l0.length : Int) != (l1.length : Int)) = true := bne_iff_ne.mpr c3
    have c3b2 : (l0.length == l1.length) = false := by first | simpa using c3 | (simp at c3 ⊢; omega)
    obtain rfl := Option.some.inj H
    go_enter Try.func10, Try.ntmps10
    go_wp2
    repeat (go_quiet (fail); try go_wp2)
    go_ret
    exact ⟨by first | rfl | (simp; done) | (simp [*]; done), by repeat (first | exact Drawn0.refl _ | apply Drawn0.step)⟩

end Go.Proofs.Ytbnihnggljagnaa.QAddrCuts
