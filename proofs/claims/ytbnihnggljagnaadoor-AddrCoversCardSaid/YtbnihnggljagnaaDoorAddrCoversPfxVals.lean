/- What the program's functions on prefixes come to, as plain numbers. Conditions: the arguments are of their kinds. -/
import Derived.Test.YtbnihnggljagnaaDoorAddrCoversTextsCore
namespace Go.Proofs.YtbnihnggljagnaaDoor.QAddrCovers
open Go.RowKit Go.Proofs.YtbnihnggljagnaaDoorW.PrintWords Go.Proofs.YtbnihnggljagnaaDoorW.PrintLast Go.Proofs.YtbnihnggljagnaaDoorW.PrintMore Go.Proofs.YtbnihnggljagnaaDoor.Tools Go.Proofs.YtbnihnggljagnaaDoor.AM Go.Proofs.YtbnihnggljagnaaDoor.LexMath Go.Proofs.YtbnihnggljagnaaDoor.NumMath
set_option linter.unusedVariables false
set_option linter.unusedSimpArgs false
def sn (a n : Int) : Int × Int × Int := if 0 ≤ n ∧ n ≤ 32 then (sz n * (a / sz n), n, 0) else (0, 0, 1)
theorem low_le {a s : Int} (ha : isA a) (hs : 0 < s) : 0 ≤ s * (a / s) ∧ s * (a / s) ≤ a := by
  have h1 := Int.mul_ediv_add_emod a s
  have h2 := Int.emod_nonneg a (show s ≠ 0 by omega)
  have h3 := Int.ediv_nonneg ha.1 (show 0 ≤ s by omega)
  exact ⟨Int.mul_nonneg (by omega) h3, by omega⟩
theorem sub_val (a n : Int) (ha : isA a) : addr_Subnet.f a n = some (sn a n) := by
  unfold addr_Subnet.f sn
  by_cases h : 0 ≤ n ∧ n ≤ 32
  · rw [if_neg (by omega), if_neg (by omega), if_pos h, behind_val n h.1 h.2, Option.bind_some, andNot_mask a ha.1 ha.2 n h.1 h.2]
  · rw [if_neg h]
    by_cases h1 : n < 0
    · rw [if_pos h1]
    · rw [if_neg h1, if_pos (by omega)]
theorem in_val (x a b : Int) (hx : isA x) (ha : isA a) : Ev (fun k => addr_In.f k x a b) (pin x a b) := by
  unfold addr_In.f pin
  refine ev_bind _ (chk_val a b ha) ?_
  by_cases h : chk a b = 0
  · obtain ⟨h0, h1, h2⟩ := chk_zero.1 h
    refine ev_pos h (ev_is _ (behind_val b h0 h1) (ev_to (ev_now _) ?_))
    rw [andNot_mask x hx.1 hx.2 b h0 h1, Bool.eq_iff_iff, beq_iff_eq, decide_eq_true_iff]
    have := block_iff (x := x) (sz_pos b) h2
    exact ⟨fun e => ⟨h, this.2 e⟩, fun e => this.1 e.2⟩
  · refine ev_neg h (ev_to (ev_now _) ?_)
    symm
    rw [decide_eq_false_iff_not]
    exact fun e => h e.1
theorem within_val (a b c d : Int) (ha : isA a) (hc : isA c) : Ev (fun k => addr_Within.f k a b c d) (pwithin a b c d) := by
  unfold addr_Within.f pwithin
  refine ev_bind _ (chk_val a b ha) ?_
  by_cases h : chk a b = 0
  · refine ev_pos h ?_
    by_cases h3 : b ≥ d
    · refine ev_pos h3 (ev_bind _ (in_val a c d ha hc) (ev_to (ev_now _) ?_))
      unfold pin
      rw [Bool.eq_iff_iff, decide_eq_true_iff, decide_eq_true_iff]
      exact ⟨fun e => ⟨h, e.1, h3, e.2⟩, fun e => ⟨e.2.1, e.2.2.2⟩⟩
    · refine ev_neg h3 (ev_to (ev_now _) ?_)
      symm; rw [decide_eq_false_iff_not]; exact fun e => h3 e.2.2.1
  · refine ev_neg h (ev_to (ev_now _) ?_)
    symm; rw [decide_eq_false_iff_not]; exact fun e => h e.1
theorem cmpA_val (a c : Int) : api_Addr_99.f a c = some (if a < c then -1 else if a > c then 1 else 0) := by
  unfold api_Addr_99.f api_Addr_143.f
  simp only [bne_self_eq_false, Option.bind_some, Bool.false_eq_true, if_false]
  by_cases h : a < c
  · rw [if_pos h, if_pos h]
  · rw [if_neg h, if_neg h]
    by_cases h2 : a > c
    · rw [if_pos h2, if_pos h2]
    · rw [if_neg h2, if_neg h2]
theorem cmpI_val (a c : Int) : cmp_Compare_int.f a c = some (if a < c then -1 else if a > c then 1 else 0) := by
  unfold cmp_Compare_int.f cmp_isNaN_int.f
  simp only [bne_self_eq_false, Option.bind_some, Bool.false_eq_true, if_false]
  by_cases h : a < c
  · rw [if_pos h, if_pos h]
  · rw [if_neg h, if_neg h]
    by_cases h2 : a > c
    · rw [if_pos h2, if_pos h2]
    · rw [if_neg h2, if_neg h2]
theorem or2_val (x y : Int) : Ev (fun k => cmp_Or_int.f k [x, y]) (if x = 0 then y else x) := by
  unfold cmp_Or_int.f
  refine Ev.step (f := fun k => if x = 0 then cmp_Or_int.l0 k 0 [x, y] 2 1 else some x) (fun k => ?_) ?_
  · simp only [cmp_Or_int.l0]
    rw [if_pos (by simp), if_pos (by decide), if_pos (by simp), show rd [x, y] 0 = x by simp [rd], w64_id (0 + 1) (by decide) (by decide)]
    rfl
  · by_cases h : x = 0
    · rw [if_pos h]
      refine ev_pos h (Ev.step (f := fun k => if y = 0 then cmp_Or_int.l0 k 0 [x, y] 2 2 else some y) (fun k => ?_) ?_)
      · simp only [cmp_Or_int.l0]
        rw [if_pos (by decide), if_pos (by decide), if_pos (by simp), show rd [x, y] 1 = y by simp [rd], w64_id (1 + 1) (by decide) (by decide)]
        rfl
      · by_cases h2 : y = 0
        · refine ev_pos h2 (Ev.step (f := fun _ => some 0) (fun k => ?_) (ev_to (ev_now _) h2.symm))
          simp only [cmp_Or_int.l0]
          rw [if_neg (by decide)]
        · exact ev_neg h2 (ev_now _)
    · exact ev_negr h h (ev_now _)
theorem cmp_val (a b c d : Int) : Ev (fun k => addr_Cmp.f k a b c d) (pcmp a b c d) := by
  unfold addr_Cmp.f
  refine ev_is _ (cmpA_val a c) (ev_is _ (cmpI_val b d) (ev_bind _ (or2_val _ _) (ev_to (ev_now _) ?_)))
  unfold pcmp
  by_cases h1 : a < c
  · simp [h1]
  · by_cases h2 : a > c
    · simp [h1, h2]
    · simp [h1, h2]
theorem mn_min (x y : Int) : mn x y = min x y := by unfold mn; omega
def common (a b c d : Int) : Int × Int × Int := if chk a b = 0 then (if chk c d = 0 then sn a (cbits a b c d) else (0, 0, chk c d)) else (0, 0, chk a b)
theorem common_val (a b c d : Int) (ha : isA a) (hc : isA c) : Ev (fun k => addr_Common.f k a b c d) (common a b c d) := by
  unfold addr_Common.f common
  refine ev_bind _ (chk_val a b ha) ?_
  by_cases h : chk a b = 0
  · refine ev_posr h h (ev_bind _ (chk_val c d hc) ?_)
    by_cases h2 : chk c d = 0
    · have hx := xor_u32 a c ha.1 ha.2 hc.1 hc.2
      refine ev_posr h2 h2 (ev_is (lcp a c) ?_ (ev_is _ (sub_val a _ ha) (ev_to (ev_now _) ?_)))
      · unfold bits_LeadingZeros32.f
        rw [if_pos ⟨hx.1, hx.2.1⟩, lz_xor a c ha.1 ha.2 hc.1 hc.2]
      · rw [mn_min, mn_min]; rfl
    · exact ev_negr h2 h2 (ev_now _)
  · exact ev_negr h h (ev_now _)
end Go.Proofs.YtbnihnggljagnaaDoor.QAddrCovers
