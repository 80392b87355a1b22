/- The plain law of HeaderOrder: headers are in order as their numbers are. Conditions: the fields are in their ranges. -/
import Derived.Test.YtbnihnggljagnaaDoorQHeaderOrderx
namespace Go.Proofs.YtbnihnggljagnaaDoor.QHeaderOrder
open Go.RowKit Go.Proofs.YtbnihnggljagnaaDoorW.PrintWords Go.Proofs.YtbnihnggljagnaaDoor.HdrMath
set_option linter.unusedVariables false
set_option linter.unusedSimpArgs false
theorem works60 : waymarklaw03_works.f 60 = some true := by decide +kernel
theorem same_f (a b c d e a2 b2 c2 d2 e2 : Int) : waymarklaw03_same.f a b c d e a2 b2 c2 d2 e2 = some (decide (((a, b, c, d, e) : Int × Int × Int × Int × Int) = (a2, b2, c2, d2, e2))) := by
  unfold waymarklaw03_same.f
  by_cases h1 : a = a2
  · by_cases h2 : b = b2
    · by_cases h3 : c = c2
      · by_cases h4 : d = d2
        · by_cases h5 : e = e2 <;> simp [h1, h2, h3, h4, h5]
        · simp [h1, h2, h3, h4]
      · simp [h1, h2, h3]
    · simp [h1, h2]
  · simp [h1]
theorem cmp_f {X Y : Int × Int × Int × Int × Int} (hX : InT X) (hY : InT Y) : header_Cmp.f X.1 X.2.1 X.2.2.1 X.2.2.2.1 X.2.2.2.2 Y.1 Y.2.1 Y.2.2.1 Y.2.2.2.1 Y.2.2.2.2 = some (cmpT X Y) := by
  unfold header_Cmp.f
  rw [if_pos ⟨hX.p, hY.p⟩]
theorem with_f {X : Int × Int × Int × Int × Int} (hX : InT X) (I : Int) (h0 : 0 ≤ I) (h1 : I < 104) (b : Bool) : header_With.f X.1 X.2.1 X.2.2.1 X.2.2.2.1 X.2.2.2.2 I b = some ((withT X I.toNat b).1, (withT X I.toNat b).2.1, (withT X I.toNat b).2.2.1, (withT X I.toNat b).2.2.2.1, (withT X I.toNat b).2.2.2.2, 0) := by
  unfold header_With.f
  rw [if_neg (by omega), if_pos ⟨hX.s, hX.d, hX.p, hX.sp, hX.dp⟩]
theorem bit_fT {X : Int × Int × Int × Int × Int} (hX : InT X) (I : Int) (h0 : 0 ≤ I) (h1 : I < 104) : header_Bit.f X.1 X.2.1 X.2.2.1 X.2.2.2.1 X.2.2.2.2 I = some (bitT X I.toNat, 0) := bit_f _ _ _ _ _ I hX.p h0 h1
theorem next_fT {X : Int × Int × Int × Int × Int} (hX : InT X) : header_Next.f X.1 X.2.1 X.2.2.1 X.2.2.2.1 X.2.2.2.2 = match nextT X with | some t => some (t.1, t.2.1, t.2.2.1, t.2.2.2.1, t.2.2.2.2, 0) | none => some (0, 0, 0, 0, 0, 5) := by
  unfold header_Next.f
  rw [if_pos hX.p]
  rfl
theorem w64s (n : Int) (h : -10 ≤ n ∧ n ≤ 10) : wrap64 n = n := IntWalk.wrap64_in n ⟨by omega, by omega⟩
theorem cmp_anti {X Y : Int × Int × Int × Int × Int} (hX : InT X) (hY : InT Y) : cmpT X Y = wrap64 (-cmpT Y X) := by
  have h1 := cmp_num hX hY
  have h2 := cmp_num hY hX
  rw [w64s _ (by omega)]
  omega
theorem cmp_same {X Y : Int × Int × Int × Int × Int} (hX : InT X) (hY : InT Y) : ((cmpT X Y == 0) != decide (X = Y)) = false := by
  have h1 := cmp_num hX hY
  by_cases e : X = Y
  · subst e
    have h0 : cmpT X X = 0 := by omega
    rw [h0, decide_eq_true rfl]; rfl
  · have hn : cmpT X Y ≠ 0 := fun h => e (num_inj hX hY (by omega))
    rw [decide_eq_false e, beq_eq_false_iff_ne.2 hn]; rfl
theorem j1_ok (k : Nat) {X Y : Int × Int × Int × Int × Int} (hX : InT X) (hY : InT Y) : waymarklaw03_HeaderOrder.j1 (k + 1) false X.1 X.2.1 X.2.2.1 X.2.2.2.1 X.2.2.2.2 Y.1 Y.2.1 Y.2.2.1 Y.2.2.2.1 Y.2.2.2.2 = some true := by
  rw [waymarklaw03_HeaderOrder.j1, if_neg (by decide), next_fT hX]
  rcases hn : nextT X with _ | Z
  · have hle := next_none hX hY hn
    have hc := cmp_num hY hX
    simp only [Option.bind_some]
    rw [if_neg (by decide), if_pos trivial, cmp_f hY hX]
    simp only [Option.bind_some]
    rw [decide_eq_true (by omega)]
  · obtain ⟨hZ, hz⟩ := next_some hX hn
    simp only [Option.bind_some]
    rw [if_pos trivial, cmp_f hX hZ]
    simp only [Option.bind_some]
    have h1 := cmp_num hX hZ
    rw [if_pos (by omega), cmp_f hY hX]
    simp only [Option.bind_some]
    have h2 := cmp_num hY hX
    by_cases c : cmpT Y X ≤ 0
    · rw [if_pos c]
    · rw [if_neg c, cmp_f hZ hY]
      simp only [Option.bind_some]
      have h3 := cmp_num hZ hY
      rw [decide_eq_true (by omega)]
theorem j0_ok (k : Nat) {X Y C : Int × Int × Int × Int × Int} (hX : InT X) (hY : InT Y) (hC : InT C) (w : Int) (h1 : cmpT X C = w) (h2 : cmpT C X = wrap64 (-w)) :
    waymarklaw03_HeaderOrder.j0 (k + 2) 0 0 w X.1 X.2.1 X.2.2.1 X.2.2.2.1 X.2.2.2.2 Y.1 Y.2.1 Y.2.2.1 Y.2.2.2.1 Y.2.2.2.2 C.1 C.2.1 C.2.2.1 C.2.2.2.1 C.2.2.2.2 = some true := by
  rw [waymarklaw03_HeaderOrder.j0, if_pos rfl, if_pos rfl, cmp_f hX hC]
  simp only [Option.bind_some]
  rw [if_pos h1, cmp_f hC hX]
  simp only [Option.bind_some]
  rw [if_pos h2, cmp_f hX hY]
  simp only [Option.bind_some]
  rw [same_f]
  simp only [Option.bind_some]
  have hs := cmp_same hX hY
  rw [if_neg (by rw [show ((X.1, X.2.1, X.2.2.1, X.2.2.2.1, X.2.2.2.2) : Int × Int × Int × Int × Int) = X from rfl, show ((Y.1, Y.2.1, Y.2.2.1, Y.2.2.2.1, Y.2.2.2.2) : Int × Int × Int × Int × Int) = Y from rfl, hs]; decide), cmp_f hY hX]
  simp only [Option.bind_some]
  rw [bne_eq_false_iff_eq.2 (cmp_anti hX hY)]
  exact j1_ok k hX hY
theorem headerOrder_pure (a0 a1 a2 a3 a4 b0 b1 b2 b3 b4 i : Int) (hX : InT (a0, a1, a2, a3, a4)) (hY : InT (b0, b1, b2, b3, b4)) : ∃ k, waymarklaw03_HeaderOrder.f k a0 a1 a2 a3 a4 b0 b1 b2 b3 b4 i = some true := by
  refine ⟨60, ?_⟩
  unfold waymarklaw03_HeaderOrder.f
  rw [works60]
  simp only [Option.bind_some]
  rw [if_pos trivial]
  have hu : 0 ≤ IntKind.u64.wrap i := by rw [IntKind.wrap_u64]; omega
  have ht : Int.tmod (IntKind.u64.wrap i) 104 = IntKind.u64.wrap i % 104 := Int.tmod_eq_emod_of_nonneg hu
  rw [ht, IntWalk.wrap64_in _ ⟨by omega, by omega⟩]
  have hi0 : 0 ≤ IntKind.u64.wrap i % 104 := by omega
  have hi1 : IntKind.u64.wrap i % 104 < 104 := by omega
  generalize IntKind.u64.wrap i % 104 = I at hi0 hi1 ⊢
  have hb := bit_fT hX I hi0 hi1
  simp only at hb
  rw [hb]
  simp only [Option.bind_some]
  have hw := with_f hX I hi0 hi1 (!bitT (a0, a1, a2, a3, a4) I.toNat)
  simp only at hw
  rw [hw]
  simp only [Option.bind_some]
  have hC := with_in hX I.toNat (!bitT (a0, a1, a2, a3, a4) I.toNat)
  have ht := turn_num hX I.toNat (by omega)
  generalize withT (a0, a1, a2, a3, a4) I.toNat (!bitT (a0, a1, a2, a3, a4) I.toNat) = C at hC ht ⊢
  have c1 := cmp_num hX hC
  have c2 := cmp_num hC hX
  by_cases e : bitT (a0, a1, a2, a3, a4) I.toNat = true
  · rw [if_pos e] at ht
    rw [if_pos e]
    exact j0_ok 58 hX hY hC 1 (by omega) (by rw [w64s _ (by omega)]; omega)
  · rw [if_neg e] at ht
    rw [if_neg e]
    exact j0_ok 58 hX hY hC (-1) (by omega) (by rw [w64s _ (by omega)]; omega)
end Go.Proofs.YtbnihnggljagnaaDoor.QHeaderOrder
