-- Written by this session's program (wip/tools/printx.py) over the kit's print; the texts marked HAND are its own. Lean checks it.
import Derived.Test.YtbnihnggljagnaaQLexTokensx0
namespace Go.Proofs.Ytbnihnggljagnaa.QLexTokens
open Go.RowKit Go.Proofs.YtbnihnggljagnaaW.PrintWords Go.Proofs.YtbnihnggljagnaaW.PrintLast Go.Proofs.YtbnihnggljagnaaW.PrintMore
attribute [local go_sem] max2_int min2_int max_two min_two max_three min_three max_four min_four   -- for this text's walks alone
attribute [local go_sem high] Go.Proofs.Ytbnihnggljagnaa.Base.ux_u32 Go.Proofs.Ytbnihnggljagnaa.Base.ux_u64 Go.Proofs.Ytbnihnggljagnaa.Base.ux_u8 Go.Proofs.Ytbnihnggljagnaa.Base.ux_u16
set_option linter.unusedVariables false
set_option linter.unusedSimpArgs false

/-! ### waymarkref07_sign: function 63 -/
def waymarkref07_sign.f (a0 : Int) : Option (Int) := if a0 = 123 then (some 2) else (if a0 = 125 then (some 3) else (if a0 = 59 then (some 4) else (if a0 = 91 then (some 5) else (if a0 = 93 then (some 6) else (some 0)))))
set_option maxHeartbeats 8000000 in
set_option maxRecDepth 100000 in
theorem waymarkref07_sign.calls (a0 : Int) (r : Int) (w : World) (h : waymarkref07_sign.f a0 = some r) :
  Calls Try.prog 63 #[.int .u8 a0] w fun e w' => e = .returned (.int .u8 r) ∧ Drawn0 w w' := by
 have H : (if a0 = 123 then (some 2) else (if a0 = 125 then (some 3) else (if a0 = 59 then (some 4) else (if a0 = 91 then (some 5) else (if a0 = 93 then (some 6) else (some 0)))))) = some r := h
 clear h
 by_cases c2 : a0 = 123
 ·rw [if_pos c2] at H
  have c2b0 : (a0 == 123) = true := beq_iff_eq.mpr c2
  have c2b1 : (a0 != 123) = false := bne_eq_false_iff_eq.mpr c2
  clear c2
  as_aux_lemma =>
   obtain rfl := Option.some.inj H
   go_enter Try.func63, Try.ntmps63
   go_wp2
   go_ret
   exact ⟨by first | rfl | (simp; done) | (simp [*]; done), by repeat (first | exact Drawn0.refl _ | apply Drawn0.step)⟩
 ·rw [if_neg c2] at H
  have c2b0 : (a0 == 123) = false := beq_eq_false_iff_ne.mpr c2
  have c2b1 : (a0 != 123) = true := bne_iff_ne.mpr c2
  by_cases c3 : a0 = 125
  ·rw [if_pos c3] at H
   have c3b0 : (a0 == 125) = true := beq_iff_eq.mpr c3
   have c3b1 : (a0 != 125) = false := bne_eq_false_iff_eq.mpr c3
   clear c3
   as_aux_lemma =>
    obtain rfl := Option.some.inj H
    go_enter Try.func63, Try.ntmps63
    go_wp2
    go_ret
    exact ⟨by first | rfl | (simp; done) | (simp [*]; done), by repeat (first | exact Drawn0.refl _ | apply Drawn0.step)⟩
  ·rw [if_neg c3] at H
   have c3b0 : (a0 == 125) = false := beq_eq_false_iff_ne.mpr c3
   have c3b1 : (a0 != 125) = true := bne_iff_ne.mpr c3
   by_cases c4 : a0 = 59
   ·rw [if_pos c4] at H
    have c4b0 : (a0 == 59) = true := beq_iff_eq.mpr c4
    have c4b1 : (a0 != 59) = false := bne_eq_false_iff_eq.mpr c4
    clear c4
    as_aux_lemma =>
     obtain rfl := Option.some.inj H
     go_enter Try.func63, Try.ntmps63
     go_wp2
     go_ret
     exact ⟨by first | rfl | (simp; done) | (simp [*]; done), by repeat (first | exact Drawn0.refl _ | apply Drawn0.step)⟩
   ·rw [if_neg c4] at H
    have c4b0 : (a0 == 59) = false := beq_eq_false_iff_ne.mpr c4
    have c4b1 : (a0 != 59) = true := bne_iff_ne.mpr c4
    by_cases c5 : a0 = 91
    ·rw [if_pos c5] at H
     have c5b0 : (a0 == 91) = true := beq_iff_eq.mpr c5
     have c5b1 : (a0 != 91) = false := bne_eq_false_iff_eq.mpr c5
     clear c5
     as_aux_lemma =>
      obtain rfl := Option.some.inj H
      go_enter Try.func63, Try.ntmps63
      go_wp2
      go_ret
      exact ⟨by first | rfl | (simp; done) | (simp [*]; done), by repeat (first | exact Drawn0.refl _ | apply Drawn0.step)⟩
    ·rw [if_neg c5] at H
     have c5b0 : (a0 == 91) = false := beq_eq_false_iff_ne.mpr c5
     have c5b1 : (a0 != 91) = true := bne_iff_ne.mpr c5
     by_cases c6 : a0 = 93
     ·rw [if_pos c6] at H
      have c6b0 : (a0 == 93) = true := beq_iff_eq.mpr c6
      have c6b1 : (a0 != 93) = false := bne_eq_false_iff_eq.mpr c6
      clear c6
      as_aux_lemma =>
       obtain rfl := Option.some.inj H
       go_enter Try.func63, Try.ntmps63
       go_wp2
       go_ret
       exact ⟨by first | rfl | (simp; done) | (simp [*]; done), by repeat (first | exact Drawn0.refl _ | apply Drawn0.step)⟩
     ·rw [if_neg c6] at H
      have c6b0 : (a0 == 93) = false := beq_eq_false_iff_ne.mpr c6
      have c6b1 : (a0 != 93) = true := bne_iff_ne.mpr c6
      as_aux_lemma =>
       obtain rfl := Option.some.inj H
       go_enter Try.func63, Try.ntmps63
       go_wp2
       go_ret
       exact ⟨by first | rfl | (simp; done) | (simp [*]; done), by repeat (first | exact Drawn0.refl _ | apply Drawn0.step)⟩

end Go.Proofs.Ytbnihnggljagnaa.QLexTokens
