/- A law that this seat's walks take as a rewrite rule: '>' of strings. Conditions: none. -/
import Derived.WalkKit
import Derived.Laws.Unary
namespace Go.Proofs.YtbnihnggljagnaaDoor.Base2
theorem str_gt : ∀ a b : List UInt8, (!(Op.bytesLess a b || a == b)) = Op.bytesLess b a
  | [], [] => rfl
  | [], _ :: _ => rfl
  | _ :: _, [] => by simp [Op.bytesLess]
  | c :: a, d :: b => by
    have ih := str_gt a b
    simp only [Op.bytesLess]
    rcases Nat.lt_trichotomy c.toNat d.toNat with h | h | h
    · have h1 : decide (c < d) = true := decide_eq_true (UInt8.lt_iff_toNat_lt.2 h)
      have h2 : decide (d < c) = false := decide_eq_false (fun e => by have := UInt8.lt_iff_toNat_lt.1 e; omega)
      have h3 : (d == c) = false := beq_eq_false_iff_ne.2 (fun e => by subst e; omega)
      rw [h1, h2, h3]
      simp
    · have : c = d := UInt8.toNat_inj.1 h
      subst this
      have h1 : decide (c < c) = false := decide_eq_false (by simp)
      rw [h1, beq_self_eq_true, Bool.false_or, Bool.true_and, Bool.false_or, Bool.true_and, ← ih]
      have : ((c :: a) == (c :: b)) = (a == b) := by simp
      rw [this]
    · have h1 : decide (c < d) = false := decide_eq_false (fun e => by have := UInt8.lt_iff_toNat_lt.1 e; omega)
      have h2 : decide (d < c) = true := decide_eq_true (UInt8.lt_iff_toNat_lt.2 h)
      have h3 : (c == d) = false := beq_eq_false_iff_ne.2 (fun e => by subst e; omega)
      have h4 : ((c :: a) == (d :: b)) = false := beq_eq_false_iff_ne.2 (fun e => by injection e with e1 _; subst e1; omega)
      rw [h1, h2, h3, h4]
      simp
theorem gtr_string (t : TypeId) (a b : ByteArray) : binOp .gtr t (.string a) (.string b) = pure (.bool (Op.bytesLess b.toList a.toList)) := by
  rw [← str_gt]
  simp [binOp, Op.stringOp]
end Go.Proofs.YtbnihnggljagnaaDoor.Base2
