/- Small lemmas for this seat's plain laws: loops with a number of rounds that answer from some number on. Conditions: none. -/
import Derived.Test.YtbnihnggljagnaaDoorWWords
import Derived.IntWalk
namespace Go.Proofs.YtbnihnggljagnaaDoor.Tools
open Go.RowKit Go.Proofs.YtbnihnggljagnaaDoorW.PrintWords
set_option linter.unusedVariables false

theorem ev_pos {α : Type} {c : Prop} [Decidable c] {g f : Nat → Option α} {r : α} (h : c) (k : Ev g r) : Ev (fun n => if c then g n else f n) r := by
  simpa only [if_pos h] using k
theorem ev_neg {α : Type} {c : Prop} [Decidable c] {g f : Nat → Option α} {r : α} (h : ¬ c) (k : Ev f r) : Ev (fun n => if c then g n else f n) r := by
  simpa only [if_neg h] using k
theorem ev_posr {α : Type} {c d : Prop} [Decidable c] [Decidable d] {g f : Nat → Option α} {r r' : α} (h : c) (h' : d) (k : Ev g r) : Ev (fun n => if c then g n else f n) (if d then r else r') := by
  rw [if_pos h']; exact ev_pos h k
theorem ev_negr {α : Type} {c d : Prop} [Decidable c] [Decidable d] {g f : Nat → Option α} {r r' : α} (h : ¬ c) (h' : ¬ d) (k : Ev f r') : Ev (fun n => if c then g n else f n) (if d then r else r') := by
  rw [if_neg h']; exact ev_neg h k
theorem ev_bind {α β : Type} {g : Nat → Option α} {f : Nat → α → Option β} {r : β} (a : α) (h : Ev g a) (k : Ev (fun n => f n a) r) : Ev (fun n => (g n).bind (f n)) r := Ev.bind h k
theorem ev_some {α β : Type} {f : Nat → α → Option β} {r : β} {a : α} (k : Ev (fun n => f n a) r) : Ev (fun n => (some a).bind (f n)) r := k
theorem ev_is {α β : Type} {g : Option α} {f : Nat → α → Option β} {r : β} (a : α) (h : g = some a) (k : Ev (fun n => f n a) r) : Ev (fun n => g.bind (f n)) r := by
  subst h; exact k
theorem ev_now {α : Type} (r : α) : Ev (fun _ => some r) r := Ev.now r
theorem ev_eq {α : Type} {g f : Nat → Option α} {r : α} (h : ∀ k, g k = f k) (k : Ev f r) : Ev g r := Ev.congr h k
theorem ev_to {α : Type} {g : Nat → Option α} {r r' : α} (k : Ev g r) (h : r = r') : Ev g r' := h ▸ k
theorem u64_id (n : Int) (h0 : 0 ≤ n) (h1 : n ≤ 18446744073709551615) : IntKind.u64.wrap n = n := IntWalk.u64_in n ⟨h0, h1⟩
theorem u16_id (n : Int) (h0 : 0 ≤ n) (h1 : n ≤ 65535) : IntKind.u16.wrap n = n := IntWalk.u16_in n ⟨h0, h1⟩
theorem w64_id (n : Int) (h0 : -9223372036854775808 ≤ n) (h1 : n ≤ 9223372036854775807) : wrap64 n = n := IntWalk.wrap64_in n ⟨h0, h1⟩
theorem wf_u32 {a : Int} (h : (Lit.int .u32 a).wf = true) : 0 ≤ a ∧ a ≤ 4294967295 := by
  have h1 : (decide (0 ≤ a) && decide (a ≤ 4294967295)) = true := h
  simpa using h1
theorem wf_i64 {a : Int} (h : (Lit.int .i64 a).wf = true) : -9223372036854775808 ≤ a ∧ a ≤ 9223372036854775807 := by
  have h1 : (decide (-9223372036854775808 ≤ a) && decide (a ≤ 9223372036854775807)) = true := h
  simpa using h1
theorem wf_u8 {a : Int} (h : (Lit.int .u8 a).wf = true) : 0 ≤ a ∧ a ≤ 255 := by
  have h1 : (decide (0 ≤ a) && decide (a ≤ 255)) = true := h
  simpa using h1
theorem wf_u16 {a : Int} (h : (Lit.int .u16 a).wf = true) : 0 ≤ a ∧ a ≤ 65535 := by
  have h1 : (decide (0 ≤ a) && decide (a ≤ 65535)) = true := h
  simpa using h1
theorem pow_le_32 {e : Nat} (h : e ≤ 32) : 1 ≤ 2 ^ e ∧ 2 ^ e ≤ 4294967296 := by
  have h1 := Nat.pow_le_pow_right (n := 2) (by omega) h
  exact ⟨Nat.pow_pos (by omega), by simpa using h1⟩
end Go.Proofs.YtbnihnggljagnaaDoor.Tools
