/- The plain law of HeaderBack: what is written is read back. Conditions: the text is of no more than 1048577 bytes. -/
import Derived.Test.YtbnihnggljagnaaDoorHeaderBackHdrTexts
namespace Go.Proofs.YtbnihnggljagnaaDoor.QHeaderBack
open Go.RowKit Go.Proofs.YtbnihnggljagnaaDoorW.PrintWords Go.Proofs.YtbnihnggljagnaaDoor.Tools Go.Proofs.YtbnihnggljagnaaDoor.HdrMath
set_option linter.unusedVariables false
set_option linter.unusedSimpArgs false
/-- What the law's walk asks of the functions that it calls. -/
def BackOK (k : Nat) (s d p sp dp : Int) (x : ByteArray) : Prop := ∃ (t : ByteArray) (q1 q2 q3 q4 q5 ee : Int), waymarklaw03_works.f k = some true ∧ header_Text.f s d p sp dp = some t ∧ header_Parse.f k t = some (s, d, p, sp, dp, 0) ∧ header_Parse.f k x = some (q1, q2, q3, q4, q5, ee) ∧ (ee = 0 → header_Text.f q1 q2 q3 q4 q5 = some x) ∧ waymarklaw03_same.f s d p sp dp s d p sp dp = some true
theorem works60 : waymarklaw03_works.f 60 = some true := by decide +kernel
theorem same_self (s d p sp dp : Int) : waymarklaw03_same.f s d p sp dp s d p sp dp = some true := by
  unfold waymarklaw03_same.f
  simp
theorem headerBack_pure (s d p sp dp : Int) (x : ByteArray) (hX : InT (s, d, p, sp, dp)) (hs : x.size ≤ 1048577) : ∃ k, BackOK k s d p sp dp x := by
  obtain ⟨K1, h1⟩ := Ev.of (g := fun k => waymarklaw03_works.f k) (fun k => waymarklaw03_works.mono k) works60
  obtain ⟨K2, h2⟩ := hparse_text hX
  obtain ⟨q1, q2, q3, q4, q5, ee, ⟨K3, h3⟩, h4⟩ := hparse_any x hs
  exact ⟨max K1 (max K2 K3), hText (s, d, p, sp, dp), q1, q2, q3, q4, q5, ee, h1 _ (by omega), htext_val hX, h2 _ (by omega), h3 _ (by omega), h4, same_self s d p sp dp⟩
theorem back_law (k : Nat) (s d p sp dp : Int) (x : ByteArray) (rb : Nat → Int) (w : World) (hG : WorldA.GW w) (hX : InT (s, d, p, sp, dp)) (hrb : ∀ n, 0 ≤ rb n ∧ rb n ≤ 255) (h : BackOK k s d p sp dp x) :
    Calls Tryd.prog 11 #[.agg #[.int .u32 s, .int .u32 d, .int .u8 p, .int .u16 sp, .int .u16 dp], .string x, .agg #[.int .u8 (rb 0), .int .u8 (rb 1), .int .u8 (rb 2), .int .u8 (rb 3), .int .u8 (rb 4), .int .u8 (rb 5), .int .u8 (rb 6), .int .u8 (rb 7), .int .u8 (rb 8), .int .u8 (rb 9), .int .u8 (rb 10), .int .u8 (rb 11), .int .u8 (rb 12)]] w fun e w' => e = .returned (.bool true) ∧ Below w.heap.size w w' := by
  obtain ⟨t, q1, q2, q3, q4, q5, ee, h0, h1, h2, h3, h4, h5⟩ := h
  exact back_calls k s d p sp dp x t rb q1 q2 q3 q4 q5 ee w hG hX hrb h0 h1 h2 h3 h4 h5
end Go.Proofs.YtbnihnggljagnaaDoor.QHeaderBack
