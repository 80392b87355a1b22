/- Thirteen bytes that are handed to a law, opened. Conditions: none. -/
import Derived.Test.YtbnihnggljagnaaDoorProg
import Derived.Test.YtbnihnggljagnaaDoorHdrMath
import Derived.Test.YtbnihnggljagnaaDoorTools
import Derived.Lib.SmallJoins
import Derived.OpenShut
import Derived.ChangeSame
namespace Go.Proofs.YtbnihnggljagnaaDoor.HdrRaw
open Go.ChangeShapes Go.WideShapes Go.ChangeAt Go.RowKit Go.Joins Go.Proofs.YtbnihnggljagnaaDoor.HdrMath Go.Proofs.YtbnihnggljagnaaDoor.Tools
set_option linter.unusedSimpArgs false
set_option maxRecDepth 10000
/-- Thirteen bytes that are handed to a law, opened. -/
theorem open_raw {H : Type} {enc : TypeId × Value → H} {w : World} {base : Nat} {spare : Nat → Bool} {held : Bool} {r : Reach} {b0 : Nat} {v : Value} {d : DataW H} {p : List MemPlace}
    (hv : Value.okWide Tryd.prog w r b0 92 v) (h : DataW.Trod enc Tryd.prog w base spare held 92 v d p) :
    ∃ rb : Nat → Int, v = .agg #[.int .u8 (rb 0), .int .u8 (rb 1), .int .u8 (rb 2), .int .u8 (rb 3), .int .u8 (rb 4), .int .u8 (rb 5), .int .u8 (rb 6), .int .u8 (rb 7), .int .u8 (rb 8), .int .u8 (rb 9), .int .u8 (rb 10), .int .u8 (rb 11), .int .u8 (rb 12)] ∧ p = [] ∧ (∀ n, 0 ≤ rb n ∧ rb n ≤ 255) := by
  have hA := Tryd.underlying92
  simp only [Value.okWide, hA] at hv
  obtain ⟨cs, rfl, hsz, _⟩ := hv
  have h13 : cs.size = 13 := hsz.trans (by kernel_rfl)
  obtain ⟨fuel, hf⟩ := h
  obtain ⟨xs, n, _, hx, _, hlen, hg⟩ := DataW.trod_array hA hf
  have k5 : Tryd.prog.cellsOf 5 = 1 := by kernel_rfl
  have cell : ∀ i, i < 13 → ∃ b : Int, cs[i]? = some (.int .u8 b) ∧ (0 ≤ b ∧ b ≤ 255) ∧ ∃ y, xs[i]? = some y ∧ y.2 = [] := by
    intro i hi
    have t := hg i hi
    rw [k5, Nat.mul_one] at t
    have hci : i < cs.toList.length := by simpa using (by omega : i < cs.size)
    have e1 : (cs.toList.drop i).take 1 = [cs.toList[i]] := by
      rw [List.drop_eq_getElem_cons hci]; rfl
    have t' : DataW.trod enc Tryd.prog w base spare held n 5 [cs.toList[i]] = xs[i]? := by
      rw [← e1]; exact t
    obtain ⟨y, hy⟩ : ∃ y, xs[i]? = some y := ⟨xs[i]'(by omega), List.getElem?_eq_getElem (by omega)⟩
    rw [hy] at t'
    obtain ⟨b, e, x, wf⟩ := DataW.trod_int Tryd.underlying5 t'
    have hb := List.head_eq_of_cons_eq e
    refine ⟨b, ?_, wf_u8 wf, y, hy, by rw [x]⟩
    rw [← hb, ← Array.getElem?_toList, List.getElem?_eq_getElem hci]
  have hp : p = [] := by
    simp only [Prod.mk.injEq] at hx
    rw [hx.2]
    refine List.flatMap_eq_nil_iff.2 fun y hy => ?_
    obtain ⟨i, hi, rfl⟩ := List.getElem_of_mem hy
    obtain ⟨b, _, _, y', hy', hn⟩ := cell i (by omega)
    rw [List.getElem?_eq_getElem hi] at hy'
    rw [Option.some.inj hy']
    exact hn
  refine ⟨fun i => match cs[i]? with | some (.int .u8 b) => if 0 ≤ b ∧ b ≤ 255 then b else 0 | _ => 0, ?_, hp, ?_⟩
  · obtain ⟨b0, e0, r0, _⟩ := cell 0 (by omega)
    obtain ⟨b1, e1, r1, _⟩ := cell 1 (by omega)
    obtain ⟨b2, e2, r2, _⟩ := cell 2 (by omega)
    obtain ⟨b3, e3, r3, _⟩ := cell 3 (by omega)
    obtain ⟨b4, e4, r4, _⟩ := cell 4 (by omega)
    obtain ⟨b5, e5, r5, _⟩ := cell 5 (by omega)
    obtain ⟨b6, e6, r6, _⟩ := cell 6 (by omega)
    obtain ⟨b7, e7, r7, _⟩ := cell 7 (by omega)
    obtain ⟨b8, e8, r8, _⟩ := cell 8 (by omega)
    obtain ⟨b9, e9, r9, _⟩ := cell 9 (by omega)
    obtain ⟨b10, e10, r10, _⟩ := cell 10 (by omega)
    obtain ⟨b11, e11, r11, _⟩ := cell 11 (by omega)
    obtain ⟨b12, e12, r12, _⟩ := cell 12 (by omega)
    simp only [e0, e1, e2, e3, e4, e5, e6, e7, e8, e9, e10, e11, e12, if_pos r0, if_pos r1, if_pos r2, if_pos r3, if_pos r4, if_pos r5, if_pos r6, if_pos r7, if_pos r8, if_pos r9, if_pos r10, if_pos r11, if_pos r12]
    congr 1
    refine Array.ext' (List.ext_getElem? fun i => ?_)
    rw [Array.getElem?_toList]
    match i with
    | 0 => exact e0 | 1 => exact e1 | 2 => exact e2 | 3 => exact e3 | 4 => exact e4 | 5 => exact e5 | 6 => exact e6 | 7 => exact e7 | 8 => exact e8 | 9 => exact e9 | 10 => exact e10 | 11 => exact e11 | 12 => exact e12
    | i + 13 =>
      rw [Array.getElem?_eq_none (by omega)]
      rfl
  · intro n
    dsimp only
    split
    · split
      · assumption
      · decide
    · decide
end Go.Proofs.YtbnihnggljagnaaDoor.HdrRaw
