-- Written by this session's program (wip/tools/printx.py) over the kit's print; the texts marked HAND are its own. Lean checks it.
import Derived.Test.YtbnihnggljagnaaDoorQLexPlacesx0
import Derived.Test.YtbnihnggljagnaaDoorQLexPlacesx1
import Derived.Test.YtbnihnggljagnaaDoorQLexPlacesx3
import Derived.Test.YtbnihnggljagnaaDoorQLexPlacesx4
namespace Go.Proofs.YtbnihnggljagnaaDoor.QLexPlaces
open Go.RowKit Go.Proofs.YtbnihnggljagnaaDoorW.PrintWords Go.Proofs.YtbnihnggljagnaaDoorW.PrintLast Go.Proofs.YtbnihnggljagnaaDoorW.PrintMore
attribute [local go_sem] max2_int min2_int max_two min_two max_three min_three max_four min_four   -- for this text's walks alone
attribute [local go_sem high] Go.Proofs.YtbnihnggljagnaaDoor.Base.ux_u32 Go.Proofs.YtbnihnggljagnaaDoor.Base.ux_u64 Go.Proofs.YtbnihnggljagnaaDoor.Base.ux_u8 Go.Proofs.YtbnihnggljagnaaDoor.Base.ux_u16
set_option linter.unusedVariables false
set_option linter.unusedSimpArgs false

/-! ### waymarklaw07_LexPlaces: function 5 -/
mutual
def waymarklaw07_LexPlaces.l0 : Nat → ByteArray → List (S35) → Int → Int → Int → Option (Bool)
 | 0, _, _, _, _, _ => none
 | k + 1, x0, x3, x5, x6, x7 => if x7 < (x3.length : Int) then (waymarklaw07_LexPlaces.j1 k x0 x3 x5 x6 x7 (x5 == 0)) else (waymarklaw07_LexPlaces.j1 k x0 x3 x5 x6 x7 false)
def waymarklaw07_LexPlaces.j1 : Nat → ByteArray → List (S35) → Int → Int → Int → Bool → Option (Bool)
 | 0, _, _, _, _, _, _ => none
 | k + 1, x0, x3, x5, x6, x7, x32 => if x32 = true then (if 0 ≤ x7 then (if x7 < (x3.length : Int) then (if (((rd_T35 x3 x7).f1).length : Int) = 0 then (none) else (if 0 < (((rd_T35 x3 x7).f1).length : Int) then (if ((rd_T37 ((rd_T35 x3 x7).f1) 0).f1.f0) ≤ x6 then (none) else (waymarklaw07_LexPlaces.j2 k x0 x3 x5 x7 0 (((rd_T37 ((rd_T35 x3 x7).f1) 0).f1.f1) != (wrap64 (((rd_T35 x3 x7).f0) + 1))))) else (none))) else (none)) else (none)) else ((lex_Tokens.f k x0).bind fun bt167 => (waymarklaw07_LexPlaces.l2 k x0 bt167.2.2.2 bt167.1 0 0 0))
def waymarklaw07_LexPlaces.j2 : Nat → ByteArray → List (S35) → Int → Int → Int → Bool → Option (Bool)
 | 0, _, _, _, _, _, _ => none
 | k + 1, x0, x3, x5, x7, x8, x72 => if x72 = true then (none) else (if 0 ≤ x7 then (if x7 < (x3.length : Int) then (if 0 < (((rd_T35 x3 x7).f1).length : Int) then (waymarklaw07_LexPlaces.l1 k x0 x3 x5 ((rd_T37 ((rd_T35 x3 x7).f1) 0).f1.f0) x7 x8 0) else (none)) else (none)) else (none))
def waymarklaw07_LexPlaces.l1 : Nat → ByteArray → List (S35) → Int → Int → Int → Int → Int → Option (Bool)
 | 0, _, _, _, _, _, _, _ => none
 | k + 1, x0, x3, x5, x6, x7, x8, x9 => if 0 ≤ x7 then (if x7 < (x3.length : Int) then (if x9 < (((rd_T35 x3 x7).f1).length : Int) then (if 0 ≤ x9 then (if ((rd_T37 ((rd_T35 x3 x7).f1) x9).f0).toList = ([] : List UInt8) then (none) else (if ((rd_T37 ((rd_T35 x3 x7).f1) x9).f1.f0) = x6 then (if ((rd_T37 ((rd_T35 x3 x7).f1) x9).f1.f1) ≤ x8 then (none) else ((waymarklaw07_stands.f k x0 ((rd_T37 ((rd_T35 x3 x7).f1) x9).f0) ((rd_T37 ((rd_T35 x3 x7).f1) x9).f1.f0) ((rd_T37 ((rd_T35 x3 x7).f1) x9).f1.f1)).bind fun t166 => (waymarklaw07_LexPlaces.j4 k x0 x3 x5 x6 x7 x9 (!t166) ((rd_T37 ((rd_T35 x3 x7).f1) x9).f0) ((rd_T37 ((rd_T35 x3 x7).f1) x9).f1.f0) ((rd_T37 ((rd_T35 x3 x7).f1) x9).f1.f1)))) else (none))) else (none)) else (waymarklaw07_LexPlaces.l0 k x0 x3 x5 x6 (wrap64 (x7 + 1)))) else (none)) else (none)
def waymarklaw07_LexPlaces.j4 : Nat → ByteArray → List (S35) → Int → Int → Int → Int → Bool → ByteArray → Int → Int → Option (Bool)
 | 0, _, _, _, _, _, _, _, _, _, _ => none
 | k + 1, x0, x3, x5, x6, x7, x9, x125, x166000, x166001, x166002 => if x125 = true then (none) else (waymarklaw07_LexPlaces.l1 k x0 x3 x5 x6 x7 (wrap64 (x166002 + (x166000.size : Int))) (wrap64 (x9 + 1)))
def waymarklaw07_LexPlaces.l2 : Nat → ByteArray → Int → List (S64) → Int → Int → Int → Option (Bool)
 | 0, _, _, _, _, _, _ => none
 | k + 1, x0, x5, x11, x14, x175000, x175001 => if x14 < (x11.length : Int) then (waymarklaw07_LexPlaces.j6 k x0 x5 x11 x14 (x5 == 0) x175000 x175001) else (waymarklaw07_LexPlaces.j6 k x0 x5 x11 x14 false x175000 x175001)
def waymarklaw07_LexPlaces.j6 : Nat → ByteArray → Int → List (S64) → Int → Bool → Int → Int → Option (Bool)
 | 0, _, _, _, _, _, _, _ => none
 | k + 1, x0, x5, x11, x14, x146, x175000, x175001 => if x146 = true then (if 0 ≤ x14 then (if x14 < (x11.length : Int) then (if ((rd_T64 x11 x14).f2.f0) < x175000 then (none) else (if ((rd_T64 x11 x14).f2.f0) = x175000 then (waymarklaw07_LexPlaces.j7 k x0 x5 x11 x14 (decide (((rd_T64 x11 x14).f2.f1) ≤ x175001)) ((rd_T64 x11 x14).f2.f0) ((rd_T64 x11 x14).f2.f1)) else (waymarklaw07_LexPlaces.j7 k x0 x5 x11 x14 false ((rd_T64 x11 x14).f2.f0) ((rd_T64 x11 x14).f2.f1)))) else (none)) else (none)) else (some true)
def waymarklaw07_LexPlaces.j7 : Nat → ByteArray → Int → List (S64) → Int → Bool → Int → Int → Option (Bool)
 | 0, _, _, _, _, _, _, _ => none
 | k + 1, x0, x5, x11, x14, x172, x177000, x177001 => if x172 = true then (none) else ((waymarklaw07_stands.f k x0 (⟨#[34]⟩ : ByteArray) x177000 x177001).bind fun t177 => (if t177 = true then (waymarklaw07_LexPlaces.j8 k x0 x5 x11 x14 t177 x177000 (wrap64 (x177001 + 1))) else (waymarklaw07_LexPlaces.j8 k x0 x5 x11 x14 t177 x177000 x177001)))
def waymarklaw07_LexPlaces.j8 : Nat → ByteArray → Int → List (S64) → Int → Bool → Int → Int → Option (Bool)
 | 0, _, _, _, _, _, _, _ => none
 | k + 1, x0, x5, x11, x14, x16, x177000, x177001 => if 0 ≤ x14 then (if x14 < (x11.length : Int) then ((waymarklaw07_stands.f k x0 ((rd_T64 x11 x14).f1) x177000 x177001).bind fun t179 => (if t179 = true then (if x16 = true then (waymarklaw07_LexPlaces.j9 k x0 x5 x11 x14 false) else (waymarklaw07_LexPlaces.j9 k x0 x5 x11 x14 (((rd_T64 x11 x14).f1).toList == ([] : List UInt8)))) else (none))) else (none)) else (none)
def waymarklaw07_LexPlaces.j9 : Nat → ByteArray → Int → List (S64) → Int → Bool → Option (Bool)
 | 0, _, _, _, _, _ => none
 | k + 1, x0, x5, x11, x14, x201 => if x201 = true then (none) else (if 0 ≤ x14 then (if x14 < (x11.length : Int) then (waymarklaw07_LexPlaces.l2 k x0 x5 x11 (wrap64 (x14 + 1)) ((rd_T64 x11 x14).f2.f0) ((rd_T64 x11 x14).f2.f1)) else (none)) else (none))
end
def waymarklaw07_LexPlaces.f (k : Nat) (a0 : ByteArray) : Option (Bool) := (waymarklaw07_works.f k).bind fun t146 => (if t146 = true then ((lex_Lines.f k a0).bind fun bt147 => (waymarklaw07_LexPlaces.l0 k a0 bt147.1 bt147.2.2.2 0 0)) else (none))
theorem waymarklaw07_LexPlaces.mono_l : ∀ k, (∀ y0 y1 y2 y3 y4, LeO (waymarklaw07_LexPlaces.l0 k y0 y1 y2 y3 y4) (waymarklaw07_LexPlaces.l0 (k + 1) y0 y1 y2 y3 y4)) ∧ (∀ y0 y1 y2 y3 y4 y5, LeO (waymarklaw07_LexPlaces.j1 k y0 y1 y2 y3 y4 y5) (waymarklaw07_LexPlaces.j1 (k + 1) y0 y1 y2 y3 y4 y5)) ∧ (∀ y0 y1 y2 y3 y4 y5, LeO (waymarklaw07_LexPlaces.j2 k y0 y1 y2 y3 y4 y5) (waymarklaw07_LexPlaces.j2 (k + 1) y0 y1 y2 y3 y4 y5)) ∧ (∀ y0 y1 y2 y3 y4 y5 y6, LeO (waymarklaw07_LexPlaces.l1 k y0 y1 y2 y3 y4 y5 y6) (waymarklaw07_LexPlaces.l1 (k + 1) y0 y1 y2 y3 y4 y5 y6)) ∧ (∀ y0 y1 y2 y3 y4 y5 y6 y7 y8 y9, LeO (waymarklaw07_LexPlaces.j4 k y0 y1 y2 y3 y4 y5 y6 y7 y8 y9) (waymarklaw07_LexPlaces.j4 (k + 1) y0 y1 y2 y3 y4 y5 y6 y7 y8 y9)) ∧ (∀ y0 y1 y2 y3 y4 y5, LeO (waymarklaw07_LexPlaces.l2 k y0 y1 y2 y3 y4 y5) (waymarklaw07_LexPlaces.l2 (k + 1) y0 y1 y2 y3 y4 y5)) ∧ (∀ y0 y1 y2 y3 y4 y5 y6, LeO (waymarklaw07_LexPlaces.j6 k y0 y1 y2 y3 y4 y5 y6) (waymarklaw07_LexPlaces.j6 (k + 1) y0 y1 y2 y3 y4 y5 y6)) ∧ (∀ y0 y1 y2 y3 y4 y5 y6, LeO (waymarklaw07_LexPlaces.j7 k y0 y1 y2 y3 y4 y5 y6) (waymarklaw07_LexPlaces.j7 (k + 1) y0 y1 y2 y3 y4 y5 y6)) ∧ (∀ y0 y1 y2 y3 y4 y5 y6, LeO (waymarklaw07_LexPlaces.j8 k y0 y1 y2 y3 y4 y5 y6) (waymarklaw07_LexPlaces.j8 (k + 1) y0 y1 y2 y3 y4 y5 y6)) ∧ (∀ y0 y1 y2 y3 y4, LeO (waymarklaw07_LexPlaces.j9 k y0 y1 y2 y3 y4) (waymarklaw07_LexPlaces.j9 (k + 1) y0 y1 y2 y3 y4))
 | 0 => ⟨fun _ _ _ _ _ r h => by simp [waymarklaw07_LexPlaces.l0] at h, fun _ _ _ _ _ _ r h => by simp [waymarklaw07_LexPlaces.j1] at h, fun _ _ _ _ _ _ r h => by simp [waymarklaw07_LexPlaces.j2] at h, fun _ _ _ _ _ _ _ r h => by simp [waymarklaw07_LexPlaces.l1] at h, fun _ _ _ _ _ _ _ _ _ _ r h => by simp [waymarklaw07_LexPlaces.j4] at h, fun _ _ _ _ _ _ r h => by simp [waymarklaw07_LexPlaces.l2] at h, fun _ _ _ _ _ _ _ r h => by simp [waymarklaw07_LexPlaces.j6] at h, fun _ _ _ _ _ _ _ r h => by simp [waymarklaw07_LexPlaces.j7] at h, fun _ _ _ _ _ _ _ r h => by simp [waymarklaw07_LexPlaces.j8] at h, fun _ _ _ _ _ r h => by simp [waymarklaw07_LexPlaces.j9] at h⟩
 | k + 1 => by
  obtain ⟨ih0, ih1, ih2, ih3, ih4, ih5, ih6, ih7, ih8, ih9⟩ := waymarklaw07_LexPlaces.mono_l k
  refine ⟨?_, ?_, ?_, ?_, ?_, ?_, ?_, ?_, ?_, ?_⟩
  ·intro y0 y1 y2 y3 y4
   unfold waymarklaw07_LexPlaces.l0
   repeat' first
   | (with_reducible exact ih0 _ _ _ _ _)
   | (with_reducible exact ih1 _ _ _ _ _ _)
   | (with_reducible exact ih2 _ _ _ _ _ _)
   | (with_reducible exact ih3 _ _ _ _ _ _ _)
   | (with_reducible exact ih4 _ _ _ _ _ _ _ _ _ _)
   | (with_reducible exact ih5 _ _ _ _ _ _)
   | (with_reducible exact ih6 _ _ _ _ _ _ _)
   | (with_reducible exact ih7 _ _ _ _ _ _ _)
   | (with_reducible exact ih8 _ _ _ _ _ _ _)
   | (with_reducible exact ih9 _ _ _ _ _)
   | (with_reducible exact lex_Lines.mono _ _)
   | (with_reducible exact lex_Tokens.mono _ _)
   | (with_reducible exact waymarklaw07_stands.mono _ _ _ _ _)
   | (with_reducible exact waymarklaw07_works.mono _)
   | (with_reducible exact LeO.refl _)
   | (with_reducible exact LeO.none _)
   | (with_reducible refine LeO.ite ?_ ?_)
   | (with_reducible refine LeO.bind ?_ (fun _ => ?_))
   | exact ih0 _ _ _ _ _
   | exact ih1 _ _ _ _ _ _
   | exact ih2 _ _ _ _ _ _
   | exact ih3 _ _ _ _ _ _ _
   | exact ih4 _ _ _ _ _ _ _ _ _ _
   | exact ih5 _ _ _ _ _ _
   | exact ih6 _ _ _ _ _ _ _
   | exact ih7 _ _ _ _ _ _ _
   | exact ih8 _ _ _ _ _ _ _
   | exact ih9 _ _ _ _ _
   | exact lex_Lines.mono _ _
   | exact lex_Tokens.mono _ _
   | exact waymarklaw07_stands.mono _ _ _ _ _
   | exact waymarklaw07_works.mono _
   | exact LeO.none _
   | refine LeO.ite ?_ ?_
   | refine LeO.bind ?_ (fun _ => ?_)
  ·intro y0 y1 y2 y3 y4 y5
   unfold waymarklaw07_LexPlaces.j1
   repeat' first
   | (with_reducible exact ih0 _ _ _ _ _)
   | (with_reducible exact ih1 _ _ _ _ _ _)
   | (with_reducible exact ih2 _ _ _ _ _ _)
   | (with_reducible exact ih3 _ _ _ _ _ _ _)
   | (with_reducible exact ih4 _ _ _ _ _ _ _ _ _ _)
   | (with_reducible exact ih5 _ _ _ _ _ _)
   | (with_reducible exact ih6 _ _ _ _ _ _ _)
   | (with_reducible exact ih7 _ _ _ _ _ _ _)
   | (with_reducible exact ih8 _ _ _ _ _ _ _)
   | (with_reducible exact ih9 _ _ _ _ _)
   | (with_reducible exact lex_Lines.mono _ _)
   | (with_reducible exact lex_Tokens.mono _ _)
   | (with_reducible exact waymarklaw07_stands.mono _ _ _ _ _)
   | (with_reducible exact waymarklaw07_works.mono _)
   | (with_reducible exact LeO.refl _)
   | (with_reducible exact LeO.none _)
   | (with_reducible refine LeO.ite ?_ ?_)
   | (with_reducible refine LeO.bind ?_ (fun _ => ?_))
   | exact ih0 _ _ _ _ _
   | exact ih1 _ _ _ _ _ _
   | exact ih2 _ _ _ _ _ _
   | exact ih3 _ _ _ _ _ _ _
   | exact ih4 _ _ _ _ _ _ _ _ _ _
   | exact ih5 _ _ _ _ _ _
   | exact ih6 _ _ _ _ _ _ _
   | exact ih7 _ _ _ _ _ _ _
   | exact ih8 _ _ _ _ _ _ _
   | exact ih9 _ _ _ _ _
   | exact lex_Lines.mono _ _
   | exact lex_Tokens.mono _ _
   | exact waymarklaw07_stands.mono _ _ _ _ _
   | exact waymarklaw07_works.mono _
   | exact LeO.none _
   | refine LeO.ite ?_ ?_
   | refine LeO.bind ?_ (fun _ => ?_)
  ·intro y0 y1 y2 y3 y4 y5
   unfold waymarklaw07_LexPlaces.j2
   repeat' first
   | (with_reducible exact ih0 _ _ _ _ _)
   | (with_reducible exact ih1 _ _ _ _ _ _)
   | (with_reducible exact ih2 _ _ _ _ _ _)
   | (with_reducible exact ih3 _ _ _ _ _ _ _)
   | (with_reducible exact ih4 _ _ _ _ _ _ _ _ _ _)
   | (with_reducible exact ih5 _ _ _ _ _ _)
   | (with_reducible exact ih6 _ _ _ _ _ _ _)
   | (with_reducible exact ih7 _ _ _ _ _ _ _)
   | (with_reducible exact ih8 _ _ _ _ _ _ _)
   | (with_reducible exact ih9 _ _ _ _ _)
   | (with_reducible exact lex_Lines.mono _ _)
   | (with_reducible exact lex_Tokens.mono _ _)
   | (with_reducible exact waymarklaw07_stands.mono _ _ _ _ _)
   | (with_reducible exact waymarklaw07_works.mono _)
   | (with_reducible exact LeO.refl _)
   | (with_reducible exact LeO.none _)
   | (with_reducible refine LeO.ite ?_ ?_)
   | (with_reducible refine LeO.bind ?_ (fun _ => ?_))
   | exact ih0 _ _ _ _ _
   | exact ih1 _ _ _ _ _ _
   | exact ih2 _ _ _ _ _ _
   | exact ih3 _ _ _ _ _ _ _
   | exact ih4 _ _ _ _ _ _ _ _ _ _
   | exact ih5 _ _ _ _ _ _
   | exact ih6 _ _ _ _ _ _ _
   | exact ih7 _ _ _ _ _ _ _
   | exact ih8 _ _ _ _ _ _ _
   | exact ih9 _ _ _ _ _
   | exact lex_Lines.mono _ _
   | exact lex_Tokens.mono _ _
   | exact waymarklaw07_stands.mono _ _ _ _ _
   | exact waymarklaw07_works.mono _
   | exact LeO.none _
   | refine LeO.ite ?_ ?_
   | refine LeO.bind ?_ (fun _ => ?_)
  ·intro y0 y1 y2 y3 y4 y5 y6
   unfold waymarklaw07_LexPlaces.l1
   repeat' first
   | (with_reducible exact ih0 _ _ _ _ _)
   | (with_reducible exact ih1 _ _ _ _ _ _)
   | (with_reducible exact ih2 _ _ _ _ _ _)
   | (with_reducible exact ih3 _ _ _ _ _ _ _)
   | (with_reducible exact ih4 _ _ _ _ _ _ _ _ _ _)
   | (with_reducible exact ih5 _ _ _ _ _ _)
   | (with_reducible exact ih6 _ _ _ _ _ _ _)
   | (with_reducible exact ih7 _ _ _ _ _ _ _)
   | (with_reducible exact ih8 _ _ _ _ _ _ _)
   | (with_reducible exact ih9 _ _ _ _ _)
   | (with_reducible exact lex_Lines.mono _ _)
   | (with_reducible exact lex_Tokens.mono _ _)
   | (with_reducible exact waymarklaw07_stands.mono _ _ _ _ _)
   | (with_reducible exact waymarklaw07_works.mono _)
   | (with_reducible exact LeO.refl _)
   | (with_reducible exact LeO.none _)
   | (with_reducible refine LeO.ite ?_ ?_)
   | (with_reducible refine LeO.bind ?_ (fun _ => ?_))
   | exact ih0 _ _ _ _ _
   | exact ih1 _ _ _ _ _ _
   | exact ih2 _ _ _ _ _ _
   | exact ih3 _ _ _ _ _ _ _
   | exact ih4 _ _ _ _ _ _ _ _ _ _
   | exact ih5 _ _ _ _ _ _
   | exact ih6 _ _ _ _ _ _ _
   | exact ih7 _ _ _ _ _ _ _
   | exact ih8 _ _ _ _ _ _ _
   | exact ih9 _ _ _ _ _
   | exact lex_Lines.mono _ _
   | exact lex_Tokens.mono _ _
   | exact waymarklaw07_stands.mono _ _ _ _ _
   | exact waymarklaw07_works.mono _
   | exact LeO.none _
   | refine LeO.ite ?_ ?_
   | refine LeO.bind ?_ (fun _ => ?_)
  ·intro y0 y1 y2 y3 y4 y5 y6 y7 y8 y9
   unfold waymarklaw07_LexPlaces.j4
   repeat' first
   | (with_reducible exact ih0 _ _ _ _ _)
   | (with_reducible exact ih1 _ _ _ _ _ _)
   | (with_reducible exact ih2 _ _ _ _ _ _)
   | (with_reducible exact ih3 _ _ _ _ _ _ _)
   | (with_reducible exact ih4 _ _ _ _ _ _ _ _ _ _)
   | (with_reducible exact ih5 _ _ _ _ _ _)
   | (with_reducible exact ih6 _ _ _ _ _ _ _)
   | (with_reducible exact ih7 _ _ _ _ _ _ _)
   | (with_reducible exact ih8 _ _ _ _ _ _ _)
   | (with_reducible exact ih9 _ _ _ _ _)
   | (with_reducible exact lex_Lines.mono _ _)
   | (with_reducible exact lex_Tokens.mono _ _)
   | (with_reducible exact waymarklaw07_stands.mono _ _ _ _ _)
   | (with_reducible exact waymarklaw07_works.mono _)
   | (with_reducible exact LeO.refl _)
   | (with_reducible exact LeO.none _)
   | (with_reducible refine LeO.ite ?_ ?_)
   | (with_reducible refine LeO.bind ?_ (fun _ => ?_))
   | exact ih0 _ _ _ _ _
   | exact ih1 _ _ _ _ _ _
   | exact ih2 _ _ _ _ _ _
   | exact ih3 _ _ _ _ _ _ _
   | exact ih4 _ _ _ _ _ _ _ _ _ _
   | exact ih5 _ _ _ _ _ _
   | exact ih6 _ _ _ _ _ _ _
   | exact ih7 _ _ _ _ _ _ _
   | exact ih8 _ _ _ _ _ _ _
   | exact ih9 _ _ _ _ _
   | exact lex_Lines.mono _ _
   | exact lex_Tokens.mono _ _
   | exact waymarklaw07_stands.mono _ _ _ _ _
   | exact waymarklaw07_works.mono _
   | exact LeO.none _
   | refine LeO.ite ?_ ?_
   | refine LeO.bind ?_ (fun _ => ?_)
  ·intro y0 y1 y2 y3 y4 y5
   unfold waymarklaw07_LexPlaces.l2
   repeat' first
   | (with_reducible exact ih0 _ _ _ _ _)
   | (with_reducible exact ih1 _ _ _ _ _ _)
   | (with_reducible exact ih2 _ _ _ _ _ _)
   | (with_reducible exact ih3 _ _ _ _ _ _ _)
   | (with_reducible exact ih4 _ _ _ _ _ _ _ _ _ _)
   | (with_reducible exact ih5 _ _ _ _ _ _)
   | (with_reducible exact ih6 _ _ _ _ _ _ _)
   | (with_reducible exact ih7 _ _ _ _ _ _ _)
   | (with_reducible exact ih8 _ _ _ _ _ _ _)
   | (with_reducible exact ih9 _ _ _ _ _)
   | (with_reducible exact lex_Lines.mono _ _)
   | (with_reducible exact lex_Tokens.mono _ _)
   | (with_reducible exact waymarklaw07_stands.mono _ _ _ _ _)
   | (with_reducible exact waymarklaw07_works.mono _)
   | (with_reducible exact LeO.refl _)
   | (with_reducible exact LeO.none _)
   | (with_reducible refine LeO.ite ?_ ?_)
   | (with_reducible refine LeO.bind ?_ (fun _ => ?_))
   | exact ih0 _ _ _ _ _
   | exact ih1 _ _ _ _ _ _
   | exact ih2 _ _ _ _ _ _
   | exact ih3 _ _ _ _ _ _ _
   | exact ih4 _ _ _ _ _ _ _ _ _ _
   | exact ih5 _ _ _ _ _ _
   | exact ih6 _ _ _ _ _ _ _
   | exact ih7 _ _ _ _ _ _ _
   | exact ih8 _ _ _ _ _ _ _
   | exact ih9 _ _ _ _ _
   | exact lex_Lines.mono _ _
   | exact lex_Tokens.mono _ _
   | exact waymarklaw07_stands.mono _ _ _ _ _
   | exact waymarklaw07_works.mono _
   | exact LeO.none _
   | refine LeO.ite ?_ ?_
   | refine LeO.bind ?_ (fun _ => ?_)
  ·intro y0 y1 y2 y3 y4 y5 y6
   unfold waymarklaw07_LexPlaces.j6
   repeat' first
   | (with_reducible exact ih0 _ _ _ _ _)
   | (with_reducible exact ih1 _ _ _ _ _ _)
   | (with_reducible exact ih2 _ _ _ _ _ _)
   | (with_reducible exact ih3 _ _ _ _ _ _ _)
   | (with_reducible exact ih4 _ _ _ _ _ _ _ _ _ _)
   | (with_reducible exact ih5 _ _ _ _ _ _)
   | (with_reducible exact ih6 _ _ _ _ _ _ _)
   | (with_reducible exact ih7 _ _ _ _ _ _ _)
   | (with_reducible exact ih8 _ _ _ _ _ _ _)
   | (with_reducible exact ih9 _ _ _ _ _)
   | (with_reducible exact lex_Lines.mono _ _)
   | (with_reducible exact lex_Tokens.mono _ _)
   | (with_reducible exact waymarklaw07_stands.mono _ _ _ _ _)
   | (with_reducible exact waymarklaw07_works.mono _)
   | (with_reducible exact LeO.refl _)
   | (with_reducible exact LeO.none _)
   | (with_reducible refine LeO.ite ?_ ?_)
   | (with_reducible refine LeO.bind ?_ (fun _ => ?_))
   | exact ih0 _ _ _ _ _
   | exact ih1 _ _ _ _ _ _
   | exact ih2 _ _ _ _ _ _
   | exact ih3 _ _ _ _ _ _ _
   | exact ih4 _ _ _ _ _ _ _ _ _ _
   | exact ih5 _ _ _ _ _ _
   | exact ih6 _ _ _ _ _ _ _
   | exact ih7 _ _ _ _ _ _ _
   | exact ih8 _ _ _ _ _ _ _
   | exact ih9 _ _ _ _ _
   | exact lex_Lines.mono _ _
   | exact lex_Tokens.mono _ _
   | exact waymarklaw07_stands.mono _ _ _ _ _
   | exact waymarklaw07_works.mono _
   | exact LeO.none _
   | refine LeO.ite ?_ ?_
   | refine LeO.bind ?_ (fun _ => ?_)
  ·intro y0 y1 y2 y3 y4 y5 y6
   unfold waymarklaw07_LexPlaces.j7
   repeat' first
   | (with_reducible exact ih0 _ _ _ _ _)
   | (with_reducible exact ih1 _ _ _ _ _ _)
   | (with_reducible exact ih2 _ _ _ _ _ _)
   | (with_reducible exact ih3 _ _ _ _ _ _ _)
   | (with_reducible exact ih4 _ _ _ _ _ _ _ _ _ _)
   | (with_reducible exact ih5 _ _ _ _ _ _)
   | (with_reducible exact ih6 _ _ _ _ _ _ _)
   | (with_reducible exact ih7 _ _ _ _ _ _ _)
   | (with_reducible exact ih8 _ _ _ _ _ _ _)
   | (with_reducible exact ih9 _ _ _ _ _)
   | (with_reducible exact lex_Lines.mono _ _)
   | (with_reducible exact lex_Tokens.mono _ _)
   | (with_reducible exact waymarklaw07_stands.mono _ _ _ _ _)
   | (with_reducible exact waymarklaw07_works.mono _)
   | (with_reducible exact LeO.refl _)
   | (with_reducible exact LeO.none _)
   | (with_reducible refine LeO.ite ?_ ?_)
   | (with_reducible refine LeO.bind ?_ (fun _ => ?_))
   | exact ih0 _ _ _ _ _
   | exact ih1 _ _ _ _ _ _
   | exact ih2 _ _ _ _ _ _
   | exact ih3 _ _ _ _ _ _ _
   | exact ih4 _ _ _ _ _ _ _ _ _ _
   | exact ih5 _ _ _ _ _ _
   | exact ih6 _ _ _ _ _ _ _
   | exact ih7 _ _ _ _ _ _ _
   | exact ih8 _ _ _ _ _ _ _
   | exact ih9 _ _ _ _ _
   | exact lex_Lines.mono _ _
   | exact lex_Tokens.mono _ _
   | exact waymarklaw07_stands.mono _ _ _ _ _
   | exact waymarklaw07_works.mono _
   | exact LeO.none _
   | refine LeO.ite ?_ ?_
   | refine LeO.bind ?_ (fun _ => ?_)
  ·intro y0 y1 y2 y3 y4 y5 y6
   unfold waymarklaw07_LexPlaces.j8
   repeat' first
   | (with_reducible exact ih0 _ _ _ _ _)
   | (with_reducible exact ih1 _ _ _ _ _ _)
   | (with_reducible exact ih2 _ _ _ _ _ _)
   | (with_reducible exact ih3 _ _ _ _ _ _ _)
   | (with_reducible exact ih4 _ _ _ _ _ _ _ _ _ _)
   | (with_reducible exact ih5 _ _ _ _ _ _)
   | (with_reducible exact ih6 _ _ _ _ _ _ _)
   | (with_reducible exact ih7 _ _ _ _ _ _ _)
   | (with_reducible exact ih8 _ _ _ _ _ _ _)
   | (with_reducible exact ih9 _ _ _ _ _)
   | (with_reducible exact lex_Lines.mono _ _)
   | (with_reducible exact lex_Tokens.mono _ _)
   | (with_reducible exact waymarklaw07_stands.mono _ _ _ _ _)
   | (with_reducible exact waymarklaw07_works.mono _)
   | (with_reducible exact LeO.refl _)
   | (with_reducible exact LeO.none _)
   | (with_reducible refine LeO.ite ?_ ?_)
   | (with_reducible refine LeO.bind ?_ (fun _ => ?_))
   | exact ih0 _ _ _ _ _
   | exact ih1 _ _ _ _ _ _
   | exact ih2 _ _ _ _ _ _
   | exact ih3 _ _ _ _ _ _ _
   | exact ih4 _ _ _ _ _ _ _ _ _ _
   | exact ih5 _ _ _ _ _ _
   | exact ih6 _ _ _ _ _ _ _
   | exact ih7 _ _ _ _ _ _ _
   | exact ih8 _ _ _ _ _ _ _
   | exact ih9 _ _ _ _ _
   | exact lex_Lines.mono _ _
   | exact lex_Tokens.mono _ _
   | exact waymarklaw07_stands.mono _ _ _ _ _
   | exact waymarklaw07_works.mono _
   | exact LeO.none _
   | refine LeO.ite ?_ ?_
   | refine LeO.bind ?_ (fun _ => ?_)
  ·intro y0 y1 y2 y3 y4
   unfold waymarklaw07_LexPlaces.j9
   repeat' first
   | (with_reducible exact ih0 _ _ _ _ _)
   | (with_reducible exact ih1 _ _ _ _ _ _)
   | (with_reducible exact ih2 _ _ _ _ _ _)
   | (with_reducible exact ih3 _ _ _ _ _ _ _)
   | (with_reducible exact ih4 _ _ _ _ _ _ _ _ _ _)
   | (with_reducible exact ih5 _ _ _ _ _ _)
   | (with_reducible exact ih6 _ _ _ _ _ _ _)
   | (with_reducible exact ih7 _ _ _ _ _ _ _)
   | (with_reducible exact ih8 _ _ _ _ _ _ _)
   | (with_reducible exact ih9 _ _ _ _ _)
   | (with_reducible exact lex_Lines.mono _ _)
   | (with_reducible exact lex_Tokens.mono _ _)
   | (with_reducible exact waymarklaw07_stands.mono _ _ _ _ _)
   | (with_reducible exact waymarklaw07_works.mono _)
   | (with_reducible exact LeO.refl _)
   | (with_reducible exact LeO.none _)
   | (with_reducible refine LeO.ite ?_ ?_)
   | (with_reducible refine LeO.bind ?_ (fun _ => ?_))
   | exact ih0 _ _ _ _ _
   | exact ih1 _ _ _ _ _ _
   | exact ih2 _ _ _ _ _ _
   | exact ih3 _ _ _ _ _ _ _
   | exact ih4 _ _ _ _ _ _ _ _ _ _
   | exact ih5 _ _ _ _ _ _
   | exact ih6 _ _ _ _ _ _ _
   | exact ih7 _ _ _ _ _ _ _
   | exact ih8 _ _ _ _ _ _ _
   | exact ih9 _ _ _ _ _
   | exact lex_Lines.mono _ _
   | exact lex_Tokens.mono _ _
   | exact waymarklaw07_stands.mono _ _ _ _ _
   | exact waymarklaw07_works.mono _
   | exact LeO.none _
   | refine LeO.ite ?_ ?_
   | refine LeO.bind ?_ (fun _ => ?_)
theorem waymarklaw07_LexPlaces.mono : ∀ a0 k, LeO (waymarklaw07_LexPlaces.f k a0) (waymarklaw07_LexPlaces.f (k + 1) a0) := by
 intro a0 k
 obtain ⟨ih0, ih1, ih2, ih3, ih4, ih5, ih6, ih7, ih8, ih9⟩ := waymarklaw07_LexPlaces.mono_l k
 unfold waymarklaw07_LexPlaces.f
 repeat' first
   | (with_reducible exact ih0 _ _ _ _ _)
   | (with_reducible exact ih1 _ _ _ _ _ _)
   | (with_reducible exact ih2 _ _ _ _ _ _)
   | (with_reducible exact ih3 _ _ _ _ _ _ _)
   | (with_reducible exact ih4 _ _ _ _ _ _ _ _ _ _)
   | (with_reducible exact ih5 _ _ _ _ _ _)
   | (with_reducible exact ih6 _ _ _ _ _ _ _)
   | (with_reducible exact ih7 _ _ _ _ _ _ _)
   | (with_reducible exact ih8 _ _ _ _ _ _ _)
   | (with_reducible exact ih9 _ _ _ _ _)
   | (with_reducible exact lex_Lines.mono _ _)
   | (with_reducible exact lex_Tokens.mono _ _)
   | (with_reducible exact waymarklaw07_stands.mono _ _ _ _ _)
   | (with_reducible exact waymarklaw07_works.mono _)
   | (with_reducible exact LeO.refl _)
   | (with_reducible exact LeO.none _)
   | (with_reducible refine LeO.ite ?_ ?_)
   | (with_reducible refine LeO.bind ?_ (fun _ => ?_))
   | exact ih0 _ _ _ _ _
   | exact ih1 _ _ _ _ _ _
   | exact ih2 _ _ _ _ _ _
   | exact ih3 _ _ _ _ _ _ _
   | exact ih4 _ _ _ _ _ _ _ _ _ _
   | exact ih5 _ _ _ _ _ _
   | exact ih6 _ _ _ _ _ _ _
   | exact ih7 _ _ _ _ _ _ _
   | exact ih8 _ _ _ _ _ _ _
   | exact ih9 _ _ _ _ _
   | exact lex_Lines.mono _ _
   | exact lex_Tokens.mono _ _
   | exact waymarklaw07_stands.mono _ _ _ _ _
   | exact waymarklaw07_works.mono _
   | exact LeO.none _
   | refine LeO.ite ?_ ?_
   | refine LeO.bind ?_ (fun _ => ?_)
def waymarklaw07_LexPlaces.T9 : Bool × List (List Nat × List Nat) := (true, [([], []), ([], []), ([0, 1], [0, 1]), ([2], [2]), ([3], [3]), ([4], [4]), ([5], [5]), ([6], [6]), ([7], [7]), ([7], [7]), ([8, 9, 7], [7, 8, 9]), ([10, 7], [7, 10]), ([11, 7], [7, 11]), ([12, 7], [7, 12]), ([13, 7], [7, 13]), ([14, 7], [7, 14]), ([15, 7], [7, 15]), ([7], [7]), ([16, 17, 7], [7, 16, 17]), ([7, 18], [7, 18]), ([19, 7], [19]), ([20], [20]), ([20], [20]), ([21, 22, 20], [20, 21, 22]), ([23, 20], [20, 23]), ([24, 20], [20, 24]), ([25, 20], [20, 25]), ([26, 20], [20, 26]), ([27, 20], [20, 27]), ([28, 20], [20, 28]), ([20], [20]), ([20], [20]), ([30, 31, 20], [20, 30, 31]), ([32, 20], [20, 32]), ([33, 20], [20, 33]), ([34, 20], [20, 34]), ([29, 35, 20], [20, 29, 35]), ([20, 36], [20, 36])])
def waymarklaw07_LexPlaces.B9 : List Nat := [0, 0, 3, 7, 15, 31, 63, 127, 255, 255, 1023, 2047, 4095, 8191, 16383, 32767, 65535, 255, 262143, 524287, 1048575, 2097151, 2097151, 8388607, 16777215, 33554431, 67108863, 134217727, 268435455, 536870911, 2097151, 2097151, 3223322623, 7518289919, 16108224511, 33288093695, 68719476735, 137438953471]
theorem waymarklaw07_LexPlaces.tab9 : rtab .any (opsOf Tryd.f5 9) = waymarklaw07_LexPlaces.T9 := by kernel_rfl
theorem waymarklaw07_LexPlaces.bits9 : waitsOk waymarklaw07_LexPlaces.T9.2 waymarklaw07_LexPlaces.B9 = true := by kernel_rfl
def waymarklaw07_LexPlaces.T30 : Bool × List (List Nat × List Nat) := (true, [([], []), ([], []), ([], []), ([1, 2], [1, 2]), ([3], [3]), ([4], [4]), ([], []), ([0, 5, 6], [0, 5, 6]), ([7], [7]), ([8, 7], [8]), ([9], [9]), ([10, 9], [9, 10]), ([11, 9, 9], [9, 11]), ([12], [12]), ([12], [12]), ([13, 14, 12], [12, 13, 14]), ([15, 12], [12, 15]), ([16, 12], [12, 16]), ([17, 12], [12, 17]), ([12, 18, 9], [9, 12, 18]), ([9, 19], [9, 19])])
def waymarklaw07_LexPlaces.B30 : List Nat := [0, 0, 0, 6, 14, 30, 0, 127, 255, 511, 1023, 2047, 4095, 8191, 8191, 32767, 65535, 131071, 262143, 524287, 1048575]
theorem waymarklaw07_LexPlaces.tab30 : rtab .any (opsOf Tryd.f5 30) = waymarklaw07_LexPlaces.T30 := by kernel_rfl
theorem waymarklaw07_LexPlaces.bits30 : waitsOk waymarklaw07_LexPlaces.T30.2 waymarklaw07_LexPlaces.B30 = true := by kernel_rfl
set_option maxHeartbeats 8000000 in
set_option maxRecDepth 100000 in
theorem waymarklaw07_LexPlaces.calls (k : Nat) (a0 : ByteArray) (r : Bool) (w : World) (hG : Go.Proofs.YtbnihnggljagnaaDoor.World.GW w) (h : waymarklaw07_LexPlaces.f k a0 = some r) :
  Calls Tryd.prog 5 #[.string a0] w fun e w' => e = .returned (.bool r) ∧ Below w.heap.size w w' := by
 have hu24 := Tryd.underlying24
 have hu37 := Tryd.underlying37
 have HGW_ := Aside0.mk hG
 clear hG
 have HB := Aside0.mk (Below.refl w.heap.size w)
 have H : ((waymarklaw07_works.f k).bind fun t146 => (if t146 = true then ((lex_Lines.f k a0).bind fun bt147 => (waymarklaw07_LexPlaces.l0 k a0 bt147.1 bt147.2.2.2 0 0)) else (none))) = some r := h
 clear h
 replace H := Option.bind_eq_some_iff.mp H
 obtain ⟨t146, A20, H⟩ := H
 replace H : (if t146 = true then ((lex_Lines.f k a0).bind fun bt147 => (waymarklaw07_LexPlaces.l0 k a0 bt147.1 bt147.2.2.2 0 0)) else (none)) = some r := H
 have A2 := Aside0.mk A20
 clear A20
 by_cases c3 : t146 = true
 ·subst c3
  have H1 : ((lex_Lines.f k a0).bind fun bt147 => (waymarklaw07_LexPlaces.l0 k a0 bt147.1 bt147.2.2.2 0 0)) = some r := by rw [if_pos rfl] at H; exact H
  clear H
  have H := H1
  clear H1
  replace H := Option.bind_eq_some_iff.mp H
  obtain ⟨⟨t147, t150, t151, t152⟩, A40, H⟩ := H
  replace H : (waymarklaw07_LexPlaces.l0 k a0 t147 t152 0 0) = some r := H
  have A4 := Aside0.mk A40
  clear A40
  have H' := Aside0.mk H
  clear H
  go_enter Tryd.func5, Tryd.ntmps5
  go_wp2_with (first | ((with_reducible refine gate_callee (f := 29) rfl ?_); refine goesL_ (some 17) rfl rfl Tryd.func29 (by kernel_rfl) rfl #[] rfl (by (try simp only [List.map_toArray, List.map_cons, List.map_nil]); first | done | rfl | (simp only [List.length_drop, List.length_take]; rfl)) ?_; (with_reducible refine (waymarklaw07_works.calls k  true _ ?side1 A2.out).mono ?_); (case side1 => exact Go.Proofs.YtbnihnggljagnaaDoor.World.GW.below HGW_.out (by repeat (first | (with_reducible first | exact HB.out | apply below_alloc | apply pw_below_drewN | apply below_drew1) | exact HB.out))); rintro e w5 ⟨rfl, hb⟩; refine ⟨_, rfl, ?_⟩; have n0_ := Aside0.mk (below_step (by repeat (first | (with_reducible first | exact HB.out | apply below_alloc | apply pw_below_drewN | apply below_drew1) | exact HB.out)) hb); clear HB; have HB := n0_; clear n0_; (try clear hb); (try clear hb2); (try clear hk); (try clear hi)) | ((with_reducible refine gate_callee (f := 19) rfl ?_); refine goesL_ (some 21) rfl rfl Tryd.func19 (by kernel_rfl) rfl #[.string a0] rfl (by (try simp only [List.map_toArray, List.map_cons, List.map_nil]); first | done | rfl | (simp only [List.length_drop, List.length_take]; rfl)) ?_; (with_reducible refine (lex_Lines.calls k a0 t147 t150 t151 t152 _ ?side1 A4.out).mono ?_); (case side1 => exact Go.Proofs.YtbnihnggljagnaaDoor.World.GW.below HGW_.out (by repeat (first | (with_reducible first | exact HB.out | apply below_alloc | apply pw_below_drewN | apply below_drew1) | exact HB.out))); rintro e w6 ⟨v148, rfl, ho0, hb⟩; refine ⟨_, rfl, ?_⟩; have n0_ := Aside0.mk (Kd.S_lower ho0 (below_size (by repeat (first | (with_reducible first | exact HB.out | apply below_alloc | apply pw_below_drewN | apply below_drew1) | exact HB.out)))); have n1_ := Aside0.mk (below_step (by repeat (first | (with_reducible first | exact HB.out | apply below_alloc | apply pw_below_drewN | apply below_drew1) | exact HB.out)) hb); clear HB; have HO149 := n0_; have HB := n1_; clear n0_ n1_; (try clear hb); (try clear hb2); (try clear hk); (try clear hi); (try clear ho0)) | ((with_reducible refine gate_dst (N := 4) rfl ?_); refine box_event ?hg (N := 4) ?hd (cs := #[.int .i64 0, .int .i64 0]) (t := 24) ?hr ?_; (case hd => rfl); (case hg => rfl); (case hr => first | (go_simp; done) | (go_simp; rfl)); intro gb153 hg w7 hbox hb; have n0_ := Aside0.mk (Kd.S_below (by (with_reducible repeat (first | apply Kd.S_alloc | apply Kd.S_drewN | apply Kd.S_drew)); exact HO149.out) hb); have n1_ := Aside0.mk (below_step (by repeat (first | (with_reducible first | exact HB.out | apply below_alloc | apply pw_below_drewN | apply below_drew1) | exact HB.out)) hb); have n2_ := Aside0.mk (hbox); have n3_ := Aside0.mk ((by rw [hg]; exact (below_size (by repeat (first | (with_reducible first | exact HB.out | apply below_alloc | apply pw_below_drewN | apply below_drew1) | exact HB.out))) : w.heap.size ≤ gb153)); have n4_ := Aside0.mk ((by rw [hg]; exact (below_size (by repeat (first | (with_reducible first | exact HB.out | apply below_alloc | apply pw_below_drewN | apply below_drew1) | exact HB.out))) : w.heap.size ≤ gb153)); clear HO149; clear HB; have HO149 := n0_; have HB := n1_; have BK153 := n2_; have GW153 := n3_; have GE153 := n4_; clear n0_ n1_ n2_ n3_ n4_; clear hb hbox hg; have hcz8_0 : w7.cell? ⟨gb153, 0, none⟩ = some (.int .i64 0) := (blk_cell BK153.out 0).trans rfl; have hcz8_1 : w7.cell? ⟨gb153, 1, none⟩ = some (.int .i64 0) := (blk_cell BK153.out 1).trans rfl; have hfz8_0 := blk_frozen BK153.out 0; have hfz8_1 := blk_frozen BK153.out 1))
  go_loopg [6, 7] k (fun kq v6 v7 w' => ∃ (x6_1 : Int) (x7_1 : Int), v6 = .int .i64 x6_1 ∧ v7 = .int .i64 x7_1 ∧ Aside0 (waymarklaw07_LexPlaces.l0 kq a0 t147 t152 x6_1 x7_1 = some r) ∧ Aside0 (kq ≤ k) ∧ Aside0 (Kd.S k35 35 w' w.heap.size (fun _ => True) v148 t147) ∧ Aside0 (w'.heap[gb153]? = some (.cells #[.int .i64 t150, .int .i64 t151] 24 (0, 0))) ∧ Aside0 (Below w.heap.size w w'))
  case atStart => exact ⟨(0), (0), (by first | rfl | (simp; done) | (simp [*]; done)), (by first | rfl | (simp; done) | (simp [*]; done)), H', ⟨Nat.le_refl _⟩, ⟨by (with_reducible repeat (first | apply Kd.S_alloc | apply Kd.S_drewN | apply Kd.S_drew)); exact Kd.S_mono (Kd.S_far (p := ⟨gb153, 1, none⟩) (Kd.S_far (p := ⟨gb153, 0, none⟩) (Kd.S_types HO149.out BK153.out (by decide)) (fun _ hk => hk.2) (.int .i64 t150)) (fun _ hk => hk.2) (.int .i64 t151)) (fun _ hk => trivial)⟩, ⟨by (with_reducible repeat (first | refine blk_drewN ?_ _ | refine blk_drew ?_ | refine blk_alloc ?_ _)); refine blk_put (cs := #[.int .i64 t150, .int .i64 0]) ?_ 1 _ rfl; (with_reducible repeat (first | refine blk_drewN ?_ _ | refine blk_drew ?_ | refine blk_alloc ?_ _)); refine blk_put (cs := #[.int .i64 0, .int .i64 0]) ?_ 0 _ rfl; (with_reducible repeat (first | refine blk_drewN ?_ _ | refine blk_drew ?_ | refine blk_alloc ?_ _)); exact BK153.out⟩, ⟨by repeat (first | (with_reducible first | exact HB.out | apply below_alloc | apply pw_below_drewN | apply below_drew1 | refine below_set ?_ GE153.out) | exact HB.out)⟩⟩
  case round =>
   clear H'
   try clear c1
   try clear c2
   try clear p2
   try clear c3
   try clear c5
   try clear hcz8_0
   try clear hcz8_1
   try clear hfz8_0
   try clear hfz8_1
   obtain ⟨x6_1, x7_1, rfl, rfl, HA, HK1, HO_3, BK153, HB⟩ := hrel
   cases gk with
   | zero => exact absurd HA.out (by simp [waymarklaw07_LexPlaces.l0])
   | succ k1 =>
    have H := HA.out
    clear HA
    simp only [waymarklaw07_LexPlaces.l0] at H
    have HC9 := Aside0.mk H
    clear H
    go_upto_region 6 with (fail)
    go_cut [32] (fun v32 wc => ∃ (kq : Nat) (x32_8 : Bool), v32 = .bool x32_8 ∧ Aside0 (waymarklaw07_LexPlaces.j1 kq a0 t147 t152 x6_1 x7_1 x32_8 = some r) ∧ Aside0 (kq ≤ k1) ∧ Aside0 (Kd.S k35 35 wc w.heap.size (fun _ => True) v148 t147) ∧ Aside0 (wc.heap[gb153]? = some (.cells #[.int .i64 t150, .int .i64 t151] 24 (0, 0))) ∧ Aside0 (Below w.heap.size w wc))
    case first =>
     have H := HC9.out
     clear HC9
     by_cases c10 : x7_1 < (t147.length : Int)
     ·rw [if_pos c10] at H
      have c10b0 : decide (x7_1 < (t147.length : Int)) = true := decide_eq_true c10
      clear c10
      (first | rw [c10b0] | (simp only [i64_w, i32_w]; rw [c10b0]) | skip)
      as_aux_lemma =>
       have H' := Aside0.mk H
       clear H
       obtain ⟨Ao11, co11, eo11⟩ := Kd.S_slice HO_3.out
       subst eo11
       go_wp2
       go_meet
       case rel => exact ⟨_, ((t152 == 0)), (by first | rfl | (simp; done) | (simp [*]; done)), H', ⟨by have := HK1.out; first | omega | exact Nat.le_refl _⟩, ⟨by (with_reducible repeat (first | apply Kd.S_alloc | apply Kd.S_drewN | apply Kd.S_drew)); exact HO_3.out⟩, ⟨by (with_reducible repeat (first | refine blk_drewN ?_ _ | refine blk_drew ?_ | refine blk_alloc ?_ _)); exact BK153.out⟩, ⟨by repeat (first | (with_reducible first | exact HB.out | apply below_alloc | apply pw_below_drewN | apply below_drew1 | refine below_set ?_ GE153.out) | exact HB.out)⟩⟩
     ·rw [if_neg c10] at H
      have c10b0 : decide (x7_1 < (t147.length : Int)) = false := decide_eq_false c10
      clear c10
      (first | rw [c10b0] | (simp only [i64_w, i32_w]; rw [c10b0]) | skip)
      as_aux_lemma =>
       have H' := Aside0.mk H
       clear H
       obtain ⟨Ao12, co12, eo12⟩ := Kd.S_slice HO_3.out
       subst eo12
       go_wp2
       go_meet
       case rel => exact ⟨_, (false), (by first | rfl | (simp; done) | (simp [*]; done)), H', ⟨by have := HK1.out; first | omega | exact Nat.le_refl _⟩, ⟨by (with_reducible repeat (first | apply Kd.S_alloc | apply Kd.S_drewN | apply Kd.S_drew)); exact HO_3.out⟩, ⟨by (with_reducible repeat (first | refine blk_drewN ?_ _ | refine blk_drew ?_ | refine blk_alloc ?_ _)); exact BK153.out⟩, ⟨by repeat (first | (with_reducible first | exact HB.out | apply below_alloc | apply pw_below_drewN | apply below_drew1 | refine below_set ?_ GE153.out) | exact HB.out)⟩⟩
    case rest =>
     clear HC9
     try clear c1
     try clear c2
     try clear p2
     try clear c3
     try clear c5
     try clear c10
     try clear c10b0
     try clear hcz8_0
     try clear hcz8_1
     try clear hfz8_0
     try clear hfz8_1
     try clear p2
     obtain ⟨kq, x32_8, rfl, HA, HJ8, HO_3, BK153, HB⟩ := hcut
     cases kq with
     | zero => exact absurd HA.out (by simp [waymarklaw07_LexPlaces.j1])
     | succ kj8 =>
      have H := HA.out
      clear HA
      simp only [waymarklaw07_LexPlaces.j1] at H
      by_cases c13 : x32_8 = true
      ·subst c13
       have H1 : (if 0 ≤ x7_1 then (if x7_1 < (t147.length : Int) then (if (((rd_T35 t147 x7_1).f1).length : Int) = 0 then (none) else (if 0 < (((rd_T35 t147 x7_1).f1).length : Int) then (if ((rd_T37 ((rd_T35 t147 x7_1).f1) 0).f1.f0) ≤ x6_1 then (none) else (waymarklaw07_LexPlaces.j2 kj8 a0 t147 t152 x7_1 0 (((rd_T37 ((rd_T35 t147 x7_1).f1) 0).f1.f1) != (wrap64 (((rd_T35 t147 x7_1).f0) + 1))))) else (none))) else (none)) else (none)) = some r := by rw [if_pos rfl] at H; exact H
       clear H
       have H := H1
       clear H1
       have HC14 := Aside0.mk H
       clear H
       go_upto_region 9 with (fail)
       go_cut [72] (fun v72 wc => ∃ (kq : Nat) (x72_13 : Bool), v72 = .bool x72_13 ∧ Aside0 (waymarklaw07_LexPlaces.j2 kq a0 t147 t152 x7_1 0 x72_13 = some r) ∧ Aside0 (kq ≤ kj8) ∧ Aside0 (Kd.S k35 35 wc w.heap.size (fun _ => True) v148 t147) ∧ Aside0 (wc.heap[gb153]? = some (.cells #[.int .i64 t150, .int .i64 t151] 24 (0, 0))) ∧ Aside0 (Below w.heap.size w wc))
       case first =>
        have H := HC14.out
        clear HC14
        by_cases c15 : 0 ≤ x7_1
        ·rw [if_pos c15] at H
         have c15b0 : decide (0 ≤ x7_1) = true := decide_eq_true c15
         clear c15
         (first | rw [c15b0] | (simp only [i64_w, i32_w]; rw [c15b0]) | skip)
         by_cases c16 : x7_1 < (t147.length : Int)
         ·rw [if_pos c16] at H
          have c16b0 : decide (x7_1 < (t147.length : Int)) = true := decide_eq_true c16
          clear c16
          by_cases c17 : (((rd_T35 t147 x7_1).f1).length : Int) = 0
          ·rw [if_pos c17] at H
           exact absurd H (by simp)
          ·rw [if_neg c17] at H
           have c17b0 : ((((rd_T35 t147 x7_1).f1).length : Int) == 0) = false := beq_eq_false_iff_ne.mpr c17
           have c17b1 : ((((rd_T35 t147 x7_1).f1).length : Int) != 0) = true := bne_iff_ne.mpr c17
           have c17b2 : ¬ (((rd_T35 t147 x7_1).f1) = []) := fun h_ => c17 (by rw [h_]; rfl)
           by_cases c18 : 0 < (((rd_T35 t147 x7_1).f1).length : Int)
           ·rw [if_pos c18] at H
            have c18b0 : decide (0 < (((rd_T35 t147 x7_1).f1).length : Int)) = true := decide_eq_true c18
            have c18b1 : decide (0 < ((rd_T35 t147 x7_1).f1).length) = true := decide_eq_true (by omega)
            clear c18
            by_cases c19 : ((rd_T37 ((rd_T35 t147 x7_1).f1) 0).f1.f0) ≤ x6_1
            ·rw [if_pos c19] at H
             exact absurd H (by simp)
            ·rw [if_neg c19] at H
             have c19b0 : decide (((rd_T37 ((rd_T35 t147 x7_1).f1) 0).f1.f0) ≤ x6_1) = false := decide_eq_false c19
             clear c19
             as_aux_lemma =>
              have H' := Aside0.mk H
              clear H
              try go_wp2
              have n0_ := Aside0.mk (Kd.S_drew HO_3.out)
              have n1_ := Aside0.mk (blk_drew BK153.out)
              have n2_ := Aside0.mk (below_drew1 HB.out)
              clear HO_3
              clear BK153
              clear HB
              have HO_3 := n0_
              have BK153 := n1_
              have HB := n2_
              clear n0_ n1_ n2_
              obtain ⟨Ao21, co21, eo21⟩ := Kd.S_slice HO_3.out
              (first | subst eo21 | (injection eo21 with f1_ f2_ f3_; have f4_ := f1_.symm; have f5_ := f3_.symm; clear f1_ f2_ f3_; subst f4_; subst f5_))
              have p154 : 0 ≤ (x7_1 : Int) := of_decide_eq_true (by first | (with_reducible assumption) | assumption)
              have q154 : x7_1 < (t147.length : Int) := of_decide_eq_true (by first | (with_reducible assumption) | assumption)
              obtain ⟨ad154, A154_1, c154_1, e154, hx154_0, hx154_1, hl154_1, hi154_1⟩ := at_T35 (Kd.S_reads' HO_3.out).2.2 x7_1 p154 q154
              cases e154
              obtain ⟨ce154, hce154, hMe154, hcc154⟩ := Kd.S_get HO_3.out z35 x7_1 p154 (by first | exact q154 | exact of_decide_eq_true (by first | (with_reducible assumption) | assumption) | (have e_ := (Kd.S_reads' HO_3.out).1; omega))
              obtain ⟨ve154_1, rfl, ge154_1⟩ := k35_openM hMe154
              have hv154_1 := hcc154 1 _ rfl
              rw [add_field _ _ 1 (by omega)] at hv154_1
              replace hv154_1 := Option.some.inj (hv154_1.symm.trans hx154_1)
              rw [hv154_1] at ge154_1
              have HL154_1 := Aside0.mk (show Kd.R k37 37 _ _ _ _ ((rd_T35 t147 x7_1).f1) from ge154_1)
              clear hv154_1 ge154_1
              clear hcc154 hce154
              have HR154_1 := Aside0.mk hi154_1
              have HC154_1 := Aside0.mk hl154_1
              clear hi154_1 hl154_1
              replace p154 := eq_true p154
              replace q154 := eq_true q154
              have p155 : 0 ≤ (x7_1 : Int) := of_decide_eq_true (by first | (with_reducible assumption) | assumption)
              have q155 : x7_1 < (t147.length : Int) := of_decide_eq_true (by first | (with_reducible assumption) | assumption)
              obtain ⟨ad155, A155_1, c155_1, e155, hx155_0, hx155_1, hl155_1, hi155_1⟩ := at_T35 (Kd.S_reads' HO_3.out).2.2 x7_1 p155 q155
              obtain rfl : ad154 = ad155 := (by injection e155)
              obtain ⟨ce155, hce155, hMe155, hcc155⟩ := Kd.S_get HO_3.out z35 x7_1 p155 (by first | exact q155 | exact of_decide_eq_true (by first | (with_reducible assumption) | assumption) | (have e_ := (Kd.S_reads' HO_3.out).1; omega))
              obtain ⟨ve155_1, rfl, ge155_1⟩ := k35_openM hMe155
              have hv155_1 := hcc155 1 _ rfl
              rw [add_field _ _ 1 (by omega)] at hv155_1
              replace hv155_1 := Option.some.inj (hv155_1.symm.trans hx155_1)
              rw [hv155_1] at ge155_1
              have HL155_1 := Aside0.mk (show Kd.R k37 37 _ _ _ _ ((rd_T35 t147 x7_1).f1) from ge155_1)
              clear hv155_1 ge155_1
              clear hcc155 hce155
              have HR155_1 := Aside0.mk hi155_1
              have HC155_1 := Aside0.mk hl155_1
              clear hi155_1 hl155_1
              replace p155 := eq_true p155
              replace q155 := eq_true q155
              have ea_ := Option.some.inj (hx154_1.symm.trans hx155_1)
              injection ea_ with ea_ en_ ec_
              subst ea_
              subst ec_
              clear en_
              have p156 : 0 ≤ (0 : Int) := (by omega)
              have q156 : 0 < (((rd_T35 t147 x7_1).f1).length : Int) := of_decide_eq_true (by first | (with_reducible assumption) | assumption)
              obtain ⟨ad156, e156, hx156_0, hx156_1, hx156_2⟩ := at_T37 (by repeat (first | (with_reducible exact HR155_1.out) | (with_reducible refine Kd.C_alloc ?_ _) | (with_reducible refine Kd.C_drewN ?_ _) | (with_reducible refine Kd.C_drew ?_) | exact HR155_1.out)) 0 p156 q156
              cases e156
              have qi156 : (0 < ((rd_T35 t147 x7_1).f1).length) = True := eq_true (by omega)
              (try rw [show ((0 : Int)).toNat = 0 from rfl] at hx156_0)
              (try rw [show 0 * 3 = 0 from rfl] at hx156_0)
              (try rw [Addr.add_zero'] at hx156_0)
              (try rw [show ((0 : Int)).toNat = 0 from rfl] at hx156_1)
              (try rw [show 0 * 3 = 0 from rfl] at hx156_1)
              (try rw [Addr.add_zero'] at hx156_1)
              (try rw [show ((0 : Int)).toNat = 0 from rfl] at hx156_2)
              (try rw [show 0 * 3 = 0 from rfl] at hx156_2)
              (try rw [Addr.add_zero'] at hx156_2)
              replace p156 := eq_true p156
              replace q156 := eq_true q156
              have p157 : 0 ≤ (x7_1 : Int) := of_decide_eq_true (by first | (with_reducible assumption) | assumption)
              have q157 : x7_1 < (t147.length : Int) := of_decide_eq_true (by first | (with_reducible assumption) | assumption)
              obtain ⟨ad157, A157_1, c157_1, e157, hx157_0, hx157_1, hl157_1, hi157_1⟩ := at_T35 (Kd.S_reads' HO_3.out).2.2 x7_1 p157 q157
              obtain rfl : ad154 = ad157 := (by injection e157)
              obtain ⟨ce157, hce157, hMe157, hcc157⟩ := Kd.S_get HO_3.out z35 x7_1 p157 (by first | exact q157 | exact of_decide_eq_true (by first | (with_reducible assumption) | assumption) | (have e_ := (Kd.S_reads' HO_3.out).1; omega))
              obtain ⟨ve157_1, rfl, ge157_1⟩ := k35_openM hMe157
              have hv157_1 := hcc157 1 _ rfl
              rw [add_field _ _ 1 (by omega)] at hv157_1
              replace hv157_1 := Option.some.inj (hv157_1.symm.trans hx157_1)
              rw [hv157_1] at ge157_1
              have HL157_1 := Aside0.mk (show Kd.R k37 37 _ _ _ _ ((rd_T35 t147 x7_1).f1) from ge157_1)
              clear hv157_1 ge157_1
              clear hcc157 hce157
              have HR157_1 := Aside0.mk hi157_1
              have HC157_1 := Aside0.mk hl157_1
              clear hi157_1 hl157_1
              replace p157 := eq_true p157
              replace q157 := eq_true q157
              have ea_ := Option.some.inj (hx154_1.symm.trans hx157_1)
              injection ea_ with ea_ en_ ec_
              subst ea_
              subst ec_
              clear en_
              have p158 : 0 ≤ (0 : Int) := (by omega)
              have q158 : 0 < (((rd_T35 t147 x7_1).f1).length : Int) := of_decide_eq_true (by first | (with_reducible assumption) | assumption)
              obtain ⟨ad158, e158, hx158_0, hx158_1, hx158_2⟩ := at_T37 (by repeat (first | (with_reducible exact HR157_1.out) | (with_reducible refine Kd.C_alloc ?_ _) | (with_reducible refine Kd.C_drewN ?_ _) | (with_reducible refine Kd.C_drew ?_) | exact HR157_1.out)) 0 p158 q158
              cases e158
              have qi158 : (0 < ((rd_T35 t147 x7_1).f1).length) = True := eq_true (by omega)
              (try rw [show ((0 : Int)).toNat = 0 from rfl] at hx158_0)
              (try rw [show 0 * 3 = 0 from rfl] at hx158_0)
              (try rw [Addr.add_zero'] at hx158_0)
              (try rw [show ((0 : Int)).toNat = 0 from rfl] at hx158_1)
              (try rw [show 0 * 3 = 0 from rfl] at hx158_1)
              (try rw [Addr.add_zero'] at hx158_1)
              (try rw [show ((0 : Int)).toNat = 0 from rfl] at hx158_2)
              (try rw [show 0 * 3 = 0 from rfl] at hx158_2)
              (try rw [Addr.add_zero'] at hx158_2)
              replace p158 := eq_true p158
              replace q158 := eq_true q158
              have p159 : 0 ≤ (x7_1 : Int) := of_decide_eq_true (by first | (with_reducible assumption) | assumption)
              have q159 : x7_1 < (t147.length : Int) := of_decide_eq_true (by first | (with_reducible assumption) | assumption)
              obtain ⟨ad159, A159_1, c159_1, e159, hx159_0, hx159_1, hl159_1, hi159_1⟩ := at_T35 (Kd.S_reads' HO_3.out).2.2 x7_1 p159 q159
              obtain rfl : ad154 = ad159 := (by injection e159)
              obtain ⟨ce159, hce159, hMe159, hcc159⟩ := Kd.S_get HO_3.out z35 x7_1 p159 (by first | exact q159 | exact of_decide_eq_true (by first | (with_reducible assumption) | assumption) | (have e_ := (Kd.S_reads' HO_3.out).1; omega))
              obtain ⟨ve159_1, rfl, ge159_1⟩ := k35_openM hMe159
              have hv159_1 := hcc159 1 _ rfl
              rw [add_field _ _ 1 (by omega)] at hv159_1
              replace hv159_1 := Option.some.inj (hv159_1.symm.trans hx159_1)
              rw [hv159_1] at ge159_1
              have HL159_1 := Aside0.mk (show Kd.R k37 37 _ _ _ _ ((rd_T35 t147 x7_1).f1) from ge159_1)
              clear hv159_1 ge159_1
              clear hcc159 hce159
              have HR159_1 := Aside0.mk hi159_1
              have HC159_1 := Aside0.mk hl159_1
              clear hi159_1 hl159_1
              replace p159 := eq_true p159
              replace q159 := eq_true q159
              have ea_ := Option.some.inj (hx154_1.symm.trans hx159_1)
              injection ea_ with ea_ en_ ec_
              subst ea_
              subst ec_
              clear en_
              refine start_ (n := 38) (S := fun w' => w'.cell? (ad154.add ((x7_1).toNat * 2)) = some (.int .i64 ((rd_T35 t147 x7_1).f0)) ∧ w'.cell? ⟨(ad154.add ((x7_1).toNat * 2)).block, (ad154.add ((x7_1).toNat * 2)).off + 1, none⟩ = some (.slice (some ad156) ((rd_T35 t147 x7_1).f1).length c154_1) ∧ w'.cell? (ad154.add ((x7_1).toNat * 2)) = some (.int .i64 ((rd_T35 t147 x7_1).f0)) ∧ w'.cell? ⟨(ad154.add ((x7_1).toNat * 2)).block, (ad154.add ((x7_1).toNat * 2)).off + 1, none⟩ = some (.slice (some ad156) ((rd_T35 t147 x7_1).f1).length c154_1) ∧ w'.cell? ad156 = some (.string ((rd_T37 ((rd_T35 t147 x7_1).f1) 0).f0)) ∧ w'.cell? ⟨ad156.block, ad156.off + 1, none⟩ = some (.int .i64 ((rd_T37 ((rd_T35 t147 x7_1).f1) 0).f1.f0)) ∧ w'.cell? ⟨ad156.block, ad156.off + 2, none⟩ = some (.int .i64 ((rd_T37 ((rd_T35 t147 x7_1).f1) 0).f1.f1)) ∧ w'.cell? (ad154.add ((x7_1).toNat * 2)) = some (.int .i64 ((rd_T35 t147 x7_1).f0)) ∧ w'.cell? ⟨(ad154.add ((x7_1).toNat * 2)).block, (ad154.add ((x7_1).toNat * 2)).off + 1, none⟩ = some (.slice (some ad156) ((rd_T35 t147 x7_1).f1).length c154_1) ∧ w'.cell? ad156 = some (.string ((rd_T37 ((rd_T35 t147 x7_1).f1) 0).f0)) ∧ w'.cell? ⟨ad156.block, ad156.off + 1, none⟩ = some (.int .i64 ((rd_T37 ((rd_T35 t147 x7_1).f1) 0).f1.f0)) ∧ w'.cell? ⟨ad156.block, ad156.off + 2, none⟩ = some (.int .i64 ((rd_T37 ((rd_T35 t147 x7_1).f1) 0).f1.f1)) ∧ w'.cell? (ad154.add ((x7_1).toNat * 2)) = some (.int .i64 ((rd_T35 t147 x7_1).f0)) ∧ w'.cell? ⟨(ad154.add ((x7_1).toNat * 2)).block, (ad154.add ((x7_1).toNat * 2)).off + 1, none⟩ = some (.slice (some ad156) ((rd_T35 t147 x7_1).f1).length c154_1)) (ds := []) #[false, false, false, false, false, false, false, false, false, false, false, false, false, false, false, false, false, false, false, false, false, false, false, false, false, false, false, false, false, false, false, false, false, false, false, false, false, false] (by kernel_rfl) rfl rfl ⟨hx154_0, hx154_1, hx155_0, hx155_1, hx156_0, hx156_1, hx156_2, hx157_0, hx157_1, hx158_0, hx158_1, hx158_2, hx159_0, hx159_1⟩ (fun hHeld => ?_); refine with_tabW waymarklaw07_LexPlaces.tab9 waymarklaw07_LexPlaces.bits9 (fun HT_ HW_ => ?_)
              generalize wc.drew = w20 at HO_3 BK153 HB HL154_1 HL155_1 HL157_1 HL159_1 HR154_1 HR155_1 HR157_1 HR159_1 hx154_0 hx154_1 hx155_0 hx155_1 hx156_0 hx156_1 hx156_2 hx157_0 hx157_1 hx158_0 hx158_1 hx158_2 hx159_0 hx159_1 hHeld ⊢
              refine pure_ (i := 0) (N := some 35) (v := ?_) (a' := ?_) #[true, false, false, false, false, false, false, false, false, false, false, false, false, false, false, false, false, false, false, false, false, false, false, false, false, false, false, false, false, false, false, false, false, false, false, false, false, false] rfl rfl (any_of HT_.out (by kernel_rfl)) (fun _ _ _ h => h) (Or.inl ⟨by rfl, ?_⟩) ?_ ?_
              rotate_left
              ·intro w'
               go_simp
               with_reducible rfl
              rotate_left
              ·simp only [Act.put, List.setIfInBounds_toArray, List.set_cons_zero, List.set_cons_succ, i64_w, i32_w]
               rfl
              refine pure_ (i := 1) (N := some 36) (v := ?_) (a' := ?_) #[true, true, false, false, false, false, false, false, false, false, false, false, false, false, false, false, false, false, false, false, false, false, false, false, false, false, false, false, false, false, false, false, false, false, false, false, false, false] rfl rfl (any_of HT_.out (by kernel_rfl)) (fun _ _ _ h => h) (Or.inl ⟨by rfl, ?_⟩) ?_ ?_
              rotate_left
              ·intro w'
               go_simp
               with_reducible rfl
              rotate_left
              ·simp only [Act.put, List.setIfInBounds_toArray, List.set_cons_zero, List.set_cons_succ, i64_w, i32_w]
               rfl
              refine pure_ (i := 2) (N := some 37) (v := ?_) (a' := ?_) #[true, true, true, false, false, false, false, false, false, false, false, false, false, false, false, false, false, false, false, false, false, false, false, false, false, false, false, false, false, false, false, false, false, false, false, false, false, false] rfl rfl (any_of HT_.out (by kernel_rfl)) (fun _ _ _ h => h) (Or.inl ⟨by rfl, ?_⟩) ?_ ?_
              rotate_left
              ·intro w'
               go_simp
               with_reducible rfl
              rotate_left
              ·simp only [Act.put, List.setIfInBounds_toArray, List.set_cons_zero, List.set_cons_succ, i64_w, i32_w]
               rfl
              refine pure_ (i := 3) (N := some 38) (v := ?_) (a' := ?_) #[true, true, true, true, false, false, false, false, false, false, false, false, false, false, false, false, false, false, false, false, false, false, false, false, false, false, false, false, false, false, false, false, false, false, false, false, false, false] rfl rfl (any_of HT_.out (by kernel_rfl)) (fun _ _ _ h => h) (Or.inl ⟨by rfl, ?_⟩) ?_ ?_
              rotate_left
              ·intro w'
               go_simp
               with_reducible rfl
              rotate_left
              ·simp only [Act.put, List.setIfInBounds_toArray, List.set_cons_zero, List.set_cons_succ, i64_w, i32_w]
               rfl
              refine take_ (i := 4) (N := some 39) (v := ?_) (a' := ?_) #[true, true, true, true, true, false, false, false, false, false, false, false, false, false, false, false, false, false, false, false, false, false, false, false, false, false, false, false, false, false, false, false, false, false, false, false, false, false] rfl rfl (take_ofW HT_.out HW_.out (by kernel_rfl)) (fun _ _ _ h => h) (Or.inl ⟨by rfl, ?_⟩) hHeld ?_ ?_
              rotate_left
              ·rintro w' ⟨s0, s1, s2, s3, s4, s5, s6, s7, s8, s9, s10, s11, s12, s13⟩
               go_simp
               with_reducible rfl
              rotate_left
              ·simp only [Act.put, List.setIfInBounds_toArray, List.set_cons_zero, List.set_cons_succ, i64_w, i32_w]
               rfl
              refine pure_ (i := 5) (N := some 40) (v := ?_) (a' := ?_) #[true, true, true, true, true, true, false, false, false, false, false, false, false, false, false, false, false, false, false, false, false, false, false, false, false, false, false, false, false, false, false, false, false, false, false, false, false, false] rfl rfl (any_of HT_.out (by kernel_rfl)) (fun _ _ _ h => h) (Or.inl ⟨by rfl, ?_⟩) ?_ ?_
              rotate_left
              ·intro w'
               go_simp
               with_reducible rfl
              rotate_left
              ·simp only [Act.put, List.setIfInBounds_toArray, List.set_cons_zero, List.set_cons_succ, i64_w, i32_w]
               rfl
              refine pure_ (i := 6) (N := some 41) (v := ?_) (a' := ?_) #[true, true, true, true, true, true, true, false, false, false, false, false, false, false, false, false, false, false, false, false, false, false, false, false, false, false, false, false, false, false, false, false, false, false, false, false, false, false] rfl rfl (any_of HT_.out (by kernel_rfl)) (fun _ _ _ h => h) (Or.inl ⟨by rfl, ?_⟩) ?_ ?_
              rotate_left
              ·intro w'
               go_simp
               with_reducible rfl
              rotate_left
              ·simp only [Act.put, List.setIfInBounds_toArray, List.set_cons_zero, List.set_cons_succ, i64_w, i32_w]
               rfl
              refine pure_ (i := 7) (N := some 42) (v := ?_) (a' := ?_) #[true, true, true, true, true, true, true, true, false, false, false, false, false, false, false, false, false, false, false, false, false, false, false, false, false, false, false, false, false, false, false, false, false, false, false, false, false, false] rfl rfl (any_of HT_.out (by kernel_rfl)) (fun _ _ _ h => h) (Or.inl ⟨by rfl, ?_⟩) ?_ ?_
              rotate_left
              ·intro w'
               go_simp
               with_reducible rfl
              rotate_left
              ·simp only [Act.put, List.setIfInBounds_toArray, List.set_cons_zero, List.set_cons_succ, i64_w, i32_w]
               rfl
              refine pure_ (i := 8) (N := some 43) (v := ?_) (a' := ?_) #[true, true, true, true, true, true, true, true, true, false, false, false, false, false, false, false, false, false, false, false, false, false, false, false, false, false, false, false, false, false, false, false, false, false, false, false, false, false] rfl rfl (any_of HT_.out (by kernel_rfl)) (fun _ _ _ h => h) (Or.inl ⟨by rfl, ?_⟩) ?_ ?_
              rotate_left
              ·intro w'
               go_simp
               with_reducible rfl
              rotate_left
              ·simp only [Act.put, List.setIfInBounds_toArray, List.set_cons_zero, List.set_cons_succ, i64_w, i32_w]
               rfl
              refine pure_ (i := 9) (N := some 44) (v := ?_) (a' := ?_) #[true, true, true, true, true, true, true, true, true, true, false, false, false, false, false, false, false, false, false, false, false, false, false, false, false, false, false, false, false, false, false, false, false, false, false, false, false, false] rfl rfl (any_of HT_.out (by kernel_rfl)) (fun _ _ _ h => h) (Or.inl ⟨by rfl, ?_⟩) ?_ ?_
              rotate_left
              ·intro w'
               go_simp
               with_reducible rfl
              rotate_left
              ·simp only [Act.put, List.setIfInBounds_toArray, List.set_cons_zero, List.set_cons_succ, i64_w, i32_w]
               rfl
              refine pure_ (i := 10) (N := some 45) (v := ?_) (a' := ?_) #[true, true, true, true, true, true, true, true, true, true, true, false, false, false, false, false, false, false, false, false, false, false, false, false, false, false, false, false, false, false, false, false, false, false, false, false, false, false] rfl rfl (any_of HT_.out (by kernel_rfl)) (fun _ _ _ h => h) (Or.inl ⟨by rfl, ?_⟩) ?_ ?_
              rotate_left
              ·intro w'
               go_simp
               with_reducible rfl
              rotate_left
              ·simp only [Act.put, List.setIfInBounds_toArray, List.set_cons_zero, List.set_cons_succ, i64_w, i32_w]
               rfl
              refine pure_ (i := 11) (N := some 46) (v := ?_) (a' := ?_) #[true, true, true, true, true, true, true, true, true, true, true, true, false, false, false, false, false, false, false, false, false, false, false, false, false, false, false, false, false, false, false, false, false, false, false, false, false, false] rfl rfl (any_of HT_.out (by kernel_rfl)) (fun _ _ _ h => h) (Or.inl ⟨by rfl, ?_⟩) ?_ ?_
              rotate_left
              ·intro w'
               go_simp
               with_reducible rfl
              rotate_left
              ·simp only [Act.put, List.setIfInBounds_toArray, List.set_cons_zero, List.set_cons_succ, i64_w, i32_w]
               rfl
              refine pure_ (i := 17) (N := some 52) (v := ?_) (a' := ?_) #[true, true, true, true, true, true, true, true, true, true, true, true, false, false, false, false, false, true, false, false, false, false, false, false, false, false, false, false, false, false, false, false, false, false, false, false, false, false] rfl rfl (any_of HT_.out (by kernel_rfl)) (fun _ _ _ h => h) (Or.inl ⟨by rfl, ?_⟩) ?_ ?_
              rotate_left
              ·intro w'
               go_simp
               with_reducible rfl
              rotate_left
              ·simp only [Act.put, List.setIfInBounds_toArray, List.set_cons_zero, List.set_cons_succ, i64_w, i32_w]
               rfl
              refine take_ (i := 12) (N := some 47) (v := ?_) (a' := ?_) #[true, true, true, true, true, true, true, true, true, true, true, true, true, false, false, false, false, true, false, false, false, false, false, false, false, false, false, false, false, false, false, false, false, false, false, false, false, false] rfl rfl (take_ofW HT_.out HW_.out (by kernel_rfl)) (fun _ _ _ h => h) (Or.inl ⟨by rfl, ?_⟩) hHeld ?_ ?_
              rotate_left
              ·rintro w' ⟨s0, s1, s2, s3, s4, s5, s6, s7, s8, s9, s10, s11, s12, s13⟩
               go_simp
               with_reducible rfl
              rotate_left
              ·simp only [Act.put, List.setIfInBounds_toArray, List.set_cons_zero, List.set_cons_succ, i64_w, i32_w]
               rfl
              refine pure_ (i := 13) (N := some 48) (v := ?_) (a' := ?_) #[true, true, true, true, true, true, true, true, true, true, true, true, true, true, false, false, false, true, false, false, false, false, false, false, false, false, false, false, false, false, false, false, false, false, false, false, false, false] rfl rfl (any_of HT_.out (by kernel_rfl)) (fun _ _ _ h => h) (Or.inl ⟨by rfl, ?_⟩) ?_ ?_
              rotate_left
              ·intro w'
               go_simp
               with_reducible rfl
              rotate_left
              ·simp only [Act.put, List.setIfInBounds_toArray, List.set_cons_zero, List.set_cons_succ, i64_w, i32_w]
               rfl
              refine pure_ (i := 14) (N := some 49) (v := ?_) (a' := ?_) #[true, true, true, true, true, true, true, true, true, true, true, true, true, true, true, false, false, true, false, false, false, false, false, false, false, false, false, false, false, false, false, false, false, false, false, false, false, false] rfl rfl (any_of HT_.out (by kernel_rfl)) (fun _ _ _ h => h) (Or.inl ⟨by rfl, ?_⟩) ?_ ?_
              rotate_left
              ·intro w'
               go_simp
               with_reducible rfl
              rotate_left
              ·simp only [Act.put, List.setIfInBounds_toArray, List.set_cons_zero, List.set_cons_succ, i64_w, i32_w]
               rfl
              refine pure_ (i := 15) (N := some 50) (v := ?_) (a' := ?_) #[true, true, true, true, true, true, true, true, true, true, true, true, true, true, true, true, false, true, false, false, false, false, false, false, false, false, false, false, false, false, false, false, false, false, false, false, false, false] rfl rfl (any_of HT_.out (by kernel_rfl)) (fun _ _ _ h => h) (Or.inl ⟨by rfl, ?_⟩) ?_ ?_
              rotate_left
              ·intro w'
               go_simp
               with_reducible rfl
              rotate_left
              ·simp only [Act.put, List.setIfInBounds_toArray, List.set_cons_zero, List.set_cons_succ, i64_w, i32_w]
               rfl
              refine take_ (i := 16) (N := some 51) (v := ?_) (a' := ?_) #[true, true, true, true, true, true, true, true, true, true, true, true, true, true, true, true, true, true, false, false, false, false, false, false, false, false, false, false, false, false, false, false, false, false, false, false, false, false] rfl rfl (take_ofW HT_.out HW_.out (by kernel_rfl)) (fun _ _ _ h => h) (Or.inl ⟨by rfl, ?_⟩) hHeld ?_ ?_
              rotate_left
              ·rintro w' ⟨s0, s1, s2, s3, s4, s5, s6, s7, s8, s9, s10, s11, s12, s13⟩
               go_simp
               with_reducible rfl
              rotate_left
              ·simp only [Act.put, List.setIfInBounds_toArray, List.set_cons_zero, List.set_cons_succ, i64_w, i32_w]
               rfl
              refine pure_ (i := 18) (N := some 53) (v := ?_) (a' := ?_) #[true, true, true, true, true, true, true, true, true, true, true, true, true, true, true, true, true, true, true, false, false, false, false, false, false, false, false, false, false, false, false, false, false, false, false, false, false, false] rfl rfl (any_of HT_.out (by kernel_rfl)) (fun _ _ _ h => h) (Or.inl ⟨by rfl, ?_⟩) ?_ ?_
              rotate_left
              ·intro w'
               go_simp
               with_reducible rfl
              rotate_left
              ·simp only [Act.put, List.setIfInBounds_toArray, List.set_cons_zero, List.set_cons_succ, i64_w, i32_w]
               rfl
              refine pure_ (i := 19) (N := some 54) (v := ?_) (a' := ?_) #[true, true, true, true, true, true, true, true, true, true, true, true, true, true, true, true, true, true, true, true, false, false, false, false, false, false, false, false, false, false, false, false, false, false, false, false, false, false] rfl rfl (any_of HT_.out (by kernel_rfl)) (fun _ _ _ h => h) (Or.inl ⟨by rfl, ?_⟩) ?_ ?_
              rotate_left
              ·intro w'
               go_simp
               with_reducible rfl
              rotate_left
              ·simp only [Act.put, List.setIfInBounds_toArray, List.set_cons_zero, List.set_cons_succ, i64_w, i32_w]
               rfl
              refine pure_ (i := 20) (N := some 55) (v := ?_) (a' := ?_) #[true, true, true, true, true, true, true, true, true, true, true, true, true, true, true, true, true, true, true, true, true, false, false, false, false, false, false, false, false, false, false, false, false, false, false, false, false, false] rfl rfl (any_of HT_.out (by kernel_rfl)) (fun _ _ _ h => h) (Or.inl ⟨by rfl, ?_⟩) ?_ ?_
              rotate_left
              ·intro w'
               go_simp
               with_reducible rfl
              rotate_left
              ·simp only [Act.put, List.setIfInBounds_toArray, List.set_cons_zero, List.set_cons_succ, i64_w, i32_w]
               rfl
              refine pure_ (i := 21) (N := some 56) (v := ?_) (a' := ?_) #[true, true, true, true, true, true, true, true, true, true, true, true, true, true, true, true, true, true, true, true, true, true, false, false, false, false, false, false, false, false, false, false, false, false, false, false, false, false] rfl rfl (any_of HT_.out (by kernel_rfl)) (fun _ _ _ h => h) (Or.inl ⟨by rfl, ?_⟩) ?_ ?_
              rotate_left
              ·intro w'
               go_simp
               with_reducible rfl
              rotate_left
              ·simp only [Act.put, List.setIfInBounds_toArray, List.set_cons_zero, List.set_cons_succ, i64_w, i32_w]
               rfl
              refine pure_ (i := 22) (N := some 57) (v := ?_) (a' := ?_) #[true, true, true, true, true, true, true, true, true, true, true, true, true, true, true, true, true, true, true, true, true, true, true, false, false, false, false, false, false, false, false, false, false, false, false, false, false, false] rfl rfl (any_of HT_.out (by kernel_rfl)) (fun _ _ _ h => h) (Or.inl ⟨by rfl, ?_⟩) ?_ ?_
              rotate_left
              ·intro w'
               go_simp
               with_reducible rfl
              rotate_left
              ·simp only [Act.put, List.setIfInBounds_toArray, List.set_cons_zero, List.set_cons_succ, i64_w, i32_w]
               rfl
              refine pure_ (i := 23) (N := some 58) (v := ?_) (a' := ?_) #[true, true, true, true, true, true, true, true, true, true, true, true, true, true, true, true, true, true, true, true, true, true, true, true, false, false, false, false, false, false, false, false, false, false, false, false, false, false] rfl rfl (any_of HT_.out (by kernel_rfl)) (fun _ _ _ h => h) (Or.inl ⟨by rfl, ?_⟩) ?_ ?_
              rotate_left
              ·intro w'
               go_simp
               with_reducible rfl
              rotate_left
              ·simp only [Act.put, List.setIfInBounds_toArray, List.set_cons_zero, List.set_cons_succ, i64_w, i32_w]
               rfl
              refine pure_ (i := 24) (N := some 59) (v := ?_) (a' := ?_) #[true, true, true, true, true, true, true, true, true, true, true, true, true, true, true, true, true, true, true, true, true, true, true, true, true, false, false, false, false, false, false, false, false, false, false, false, false, false] rfl rfl (any_of HT_.out (by kernel_rfl)) (fun _ _ _ h => h) (Or.inl ⟨by rfl, ?_⟩) ?_ ?_
              rotate_left
              ·intro w'
               go_simp
               with_reducible rfl
              rotate_left
              ·simp only [Act.put, List.setIfInBounds_toArray, List.set_cons_zero, List.set_cons_succ, i64_w, i32_w]
               rfl
              refine pure_ (i := 30) (N := some 65) (v := ?_) (a' := ?_) #[true, true, true, true, true, true, true, true, true, true, true, true, true, true, true, true, true, true, true, true, true, true, true, true, true, false, false, false, false, false, true, false, false, false, false, false, false, false] rfl rfl (any_of HT_.out (by kernel_rfl)) (fun _ _ _ h => h) (Or.inl ⟨by rfl, ?_⟩) ?_ ?_
              rotate_left
              ·intro w'
               go_simp
               with_reducible rfl
              rotate_left
              ·simp only [Act.put, List.setIfInBounds_toArray, List.set_cons_zero, List.set_cons_succ, i64_w, i32_w]
               rfl
              refine pure_ (i := 31) (N := some 66) (v := ?_) (a' := ?_) #[true, true, true, true, true, true, true, true, true, true, true, true, true, true, true, true, true, true, true, true, true, true, true, true, true, false, false, false, false, false, true, true, false, false, false, false, false, false] rfl rfl (any_of HT_.out (by kernel_rfl)) (fun _ _ _ h => h) (Or.inl ⟨by rfl, ?_⟩) ?_ ?_
              rotate_left
              ·intro w'
               go_simp
               with_reducible rfl
              rotate_left
              ·simp only [Act.put, List.setIfInBounds_toArray, List.set_cons_zero, List.set_cons_succ, i64_w, i32_w]
               rfl
              refine pure_ (i := 32) (N := some 67) (v := ?_) (a' := ?_) #[true, true, true, true, true, true, true, true, true, true, true, true, true, true, true, true, true, true, true, true, true, true, true, true, true, false, false, false, false, false, true, true, true, false, false, false, false, false] rfl rfl (any_of HT_.out (by kernel_rfl)) (fun _ _ _ h => h) (Or.inl ⟨by rfl, ?_⟩) ?_ ?_
              rotate_left
              ·intro w'
               go_simp
               with_reducible rfl
              rotate_left
              ·simp only [Act.put, List.setIfInBounds_toArray, List.set_cons_zero, List.set_cons_succ, i64_w, i32_w]
               rfl
              refine pure_ (i := 33) (N := some 68) (v := ?_) (a' := ?_) #[true, true, true, true, true, true, true, true, true, true, true, true, true, true, true, true, true, true, true, true, true, true, true, true, true, false, false, false, false, false, true, true, true, true, false, false, false, false] rfl rfl (any_of HT_.out (by kernel_rfl)) (fun _ _ _ h => h) (Or.inl ⟨by rfl, ?_⟩) ?_ ?_
              rotate_left
              ·intro w'
               go_simp
               with_reducible rfl
              rotate_left
              ·simp only [Act.put, List.setIfInBounds_toArray, List.set_cons_zero, List.set_cons_succ, i64_w, i32_w]
               rfl
              refine take_ (i := 25) (N := some 60) (v := ?_) (a' := ?_) #[true, true, true, true, true, true, true, true, true, true, true, true, true, true, true, true, true, true, true, true, true, true, true, true, true, true, false, false, false, false, true, true, true, true, false, false, false, false] rfl rfl (take_ofW HT_.out HW_.out (by kernel_rfl)) (fun _ _ _ h => h) (Or.inl ⟨by rfl, ?_⟩) hHeld ?_ ?_
              rotate_left
              ·rintro w' ⟨s0, s1, s2, s3, s4, s5, s6, s7, s8, s9, s10, s11, s12, s13⟩
               go_simp
               with_reducible rfl
              rotate_left
              ·simp only [Act.put, List.setIfInBounds_toArray, List.set_cons_zero, List.set_cons_succ, i64_w, i32_w]
               rfl
              refine pure_ (i := 26) (N := some 61) (v := ?_) (a' := ?_) #[true, true, true, true, true, true, true, true, true, true, true, true, true, true, true, true, true, true, true, true, true, true, true, true, true, true, true, false, false, false, true, true, true, true, false, false, false, false] rfl rfl (any_of HT_.out (by kernel_rfl)) (fun _ _ _ h => h) (Or.inl ⟨by rfl, ?_⟩) ?_ ?_
              rotate_left
              ·intro w'
               go_simp
               with_reducible rfl
              rotate_left
              ·simp only [Act.put, List.setIfInBounds_toArray, List.set_cons_zero, List.set_cons_succ, i64_w, i32_w]
               rfl
              refine pure_ (i := 27) (N := some 62) (v := ?_) (a' := ?_) #[true, true, true, true, true, true, true, true, true, true, true, true, true, true, true, true, true, true, true, true, true, true, true, true, true, true, true, true, false, false, true, true, true, true, false, false, false, false] rfl rfl (any_of HT_.out (by kernel_rfl)) (fun _ _ _ h => h) (Or.inl ⟨by rfl, ?_⟩) ?_ ?_
              rotate_left
              ·intro w'
               go_simp
               with_reducible rfl
              rotate_left
              ·simp only [Act.put, List.setIfInBounds_toArray, List.set_cons_zero, List.set_cons_succ, i64_w, i32_w]
               rfl
              refine pure_ (i := 28) (N := some 63) (v := ?_) (a' := ?_) #[true, true, true, true, true, true, true, true, true, true, true, true, true, true, true, true, true, true, true, true, true, true, true, true, true, true, true, true, true, false, true, true, true, true, false, false, false, false] rfl rfl (any_of HT_.out (by kernel_rfl)) (fun _ _ _ h => h) (Or.inl ⟨by rfl, ?_⟩) ?_ ?_
              rotate_left
              ·intro w'
               go_simp
               with_reducible rfl
              rotate_left
              ·simp only [Act.put, List.setIfInBounds_toArray, List.set_cons_zero, List.set_cons_succ, i64_w, i32_w]
               rfl
              refine take_ (i := 29) (N := some 64) (v := ?_) (a' := ?_) #[true, true, true, true, true, true, true, true, true, true, true, true, true, true, true, true, true, true, true, true, true, true, true, true, true, true, true, true, true, true, true, true, true, true, false, false, false, false] rfl rfl (take_ofW HT_.out HW_.out (by kernel_rfl)) (fun _ _ _ h => h) (Or.inl ⟨by rfl, ?_⟩) hHeld ?_ ?_
              rotate_left
              ·rintro w' ⟨s0, s1, s2, s3, s4, s5, s6, s7, s8, s9, s10, s11, s12, s13⟩
               go_simp
               with_reducible rfl
              rotate_left
              ·simp only [Act.put, List.setIfInBounds_toArray, List.set_cons_zero, List.set_cons_succ, i64_w, i32_w]
               rfl
              refine take_ (i := 34) (N := some 69) (v := ?_) (a' := ?_) #[true, true, true, true, true, true, true, true, true, true, true, true, true, true, true, true, true, true, true, true, true, true, true, true, true, true, true, true, true, true, true, true, true, true, true, false, false, false] rfl rfl (take_ofW HT_.out HW_.out (by kernel_rfl)) (fun _ _ _ h => h) (Or.inl ⟨by rfl, ?_⟩) hHeld ?_ ?_
              rotate_left
              ·rintro w' ⟨s0, s1, s2, s3, s4, s5, s6, s7, s8, s9, s10, s11, s12, s13⟩
               go_simp
               with_reducible rfl
              rotate_left
              ·simp only [Act.put, List.setIfInBounds_toArray, List.set_cons_zero, List.set_cons_succ, i64_w, i32_w]
               rfl
              refine pure_ (i := 35) (N := some 70) (v := ?_) (a' := ?_) #[true, true, true, true, true, true, true, true, true, true, true, true, true, true, true, true, true, true, true, true, true, true, true, true, true, true, true, true, true, true, true, true, true, true, true, true, false, false] rfl rfl (any_of HT_.out (by kernel_rfl)) (fun _ _ _ h => h) (Or.inl ⟨by rfl, ?_⟩) ?_ ?_
              rotate_left
              ·intro w'
               go_simp
               with_reducible rfl
              rotate_left
              ·simp only [Act.put, List.setIfInBounds_toArray, List.set_cons_zero, List.set_cons_succ, i64_w, i32_w]
               rfl
              refine pure_ (i := 36) (N := some 71) (v := ?_) (a' := ?_) #[true, true, true, true, true, true, true, true, true, true, true, true, true, true, true, true, true, true, true, true, true, true, true, true, true, true, true, true, true, true, true, true, true, true, true, true, true, false] rfl rfl (any_of HT_.out (by kernel_rfl)) (fun _ _ _ h => h) (Or.inl ⟨by rfl, ?_⟩) ?_ ?_
              rotate_left
              ·intro w'
               go_simp
               with_reducible rfl
              rotate_left
              ·simp only [Act.put, List.setIfInBounds_toArray, List.set_cons_zero, List.set_cons_succ, i64_w, i32_w]
               rfl
              refine pure_ (i := 37) (N := some 72) (v := ?_) (a' := ?_) #[true, true, true, true, true, true, true, true, true, true, true, true, true, true, true, true, true, true, true, true, true, true, true, true, true, true, true, true, true, true, true, true, true, true, true, true, true, true] rfl rfl (any_of HT_.out (by kernel_rfl)) (fun _ _ _ h => h) (Or.inl ⟨by rfl, ?_⟩) ?_ ?_
              rotate_left
              ·intro w'
               go_simp
               with_reducible rfl
              rotate_left
              ·simp only [Act.put, List.setIfInBounds_toArray, List.set_cons_zero, List.set_cons_succ, i64_w, i32_w]
               rfl
              refine done_ (done_of HT_.out (by kernel_rfl)) ?_
              try go_wp2
              go_meet
              case rel => exact ⟨_, ((((rd_T37 ((rd_T35 t147 x7_1).f1) 0).f1.f1) != (wrap64 (((rd_T35 t147 x7_1).f0) + 1)))), (by first | rfl | (simp; done) | (simp [*]; done)), H', ⟨by have := HK1.out; have := HJ8.out; first | omega | exact Nat.le_refl _⟩, ⟨by (with_reducible repeat (first | apply Kd.S_alloc | apply Kd.S_drewN | apply Kd.S_drew)); exact HO_3.out⟩, ⟨by (with_reducible repeat (first | refine blk_drewN ?_ _ | refine blk_drew ?_ | refine blk_alloc ?_ _)); exact BK153.out⟩, ⟨by repeat (first | (with_reducible first | exact HB.out | apply below_alloc | apply pw_below_drewN | apply below_drew1 | refine below_set ?_ GE153.out) | exact HB.out)⟩⟩
           ·rw [if_neg c18] at H
            exact absurd H (by simp)
         ·rw [if_neg c16] at H
          exact absurd H (by simp)
        ·rw [if_neg c15] at H
         exact absurd H (by simp)
       case rest =>
        clear HC14
        try clear c1
        try clear p1
        try clear q1
        try clear hx1
        try clear qi1
        try clear c2
        try clear p2
        try clear c3
        try clear c5
        try clear p6
        try clear c10
        try clear c10b0
        try clear c13
        try clear c15
        try clear c15b0
        try clear p15
        try clear q15
        try clear hx15
        try clear qi15
        try clear c16
        try clear c16b0
        try clear c17
        try clear c17b0
        try clear c17b1
        try clear c17b2
        try clear c18
        try clear c18b0
        try clear c18b1
        try clear c19
        try clear c19b0
        try clear hcz8_0
        try clear hcz8_1
        try clear hfz8_0
        try clear hfz8_1
        try clear hx154_0
        try clear hx154_1
        try clear hx155_0
        try clear hx155_1
        try clear hx156_0
        try clear hx156_1
        try clear hx156_2
        try clear hx157_0
        try clear hx157_1
        try clear hx158_0
        try clear hx158_1
        try clear hx158_2
        try clear hx159_0
        try clear hx159_1
        try clear p154
        try clear p155
        try clear p156
        try clear p157
        try clear p158
        try clear p159
        try clear p2
        try clear q154
        try clear q155
        try clear q156
        try clear q157
        try clear q158
        try clear q159
        obtain ⟨kq, x72_13, rfl, HA, HJ13, HO_3, BK153, HB⟩ := hcut
        cases kq with
        | zero => exact absurd HA.out (by simp [waymarklaw07_LexPlaces.j2])
        | succ kj13 =>
         have H := HA.out
         clear HA
         simp only [waymarklaw07_LexPlaces.j2] at H
         by_cases c22 : x72_13 = true
         ·subst c22
          have H1 : (none) = some r := by rw [if_pos rfl] at H; exact H
          clear H
          have H := H1
          clear H1
          exact absurd H (by simp)
         ·replace c22 := Bool.eq_false_iff.mpr c22
          subst c22
          have H1 : (if 0 ≤ x7_1 then (if x7_1 < (t147.length : Int) then (if 0 < (((rd_T35 t147 x7_1).f1).length : Int) then (waymarklaw07_LexPlaces.l1 kj13 a0 t147 t152 ((rd_T37 ((rd_T35 t147 x7_1).f1) 0).f1.f0) x7_1 0 0) else (none)) else (none)) else (none)) = some r := by rw [if_neg (show ¬ (false = true) by decide)] at H; exact H
          clear H
          have H := H1
          clear H1
          by_cases c23 : 0 ≤ x7_1
          ·rw [if_pos c23] at H
           have c23b0 : decide (0 ≤ x7_1) = true := decide_eq_true c23
           clear c23
           by_cases c24 : x7_1 < (t147.length : Int)
           ·rw [if_pos c24] at H
            have c24b0 : decide (x7_1 < (t147.length : Int)) = true := decide_eq_true c24
            clear c24
            by_cases c25 : 0 < (((rd_T35 t147 x7_1).f1).length : Int)
            ·rw [if_pos c25] at H
             have c25b0 : decide (0 < (((rd_T35 t147 x7_1).f1).length : Int)) = true := decide_eq_true c25
             have c25b1 : decide (0 < ((rd_T35 t147 x7_1).f1).length) = true := decide_eq_true (by omega)
             clear c25
             have H' := Aside0.mk H
             clear H
             obtain ⟨Ao26, co26, eo26⟩ := Kd.S_slice HO_3.out
             subst eo26
             have p160 : 0 ≤ (x7_1 : Int) := of_decide_eq_true (by first | (with_reducible assumption) | assumption)
             have q160 : x7_1 < (t147.length : Int) := of_decide_eq_true (by first | (with_reducible assumption) | assumption)
             obtain ⟨ad160, A160_1, c160_1, e160, hx160_0, hx160_1, hl160_1, hi160_1⟩ := at_T35 (Kd.S_reads' HO_3.out).2.2 x7_1 p160 q160
             cases e160
             obtain ⟨ce160, hce160, hMe160, hcc160⟩ := Kd.S_get HO_3.out z35 x7_1 p160 (by first | exact q160 | exact of_decide_eq_true (by first | (with_reducible assumption) | assumption) | (have e_ := (Kd.S_reads' HO_3.out).1; omega))
             obtain ⟨ve160_1, rfl, ge160_1⟩ := k35_openM hMe160
             have hv160_1 := hcc160 1 _ rfl
             rw [add_field _ _ 1 (by omega)] at hv160_1
             replace hv160_1 := Option.some.inj (hv160_1.symm.trans hx160_1)
             rw [hv160_1] at ge160_1
             have HL160_1 := Aside0.mk (show Kd.R k37 37 _ _ _ _ ((rd_T35 t147 x7_1).f1) from ge160_1)
             clear hv160_1 ge160_1
             clear hcc160 hce160
             have HR160_1 := Aside0.mk hi160_1
             have HC160_1 := Aside0.mk hl160_1
             clear hi160_1 hl160_1
             replace p160 := eq_true p160
             replace q160 := eq_true q160
             have p161 : 0 ≤ (0 : Int) := (by omega)
             have q161 : 0 < (((rd_T35 t147 x7_1).f1).length : Int) := of_decide_eq_true (by first | (with_reducible assumption) | assumption)
             obtain ⟨ad161, e161, hx161_0, hx161_1, hx161_2⟩ := at_T37 (by repeat (first | (with_reducible exact HR160_1.out) | (with_reducible refine Kd.C_alloc ?_ _) | (with_reducible refine Kd.C_drewN ?_ _) | (with_reducible refine Kd.C_drew ?_) | exact HR160_1.out)) 0 p161 q161
             cases e161
             have qi161 : (0 < ((rd_T35 t147 x7_1).f1).length) = True := eq_true (by omega)
             (try rw [show ((0 : Int)).toNat = 0 from rfl] at hx161_0)
             (try rw [show 0 * 3 = 0 from rfl] at hx161_0)
             (try rw [Addr.add_zero'] at hx161_0)
             (try rw [show ((0 : Int)).toNat = 0 from rfl] at hx161_1)
             (try rw [show 0 * 3 = 0 from rfl] at hx161_1)
             (try rw [Addr.add_zero'] at hx161_1)
             (try rw [show ((0 : Int)).toNat = 0 from rfl] at hx161_2)
             (try rw [show 0 * 3 = 0 from rfl] at hx161_2)
             (try rw [Addr.add_zero'] at hx161_2)
             replace p161 := eq_true p161
             replace q161 := eq_true q161
             go_wp2
             go_loopg [8, 9] kj13 (fun kq v8 v9 w' => ∃ (x8_4 : Int) (x9_4 : Int), v8 = .int .i64 x8_4 ∧ v9 = .int .i64 x9_4 ∧ Aside0 (waymarklaw07_LexPlaces.l1 kq a0 t147 t152 ((rd_T37 ((rd_T35 t147 x7_1).f1) 0).f1.f0) x7_1 x8_4 x9_4 = some r) ∧ Aside0 (kq ≤ kj13) ∧ Aside0 (Kd.S k35 35 w' w.heap.size (fun _ => True) (.slice (some ad160) t147.length co26) t147) ∧ Aside0 (w'.heap[gb153]? = some (.cells #[.int .i64 t150, .int .i64 t151] 24 (0, 0))) ∧ Aside0 (Below w.heap.size w w'))
             case atStart => exact ⟨(0), (0), (by first | rfl | (simp; done) | (simp [*]; done)), (by first | rfl | (simp; done) | (simp [*]; done)), H', ⟨Nat.le_refl _⟩, ⟨by (with_reducible repeat (first | apply Kd.S_alloc | apply Kd.S_drewN | apply Kd.S_drew)); exact HO_3.out⟩, ⟨by (with_reducible repeat (first | refine blk_drewN ?_ _ | refine blk_drew ?_ | refine blk_alloc ?_ _)); exact BK153.out⟩, ⟨by repeat (first | (with_reducible first | exact HB.out | apply below_alloc | apply pw_below_drewN | apply below_drew1 | refine below_set ?_ GE153.out) | exact HB.out)⟩⟩
             case round =>
              clear H'
              try clear c1
              try clear p1
              try clear q1
              try clear hx1
              try clear qi1
              try clear c2
              try clear p2
              try clear c3
              try clear c5
              try clear p6
              try clear c10
              try clear c10b0
              try clear c13
              try clear c15
              try clear c15b0
              try clear p15
              try clear q15
              try clear hx15
              try clear qi15
              try clear c16
              try clear c16b0
              try clear p16
              try clear q16
              try clear hx16
              try clear qi16
              try clear c17
              try clear c17b0
              try clear c17b1
              try clear c17b2
              try clear c18
              try clear c18b0
              try clear c18b1
              try clear c19
              try clear c19b0
              try clear c22
              try clear c23
              try clear c23b0
              try clear c24
              try clear c24b0
              try clear c25
              try clear c25b0
              try clear c25b1
              try clear hcz8_0
              try clear hcz8_1
              try clear hfz8_0
              try clear hfz8_1
              try clear hx154_0
              try clear hx154_1
              try clear hx155_0
              try clear hx155_1
              try clear hx156_0
              try clear hx156_1
              try clear hx156_2
              try clear hx157_0
              try clear hx157_1
              try clear hx158_0
              try clear hx158_1
              try clear hx158_2
              try clear hx159_0
              try clear hx159_1
              try clear hx160_0
              try clear hx160_1
              try clear hx161_0
              try clear hx161_1
              try clear hx161_2
              try clear p1
              try clear p15
              try clear p154
              try clear p155
              try clear p156
              try clear p157
              try clear p158
              try clear p159
              try clear p160
              try clear p161
              try clear p2
              try clear p6
              try clear q1
              try clear q15
              try clear q154
              try clear q155
              try clear q156
              try clear q157
              try clear q158
              try clear q159
              try clear q160
              try clear q161
              obtain ⟨x8_4, x9_4, rfl, rfl, HA, HK4, HO_3, BK153, HB⟩ := hrel
              cases gk with
              | zero => exact absurd HA.out (by simp [waymarklaw07_LexPlaces.l1])
              | succ k4 =>
               have H := HA.out
               clear HA
               simp only [waymarklaw07_LexPlaces.l1] at H
               by_cases c27 : 0 ≤ x7_1
               ·rw [if_pos c27] at H
                have c27b0 : decide (0 ≤ x7_1) = true := decide_eq_true c27
                clear c27
                by_cases c28 : x7_1 < (t147.length : Int)
                ·rw [if_pos c28] at H
                 have c28b0 : decide (x7_1 < (t147.length : Int)) = true := decide_eq_true c28
                 clear c28
                 by_cases c29 : x9_4 < (((rd_T35 t147 x7_1).f1).length : Int)
                 ·rw [if_pos c29] at H
                  have c29b0 : decide (x9_4 < (((rd_T35 t147 x7_1).f1).length : Int)) = true := decide_eq_true c29
                  clear c29
                  by_cases c30 : 0 ≤ x9_4
                  ·rw [if_pos c30] at H
                   have c30b0 : decide (0 ≤ x9_4) = true := decide_eq_true c30
                   clear c30
                   have HC31 := Aside0.mk H
                   clear H
                   have p162 : 0 ≤ (x7_1 : Int) := of_decide_eq_true (by first | (with_reducible assumption) | assumption)
                   have q162 : x7_1 < (t147.length : Int) := of_decide_eq_true (by first | (with_reducible assumption) | assumption)
                   obtain ⟨ad162, A162_1, c162_1, e162, hx162_0, hx162_1, hl162_1, hi162_1⟩ := at_T35 (Kd.S_reads' HO_3.out).2.2 x7_1 p162 q162
                   obtain rfl : ad160 = ad162 := (by injection e162)
                   obtain ⟨ce162, hce162, hMe162, hcc162⟩ := Kd.S_get HO_3.out z35 x7_1 p162 (by first | exact q162 | exact of_decide_eq_true (by first | (with_reducible assumption) | assumption) | (have e_ := (Kd.S_reads' HO_3.out).1; omega))
                   obtain ⟨ve162_1, rfl, ge162_1⟩ := k35_openM hMe162
                   have hv162_1 := hcc162 1 _ rfl
                   rw [add_field _ _ 1 (by omega)] at hv162_1
                   replace hv162_1 := Option.some.inj (hv162_1.symm.trans hx162_1)
                   rw [hv162_1] at ge162_1
                   have HL162_1 := Aside0.mk (show Kd.R k37 37 _ _ _ _ ((rd_T35 t147 x7_1).f1) from ge162_1)
                   clear hv162_1 ge162_1
                   clear hcc162 hce162
                   have HR162_1 := Aside0.mk hi162_1
                   have HC162_1 := Aside0.mk hl162_1
                   clear hi162_1 hl162_1
                   replace p162 := eq_true p162
                   replace q162 := eq_true q162
                   have p163 : 0 ≤ (x7_1 : Int) := of_decide_eq_true (by first | (with_reducible assumption) | assumption)
                   have q163 : x7_1 < (t147.length : Int) := of_decide_eq_true (by first | (with_reducible assumption) | assumption)
                   obtain ⟨ad163, A163_1, c163_1, e163, hx163_0, hx163_1, hl163_1, hi163_1⟩ := at_T35 (Kd.S_reads' HO_3.out).2.2 x7_1 p163 q163
                   obtain rfl : ad160 = ad163 := (by injection e163)
                   obtain ⟨ce163, hce163, hMe163, hcc163⟩ := Kd.S_get HO_3.out z35 x7_1 p163 (by first | exact q163 | exact of_decide_eq_true (by first | (with_reducible assumption) | assumption) | (have e_ := (Kd.S_reads' HO_3.out).1; omega))
                   obtain ⟨ve163_1, rfl, ge163_1⟩ := k35_openM hMe163
                   have hv163_1 := hcc163 1 _ rfl
                   rw [add_field _ _ 1 (by omega)] at hv163_1
                   replace hv163_1 := Option.some.inj (hv163_1.symm.trans hx163_1)
                   rw [hv163_1] at ge163_1
                   have HL163_1 := Aside0.mk (show Kd.R k37 37 _ _ _ _ ((rd_T35 t147 x7_1).f1) from ge163_1)
                   clear hv163_1 ge163_1
                   clear hcc163 hce163
                   have HR163_1 := Aside0.mk hi163_1
                   have HC163_1 := Aside0.mk hl163_1
                   clear hi163_1 hl163_1
                   replace p163 := eq_true p163
                   replace q163 := eq_true q163
                   have ea_ := Option.some.inj (hx162_1.symm.trans hx163_1)
                   injection ea_ with ea_ en_ ec_
                   subst ea_
                   subst ec_
                   clear en_
                   have p164 : 0 ≤ (x9_4 : Int) := of_decide_eq_true (by first | (with_reducible assumption) | assumption)
                   have q164 : x9_4 < (((rd_T35 t147 x7_1).f1).length : Int) := of_decide_eq_true (by first | (with_reducible assumption) | assumption)
                   obtain ⟨ad164, e164, hx164_0, hx164_1, hx164_2⟩ := at_T37 (by repeat (first | (with_reducible exact HR163_1.out) | (with_reducible refine Kd.C_alloc ?_ _) | (with_reducible refine Kd.C_drewN ?_ _) | (with_reducible refine Kd.C_drew ?_) | exact HR163_1.out)) x9_4 p164 q164
                   cases e164
                   replace p164 := eq_true p164
                   replace q164 := eq_true q164
                   go_upto_region 16 with (first | ((with_reducible refine gate_dst (N := 10) rfl ?_); refine box_event ?hg (N := 10) ?hd (cs := #[.string (⟨#[]⟩ : ByteArray), .int .i64 0, .int .i64 0]) (t := 37) ?hr ?_; (case hd => rfl); (case hg => rfl); (case hr => first | (go_simp; done) | (go_simp; rfl)); intro gb165 hg w32 hbox hb; have n0_ := Aside0.mk (Kd.S_below (Kd.S_elderB (by (with_reducible repeat (first | apply Kd.S_alloc | apply Kd.S_drewN | apply Kd.S_drew)); exact HO_3.out) gb165 (Nat.le_of_eq hg.symm)) hb); have n1_ := Aside0.mk (Kd.R_below (Kd.R_elderB (by (with_reducible repeat (first | apply Kd.R_alloc | apply Kd.R_drewN | apply Kd.R_drew)); exact HL162_1.out) gb165 (Nat.le_of_eq hg.symm)) hb); have n2_ := Aside0.mk (Kd.R_below (Kd.R_elderB (by (with_reducible repeat (first | apply Kd.R_alloc | apply Kd.R_drewN | apply Kd.R_drew)); exact HL163_1.out) gb165 (Nat.le_of_eq hg.symm)) hb); have n3_ := Aside0.mk (blk_below (g := gb153) (o := .cells #[.int .i64 t150, .int .i64 t151] 24 (0, 0)) (by (with_reducible repeat (first | refine blk_drewN ?_ _ | refine blk_drew ?_ | refine blk_alloc ?_ _)); exact BK153.out) hb); have n4_ := Aside0.mk (Kd.C_below (by repeat (first | (with_reducible exact HR162_1.out) | (with_reducible refine Kd.C_alloc ?_ _) | (with_reducible refine Kd.C_drewN ?_ _) | (with_reducible refine Kd.C_drew ?_) | exact HR162_1.out)) hb); have n5_ := Aside0.mk (Kd.C_below (by repeat (first | (with_reducible exact HR163_1.out) | (with_reducible refine Kd.C_alloc ?_ _) | (with_reducible refine Kd.C_drewN ?_ _) | (with_reducible refine Kd.C_drew ?_) | exact HR163_1.out)) hb); have n6_ := Aside0.mk (below_step (by repeat (first | (with_reducible first | exact HB.out | apply below_alloc | apply pw_below_drewN | apply below_drew1 | refine below_set ?_ GE153.out) | exact HB.out)) hb); have n7_ := Aside0.mk (hbox); have n8_ := Aside0.mk ((by rw [hg]; exact (below_size (by repeat (first | (with_reducible first | exact HB.out | apply below_alloc | apply pw_below_drewN | apply below_drew1 | refine below_set ?_ GE153.out) | exact HB.out))) : w.heap.size ≤ gb165)); have n9_ := Aside0.mk ((by rw [hg]; exact (below_size (by repeat (first | (with_reducible first | exact HB.out | apply below_alloc | apply pw_below_drewN | apply below_drew1 | refine below_set ?_ GE153.out) | exact HB.out))) : w.heap.size ≤ gb165)); have n10_ := Aside0.mk ((by rw [hg]; exact Nat.ne_of_lt (blk_lt (g := gb153) (o := .cells #[.int .i64 t150, .int .i64 t151] 24 (0, 0)) (by (with_reducible repeat (first | refine blk_drewN ?_ _ | refine blk_drew ?_ | refine blk_alloc ?_ _)); exact BK153.out)) : gb153 ≠ gb165)); have n11_ := Aside0.mk ((by rw [hg]; exact Nat.ne_of_gt (blk_lt (g := gb153) (o := .cells #[.int .i64 t150, .int .i64 t151] 24 (0, 0)) (by (with_reducible repeat (first | refine blk_drewN ?_ _ | refine blk_drew ?_ | refine blk_alloc ?_ _)); exact BK153.out)) : gb165 ≠ gb153)); clear HO_3; clear HL162_1; clear HL163_1; clear BK153; clear HR162_1; clear HR163_1; clear HB; have HO_3 := n0_; have HL162_1 := n1_; have HL163_1 := n2_; have BK153 := n3_; have HR162_1 := n4_; have HR163_1 := n5_; have HB := n6_; have BK165 := n7_; have GW165 := n8_; have GE165 := n9_; have NB153_165 := n10_; have NB165_153 := n11_; clear n0_ n1_ n2_ n3_ n4_ n5_ n6_ n7_ n8_ n9_ n10_ n11_; clear hb hbox hg; have hnb33 := NB165_153.out; have hnc33 := NB153_165.out; have hcz34_0 : w32.cell? ⟨gb165, 0, none⟩ = some (.string (⟨#[]⟩ : ByteArray)) := (blk_cell BK165.out 0).trans rfl; have hcz34_1 : w32.cell? ⟨gb165, 1, none⟩ = some (.int .i64 0) := (blk_cell BK165.out 1).trans rfl; have hcz34_2 : w32.cell? ⟨gb165, 2, none⟩ = some (.int .i64 0) := (blk_cell BK165.out 2).trans rfl; have hfz34_0 := blk_frozen BK165.out 0; have hfz34_1 := blk_frozen BK165.out 1; have hfz34_2 := blk_frozen BK165.out 2))
                   (try simp only [Act.put, List.setIfInBounds_toArray, List.set_cons_zero, List.set_cons_succ])
                   go_cut [125] (fun v125 wc => ∃ (kq : Nat) (x125_30 : Bool), v125 = .bool x125_30 ∧ Aside0 (waymarklaw07_LexPlaces.j4 kq a0 t147 t152 ((rd_T37 ((rd_T35 t147 x7_1).f1) 0).f1.f0) x7_1 x9_4 x125_30 ((rd_T37 ((rd_T35 t147 x7_1).f1) x9_4).f0) ((rd_T37 ((rd_T35 t147 x7_1).f1) x9_4).f1.f0) ((rd_T37 ((rd_T35 t147 x7_1).f1) x9_4).f1.f1) = some r) ∧ Aside0 (kq ≤ k4) ∧ Aside0 (Kd.S k35 35 wc w.heap.size (fun k_ => k_ ≠ gb165) (.slice (some ad160) t147.length co26) t147) ∧ Aside0 (wc.heap[gb153]? = some (.cells #[.int .i64 t150, .int .i64 t151] 24 (0, 0))) ∧ Aside0 (wc.heap[gb165]? = some (.cells #[.string ((rd_T37 ((rd_T35 t147 x7_1).f1) x9_4).f0), .int .i64 ((rd_T37 ((rd_T35 t147 x7_1).f1) x9_4).f1.f0), .int .i64 ((rd_T37 ((rd_T35 t147 x7_1).f1) x9_4).f1.f1)] 37 (0, 0))) ∧ Aside0 (Kd.C k37 wc (some ad164) ((rd_T35 t147 x7_1).f1).length ((rd_T35 t147 x7_1).f1)) ∧ Aside0 (Below w.heap.size w wc))
                   case first =>
                    have H := HC31.out
                    clear HC31
                    by_cases c35 : ((rd_T37 ((rd_T35 t147 x7_1).f1) x9_4).f0).toList = ([] : List UInt8)
                    ·rw [if_pos c35] at H
                     exact absurd H (by simp)
                    ·rw [if_neg c35] at H
                     have c35b0 : (((rd_T37 ((rd_T35 t147 x7_1).f1) x9_4).f0).toList == ([] : List UInt8)) = false := beq_eq_false_iff_ne.mpr c35
                     have c35b1 : (((rd_T37 ((rd_T35 t147 x7_1).f1) x9_4).f0).toList != ([] : List UInt8)) = true := bne_iff_ne.mpr c35
                     (first | rw [c35b0] | (simp only [i64_w, i32_w]; rw [c35b0]) | skip)
                     by_cases c36 : ((rd_T37 ((rd_T35 t147 x7_1).f1) x9_4).f1.f0) = ((rd_T37 ((rd_T35 t147 x7_1).f1) 0).f1.f0)
                     ·rw [if_pos c36] at H
                      have c36b0 : (((rd_T37 ((rd_T35 t147 x7_1).f1) x9_4).f1.f0) == ((rd_T37 ((rd_T35 t147 x7_1).f1) 0).f1.f0)) = true := beq_iff_eq.mpr c36
                      have c36b1 : (((rd_T37 ((rd_T35 t147 x7_1).f1) x9_4).f1.f0) != ((rd_T37 ((rd_T35 t147 x7_1).f1) 0).f1.f0)) = false := bne_eq_false_iff_eq.mpr c36
                      clear c36
                      by_cases c37 : ((rd_T37 ((rd_T35 t147 x7_1).f1) x9_4).f1.f1) ≤ x8_4
                      ·rw [if_pos c37] at H
                       exact absurd H (by simp)
                      ·rw [if_neg c37] at H
                       have c37b0 : decide (((rd_T37 ((rd_T35 t147 x7_1).f1) x9_4).f1.f1) ≤ x8_4) = false := decide_eq_false c37
                       clear c37
                       replace H := Option.bind_eq_some_iff.mp H
                       obtain ⟨t166, A380, H⟩ := H
                       replace H : (waymarklaw07_LexPlaces.j4 k4 a0 t147 t152 ((rd_T37 ((rd_T35 t147 x7_1).f1) 0).f1.f0) x7_1 x9_4 (!t166) ((rd_T37 ((rd_T35 t147 x7_1).f1) x9_4).f0) ((rd_T37 ((rd_T35 t147 x7_1).f1) x9_4).f1.f0) ((rd_T37 ((rd_T35 t147 x7_1).f1) x9_4).f1.f1)) = some r := H
                       have A38 := Aside0.mk A380
                       clear A380
                       as_aux_lemma =>
                        have H' := Aside0.mk H
                        clear H
                        have hnb39 := NB165_153.out
                        have hnc39 := NB153_165.out
                        have hcz40_0 : w32.cell? ⟨gb165, 0, none⟩ = some (.string (⟨#[]⟩ : ByteArray)) := (blk_cell BK165.out 0).trans rfl
                        have hcz40_1 : w32.cell? ⟨gb165, 1, none⟩ = some (.int .i64 0) := (blk_cell BK165.out 1).trans rfl
                        have hcz40_2 : w32.cell? ⟨gb165, 2, none⟩ = some (.int .i64 0) := (blk_cell BK165.out 2).trans rfl
                        have hfz40_0 := blk_frozen BK165.out 0
                        have hfz40_1 := blk_frozen BK165.out 1
                        have hfz40_2 := blk_frozen BK165.out 2
                        go_wp2_with (first | (go_at_call 30; (with_reducible refine (waymarklaw07_stands.calls k4 a0 ((rd_T37 ((rd_T35 t147 x7_1).f1) x9_4).f0) ((rd_T37 ((rd_T35 t147 x7_1).f1) x9_4).f1.f0) ((rd_T37 ((rd_T35 t147 x7_1).f1) x9_4).f1.f1) t166 _ A38.out).mono ?_); rintro e w41 ⟨rfl, hb⟩; have n0_ := Aside0.mk (Kd.S_below (by (with_reducible repeat (first | apply Kd.S_alloc | apply Kd.S_drewN | apply Kd.S_drew)); exact (Kd.S_mono (Kd.S_far (p := ⟨gb165, 2, none⟩) (Kd.S_far (p := ⟨gb165, 1, none⟩) (Kd.S_far (p := ⟨gb165, 0, none⟩) (Kd.S_mono HO_3.out (fun k_ hk => (⟨hk, hk.2⟩ : _ ∧ k_ ≠ gb165))) (fun _ hk => hk.2) (.string ((rd_T37 ((rd_T35 t147 x7_1).f1) x9_4).f0))) (fun _ hk => hk.2) (.int .i64 ((rd_T37 ((rd_T35 t147 x7_1).f1) x9_4).f1.f0))) (fun _ hk => hk.2) (.int .i64 ((rd_T37 ((rd_T35 t147 x7_1).f1) x9_4).f1.f1))) (fun _ h_ => h_.1))) hb); have n1_ := Aside0.mk (Kd.R_below (by (with_reducible repeat (first | apply Kd.R_alloc | apply Kd.R_drewN | apply Kd.R_drew)); exact (Kd.R_mono (Kd.R_far (p := ⟨gb165, 2, none⟩) (Kd.R_far (p := ⟨gb165, 1, none⟩) (Kd.R_far (p := ⟨gb165, 0, none⟩) (Kd.R_mono HL162_1.out (fun k_ hk => (⟨hk, hk.2⟩ : _ ∧ k_ ≠ gb165))) (fun _ hk => hk.2) (.string ((rd_T37 ((rd_T35 t147 x7_1).f1) x9_4).f0))) (fun _ hk => hk.2) (.int .i64 ((rd_T37 ((rd_T35 t147 x7_1).f1) x9_4).f1.f0))) (fun _ hk => hk.2) (.int .i64 ((rd_T37 ((rd_T35 t147 x7_1).f1) x9_4).f1.f1))) (fun _ h_ => h_.1))) hb); have n2_ := Aside0.mk (Kd.R_below (by (with_reducible repeat (first | apply Kd.R_alloc | apply Kd.R_drewN | apply Kd.R_drew)); exact (Kd.R_mono (Kd.R_far (p := ⟨gb165, 2, none⟩) (Kd.R_far (p := ⟨gb165, 1, none⟩) (Kd.R_far (p := ⟨gb165, 0, none⟩) (Kd.R_mono HL163_1.out (fun k_ hk => (⟨hk, hk.2⟩ : _ ∧ k_ ≠ gb165))) (fun _ hk => hk.2) (.string ((rd_T37 ((rd_T35 t147 x7_1).f1) x9_4).f0))) (fun _ hk => hk.2) (.int .i64 ((rd_T37 ((rd_T35 t147 x7_1).f1) x9_4).f1.f0))) (fun _ hk => hk.2) (.int .i64 ((rd_T37 ((rd_T35 t147 x7_1).f1) x9_4).f1.f1))) (fun _ h_ => h_.1))) hb); have n3_ := Aside0.mk (blk_below (g := gb153) (o := .cells #[.int .i64 t150, .int .i64 t151] 24 (0, 0)) (by (with_reducible repeat (first | refine blk_drewN ?_ _ | refine blk_drew ?_ | refine blk_alloc ?_ _)); refine blk_far ?_ NB153_165.out _; (with_reducible repeat (first | refine blk_drewN ?_ _ | refine blk_drew ?_ | refine blk_alloc ?_ _)); refine blk_far ?_ NB153_165.out _; (with_reducible repeat (first | refine blk_drewN ?_ _ | refine blk_drew ?_ | refine blk_alloc ?_ _)); refine blk_far ?_ NB153_165.out _; (with_reducible repeat (first | refine blk_drewN ?_ _ | refine blk_drew ?_ | refine blk_alloc ?_ _)); exact BK153.out) hb); have n4_ := Aside0.mk (Kd.C_below ((Kd.R_reads' (by (with_reducible repeat (first | apply Kd.R_alloc | apply Kd.R_drewN | apply Kd.R_drew)); exact (Kd.R_mono (Kd.R_far (p := ⟨gb165, 2, none⟩) (Kd.R_far (p := ⟨gb165, 1, none⟩) (Kd.R_far (p := ⟨gb165, 0, none⟩) (Kd.R_mono HL162_1.out (fun k_ hk => (⟨hk, hk.2⟩ : _ ∧ k_ ≠ gb165))) (fun _ hk => hk.2) (.string ((rd_T37 ((rd_T35 t147 x7_1).f1) x9_4).f0))) (fun _ hk => hk.2) (.int .i64 ((rd_T37 ((rd_T35 t147 x7_1).f1) x9_4).f1.f0))) (fun _ hk => hk.2) (.int .i64 ((rd_T37 ((rd_T35 t147 x7_1).f1) x9_4).f1.f1))) (fun _ h_ => h_.1)))).2.2) hb); have n5_ := Aside0.mk (Kd.C_below ((Kd.R_reads' (by (with_reducible repeat (first | apply Kd.R_alloc | apply Kd.R_drewN | apply Kd.R_drew)); exact (Kd.R_mono (Kd.R_far (p := ⟨gb165, 2, none⟩) (Kd.R_far (p := ⟨gb165, 1, none⟩) (Kd.R_far (p := ⟨gb165, 0, none⟩) (Kd.R_mono HL163_1.out (fun k_ hk => (⟨hk, hk.2⟩ : _ ∧ k_ ≠ gb165))) (fun _ hk => hk.2) (.string ((rd_T37 ((rd_T35 t147 x7_1).f1) x9_4).f0))) (fun _ hk => hk.2) (.int .i64 ((rd_T37 ((rd_T35 t147 x7_1).f1) x9_4).f1.f0))) (fun _ hk => hk.2) (.int .i64 ((rd_T37 ((rd_T35 t147 x7_1).f1) x9_4).f1.f1))) (fun _ h_ => h_.1)))).2.2) hb); have n6_ := Aside0.mk (blk_below (g := gb165) (o := .cells #[.string ((rd_T37 ((rd_T35 t147 x7_1).f1) x9_4).f0), .int .i64 ((rd_T37 ((rd_T35 t147 x7_1).f1) x9_4).f1.f0), .int .i64 ((rd_T37 ((rd_T35 t147 x7_1).f1) x9_4).f1.f1)] 37 (0, 0)) (by (with_reducible repeat (first | refine blk_drewN ?_ _ | refine blk_drew ?_ | refine blk_alloc ?_ _)); refine blk_put (cs := #[.string ((rd_T37 ((rd_T35 t147 x7_1).f1) x9_4).f0), .int .i64 ((rd_T37 ((rd_T35 t147 x7_1).f1) x9_4).f1.f0), .int .i64 0]) ?_ 2 _ rfl; (with_reducible repeat (first | refine blk_drewN ?_ _ | refine blk_drew ?_ | refine blk_alloc ?_ _)); refine blk_put (cs := #[.string ((rd_T37 ((rd_T35 t147 x7_1).f1) x9_4).f0), .int .i64 0, .int .i64 0]) ?_ 1 _ rfl; (with_reducible repeat (first | refine blk_drewN ?_ _ | refine blk_drew ?_ | refine blk_alloc ?_ _)); refine blk_put (cs := #[.string (⟨#[]⟩ : ByteArray), .int .i64 0, .int .i64 0]) ?_ 0 _ rfl; (with_reducible repeat (first | refine blk_drewN ?_ _ | refine blk_drew ?_ | refine blk_alloc ?_ _)); exact BK165.out) hb); have n7_ := Aside0.mk (below_step (by repeat (first | (with_reducible first | exact HB.out | apply below_alloc | apply pw_below_drewN | apply below_drew1 | refine below_set ?_ GE153.out | refine below_set ?_ GE165.out) | exact HB.out)) hb); clear HO_3; clear HL162_1; clear HL163_1; clear BK153; clear HR162_1; clear HR163_1; clear BK165; clear HB; have HO_3 := n0_; have HL162_1 := n1_; have HL163_1 := n2_; have BK153 := n3_; have HR162_1 := n4_; have HR163_1 := n5_; have BK165 := n6_; have HB := n7_; clear n0_ n1_ n2_ n3_ n4_ n5_ n6_ n7_; (try clear hb); (try clear hb2); (try clear hk); (try clear hi)))
                        go_meet
                        case rel => exact ⟨_, (!t166), (by first | rfl | (simp; done) | (simp [*]; done)), H', ⟨by have := HK1.out; have := HJ8.out; have := HJ13.out; have := HK4.out; first | omega | exact Nat.le_refl _⟩, ⟨by (with_reducible repeat (first | apply Kd.S_alloc | apply Kd.S_drewN | apply Kd.S_drew)); exact Kd.S_mono HO_3.out (fun _ hk => hk.2)⟩, ⟨by (with_reducible repeat (first | refine blk_drewN ?_ _ | refine blk_drew ?_ | refine blk_alloc ?_ _)); exact BK153.out⟩, ⟨by (with_reducible repeat (first | refine blk_drewN ?_ _ | refine blk_drew ?_ | refine blk_alloc ?_ _)); exact BK165.out⟩, ⟨by repeat (first | (with_reducible exact HR163_1.out) | (with_reducible refine Kd.C_alloc ?_ _) | (with_reducible refine Kd.C_drewN ?_ _) | (with_reducible refine Kd.C_drew ?_) | exact HR163_1.out)⟩, ⟨by repeat (first | (with_reducible first | exact HB.out | apply below_alloc | apply pw_below_drewN | apply below_drew1 | refine below_set ?_ GE153.out | refine below_set ?_ GE165.out) | exact HB.out)⟩⟩
                     ·rw [if_neg c36] at H
                      exact absurd H (by simp)
                   case rest =>
                    clear HC31
                    try clear c1
                    try clear p1
                    try clear q1
                    try clear hx1
                    try clear qi1
                    try clear c2
                    try clear p2
                    try clear c3
                    try clear c5
                    try clear p6
                    try clear c10
                    try clear c10b0
                    try clear c13
                    try clear c15
                    try clear c15b0
                    try clear p15
                    try clear q15
                    try clear hx15
                    try clear qi15
                    try clear c16
                    try clear c16b0
                    try clear p16
                    try clear q16
                    try clear hx16
                    try clear qi16
                    try clear c17
                    try clear c17b0
                    try clear c17b1
                    try clear c17b2
                    try clear c18
                    try clear c18b0
                    try clear c18b1
                    try clear c19
                    try clear c19b0
                    try clear c22
                    try clear c23
                    try clear c23b0
                    try clear c24
                    try clear c24b0
                    try clear c25
                    try clear c25b0
                    try clear c25b1
                    try clear c27
                    try clear c27b0
                    try clear c28
                    try clear c28b0
                    try clear c29
                    try clear c29b0
                    try clear c30
                    try clear c30b0
                    try clear c33
                    try clear c35
                    try clear c35b0
                    try clear c35b1
                    try clear c36
                    try clear c36b0
                    try clear c36b1
                    try clear c37
                    try clear c37b0
                    try clear c39
                    try clear hcz34_0
                    try clear hcz34_1
                    try clear hcz34_2
                    try clear hcz40_0
                    try clear hcz40_1
                    try clear hcz40_2
                    try clear hcz8_0
                    try clear hcz8_1
                    try clear hfz34_0
                    try clear hfz34_1
                    try clear hfz34_2
                    try clear hfz40_0
                    try clear hfz40_1
                    try clear hfz40_2
                    try clear hfz8_0
                    try clear hfz8_1
                    try clear hx154_0
                    try clear hx154_1
                    try clear hx155_0
                    try clear hx155_1
                    try clear hx156_0
                    try clear hx156_1
                    try clear hx156_2
                    try clear hx157_0
                    try clear hx157_1
                    try clear hx158_0
                    try clear hx158_1
                    try clear hx158_2
                    try clear hx159_0
                    try clear hx159_1
                    try clear hx160_0
                    try clear hx160_1
                    try clear hx161_0
                    try clear hx161_1
                    try clear hx161_2
                    try clear hx162_0
                    try clear hx162_1
                    try clear hx163_0
                    try clear hx163_1
                    try clear hx164_0
                    try clear hx164_1
                    try clear hx164_2
                    try clear p1
                    try clear p15
                    try clear p154
                    try clear p155
                    try clear p156
                    try clear p157
                    try clear p158
                    try clear p159
                    try clear p16
                    try clear p160
                    try clear p161
                    try clear p162
                    try clear p163
                    try clear p164
                    try clear p2
                    try clear p6
                    try clear q1
                    try clear q15
                    try clear q154
                    try clear q155
                    try clear q156
                    try clear q157
                    try clear q158
                    try clear q159
                    try clear q16
                    try clear q160
                    try clear q161
                    try clear q162
                    try clear q163
                    try clear q164
                    obtain ⟨kq, x125_30, rfl, HA, HJ30, HO_3, BK153, BK165, HR163_1, HB⟩ := hcut
                    cases kq with
                    | zero => exact absurd HA.out (by simp [waymarklaw07_LexPlaces.j4])
                    | succ kj30 =>
                     have H := HA.out
                     clear HA
                     simp only [waymarklaw07_LexPlaces.j4] at H
                     by_cases c42 : x125_30 = true
                     ·subst c42
                      have H1 : (none) = some r := by rw [if_pos rfl] at H; exact H
                      clear H
                      have H := H1
                      clear H1
                      exact absurd H (by simp)
                     ·replace c42 := Bool.eq_false_iff.mpr c42
                      subst c42
                      have H1 : (waymarklaw07_LexPlaces.l1 kj30 a0 t147 t152 ((rd_T37 ((rd_T35 t147 x7_1).f1) 0).f1.f0) x7_1 (wrap64 (((rd_T37 ((rd_T35 t147 x7_1).f1) x9_4).f1.f1) + (((rd_T37 ((rd_T35 t147 x7_1).f1) x9_4).f0).size : Int))) (wrap64 (x9_4 + 1))) = some r := by rw [if_neg (show ¬ (false = true) by decide)] at H; exact H
                      clear H
                      have H := H1
                      clear H1
                      as_aux_lemma =>
                       have H' := Aside0.mk H
                       clear H
                       have hnb43 := NB165_153.out
                       have hnc43 := NB153_165.out
                       have hcz44_0 : wc.cell? ⟨gb165, 0, none⟩ = some (.string ((rd_T37 ((rd_T35 t147 x7_1).f1) x9_4).f0)) := (blk_cell BK165.out 0).trans rfl
                       have hcz44_1 : wc.cell? ⟨gb165, 1, none⟩ = some (.int .i64 ((rd_T37 ((rd_T35 t147 x7_1).f1) x9_4).f1.f0)) := (blk_cell BK165.out 1).trans rfl
                       have hcz44_2 : wc.cell? ⟨gb165, 2, none⟩ = some (.int .i64 ((rd_T37 ((rd_T35 t147 x7_1).f1) x9_4).f1.f1)) := (blk_cell BK165.out 2).trans rfl
                       have hfz44_0 := blk_frozen BK165.out 0
                       have hfz44_1 := blk_frozen BK165.out 1
                       have hfz44_2 := blk_frozen BK165.out 2
                       go_wp2
                       go_roundg kj30
                       case measure => have := HK1.out; have := HJ8.out; have := HJ13.out; have := HK4.out; have := HJ30.out; omega
                       case rel => exact ⟨(wrap64 (((rd_T37 ((rd_T35 t147 x7_1).f1) x9_4).f1.f1) + (((rd_T37 ((rd_T35 t147 x7_1).f1) x9_4).f0).size : Int))), (wrap64 (x9_4 + 1)), (by first | rfl | (simp; done) | (simp [*]; done)), (by first | rfl | (simp; done) | (simp [*]; done)), H', ⟨by have := HK1.out; have := HJ8.out; have := HJ13.out; have := HK4.out; have := HJ30.out; omega⟩, ⟨by (with_reducible repeat (first | apply Kd.S_alloc | apply Kd.S_drewN | apply Kd.S_drew)); exact Kd.S_mono HO_3.out (fun _ hk => trivial)⟩, ⟨by (with_reducible repeat (first | refine blk_drewN ?_ _ | refine blk_drew ?_ | refine blk_alloc ?_ _)); exact BK153.out⟩, ⟨by repeat (first | (with_reducible first | exact HB.out | apply below_alloc | apply pw_below_drewN | apply below_drew1 | refine below_set ?_ GE153.out | refine below_set ?_ GE165.out) | exact HB.out)⟩⟩
                  ·rw [if_neg c30] at H
                   exact absurd H (by simp)
                 ·rw [if_neg c29] at H
                  have c29b0 : decide (x9_4 < (((rd_T35 t147 x7_1).f1).length : Int)) = false := decide_eq_false c29
                  clear c29
                  as_aux_lemma =>
                   have H' := Aside0.mk H
                   clear H
                   have p162 : 0 ≤ (x7_1 : Int) := of_decide_eq_true (by first | (with_reducible assumption) | assumption)
                   have q162 : x7_1 < (t147.length : Int) := of_decide_eq_true (by first | (with_reducible assumption) | assumption)
                   obtain ⟨ad162, A162_1, c162_1, e162, hx162_0, hx162_1, hl162_1, hi162_1⟩ := at_T35 (Kd.S_reads' HO_3.out).2.2 x7_1 p162 q162
                   obtain rfl : ad160 = ad162 := (by injection e162)
                   obtain ⟨ce162, hce162, hMe162, hcc162⟩ := Kd.S_get HO_3.out z35 x7_1 p162 (by first | exact q162 | exact of_decide_eq_true (by first | (with_reducible assumption) | assumption) | (have e_ := (Kd.S_reads' HO_3.out).1; omega))
                   obtain ⟨ve162_1, rfl, ge162_1⟩ := k35_openM hMe162
                   have hv162_1 := hcc162 1 _ rfl
                   rw [add_field _ _ 1 (by omega)] at hv162_1
                   replace hv162_1 := Option.some.inj (hv162_1.symm.trans hx162_1)
                   rw [hv162_1] at ge162_1
                   have HL162_1 := Aside0.mk (show Kd.R k37 37 _ _ _ _ ((rd_T35 t147 x7_1).f1) from ge162_1)
                   clear hv162_1 ge162_1
                   clear hcc162 hce162
                   have HR162_1 := Aside0.mk hi162_1
                   have HC162_1 := Aside0.mk hl162_1
                   clear hi162_1 hl162_1
                   replace p162 := eq_true p162
                   replace q162 := eq_true q162
                   go_wp2
                   go_roundg k4
                   case measure => have := HK1.out; have := HJ8.out; have := HJ13.out; have := HK4.out; omega
                   case rel => exact ⟨(((rd_T37 ((rd_T35 t147 x7_1).f1) 0).f1.f0)), (wrap64 (x7_1 + 1)), (by first | rfl | (simp; done) | (simp [*]; done)), (by first | rfl | (simp; done) | (simp [*]; done)), H', ⟨by have := HK1.out; have := HJ8.out; have := HJ13.out; have := HK4.out; omega⟩, ⟨by (with_reducible repeat (first | apply Kd.S_alloc | apply Kd.S_drewN | apply Kd.S_drew)); exact HO_3.out⟩, ⟨by (with_reducible repeat (first | refine blk_drewN ?_ _ | refine blk_drew ?_ | refine blk_alloc ?_ _)); exact BK153.out⟩, ⟨by repeat (first | (with_reducible first | exact HB.out | apply below_alloc | apply pw_below_drewN | apply below_drew1 | refine below_set ?_ GE153.out) | exact HB.out)⟩⟩
                ·rw [if_neg c28] at H
                 exact absurd H (by simp)
               ·rw [if_neg c27] at H
                exact absurd H (by simp)
            ·rw [if_neg c25] at H
             exact absurd H (by simp)
           ·rw [if_neg c24] at H
            exact absurd H (by simp)
          ·rw [if_neg c23] at H
           exact absurd H (by simp)
      ·replace c13 := Bool.eq_false_iff.mpr c13
       subst c13
       have H1 : ((lex_Tokens.f kj8 a0).bind fun bt167 => (waymarklaw07_LexPlaces.l2 kj8 a0 bt167.2.2.2 bt167.1 0 0 0)) = some r := by rw [if_neg (show ¬ (false = true) by decide)] at H; exact H
       clear H
       have H := H1
       clear H1
       replace H := Option.bind_eq_some_iff.mp H
       obtain ⟨⟨t167, t170, t171, t172⟩, A450, H⟩ := H
       replace H : (waymarklaw07_LexPlaces.l2 kj8 a0 t172 t167 0 0 0) = some r := H
       have A45 := Aside0.mk A450
       clear A450
       have H' := Aside0.mk H
       clear H
       go_wp2_with (first | ((with_reducible refine gate_callee (f := 31) rfl ?_); refine goesL_ (some 135) rfl rfl Tryd.func31 (by kernel_rfl) rfl #[.string a0] rfl (by (try simp only [List.map_toArray, List.map_cons, List.map_nil]); first | done | rfl | (simp only [List.length_drop, List.length_take]; rfl)) ?_; (with_reducible refine (lex_Tokens.calls kj8 a0 t167 t170 t171 t172 _ ?side1 A45.out).mono ?_); (case side1 => exact Go.Proofs.YtbnihnggljagnaaDoor.World.GW.below HGW_.out (by repeat (first | (with_reducible first | exact HB.out | apply below_alloc | apply pw_below_drewN | apply below_drew1 | refine below_set ?_ GE153.out) | exact HB.out))); rintro e w46 ⟨v168, rfl, ho0, hb⟩; refine ⟨_, rfl, ?_⟩; have n0_ := Aside0.mk (Kd.S_below (by (with_reducible repeat (first | apply Kd.S_alloc | apply Kd.S_drewN | apply Kd.S_drew)); exact HO_3.out) hb); have n1_ := Aside0.mk (Kd.R_lower ho0 (below_size (by repeat (first | (with_reducible first | exact HB.out | apply below_alloc | apply pw_below_drewN | apply below_drew1 | refine below_set ?_ GE153.out) | exact HB.out)))); have n2_ := Aside0.mk (blk_below (g := gb153) (o := .cells #[.int .i64 t150, .int .i64 t151] 24 (0, 0)) (by (with_reducible repeat (first | refine blk_drewN ?_ _ | refine blk_drew ?_ | refine blk_alloc ?_ _)); exact BK153.out) hb); have n3_ := Aside0.mk (below_step (by repeat (first | (with_reducible first | exact HB.out | apply below_alloc | apply pw_below_drewN | apply below_drew1 | refine below_set ?_ GE153.out) | exact HB.out)) hb); clear HO_3; clear BK153; clear HB; have HO_3 := n0_; have HO169 := n1_; have BK153 := n2_; have HB := n3_; clear n0_ n1_ n2_ n3_; (try clear hb); (try clear hb2); (try clear hk); (try clear hi); (try clear ho0)) | ((with_reducible refine gate_dst (N := 12) rfl ?_); refine box_event ?hg (N := 12) ?hd (cs := #[.int .i64 0, .int .i64 0]) (t := 24) ?hr ?_; (case hd => rfl); (case hg => rfl); (case hr => first | (go_simp; done) | (go_simp; rfl)); intro gb173 hg w47 hbox hb; have n0_ := Aside0.mk (Kd.S_below (by (with_reducible repeat (first | apply Kd.S_alloc | apply Kd.S_drewN | apply Kd.S_drew)); exact HO_3.out) hb); have n1_ := Aside0.mk (Kd.R_below (by (with_reducible repeat (first | apply Kd.R_alloc | apply Kd.R_drewN | apply Kd.R_drew)); exact HO169.out) hb); have n2_ := Aside0.mk (blk_below (g := gb153) (o := .cells #[.int .i64 t150, .int .i64 t151] 24 (0, 0)) (by (with_reducible repeat (first | refine blk_drewN ?_ _ | refine blk_drew ?_ | refine blk_alloc ?_ _)); exact BK153.out) hb); have n3_ := Aside0.mk (below_step (by repeat (first | (with_reducible first | exact HB.out | apply below_alloc | apply pw_below_drewN | apply below_drew1 | refine below_set ?_ GE153.out) | exact HB.out)) hb); have n4_ := Aside0.mk (hbox); have n5_ := Aside0.mk ((by rw [hg]; exact (below_size (by repeat (first | (with_reducible first | exact HB.out | apply below_alloc | apply pw_below_drewN | apply below_drew1 | refine below_set ?_ GE153.out) | exact HB.out))) : w.heap.size ≤ gb173)); have n6_ := Aside0.mk ((by rw [hg]; exact (below_size (by repeat (first | (with_reducible first | exact HB.out | apply below_alloc | apply pw_below_drewN | apply below_drew1 | refine below_set ?_ GE153.out) | exact HB.out))) : w.heap.size ≤ gb173)); have n7_ := Aside0.mk ((by rw [hg]; exact Nat.ne_of_lt (blk_lt (g := gb153) (o := .cells #[.int .i64 t150, .int .i64 t151] 24 (0, 0)) (by (with_reducible repeat (first | refine blk_drewN ?_ _ | refine blk_drew ?_ | refine blk_alloc ?_ _)); exact BK153.out)) : gb153 ≠ gb173)); have n8_ := Aside0.mk ((by rw [hg]; exact Nat.ne_of_gt (blk_lt (g := gb153) (o := .cells #[.int .i64 t150, .int .i64 t151] 24 (0, 0)) (by (with_reducible repeat (first | refine blk_drewN ?_ _ | refine blk_drew ?_ | refine blk_alloc ?_ _)); exact BK153.out)) : gb173 ≠ gb153)); clear HO_3; clear HO169; clear BK153; clear HB; have HO_3 := n0_; have HO169 := n1_; have BK153 := n2_; have HB := n3_; have BK173 := n4_; have GW173 := n5_; have GE173 := n6_; have NB153_173 := n7_; have NB173_153 := n8_; clear n0_ n1_ n2_ n3_ n4_ n5_ n6_ n7_ n8_; clear hb hbox hg; have hnb48 := NB173_153.out; have hnc48 := NB153_173.out; have hcz49_0 : w47.cell? ⟨gb173, 0, none⟩ = some (.int .i64 0) := (blk_cell BK173.out 0).trans rfl; have hcz49_1 : w47.cell? ⟨gb173, 1, none⟩ = some (.int .i64 0) := (blk_cell BK173.out 1).trans rfl; have hfz49_0 := blk_frozen BK173.out 0; have hfz49_1 := blk_frozen BK173.out 1) | ((with_reducible refine gate_dst (N := 13) rfl ?_); refine box_event ?hg (N := 13) ?hd (cs := #[.int .i64 0, .int .i64 0]) (t := 24) ?hr ?_; (case hd => rfl); (case hg => rfl); (case hr => first | (go_simp; done) | (go_simp; rfl)); intro gb174 hg w50 hbox hb; have n0_ := Aside0.mk (Kd.S_below (by (with_reducible repeat (first | apply Kd.S_alloc | apply Kd.S_drewN | apply Kd.S_drew)); exact (Kd.S_mono (Kd.S_far (p := ⟨gb173, 1, none⟩) (Kd.S_far (p := ⟨gb173, 0, none⟩) (Kd.S_types HO_3.out BK173.out (by decide)) (fun _ hk => hk.2) (.int .i64 t170)) (fun _ hk => hk.2) (.int .i64 t171)) (fun _ h_ => h_.1))) hb); have n1_ := Aside0.mk (Kd.R_below (by (with_reducible repeat (first | apply Kd.R_alloc | apply Kd.R_drewN | apply Kd.R_drew)); exact (Kd.R_mono (Kd.R_far (p := ⟨gb173, 1, none⟩) (Kd.R_far (p := ⟨gb173, 0, none⟩) (Kd.R_types HO169.out BK173.out (by decide)) (fun _ hk => hk.2) (.int .i64 t170)) (fun _ hk => hk.2) (.int .i64 t171)) (fun _ h_ => h_.1))) hb); have n2_ := Aside0.mk (blk_below (g := gb153) (o := .cells #[.int .i64 t150, .int .i64 t151] 24 (0, 0)) (by (with_reducible repeat (first | refine blk_drewN ?_ _ | refine blk_drew ?_ | refine blk_alloc ?_ _)); refine blk_far ?_ NB153_173.out _; (with_reducible repeat (first | refine blk_drewN ?_ _ | refine blk_drew ?_ | refine blk_alloc ?_ _)); refine blk_far ?_ NB153_173.out _; (with_reducible repeat (first | refine blk_drewN ?_ _ | refine blk_drew ?_ | refine blk_alloc ?_ _)); exact BK153.out) hb); have n3_ := Aside0.mk (blk_below (g := gb173) (o := .cells #[.int .i64 t170, .int .i64 t171] 24 (0, 0)) (by (with_reducible repeat (first | refine blk_drewN ?_ _ | refine blk_drew ?_ | refine blk_alloc ?_ _)); refine blk_put (cs := #[.int .i64 t170, .int .i64 0]) ?_ 1 _ rfl; (with_reducible repeat (first | refine blk_drewN ?_ _ | refine blk_drew ?_ | refine blk_alloc ?_ _)); refine blk_put (cs := #[.int .i64 0, .int .i64 0]) ?_ 0 _ rfl; (with_reducible repeat (first | refine blk_drewN ?_ _ | refine blk_drew ?_ | refine blk_alloc ?_ _)); exact BK173.out) hb); have n4_ := Aside0.mk (below_step (by repeat (first | (with_reducible first | exact HB.out | apply below_alloc | apply pw_below_drewN | apply below_drew1 | refine below_set ?_ GE153.out | refine below_set ?_ GE173.out) | exact HB.out)) hb); have n5_ := Aside0.mk (hbox); have n6_ := Aside0.mk ((by rw [hg]; exact (below_size (by repeat (first | (with_reducible first | exact HB.out | apply below_alloc | apply pw_below_drewN | apply below_drew1 | refine below_set ?_ GE153.out | refine below_set ?_ GE173.out) | exact HB.out))) : w.heap.size ≤ gb174)); have n7_ := Aside0.mk ((by rw [hg]; exact (below_size (by repeat (first | (with_reducible first | exact HB.out | apply below_alloc | apply pw_below_drewN | apply below_drew1 | refine below_set ?_ GE153.out | refine below_set ?_ GE173.out) | exact HB.out))) : w.heap.size ≤ gb174)); have n8_ := Aside0.mk ((by rw [hg]; exact Nat.ne_of_lt (blk_lt (g := gb153) (o := .cells #[.int .i64 t150, .int .i64 t151] 24 (0, 0)) (by (with_reducible repeat (first | refine blk_drewN ?_ _ | refine blk_drew ?_ | refine blk_alloc ?_ _)); refine blk_far ?_ NB153_173.out _; (with_reducible repeat (first | refine blk_drewN ?_ _ | refine blk_drew ?_ | refine blk_alloc ?_ _)); refine blk_far ?_ NB153_173.out _; (with_reducible repeat (first | refine blk_drewN ?_ _ | refine blk_drew ?_ | refine blk_alloc ?_ _)); exact BK153.out)) : gb153 ≠ gb174)); have n9_ := Aside0.mk ((by rw [hg]; exact Nat.ne_of_gt (blk_lt (g := gb153) (o := .cells #[.int .i64 t150, .int .i64 t151] 24 (0, 0)) (by (with_reducible repeat (first | refine blk_drewN ?_ _ | refine blk_drew ?_ | refine blk_alloc ?_ _)); refine blk_far ?_ NB153_173.out _; (with_reducible repeat (first | refine blk_drewN ?_ _ | refine blk_drew ?_ | refine blk_alloc ?_ _)); refine blk_far ?_ NB153_173.out _; (with_reducible repeat (first | refine blk_drewN ?_ _ | refine blk_drew ?_ | refine blk_alloc ?_ _)); exact BK153.out)) : gb174 ≠ gb153)); have n10_ := Aside0.mk ((by rw [hg]; exact Nat.ne_of_lt (blk_lt (g := gb173) (o := .cells #[.int .i64 t170, .int .i64 t171] 24 (0, 0)) (by (with_reducible repeat (first | refine blk_drewN ?_ _ | refine blk_drew ?_ | refine blk_alloc ?_ _)); refine blk_put (cs := #[.int .i64 t170, .int .i64 0]) ?_ 1 _ rfl; (with_reducible repeat (first | refine blk_drewN ?_ _ | refine blk_drew ?_ | refine blk_alloc ?_ _)); refine blk_put (cs := #[.int .i64 0, .int .i64 0]) ?_ 0 _ rfl; (with_reducible repeat (first | refine blk_drewN ?_ _ | refine blk_drew ?_ | refine blk_alloc ?_ _)); exact BK173.out)) : gb173 ≠ gb174)); have n11_ := Aside0.mk ((by rw [hg]; exact Nat.ne_of_gt (blk_lt (g := gb173) (o := .cells #[.int .i64 t170, .int .i64 t171] 24 (0, 0)) (by (with_reducible repeat (first | refine blk_drewN ?_ _ | refine blk_drew ?_ | refine blk_alloc ?_ _)); refine blk_put (cs := #[.int .i64 t170, .int .i64 0]) ?_ 1 _ rfl; (with_reducible repeat (first | refine blk_drewN ?_ _ | refine blk_drew ?_ | refine blk_alloc ?_ _)); refine blk_put (cs := #[.int .i64 0, .int .i64 0]) ?_ 0 _ rfl; (with_reducible repeat (first | refine blk_drewN ?_ _ | refine blk_drew ?_ | refine blk_alloc ?_ _)); exact BK173.out)) : gb174 ≠ gb173)); clear HO_3; clear HO169; clear BK153; clear BK173; clear HB; have HO_3 := n0_; have HO169 := n1_; have BK153 := n2_; have BK173 := n3_; have HB := n4_; have BK174 := n5_; have GW174 := n6_; have GE174 := n7_; have NB153_174 := n8_; have NB174_153 := n9_; have NB173_174 := n10_; have NB174_173 := n11_; clear n0_ n1_ n2_ n3_ n4_ n5_ n6_ n7_ n8_ n9_ n10_ n11_; clear hb hbox hg))
       go_loopg [14] kj8 (fun kq v14 w' => ∃ (x14_3 : Int) (x175000_3 : Int) (x175001_3 : Int), v14 = .int .i64 x14_3 ∧ Aside0 (waymarklaw07_LexPlaces.l2 kq a0 t172 t167 x14_3 x175000_3 x175001_3 = some r) ∧ Aside0 (kq ≤ kj8) ∧ Aside0 (Kd.R k64 64 w' w.heap.size (fun _ => True) v168 t167) ∧ Aside0 (w'.heap[gb153]? = some (.cells #[.int .i64 t150, .int .i64 t151] 24 (0, 0))) ∧ Aside0 (w'.heap[gb173]? = some (.cells #[.int .i64 t170, .int .i64 t171] 24 (0, 0))) ∧ Aside0 (w'.heap[gb174]? = some (.cells #[.int .i64 x175000_3, .int .i64 x175001_3] 24 (0, 0))) ∧ Aside0 (Below w.heap.size w w'))
       case atStart => exact ⟨(0), (0), (0), (by first | rfl | (simp; done) | (simp [*]; done)), H', ⟨Nat.le_refl _⟩, ⟨by (with_reducible repeat (first | apply Kd.R_alloc | apply Kd.R_drewN | apply Kd.R_drew)); exact HO169.out⟩, ⟨by (with_reducible repeat (first | refine blk_drewN ?_ _ | refine blk_drew ?_ | refine blk_alloc ?_ _)); exact BK153.out⟩, ⟨by (with_reducible repeat (first | refine blk_drewN ?_ _ | refine blk_drew ?_ | refine blk_alloc ?_ _)); exact BK173.out⟩, ⟨by (with_reducible repeat (first | refine blk_drewN ?_ _ | refine blk_drew ?_ | refine blk_alloc ?_ _)); exact BK174.out⟩, ⟨by repeat (first | (with_reducible first | exact HB.out | apply below_alloc | apply pw_below_drewN | apply below_drew1 | refine below_set ?_ GE153.out | refine below_set ?_ GE173.out | refine below_set ?_ GE174.out) | exact HB.out)⟩⟩
       case round =>
        clear H'
        try clear c1
        try clear p1
        try clear q1
        try clear hx1
        try clear qi1
        try clear c2
        try clear p2
        try clear c3
        try clear c4
        try clear c5
        try clear p6
        try clear c10
        try clear c10b0
        try clear c13
        try clear c15
        try clear c15b0
        try clear p15
        try clear q15
        try clear hx15
        try clear qi15
        try clear c16
        try clear c16b0
        try clear p16
        try clear q16
        try clear hx16
        try clear qi16
        try clear c17
        try clear c17b0
        try clear c17b1
        try clear c17b2
        try clear c18
        try clear c18b0
        try clear c18b1
        try clear c19
        try clear c19b0
        try clear c22
        try clear c23
        try clear c23b0
        try clear c24
        try clear c24b0
        try clear c25
        try clear c25b0
        try clear c25b1
        try clear c27
        try clear c27b0
        try clear c28
        try clear c28b0
        try clear c29
        try clear c29b0
        try clear c30
        try clear c30b0
        try clear c31
        try clear c33
        try clear c35
        try clear c35b0
        try clear c35b1
        try clear c36
        try clear c36b0
        try clear c36b1
        try clear c37
        try clear c37b0
        try clear c39
        try clear c42
        try clear c43
        try clear c48
        try clear hcz34_0
        try clear hcz34_1
        try clear hcz34_2
        try clear hcz40_0
        try clear hcz40_1
        try clear hcz40_2
        try clear hcz44_0
        try clear hcz44_1
        try clear hcz44_2
        try clear hcz49_0
        try clear hcz49_1
        try clear hcz8_0
        try clear hcz8_1
        try clear hfz34_0
        try clear hfz34_1
        try clear hfz34_2
        try clear hfz40_0
        try clear hfz40_1
        try clear hfz40_2
        try clear hfz44_0
        try clear hfz44_1
        try clear hfz44_2
        try clear hfz49_0
        try clear hfz49_1
        try clear hfz8_0
        try clear hfz8_1
        try clear hx154_0
        try clear hx154_1
        try clear hx155_0
        try clear hx155_1
        try clear hx156_0
        try clear hx156_1
        try clear hx156_2
        try clear hx157_0
        try clear hx157_1
        try clear hx158_0
        try clear hx158_1
        try clear hx158_2
        try clear hx159_0
        try clear hx159_1
        try clear hx160_0
        try clear hx160_1
        try clear hx161_0
        try clear hx161_1
        try clear hx161_2
        try clear hx162_0
        try clear hx162_1
        try clear hx163_0
        try clear hx163_1
        try clear hx164_0
        try clear hx164_1
        try clear hx164_2
        try clear p1
        try clear p15
        try clear p154
        try clear p155
        try clear p156
        try clear p157
        try clear p158
        try clear p159
        try clear p16
        try clear p160
        try clear p161
        try clear p162
        try clear p163
        try clear p164
        try clear p2
        try clear p6
        try clear q1
        try clear q15
        try clear q154
        try clear q155
        try clear q156
        try clear q157
        try clear q158
        try clear q159
        try clear q16
        try clear q160
        try clear q161
        try clear q162
        try clear q163
        try clear q164
        obtain ⟨x14_3, x175000_3, x175001_3, rfl, HA, HK3, HO_11, BK153, BK173, BK174, HB⟩ := hrel
        cases gk with
        | zero => exact absurd HA.out (by simp [waymarklaw07_LexPlaces.l2])
        | succ k3 =>
         have H := HA.out
         clear HA
         simp only [waymarklaw07_LexPlaces.l2] at H
         have HC51 := Aside0.mk H
         clear H
         go_upto_region 22 with (fail)
         go_cut [146] (fun v146 wc => ∃ (kq : Nat) (x146_50 : Bool), v146 = .bool x146_50 ∧ Aside0 (waymarklaw07_LexPlaces.j6 kq a0 t172 t167 x14_3 x146_50 x175000_3 x175001_3 = some r) ∧ Aside0 (kq ≤ k3) ∧ Aside0 (Kd.R k64 64 wc w.heap.size (fun _ => True) v168 t167) ∧ Aside0 (wc.heap[gb153]? = some (.cells #[.int .i64 t150, .int .i64 t151] 24 (0, 0))) ∧ Aside0 (wc.heap[gb173]? = some (.cells #[.int .i64 t170, .int .i64 t171] 24 (0, 0))) ∧ Aside0 (wc.heap[gb174]? = some (.cells #[.int .i64 x175000_3, .int .i64 x175001_3] 24 (0, 0))) ∧ Aside0 (Below w.heap.size w wc))
         case first =>
          have H := HC51.out
          clear HC51
          by_cases c52 : x14_3 < (t167.length : Int)
          ·rw [if_pos c52] at H
           have c52b0 : decide (x14_3 < (t167.length : Int)) = true := decide_eq_true c52
           clear c52
           (first | rw [c52b0] | (simp only [i64_w, i32_w]; rw [c52b0]) | skip)
           as_aux_lemma =>
            have H' := Aside0.mk H
            clear H
            obtain ⟨Ao53, co53, eo53⟩ := Kd.R_slice HO_11.out
            subst eo53
            go_wp2
            go_meet
            case rel => exact ⟨_, ((t172 == 0)), (by first | rfl | (simp; done) | (simp [*]; done)), H', ⟨by have := HK1.out; have := HJ8.out; have := HK3.out; first | omega | exact Nat.le_refl _⟩, ⟨by (with_reducible repeat (first | apply Kd.R_alloc | apply Kd.R_drewN | apply Kd.R_drew)); exact HO_11.out⟩, ⟨by (with_reducible repeat (first | refine blk_drewN ?_ _ | refine blk_drew ?_ | refine blk_alloc ?_ _)); exact BK153.out⟩, ⟨by (with_reducible repeat (first | refine blk_drewN ?_ _ | refine blk_drew ?_ | refine blk_alloc ?_ _)); exact BK173.out⟩, ⟨by (with_reducible repeat (first | refine blk_drewN ?_ _ | refine blk_drew ?_ | refine blk_alloc ?_ _)); exact BK174.out⟩, ⟨by repeat (first | (with_reducible first | exact HB.out | apply below_alloc | apply pw_below_drewN | apply below_drew1 | refine below_set ?_ GE153.out | refine below_set ?_ GE173.out | refine below_set ?_ GE174.out) | exact HB.out)⟩⟩
          ·rw [if_neg c52] at H
           have c52b0 : decide (x14_3 < (t167.length : Int)) = false := decide_eq_false c52
           clear c52
           (first | rw [c52b0] | (simp only [i64_w, i32_w]; rw [c52b0]) | skip)
           as_aux_lemma =>
            have H' := Aside0.mk H
            clear H
            obtain ⟨Ao54, co54, eo54⟩ := Kd.R_slice HO_11.out
            subst eo54
            go_wp2
            go_meet
            case rel => exact ⟨_, (false), (by first | rfl | (simp; done) | (simp [*]; done)), H', ⟨by have := HK1.out; have := HJ8.out; have := HK3.out; first | omega | exact Nat.le_refl _⟩, ⟨by (with_reducible repeat (first | apply Kd.R_alloc | apply Kd.R_drewN | apply Kd.R_drew)); exact HO_11.out⟩, ⟨by (with_reducible repeat (first | refine blk_drewN ?_ _ | refine blk_drew ?_ | refine blk_alloc ?_ _)); exact BK153.out⟩, ⟨by (with_reducible repeat (first | refine blk_drewN ?_ _ | refine blk_drew ?_ | refine blk_alloc ?_ _)); exact BK173.out⟩, ⟨by (with_reducible repeat (first | refine blk_drewN ?_ _ | refine blk_drew ?_ | refine blk_alloc ?_ _)); exact BK174.out⟩, ⟨by repeat (first | (with_reducible first | exact HB.out | apply below_alloc | apply pw_below_drewN | apply below_drew1 | refine below_set ?_ GE153.out | refine below_set ?_ GE173.out | refine below_set ?_ GE174.out) | exact HB.out)⟩⟩
         case rest =>
          clear HC51
          try clear c1
          try clear p1
          try clear q1
          try clear hx1
          try clear qi1
          try clear c2
          try clear p2
          try clear c3
          try clear c4
          try clear c5
          try clear p6
          try clear c10
          try clear c10b0
          try clear c13
          try clear c15
          try clear c15b0
          try clear p15
          try clear q15
          try clear hx15
          try clear qi15
          try clear c16
          try clear c16b0
          try clear p16
          try clear q16
          try clear hx16
          try clear qi16
          try clear c17
          try clear c17b0
          try clear c17b1
          try clear c17b2
          try clear c18
          try clear c18b0
          try clear c18b1
          try clear c19
          try clear c19b0
          try clear c22
          try clear c23
          try clear c23b0
          try clear c24
          try clear c24b0
          try clear c25
          try clear c25b0
          try clear c25b1
          try clear c27
          try clear c27b0
          try clear c28
          try clear c28b0
          try clear c29
          try clear c29b0
          try clear c30
          try clear c30b0
          try clear c31
          try clear c33
          try clear c35
          try clear c35b0
          try clear c35b1
          try clear c36
          try clear c36b0
          try clear c36b1
          try clear c37
          try clear c37b0
          try clear c39
          try clear c42
          try clear c43
          try clear c48
          try clear c52
          try clear c52b0
          try clear hcz34_0
          try clear hcz34_1
          try clear hcz34_2
          try clear hcz40_0
          try clear hcz40_1
          try clear hcz40_2
          try clear hcz44_0
          try clear hcz44_1
          try clear hcz44_2
          try clear hcz49_0
          try clear hcz49_1
          try clear hcz8_0
          try clear hcz8_1
          try clear hfz34_0
          try clear hfz34_1
          try clear hfz34_2
          try clear hfz40_0
          try clear hfz40_1
          try clear hfz40_2
          try clear hfz44_0
          try clear hfz44_1
          try clear hfz44_2
          try clear hfz49_0
          try clear hfz49_1
          try clear hfz8_0
          try clear hfz8_1
          try clear hx154_0
          try clear hx154_1
          try clear hx155_0
          try clear hx155_1
          try clear hx156_0
          try clear hx156_1
          try clear hx156_2
          try clear hx157_0
          try clear hx157_1
          try clear hx158_0
          try clear hx158_1
          try clear hx158_2
          try clear hx159_0
          try clear hx159_1
          try clear hx160_0
          try clear hx160_1
          try clear hx161_0
          try clear hx161_1
          try clear hx161_2
          try clear hx162_0
          try clear hx162_1
          try clear hx163_0
          try clear hx163_1
          try clear hx164_0
          try clear hx164_1
          try clear hx164_2
          try clear p1
          try clear p15
          try clear p154
          try clear p155
          try clear p156
          try clear p157
          try clear p158
          try clear p159
          try clear p16
          try clear p160
          try clear p161
          try clear p162
          try clear p163
          try clear p164
          try clear p2
          try clear p6
          try clear q1
          try clear q15
          try clear q154
          try clear q155
          try clear q156
          try clear q157
          try clear q158
          try clear q159
          try clear q16
          try clear q160
          try clear q161
          try clear q162
          try clear q163
          try clear q164
          obtain ⟨kq, x146_50, rfl, HA, HJ50, HO_11, BK153, BK173, BK174, HB⟩ := hcut
          cases kq with
          | zero => exact absurd HA.out (by simp [waymarklaw07_LexPlaces.j6])
          | succ kj50 =>
           have H := HA.out
           clear HA
           simp only [waymarklaw07_LexPlaces.j6] at H
           by_cases c55 : x146_50 = true
           ·subst c55
            have H1 : (if 0 ≤ x14_3 then (if x14_3 < (t167.length : Int) then (if ((rd_T64 t167 x14_3).f2.f0) < x175000_3 then (none) else (if ((rd_T64 t167 x14_3).f2.f0) = x175000_3 then (waymarklaw07_LexPlaces.j7 kj50 a0 t172 t167 x14_3 (decide (((rd_T64 t167 x14_3).f2.f1) ≤ x175001_3)) ((rd_T64 t167 x14_3).f2.f0) ((rd_T64 t167 x14_3).f2.f1)) else (waymarklaw07_LexPlaces.j7 kj50 a0 t172 t167 x14_3 false ((rd_T64 t167 x14_3).f2.f0) ((rd_T64 t167 x14_3).f2.f1)))) else (none)) else (none)) = some r := by rw [if_pos rfl] at H; exact H
            clear H
            have H := H1
            clear H1
            by_cases c56 : 0 ≤ x14_3
            ·rw [if_pos c56] at H
             have c56b0 : decide (0 ≤ x14_3) = true := decide_eq_true c56
             clear c56
             by_cases c57 : x14_3 < (t167.length : Int)
             ·rw [if_pos c57] at H
              have c57b0 : decide (x14_3 < (t167.length : Int)) = true := decide_eq_true c57
              clear c57
              have HC58 := Aside0.mk H
              clear H
              obtain ⟨Ao59, co59, eo59⟩ := Kd.R_slice HO_11.out
              subst eo59
              have p175 : 0 ≤ (x14_3 : Int) := of_decide_eq_true (by first | (with_reducible assumption) | assumption)
              have q175 : x14_3 < (t167.length : Int) := of_decide_eq_true (by first | (with_reducible assumption) | assumption)
              obtain ⟨ad175, e175, hx175_0, hx175_1, hx175_2, hx175_3⟩ := at_T64 (Kd.R_reads' HO_11.out).2.2 x14_3 p175 q175
              cases e175
              replace p175 := eq_true p175
              replace q175 := eq_true q175
              go_upto_region 25 with (first | ((with_reducible refine gate_dst (N := 15) rfl ?_); refine box_event ?hg (N := 15) ?hd (cs := #[.int .i64 0, .int .i64 0]) (t := 24) ?hr ?_; (case hd => rfl); (case hg => rfl); (case hr => first | (go_simp; done) | (go_simp; rfl)); intro gb176 hg w60 hbox hb; have n0_ := Aside0.mk (Kd.R_below (by (with_reducible repeat (first | apply Kd.R_alloc | apply Kd.R_drewN | apply Kd.R_drew)); exact HO_11.out) hb); have n1_ := Aside0.mk (blk_below (g := gb153) (o := .cells #[.int .i64 t150, .int .i64 t151] 24 (0, 0)) (by (with_reducible repeat (first | refine blk_drewN ?_ _ | refine blk_drew ?_ | refine blk_alloc ?_ _)); exact BK153.out) hb); have n2_ := Aside0.mk (blk_below (g := gb173) (o := .cells #[.int .i64 t170, .int .i64 t171] 24 (0, 0)) (by (with_reducible repeat (first | refine blk_drewN ?_ _ | refine blk_drew ?_ | refine blk_alloc ?_ _)); exact BK173.out) hb); have n3_ := Aside0.mk (blk_below (g := gb174) (o := .cells #[.int .i64 x175000_3, .int .i64 x175001_3] 24 (0, 0)) (by (with_reducible repeat (first | refine blk_drewN ?_ _ | refine blk_drew ?_ | refine blk_alloc ?_ _)); exact BK174.out) hb); have n4_ := Aside0.mk (below_step (by repeat (first | (with_reducible first | exact HB.out | apply below_alloc | apply pw_below_drewN | apply below_drew1 | refine below_set ?_ GE153.out | refine below_set ?_ GE173.out | refine below_set ?_ GE174.out) | exact HB.out)) hb); have n5_ := Aside0.mk (hbox); have n6_ := Aside0.mk ((by rw [hg]; exact (below_size (by repeat (first | (with_reducible first | exact HB.out | apply below_alloc | apply pw_below_drewN | apply below_drew1 | refine below_set ?_ GE153.out | refine below_set ?_ GE173.out | refine below_set ?_ GE174.out) | exact HB.out))) : w.heap.size ≤ gb176)); have n7_ := Aside0.mk ((by rw [hg]; exact (below_size (by repeat (first | (with_reducible first | exact HB.out | apply below_alloc | apply pw_below_drewN | apply below_drew1 | refine below_set ?_ GE153.out | refine below_set ?_ GE173.out | refine below_set ?_ GE174.out) | exact HB.out))) : w.heap.size ≤ gb176)); have n8_ := Aside0.mk ((by rw [hg]; exact Nat.ne_of_lt (blk_lt (g := gb153) (o := .cells #[.int .i64 t150, .int .i64 t151] 24 (0, 0)) (by (with_reducible repeat (first | refine blk_drewN ?_ _ | refine blk_drew ?_ | refine blk_alloc ?_ _)); exact BK153.out)) : gb153 ≠ gb176)); have n9_ := Aside0.mk ((by rw [hg]; exact Nat.ne_of_gt (blk_lt (g := gb153) (o := .cells #[.int .i64 t150, .int .i64 t151] 24 (0, 0)) (by (with_reducible repeat (first | refine blk_drewN ?_ _ | refine blk_drew ?_ | refine blk_alloc ?_ _)); exact BK153.out)) : gb176 ≠ gb153)); have n10_ := Aside0.mk ((by rw [hg]; exact Nat.ne_of_lt (blk_lt (g := gb173) (o := .cells #[.int .i64 t170, .int .i64 t171] 24 (0, 0)) (by (with_reducible repeat (first | refine blk_drewN ?_ _ | refine blk_drew ?_ | refine blk_alloc ?_ _)); exact BK173.out)) : gb173 ≠ gb176)); have n11_ := Aside0.mk ((by rw [hg]; exact Nat.ne_of_gt (blk_lt (g := gb173) (o := .cells #[.int .i64 t170, .int .i64 t171] 24 (0, 0)) (by (with_reducible repeat (first | refine blk_drewN ?_ _ | refine blk_drew ?_ | refine blk_alloc ?_ _)); exact BK173.out)) : gb176 ≠ gb173)); have n12_ := Aside0.mk ((by rw [hg]; exact Nat.ne_of_lt (blk_lt (g := gb174) (o := .cells #[.int .i64 x175000_3, .int .i64 x175001_3] 24 (0, 0)) (by (with_reducible repeat (first | refine blk_drewN ?_ _ | refine blk_drew ?_ | refine blk_alloc ?_ _)); exact BK174.out)) : gb174 ≠ gb176)); have n13_ := Aside0.mk ((by rw [hg]; exact Nat.ne_of_gt (blk_lt (g := gb174) (o := .cells #[.int .i64 x175000_3, .int .i64 x175001_3] 24 (0, 0)) (by (with_reducible repeat (first | refine blk_drewN ?_ _ | refine blk_drew ?_ | refine blk_alloc ?_ _)); exact BK174.out)) : gb176 ≠ gb174)); clear HO_11; clear BK153; clear BK173; clear BK174; clear HB; have HO_11 := n0_; have BK153 := n1_; have BK173 := n2_; have BK174 := n3_; have HB := n4_; have BK176 := n5_; have GW176 := n6_; have GE176 := n7_; have NB153_176 := n8_; have NB176_153 := n9_; have NB173_176 := n10_; have NB176_173 := n11_; have NB174_176 := n12_; have NB176_174 := n13_; clear n0_ n1_ n2_ n3_ n4_ n5_ n6_ n7_ n8_ n9_ n10_ n11_ n12_ n13_; clear hb hbox hg; have hnb61 := NB176_153.out; have hnc61 := NB153_176.out; have hnb62 := NB176_173.out; have hnc62 := NB173_176.out; have hnb63 := NB176_174.out; have hnc63 := NB174_176.out; have hcz64_0 : w60.cell? ⟨gb176, 0, none⟩ = some (.int .i64 0) := (blk_cell BK176.out 0).trans rfl; have hcz64_1 : w60.cell? ⟨gb176, 1, none⟩ = some (.int .i64 0) := (blk_cell BK176.out 1).trans rfl; have hfz64_0 := blk_frozen BK176.out 0; have hfz64_1 := blk_frozen BK176.out 1))
              (try simp only [Act.put, List.setIfInBounds_toArray, List.set_cons_zero, List.set_cons_succ])
              go_cut [172] (fun v172 wc => ∃ (kq : Nat) (x172_57 : Bool), v172 = .bool x172_57 ∧ Aside0 (waymarklaw07_LexPlaces.j7 kq a0 t172 t167 x14_3 x172_57 ((rd_T64 t167 x14_3).f2.f0) ((rd_T64 t167 x14_3).f2.f1) = some r) ∧ Aside0 (kq ≤ kj50) ∧ Aside0 (Kd.R k64 64 wc w.heap.size (fun _ => True) (.slice (some ad175) t167.length co59) t167) ∧ Aside0 (wc.heap[gb153]? = some (.cells #[.int .i64 t150, .int .i64 t151] 24 (0, 0))) ∧ Aside0 (wc.heap[gb173]? = some (.cells #[.int .i64 t170, .int .i64 t171] 24 (0, 0))) ∧ Aside0 (wc.heap[gb174]? = some (.cells #[.int .i64 x175000_3, .int .i64 x175001_3] 24 (0, 0))) ∧ Aside0 (wc.heap[gb176]? = some (.cells #[.int .i64 ((rd_T64 t167 x14_3).f2.f0), .int .i64 ((rd_T64 t167 x14_3).f2.f1)] 24 (0, 0))) ∧ Aside0 (Below w.heap.size w wc))
              case first =>
               have H := HC58.out
               clear HC58
               by_cases c65 : ((rd_T64 t167 x14_3).f2.f0) < x175000_3
               ·rw [if_pos c65] at H
                exact absurd H (by simp)
               ·rw [if_neg c65] at H
                have c65b0 : decide (((rd_T64 t167 x14_3).f2.f0) < x175000_3) = false := decide_eq_false c65
                clear c65
                (first | rw [c65b0] | (simp only [i64_w, i32_w]; rw [c65b0]) | skip)
                by_cases c66 : ((rd_T64 t167 x14_3).f2.f0) = x175000_3
                ·rw [if_pos c66] at H
                 have c66b0 : (((rd_T64 t167 x14_3).f2.f0) == x175000_3) = true := beq_iff_eq.mpr c66
                 have c66b1 : (((rd_T64 t167 x14_3).f2.f0) != x175000_3) = false := bne_eq_false_iff_eq.mpr c66
                 clear c66
                 as_aux_lemma =>
                  have H' := Aside0.mk H
                  clear H
                  have hnb67 := NB176_153.out
                  have hnc67 := NB153_176.out
                  have hnb68 := NB176_173.out
                  have hnc68 := NB173_176.out
                  have hnb69 := NB176_174.out
                  have hnc69 := NB174_176.out
                  have hcz70_0 : w60.cell? ⟨gb176, 0, none⟩ = some (.int .i64 0) := (blk_cell BK176.out 0).trans rfl
                  have hcz70_1 : w60.cell? ⟨gb176, 1, none⟩ = some (.int .i64 0) := (blk_cell BK176.out 1).trans rfl
                  have hfz70_0 := blk_frozen BK176.out 0
                  have hfz70_1 := blk_frozen BK176.out 1
                  have hnb71 := NB174_153.out
                  have hnc71 := NB153_174.out
                  have hnb72 := NB174_173.out
                  have hnc72 := NB173_174.out
                  have hcz73_0 : w60.cell? ⟨gb174, 0, none⟩ = some (.int .i64 x175000_3) := (blk_cell BK174.out 0).trans rfl
                  have hcz73_1 : w60.cell? ⟨gb174, 1, none⟩ = some (.int .i64 x175001_3) := (blk_cell BK174.out 1).trans rfl
                  have hfz73_0 := blk_frozen BK174.out 0
                  have hfz73_1 := blk_frozen BK174.out 1
                  go_wp2
                  go_meet
                  case rel => exact ⟨_, (decide (((rd_T64 t167 x14_3).f2.f1) ≤ x175001_3)), (by first | rfl | (simp; done) | (simp [*]; done)), H', ⟨by have := HK1.out; have := HJ8.out; have := HK3.out; have := HJ50.out; first | omega | exact Nat.le_refl _⟩, ⟨by (with_reducible repeat (first | apply Kd.R_alloc | apply Kd.R_drewN | apply Kd.R_drew)); exact Kd.R_mono (Kd.R_far (p := ⟨gb176, 1, none⟩) (Kd.R_far (p := ⟨gb176, 0, none⟩) (Kd.R_types HO_11.out BK176.out (by decide)) (fun _ hk => hk.2) (.int .i64 ((rd_T64 t167 x14_3).f2.f0))) (fun _ hk => hk.2) (.int .i64 ((rd_T64 t167 x14_3).f2.f1))) (fun _ hk => trivial)⟩, ⟨by (with_reducible repeat (first | refine blk_drewN ?_ _ | refine blk_drew ?_ | refine blk_alloc ?_ _)); refine blk_far ?_ NB153_176.out _; (with_reducible repeat (first | refine blk_drewN ?_ _ | refine blk_drew ?_ | refine blk_alloc ?_ _)); refine blk_far ?_ NB153_176.out _; (with_reducible repeat (first | refine blk_drewN ?_ _ | refine blk_drew ?_ | refine blk_alloc ?_ _)); exact BK153.out⟩, ⟨by (with_reducible repeat (first | refine blk_drewN ?_ _ | refine blk_drew ?_ | refine blk_alloc ?_ _)); refine blk_far ?_ NB173_176.out _; (with_reducible repeat (first | refine blk_drewN ?_ _ | refine blk_drew ?_ | refine blk_alloc ?_ _)); refine blk_far ?_ NB173_176.out _; (with_reducible repeat (first | refine blk_drewN ?_ _ | refine blk_drew ?_ | refine blk_alloc ?_ _)); exact BK173.out⟩, ⟨by (with_reducible repeat (first | refine blk_drewN ?_ _ | refine blk_drew ?_ | refine blk_alloc ?_ _)); refine blk_far ?_ NB174_176.out _; (with_reducible repeat (first | refine blk_drewN ?_ _ | refine blk_drew ?_ | refine blk_alloc ?_ _)); refine blk_far ?_ NB174_176.out _; (with_reducible repeat (first | refine blk_drewN ?_ _ | refine blk_drew ?_ | refine blk_alloc ?_ _)); exact BK174.out⟩, ⟨by (with_reducible repeat (first | refine blk_drewN ?_ _ | refine blk_drew ?_ | refine blk_alloc ?_ _)); refine blk_put (cs := #[.int .i64 ((rd_T64 t167 x14_3).f2.f0), .int .i64 0]) ?_ 1 _ rfl; (with_reducible repeat (first | refine blk_drewN ?_ _ | refine blk_drew ?_ | refine blk_alloc ?_ _)); refine blk_put (cs := #[.int .i64 0, .int .i64 0]) ?_ 0 _ rfl; (with_reducible repeat (first | refine blk_drewN ?_ _ | refine blk_drew ?_ | refine blk_alloc ?_ _)); exact BK176.out⟩, ⟨by repeat (first | (with_reducible first | exact HB.out | apply below_alloc | apply pw_below_drewN | apply below_drew1 | refine below_set ?_ GE153.out | refine below_set ?_ GE173.out | refine below_set ?_ GE174.out | refine below_set ?_ GE176.out) | exact HB.out)⟩⟩
                ·rw [if_neg c66] at H
                 have c66b0 : (((rd_T64 t167 x14_3).f2.f0) == x175000_3) = false := beq_eq_false_iff_ne.mpr c66
                 have c66b1 : (((rd_T64 t167 x14_3).f2.f0) != x175000_3) = true := bne_iff_ne.mpr c66
                 as_aux_lemma =>
                  have H' := Aside0.mk H
                  clear H
                  have hnb74 := NB176_153.out
                  have hnc74 := NB153_176.out
                  have hnb75 := NB176_173.out
                  have hnc75 := NB173_176.out
                  have hnb76 := NB176_174.out
                  have hnc76 := NB174_176.out
                  have hcz77_0 : w60.cell? ⟨gb176, 0, none⟩ = some (.int .i64 0) := (blk_cell BK176.out 0).trans rfl
                  have hcz77_1 : w60.cell? ⟨gb176, 1, none⟩ = some (.int .i64 0) := (blk_cell BK176.out 1).trans rfl
                  have hfz77_0 := blk_frozen BK176.out 0
                  have hfz77_1 := blk_frozen BK176.out 1
                  have hnb78 := NB174_153.out
                  have hnc78 := NB153_174.out
                  have hnb79 := NB174_173.out
                  have hnc79 := NB173_174.out
                  have hcz80_0 : w60.cell? ⟨gb174, 0, none⟩ = some (.int .i64 x175000_3) := (blk_cell BK174.out 0).trans rfl
                  have hcz80_1 : w60.cell? ⟨gb174, 1, none⟩ = some (.int .i64 x175001_3) := (blk_cell BK174.out 1).trans rfl
                  have hfz80_0 := blk_frozen BK174.out 0
                  have hfz80_1 := blk_frozen BK174.out 1
                  go_wp2
                  go_meet
                  case rel => exact ⟨_, (false), (by first | rfl | (simp; done) | (simp [*]; done)), H', ⟨by have := HK1.out; have := HJ8.out; have := HK3.out; have := HJ50.out; first | omega | exact Nat.le_refl _⟩, ⟨by (with_reducible repeat (first | apply Kd.R_alloc | apply Kd.R_drewN | apply Kd.R_drew)); exact Kd.R_mono (Kd.R_far (p := ⟨gb176, 1, none⟩) (Kd.R_far (p := ⟨gb176, 0, none⟩) (Kd.R_types HO_11.out BK176.out (by decide)) (fun _ hk => hk.2) (.int .i64 ((rd_T64 t167 x14_3).f2.f0))) (fun _ hk => hk.2) (.int .i64 ((rd_T64 t167 x14_3).f2.f1))) (fun _ hk => trivial)⟩, ⟨by (with_reducible repeat (first | refine blk_drewN ?_ _ | refine blk_drew ?_ | refine blk_alloc ?_ _)); refine blk_far ?_ NB153_176.out _; (with_reducible repeat (first | refine blk_drewN ?_ _ | refine blk_drew ?_ | refine blk_alloc ?_ _)); refine blk_far ?_ NB153_176.out _; (with_reducible repeat (first | refine blk_drewN ?_ _ | refine blk_drew ?_ | refine blk_alloc ?_ _)); exact BK153.out⟩, ⟨by (with_reducible repeat (first | refine blk_drewN ?_ _ | refine blk_drew ?_ | refine blk_alloc ?_ _)); refine blk_far ?_ NB173_176.out _; (with_reducible repeat (first | refine blk_drewN ?_ _ | refine blk_drew ?_ | refine blk_alloc ?_ _)); refine blk_far ?_ NB173_176.out _; (with_reducible repeat (first | refine blk_drewN ?_ _ | refine blk_drew ?_ | refine blk_alloc ?_ _)); exact BK173.out⟩, ⟨by (with_reducible repeat (first | refine blk_drewN ?_ _ | refine blk_drew ?_ | refine blk_alloc ?_ _)); refine blk_far ?_ NB174_176.out _; (with_reducible repeat (first | refine blk_drewN ?_ _ | refine blk_drew ?_ | refine blk_alloc ?_ _)); refine blk_far ?_ NB174_176.out _; (with_reducible repeat (first | refine blk_drewN ?_ _ | refine blk_drew ?_ | refine blk_alloc ?_ _)); exact BK174.out⟩, ⟨by (with_reducible repeat (first | refine blk_drewN ?_ _ | refine blk_drew ?_ | refine blk_alloc ?_ _)); refine blk_put (cs := #[.int .i64 ((rd_T64 t167 x14_3).f2.f0), .int .i64 0]) ?_ 1 _ rfl; (with_reducible repeat (first | refine blk_drewN ?_ _ | refine blk_drew ?_ | refine blk_alloc ?_ _)); refine blk_put (cs := #[.int .i64 0, .int .i64 0]) ?_ 0 _ rfl; (with_reducible repeat (first | refine blk_drewN ?_ _ | refine blk_drew ?_ | refine blk_alloc ?_ _)); exact BK176.out⟩, ⟨by repeat (first | (with_reducible first | exact HB.out | apply below_alloc | apply pw_below_drewN | apply below_drew1 | refine below_set ?_ GE153.out | refine below_set ?_ GE173.out | refine below_set ?_ GE174.out | refine below_set ?_ GE176.out) | exact HB.out)⟩⟩
              case rest =>
               clear HC58
               try clear c1
               try clear p1
               try clear q1
               try clear hx1
               try clear qi1
               try clear c2
               try clear p2
               try clear c3
               try clear c4
               try clear c5
               try clear c6
               try clear p6
               try clear c7
               try clear c10
               try clear c10b0
               try clear c13
               try clear c15
               try clear c15b0
               try clear p15
               try clear q15
               try clear hx15
               try clear qi15
               try clear c16
               try clear c16b0
               try clear p16
               try clear q16
               try clear hx16
               try clear qi16
               try clear c17
               try clear c17b0
               try clear c17b1
               try clear c17b2
               try clear p17
               try clear q17
               try clear hx17
               try clear c18
               try clear c18b0
               try clear c18b1
               try clear c19
               try clear c19b0
               try clear c22
               try clear c23
               try clear c23b0
               try clear c24
               try clear c24b0
               try clear c25
               try clear c25b0
               try clear c25b1
               try clear c27
               try clear c27b0
               try clear c28
               try clear c28b0
               try clear c29
               try clear c29b0
               try clear c30
               try clear c30b0
               try clear c31
               try clear c33
               try clear c35
               try clear c35b0
               try clear c35b1
               try clear c36
               try clear c36b0
               try clear c36b1
               try clear c37
               try clear c37b0
               try clear c39
               try clear c42
               try clear c43
               try clear c48
               try clear c52
               try clear c52b0
               try clear c55
               try clear c56
               try clear c56b0
               try clear c57
               try clear c57b0
               try clear c61
               try clear c62
               try clear c63
               try clear p64
               try clear c65
               try clear c65b0
               try clear c66
               try clear c66b0
               try clear c66b1
               try clear c67
               try clear c68
               try clear c69
               try clear c71
               try clear c72
               try clear c74
               try clear c75
               try clear c76
               try clear c78
               try clear c79
               try clear hcz34_0
               try clear hcz34_1
               try clear hcz34_2
               try clear hcz40_0
               try clear hcz40_1
               try clear hcz40_2
               try clear hcz44_0
               try clear hcz44_1
               try clear hcz44_2
               try clear hcz49_0
               try clear hcz49_1
               try clear hcz64_0
               try clear hcz64_1
               try clear hcz70_0
               try clear hcz70_1
               try clear hcz73_0
               try clear hcz73_1
               try clear hcz77_0
               try clear hcz77_1
               try clear hcz80_0
               try clear hcz80_1
               try clear hcz8_0
               try clear hcz8_1
               try clear hfz34_0
               try clear hfz34_1
               try clear hfz34_2
               try clear hfz40_0
               try clear hfz40_1
               try clear hfz40_2
               try clear hfz44_0
               try clear hfz44_1
               try clear hfz44_2
               try clear hfz49_0
               try clear hfz49_1
               try clear hfz64_0
               try clear hfz64_1
               try clear hfz70_0
               try clear hfz70_1
               try clear hfz73_0
               try clear hfz73_1
               try clear hfz77_0
               try clear hfz77_1
               try clear hfz80_0
               try clear hfz80_1
               try clear hfz8_0
               try clear hfz8_1
               try clear hx154_0
               try clear hx154_1
               try clear hx155_0
               try clear hx155_1
               try clear hx156_0
               try clear hx156_1
               try clear hx156_2
               try clear hx157_0
               try clear hx157_1
               try clear hx158_0
               try clear hx158_1
               try clear hx158_2
               try clear hx159_0
               try clear hx159_1
               try clear hx160_0
               try clear hx160_1
               try clear hx161_0
               try clear hx161_1
               try clear hx161_2
               try clear hx162_0
               try clear hx162_1
               try clear hx163_0
               try clear hx163_1
               try clear hx164_0
               try clear hx164_1
               try clear hx164_2
               try clear hx175_0
               try clear hx175_1
               try clear hx175_2
               try clear hx175_3
               try clear p1
               try clear p15
               try clear p154
               try clear p155
               try clear p156
               try clear p157
               try clear p158
               try clear p159
               try clear p16
               try clear p160
               try clear p161
               try clear p162
               try clear p163
               try clear p164
               try clear p175
               try clear p2
               try clear p6
               try clear q1
               try clear q15
               try clear q154
               try clear q155
               try clear q156
               try clear q157
               try clear q158
               try clear q159
               try clear q16
               try clear q160
               try clear q161
               try clear q162
               try clear q163
               try clear q164
               try clear q175
               obtain ⟨kq, x172_57, rfl, HA, HJ57, HO_11, BK153, BK173, BK174, BK176, HB⟩ := hcut
               cases kq with
               | zero => exact absurd HA.out (by simp [waymarklaw07_LexPlaces.j7])
               | succ kj57 =>
                have H := HA.out
                clear HA
                simp only [waymarklaw07_LexPlaces.j7] at H
                by_cases c81 : x172_57 = true
                ·subst c81
                 have H1 : (none) = some r := by rw [if_pos rfl] at H; exact H
                 clear H
                 have H := H1
                 clear H1
                 exact absurd H (by simp)
                ·replace c81 := Bool.eq_false_iff.mpr c81
                 subst c81
                 have H1 : ((waymarklaw07_stands.f kj57 a0 (⟨#[34]⟩ : ByteArray) ((rd_T64 t167 x14_3).f2.f0) ((rd_T64 t167 x14_3).f2.f1)).bind fun t177 => (if t177 = true then (waymarklaw07_LexPlaces.j8 kj57 a0 t172 t167 x14_3 t177 ((rd_T64 t167 x14_3).f2.f0) (wrap64 (((rd_T64 t167 x14_3).f2.f1) + 1))) else (waymarklaw07_LexPlaces.j8 kj57 a0 t172 t167 x14_3 t177 ((rd_T64 t167 x14_3).f2.f0) ((rd_T64 t167 x14_3).f2.f1)))) = some r := by rw [if_neg (show ¬ (false = true) by decide)] at H; exact H
                 clear H
                 have H := H1
                 clear H1
                 replace H := Option.bind_eq_some_iff.mp H
                 obtain ⟨t177, A820, H⟩ := H
                 replace H : (if t177 = true then (waymarklaw07_LexPlaces.j8 kj57 a0 t172 t167 x14_3 t177 ((rd_T64 t167 x14_3).f2.f0) (wrap64 (((rd_T64 t167 x14_3).f2.f1) + 1))) else (waymarklaw07_LexPlaces.j8 kj57 a0 t172 t167 x14_3 t177 ((rd_T64 t167 x14_3).f2.f0) ((rd_T64 t167 x14_3).f2.f1))) = some r := H
                 have A82 := Aside0.mk A820
                 clear A820
                 have HC83 := Aside0.mk H
                 clear H
                 have hnb84 := NB176_153.out
                 have hnc84 := NB153_176.out
                 have hnb85 := NB176_173.out
                 have hnc85 := NB173_176.out
                 have hnb86 := NB176_174.out
                 have hnc86 := NB174_176.out
                 have hcz87_0 : wc.cell? ⟨gb176, 0, none⟩ = some (.int .i64 ((rd_T64 t167 x14_3).f2.f0)) := (blk_cell BK176.out 0).trans rfl
                 have hcz87_1 : wc.cell? ⟨gb176, 1, none⟩ = some (.int .i64 ((rd_T64 t167 x14_3).f2.f1)) := (blk_cell BK176.out 1).trans rfl
                 have hfz87_0 := blk_frozen BK176.out 0
                 have hfz87_1 := blk_frozen BK176.out 1
                 go_upto_if 176 with (first | ((with_reducible refine gate_callee (f := 30) rfl ?_); refine goesL_ (some 175) rfl rfl Tryd.func30 (by kernel_rfl) rfl #[.string a0, .string (⟨#[34]⟩ : ByteArray), .agg #[.int .i64 ((rd_T64 t167 x14_3).f2.f0), .int .i64 ((rd_T64 t167 x14_3).f2.f1)]] rfl (by (try simp only [List.map_toArray, List.map_cons, List.map_nil]); first | done | rfl | (simp only [List.length_drop, List.length_take]; rfl)) ?_; (with_reducible refine (waymarklaw07_stands.calls kj57 a0 (⟨#[34]⟩ : ByteArray) ((rd_T64 t167 x14_3).f2.f0) ((rd_T64 t167 x14_3).f2.f1) t177 _ A82.out).mono ?_); rintro e w88 ⟨rfl, hb⟩; refine ⟨_, rfl, ?_⟩; have n0_ := Aside0.mk (Kd.R_below (by (with_reducible repeat (first | apply Kd.R_alloc | apply Kd.R_drewN | apply Kd.R_drew)); exact HO_11.out) hb); have n1_ := Aside0.mk (blk_below (g := gb153) (o := .cells #[.int .i64 t150, .int .i64 t151] 24 (0, 0)) (by (with_reducible repeat (first | refine blk_drewN ?_ _ | refine blk_drew ?_ | refine blk_alloc ?_ _)); exact BK153.out) hb); have n2_ := Aside0.mk (blk_below (g := gb173) (o := .cells #[.int .i64 t170, .int .i64 t171] 24 (0, 0)) (by (with_reducible repeat (first | refine blk_drewN ?_ _ | refine blk_drew ?_ | refine blk_alloc ?_ _)); exact BK173.out) hb); have n3_ := Aside0.mk (blk_below (g := gb174) (o := .cells #[.int .i64 x175000_3, .int .i64 x175001_3] 24 (0, 0)) (by (with_reducible repeat (first | refine blk_drewN ?_ _ | refine blk_drew ?_ | refine blk_alloc ?_ _)); exact BK174.out) hb); have n4_ := Aside0.mk (blk_below (g := gb176) (o := .cells #[.int .i64 ((rd_T64 t167 x14_3).f2.f0), .int .i64 ((rd_T64 t167 x14_3).f2.f1)] 24 (0, 0)) (by (with_reducible repeat (first | refine blk_drewN ?_ _ | refine blk_drew ?_ | refine blk_alloc ?_ _)); exact BK176.out) hb); have n5_ := Aside0.mk (below_step (by repeat (first | (with_reducible first | exact HB.out | apply below_alloc | apply pw_below_drewN | apply below_drew1 | refine below_set ?_ GE153.out | refine below_set ?_ GE173.out | refine below_set ?_ GE174.out | refine below_set ?_ GE176.out) | exact HB.out)) hb); clear HO_11; clear BK153; clear BK173; clear BK174; clear BK176; clear HB; have HO_11 := n0_; have BK153 := n1_; have BK173 := n2_; have BK174 := n3_; have BK176 := n4_; have HB := n5_; clear n0_ n1_ n2_ n3_ n4_ n5_; (try clear hb); (try clear hb2); (try clear hk); (try clear hi)))
                 (try simp only [Act.put, List.setIfInBounds_toArray, List.set_cons_zero, List.set_cons_succ])
                 go_cut [] (fun wc => ∃ (kq : Nat) (x177001_82 : Int), Aside0 (waymarklaw07_LexPlaces.j8 kq a0 t172 t167 x14_3 t177 ((rd_T64 t167 x14_3).f2.f0) x177001_82 = some r) ∧ Aside0 (kq ≤ kj57) ∧ Aside0 (Kd.R k64 64 wc w.heap.size (fun _ => True) (.slice (some ad175) t167.length co59) t167) ∧ Aside0 (wc.heap[gb153]? = some (.cells #[.int .i64 t150, .int .i64 t151] 24 (0, 0))) ∧ Aside0 (wc.heap[gb173]? = some (.cells #[.int .i64 t170, .int .i64 t171] 24 (0, 0))) ∧ Aside0 (wc.heap[gb174]? = some (.cells #[.int .i64 x175000_3, .int .i64 x175001_3] 24 (0, 0))) ∧ Aside0 (wc.heap[gb176]? = some (.cells #[.int .i64 ((rd_T64 t167 x14_3).f2.f0), .int .i64 x177001_82] 24 (0, 0))) ∧ Aside0 (Below w.heap.size w wc))
                 case first =>
                  have H := HC83.out
                  clear HC83
                  by_cases c89 : t177 = true
                  ·subst c89
                   have H1 : (waymarklaw07_LexPlaces.j8 kj57 a0 t172 t167 x14_3 true ((rd_T64 t167 x14_3).f2.f0) (wrap64 (((rd_T64 t167 x14_3).f2.f1) + 1))) = some r := by rw [if_pos rfl] at H; exact H
                   clear H
                   have H := H1
                   clear H1
                   as_aux_lemma =>
                    have H' := Aside0.mk H
                    clear H
                    have hnb90 := NB176_153.out
                    have hnc90 := NB153_176.out
                    have hnb91 := NB176_173.out
                    have hnc91 := NB173_176.out
                    have hnb92 := NB176_174.out
                    have hnc92 := NB174_176.out
                    have hcz93_0 : w88.cell? ⟨gb176, 0, none⟩ = some (.int .i64 ((rd_T64 t167 x14_3).f2.f0)) := (blk_cell BK176.out 0).trans rfl
                    have hcz93_1 : w88.cell? ⟨gb176, 1, none⟩ = some (.int .i64 ((rd_T64 t167 x14_3).f2.f1)) := (blk_cell BK176.out 1).trans rfl
                    have hfz93_0 := blk_frozen BK176.out 0
                    have hfz93_1 := blk_frozen BK176.out 1
                    go_wp2
                    go_meet
                    case rel => exact ⟨_, (wrap64 (((rd_T64 t167 x14_3).f2.f1) + 1)), H', ⟨by have := HK1.out; have := HJ8.out; have := HK3.out; have := HJ50.out; have := HJ57.out; first | omega | exact Nat.le_refl _⟩, ⟨by (with_reducible repeat (first | apply Kd.R_alloc | apply Kd.R_drewN | apply Kd.R_drew)); exact Kd.R_mono (Kd.R_far (p := ⟨gb176, 1, none⟩) (Kd.R_types HO_11.out BK176.out (by decide)) (fun _ hk => hk.2) (.int .i64 (wrap64 (((rd_T64 t167 x14_3).f2.f1) + 1)))) (fun _ hk => trivial)⟩, ⟨by (with_reducible repeat (first | refine blk_drewN ?_ _ | refine blk_drew ?_ | refine blk_alloc ?_ _)); refine blk_far ?_ NB153_176.out _; (with_reducible repeat (first | refine blk_drewN ?_ _ | refine blk_drew ?_ | refine blk_alloc ?_ _)); exact BK153.out⟩, ⟨by (with_reducible repeat (first | refine blk_drewN ?_ _ | refine blk_drew ?_ | refine blk_alloc ?_ _)); refine blk_far ?_ NB173_176.out _; (with_reducible repeat (first | refine blk_drewN ?_ _ | refine blk_drew ?_ | refine blk_alloc ?_ _)); exact BK173.out⟩, ⟨by (with_reducible repeat (first | refine blk_drewN ?_ _ | refine blk_drew ?_ | refine blk_alloc ?_ _)); refine blk_far ?_ NB174_176.out _; (with_reducible repeat (first | refine blk_drewN ?_ _ | refine blk_drew ?_ | refine blk_alloc ?_ _)); exact BK174.out⟩, ⟨by (with_reducible repeat (first | refine blk_drewN ?_ _ | refine blk_drew ?_ | refine blk_alloc ?_ _)); refine blk_put (cs := #[.int .i64 ((rd_T64 t167 x14_3).f2.f0), .int .i64 ((rd_T64 t167 x14_3).f2.f1)]) ?_ 1 _ rfl; (with_reducible repeat (first | refine blk_drewN ?_ _ | refine blk_drew ?_ | refine blk_alloc ?_ _)); exact BK176.out⟩, ⟨by repeat (first | (with_reducible first | exact HB.out | apply below_alloc | apply pw_below_drewN | apply below_drew1 | refine below_set ?_ GE153.out | refine below_set ?_ GE173.out | refine below_set ?_ GE174.out | refine below_set ?_ GE176.out) | exact HB.out)⟩⟩
                  ·replace c89 := Bool.eq_false_iff.mpr c89
                   subst c89
                   have H1 : (waymarklaw07_LexPlaces.j8 kj57 a0 t172 t167 x14_3 false ((rd_T64 t167 x14_3).f2.f0) ((rd_T64 t167 x14_3).f2.f1)) = some r := by rw [if_neg (show ¬ (false = true) by decide)] at H; exact H
                   clear H
                   have H := H1
                   clear H1
                   as_aux_lemma =>
                    have H' := Aside0.mk H
                    clear H
                    go_wp2
                    go_meet
                    case rel => exact ⟨_, (((rd_T64 t167 x14_3).f2.f1)), H', ⟨by have := HK1.out; have := HJ8.out; have := HK3.out; have := HJ50.out; have := HJ57.out; first | omega | exact Nat.le_refl _⟩, ⟨by (with_reducible repeat (first | apply Kd.R_alloc | apply Kd.R_drewN | apply Kd.R_drew)); exact HO_11.out⟩, ⟨by (with_reducible repeat (first | refine blk_drewN ?_ _ | refine blk_drew ?_ | refine blk_alloc ?_ _)); exact BK153.out⟩, ⟨by (with_reducible repeat (first | refine blk_drewN ?_ _ | refine blk_drew ?_ | refine blk_alloc ?_ _)); exact BK173.out⟩, ⟨by (with_reducible repeat (first | refine blk_drewN ?_ _ | refine blk_drew ?_ | refine blk_alloc ?_ _)); exact BK174.out⟩, ⟨by (with_reducible repeat (first | refine blk_drewN ?_ _ | refine blk_drew ?_ | refine blk_alloc ?_ _)); exact BK176.out⟩, ⟨by repeat (first | (with_reducible first | exact HB.out | apply below_alloc | apply pw_below_drewN | apply below_drew1 | refine below_set ?_ GE153.out | refine below_set ?_ GE173.out | refine below_set ?_ GE174.out | refine below_set ?_ GE176.out) | exact HB.out)⟩⟩
                 case rest =>
                  clear HC83
                  try clear c1
                  try clear p1
                  try clear q1
                  try clear hx1
                  try clear qi1
                  try clear c2
                  try clear p2
                  try clear c3
                  try clear c4
                  try clear c5
                  try clear c6
                  try clear p6
                  try clear c7
                  try clear c8
                  try clear c9
                  try clear c10
                  try clear c10b0
                  try clear c13
                  try clear c15
                  try clear c15b0
                  try clear p15
                  try clear q15
                  try clear hx15
                  try clear qi15
                  try clear c16
                  try clear c16b0
                  try clear p16
                  try clear q16
                  try clear hx16
                  try clear qi16
                  try clear c17
                  try clear c17b0
                  try clear c17b1
                  try clear c17b2
                  try clear p17
                  try clear q17
                  try clear hx17
                  try clear c18
                  try clear c18b0
                  try clear c18b1
                  try clear c19
                  try clear c19b0
                  try clear c22
                  try clear c23
                  try clear c23b0
                  try clear c24
                  try clear c24b0
                  try clear c25
                  try clear c25b0
                  try clear c25b1
                  try clear c27
                  try clear c27b0
                  try clear c28
                  try clear c28b0
                  try clear c29
                  try clear c29b0
                  try clear c30
                  try clear c30b0
                  try clear c31
                  try clear c33
                  try clear c35
                  try clear c35b0
                  try clear c35b1
                  try clear c36
                  try clear c36b0
                  try clear c36b1
                  try clear c37
                  try clear c37b0
                  try clear c39
                  try clear c42
                  try clear c43
                  try clear c48
                  try clear c52
                  try clear c52b0
                  try clear c55
                  try clear c56
                  try clear c56b0
                  try clear c57
                  try clear c57b0
                  try clear c61
                  try clear c62
                  try clear c63
                  try clear p64
                  try clear c65
                  try clear c65b0
                  try clear c66
                  try clear c66b0
                  try clear c66b1
                  try clear c67
                  try clear c68
                  try clear c69
                  try clear c71
                  try clear c72
                  try clear c74
                  try clear c75
                  try clear c76
                  try clear c78
                  try clear c79
                  try clear c81
                  try clear c84
                  try clear c85
                  try clear c86
                  try clear c89
                  try clear c90
                  try clear c91
                  try clear c92
                  try clear hcz34_0
                  try clear hcz34_1
                  try clear hcz34_2
                  try clear hcz40_0
                  try clear hcz40_1
                  try clear hcz40_2
                  try clear hcz44_0
                  try clear hcz44_1
                  try clear hcz44_2
                  try clear hcz49_0
                  try clear hcz49_1
                  try clear hcz64_0
                  try clear hcz64_1
                  try clear hcz70_0
                  try clear hcz70_1
                  try clear hcz73_0
                  try clear hcz73_1
                  try clear hcz77_0
                  try clear hcz77_1
                  try clear hcz80_0
                  try clear hcz80_1
                  try clear hcz87_0
                  try clear hcz87_1
                  try clear hcz8_0
                  try clear hcz8_1
                  try clear hcz93_0
                  try clear hcz93_1
                  try clear hfz34_0
                  try clear hfz34_1
                  try clear hfz34_2
                  try clear hfz40_0
                  try clear hfz40_1
                  try clear hfz40_2
                  try clear hfz44_0
                  try clear hfz44_1
                  try clear hfz44_2
                  try clear hfz49_0
                  try clear hfz49_1
                  try clear hfz64_0
                  try clear hfz64_1
                  try clear hfz70_0
                  try clear hfz70_1
                  try clear hfz73_0
                  try clear hfz73_1
                  try clear hfz77_0
                  try clear hfz77_1
                  try clear hfz80_0
                  try clear hfz80_1
                  try clear hfz87_0
                  try clear hfz87_1
                  try clear hfz8_0
                  try clear hfz8_1
                  try clear hfz93_0
                  try clear hfz93_1
                  try clear hx154_0
                  try clear hx154_1
                  try clear hx155_0
                  try clear hx155_1
                  try clear hx156_0
                  try clear hx156_1
                  try clear hx156_2
                  try clear hx157_0
                  try clear hx157_1
                  try clear hx158_0
                  try clear hx158_1
                  try clear hx158_2
                  try clear hx159_0
                  try clear hx159_1
                  try clear hx160_0
                  try clear hx160_1
                  try clear hx161_0
                  try clear hx161_1
                  try clear hx161_2
                  try clear hx162_0
                  try clear hx162_1
                  try clear hx163_0
                  try clear hx163_1
                  try clear hx164_0
                  try clear hx164_1
                  try clear hx164_2
                  try clear hx175_0
                  try clear hx175_1
                  try clear hx175_2
                  try clear hx175_3
                  try clear p1
                  try clear p15
                  try clear p154
                  try clear p155
                  try clear p156
                  try clear p157
                  try clear p158
                  try clear p159
                  try clear p16
                  try clear p160
                  try clear p161
                  try clear p162
                  try clear p163
                  try clear p164
                  try clear p17
                  try clear p175
                  try clear p2
                  try clear p6
                  try clear p64
                  try clear q1
                  try clear q15
                  try clear q154
                  try clear q155
                  try clear q156
                  try clear q157
                  try clear q158
                  try clear q159
                  try clear q16
                  try clear q160
                  try clear q161
                  try clear q162
                  try clear q163
                  try clear q164
                  try clear q17
                  try clear q175
                  obtain ⟨kq, x177001_82, HA, HJ82, HO_11, BK153, BK173, BK174, BK176, HB⟩ := hcut
                  cases kq with
                  | zero => exact absurd HA.out (by simp [waymarklaw07_LexPlaces.j8])
                  | succ kj82 =>
                   have H := HA.out
                   clear HA
                   simp only [waymarklaw07_LexPlaces.j8] at H
                   have HC94 := Aside0.mk H
                   clear H
                   go_upto_region 30 with (fail)
                   go_cut [201] (fun v201 wc => ∃ (kq : Nat) (x201_93 : Bool), v201 = .bool x201_93 ∧ Aside0 (waymarklaw07_LexPlaces.j9 kq a0 t172 t167 x14_3 x201_93 = some r) ∧ Aside0 (kq ≤ kj82) ∧ Aside0 (Kd.R k64 64 wc w.heap.size (fun _ => True) (.slice (some ad175) t167.length co59) t167) ∧ Aside0 (wc.heap[gb153]? = some (.cells #[.int .i64 t150, .int .i64 t151] 24 (0, 0))) ∧ Aside0 (wc.heap[gb173]? = some (.cells #[.int .i64 t170, .int .i64 t171] 24 (0, 0))) ∧ Aside0 (wc.heap[gb174]? = some (.cells #[.int .i64 x175000_3, .int .i64 x175001_3] 24 (0, 0))) ∧ Aside0 (wc.heap[gb176]? = some (.cells #[.int .i64 ((rd_T64 t167 x14_3).f2.f0), .int .i64 x177001_82] 24 (0, 0))) ∧ Aside0 (Below w.heap.size w wc))
                   case first =>
                    have H := HC94.out
                    clear HC94
                    by_cases c95 : 0 ≤ x14_3
                    ·rw [if_pos c95] at H
                     have c95b0 : decide (0 ≤ x14_3) = true := decide_eq_true c95
                     clear c95
                     (first | rw [c95b0] | (simp only [i64_w, i32_w]; rw [c95b0]) | skip)
                     by_cases c96 : x14_3 < (t167.length : Int)
                     ·rw [if_pos c96] at H
                      have c96b0 : decide (x14_3 < (t167.length : Int)) = true := decide_eq_true c96
                      clear c96
                      replace H := Option.bind_eq_some_iff.mp H
                      obtain ⟨t179, A970, H⟩ := H
                      replace H : (if t179 = true then (if t177 = true then (waymarklaw07_LexPlaces.j9 kj82 a0 t172 t167 x14_3 false) else (waymarklaw07_LexPlaces.j9 kj82 a0 t172 t167 x14_3 (((rd_T64 t167 x14_3).f1).toList == ([] : List UInt8)))) else (none)) = some r := H
                      have A97 := Aside0.mk A970
                      clear A970
                      by_cases c98 : t179 = true
                      ·subst c98
                       have H1 : (if t177 = true then (waymarklaw07_LexPlaces.j9 kj82 a0 t172 t167 x14_3 false) else (waymarklaw07_LexPlaces.j9 kj82 a0 t172 t167 x14_3 (((rd_T64 t167 x14_3).f1).toList == ([] : List UInt8)))) = some r := by rw [if_pos rfl] at H; exact H
                       clear H
                       have H := H1
                       clear H1
                       by_cases c99 : t177 = true
                       ·subst c99
                        have H1 : (waymarklaw07_LexPlaces.j9 kj82 a0 t172 t167 x14_3 false) = some r := by rw [if_pos rfl] at H; exact H
                        clear H
                        have H := H1
                        clear H1
                        as_aux_lemma =>
                         have H' := Aside0.mk H
                         clear H
                         try go_wp2
                         have n0_ := Aside0.mk (Kd.R_drew HO_11.out)
                         have n1_ := Aside0.mk (blk_drew BK153.out)
                         have n2_ := Aside0.mk (blk_drew BK173.out)
                         have n3_ := Aside0.mk (blk_drew BK174.out)
                         have n4_ := Aside0.mk (blk_drew BK176.out)
                         have n5_ := Aside0.mk (below_drew1 HB.out)
                         clear HO_11
                         clear BK153
                         clear BK173
                         clear BK174
                         clear BK176
                         clear HB
                         have HO_11 := n0_
                         have BK153 := n1_
                         have BK173 := n2_
                         have BK174 := n3_
                         have BK176 := n4_
                         have HB := n5_
                         clear n0_ n1_ n2_ n3_ n4_ n5_
                         have p178 : 0 ≤ (x14_3 : Int) := of_decide_eq_true (by first | (with_reducible assumption) | assumption)
                         have q178 : x14_3 < (t167.length : Int) := of_decide_eq_true (by first | (with_reducible assumption) | assumption)
                         obtain ⟨ad178, e178, hx178_0, hx178_1, hx178_2, hx178_3⟩ := at_T64 (Kd.R_reads' HO_11.out).2.2 x14_3 p178 q178
                         obtain rfl : ad175 = ad178 := (by injection e178)
                         replace p178 := eq_true p178
                         replace q178 := eq_true q178
                         refine start_ (n := 21) (S := fun w' => w'.cell? ⟨gb176, 0, none⟩ = some (.int .i64 ((rd_T64 t167 x14_3).f2.f0)) ∧ w'.cell? ⟨gb176, 1, none⟩ = some (.int .i64 x177001_82) ∧ w'.cell? (ad175.add ((x14_3).toNat * 4)) = some (.int .u8 ((rd_T64 t167 x14_3).f0)) ∧ w'.cell? ⟨(ad175.add ((x14_3).toNat * 4)).block, (ad175.add ((x14_3).toNat * 4)).off + 1, none⟩ = some (.string ((rd_T64 t167 x14_3).f1)) ∧ w'.cell? ⟨(ad175.add ((x14_3).toNat * 4)).block, (ad175.add ((x14_3).toNat * 4)).off + 2, none⟩ = some (.int .i64 ((rd_T64 t167 x14_3).f2.f0)) ∧ w'.cell? ⟨(ad175.add ((x14_3).toNat * 4)).block, (ad175.add ((x14_3).toNat * 4)).off + 3, none⟩ = some (.int .i64 ((rd_T64 t167 x14_3).f2.f1))) (ds := []) #[false, false, false, false, false, false, false, false, false, false, false, false, false, false, false, false, false, false, false, false, false] (by kernel_rfl) rfl rfl ⟨(blk_cell BK176.out 0).trans rfl, (blk_cell BK176.out 1).trans rfl, hx178_0, hx178_1, hx178_2, hx178_3⟩ (fun hHeld => ?_); refine with_tabW waymarklaw07_LexPlaces.tab30 waymarklaw07_LexPlaces.bits30 (fun HT_ HW_ => ?_)
                         generalize wc.drew = w100 at HO_11 BK153 BK173 BK174 BK176 HB hx178_0 hx178_1 hx178_2 hx178_3 hHeld ⊢
                         refine pure_ (i := 0) (N := some 181) (v := ?_) (a' := ?_) #[true, false, false, false, false, false, false, false, false, false, false, false, false, false, false, false, false, false, false, false, false] rfl rfl (any_of HT_.out (by kernel_rfl)) (fun _ _ _ h => h) (Or.inl ⟨by rfl, ?_⟩) ?_ ?_
                         rotate_left
                         ·intro w'
                          go_simp
                          with_reducible rfl
                         rotate_left
                         ·simp only [Act.put, List.setIfInBounds_toArray, List.set_cons_zero, List.set_cons_succ, i64_w, i32_w]
                          rfl
                         refine pure_ (i := 1) (N := some 182) (v := ?_) (a' := ?_) #[true, true, false, false, false, false, false, false, false, false, false, false, false, false, false, false, false, false, false, false, false] rfl rfl (any_of HT_.out (by kernel_rfl)) (fun _ _ _ h => h) (Or.inl ⟨by rfl, ?_⟩) ?_ ?_
                         rotate_left
                         ·intro w'
                          go_simp
                          with_reducible rfl
                         rotate_left
                         ·simp only [Act.put, List.setIfInBounds_toArray, List.set_cons_zero, List.set_cons_succ, i64_w, i32_w]
                          rfl
                         refine pure_ (i := 2) (N := some 183) (v := ?_) (a' := ?_) #[true, true, true, false, false, false, false, false, false, false, false, false, false, false, false, false, false, false, false, false, false] rfl rfl (any_of HT_.out (by kernel_rfl)) (fun _ _ _ h => h) (Or.inl ⟨by rfl, ?_⟩) ?_ ?_
                         rotate_left
                         ·intro w'
                          go_simp
                          with_reducible rfl
                         rotate_left
                         ·simp only [Act.put, List.setIfInBounds_toArray, List.set_cons_zero, List.set_cons_succ, i64_w, i32_w]
                          rfl
                         refine pure_ (i := 3) (N := some 184) (v := ?_) (a' := ?_) #[true, true, true, true, false, false, false, false, false, false, false, false, false, false, false, false, false, false, false, false, false] rfl rfl (any_of HT_.out (by kernel_rfl)) (fun _ _ _ h => h) (Or.inl ⟨by rfl, ?_⟩) ?_ ?_
                         rotate_left
                         ·intro w'
                          go_simp
                          with_reducible rfl
                         rotate_left
                         ·simp only [Act.put, List.setIfInBounds_toArray, List.set_cons_zero, List.set_cons_succ, i64_w, i32_w]
                          rfl
                         refine pure_ (i := 4) (N := some 185) (v := ?_) (a' := ?_) #[true, true, true, true, true, false, false, false, false, false, false, false, false, false, false, false, false, false, false, false, false] rfl rfl (any_of HT_.out (by kernel_rfl)) (fun _ _ _ h => h) (Or.inl ⟨by rfl, ?_⟩) ?_ ?_
                         rotate_left
                         ·intro w'
                          go_simp
                          with_reducible rfl
                         rotate_left
                         ·simp only [Act.put, List.setIfInBounds_toArray, List.set_cons_zero, List.set_cons_succ, i64_w, i32_w]
                          rfl
                         refine take_ (i := 5) (N := some 186) (v := ?_) (a' := ?_) #[true, true, true, true, true, true, false, false, false, false, false, false, false, false, false, false, false, false, false, false, false] rfl rfl (take_ofW HT_.out HW_.out (by kernel_rfl)) (fun _ _ _ h => h) (Or.inl ⟨by rfl, ?_⟩) hHeld ?_ ?_
                         rotate_left
                         ·rintro w' ⟨s0, s1, s2, s3, s4, s5⟩
                          go_simp
                          with_reducible rfl
                         rotate_left
                         ·simp only [Act.put, List.setIfInBounds_toArray, List.set_cons_zero, List.set_cons_succ, i64_w, i32_w]
                          rfl
                         refine take_ (i := 6) (N := some 187) (v := ?_) (a' := ?_) #[true, true, true, true, true, true, true, false, false, false, false, false, false, false, false, false, false, false, false, false, false] rfl rfl (take_ofW HT_.out HW_.out (by kernel_rfl)) (fun _ _ _ h => h) (Or.inl ⟨by rfl, ?_⟩) hHeld ?_ ?_
                         rotate_left
                         ·rintro w' ⟨s0, s1, s2, s3, s4, s5⟩
                          go_simp
                          with_reducible rfl
                         rotate_left
                         ·simp only [Act.put, List.setIfInBounds_toArray, List.set_cons_zero, List.set_cons_succ, i64_w, i32_w]
                          rfl
                         refine one_ (i := 7) (N := some 188) #[true, true, true, true, true, true, true, true, false, false, false, false, false, false, false, false, false, false, false, false, false] rfl rfl (one_of HT_.out (by kernel_rfl)) (by decide) (fun K hK => ?_)
                         refine goes_ Tryd.func30 (by kernel_rfl) rfl #[.string a0, .string ((rd_T64 t167 x14_3).f1), .agg #[.int .i64 ((rd_T64 t167 x14_3).f2.f0), .int .i64 x177001_82]] (by rfl) rfl rfl (by (try simp only [List.map_toArray, List.map_cons, List.map_nil]); first | done | rfl | (simp only [List.length_drop, List.length_take]; rfl)) ?_
                         with_reducible refine (waymarklaw07_stands.calls kj82 a0 ((rd_T64 t167 x14_3).f1) ((rd_T64 t167 x14_3).f2.f0) x177001_82 true _ A97.out).mono ?_
                         rintro e w101 ⟨rfl, hb⟩
                         have HS2_ := (hb.cell (World.block_lt_of_cell? _ _ (hHeld.2.2.1))).trans (hHeld.2.2.1)
                         have HS3_ := (hb.cell (World.block_lt_of_cell? _ _ (hHeld.2.2.2.1))).trans (hHeld.2.2.2.1)
                         have HS4_ := (hb.cell (World.block_lt_of_cell? _ _ (hHeld.2.2.2.2.1))).trans (hHeld.2.2.2.2.1)
                         have HS5_ := (hb.cell (World.block_lt_of_cell? _ _ (hHeld.2.2.2.2.2))).trans (hHeld.2.2.2.2.2)
                         refine ⟨_, rfl, ?_⟩
                         have n0_ := Aside0.mk (Kd.R_below (by (with_reducible repeat (first | apply Kd.R_alloc | apply Kd.R_drewN | apply Kd.R_drew)); exact HO_11.out) hb)
                         have n1_ := Aside0.mk (blk_below (g := gb153) (o := .cells #[.int .i64 t150, .int .i64 t151] 24 (0, 0)) (by (with_reducible repeat (first | refine blk_drewN ?_ _ | refine blk_drew ?_ | refine blk_alloc ?_ _)); exact BK153.out) hb)
                         have n2_ := Aside0.mk (blk_below (g := gb173) (o := .cells #[.int .i64 t170, .int .i64 t171] 24 (0, 0)) (by (with_reducible repeat (first | refine blk_drewN ?_ _ | refine blk_drew ?_ | refine blk_alloc ?_ _)); exact BK173.out) hb)
                         have n3_ := Aside0.mk (blk_below (g := gb174) (o := .cells #[.int .i64 x175000_3, .int .i64 x175001_3] 24 (0, 0)) (by (with_reducible repeat (first | refine blk_drewN ?_ _ | refine blk_drew ?_ | refine blk_alloc ?_ _)); exact BK174.out) hb)
                         have n4_ := Aside0.mk (blk_below (g := gb176) (o := .cells #[.int .i64 ((rd_T64 t167 x14_3).f2.f0), .int .i64 x177001_82] 24 (0, 0)) (by (with_reducible repeat (first | refine blk_drewN ?_ _ | refine blk_drew ?_ | refine blk_alloc ?_ _)); exact BK176.out) hb)
                         have n5_ := Aside0.mk (below_step (by repeat (first | (with_reducible first | exact HB.out | apply below_alloc | apply pw_below_drewN | apply below_drew1 | refine below_set ?_ GE153.out | refine below_set ?_ GE173.out | refine below_set ?_ GE174.out | refine below_set ?_ GE176.out) | exact HB.out)) hb)
                         clear HO_11
                         clear BK153
                         clear BK173
                         clear BK174
                         clear BK176
                         clear HB
                         have HO_11 := n0_
                         have BK153 := n1_
                         have BK173 := n2_
                         have BK174 := n3_
                         have BK176 := n4_
                         have HB := n5_
                         clear n0_ n1_ n2_ n3_ n4_ n5_
                         (try clear hb)
                         (try clear hb2)
                         (try clear hk)
                         (try clear hi)
                         refine hK.out _ _ ⟨(blk_cell BK176.out 0).trans rfl, (blk_cell BK176.out 1).trans rfl, HS2_, HS3_, HS4_, HS5_⟩ (fun hHeld => ?_)
                         clear hK K
                         refine norm_ (a' := ?_) ?_ ?_
                         rotate_left
                         ·show Act.put _ (some 188) _ = _
                          simp only [Act.put, List.setIfInBounds_toArray, List.set_cons_zero, List.set_cons_succ, i64_w, i32_w]
                          rfl
                         refine pure_ (i := 8) (N := some 189) (v := ?_) (a' := ?_) #[true, true, true, true, true, true, true, true, true, false, false, false, false, false, false, false, false, false, false, false, false] rfl rfl (any_of HT_.out (by kernel_rfl)) (fun _ _ _ h => h) (Or.inl ⟨by rfl, ?_⟩) ?_ ?_
                         rotate_left
                         ·intro w'
                          go_simp
                          with_reducible rfl
                         rotate_left
                         ·simp only [Act.put, List.setIfInBounds_toArray, List.set_cons_zero, List.set_cons_succ, i64_w, i32_w]
                          rfl
                         refine pure_ (i := 9) (N := some 190) (v := ?_) (a' := ?_) #[true, true, true, true, true, true, true, true, true, true, false, false, false, false, false, false, false, false, false, false, false] rfl rfl (any_of HT_.out (by kernel_rfl)) (fun _ _ _ h => h) (Or.inl ⟨by rfl, ?_⟩) ?_ ?_
                         rotate_left
                         ·intro w'
                          go_simp
                          with_reducible rfl
                         rotate_left
                         ·simp only [Act.put, List.setIfInBounds_toArray, List.set_cons_zero, List.set_cons_succ, i64_w, i32_w]
                          rfl
                         refine pure_ (i := 10) (N := some 191) (v := ?_) (a' := ?_) #[true, true, true, true, true, true, true, true, true, true, true, false, false, false, false, false, false, false, false, false, false] rfl rfl (any_of HT_.out (by kernel_rfl)) (fun _ _ _ h => h) (Or.inl ⟨by rfl, ?_⟩) ?_ ?_
                         rotate_left
                         ·intro w'
                          go_simp
                          with_reducible rfl
                         rotate_left
                         ·simp only [Act.put, List.setIfInBounds_toArray, List.set_cons_zero, List.set_cons_succ, i64_w, i32_w]
                          rfl
                         refine pure_ (i := 11) (N := some 192) (v := ?_) (a' := ?_) #[true, true, true, true, true, true, true, true, true, true, true, true, false, false, false, false, false, false, false, false, false] rfl rfl (any_of HT_.out (by kernel_rfl)) (fun _ _ _ h => h) (Or.inl ⟨by rfl, ?_⟩) ?_ ?_
                         rotate_left
                         ·intro w'
                          go_simp
                          with_reducible rfl
                         rotate_left
                         ·simp only [Act.put, List.setIfInBounds_toArray, List.set_cons_zero, List.set_cons_succ, i64_w, i32_w]
                          rfl
                         refine pure_ (i := 12) (N := some 193) (v := ?_) (a' := ?_) #[true, true, true, true, true, true, true, true, true, true, true, true, true, false, false, false, false, false, false, false, false] rfl rfl (any_of HT_.out (by kernel_rfl)) (fun _ _ _ h => h) (Or.inl ⟨by rfl, ?_⟩) ?_ ?_
                         rotate_left
                         ·intro w'
                          go_simp
                          with_reducible rfl
                         rotate_left
                         ·simp only [Act.put, List.setIfInBounds_toArray, List.set_cons_zero, List.set_cons_succ, i64_w, i32_w]
                          rfl
                         refine pure_ (i := 13) (N := some 194) (v := undef) (a' := ?_) #[true, true, true, true, true, true, true, true, true, true, true, true, true, true, false, false, false, false, false, false, false] rfl rfl (any_of HT_.out (by kernel_rfl)) (fun _ _ _ h => h) (Or.inr ⟨by rfl, rfl⟩) ?_ ?_
                         rotate_left
                         ·simp only [Act.put, List.setIfInBounds_toArray, List.set_cons_zero, List.set_cons_succ, i64_w, i32_w]
                          rfl
                         refine pure_ (i := 14) (N := some 195) (v := undef) (a' := ?_) #[true, true, true, true, true, true, true, true, true, true, true, true, true, true, true, false, false, false, false, false, false] rfl rfl (any_of HT_.out (by kernel_rfl)) (fun _ _ _ h => h) (Or.inr ⟨by rfl, rfl⟩) ?_ ?_
                         rotate_left
                         ·simp only [Act.put, List.setIfInBounds_toArray, List.set_cons_zero, List.set_cons_succ, i64_w, i32_w]
                          rfl
                         refine pure_ (i := 15) (N := some 196) (v := undef) (a' := ?_) #[true, true, true, true, true, true, true, true, true, true, true, true, true, true, true, true, false, false, false, false, false] rfl rfl (any_of HT_.out (by kernel_rfl)) (fun _ _ _ h => h) (Or.inr ⟨by rfl, rfl⟩) ?_ ?_
                         rotate_left
                         ·simp only [Act.put, List.setIfInBounds_toArray, List.set_cons_zero, List.set_cons_succ, i64_w, i32_w]
                          rfl
                         refine pure_ (i := 16) (N := some 197) (v := undef) (a' := ?_) #[true, true, true, true, true, true, true, true, true, true, true, true, true, true, true, true, true, false, false, false, false] rfl rfl (any_of HT_.out (by kernel_rfl)) (fun _ _ _ h => h) (Or.inr ⟨by rfl, rfl⟩) ?_ ?_
                         rotate_left
                         ·simp only [Act.put, List.setIfInBounds_toArray, List.set_cons_zero, List.set_cons_succ, i64_w, i32_w]
                          rfl
                         refine pure_ (i := 17) (N := some 198) (v := undef) (a' := ?_) #[true, true, true, true, true, true, true, true, true, true, true, true, true, true, true, true, true, true, false, false, false] rfl rfl (any_of HT_.out (by kernel_rfl)) (fun _ _ _ h => h) (Or.inr ⟨by rfl, rfl⟩) ?_ ?_
                         rotate_left
                         ·simp only [Act.put, List.setIfInBounds_toArray, List.set_cons_zero, List.set_cons_succ, i64_w, i32_w]
                          rfl
                         refine pure_ (i := 18) (N := some 199) (v := undef) (a' := ?_) #[true, true, true, true, true, true, true, true, true, true, true, true, true, true, true, true, true, true, true, false, false] rfl rfl (any_of HT_.out (by kernel_rfl)) (fun _ _ _ h => h) (Or.inr ⟨by rfl, rfl⟩) ?_ ?_
                         rotate_left
                         ·simp only [Act.put, List.setIfInBounds_toArray, List.set_cons_zero, List.set_cons_succ, i64_w, i32_w]
                          rfl
                         refine pure_ (i := 19) (N := some 200) (v := ?_) (a' := ?_) #[true, true, true, true, true, true, true, true, true, true, true, true, true, true, true, true, true, true, true, true, false] rfl rfl (any_of HT_.out (by kernel_rfl)) (fun _ _ _ h => h) (Or.inl ⟨by rfl, ?_⟩) ?_ ?_
                         rotate_left
                         ·intro w'
                          go_simp
                          with_reducible rfl
                         rotate_left
                         ·simp only [Act.put, List.setIfInBounds_toArray, List.set_cons_zero, List.set_cons_succ, i64_w, i32_w]
                          rfl
                         refine pure_ (i := 20) (N := some 201) (v := ?_) (a' := ?_) #[true, true, true, true, true, true, true, true, true, true, true, true, true, true, true, true, true, true, true, true, true] rfl rfl (any_of HT_.out (by kernel_rfl)) (fun _ _ _ h => h) (Or.inl ⟨by rfl, ?_⟩) ?_ ?_
                         rotate_left
                         ·intro w'
                          go_simp
                          with_reducible rfl
                         rotate_left
                         ·simp only [Act.put, List.setIfInBounds_toArray, List.set_cons_zero, List.set_cons_succ, i64_w, i32_w]
                          rfl
                         refine done_ (done_of HT_.out (by kernel_rfl)) ?_
                         try go_wp2
                         go_meet
                         case rel => exact ⟨_, (false), (by first | rfl | (simp; done) | (simp [*]; done)), H', ⟨by have := HK1.out; have := HJ8.out; have := HK3.out; have := HJ50.out; have := HJ57.out; have := HJ82.out; first | omega | exact Nat.le_refl _⟩, ⟨by (with_reducible repeat (first | apply Kd.R_alloc | apply Kd.R_drewN | apply Kd.R_drew)); exact HO_11.out⟩, ⟨by (with_reducible repeat (first | refine blk_drewN ?_ _ | refine blk_drew ?_ | refine blk_alloc ?_ _)); exact BK153.out⟩, ⟨by (with_reducible repeat (first | refine blk_drewN ?_ _ | refine blk_drew ?_ | refine blk_alloc ?_ _)); exact BK173.out⟩, ⟨by (with_reducible repeat (first | refine blk_drewN ?_ _ | refine blk_drew ?_ | refine blk_alloc ?_ _)); exact BK174.out⟩, ⟨by (with_reducible repeat (first | refine blk_drewN ?_ _ | refine blk_drew ?_ | refine blk_alloc ?_ _)); exact BK176.out⟩, ⟨by repeat (first | (with_reducible first | exact HB.out | apply below_alloc | apply pw_below_drewN | apply below_drew1 | refine below_set ?_ GE153.out | refine below_set ?_ GE173.out | refine below_set ?_ GE174.out | refine below_set ?_ GE176.out) | exact HB.out)⟩⟩
                       ·replace c99 := Bool.eq_false_iff.mpr c99
                        subst c99
                        have H1 : (waymarklaw07_LexPlaces.j9 kj82 a0 t172 t167 x14_3 (((rd_T64 t167 x14_3).f1).toList == ([] : List UInt8))) = some r := by rw [if_neg (show ¬ (false = true) by decide)] at H; exact H
                        clear H
                        have H := H1
                        clear H1
                        as_aux_lemma =>
                         have H' := Aside0.mk H
                         clear H
                         try go_wp2
                         have n0_ := Aside0.mk (Kd.R_drew HO_11.out)
                         have n1_ := Aside0.mk (blk_drew BK153.out)
                         have n2_ := Aside0.mk (blk_drew BK173.out)
                         have n3_ := Aside0.mk (blk_drew BK174.out)
                         have n4_ := Aside0.mk (blk_drew BK176.out)
                         have n5_ := Aside0.mk (below_drew1 HB.out)
                         clear HO_11
                         clear BK153
                         clear BK173
                         clear BK174
                         clear BK176
                         clear HB
                         have HO_11 := n0_
                         have BK153 := n1_
                         have BK173 := n2_
                         have BK174 := n3_
                         have BK176 := n4_
                         have HB := n5_
                         clear n0_ n1_ n2_ n3_ n4_ n5_
                         have p178 : 0 ≤ (x14_3 : Int) := of_decide_eq_true (by first | (with_reducible assumption) | assumption)
                         have q178 : x14_3 < (t167.length : Int) := of_decide_eq_true (by first | (with_reducible assumption) | assumption)
                         obtain ⟨ad178, e178, hx178_0, hx178_1, hx178_2, hx178_3⟩ := at_T64 (Kd.R_reads' HO_11.out).2.2 x14_3 p178 q178
                         obtain rfl : ad175 = ad178 := (by injection e178)
                         replace p178 := eq_true p178
                         replace q178 := eq_true q178
                         have p180 : 0 ≤ (x14_3 : Int) := of_decide_eq_true (by first | (with_reducible assumption) | assumption)
                         have q180 : x14_3 < (t167.length : Int) := of_decide_eq_true (by first | (with_reducible assumption) | assumption)
                         obtain ⟨ad180, e180, hx180_0, hx180_1, hx180_2, hx180_3⟩ := at_T64 (Kd.R_reads' HO_11.out).2.2 x14_3 p180 q180
                         obtain rfl : ad175 = ad180 := (by injection e180)
                         replace p180 := eq_true p180
                         replace q180 := eq_true q180
                         refine start_ (n := 21) (S := fun w' => w'.cell? ⟨gb176, 0, none⟩ = some (.int .i64 ((rd_T64 t167 x14_3).f2.f0)) ∧ w'.cell? ⟨gb176, 1, none⟩ = some (.int .i64 x177001_82) ∧ w'.cell? (ad175.add ((x14_3).toNat * 4)) = some (.int .u8 ((rd_T64 t167 x14_3).f0)) ∧ w'.cell? ⟨(ad175.add ((x14_3).toNat * 4)).block, (ad175.add ((x14_3).toNat * 4)).off + 1, none⟩ = some (.string ((rd_T64 t167 x14_3).f1)) ∧ w'.cell? ⟨(ad175.add ((x14_3).toNat * 4)).block, (ad175.add ((x14_3).toNat * 4)).off + 2, none⟩ = some (.int .i64 ((rd_T64 t167 x14_3).f2.f0)) ∧ w'.cell? ⟨(ad175.add ((x14_3).toNat * 4)).block, (ad175.add ((x14_3).toNat * 4)).off + 3, none⟩ = some (.int .i64 ((rd_T64 t167 x14_3).f2.f1)) ∧ w'.cell? (ad175.add ((x14_3).toNat * 4)) = some (.int .u8 ((rd_T64 t167 x14_3).f0)) ∧ w'.cell? ⟨(ad175.add ((x14_3).toNat * 4)).block, (ad175.add ((x14_3).toNat * 4)).off + 1, none⟩ = some (.string ((rd_T64 t167 x14_3).f1)) ∧ w'.cell? ⟨(ad175.add ((x14_3).toNat * 4)).block, (ad175.add ((x14_3).toNat * 4)).off + 2, none⟩ = some (.int .i64 ((rd_T64 t167 x14_3).f2.f0)) ∧ w'.cell? ⟨(ad175.add ((x14_3).toNat * 4)).block, (ad175.add ((x14_3).toNat * 4)).off + 3, none⟩ = some (.int .i64 ((rd_T64 t167 x14_3).f2.f1))) (ds := []) #[false, false, false, false, false, false, false, false, false, false, false, false, false, false, false, false, false, false, false, false, false] (by kernel_rfl) rfl rfl ⟨(blk_cell BK176.out 0).trans rfl, (blk_cell BK176.out 1).trans rfl, hx178_0, hx178_1, hx178_2, hx178_3, hx180_0, hx180_1, hx180_2, hx180_3⟩ (fun hHeld => ?_); refine with_tabW waymarklaw07_LexPlaces.tab30 waymarklaw07_LexPlaces.bits30 (fun HT_ HW_ => ?_)
                         generalize wc.drew = w102 at HO_11 BK153 BK173 BK174 BK176 HB hx178_0 hx178_1 hx178_2 hx178_3 hx180_0 hx180_1 hx180_2 hx180_3 hHeld ⊢
                         refine pure_ (i := 0) (N := some 181) (v := ?_) (a' := ?_) #[true, false, false, false, false, false, false, false, false, false, false, false, false, false, false, false, false, false, false, false, false] rfl rfl (any_of HT_.out (by kernel_rfl)) (fun _ _ _ h => h) (Or.inl ⟨by rfl, ?_⟩) ?_ ?_
                         rotate_left
                         ·intro w'
                          go_simp
                          with_reducible rfl
                         rotate_left
                         ·simp only [Act.put, List.setIfInBounds_toArray, List.set_cons_zero, List.set_cons_succ, i64_w, i32_w]
                          rfl
                         refine pure_ (i := 1) (N := some 182) (v := ?_) (a' := ?_) #[true, true, false, false, false, false, false, false, false, false, false, false, false, false, false, false, false, false, false, false, false] rfl rfl (any_of HT_.out (by kernel_rfl)) (fun _ _ _ h => h) (Or.inl ⟨by rfl, ?_⟩) ?_ ?_
                         rotate_left
                         ·intro w'
                          go_simp
                          with_reducible rfl
                         rotate_left
                         ·simp only [Act.put, List.setIfInBounds_toArray, List.set_cons_zero, List.set_cons_succ, i64_w, i32_w]
                          rfl
                         refine pure_ (i := 2) (N := some 183) (v := ?_) (a' := ?_) #[true, true, true, false, false, false, false, false, false, false, false, false, false, false, false, false, false, false, false, false, false] rfl rfl (any_of HT_.out (by kernel_rfl)) (fun _ _ _ h => h) (Or.inl ⟨by rfl, ?_⟩) ?_ ?_
                         rotate_left
                         ·intro w'
                          go_simp
                          with_reducible rfl
                         rotate_left
                         ·simp only [Act.put, List.setIfInBounds_toArray, List.set_cons_zero, List.set_cons_succ, i64_w, i32_w]
                          rfl
                         refine pure_ (i := 3) (N := some 184) (v := ?_) (a' := ?_) #[true, true, true, true, false, false, false, false, false, false, false, false, false, false, false, false, false, false, false, false, false] rfl rfl (any_of HT_.out (by kernel_rfl)) (fun _ _ _ h => h) (Or.inl ⟨by rfl, ?_⟩) ?_ ?_
                         rotate_left
                         ·intro w'
                          go_simp
                          with_reducible rfl
                         rotate_left
                         ·simp only [Act.put, List.setIfInBounds_toArray, List.set_cons_zero, List.set_cons_succ, i64_w, i32_w]
                          rfl
                         refine pure_ (i := 4) (N := some 185) (v := ?_) (a' := ?_) #[true, true, true, true, true, false, false, false, false, false, false, false, false, false, false, false, false, false, false, false, false] rfl rfl (any_of HT_.out (by kernel_rfl)) (fun _ _ _ h => h) (Or.inl ⟨by rfl, ?_⟩) ?_ ?_
                         rotate_left
                         ·intro w'
                          go_simp
                          with_reducible rfl
                         rotate_left
                         ·simp only [Act.put, List.setIfInBounds_toArray, List.set_cons_zero, List.set_cons_succ, i64_w, i32_w]
                          rfl
                         refine take_ (i := 5) (N := some 186) (v := ?_) (a' := ?_) #[true, true, true, true, true, true, false, false, false, false, false, false, false, false, false, false, false, false, false, false, false] rfl rfl (take_ofW HT_.out HW_.out (by kernel_rfl)) (fun _ _ _ h => h) (Or.inl ⟨by rfl, ?_⟩) hHeld ?_ ?_
                         rotate_left
                         ·rintro w' ⟨s0, s1, s2, s3, s4, s5, s6, s7, s8, s9⟩
                          go_simp
                          with_reducible rfl
                         rotate_left
                         ·simp only [Act.put, List.setIfInBounds_toArray, List.set_cons_zero, List.set_cons_succ, i64_w, i32_w]
                          rfl
                         refine take_ (i := 6) (N := some 187) (v := ?_) (a' := ?_) #[true, true, true, true, true, true, true, false, false, false, false, false, false, false, false, false, false, false, false, false, false] rfl rfl (take_ofW HT_.out HW_.out (by kernel_rfl)) (fun _ _ _ h => h) (Or.inl ⟨by rfl, ?_⟩) hHeld ?_ ?_
                         rotate_left
                         ·rintro w' ⟨s0, s1, s2, s3, s4, s5, s6, s7, s8, s9⟩
                          go_simp
                          with_reducible rfl
                         rotate_left
                         ·simp only [Act.put, List.setIfInBounds_toArray, List.set_cons_zero, List.set_cons_succ, i64_w, i32_w]
                          rfl
                         refine one_ (i := 7) (N := some 188) #[true, true, true, true, true, true, true, true, false, false, false, false, false, false, false, false, false, false, false, false, false] rfl rfl (one_of HT_.out (by kernel_rfl)) (by decide) (fun K hK => ?_)
                         refine goes_ Tryd.func30 (by kernel_rfl) rfl #[.string a0, .string ((rd_T64 t167 x14_3).f1), .agg #[.int .i64 ((rd_T64 t167 x14_3).f2.f0), .int .i64 x177001_82]] (by rfl) rfl rfl (by (try simp only [List.map_toArray, List.map_cons, List.map_nil]); first | done | rfl | (simp only [List.length_drop, List.length_take]; rfl)) ?_
                         with_reducible refine (waymarklaw07_stands.calls kj82 a0 ((rd_T64 t167 x14_3).f1) ((rd_T64 t167 x14_3).f2.f0) x177001_82 true _ A97.out).mono ?_
                         rintro e w103 ⟨rfl, hb⟩
                         have HS2_ := (hb.cell (World.block_lt_of_cell? _ _ (hHeld.2.2.1))).trans (hHeld.2.2.1)
                         have HS3_ := (hb.cell (World.block_lt_of_cell? _ _ (hHeld.2.2.2.1))).trans (hHeld.2.2.2.1)
                         have HS4_ := (hb.cell (World.block_lt_of_cell? _ _ (hHeld.2.2.2.2.1))).trans (hHeld.2.2.2.2.1)
                         have HS5_ := (hb.cell (World.block_lt_of_cell? _ _ (hHeld.2.2.2.2.2.1))).trans (hHeld.2.2.2.2.2.1)
                         have HS6_ := (hb.cell (World.block_lt_of_cell? _ _ (hHeld.2.2.2.2.2.2.1))).trans (hHeld.2.2.2.2.2.2.1)
                         have HS7_ := (hb.cell (World.block_lt_of_cell? _ _ (hHeld.2.2.2.2.2.2.2.1))).trans (hHeld.2.2.2.2.2.2.2.1)
                         have HS8_ := (hb.cell (World.block_lt_of_cell? _ _ (hHeld.2.2.2.2.2.2.2.2.1))).trans (hHeld.2.2.2.2.2.2.2.2.1)
                         have HS9_ := (hb.cell (World.block_lt_of_cell? _ _ (hHeld.2.2.2.2.2.2.2.2.2))).trans (hHeld.2.2.2.2.2.2.2.2.2)
                         refine ⟨_, rfl, ?_⟩
                         have n0_ := Aside0.mk (Kd.R_below (by (with_reducible repeat (first | apply Kd.R_alloc | apply Kd.R_drewN | apply Kd.R_drew)); exact HO_11.out) hb)
                         have n1_ := Aside0.mk (blk_below (g := gb153) (o := .cells #[.int .i64 t150, .int .i64 t151] 24 (0, 0)) (by (with_reducible repeat (first | refine blk_drewN ?_ _ | refine blk_drew ?_ | refine blk_alloc ?_ _)); exact BK153.out) hb)
                         have n2_ := Aside0.mk (blk_below (g := gb173) (o := .cells #[.int .i64 t170, .int .i64 t171] 24 (0, 0)) (by (with_reducible repeat (first | refine blk_drewN ?_ _ | refine blk_drew ?_ | refine blk_alloc ?_ _)); exact BK173.out) hb)
                         have n3_ := Aside0.mk (blk_below (g := gb174) (o := .cells #[.int .i64 x175000_3, .int .i64 x175001_3] 24 (0, 0)) (by (with_reducible repeat (first | refine blk_drewN ?_ _ | refine blk_drew ?_ | refine blk_alloc ?_ _)); exact BK174.out) hb)
                         have n4_ := Aside0.mk (blk_below (g := gb176) (o := .cells #[.int .i64 ((rd_T64 t167 x14_3).f2.f0), .int .i64 x177001_82] 24 (0, 0)) (by (with_reducible repeat (first | refine blk_drewN ?_ _ | refine blk_drew ?_ | refine blk_alloc ?_ _)); exact BK176.out) hb)
                         have n5_ := Aside0.mk (below_step (by repeat (first | (with_reducible first | exact HB.out | apply below_alloc | apply pw_below_drewN | apply below_drew1 | refine below_set ?_ GE153.out | refine below_set ?_ GE173.out | refine below_set ?_ GE174.out | refine below_set ?_ GE176.out) | exact HB.out)) hb)
                         clear HO_11
                         clear BK153
                         clear BK173
                         clear BK174
                         clear BK176
                         clear HB
                         have HO_11 := n0_
                         have BK153 := n1_
                         have BK173 := n2_
                         have BK174 := n3_
                         have BK176 := n4_
                         have HB := n5_
                         clear n0_ n1_ n2_ n3_ n4_ n5_
                         (try clear hb)
                         (try clear hb2)
                         (try clear hk)
                         (try clear hi)
                         refine hK.out _ _ ⟨(blk_cell BK176.out 0).trans rfl, (blk_cell BK176.out 1).trans rfl, HS2_, HS3_, HS4_, HS5_, HS6_, HS7_, HS8_, HS9_⟩ (fun hHeld => ?_)
                         clear hK K
                         refine norm_ (a' := ?_) ?_ ?_
                         rotate_left
                         ·show Act.put _ (some 188) _ = _
                          simp only [Act.put, List.setIfInBounds_toArray, List.set_cons_zero, List.set_cons_succ, i64_w, i32_w]
                          rfl
                         refine pure_ (i := 8) (N := some 189) (v := ?_) (a' := ?_) #[true, true, true, true, true, true, true, true, true, false, false, false, false, false, false, false, false, false, false, false, false] rfl rfl (any_of HT_.out (by kernel_rfl)) (fun _ _ _ h => h) (Or.inl ⟨by rfl, ?_⟩) ?_ ?_
                         rotate_left
                         ·intro w'
                          go_simp
                          with_reducible rfl
                         rotate_left
                         ·simp only [Act.put, List.setIfInBounds_toArray, List.set_cons_zero, List.set_cons_succ, i64_w, i32_w]
                          rfl
                         refine pure_ (i := 9) (N := some 190) (v := ?_) (a' := ?_) #[true, true, true, true, true, true, true, true, true, true, false, false, false, false, false, false, false, false, false, false, false] rfl rfl (any_of HT_.out (by kernel_rfl)) (fun _ _ _ h => h) (Or.inl ⟨by rfl, ?_⟩) ?_ ?_
                         rotate_left
                         ·intro w'
                          go_simp
                          with_reducible rfl
                         rotate_left
                         ·simp only [Act.put, List.setIfInBounds_toArray, List.set_cons_zero, List.set_cons_succ, i64_w, i32_w]
                          rfl
                         refine pure_ (i := 10) (N := some 191) (v := ?_) (a' := ?_) #[true, true, true, true, true, true, true, true, true, true, true, false, false, false, false, false, false, false, false, false, false] rfl rfl (any_of HT_.out (by kernel_rfl)) (fun _ _ _ h => h) (Or.inl ⟨by rfl, ?_⟩) ?_ ?_
                         rotate_left
                         ·intro w'
                          go_simp
                          with_reducible rfl
                         rotate_left
                         ·simp only [Act.put, List.setIfInBounds_toArray, List.set_cons_zero, List.set_cons_succ, i64_w, i32_w]
                          rfl
                         refine pure_ (i := 11) (N := some 192) (v := ?_) (a' := ?_) #[true, true, true, true, true, true, true, true, true, true, true, true, false, false, false, false, false, false, false, false, false] rfl rfl (any_of HT_.out (by kernel_rfl)) (fun _ _ _ h => h) (Or.inl ⟨by rfl, ?_⟩) ?_ ?_
                         rotate_left
                         ·intro w'
                          go_simp
                          with_reducible rfl
                         rotate_left
                         ·simp only [Act.put, List.setIfInBounds_toArray, List.set_cons_zero, List.set_cons_succ, i64_w, i32_w]
                          rfl
                         refine pure_ (i := 12) (N := some 193) (v := ?_) (a' := ?_) #[true, true, true, true, true, true, true, true, true, true, true, true, true, false, false, false, false, false, false, false, false] rfl rfl (any_of HT_.out (by kernel_rfl)) (fun _ _ _ h => h) (Or.inl ⟨by rfl, ?_⟩) ?_ ?_
                         rotate_left
                         ·intro w'
                          go_simp
                          with_reducible rfl
                         rotate_left
                         ·simp only [Act.put, List.setIfInBounds_toArray, List.set_cons_zero, List.set_cons_succ, i64_w, i32_w]
                          rfl
                         refine pure_ (i := 13) (N := some 194) (v := ?_) (a' := ?_) #[true, true, true, true, true, true, true, true, true, true, true, true, true, true, false, false, false, false, false, false, false] rfl rfl (any_of HT_.out (by kernel_rfl)) (fun _ _ _ h => h) (Or.inl ⟨by rfl, ?_⟩) ?_ ?_
                         rotate_left
                         ·intro w'
                          go_simp
                          with_reducible rfl
                         rotate_left
                         ·simp only [Act.put, List.setIfInBounds_toArray, List.set_cons_zero, List.set_cons_succ, i64_w, i32_w]
                          rfl
                         refine pure_ (i := 14) (N := some 195) (v := ?_) (a' := ?_) #[true, true, true, true, true, true, true, true, true, true, true, true, true, true, true, false, false, false, false, false, false] rfl rfl (any_of HT_.out (by kernel_rfl)) (fun _ _ _ h => h) (Or.inl ⟨by rfl, ?_⟩) ?_ ?_
                         rotate_left
                         ·intro w'
                          go_simp
                          with_reducible rfl
                         rotate_left
                         ·simp only [Act.put, List.setIfInBounds_toArray, List.set_cons_zero, List.set_cons_succ, i64_w, i32_w]
                          rfl
                         refine pure_ (i := 15) (N := some 196) (v := ?_) (a' := ?_) #[true, true, true, true, true, true, true, true, true, true, true, true, true, true, true, true, false, false, false, false, false] rfl rfl (any_of HT_.out (by kernel_rfl)) (fun _ _ _ h => h) (Or.inl ⟨by rfl, ?_⟩) ?_ ?_
                         rotate_left
                         ·intro w'
                          go_simp
                          with_reducible rfl
                         rotate_left
                         ·simp only [Act.put, List.setIfInBounds_toArray, List.set_cons_zero, List.set_cons_succ, i64_w, i32_w]
                          rfl
                         refine pure_ (i := 16) (N := some 197) (v := ?_) (a' := ?_) #[true, true, true, true, true, true, true, true, true, true, true, true, true, true, true, true, true, false, false, false, false] rfl rfl (any_of HT_.out (by kernel_rfl)) (fun _ _ _ h => h) (Or.inl ⟨by rfl, ?_⟩) ?_ ?_
                         rotate_left
                         ·intro w'
                          go_simp
                          with_reducible rfl
                         rotate_left
                         ·simp only [Act.put, List.setIfInBounds_toArray, List.set_cons_zero, List.set_cons_succ, i64_w, i32_w]
                          rfl
                         refine take_ (i := 17) (N := some 198) (v := ?_) (a' := ?_) #[true, true, true, true, true, true, true, true, true, true, true, true, true, true, true, true, true, true, false, false, false] rfl rfl (take_ofW HT_.out HW_.out (by kernel_rfl)) (fun _ _ _ h => h) (Or.inl ⟨by rfl, ?_⟩) hHeld ?_ ?_
                         rotate_left
                         ·rintro w' ⟨s0, s1, s2, s3, s4, s5, s6, s7, s8, s9⟩
                          go_simp
                          with_reducible rfl
                         rotate_left
                         ·simp only [Act.put, List.setIfInBounds_toArray, List.set_cons_zero, List.set_cons_succ, i64_w, i32_w]
                          rfl
                         refine pure_ (i := 18) (N := some 199) (v := ?_) (a' := ?_) #[true, true, true, true, true, true, true, true, true, true, true, true, true, true, true, true, true, true, true, false, false] rfl rfl (any_of HT_.out (by kernel_rfl)) (fun _ _ _ h => h) (Or.inl ⟨by rfl, ?_⟩) ?_ ?_
                         rotate_left
                         ·intro w'
                          go_simp
                          with_reducible rfl
                         rotate_left
                         ·simp only [Act.put, List.setIfInBounds_toArray, List.set_cons_zero, List.set_cons_succ, i64_w, i32_w]
                          rfl
                         refine pure_ (i := 19) (N := some 200) (v := ?_) (a' := ?_) #[true, true, true, true, true, true, true, true, true, true, true, true, true, true, true, true, true, true, true, true, false] rfl rfl (any_of HT_.out (by kernel_rfl)) (fun _ _ _ h => h) (Or.inl ⟨by rfl, ?_⟩) ?_ ?_
                         rotate_left
                         ·intro w'
                          go_simp
                          with_reducible rfl
                         rotate_left
                         ·simp only [Act.put, List.setIfInBounds_toArray, List.set_cons_zero, List.set_cons_succ, i64_w, i32_w]
                          rfl
                         refine pure_ (i := 20) (N := some 201) (v := ?_) (a' := ?_) #[true, true, true, true, true, true, true, true, true, true, true, true, true, true, true, true, true, true, true, true, true] rfl rfl (any_of HT_.out (by kernel_rfl)) (fun _ _ _ h => h) (Or.inl ⟨by rfl, ?_⟩) ?_ ?_
                         rotate_left
                         ·intro w'
                          go_simp
                          with_reducible rfl
                         rotate_left
                         ·simp only [Act.put, List.setIfInBounds_toArray, List.set_cons_zero, List.set_cons_succ, i64_w, i32_w]
                          rfl
                         refine done_ (done_of HT_.out (by kernel_rfl)) ?_
                         try go_wp2
                         go_meet
                         case rel => exact ⟨_, ((((rd_T64 t167 x14_3).f1).toList == ([] : List UInt8))), (by first | rfl | (simp; done) | (simp [*]; done)), H', ⟨by have := HK1.out; have := HJ8.out; have := HK3.out; have := HJ50.out; have := HJ57.out; have := HJ82.out; first | omega | exact Nat.le_refl _⟩, ⟨by (with_reducible repeat (first | apply Kd.R_alloc | apply Kd.R_drewN | apply Kd.R_drew)); exact HO_11.out⟩, ⟨by (with_reducible repeat (first | refine blk_drewN ?_ _ | refine blk_drew ?_ | refine blk_alloc ?_ _)); exact BK153.out⟩, ⟨by (with_reducible repeat (first | refine blk_drewN ?_ _ | refine blk_drew ?_ | refine blk_alloc ?_ _)); exact BK173.out⟩, ⟨by (with_reducible repeat (first | refine blk_drewN ?_ _ | refine blk_drew ?_ | refine blk_alloc ?_ _)); exact BK174.out⟩, ⟨by (with_reducible repeat (first | refine blk_drewN ?_ _ | refine blk_drew ?_ | refine blk_alloc ?_ _)); exact BK176.out⟩, ⟨by repeat (first | (with_reducible first | exact HB.out | apply below_alloc | apply pw_below_drewN | apply below_drew1 | refine below_set ?_ GE153.out | refine below_set ?_ GE173.out | refine below_set ?_ GE174.out | refine below_set ?_ GE176.out) | exact HB.out)⟩⟩
                      ·replace c98 := Bool.eq_false_iff.mpr c98
                       subst c98
                       have H1 : (none) = some r := by rw [if_neg (show ¬ (false = true) by decide)] at H; exact H
                       clear H
                       have H := H1
                       clear H1
                       exact absurd H (by simp)
                     ·rw [if_neg c96] at H
                      exact absurd H (by simp)
                    ·rw [if_neg c95] at H
                     exact absurd H (by simp)
                   case rest =>
                    clear HC94
                    try clear p1
                    try clear q1
                    try clear hx1
                    try clear p2
                    try clear c3
                    try clear p6
                    try clear c9
                    try clear p15
                    try clear q15
                    try clear hx15
                    try clear p16
                    try clear q16
                    try clear hx16
                    try clear p17
                    try clear q17
                    try clear hx17
                    try clear p18
                    try clear q18
                    try clear hx18
                    try clear c30
                    try clear p64
                    try clear c95
                    try clear c95b0
                    try clear c96
                    try clear c96b0
                    try clear c98
                    try clear c99
                    try clear hfz40_2
                    try clear hfz44_0
                    try clear hfz44_1
                    try clear hfz44_2
                    try clear hfz49_0
                    try clear hfz49_1
                    try clear hfz64_0
                    try clear hfz64_1
                    try clear hfz70_0
                    try clear hfz70_1
                    try clear hfz73_0
                    try clear hfz73_1
                    try clear hfz77_0
                    try clear hfz77_1
                    try clear hfz80_0
                    try clear hfz80_1
                    try clear hfz87_0
                    try clear hfz87_1
                    try clear hfz8_0
                    try clear hfz8_1
                    try clear hfz93_0
                    try clear hfz93_1
                    try clear hx154_0
                    try clear hx154_1
                    try clear hx155_0
                    try clear hx155_1
                    try clear hx156_0
                    try clear hx156_1
                    try clear hx156_2
                    try clear hx157_0
                    try clear hx157_1
                    try clear hx158_0
                    try clear hx158_1
                    try clear hx158_2
                    try clear hx159_0
                    try clear hx159_1
                    try clear hx160_0
                    try clear hx160_1
                    try clear hx161_0
                    try clear hx161_1
                    try clear hx161_2
                    try clear hx162_0
                    try clear hx162_1
                    try clear hx163_0
                    try clear hx163_1
                    try clear hx164_0
                    try clear hx164_1
                    try clear hx164_2
                    try clear hx175_0
                    try clear hx175_1
                    try clear hx175_2
                    try clear hx175_3
                    try clear hx178_0
                    try clear hx178_1
                    try clear hx178_2
                    try clear hx178_3
                    try clear hx180_0
                    try clear hx180_1
                    try clear hx180_2
                    try clear hx180_3
                    try clear p1
                    try clear p15
                    try clear p154
                    try clear p155
                    try clear p156
                    try clear p157
                    try clear p158
                    try clear p159
                    try clear p16
                    try clear p160
                    try clear p161
                    try clear p162
                    try clear p163
                    try clear p164
                    try clear p17
                    try clear p175
                    try clear p178
                    try clear p180
                    try clear p2
                    try clear p6
                    try clear p64
                    try clear q1
                    try clear q15
                    try clear q154
                    try clear q155
                    try clear q156
                    try clear q157
                    try clear q158
                    try clear q159
                    try clear q16
                    try clear q160
                    try clear q161
                    try clear q162
                    try clear q163
                    try clear q164
                    try clear q17
                    try clear q175
                    try clear q178
                    try clear q180
                    obtain ⟨kq, x201_93, rfl, HA, HJ93, HO_11, BK153, BK173, BK174, BK176, HB⟩ := hcut
                    cases kq with
                    | zero => exact absurd HA.out (by simp [waymarklaw07_LexPlaces.j9])
                    | succ kj93 =>
                     have H := HA.out
                     clear HA
                     simp only [waymarklaw07_LexPlaces.j9] at H
                     by_cases c104 : x201_93 = true
                     ·subst c104
                      have H1 : (none) = some r := by rw [if_pos rfl] at H; exact H
                      clear H
                      have H := H1
                      clear H1
                      exact absurd H (by simp)
                     ·replace c104 := Bool.eq_false_iff.mpr c104
                      subst c104
                      have H1 : (if 0 ≤ x14_3 then (if x14_3 < (t167.length : Int) then (waymarklaw07_LexPlaces.l2 kj93 a0 t172 t167 (wrap64 (x14_3 + 1)) ((rd_T64 t167 x14_3).f2.f0) ((rd_T64 t167 x14_3).f2.f1)) else (none)) else (none)) = some r := by rw [if_neg (show ¬ (false = true) by decide)] at H; exact H
                      clear H
                      have H := H1
                      clear H1
                      by_cases c105 : 0 ≤ x14_3
                      ·rw [if_pos c105] at H
                       have c105b0 : decide (0 ≤ x14_3) = true := decide_eq_true c105
                       clear c105
                       by_cases c106 : x14_3 < (t167.length : Int)
                       ·rw [if_pos c106] at H
                        have c106b0 : decide (x14_3 < (t167.length : Int)) = true := decide_eq_true c106
                        clear c106
                        as_aux_lemma =>
                         have H' := Aside0.mk H
                         clear H
                         have p181 : 0 ≤ (x14_3 : Int) := of_decide_eq_true (by first | (with_reducible assumption) | assumption)
                         have q181 : x14_3 < (t167.length : Int) := of_decide_eq_true (by first | (with_reducible assumption) | assumption)
                         obtain ⟨ad181, e181, hx181_0, hx181_1, hx181_2, hx181_3⟩ := at_T64 (Kd.R_reads' HO_11.out).2.2 x14_3 p181 q181
                         obtain rfl : ad175 = ad181 := (by injection e181)
                         replace p181 := eq_true p181
                         replace q181 := eq_true q181
                         have hnb107 := NB174_153.out
                         have hnc107 := NB153_174.out
                         have hnb108 := NB174_173.out
                         have hnc108 := NB173_174.out
                         have hnb109 := NB174_176.out
                         have hnc109 := NB176_174.out
                         have hcz110_0 : wc.cell? ⟨gb174, 0, none⟩ = some (.int .i64 x175000_3) := (blk_cell BK174.out 0).trans rfl
                         have hcz110_1 : wc.cell? ⟨gb174, 1, none⟩ = some (.int .i64 x175001_3) := (blk_cell BK174.out 1).trans rfl
                         have hfz110_0 := blk_frozen BK174.out 0
                         have hfz110_1 := blk_frozen BK174.out 1
                         go_wp2
                         go_roundg kj93
                         case measure => have := HK1.out; have := HJ8.out; have := HK3.out; have := HJ50.out; have := HJ57.out; have := HJ82.out; have := HJ93.out; omega
                         case rel => exact ⟨(wrap64 (x14_3 + 1)), ((rd_T64 t167 x14_3).f2.f0), ((rd_T64 t167 x14_3).f2.f1), (by first | rfl | (simp; done) | (simp [*]; done)), H', ⟨by have := HK1.out; have := HJ8.out; have := HK3.out; have := HJ50.out; have := HJ57.out; have := HJ82.out; have := HJ93.out; omega⟩, ⟨by (with_reducible repeat (first | apply Kd.R_alloc | apply Kd.R_drewN | apply Kd.R_drew)); exact Kd.R_mono (Kd.R_far (p := ⟨gb174, 1, none⟩) (Kd.R_far (p := ⟨gb174, 0, none⟩) (Kd.R_types HO_11.out BK174.out (by decide)) (fun _ hk => hk.2) (.int .i64 ((rd_T64 t167 x14_3).f2.f0))) (fun _ hk => hk.2) (.int .i64 ((rd_T64 t167 x14_3).f2.f1))) (fun _ hk => trivial)⟩, ⟨by (with_reducible repeat (first | refine blk_drewN ?_ _ | refine blk_drew ?_ | refine blk_alloc ?_ _)); refine blk_far ?_ NB153_174.out _; (with_reducible repeat (first | refine blk_drewN ?_ _ | refine blk_drew ?_ | refine blk_alloc ?_ _)); refine blk_far ?_ NB153_174.out _; (with_reducible repeat (first | refine blk_drewN ?_ _ | refine blk_drew ?_ | refine blk_alloc ?_ _)); exact BK153.out⟩, ⟨by (with_reducible repeat (first | refine blk_drewN ?_ _ | refine blk_drew ?_ | refine blk_alloc ?_ _)); refine blk_far ?_ NB173_174.out _; (with_reducible repeat (first | refine blk_drewN ?_ _ | refine blk_drew ?_ | refine blk_alloc ?_ _)); refine blk_far ?_ NB173_174.out _; (with_reducible repeat (first | refine blk_drewN ?_ _ | refine blk_drew ?_ | refine blk_alloc ?_ _)); exact BK173.out⟩, ⟨by (with_reducible repeat (first | refine blk_drewN ?_ _ | refine blk_drew ?_ | refine blk_alloc ?_ _)); refine blk_put (cs := #[.int .i64 ((rd_T64 t167 x14_3).f2.f0), .int .i64 x175001_3]) ?_ 1 _ rfl; (with_reducible repeat (first | refine blk_drewN ?_ _ | refine blk_drew ?_ | refine blk_alloc ?_ _)); refine blk_put (cs := #[.int .i64 x175000_3, .int .i64 x175001_3]) ?_ 0 _ rfl; (with_reducible repeat (first | refine blk_drewN ?_ _ | refine blk_drew ?_ | refine blk_alloc ?_ _)); exact BK174.out⟩, ⟨by repeat (first | (with_reducible first | exact HB.out | apply below_alloc | apply pw_below_drewN | apply below_drew1 | refine below_set ?_ GE153.out | refine below_set ?_ GE173.out | refine below_set ?_ GE174.out | refine below_set ?_ GE176.out) | exact HB.out)⟩⟩
                       ·rw [if_neg c106] at H
                        exact absurd H (by simp)
                      ·rw [if_neg c105] at H
                       exact absurd H (by simp)
             ·rw [if_neg c57] at H
              exact absurd H (by simp)
            ·rw [if_neg c56] at H
             exact absurd H (by simp)
           ·replace c55 := Bool.eq_false_iff.mpr c55
            subst c55
            have H1 : (some true) = some r := by rw [if_neg (show ¬ (false = true) by decide)] at H; exact H
            clear H
            have H := H1
            clear H1
            as_aux_lemma =>
             obtain rfl := Option.some.inj H
             go_wp2
             go_ret
             exact ⟨by first | rfl | (simp [errW_none, errW_some] <;> rfl) | (simp [*, errW_none, errW_some] <;> rfl), by repeat (first | (with_reducible first | exact HB.out | apply below_alloc | apply pw_below_drewN | apply below_drew1 | refine below_set ?_ GE153.out | refine below_set ?_ GE173.out | refine below_set ?_ GE174.out) | exact HB.out)⟩
 ·replace c3 := Bool.eq_false_iff.mpr c3
  subst c3
  have H1 : (none) = some r := by rw [if_neg (show ¬ (false = true) by decide)] at H; exact H
  clear H
  have H := H1
  clear H1
  exact absurd H (by simp)

end Go.Proofs.YtbnihnggljagnaaDoor.QLexPlaces
