/- A header that is handed to a law, opened: its five numbers, each in its range. Conditions: none. -/
import Derived.Test.YtbnihnggljagnaaDoorProg
import Derived.Test.YtbnihnggljagnaaDoorHdrMath
import Derived.Test.YtbnihnggljagnaaDoorTools
import Derived.Lib.SmallJoins
import Derived.OpenShut
import Derived.ChangeSame
namespace Go.Proofs.YtbnihnggljagnaaDoor.HdrOpen
open Go.ChangeShapes Go.WideShapes Go.ChangeAt Go.RowKit Go.Joins Go.Proofs.YtbnihnggljagnaaDoor.HdrMath Go.Proofs.YtbnihnggljagnaaDoor.Tools
set_option linter.unusedSimpArgs false
set_option maxRecDepth 10000
theorem open_hdr {H : Type} {enc : TypeId × Value → H} {w : World} {base : Nat} {spare : Nat → Bool} {held : Bool} {r : Reach} {b0 : Nat} {v : Value} {d : DataW H} {p : List MemPlace}
    (hv : Value.okWide Tryd.prog w r b0 91 v) (h : DataW.Trod enc Tryd.prog w base spare held 91 v d p) :
    ∃ s a q m n : Int, v = .agg #[.int .u32 s, .int .u32 a, .int .u8 q, .int .u16 m, .int .u16 n] ∧ d = .agg [.lit (.int .u32 s), .lit (.int .u32 a), .lit (.int .u8 q), .lit (.int .u16 m), .lit (.int .u16 n)] ∧ p = [] ∧ InT (s, a, q, m, n) := by
  obtain ⟨cs, rfl, hsz⟩ := okWide_struct Tryd.underlying91 hv
  have h5 : cs.size = 5 := hsz.trans (by kernel_rfl)
  obtain ⟨l⟩ := cs
  match l, h5 with
  | [c0, c1, c2, c3, c4], _ =>
    obtain ⟨fuel, hf⟩ := h
    obtain ⟨xs, n, _, hx, _, hlen, hg⟩ := DataW.trod_struct Tryd.underlying91 hf
    match xs, hlen with
    | [y0, y1, y2, y3, y4], _ =>
      simp only [Prod.mk.injEq] at hx
      have k40 : Tryd.prog.cellsOf 40 = 1 := by kernel_rfl
      have k5 : Tryd.prog.cellsOf 5 = 1 := by kernel_rfl
      have k89 : Tryd.prog.cellsOf 89 = 1 := by kernel_rfl
      have t0 := hg 0 _ rfl
      have t1 := hg 1 _ rfl
      have t2 := hg 2 _ rfl
      have t3 := hg 3 _ rfl
      have t4 := hg 4 _ rfl
      simp [Value.cells, k40, k5, k89] at t0 t1 t2 t3 t4
      obtain ⟨s, e0, x0, w0⟩ := DataW.trod_int Tryd.underlying40 t0
      obtain ⟨a, e1, x1, w1⟩ := DataW.trod_int Tryd.underlying40 t1
      obtain ⟨q, e2, x2, w2⟩ := DataW.trod_int Tryd.underlying5 t2
      obtain ⟨m, e3, x3, w3⟩ := DataW.trod_int Tryd.underlying89 t3
      obtain ⟨o, e4, x4, w4⟩ := DataW.trod_int Tryd.underlying89 t4
      obtain rfl := List.head_eq_of_cons_eq e0
      obtain rfl := List.head_eq_of_cons_eq e1
      obtain rfl := List.head_eq_of_cons_eq e2
      obtain rfl := List.head_eq_of_cons_eq e3
      obtain rfl := List.head_eq_of_cons_eq e4
      subst x0 x1 x2 x3 x4
      exact ⟨s, a, q, m, o, rfl, by simpa using hx.1, by simpa using hx.2, ⟨wf_u32 w0, wf_u32 w1, wf_u8 w2, wf_u16 w3, wf_u16 w4⟩⟩
end Go.Proofs.YtbnihnggljagnaaDoor.HdrOpen
