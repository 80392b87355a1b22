/- From what a row lays to what the walks of numbers ask of the world. Conditions: none. -/
import Derived.Test.YtbnihnggljagnaaDoorWorldN
import Derived.Stop.LaidErr
import Derived.KernelRfl
namespace Go.Proofs.YtbnihnggljagnaaDoor.WorldN
open Go.RowKit Go.ChangeShapes
theorem star : "*" ++ "errors.errorString" = "*errors.errorString" := by decide
theorem row_err (u : TypeId) (h : Tryd.prog.typeName? 3 u = some "*errors.errorString") : u = 262 :=
  typeName_ptr_named (nm := "errors.errorString") (by rw [star]; kernel_rfl) (by kernel_rfl) (by decide) u (by rw [star]; exact h)
theorem cells_struct : Tryd.prog.cellsOf 264 = 1 := by kernel_rfl
theorem cells_string : Tryd.prog.cellsOf 9 = 1 := by kernel_rfl
theorem met_drop {P : Program} {w : World} : ∀ (i : Nat) {l : List (String × DataW Unit)}, laidMet P l w → laidMet P (l.drop i) w
  | 0, _, h => h
  | i + 1, [], h => by rw [List.drop_nil]; exact h
  | i + 1, _ :: l, h => met_drop i (laidMet.tail h)
theorem sentinel {W : World} {n : String} {text : List UInt8} {r : List (String × DataW Unit)} {g : Nat} (h : laidMet Tryd.prog ((n, .iface "*errors.errorString" (.ptr (.agg [.lit (.string text)]))) :: r) W)
    (hg : Tryd.prog.globalNamed n = some g) (ht : (Tryd.prog.globals[g]?).map (·.type) = some 157) : ∃ ev, W.cell? ⟨g, 0, none⟩ = some ev ∧ (ev = .nilIface ∨ ∃ te pe, ev = .iface te pe) := by
  obtain ⟨a0, s0, hv0, -, -, -⟩ := laid_sentinel h hg ht Tryd.underlying157 row_err Tryd.underlying262 Tryd.underlying264 rfl rfl Tryd.underlying9 cells_struct cells_string
  exact ⟨_, by have h0 := World.var?_cell hg hv0 0; simpa using h0, .inr ⟨_, _, rfl⟩⟩
theorem syn_named : Tryd.prog.globalNamed "strconv.ErrSyntax" = some 2 := by kernel_rfl
theorem syn_type : (Tryd.prog.globals[2]?).map (·.type) = some 157 := by kernel_rfl
theorem rng_named : Tryd.prog.globalNamed "strconv.ErrRange" = some 3 := by kernel_rfl
theorem rng_type : (Tryd.prog.globals[3]?).map (·.type) = some 157 := by kernel_rfl
theorem gn_of {W : World} {l r1 r2 r3 : List (String × DataW Unit)} {t2 t3 : List UInt8} (h : laidMet Tryd.prog l W) (i1 i2 i3 : Nat)
    (h1 : l.drop i1 = ("internal/strconv.uint64pow10", Lib.tabData .u64 Lib.pow10Tab) :: r1)
    (h2 : l.drop i2 = ("strconv.ErrRange", .iface "*errors.errorString" (.ptr (.agg [.lit (.string t2)]))) :: r2)
    (h3 : l.drop i3 = ("strconv.ErrSyntax", .iface "*errors.errorString" (.ptr (.agg [.lit (.string t3)]))) :: r3) : GN W :=
  ⟨sentinel (h3 ▸ met_drop i3 h) syn_named syn_type, sentinel (h2 ▸ met_drop i2 h) rng_named rng_type,
    Lib.tabIs_of_head (t := 240) (e := 141) (n := 20) pow10_named (by kernel_rfl) (by kernel_rfl) (by kernel_rfl) (by kernel_rfl) (by kernel_rfl) (h1 ▸ met_drop i1 h)⟩
end Go.Proofs.YtbnihnggljagnaaDoor.WorldN
