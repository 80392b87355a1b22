-- Written by this session's program wip/tools/lawrow.py.
import Derived.Test.YtbnihnggljagnaaRows
import Derived.Test.YtbnihnggljagnaaQAddrPrefixesx6
import Derived.Test.YtbnihnggljagnaaAddrPrefixesPureAddrPrefixes
import Derived.WalkKit
import Derived.ProofKit
import Derived.OpenShut
import Derived.ShutString
import Derived.ChangeOld
import Derived.Below
import Derived.Carry
import Derived.SizedLaws
import Derived.Lib.SmallJoins
namespace Go.Proofs.Ytbnihnggljagnaa.addrPrefixes
open Go.ChangeShapes Go.WideShapes Go.ChangeAt Go.RowKit Go.Proofs.Ytbnihnggljagnaa Go.Proofs.Ytbnihnggljagnaa.Tools
open Go.ChangeMaps (open_string shut_string)
set_option linter.unusedVariables false
theorem own : ownKnob Try.prog.godebug = none := by kernel_rfl
theorem laid : laidOutB Try.prog = true := by kernel_rfl
set_option maxRecDepth 100000 in
theorem lifted (os : Os) (started : os.Started) (H : Type) (enc : TypeId × Value → H) :
    ReturnsInHanded {} Try.checked os 4 .any (Rows.addrPrefixesSpec.pre6 enc Try.prog Try.f4 Rows.addrPrefixesRow.domain false) (Rows.addrPrefixesSpec.post enc Try.prog Try.f4 false true false false) := by
  refine returnsInHanded_of_change_sized (C := Try.checked) own started (by kernel_rfl) Try.func4
    (ChangeSpec.witness6 (enc := enc) (C := Try.checked) false ⟨#[], #[.int .u32 0, .agg #[.int .u32 0, .int .i64 0], .agg #[.int .u32 0, .int .i64 0], .int .i64 0], []⟩ 8 (by kernel_rfl) (by kernel_rfl) (by kernel_rfl) (by kernel_rfl)) ?_
  intro W base args ds gs before hval0 hW hcnd hsz0 _
  have hval : ∀ (j : Nat) t v, Try.f4.params[j]? = some t → args[j]? = some v → Value.okWide Try.prog W .any base t v := hval0
  have hW' := hW
  obtain ⟨p, q, hA0, hV, rfl, hfz, hnd⟩ := hW
  have hA : DataW.TrodAll enc Try.prog W 0 (fun _ => true) true Try.f4.params.toList args.toList ds p := hA0
  rw [Try.params4] at hA hval
  obtain ⟨v0, vs0, d0, ds0, p0, q0, hargs, rfl, rfl, h0, r0⟩ := trodAll_cons hA
  obtain ⟨v1, vs1, d1, ds1, p1, q1, rfl, rfl, rfl, h1, r1⟩ := trodAll_cons r0
  obtain ⟨v2, vs2, d2, ds2, p2, q2, rfl, rfl, rfl, h2, r2⟩ := trodAll_cons r1
  obtain ⟨v3, vs3, d3, ds3, p3, q3, rfl, rfl, rfl, h3, r3⟩ := trodAll_cons r2
  obtain ⟨rfl, rfl, rfl⟩ := trodAll_nil r3
  obtain rfl : args = #[v0, v1, v2, v3] := by cases args; simp_all
  obtain ⟨rfl, rfl⟩ := trodVars_none hV
  have h0k := h0
  have h0l : ∀ x ∈ p0, x.block < W.heap.size := fun x hx => by obtain ⟨n, hn⟩ := h0k; exact DataW.trod_lt n _ _ _ hn x hx
  have h1k := h1
  have h1l : ∀ x ∈ p1, x.block < W.heap.size := fun x hx => by obtain ⟨n, hn⟩ := h1k; exact DataW.trod_lt n _ _ _ hn x hx
  have h2k := h2
  have h2l : ∀ x ∈ p2, x.block < W.heap.size := fun x hx => by obtain ⟨n, hn⟩ := h2k; exact DataW.trod_lt n _ _ _ hn x hx
  have h3k := h3
  have h3l : ∀ x ∈ p3, x.block < W.heap.size := fun x hx => by obtain ⟨n, hn⟩ := h3k; exact DataW.trod_lt n _ _ _ hn x hx
  obtain ⟨a0, rfl, rfl, rfl, w0⟩ := open_int Try.underlying23 (hval 0 23 v0 rfl rfl) h0
  obtain ⟨c1_0, c1_1, y1_0, y1_1, n1, rfl, rfl, rfl, t1_0, t1_1⟩ := Go.Joins.open_agg2 Try.underlying30 (by kernel_rfl) (by kernel_rfl) (hval 1 30 v1 rfl rfl) h1
  obtain ⟨a1_0, e1_0, x1_0, w1_0⟩ := DataW.trod_int Try.underlying23 t1_0
  obtain rfl : c1_0 = _ := List.head_eq_of_cons_eq e1_0
  obtain ⟨a1_1, e1_1, x1_1, w1_1⟩ := DataW.trod_int Try.underlying3 t1_1
  obtain rfl : c1_1 = _ := List.head_eq_of_cons_eq e1_1
  obtain ⟨c2_0, c2_1, y2_0, y2_1, n2, rfl, rfl, rfl, t2_0, t2_1⟩ := Go.Joins.open_agg2 Try.underlying30 (by kernel_rfl) (by kernel_rfl) (hval 2 30 v2 rfl rfl) h2
  obtain ⟨a2_0, e2_0, x2_0, w2_0⟩ := DataW.trod_int Try.underlying23 t2_0
  obtain rfl : c2_0 = _ := List.head_eq_of_cons_eq e2_0
  obtain ⟨a2_1, e2_1, x2_1, w2_1⟩ := DataW.trod_int Try.underlying3 t2_1
  obtain rfl : c2_1 = _ := List.head_eq_of_cons_eq e2_1
  obtain ⟨a3, rfl, rfl, rfl, w3⟩ := open_int Try.underlying3 (hval 3 3 v3 rfl rfl) h3
  clear hA0 hval0 hsz0
  obtain ⟨k, hk⟩ := QAddrPrefixes.addrPrefixes_pure a0 a1_0 a1_1 a2_0 a2_1 a3 (wf_u32 w0) (wf_u32 w1_0) (wf_i64 w1_1) (wf_u32 w2_0)
  refine (QAddrPrefixes.waymarklaw01_AddrPrefixes.calls k a0 a1_0 a1_1 a2_0 a2_1 a3 true W hk).mono fun e W' ⟨he, bel⟩ => ?_
  subst he
  exact ⟨_, rfl, _, _, _, [], _, [], hW', trodAll_mk1 (shut_bool Try.underlying4 _), (trodAll_cons_mk (Below.trod laid (by kernel_rfl) (of_decide_eq_true (by kernel_rfl)) h0k bel h0l) (trodAll_cons_mk (Below.trod laid (by kernel_rfl) (of_decide_eq_true (by kernel_rfl)) h1k bel h1l) (trodAll_cons_mk (Below.trod laid (by kernel_rfl) (of_decide_eq_true (by kernel_rfl)) h2k bel h2l) (trodAll_cons_mk (Below.trod laid (by kernel_rfl) (of_decide_eq_true (by kernel_rfl)) h3k bel h3l) trodAll_mk0)))), rfl, bel.frame _, fun h => by cases h⟩
theorem over : Rows.addrPrefixesRow.holds Try.pinned (OpenSpec.ofChange Rows.addrPrefixesSpec) :=
  OpenClaim.holds_of_wide 4 Try.f4 rfl rfl rfl rfl rfl rfl rfl ⟨rfl, rfl, rfl, rfl, rfl⟩ rfl rfl rfl rfl rfl (by kernel_rfl) Try.func4 (by kernel_rfl)
    (of_decide_eq_true (by kernel_rfl)) (by unfold Func.isWrapper; first | (rw [if_pos (by decide +kernel)]; kernel_rfl) | (rw [if_neg (by decide +kernel)]; exact ⟨rfl, rfl⟩))
    (fun os started H enc _ => lifted os started H enc)
theorem proved : Rows.AddrPrefixesSaid := over
#print axioms proved
end Go.Proofs.Ytbnihnggljagnaa.addrPrefixes
namespace Go.Proofs.Ytbnihnggljagnaa
/-- The row, under a short name, for the claim. -/
theorem addrPrefixes_holds : Rows.AddrPrefixesSaid := addrPrefixes.proved
end Go.Proofs.Ytbnihnggljagnaa
