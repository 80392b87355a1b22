/- The plain law of AddrPrefixes: what a prefix is, what is in it, its ends, halves and what two have in common are as the document's answer has them. Conditions: the arguments are of their kinds. -/
import Derived.Test.YtbnihnggljagnaaAddrPrefixesAddrVals
namespace Go.Proofs.Ytbnihnggljagnaa.QAddrPrefixes
open Go.RowKit Go.Proofs.YtbnihnggljagnaaW.PrintWords Go.Proofs.YtbnihnggljagnaaW.PrintLast Go.Proofs.YtbnihnggljagnaaW.PrintMore Go.Proofs.Ytbnihnggljagnaa.Tools Go.Proofs.Ytbnihnggljagnaa.AM
set_option linter.unusedVariables false

theorem same_val (a b : Int) : waymarklaw01_same.f a b a b = some true := by unfold waymarklaw01_same.f; rw [if_pos rfl]; simp
theorem law_j1 (x a b c d : Int) (hx : isA x) (ha : isA a) (hb : i64 b) (hc : isA c) : Ev (fun k => waymarklaw01_AddrPrefixes.j1 k x false a b c d) true := by
  refine Ev.step (f := fun k => (addr_Check.f k a b).bind fun t229 => (waymarkref01_Check.f k a b).bind fun t230 => if t229 = t230 then (addr_In.f k x a b).bind fun t231 => (waymarkref01_In.f k x a b).bind fun t232 => if (t231 == t232) = true then (addr_Within.f k a b c d).bind fun t233 => (waymarkref01_Within.f k a b c d).bind fun t234 => if (t233 == t234) = true then (addr_Cmp.f k a b c d).bind fun t235 => (waymarkref01_Cmp.f k a b c d).bind fun t236 => some (t235 == t236) else none else none else none) (fun k => ?_) ?_
  · simp only [waymarklaw01_AddrPrefixes.j1]; rw [if_neg (by simp)]
  · refine ev_bind _ (chk_val a b ha) (ev_bind _ (rchk_val a b ha) (ev_pos rfl (ev_bind _ (in_val x a b hx ha) (ev_bind _ (rin_val x a b hx ha) (ev_pos (by simp) (ev_bind _ (within_val a b c d ha hc) (ev_bind _ (rwithin_val a b c d ha hc) (ev_pos (by simp) (ev_bind _ (cmp_val a b c d) (ev_bind _ (rcmp_val a b c d) (ev_to (ev_now _) (by simp))))))))))))
theorem law_j0 (x a b c d : Int) (hx : isA x) (ha : isA a) (hb : i64 b) (hc : isA c) : Ev (fun k => waymarklaw01_AddrPrefixes.j0 k x false a b c d) true := by
  refine Ev.step (f := fun k => (addr_Ends.f k a b).bind fun bt198 => (waymarkref01_Ends.f k a b).bind fun bt201 => (addr_Halves.f k a b).bind fun bt204 => (waymarkref01_Halves.f k a b).bind fun bt211 => (addr_Common.f k a b c d).bind fun bt218 => (waymarkref01_Common.f k a b c d).bind fun bt222 => if bt198.1 = bt201.1 then if bt198.2.1 = bt201.2.1 then if bt198.2.2 = bt201.2.2 then (waymarklaw01_same.f bt204.1 bt204.2.1 bt211.1 bt211.2.1).bind fun t226 => if t226 = true then (waymarklaw01_same.f bt204.2.2.1 bt204.2.2.2.1 bt211.2.2.1 bt211.2.2.2.1).bind fun t227 => if t227 = true then if bt204.2.2.2.2 = bt211.2.2.2.2 then (waymarklaw01_same.f bt218.1 bt218.2.1 bt222.1 bt222.2.1).bind fun t228 => if t228 = true then waymarklaw01_AddrPrefixes.j1 k x (bt218.2.2 != bt222.2.2) a b c d else none else none else none else none else none else none else none) (fun k => ?_) ?_
  · simp only [waymarklaw01_AddrPrefixes.j0]; rw [if_neg (by simp)]
  · refine ev_bind _ (ends_val a b ha) (ev_bind _ (rends_val a b ha) (ev_bind _ (halves_val a b ha) (ev_bind _ (rhalves_val a b ha hb) (ev_bind _ (common_val a b c d ha hc) (ev_bind _ (rcommon_val a b c d ha hc) (ev_pos rfl (ev_pos rfl (ev_pos rfl (ev_is _ (same_val _ _) (ev_pos rfl (ev_is _ (same_val _ _) (ev_pos rfl (ev_pos rfl (ev_is _ (same_val _ _) (ev_pos rfl ?_)))))))))))))))
    rw [bne_self_eq_false]
    exact law_j1 x a b c d hx ha hb hc
/-- The law answers true. -/
theorem addrPrefixes_pure (x a b c d n : Int) (hx : isA x) (ha : isA a) (hb : i64 b) (hc : isA c) : ∃ k, waymarklaw01_AddrPrefixes.f k x a b c d n = some true := by
  refine Ev.rounds ?_
  obtain ⟨r, hr1, hr2⟩ := bits_val x hx
  refine ev_is _ (mask_val n) (ev_bind _ (rmask_val n) (ev_is _ hr1 (ev_bind _ hr2 (ev_is _ (sub_val x n hx) (ev_bind _ (rsub_val x n hx) (ev_pos rfl (ev_pos rfl (ev_pos rfl (ev_pos rfl (ev_is _ (same_val _ _) (ev_pos rfl ?_)))))))))))
  rw [bne_self_eq_false]
  exact law_j0 x a b c d hx ha hb hc
end Go.Proofs.Ytbnihnggljagnaa.QAddrPrefixes
