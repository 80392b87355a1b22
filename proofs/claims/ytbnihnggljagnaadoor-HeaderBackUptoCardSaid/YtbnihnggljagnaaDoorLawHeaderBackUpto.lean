-- Written by this session's program wip/tools/lawcard.py.
import Derived.Test.YtbnihnggljagnaaDoorRows
import Derived.Test.YtbnihnggljagnaaDoorCards
import Derived.Test.YtbnihnggljagnaaDoorTie
import Derived.Test.YtbnihnggljagnaaDoorQHeaderBackx
import Derived.Test.YtbnihnggljagnaaDoorHeaderBackPureHeaderBack
import Derived.Test.YtbnihnggljagnaaDoorWorldA
import Derived.Test.YtbnihnggljagnaaDoorLaidN
import Derived.Test.YtbnihnggljagnaaDoorTools
import Derived.Test.YtbnihnggljagnaaDoorHdrOpen
import Derived.Test.YtbnihnggljagnaaDoorHdrRaw
import Derived.WalkKit
import Derived.ProofKit
import Derived.OpenShut
import Derived.ShutString
import Derived.ChangeOld
import Derived.Below
import Derived.Carry
import Derived.SizedLaws
import Derived.HandedShaped
import Derived.Shelf.Vars
import Derived.Lib.SmallJoins
import Derived.LaidMore
import Derived.Lay
import Derived.SevenTiedAt
import Derived.Stop.Joined
import Derived.JoinedCond
import Derived.Deep.DeepHandedRow
namespace Go.Proofs.YtbnihnggljagnaaDoor.headerBackUpto
open Go.ChangeShapes Go.WideShapes Go.ChangeAt Go.RowKit Go.Proofs.YtbnihnggljagnaaDoor Go.Proofs.YtbnihnggljagnaaDoor.Tools
open Go.ChangeMaps (open_string shut_string)
set_option linter.unusedVariables false
set_option linter.unusedSimpArgs false
theorem own : ownKnob Tryd.prog.godebug = none := by kernel_rfl
theorem laidOut : laidOutB Tryd.prog = true := by kernel_rfl
theorem d_plain : (Rows.headerBackUptoRow.laid.all fun x => x.2.handleName?.isNone) = true := by kernel_rfl
theorem witness_upto {H : Type} {enc : TypeId × Value → H} {C : Checked} {os : Os} {f : FuncId} {fn : Func} {s : OpenSpec} {conds : List PathCond} {apart : Bool} {laid : List (String × DataW Unit)} (w0 : World) (args : Array Value) (hos : w0.os = os)
    (hsh : (w0.forCall (fun _ _ => 0) ⟨#[], args, []⟩).Shaped C.prog)
    (hok : Input.okWideB C.prog (w0.forCall (fun _ _ => 0) ⟨#[], args, []⟩) f ⟨#[], args, []⟩ = true)
    (hrow : s.preRow enc C.prog fn conds apart laid (w0.forCall (fun _ _ => 0) ⟨#[], args, []⟩).memory args) :
    ∃ (w : World) (tape : Tape) (i : Input), w.os = os ∧ (w.forCall tape i).Shaped C.prog ∧ i.vars = [] ∧ Input.okWide C.prog (w.forCall tape i) .any w.heap.size f i ∧
      s.preRow enc C.prog fn conds apart laid (w.forCall tape i).memory i.args ∧ ({} : Assume).holds C.prog (lone (Frame.enter C.prog f i.args .normal) [] (w.forCall tape i)) :=
  ⟨w0, fun _ _ => 0, ⟨#[], args, []⟩, hos, hsh, (Input.okWide_of_okWideB (base := 0) hok).1, (Input.okWide_of_okWideB hok).2, hrow, by
    simp only [Assume.holds]
    exact ⟨by simp, by simp, by simp, by simp, by simp⟩⟩
theorem reads (os : Os) {H : Type} (enc : TypeId × Value → H) : ∃ places, DataW.whole enc Tryd.prog ((World.laidAll Tryd.prog os Rows.headerBackUptoRow.laid).forCall (fun _ _ => 0) ⟨#[], #[.agg #[.int .u32 0, .int .u32 0, .int .u8 0, .int .u16 0, .int .u16 0], .string ByteArray.empty, .agg #[.int .u8 0, .int .u8 0, .int .u8 0, .int .u8 0, .int .u8 0, .int .u8 0, .int .u8 0, .int .u8 0, .int .u8 0, .int .u8 0, .int .u8 0, .int .u8 0, .int .u8 0]], []⟩).memory Tryd.f11.params.toList Rows.headerBackSpec.vars false (#[.agg #[.int .u32 0, .int .u32 0, .int .u8 0, .int .u16 0, .int .u16 0], .string ByteArray.empty, .agg #[.int .u8 0, .int .u8 0, .int .u8 0, .int .u8 0, .int .u8 0, .int .u8 0, .int .u8 0, .int .u8 0, .int .u8 0, .int .u8 0, .int .u8 0, .int .u8 0, .int .u8 0]] : Array Value).toList 8 = some ([.agg [.lit (.int .u32 0), .lit (.int .u32 0), .lit (.int .u8 0), .lit (.int .u16 0), .lit (.int .u16 0)], .lit (.string []), .agg [.lit (.int .u8 0), .lit (.int .u8 0), .lit (.int .u8 0), .lit (.int .u8 0), .lit (.int .u8 0), .lit (.int .u8 0), .lit (.int .u8 0), .lit (.int .u8 0), .lit (.int .u8 0), .lit (.int .u8 0), .lit (.int .u8 0), .lit (.int .u8 0), .lit (.int .u8 0)]], [], places) :=
  ⟨[], by kernel_rfl⟩
set_option maxRecDepth 100000 in
theorem lifted (os : Os) (started : os.Started) (H : Type) (enc : TypeId × Value → H) (F : Stop.Interp) :
    ReturnsInHanded {} Tryd.checked os 11 .any ((Rows.OpenSpec.upto Rows.headerBackSpec).preRow enc Tryd.prog Tryd.f11 Rows.headerBackUptoRow.domain false Rows.headerBackUptoRow.laid) (((Rows.OpenSpec.upto Rows.headerBackSpec).at F).post enc Tryd.prog Tryd.f11 false true false false) := by
  obtain ⟨places, hx⟩ := reads os enc
  refine returnsInHanded_of_row (C := Tryd.checked) (s := Rows.OpenSpec.upto Rows.headerBackSpec) own started (by kernel_rfl) Tryd.func11
    (witness_upto (enc := enc) (C := Tryd.checked) (os := os) (World.laidAll Tryd.prog os Rows.headerBackUptoRow.laid) #[.agg #[.int .u32 0, .int .u32 0, .int .u8 0, .int .u16 0, .int .u16 0], .string ByteArray.empty, .agg #[.int .u8 0, .int .u8 0, .int .u8 0, .int .u8 0, .int .u8 0, .int .u8 0, .int .u8 0, .int .u8 0, .int .u8 0, .int .u8 0, .int .u8 0, .int .u8 0, .int .u8 0]] (World.laidAll_os _ _ _)
      (World.shaped_of_ZipB (by kernel_rfl) (by kernel_rfl)) (by kernel_rfl)
      (OpenSpec.preRow_of_cond 8 hx (by kernel_rfl) (fun k hk => by cases hk; kernel_rfl) (by kernel_rfl) (by rw [MakeChecks.laidMetH_plain _ _ _ (by kernel_rfl)]; exact laidMet_laidAll _ (by kernel_rfl) (by kernel_rfl)))) ?_
  intro W base args ds gs before hval0 hW hconds hcond hsz0 hL hsh hholds
  have hcond := hcond _ rfl
  have hM : laidMet Tryd.prog Rows.headerBackUptoRow.laid W := by rw [← MakeChecks.laidMetH_plain _ _ _ d_plain]; exact hL
  have hG : WorldA.GW W := ⟨Go.Proofs.cell_of_shapedOpen_int (zero := #[.int .i64 0]) (t := 3) hsh (of_decide_eq_true (by kernel_rfl)) (by kernel_rfl) rfl (by kernel_rfl) (by kernel_rfl) Tryd.underlying3, WorldN.gn_of hM 2 4 5 rfl rfl rfl⟩
  have hval : ∀ (j : Nat) t v, Tryd.f11.params[j]? = some t → args[j]? = some v → Value.okWide Tryd.prog W .any base t v := hval0
  have hW' := hW
  obtain ⟨p, q, hA0, hV, rfl, hfz, hnd⟩ := hW
  have hA : DataW.TrodAll enc Tryd.prog W 0 (fun _ => true) true Tryd.f11.params.toList args.toList ds p := hA0
  rw [Tryd.params11] at hA hval
  obtain ⟨v0, vs0, d0, ds0, p0, q0, hargs, rfl, rfl, h0, r0⟩ := trodAll_cons hA
  obtain ⟨v1, vs1, d1, ds1, p1, q1, rfl, rfl, rfl, h1, r1⟩ := trodAll_cons r0
  obtain ⟨v2, vs2, d2, ds2, p2, q2, rfl, rfl, rfl, h2, r2⟩ := trodAll_cons r1
  obtain ⟨rfl, rfl, rfl⟩ := trodAll_nil r2
  obtain rfl : args = #[v0, v1, v2] := by cases args; simp_all
  obtain ⟨rfl, rfl⟩ := trodVars_none hV
  have h0k := h0
  have h0l : ∀ x ∈ p0, x.block < W.heap.size := fun x hx => by obtain ⟨n, hn⟩ := h0k; exact DataW.trod_lt n _ _ _ hn x hx
  have h1k := h1
  have h1l : ∀ x ∈ p1, x.block < W.heap.size := fun x hx => by obtain ⟨n, hn⟩ := h1k; exact DataW.trod_lt n _ _ _ hn x hx
  have h2k := h2
  have h2l : ∀ x ∈ p2, x.block < W.heap.size := fun x hx => by obtain ⟨n, hn⟩ := h2k; exact DataW.trod_lt n _ _ _ hn x hx
  obtain ⟨a0_0, a0_1, a0_2, a0_3, a0_4, rfl, rfl, rfl, w0⟩ := HdrOpen.open_hdr (hval 0 91 v0 rfl rfl) h0
  obtain ⟨a1, rfl, rfl, rfl, w1⟩ := open_string Tryd.underlying9 (hval 1 9 v1 rfl rfl) h1
  obtain ⟨a2, rfl, rfl, w2⟩ := HdrRaw.open_raw (hval 2 92 v2 rfl rfl) h2
  have hcond : Rows.uptoBulkAll (H := H) _ ≤ 1048576 := of_decide_eq_true hcond
  simp only [List.append_nil, List.cons_append, List.nil_append, Rows.uptoBulkAll, Rows.uptoBulk, Array.length_toList] at hcond
  have z1 : a1.size ≤ 1048576 := by
    have : a1.data.size = a1.size := rfl
    omega
  clear hA0 hval0 hsz0 hconds hcond hholds
  obtain ⟨k, hk⟩ := QHeaderBack.headerBack_pure a0_0 a0_1 a0_2 a0_3 a0_4 a1 w0 (by omega)
  refine (QHeaderBack.back_law k a0_0 a0_1 a0_2 a0_3 a0_4 a1 a2 W hG w0 w2 hk).mono fun e W' ⟨he, bel⟩ => ?_
  subst he
  exact ⟨_, rfl, _, _, _, [], _, [], hW', trodAll_mk1 (shut_bool Tryd.underlying4 _), (trodAll_cons_mk (Below.trod laidOut (by kernel_rfl) (of_decide_eq_true (by kernel_rfl)) h0k bel h0l) (trodAll_cons_mk (Below.trod laidOut (by kernel_rfl) (of_decide_eq_true (by kernel_rfl)) h1k bel h1l) (trodAll_cons_mk (Below.trod laidOut (by kernel_rfl) (of_decide_eq_true (by kernel_rfl)) h2k bel h2l) trodAll_mk0))), rfl, bel.frame _, fun h => by cases h⟩
theorem c_named : Tryd.pinned.checked.prog.funcNamed Rows.headerBackUptoRow.func = some 11 := by kernel_rfl
theorem ck0 : (Rows.headerBackUptoRow.wf (OpenSpec.ofChange Rows.headerBackSpec)) = true := by kernel_rfl
theorem ck1 : (laidOutB Tryd.prog) = true := by kernel_rfl
theorem ck2 : (mapsRowed Tryd.prog) = true := by kernel_rfl
theorem ck3 : (Tryd.f11.params.all (Program.readableRec Tryd.prog ·)) = true := by kernel_rfl
theorem ck4 : (namedTie Tryd.prog Rows.headerBackUptoRow.named Rows.headerBackSpec.vars) = true := by kernel_rfl
theorem ck5 : ((Rows.headerBackUptoRow.stops == [])) = true := by kernel_rfl
theorem ck6 : ((Tryd.prog.stops == [])) = true := by kernel_rfl
theorem ck7 : ((Rows.headerBackUptoRow.knobs == [])) = true := by kernel_rfl
theorem ck8 : ((Tryd.prog.stopKnobs == [])) = true := by kernel_rfl
theorem ck9 : ((Rows.headerBackUptoRow.inPlace == Program.inPlace Tryd.prog 11)) = true := by kernel_rfl
theorem ck10 : ((Rows.headerBackUptoRow.unfollowed == Program.unfollowed Tryd.prog 11)) = true := by kernel_rfl
theorem ck11 : ((Rows.headerBackUptoRow.recurses == Program.recurses Tryd.prog 11)) = true := by kernel_rfl
theorem ck12 : ((Rows.headerBackUptoRow.named == Program.varsNamed Tryd.prog 11)) = true := by kernel_rfl
theorem ck13 : ((Rows.headerBackUptoRow.maps == (Tryd.f11.params.toList ++ Rows.headerBackSpec.plain.varTypes Tryd.prog).any (Program.mapsRec Tryd.prog ·))) = true := by kernel_rfl
theorem ck14 : ((Rows.headerBackUptoRow.ifaces == (Tryd.f11.params.toList ++ Rows.headerBackSpec.plain.varTypes Tryd.prog).any (Program.ifacesRec Tryd.prog ·))) = true := by kernel_rfl
theorem ck15 : ((Rows.headerBackUptoRow.mapsOut == Program.mapsAmong Tryd.prog Tryd.f11.resultTypes.toList)) = true := by kernel_rfl
theorem ck16 : ((Rows.headerBackUptoRow.loops == (Tryd.f11.params.toList ++ Rows.headerBackSpec.plain.varTypes Tryd.prog).any (Program.loopsFrom Tryd.prog ·))) = true := by kernel_rfl
theorem ck17 : ((Rows.headerBackUptoRow.wideKeys == (Tryd.f11.params.toList ++ Rows.headerBackSpec.plain.varTypes Tryd.prog ++ Tryd.f11.resultTypes.toList).any (Program.wideKeysFrom Tryd.prog ·))) = true := by kernel_rfl
theorem ck18 : (Rows.headerBackSpec.vars.all (Program.varReadable Tryd.prog ·)) = true := by kernel_rfl
theorem ck19 : (Tryd.f11.resultTypes.all (fun t => Program.readableRec Tryd.prog t && decide (t < Tryd.prog.types.size))) = true := by kernel_rfl
theorem ck20 : ((Rows.headerBackUptoRow.ifacesOut == Tryd.f11.resultTypes.toList.any (Program.ifacesRec Tryd.prog ·))) = true := by kernel_rfl
theorem ck21 : ((Rows.headerBackUptoRow.loopsOut == Tryd.f11.resultTypes.toList.any (Program.loopsFrom Tryd.prog ·))) = true := by kernel_rfl
theorem ck22 : ((Rows.headerBackUptoRow.plainKeys == Program.plainKeys Tryd.prog)) = true := by kernel_rfl
theorem ck23 : (Rows.headerBackUptoRow.shortTexts.isNone) = true := by kernel_rfl
theorem ck24 : (Program.stopsHeard Tryd.prog) = true := by kernel_rfl
theorem ck25 : (Program.mayEnter Tryd.prog) = true := by kernel_rfl
theorem ck26 : ((Rows.headerBackUptoRow.lifted == Program.liftsFinal Tryd.prog)) = true := by kernel_rfl
theorem ck27 : ((Program.make Tryd.prog == some Rows.headerBackUptoRow.make)) = true := by kernel_rfl
theorem ck28 : ((Rows.headerBackUptoRow.kinds == (if Rows.headerBackUptoRow.domain.isEmpty then [] else Tryd.f11.params.toList.map fun t => match Program.underlying Tryd.prog t with | some (.int k) => some k | _ => none))) = true := by kernel_rfl
theorem ck29 : ((Rows.headerBackUptoRow.pinned == OpenClaim.pinnedBy Rows.headerBackUptoRow)) = true := by kernel_rfl
theorem ck30 : ((Rows.headerBackUptoRow.veiled == (Tryd.f11.params.toList ++ Rows.headerBackSpec.plain.varTypes Tryd.prog ++ Tryd.f11.resultTypes.toList).any (Program.veiledRec Tryd.prog ·))) = true := by kernel_rfl
theorem ck31 : (OpenClaim.veiledFits Rows.headerBackUptoRow Tryd.prog Tryd.f11.params.toList (Tryd.f11.params.toList ++ Rows.headerBackSpec.plain.varTypes Tryd.prog ++ Tryd.f11.resultTypes.toList)) = true := by kernel_rfl
theorem andI {a b : Bool} (h : a = true) (k : b = true) : (a && b) = true := by subst h; exact k
set_option maxRecDepth 100000 in
theorem c_closed' : joinedFacts Tryd.prog 11 Tryd.f11 Rows.headerBackSpec Rows.headerBackUptoRow = true := by
  unfold joinedFacts
  exact andI (andI (andI (andI (andI (andI (andI (andI (andI (andI (andI (andI (andI (andI (andI (andI (andI (andI (andI (andI (andI (andI (andI (andI (andI (andI (andI (andI (andI (andI (andI (ck0) ck1) ck2) ck3) ck4) ck5) ck6) ck7) ck8) ck9) ck10) ck11) ck12) ck13) ck14) ck15) ck16) ck17) ck18) ck19) ck20) ck21) ck22) ck23) ck24) ck25) ck26) ck27) ck28) ck29) ck30) ck31
theorem c_closed : joinedFacts Tryd.pinned.checked.prog 11 Tryd.f11 Rows.headerBackSpec Rows.headerBackUptoRow = true := c_closed'
theorem c_inst : Tryd.f11.isInstance Tryd.pinned.checked.prog Rows.headerBackUptoRow.origin Rows.headerBackUptoRow.targs := of_decide_eq_true (by kernel_rfl)
theorem c_wrap : Tryd.f11.isWrapper Tryd.pinned.checked.prog Rows.headerBackUptoRow.wrapper Rows.headerBackUptoRow.mainSum := by unfold Func.isWrapper; first | (rw [if_pos (by decide +kernel)]; kernel_rfl) | (rw [if_neg (by decide +kernel)]; exact ⟨rfl, rfl⟩)
theorem over : Rows.headerBackUptoRow.holds Tryd.pinned (Rows.OpenSpec.upto Rows.headerBackSpec) :=
  OpenClaim.holds_of_cond 11 Tryd.f11 rfl rfl rfl rfl rfl rfl rfl ⟨rfl, rfl, rfl, rfl, rfl⟩ rfl rfl rfl rfl rfl c_named Tryd.func11 c_closed c_inst c_wrap
    (fun os started H enc _ F => by rw [OpenClaim.pre_eq_preRow]; exact lifted os started H enc F)
theorem d_wf : Rows.headerBackUptoRow.wfByText (Rows.OpenSpec.upto Rows.headerBackSpec) = true := by kernel_rfl
theorem d_main : Tryd.pinned.checked.prog.mainIs = some (true, "8bd00b4d81639136289d52d9174289ec4f00a55324c4c22e8296d6a2662b1a7e".toList) := by kernel_rfl
theorem d_named : Tryd.prog.funcNamed "waymark/waymarklaw03.HeaderBack" = some 11 := by kernel_rfl
theorem d_looks : true = Tryd.pinned.checked.prog.looks [] := by kernel_rfl
theorem d_stand : (([91, 9, 92] : List TypeId).all fun u => !Tryd.prog.wantsStandIn u) = true := by kernel_rfl
theorem d_goes : false = Rows.headerBackUptoRow.goesBy Tryd.pinned.checked.prog := by kernel_rfl
theorem card_holds : Rows.HeaderBackUptoCardSaid :=
  Claim7.holds_tied_plain_at .later [] [.data, .data, .data, .data, .sentinel, .sentinel, .pinned] true (true, "8bd00b4d81639136289d52d9174289ec4f00a55324c4c22e8296d6a2662b1a7e") true over (fun _ h => by cases h) d_wf (fun _ h => by cases h) headerBackUpto_row_tie rfl ⟨rfl, rfl⟩ d_main rfl
    (fun f fn hf hfn => by
      obtain rfl : f = 11 := Option.some.inj (d_named.symm.trans hf) |>.symm
      obtain rfl : fn = Tryd.f11 := (Option.some.inj (Tryd.func11.symm.trans hfn)).symm
      exact ⟨d_looks, fun j t ht => by
        rw [Tryd.params11] at ht
        have hm : t ∈ ([91, 9, 92] : List TypeId) := by simpa using Array.mem_of_getElem? ht
        exact (show Tryd.prog.wantsStandIn t = false by simpa using List.all_eq_true.1 d_stand t hm)⟩)
    d_goes
#print axioms card_holds
end Go.Proofs.YtbnihnggljagnaaDoor.headerBackUpto
namespace Go.Proofs.YtbnihnggljagnaaDoor
/-- The card, under a short name, for the claim. -/
theorem headerBackUpto_holds : Rows.HeaderBackUptoCardSaid := headerBackUpto.card_holds
end Go.Proofs.YtbnihnggljagnaaDoor
