-- Written by this session's program wip/tools/lawcard.py.
import Derived.Test.YtbnihnggljagnaaDoorRows
import Derived.Test.YtbnihnggljagnaaDoorCards
import Derived.Test.YtbnihnggljagnaaDoorTie
import Derived.Test.YtbnihnggljagnaaDoorQHeaderNamesx
import Derived.Test.YtbnihnggljagnaaDoorHeaderNamesPureHeaderNames
import Derived.Test.YtbnihnggljagnaaDoorWorldA
import Derived.Test.YtbnihnggljagnaaDoorLaidN
import Derived.Test.YtbnihnggljagnaaDoorTools
import Derived.WalkKit
import Derived.ProofKit
import Derived.OpenShut
import Derived.ShutString
import Derived.ChangeOld
import Derived.Below
import Derived.Carry
import Derived.SizedLaws
import Derived.HandedShaped
import Derived.Shelf.Vars
import Derived.Lib.SmallJoins
import Derived.LaidMore
import Derived.Lay
import Derived.SevenTiedAt
import Derived.Stop.Joined
namespace Go.Proofs.YtbnihnggljagnaaDoor.headerNames
open Go.ChangeShapes Go.WideShapes Go.ChangeAt Go.RowKit Go.Proofs.YtbnihnggljagnaaDoor Go.Proofs.YtbnihnggljagnaaDoor.Tools
open Go.ChangeMaps (open_string shut_string)
set_option linter.unusedVariables false
set_option linter.unusedSimpArgs false
theorem own : ownKnob Tryd.prog.godebug = none := by kernel_rfl
theorem laidOut : laidOutB Tryd.prog = true := by kernel_rfl
/-- A law's wrap: what is laid, and the world's shape, both for the contract. -/
theorem wrap {H : Type} {enc : TypeId × Value → H} {a : Assume} {C : Checked} {os : Os} {f : FuncId} {fn : Func} {s : ChangeSpec} {conds : List PathCond} {apart fresh handsOn again : Bool} {X : World → Array Value → Prop}
    (hX : ∀ (w w' : World) (args : Array Value), w.heap = w'.heap → X w args → X w' args)
    (own : ownKnob C.prog.godebug = none) (started : os.Started) (noInit : C.prog.inits.idxOf? f = none) (hfn : C.prog.funcs[f]? = some fn)
    (witness : ∃ (w : World) (tape : Tape) (i : Input), w.os = os ∧ (w.forCall tape i).Shaped C.prog ∧ i.vars = [] ∧ Input.okWide C.prog (w.forCall tape i) .any w.heap.size f i ∧
      ((s.pre enc C.prog fn conds apart (w.forCall tape i).memory i.args ∧ X (w.forCall tape i).memory i.args) ∧ sizedMet enc C.prog fn (OpenSpec.ofChange s) apart (w.forCall tape i).memory i.args) ∧ a.holds C.prog (lone (Frame.enter C.prog f i.args .normal) [] (w.forCall tape i)))
    (contract : ∀ (W : World) (base : Nat) (args : Array Value) (ds gs : List (DataW H)) (before : List MemPlace),
      (∀ (j : Nat) t v, fn.params[j]? = some t → args[j]? = some v → Value.okWide C.prog W .any base t v) →
      DataW.Whole enc C.prog fn.params.toList s.vars apart W args.toList ds gs before →
      (DataW.weightsEach C.prog (fn.params.toList ++ s.plain.varTypes C.prog) (ds ++ gs)).all (· ≤ reachBytes) = true → X W args → W.ShapedOpen C.prog →
      Calls C.prog f args W fun e W' => ∃ v, e = .returned v ∧ s.post enc C.prog fn apart fresh handsOn again W args v W') :
    ReturnsInHanded a C os f .any (fun w args => (s.pre enc C.prog fn conds apart w args ∧ X w args) ∧ sizedMet enc C.prog fn (OpenSpec.ofChange s) apart w args) (s.post enc C.prog fn apart fresh handsOn again) := by
  refine returnsInHanded_of_calls own started noInit witness ?_
  intro w tape i _ hsh _ hok hpre hholds
  obtain ⟨_, _, _, fn', hfn', _, _, _, _, hval⟩ := hok
  have e : fn' = fn := Option.some.inj (hfn'.symm.trans hfn)
  subst e
  obtain ⟨⟨⟨ds, gs, before, hw, hc⟩, hx⟩, hz⟩ := hpre
  have hw' := DataW.Whole.of_heap (w' := w.forCall tape i) (by rfl) hw
  refine (contract (w.forCall tape i) w.heap.size i.args ds gs before hval hw' (hz.weights hw) (hX _ _ _ (by rfl) hx) hsh).mono fun e W' ⟨v, he, hp⟩ => ?_
  subst he
  exact ChangeSpec.post_blind hp
theorem d_plain : (Rows.headerNamesRow.laid.all fun x => x.2.handleName?.isNone) = true := by kernel_rfl
set_option maxRecDepth 100000 in
theorem lifted (os : Os) (started : os.Started) (H : Type) (enc : TypeId × Value → H) :
    ReturnsInHanded {} Tryd.checked os 13 .any (fun w args => (Rows.headerNamesSpec.pre enc Tryd.prog Tryd.f13 Rows.headerNamesRow.domain false w args ∧ laidMetH Tryd.prog Rows.headerNamesRow.laid w) ∧ sizedMet enc Tryd.prog Tryd.f13 (OpenSpec.ofChange Rows.headerNamesSpec) false w args) (Rows.headerNamesSpec.post enc Tryd.prog Tryd.f13 false true false false) := by
  refine wrap (C := Tryd.checked) (X := fun w _ => laidMetH Tryd.prog Rows.headerNamesRow.laid w) (fun _ _ _ hh h => h.of_heap hh) own started (by kernel_rfl) Tryd.func13
    (ChangeSpec.witness_shaped (enc := enc) (C := Tryd.checked) (os := os) (X := fun w _ => laidMetH Tryd.prog Rows.headerNamesRow.laid w) false (World.laidAll Tryd.prog os Rows.headerNamesRow.laid) #[] 8 (World.laidAll_os _ _ _)
      (World.shaped_of_ZipB (by kernel_rfl) (by kernel_rfl)) (by kernel_rfl) (by kernel_rfl) (by kernel_rfl)
      (by rw [MakeChecks.laidMetH_plain _ _ _ (by kernel_rfl)]; exact laidMet_laidAll _ (by kernel_rfl) (by kernel_rfl))) ?_
  intro W base args ds gs before hval0 hW hsz0 hL hsh
  have hM : laidMet Tryd.prog Rows.headerNamesRow.laid W := by rw [← MakeChecks.laidMetH_plain _ _ _ d_plain]; exact hL
  have hG : WorldA.GW W := ⟨Go.Proofs.cell_of_shapedOpen_int (zero := #[.int .i64 0]) (t := 3) hsh (of_decide_eq_true (by kernel_rfl)) (by kernel_rfl) rfl (by kernel_rfl) (by kernel_rfl) Tryd.underlying3, WorldN.gn_of hM 2 4 5 rfl rfl rfl⟩
  have hval : ∀ (j : Nat) t v, Tryd.f13.params[j]? = some t → args[j]? = some v → Value.okWide Tryd.prog W .any base t v := hval0
  have hW' := hW
  obtain ⟨p, q, hA0, hV, rfl, hfz, hnd⟩ := hW
  have hA : DataW.TrodAll enc Tryd.prog W 0 (fun _ => true) true Tryd.f13.params.toList args.toList ds p := hA0
  rw [Tryd.params13] at hA hval
  obtain ⟨hargs, rfl, rfl⟩ := trodAll_nil hA
  obtain rfl : args = #[] := by cases args; simp_all
  obtain ⟨rfl, rfl⟩ := trodVars_none hV
  clear hA0 hval0 hsz0
  obtain ⟨k, hk⟩ := QHeaderNames.headerNames_pure
  refine (QHeaderNames.waymarklaw03_HeaderNames.calls k true W hG hk).mono fun e W' ⟨he, bel⟩ => ?_
  subst he
  exact ⟨_, rfl, _, _, _, [], _, [], hW', trodAll_mk1 (shut_bool Tryd.underlying4 _), trodAll_mk0, rfl, bel.frame _, fun h => by cases h⟩
theorem c_named : Tryd.pinned.checked.prog.funcNamed Rows.headerNamesRow.func = some 13 := by kernel_rfl
theorem ck0 : (Rows.headerNamesRow.wf (OpenSpec.ofChange Rows.headerNamesSpec)) = true := by kernel_rfl
theorem ck1 : (laidOutB Tryd.prog) = true := by kernel_rfl
theorem ck2 : (mapsRowed Tryd.prog) = true := by kernel_rfl
theorem ck3 : (Tryd.f13.params.all (Program.readableRec Tryd.prog ·)) = true := by kernel_rfl
theorem ck4 : (namedTie Tryd.prog Rows.headerNamesRow.named Rows.headerNamesSpec.vars) = true := by kernel_rfl
theorem ck5 : ((Rows.headerNamesRow.stops == [])) = true := by kernel_rfl
theorem ck6 : ((Tryd.prog.stops == [])) = true := by kernel_rfl
theorem ck7 : ((Rows.headerNamesRow.knobs == [])) = true := by kernel_rfl
theorem ck8 : ((Tryd.prog.stopKnobs == [])) = true := by kernel_rfl
theorem ck9 : ((Rows.headerNamesRow.inPlace == Program.inPlace Tryd.prog 13)) = true := by kernel_rfl
theorem ck10 : ((Rows.headerNamesRow.unfollowed == Program.unfollowed Tryd.prog 13)) = true := by kernel_rfl
theorem ck11 : ((Rows.headerNamesRow.recurses == Program.recurses Tryd.prog 13)) = true := by kernel_rfl
theorem ck12 : ((Rows.headerNamesRow.named == Program.varsNamed Tryd.prog 13)) = true := by kernel_rfl
theorem ck13 : ((Rows.headerNamesRow.maps == (Tryd.f13.params.toList ++ Rows.headerNamesSpec.plain.varTypes Tryd.prog).any (Program.mapsRec Tryd.prog ·))) = true := by kernel_rfl
theorem ck14 : ((Rows.headerNamesRow.ifaces == (Tryd.f13.params.toList ++ Rows.headerNamesSpec.plain.varTypes Tryd.prog).any (Program.ifacesRec Tryd.prog ·))) = true := by kernel_rfl
theorem ck15 : ((Rows.headerNamesRow.mapsOut == Program.mapsAmong Tryd.prog Tryd.f13.resultTypes.toList)) = true := by kernel_rfl
theorem ck16 : ((Rows.headerNamesRow.loops == (Tryd.f13.params.toList ++ Rows.headerNamesSpec.plain.varTypes Tryd.prog).any (Program.loopsFrom Tryd.prog ·))) = true := by kernel_rfl
theorem ck17 : ((Rows.headerNamesRow.wideKeys == (Tryd.f13.params.toList ++ Rows.headerNamesSpec.plain.varTypes Tryd.prog ++ Tryd.f13.resultTypes.toList).any (Program.wideKeysFrom Tryd.prog ·))) = true := by kernel_rfl
theorem ck18 : (Rows.headerNamesSpec.vars.all (Program.varReadable Tryd.prog ·)) = true := by kernel_rfl
theorem ck19 : (Tryd.f13.resultTypes.all (fun t => Program.readableRec Tryd.prog t && decide (t < Tryd.prog.types.size))) = true := by kernel_rfl
theorem ck20 : ((Rows.headerNamesRow.ifacesOut == Tryd.f13.resultTypes.toList.any (Program.ifacesRec Tryd.prog ·))) = true := by kernel_rfl
theorem ck21 : ((Rows.headerNamesRow.loopsOut == Tryd.f13.resultTypes.toList.any (Program.loopsFrom Tryd.prog ·))) = true := by kernel_rfl
theorem ck22 : ((Rows.headerNamesRow.plainKeys == Program.plainKeys Tryd.prog)) = true := by kernel_rfl
theorem ck23 : (Rows.headerNamesRow.shortTexts.isNone) = true := by kernel_rfl
theorem ck24 : (Program.stopsHeard Tryd.prog) = true := by kernel_rfl
theorem ck25 : (Program.mayEnter Tryd.prog) = true := by kernel_rfl
theorem ck26 : ((Rows.headerNamesRow.lifted == Program.liftsFinal Tryd.prog)) = true := by kernel_rfl
theorem ck27 : ((Program.make Tryd.prog == some Rows.headerNamesRow.make)) = true := by kernel_rfl
theorem ck28 : ((Rows.headerNamesRow.kinds == (if Rows.headerNamesRow.domain.isEmpty then [] else Tryd.f13.params.toList.map fun t => match Program.underlying Tryd.prog t with | some (.int k) => some k | _ => none))) = true := by kernel_rfl
theorem ck29 : ((Rows.headerNamesRow.pinned == OpenClaim.pinnedBy Rows.headerNamesRow)) = true := by kernel_rfl
theorem ck30 : ((Rows.headerNamesRow.veiled == (Tryd.f13.params.toList ++ Rows.headerNamesSpec.plain.varTypes Tryd.prog ++ Tryd.f13.resultTypes.toList).any (Program.veiledRec Tryd.prog ·))) = true := by kernel_rfl
theorem ck31 : (OpenClaim.veiledFits Rows.headerNamesRow Tryd.prog Tryd.f13.params.toList (Tryd.f13.params.toList ++ Rows.headerNamesSpec.plain.varTypes Tryd.prog ++ Tryd.f13.resultTypes.toList)) = true := by kernel_rfl
theorem andI {a b : Bool} (h : a = true) (k : b = true) : (a && b) = true := by subst h; exact k
set_option maxRecDepth 100000 in
theorem c_closed' : joinedFacts Tryd.prog 13 Tryd.f13 Rows.headerNamesSpec Rows.headerNamesRow = true := by
  unfold joinedFacts
  exact andI (andI (andI (andI (andI (andI (andI (andI (andI (andI (andI (andI (andI (andI (andI (andI (andI (andI (andI (andI (andI (andI (andI (andI (andI (andI (andI (andI (andI (andI (andI (ck0) ck1) ck2) ck3) ck4) ck5) ck6) ck7) ck8) ck9) ck10) ck11) ck12) ck13) ck14) ck15) ck16) ck17) ck18) ck19) ck20) ck21) ck22) ck23) ck24) ck25) ck26) ck27) ck28) ck29) ck30) ck31
theorem c_closed : joinedFacts Tryd.pinned.checked.prog 13 Tryd.f13 Rows.headerNamesSpec Rows.headerNamesRow = true := c_closed'
theorem c_inst : Tryd.f13.isInstance Tryd.pinned.checked.prog Rows.headerNamesRow.origin Rows.headerNamesRow.targs := of_decide_eq_true (by kernel_rfl)
theorem c_wrap : Tryd.f13.isWrapper Tryd.pinned.checked.prog Rows.headerNamesRow.wrapper Rows.headerNamesRow.mainSum := by unfold Func.isWrapper; first | (rw [if_pos (by decide +kernel)]; kernel_rfl) | (rw [if_neg (by decide +kernel)]; exact ⟨rfl, rfl⟩)
theorem over : Rows.headerNamesRow.holds Tryd.pinned (OpenSpec.ofChange Rows.headerNamesSpec) :=
  OpenClaim.holds_of_wide 13 Tryd.f13 rfl rfl rfl rfl rfl rfl rfl ⟨rfl, rfl, rfl, rfl, rfl⟩ rfl rfl rfl rfl rfl c_named Tryd.func13 c_closed c_inst c_wrap
    (fun os started H enc _ => lifted os started H enc)
theorem d_wf : Rows.headerNamesRow.wfByText (OpenSpec.ofChange Rows.headerNamesSpec) = true := by kernel_rfl
theorem d_main : Tryd.pinned.checked.prog.mainIs = some (true, "8bd00b4d81639136289d52d9174289ec4f00a55324c4c22e8296d6a2662b1a7e".toList) := by kernel_rfl
theorem d_named : Tryd.prog.funcNamed "waymark/waymarklaw03.HeaderNames" = some 13 := by kernel_rfl
theorem d_looks : true = Tryd.pinned.checked.prog.looks [] := by kernel_rfl
theorem d_stand : (([] : List TypeId).all fun u => !Tryd.prog.wantsStandIn u) = true := by kernel_rfl
theorem d_goes : false = Rows.headerNamesRow.goesBy Tryd.pinned.checked.prog := by kernel_rfl
theorem card_holds : Rows.HeaderNamesCardSaid :=
  Claim7.holds_tied_plain_at .later [] [.data, .data, .data, .data, .sentinel, .sentinel, .pinned] true (true, "8bd00b4d81639136289d52d9174289ec4f00a55324c4c22e8296d6a2662b1a7e") true over (fun _ h => by cases h) d_wf (fun _ h => by cases h) headerNames_row_tie rfl ⟨rfl, rfl⟩ d_main rfl
    (fun f fn hf hfn => by
      obtain rfl : f = 13 := Option.some.inj (d_named.symm.trans hf) |>.symm
      obtain rfl : fn = Tryd.f13 := (Option.some.inj (Tryd.func13.symm.trans hfn)).symm
      exact ⟨d_looks, fun j t ht => by
        rw [Tryd.params13] at ht
        have hm : t ∈ ([] : List TypeId) := by simpa using Array.mem_of_getElem? ht
        exact (show Tryd.prog.wantsStandIn t = false by simpa using List.all_eq_true.1 d_stand t hm)⟩)
    d_goes
#print axioms card_holds
end Go.Proofs.YtbnihnggljagnaaDoor.headerNames
namespace Go.Proofs.YtbnihnggljagnaaDoor
/-- The card, under a short name, for the claim. -/
theorem headerNames_holds : Rows.HeaderNamesCardSaid := headerNames.card_holds
end Go.Proofs.YtbnihnggljagnaaDoor
