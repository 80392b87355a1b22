-- Written by this session's program wip/tools/lawcard.py.
import Derived.Test.YtbnihnggljagnaaDoorRows
import Derived.Test.YtbnihnggljagnaaDoorCards
import Derived.Test.YtbnihnggljagnaaDoorTie
import Derived.Test.YtbnihnggljagnaaDoorQHeaderOrderx
import Derived.Test.YtbnihnggljagnaaDoorHeaderOrderPureHeaderOrder
import Derived.Test.YtbnihnggljagnaaDoorWorldA
import Derived.Test.YtbnihnggljagnaaDoorLaidN
import Derived.Test.YtbnihnggljagnaaDoorTools
import Derived.Test.YtbnihnggljagnaaDoorHdrOpen
import Derived.WalkKit
import Derived.ProofKit
import Derived.OpenShut
import Derived.ShutString
import Derived.ChangeOld
import Derived.Below
import Derived.Carry
import Derived.SizedLaws
import Derived.HandedShaped
import Derived.Shelf.Vars
import Derived.Lib.SmallJoins
import Derived.LaidMore
import Derived.Lay
import Derived.SevenTiedAt
import Derived.Stop.Joined
namespace Go.Proofs.YtbnihnggljagnaaDoor.headerOrder
open Go.ChangeShapes Go.WideShapes Go.ChangeAt Go.RowKit Go.Proofs.YtbnihnggljagnaaDoor Go.Proofs.YtbnihnggljagnaaDoor.Tools
open Go.ChangeMaps (open_string shut_string)
set_option linter.unusedVariables false
set_option linter.unusedSimpArgs false
theorem own : ownKnob Tryd.prog.godebug = none := by kernel_rfl
theorem laidOut : laidOutB Tryd.prog = true := by kernel_rfl
/-- A law's wrap: what is laid, and the world's shape, both for the contract. -/
theorem wrap {H : Type} {enc : TypeId × Value → H} {a : Assume} {C : Checked} {os : Os} {f : FuncId} {fn : Func} {s : ChangeSpec} {conds : List PathCond} {apart fresh handsOn again : Bool} {X : World → Array Value → Prop}
    (hX : ∀ (w w' : World) (args : Array Value), w.heap = w'.heap → X w args → X w' args)
    (own : ownKnob C.prog.godebug = none) (started : os.Started) (noInit : C.prog.inits.idxOf? f = none) (hfn : C.prog.funcs[f]? = some fn)
    (witness : ∃ (w : World) (tape : Tape) (i : Input), w.os = os ∧ (w.forCall tape i).Shaped C.prog ∧ i.vars = [] ∧ Input.okWide C.prog (w.forCall tape i) .any w.heap.size f i ∧
      ((s.pre enc C.prog fn conds apart (w.forCall tape i).memory i.args ∧ X (w.forCall tape i).memory i.args) ∧ sizedMet enc C.prog fn (OpenSpec.ofChange s) apart (w.forCall tape i).memory i.args) ∧ a.holds C.prog (lone (Frame.enter C.prog f i.args .normal) [] (w.forCall tape i)))
    (contract : ∀ (W : World) (base : Nat) (args : Array Value) (ds gs : List (DataW H)) (before : List MemPlace),
      (∀ (j : Nat) t v, fn.params[j]? = some t → args[j]? = some v → Value.okWide C.prog W .any base t v) →
      DataW.Whole enc C.prog fn.params.toList s.vars apart W args.toList ds gs before →
      (DataW.weightsEach C.prog (fn.params.toList ++ s.plain.varTypes C.prog) (ds ++ gs)).all (· ≤ reachBytes) = true → X W args → W.ShapedOpen C.prog →
      Calls C.prog f args W fun e W' => ∃ v, e = .returned v ∧ s.post enc C.prog fn apart fresh handsOn again W args v W') :
    ReturnsInHanded a C os f .any (fun w args => (s.pre enc C.prog fn conds apart w args ∧ X w args) ∧ sizedMet enc C.prog fn (OpenSpec.ofChange s) apart w args) (s.post enc C.prog fn apart fresh handsOn again) := by
  refine returnsInHanded_of_calls own started noInit witness ?_
  intro w tape i _ hsh _ hok hpre hholds
  obtain ⟨_, _, _, fn', hfn', _, _, _, _, hval⟩ := hok
  have e : fn' = fn := Option.some.inj (hfn'.symm.trans hfn)
  subst e
  obtain ⟨⟨⟨ds, gs, before, hw, hc⟩, hx⟩, hz⟩ := hpre
  have hw' := DataW.Whole.of_heap (w' := w.forCall tape i) (by rfl) hw
  refine (contract (w.forCall tape i) w.heap.size i.args ds gs before hval hw' (hz.weights hw) (hX _ _ _ (by rfl) hx) hsh).mono fun e W' ⟨v, he, hp⟩ => ?_
  subst he
  exact ChangeSpec.post_blind hp
theorem d_plain : (Rows.headerOrderRow.laid.all fun x => x.2.handleName?.isNone) = true := by kernel_rfl
set_option maxRecDepth 100000 in
theorem lifted (os : Os) (started : os.Started) (H : Type) (enc : TypeId × Value → H) :
    ReturnsInHanded {} Tryd.checked os 16 .any (fun w args => (Rows.headerOrderSpec.pre enc Tryd.prog Tryd.f16 Rows.headerOrderRow.domain false w args ∧ laidMetH Tryd.prog Rows.headerOrderRow.laid w) ∧ sizedMet enc Tryd.prog Tryd.f16 (OpenSpec.ofChange Rows.headerOrderSpec) false w args) (Rows.headerOrderSpec.post enc Tryd.prog Tryd.f16 false true false false) := by
  refine wrap (C := Tryd.checked) (X := fun w _ => laidMetH Tryd.prog Rows.headerOrderRow.laid w) (fun _ _ _ hh h => h.of_heap hh) own started (by kernel_rfl) Tryd.func16
    (ChangeSpec.witness_shaped (enc := enc) (C := Tryd.checked) (os := os) (X := fun w _ => laidMetH Tryd.prog Rows.headerOrderRow.laid w) false (World.laidAll Tryd.prog os Rows.headerOrderRow.laid) #[.agg #[.int .u32 0, .int .u32 0, .int .u8 0, .int .u16 0, .int .u16 0], .agg #[.int .u32 0, .int .u32 0, .int .u8 0, .int .u16 0, .int .u16 0], .int .i64 0] 8 (World.laidAll_os _ _ _)
      (World.shaped_of_ZipB (by kernel_rfl) (by kernel_rfl)) (by kernel_rfl) (by kernel_rfl) (by kernel_rfl)
      (by rw [MakeChecks.laidMetH_plain _ _ _ (by kernel_rfl)]; exact laidMet_laidAll _ (by kernel_rfl) (by kernel_rfl))) ?_
  intro W base args ds gs before hval0 hW hsz0 hL hsh
  have hM : laidMet Tryd.prog Rows.headerOrderRow.laid W := by rw [← MakeChecks.laidMetH_plain _ _ _ d_plain]; exact hL
  have hG : WorldA.GW W := ⟨Go.Proofs.cell_of_shapedOpen_int (zero := #[.int .i64 0]) (t := 3) hsh (of_decide_eq_true (by kernel_rfl)) (by kernel_rfl) rfl (by kernel_rfl) (by kernel_rfl) Tryd.underlying3, WorldN.gn_of hM 2 4 5 rfl rfl rfl⟩
  have hval : ∀ (j : Nat) t v, Tryd.f16.params[j]? = some t → args[j]? = some v → Value.okWide Tryd.prog W .any base t v := hval0
  have hW' := hW
  obtain ⟨p, q, hA0, hV, rfl, hfz, hnd⟩ := hW
  have hA : DataW.TrodAll enc Tryd.prog W 0 (fun _ => true) true Tryd.f16.params.toList args.toList ds p := hA0
  rw [Tryd.params16] at hA hval
  obtain ⟨v0, vs0, d0, ds0, p0, q0, hargs, rfl, rfl, h0, r0⟩ := trodAll_cons hA
  obtain ⟨v1, vs1, d1, ds1, p1, q1, rfl, rfl, rfl, h1, r1⟩ := trodAll_cons r0
  obtain ⟨v2, vs2, d2, ds2, p2, q2, rfl, rfl, rfl, h2, r2⟩ := trodAll_cons r1
  obtain ⟨rfl, rfl, rfl⟩ := trodAll_nil r2
  obtain rfl : args = #[v0, v1, v2] := by cases args; simp_all
  obtain ⟨rfl, rfl⟩ := trodVars_none hV
  have h0k := h0
  have h0l : ∀ x ∈ p0, x.block < W.heap.size := fun x hx => by obtain ⟨n, hn⟩ := h0k; exact DataW.trod_lt n _ _ _ hn x hx
  have h1k := h1
  have h1l : ∀ x ∈ p1, x.block < W.heap.size := fun x hx => by obtain ⟨n, hn⟩ := h1k; exact DataW.trod_lt n _ _ _ hn x hx
  have h2k := h2
  have h2l : ∀ x ∈ p2, x.block < W.heap.size := fun x hx => by obtain ⟨n, hn⟩ := h2k; exact DataW.trod_lt n _ _ _ hn x hx
  obtain ⟨a0_0, a0_1, a0_2, a0_3, a0_4, rfl, rfl, rfl, w0⟩ := HdrOpen.open_hdr (hval 0 91 v0 rfl rfl) h0
  obtain ⟨a1_0, a1_1, a1_2, a1_3, a1_4, rfl, rfl, rfl, w1⟩ := HdrOpen.open_hdr (hval 1 91 v1 rfl rfl) h1
  obtain ⟨a2, rfl, rfl, rfl, w2⟩ := open_int Tryd.underlying3 (hval 2 3 v2 rfl rfl) h2
  clear hA0 hval0 hsz0
  obtain ⟨k, hk⟩ := QHeaderOrder.headerOrder_pure a0_0 a0_1 a0_2 a0_3 a0_4 a1_0 a1_1 a1_2 a1_3 a1_4 a2 w0 w1
  refine (QHeaderOrder.waymarklaw03_HeaderOrder.calls k a0_0 a0_1 a0_2 a0_3 a0_4 a1_0 a1_1 a1_2 a1_3 a1_4 a2 true W hG hk).mono fun e W' ⟨he, bel⟩ => ?_
  subst he
  exact ⟨_, rfl, _, _, _, [], _, [], hW', trodAll_mk1 (shut_bool Tryd.underlying4 _), (trodAll_cons_mk (Below.trod laidOut (by kernel_rfl) (of_decide_eq_true (by kernel_rfl)) h0k bel h0l) (trodAll_cons_mk (Below.trod laidOut (by kernel_rfl) (of_decide_eq_true (by kernel_rfl)) h1k bel h1l) (trodAll_cons_mk (Below.trod laidOut (by kernel_rfl) (of_decide_eq_true (by kernel_rfl)) h2k bel h2l) trodAll_mk0))), rfl, bel.frame _, fun h => by cases h⟩
theorem c_named : Tryd.pinned.checked.prog.funcNamed Rows.headerOrderRow.func = some 16 := by kernel_rfl
theorem ck0 : (Rows.headerOrderRow.wf (OpenSpec.ofChange Rows.headerOrderSpec)) = true := by kernel_rfl
theorem ck1 : (laidOutB Tryd.prog) = true := by kernel_rfl
theorem ck2 : (mapsRowed Tryd.prog) = true := by kernel_rfl
theorem ck3 : (Tryd.f16.params.all (Program.readableRec Tryd.prog ·)) = true := by kernel_rfl
theorem ck4 : (namedTie Tryd.prog Rows.headerOrderRow.named Rows.headerOrderSpec.vars) = true := by kernel_rfl
theorem ck5 : ((Rows.headerOrderRow.stops == [])) = true := by kernel_rfl
theorem ck6 : ((Tryd.prog.stops == [])) = true := by kernel_rfl
theorem ck7 : ((Rows.headerOrderRow.knobs == [])) = true := by kernel_rfl
theorem ck8 : ((Tryd.prog.stopKnobs == [])) = true := by kernel_rfl
theorem ck9 : ((Rows.headerOrderRow.inPlace == Program.inPlace Tryd.prog 16)) = true := by kernel_rfl
theorem ck10 : ((Rows.headerOrderRow.unfollowed == Program.unfollowed Tryd.prog 16)) = true := by kernel_rfl
theorem ck11 : ((Rows.headerOrderRow.recurses == Program.recurses Tryd.prog 16)) = true := by kernel_rfl
theorem ck12 : ((Rows.headerOrderRow.named == Program.varsNamed Tryd.prog 16)) = true := by kernel_rfl
theorem ck13 : ((Rows.headerOrderRow.maps == (Tryd.f16.params.toList ++ Rows.headerOrderSpec.plain.varTypes Tryd.prog).any (Program.mapsRec Tryd.prog ·))) = true := by kernel_rfl
theorem ck14 : ((Rows.headerOrderRow.ifaces == (Tryd.f16.params.toList ++ Rows.headerOrderSpec.plain.varTypes Tryd.prog).any (Program.ifacesRec Tryd.prog ·))) = true := by kernel_rfl
theorem ck15 : ((Rows.headerOrderRow.mapsOut == Program.mapsAmong Tryd.prog Tryd.f16.resultTypes.toList)) = true := by kernel_rfl
theorem ck16 : ((Rows.headerOrderRow.loops == (Tryd.f16.params.toList ++ Rows.headerOrderSpec.plain.varTypes Tryd.prog).any (Program.loopsFrom Tryd.prog ·))) = true := by kernel_rfl
theorem ck17 : ((Rows.headerOrderRow.wideKeys == (Tryd.f16.params.toList ++ Rows.headerOrderSpec.plain.varTypes Tryd.prog ++ Tryd.f16.resultTypes.toList).any (Program.wideKeysFrom Tryd.prog ·))) = true := by kernel_rfl
theorem ck18 : (Rows.headerOrderSpec.vars.all (Program.varReadable Tryd.prog ·)) = true := by kernel_rfl
theorem ck19 : (Tryd.f16.resultTypes.all (fun t => Program.readableRec Tryd.prog t && decide (t < Tryd.prog.types.size))) = true := by kernel_rfl
theorem ck20 : ((Rows.headerOrderRow.ifacesOut == Tryd.f16.resultTypes.toList.any (Program.ifacesRec Tryd.prog ·))) = true := by kernel_rfl
theorem ck21 : ((Rows.headerOrderRow.loopsOut == Tryd.f16.resultTypes.toList.any (Program.loopsFrom Tryd.prog ·))) = true := by kernel_rfl
theorem ck22 : ((Rows.headerOrderRow.plainKeys == Program.plainKeys Tryd.prog)) = true := by kernel_rfl
theorem ck23 : (Rows.headerOrderRow.shortTexts.isNone) = true := by kernel_rfl
theorem ck24 : (Program.stopsHeard Tryd.prog) = true := by kernel_rfl
theorem ck25 : (Program.mayEnter Tryd.prog) = true := by kernel_rfl
theorem ck26 : ((Rows.headerOrderRow.lifted == Program.liftsFinal Tryd.prog)) = true := by kernel_rfl
theorem ck27 : ((Program.make Tryd.prog == some Rows.headerOrderRow.make)) = true := by kernel_rfl
theorem ck28 : ((Rows.headerOrderRow.kinds == (if Rows.headerOrderRow.domain.isEmpty then [] else Tryd.f16.params.toList.map fun t => match Program.underlying Tryd.prog t with | some (.int k) => some k | _ => none))) = true := by kernel_rfl
theorem ck29 : ((Rows.headerOrderRow.pinned == OpenClaim.pinnedBy Rows.headerOrderRow)) = true := by kernel_rfl
theorem ck30 : ((Rows.headerOrderRow.veiled == (Tryd.f16.params.toList ++ Rows.headerOrderSpec.plain.varTypes Tryd.prog ++ Tryd.f16.resultTypes.toList).any (Program.veiledRec Tryd.prog ·))) = true := by kernel_rfl
theorem ck31 : (OpenClaim.veiledFits Rows.headerOrderRow Tryd.prog Tryd.f16.params.toList (Tryd.f16.params.toList ++ Rows.headerOrderSpec.plain.varTypes Tryd.prog ++ Tryd.f16.resultTypes.toList)) = true := by kernel_rfl
theorem andI {a b : Bool} (h : a = true) (k : b = true) : (a && b) = true := by subst h; exact k
set_option maxRecDepth 100000 in
theorem c_closed' : joinedFacts Tryd.prog 16 Tryd.f16 Rows.headerOrderSpec Rows.headerOrderRow = true := by
  unfold joinedFacts
  exact andI (andI (andI (andI (andI (andI (andI (andI (andI (andI (andI (andI (andI (andI (andI (andI (andI (andI (andI (andI (andI (andI (andI (andI (andI (andI (andI (andI (andI (andI (andI (ck0) ck1) ck2) ck3) ck4) ck5) ck6) ck7) ck8) ck9) ck10) ck11) ck12) ck13) ck14) ck15) ck16) ck17) ck18) ck19) ck20) ck21) ck22) ck23) ck24) ck25) ck26) ck27) ck28) ck29) ck30) ck31
theorem c_closed : joinedFacts Tryd.pinned.checked.prog 16 Tryd.f16 Rows.headerOrderSpec Rows.headerOrderRow = true := c_closed'
theorem c_inst : Tryd.f16.isInstance Tryd.pinned.checked.prog Rows.headerOrderRow.origin Rows.headerOrderRow.targs := of_decide_eq_true (by kernel_rfl)
theorem c_wrap : Tryd.f16.isWrapper Tryd.pinned.checked.prog Rows.headerOrderRow.wrapper Rows.headerOrderRow.mainSum := by unfold Func.isWrapper; first | (rw [if_pos (by decide +kernel)]; kernel_rfl) | (rw [if_neg (by decide +kernel)]; exact ⟨rfl, rfl⟩)
theorem over : Rows.headerOrderRow.holds Tryd.pinned (OpenSpec.ofChange Rows.headerOrderSpec) :=
  OpenClaim.holds_of_wide 16 Tryd.f16 rfl rfl rfl rfl rfl rfl rfl ⟨rfl, rfl, rfl, rfl, rfl⟩ rfl rfl rfl rfl rfl c_named Tryd.func16 c_closed c_inst c_wrap
    (fun os started H enc _ => lifted os started H enc)
theorem d_wf : Rows.headerOrderRow.wfByText (OpenSpec.ofChange Rows.headerOrderSpec) = true := by kernel_rfl
theorem d_main : Tryd.pinned.checked.prog.mainIs = some (true, "8bd00b4d81639136289d52d9174289ec4f00a55324c4c22e8296d6a2662b1a7e".toList) := by kernel_rfl
theorem d_named : Tryd.prog.funcNamed "waymark/waymarklaw03.HeaderOrder" = some 16 := by kernel_rfl
theorem d_looks : true = Tryd.pinned.checked.prog.looks [] := by kernel_rfl
theorem d_stand : (([91, 91, 3] : List TypeId).all fun u => !Tryd.prog.wantsStandIn u) = true := by kernel_rfl
theorem d_goes : false = Rows.headerOrderRow.goesBy Tryd.pinned.checked.prog := by kernel_rfl
theorem card_holds : Rows.HeaderOrderCardSaid :=
  Claim7.holds_tied_plain_at .later [] [.data, .data, .data, .data, .sentinel, .sentinel, .pinned] true (true, "8bd00b4d81639136289d52d9174289ec4f00a55324c4c22e8296d6a2662b1a7e") true over (fun _ h => by cases h) d_wf (fun _ h => by cases h) headerOrder_row_tie rfl ⟨rfl, rfl⟩ d_main rfl
    (fun f fn hf hfn => by
      obtain rfl : f = 16 := Option.some.inj (d_named.symm.trans hf) |>.symm
      obtain rfl : fn = Tryd.f16 := (Option.some.inj (Tryd.func16.symm.trans hfn)).symm
      exact ⟨d_looks, fun j t ht => by
        rw [Tryd.params16] at ht
        have hm : t ∈ ([91, 91, 3] : List TypeId) := by simpa using Array.mem_of_getElem? ht
        exact (show Tryd.prog.wantsStandIn t = false by simpa using List.all_eq_true.1 d_stand t hm)⟩)
    d_goes
#print axioms card_holds
end Go.Proofs.YtbnihnggljagnaaDoor.headerOrder
namespace Go.Proofs.YtbnihnggljagnaaDoor
/-- The card, under a short name, for the claim. -/
theorem headerOrder_holds : Rows.HeaderOrderCardSaid := headerOrder.card_holds
end Go.Proofs.YtbnihnggljagnaaDoor
