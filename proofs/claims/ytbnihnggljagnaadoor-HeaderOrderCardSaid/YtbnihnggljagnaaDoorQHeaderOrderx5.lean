-- Written by this session's program (wip/tools/printx.py) over the kit's print; the texts marked HAND are its own. Lean checks it.
import Derived.Test.YtbnihnggljagnaaDoorQHeaderOrderx0
import Derived.Test.YtbnihnggljagnaaDoorQHeaderOrderx2
import Derived.Test.YtbnihnggljagnaaDoorQHeaderOrderx3
import Derived.Test.YtbnihnggljagnaaDoorQHeaderOrderx4
namespace Go.Proofs.YtbnihnggljagnaaDoor.QHeaderOrder
open Go.RowKit Go.Proofs.YtbnihnggljagnaaDoorW.PrintWords Go.Proofs.YtbnihnggljagnaaDoorW.PrintLast Go.Proofs.YtbnihnggljagnaaDoorW.PrintMore
attribute [local go_sem] max2_int min2_int max_two min_two max_three min_three max_four min_four   -- for this text's walks alone
attribute [local go_sem high] Go.Proofs.YtbnihnggljagnaaDoor.Base.ux_u32 Go.Proofs.YtbnihnggljagnaaDoor.Base.ux_u64 Go.Proofs.YtbnihnggljagnaaDoor.Base.ux_u8 Go.Proofs.YtbnihnggljagnaaDoor.Base.ux_u16
set_option linter.unusedVariables false
set_option linter.unusedSimpArgs false

/-! ### header_Cmp: function 70 -/
open Go.Proofs.YtbnihnggljagnaaDoor.HdrMath
theorem run_store_row {P : Program} {o : Oper} {a : Act} {w : World} (ty : TypeId) (x y : Operand) (ho : o.op = .store ty x y) (g : Nat) (cells : Array Value) (hx : a.eval x = .pointer (some ⟨g, 0, none⟩)) (hy : a.eval y = .agg cells)
    (t : TypeId) (old : Array Value) (hg : w.heap[g]? = some (.cells old t (0, 0))) (hi : (P.info? ty).map (·.size) = some cells.size) (hold : old.size = cells.size) (h1 : cells.all (·.oneCell') = true) :
    (execOp a.eval o).run P w = .ok .skip (w.setRow g cells) := by
  unfold execOp
  simp only [ho, hx, hy, Instr.storeAt, Instr.sureAddr, Sem.run_bind, Sem.run_pure, Result.andThen_ok, run_storeVar_row w g t ty old cells hg hi hold h1]
theorem bytes_rowC (s d p sp dp : Int) (w : World) :
    Calls Tryd.prog 59 #[.agg #[.int .u32 s, .int .u32 d, .int .u8 p, .int .u16 sp, .int .u16 dp]] w fun e w' => e = .returned (.agg (rowOf (byteN s d p sp dp))) ∧ Below w.heap.size w w' := header_Bytes.calls s d p sp dp w
def cmpTab : Bool × List (List Nat × List Nat) := (true, [([], []), ([0], [0]), ([], []), ([2, 1], [2]), ([], []), ([], []), ([4, 1, 3, 0, 1, 3, 4, 5], [1, 4]), ([5, 3, 6, 0, 1, 2, 3, 4, 5, 6], [3, 5])])
theorem cmpTab_is : rtab .any (opsOf Tryd.f70 1) = cmpTab := by kernel_rfl
set_option maxRecDepth 100000 in
set_option maxHeartbeats 4000000 in
theorem hcmp_calls (s d p sp dp s2 d2 p2 sp2 dp2 : Int) (w : World) (ha : Aside0 (∀ n, 0 ≤ byteN s d p sp dp n ∧ byteN s d p sp dp n ≤ 255)) (hb : Aside0 (∀ n, 0 ≤ byteN s2 d2 p2 sp2 dp2 n ∧ byteN s2 d2 p2 sp2 dp2 n ≤ 255)) :
    Calls Tryd.prog 70 #[.agg #[.int .u32 s, .int .u32 d, .int .u8 p, .int .u16 sp, .int .u16 dp], .agg #[.int .u32 s2, .int .u32 d2, .int .u8 p2, .int .u16 sp2, .int .u16 dp2]] w fun e w' => e = .returned (.int .i64 (lexI (listOf (byteN s d p sp dp)) (listOf (byteN s2 d2 p2 sp2 dp2)))) ∧ Below w.heap.size w w' := by
  have HI3 := Aside0.mk (show (Tryd.prog.info? 92).map (·.size) = some 13 from by kernel_rfl)
  have hA0 : ((w.alloc (.cells #[.int .u32 s, .int .u32 d, .int .u8 p, .int .u16 sp, .int .u16 dp] 91 (0, 0))).alloc (.cells #[.int .u32 s2, .int .u32 d2, .int .u8 p2, .int .u16 sp2, .int .u16 dp2] 91 (0, 0))).heap[w.heap.size]? = some (.cells #[.int .u32 s, .int .u32 d, .int .u8 p, .int .u16 sp, .int .u16 dp] 91 (0, 0)) := blk_alloc (blk_new _ _) _
  have hA1 : ((w.alloc (.cells #[.int .u32 s, .int .u32 d, .int .u8 p, .int .u16 sp, .int .u16 dp] 91 (0, 0))).alloc (.cells #[.int .u32 s2, .int .u32 d2, .int .u8 p2, .int .u16 sp2, .int .u16 dp2] 91 (0, 0))).heap[w.heap.size + 1]? = some (.cells #[.int .u32 s2, .int .u32 d2, .int .u8 p2, .int .u16 sp2, .int .u16 dp2] 91 (0, 0)) := by have h := blk_new (w.alloc (.cells #[.int .u32 s, .int .u32 d, .int .u8 p, .int .u16 sp, .int .u16 dp] 91 (0, 0))) (.cells #[.int .u32 s2, .int .u32 d2, .int .u8 p2, .int .u16 sp2, .int .u16 dp2] 91 (0, 0)); simpa using h
  have hBW : Below w.heap.size w ((w.alloc (.cells #[.int .u32 s, .int .u32 d, .int .u8 p, .int .u16 sp, .int .u16 dp] 91 (0, 0))).alloc (.cells #[.int .u32 s2, .int .u32 d2, .int .u8 p2, .int .u16 sp2, .int .u16 dp2] 91 (0, 0))) := ((Below.refl _ w).alloc (Nat.le_refl _) _).alloc (by simp) _
  have HA0 := Aside0.mk hA0
  have HA1 := Aside0.mk hA1
  have HBW := Aside0.mk hBW
  clear hA0 hA1 hBW
  go_enter Tryd.func70, Tryd.ntmps70
  go_wp2
  generalize ((w.alloc (.cells #[.int .u32 s, .int .u32 d, .int .u8 p, .int .u16 sp, .int .u16 dp] 91 (0, 0))).alloc (.cells #[.int .u32 s2, .int .u32 d2, .int .u8 p2, .int .u16 sp2, .int .u16 dp2] 91 (0, 0))) = W0 at HA0 HA1 HBW ⊢
  refine start_ (n := 8) (S := fun w' => Below W0.heap.size W0 w') (ds := []) #[false, false, false, false, false, false, false, false] (by kernel_rfl) rfl rfl (below_drew1 (Below.refl _ _)) (fun hS => ?_); refine with_tab cmpTab_is (fun HT_ => ?_)
  generalize W0.drew = w0 at hS ⊢
  have HS := Aside0.mk hS
  clear hS
  refine take_ (i := 0) (N := some 7) (v := ?_) (a' := ?_) #[true, false, false, false, false, false, false, false] rfl rfl (take_of HT_.out (by kernel_rfl)) (fun _ _ _ h => h) (Or.inl ⟨by rfl, ?_⟩) HS.out ?_ ?_
  rotate_left
  · intro w' hS
    have hx := blk_below HA0.out hS
    have c0 := blk_cell hx 0
    simp at c0
    have c1 := blk_cell hx 1
    simp at c1
    have c2 := blk_cell hx 2
    simp at c2
    have c3 := blk_cell hx 3
    simp at c3
    have c4 := blk_cell hx 4
    simp at c4
    clear hx
    go_simp
    with_reducible rfl
  rotate_left
  · simp only [Act.put, List.setIfInBounds_toArray, List.set_cons_zero, List.set_cons_succ]
    rfl
  refine take_ (i := 2) (N := some 9) (v := ?_) (a' := ?_) #[true, false, true, false, false, false, false, false] rfl rfl (take_of HT_.out (by kernel_rfl)) (fun _ _ _ h => h) (Or.inl ⟨by rfl, ?_⟩) HS.out ?_ ?_
  rotate_left
  · intro w' hS
    have hx := blk_below HA1.out hS
    have c0 := blk_cell hx 0
    simp at c0
    have c1 := blk_cell hx 1
    simp at c1
    have c2 := blk_cell hx 2
    simp at c2
    have c3 := blk_cell hx 3
    simp at c3
    have c4 := blk_cell hx 4
    simp at c4
    clear hx
    go_simp
    with_reducible rfl
  rotate_left
  · simp only [Act.put, List.setIfInBounds_toArray, List.set_cons_zero, List.set_cons_succ]
    rfl
  refine join_ (σ := Nat × Nat) 2 #[true, true, true, true, true, true, false, false] (fun s_ => [(8, .agg (rowOf (byteN s d p sp dp))), (10, .agg (rowOf (byteN s2 d2 p2 sp2 dp2))), (5, .pointer (some ⟨s_.1, 0, none⟩)), (6, .pointer (some ⟨s_.2, 0, none⟩))]) (fun s_ w' => Below W0.heap.size W0 w' ∧ w'.heap[s_.1]? = some (.cells #[.int .u8 0, .int .u8 0, .int .u8 0, .int .u8 0, .int .u8 0, .int .u8 0, .int .u8 0, .int .u8 0, .int .u8 0, .int .u8 0, .int .u8 0, .int .u8 0, .int .u8 0] 92 (0, 0)) ∧ w'.heap[s_.2]? = some (.cells #[.int .u8 0, .int .u8 0, .int .u8 0, .int .u8 0, .int .u8 0, .int .u8 0, .int .u8 0, .int .u8 0, .int .u8 0, .int .u8 0, .int .u8 0, .int .u8 0, .int .u8 0] 92 (0, 0)) ∧ s_.1 ≠ s_.2 ∧ W0.heap.size ≤ s_.1 ∧ W0.heap.size ≤ s_.2) ?_ ?_
  rotate_left
  · intro hCont
    refine three_ (i := 1) (j := 4) (k := 5) (Ni := some 8) (Nj := some 5) (Nk := some 6) #[true, true, true, false, false, false, false, false] #[true, false, true, false, true, false, false, false] #[true, false, true, false, false, true, false, false] rfl rfl rfl rfl rfl rfl (three_of HT_.out (by kernel_rfl)) (by decide) (by decide) (by decide) (fun K hK => ?_) (fun K hK => ?_) (fun K hK => ?_)
    · skip
      refine goes_ Tryd.func59 (by kernel_rfl) rfl #[.agg #[.int .u32 s, .int .u32 d, .int .u8 p, .int .u16 sp, .int .u16 dp]] (by rfl) rfl rfl (by (try simp only [List.map_toArray, List.map_cons, List.map_nil]); first | done | rfl) ?_
      refine (bytes_rowC s d p sp dp _).mono ?_
      rintro e w1 ⟨rfl, hbx⟩
      refine ⟨_, rfl, ?_⟩
      have HSn := Aside0.mk (HS.out.trans (hbx.mono HS.out.size))
      clear hbx HS
      refine hK.out _ _ HSn.out (fun _ => ?_)
      clear hK K
      have HS := HSn
      clear HSn
      refine norm_ (a' := ?_) ?_ ?_
      rotate_left
      · show Act.put _ (some 8) _ = _
        simp only [Act.put, List.setIfInBounds_toArray, List.set_cons_zero, List.set_cons_succ]
        rfl
      refine three_ (i := 3) (j := 4) (k := 5) (Ni := some 10) (Nj := some 5) (Nk := some 6) #[true, true, true, true, false, false, false, false] #[true, true, true, false, true, false, false, false] #[true, true, true, false, false, true, false, false] rfl rfl rfl rfl rfl rfl (three_of HT_.out (by kernel_rfl)) (by decide) (by decide) (by decide) (fun K hK => ?_) (fun K hK => ?_) (fun K hK => ?_)
      · skip
        refine goes_ Tryd.func59 (by kernel_rfl) rfl #[.agg #[.int .u32 s2, .int .u32 d2, .int .u8 p2, .int .u16 sp2, .int .u16 dp2]] (by rfl) rfl rfl (by (try simp only [List.map_toArray, List.map_cons, List.map_nil]); first | done | rfl) ?_
        refine (bytes_rowC s2 d2 p2 sp2 dp2 _).mono ?_
        rintro e w2 ⟨rfl, hbx⟩
        refine ⟨_, rfl, ?_⟩
        have HSn := Aside0.mk (HS.out.trans (hbx.mono HS.out.size))
        clear hbx HS
        refine hK.out _ _ HSn.out (fun _ => ?_)
        clear hK K
        have HS := HSn
        clear HSn
        refine norm_ (a' := ?_) ?_ ?_
        rotate_left
        · show Act.put _ (some 10) _ = _
          simp only [Act.put, List.setIfInBounds_toArray, List.set_cons_zero, List.set_cons_succ]
          rfl
        refine two_ (i := 4) (j := 5) (Ni := some 5) (Nj := some 6) #[true, true, true, true, true, false, false, false] #[true, true, true, true, false, true, false, false] rfl rfl rfl rfl (two_of HT_.out (by kernel_rfl)) (by decide) (by decide) (fun K hK => ?_) (fun K hK => ?_)
        · skip
          refine box_step ?hg (N := 5) ?hd (cs := #[.int .u8 0, .int .u8 0, .int .u8 0, .int .u8 0, .int .u8 0, .int .u8 0, .int .u8 0, .int .u8 0, .int .u8 0, .int .u8 0, .int .u8 0, .int .u8 0, .int .u8 0]) (t := 92) ?hr ?_; (case hd => rfl); (case hg => rfl); (case hr => first | (go_simp; done) | (go_simp; rfl))
          intro g5 hg w3 hbox hbx
          have H5 := Aside0.mk hbox
          have L5 := Aside0.mk (show W0.heap.size ≤ g5 by have := HS.out.size; omega)
          have HSn := Aside0.mk (HS.out.trans (hbx.mono HS.out.size))
          clear hbx HS hbox hg
          refine hK.out _ _ HSn.out (fun _ => ?_)
          clear hK K
          have HS := HSn
          clear HSn
          refine norm_ (a' := ?_) ?_ ?_
          rotate_left
          · show Act.put _ (some 5) _ = _
            simp only [Act.put, List.setIfInBounds_toArray, List.set_cons_zero, List.set_cons_succ]
            rfl
          refine one_ (i := 5) (N := some 6) #[true, true, true, true, true, true, false, false] rfl rfl (one_of HT_.out (by kernel_rfl)) (by decide) (fun K hK => ?_)
          refine box_step ?hg (N := 6) ?hd (cs := #[.int .u8 0, .int .u8 0, .int .u8 0, .int .u8 0, .int .u8 0, .int .u8 0, .int .u8 0, .int .u8 0, .int .u8 0, .int .u8 0, .int .u8 0, .int .u8 0, .int .u8 0]) (t := 92) ?hr ?_; (case hd => rfl); (case hg => rfl); (case hr => first | (go_simp; done) | (go_simp; rfl))
          intro g6 hg w4 hbox hbx
          have NE := Aside0.mk (show g5 ≠ g6 by have := blk_lt H5.out; omega)
          replace H5 := Aside0.mk (blk_below H5.out hbx)
          have H6 := Aside0.mk hbox
          have L6 := Aside0.mk (show W0.heap.size ≤ g6 by have := HS.out.size; omega)
          have HSn := Aside0.mk (HS.out.trans (hbx.mono HS.out.size))
          clear hbx HS hbox hg
          refine hK.out _ _ HSn.out (fun _ => ?_)
          clear hK K
          have HS := HSn
          clear HSn
          refine norm_ (a' := ?_) ?_ ?_
          rotate_left
          · show Act.put _ (some 6) _ = _
            simp only [Act.put, List.setIfInBounds_toArray, List.set_cons_zero, List.set_cons_succ]
            rfl
          exact norm_ (by simp only [putAll, Act.put, List.setIfInBounds_toArray, List.set_cons_zero, List.set_cons_succ]) (hCont (g5, g6) _ ⟨HS.out, H5.out, H6.out, NE.out, L5.out, L6.out⟩)
        · skip
          refine box_step ?hg (N := 6) ?hd (cs := #[.int .u8 0, .int .u8 0, .int .u8 0, .int .u8 0, .int .u8 0, .int .u8 0, .int .u8 0, .int .u8 0, .int .u8 0, .int .u8 0, .int .u8 0, .int .u8 0, .int .u8 0]) (t := 92) ?hr ?_; (case hd => rfl); (case hg => rfl); (case hr => first | (go_simp; done) | (go_simp; rfl))
          intro g6 hg w5 hbox hbx
          have H6 := Aside0.mk hbox
          have L6 := Aside0.mk (show W0.heap.size ≤ g6 by have := HS.out.size; omega)
          have HSn := Aside0.mk (HS.out.trans (hbx.mono HS.out.size))
          clear hbx HS hbox hg
          refine hK.out _ _ HSn.out (fun _ => ?_)
          clear hK K
          have HS := HSn
          clear HSn
          refine norm_ (a' := ?_) ?_ ?_
          rotate_left
          · show Act.put _ (some 6) _ = _
            simp only [Act.put, List.setIfInBounds_toArray, List.set_cons_zero, List.set_cons_succ]
            rfl
          refine one_ (i := 4) (N := some 5) #[true, true, true, true, true, true, false, false] rfl rfl (one_of HT_.out (by kernel_rfl)) (by decide) (fun K hK => ?_)
          refine box_step ?hg (N := 5) ?hd (cs := #[.int .u8 0, .int .u8 0, .int .u8 0, .int .u8 0, .int .u8 0, .int .u8 0, .int .u8 0, .int .u8 0, .int .u8 0, .int .u8 0, .int .u8 0, .int .u8 0, .int .u8 0]) (t := 92) ?hr ?_; (case hd => rfl); (case hg => rfl); (case hr => first | (go_simp; done) | (go_simp; rfl))
          intro g5 hg w6 hbox hbx
          have NE := Aside0.mk (show g5 ≠ g6 by have := blk_lt H6.out; omega)
          replace H6 := Aside0.mk (blk_below H6.out hbx)
          have H5 := Aside0.mk hbox
          have L5 := Aside0.mk (show W0.heap.size ≤ g5 by have := HS.out.size; omega)
          have HSn := Aside0.mk (HS.out.trans (hbx.mono HS.out.size))
          clear hbx HS hbox hg
          refine hK.out _ _ HSn.out (fun _ => ?_)
          clear hK K
          have HS := HSn
          clear HSn
          refine norm_ (a' := ?_) ?_ ?_
          rotate_left
          · show Act.put _ (some 5) _ = _
            simp only [Act.put, List.setIfInBounds_toArray, List.set_cons_zero, List.set_cons_succ]
            rfl
          exact norm_ (by simp only [putAll, Act.put, List.setIfInBounds_toArray, List.set_cons_zero, List.set_cons_succ]) (hCont (g5, g6) _ ⟨HS.out, H5.out, H6.out, NE.out, L5.out, L6.out⟩)
      · skip
        refine box_step ?hg (N := 5) ?hd (cs := #[.int .u8 0, .int .u8 0, .int .u8 0, .int .u8 0, .int .u8 0, .int .u8 0, .int .u8 0, .int .u8 0, .int .u8 0, .int .u8 0, .int .u8 0, .int .u8 0, .int .u8 0]) (t := 92) ?hr ?_; (case hd => rfl); (case hg => rfl); (case hr => first | (go_simp; done) | (go_simp; rfl))
        intro g5 hg w7 hbox hbx
        have H5 := Aside0.mk hbox
        have L5 := Aside0.mk (show W0.heap.size ≤ g5 by have := HS.out.size; omega)
        have HSn := Aside0.mk (HS.out.trans (hbx.mono HS.out.size))
        clear hbx HS hbox hg
        refine hK.out _ _ HSn.out (fun _ => ?_)
        clear hK K
        have HS := HSn
        clear HSn
        refine norm_ (a' := ?_) ?_ ?_
        rotate_left
        · show Act.put _ (some 5) _ = _
          simp only [Act.put, List.setIfInBounds_toArray, List.set_cons_zero, List.set_cons_succ]
          rfl
        refine two_ (i := 3) (j := 5) (Ni := some 10) (Nj := some 6) #[true, true, true, true, true, false, false, false] #[true, true, true, false, true, true, false, false] rfl rfl rfl rfl (two_of HT_.out (by kernel_rfl)) (by decide) (by decide) (fun K hK => ?_) (fun K hK => ?_)
        · skip
          refine goes_ Tryd.func59 (by kernel_rfl) rfl #[.agg #[.int .u32 s2, .int .u32 d2, .int .u8 p2, .int .u16 sp2, .int .u16 dp2]] (by rfl) rfl rfl (by (try simp only [List.map_toArray, List.map_cons, List.map_nil]); first | done | rfl) ?_
          refine (bytes_rowC s2 d2 p2 sp2 dp2 _).mono ?_
          rintro e w8 ⟨rfl, hbx⟩
          refine ⟨_, rfl, ?_⟩
          replace H5 := Aside0.mk (blk_below H5.out hbx)
          have HSn := Aside0.mk (HS.out.trans (hbx.mono HS.out.size))
          clear hbx HS
          refine hK.out _ _ HSn.out (fun _ => ?_)
          clear hK K
          have HS := HSn
          clear HSn
          refine norm_ (a' := ?_) ?_ ?_
          rotate_left
          · show Act.put _ (some 10) _ = _
            simp only [Act.put, List.setIfInBounds_toArray, List.set_cons_zero, List.set_cons_succ]
            rfl
          refine one_ (i := 5) (N := some 6) #[true, true, true, true, true, true, false, false] rfl rfl (one_of HT_.out (by kernel_rfl)) (by decide) (fun K hK => ?_)
          refine box_step ?hg (N := 6) ?hd (cs := #[.int .u8 0, .int .u8 0, .int .u8 0, .int .u8 0, .int .u8 0, .int .u8 0, .int .u8 0, .int .u8 0, .int .u8 0, .int .u8 0, .int .u8 0, .int .u8 0, .int .u8 0]) (t := 92) ?hr ?_; (case hd => rfl); (case hg => rfl); (case hr => first | (go_simp; done) | (go_simp; rfl))
          intro g6 hg w9 hbox hbx
          have NE := Aside0.mk (show g5 ≠ g6 by have := blk_lt H5.out; omega)
          replace H5 := Aside0.mk (blk_below H5.out hbx)
          have H6 := Aside0.mk hbox
          have L6 := Aside0.mk (show W0.heap.size ≤ g6 by have := HS.out.size; omega)
          have HSn := Aside0.mk (HS.out.trans (hbx.mono HS.out.size))
          clear hbx HS hbox hg
          refine hK.out _ _ HSn.out (fun _ => ?_)
          clear hK K
          have HS := HSn
          clear HSn
          refine norm_ (a' := ?_) ?_ ?_
          rotate_left
          · show Act.put _ (some 6) _ = _
            simp only [Act.put, List.setIfInBounds_toArray, List.set_cons_zero, List.set_cons_succ]
            rfl
          exact norm_ (by simp only [putAll, Act.put, List.setIfInBounds_toArray, List.set_cons_zero, List.set_cons_succ]) (hCont (g5, g6) _ ⟨HS.out, H5.out, H6.out, NE.out, L5.out, L6.out⟩)
        · skip
          refine box_step ?hg (N := 6) ?hd (cs := #[.int .u8 0, .int .u8 0, .int .u8 0, .int .u8 0, .int .u8 0, .int .u8 0, .int .u8 0, .int .u8 0, .int .u8 0, .int .u8 0, .int .u8 0, .int .u8 0, .int .u8 0]) (t := 92) ?hr ?_; (case hd => rfl); (case hg => rfl); (case hr => first | (go_simp; done) | (go_simp; rfl))
          intro g6 hg w10 hbox hbx
          have NE := Aside0.mk (show g5 ≠ g6 by have := blk_lt H5.out; omega)
          replace H5 := Aside0.mk (blk_below H5.out hbx)
          have H6 := Aside0.mk hbox
          have L6 := Aside0.mk (show W0.heap.size ≤ g6 by have := HS.out.size; omega)
          have HSn := Aside0.mk (HS.out.trans (hbx.mono HS.out.size))
          clear hbx HS hbox hg
          refine hK.out _ _ HSn.out (fun _ => ?_)
          clear hK K
          have HS := HSn
          clear HSn
          refine norm_ (a' := ?_) ?_ ?_
          rotate_left
          · show Act.put _ (some 6) _ = _
            simp only [Act.put, List.setIfInBounds_toArray, List.set_cons_zero, List.set_cons_succ]
            rfl
          refine one_ (i := 3) (N := some 10) #[true, true, true, true, true, true, false, false] rfl rfl (one_of HT_.out (by kernel_rfl)) (by decide) (fun K hK => ?_)
          refine goes_ Tryd.func59 (by kernel_rfl) rfl #[.agg #[.int .u32 s2, .int .u32 d2, .int .u8 p2, .int .u16 sp2, .int .u16 dp2]] (by rfl) rfl rfl (by (try simp only [List.map_toArray, List.map_cons, List.map_nil]); first | done | rfl) ?_
          refine (bytes_rowC s2 d2 p2 sp2 dp2 _).mono ?_
          rintro e w11 ⟨rfl, hbx⟩
          refine ⟨_, rfl, ?_⟩
          replace H5 := Aside0.mk (blk_below H5.out hbx)
          replace H6 := Aside0.mk (blk_below H6.out hbx)
          have HSn := Aside0.mk (HS.out.trans (hbx.mono HS.out.size))
          clear hbx HS
          refine hK.out _ _ HSn.out (fun _ => ?_)
          clear hK K
          have HS := HSn
          clear HSn
          refine norm_ (a' := ?_) ?_ ?_
          rotate_left
          · show Act.put _ (some 10) _ = _
            simp only [Act.put, List.setIfInBounds_toArray, List.set_cons_zero, List.set_cons_succ]
            rfl
          exact norm_ (by simp only [putAll, Act.put, List.setIfInBounds_toArray, List.set_cons_zero, List.set_cons_succ]) (hCont (g5, g6) _ ⟨HS.out, H5.out, H6.out, NE.out, L5.out, L6.out⟩)
      · skip
        refine box_step ?hg (N := 6) ?hd (cs := #[.int .u8 0, .int .u8 0, .int .u8 0, .int .u8 0, .int .u8 0, .int .u8 0, .int .u8 0, .int .u8 0, .int .u8 0, .int .u8 0, .int .u8 0, .int .u8 0, .int .u8 0]) (t := 92) ?hr ?_; (case hd => rfl); (case hg => rfl); (case hr => first | (go_simp; done) | (go_simp; rfl))
        intro g6 hg w12 hbox hbx
        have H6 := Aside0.mk hbox
        have L6 := Aside0.mk (show W0.heap.size ≤ g6 by have := HS.out.size; omega)
        have HSn := Aside0.mk (HS.out.trans (hbx.mono HS.out.size))
        clear hbx HS hbox hg
        refine hK.out _ _ HSn.out (fun _ => ?_)
        clear hK K
        have HS := HSn
        clear HSn
        refine norm_ (a' := ?_) ?_ ?_
        rotate_left
        · show Act.put _ (some 6) _ = _
          simp only [Act.put, List.setIfInBounds_toArray, List.set_cons_zero, List.set_cons_succ]
          rfl
        refine two_ (i := 3) (j := 4) (Ni := some 10) (Nj := some 5) #[true, true, true, true, false, true, false, false] #[true, true, true, false, true, true, false, false] rfl rfl rfl rfl (two_of HT_.out (by kernel_rfl)) (by decide) (by decide) (fun K hK => ?_) (fun K hK => ?_)
        · skip
          refine goes_ Tryd.func59 (by kernel_rfl) rfl #[.agg #[.int .u32 s2, .int .u32 d2, .int .u8 p2, .int .u16 sp2, .int .u16 dp2]] (by rfl) rfl rfl (by (try simp only [List.map_toArray, List.map_cons, List.map_nil]); first | done | rfl) ?_
          refine (bytes_rowC s2 d2 p2 sp2 dp2 _).mono ?_
          rintro e w13 ⟨rfl, hbx⟩
          refine ⟨_, rfl, ?_⟩
          replace H6 := Aside0.mk (blk_below H6.out hbx)
          have HSn := Aside0.mk (HS.out.trans (hbx.mono HS.out.size))
          clear hbx HS
          refine hK.out _ _ HSn.out (fun _ => ?_)
          clear hK K
          have HS := HSn
          clear HSn
          refine norm_ (a' := ?_) ?_ ?_
          rotate_left
          · show Act.put _ (some 10) _ = _
            simp only [Act.put, List.setIfInBounds_toArray, List.set_cons_zero, List.set_cons_succ]
            rfl
          refine one_ (i := 4) (N := some 5) #[true, true, true, true, true, true, false, false] rfl rfl (one_of HT_.out (by kernel_rfl)) (by decide) (fun K hK => ?_)
          refine box_step ?hg (N := 5) ?hd (cs := #[.int .u8 0, .int .u8 0, .int .u8 0, .int .u8 0, .int .u8 0, .int .u8 0, .int .u8 0, .int .u8 0, .int .u8 0, .int .u8 0, .int .u8 0, .int .u8 0, .int .u8 0]) (t := 92) ?hr ?_; (case hd => rfl); (case hg => rfl); (case hr => first | (go_simp; done) | (go_simp; rfl))
          intro g5 hg w14 hbox hbx
          have NE := Aside0.mk (show g5 ≠ g6 by have := blk_lt H6.out; omega)
          replace H6 := Aside0.mk (blk_below H6.out hbx)
          have H5 := Aside0.mk hbox
          have L5 := Aside0.mk (show W0.heap.size ≤ g5 by have := HS.out.size; omega)
          have HSn := Aside0.mk (HS.out.trans (hbx.mono HS.out.size))
          clear hbx HS hbox hg
          refine hK.out _ _ HSn.out (fun _ => ?_)
          clear hK K
          have HS := HSn
          clear HSn
          refine norm_ (a' := ?_) ?_ ?_
          rotate_left
          · show Act.put _ (some 5) _ = _
            simp only [Act.put, List.setIfInBounds_toArray, List.set_cons_zero, List.set_cons_succ]
            rfl
          exact norm_ (by simp only [putAll, Act.put, List.setIfInBounds_toArray, List.set_cons_zero, List.set_cons_succ]) (hCont (g5, g6) _ ⟨HS.out, H5.out, H6.out, NE.out, L5.out, L6.out⟩)
        · skip
          refine box_step ?hg (N := 5) ?hd (cs := #[.int .u8 0, .int .u8 0, .int .u8 0, .int .u8 0, .int .u8 0, .int .u8 0, .int .u8 0, .int .u8 0, .int .u8 0, .int .u8 0, .int .u8 0, .int .u8 0, .int .u8 0]) (t := 92) ?hr ?_; (case hd => rfl); (case hg => rfl); (case hr => first | (go_simp; done) | (go_simp; rfl))
          intro g5 hg w15 hbox hbx
          have NE := Aside0.mk (show g5 ≠ g6 by have := blk_lt H6.out; omega)
          replace H6 := Aside0.mk (blk_below H6.out hbx)
          have H5 := Aside0.mk hbox
          have L5 := Aside0.mk (show W0.heap.size ≤ g5 by have := HS.out.size; omega)
          have HSn := Aside0.mk (HS.out.trans (hbx.mono HS.out.size))
          clear hbx HS hbox hg
          refine hK.out _ _ HSn.out (fun _ => ?_)
          clear hK K
          have HS := HSn
          clear HSn
          refine norm_ (a' := ?_) ?_ ?_
          rotate_left
          · show Act.put _ (some 5) _ = _
            simp only [Act.put, List.setIfInBounds_toArray, List.set_cons_zero, List.set_cons_succ]
            rfl
          refine one_ (i := 3) (N := some 10) #[true, true, true, true, true, true, false, false] rfl rfl (one_of HT_.out (by kernel_rfl)) (by decide) (fun K hK => ?_)
          refine goes_ Tryd.func59 (by kernel_rfl) rfl #[.agg #[.int .u32 s2, .int .u32 d2, .int .u8 p2, .int .u16 sp2, .int .u16 dp2]] (by rfl) rfl rfl (by (try simp only [List.map_toArray, List.map_cons, List.map_nil]); first | done | rfl) ?_
          refine (bytes_rowC s2 d2 p2 sp2 dp2 _).mono ?_
          rintro e w16 ⟨rfl, hbx⟩
          refine ⟨_, rfl, ?_⟩
          replace H5 := Aside0.mk (blk_below H5.out hbx)
          replace H6 := Aside0.mk (blk_below H6.out hbx)
          have HSn := Aside0.mk (HS.out.trans (hbx.mono HS.out.size))
          clear hbx HS
          refine hK.out _ _ HSn.out (fun _ => ?_)
          clear hK K
          have HS := HSn
          clear HSn
          refine norm_ (a' := ?_) ?_ ?_
          rotate_left
          · show Act.put _ (some 10) _ = _
            simp only [Act.put, List.setIfInBounds_toArray, List.set_cons_zero, List.set_cons_succ]
            rfl
          exact norm_ (by simp only [putAll, Act.put, List.setIfInBounds_toArray, List.set_cons_zero, List.set_cons_succ]) (hCont (g5, g6) _ ⟨HS.out, H5.out, H6.out, NE.out, L5.out, L6.out⟩)
    · skip
      refine box_step ?hg (N := 5) ?hd (cs := #[.int .u8 0, .int .u8 0, .int .u8 0, .int .u8 0, .int .u8 0, .int .u8 0, .int .u8 0, .int .u8 0, .int .u8 0, .int .u8 0, .int .u8 0, .int .u8 0, .int .u8 0]) (t := 92) ?hr ?_; (case hd => rfl); (case hg => rfl); (case hr => first | (go_simp; done) | (go_simp; rfl))
      intro g5 hg w17 hbox hbx
      have H5 := Aside0.mk hbox
      have L5 := Aside0.mk (show W0.heap.size ≤ g5 by have := HS.out.size; omega)
      have HSn := Aside0.mk (HS.out.trans (hbx.mono HS.out.size))
      clear hbx HS hbox hg
      refine hK.out _ _ HSn.out (fun _ => ?_)
      clear hK K
      have HS := HSn
      clear HSn
      refine norm_ (a' := ?_) ?_ ?_
      rotate_left
      · show Act.put _ (some 5) _ = _
        simp only [Act.put, List.setIfInBounds_toArray, List.set_cons_zero, List.set_cons_succ]
        rfl
      refine two_ (i := 1) (j := 5) (Ni := some 8) (Nj := some 6) #[true, true, true, false, true, false, false, false] #[true, false, true, false, true, true, false, false] rfl rfl rfl rfl (two_of HT_.out (by kernel_rfl)) (by decide) (by decide) (fun K hK => ?_) (fun K hK => ?_)
      · skip
        refine goes_ Tryd.func59 (by kernel_rfl) rfl #[.agg #[.int .u32 s, .int .u32 d, .int .u8 p, .int .u16 sp, .int .u16 dp]] (by rfl) rfl rfl (by (try simp only [List.map_toArray, List.map_cons, List.map_nil]); first | done | rfl) ?_
        refine (bytes_rowC s d p sp dp _).mono ?_
        rintro e w18 ⟨rfl, hbx⟩
        refine ⟨_, rfl, ?_⟩
        replace H5 := Aside0.mk (blk_below H5.out hbx)
        have HSn := Aside0.mk (HS.out.trans (hbx.mono HS.out.size))
        clear hbx HS
        refine hK.out _ _ HSn.out (fun _ => ?_)
        clear hK K
        have HS := HSn
        clear HSn
        refine norm_ (a' := ?_) ?_ ?_
        rotate_left
        · show Act.put _ (some 8) _ = _
          simp only [Act.put, List.setIfInBounds_toArray, List.set_cons_zero, List.set_cons_succ]
          rfl
        refine two_ (i := 3) (j := 5) (Ni := some 10) (Nj := some 6) #[true, true, true, true, true, false, false, false] #[true, true, true, false, true, true, false, false] rfl rfl rfl rfl (two_of HT_.out (by kernel_rfl)) (by decide) (by decide) (fun K hK => ?_) (fun K hK => ?_)
        · skip
          refine goes_ Tryd.func59 (by kernel_rfl) rfl #[.agg #[.int .u32 s2, .int .u32 d2, .int .u8 p2, .int .u16 sp2, .int .u16 dp2]] (by rfl) rfl rfl (by (try simp only [List.map_toArray, List.map_cons, List.map_nil]); first | done | rfl) ?_
          refine (bytes_rowC s2 d2 p2 sp2 dp2 _).mono ?_
          rintro e w19 ⟨rfl, hbx⟩
          refine ⟨_, rfl, ?_⟩
          replace H5 := Aside0.mk (blk_below H5.out hbx)
          have HSn := Aside0.mk (HS.out.trans (hbx.mono HS.out.size))
          clear hbx HS
          refine hK.out _ _ HSn.out (fun _ => ?_)
          clear hK K
          have HS := HSn
          clear HSn
          refine norm_ (a' := ?_) ?_ ?_
          rotate_left
          · show Act.put _ (some 10) _ = _
            simp only [Act.put, List.setIfInBounds_toArray, List.set_cons_zero, List.set_cons_succ]
            rfl
          refine one_ (i := 5) (N := some 6) #[true, true, true, true, true, true, false, false] rfl rfl (one_of HT_.out (by kernel_rfl)) (by decide) (fun K hK => ?_)
          refine box_step ?hg (N := 6) ?hd (cs := #[.int .u8 0, .int .u8 0, .int .u8 0, .int .u8 0, .int .u8 0, .int .u8 0, .int .u8 0, .int .u8 0, .int .u8 0, .int .u8 0, .int .u8 0, .int .u8 0, .int .u8 0]) (t := 92) ?hr ?_; (case hd => rfl); (case hg => rfl); (case hr => first | (go_simp; done) | (go_simp; rfl))
          intro g6 hg w20 hbox hbx
          have NE := Aside0.mk (show g5 ≠ g6 by have := blk_lt H5.out; omega)
          replace H5 := Aside0.mk (blk_below H5.out hbx)
          have H6 := Aside0.mk hbox
          have L6 := Aside0.mk (show W0.heap.size ≤ g6 by have := HS.out.size; omega)
          have HSn := Aside0.mk (HS.out.trans (hbx.mono HS.out.size))
          clear hbx HS hbox hg
          refine hK.out _ _ HSn.out (fun _ => ?_)
          clear hK K
          have HS := HSn
          clear HSn
          refine norm_ (a' := ?_) ?_ ?_
          rotate_left
          · show Act.put _ (some 6) _ = _
            simp only [Act.put, List.setIfInBounds_toArray, List.set_cons_zero, List.set_cons_succ]
            rfl
          exact norm_ (by simp only [putAll, Act.put, List.setIfInBounds_toArray, List.set_cons_zero, List.set_cons_succ]) (hCont (g5, g6) _ ⟨HS.out, H5.out, H6.out, NE.out, L5.out, L6.out⟩)
        · skip
          refine box_step ?hg (N := 6) ?hd (cs := #[.int .u8 0, .int .u8 0, .int .u8 0, .int .u8 0, .int .u8 0, .int .u8 0, .int .u8 0, .int .u8 0, .int .u8 0, .int .u8 0, .int .u8 0, .int .u8 0, .int .u8 0]) (t := 92) ?hr ?_; (case hd => rfl); (case hg => rfl); (case hr => first | (go_simp; done) | (go_simp; rfl))
          intro g6 hg w21 hbox hbx
          have NE := Aside0.mk (show g5 ≠ g6 by have := blk_lt H5.out; omega)
          replace H5 := Aside0.mk (blk_below H5.out hbx)
          have H6 := Aside0.mk hbox
          have L6 := Aside0.mk (show W0.heap.size ≤ g6 by have := HS.out.size; omega)
          have HSn := Aside0.mk (HS.out.trans (hbx.mono HS.out.size))
          clear hbx HS hbox hg
          refine hK.out _ _ HSn.out (fun _ => ?_)
          clear hK K
          have HS := HSn
          clear HSn
          refine norm_ (a' := ?_) ?_ ?_
          rotate_left
          · show Act.put _ (some 6) _ = _
            simp only [Act.put, List.setIfInBounds_toArray, List.set_cons_zero, List.set_cons_succ]
            rfl
          refine one_ (i := 3) (N := some 10) #[true, true, true, true, true, true, false, false] rfl rfl (one_of HT_.out (by kernel_rfl)) (by decide) (fun K hK => ?_)
          refine goes_ Tryd.func59 (by kernel_rfl) rfl #[.agg #[.int .u32 s2, .int .u32 d2, .int .u8 p2, .int .u16 sp2, .int .u16 dp2]] (by rfl) rfl rfl (by (try simp only [List.map_toArray, List.map_cons, List.map_nil]); first | done | rfl) ?_
          refine (bytes_rowC s2 d2 p2 sp2 dp2 _).mono ?_
          rintro e w22 ⟨rfl, hbx⟩
          refine ⟨_, rfl, ?_⟩
          replace H5 := Aside0.mk (blk_below H5.out hbx)
          replace H6 := Aside0.mk (blk_below H6.out hbx)
          have HSn := Aside0.mk (HS.out.trans (hbx.mono HS.out.size))
          clear hbx HS
          refine hK.out _ _ HSn.out (fun _ => ?_)
          clear hK K
          have HS := HSn
          clear HSn
          refine norm_ (a' := ?_) ?_ ?_
          rotate_left
          · show Act.put _ (some 10) _ = _
            simp only [Act.put, List.setIfInBounds_toArray, List.set_cons_zero, List.set_cons_succ]
            rfl
          exact norm_ (by simp only [putAll, Act.put, List.setIfInBounds_toArray, List.set_cons_zero, List.set_cons_succ]) (hCont (g5, g6) _ ⟨HS.out, H5.out, H6.out, NE.out, L5.out, L6.out⟩)
      · skip
        refine box_step ?hg (N := 6) ?hd (cs := #[.int .u8 0, .int .u8 0, .int .u8 0, .int .u8 0, .int .u8 0, .int .u8 0, .int .u8 0, .int .u8 0, .int .u8 0, .int .u8 0, .int .u8 0, .int .u8 0, .int .u8 0]) (t := 92) ?hr ?_; (case hd => rfl); (case hg => rfl); (case hr => first | (go_simp; done) | (go_simp; rfl))
        intro g6 hg w23 hbox hbx
        have NE := Aside0.mk (show g5 ≠ g6 by have := blk_lt H5.out; omega)
        replace H5 := Aside0.mk (blk_below H5.out hbx)
        have H6 := Aside0.mk hbox
        have L6 := Aside0.mk (show W0.heap.size ≤ g6 by have := HS.out.size; omega)
        have HSn := Aside0.mk (HS.out.trans (hbx.mono HS.out.size))
        clear hbx HS hbox hg
        refine hK.out _ _ HSn.out (fun _ => ?_)
        clear hK K
        have HS := HSn
        clear HSn
        refine norm_ (a' := ?_) ?_ ?_
        rotate_left
        · show Act.put _ (some 6) _ = _
          simp only [Act.put, List.setIfInBounds_toArray, List.set_cons_zero, List.set_cons_succ]
          rfl
        refine one_ (i := 1) (N := some 8) #[true, true, true, false, true, true, false, false] rfl rfl (one_of HT_.out (by kernel_rfl)) (by decide) (fun K hK => ?_)
        refine goes_ Tryd.func59 (by kernel_rfl) rfl #[.agg #[.int .u32 s, .int .u32 d, .int .u8 p, .int .u16 sp, .int .u16 dp]] (by rfl) rfl rfl (by (try simp only [List.map_toArray, List.map_cons, List.map_nil]); first | done | rfl) ?_
        refine (bytes_rowC s d p sp dp _).mono ?_
        rintro e w24 ⟨rfl, hbx⟩
        refine ⟨_, rfl, ?_⟩
        replace H5 := Aside0.mk (blk_below H5.out hbx)
        replace H6 := Aside0.mk (blk_below H6.out hbx)
        have HSn := Aside0.mk (HS.out.trans (hbx.mono HS.out.size))
        clear hbx HS
        refine hK.out _ _ HSn.out (fun _ => ?_)
        clear hK K
        have HS := HSn
        clear HSn
        refine norm_ (a' := ?_) ?_ ?_
        rotate_left
        · show Act.put _ (some 8) _ = _
          simp only [Act.put, List.setIfInBounds_toArray, List.set_cons_zero, List.set_cons_succ]
          rfl
        refine one_ (i := 3) (N := some 10) #[true, true, true, true, true, true, false, false] rfl rfl (one_of HT_.out (by kernel_rfl)) (by decide) (fun K hK => ?_)
        refine goes_ Tryd.func59 (by kernel_rfl) rfl #[.agg #[.int .u32 s2, .int .u32 d2, .int .u8 p2, .int .u16 sp2, .int .u16 dp2]] (by rfl) rfl rfl (by (try simp only [List.map_toArray, List.map_cons, List.map_nil]); first | done | rfl) ?_
        refine (bytes_rowC s2 d2 p2 sp2 dp2 _).mono ?_
        rintro e w25 ⟨rfl, hbx⟩
        refine ⟨_, rfl, ?_⟩
        replace H5 := Aside0.mk (blk_below H5.out hbx)
        replace H6 := Aside0.mk (blk_below H6.out hbx)
        have HSn := Aside0.mk (HS.out.trans (hbx.mono HS.out.size))
        clear hbx HS
        refine hK.out _ _ HSn.out (fun _ => ?_)
        clear hK K
        have HS := HSn
        clear HSn
        refine norm_ (a' := ?_) ?_ ?_
        rotate_left
        · show Act.put _ (some 10) _ = _
          simp only [Act.put, List.setIfInBounds_toArray, List.set_cons_zero, List.set_cons_succ]
          rfl
        exact norm_ (by simp only [putAll, Act.put, List.setIfInBounds_toArray, List.set_cons_zero, List.set_cons_succ]) (hCont (g5, g6) _ ⟨HS.out, H5.out, H6.out, NE.out, L5.out, L6.out⟩)
    · skip
      refine box_step ?hg (N := 6) ?hd (cs := #[.int .u8 0, .int .u8 0, .int .u8 0, .int .u8 0, .int .u8 0, .int .u8 0, .int .u8 0, .int .u8 0, .int .u8 0, .int .u8 0, .int .u8 0, .int .u8 0, .int .u8 0]) (t := 92) ?hr ?_; (case hd => rfl); (case hg => rfl); (case hr => first | (go_simp; done) | (go_simp; rfl))
      intro g6 hg w26 hbox hbx
      have H6 := Aside0.mk hbox
      have L6 := Aside0.mk (show W0.heap.size ≤ g6 by have := HS.out.size; omega)
      have HSn := Aside0.mk (HS.out.trans (hbx.mono HS.out.size))
      clear hbx HS hbox hg
      refine hK.out _ _ HSn.out (fun _ => ?_)
      clear hK K
      have HS := HSn
      clear HSn
      refine norm_ (a' := ?_) ?_ ?_
      rotate_left
      · show Act.put _ (some 6) _ = _
        simp only [Act.put, List.setIfInBounds_toArray, List.set_cons_zero, List.set_cons_succ]
        rfl
      refine two_ (i := 1) (j := 4) (Ni := some 8) (Nj := some 5) #[true, true, true, false, false, true, false, false] #[true, false, true, false, true, true, false, false] rfl rfl rfl rfl (two_of HT_.out (by kernel_rfl)) (by decide) (by decide) (fun K hK => ?_) (fun K hK => ?_)
      · skip
        refine goes_ Tryd.func59 (by kernel_rfl) rfl #[.agg #[.int .u32 s, .int .u32 d, .int .u8 p, .int .u16 sp, .int .u16 dp]] (by rfl) rfl rfl (by (try simp only [List.map_toArray, List.map_cons, List.map_nil]); first | done | rfl) ?_
        refine (bytes_rowC s d p sp dp _).mono ?_
        rintro e w27 ⟨rfl, hbx⟩
        refine ⟨_, rfl, ?_⟩
        replace H6 := Aside0.mk (blk_below H6.out hbx)
        have HSn := Aside0.mk (HS.out.trans (hbx.mono HS.out.size))
        clear hbx HS
        refine hK.out _ _ HSn.out (fun _ => ?_)
        clear hK K
        have HS := HSn
        clear HSn
        refine norm_ (a' := ?_) ?_ ?_
        rotate_left
        · show Act.put _ (some 8) _ = _
          simp only [Act.put, List.setIfInBounds_toArray, List.set_cons_zero, List.set_cons_succ]
          rfl
        refine two_ (i := 3) (j := 4) (Ni := some 10) (Nj := some 5) #[true, true, true, true, false, true, false, false] #[true, true, true, false, true, true, false, false] rfl rfl rfl rfl (two_of HT_.out (by kernel_rfl)) (by decide) (by decide) (fun K hK => ?_) (fun K hK => ?_)
        · skip
          refine goes_ Tryd.func59 (by kernel_rfl) rfl #[.agg #[.int .u32 s2, .int .u32 d2, .int .u8 p2, .int .u16 sp2, .int .u16 dp2]] (by rfl) rfl rfl (by (try simp only [List.map_toArray, List.map_cons, List.map_nil]); first | done | rfl) ?_
          refine (bytes_rowC s2 d2 p2 sp2 dp2 _).mono ?_
          rintro e w28 ⟨rfl, hbx⟩
          refine ⟨_, rfl, ?_⟩
          replace H6 := Aside0.mk (blk_below H6.out hbx)
          have HSn := Aside0.mk (HS.out.trans (hbx.mono HS.out.size))
          clear hbx HS
          refine hK.out _ _ HSn.out (fun _ => ?_)
          clear hK K
          have HS := HSn
          clear HSn
          refine norm_ (a' := ?_) ?_ ?_
          rotate_left
          · show Act.put _ (some 10) _ = _
            simp only [Act.put, List.setIfInBounds_toArray, List.set_cons_zero, List.set_cons_succ]
            rfl
          refine one_ (i := 4) (N := some 5) #[true, true, true, true, true, true, false, false] rfl rfl (one_of HT_.out (by kernel_rfl)) (by decide) (fun K hK => ?_)
          refine box_step ?hg (N := 5) ?hd (cs := #[.int .u8 0, .int .u8 0, .int .u8 0, .int .u8 0, .int .u8 0, .int .u8 0, .int .u8 0, .int .u8 0, .int .u8 0, .int .u8 0, .int .u8 0, .int .u8 0, .int .u8 0]) (t := 92) ?hr ?_; (case hd => rfl); (case hg => rfl); (case hr => first | (go_simp; done) | (go_simp; rfl))
          intro g5 hg w29 hbox hbx
          have NE := Aside0.mk (show g5 ≠ g6 by have := blk_lt H6.out; omega)
          replace H6 := Aside0.mk (blk_below H6.out hbx)
          have H5 := Aside0.mk hbox
          have L5 := Aside0.mk (show W0.heap.size ≤ g5 by have := HS.out.size; omega)
          have HSn := Aside0.mk (HS.out.trans (hbx.mono HS.out.size))
          clear hbx HS hbox hg
          refine hK.out _ _ HSn.out (fun _ => ?_)
          clear hK K
          have HS := HSn
          clear HSn
          refine norm_ (a' := ?_) ?_ ?_
          rotate_left
          · show Act.put _ (some 5) _ = _
            simp only [Act.put, List.setIfInBounds_toArray, List.set_cons_zero, List.set_cons_succ]
            rfl
          exact norm_ (by simp only [putAll, Act.put, List.setIfInBounds_toArray, List.set_cons_zero, List.set_cons_succ]) (hCont (g5, g6) _ ⟨HS.out, H5.out, H6.out, NE.out, L5.out, L6.out⟩)
        · skip
          refine box_step ?hg (N := 5) ?hd (cs := #[.int .u8 0, .int .u8 0, .int .u8 0, .int .u8 0, .int .u8 0, .int .u8 0, .int .u8 0, .int .u8 0, .int .u8 0, .int .u8 0, .int .u8 0, .int .u8 0, .int .u8 0]) (t := 92) ?hr ?_; (case hd => rfl); (case hg => rfl); (case hr => first | (go_simp; done) | (go_simp; rfl))
          intro g5 hg w30 hbox hbx
          have NE := Aside0.mk (show g5 ≠ g6 by have := blk_lt H6.out; omega)
          replace H6 := Aside0.mk (blk_below H6.out hbx)
          have H5 := Aside0.mk hbox
          have L5 := Aside0.mk (show W0.heap.size ≤ g5 by have := HS.out.size; omega)
          have HSn := Aside0.mk (HS.out.trans (hbx.mono HS.out.size))
          clear hbx HS hbox hg
          refine hK.out _ _ HSn.out (fun _ => ?_)
          clear hK K
          have HS := HSn
          clear HSn
          refine norm_ (a' := ?_) ?_ ?_
          rotate_left
          · show Act.put _ (some 5) _ = _
            simp only [Act.put, List.setIfInBounds_toArray, List.set_cons_zero, List.set_cons_succ]
            rfl
          refine one_ (i := 3) (N := some 10) #[true, true, true, true, true, true, false, false] rfl rfl (one_of HT_.out (by kernel_rfl)) (by decide) (fun K hK => ?_)
          refine goes_ Tryd.func59 (by kernel_rfl) rfl #[.agg #[.int .u32 s2, .int .u32 d2, .int .u8 p2, .int .u16 sp2, .int .u16 dp2]] (by rfl) rfl rfl (by (try simp only [List.map_toArray, List.map_cons, List.map_nil]); first | done | rfl) ?_
          refine (bytes_rowC s2 d2 p2 sp2 dp2 _).mono ?_
          rintro e w31 ⟨rfl, hbx⟩
          refine ⟨_, rfl, ?_⟩
          replace H5 := Aside0.mk (blk_below H5.out hbx)
          replace H6 := Aside0.mk (blk_below H6.out hbx)
          have HSn := Aside0.mk (HS.out.trans (hbx.mono HS.out.size))
          clear hbx HS
          refine hK.out _ _ HSn.out (fun _ => ?_)
          clear hK K
          have HS := HSn
          clear HSn
          refine norm_ (a' := ?_) ?_ ?_
          rotate_left
          · show Act.put _ (some 10) _ = _
            simp only [Act.put, List.setIfInBounds_toArray, List.set_cons_zero, List.set_cons_succ]
            rfl
          exact norm_ (by simp only [putAll, Act.put, List.setIfInBounds_toArray, List.set_cons_zero, List.set_cons_succ]) (hCont (g5, g6) _ ⟨HS.out, H5.out, H6.out, NE.out, L5.out, L6.out⟩)
      · skip
        refine box_step ?hg (N := 5) ?hd (cs := #[.int .u8 0, .int .u8 0, .int .u8 0, .int .u8 0, .int .u8 0, .int .u8 0, .int .u8 0, .int .u8 0, .int .u8 0, .int .u8 0, .int .u8 0, .int .u8 0, .int .u8 0]) (t := 92) ?hr ?_; (case hd => rfl); (case hg => rfl); (case hr => first | (go_simp; done) | (go_simp; rfl))
        intro g5 hg w32 hbox hbx
        have NE := Aside0.mk (show g5 ≠ g6 by have := blk_lt H6.out; omega)
        replace H6 := Aside0.mk (blk_below H6.out hbx)
        have H5 := Aside0.mk hbox
        have L5 := Aside0.mk (show W0.heap.size ≤ g5 by have := HS.out.size; omega)
        have HSn := Aside0.mk (HS.out.trans (hbx.mono HS.out.size))
        clear hbx HS hbox hg
        refine hK.out _ _ HSn.out (fun _ => ?_)
        clear hK K
        have HS := HSn
        clear HSn
        refine norm_ (a' := ?_) ?_ ?_
        rotate_left
        · show Act.put _ (some 5) _ = _
          simp only [Act.put, List.setIfInBounds_toArray, List.set_cons_zero, List.set_cons_succ]
          rfl
        refine one_ (i := 1) (N := some 8) #[true, true, true, false, true, true, false, false] rfl rfl (one_of HT_.out (by kernel_rfl)) (by decide) (fun K hK => ?_)
        refine goes_ Tryd.func59 (by kernel_rfl) rfl #[.agg #[.int .u32 s, .int .u32 d, .int .u8 p, .int .u16 sp, .int .u16 dp]] (by rfl) rfl rfl (by (try simp only [List.map_toArray, List.map_cons, List.map_nil]); first | done | rfl) ?_
        refine (bytes_rowC s d p sp dp _).mono ?_
        rintro e w33 ⟨rfl, hbx⟩
        refine ⟨_, rfl, ?_⟩
        replace H5 := Aside0.mk (blk_below H5.out hbx)
        replace H6 := Aside0.mk (blk_below H6.out hbx)
        have HSn := Aside0.mk (HS.out.trans (hbx.mono HS.out.size))
        clear hbx HS
        refine hK.out _ _ HSn.out (fun _ => ?_)
        clear hK K
        have HS := HSn
        clear HSn
        refine norm_ (a' := ?_) ?_ ?_
        rotate_left
        · show Act.put _ (some 8) _ = _
          simp only [Act.put, List.setIfInBounds_toArray, List.set_cons_zero, List.set_cons_succ]
          rfl
        refine one_ (i := 3) (N := some 10) #[true, true, true, true, true, true, false, false] rfl rfl (one_of HT_.out (by kernel_rfl)) (by decide) (fun K hK => ?_)
        refine goes_ Tryd.func59 (by kernel_rfl) rfl #[.agg #[.int .u32 s2, .int .u32 d2, .int .u8 p2, .int .u16 sp2, .int .u16 dp2]] (by rfl) rfl rfl (by (try simp only [List.map_toArray, List.map_cons, List.map_nil]); first | done | rfl) ?_
        refine (bytes_rowC s2 d2 p2 sp2 dp2 _).mono ?_
        rintro e w34 ⟨rfl, hbx⟩
        refine ⟨_, rfl, ?_⟩
        replace H5 := Aside0.mk (blk_below H5.out hbx)
        replace H6 := Aside0.mk (blk_below H6.out hbx)
        have HSn := Aside0.mk (HS.out.trans (hbx.mono HS.out.size))
        clear hbx HS
        refine hK.out _ _ HSn.out (fun _ => ?_)
        clear hK K
        have HS := HSn
        clear HSn
        refine norm_ (a' := ?_) ?_ ?_
        rotate_left
        · show Act.put _ (some 10) _ = _
          simp only [Act.put, List.setIfInBounds_toArray, List.set_cons_zero, List.set_cons_succ]
          rfl
        exact norm_ (by simp only [putAll, Act.put, List.setIfInBounds_toArray, List.set_cons_zero, List.set_cons_succ]) (hCont (g5, g6) _ ⟨HS.out, H5.out, H6.out, NE.out, L5.out, L6.out⟩)
  rintro ⟨g5, g6⟩ w1 ⟨hS, h5, h6, hne, l5, l6⟩
  have HSx := Aside0.mk hS
  have H5 := Aside0.mk (show w1.heap[g5]? = some (.cells #[.int .u8 0, .int .u8 0, .int .u8 0, .int .u8 0, .int .u8 0, .int .u8 0, .int .u8 0, .int .u8 0, .int .u8 0, .int .u8 0, .int .u8 0, .int .u8 0, .int .u8 0] 92 (0, 0)) from h5)
  have H6 := Aside0.mk (show w1.heap[g6]? = some (.cells #[.int .u8 0, .int .u8 0, .int .u8 0, .int .u8 0, .int .u8 0, .int .u8 0, .int .u8 0, .int .u8 0, .int .u8 0, .int .u8 0, .int .u8 0, .int .u8 0, .int .u8 0] 92 (0, 0)) from h6)
  have NE := Aside0.mk (show g6 ≠ g5 from fun e => hne e.symm)
  have L5 := Aside0.mk (show W0.heap.size ≤ g5 from l5)
  have L6 := Aside0.mk (show W0.heap.size ≤ g6 from l6)
  clear HS hS h5 h6 hne l5 l6
  have HS := HSx
  clear HSx
  refine norm_ (a' := ?_) ?_ ?_
  rotate_left
  · simp only [putAll, Act.put, List.setIfInBounds_toArray, List.set_cons_zero, List.set_cons_succ]
    rfl
  refine one_ (i := 6) (N := none) #[true, true, true, true, true, true, true, false] rfl rfl (one_of HT_.out (by kernel_rfl)) (by decide) (fun K hK => ?_)
  refine skip_ (by rfl) rfl (run_store_row 92 _ _ rfl g5 (rowOf (byteN s d p sp dp)) rfl rfl 92 #[.int .u8 0, .int .u8 0, .int .u8 0, .int .u8 0, .int .u8 0, .int .u8 0, .int .u8 0, .int .u8 0, .int .u8 0, .int .u8 0, .int .u8 0, .int .u8 0, .int .u8 0] H5.out HI3.out rfl (rowOf_one _)) ?_
  have HR5 := Aside0.mk (setRow_heap w1 g5 _ (rowOf (byteN s d p sp dp)) 92 (0, 0) H5.out)
  have H6n := Aside0.mk ((setRow_other w1 g5 g6 (rowOf (byteN s d p sp dp)) NE.out).trans H6.out)
  have HSn := Aside0.mk (below_setRow HS.out L5.out (rowOf (byteN s d p sp dp)))
  refine hK.out _ _ HSn.out (fun _ => ?_)
  clear hK K HS H5 H6
  have HS := HSn
  clear HSn
  refine one_ (i := 7) (N := none) #[true, true, true, true, true, true, true, true] rfl rfl (one_of HT_.out (by kernel_rfl)) (by decide) (fun K hK => ?_)
  refine skip_ (by rfl) rfl (run_store_row 92 _ _ rfl g6 (rowOf (byteN s2 d2 p2 sp2 dp2)) rfl rfl 92 #[.int .u8 0, .int .u8 0, .int .u8 0, .int .u8 0, .int .u8 0, .int .u8 0, .int .u8 0, .int .u8 0, .int .u8 0, .int .u8 0, .int .u8 0, .int .u8 0, .int .u8 0] H6n.out HI3.out rfl (rowOf_one _)) ?_
  have HR6 := Aside0.mk (setRow_heap (w1.setRow g5 (rowOf (byteN s d p sp dp))) g6 _ (rowOf (byteN s2 d2 p2 sp2 dp2)) 92 (0, 0) H6n.out)
  have HR5n := Aside0.mk ((setRow_other (w1.setRow g5 (rowOf (byteN s d p sp dp))) g6 g5 (rowOf (byteN s2 d2 p2 sp2 dp2)) (fun e => NE.out e.symm)).trans HR5.out)
  have HSn := Aside0.mk (below_setRow HS.out L6.out (rowOf (byteN s2 d2 p2 sp2 dp2)))
  refine hK.out _ _ HSn.out (fun _ => ?_)
  clear hK K HS HR5 H6n
  refine done_ (done_of HT_.out (by kernel_rfl)) ?_
  have HW := Aside0.mk (HBW.out.trans (HSn.out.mono HBW.out.size))
  clear HSn
  generalize ((w1.setRow g5 (rowOf (byteN s d p sp dp))).setRow g6 (rowOf (byteN s2 d2 p2 sp2 dp2))) = w2 at HR5n HR6 HW ⊢
  go_wp2
  go_quiet ((go_at_call 127; exact Calls.quiet_of_same (compare_rows g5 g6 (byteN s d p sp dp) (byteN s2 d2 p2 sp2 dp2) _ HR5n.out HR6.out ha.out hb.out)))
  go_wp2
  go_ret
  exact ⟨rfl, pw_below_drewN HW.out _⟩
def header_Cmp.f (s d p sp dp s2 d2 p2 sp2 dp2 : Int) : Option Int := if (0 ≤ p ∧ p ≤ 255) ∧ (0 ≤ p2 ∧ p2 ≤ 255) then some (cmpT (s, d, p, sp, dp) (s2, d2, p2, sp2, dp2)) else none
theorem header_Cmp.calls (s d p sp dp s2 d2 p2 sp2 dp2 : Int) (r : Int) (w : World) (h : header_Cmp.f s d p sp dp s2 d2 p2 sp2 dp2 = some r) :
    Calls Tryd.prog 70 #[.agg #[.int .u32 s, .int .u32 d, .int .u8 p, .int .u16 sp, .int .u16 dp], .agg #[.int .u32 s2, .int .u32 d2, .int .u8 p2, .int .u16 sp2, .int .u16 dp2]] w fun e w' => e = .returned (.int .i64 r) ∧ Below w.heap.size w w' := by
  unfold header_Cmp.f at h
  by_cases c : (0 ≤ p ∧ p ≤ 255) ∧ (0 ≤ p2 ∧ p2 ≤ 255)
  · rw [if_pos c] at h
    obtain rfl := Option.some.inj h
    exact hcmp_calls s d p sp dp s2 d2 p2 sp2 dp2 w (.mk (byteN_range s d p sp dp c.1)) (.mk (byteN_range s2 d2 p2 sp2 dp2 c.2))
  · rw [if_neg c] at h; cases h


end Go.Proofs.YtbnihnggljagnaaDoor.QHeaderOrder
