-- Written by this session's program (wip/tools/printx.py) over the kit's print; the texts marked HAND are its own. Lean checks it.
import Derived.Test.YtbnihnggljagnaaDoorQLexLinesx0
import Derived.Test.YtbnihnggljagnaaDoorQLexLinesx1
import Derived.Test.YtbnihnggljagnaaDoorQLexLinesx4
import Derived.Test.YtbnihnggljagnaaDoorQLexLinesx5
namespace Go.Proofs.YtbnihnggljagnaaDoor.QLexLines
open Go.RowKit Go.Proofs.YtbnihnggljagnaaDoorW.PrintWords Go.Proofs.YtbnihnggljagnaaDoorW.PrintLast Go.Proofs.YtbnihnggljagnaaDoorW.PrintMore
attribute [local go_sem] max2_int min2_int max_two min_two max_three min_three max_four min_four   -- for this text's walks alone
attribute [local go_sem high] Go.Proofs.YtbnihnggljagnaaDoor.Base.ux_u32 Go.Proofs.YtbnihnggljagnaaDoor.Base.ux_u64 Go.Proofs.YtbnihnggljagnaaDoor.Base.ux_u8 Go.Proofs.YtbnihnggljagnaaDoor.Base.ux_u16
set_option linter.unusedVariables false
set_option linter.unusedSimpArgs false

/-! ### waymarklaw07_LexLines: function 3 -/
mutual
def waymarklaw07_LexLines.j0 : Nat → ByteArray → List (S35) → List (S129) → Bool → Option (Bool)
 | 0, _, _, _, _ => none
 | k + 1, x0, x3, x6, x37 => if x37 = true then (none) else (waymarklaw07_LexLines.l0 k x0 x3 x6 0)
def waymarklaw07_LexLines.l0 : Nat → ByteArray → List (S35) → List (S129) → Int → Option (Bool)
 | 0, _, _, _, _ => none
 | k + 1, x0, x3, x6, x9 => if x9 < (x3.length : Int) then (waymarklaw07_LexLines.l1 k x0 x3 x6 x9 0) else ((lex_Lines.f k x0).bind fun bt192 => ((waymarklaw07_sameLines.f k bt192.1 x6).bind fun t198 => (some t198)))
def waymarklaw07_LexLines.l1 : Nat → ByteArray → List (S35) → List (S129) → Int → Int → Option (Bool)
 | 0, _, _, _, _, _ => none
 | k + 1, x0, x3, x6, x9, x10 => if 0 ≤ x9 then (if x9 < (x3.length : Int) then (if x10 < (((rd_T35 x3 x9).f1).length : Int) then (if 0 ≤ x10 then (waymarklaw07_LexLines.l1 k x0 (x3.set (x9 : Int).toNat (⟨(rd_T35 x3 x9).f0, (((rd_T35 x3 x9).f1).set (x10 : Int).toNat (⟨(⟨#[63]⟩ : ByteArray), (⟨(rd_T37 ((rd_T35 x3 x9).f1) x10).f1.f0, (rd_T37 ((rd_T35 x3 x9).f1) x10).f1.f1⟩ : S24)⟩ : S37))⟩ : S35)) x6 x9 (wrap64 (x10 + 1))) else (none)) else (waymarklaw07_LexLines.l0 k x0 x3 x6 (wrap64 (x9 + 1)))) else (none)) else (none)
end
def waymarklaw07_LexLines.f (k : Nat) (a0 : ByteArray) : Option (Bool) := (lex_Lines.f k a0).bind fun bt171 => ((waymarkref07_Lines.f k a0).bind fun bt178 => ((waymarklaw07_sameLines.f k bt171.1 bt178.1).bind fun t185 => (if t185 = true then ((waymarklaw07_samePos.f bt171.2.1 bt171.2.2.1 bt178.2.1 bt178.2.2.1).bind fun t186 => (if t186 = true then (waymarklaw07_LexLines.j0 k a0 bt171.1 bt178.1 (bt171.2.2.2 != bt178.2.2.2)) else (none))) else (none))))
theorem waymarklaw07_LexLines.mono_l : ∀ k, (∀ y0 y1 y2 y3, LeO (waymarklaw07_LexLines.j0 k y0 y1 y2 y3) (waymarklaw07_LexLines.j0 (k + 1) y0 y1 y2 y3)) ∧ (∀ y0 y1 y2 y3, LeO (waymarklaw07_LexLines.l0 k y0 y1 y2 y3) (waymarklaw07_LexLines.l0 (k + 1) y0 y1 y2 y3)) ∧ (∀ y0 y1 y2 y3 y4, LeO (waymarklaw07_LexLines.l1 k y0 y1 y2 y3 y4) (waymarklaw07_LexLines.l1 (k + 1) y0 y1 y2 y3 y4))
 | 0 => ⟨fun _ _ _ _ r h => by simp [waymarklaw07_LexLines.j0] at h, fun _ _ _ _ r h => by simp [waymarklaw07_LexLines.l0] at h, fun _ _ _ _ _ r h => by simp [waymarklaw07_LexLines.l1] at h⟩
 | k + 1 => by
  obtain ⟨ih0, ih1, ih2⟩ := waymarklaw07_LexLines.mono_l k
  refine ⟨?_, ?_, ?_⟩
  ·intro y0 y1 y2 y3
   unfold waymarklaw07_LexLines.j0
   repeat' first
   | (with_reducible exact ih0 _ _ _ _)
   | (with_reducible exact ih1 _ _ _ _)
   | (with_reducible exact ih2 _ _ _ _ _)
   | (with_reducible exact lex_Lines.mono _ _)
   | (with_reducible exact waymarklaw07_sameLines.mono _ _ _)
   | (with_reducible exact waymarkref07_Lines.mono _ _)
   | (with_reducible exact LeO.refl _)
   | (with_reducible exact LeO.none _)
   | (with_reducible refine LeO.ite ?_ ?_)
   | (with_reducible refine LeO.bind ?_ (fun _ => ?_))
   | exact ih0 _ _ _ _
   | exact ih1 _ _ _ _
   | exact ih2 _ _ _ _ _
   | exact lex_Lines.mono _ _
   | exact waymarklaw07_sameLines.mono _ _ _
   | exact waymarkref07_Lines.mono _ _
   | exact LeO.none _
   | refine LeO.ite ?_ ?_
   | refine LeO.bind ?_ (fun _ => ?_)
  ·intro y0 y1 y2 y3
   unfold waymarklaw07_LexLines.l0
   repeat' first
   | (with_reducible exact ih0 _ _ _ _)
   | (with_reducible exact ih1 _ _ _ _)
   | (with_reducible exact ih2 _ _ _ _ _)
   | (with_reducible exact lex_Lines.mono _ _)
   | (with_reducible exact waymarklaw07_sameLines.mono _ _ _)
   | (with_reducible exact waymarkref07_Lines.mono _ _)
   | (with_reducible exact LeO.refl _)
   | (with_reducible exact LeO.none _)
   | (with_reducible refine LeO.ite ?_ ?_)
   | (with_reducible refine LeO.bind ?_ (fun _ => ?_))
   | exact ih0 _ _ _ _
   | exact ih1 _ _ _ _
   | exact ih2 _ _ _ _ _
   | exact lex_Lines.mono _ _
   | exact waymarklaw07_sameLines.mono _ _ _
   | exact waymarkref07_Lines.mono _ _
   | exact LeO.none _
   | refine LeO.ite ?_ ?_
   | refine LeO.bind ?_ (fun _ => ?_)
  ·intro y0 y1 y2 y3 y4
   unfold waymarklaw07_LexLines.l1
   repeat' first
   | (with_reducible exact ih0 _ _ _ _)
   | (with_reducible exact ih1 _ _ _ _)
   | (with_reducible exact ih2 _ _ _ _ _)
   | (with_reducible exact lex_Lines.mono _ _)
   | (with_reducible exact waymarklaw07_sameLines.mono _ _ _)
   | (with_reducible exact waymarkref07_Lines.mono _ _)
   | (with_reducible exact LeO.refl _)
   | (with_reducible exact LeO.none _)
   | (with_reducible refine LeO.ite ?_ ?_)
   | (with_reducible refine LeO.bind ?_ (fun _ => ?_))
   | exact ih0 _ _ _ _
   | exact ih1 _ _ _ _
   | exact ih2 _ _ _ _ _
   | exact lex_Lines.mono _ _
   | exact waymarklaw07_sameLines.mono _ _ _
   | exact waymarkref07_Lines.mono _ _
   | exact LeO.none _
   | refine LeO.ite ?_ ?_
   | refine LeO.bind ?_ (fun _ => ?_)
theorem waymarklaw07_LexLines.mono : ∀ a0 k, LeO (waymarklaw07_LexLines.f k a0) (waymarklaw07_LexLines.f (k + 1) a0) := by
 intro a0 k
 obtain ⟨ih0, ih1, ih2⟩ := waymarklaw07_LexLines.mono_l k
 unfold waymarklaw07_LexLines.f
 repeat' first
   | (with_reducible exact ih0 _ _ _ _)
   | (with_reducible exact ih1 _ _ _ _)
   | (with_reducible exact ih2 _ _ _ _ _)
   | (with_reducible exact lex_Lines.mono _ _)
   | (with_reducible exact waymarklaw07_sameLines.mono _ _ _)
   | (with_reducible exact waymarkref07_Lines.mono _ _)
   | (with_reducible exact LeO.refl _)
   | (with_reducible exact LeO.none _)
   | (with_reducible refine LeO.ite ?_ ?_)
   | (with_reducible refine LeO.bind ?_ (fun _ => ?_))
   | exact ih0 _ _ _ _
   | exact ih1 _ _ _ _
   | exact ih2 _ _ _ _ _
   | exact lex_Lines.mono _ _
   | exact waymarklaw07_sameLines.mono _ _ _
   | exact waymarkref07_Lines.mono _ _
   | exact LeO.none _
   | refine LeO.ite ?_ ?_
   | refine LeO.bind ?_ (fun _ => ?_)
set_option maxHeartbeats 8000000 in
set_option maxRecDepth 100000 in
theorem waymarklaw07_LexLines.calls (k : Nat) (a0 : ByteArray) (r : Bool) (w : World) (hG : Go.Proofs.YtbnihnggljagnaaDoor.World.GW w) (h : waymarklaw07_LexLines.f k a0 = some r) :
  Calls Tryd.prog 3 #[.string a0] w fun e w' => e = .returned (.bool r) ∧ Below w.heap.size w w' := by
 have hu24 := Tryd.underlying24
 have HGW_ := Aside0.mk hG
 clear hG
 have HB := Aside0.mk (Below.refl w.heap.size w)
 have H : ((lex_Lines.f k a0).bind fun bt171 => ((waymarkref07_Lines.f k a0).bind fun bt178 => ((waymarklaw07_sameLines.f k bt171.1 bt178.1).bind fun t185 => (if t185 = true then ((waymarklaw07_samePos.f bt171.2.1 bt171.2.2.1 bt178.2.1 bt178.2.2.1).bind fun t186 => (if t186 = true then (waymarklaw07_LexLines.j0 k a0 bt171.1 bt178.1 (bt171.2.2.2 != bt178.2.2.2)) else (none))) else (none))))) = some r := h
 clear h
 replace H := Option.bind_eq_some_iff.mp H
 obtain ⟨⟨t171, t174, t175, t176⟩, A20, H⟩ := H
 replace H : ((waymarkref07_Lines.f k a0).bind fun bt178 => ((waymarklaw07_sameLines.f k t171 bt178.1).bind fun t185 => (if t185 = true then ((waymarklaw07_samePos.f t174 t175 bt178.2.1 bt178.2.2.1).bind fun t186 => (if t186 = true then (waymarklaw07_LexLines.j0 k a0 t171 bt178.1 (t176 != bt178.2.2.2)) else (none))) else (none)))) = some r := H
 have A2 := Aside0.mk A20
 clear A20
 replace H := Option.bind_eq_some_iff.mp H
 obtain ⟨⟨t178, t181, t182, t183⟩, A30, H⟩ := H
 replace H : ((waymarklaw07_sameLines.f k t171 t178).bind fun t185 => (if t185 = true then ((waymarklaw07_samePos.f t174 t175 t181 t182).bind fun t186 => (if t186 = true then (waymarklaw07_LexLines.j0 k a0 t171 t178 (t176 != t183)) else (none))) else (none))) = some r := H
 have A3 := Aside0.mk A30
 clear A30
 have HC4 := Aside0.mk H
 clear H
 go_enter Tryd.func3, Tryd.ntmps3
 go_upto_region 3 with (first | ((with_reducible refine gate_callee (f := 19) rfl ?_); refine goesL_ (some 13) rfl rfl Tryd.func19 (by kernel_rfl) rfl #[.string a0] rfl (by (try simp only [List.map_toArray, List.map_cons, List.map_nil]); first | done | rfl | (simp only [List.length_drop, List.length_take]; rfl)) ?_; (with_reducible refine (lex_Lines.calls k a0 t171 t174 t175 t176 _ ?side1 A2.out).mono ?_); (case side1 => exact Go.Proofs.YtbnihnggljagnaaDoor.World.GW.below HGW_.out (by repeat (first | (with_reducible first | exact HB.out | apply below_alloc | apply pw_below_drewN | apply below_drew1) | exact HB.out))); rintro e w5 ⟨v172, rfl, ho0, hb⟩; refine ⟨_, rfl, ?_⟩; have n0_ := Aside0.mk (Kd.S_lower ho0 (below_size (by repeat (first | (with_reducible first | exact HB.out | apply below_alloc | apply pw_below_drewN | apply below_drew1) | exact HB.out)))); have n1_ := Aside0.mk (below_step (by repeat (first | (with_reducible first | exact HB.out | apply below_alloc | apply pw_below_drewN | apply below_drew1) | exact HB.out)) hb); clear HB; have HO173 := n0_; have HB := n1_; clear n0_ n1_; (try clear hb); (try clear hb2); (try clear hk); (try clear hi); (try clear ho0)) | ((with_reducible refine gate_dst (N := 4) rfl ?_); refine box_event ?hg (N := 4) ?hd (cs := #[.int .i64 0, .int .i64 0]) (t := 24) ?hr ?_; (case hd => rfl); (case hg => rfl); (case hr => first | (go_simp; done) | (go_simp; rfl)); intro gb177 hg w6 hbox hb; have n0_ := Aside0.mk (Kd.S_below (by (with_reducible repeat (first | apply Kd.S_alloc | apply Kd.S_drewN | apply Kd.S_drew)); exact HO173.out) hb); have n1_ := Aside0.mk (below_step (by repeat (first | (with_reducible first | exact HB.out | apply below_alloc | apply pw_below_drewN | apply below_drew1) | exact HB.out)) hb); have n2_ := Aside0.mk (hbox); have n3_ := Aside0.mk ((by rw [hg]; exact (below_size (by repeat (first | (with_reducible first | exact HB.out | apply below_alloc | apply pw_below_drewN | apply below_drew1) | exact HB.out))) : w.heap.size ≤ gb177)); have n4_ := Aside0.mk ((by rw [hg]; exact (below_size (by repeat (first | (with_reducible first | exact HB.out | apply below_alloc | apply pw_below_drewN | apply below_drew1) | exact HB.out))) : w.heap.size ≤ gb177)); clear HO173; clear HB; have HO173 := n0_; have HB := n1_; have BK177 := n2_; have GW177 := n3_; have GE177 := n4_; clear n0_ n1_ n2_ n3_ n4_; clear hb hbox hg; have hcz7_0 : w6.cell? ⟨gb177, 0, none⟩ = some (.int .i64 0) := (blk_cell BK177.out 0).trans rfl; have hcz7_1 : w6.cell? ⟨gb177, 1, none⟩ = some (.int .i64 0) := (blk_cell BK177.out 1).trans rfl; have hfz7_0 := blk_frozen BK177.out 0; have hfz7_1 := blk_frozen BK177.out 1) | ((with_reducible refine gate_callee (f := 20) rfl ?_); refine goesL_ (some 19) rfl rfl Tryd.func20 (by kernel_rfl) rfl #[.string a0] rfl (by (try simp only [List.map_toArray, List.map_cons, List.map_nil]); first | done | rfl | (simp only [List.length_drop, List.length_take]; rfl)) ?_; (with_reducible refine (waymarkref07_Lines.calls k a0 t178 t181 t182 t183 _ A3.out).mono ?_); rintro e w8 ⟨v179, rfl, ho0, hb⟩; refine ⟨_, rfl, ?_⟩; have n0_ := Aside0.mk (Kd.S_below (by (with_reducible repeat (first | apply Kd.S_alloc | apply Kd.S_drewN | apply Kd.S_drew)); exact (Kd.S_mono (Kd.S_far (p := ⟨gb177, 1, none⟩) (Kd.S_far (p := ⟨gb177, 0, none⟩) (Kd.S_types HO173.out BK177.out (by decide)) (fun _ hk => hk.2) (.int .i64 t174)) (fun _ hk => hk.2) (.int .i64 t175)) (fun _ h_ => h_.1))) hb); have n1_ := Aside0.mk (Kd.S_lower ho0 (below_size (by repeat (first | (with_reducible first | exact HB.out | apply below_alloc | apply pw_below_drewN | apply below_drew1 | refine below_set ?_ GE177.out) | exact HB.out)))); have n2_ := Aside0.mk (blk_below (g := gb177) (o := .cells #[.int .i64 t174, .int .i64 t175] 24 (0, 0)) (by (with_reducible repeat (first | refine blk_drewN ?_ _ | refine blk_drew ?_ | refine blk_alloc ?_ _)); refine blk_put (cs := #[.int .i64 t174, .int .i64 0]) ?_ 1 _ rfl; (with_reducible repeat (first | refine blk_drewN ?_ _ | refine blk_drew ?_ | refine blk_alloc ?_ _)); refine blk_put (cs := #[.int .i64 0, .int .i64 0]) ?_ 0 _ rfl; (with_reducible repeat (first | refine blk_drewN ?_ _ | refine blk_drew ?_ | refine blk_alloc ?_ _)); exact BK177.out) hb); have n3_ := Aside0.mk (below_step (by repeat (first | (with_reducible first | exact HB.out | apply below_alloc | apply pw_below_drewN | apply below_drew1 | refine below_set ?_ GE177.out) | exact HB.out)) hb); clear HO173; clear BK177; clear HB; have HO173 := n0_; have HO180 := n1_; have BK177 := n2_; have HB := n3_; clear n0_ n1_ n2_ n3_; (try clear hb); (try clear hb2); (try clear hk); (try clear hi); (try clear ho0)) | ((with_reducible refine gate_dst (N := 7) rfl ?_); refine box_event ?hg (N := 7) ?hd (cs := #[.int .i64 0, .int .i64 0]) (t := 24) ?hr ?_; (case hd => rfl); (case hg => rfl); (case hr => first | (go_simp; done) | (go_simp; rfl)); intro gb184 hg w9 hbox hb; have n0_ := Aside0.mk (Kd.S_below (by (with_reducible repeat (first | apply Kd.S_alloc | apply Kd.S_drewN | apply Kd.S_drew)); exact HO173.out) hb); have n1_ := Aside0.mk (Kd.S_below (by (with_reducible repeat (first | apply Kd.S_alloc | apply Kd.S_drewN | apply Kd.S_drew)); exact HO180.out) hb); have n2_ := Aside0.mk (blk_below (g := gb177) (o := .cells #[.int .i64 t174, .int .i64 t175] 24 (0, 0)) (by (with_reducible repeat (first | refine blk_drewN ?_ _ | refine blk_drew ?_ | refine blk_alloc ?_ _)); exact BK177.out) hb); have n3_ := Aside0.mk (below_step (by repeat (first | (with_reducible first | exact HB.out | apply below_alloc | apply pw_below_drewN | apply below_drew1 | refine below_set ?_ GE177.out) | exact HB.out)) hb); have n4_ := Aside0.mk (hbox); have n5_ := Aside0.mk ((by rw [hg]; exact (below_size (by repeat (first | (with_reducible first | exact HB.out | apply below_alloc | apply pw_below_drewN | apply below_drew1 | refine below_set ?_ GE177.out) | exact HB.out))) : w.heap.size ≤ gb184)); have n6_ := Aside0.mk ((by rw [hg]; exact (below_size (by repeat (first | (with_reducible first | exact HB.out | apply below_alloc | apply pw_below_drewN | apply below_drew1 | refine below_set ?_ GE177.out) | exact HB.out))) : w.heap.size ≤ gb184)); have n7_ := Aside0.mk ((by rw [hg]; exact Nat.ne_of_lt (blk_lt (g := gb177) (o := .cells #[.int .i64 t174, .int .i64 t175] 24 (0, 0)) (by (with_reducible repeat (first | refine blk_drewN ?_ _ | refine blk_drew ?_ | refine blk_alloc ?_ _)); exact BK177.out)) : gb177 ≠ gb184)); have n8_ := Aside0.mk ((by rw [hg]; exact Nat.ne_of_gt (blk_lt (g := gb177) (o := .cells #[.int .i64 t174, .int .i64 t175] 24 (0, 0)) (by (with_reducible repeat (first | refine blk_drewN ?_ _ | refine blk_drew ?_ | refine blk_alloc ?_ _)); exact BK177.out)) : gb184 ≠ gb177)); clear HO173; clear HO180; clear BK177; clear HB; have HO173 := n0_; have HO180 := n1_; have BK177 := n2_; have HB := n3_; have BK184 := n4_; have GW184 := n5_; have GE184 := n6_; have NB177_184 := n7_; have NB184_177 := n8_; clear n0_ n1_ n2_ n3_ n4_ n5_ n6_ n7_ n8_; clear hb hbox hg; have hnb10 := NB184_177.out; have hnc10 := NB177_184.out; have hcz11_0 : w9.cell? ⟨gb184, 0, none⟩ = some (.int .i64 0) := (blk_cell BK184.out 0).trans rfl; have hcz11_1 : w9.cell? ⟨gb184, 1, none⟩ = some (.int .i64 0) := (blk_cell BK184.out 1).trans rfl; have hfz11_0 := blk_frozen BK184.out 0; have hfz11_1 := blk_frozen BK184.out 1))
 (try simp only [Act.put, List.setIfInBounds_toArray, List.set_cons_zero, List.set_cons_succ])
 go_cut [37] (fun v37 wc => ∃ (kq : Nat) (x37_3 : Bool), v37 = .bool x37_3 ∧ Aside0 (waymarklaw07_LexLines.j0 kq a0 t171 t178 x37_3 = some r) ∧ Aside0 (kq ≤ k) ∧ Aside0 (Kd.S k35 35 wc w.heap.size (fun _ => True) v172 t171) ∧ Aside0 (Kd.S k129 129 wc w.heap.size (fun _ => True) v179 t178) ∧ Aside0 (wc.heap[gb177]? = some (.cells #[.int .i64 t174, .int .i64 t175] 24 (0, 0))) ∧ Aside0 (wc.heap[gb184]? = some (.cells #[.int .i64 t181, .int .i64 t182] 24 (0, 0))) ∧ Aside0 (Below w.heap.size w wc))
 case first =>
  have H := HC4.out
  clear HC4
  replace H := Option.bind_eq_some_iff.mp H
  obtain ⟨t185, A120, H⟩ := H
  replace H : (if t185 = true then ((waymarklaw07_samePos.f t174 t175 t181 t182).bind fun t186 => (if t186 = true then (waymarklaw07_LexLines.j0 k a0 t171 t178 (t176 != t183)) else (none))) else (none)) = some r := H
  have A12 := Aside0.mk A120
  clear A120
  by_cases c13 : t185 = true
  ·subst c13
   have H1 : ((waymarklaw07_samePos.f t174 t175 t181 t182).bind fun t186 => (if t186 = true then (waymarklaw07_LexLines.j0 k a0 t171 t178 (t176 != t183)) else (none))) = some r := by rw [if_pos rfl] at H; exact H
   clear H
   have H := H1
   clear H1
   replace H := Option.bind_eq_some_iff.mp H
   obtain ⟨t186, A140, H⟩ := H
   replace H : (if t186 = true then (waymarklaw07_LexLines.j0 k a0 t171 t178 (t176 != t183)) else (none)) = some r := H
   have A14 := Aside0.mk A140
   clear A140
   by_cases c15 : t186 = true
   ·subst c15
    have H1 : (waymarklaw07_LexLines.j0 k a0 t171 t178 (t176 != t183)) = some r := by rw [if_pos rfl] at H; exact H
    clear H
    have H := H1
    clear H1
    as_aux_lemma =>
     have H' := Aside0.mk H
     clear H
     obtain ⟨Ao16, co16, eo16⟩ := Kd.S_slice HO173.out
     subst eo16
     obtain ⟨Ao17, co17, eo17⟩ := Kd.S_slice HO180.out
     subst eo17
     go_wp2_with (first | ((with_reducible refine gate_callee (f := 21) rfl ?_); refine goesL_ (some 25) rfl rfl Tryd.func21 (by kernel_rfl) rfl #[.slice Ao16 t171.length co16, .slice Ao17 t178.length co17] rfl (by (try simp only [List.map_toArray, List.map_cons, List.map_nil]); first | done | rfl | (simp only [List.length_drop, List.length_take]; rfl)) ?_; (with_reducible refine (waymarklaw07_sameLines.calls k _ _ t171 _ _ t178 true _ ?side1 ?side2 ?side3 ?side4 A12.out).mono ?_); (case side1 => refine (Kd.S_reads' (e := 35) (base := w.heap.size) (ok := fun k_ => True) (n := t171.length) (c := co16) ?_).2.2; exact (by (with_reducible repeat (first | apply Kd.S_alloc | apply Kd.S_drewN | apply Kd.S_drew)); exact (Kd.S_mono (Kd.S_far (p := ⟨gb184, 1, none⟩) (Kd.S_far (p := ⟨gb184, 0, none⟩) (Kd.S_types HO173.out BK184.out (by decide)) (fun _ hk => hk.2) (.int .i64 t181)) (fun _ hk => hk.2) (.int .i64 t182)) (fun _ h_ => h_.1)))); (case side2 => exact (Kd.S_reads' HO173.out).2.1); (case side3 => refine (Kd.S_reads' (e := 129) (base := w.heap.size) (ok := fun k_ => True) (n := t178.length) (c := co17) ?_).2.2; exact (by (with_reducible repeat (first | apply Kd.S_alloc | apply Kd.S_drewN | apply Kd.S_drew)); exact (Kd.S_mono (Kd.S_far (p := ⟨gb184, 1, none⟩) (Kd.S_far (p := ⟨gb184, 0, none⟩) (Kd.S_types HO180.out BK184.out (by decide)) (fun _ hk => hk.2) (.int .i64 t181)) (fun _ hk => hk.2) (.int .i64 t182)) (fun _ h_ => h_.1)))); (case side4 => exact (Kd.S_reads' HO180.out).2.1); rintro e w18 ⟨rfl, hb⟩; refine ⟨_, rfl, ?_⟩; have n0_ := Aside0.mk (Kd.S_below (by (with_reducible repeat (first | apply Kd.S_alloc | apply Kd.S_drewN | apply Kd.S_drew)); exact (Kd.S_mono (Kd.S_far (p := ⟨gb184, 1, none⟩) (Kd.S_far (p := ⟨gb184, 0, none⟩) (Kd.S_types HO173.out BK184.out (by decide)) (fun _ hk => hk.2) (.int .i64 t181)) (fun _ hk => hk.2) (.int .i64 t182)) (fun _ h_ => h_.1))) hb); have n1_ := Aside0.mk (Kd.S_below (by (with_reducible repeat (first | apply Kd.S_alloc | apply Kd.S_drewN | apply Kd.S_drew)); exact (Kd.S_mono (Kd.S_far (p := ⟨gb184, 1, none⟩) (Kd.S_far (p := ⟨gb184, 0, none⟩) (Kd.S_types HO180.out BK184.out (by decide)) (fun _ hk => hk.2) (.int .i64 t181)) (fun _ hk => hk.2) (.int .i64 t182)) (fun _ h_ => h_.1))) hb); have n2_ := Aside0.mk (blk_below (g := gb177) (o := .cells #[.int .i64 t174, .int .i64 t175] 24 (0, 0)) (by (with_reducible repeat (first | refine blk_drewN ?_ _ | refine blk_drew ?_ | refine blk_alloc ?_ _)); refine blk_far ?_ NB177_184.out _; (with_reducible repeat (first | refine blk_drewN ?_ _ | refine blk_drew ?_ | refine blk_alloc ?_ _)); refine blk_far ?_ NB177_184.out _; (with_reducible repeat (first | refine blk_drewN ?_ _ | refine blk_drew ?_ | refine blk_alloc ?_ _)); exact BK177.out) hb); have n3_ := Aside0.mk (blk_below (g := gb184) (o := .cells #[.int .i64 t181, .int .i64 t182] 24 (0, 0)) (by (with_reducible repeat (first | refine blk_drewN ?_ _ | refine blk_drew ?_ | refine blk_alloc ?_ _)); refine blk_put (cs := #[.int .i64 t181, .int .i64 0]) ?_ 1 _ rfl; (with_reducible repeat (first | refine blk_drewN ?_ _ | refine blk_drew ?_ | refine blk_alloc ?_ _)); refine blk_put (cs := #[.int .i64 0, .int .i64 0]) ?_ 0 _ rfl; (with_reducible repeat (first | refine blk_drewN ?_ _ | refine blk_drew ?_ | refine blk_alloc ?_ _)); exact BK184.out) hb); have n4_ := Aside0.mk (below_step (by repeat (first | (with_reducible first | exact HB.out | apply below_alloc | apply pw_below_drewN | apply below_drew1 | refine below_set ?_ GE177.out | refine below_set ?_ GE184.out) | exact HB.out)) hb); clear HO173; clear HO180; clear BK177; clear BK184; clear HB; have HO173 := n0_; have HO180 := n1_; have BK177 := n2_; have BK184 := n3_; have HB := n4_; clear n0_ n1_ n2_ n3_ n4_; (try clear hb); (try clear hb2); (try clear hk); (try clear hi); have hnb19 := NB177_184.out; have hnc19 := NB184_177.out; have hcz20_0 : w18.cell? ⟨gb177, 0, none⟩ = some (.int .i64 t174) := (blk_cell BK177.out 0).trans rfl; have hcz20_1 : w18.cell? ⟨gb177, 1, none⟩ = some (.int .i64 t175) := (blk_cell BK177.out 1).trans rfl; have hfz20_0 := blk_frozen BK177.out 0; have hfz20_1 := blk_frozen BK177.out 1; have hcz21_0 : w18.cell? ⟨gb184, 0, none⟩ = some (.int .i64 t181) := (blk_cell BK184.out 0).trans rfl; have hcz21_1 : w18.cell? ⟨gb184, 1, none⟩ = some (.int .i64 t182) := (blk_cell BK184.out 1).trans rfl; have hfz21_0 := blk_frozen BK184.out 0; have hfz21_1 := blk_frozen BK184.out 1) | (go_at_call 22; (with_reducible refine (waymarklaw07_samePos.calls t174 t175 t181 t182 true _ A14.out).mono ?_); rintro e w22 ⟨rfl, hb⟩; have n0_ := Aside0.mk (Kd.S_below (by (with_reducible repeat (first | apply Kd.S_alloc | apply Kd.S_drewN | apply Kd.S_drew)); exact HO173.out) hb); have n1_ := Aside0.mk (Kd.S_below (by (with_reducible repeat (first | apply Kd.S_alloc | apply Kd.S_drewN | apply Kd.S_drew)); exact HO180.out) hb); have n2_ := Aside0.mk (blk_below (g := gb177) (o := .cells #[.int .i64 t174, .int .i64 t175] 24 (0, 0)) (by (with_reducible repeat (first | refine blk_drewN ?_ _ | refine blk_drew ?_ | refine blk_alloc ?_ _)); exact BK177.out) hb); have n3_ := Aside0.mk (blk_below (g := gb184) (o := .cells #[.int .i64 t181, .int .i64 t182] 24 (0, 0)) (by (with_reducible repeat (first | refine blk_drewN ?_ _ | refine blk_drew ?_ | refine blk_alloc ?_ _)); exact BK184.out) hb); have n4_ := Aside0.mk (below_step (by repeat (first | (with_reducible first | exact HB.out | apply below_alloc | apply pw_below_drewN | apply below_drew1 | refine below_set ?_ GE177.out | refine below_set ?_ GE184.out) | exact HB.out)) hb); clear HO173; clear HO180; clear BK177; clear BK184; clear HB; have HO173 := n0_; have HO180 := n1_; have BK177 := n2_; have BK184 := n3_; have HB := n4_; clear n0_ n1_ n2_ n3_ n4_; (try clear hb); (try clear hb2); (try clear hk); (try clear hi)))
     go_meet
     case rel => exact ⟨_, ((t176 != t183)), (by first | rfl | (simp; done) | (simp [*]; done)), H', ⟨by first | omega | exact Nat.le_refl _⟩, ⟨by (with_reducible repeat (first | apply Kd.S_alloc | apply Kd.S_drewN | apply Kd.S_drew)); exact HO173.out⟩, ⟨by (with_reducible repeat (first | apply Kd.S_alloc | apply Kd.S_drewN | apply Kd.S_drew)); exact HO180.out⟩, ⟨by (with_reducible repeat (first | refine blk_drewN ?_ _ | refine blk_drew ?_ | refine blk_alloc ?_ _)); exact BK177.out⟩, ⟨by (with_reducible repeat (first | refine blk_drewN ?_ _ | refine blk_drew ?_ | refine blk_alloc ?_ _)); exact BK184.out⟩, ⟨by repeat (first | (with_reducible first | exact HB.out | apply below_alloc | apply pw_below_drewN | apply below_drew1 | refine below_set ?_ GE177.out | refine below_set ?_ GE184.out) | exact HB.out)⟩⟩
   ·replace c15 := Bool.eq_false_iff.mpr c15
    subst c15
    have H1 : (none) = some r := by rw [if_neg (show ¬ (false = true) by decide)] at H; exact H
    clear H
    have H := H1
    clear H1
    exact absurd H (by simp)
  ·replace c13 := Bool.eq_false_iff.mpr c13
   subst c13
   have H1 : (none) = some r := by rw [if_neg (show ¬ (false = true) by decide)] at H; exact H
   clear H
   have H := H1
   clear H1
   exact absurd H (by simp)
 case rest =>
  clear HC4
  try clear c1
  try clear c2
  try clear p2
  try clear c3
  try clear c10
  try clear c13
  try clear c15
  try clear c19
  try clear c20
  try clear c21
  try clear hcz11_0
  try clear hcz11_1
  try clear hcz20_0
  try clear hcz20_1
  try clear hcz21_0
  try clear hcz21_1
  try clear hcz7_0
  try clear hcz7_1
  try clear hfz11_0
  try clear hfz11_1
  try clear hfz20_0
  try clear hfz20_1
  try clear hfz21_0
  try clear hfz21_1
  try clear hfz7_0
  try clear hfz7_1
  obtain ⟨kq, x37_3, rfl, HA, HJ3, HO_3, HO_6, BK177, BK184, HB⟩ := hcut
  cases kq with
  | zero => exact absurd HA.out (by simp [waymarklaw07_LexLines.j0])
  | succ kj3 =>
   have H := HA.out
   clear HA
   simp only [waymarklaw07_LexLines.j0] at H
   by_cases c23 : x37_3 = true
   ·subst c23
    have H1 : (none) = some r := by rw [if_pos rfl] at H; exact H
    clear H
    have H := H1
    clear H1
    exact absurd H (by simp)
   ·replace c23 := Bool.eq_false_iff.mpr c23
    subst c23
    have H1 : (waymarklaw07_LexLines.l0 kj3 a0 t171 t178 0) = some r := by rw [if_neg (show ¬ (false = true) by decide)] at H; exact H
    clear H
    have H := H1
    clear H1
    have H' := Aside0.mk H
    clear H
    go_wp2
    go_loopg [9] kj3 (fun kq v9 w' => ∃ (x3_2 : List (S35)) (x9_2 : Int), v9 = .int .i64 x9_2 ∧ Aside0 (waymarklaw07_LexLines.l0 kq a0 x3_2 t178 x9_2 = some r) ∧ Aside0 (kq ≤ kj3) ∧ Aside0 (Kd.S k35 35 w' w.heap.size (fun _ => True) v172 x3_2) ∧ Aside0 (Kd.S k129 129 w' w.heap.size (fun _ => True) v179 t178) ∧ Aside0 (w'.heap[gb177]? = some (.cells #[.int .i64 t174, .int .i64 t175] 24 (0, 0))) ∧ Aside0 (w'.heap[gb184]? = some (.cells #[.int .i64 t181, .int .i64 t182] 24 (0, 0))) ∧ Aside0 (Below w.heap.size w w'))
    case atStart => exact ⟨(t171), (0), (by first | rfl | (simp; done) | (simp [*]; done)), H', ⟨Nat.le_refl _⟩, ⟨by (with_reducible repeat (first | apply Kd.S_alloc | apply Kd.S_drewN | apply Kd.S_drew)); exact HO_3.out⟩, ⟨by (with_reducible repeat (first | apply Kd.S_alloc | apply Kd.S_drewN | apply Kd.S_drew)); exact HO_6.out⟩, ⟨by (with_reducible repeat (first | refine blk_drewN ?_ _ | refine blk_drew ?_ | refine blk_alloc ?_ _)); exact BK177.out⟩, ⟨by (with_reducible repeat (first | refine blk_drewN ?_ _ | refine blk_drew ?_ | refine blk_alloc ?_ _)); exact BK184.out⟩, ⟨by repeat (first | (with_reducible first | exact HB.out | apply below_alloc | apply pw_below_drewN | apply below_drew1 | refine below_set ?_ GE177.out | refine below_set ?_ GE184.out) | exact HB.out)⟩⟩
    case round =>
     clear H'
     try clear c1
     try clear c2
     try clear p2
     try clear c3
     try clear c10
     try clear c13
     try clear c15
     try clear c19
     try clear c20
     try clear c21
     try clear c23
     try clear hcz11_0
     try clear hcz11_1
     try clear hcz20_0
     try clear hcz20_1
     try clear hcz21_0
     try clear hcz21_1
     try clear hcz7_0
     try clear hcz7_1
     try clear hfz11_0
     try clear hfz11_1
     try clear hfz20_0
     try clear hfz20_1
     try clear hfz21_0
     try clear hfz21_1
     try clear hfz7_0
     try clear hfz7_1
     try clear p2
     obtain ⟨x3_2, x9_2, rfl, HA, HK2, HO_3, HO_6, BK177, BK184, HB⟩ := hrel
     cases gk with
     | zero => exact absurd HA.out (by simp [waymarklaw07_LexLines.l0])
     | succ k2 =>
      have H := HA.out
      clear HA
      simp only [waymarklaw07_LexLines.l0] at H
      by_cases c24 : x9_2 < (x3_2.length : Int)
      ·rw [if_pos c24] at H
       have c24b0 : decide (x9_2 < (x3_2.length : Int)) = true := decide_eq_true c24
       clear c24
       have H' := Aside0.mk H
       clear H
       obtain ⟨Ao25, co25, eo25⟩ := Kd.S_slice HO_3.out
       subst eo25
       go_wp2
       go_loopg [10] k2 (fun kq v10 w' => ∃ (x3_3 : List (S35)) (x10_3 : Int), v10 = .int .i64 x10_3 ∧ Aside0 (waymarklaw07_LexLines.l1 kq a0 x3_3 t178 x9_2 x10_3 = some r) ∧ Aside0 (kq ≤ k2) ∧ Aside0 (Kd.S k35 35 w' w.heap.size (fun _ => True) (.slice Ao25 x3_2.length co25) x3_3) ∧ Aside0 (Kd.S k129 129 w' w.heap.size (fun _ => True) v179 t178) ∧ Aside0 (w'.heap[gb177]? = some (.cells #[.int .i64 t174, .int .i64 t175] 24 (0, 0))) ∧ Aside0 (w'.heap[gb184]? = some (.cells #[.int .i64 t181, .int .i64 t182] 24 (0, 0))) ∧ Aside0 (Below w.heap.size w w'))
       case atStart => exact ⟨(x3_2), (0), (by first | rfl | (simp; done) | (simp [*]; done)), H', ⟨Nat.le_refl _⟩, ⟨by (with_reducible repeat (first | apply Kd.S_alloc | apply Kd.S_drewN | apply Kd.S_drew)); exact HO_3.out⟩, ⟨by (with_reducible repeat (first | apply Kd.S_alloc | apply Kd.S_drewN | apply Kd.S_drew)); exact HO_6.out⟩, ⟨by (with_reducible repeat (first | refine blk_drewN ?_ _ | refine blk_drew ?_ | refine blk_alloc ?_ _)); exact BK177.out⟩, ⟨by (with_reducible repeat (first | refine blk_drewN ?_ _ | refine blk_drew ?_ | refine blk_alloc ?_ _)); exact BK184.out⟩, ⟨by repeat (first | (with_reducible first | exact HB.out | apply below_alloc | apply pw_below_drewN | apply below_drew1 | refine below_set ?_ GE177.out | refine below_set ?_ GE184.out) | exact HB.out)⟩⟩
       case round =>
        clear H'
        try clear c1
        try clear c2
        try clear p2
        try clear c3
        try clear c10
        try clear c13
        try clear c15
        try clear c19
        try clear c20
        try clear c21
        try clear c23
        try clear c24
        try clear c24b0
        try clear hcz11_0
        try clear hcz11_1
        try clear hcz20_0
        try clear hcz20_1
        try clear hcz21_0
        try clear hcz21_1
        try clear hcz7_0
        try clear hcz7_1
        try clear hfz11_0
        try clear hfz11_1
        try clear hfz20_0
        try clear hfz20_1
        try clear hfz21_0
        try clear hfz21_1
        try clear hfz7_0
        try clear hfz7_1
        try clear p2
        obtain ⟨x3_3, x10_3, rfl, HA, HK3, HO_3, HO_6, BK177, BK184, HB⟩ := hrel
        have hl3_3 := (Kd.S_reads' HO_3.out).1
        rw [hl3_3] at HO_3
        (try simp only [hl3_3])
        (try simp only [hl3_3] at BK177)
        (try simp only [hl3_3] at BK184)
        (try simp only [hl3_3] at HO_6)
        cases gk with
        | zero => exact absurd HA.out (by simp [waymarklaw07_LexLines.l1])
        | succ k3 =>
         have H := HA.out
         clear HA
         simp only [waymarklaw07_LexLines.l1] at H
         by_cases c26 : 0 ≤ x9_2
         ·rw [if_pos c26] at H
          have c26b0 : decide (0 ≤ x9_2) = true := decide_eq_true c26
          clear c26
          by_cases c27 : x9_2 < (x3_3.length : Int)
          ·rw [if_pos c27] at H
           have c27b0 : decide (x9_2 < (x3_3.length : Int)) = true := decide_eq_true c27
           clear c27
           by_cases c28 : x10_3 < (((rd_T35 x3_3 x9_2).f1).length : Int)
           ·rw [if_pos c28] at H
            have c28b0 : decide (x10_3 < (((rd_T35 x3_3 x9_2).f1).length : Int)) = true := decide_eq_true c28
            clear c28
            by_cases c29 : 0 ≤ x10_3
            ·rw [if_pos c29] at H
             have c29b0 : decide (0 ≤ x10_3) = true := decide_eq_true c29
             clear c29
             obtain ⟨y189, hy189⟩ : ∃ y_ : List (S37), y_ = (((rd_T35 x3_3 x9_2).f1).set (x10_3 : Int).toNat (⟨(⟨#[63]⟩ : ByteArray), (⟨(rd_T37 ((rd_T35 x3_3 x9_2).f1) x10_3).f1.f0, (rd_T37 ((rd_T35 x3_3 x9_2).f1) x10_3).f1.f1⟩ : S24)⟩ : S37)) := ⟨_, rfl⟩
             replace H : (waymarklaw07_LexLines.l1 k3 a0 (x3_3.set (x9_2 : Int).toNat (⟨(rd_T35 x3_3 x9_2).f0, y189⟩ : S35)) t178 x9_2 (wrap64 (x10_3 + 1))) = some r := by first | (rw [hy189]; with_reducible exact H) | (have H2_ := (Option.bind_some _ _).symm.trans H; rw [hy189]; with_reducible exact H2_) | (have H2_ := (Option.bind_some _ _).symm.trans H; with_reducible exact H2_) | with_reducible exact H | (rw [hy189]; exact H) | exact H
             have Ny189 := Aside0.mk hy189
             clear hy189
             obtain ⟨y191, hy191⟩ : ∃ y_ : List (S35), y_ = (x3_3.set (x9_2 : Int).toNat (⟨(rd_T35 x3_3 x9_2).f0, y189⟩ : S35)) := ⟨_, rfl⟩
             replace H : (waymarklaw07_LexLines.l1 k3 a0 y191 t178 x9_2 (wrap64 (x10_3 + 1))) = some r := by first | (rw [hy191]; with_reducible exact H) | (have H2_ := (Option.bind_some _ _).symm.trans H; rw [hy191]; with_reducible exact H2_) | (have H2_ := (Option.bind_some _ _).symm.trans H; with_reducible exact H2_) | with_reducible exact H | (rw [hy191]; exact H) | exact H
             have Ny191 := Aside0.mk hy191
             clear hy191
             as_aux_lemma =>
              have H' := Aside0.mk H
              clear H
              have p187 : 0 ≤ (x9_2 : Int) := of_decide_eq_true (by first | (with_reducible assumption) | assumption)
              have q187 : x9_2 < (x3_3.length : Int) := of_decide_eq_true (by first | (with_reducible assumption) | assumption)
              obtain ⟨ad187, A187_1, c187_1, e187, hx187_0, hx187_1, hl187_1, hi187_1⟩ := at_T35 (Kd.S_reads' HO_3.out).2.2 x9_2 p187 q187
              cases e187
              obtain ⟨ce187, hce187, hMe187, hcc187⟩ := Kd.S_get HO_3.out z35 x9_2 p187 (by first | exact q187 | exact of_decide_eq_true (by first | (with_reducible assumption) | assumption) | (have e_ := (Kd.S_reads' HO_3.out).1; omega))
              obtain ⟨ve187_1, rfl, ge187_1⟩ := k35_openM hMe187
              have hv187_1 := hcc187 1 _ rfl
              rw [add_field _ _ 1 (by omega)] at hv187_1
              replace hv187_1 := Option.some.inj (hv187_1.symm.trans hx187_1)
              rw [hv187_1] at ge187_1
              have HL187_1 := Aside0.mk (show Kd.R k37 37 _ _ _ _ ((rd_T35 x3_3 x9_2).f1) from ge187_1)
              clear hv187_1 ge187_1
              have HX187_1 := Aside0.mk hx187_1
              clear hcc187 hce187
              have HR187_1 := Aside0.mk hi187_1
              have HC187_1 := Aside0.mk hl187_1
              clear hi187_1 hl187_1
              replace p187 := eq_true p187
              replace q187 := eq_true q187
              have p188 : 0 ≤ (x9_2 : Int) := of_decide_eq_true (by first | (with_reducible assumption) | assumption)
              have q188 : x9_2 < (x3_3.length : Int) := of_decide_eq_true (by first | (with_reducible assumption) | assumption)
              obtain ⟨ad188, A188_1, c188_1, e188, hx188_0, hx188_1, hl188_1, hi188_1⟩ := at_T35 (Kd.S_reads' HO_3.out).2.2 x9_2 p188 q188
              obtain rfl : ad187 = ad188 := (by injection e188)
              obtain ⟨ce188, hce188, hMe188, hcc188⟩ := Kd.S_get HO_3.out z35 x9_2 p188 (by first | exact q188 | exact of_decide_eq_true (by first | (with_reducible assumption) | assumption) | (have e_ := (Kd.S_reads' HO_3.out).1; omega))
              obtain ⟨ve188_1, rfl, ge188_1⟩ := k35_openM hMe188
              have hv188_1 := hcc188 1 _ rfl
              rw [add_field _ _ 1 (by omega)] at hv188_1
              replace hv188_1 := Option.some.inj (hv188_1.symm.trans hx188_1)
              rw [hv188_1] at ge188_1
              have HL188_1 := Aside0.mk (show Kd.R k37 37 _ _ _ _ ((rd_T35 x3_3 x9_2).f1) from ge188_1)
              clear hv188_1 ge188_1
              have HX188_1 := Aside0.mk hx188_1
              clear hcc188 hce188
              have HR188_1 := Aside0.mk hi188_1
              have HC188_1 := Aside0.mk hl188_1
              clear hi188_1 hl188_1
              replace p188 := eq_true p188
              replace q188 := eq_true q188
              have ea_ := Option.some.inj (hx187_1.symm.trans hx188_1)
              injection ea_ with ea_ en_ ec_
              subst ea_
              subst ec_
              clear en_
              have p30 : 0 ≤ (x10_3 : Int) := of_decide_eq_true (by first | (with_reducible assumption) | assumption)
              have q30 : (x10_3 : Int) < ((((rd_T35 x3_3 x9_2).f1).length : Int) : Int) := of_decide_eq_true (by first | (with_reducible assumption) | assumption)
              obtain ⟨go30, co30, eo30, gb30, gl30, cl30, HG30⟩ := Kd.R_form HL188_1.out (by omega)
              (first | cases eo30 | (injection eo30 with ea_ en_ ec_; (first | subst ea_ | (injection ea_ with ea_; subst ea_)); subst ec_; clear en_))
              have GB30 := Aside0.mk gb30
              have GG30 := Aside0.mk HG30
              clear gb30 gl30 HG30
              obtain ⟨ce30, hcl30, hM30, hcc30, hfr30⟩ := Kd.R_elem HL188_1.out z37 (x10_3 : Int) p30 q30
              obtain rfl := k37_openM hM30
              have hx30_0 : wr.cell? ⟨go30, (x10_3 : Int).toNat * 3, none⟩ = some (.string ((rd_T37 ((rd_T35 x3_3 x9_2).f1) x10_3).f0)) := hcc30 0 _ rfl
              have hx30_1 : wr.cell? ⟨go30, (x10_3 : Int).toNat * 3 + 1, none⟩ = some (.int .i64 ((rd_T37 ((rd_T35 x3_3 x9_2).f1) x10_3).f1.f0)) := hcc30 1 _ rfl
              have hx30_2 : wr.cell? ⟨go30, (x10_3 : Int).toNat * 3 + 2, none⟩ = some (.int .i64 ((rd_T37 ((rd_T35 x3_3 x9_2).f1) x10_3).f1.f1)) := hcc30 2 _ rfl
              have hf30_0 : wr.frozen? ⟨go30, (x10_3 : Int).toNat * 3, none⟩ = false := hfr30 0
              have hf30_1 : wr.frozen? ⟨go30, (x10_3 : Int).toNat * 3 + 1, none⟩ = false := hfr30 1
              have hf30_2 : wr.frozen? ⟨go30, (x10_3 : Int).toNat * 3 + 2, none⟩ = false := hfr30 2
              clear hcl30 hcc30 hfr30 hM30
              replace p30 := eq_true p30
              replace q30 := eq_true q30
              have hq31 : (x9_2 : Int) < (x3_3.length : Int) := (by have h_ : (x9_2 : Int) < ((x3_3.length : Int) : Int) := of_decide_eq_true (by first | (with_reducible assumption) | assumption); first | exact h_ | (have e_ := (Kd.S_reads' HO_3.out).1; omega) | simpa only [List.length_set, List.length_set] using h_)
              obtain ⟨oki31, ce31, hcl31, hM31, hcc31, hok31, hbk31⟩ := Kd.S_borrow HO_3.out z35 (x9_2 : Int) (of_decide_eq_true (by first | (with_reducible assumption) | assumption)) hq31
              obtain ⟨ve31_1, rfl, ge31_1⟩ := k35_openM hM31
              have hv31 := hcc31 1 _ rfl
              rw [add_field _ _ 1 (by omega)] at hv31
              replace hv31 := Option.some.inj (hv31.symm.trans HX188_1.out)
              subst hv31
              clear hcc31 hcl31
              replace ge31_1 := (show Kd.R k37 37 _ _ _ _ ((rd_T35 x3_3 x9_2).f1) from ge31_1)
              obtain ⟨cf31, hcl31, hN31, hcc31, hfr31⟩ := Kd.R_elem ge31_1 z37 (x10_3 : Int) (of_decide_eq_true (by first | (with_reducible assumption) | assumption)) (by have h_ : (x10_3 : Int) < ((((rd_T35 x3_3 x9_2).f1).length : Int) : Int) := of_decide_eq_true (by first | (with_reducible assumption) | assumption); first | exact h_ | (have e_ := (Kd.R_reads' HR188_1.out).1; omega) | simpa using h_)
              obtain rfl := k37_openM hN31
              have HP31 := Kd.R_seg ge31_1 (x10_3 : Int) (of_decide_eq_true (by first | (with_reducible assumption) | assumption)) (by have h_ : (x10_3 : Int) < ((((rd_T35 x3_3 x9_2).f1).length : Int) : Int) := of_decide_eq_true (by first | (with_reducible assumption) | assumption); first | exact h_ | (have e_ := (Kd.R_reads' HR188_1.out).1; omega) | simpa using h_) (seg := [.string (⟨#[63]⟩ : ByteArray)]) (j := 0) hcl31 hcc31 (show 1 ≤ 3 from by decide) (x' := (⟨(⟨#[63]⟩ : ByteArray), (⟨(rd_T37 ((rd_T35 x3_3 x9_2).f1) x10_3).f1.f0, (rd_T37 ((rd_T35 x3_3 x9_2).f1) x10_3).f1.f1⟩ : S24)⟩ : S37)) (k37_mkM _ _ _ (⟨(⟨#[63]⟩ : ByteArray), (⟨(rd_T37 ((rd_T35 x3_3 x9_2).f1) x10_3).f1.f0, (rd_T37 ((rd_T35 x3_3 x9_2).f1) x10_3).f1.f1⟩ : S24)⟩ : S37)) (fun _ hk => hk)
              clear hcl31 hcc31 hfr31 hN31
              go_wp2_with (first | ((with_reducible refine gate_store (t := 9) (p := 61) rfl ?_); refine store_event (t := 9) (p := 61) (v := ?vo_w32) (w1 := (wr.setCell ⟨go30, (x10_3 : Int).toNat * 3, none⟩ (.string (⟨#[63]⟩ : ByteArray)))) ?hg ?ho ?hn ?hr ?_; (case ho => rfl); (case hg => rfl); (case hn => rfl); (case hr => first | (go_simp; done) | (go_simp; rfl)); intro w32 hw; have hg : wr.grownBy w32 (some go30) := (by rw [hw]; exact HP31.2); have hz_ : Kd.R k37 37 w32 w.heap.size oki31 (.slice (some ⟨go30, 0, none⟩) ((rd_T35 x3_3 x9_2).f1).length c187_1) y189 := (by rw [hw, Ny189.out]; exact HP31.1); have hp_ : Kd.S k35 35 w32 w.heap.size (fun _ => True) (.slice (some ad187) x3_3.length co25) y191 := (by rw [Ny191.out]; exact hbk31 hg (fun k_ e_ => by injection e_ with e_; subst e_; exact ge31_1.1 _ rfl) (k35_mkM _ _ _ (⟨(rd_T35 x3_3 x9_2).f0, y189⟩ : S35) hz_)); have hm_ := Kd.R_mono hz_ hok31; clear HP31 hbk31; have n0_ := Aside0.mk (hp_); have n1_ := Aside0.mk (Kd.S_over' (v := (.slice (some ⟨go30, 0, none⟩) ((rd_T35 x3_3 x9_2).f1).length c187_1)) (by (with_reducible repeat (first | apply Kd.S_alloc | apply Kd.S_drewN | apply Kd.S_drew)); exact HO_6.out) (Kd.R_typed HL188_1.out) (by decide) hg); have n2_ := Aside0.mk (blk_grown (g := gb177) (o := .cells #[.int .i64 t174, .int .i64 t175] 24 (0, 0)) (by (with_reducible repeat (first | refine blk_drewN ?_ _ | refine blk_drew ?_ | refine blk_alloc ?_ _)); exact BK177.out) hg (Kd.R_ne HL188_1.out BK177.out (by decide))); have n3_ := Aside0.mk (blk_grown (g := gb184) (o := .cells #[.int .i64 t181, .int .i64 t182] 24 (0, 0)) (by (with_reducible repeat (first | refine blk_drewN ?_ _ | refine blk_drew ?_ | refine blk_alloc ?_ _)); exact BK184.out) hg (Kd.R_ne HL188_1.out BK184.out (by decide))); have n4_ := Aside0.mk ((by rw [hw]; exact below_set (HB.out) GB30.out : Below w.heap.size w w32)); have n5_ := Aside0.mk (hm_); have n6_ := Aside0.mk ((Kd.R_reads' hm_).2.1); clear HO_3; clear HO_6; clear BK177; clear BK184; clear HB; clear HL187_1; clear HL188_1; have HO_3 := n0_; have HO_6 := n1_; have BK177 := n2_; have BK184 := n3_; have HB := n4_; have HL199 := n5_; have HC190 := n6_; clear n0_ n1_ n2_ n3_ n4_ n5_ n6_; clear hg hw hp_ hz_ hm_ hok31))
              (try simp only [← hl3_3])
              go_roundg k3
              case measure => have := HJ3.out; have := HK2.out; have := HK3.out; omega
              case rel => exact ⟨(y191), (wrap64 (x10_3 + 1)), (by first | rfl | (simp; done) | (simp [*]; done)), H', ⟨by have := HJ3.out; have := HK2.out; have := HK3.out; omega⟩, ⟨by (try simp only [hl3_3]); (with_reducible repeat (first | apply Kd.S_alloc | apply Kd.S_drewN | apply Kd.S_drew)); exact HO_3.out⟩, ⟨by (try simp only [hl3_3]); (with_reducible repeat (first | apply Kd.S_alloc | apply Kd.S_drewN | apply Kd.S_drew)); exact HO_6.out⟩, ⟨by (try simp only [hl3_3]); (with_reducible repeat (first | refine blk_drewN ?_ _ | refine blk_drew ?_ | refine blk_alloc ?_ _)); exact BK177.out⟩, ⟨by (try simp only [hl3_3]); (with_reducible repeat (first | refine blk_drewN ?_ _ | refine blk_drew ?_ | refine blk_alloc ?_ _)); exact BK184.out⟩, ⟨by repeat (first | (with_reducible first | exact HB.out | apply below_alloc | apply pw_below_drewN | apply below_drew1 | refine below_set ?_ GE177.out | refine below_set ?_ GE184.out) | exact HB.out)⟩⟩
            ·rw [if_neg c29] at H
             exact absurd H (by simp)
           ·rw [if_neg c28] at H
            have c28b0 : decide (x10_3 < (((rd_T35 x3_3 x9_2).f1).length : Int)) = false := decide_eq_false c28
            clear c28
            as_aux_lemma =>
             have H' := Aside0.mk H
             clear H
             have p187 : 0 ≤ (x9_2 : Int) := of_decide_eq_true (by first | (with_reducible assumption) | assumption)
             have q187 : x9_2 < (x3_3.length : Int) := of_decide_eq_true (by first | (with_reducible assumption) | assumption)
             obtain ⟨ad187, A187_1, c187_1, e187, hx187_0, hx187_1, hl187_1, hi187_1⟩ := at_T35 (Kd.S_reads' HO_3.out).2.2 x9_2 p187 q187
             cases e187
             obtain ⟨ce187, hce187, hMe187, hcc187⟩ := Kd.S_get HO_3.out z35 x9_2 p187 (by first | exact q187 | exact of_decide_eq_true (by first | (with_reducible assumption) | assumption) | (have e_ := (Kd.S_reads' HO_3.out).1; omega))
             obtain ⟨ve187_1, rfl, ge187_1⟩ := k35_openM hMe187
             have hv187_1 := hcc187 1 _ rfl
             rw [add_field _ _ 1 (by omega)] at hv187_1
             replace hv187_1 := Option.some.inj (hv187_1.symm.trans hx187_1)
             rw [hv187_1] at ge187_1
             have HL187_1 := Aside0.mk (show Kd.R k37 37 _ _ _ _ ((rd_T35 x3_3 x9_2).f1) from ge187_1)
             clear hv187_1 ge187_1
             have HX187_1 := Aside0.mk hx187_1
             clear hcc187 hce187
             have HR187_1 := Aside0.mk hi187_1
             have HC187_1 := Aside0.mk hl187_1
             clear hi187_1 hl187_1
             replace p187 := eq_true p187
             replace q187 := eq_true q187
             go_wp2
             (try simp only [← hl3_3])
             go_roundg k3
             case measure => have := HJ3.out; have := HK2.out; have := HK3.out; omega
             case rel => exact ⟨(x3_3), (wrap64 (x9_2 + 1)), (by first | rfl | (simp; done) | (simp [*]; done)), H', ⟨by have := HJ3.out; have := HK2.out; have := HK3.out; omega⟩, ⟨by (try simp only [hl3_3]); (with_reducible repeat (first | apply Kd.S_alloc | apply Kd.S_drewN | apply Kd.S_drew)); exact HO_3.out⟩, ⟨by (try simp only [hl3_3]); (with_reducible repeat (first | apply Kd.S_alloc | apply Kd.S_drewN | apply Kd.S_drew)); exact HO_6.out⟩, ⟨by (try simp only [hl3_3]); (with_reducible repeat (first | refine blk_drewN ?_ _ | refine blk_drew ?_ | refine blk_alloc ?_ _)); exact BK177.out⟩, ⟨by (try simp only [hl3_3]); (with_reducible repeat (first | refine blk_drewN ?_ _ | refine blk_drew ?_ | refine blk_alloc ?_ _)); exact BK184.out⟩, ⟨by repeat (first | (with_reducible first | exact HB.out | apply below_alloc | apply pw_below_drewN | apply below_drew1 | refine below_set ?_ GE177.out | refine below_set ?_ GE184.out) | exact HB.out)⟩⟩
          ·rw [if_neg c27] at H
           exact absurd H (by simp)
         ·rw [if_neg c26] at H
          exact absurd H (by simp)
      ·rw [if_neg c24] at H
       have c24b0 : decide (x9_2 < (x3_2.length : Int)) = false := decide_eq_false c24
       clear c24
       replace H := Option.bind_eq_some_iff.mp H
       obtain ⟨⟨t192, t195, t196, t197⟩, A330, H⟩ := H
       replace H : ((waymarklaw07_sameLines.f k2 t192 t178).bind fun t198 => (some t198)) = some r := H
       have A33 := Aside0.mk A330
       clear A330
       replace H := Option.bind_eq_some_iff.mp H
       obtain ⟨t198, A340, H⟩ := H
       replace H : (some t198) = some r := H
       have A34 := Aside0.mk A340
       clear A340
       as_aux_lemma =>
        obtain rfl := Option.some.inj H
        obtain ⟨Ao35, co35, eo35⟩ := Kd.S_slice HO_3.out
        subst eo35
        go_wp2_with (first | ((with_reducible refine gate_callee (f := 19) rfl ?_); refine goesL_ (some 64) rfl rfl Tryd.func19 (by kernel_rfl) rfl #[.string a0] rfl (by (try simp only [List.map_toArray, List.map_cons, List.map_nil]); first | done | rfl | (simp only [List.length_drop, List.length_take]; rfl)) ?_; (with_reducible refine (lex_Lines.calls k2 a0 t192 t195 t196 t197 _ ?side1 A33.out).mono ?_); (case side1 => exact Go.Proofs.YtbnihnggljagnaaDoor.World.GW.below HGW_.out (by repeat (first | (with_reducible first | exact HB.out | apply below_alloc | apply pw_below_drewN | apply below_drew1 | refine below_set ?_ GE177.out | refine below_set ?_ GE184.out) | exact HB.out))); rintro e w36 ⟨v193, rfl, ho0, hb⟩; refine ⟨_, rfl, ?_⟩; have n0_ := Aside0.mk (Kd.S_elder' (by (with_reducible repeat (first | apply Kd.S_alloc | apply Kd.S_drewN | apply Kd.S_drew)); exact HO_3.out) (Kd.S_base ho0) hb); have n1_ := Aside0.mk (Kd.S_below (by (with_reducible repeat (first | apply Kd.S_alloc | apply Kd.S_drewN | apply Kd.S_drew)); exact HO_6.out) hb); have n2_ := Aside0.mk (Kd.S_lower (Kd.S_new' ho0 (Kd.S_lt (by (with_reducible repeat (first | apply Kd.S_alloc | apply Kd.S_drewN | apply Kd.S_drew)); exact HO_3.out))) (below_size (by repeat (first | (with_reducible first | exact HB.out | apply below_alloc | apply pw_below_drewN | apply below_drew1 | refine below_set ?_ GE177.out | refine below_set ?_ GE184.out) | exact HB.out)))); have n3_ := Aside0.mk (blk_below (g := gb177) (o := .cells #[.int .i64 t174, .int .i64 t175] 24 (0, 0)) (by (with_reducible repeat (first | refine blk_drewN ?_ _ | refine blk_drew ?_ | refine blk_alloc ?_ _)); exact BK177.out) hb); have n4_ := Aside0.mk (blk_below (g := gb184) (o := .cells #[.int .i64 t181, .int .i64 t182] 24 (0, 0)) (by (with_reducible repeat (first | refine blk_drewN ?_ _ | refine blk_drew ?_ | refine blk_alloc ?_ _)); exact BK184.out) hb); have n5_ := Aside0.mk (below_step (by repeat (first | (with_reducible first | exact HB.out | apply below_alloc | apply pw_below_drewN | apply below_drew1 | refine below_set ?_ GE177.out | refine below_set ?_ GE184.out) | exact HB.out)) hb); clear HO_3; clear HO_6; clear BK177; clear BK184; clear HB; have HO_3 := n0_; have HO_6 := n1_; have HO194 := n2_; have BK177 := n3_; have BK184 := n4_; have HB := n5_; clear n0_ n1_ n2_ n3_ n4_ n5_; (try clear hb); (try clear hb2); (try clear hk); (try clear hi); (try clear ho0); obtain ⟨Ao37, co37, eo37⟩ := Kd.S_slice HO194.out; subst eo37; obtain ⟨Ao38, co38, eo38⟩ := Kd.S_slice HO_6.out; subst eo38) | ((with_reducible refine gate_callee (f := 21) rfl ?_); refine goesL_ (some 70) rfl rfl Tryd.func21 (by kernel_rfl) rfl #[.slice Ao37 t192.length co37, .slice Ao38 t178.length co38] rfl (by (try simp only [List.map_toArray, List.map_cons, List.map_nil]); first | done | rfl | (simp only [List.length_drop, List.length_take]; rfl)) ?_; (with_reducible refine (waymarklaw07_sameLines.calls k2 _ _ t192 _ _ t178 t198 _ ?side1 ?side2 ?side3 ?side4 A34.out).mono ?_); (case side1 => repeat (first | exact (Kd.S_reads' HO194.out).2.2 | (with_reducible refine Kd.C_alloc ?_ _) | (with_reducible refine Kd.C_drewN ?_ _) | (with_reducible refine Kd.C_drew ?_))); (case side2 => exact (Kd.S_reads' HO194.out).2.1); (case side3 => repeat (first | exact (Kd.S_reads' HO_6.out).2.2 | (with_reducible refine Kd.C_alloc ?_ _) | (with_reducible refine Kd.C_drewN ?_ _) | (with_reducible refine Kd.C_drew ?_))); (case side4 => exact (Kd.S_reads' HO_6.out).2.1); rintro e w39 ⟨rfl, hb⟩; refine ⟨_, rfl, ?_⟩; have n0_ := Aside0.mk (Kd.S_below (by (with_reducible repeat (first | apply Kd.S_alloc | apply Kd.S_drewN | apply Kd.S_drew)); exact HO_3.out) hb); have n1_ := Aside0.mk (Kd.S_below (by (with_reducible repeat (first | apply Kd.S_alloc | apply Kd.S_drewN | apply Kd.S_drew)); exact HO_6.out) hb); have n2_ := Aside0.mk (Kd.S_below (by (with_reducible repeat (first | apply Kd.S_alloc | apply Kd.S_drewN | apply Kd.S_drew)); exact HO194.out) hb); have n3_ := Aside0.mk (blk_below (g := gb177) (o := .cells #[.int .i64 t174, .int .i64 t175] 24 (0, 0)) (by (with_reducible repeat (first | refine blk_drewN ?_ _ | refine blk_drew ?_ | refine blk_alloc ?_ _)); exact BK177.out) hb); have n4_ := Aside0.mk (blk_below (g := gb184) (o := .cells #[.int .i64 t181, .int .i64 t182] 24 (0, 0)) (by (with_reducible repeat (first | refine blk_drewN ?_ _ | refine blk_drew ?_ | refine blk_alloc ?_ _)); exact BK184.out) hb); have n5_ := Aside0.mk (below_step (by repeat (first | (with_reducible first | exact HB.out | apply below_alloc | apply pw_below_drewN | apply below_drew1 | refine below_set ?_ GE177.out | refine below_set ?_ GE184.out) | exact HB.out)) hb); clear HO_3; clear HO_6; clear HO194; clear BK177; clear BK184; clear HB; have HO_3 := n0_; have HO_6 := n1_; have HO194 := n2_; have BK177 := n3_; have BK184 := n4_; have HB := n5_; clear n0_ n1_ n2_ n3_ n4_ n5_; (try clear hb); (try clear hb2); (try clear hk); (try clear hi)))
        go_ret
        exact ⟨by first | rfl | (simp [errW_none, errW_some] <;> rfl) | (simp [*, errW_none, errW_some] <;> rfl), by repeat (first | (with_reducible first | exact HB.out | apply below_alloc | apply pw_below_drewN | apply below_drew1 | refine below_set ?_ GE177.out | refine below_set ?_ GE184.out) | exact HB.out)⟩

end Go.Proofs.YtbnihnggljagnaaDoor.QLexLines
