-- Written by this session's program (wip/tools/printx.py) over the kit's print; the texts marked HAND are its own. Lean checks it.
import Derived.Test.YtbnihnggljagnaaDoorQLexAgainx0
import Derived.Test.YtbnihnggljagnaaDoorQLexAgainx1
namespace Go.Proofs.YtbnihnggljagnaaDoor.QLexAgain
open Go.RowKit Go.Proofs.YtbnihnggljagnaaDoorW.PrintWords Go.Proofs.YtbnihnggljagnaaDoorW.PrintLast Go.Proofs.YtbnihnggljagnaaDoorW.PrintMore
attribute [local go_sem] max2_int min2_int max_two min_two max_three min_three max_four min_four   -- for this text's walks alone
attribute [local go_sem high] Go.Proofs.YtbnihnggljagnaaDoor.Base.ux_u32 Go.Proofs.YtbnihnggljagnaaDoor.Base.ux_u64 Go.Proofs.YtbnihnggljagnaaDoor.Base.ux_u8 Go.Proofs.YtbnihnggljagnaaDoor.Base.ux_u16
set_option linter.unusedVariables false
set_option linter.unusedSimpArgs false

/-! ### waymarklaw07_again: function 32 -/
mutual
def waymarklaw07_again.j0 : Nat → ByteArray → ByteArray → List (S35) → Bool → Option (Bool)
 | 0, _, _, _, _ => none
 | k + 1, x1, x2, x7, x35 => if x35 = true then (some true) else (waymarklaw07_again.l0 k x1 x2 x7 (⟨#[]⟩ : ByteArray) 0)
def waymarklaw07_again.l0 : Nat → ByteArray → ByteArray → List (S35) → ByteArray → Int → Option (Bool)
 | 0, _, _, _, _, _ => none
 | k + 1, x1, x2, x7, x10, x11 => if x11 < (x7.length : Int) then (waymarklaw07_again.l1 k x1 x2 x7 x10 x11 0) else ((lex_Lines.f k x10).bind fun bt155 => (if bt155.2.2.2 = 0 then (if (x7.length : Int) = (bt155.1.length : Int) then (waymarklaw07_again.l3 k x7 bt155.1 0) else (some false)) else (some (decide ((x10.size : Int) > 65536)))))
def waymarklaw07_again.l1 : Nat → ByteArray → ByteArray → List (S35) → ByteArray → Int → Int → Option (Bool)
 | 0, _, _, _, _, _, _ => none
 | k + 1, x1, x2, x7, x10, x11, x12 => if 0 ≤ x11 then (if x11 < (x7.length : Int) then (if x12 < ((rd_T35 x7 x11).f0) then (if x10.size + 1 ≤ 9223372036854775807 then (waymarklaw07_again.l1 k x1 x2 x7 (x10 ++ (⟨#[32]⟩ : ByteArray)) x11 (wrap64 (x12 + 1))) else (none)) else (waymarklaw07_again.l2 k x1 x2 x7 x10 x11 0)) else (none)) else (none)
def waymarklaw07_again.l2 : Nat → ByteArray → ByteArray → List (S35) → ByteArray → Int → Int → Option (Bool)
 | 0, _, _, _, _, _, _ => none
 | k + 1, x1, x2, x7, x10, x11, x13 => if 0 ≤ x11 then (if x11 < (x7.length : Int) then (if x13 < (((rd_T35 x7 x11).f1).length : Int) then (if 0 ≤ x13 then (if x10.size + ((rd_T37 ((rd_T35 x7 x11).f1) x13).f0).size ≤ 9223372036854775807 then (if (x10 ++ ((rd_T37 ((rd_T35 x7 x11).f1) x13).f0)).size + x1.size ≤ 9223372036854775807 then (waymarklaw07_again.l2 k x1 x2 x7 ((x10 ++ ((rd_T37 ((rd_T35 x7 x11).f1) x13).f0)) ++ x1) x11 (wrap64 (x13 + 1))) else (none)) else (none)) else (none)) else (if x10.size + 5 ≤ 9223372036854775807 then (if (x10 ++ (⟨#[10, 32, 32, 33, 32]⟩ : ByteArray)).size + x2.size ≤ 9223372036854775807 then (if ((x10 ++ (⟨#[10, 32, 32, 33, 32]⟩ : ByteArray)) ++ x2).size + 2 ≤ 9223372036854775807 then (waymarklaw07_again.l0 k x1 x2 x7 (((x10 ++ (⟨#[10, 32, 32, 33, 32]⟩ : ByteArray)) ++ x2) ++ (⟨#[10, 10]⟩ : ByteArray)) (wrap64 (x11 + 1))) else (none)) else (none)) else (none))) else (none)) else (none)
def waymarklaw07_again.l3 : Nat → List (S35) → List (S35) → Int → Option (Bool)
 | 0, _, _, _ => none
 | k + 1, x7, x14, x16 => if x16 < (x7.length : Int) then (if 0 ≤ x16 then (if x16 < (x14.length : Int) then (if ((rd_T35 x7 x16).f0) = ((rd_T35 x14 x16).f0) then (waymarklaw07_again.j5 k x7 x14 x16 ((((rd_T35 x7 x16).f1).length : Int) != (((rd_T35 x14 x16).f1).length : Int))) else (waymarklaw07_again.j5 k x7 x14 x16 true)) else (none)) else (none)) else (some true)
def waymarklaw07_again.j5 : Nat → List (S35) → List (S35) → Int → Bool → Option (Bool)
 | 0, _, _, _, _ => none
 | k + 1, x7, x14, x16, x128 => if x128 = true then (some false) else (waymarklaw07_again.l4 k x7 x14 x16 0)
def waymarklaw07_again.l4 : Nat → List (S35) → List (S35) → Int → Int → Option (Bool)
 | 0, _, _, _, _ => none
 | k + 1, x7, x14, x16, x17 => if 0 ≤ x16 then (if x16 < (x7.length : Int) then (if x17 < (((rd_T35 x7 x16).f1).length : Int) then (if 0 ≤ x17 then (if x16 < (x14.length : Int) then (if x17 < (((rd_T35 x14 x16).f1).length : Int) then (if ((rd_T37 ((rd_T35 x7 x16).f1) x17).f0).toList = ((rd_T37 ((rd_T35 x14 x16).f1) x17).f0).toList then (waymarklaw07_again.l4 k x7 x14 x16 (wrap64 (x17 + 1))) else (some false)) else (none)) else (none)) else (none)) else (waymarklaw07_again.l3 k x7 x14 (wrap64 (x16 + 1)))) else (none)) else (none)
end
def waymarklaw07_again.f (k : Nat) (a0 : ByteArray) (a1 : ByteArray) (a2 : ByteArray) : Option (Bool) := (lex_Lines.f k a0).bind fun bt144 => (if bt144.2.2.2 = 0 then (if (a0.size : Int) > 10000 then (waymarklaw07_again.j0 k a1 a2 bt144.1 true) else (waymarklaw07_again.j0 k a1 a2 bt144.1 (decide ((bt144.1.length : Int) > 1000)))) else (waymarklaw07_again.j0 k a1 a2 bt144.1 true))
theorem waymarklaw07_again.mono_l : ∀ k, (∀ y0 y1 y2 y3, LeO (waymarklaw07_again.j0 k y0 y1 y2 y3) (waymarklaw07_again.j0 (k + 1) y0 y1 y2 y3)) ∧ (∀ y0 y1 y2 y3 y4, LeO (waymarklaw07_again.l0 k y0 y1 y2 y3 y4) (waymarklaw07_again.l0 (k + 1) y0 y1 y2 y3 y4)) ∧ (∀ y0 y1 y2 y3 y4 y5, LeO (waymarklaw07_again.l1 k y0 y1 y2 y3 y4 y5) (waymarklaw07_again.l1 (k + 1) y0 y1 y2 y3 y4 y5)) ∧ (∀ y0 y1 y2 y3 y4 y5, LeO (waymarklaw07_again.l2 k y0 y1 y2 y3 y4 y5) (waymarklaw07_again.l2 (k + 1) y0 y1 y2 y3 y4 y5)) ∧ (∀ y0 y1 y2, LeO (waymarklaw07_again.l3 k y0 y1 y2) (waymarklaw07_again.l3 (k + 1) y0 y1 y2)) ∧ (∀ y0 y1 y2 y3, LeO (waymarklaw07_again.j5 k y0 y1 y2 y3) (waymarklaw07_again.j5 (k + 1) y0 y1 y2 y3)) ∧ (∀ y0 y1 y2 y3, LeO (waymarklaw07_again.l4 k y0 y1 y2 y3) (waymarklaw07_again.l4 (k + 1) y0 y1 y2 y3))
 | 0 => ⟨fun _ _ _ _ r h => by simp [waymarklaw07_again.j0] at h, fun _ _ _ _ _ r h => by simp [waymarklaw07_again.l0] at h, fun _ _ _ _ _ _ r h => by simp [waymarklaw07_again.l1] at h, fun _ _ _ _ _ _ r h => by simp [waymarklaw07_again.l2] at h, fun _ _ _ r h => by simp [waymarklaw07_again.l3] at h, fun _ _ _ _ r h => by simp [waymarklaw07_again.j5] at h, fun _ _ _ _ r h => by simp [waymarklaw07_again.l4] at h⟩
 | k + 1 => by
  obtain ⟨ih0, ih1, ih2, ih3, ih4, ih5, ih6⟩ := waymarklaw07_again.mono_l k
  refine ⟨?_, ?_, ?_, ?_, ?_, ?_, ?_⟩
  ·intro y0 y1 y2 y3
   unfold waymarklaw07_again.j0
   repeat' first
   | (with_reducible exact ih0 _ _ _ _)
   | (with_reducible exact ih1 _ _ _ _ _)
   | (with_reducible exact ih2 _ _ _ _ _ _)
   | (with_reducible exact ih3 _ _ _ _ _ _)
   | (with_reducible exact ih4 _ _ _)
   | (with_reducible exact ih5 _ _ _ _)
   | (with_reducible exact ih6 _ _ _ _)
   | (with_reducible exact lex_Lines.mono _ _)
   | (with_reducible exact LeO.refl _)
   | (with_reducible exact LeO.none _)
   | (with_reducible refine LeO.ite ?_ ?_)
   | (with_reducible refine LeO.bind ?_ (fun _ => ?_))
   | exact ih0 _ _ _ _
   | exact ih1 _ _ _ _ _
   | exact ih2 _ _ _ _ _ _
   | exact ih3 _ _ _ _ _ _
   | exact ih4 _ _ _
   | exact ih5 _ _ _ _
   | exact ih6 _ _ _ _
   | exact lex_Lines.mono _ _
   | exact LeO.none _
   | refine LeO.ite ?_ ?_
   | refine LeO.bind ?_ (fun _ => ?_)
  ·intro y0 y1 y2 y3 y4
   unfold waymarklaw07_again.l0
   repeat' first
   | (with_reducible exact ih0 _ _ _ _)
   | (with_reducible exact ih1 _ _ _ _ _)
   | (with_reducible exact ih2 _ _ _ _ _ _)
   | (with_reducible exact ih3 _ _ _ _ _ _)
   | (with_reducible exact ih4 _ _ _)
   | (with_reducible exact ih5 _ _ _ _)
   | (with_reducible exact ih6 _ _ _ _)
   | (with_reducible exact lex_Lines.mono _ _)
   | (with_reducible exact LeO.refl _)
   | (with_reducible exact LeO.none _)
   | (with_reducible refine LeO.ite ?_ ?_)
   | (with_reducible refine LeO.bind ?_ (fun _ => ?_))
   | exact ih0 _ _ _ _
   | exact ih1 _ _ _ _ _
   | exact ih2 _ _ _ _ _ _
   | exact ih3 _ _ _ _ _ _
   | exact ih4 _ _ _
   | exact ih5 _ _ _ _
   | exact ih6 _ _ _ _
   | exact lex_Lines.mono _ _
   | exact LeO.none _
   | refine LeO.ite ?_ ?_
   | refine LeO.bind ?_ (fun _ => ?_)
  ·intro y0 y1 y2 y3 y4 y5
   unfold waymarklaw07_again.l1
   repeat' first
   | (with_reducible exact ih0 _ _ _ _)
   | (with_reducible exact ih1 _ _ _ _ _)
   | (with_reducible exact ih2 _ _ _ _ _ _)
   | (with_reducible exact ih3 _ _ _ _ _ _)
   | (with_reducible exact ih4 _ _ _)
   | (with_reducible exact ih5 _ _ _ _)
   | (with_reducible exact ih6 _ _ _ _)
   | (with_reducible exact lex_Lines.mono _ _)
   | (with_reducible exact LeO.refl _)
   | (with_reducible exact LeO.none _)
   | (with_reducible refine LeO.ite ?_ ?_)
   | (with_reducible refine LeO.bind ?_ (fun _ => ?_))
   | exact ih0 _ _ _ _
   | exact ih1 _ _ _ _ _
   | exact ih2 _ _ _ _ _ _
   | exact ih3 _ _ _ _ _ _
   | exact ih4 _ _ _
   | exact ih5 _ _ _ _
   | exact ih6 _ _ _ _
   | exact lex_Lines.mono _ _
   | exact LeO.none _
   | refine LeO.ite ?_ ?_
   | refine LeO.bind ?_ (fun _ => ?_)
  ·intro y0 y1 y2 y3 y4 y5
   unfold waymarklaw07_again.l2
   repeat' first
   | (with_reducible exact ih0 _ _ _ _)
   | (with_reducible exact ih1 _ _ _ _ _)
   | (with_reducible exact ih2 _ _ _ _ _ _)
   | (with_reducible exact ih3 _ _ _ _ _ _)
   | (with_reducible exact ih4 _ _ _)
   | (with_reducible exact ih5 _ _ _ _)
   | (with_reducible exact ih6 _ _ _ _)
   | (with_reducible exact lex_Lines.mono _ _)
   | (with_reducible exact LeO.refl _)
   | (with_reducible exact LeO.none _)
   | (with_reducible refine LeO.ite ?_ ?_)
   | (with_reducible refine LeO.bind ?_ (fun _ => ?_))
   | exact ih0 _ _ _ _
   | exact ih1 _ _ _ _ _
   | exact ih2 _ _ _ _ _ _
   | exact ih3 _ _ _ _ _ _
   | exact ih4 _ _ _
   | exact ih5 _ _ _ _
   | exact ih6 _ _ _ _
   | exact lex_Lines.mono _ _
   | exact LeO.none _
   | refine LeO.ite ?_ ?_
   | refine LeO.bind ?_ (fun _ => ?_)
  ·intro y0 y1 y2
   unfold waymarklaw07_again.l3
   repeat' first
   | (with_reducible exact ih0 _ _ _ _)
   | (with_reducible exact ih1 _ _ _ _ _)
   | (with_reducible exact ih2 _ _ _ _ _ _)
   | (with_reducible exact ih3 _ _ _ _ _ _)
   | (with_reducible exact ih4 _ _ _)
   | (with_reducible exact ih5 _ _ _ _)
   | (with_reducible exact ih6 _ _ _ _)
   | (with_reducible exact lex_Lines.mono _ _)
   | (with_reducible exact LeO.refl _)
   | (with_reducible exact LeO.none _)
   | (with_reducible refine LeO.ite ?_ ?_)
   | (with_reducible refine LeO.bind ?_ (fun _ => ?_))
   | exact ih0 _ _ _ _
   | exact ih1 _ _ _ _ _
   | exact ih2 _ _ _ _ _ _
   | exact ih3 _ _ _ _ _ _
   | exact ih4 _ _ _
   | exact ih5 _ _ _ _
   | exact ih6 _ _ _ _
   | exact lex_Lines.mono _ _
   | exact LeO.none _
   | refine LeO.ite ?_ ?_
   | refine LeO.bind ?_ (fun _ => ?_)
  ·intro y0 y1 y2 y3
   unfold waymarklaw07_again.j5
   repeat' first
   | (with_reducible exact ih0 _ _ _ _)
   | (with_reducible exact ih1 _ _ _ _ _)
   | (with_reducible exact ih2 _ _ _ _ _ _)
   | (with_reducible exact ih3 _ _ _ _ _ _)
   | (with_reducible exact ih4 _ _ _)
   | (with_reducible exact ih5 _ _ _ _)
   | (with_reducible exact ih6 _ _ _ _)
   | (with_reducible exact lex_Lines.mono _ _)
   | (with_reducible exact LeO.refl _)
   | (with_reducible exact LeO.none _)
   | (with_reducible refine LeO.ite ?_ ?_)
   | (with_reducible refine LeO.bind ?_ (fun _ => ?_))
   | exact ih0 _ _ _ _
   | exact ih1 _ _ _ _ _
   | exact ih2 _ _ _ _ _ _
   | exact ih3 _ _ _ _ _ _
   | exact ih4 _ _ _
   | exact ih5 _ _ _ _
   | exact ih6 _ _ _ _
   | exact lex_Lines.mono _ _
   | exact LeO.none _
   | refine LeO.ite ?_ ?_
   | refine LeO.bind ?_ (fun _ => ?_)
  ·intro y0 y1 y2 y3
   unfold waymarklaw07_again.l4
   repeat' first
   | (with_reducible exact ih0 _ _ _ _)
   | (with_reducible exact ih1 _ _ _ _ _)
   | (with_reducible exact ih2 _ _ _ _ _ _)
   | (with_reducible exact ih3 _ _ _ _ _ _)
   | (with_reducible exact ih4 _ _ _)
   | (with_reducible exact ih5 _ _ _ _)
   | (with_reducible exact ih6 _ _ _ _)
   | (with_reducible exact lex_Lines.mono _ _)
   | (with_reducible exact LeO.refl _)
   | (with_reducible exact LeO.none _)
   | (with_reducible refine LeO.ite ?_ ?_)
   | (with_reducible refine LeO.bind ?_ (fun _ => ?_))
   | exact ih0 _ _ _ _
   | exact ih1 _ _ _ _ _
   | exact ih2 _ _ _ _ _ _
   | exact ih3 _ _ _ _ _ _
   | exact ih4 _ _ _
   | exact ih5 _ _ _ _
   | exact ih6 _ _ _ _
   | exact lex_Lines.mono _ _
   | exact LeO.none _
   | refine LeO.ite ?_ ?_
   | refine LeO.bind ?_ (fun _ => ?_)
theorem waymarklaw07_again.mono : ∀ a0 a1 a2 k, LeO (waymarklaw07_again.f k a0 a1 a2) (waymarklaw07_again.f (k + 1) a0 a1 a2) := by
 intro a0 a1 a2 k
 obtain ⟨ih0, ih1, ih2, ih3, ih4, ih5, ih6⟩ := waymarklaw07_again.mono_l k
 unfold waymarklaw07_again.f
 repeat' first
   | (with_reducible exact ih0 _ _ _ _)
   | (with_reducible exact ih1 _ _ _ _ _)
   | (with_reducible exact ih2 _ _ _ _ _ _)
   | (with_reducible exact ih3 _ _ _ _ _ _)
   | (with_reducible exact ih4 _ _ _)
   | (with_reducible exact ih5 _ _ _ _)
   | (with_reducible exact ih6 _ _ _ _)
   | (with_reducible exact lex_Lines.mono _ _)
   | (with_reducible exact LeO.refl _)
   | (with_reducible exact LeO.none _)
   | (with_reducible refine LeO.ite ?_ ?_)
   | (with_reducible refine LeO.bind ?_ (fun _ => ?_))
   | exact ih0 _ _ _ _
   | exact ih1 _ _ _ _ _
   | exact ih2 _ _ _ _ _ _
   | exact ih3 _ _ _ _ _ _
   | exact ih4 _ _ _
   | exact ih5 _ _ _ _
   | exact ih6 _ _ _ _
   | exact lex_Lines.mono _ _
   | exact LeO.none _
   | refine LeO.ite ?_ ?_
   | refine LeO.bind ?_ (fun _ => ?_)
set_option maxHeartbeats 8000000 in
set_option maxRecDepth 100000 in
theorem waymarklaw07_again.calls (k : Nat) (a0 : ByteArray) (a1 : ByteArray) (a2 : ByteArray) (r : Bool) (w : World) (hG : Go.Proofs.YtbnihnggljagnaaDoor.World.GW w) (h : waymarklaw07_again.f k a0 a1 a2 = some r) :
  Calls Tryd.prog 32 #[.string a0, .string a1, .string a2] w fun e w' => e = .returned (.bool r) ∧ Below w.heap.size w w' := by
 have hu24 := Tryd.underlying24
 have HGW_ := Aside0.mk hG
 clear hG
 have HB := Aside0.mk (Below.refl w.heap.size w)
 have H : ((lex_Lines.f k a0).bind fun bt144 => (if bt144.2.2.2 = 0 then (if (a0.size : Int) > 10000 then (waymarklaw07_again.j0 k a1 a2 bt144.1 true) else (waymarklaw07_again.j0 k a1 a2 bt144.1 (decide ((bt144.1.length : Int) > 1000)))) else (waymarklaw07_again.j0 k a1 a2 bt144.1 true))) = some r := h
 clear h
 replace H := Option.bind_eq_some_iff.mp H
 obtain ⟨⟨t144, t147, t148, t149⟩, A40, H⟩ := H
 replace H : (if t149 = 0 then (if (a0.size : Int) > 10000 then (waymarklaw07_again.j0 k a1 a2 t144 true) else (waymarklaw07_again.j0 k a1 a2 t144 (decide ((t144.length : Int) > 1000)))) else (waymarklaw07_again.j0 k a1 a2 t144 true)) = some r := H
 have A4 := Aside0.mk A40
 clear A40
 have HC5 := Aside0.mk H
 clear H
 go_enter Tryd.func32, Tryd.ntmps32
 go_upto_region 2 with (first | (go_at_call 19; (with_reducible refine (lex_Lines.calls k a0 t144 t147 t148 t149 _ ?side1 A4.out).mono ?_); (case side1 => exact Go.Proofs.YtbnihnggljagnaaDoor.World.GW.below HGW_.out (by repeat (first | (with_reducible first | exact HB.out | apply below_alloc | apply pw_below_drewN | apply below_drew1) | exact HB.out))); rintro e w6 ⟨v145, rfl, ho0, hb⟩; have n0_ := Aside0.mk (Kd.S_lower ho0 (below_size (by repeat (first | (with_reducible first | exact HB.out | apply below_alloc | apply pw_below_drewN | apply below_drew1) | exact HB.out)))); have n1_ := Aside0.mk (below_step (by repeat (first | (with_reducible first | exact HB.out | apply below_alloc | apply pw_below_drewN | apply below_drew1) | exact HB.out)) hb); clear HB; have HO146 := n0_; have HB := n1_; clear n0_ n1_; (try clear hb); (try clear hb2); (try clear hk); (try clear hi); (try clear ho0)) | ((with_reducible refine gate_dst (N := 8) rfl ?_); (try (refine gate_guard (by rfl) ?_; dsimp only)); refine box_event ?hg (N := 8) ?hd (cs := #[.int .i64 0, .int .i64 0]) (t := 24) ?hr ?_; (case hd => rfl); (case hg => rfl); (case hr => first | (go_simp; done) | (go_simp; rfl)); intro gb150 hg w7 hbox hb; have n0_ := Aside0.mk (Kd.S_below (by (with_reducible repeat (first | apply Kd.S_alloc | apply Kd.S_drewN | apply Kd.S_drew)); exact HO146.out) hb); have n1_ := Aside0.mk (below_step (by repeat (first | (with_reducible first | exact HB.out | apply below_alloc | apply pw_below_drewN | apply below_drew1) | exact HB.out)) hb); have n2_ := Aside0.mk (hbox); have n3_ := Aside0.mk ((by rw [hg]; exact (below_size (by repeat (first | (with_reducible first | exact HB.out | apply below_alloc | apply pw_below_drewN | apply below_drew1) | exact HB.out))) : w.heap.size ≤ gb150)); have n4_ := Aside0.mk ((by rw [hg]; exact (below_size (by repeat (first | (with_reducible first | exact HB.out | apply below_alloc | apply pw_below_drewN | apply below_drew1) | exact HB.out))) : w.heap.size ≤ gb150)); clear HO146; clear HB; have HO146 := n0_; have HB := n1_; have BK150 := n2_; have GW150 := n3_; have GE150 := n4_; clear n0_ n1_ n2_ n3_ n4_; clear hb hbox hg; have hcz8_0 : w7.cell? ⟨gb150, 0, none⟩ = some (.int .i64 0) := (blk_cell BK150.out 0).trans rfl; have hcz8_1 : w7.cell? ⟨gb150, 1, none⟩ = some (.int .i64 0) := (blk_cell BK150.out 1).trans rfl; have hfz8_0 := blk_frozen BK150.out 0; have hfz8_1 := blk_frozen BK150.out 1))
 repeat (go_quiet (first | (go_at_call 19; (with_reducible refine (lex_Lines.calls k a0 t144 t147 t148 t149 _ ?side1 A4.out).mono ?_); (case side1 => exact Go.Proofs.YtbnihnggljagnaaDoor.World.GW.below HGW_.out (by repeat (first | (with_reducible first | exact HB.out | apply below_alloc | apply pw_below_drewN | apply below_drew1) | exact HB.out))); rintro e w6 ⟨v145, rfl, ho0, hb⟩; have n0_ := Aside0.mk (Kd.S_lower ho0 (below_size (by repeat (first | (with_reducible first | exact HB.out | apply below_alloc | apply pw_below_drewN | apply below_drew1) | exact HB.out)))); have n1_ := Aside0.mk (below_step (by repeat (first | (with_reducible first | exact HB.out | apply below_alloc | apply pw_below_drewN | apply below_drew1) | exact HB.out)) hb); clear HB; have HO146 := n0_; have HB := n1_; clear n0_ n1_; (try clear hb); (try clear hb2); (try clear hk); (try clear hi); (try clear ho0)) | ((with_reducible refine gate_dst (N := 8) rfl ?_); (try (refine gate_guard (by rfl) ?_; dsimp only)); refine box_event ?hg (N := 8) ?hd (cs := #[.int .i64 0, .int .i64 0]) (t := 24) ?hr ?_; (case hd => rfl); (case hg => rfl); (case hr => first | (go_simp; done) | (go_simp; rfl)); intro gb150 hg w7 hbox hb; have n0_ := Aside0.mk (Kd.S_below (by (with_reducible repeat (first | apply Kd.S_alloc | apply Kd.S_drewN | apply Kd.S_drew)); exact HO146.out) hb); have n1_ := Aside0.mk (below_step (by repeat (first | (with_reducible first | exact HB.out | apply below_alloc | apply pw_below_drewN | apply below_drew1) | exact HB.out)) hb); have n2_ := Aside0.mk (hbox); have n3_ := Aside0.mk ((by rw [hg]; exact (below_size (by repeat (first | (with_reducible first | exact HB.out | apply below_alloc | apply pw_below_drewN | apply below_drew1) | exact HB.out))) : w.heap.size ≤ gb150)); have n4_ := Aside0.mk ((by rw [hg]; exact (below_size (by repeat (first | (with_reducible first | exact HB.out | apply below_alloc | apply pw_below_drewN | apply below_drew1) | exact HB.out))) : w.heap.size ≤ gb150)); clear HO146; clear HB; have HO146 := n0_; have HB := n1_; have BK150 := n2_; have GW150 := n3_; have GE150 := n4_; clear n0_ n1_ n2_ n3_ n4_; clear hb hbox hg; have hcz8_0 : w7.cell? ⟨gb150, 0, none⟩ = some (.int .i64 0) := (blk_cell BK150.out 0).trans rfl; have hcz8_1 : w7.cell? ⟨gb150, 1, none⟩ = some (.int .i64 0) := (blk_cell BK150.out 1).trans rfl; have hfz8_0 := blk_frozen BK150.out 0; have hfz8_1 := blk_frozen BK150.out 1)); go_upto_region 2 with (first | (go_at_call 19; (with_reducible refine (lex_Lines.calls k a0 t144 t147 t148 t149 _ ?side1 A4.out).mono ?_); (case side1 => exact Go.Proofs.YtbnihnggljagnaaDoor.World.GW.below HGW_.out (by repeat (first | (with_reducible first | exact HB.out | apply below_alloc | apply pw_below_drewN | apply below_drew1) | exact HB.out))); rintro e w6 ⟨v145, rfl, ho0, hb⟩; have n0_ := Aside0.mk (Kd.S_lower ho0 (below_size (by repeat (first | (with_reducible first | exact HB.out | apply below_alloc | apply pw_below_drewN | apply below_drew1) | exact HB.out)))); have n1_ := Aside0.mk (below_step (by repeat (first | (with_reducible first | exact HB.out | apply below_alloc | apply pw_below_drewN | apply below_drew1) | exact HB.out)) hb); clear HB; have HO146 := n0_; have HB := n1_; clear n0_ n1_; (try clear hb); (try clear hb2); (try clear hk); (try clear hi); (try clear ho0)) | ((with_reducible refine gate_dst (N := 8) rfl ?_); (try (refine gate_guard (by rfl) ?_; dsimp only)); refine box_event ?hg (N := 8) ?hd (cs := #[.int .i64 0, .int .i64 0]) (t := 24) ?hr ?_; (case hd => rfl); (case hg => rfl); (case hr => first | (go_simp; done) | (go_simp; rfl)); intro gb150 hg w7 hbox hb; have n0_ := Aside0.mk (Kd.S_below (by (with_reducible repeat (first | apply Kd.S_alloc | apply Kd.S_drewN | apply Kd.S_drew)); exact HO146.out) hb); have n1_ := Aside0.mk (below_step (by repeat (first | (with_reducible first | exact HB.out | apply below_alloc | apply pw_below_drewN | apply below_drew1) | exact HB.out)) hb); have n2_ := Aside0.mk (hbox); have n3_ := Aside0.mk ((by rw [hg]; exact (below_size (by repeat (first | (with_reducible first | exact HB.out | apply below_alloc | apply pw_below_drewN | apply below_drew1) | exact HB.out))) : w.heap.size ≤ gb150)); have n4_ := Aside0.mk ((by rw [hg]; exact (below_size (by repeat (first | (with_reducible first | exact HB.out | apply below_alloc | apply pw_below_drewN | apply below_drew1) | exact HB.out))) : w.heap.size ≤ gb150)); clear HO146; clear HB; have HO146 := n0_; have HB := n1_; have BK150 := n2_; have GW150 := n3_; have GE150 := n4_; clear n0_ n1_ n2_ n3_ n4_; clear hb hbox hg; have hcz8_0 : w7.cell? ⟨gb150, 0, none⟩ = some (.int .i64 0) := (blk_cell BK150.out 0).trans rfl; have hcz8_1 : w7.cell? ⟨gb150, 1, none⟩ = some (.int .i64 0) := (blk_cell BK150.out 1).trans rfl; have hfz8_0 := blk_frozen BK150.out 0; have hfz8_1 := blk_frozen BK150.out 1)))
 (try simp only [Act.put, List.setIfInBounds_toArray, List.set_cons_zero, List.set_cons_succ])
 go_cut [35] (fun v35 wc => ∃ (kq : Nat) (x35_4 : Bool), v35 = .bool x35_4 ∧ Aside0 (waymarklaw07_again.j0 kq a1 a2 t144 x35_4 = some r) ∧ Aside0 (kq ≤ k) ∧ Aside0 (Kd.S k35 35 wc w.heap.size (fun _ => True) v145 t144) ∧ Aside0 (wc.heap[gb150]? = some (.cells #[.int .i64 t147, .int .i64 t148] 24 (0, 0))) ∧ Aside0 (Below w.heap.size w wc))
 case first =>
  have H := HC5.out
  clear HC5
  by_cases c9 : t149 = 0
  ·rw [if_pos c9] at H
   have c9b0 : (t149 == 0) = true := beq_iff_eq.mpr c9
   have c9b1 : (t149 != 0) = false := bne_eq_false_iff_eq.mpr c9
   clear c9
   (first | rw [c9b0] | (simp only [i64_w, i32_w]; rw [c9b0]) | skip)
   by_cases c10 : (a0.size : Int) > 10000
   ·rw [if_pos c10] at H
    have c10b0 : decide (10000 < (a0.size : Int)) = true := decide_eq_true c10
    have c10b1 : decide (10000 < a0.size) = true := decide_eq_true (by omega)
    clear c10
    as_aux_lemma =>
     have H' := Aside0.mk H
     clear H
     go_wp2
     repeat (go_quiet (fail); try go_wp2)
     go_meet
     case rel => exact ⟨_, (true), (by first | rfl | (simp; done) | (simp [*]; done)), H', ⟨by first | omega | exact Nat.le_refl _⟩, ⟨by (with_reducible repeat (first | apply Kd.S_alloc | apply Kd.S_drewN | apply Kd.S_drew)); exact Kd.S_mono (Kd.S_far (p := ⟨gb150, 1, none⟩) (Kd.S_far (p := ⟨gb150, 0, none⟩) (Kd.S_types HO146.out BK150.out (by decide)) (fun _ hk => hk.2) (.int .i64 t147)) (fun _ hk => hk.2) (.int .i64 t148)) (fun _ hk => trivial)⟩, ⟨by (with_reducible repeat (first | refine blk_drewN ?_ _ | refine blk_drew ?_ | refine blk_alloc ?_ _)); refine blk_put (cs := #[.int .i64 t147, .int .i64 0]) ?_ 1 _ rfl; (with_reducible repeat (first | refine blk_drewN ?_ _ | refine blk_drew ?_ | refine blk_alloc ?_ _)); refine blk_put (cs := #[.int .i64 0, .int .i64 0]) ?_ 0 _ rfl; (with_reducible repeat (first | refine blk_drewN ?_ _ | refine blk_drew ?_ | refine blk_alloc ?_ _)); exact BK150.out⟩, ⟨by repeat (first | (with_reducible first | exact HB.out | apply below_alloc | apply pw_below_drewN | apply below_drew1 | refine below_set ?_ GE150.out) | exact HB.out)⟩⟩
   ·rw [if_neg c10] at H
    have c10b0 : decide (10000 < (a0.size : Int)) = false := decide_eq_false c10
    have c10b1 : decide (10000 < a0.size) = false := decide_eq_false (by omega)
    clear c10
    as_aux_lemma =>
     have H' := Aside0.mk H
     clear H
     obtain ⟨Ao11, co11, eo11⟩ := Kd.S_slice HO146.out
     subst eo11
     go_wp2
     repeat (go_quiet (fail); try go_wp2)
     go_meet
     case rel => exact ⟨_, (decide ((t144.length : Int) > 1000)), (by first | rfl | (simp; done) | (simp [*]; done)), H', ⟨by first | omega | exact Nat.le_refl _⟩, ⟨by (with_reducible repeat (first | apply Kd.S_alloc | apply Kd.S_drewN | apply Kd.S_drew)); exact Kd.S_mono (Kd.S_far (p := ⟨gb150, 1, none⟩) (Kd.S_far (p := ⟨gb150, 0, none⟩) (Kd.S_types HO146.out BK150.out (by decide)) (fun _ hk => hk.2) (.int .i64 t147)) (fun _ hk => hk.2) (.int .i64 t148)) (fun _ hk => trivial)⟩, ⟨by (with_reducible repeat (first | refine blk_drewN ?_ _ | refine blk_drew ?_ | refine blk_alloc ?_ _)); refine blk_put (cs := #[.int .i64 t147, .int .i64 0]) ?_ 1 _ rfl; (with_reducible repeat (first | refine blk_drewN ?_ _ | refine blk_drew ?_ | refine blk_alloc ?_ _)); refine blk_put (cs := #[.int .i64 0, .int .i64 0]) ?_ 0 _ rfl; (with_reducible repeat (first | refine blk_drewN ?_ _ | refine blk_drew ?_ | refine blk_alloc ?_ _)); exact BK150.out⟩, ⟨by repeat (first | (with_reducible first | exact HB.out | apply below_alloc | apply pw_below_drewN | apply below_drew1 | refine below_set ?_ GE150.out) | exact HB.out)⟩⟩
  ·rw [if_neg c9] at H
   have c9b0 : (t149 == 0) = false := beq_eq_false_iff_ne.mpr c9
   have c9b1 : (t149 != 0) = true := bne_iff_ne.mpr c9
   (first | rw [c9b0] | (simp only [i64_w, i32_w]; rw [c9b0]) | skip)
   as_aux_lemma =>
    have H' := Aside0.mk H
    clear H
    go_wp2
    repeat (go_quiet (fail); try go_wp2)
    go_meet
    case rel => exact ⟨_, (true), (by first | rfl | (simp; done) | (simp [*]; done)), H', ⟨by first | omega | exact Nat.le_refl _⟩, ⟨by (with_reducible repeat (first | apply Kd.S_alloc | apply Kd.S_drewN | apply Kd.S_drew)); exact Kd.S_mono (Kd.S_far (p := ⟨gb150, 1, none⟩) (Kd.S_far (p := ⟨gb150, 0, none⟩) (Kd.S_types HO146.out BK150.out (by decide)) (fun _ hk => hk.2) (.int .i64 t147)) (fun _ hk => hk.2) (.int .i64 t148)) (fun _ hk => trivial)⟩, ⟨by (with_reducible repeat (first | refine blk_drewN ?_ _ | refine blk_drew ?_ | refine blk_alloc ?_ _)); refine blk_put (cs := #[.int .i64 t147, .int .i64 0]) ?_ 1 _ rfl; (with_reducible repeat (first | refine blk_drewN ?_ _ | refine blk_drew ?_ | refine blk_alloc ?_ _)); refine blk_put (cs := #[.int .i64 0, .int .i64 0]) ?_ 0 _ rfl; (with_reducible repeat (first | refine blk_drewN ?_ _ | refine blk_drew ?_ | refine blk_alloc ?_ _)); exact BK150.out⟩, ⟨by repeat (first | (with_reducible first | exact HB.out | apply below_alloc | apply pw_below_drewN | apply below_drew1 | refine below_set ?_ GE150.out) | exact HB.out)⟩⟩
 case rest =>
  clear HC5
  try clear c1
  try clear p2
  try clear c3
  try clear c9
  try clear c9b0
  try clear c9b1
  try clear c10
  try clear c10b0
  try clear c10b1
  try clear hcz8_0
  try clear hcz8_1
  try clear hfz8_0
  try clear hfz8_1
  obtain ⟨kq, x35_4, rfl, HA, HJ4, HO_7, BK150, HB⟩ := hcut
  cases kq with
  | zero => exact absurd HA.out (by simp [waymarklaw07_again.j0])
  | succ kj4 =>
   have H := HA.out
   clear HA
   simp only [waymarklaw07_again.j0] at H
   by_cases c12 : x35_4 = true
   ·subst c12
    have H1 : (some true) = some r := by rw [if_pos rfl] at H; exact H
    clear H
    have H := H1
    clear H1
    as_aux_lemma =>
     obtain rfl := Option.some.inj H
     go_wp2
     repeat (go_quiet (fail); try go_wp2)
     go_ret
     exact ⟨by first | rfl | (simp [errW_none, errW_some] <;> rfl) | (simp [*, errW_none, errW_some] <;> rfl), by repeat (first | (with_reducible first | exact HB.out | apply below_alloc | apply pw_below_drewN | apply below_drew1 | refine below_set ?_ GE150.out) | exact HB.out)⟩
   ·replace c12 := Bool.eq_false_iff.mpr c12
    subst c12
    have H1 : (waymarklaw07_again.l0 kj4 a1 a2 t144 (⟨#[]⟩ : ByteArray) 0) = some r := by rw [if_neg (show ¬ (false = true) by decide)] at H; exact H
    clear H
    have H := H1
    clear H1
    have H' := Aside0.mk H
    clear H
    go_wp2
    repeat (go_quiet (fail); try go_wp2)
    go_loopg [10, 11] kj4 (fun kq v10 v11 w' => ∃ (x10_2 : ByteArray) (x11_2 : Int), v10 = .string x10_2 ∧ v11 = .int .i64 x11_2 ∧ Aside0 (waymarklaw07_again.l0 kq a1 a2 t144 x10_2 x11_2 = some r) ∧ Aside0 (kq ≤ kj4) ∧ Aside0 (Kd.S k35 35 w' w.heap.size (fun _ => True) v145 t144) ∧ Aside0 (w'.heap[gb150]? = some (.cells #[.int .i64 t147, .int .i64 t148] 24 (0, 0))) ∧ Aside0 (Below w.heap.size w w'))
    case atStart => exact ⟨((⟨#[]⟩ : ByteArray)), (0), (by first | rfl | (simp; done) | (simp [*]; done)), (by first | rfl | (simp; done) | (simp [*]; done)), H', ⟨Nat.le_refl _⟩, ⟨by (with_reducible repeat (first | apply Kd.S_alloc | apply Kd.S_drewN | apply Kd.S_drew)); exact HO_7.out⟩, ⟨by (with_reducible repeat (first | refine blk_drewN ?_ _ | refine blk_drew ?_ | refine blk_alloc ?_ _)); exact BK150.out⟩, ⟨by repeat (first | (with_reducible first | exact HB.out | apply below_alloc | apply pw_below_drewN | apply below_drew1 | refine below_set ?_ GE150.out) | exact HB.out)⟩⟩
    case round =>
     clear H'
     try clear c1
     try clear p2
     try clear c3
     try clear c9
     try clear c9b0
     try clear c9b1
     try clear c10
     try clear c10b0
     try clear c10b1
     try clear c12
     try clear hcz8_0
     try clear hcz8_1
     try clear hfz8_0
     try clear hfz8_1
     try clear p2
     obtain ⟨x10_2, x11_2, rfl, rfl, HA, HK2, HO_7, BK150, HB⟩ := hrel
     cases gk with
     | zero => exact absurd HA.out (by simp [waymarklaw07_again.l0])
     | succ k2 =>
      have H := HA.out
      clear HA
      simp only [waymarklaw07_again.l0] at H
      by_cases c13 : x11_2 < (t144.length : Int)
      ·rw [if_pos c13] at H
       have c13b0 : decide (x11_2 < (t144.length : Int)) = true := decide_eq_true c13
       clear c13
       have H' := Aside0.mk H
       clear H
       obtain ⟨Ao14, co14, eo14⟩ := Kd.S_slice HO_7.out
       subst eo14
       go_wp2
       repeat (go_quiet (fail); try go_wp2)
       go_loopg [10, 12] k2 (fun kq v10 v12 w' => ∃ (x10_3 : ByteArray) (x12_3 : Int), v10 = .string x10_3 ∧ v12 = .int .i64 x12_3 ∧ Aside0 (waymarklaw07_again.l1 kq a1 a2 t144 x10_3 x11_2 x12_3 = some r) ∧ Aside0 (kq ≤ k2) ∧ Aside0 (Kd.S k35 35 w' w.heap.size (fun _ => True) (.slice Ao14 t144.length co14) t144) ∧ Aside0 (w'.heap[gb150]? = some (.cells #[.int .i64 t147, .int .i64 t148] 24 (0, 0))) ∧ Aside0 (Below w.heap.size w w'))
       case atStart => exact ⟨(x10_2), (0), (by first | rfl | (simp; done) | (simp [*]; done)), (by first | rfl | (simp; done) | (simp [*]; done)), H', ⟨Nat.le_refl _⟩, ⟨by (with_reducible repeat (first | apply Kd.S_alloc | apply Kd.S_drewN | apply Kd.S_drew)); exact HO_7.out⟩, ⟨by (with_reducible repeat (first | refine blk_drewN ?_ _ | refine blk_drew ?_ | refine blk_alloc ?_ _)); exact BK150.out⟩, ⟨by repeat (first | (with_reducible first | exact HB.out | apply below_alloc | apply pw_below_drewN | apply below_drew1 | refine below_set ?_ GE150.out) | exact HB.out)⟩⟩
       case round =>
        clear H'
        try clear c1
        try clear p2
        try clear c3
        try clear c9
        try clear c9b0
        try clear c9b1
        try clear c10
        try clear c10b0
        try clear c10b1
        try clear c12
        try clear c13
        try clear c13b0
        try clear hcz8_0
        try clear hcz8_1
        try clear hfz8_0
        try clear hfz8_1
        try clear p2
        obtain ⟨x10_3, x12_3, rfl, rfl, HA, HK3, HO_7, BK150, HB⟩ := hrel
        cases gk with
        | zero => exact absurd HA.out (by simp [waymarklaw07_again.l1])
        | succ k3 =>
         have H := HA.out
         clear HA
         simp only [waymarklaw07_again.l1] at H
         by_cases c15 : 0 ≤ x11_2
         ·rw [if_pos c15] at H
          have c15b0 : decide (0 ≤ x11_2) = true := decide_eq_true c15
          clear c15
          by_cases c16 : x11_2 < (t144.length : Int)
          ·rw [if_pos c16] at H
           have c16b0 : decide (x11_2 < (t144.length : Int)) = true := decide_eq_true c16
           clear c16
           by_cases c17 : x12_3 < ((rd_T35 t144 x11_2).f0)
           ·rw [if_pos c17] at H
            have c17b0 : decide (x12_3 < ((rd_T35 t144 x11_2).f0)) = true := decide_eq_true c17
            clear c17
            by_cases c18 : x10_3.size + 1 ≤ 9223372036854775807
            ·rw [if_pos c18] at H
             have c18b0 := eq_true c18
             have c18b1 : decide (x10_3.size + 1 ≤ 9223372036854775807) = true := decide_eq_true c18
             try have c18b2 : (9223372036854775807 < x10_3.size + 1) = False := eq_false (Nat.not_lt.2 c18)
             as_aux_lemma =>
              have H' := Aside0.mk H
              clear H
              have p151 : 0 ≤ (x11_2 : Int) := of_decide_eq_true (by first | (with_reducible assumption) | assumption)
              have q151 : x11_2 < (t144.length : Int) := of_decide_eq_true (by first | (with_reducible assumption) | assumption)
              obtain ⟨ad151, A151_1, c151_1, e151, hx151_0, hx151_1, hl151_1, hi151_1⟩ := at_T35 (Kd.S_reads' HO_7.out).2.2 x11_2 p151 q151
              cases e151
              obtain ⟨ce151, hce151, hMe151, hcc151⟩ := Kd.S_get HO_7.out z35 x11_2 p151 (by first | exact q151 | exact of_decide_eq_true (by first | (with_reducible assumption) | assumption) | (have e_ := (Kd.S_reads' HO_7.out).1; omega))
              obtain ⟨ve151_1, rfl, ge151_1⟩ := k35_openM hMe151
              have hv151_1 := hcc151 1 _ rfl
              rw [add_field _ _ 1 (by omega)] at hv151_1
              replace hv151_1 := Option.some.inj (hv151_1.symm.trans hx151_1)
              rw [hv151_1] at ge151_1
              have HL151_1 := Aside0.mk (show Kd.R k37 37 _ _ _ _ ((rd_T35 t144 x11_2).f1) from ge151_1)
              clear hv151_1 ge151_1
              clear hcc151 hce151
              have HR151_1 := Aside0.mk hi151_1
              have HC151_1 := Aside0.mk hl151_1
              clear hi151_1 hl151_1
              replace p151 := eq_true p151
              replace q151 := eq_true q151
              go_wp2
              repeat (go_quiet (fail); try go_wp2)
              go_roundg k3
              case measure => have := HJ4.out; have := HK2.out; have := HK3.out; omega
              case rel => exact ⟨(x10_3 ++ (⟨#[32]⟩ : ByteArray)), (wrap64 (x12_3 + 1)), (by first | rfl | (simp; done) | (simp [*]; done)), (by first | rfl | (simp; done) | (simp [*]; done)), H', ⟨by have := HJ4.out; have := HK2.out; have := HK3.out; omega⟩, ⟨by (with_reducible repeat (first | apply Kd.S_alloc | apply Kd.S_drewN | apply Kd.S_drew)); exact HO_7.out⟩, ⟨by (with_reducible repeat (first | refine blk_drewN ?_ _ | refine blk_drew ?_ | refine blk_alloc ?_ _)); exact BK150.out⟩, ⟨by repeat (first | (with_reducible first | exact HB.out | apply below_alloc | apply pw_below_drewN | apply below_drew1 | refine below_set ?_ GE150.out) | exact HB.out)⟩⟩
            ·rw [if_neg c18] at H
             exact absurd H (by simp)
           ·rw [if_neg c17] at H
            have c17b0 : decide (x12_3 < ((rd_T35 t144 x11_2).f0)) = false := decide_eq_false c17
            clear c17
            have H' := Aside0.mk H
            clear H
            have p151 : 0 ≤ (x11_2 : Int) := of_decide_eq_true (by first | (with_reducible assumption) | assumption)
            have q151 : x11_2 < (t144.length : Int) := of_decide_eq_true (by first | (with_reducible assumption) | assumption)
            obtain ⟨ad151, A151_1, c151_1, e151, hx151_0, hx151_1, hl151_1, hi151_1⟩ := at_T35 (Kd.S_reads' HO_7.out).2.2 x11_2 p151 q151
            cases e151
            obtain ⟨ce151, hce151, hMe151, hcc151⟩ := Kd.S_get HO_7.out z35 x11_2 p151 (by first | exact q151 | exact of_decide_eq_true (by first | (with_reducible assumption) | assumption) | (have e_ := (Kd.S_reads' HO_7.out).1; omega))
            obtain ⟨ve151_1, rfl, ge151_1⟩ := k35_openM hMe151
            have hv151_1 := hcc151 1 _ rfl
            rw [add_field _ _ 1 (by omega)] at hv151_1
            replace hv151_1 := Option.some.inj (hv151_1.symm.trans hx151_1)
            rw [hv151_1] at ge151_1
            have HL151_1 := Aside0.mk (show Kd.R k37 37 _ _ _ _ ((rd_T35 t144 x11_2).f1) from ge151_1)
            clear hv151_1 ge151_1
            clear hcc151 hce151
            have HR151_1 := Aside0.mk hi151_1
            have HC151_1 := Aside0.mk hl151_1
            clear hi151_1 hl151_1
            replace p151 := eq_true p151
            replace q151 := eq_true q151
            go_wp2
            repeat (go_quiet (fail); try go_wp2)
            go_loopg [10, 13] k3 (fun kq v10 v13 w' => ∃ (x10_4 : ByteArray) (x13_4 : Int), v10 = .string x10_4 ∧ v13 = .int .i64 x13_4 ∧ Aside0 (waymarklaw07_again.l2 kq a1 a2 t144 x10_4 x11_2 x13_4 = some r) ∧ Aside0 (kq ≤ k3) ∧ Aside0 (Kd.S k35 35 w' w.heap.size (fun _ => True) (.slice (some ad151) t144.length co14) t144) ∧ Aside0 (w'.heap[gb150]? = some (.cells #[.int .i64 t147, .int .i64 t148] 24 (0, 0))) ∧ Aside0 (Kd.C k37 w' A151_1 ((rd_T35 t144 x11_2).f1).length ((rd_T35 t144 x11_2).f1)) ∧ Aside0 (Below w.heap.size w w'))
            case atStart => exact ⟨(x10_3), (0), (by first | rfl | (simp; done) | (simp [*]; done)), (by first | rfl | (simp; done) | (simp [*]; done)), H', ⟨Nat.le_refl _⟩, ⟨by (with_reducible repeat (first | apply Kd.S_alloc | apply Kd.S_drewN | apply Kd.S_drew)); exact HO_7.out⟩, ⟨by (with_reducible repeat (first | refine blk_drewN ?_ _ | refine blk_drew ?_ | refine blk_alloc ?_ _)); exact BK150.out⟩, ⟨by repeat (first | (with_reducible exact HR151_1.out) | (with_reducible refine Kd.C_alloc ?_ _) | (with_reducible refine Kd.C_drewN ?_ _) | (with_reducible refine Kd.C_drew ?_) | exact HR151_1.out)⟩, ⟨by repeat (first | (with_reducible first | exact HB.out | apply below_alloc | apply pw_below_drewN | apply below_drew1 | refine below_set ?_ GE150.out) | exact HB.out)⟩⟩
            case round =>
             clear H'
             try clear c1
             try clear p1
             try clear q1
             try clear hx1
             try clear p2
             try clear c3
             try clear p6
             try clear c9
             try clear c9b0
             try clear c9b1
             try clear c10
             try clear c10b0
             try clear c10b1
             try clear c12
             try clear c13
             try clear c13b0
             try clear c15
             try clear c15b0
             try clear p15
             try clear q15
             try clear hx15
             try clear c16
             try clear c16b0
             try clear c17
             try clear c17b0
             try clear c18
             try clear c18b0
             try clear c18b1
             try clear c18b2
             try clear hcz8_0
             try clear hcz8_1
             try clear hfz8_0
             try clear hfz8_1
             try clear hx151_0
             try clear hx151_1
             try clear p151
             try clear p2
             try clear q151
             obtain ⟨x10_4, x13_4, rfl, rfl, HA, HK4, HO_7, BK150, HR151_1, HB⟩ := hrel
             cases gk with
             | zero => exact absurd HA.out (by simp [waymarklaw07_again.l2])
             | succ k4 =>
              have H := HA.out
              clear HA
              simp only [waymarklaw07_again.l2] at H
              by_cases c19 : 0 ≤ x11_2
              ·rw [if_pos c19] at H
               have c19b0 : decide (0 ≤ x11_2) = true := decide_eq_true c19
               clear c19
               by_cases c20 : x11_2 < (t144.length : Int)
               ·rw [if_pos c20] at H
                have c20b0 : decide (x11_2 < (t144.length : Int)) = true := decide_eq_true c20
                clear c20
                by_cases c21 : x13_4 < (((rd_T35 t144 x11_2).f1).length : Int)
                ·rw [if_pos c21] at H
                 have c21b0 : decide (x13_4 < (((rd_T35 t144 x11_2).f1).length : Int)) = true := decide_eq_true c21
                 clear c21
                 by_cases c22 : 0 ≤ x13_4
                 ·rw [if_pos c22] at H
                  have c22b0 : decide (0 ≤ x13_4) = true := decide_eq_true c22
                  clear c22
                  by_cases c23 : x10_4.size + ((rd_T37 ((rd_T35 t144 x11_2).f1) x13_4).f0).size ≤ 9223372036854775807
                  ·rw [if_pos c23] at H
                   have c23b0 := eq_true c23
                   have c23b1 : decide (x10_4.size + ((rd_T37 ((rd_T35 t144 x11_2).f1) x13_4).f0).size ≤ 9223372036854775807) = true := decide_eq_true c23
                   try have c23b2 : (9223372036854775807 < x10_4.size + ((rd_T37 ((rd_T35 t144 x11_2).f1) x13_4).f0).size) = False := eq_false (Nat.not_lt.2 c23)
                   by_cases c24 : (x10_4 ++ ((rd_T37 ((rd_T35 t144 x11_2).f1) x13_4).f0)).size + a1.size ≤ 9223372036854775807
                   ·rw [if_pos c24] at H
                    have c24b0 := eq_true c24
                    have c24b1 : decide ((x10_4 ++ ((rd_T37 ((rd_T35 t144 x11_2).f1) x13_4).f0)).size + a1.size ≤ 9223372036854775807) = true := decide_eq_true c24
                    try have c24b2 : (9223372036854775807 < (x10_4 ++ ((rd_T37 ((rd_T35 t144 x11_2).f1) x13_4).f0)).size + a1.size) = False := eq_false (Nat.not_lt.2 c24)
                    try (have c24b3 := c24; simp only [ByteArray.size_append] at c24b3; replace c24b3 := eq_false (Nat.not_lt.2 c24b3))
                    try (have c24b4 := c24; simp only [ByteArray.size_append] at c24b4; replace c24b4 := eq_false (Nat.not_lt.2 c24b4))
                    as_aux_lemma =>
                     have H' := Aside0.mk H
                     clear H
                     have p152 : 0 ≤ (x11_2 : Int) := of_decide_eq_true (by first | (with_reducible assumption) | assumption)
                     have q152 : x11_2 < (t144.length : Int) := of_decide_eq_true (by first | (with_reducible assumption) | assumption)
                     obtain ⟨ad152, A152_1, c152_1, e152, hx152_0, hx152_1, hl152_1, hi152_1⟩ := at_T35 (Kd.S_reads' HO_7.out).2.2 x11_2 p152 q152
                     obtain rfl : ad151 = ad152 := (by injection e152)
                     obtain ⟨ce152, hce152, hMe152, hcc152⟩ := Kd.S_get HO_7.out z35 x11_2 p152 (by first | exact q152 | exact of_decide_eq_true (by first | (with_reducible assumption) | assumption) | (have e_ := (Kd.S_reads' HO_7.out).1; omega))
                     obtain ⟨ve152_1, rfl, ge152_1⟩ := k35_openM hMe152
                     have hv152_1 := hcc152 1 _ rfl
                     rw [add_field _ _ 1 (by omega)] at hv152_1
                     replace hv152_1 := Option.some.inj (hv152_1.symm.trans hx152_1)
                     rw [hv152_1] at ge152_1
                     have HL152_1 := Aside0.mk (show Kd.R k37 37 _ _ _ _ ((rd_T35 t144 x11_2).f1) from ge152_1)
                     clear hv152_1 ge152_1
                     clear hcc152 hce152
                     have HR152_1 := Aside0.mk hi152_1
                     have HC152_1 := Aside0.mk hl152_1
                     clear hi152_1 hl152_1
                     replace p152 := eq_true p152
                     replace q152 := eq_true q152
                     have p153 : 0 ≤ (x11_2 : Int) := of_decide_eq_true (by first | (with_reducible assumption) | assumption)
                     have q153 : x11_2 < (t144.length : Int) := of_decide_eq_true (by first | (with_reducible assumption) | assumption)
                     obtain ⟨ad153, A153_1, c153_1, e153, hx153_0, hx153_1, hl153_1, hi153_1⟩ := at_T35 (Kd.S_reads' HO_7.out).2.2 x11_2 p153 q153
                     obtain rfl : ad151 = ad153 := (by injection e153)
                     obtain ⟨ce153, hce153, hMe153, hcc153⟩ := Kd.S_get HO_7.out z35 x11_2 p153 (by first | exact q153 | exact of_decide_eq_true (by first | (with_reducible assumption) | assumption) | (have e_ := (Kd.S_reads' HO_7.out).1; omega))
                     obtain ⟨ve153_1, rfl, ge153_1⟩ := k35_openM hMe153
                     have hv153_1 := hcc153 1 _ rfl
                     rw [add_field _ _ 1 (by omega)] at hv153_1
                     replace hv153_1 := Option.some.inj (hv153_1.symm.trans hx153_1)
                     rw [hv153_1] at ge153_1
                     have HL153_1 := Aside0.mk (show Kd.R k37 37 _ _ _ _ ((rd_T35 t144 x11_2).f1) from ge153_1)
                     clear hv153_1 ge153_1
                     clear hcc153 hce153
                     have HR153_1 := Aside0.mk hi153_1
                     have HC153_1 := Aside0.mk hl153_1
                     clear hi153_1 hl153_1
                     replace p153 := eq_true p153
                     replace q153 := eq_true q153
                     have ea_ := Option.some.inj (hx152_1.symm.trans hx153_1)
                     injection ea_ with ea_ en_ ec_
                     subst ea_
                     subst ec_
                     clear en_
                     have p154 : 0 ≤ (x13_4 : Int) := of_decide_eq_true (by first | (with_reducible assumption) | assumption)
                     have q154 : x13_4 < (((rd_T35 t144 x11_2).f1).length : Int) := of_decide_eq_true (by first | (with_reducible assumption) | assumption)
                     obtain ⟨ad154, e154, hx154_0, hx154_1, hx154_2⟩ := at_T37 (by repeat (first | (with_reducible exact HR153_1.out) | (with_reducible refine Kd.C_alloc ?_ _) | (with_reducible refine Kd.C_drewN ?_ _) | (with_reducible refine Kd.C_drew ?_) | exact HR153_1.out)) x13_4 p154 q154
                     cases e154
                     replace p154 := eq_true p154
                     replace q154 := eq_true q154
                     go_wp2
                     repeat (go_quiet (fail); try go_wp2)
                     go_roundg k4
                     case measure => have := HJ4.out; have := HK2.out; have := HK3.out; have := HK4.out; omega
                     case rel => exact ⟨((x10_4 ++ ((rd_T37 ((rd_T35 t144 x11_2).f1) x13_4).f0)) ++ a1), (wrap64 (x13_4 + 1)), (by first | rfl | (simp; done) | (simp [*]; done)), (by first | rfl | (simp; done) | (simp [*]; done)), H', ⟨by have := HJ4.out; have := HK2.out; have := HK3.out; have := HK4.out; omega⟩, ⟨by (with_reducible repeat (first | apply Kd.S_alloc | apply Kd.S_drewN | apply Kd.S_drew)); exact HO_7.out⟩, ⟨by (with_reducible repeat (first | refine blk_drewN ?_ _ | refine blk_drew ?_ | refine blk_alloc ?_ _)); exact BK150.out⟩, ⟨by repeat (first | (with_reducible exact HR151_1.out) | (with_reducible refine Kd.C_alloc ?_ _) | (with_reducible refine Kd.C_drewN ?_ _) | (with_reducible refine Kd.C_drew ?_) | exact HR151_1.out)⟩, ⟨by repeat (first | (with_reducible first | exact HB.out | apply below_alloc | apply pw_below_drewN | apply below_drew1 | refine below_set ?_ GE150.out) | exact HB.out)⟩⟩
                   ·rw [if_neg c24] at H
                    exact absurd H (by simp)
                  ·rw [if_neg c23] at H
                   exact absurd H (by simp)
                 ·rw [if_neg c22] at H
                  exact absurd H (by simp)
                ·rw [if_neg c21] at H
                 have c21b0 : decide (x13_4 < (((rd_T35 t144 x11_2).f1).length : Int)) = false := decide_eq_false c21
                 clear c21
                 by_cases c25 : x10_4.size + 5 ≤ 9223372036854775807
                 ·rw [if_pos c25] at H
                  have c25b0 := eq_true c25
                  have c25b1 : decide (x10_4.size + 5 ≤ 9223372036854775807) = true := decide_eq_true c25
                  try have c25b2 : (9223372036854775807 < x10_4.size + 5) = False := eq_false (Nat.not_lt.2 c25)
                  by_cases c26 : (x10_4 ++ (⟨#[10, 32, 32, 33, 32]⟩ : ByteArray)).size + a2.size ≤ 9223372036854775807
                  ·rw [if_pos c26] at H
                   have c26b0 := eq_true c26
                   have c26b1 : decide ((x10_4 ++ (⟨#[10, 32, 32, 33, 32]⟩ : ByteArray)).size + a2.size ≤ 9223372036854775807) = true := decide_eq_true c26
                   try have c26b2 : (9223372036854775807 < (x10_4 ++ (⟨#[10, 32, 32, 33, 32]⟩ : ByteArray)).size + a2.size) = False := eq_false (Nat.not_lt.2 c26)
                   try (have c26b3 := c26; simp only [ByteArray.size_append] at c26b3; replace c26b3 := eq_false (Nat.not_lt.2 c26b3))
                   try (have c26b4 := c26; simp only [ByteArray.size_append, show (⟨#[10, 32, 32, 33, 32]⟩ : ByteArray).size = 5 from rfl] at c26b4; replace c26b4 := eq_false (Nat.not_lt.2 c26b4))
                   by_cases c27 : ((x10_4 ++ (⟨#[10, 32, 32, 33, 32]⟩ : ByteArray)) ++ a2).size + 2 ≤ 9223372036854775807
                   ·rw [if_pos c27] at H
                    have c27b0 := eq_true c27
                    have c27b1 : decide (((x10_4 ++ (⟨#[10, 32, 32, 33, 32]⟩ : ByteArray)) ++ a2).size + 2 ≤ 9223372036854775807) = true := decide_eq_true c27
                    try have c27b2 : (9223372036854775807 < ((x10_4 ++ (⟨#[10, 32, 32, 33, 32]⟩ : ByteArray)) ++ a2).size + 2) = False := eq_false (Nat.not_lt.2 c27)
                    try (have c27b3 := c27; simp only [ByteArray.size_append] at c27b3; replace c27b3 := eq_false (Nat.not_lt.2 c27b3))
                    try (have c27b4 := c27; simp only [ByteArray.size_append, show (⟨#[10, 32, 32, 33, 32]⟩ : ByteArray).size = 5 from rfl] at c27b4; replace c27b4 := eq_false (Nat.not_lt.2 c27b4))
                    as_aux_lemma =>
                     have H' := Aside0.mk H
                     clear H
                     have p152 : 0 ≤ (x11_2 : Int) := of_decide_eq_true (by first | (with_reducible assumption) | assumption)
                     have q152 : x11_2 < (t144.length : Int) := of_decide_eq_true (by first | (with_reducible assumption) | assumption)
                     obtain ⟨ad152, A152_1, c152_1, e152, hx152_0, hx152_1, hl152_1, hi152_1⟩ := at_T35 (Kd.S_reads' HO_7.out).2.2 x11_2 p152 q152
                     obtain rfl : ad151 = ad152 := (by injection e152)
                     obtain ⟨ce152, hce152, hMe152, hcc152⟩ := Kd.S_get HO_7.out z35 x11_2 p152 (by first | exact q152 | exact of_decide_eq_true (by first | (with_reducible assumption) | assumption) | (have e_ := (Kd.S_reads' HO_7.out).1; omega))
                     obtain ⟨ve152_1, rfl, ge152_1⟩ := k35_openM hMe152
                     have hv152_1 := hcc152 1 _ rfl
                     rw [add_field _ _ 1 (by omega)] at hv152_1
                     replace hv152_1 := Option.some.inj (hv152_1.symm.trans hx152_1)
                     rw [hv152_1] at ge152_1
                     have HL152_1 := Aside0.mk (show Kd.R k37 37 _ _ _ _ ((rd_T35 t144 x11_2).f1) from ge152_1)
                     clear hv152_1 ge152_1
                     clear hcc152 hce152
                     have HR152_1 := Aside0.mk hi152_1
                     have HC152_1 := Aside0.mk hl152_1
                     clear hi152_1 hl152_1
                     replace p152 := eq_true p152
                     replace q152 := eq_true q152
                     go_wp2
                     repeat (go_quiet (fail); try go_wp2)
                     go_roundg k4
                     case measure => have := HJ4.out; have := HK2.out; have := HK3.out; have := HK4.out; omega
                     case rel => exact ⟨(((x10_4 ++ (⟨#[10, 32, 32, 33, 32]⟩ : ByteArray)) ++ a2) ++ (⟨#[10, 10]⟩ : ByteArray)), (wrap64 (x11_2 + 1)), (by first | rfl | (simp; done) | (simp [*]; done)), (by first | rfl | (simp; done) | (simp [*]; done)), H', ⟨by have := HJ4.out; have := HK2.out; have := HK3.out; have := HK4.out; omega⟩, ⟨by (with_reducible repeat (first | apply Kd.S_alloc | apply Kd.S_drewN | apply Kd.S_drew)); exact HO_7.out⟩, ⟨by (with_reducible repeat (first | refine blk_drewN ?_ _ | refine blk_drew ?_ | refine blk_alloc ?_ _)); exact BK150.out⟩, ⟨by repeat (first | (with_reducible first | exact HB.out | apply below_alloc | apply pw_below_drewN | apply below_drew1 | refine below_set ?_ GE150.out) | exact HB.out)⟩⟩
                   ·rw [if_neg c27] at H
                    exact absurd H (by simp)
                  ·rw [if_neg c26] at H
                   exact absurd H (by simp)
                 ·rw [if_neg c25] at H
                  exact absurd H (by simp)
               ·rw [if_neg c20] at H
                exact absurd H (by simp)
              ·rw [if_neg c19] at H
               exact absurd H (by simp)
          ·rw [if_neg c16] at H
           exact absurd H (by simp)
         ·rw [if_neg c15] at H
          exact absurd H (by simp)
      ·rw [if_neg c13] at H
       have c13b0 : decide (x11_2 < (t144.length : Int)) = false := decide_eq_false c13
       clear c13
       replace H := Option.bind_eq_some_iff.mp H
       obtain ⟨⟨t155, t158, t159, t160⟩, A280, H⟩ := H
       replace H : (if t160 = 0 then (if (t144.length : Int) = (t155.length : Int) then (waymarklaw07_again.l3 k2 t144 t155 0) else (some false)) else (some (decide ((x10_2.size : Int) > 65536)))) = some r := H
       have A28 := Aside0.mk A280
       clear A280
       by_cases c29 : t160 = 0
       ·rw [if_pos c29] at H
        have c29b0 : (t160 == 0) = true := beq_iff_eq.mpr c29
        have c29b1 : (t160 != 0) = false := bne_eq_false_iff_eq.mpr c29
        clear c29
        by_cases c30 : (t144.length : Int) = (t155.length : Int)
        ·rw [if_pos c30] at H
         have c30b0 : ((t144.length : Int) == (t155.length : Int)) = true := beq_iff_eq.mpr c30
         have c30b1 : ((t144.length : Int) != (t155.length : Int)) = false := bne_eq_false_iff_eq.mpr c30
         have c30b2 : (t144.length == t155.length) = true := by first | simpa using c30 | (simp at c30 ⊢; omega)
         clear c30
         have H' := Aside0.mk H
         clear H
         obtain ⟨Ao31, co31, eo31⟩ := Kd.S_slice HO_7.out
         subst eo31
         go_wp2_with (first | (go_at_call 19; (with_reducible refine (lex_Lines.calls k2 x10_2 t155 t158 t159 t160 _ ?side1 A28.out).mono ?_); (case side1 => exact Go.Proofs.YtbnihnggljagnaaDoor.World.GW.below HGW_.out (by repeat (first | (with_reducible first | exact HB.out | apply below_alloc | apply pw_below_drewN | apply below_drew1 | refine below_set ?_ GE150.out) | exact HB.out))); rintro e w32 ⟨v156, rfl, ho0, hb⟩; have n0_ := Aside0.mk (Kd.S_elder' (by (with_reducible repeat (first | apply Kd.S_alloc | apply Kd.S_drewN | apply Kd.S_drew)); exact HO_7.out) (Kd.S_base ho0) hb); have n1_ := Aside0.mk (Kd.S_lower (Kd.S_new' ho0 (Kd.S_lt (by (with_reducible repeat (first | apply Kd.S_alloc | apply Kd.S_drewN | apply Kd.S_drew)); exact HO_7.out))) (below_size (by repeat (first | (with_reducible first | exact HB.out | apply below_alloc | apply pw_below_drewN | apply below_drew1 | refine below_set ?_ GE150.out) | exact HB.out)))); have n2_ := Aside0.mk (blk_below (g := gb150) (o := .cells #[.int .i64 t147, .int .i64 t148] 24 (0, 0)) (by (with_reducible repeat (first | refine blk_drewN ?_ _ | refine blk_drew ?_ | refine blk_alloc ?_ _)); exact BK150.out) hb); have n3_ := Aside0.mk (below_step (by repeat (first | (with_reducible first | exact HB.out | apply below_alloc | apply pw_below_drewN | apply below_drew1 | refine below_set ?_ GE150.out) | exact HB.out)) hb); clear HO_7; clear BK150; clear HB; have HO_7 := n0_; have HO157 := n1_; have BK150 := n2_; have HB := n3_; clear n0_ n1_ n2_ n3_; (try clear hb); (try clear hb2); (try clear hk); (try clear hi); (try clear ho0)) | ((with_reducible refine gate_dst (N := 15) rfl ?_); (try (refine gate_guard (by rfl) ?_; dsimp only)); refine box_event ?hg (N := 15) ?hd (cs := #[.int .i64 0, .int .i64 0]) (t := 24) ?hr ?_; (case hd => rfl); (case hg => rfl); (case hr => first | (go_simp; done) | (go_simp; rfl)); intro gb161 hg w33 hbox hb; have n0_ := Aside0.mk (Kd.S_below (by (with_reducible repeat (first | apply Kd.S_alloc | apply Kd.S_drewN | apply Kd.S_drew)); exact HO_7.out) hb); have n1_ := Aside0.mk (Kd.S_below (by (with_reducible repeat (first | apply Kd.S_alloc | apply Kd.S_drewN | apply Kd.S_drew)); exact HO157.out) hb); have n2_ := Aside0.mk (blk_below (g := gb150) (o := .cells #[.int .i64 t147, .int .i64 t148] 24 (0, 0)) (by (with_reducible repeat (first | refine blk_drewN ?_ _ | refine blk_drew ?_ | refine blk_alloc ?_ _)); exact BK150.out) hb); have n3_ := Aside0.mk (below_step (by repeat (first | (with_reducible first | exact HB.out | apply below_alloc | apply pw_below_drewN | apply below_drew1 | refine below_set ?_ GE150.out) | exact HB.out)) hb); have n4_ := Aside0.mk (hbox); have n5_ := Aside0.mk ((by rw [hg]; exact (below_size (by repeat (first | (with_reducible first | exact HB.out | apply below_alloc | apply pw_below_drewN | apply below_drew1 | refine below_set ?_ GE150.out) | exact HB.out))) : w.heap.size ≤ gb161)); have n6_ := Aside0.mk ((by rw [hg]; exact (below_size (by repeat (first | (with_reducible first | exact HB.out | apply below_alloc | apply pw_below_drewN | apply below_drew1 | refine below_set ?_ GE150.out) | exact HB.out))) : w.heap.size ≤ gb161)); have n7_ := Aside0.mk ((by rw [hg]; exact Nat.ne_of_lt (blk_lt (g := gb150) (o := .cells #[.int .i64 t147, .int .i64 t148] 24 (0, 0)) (by (with_reducible repeat (first | refine blk_drewN ?_ _ | refine blk_drew ?_ | refine blk_alloc ?_ _)); exact BK150.out)) : gb150 ≠ gb161)); have n8_ := Aside0.mk ((by rw [hg]; exact Nat.ne_of_gt (blk_lt (g := gb150) (o := .cells #[.int .i64 t147, .int .i64 t148] 24 (0, 0)) (by (with_reducible repeat (first | refine blk_drewN ?_ _ | refine blk_drew ?_ | refine blk_alloc ?_ _)); exact BK150.out)) : gb161 ≠ gb150)); clear HO_7; clear HO157; clear BK150; clear HB; have HO_7 := n0_; have HO157 := n1_; have BK150 := n2_; have HB := n3_; have BK161 := n4_; have GW161 := n5_; have GE161 := n6_; have NB150_161 := n7_; have NB161_150 := n8_; clear n0_ n1_ n2_ n3_ n4_ n5_ n6_ n7_ n8_; clear hb hbox hg; have hnb34 := NB161_150.out; have hnc34 := NB150_161.out; have hcz35_0 : w33.cell? ⟨gb161, 0, none⟩ = some (.int .i64 0) := (blk_cell BK161.out 0).trans rfl; have hcz35_1 : w33.cell? ⟨gb161, 1, none⟩ = some (.int .i64 0) := (blk_cell BK161.out 1).trans rfl; have hfz35_0 := blk_frozen BK161.out 0; have hfz35_1 := blk_frozen BK161.out 1; obtain ⟨Ao36, co36, eo36⟩ := Kd.S_slice HO157.out; subst eo36))
         repeat (go_quiet (first | (go_at_call 19; (with_reducible refine (lex_Lines.calls k2 x10_2 t155 t158 t159 t160 _ ?side1 A28.out).mono ?_); (case side1 => exact Go.Proofs.YtbnihnggljagnaaDoor.World.GW.below HGW_.out (by repeat (first | (with_reducible first | exact HB.out | apply below_alloc | apply pw_below_drewN | apply below_drew1 | refine below_set ?_ GE150.out) | exact HB.out))); rintro e w32 ⟨v156, rfl, ho0, hb⟩; have n0_ := Aside0.mk (Kd.S_elder' (by (with_reducible repeat (first | apply Kd.S_alloc | apply Kd.S_drewN | apply Kd.S_drew)); exact HO_7.out) (Kd.S_base ho0) hb); have n1_ := Aside0.mk (Kd.S_lower (Kd.S_new' ho0 (Kd.S_lt (by (with_reducible repeat (first | apply Kd.S_alloc | apply Kd.S_drewN | apply Kd.S_drew)); exact HO_7.out))) (below_size (by repeat (first | (with_reducible first | exact HB.out | apply below_alloc | apply pw_below_drewN | apply below_drew1 | refine below_set ?_ GE150.out) | exact HB.out)))); have n2_ := Aside0.mk (blk_below (g := gb150) (o := .cells #[.int .i64 t147, .int .i64 t148] 24 (0, 0)) (by (with_reducible repeat (first | refine blk_drewN ?_ _ | refine blk_drew ?_ | refine blk_alloc ?_ _)); exact BK150.out) hb); have n3_ := Aside0.mk (below_step (by repeat (first | (with_reducible first | exact HB.out | apply below_alloc | apply pw_below_drewN | apply below_drew1 | refine below_set ?_ GE150.out) | exact HB.out)) hb); clear HO_7; clear BK150; clear HB; have HO_7 := n0_; have HO157 := n1_; have BK150 := n2_; have HB := n3_; clear n0_ n1_ n2_ n3_; (try clear hb); (try clear hb2); (try clear hk); (try clear hi); (try clear ho0)) | ((with_reducible refine gate_dst (N := 15) rfl ?_); (try (refine gate_guard (by rfl) ?_; dsimp only)); refine box_event ?hg (N := 15) ?hd (cs := #[.int .i64 0, .int .i64 0]) (t := 24) ?hr ?_; (case hd => rfl); (case hg => rfl); (case hr => first | (go_simp; done) | (go_simp; rfl)); intro gb161 hg w33 hbox hb; have n0_ := Aside0.mk (Kd.S_below (by (with_reducible repeat (first | apply Kd.S_alloc | apply Kd.S_drewN | apply Kd.S_drew)); exact HO_7.out) hb); have n1_ := Aside0.mk (Kd.S_below (by (with_reducible repeat (first | apply Kd.S_alloc | apply Kd.S_drewN | apply Kd.S_drew)); exact HO157.out) hb); have n2_ := Aside0.mk (blk_below (g := gb150) (o := .cells #[.int .i64 t147, .int .i64 t148] 24 (0, 0)) (by (with_reducible repeat (first | refine blk_drewN ?_ _ | refine blk_drew ?_ | refine blk_alloc ?_ _)); exact BK150.out) hb); have n3_ := Aside0.mk (below_step (by repeat (first | (with_reducible first | exact HB.out | apply below_alloc | apply pw_below_drewN | apply below_drew1 | refine below_set ?_ GE150.out) | exact HB.out)) hb); have n4_ := Aside0.mk (hbox); have n5_ := Aside0.mk ((by rw [hg]; exact (below_size (by repeat (first | (with_reducible first | exact HB.out | apply below_alloc | apply pw_below_drewN | apply below_drew1 | refine below_set ?_ GE150.out) | exact HB.out))) : w.heap.size ≤ gb161)); have n6_ := Aside0.mk ((by rw [hg]; exact (below_size (by repeat (first | (with_reducible first | exact HB.out | apply below_alloc | apply pw_below_drewN | apply below_drew1 | refine below_set ?_ GE150.out) | exact HB.out))) : w.heap.size ≤ gb161)); have n7_ := Aside0.mk ((by rw [hg]; exact Nat.ne_of_lt (blk_lt (g := gb150) (o := .cells #[.int .i64 t147, .int .i64 t148] 24 (0, 0)) (by (with_reducible repeat (first | refine blk_drewN ?_ _ | refine blk_drew ?_ | refine blk_alloc ?_ _)); exact BK150.out)) : gb150 ≠ gb161)); have n8_ := Aside0.mk ((by rw [hg]; exact Nat.ne_of_gt (blk_lt (g := gb150) (o := .cells #[.int .i64 t147, .int .i64 t148] 24 (0, 0)) (by (with_reducible repeat (first | refine blk_drewN ?_ _ | refine blk_drew ?_ | refine blk_alloc ?_ _)); exact BK150.out)) : gb161 ≠ gb150)); clear HO_7; clear HO157; clear BK150; clear HB; have HO_7 := n0_; have HO157 := n1_; have BK150 := n2_; have HB := n3_; have BK161 := n4_; have GW161 := n5_; have GE161 := n6_; have NB150_161 := n7_; have NB161_150 := n8_; clear n0_ n1_ n2_ n3_ n4_ n5_ n6_ n7_ n8_; clear hb hbox hg; have hnb34 := NB161_150.out; have hnc34 := NB150_161.out; have hcz35_0 : w33.cell? ⟨gb161, 0, none⟩ = some (.int .i64 0) := (blk_cell BK161.out 0).trans rfl; have hcz35_1 : w33.cell? ⟨gb161, 1, none⟩ = some (.int .i64 0) := (blk_cell BK161.out 1).trans rfl; have hfz35_0 := blk_frozen BK161.out 0; have hfz35_1 := blk_frozen BK161.out 1; obtain ⟨Ao36, co36, eo36⟩ := Kd.S_slice HO157.out; subst eo36)); try go_wp2_with (first | (go_at_call 19; (with_reducible refine (lex_Lines.calls k2 x10_2 t155 t158 t159 t160 _ ?side1 A28.out).mono ?_); (case side1 => exact Go.Proofs.YtbnihnggljagnaaDoor.World.GW.below HGW_.out (by repeat (first | (with_reducible first | exact HB.out | apply below_alloc | apply pw_below_drewN | apply below_drew1 | refine below_set ?_ GE150.out) | exact HB.out))); rintro e w32 ⟨v156, rfl, ho0, hb⟩; have n0_ := Aside0.mk (Kd.S_elder' (by (with_reducible repeat (first | apply Kd.S_alloc | apply Kd.S_drewN | apply Kd.S_drew)); exact HO_7.out) (Kd.S_base ho0) hb); have n1_ := Aside0.mk (Kd.S_lower (Kd.S_new' ho0 (Kd.S_lt (by (with_reducible repeat (first | apply Kd.S_alloc | apply Kd.S_drewN | apply Kd.S_drew)); exact HO_7.out))) (below_size (by repeat (first | (with_reducible first | exact HB.out | apply below_alloc | apply pw_below_drewN | apply below_drew1 | refine below_set ?_ GE150.out) | exact HB.out)))); have n2_ := Aside0.mk (blk_below (g := gb150) (o := .cells #[.int .i64 t147, .int .i64 t148] 24 (0, 0)) (by (with_reducible repeat (first | refine blk_drewN ?_ _ | refine blk_drew ?_ | refine blk_alloc ?_ _)); exact BK150.out) hb); have n3_ := Aside0.mk (below_step (by repeat (first | (with_reducible first | exact HB.out | apply below_alloc | apply pw_below_drewN | apply below_drew1 | refine below_set ?_ GE150.out) | exact HB.out)) hb); clear HO_7; clear BK150; clear HB; have HO_7 := n0_; have HO157 := n1_; have BK150 := n2_; have HB := n3_; clear n0_ n1_ n2_ n3_; (try clear hb); (try clear hb2); (try clear hk); (try clear hi); (try clear ho0)) | ((with_reducible refine gate_dst (N := 15) rfl ?_); (try (refine gate_guard (by rfl) ?_; dsimp only)); refine box_event ?hg (N := 15) ?hd (cs := #[.int .i64 0, .int .i64 0]) (t := 24) ?hr ?_; (case hd => rfl); (case hg => rfl); (case hr => first | (go_simp; done) | (go_simp; rfl)); intro gb161 hg w33 hbox hb; have n0_ := Aside0.mk (Kd.S_below (by (with_reducible repeat (first | apply Kd.S_alloc | apply Kd.S_drewN | apply Kd.S_drew)); exact HO_7.out) hb); have n1_ := Aside0.mk (Kd.S_below (by (with_reducible repeat (first | apply Kd.S_alloc | apply Kd.S_drewN | apply Kd.S_drew)); exact HO157.out) hb); have n2_ := Aside0.mk (blk_below (g := gb150) (o := .cells #[.int .i64 t147, .int .i64 t148] 24 (0, 0)) (by (with_reducible repeat (first | refine blk_drewN ?_ _ | refine blk_drew ?_ | refine blk_alloc ?_ _)); exact BK150.out) hb); have n3_ := Aside0.mk (below_step (by repeat (first | (with_reducible first | exact HB.out | apply below_alloc | apply pw_below_drewN | apply below_drew1 | refine below_set ?_ GE150.out) | exact HB.out)) hb); have n4_ := Aside0.mk (hbox); have n5_ := Aside0.mk ((by rw [hg]; exact (below_size (by repeat (first | (with_reducible first | exact HB.out | apply below_alloc | apply pw_below_drewN | apply below_drew1 | refine below_set ?_ GE150.out) | exact HB.out))) : w.heap.size ≤ gb161)); have n6_ := Aside0.mk ((by rw [hg]; exact (below_size (by repeat (first | (with_reducible first | exact HB.out | apply below_alloc | apply pw_below_drewN | apply below_drew1 | refine below_set ?_ GE150.out) | exact HB.out))) : w.heap.size ≤ gb161)); have n7_ := Aside0.mk ((by rw [hg]; exact Nat.ne_of_lt (blk_lt (g := gb150) (o := .cells #[.int .i64 t147, .int .i64 t148] 24 (0, 0)) (by (with_reducible repeat (first | refine blk_drewN ?_ _ | refine blk_drew ?_ | refine blk_alloc ?_ _)); exact BK150.out)) : gb150 ≠ gb161)); have n8_ := Aside0.mk ((by rw [hg]; exact Nat.ne_of_gt (blk_lt (g := gb150) (o := .cells #[.int .i64 t147, .int .i64 t148] 24 (0, 0)) (by (with_reducible repeat (first | refine blk_drewN ?_ _ | refine blk_drew ?_ | refine blk_alloc ?_ _)); exact BK150.out)) : gb161 ≠ gb150)); clear HO_7; clear HO157; clear BK150; clear HB; have HO_7 := n0_; have HO157 := n1_; have BK150 := n2_; have HB := n3_; have BK161 := n4_; have GW161 := n5_; have GE161 := n6_; have NB150_161 := n7_; have NB161_150 := n8_; clear n0_ n1_ n2_ n3_ n4_ n5_ n6_ n7_ n8_; clear hb hbox hg; have hnb34 := NB161_150.out; have hnc34 := NB150_161.out; have hcz35_0 : w33.cell? ⟨gb161, 0, none⟩ = some (.int .i64 0) := (blk_cell BK161.out 0).trans rfl; have hcz35_1 : w33.cell? ⟨gb161, 1, none⟩ = some (.int .i64 0) := (blk_cell BK161.out 1).trans rfl; have hfz35_0 := blk_frozen BK161.out 0; have hfz35_1 := blk_frozen BK161.out 1; obtain ⟨Ao36, co36, eo36⟩ := Kd.S_slice HO157.out; subst eo36)))
         go_loopg [16] k2 (fun kq v16 w' => ∃ (x16_3 : Int), v16 = .int .i64 x16_3 ∧ Aside0 (waymarklaw07_again.l3 kq t144 t155 x16_3 = some r) ∧ Aside0 (kq ≤ k2) ∧ Aside0 (Kd.S k35 35 w' w.heap.size (fun k_ => some k_ ≠ ((.slice Ao36 t155.length co36) : Value).ownBlock) (.slice Ao31 t144.length co31) t144) ∧ Aside0 (Kd.S k35 35 w' w.heap.size (fun k_ => some k_ ≠ ((.slice Ao31 t144.length co31) : Value).ownBlock) (.slice Ao36 t155.length co36) t155) ∧ Aside0 (w'.heap[gb150]? = some (.cells #[.int .i64 t147, .int .i64 t148] 24 (0, 0))) ∧ Aside0 (w'.heap[gb161]? = some (.cells #[.int .i64 t158, .int .i64 t159] 24 (0, 0))) ∧ Aside0 (Below w.heap.size w w'))
         case atStart => exact ⟨(0), (by first | rfl | (simp; done) | (simp [*]; done)), H', ⟨Nat.le_refl _⟩, ⟨by (with_reducible repeat (first | apply Kd.S_alloc | apply Kd.S_drewN | apply Kd.S_drew)); exact Kd.S_mono (Kd.S_far (p := ⟨gb161, 1, none⟩) (Kd.S_far (p := ⟨gb161, 0, none⟩) (Kd.S_types HO_7.out BK161.out (by decide)) (fun _ hk => hk.2) (.int .i64 t158)) (fun _ hk => hk.2) (.int .i64 t159)) (fun _ hk => hk.1.2)⟩, ⟨by (with_reducible repeat (first | apply Kd.S_alloc | apply Kd.S_drewN | apply Kd.S_drew)); exact Kd.S_mono (Kd.S_far (p := ⟨gb161, 1, none⟩) (Kd.S_far (p := ⟨gb161, 0, none⟩) (Kd.S_types HO157.out BK161.out (by decide)) (fun _ hk => hk.2) (.int .i64 t158)) (fun _ hk => hk.2) (.int .i64 t159)) (fun _ hk => hk.1.2)⟩, ⟨by (with_reducible repeat (first | refine blk_drewN ?_ _ | refine blk_drew ?_ | refine blk_alloc ?_ _)); refine blk_far ?_ NB150_161.out _; (with_reducible repeat (first | refine blk_drewN ?_ _ | refine blk_drew ?_ | refine blk_alloc ?_ _)); refine blk_far ?_ NB150_161.out _; (with_reducible repeat (first | refine blk_drewN ?_ _ | refine blk_drew ?_ | refine blk_alloc ?_ _)); exact BK150.out⟩, ⟨by (with_reducible repeat (first | refine blk_drewN ?_ _ | refine blk_drew ?_ | refine blk_alloc ?_ _)); refine blk_put (cs := #[.int .i64 t158, .int .i64 0]) ?_ 1 _ rfl; (with_reducible repeat (first | refine blk_drewN ?_ _ | refine blk_drew ?_ | refine blk_alloc ?_ _)); refine blk_put (cs := #[.int .i64 0, .int .i64 0]) ?_ 0 _ rfl; (with_reducible repeat (first | refine blk_drewN ?_ _ | refine blk_drew ?_ | refine blk_alloc ?_ _)); exact BK161.out⟩, ⟨by repeat (first | (with_reducible first | exact HB.out | apply below_alloc | apply pw_below_drewN | apply below_drew1 | refine below_set ?_ GE150.out | refine below_set ?_ GE161.out) | exact HB.out)⟩⟩
         case round =>
          clear H'
          try clear c1
          try clear p1
          try clear q1
          try clear hx1
          try clear c2
          try clear p2
          try clear c3
          try clear p6
          try clear c9
          try clear c9b0
          try clear c9b1
          try clear c10
          try clear c10b0
          try clear c10b1
          try clear c12
          try clear c13
          try clear c13b0
          try clear c15
          try clear c15b0
          try clear p15
          try clear q15
          try clear hx15
          try clear c16
          try clear c16b0
          try clear c17
          try clear c17b0
          try clear c18
          try clear c18b0
          try clear c18b1
          try clear c18b2
          try clear c19
          try clear c19b0
          try clear c20
          try clear c20b0
          try clear c21
          try clear c21b0
          try clear c22
          try clear c22b0
          try clear c23
          try clear c23b0
          try clear c23b1
          try clear c23b2
          try clear c24
          try clear c24b0
          try clear c24b1
          try clear c24b2
          try clear c25
          try clear c25b0
          try clear c25b1
          try clear c25b2
          try clear c26
          try clear c26b0
          try clear c26b1
          try clear c26b2
          try clear c27
          try clear c27b0
          try clear c27b1
          try clear c27b2
          try clear c29
          try clear c29b0
          try clear c29b1
          try clear c30
          try clear c30b0
          try clear c30b1
          try clear c30b2
          try clear c32
          try clear c34
          try clear hcz35_0
          try clear hcz35_1
          try clear hcz8_0
          try clear hcz8_1
          try clear hfz35_0
          try clear hfz35_1
          try clear hfz8_0
          try clear hfz8_1
          try clear hx151_0
          try clear hx151_1
          try clear hx152_0
          try clear hx152_1
          try clear hx153_0
          try clear hx153_1
          try clear hx154_0
          try clear hx154_1
          try clear hx154_2
          try clear p1
          try clear p15
          try clear p151
          try clear p152
          try clear p153
          try clear p154
          try clear p2
          try clear p6
          try clear q1
          try clear q15
          try clear q151
          try clear q152
          try clear q153
          try clear q154
          obtain ⟨x16_3, rfl, HA, HK3, HO_7, HO_14, BK150, BK161, HB⟩ := hrel
          cases gk with
          | zero => exact absurd HA.out (by simp [waymarklaw07_again.l3])
          | succ k3 =>
           have H := HA.out
           clear HA
           simp only [waymarklaw07_again.l3] at H
           by_cases c37 : x16_3 < (t144.length : Int)
           ·rw [if_pos c37] at H
            have c37b0 : decide (x16_3 < (t144.length : Int)) = true := decide_eq_true c37
            clear c37
            have HC38 := Aside0.mk H
            clear H
            go_upto_region 25 with (fail)
            repeat (go_quiet (fail); go_upto_region 25 with (fail))
            go_cut [128] (fun v128 wc => ∃ (kq : Nat) (x128_37 : Bool), v128 = .bool x128_37 ∧ Aside0 (waymarklaw07_again.j5 kq t144 t155 x16_3 x128_37 = some r) ∧ Aside0 (kq ≤ k3) ∧ Aside0 (Kd.S k35 35 wc w.heap.size (fun k_ => some k_ ≠ ((.slice Ao36 t155.length co36) : Value).ownBlock) (.slice Ao31 t144.length co31) t144) ∧ Aside0 (Kd.S k35 35 wc w.heap.size (fun k_ => some k_ ≠ ((.slice Ao31 t144.length co31) : Value).ownBlock) (.slice Ao36 t155.length co36) t155) ∧ Aside0 (wc.heap[gb150]? = some (.cells #[.int .i64 t147, .int .i64 t148] 24 (0, 0))) ∧ Aside0 (wc.heap[gb161]? = some (.cells #[.int .i64 t158, .int .i64 t159] 24 (0, 0))) ∧ Aside0 (Below w.heap.size w wc))
            case first =>
             have H := HC38.out
             clear HC38
             by_cases c39 : 0 ≤ x16_3
             ·rw [if_pos c39] at H
              have c39b0 : decide (0 ≤ x16_3) = true := decide_eq_true c39
              clear c39
              (first | rw [c39b0] | (simp only [i64_w, i32_w]; rw [c39b0]) | skip)
              by_cases c40 : x16_3 < (t155.length : Int)
              ·rw [if_pos c40] at H
               have c40b0 : decide (x16_3 < (t155.length : Int)) = true := decide_eq_true c40
               clear c40
               by_cases c41 : ((rd_T35 t144 x16_3).f0) = ((rd_T35 t155 x16_3).f0)
               ·rw [if_pos c41] at H
                have c41b0 : (((rd_T35 t144 x16_3).f0) == ((rd_T35 t155 x16_3).f0)) = true := beq_iff_eq.mpr c41
                have c41b1 : (((rd_T35 t144 x16_3).f0) != ((rd_T35 t155 x16_3).f0)) = false := bne_eq_false_iff_eq.mpr c41
                clear c41
                as_aux_lemma =>
                 have H' := Aside0.mk H
                 clear H
                 have p162 : 0 ≤ (x16_3 : Int) := of_decide_eq_true (by first | (with_reducible assumption) | assumption)
                 have q162 : x16_3 < (t144.length : Int) := of_decide_eq_true (by first | (with_reducible assumption) | assumption)
                 obtain ⟨ad162, A162_1, c162_1, e162, hx162_0, hx162_1, hl162_1, hi162_1⟩ := at_T35 (Kd.S_reads' HO_7.out).2.2 x16_3 p162 q162
                 cases e162
                 obtain ⟨ce162, hce162, hMe162, hcc162⟩ := Kd.S_get HO_7.out z35 x16_3 p162 (by first | exact q162 | exact of_decide_eq_true (by first | (with_reducible assumption) | assumption) | (have e_ := (Kd.S_reads' HO_7.out).1; omega))
                 obtain ⟨ve162_1, rfl, ge162_1⟩ := k35_openM hMe162
                 have hv162_1 := hcc162 1 _ rfl
                 rw [add_field _ _ 1 (by omega)] at hv162_1
                 replace hv162_1 := Option.some.inj (hv162_1.symm.trans hx162_1)
                 rw [hv162_1] at ge162_1
                 have HL162_1 := Aside0.mk (show Kd.R k37 37 _ _ _ _ ((rd_T35 t144 x16_3).f1) from ge162_1)
                 clear hv162_1 ge162_1
                 clear hcc162 hce162
                 have HR162_1 := Aside0.mk hi162_1
                 have HC162_1 := Aside0.mk hl162_1
                 clear hi162_1 hl162_1
                 replace p162 := eq_true p162
                 replace q162 := eq_true q162
                 have p163 : 0 ≤ (x16_3 : Int) := of_decide_eq_true (by first | (with_reducible assumption) | assumption)
                 have q163 : x16_3 < (t155.length : Int) := of_decide_eq_true (by first | (with_reducible assumption) | assumption)
                 obtain ⟨ad163, A163_1, c163_1, e163, hx163_0, hx163_1, hl163_1, hi163_1⟩ := at_T35 (Kd.S_reads' HO_14.out).2.2 x16_3 p163 q163
                 cases e163
                 obtain ⟨ce163, hce163, hMe163, hcc163⟩ := Kd.S_get HO_14.out z35 x16_3 p163 (by first | exact q163 | exact of_decide_eq_true (by first | (with_reducible assumption) | assumption) | (have e_ := (Kd.S_reads' HO_14.out).1; omega))
                 obtain ⟨ve163_1, rfl, ge163_1⟩ := k35_openM hMe163
                 have hv163_1 := hcc163 1 _ rfl
                 rw [add_field _ _ 1 (by omega)] at hv163_1
                 replace hv163_1 := Option.some.inj (hv163_1.symm.trans hx163_1)
                 rw [hv163_1] at ge163_1
                 have HL163_1 := Aside0.mk (show Kd.R k37 37 _ _ _ _ ((rd_T35 t155 x16_3).f1) from ge163_1)
                 clear hv163_1 ge163_1
                 clear hcc163 hce163
                 have HR163_1 := Aside0.mk hi163_1
                 have HC163_1 := Aside0.mk hl163_1
                 clear hi163_1 hl163_1
                 replace p163 := eq_true p163
                 replace q163 := eq_true q163
                 have p164 : 0 ≤ (x16_3 : Int) := of_decide_eq_true (by first | (with_reducible assumption) | assumption)
                 have q164 : x16_3 < (t144.length : Int) := of_decide_eq_true (by first | (with_reducible assumption) | assumption)
                 obtain ⟨ad164, A164_1, c164_1, e164, hx164_0, hx164_1, hl164_1, hi164_1⟩ := at_T35 (Kd.S_reads' HO_7.out).2.2 x16_3 p164 q164
                 obtain rfl : ad162 = ad164 := (by injection e164)
                 obtain ⟨ce164, hce164, hMe164, hcc164⟩ := Kd.S_get HO_7.out z35 x16_3 p164 (by first | exact q164 | exact of_decide_eq_true (by first | (with_reducible assumption) | assumption) | (have e_ := (Kd.S_reads' HO_7.out).1; omega))
                 obtain ⟨ve164_1, rfl, ge164_1⟩ := k35_openM hMe164
                 have hv164_1 := hcc164 1 _ rfl
                 rw [add_field _ _ 1 (by omega)] at hv164_1
                 replace hv164_1 := Option.some.inj (hv164_1.symm.trans hx164_1)
                 rw [hv164_1] at ge164_1
                 have HL164_1 := Aside0.mk (show Kd.R k37 37 _ _ _ _ ((rd_T35 t144 x16_3).f1) from ge164_1)
                 clear hv164_1 ge164_1
                 clear hcc164 hce164
                 have HR164_1 := Aside0.mk hi164_1
                 have HC164_1 := Aside0.mk hl164_1
                 clear hi164_1 hl164_1
                 replace p164 := eq_true p164
                 replace q164 := eq_true q164
                 have ea_ := Option.some.inj (hx162_1.symm.trans hx164_1)
                 injection ea_ with ea_ en_ ec_
                 subst ea_
                 subst ec_
                 clear en_
                 have p165 : 0 ≤ (x16_3 : Int) := of_decide_eq_true (by first | (with_reducible assumption) | assumption)
                 have q165 : x16_3 < (t155.length : Int) := of_decide_eq_true (by first | (with_reducible assumption) | assumption)
                 obtain ⟨ad165, A165_1, c165_1, e165, hx165_0, hx165_1, hl165_1, hi165_1⟩ := at_T35 (Kd.S_reads' HO_14.out).2.2 x16_3 p165 q165
                 obtain rfl : ad163 = ad165 := (by injection e165)
                 obtain ⟨ce165, hce165, hMe165, hcc165⟩ := Kd.S_get HO_14.out z35 x16_3 p165 (by first | exact q165 | exact of_decide_eq_true (by first | (with_reducible assumption) | assumption) | (have e_ := (Kd.S_reads' HO_14.out).1; omega))
                 obtain ⟨ve165_1, rfl, ge165_1⟩ := k35_openM hMe165
                 have hv165_1 := hcc165 1 _ rfl
                 rw [add_field _ _ 1 (by omega)] at hv165_1
                 replace hv165_1 := Option.some.inj (hv165_1.symm.trans hx165_1)
                 rw [hv165_1] at ge165_1
                 have HL165_1 := Aside0.mk (show Kd.R k37 37 _ _ _ _ ((rd_T35 t155 x16_3).f1) from ge165_1)
                 clear hv165_1 ge165_1
                 clear hcc165 hce165
                 have HR165_1 := Aside0.mk hi165_1
                 have HC165_1 := Aside0.mk hl165_1
                 clear hi165_1 hl165_1
                 replace p165 := eq_true p165
                 replace q165 := eq_true q165
                 have ea_ := Option.some.inj (hx163_1.symm.trans hx165_1)
                 injection ea_ with ea_ en_ ec_
                 subst ea_
                 subst ec_
                 clear en_
                 go_wp2
                 repeat (go_quiet (fail); try go_wp2)
                 go_meet
                 case rel => exact ⟨_, (((((rd_T35 t144 x16_3).f1).length : Int) != (((rd_T35 t155 x16_3).f1).length : Int))), (by first | rfl | (simp; done) | (simp [*]; done)), H', ⟨by have := HJ4.out; have := HK2.out; have := HK3.out; first | omega | exact Nat.le_refl _⟩, ⟨by (with_reducible repeat (first | apply Kd.S_alloc | apply Kd.S_drewN | apply Kd.S_drew)); exact HO_7.out⟩, ⟨by (with_reducible repeat (first | apply Kd.S_alloc | apply Kd.S_drewN | apply Kd.S_drew)); exact HO_14.out⟩, ⟨by (with_reducible repeat (first | refine blk_drewN ?_ _ | refine blk_drew ?_ | refine blk_alloc ?_ _)); exact BK150.out⟩, ⟨by (with_reducible repeat (first | refine blk_drewN ?_ _ | refine blk_drew ?_ | refine blk_alloc ?_ _)); exact BK161.out⟩, ⟨by repeat (first | (with_reducible first | exact HB.out | apply below_alloc | apply pw_below_drewN | apply below_drew1 | refine below_set ?_ GE150.out | refine below_set ?_ GE161.out) | exact HB.out)⟩⟩
               ·rw [if_neg c41] at H
                have c41b0 : (((rd_T35 t144 x16_3).f0) == ((rd_T35 t155 x16_3).f0)) = false := beq_eq_false_iff_ne.mpr c41
                have c41b1 : (((rd_T35 t144 x16_3).f0) != ((rd_T35 t155 x16_3).f0)) = true := bne_iff_ne.mpr c41
                as_aux_lemma =>
                 have H' := Aside0.mk H
                 clear H
                 have p162 : 0 ≤ (x16_3 : Int) := of_decide_eq_true (by first | (with_reducible assumption) | assumption)
                 have q162 : x16_3 < (t144.length : Int) := of_decide_eq_true (by first | (with_reducible assumption) | assumption)
                 obtain ⟨ad162, A162_1, c162_1, e162, hx162_0, hx162_1, hl162_1, hi162_1⟩ := at_T35 (Kd.S_reads' HO_7.out).2.2 x16_3 p162 q162
                 cases e162
                 obtain ⟨ce162, hce162, hMe162, hcc162⟩ := Kd.S_get HO_7.out z35 x16_3 p162 (by first | exact q162 | exact of_decide_eq_true (by first | (with_reducible assumption) | assumption) | (have e_ := (Kd.S_reads' HO_7.out).1; omega))
                 obtain ⟨ve162_1, rfl, ge162_1⟩ := k35_openM hMe162
                 have hv162_1 := hcc162 1 _ rfl
                 rw [add_field _ _ 1 (by omega)] at hv162_1
                 replace hv162_1 := Option.some.inj (hv162_1.symm.trans hx162_1)
                 rw [hv162_1] at ge162_1
                 have HL162_1 := Aside0.mk (show Kd.R k37 37 _ _ _ _ ((rd_T35 t144 x16_3).f1) from ge162_1)
                 clear hv162_1 ge162_1
                 clear hcc162 hce162
                 have HR162_1 := Aside0.mk hi162_1
                 have HC162_1 := Aside0.mk hl162_1
                 clear hi162_1 hl162_1
                 replace p162 := eq_true p162
                 replace q162 := eq_true q162
                 have p163 : 0 ≤ (x16_3 : Int) := of_decide_eq_true (by first | (with_reducible assumption) | assumption)
                 have q163 : x16_3 < (t155.length : Int) := of_decide_eq_true (by first | (with_reducible assumption) | assumption)
                 obtain ⟨ad163, A163_1, c163_1, e163, hx163_0, hx163_1, hl163_1, hi163_1⟩ := at_T35 (Kd.S_reads' HO_14.out).2.2 x16_3 p163 q163
                 cases e163
                 obtain ⟨ce163, hce163, hMe163, hcc163⟩ := Kd.S_get HO_14.out z35 x16_3 p163 (by first | exact q163 | exact of_decide_eq_true (by first | (with_reducible assumption) | assumption) | (have e_ := (Kd.S_reads' HO_14.out).1; omega))
                 obtain ⟨ve163_1, rfl, ge163_1⟩ := k35_openM hMe163
                 have hv163_1 := hcc163 1 _ rfl
                 rw [add_field _ _ 1 (by omega)] at hv163_1
                 replace hv163_1 := Option.some.inj (hv163_1.symm.trans hx163_1)
                 rw [hv163_1] at ge163_1
                 have HL163_1 := Aside0.mk (show Kd.R k37 37 _ _ _ _ ((rd_T35 t155 x16_3).f1) from ge163_1)
                 clear hv163_1 ge163_1
                 clear hcc163 hce163
                 have HR163_1 := Aside0.mk hi163_1
                 have HC163_1 := Aside0.mk hl163_1
                 clear hi163_1 hl163_1
                 replace p163 := eq_true p163
                 replace q163 := eq_true q163
                 go_wp2
                 repeat (go_quiet (fail); try go_wp2)
                 go_meet
                 case rel => exact ⟨_, (true), (by first | rfl | (simp; done) | (simp [*]; done)), H', ⟨by have := HJ4.out; have := HK2.out; have := HK3.out; first | omega | exact Nat.le_refl _⟩, ⟨by (with_reducible repeat (first | apply Kd.S_alloc | apply Kd.S_drewN | apply Kd.S_drew)); exact HO_7.out⟩, ⟨by (with_reducible repeat (first | apply Kd.S_alloc | apply Kd.S_drewN | apply Kd.S_drew)); exact HO_14.out⟩, ⟨by (with_reducible repeat (first | refine blk_drewN ?_ _ | refine blk_drew ?_ | refine blk_alloc ?_ _)); exact BK150.out⟩, ⟨by (with_reducible repeat (first | refine blk_drewN ?_ _ | refine blk_drew ?_ | refine blk_alloc ?_ _)); exact BK161.out⟩, ⟨by repeat (first | (with_reducible first | exact HB.out | apply below_alloc | apply pw_below_drewN | apply below_drew1 | refine below_set ?_ GE150.out | refine below_set ?_ GE161.out) | exact HB.out)⟩⟩
              ·rw [if_neg c40] at H
               exact absurd H (by simp)
             ·rw [if_neg c39] at H
              exact absurd H (by simp)
            case rest =>
             clear HC38
             try clear c1
             try clear p1
             try clear q1
             try clear hx1
             try clear c2
             try clear p2
             try clear c3
             try clear c4
             try clear p6
             try clear c9
             try clear c9b0
             try clear c9b1
             try clear c10
             try clear c10b0
             try clear c10b1
             try clear c12
             try clear c13
             try clear c13b0
             try clear c15
             try clear c15b0
             try clear p15
             try clear q15
             try clear hx15
             try clear c16
             try clear c16b0
             try clear p16
             try clear q16
             try clear hx16
             try clear c17
             try clear c17b0
             try clear c18
             try clear c18b0
             try clear c18b1
             try clear c18b2
             try clear c19
             try clear c19b0
             try clear c20
             try clear c20b0
             try clear c21
             try clear c21b0
             try clear c22
             try clear c22b0
             try clear c23
             try clear c23b0
             try clear c23b1
             try clear c23b2
             try clear c24
             try clear c24b0
             try clear c24b1
             try clear c24b2
             try clear c25
             try clear c25b0
             try clear c25b1
             try clear c25b2
             try clear c26
             try clear c26b0
             try clear c26b1
             try clear c26b2
             try clear c27
             try clear c27b0
             try clear c27b1
             try clear c27b2
             try clear c29
             try clear c29b0
             try clear c29b1
             try clear c30
             try clear c30b0
             try clear c30b1
             try clear c30b2
             try clear c32
             try clear c34
             try clear c37
             try clear c37b0
             try clear c39
             try clear c39b0
             try clear c40
             try clear c40b0
             try clear c41
             try clear c41b0
             try clear c41b1
             try clear hcz35_0
             try clear hcz35_1
             try clear hcz8_0
             try clear hcz8_1
             try clear hfz35_0
             try clear hfz35_1
             try clear hfz8_0
             try clear hfz8_1
             try clear hx151_0
             try clear hx151_1
             try clear hx152_0
             try clear hx152_1
             try clear hx153_0
             try clear hx153_1
             try clear hx154_0
             try clear hx154_1
             try clear hx154_2
             try clear hx162_0
             try clear hx162_1
             try clear hx163_0
             try clear hx163_1
             try clear hx164_0
             try clear hx164_1
             try clear hx165_0
             try clear hx165_1
             try clear p1
             try clear p15
             try clear p151
             try clear p152
             try clear p153
             try clear p154
             try clear p162
             try clear p163
             try clear p164
             try clear p165
             try clear p2
             try clear p6
             try clear q1
             try clear q15
             try clear q151
             try clear q152
             try clear q153
             try clear q154
             try clear q162
             try clear q163
             try clear q164
             try clear q165
             obtain ⟨kq, x128_37, rfl, HA, HJ37, HO_7, HO_14, BK150, BK161, HB⟩ := hcut
             cases kq with
             | zero => exact absurd HA.out (by simp [waymarklaw07_again.j5])
             | succ kj37 =>
              have H := HA.out
              clear HA
              simp only [waymarklaw07_again.j5] at H
              by_cases c42 : x128_37 = true
              ·subst c42
               have H1 : (some false) = some r := by rw [if_pos rfl] at H; exact H
               clear H
               have H := H1
               clear H1
               as_aux_lemma =>
                obtain rfl := Option.some.inj H
                go_wp2
                repeat (go_quiet (fail); try go_wp2)
                go_ret
                exact ⟨by first | rfl | (simp [errW_none, errW_some] <;> rfl) | (simp [*, errW_none, errW_some] <;> rfl), by repeat (first | (with_reducible first | exact HB.out | apply below_alloc | apply pw_below_drewN | apply below_drew1 | refine below_set ?_ GE150.out | refine below_set ?_ GE161.out) | exact HB.out)⟩
              ·replace c42 := Bool.eq_false_iff.mpr c42
               subst c42
               have H1 : (waymarklaw07_again.l4 kj37 t144 t155 x16_3 0) = some r := by rw [if_neg (show ¬ (false = true) by decide)] at H; exact H
               clear H
               have H := H1
               clear H1
               have H' := Aside0.mk H
               clear H
               go_wp2
               repeat (go_quiet (fail); try go_wp2)
               go_loopg [17] kj37 (fun kq v17 w' => ∃ (x17_5 : Int), v17 = .int .i64 x17_5 ∧ Aside0 (waymarklaw07_again.l4 kq t144 t155 x16_3 x17_5 = some r) ∧ Aside0 (kq ≤ kj37) ∧ Aside0 (Kd.S k35 35 w' w.heap.size (fun k_ => some k_ ≠ ((.slice Ao36 t155.length co36) : Value).ownBlock) (.slice Ao31 t144.length co31) t144) ∧ Aside0 (Kd.S k35 35 w' w.heap.size (fun k_ => some k_ ≠ ((.slice Ao31 t144.length co31) : Value).ownBlock) (.slice Ao36 t155.length co36) t155) ∧ Aside0 (w'.heap[gb150]? = some (.cells #[.int .i64 t147, .int .i64 t148] 24 (0, 0))) ∧ Aside0 (w'.heap[gb161]? = some (.cells #[.int .i64 t158, .int .i64 t159] 24 (0, 0))) ∧ Aside0 (Below w.heap.size w w'))
               case atStart => exact ⟨(0), (by first | rfl | (simp; done) | (simp [*]; done)), H', ⟨Nat.le_refl _⟩, ⟨by (with_reducible repeat (first | apply Kd.S_alloc | apply Kd.S_drewN | apply Kd.S_drew)); exact HO_7.out⟩, ⟨by (with_reducible repeat (first | apply Kd.S_alloc | apply Kd.S_drewN | apply Kd.S_drew)); exact HO_14.out⟩, ⟨by (with_reducible repeat (first | refine blk_drewN ?_ _ | refine blk_drew ?_ | refine blk_alloc ?_ _)); exact BK150.out⟩, ⟨by (with_reducible repeat (first | refine blk_drewN ?_ _ | refine blk_drew ?_ | refine blk_alloc ?_ _)); exact BK161.out⟩, ⟨by repeat (first | (with_reducible first | exact HB.out | apply below_alloc | apply pw_below_drewN | apply below_drew1 | refine below_set ?_ GE150.out | refine below_set ?_ GE161.out) | exact HB.out)⟩⟩
               case round =>
                clear H'
                try clear c1
                try clear p1
                try clear q1
                try clear hx1
                try clear c2
                try clear p2
                try clear c3
                try clear c4
                try clear p6
                try clear c9
                try clear c9b0
                try clear c9b1
                try clear c10
                try clear c10b0
                try clear c10b1
                try clear c12
                try clear c13
                try clear c13b0
                try clear c15
                try clear c15b0
                try clear p15
                try clear q15
                try clear hx15
                try clear c16
                try clear c16b0
                try clear p16
                try clear q16
                try clear hx16
                try clear c17
                try clear c17b0
                try clear c18
                try clear c18b0
                try clear c18b1
                try clear c18b2
                try clear c19
                try clear c19b0
                try clear c20
                try clear c20b0
                try clear c21
                try clear c21b0
                try clear c22
                try clear c22b0
                try clear c23
                try clear c23b0
                try clear c23b1
                try clear c23b2
                try clear c24
                try clear c24b0
                try clear c24b1
                try clear c24b2
                try clear c25
                try clear c25b0
                try clear c25b1
                try clear c25b2
                try clear c26
                try clear c26b0
                try clear c26b1
                try clear c26b2
                try clear c27
                try clear c27b0
                try clear c27b1
                try clear c27b2
                try clear c29
                try clear c29b0
                try clear c29b1
                try clear c30
                try clear c30b0
                try clear c30b1
                try clear c30b2
                try clear c32
                try clear c34
                try clear c37
                try clear c37b0
                try clear c39
                try clear c39b0
                try clear c40
                try clear c40b0
                try clear c41
                try clear c41b0
                try clear c41b1
                try clear c42
                try clear hcz35_0
                try clear hcz35_1
                try clear hcz8_0
                try clear hcz8_1
                try clear hfz35_0
                try clear hfz35_1
                try clear hfz8_0
                try clear hfz8_1
                try clear hx151_0
                try clear hx151_1
                try clear hx152_0
                try clear hx152_1
                try clear hx153_0
                try clear hx153_1
                try clear hx154_0
                try clear hx154_1
                try clear hx154_2
                try clear hx162_0
                try clear hx162_1
                try clear hx163_0
                try clear hx163_1
                try clear hx164_0
                try clear hx164_1
                try clear hx165_0
                try clear hx165_1
                try clear p1
                try clear p15
                try clear p151
                try clear p152
                try clear p153
                try clear p154
                try clear p16
                try clear p162
                try clear p163
                try clear p164
                try clear p165
                try clear p2
                try clear p6
                try clear q1
                try clear q15
                try clear q151
                try clear q152
                try clear q153
                try clear q154
                try clear q16
                try clear q162
                try clear q163
                try clear q164
                try clear q165
                obtain ⟨x17_5, rfl, HA, HK5, HO_7, HO_14, BK150, BK161, HB⟩ := hrel
                cases gk with
                | zero => exact absurd HA.out (by simp [waymarklaw07_again.l4])
                | succ k5 =>
                 have H := HA.out
                 clear HA
                 simp only [waymarklaw07_again.l4] at H
                 by_cases c43 : 0 ≤ x16_3
                 ·rw [if_pos c43] at H
                  have c43b0 : decide (0 ≤ x16_3) = true := decide_eq_true c43
                  clear c43
                  by_cases c44 : x16_3 < (t144.length : Int)
                  ·rw [if_pos c44] at H
                   have c44b0 : decide (x16_3 < (t144.length : Int)) = true := decide_eq_true c44
                   clear c44
                   by_cases c45 : x17_5 < (((rd_T35 t144 x16_3).f1).length : Int)
                   ·rw [if_pos c45] at H
                    have c45b0 : decide (x17_5 < (((rd_T35 t144 x16_3).f1).length : Int)) = true := decide_eq_true c45
                    clear c45
                    by_cases c46 : 0 ≤ x17_5
                    ·rw [if_pos c46] at H
                     have c46b0 : decide (0 ≤ x17_5) = true := decide_eq_true c46
                     clear c46
                     by_cases c47 : x16_3 < (t155.length : Int)
                     ·rw [if_pos c47] at H
                      have c47b0 : decide (x16_3 < (t155.length : Int)) = true := decide_eq_true c47
                      clear c47
                      by_cases c48 : x17_5 < (((rd_T35 t155 x16_3).f1).length : Int)
                      ·rw [if_pos c48] at H
                       have c48b0 : decide (x17_5 < (((rd_T35 t155 x16_3).f1).length : Int)) = true := decide_eq_true c48
                       clear c48
                       by_cases c49 : ((rd_T37 ((rd_T35 t144 x16_3).f1) x17_5).f0).toList = ((rd_T37 ((rd_T35 t155 x16_3).f1) x17_5).f0).toList
                       ·rw [if_pos c49] at H
                        have c49b0 : (((rd_T37 ((rd_T35 t144 x16_3).f1) x17_5).f0).toList == ((rd_T37 ((rd_T35 t155 x16_3).f1) x17_5).f0).toList) = true := beq_iff_eq.mpr c49
                        have c49b1 : (((rd_T37 ((rd_T35 t144 x16_3).f1) x17_5).f0).toList != ((rd_T37 ((rd_T35 t155 x16_3).f1) x17_5).f0).toList) = false := bne_eq_false_iff_eq.mpr c49
                        clear c49
                        as_aux_lemma =>
                         have H' := Aside0.mk H
                         clear H
                         have p166 : 0 ≤ (x16_3 : Int) := of_decide_eq_true (by first | (with_reducible assumption) | assumption)
                         have q166 : x16_3 < (t144.length : Int) := of_decide_eq_true (by first | (with_reducible assumption) | assumption)
                         obtain ⟨ad166, A166_1, c166_1, e166, hx166_0, hx166_1, hl166_1, hi166_1⟩ := at_T35 (Kd.S_reads' HO_7.out).2.2 x16_3 p166 q166
                         cases e166
                         obtain ⟨ce166, hce166, hMe166, hcc166⟩ := Kd.S_get HO_7.out z35 x16_3 p166 (by first | exact q166 | exact of_decide_eq_true (by first | (with_reducible assumption) | assumption) | (have e_ := (Kd.S_reads' HO_7.out).1; omega))
                         obtain ⟨ve166_1, rfl, ge166_1⟩ := k35_openM hMe166
                         have hv166_1 := hcc166 1 _ rfl
                         rw [add_field _ _ 1 (by omega)] at hv166_1
                         replace hv166_1 := Option.some.inj (hv166_1.symm.trans hx166_1)
                         rw [hv166_1] at ge166_1
                         have HL166_1 := Aside0.mk (show Kd.R k37 37 _ _ _ _ ((rd_T35 t144 x16_3).f1) from ge166_1)
                         clear hv166_1 ge166_1
                         clear hcc166 hce166
                         have HR166_1 := Aside0.mk hi166_1
                         have HC166_1 := Aside0.mk hl166_1
                         clear hi166_1 hl166_1
                         replace p166 := eq_true p166
                         replace q166 := eq_true q166
                         have p167 : 0 ≤ (x16_3 : Int) := of_decide_eq_true (by first | (with_reducible assumption) | assumption)
                         have q167 : x16_3 < (t144.length : Int) := of_decide_eq_true (by first | (with_reducible assumption) | assumption)
                         obtain ⟨ad167, A167_1, c167_1, e167, hx167_0, hx167_1, hl167_1, hi167_1⟩ := at_T35 (Kd.S_reads' HO_7.out).2.2 x16_3 p167 q167
                         obtain rfl : ad166 = ad167 := (by injection e167)
                         obtain ⟨ce167, hce167, hMe167, hcc167⟩ := Kd.S_get HO_7.out z35 x16_3 p167 (by first | exact q167 | exact of_decide_eq_true (by first | (with_reducible assumption) | assumption) | (have e_ := (Kd.S_reads' HO_7.out).1; omega))
                         obtain ⟨ve167_1, rfl, ge167_1⟩ := k35_openM hMe167
                         have hv167_1 := hcc167 1 _ rfl
                         rw [add_field _ _ 1 (by omega)] at hv167_1
                         replace hv167_1 := Option.some.inj (hv167_1.symm.trans hx167_1)
                         rw [hv167_1] at ge167_1
                         have HL167_1 := Aside0.mk (show Kd.R k37 37 _ _ _ _ ((rd_T35 t144 x16_3).f1) from ge167_1)
                         clear hv167_1 ge167_1
                         clear hcc167 hce167
                         have HR167_1 := Aside0.mk hi167_1
                         have HC167_1 := Aside0.mk hl167_1
                         clear hi167_1 hl167_1
                         replace p167 := eq_true p167
                         replace q167 := eq_true q167
                         have ea_ := Option.some.inj (hx166_1.symm.trans hx167_1)
                         injection ea_ with ea_ en_ ec_
                         subst ea_
                         subst ec_
                         clear en_
                         have p168 : 0 ≤ (x17_5 : Int) := of_decide_eq_true (by first | (with_reducible assumption) | assumption)
                         have q168 : x17_5 < (((rd_T35 t144 x16_3).f1).length : Int) := of_decide_eq_true (by first | (with_reducible assumption) | assumption)
                         obtain ⟨ad168, e168, hx168_0, hx168_1, hx168_2⟩ := at_T37 (by repeat (first | (with_reducible exact HR167_1.out) | (with_reducible refine Kd.C_alloc ?_ _) | (with_reducible refine Kd.C_drewN ?_ _) | (with_reducible refine Kd.C_drew ?_) | exact HR167_1.out)) x17_5 p168 q168
                         cases e168
                         replace p168 := eq_true p168
                         replace q168 := eq_true q168
                         have p169 : 0 ≤ (x16_3 : Int) := of_decide_eq_true (by first | (with_reducible assumption) | assumption)
                         have q169 : x16_3 < (t155.length : Int) := of_decide_eq_true (by first | (with_reducible assumption) | assumption)
                         obtain ⟨ad169, A169_1, c169_1, e169, hx169_0, hx169_1, hl169_1, hi169_1⟩ := at_T35 (Kd.S_reads' HO_14.out).2.2 x16_3 p169 q169
                         cases e169
                         obtain ⟨ce169, hce169, hMe169, hcc169⟩ := Kd.S_get HO_14.out z35 x16_3 p169 (by first | exact q169 | exact of_decide_eq_true (by first | (with_reducible assumption) | assumption) | (have e_ := (Kd.S_reads' HO_14.out).1; omega))
                         obtain ⟨ve169_1, rfl, ge169_1⟩ := k35_openM hMe169
                         have hv169_1 := hcc169 1 _ rfl
                         rw [add_field _ _ 1 (by omega)] at hv169_1
                         replace hv169_1 := Option.some.inj (hv169_1.symm.trans hx169_1)
                         rw [hv169_1] at ge169_1
                         have HL169_1 := Aside0.mk (show Kd.R k37 37 _ _ _ _ ((rd_T35 t155 x16_3).f1) from ge169_1)
                         clear hv169_1 ge169_1
                         clear hcc169 hce169
                         have HR169_1 := Aside0.mk hi169_1
                         have HC169_1 := Aside0.mk hl169_1
                         clear hi169_1 hl169_1
                         replace p169 := eq_true p169
                         replace q169 := eq_true q169
                         have p170 : 0 ≤ (x17_5 : Int) := of_decide_eq_true (by first | (with_reducible assumption) | assumption)
                         have q170 : x17_5 < (((rd_T35 t155 x16_3).f1).length : Int) := of_decide_eq_true (by first | (with_reducible assumption) | assumption)
                         obtain ⟨ad170, e170, hx170_0, hx170_1, hx170_2⟩ := at_T37 (by repeat (first | (with_reducible exact HR169_1.out) | (with_reducible refine Kd.C_alloc ?_ _) | (with_reducible refine Kd.C_drewN ?_ _) | (with_reducible refine Kd.C_drew ?_) | exact HR169_1.out)) x17_5 p170 q170
                         cases e170
                         replace p170 := eq_true p170
                         replace q170 := eq_true q170
                         go_wp2
                         repeat (go_quiet (fail); try go_wp2)
                         go_roundg k5
                         case measure => have := HJ4.out; have := HK2.out; have := HK3.out; have := HJ37.out; have := HK5.out; omega
                         case rel => exact ⟨(wrap64 (x17_5 + 1)), (by first | rfl | (simp; done) | (simp [*]; done)), H', ⟨by have := HJ4.out; have := HK2.out; have := HK3.out; have := HJ37.out; have := HK5.out; omega⟩, ⟨by (with_reducible repeat (first | apply Kd.S_alloc | apply Kd.S_drewN | apply Kd.S_drew)); exact HO_7.out⟩, ⟨by (with_reducible repeat (first | apply Kd.S_alloc | apply Kd.S_drewN | apply Kd.S_drew)); exact HO_14.out⟩, ⟨by (with_reducible repeat (first | refine blk_drewN ?_ _ | refine blk_drew ?_ | refine blk_alloc ?_ _)); exact BK150.out⟩, ⟨by (with_reducible repeat (first | refine blk_drewN ?_ _ | refine blk_drew ?_ | refine blk_alloc ?_ _)); exact BK161.out⟩, ⟨by repeat (first | (with_reducible first | exact HB.out | apply below_alloc | apply pw_below_drewN | apply below_drew1 | refine below_set ?_ GE150.out | refine below_set ?_ GE161.out) | exact HB.out)⟩⟩
                       ·rw [if_neg c49] at H
                        have c49b0 : (((rd_T37 ((rd_T35 t144 x16_3).f1) x17_5).f0).toList == ((rd_T37 ((rd_T35 t155 x16_3).f1) x17_5).f0).toList) = false := beq_eq_false_iff_ne.mpr c49
                        have c49b1 : (((rd_T37 ((rd_T35 t144 x16_3).f1) x17_5).f0).toList != ((rd_T37 ((rd_T35 t155 x16_3).f1) x17_5).f0).toList) = true := bne_iff_ne.mpr c49
                        as_aux_lemma =>
                         obtain rfl := Option.some.inj H
                         have p166 : 0 ≤ (x16_3 : Int) := of_decide_eq_true (by first | (with_reducible assumption) | assumption)
                         have q166 : x16_3 < (t144.length : Int) := of_decide_eq_true (by first | (with_reducible assumption) | assumption)
                         obtain ⟨ad166, A166_1, c166_1, e166, hx166_0, hx166_1, hl166_1, hi166_1⟩ := at_T35 (Kd.S_reads' HO_7.out).2.2 x16_3 p166 q166
                         cases e166
                         obtain ⟨ce166, hce166, hMe166, hcc166⟩ := Kd.S_get HO_7.out z35 x16_3 p166 (by first | exact q166 | exact of_decide_eq_true (by first | (with_reducible assumption) | assumption) | (have e_ := (Kd.S_reads' HO_7.out).1; omega))
                         obtain ⟨ve166_1, rfl, ge166_1⟩ := k35_openM hMe166
                         have hv166_1 := hcc166 1 _ rfl
                         rw [add_field _ _ 1 (by omega)] at hv166_1
                         replace hv166_1 := Option.some.inj (hv166_1.symm.trans hx166_1)
                         rw [hv166_1] at ge166_1
                         have HL166_1 := Aside0.mk (show Kd.R k37 37 _ _ _ _ ((rd_T35 t144 x16_3).f1) from ge166_1)
                         clear hv166_1 ge166_1
                         clear hcc166 hce166
                         have HR166_1 := Aside0.mk hi166_1
                         have HC166_1 := Aside0.mk hl166_1
                         clear hi166_1 hl166_1
                         replace p166 := eq_true p166
                         replace q166 := eq_true q166
                         have p167 : 0 ≤ (x16_3 : Int) := of_decide_eq_true (by first | (with_reducible assumption) | assumption)
                         have q167 : x16_3 < (t144.length : Int) := of_decide_eq_true (by first | (with_reducible assumption) | assumption)
                         obtain ⟨ad167, A167_1, c167_1, e167, hx167_0, hx167_1, hl167_1, hi167_1⟩ := at_T35 (Kd.S_reads' HO_7.out).2.2 x16_3 p167 q167
                         obtain rfl : ad166 = ad167 := (by injection e167)
                         obtain ⟨ce167, hce167, hMe167, hcc167⟩ := Kd.S_get HO_7.out z35 x16_3 p167 (by first | exact q167 | exact of_decide_eq_true (by first | (with_reducible assumption) | assumption) | (have e_ := (Kd.S_reads' HO_7.out).1; omega))
                         obtain ⟨ve167_1, rfl, ge167_1⟩ := k35_openM hMe167
                         have hv167_1 := hcc167 1 _ rfl
                         rw [add_field _ _ 1 (by omega)] at hv167_1
                         replace hv167_1 := Option.some.inj (hv167_1.symm.trans hx167_1)
                         rw [hv167_1] at ge167_1
                         have HL167_1 := Aside0.mk (show Kd.R k37 37 _ _ _ _ ((rd_T35 t144 x16_3).f1) from ge167_1)
                         clear hv167_1 ge167_1
                         clear hcc167 hce167
                         have HR167_1 := Aside0.mk hi167_1
                         have HC167_1 := Aside0.mk hl167_1
                         clear hi167_1 hl167_1
                         replace p167 := eq_true p167
                         replace q167 := eq_true q167
                         have ea_ := Option.some.inj (hx166_1.symm.trans hx167_1)
                         injection ea_ with ea_ en_ ec_
                         subst ea_
                         subst ec_
                         clear en_
                         have p168 : 0 ≤ (x17_5 : Int) := of_decide_eq_true (by first | (with_reducible assumption) | assumption)
                         have q168 : x17_5 < (((rd_T35 t144 x16_3).f1).length : Int) := of_decide_eq_true (by first | (with_reducible assumption) | assumption)
                         obtain ⟨ad168, e168, hx168_0, hx168_1, hx168_2⟩ := at_T37 (by repeat (first | (with_reducible exact HR167_1.out) | (with_reducible refine Kd.C_alloc ?_ _) | (with_reducible refine Kd.C_drewN ?_ _) | (with_reducible refine Kd.C_drew ?_) | exact HR167_1.out)) x17_5 p168 q168
                         cases e168
                         replace p168 := eq_true p168
                         replace q168 := eq_true q168
                         have p169 : 0 ≤ (x16_3 : Int) := of_decide_eq_true (by first | (with_reducible assumption) | assumption)
                         have q169 : x16_3 < (t155.length : Int) := of_decide_eq_true (by first | (with_reducible assumption) | assumption)
                         obtain ⟨ad169, A169_1, c169_1, e169, hx169_0, hx169_1, hl169_1, hi169_1⟩ := at_T35 (Kd.S_reads' HO_14.out).2.2 x16_3 p169 q169
                         cases e169
                         obtain ⟨ce169, hce169, hMe169, hcc169⟩ := Kd.S_get HO_14.out z35 x16_3 p169 (by first | exact q169 | exact of_decide_eq_true (by first | (with_reducible assumption) | assumption) | (have e_ := (Kd.S_reads' HO_14.out).1; omega))
                         obtain ⟨ve169_1, rfl, ge169_1⟩ := k35_openM hMe169
                         have hv169_1 := hcc169 1 _ rfl
                         rw [add_field _ _ 1 (by omega)] at hv169_1
                         replace hv169_1 := Option.some.inj (hv169_1.symm.trans hx169_1)
                         rw [hv169_1] at ge169_1
                         have HL169_1 := Aside0.mk (show Kd.R k37 37 _ _ _ _ ((rd_T35 t155 x16_3).f1) from ge169_1)
                         clear hv169_1 ge169_1
                         clear hcc169 hce169
                         have HR169_1 := Aside0.mk hi169_1
                         have HC169_1 := Aside0.mk hl169_1
                         clear hi169_1 hl169_1
                         replace p169 := eq_true p169
                         replace q169 := eq_true q169
                         have p170 : 0 ≤ (x17_5 : Int) := of_decide_eq_true (by first | (with_reducible assumption) | assumption)
                         have q170 : x17_5 < (((rd_T35 t155 x16_3).f1).length : Int) := of_decide_eq_true (by first | (with_reducible assumption) | assumption)
                         obtain ⟨ad170, e170, hx170_0, hx170_1, hx170_2⟩ := at_T37 (by repeat (first | (with_reducible exact HR169_1.out) | (with_reducible refine Kd.C_alloc ?_ _) | (with_reducible refine Kd.C_drewN ?_ _) | (with_reducible refine Kd.C_drew ?_) | exact HR169_1.out)) x17_5 p170 q170
                         cases e170
                         replace p170 := eq_true p170
                         replace q170 := eq_true q170
                         go_wp2
                         repeat (go_quiet (fail); try go_wp2)
                         go_ret
                         exact ⟨by first | rfl | (simp [errW_none, errW_some] <;> rfl) | (simp [*, errW_none, errW_some] <;> rfl), by repeat (first | (with_reducible first | exact HB.out | apply below_alloc | apply pw_below_drewN | apply below_drew1 | refine below_set ?_ GE150.out | refine below_set ?_ GE161.out) | exact HB.out)⟩
                      ·rw [if_neg c48] at H
                       exact absurd H (by simp)
                     ·rw [if_neg c47] at H
                      exact absurd H (by simp)
                    ·rw [if_neg c46] at H
                     exact absurd H (by simp)
                   ·rw [if_neg c45] at H
                    have c45b0 : decide (x17_5 < (((rd_T35 t144 x16_3).f1).length : Int)) = false := decide_eq_false c45
                    clear c45
                    as_aux_lemma =>
                     have H' := Aside0.mk H
                     clear H
                     have p166 : 0 ≤ (x16_3 : Int) := of_decide_eq_true (by first | (with_reducible assumption) | assumption)
                     have q166 : x16_3 < (t144.length : Int) := of_decide_eq_true (by first | (with_reducible assumption) | assumption)
                     obtain ⟨ad166, A166_1, c166_1, e166, hx166_0, hx166_1, hl166_1, hi166_1⟩ := at_T35 (Kd.S_reads' HO_7.out).2.2 x16_3 p166 q166
                     cases e166
                     obtain ⟨ce166, hce166, hMe166, hcc166⟩ := Kd.S_get HO_7.out z35 x16_3 p166 (by first | exact q166 | exact of_decide_eq_true (by first | (with_reducible assumption) | assumption) | (have e_ := (Kd.S_reads' HO_7.out).1; omega))
                     obtain ⟨ve166_1, rfl, ge166_1⟩ := k35_openM hMe166
                     have hv166_1 := hcc166 1 _ rfl
                     rw [add_field _ _ 1 (by omega)] at hv166_1
                     replace hv166_1 := Option.some.inj (hv166_1.symm.trans hx166_1)
                     rw [hv166_1] at ge166_1
                     have HL166_1 := Aside0.mk (show Kd.R k37 37 _ _ _ _ ((rd_T35 t144 x16_3).f1) from ge166_1)
                     clear hv166_1 ge166_1
                     clear hcc166 hce166
                     have HR166_1 := Aside0.mk hi166_1
                     have HC166_1 := Aside0.mk hl166_1
                     clear hi166_1 hl166_1
                     replace p166 := eq_true p166
                     replace q166 := eq_true q166
                     go_wp2
                     repeat (go_quiet (fail); try go_wp2)
                     go_roundg k5
                     case measure => have := HJ4.out; have := HK2.out; have := HK3.out; have := HJ37.out; have := HK5.out; omega
                     case rel => exact ⟨(wrap64 (x16_3 + 1)), (by first | rfl | (simp; done) | (simp [*]; done)), H', ⟨by have := HJ4.out; have := HK2.out; have := HK3.out; have := HJ37.out; have := HK5.out; omega⟩, ⟨by (with_reducible repeat (first | apply Kd.S_alloc | apply Kd.S_drewN | apply Kd.S_drew)); exact HO_7.out⟩, ⟨by (with_reducible repeat (first | apply Kd.S_alloc | apply Kd.S_drewN | apply Kd.S_drew)); exact HO_14.out⟩, ⟨by (with_reducible repeat (first | refine blk_drewN ?_ _ | refine blk_drew ?_ | refine blk_alloc ?_ _)); exact BK150.out⟩, ⟨by (with_reducible repeat (first | refine blk_drewN ?_ _ | refine blk_drew ?_ | refine blk_alloc ?_ _)); exact BK161.out⟩, ⟨by repeat (first | (with_reducible first | exact HB.out | apply below_alloc | apply pw_below_drewN | apply below_drew1 | refine below_set ?_ GE150.out | refine below_set ?_ GE161.out) | exact HB.out)⟩⟩
                  ·rw [if_neg c44] at H
                   exact absurd H (by simp)
                 ·rw [if_neg c43] at H
                  exact absurd H (by simp)
           ·rw [if_neg c37] at H
            have c37b0 : decide (x16_3 < (t144.length : Int)) = false := decide_eq_false c37
            clear c37
            as_aux_lemma =>
             obtain rfl := Option.some.inj H
             go_wp2
             repeat (go_quiet (fail); try go_wp2)
             go_ret
             exact ⟨by first | rfl | (simp [errW_none, errW_some] <;> rfl) | (simp [*, errW_none, errW_some] <;> rfl), by repeat (first | (with_reducible first | exact HB.out | apply below_alloc | apply pw_below_drewN | apply below_drew1 | refine below_set ?_ GE150.out | refine below_set ?_ GE161.out) | exact HB.out)⟩
        ·rw [if_neg c30] at H
         have c30b0 : ((t144.length : Int) == (t155.length : Int)) = false := beq_eq_false_iff_ne.mpr c30
         have c30b1 : ((t144.length : Int) != (t155.length : Int)) = true := bne_iff_ne.mpr c30
         have c30b2 : (t144.length == t155.length) = false := by first | simpa using c30 | (simp at c30 ⊢; omega)
         as_aux_lemma =>
          obtain rfl := Option.some.inj H
          obtain ⟨Ao50, co50, eo50⟩ := Kd.S_slice HO_7.out
          subst eo50
          go_wp2_with (first | (go_at_call 19; (with_reducible refine (lex_Lines.calls k2 x10_2 t155 t158 t159 t160 _ ?side1 A28.out).mono ?_); (case side1 => exact Go.Proofs.YtbnihnggljagnaaDoor.World.GW.below HGW_.out (by repeat (first | (with_reducible first | exact HB.out | apply below_alloc | apply pw_below_drewN | apply below_drew1 | refine below_set ?_ GE150.out) | exact HB.out))); rintro e w51 ⟨v156, rfl, ho0, hb⟩; have n0_ := Aside0.mk (Kd.S_elder' (by (with_reducible repeat (first | apply Kd.S_alloc | apply Kd.S_drewN | apply Kd.S_drew)); exact HO_7.out) (Kd.S_base ho0) hb); have n1_ := Aside0.mk (Kd.S_lower (Kd.S_new' ho0 (Kd.S_lt (by (with_reducible repeat (first | apply Kd.S_alloc | apply Kd.S_drewN | apply Kd.S_drew)); exact HO_7.out))) (below_size (by repeat (first | (with_reducible first | exact HB.out | apply below_alloc | apply pw_below_drewN | apply below_drew1 | refine below_set ?_ GE150.out) | exact HB.out)))); have n2_ := Aside0.mk (blk_below (g := gb150) (o := .cells #[.int .i64 t147, .int .i64 t148] 24 (0, 0)) (by (with_reducible repeat (first | refine blk_drewN ?_ _ | refine blk_drew ?_ | refine blk_alloc ?_ _)); exact BK150.out) hb); have n3_ := Aside0.mk (below_step (by repeat (first | (with_reducible first | exact HB.out | apply below_alloc | apply pw_below_drewN | apply below_drew1 | refine below_set ?_ GE150.out) | exact HB.out)) hb); clear HO_7; clear BK150; clear HB; have HO_7 := n0_; have HO157 := n1_; have BK150 := n2_; have HB := n3_; clear n0_ n1_ n2_ n3_; (try clear hb); (try clear hb2); (try clear hk); (try clear hi); (try clear ho0)) | ((with_reducible refine gate_dst (N := 15) rfl ?_); (try (refine gate_guard (by rfl) ?_; dsimp only)); refine box_event ?hg (N := 15) ?hd (cs := #[.int .i64 0, .int .i64 0]) (t := 24) ?hr ?_; (case hd => rfl); (case hg => rfl); (case hr => first | (go_simp; done) | (go_simp; rfl)); intro gb161 hg w52 hbox hb; have n0_ := Aside0.mk (Kd.S_below (by (with_reducible repeat (first | apply Kd.S_alloc | apply Kd.S_drewN | apply Kd.S_drew)); exact HO_7.out) hb); have n1_ := Aside0.mk (Kd.S_below (by (with_reducible repeat (first | apply Kd.S_alloc | apply Kd.S_drewN | apply Kd.S_drew)); exact HO157.out) hb); have n2_ := Aside0.mk (blk_below (g := gb150) (o := .cells #[.int .i64 t147, .int .i64 t148] 24 (0, 0)) (by (with_reducible repeat (first | refine blk_drewN ?_ _ | refine blk_drew ?_ | refine blk_alloc ?_ _)); exact BK150.out) hb); have n3_ := Aside0.mk (below_step (by repeat (first | (with_reducible first | exact HB.out | apply below_alloc | apply pw_below_drewN | apply below_drew1 | refine below_set ?_ GE150.out) | exact HB.out)) hb); have n4_ := Aside0.mk (hbox); have n5_ := Aside0.mk ((by rw [hg]; exact (below_size (by repeat (first | (with_reducible first | exact HB.out | apply below_alloc | apply pw_below_drewN | apply below_drew1 | refine below_set ?_ GE150.out) | exact HB.out))) : w.heap.size ≤ gb161)); have n6_ := Aside0.mk ((by rw [hg]; exact (below_size (by repeat (first | (with_reducible first | exact HB.out | apply below_alloc | apply pw_below_drewN | apply below_drew1 | refine below_set ?_ GE150.out) | exact HB.out))) : w.heap.size ≤ gb161)); have n7_ := Aside0.mk ((by rw [hg]; exact Nat.ne_of_lt (blk_lt (g := gb150) (o := .cells #[.int .i64 t147, .int .i64 t148] 24 (0, 0)) (by (with_reducible repeat (first | refine blk_drewN ?_ _ | refine blk_drew ?_ | refine blk_alloc ?_ _)); exact BK150.out)) : gb150 ≠ gb161)); have n8_ := Aside0.mk ((by rw [hg]; exact Nat.ne_of_gt (blk_lt (g := gb150) (o := .cells #[.int .i64 t147, .int .i64 t148] 24 (0, 0)) (by (with_reducible repeat (first | refine blk_drewN ?_ _ | refine blk_drew ?_ | refine blk_alloc ?_ _)); exact BK150.out)) : gb161 ≠ gb150)); clear HO_7; clear HO157; clear BK150; clear HB; have HO_7 := n0_; have HO157 := n1_; have BK150 := n2_; have HB := n3_; have BK161 := n4_; have GW161 := n5_; have GE161 := n6_; have NB150_161 := n7_; have NB161_150 := n8_; clear n0_ n1_ n2_ n3_ n4_ n5_ n6_ n7_ n8_; clear hb hbox hg; have hnb53 := NB161_150.out; have hnc53 := NB150_161.out; have hcz54_0 : w52.cell? ⟨gb161, 0, none⟩ = some (.int .i64 0) := (blk_cell BK161.out 0).trans rfl; have hcz54_1 : w52.cell? ⟨gb161, 1, none⟩ = some (.int .i64 0) := (blk_cell BK161.out 1).trans rfl; have hfz54_0 := blk_frozen BK161.out 0; have hfz54_1 := blk_frozen BK161.out 1; obtain ⟨Ao55, co55, eo55⟩ := Kd.S_slice HO157.out; subst eo55))
          repeat (go_quiet (first | (go_at_call 19; (with_reducible refine (lex_Lines.calls k2 x10_2 t155 t158 t159 t160 _ ?side1 A28.out).mono ?_); (case side1 => exact Go.Proofs.YtbnihnggljagnaaDoor.World.GW.below HGW_.out (by repeat (first | (with_reducible first | exact HB.out | apply below_alloc | apply pw_below_drewN | apply below_drew1 | refine below_set ?_ GE150.out) | exact HB.out))); rintro e w51 ⟨v156, rfl, ho0, hb⟩; have n0_ := Aside0.mk (Kd.S_elder' (by (with_reducible repeat (first | apply Kd.S_alloc | apply Kd.S_drewN | apply Kd.S_drew)); exact HO_7.out) (Kd.S_base ho0) hb); have n1_ := Aside0.mk (Kd.S_lower (Kd.S_new' ho0 (Kd.S_lt (by (with_reducible repeat (first | apply Kd.S_alloc | apply Kd.S_drewN | apply Kd.S_drew)); exact HO_7.out))) (below_size (by repeat (first | (with_reducible first | exact HB.out | apply below_alloc | apply pw_below_drewN | apply below_drew1 | refine below_set ?_ GE150.out) | exact HB.out)))); have n2_ := Aside0.mk (blk_below (g := gb150) (o := .cells #[.int .i64 t147, .int .i64 t148] 24 (0, 0)) (by (with_reducible repeat (first | refine blk_drewN ?_ _ | refine blk_drew ?_ | refine blk_alloc ?_ _)); exact BK150.out) hb); have n3_ := Aside0.mk (below_step (by repeat (first | (with_reducible first | exact HB.out | apply below_alloc | apply pw_below_drewN | apply below_drew1 | refine below_set ?_ GE150.out) | exact HB.out)) hb); clear HO_7; clear BK150; clear HB; have HO_7 := n0_; have HO157 := n1_; have BK150 := n2_; have HB := n3_; clear n0_ n1_ n2_ n3_; (try clear hb); (try clear hb2); (try clear hk); (try clear hi); (try clear ho0)) | ((with_reducible refine gate_dst (N := 15) rfl ?_); (try (refine gate_guard (by rfl) ?_; dsimp only)); refine box_event ?hg (N := 15) ?hd (cs := #[.int .i64 0, .int .i64 0]) (t := 24) ?hr ?_; (case hd => rfl); (case hg => rfl); (case hr => first | (go_simp; done) | (go_simp; rfl)); intro gb161 hg w52 hbox hb; have n0_ := Aside0.mk (Kd.S_below (by (with_reducible repeat (first | apply Kd.S_alloc | apply Kd.S_drewN | apply Kd.S_drew)); exact HO_7.out) hb); have n1_ := Aside0.mk (Kd.S_below (by (with_reducible repeat (first | apply Kd.S_alloc | apply Kd.S_drewN | apply Kd.S_drew)); exact HO157.out) hb); have n2_ := Aside0.mk (blk_below (g := gb150) (o := .cells #[.int .i64 t147, .int .i64 t148] 24 (0, 0)) (by (with_reducible repeat (first | refine blk_drewN ?_ _ | refine blk_drew ?_ | refine blk_alloc ?_ _)); exact BK150.out) hb); have n3_ := Aside0.mk (below_step (by repeat (first | (with_reducible first | exact HB.out | apply below_alloc | apply pw_below_drewN | apply below_drew1 | refine below_set ?_ GE150.out) | exact HB.out)) hb); have n4_ := Aside0.mk (hbox); have n5_ := Aside0.mk ((by rw [hg]; exact (below_size (by repeat (first | (with_reducible first | exact HB.out | apply below_alloc | apply pw_below_drewN | apply below_drew1 | refine below_set ?_ GE150.out) | exact HB.out))) : w.heap.size ≤ gb161)); have n6_ := Aside0.mk ((by rw [hg]; exact (below_size (by repeat (first | (with_reducible first | exact HB.out | apply below_alloc | apply pw_below_drewN | apply below_drew1 | refine below_set ?_ GE150.out) | exact HB.out))) : w.heap.size ≤ gb161)); have n7_ := Aside0.mk ((by rw [hg]; exact Nat.ne_of_lt (blk_lt (g := gb150) (o := .cells #[.int .i64 t147, .int .i64 t148] 24 (0, 0)) (by (with_reducible repeat (first | refine blk_drewN ?_ _ | refine blk_drew ?_ | refine blk_alloc ?_ _)); exact BK150.out)) : gb150 ≠ gb161)); have n8_ := Aside0.mk ((by rw [hg]; exact Nat.ne_of_gt (blk_lt (g := gb150) (o := .cells #[.int .i64 t147, .int .i64 t148] 24 (0, 0)) (by (with_reducible repeat (first | refine blk_drewN ?_ _ | refine blk_drew ?_ | refine blk_alloc ?_ _)); exact BK150.out)) : gb161 ≠ gb150)); clear HO_7; clear HO157; clear BK150; clear HB; have HO_7 := n0_; have HO157 := n1_; have BK150 := n2_; have HB := n3_; have BK161 := n4_; have GW161 := n5_; have GE161 := n6_; have NB150_161 := n7_; have NB161_150 := n8_; clear n0_ n1_ n2_ n3_ n4_ n5_ n6_ n7_ n8_; clear hb hbox hg; have hnb53 := NB161_150.out; have hnc53 := NB150_161.out; have hcz54_0 : w52.cell? ⟨gb161, 0, none⟩ = some (.int .i64 0) := (blk_cell BK161.out 0).trans rfl; have hcz54_1 : w52.cell? ⟨gb161, 1, none⟩ = some (.int .i64 0) := (blk_cell BK161.out 1).trans rfl; have hfz54_0 := blk_frozen BK161.out 0; have hfz54_1 := blk_frozen BK161.out 1; obtain ⟨Ao55, co55, eo55⟩ := Kd.S_slice HO157.out; subst eo55)); try go_wp2_with (first | (go_at_call 19; (with_reducible refine (lex_Lines.calls k2 x10_2 t155 t158 t159 t160 _ ?side1 A28.out).mono ?_); (case side1 => exact Go.Proofs.YtbnihnggljagnaaDoor.World.GW.below HGW_.out (by repeat (first | (with_reducible first | exact HB.out | apply below_alloc | apply pw_below_drewN | apply below_drew1 | refine below_set ?_ GE150.out) | exact HB.out))); rintro e w51 ⟨v156, rfl, ho0, hb⟩; have n0_ := Aside0.mk (Kd.S_elder' (by (with_reducible repeat (first | apply Kd.S_alloc | apply Kd.S_drewN | apply Kd.S_drew)); exact HO_7.out) (Kd.S_base ho0) hb); have n1_ := Aside0.mk (Kd.S_lower (Kd.S_new' ho0 (Kd.S_lt (by (with_reducible repeat (first | apply Kd.S_alloc | apply Kd.S_drewN | apply Kd.S_drew)); exact HO_7.out))) (below_size (by repeat (first | (with_reducible first | exact HB.out | apply below_alloc | apply pw_below_drewN | apply below_drew1 | refine below_set ?_ GE150.out) | exact HB.out)))); have n2_ := Aside0.mk (blk_below (g := gb150) (o := .cells #[.int .i64 t147, .int .i64 t148] 24 (0, 0)) (by (with_reducible repeat (first | refine blk_drewN ?_ _ | refine blk_drew ?_ | refine blk_alloc ?_ _)); exact BK150.out) hb); have n3_ := Aside0.mk (below_step (by repeat (first | (with_reducible first | exact HB.out | apply below_alloc | apply pw_below_drewN | apply below_drew1 | refine below_set ?_ GE150.out) | exact HB.out)) hb); clear HO_7; clear BK150; clear HB; have HO_7 := n0_; have HO157 := n1_; have BK150 := n2_; have HB := n3_; clear n0_ n1_ n2_ n3_; (try clear hb); (try clear hb2); (try clear hk); (try clear hi); (try clear ho0)) | ((with_reducible refine gate_dst (N := 15) rfl ?_); (try (refine gate_guard (by rfl) ?_; dsimp only)); refine box_event ?hg (N := 15) ?hd (cs := #[.int .i64 0, .int .i64 0]) (t := 24) ?hr ?_; (case hd => rfl); (case hg => rfl); (case hr => first | (go_simp; done) | (go_simp; rfl)); intro gb161 hg w52 hbox hb; have n0_ := Aside0.mk (Kd.S_below (by (with_reducible repeat (first | apply Kd.S_alloc | apply Kd.S_drewN | apply Kd.S_drew)); exact HO_7.out) hb); have n1_ := Aside0.mk (Kd.S_below (by (with_reducible repeat (first | apply Kd.S_alloc | apply Kd.S_drewN | apply Kd.S_drew)); exact HO157.out) hb); have n2_ := Aside0.mk (blk_below (g := gb150) (o := .cells #[.int .i64 t147, .int .i64 t148] 24 (0, 0)) (by (with_reducible repeat (first | refine blk_drewN ?_ _ | refine blk_drew ?_ | refine blk_alloc ?_ _)); exact BK150.out) hb); have n3_ := Aside0.mk (below_step (by repeat (first | (with_reducible first | exact HB.out | apply below_alloc | apply pw_below_drewN | apply below_drew1 | refine below_set ?_ GE150.out) | exact HB.out)) hb); have n4_ := Aside0.mk (hbox); have n5_ := Aside0.mk ((by rw [hg]; exact (below_size (by repeat (first | (with_reducible first | exact HB.out | apply below_alloc | apply pw_below_drewN | apply below_drew1 | refine below_set ?_ GE150.out) | exact HB.out))) : w.heap.size ≤ gb161)); have n6_ := Aside0.mk ((by rw [hg]; exact (below_size (by repeat (first | (with_reducible first | exact HB.out | apply below_alloc | apply pw_below_drewN | apply below_drew1 | refine below_set ?_ GE150.out) | exact HB.out))) : w.heap.size ≤ gb161)); have n7_ := Aside0.mk ((by rw [hg]; exact Nat.ne_of_lt (blk_lt (g := gb150) (o := .cells #[.int .i64 t147, .int .i64 t148] 24 (0, 0)) (by (with_reducible repeat (first | refine blk_drewN ?_ _ | refine blk_drew ?_ | refine blk_alloc ?_ _)); exact BK150.out)) : gb150 ≠ gb161)); have n8_ := Aside0.mk ((by rw [hg]; exact Nat.ne_of_gt (blk_lt (g := gb150) (o := .cells #[.int .i64 t147, .int .i64 t148] 24 (0, 0)) (by (with_reducible repeat (first | refine blk_drewN ?_ _ | refine blk_drew ?_ | refine blk_alloc ?_ _)); exact BK150.out)) : gb161 ≠ gb150)); clear HO_7; clear HO157; clear BK150; clear HB; have HO_7 := n0_; have HO157 := n1_; have BK150 := n2_; have HB := n3_; have BK161 := n4_; have GW161 := n5_; have GE161 := n6_; have NB150_161 := n7_; have NB161_150 := n8_; clear n0_ n1_ n2_ n3_ n4_ n5_ n6_ n7_ n8_; clear hb hbox hg; have hnb53 := NB161_150.out; have hnc53 := NB150_161.out; have hcz54_0 : w52.cell? ⟨gb161, 0, none⟩ = some (.int .i64 0) := (blk_cell BK161.out 0).trans rfl; have hcz54_1 : w52.cell? ⟨gb161, 1, none⟩ = some (.int .i64 0) := (blk_cell BK161.out 1).trans rfl; have hfz54_0 := blk_frozen BK161.out 0; have hfz54_1 := blk_frozen BK161.out 1; obtain ⟨Ao55, co55, eo55⟩ := Kd.S_slice HO157.out; subst eo55)))
          go_ret
          exact ⟨by first | rfl | (simp [errW_none, errW_some] <;> rfl) | (simp [*, errW_none, errW_some] <;> rfl), by repeat (first | (with_reducible first | exact HB.out | apply below_alloc | apply pw_below_drewN | apply below_drew1 | refine below_set ?_ GE150.out | refine below_set ?_ GE161.out) | exact HB.out)⟩
       ·rw [if_neg c29] at H
        have c29b0 : (t160 == 0) = false := beq_eq_false_iff_ne.mpr c29
        have c29b1 : (t160 != 0) = true := bne_iff_ne.mpr c29
        as_aux_lemma =>
         obtain rfl := Option.some.inj H
         obtain ⟨Ao56, co56, eo56⟩ := Kd.S_slice HO_7.out
         subst eo56
         go_wp2_with (first | (go_at_call 19; (with_reducible refine (lex_Lines.calls k2 x10_2 t155 t158 t159 t160 _ ?side1 A28.out).mono ?_); (case side1 => exact Go.Proofs.YtbnihnggljagnaaDoor.World.GW.below HGW_.out (by repeat (first | (with_reducible first | exact HB.out | apply below_alloc | apply pw_below_drewN | apply below_drew1 | refine below_set ?_ GE150.out) | exact HB.out))); rintro e w57 ⟨v156, rfl, ho0, hb⟩; have n0_ := Aside0.mk (Kd.S_elder' (by (with_reducible repeat (first | apply Kd.S_alloc | apply Kd.S_drewN | apply Kd.S_drew)); exact HO_7.out) (Kd.S_base ho0) hb); have n1_ := Aside0.mk (Kd.S_lower (Kd.S_new' ho0 (Kd.S_lt (by (with_reducible repeat (first | apply Kd.S_alloc | apply Kd.S_drewN | apply Kd.S_drew)); exact HO_7.out))) (below_size (by repeat (first | (with_reducible first | exact HB.out | apply below_alloc | apply pw_below_drewN | apply below_drew1 | refine below_set ?_ GE150.out) | exact HB.out)))); have n2_ := Aside0.mk (blk_below (g := gb150) (o := .cells #[.int .i64 t147, .int .i64 t148] 24 (0, 0)) (by (with_reducible repeat (first | refine blk_drewN ?_ _ | refine blk_drew ?_ | refine blk_alloc ?_ _)); exact BK150.out) hb); have n3_ := Aside0.mk (below_step (by repeat (first | (with_reducible first | exact HB.out | apply below_alloc | apply pw_below_drewN | apply below_drew1 | refine below_set ?_ GE150.out) | exact HB.out)) hb); clear HO_7; clear BK150; clear HB; have HO_7 := n0_; have HO157 := n1_; have BK150 := n2_; have HB := n3_; clear n0_ n1_ n2_ n3_; (try clear hb); (try clear hb2); (try clear hk); (try clear hi); (try clear ho0)) | ((with_reducible refine gate_dst (N := 15) rfl ?_); (try (refine gate_guard (by rfl) ?_; dsimp only)); refine box_event ?hg (N := 15) ?hd (cs := #[.int .i64 0, .int .i64 0]) (t := 24) ?hr ?_; (case hd => rfl); (case hg => rfl); (case hr => first | (go_simp; done) | (go_simp; rfl)); intro gb161 hg w58 hbox hb; have n0_ := Aside0.mk (Kd.S_below (by (with_reducible repeat (first | apply Kd.S_alloc | apply Kd.S_drewN | apply Kd.S_drew)); exact HO_7.out) hb); have n1_ := Aside0.mk (Kd.S_below (by (with_reducible repeat (first | apply Kd.S_alloc | apply Kd.S_drewN | apply Kd.S_drew)); exact HO157.out) hb); have n2_ := Aside0.mk (blk_below (g := gb150) (o := .cells #[.int .i64 t147, .int .i64 t148] 24 (0, 0)) (by (with_reducible repeat (first | refine blk_drewN ?_ _ | refine blk_drew ?_ | refine blk_alloc ?_ _)); exact BK150.out) hb); have n3_ := Aside0.mk (below_step (by repeat (first | (with_reducible first | exact HB.out | apply below_alloc | apply pw_below_drewN | apply below_drew1 | refine below_set ?_ GE150.out) | exact HB.out)) hb); have n4_ := Aside0.mk (hbox); have n5_ := Aside0.mk ((by rw [hg]; exact (below_size (by repeat (first | (with_reducible first | exact HB.out | apply below_alloc | apply pw_below_drewN | apply below_drew1 | refine below_set ?_ GE150.out) | exact HB.out))) : w.heap.size ≤ gb161)); have n6_ := Aside0.mk ((by rw [hg]; exact (below_size (by repeat (first | (with_reducible first | exact HB.out | apply below_alloc | apply pw_below_drewN | apply below_drew1 | refine below_set ?_ GE150.out) | exact HB.out))) : w.heap.size ≤ gb161)); have n7_ := Aside0.mk ((by rw [hg]; exact Nat.ne_of_lt (blk_lt (g := gb150) (o := .cells #[.int .i64 t147, .int .i64 t148] 24 (0, 0)) (by (with_reducible repeat (first | refine blk_drewN ?_ _ | refine blk_drew ?_ | refine blk_alloc ?_ _)); exact BK150.out)) : gb150 ≠ gb161)); have n8_ := Aside0.mk ((by rw [hg]; exact Nat.ne_of_gt (blk_lt (g := gb150) (o := .cells #[.int .i64 t147, .int .i64 t148] 24 (0, 0)) (by (with_reducible repeat (first | refine blk_drewN ?_ _ | refine blk_drew ?_ | refine blk_alloc ?_ _)); exact BK150.out)) : gb161 ≠ gb150)); clear HO_7; clear HO157; clear BK150; clear HB; have HO_7 := n0_; have HO157 := n1_; have BK150 := n2_; have HB := n3_; have BK161 := n4_; have GW161 := n5_; have GE161 := n6_; have NB150_161 := n7_; have NB161_150 := n8_; clear n0_ n1_ n2_ n3_ n4_ n5_ n6_ n7_ n8_; clear hb hbox hg; have hnb59 := NB161_150.out; have hnc59 := NB150_161.out; have hcz60_0 : w58.cell? ⟨gb161, 0, none⟩ = some (.int .i64 0) := (blk_cell BK161.out 0).trans rfl; have hcz60_1 : w58.cell? ⟨gb161, 1, none⟩ = some (.int .i64 0) := (blk_cell BK161.out 1).trans rfl; have hfz60_0 := blk_frozen BK161.out 0; have hfz60_1 := blk_frozen BK161.out 1))
         repeat (go_quiet (first | (go_at_call 19; (with_reducible refine (lex_Lines.calls k2 x10_2 t155 t158 t159 t160 _ ?side1 A28.out).mono ?_); (case side1 => exact Go.Proofs.YtbnihnggljagnaaDoor.World.GW.below HGW_.out (by repeat (first | (with_reducible first | exact HB.out | apply below_alloc | apply pw_below_drewN | apply below_drew1 | refine below_set ?_ GE150.out) | exact HB.out))); rintro e w57 ⟨v156, rfl, ho0, hb⟩; have n0_ := Aside0.mk (Kd.S_elder' (by (with_reducible repeat (first | apply Kd.S_alloc | apply Kd.S_drewN | apply Kd.S_drew)); exact HO_7.out) (Kd.S_base ho0) hb); have n1_ := Aside0.mk (Kd.S_lower (Kd.S_new' ho0 (Kd.S_lt (by (with_reducible repeat (first | apply Kd.S_alloc | apply Kd.S_drewN | apply Kd.S_drew)); exact HO_7.out))) (below_size (by repeat (first | (with_reducible first | exact HB.out | apply below_alloc | apply pw_below_drewN | apply below_drew1 | refine below_set ?_ GE150.out) | exact HB.out)))); have n2_ := Aside0.mk (blk_below (g := gb150) (o := .cells #[.int .i64 t147, .int .i64 t148] 24 (0, 0)) (by (with_reducible repeat (first | refine blk_drewN ?_ _ | refine blk_drew ?_ | refine blk_alloc ?_ _)); exact BK150.out) hb); have n3_ := Aside0.mk (below_step (by repeat (first | (with_reducible first | exact HB.out | apply below_alloc | apply pw_below_drewN | apply below_drew1 | refine below_set ?_ GE150.out) | exact HB.out)) hb); clear HO_7; clear BK150; clear HB; have HO_7 := n0_; have HO157 := n1_; have BK150 := n2_; have HB := n3_; clear n0_ n1_ n2_ n3_; (try clear hb); (try clear hb2); (try clear hk); (try clear hi); (try clear ho0)) | ((with_reducible refine gate_dst (N := 15) rfl ?_); (try (refine gate_guard (by rfl) ?_; dsimp only)); refine box_event ?hg (N := 15) ?hd (cs := #[.int .i64 0, .int .i64 0]) (t := 24) ?hr ?_; (case hd => rfl); (case hg => rfl); (case hr => first | (go_simp; done) | (go_simp; rfl)); intro gb161 hg w58 hbox hb; have n0_ := Aside0.mk (Kd.S_below (by (with_reducible repeat (first | apply Kd.S_alloc | apply Kd.S_drewN | apply Kd.S_drew)); exact HO_7.out) hb); have n1_ := Aside0.mk (Kd.S_below (by (with_reducible repeat (first | apply Kd.S_alloc | apply Kd.S_drewN | apply Kd.S_drew)); exact HO157.out) hb); have n2_ := Aside0.mk (blk_below (g := gb150) (o := .cells #[.int .i64 t147, .int .i64 t148] 24 (0, 0)) (by (with_reducible repeat (first | refine blk_drewN ?_ _ | refine blk_drew ?_ | refine blk_alloc ?_ _)); exact BK150.out) hb); have n3_ := Aside0.mk (below_step (by repeat (first | (with_reducible first | exact HB.out | apply below_alloc | apply pw_below_drewN | apply below_drew1 | refine below_set ?_ GE150.out) | exact HB.out)) hb); have n4_ := Aside0.mk (hbox); have n5_ := Aside0.mk ((by rw [hg]; exact (below_size (by repeat (first | (with_reducible first | exact HB.out | apply below_alloc | apply pw_below_drewN | apply below_drew1 | refine below_set ?_ GE150.out) | exact HB.out))) : w.heap.size ≤ gb161)); have n6_ := Aside0.mk ((by rw [hg]; exact (below_size (by repeat (first | (with_reducible first | exact HB.out | apply below_alloc | apply pw_below_drewN | apply below_drew1 | refine below_set ?_ GE150.out) | exact HB.out))) : w.heap.size ≤ gb161)); have n7_ := Aside0.mk ((by rw [hg]; exact Nat.ne_of_lt (blk_lt (g := gb150) (o := .cells #[.int .i64 t147, .int .i64 t148] 24 (0, 0)) (by (with_reducible repeat (first | refine blk_drewN ?_ _ | refine blk_drew ?_ | refine blk_alloc ?_ _)); exact BK150.out)) : gb150 ≠ gb161)); have n8_ := Aside0.mk ((by rw [hg]; exact Nat.ne_of_gt (blk_lt (g := gb150) (o := .cells #[.int .i64 t147, .int .i64 t148] 24 (0, 0)) (by (with_reducible repeat (first | refine blk_drewN ?_ _ | refine blk_drew ?_ | refine blk_alloc ?_ _)); exact BK150.out)) : gb161 ≠ gb150)); clear HO_7; clear HO157; clear BK150; clear HB; have HO_7 := n0_; have HO157 := n1_; have BK150 := n2_; have HB := n3_; have BK161 := n4_; have GW161 := n5_; have GE161 := n6_; have NB150_161 := n7_; have NB161_150 := n8_; clear n0_ n1_ n2_ n3_ n4_ n5_ n6_ n7_ n8_; clear hb hbox hg; have hnb59 := NB161_150.out; have hnc59 := NB150_161.out; have hcz60_0 : w58.cell? ⟨gb161, 0, none⟩ = some (.int .i64 0) := (blk_cell BK161.out 0).trans rfl; have hcz60_1 : w58.cell? ⟨gb161, 1, none⟩ = some (.int .i64 0) := (blk_cell BK161.out 1).trans rfl; have hfz60_0 := blk_frozen BK161.out 0; have hfz60_1 := blk_frozen BK161.out 1)); try go_wp2_with (first | (go_at_call 19; (with_reducible refine (lex_Lines.calls k2 x10_2 t155 t158 t159 t160 _ ?side1 A28.out).mono ?_); (case side1 => exact Go.Proofs.YtbnihnggljagnaaDoor.World.GW.below HGW_.out (by repeat (first | (with_reducible first | exact HB.out | apply below_alloc | apply pw_below_drewN | apply below_drew1 | refine below_set ?_ GE150.out) | exact HB.out))); rintro e w57 ⟨v156, rfl, ho0, hb⟩; have n0_ := Aside0.mk (Kd.S_elder' (by (with_reducible repeat (first | apply Kd.S_alloc | apply Kd.S_drewN | apply Kd.S_drew)); exact HO_7.out) (Kd.S_base ho0) hb); have n1_ := Aside0.mk (Kd.S_lower (Kd.S_new' ho0 (Kd.S_lt (by (with_reducible repeat (first | apply Kd.S_alloc | apply Kd.S_drewN | apply Kd.S_drew)); exact HO_7.out))) (below_size (by repeat (first | (with_reducible first | exact HB.out | apply below_alloc | apply pw_below_drewN | apply below_drew1 | refine below_set ?_ GE150.out) | exact HB.out)))); have n2_ := Aside0.mk (blk_below (g := gb150) (o := .cells #[.int .i64 t147, .int .i64 t148] 24 (0, 0)) (by (with_reducible repeat (first | refine blk_drewN ?_ _ | refine blk_drew ?_ | refine blk_alloc ?_ _)); exact BK150.out) hb); have n3_ := Aside0.mk (below_step (by repeat (first | (with_reducible first | exact HB.out | apply below_alloc | apply pw_below_drewN | apply below_drew1 | refine below_set ?_ GE150.out) | exact HB.out)) hb); clear HO_7; clear BK150; clear HB; have HO_7 := n0_; have HO157 := n1_; have BK150 := n2_; have HB := n3_; clear n0_ n1_ n2_ n3_; (try clear hb); (try clear hb2); (try clear hk); (try clear hi); (try clear ho0)) | ((with_reducible refine gate_dst (N := 15) rfl ?_); (try (refine gate_guard (by rfl) ?_; dsimp only)); refine box_event ?hg (N := 15) ?hd (cs := #[.int .i64 0, .int .i64 0]) (t := 24) ?hr ?_; (case hd => rfl); (case hg => rfl); (case hr => first | (go_simp; done) | (go_simp; rfl)); intro gb161 hg w58 hbox hb; have n0_ := Aside0.mk (Kd.S_below (by (with_reducible repeat (first | apply Kd.S_alloc | apply Kd.S_drewN | apply Kd.S_drew)); exact HO_7.out) hb); have n1_ := Aside0.mk (Kd.S_below (by (with_reducible repeat (first | apply Kd.S_alloc | apply Kd.S_drewN | apply Kd.S_drew)); exact HO157.out) hb); have n2_ := Aside0.mk (blk_below (g := gb150) (o := .cells #[.int .i64 t147, .int .i64 t148] 24 (0, 0)) (by (with_reducible repeat (first | refine blk_drewN ?_ _ | refine blk_drew ?_ | refine blk_alloc ?_ _)); exact BK150.out) hb); have n3_ := Aside0.mk (below_step (by repeat (first | (with_reducible first | exact HB.out | apply below_alloc | apply pw_below_drewN | apply below_drew1 | refine below_set ?_ GE150.out) | exact HB.out)) hb); have n4_ := Aside0.mk (hbox); have n5_ := Aside0.mk ((by rw [hg]; exact (below_size (by repeat (first | (with_reducible first | exact HB.out | apply below_alloc | apply pw_below_drewN | apply below_drew1 | refine below_set ?_ GE150.out) | exact HB.out))) : w.heap.size ≤ gb161)); have n6_ := Aside0.mk ((by rw [hg]; exact (below_size (by repeat (first | (with_reducible first | exact HB.out | apply below_alloc | apply pw_below_drewN | apply below_drew1 | refine below_set ?_ GE150.out) | exact HB.out))) : w.heap.size ≤ gb161)); have n7_ := Aside0.mk ((by rw [hg]; exact Nat.ne_of_lt (blk_lt (g := gb150) (o := .cells #[.int .i64 t147, .int .i64 t148] 24 (0, 0)) (by (with_reducible repeat (first | refine blk_drewN ?_ _ | refine blk_drew ?_ | refine blk_alloc ?_ _)); exact BK150.out)) : gb150 ≠ gb161)); have n8_ := Aside0.mk ((by rw [hg]; exact Nat.ne_of_gt (blk_lt (g := gb150) (o := .cells #[.int .i64 t147, .int .i64 t148] 24 (0, 0)) (by (with_reducible repeat (first | refine blk_drewN ?_ _ | refine blk_drew ?_ | refine blk_alloc ?_ _)); exact BK150.out)) : gb161 ≠ gb150)); clear HO_7; clear HO157; clear BK150; clear HB; have HO_7 := n0_; have HO157 := n1_; have BK150 := n2_; have HB := n3_; have BK161 := n4_; have GW161 := n5_; have GE161 := n6_; have NB150_161 := n7_; have NB161_150 := n8_; clear n0_ n1_ n2_ n3_ n4_ n5_ n6_ n7_ n8_; clear hb hbox hg; have hnb59 := NB161_150.out; have hnc59 := NB150_161.out; have hcz60_0 : w58.cell? ⟨gb161, 0, none⟩ = some (.int .i64 0) := (blk_cell BK161.out 0).trans rfl; have hcz60_1 : w58.cell? ⟨gb161, 1, none⟩ = some (.int .i64 0) := (blk_cell BK161.out 1).trans rfl; have hfz60_0 := blk_frozen BK161.out 0; have hfz60_1 := blk_frozen BK161.out 1)))
         go_ret
         exact ⟨by first | rfl | (simp [errW_none, errW_some] <;> rfl) | (simp [*, errW_none, errW_some] <;> rfl), by repeat (first | (with_reducible first | exact HB.out | apply below_alloc | apply pw_below_drewN | apply below_drew1 | refine below_set ?_ GE150.out | refine below_set ?_ GE161.out) | exact HB.out)⟩

end Go.Proofs.YtbnihnggljagnaaDoor.QLexAgain
