-- Written by this session's program (wip/tools/printx.py) over the kit's print; the texts marked HAND are its own. Lean checks it.
import Derived.Test.YtbnihnggljagnaaDoorQHeaderBackx0
namespace Go.Proofs.YtbnihnggljagnaaDoor.QHeaderBack
open Go.RowKit Go.Proofs.YtbnihnggljagnaaDoorW.PrintWords Go.Proofs.YtbnihnggljagnaaDoorW.PrintLast Go.Proofs.YtbnihnggljagnaaDoorW.PrintMore
attribute [local go_sem] max2_int min2_int max_two min_two max_three min_three max_four min_four   -- for this text's walks alone
attribute [local go_sem high] Go.Proofs.YtbnihnggljagnaaDoor.Base.ux_u32 Go.Proofs.YtbnihnggljagnaaDoor.Base.ux_u64 Go.Proofs.YtbnihnggljagnaaDoor.Base.ux_u8 Go.Proofs.YtbnihnggljagnaaDoor.Base.ux_u16
set_option linter.unusedVariables false
set_option linter.unusedSimpArgs false

/-! ### strings_Split: function 80 -/
def strings_Split.f (a0 : ByteArray) (a1 : ByteArray) : Option (List ByteArray) :=
  if a0.size < 4294967281 ∧ 1 ≤ a1.size then some (Lib.splitB a1 0 (Lib.countB a0 a1) a0) else none
theorem strings_Split.calls (a0 : ByteArray) (a1 : ByteArray) (r1 : List ByteArray) (w : World) (hG : Go.Proofs.YtbnihnggljagnaaDoor.WorldA.GW w) (h : strings_Split.f a0 a1 = some r1) :
    Calls Tryd.prog 80 #[.string a0, .string a1] w fun e w' => ∃ v0_ : Value, e = .returned v0_ ∧ Kd.R Kd.string 9 w' w.heap.size (fun _ => True) v0_ r1 ∧ Below w.heap.size w w' := by
  unfold strings_Split.f at h
  by_cases h1 : a0.size < 4294967281 ∧ 1 ≤ a1.size
  · rw [if_pos h1] at h
    obtain rfl := Option.some.inj h
    obtain ⟨m, hm⟩ := hG.len
    refine (Tryd.strings_Split a0 a1 m w h1.1 hm h1.2).mono ?_
    rintro e w' ⟨rfl, rfl⟩
    have hlen := Lib.splitB_all a1 h1.2 0 _ a0 rfl
    have hc := Lib.countB_le a1 h1.2 a0.size a0 (Nat.le_refl _)
    refine ⟨_, rfl, Kd.R_of_own (enc := Value.string) (h1 := fun _ => rfl) ?_ (fun _ _ => trivial), below_alloc (Below.refl _ _) _⟩
    rw [hlen]
    refine ⟨by simp [encs, hlen], .inr ⟨w.heap.size, Lib.countB a0 a1 + 1, _, rfl, Nat.le_refl _, blk_new _ _, Nat.le_refl _, ?_, by simp [hlen], ?_⟩⟩
    · have : (4294967281 : Nat) ≤ maxLen := by decide
      omega
    · rw [Nat.mul_one]
      exact List.take_of_length_le (by simp [hlen])
  · rw [if_neg h1] at h; cases h


/-! ### addr_number: function 108 -/
/-- What the number of a text is, and whether it stands in its one form. -/
def numA (a0 : ByteArray) (a1 : Int) : Int × Bool := match Lib.atoiAll a0.data.toList with | .ok v => (v, if v < 0 ∨ v > a1 ∨ Lib.itoa v ≠ a0.data.toList then false else true) | .range => (Lib.atoiSat a0.data.toList, false) | _ => (0, false)
theorem bytes_same (l : List UInt8) (s : ByteArray) : (l == s.toList) = decide (l = s.data.toList) := by
  rw [ByteArray.toList_eq]
  by_cases h : l = s.data.toList
  · rw [decide_eq_true h]; exact beq_iff_eq.2 h
  · rw [decide_eq_false h]; exact beq_eq_false_iff_ne.2 h
def addr_number.f (a0 : ByteArray) (a1 : Int) : Option (Int × Bool) := if a0.size ≤ 281474976710656 then some (numA a0 a1) else none
set_option maxHeartbeats 1000000 in
theorem addr_number.calls (a0 : ByteArray) (a1 : Int) (r1 : Int) (r2 : Bool) (w : World) (hG : Go.Proofs.YtbnihnggljagnaaDoor.WorldA.GW w) (h : addr_number.f a0 a1 = some (r1, r2)) :
    Calls Tryd.prog 108 #[.string a0, .int .i64 a1] w fun e w' => e = .returned (.tuple #[.int .i64 r1, .bool r2]) ∧ Below w.heap.size w w' := by
  have HG := Aside0.mk hG.num
  clear hG
  unfold addr_number.f at h
  by_cases hl : a0.size ≤ 281474976710656
  · rw [if_pos hl] at h
    have h := Option.some.inj h
    unfold numA at h
    have HL := Aside0.mk hl
    clear hl
    rcases ha : Lib.atoiAll a0.data.toList with v | _ | _
    · have hb := NumMath.atoi_bound _ _ ha
      rw [ha] at h
      simp only at h
      have HA := Aside0.mk ha
      clear ha
      have b1 := hb.1
      have b2 := hb.2
      clear hb
      by_cases h1 : v < 0
      · rw [if_pos (.inl h1)] at h
        obtain ⟨rfl, rfl⟩ := Prod.mk.inj h
        clear h
        have h1b := decide_eq_true h1
        clear h1
        go_enter Tryd.func108, Tryd.ntmps108
        go_wp2_with (go_at_call 106; refine (Tryd.strconv_Atoi_ok a0 (by have := HL.out; omega) v HA.out _).mono ?_; rintro e w1 ⟨rfl, hw1⟩; have HB := Aside0.mk (show Below w.heap.size w w1 from by (rcases hw1 with rfl | ⟨t, rfl⟩; exact Below.refl _ _; exact Lib.bytesWorld_below _ _ _)); clear hw1)
        all_goals first | (exfalso; simp only [decide_eq_true_eq, decide_eq_false_iff_not] at *; omega) | (go_ret2; exact ⟨rfl, HB.out⟩)
      by_cases h2 : v > a1
      · rw [if_pos (.inr (.inl h2))] at h
        obtain ⟨rfl, rfl⟩ := Prod.mk.inj h
        clear h
        have h1b := decide_eq_false h1
        have h2b : decide (v > a1) = true := decide_eq_true h2
        have h2c : decide (a1 < v) = true := decide_eq_true h2
        clear h1 h2
        go_enter Tryd.func108, Tryd.ntmps108
        go_wp2_with (go_at_call 106; refine (Tryd.strconv_Atoi_ok a0 (by have := HL.out; omega) v HA.out _).mono ?_; rintro e w1 ⟨rfl, hw1⟩; have HB := Aside0.mk (show Below w.heap.size w w1 from by (rcases hw1 with rfl | ⟨t, rfl⟩; exact Below.refl _ _; exact Lib.bytesWorld_below _ _ _)); clear hw1)
        all_goals first | (exfalso; simp only [decide_eq_true_eq, decide_eq_false_iff_not] at *; omega) | (go_ret2; exact ⟨rfl, HB.out⟩)
      have h1b := decide_eq_false h1
      have h2b : decide (v > a1) = false := decide_eq_false h2
      have h2c : decide (a1 < v) = false := decide_eq_false h2
      have hs := bytes_same (Lib.itoa v) a0
      by_cases h3 : Lib.itoa v = a0.data.toList
      · rw [if_neg (by rintro (h | h | h); exact h1 h; exact h2 h; exact h h3)] at h
        obtain ⟨rfl, rfl⟩ := Prod.mk.inj h
        clear h
        rw [decide_eq_true h3] at hs
        clear h1 h2 h3
        go_enter Tryd.func108, Tryd.ntmps108
        go_wp2_with (first | (go_at_call 106; refine (Tryd.strconv_Atoi_ok a0 (by have := HL.out; omega) v HA.out _).mono ?_; rintro e w1 ⟨rfl, hw1⟩; have HB := Aside0.mk (show Below w.heap.size w w1 from by (rcases hw1 with rfl | ⟨t, rfl⟩; exact Below.refl _ _; exact Lib.bytesWorld_below _ _ _)); clear hw1) | (go_at_call 89; refine (Tryd.strconv_Itoa v b1 b2 _ (HG.out.below HB.out).tab).mono ?_; rintro e w2 ⟨rfl, k, os, rfl⟩))
        all_goals first | (exfalso; simp only [decide_eq_true_eq, decide_eq_false_iff_not] at *; omega) | (go_ret2; exact ⟨rfl, HB.out.trans ((Lib.below_grow _ _ (Nat.le_refl _) _ _).mono HB.out.size)⟩)
      · rw [if_pos (.inr (.inr h3))] at h
        obtain ⟨rfl, rfl⟩ := Prod.mk.inj h
        clear h
        rw [decide_eq_false h3] at hs
        clear h1 h2 h3
        go_enter Tryd.func108, Tryd.ntmps108
        go_wp2_with (first | (go_at_call 106; refine (Tryd.strconv_Atoi_ok a0 (by have := HL.out; omega) v HA.out _).mono ?_; rintro e w1 ⟨rfl, hw1⟩; have HB := Aside0.mk (show Below w.heap.size w w1 from by (rcases hw1 with rfl | ⟨t, rfl⟩; exact Below.refl _ _; exact Lib.bytesWorld_below _ _ _)); clear hw1) | (go_at_call 89; refine (Tryd.strconv_Itoa v b1 b2 _ (HG.out.below HB.out).tab).mono ?_; rintro e w2 ⟨rfl, k, os, rfl⟩))
        all_goals first | (exfalso; simp only [decide_eq_true_eq, decide_eq_false_iff_not] at *; omega) | (go_ret2; exact ⟨rfl, HB.out.trans ((Lib.below_grow _ _ (Nat.le_refl _) _ _).mono HB.out.size)⟩)
    · rw [ha] at h
      obtain ⟨rfl, rfl⟩ := Prod.mk.inj h
      clear h
      have HA1 := Aside0.mk (show ∀ v, Lib.atoiAll a0.data.toList ≠ .ok v from fun v e => by rw [ha] at e; cases e)
      have HA2 := Aside0.mk (show Lib.atoiAll a0.data.toList ≠ .range from fun e => by rw [ha] at e; cases e)
      clear ha
      obtain ⟨ev, hv, hev⟩ := HG.out.syn
      have HV := Aside0.mk hv
      clear hv
      go_enter Tryd.func108, Tryd.ntmps108
      go_wp2_with (go_at_call 106; refine (Tryd.strconv_Atoi_none a0 HL.out HA1.out HA2.out ev _ HV.out hev).mono ?_; rintro e w1 ⟨N, rfl, -, -, hb⟩; have HB := Aside0.mk hb; clear hb)
      go_ret2
      exact ⟨rfl, HB.out⟩
    · rw [ha] at h
      obtain ⟨rfl, rfl⟩ := Prod.mk.inj h
      clear h
      have HA := Aside0.mk ha
      clear ha
      obtain ⟨ev, hv, hev⟩ := HG.out.rng
      have HV := Aside0.mk hv
      clear hv
      go_enter Tryd.func108, Tryd.ntmps108
      go_wp2_with (go_at_call 106; refine (Tryd.strconv_Atoi_range a0 HL.out HA.out ev _ HV.out hev).mono ?_; rintro e w1 ⟨N, rfl, -, -, hb⟩; have HB := Aside0.mk hb; clear hb)
      go_ret2
      exact ⟨rfl, HB.out⟩
  · rw [if_neg hl] at h; cases h


/-! ### addr_Parse: function 38 -/
def addr_Parse.l0 : Nat → List ByteArray → Int → Int → Option (Int × Int)
 | 0, _, _, _ => none
 | k + 1, x4, x5, x14 => if x14 < 4 then (if 0 ≤ x14 then (if x14 < (x4.length : Int) then ((addr_number.f (rdOf ByteArray.empty x4 x14) 255).bind fun bt105 => (if bt105.2 = true then (addr_Parse.l0 k x4 (Go.bits .or .u32 ((x5 * 256) % 4294967296) ((bt105.1) % 4294967296)) (wrap64 (x14 + 1))) else (some (0, 4)))) else (none)) else (none)) else (some (x5, 0))
def addr_Parse.f (k : Nat) (a0 : ByteArray) : Option (Int × Int) := (strings_Split.f a0 (⟨#[46]⟩ : ByteArray)).bind fun t101 => (if (t101.length : Int) = 4 then (addr_Parse.l0 k t101 0 0) else (some (0, 4)))
theorem addr_Parse.mono_l : ∀ k, (∀ y0 y1 y2, LeO (addr_Parse.l0 k y0 y1 y2) (addr_Parse.l0 (k + 1) y0 y1 y2))
 | 0 => fun _ _ _ r h => by simp [addr_Parse.l0] at h
 | k + 1 => by
  have ih0 := addr_Parse.mono_l k
  ·intro y0 y1 y2
   unfold addr_Parse.l0
   repeat' first
   | (with_reducible exact ih0 _ _ _)
   | (with_reducible exact LeO.refl _)
   | (with_reducible exact LeO.none _)
   | (with_reducible refine LeO.ite ?_ ?_)
   | (with_reducible refine LeO.bind ?_ (fun _ => ?_))
   | exact ih0 _ _ _
   | exact LeO.none _
   | refine LeO.ite ?_ ?_
   | refine LeO.bind ?_ (fun _ => ?_)
theorem addr_Parse.mono : ∀ a0 k, LeO (addr_Parse.f k a0) (addr_Parse.f (k + 1) a0) := by
 intro a0 k
 have ih0 := addr_Parse.mono_l k
 unfold addr_Parse.f
 repeat' first
   | (with_reducible exact ih0 _ _ _)
   | (with_reducible exact LeO.refl _)
   | (with_reducible exact LeO.none _)
   | (with_reducible refine LeO.ite ?_ ?_)
   | (with_reducible refine LeO.bind ?_ (fun _ => ?_))
   | exact ih0 _ _ _
   | exact LeO.none _
   | refine LeO.ite ?_ ?_
   | refine LeO.bind ?_ (fun _ => ?_)
set_option maxHeartbeats 8000000 in
set_option maxRecDepth 100000 in
theorem addr_Parse.calls (k : Nat) (a0 : ByteArray) (r1 : Int) (r2 : Int) (w : World) (hG : Go.Proofs.YtbnihnggljagnaaDoor.WorldA.GW w) (h : addr_Parse.f k a0 = some (r1, r2)) :
  Calls Tryd.prog 38 #[.string a0] w fun e w' => e = .returned (.tuple #[.int .u32 r1, .int .i64 r2]) ∧ Below w.heap.size w w' := by
 have HGW_ := Aside0.mk hG
 clear hG
 have HB := Aside0.mk (Below.refl w.heap.size w)
 have H : ((strings_Split.f a0 (⟨#[46]⟩ : ByteArray)).bind fun t101 => (if (t101.length : Int) = 4 then (addr_Parse.l0 k t101 0 0) else (some (0, 4)))) = some (r1, r2) := h
 clear h
 replace H := Option.bind_eq_some_iff.mp H
 obtain ⟨t101, A20, H⟩ := H
 replace H : (if (t101.length : Int) = 4 then (addr_Parse.l0 k t101 0 0) else (some (0, 4))) = some (r1, r2) := H
 have A2 := Aside0.mk A20
 clear A20
 by_cases c3 : (t101.length : Int) = 4
 ·rw [if_pos c3] at H
  have c3b0 : ((t101.length : Int) == 4) = true := beq_iff_eq.mpr c3
  have c3b1 : ((t101.length : Int) != 4) = false := bne_eq_false_iff_eq.mpr c3
  clear c3
  have H' := Aside0.mk H
  clear H
  go_enter Tryd.func38, Tryd.ntmps38
  go_wp2_with (first | ((with_reducible refine gate_callee (f := 80) rfl ?_); refine goesL_ (some 10) rfl rfl Tryd.func80 (by kernel_rfl) rfl #[.string a0, .string (⟨#[46]⟩ : ByteArray)] rfl (by (try simp only [List.map_toArray, List.map_cons, List.map_nil]); first | done | rfl | (simp only [List.length_drop, List.length_take]; rfl)) ?_; (with_reducible refine (strings_Split.calls a0 (⟨#[46]⟩ : ByteArray) t101 _ ?side1 A2.out).mono ?_); (case side1 => exact Go.Proofs.YtbnihnggljagnaaDoor.WorldA.GW.below HGW_.out (by repeat (first | (with_reducible first | exact HB.out | apply below_alloc | apply pw_below_drewN | apply below_drew1) | exact HB.out))); rintro e w4 ⟨v102, rfl, ho0, hb⟩; refine ⟨_, rfl, ?_⟩; have n0_ := Aside0.mk (Kd.R_lower ho0 (below_size (by repeat (first | (with_reducible first | exact HB.out | apply below_alloc | apply pw_below_drewN | apply below_drew1) | exact HB.out)))); have n1_ := Aside0.mk (below_step (by repeat (first | (with_reducible first | exact HB.out | apply below_alloc | apply pw_below_drewN | apply below_drew1) | exact HB.out)) hb); clear HB; have HO103 := n0_; have HB := n1_; clear n0_ n1_; (try clear hb); (try clear hb2); (try clear hk); (try clear hi); (try clear ho0); obtain ⟨Ao5, co5, eo5⟩ := Kd.R_slice HO103.out; subst eo5))
  go_loopg [5, 14] k (fun kq v5 v14 w' => ∃ (x5_1 : Int) (x14_1 : Int), v5 = .int .u32 x5_1 ∧ v14 = .int .i64 x14_1 ∧ Aside0 (addr_Parse.l0 kq t101 x5_1 x14_1 = some (r1, r2)) ∧ Aside0 (kq ≤ k) ∧ Aside0 (Kd.R Kd.string 9 w' w.heap.size (fun _ => True) (.slice Ao5 t101.length co5) t101) ∧ Aside0 (Below w.heap.size w w'))
  case atStart => exact ⟨(0), (0), (by first | rfl | (simp; done) | (simp [*]; done)), (by first | rfl | (simp; done) | (simp [*]; done)), H', ⟨Nat.le_refl _⟩, ⟨by (with_reducible repeat (first | apply Kd.R_alloc | apply Kd.R_drewN | apply Kd.R_drew)); exact HO103.out⟩, ⟨by repeat (first | (with_reducible first | exact HB.out | apply below_alloc | apply pw_below_drewN | apply below_drew1) | exact HB.out)⟩⟩
  case round =>
   clear H'
   try clear p2
   try clear c3
   try clear c3b0
   try clear c3b1
   obtain ⟨x5_1, x14_1, rfl, rfl, HA, HK1, HO_4, HB⟩ := hrel
   cases gk with
   | zero => exact absurd HA.out (by simp [addr_Parse.l0])
   | succ k1 =>
    have H := HA.out
    clear HA
    simp only [addr_Parse.l0] at H
    by_cases c6 : x14_1 < 4
    ·rw [if_pos c6] at H
     have c6b0 : decide (x14_1 < 4) = true := decide_eq_true c6
     clear c6
     by_cases c7 : 0 ≤ x14_1
     ·rw [if_pos c7] at H
      have c7b0 : decide (0 ≤ x14_1) = true := decide_eq_true c7
      clear c7
      by_cases c8 : x14_1 < (t101.length : Int)
      ·rw [if_pos c8] at H
       have c8b0 : decide (x14_1 < (t101.length : Int)) = true := decide_eq_true c8
       clear c8
       replace H := Option.bind_eq_some_iff.mp H
       obtain ⟨⟨t105, t106⟩, A90, H⟩ := H
       replace H : (if t106 = true then (addr_Parse.l0 k1 t101 (Go.bits .or .u32 ((x5_1 * 256) % 4294967296) ((t105) % 4294967296)) (wrap64 (x14_1 + 1))) else (some (0, 4))) = some (r1, r2) := H
       have A9 := Aside0.mk A90
       clear A90
       by_cases c10 : t106 = true
       ·subst c10
        have H1 : (addr_Parse.l0 k1 t101 (Go.bits .or .u32 ((x5_1 * 256) % 4294967296) ((t105) % 4294967296)) (wrap64 (x14_1 + 1))) = some (r1, r2) := by rw [if_pos rfl] at H; exact H
        clear H
        have H := H1
        clear H1
        as_aux_lemma =>
         have H' := Aside0.mk H
         clear H
         have p104 : 0 ≤ (x14_1 : Int) := of_decide_eq_true (by first | (with_reducible assumption) | assumption)
         have q104 : x14_1 < (t101.length : Int) := of_decide_eq_true (by first | (with_reducible assumption) | assumption)
         obtain ⟨ad104, e104, hx104_0⟩ := Kd.at_string (Kd.R_reads' HO_4.out).2.2 x14_1 p104 q104
         cases e104
         replace p104 := eq_true p104
         replace q104 := eq_true q104
         go_wp2_with (first | ((with_reducible refine gate_callee (f := 108) rfl ?_); refine goesL_ (some 22) rfl rfl Tryd.func108 (by kernel_rfl) rfl #[.string (rdOf ByteArray.empty t101 x14_1), .int .i64 255] rfl (by (try simp only [List.map_toArray, List.map_cons, List.map_nil]); first | done | rfl | (simp only [List.length_drop, List.length_take]; rfl)) ?_; (with_reducible refine (addr_number.calls (rdOf ByteArray.empty t101 x14_1) 255 t105 true _ ?side1 A9.out).mono ?_); (case side1 => exact Go.Proofs.YtbnihnggljagnaaDoor.WorldA.GW.below HGW_.out (by repeat (first | (with_reducible first | exact HB.out | apply below_alloc | apply pw_below_drewN | apply below_drew1) | exact HB.out))); rintro e w11 ⟨rfl, hb⟩; refine ⟨_, rfl, ?_⟩; have n0_ := Aside0.mk (Kd.R_below (by (with_reducible repeat (first | apply Kd.R_alloc | apply Kd.R_drewN | apply Kd.R_drew)); exact HO_4.out) hb); have n1_ := Aside0.mk (below_step (by repeat (first | (with_reducible first | exact HB.out | apply below_alloc | apply pw_below_drewN | apply below_drew1) | exact HB.out)) hb); clear HO_4; clear HB; have HO_4 := n0_; have HB := n1_; clear n0_ n1_; (try clear hb); (try clear hb2); (try clear hk); (try clear hi)))
         go_roundg k1
         case measure => have := HK1.out; omega
         case rel => exact ⟨(Go.bits .or .u32 ((x5_1 * 256) % 4294967296) ((t105) % 4294967296)), (wrap64 (x14_1 + 1)), (by first | rfl | (simp; done) | (simp [*]; done)), (by first | rfl | (simp; done) | (simp [*]; done)), H', ⟨by have := HK1.out; omega⟩, ⟨by (with_reducible repeat (first | apply Kd.R_alloc | apply Kd.R_drewN | apply Kd.R_drew)); exact HO_4.out⟩, ⟨by repeat (first | (with_reducible first | exact HB.out | apply below_alloc | apply pw_below_drewN | apply below_drew1) | exact HB.out)⟩⟩
       ·replace c10 := Bool.eq_false_iff.mpr c10
        subst c10
        have H1 : (some (0, 4)) = some (r1, r2) := by rw [if_neg (show ¬ (false = true) by decide)] at H; exact H
        clear H
        have H := H1
        clear H1
        as_aux_lemma =>
         simp only [Option.some.injEq, Prod.mk.injEq] at H
         obtain ⟨rfl, rfl⟩ := H
         have p104 : 0 ≤ (x14_1 : Int) := of_decide_eq_true (by first | (with_reducible assumption) | assumption)
         have q104 : x14_1 < (t101.length : Int) := of_decide_eq_true (by first | (with_reducible assumption) | assumption)
         obtain ⟨ad104, e104, hx104_0⟩ := Kd.at_string (Kd.R_reads' HO_4.out).2.2 x14_1 p104 q104
         cases e104
         replace p104 := eq_true p104
         replace q104 := eq_true q104
         go_wp2_with (first | ((with_reducible refine gate_callee (f := 108) rfl ?_); refine goesL_ (some 22) rfl rfl Tryd.func108 (by kernel_rfl) rfl #[.string (rdOf ByteArray.empty t101 x14_1), .int .i64 255] rfl (by (try simp only [List.map_toArray, List.map_cons, List.map_nil]); first | done | rfl | (simp only [List.length_drop, List.length_take]; rfl)) ?_; (with_reducible refine (addr_number.calls (rdOf ByteArray.empty t101 x14_1) 255 t105 false _ ?side1 A9.out).mono ?_); (case side1 => exact Go.Proofs.YtbnihnggljagnaaDoor.WorldA.GW.below HGW_.out (by repeat (first | (with_reducible first | exact HB.out | apply below_alloc | apply pw_below_drewN | apply below_drew1) | exact HB.out))); rintro e w12 ⟨rfl, hb⟩; refine ⟨_, rfl, ?_⟩; have n0_ := Aside0.mk (Kd.R_below (by (with_reducible repeat (first | apply Kd.R_alloc | apply Kd.R_drewN | apply Kd.R_drew)); exact HO_4.out) hb); have n1_ := Aside0.mk (below_step (by repeat (first | (with_reducible first | exact HB.out | apply below_alloc | apply pw_below_drewN | apply below_drew1) | exact HB.out)) hb); clear HO_4; clear HB; have HO_4 := n0_; have HB := n1_; clear n0_ n1_; (try clear hb); (try clear hb2); (try clear hk); (try clear hi)))
         go_ret2
         exact ⟨by first | rfl | (simp [errW_none, errW_some] <;> rfl) | (simp [*, errW_none, errW_some] <;> rfl), by repeat (first | (with_reducible first | exact HB.out | apply below_alloc | apply pw_below_drewN | apply below_drew1) | exact HB.out)⟩
      ·rw [if_neg c8] at H
       exact absurd H (by simp)
     ·rw [if_neg c7] at H
      exact absurd H (by simp)
    ·rw [if_neg c6] at H
     have c6b0 : decide (x14_1 < 4) = false := decide_eq_false c6
     clear c6
     as_aux_lemma =>
      simp only [Option.some.injEq, Prod.mk.injEq] at H
      obtain ⟨rfl, rfl⟩ := H
      go_wp2
      go_ret2
      exact ⟨by first | rfl | (simp [errW_none, errW_some] <;> rfl) | (simp [*, errW_none, errW_some] <;> rfl), by repeat (first | (with_reducible first | exact HB.out | apply below_alloc | apply pw_below_drewN | apply below_drew1) | exact HB.out)⟩
 ·rw [if_neg c3] at H
  have c3b0 : ((t101.length : Int) == 4) = false := beq_eq_false_iff_ne.mpr c3
  have c3b1 : ((t101.length : Int) != 4) = true := bne_iff_ne.mpr c3
  as_aux_lemma =>
   simp only [Option.some.injEq, Prod.mk.injEq] at H
   obtain ⟨rfl, rfl⟩ := H
   go_enter Tryd.func38, Tryd.ntmps38
   go_wp2_with (first | ((with_reducible refine gate_callee (f := 80) rfl ?_); refine goesL_ (some 10) rfl rfl Tryd.func80 (by kernel_rfl) rfl #[.string a0, .string (⟨#[46]⟩ : ByteArray)] rfl (by (try simp only [List.map_toArray, List.map_cons, List.map_nil]); first | done | rfl | (simp only [List.length_drop, List.length_take]; rfl)) ?_; (with_reducible refine (strings_Split.calls a0 (⟨#[46]⟩ : ByteArray) t101 _ ?side1 A2.out).mono ?_); (case side1 => exact Go.Proofs.YtbnihnggljagnaaDoor.WorldA.GW.below HGW_.out (by repeat (first | (with_reducible first | exact HB.out | apply below_alloc | apply pw_below_drewN | apply below_drew1) | exact HB.out))); rintro e w13 ⟨v102, rfl, ho0, hb⟩; refine ⟨_, rfl, ?_⟩; have n0_ := Aside0.mk (Kd.R_lower ho0 (below_size (by repeat (first | (with_reducible first | exact HB.out | apply below_alloc | apply pw_below_drewN | apply below_drew1) | exact HB.out)))); have n1_ := Aside0.mk (below_step (by repeat (first | (with_reducible first | exact HB.out | apply below_alloc | apply pw_below_drewN | apply below_drew1) | exact HB.out)) hb); clear HB; have HO103 := n0_; have HB := n1_; clear n0_ n1_; (try clear hb); (try clear hb2); (try clear hk); (try clear hi); (try clear ho0); obtain ⟨Ao14, co14, eo14⟩ := Kd.R_slice HO103.out; subst eo14))
   go_ret2
   exact ⟨by first | rfl | (simp [errW_none, errW_some] <;> rfl) | (simp [*, errW_none, errW_some] <;> rfl), by repeat (first | (with_reducible first | exact HB.out | apply below_alloc | apply pw_below_drewN | apply below_drew1) | exact HB.out)⟩

/-! ### strconv_Itoa: function 89 -/
def strconv_Itoa.f (a0 : Int) : Option ByteArray := if -9223372036854775808 ≤ a0 ∧ a0 ≤ 9223372036854775807 then some ⟨(Lib.itoa a0).toArray⟩ else none
theorem strconv_Itoa.calls (a0 : Int) (r1 : ByteArray) (w : World) (hG : Go.Proofs.YtbnihnggljagnaaDoor.WorldA.GW w) (h : strconv_Itoa.f a0 = some r1) :
    Calls Tryd.prog 89 #[.int .i64 a0] w fun e w' => e = .returned (.string r1) ∧ Below w.heap.size w w' := by
  unfold strconv_Itoa.f at h
  by_cases c : -9223372036854775808 ≤ a0 ∧ a0 ≤ 9223372036854775807
  · rw [if_pos c] at h
    obtain rfl := Option.some.inj h
    refine (Tryd.strconv_Itoa a0 c.1 c.2 w hG.num.tab).mono ?_
    rintro e w2 ⟨rfl, k, os, rfl⟩
    exact ⟨rfl, Lib.below_grow _ _ (Nat.le_refl _) _ _⟩
  · rw [if_neg c] at h; cases h


/-! ### addr_Text: function 43 -/
/-- A byte's number as a text. -/
def partT (p : Int) : ByteArray := ⟨(Lib.itoa p).toArray⟩
/-- The four texts, as far as they are written. -/
def rowT (p0 p1 p2 p3 k : Int) : Array Value :=
  if k = 0 then #[.string ⟨#[]⟩, .string ⟨#[]⟩, .string ⟨#[]⟩, .string ⟨#[]⟩] else if k = 1 then #[.string (partT p0), .string ⟨#[]⟩, .string ⟨#[]⟩, .string ⟨#[]⟩]
  else if k = 2 then #[.string (partT p0), .string (partT p1), .string ⟨#[]⟩, .string ⟨#[]⟩] else if k = 3 then #[.string (partT p0), .string (partT p1), .string (partT p2), .string ⟨#[]⟩]
  else #[.string (partT p0), .string (partT p1), .string (partT p2), .string (partT p3)]
theorem itoa_any (p : Int) (hp : 0 ≤ p ∧ p ≤ 255) (w0 w : World) (hG : WorldN.GN w0) (hb : Below w0.heap.size w0 w) :
    Calls Tryd.prog 89 #[.int .i64 p] w fun e w' => e = .returned (.string (partT p)) ∧ Below w.heap.size w w' := by
  refine (Tryd.strconv_Itoa p (by omega) (by omega) w (hG.below hb).tab).mono ?_
  rintro e w2 ⟨rfl, k, os, rfl⟩
  exact ⟨rfl, Lib.below_grow _ _ (Nat.le_refl _) _ _⟩
def textT (p0 p1 p2 p3 : Int) : ByteArray := ⟨(Lib.join [(partT p0).data.toList, (partT p1).data.toList, (partT p2).data.toList, (partT p3).data.toList] [46]).toArray⟩
theorem digits_small (p : Int) (hp : 0 ≤ p ∧ p ≤ 255) : (partT p).size ≤ 4 := by
  obtain ⟨n, rfl⟩ : ∃ n : Nat, p = n := ⟨p.toNat, by omega⟩
  have h : ∀ n : Nat, n < 256 → (partT (n : Int)).size ≤ 4 := by decide +kernel
  exact h n (by omega)
theorem join_any (p0 p1 p2 p3 : Int) (h0 : 0 ≤ p0 ∧ p0 ≤ 255) (h1 : 0 ≤ p1 ∧ p1 ≤ 255) (h2 : 0 ≤ p2 ∧ p2 ≤ 255) (h3 : 0 ≤ p3 ∧ p3 ≤ 255) (w : World) (b : Nat)
    (hb : w.heap[b]? = some (.cells #[.string (partT p0), .string (partT p1), .string (partT p2), .string (partT p3)] 161 (0, 0))) :
    Calls Tryd.prog 111 #[.slice (some ⟨b, 0, none⟩) 4 4, .string ⟨#[46]⟩] w fun e w' => e = .returned (.string (textT p0 p1 p2 p3)) ∧ Below w.heap.size w w' := by
  have l0 := digits_small p0 h0
  have l1 := digits_small p1 h1
  have l2 := digits_small p2 h2
  have l3 := digits_small p3 h3
  refine (Tryd.strings_Join b 0 4 [partT p0, partT p1, partT p2, partT p3] ⟨#[46]⟩ w ?_ (blk_lt hb) (show 4 ≤ 140737488355328 by decide) (Nat.le_refl 4) ?_).mono ?_
  · intro j x hx
    rw [Nat.zero_add, blk_cell hb j]
    match j, hx with
    | 0, hx => cases hx; rfl
    | 1, hx => cases hx; rfl
    | 2, hx => cases hx; rfl
    | 3, hx => cases hx; rfl
    | _ + 4, hx => cases hx
  · have e : ∀ p : Int, (partT p).data.toList.length = (partT p).size := fun p => Array.length_toList
    have e1 : (⟨#[46]⟩ : ByteArray).data.toList.length = 1 := rfl
    simp only [List.map_cons, List.map_nil, Lib.join_cons, Lib.joinTail, List.flatten_cons, List.flatten_nil, List.length_append, List.length_nil, e, e1]
    omega
  · rintro e w' ⟨rfl, hb'⟩
    exact ⟨rfl, hb'⟩
set_option maxRecDepth 100000 in
set_option maxHeartbeats 4000000 in
theorem text_calls (a q0 q1 q2 q3 p0 p1 p2 p3 : Int) (w : World) (hG : WorldN.GN w)
    (hs0 : Op.shift .shr .u32 a .i64 24 = pure (.int .u32 q0)) (ha0 : bits .and .u32 q0 255 = p0) (hw0 : IntKind.wrap .i64 p0 = p0) (hb0 : Aside0 (0 ≤ p0 ∧ p0 ≤ 255))
    (hs1 : Op.shift .shr .u32 a .i64 16 = pure (.int .u32 q1)) (ha1 : bits .and .u32 q1 255 = p1) (hw1 : IntKind.wrap .i64 p1 = p1) (hb1 : Aside0 (0 ≤ p1 ∧ p1 ≤ 255))
    (hs2 : Op.shift .shr .u32 a .i64 8 = pure (.int .u32 q2)) (ha2 : bits .and .u32 q2 255 = p2) (hw2 : IntKind.wrap .i64 p2 = p2) (hb2 : Aside0 (0 ≤ p2 ∧ p2 ≤ 255))
    (hs3 : Op.shift .shr .u32 a .i64 0 = pure (.int .u32 q3)) (ha3 : bits .and .u32 q3 255 = p3) (hw3 : IntKind.wrap .i64 p3 = p3) (hb3 : Aside0 (0 ≤ p3 ∧ p3 ≤ 255)) :
    Calls Tryd.prog 43 #[.int .u32 a] w fun e w' => e = .returned (.string (textT p0 p1 p2 p3)) ∧ Below w.heap.size w w' := by
  have HG := Aside0.mk hG
  clear hG
  go_enter Tryd.func43, Tryd.ntmps43
  go_wp2
  go_loopw [5] (fun i wr => ∃ k : Int, (k = 0 ∨ k = 1 ∨ k = 2 ∨ k = 3 ∨ k = 4) ∧ i = .int .i64 k ∧ Aside0 (wr.heap[w.heap.size]? = some (.cells (rowT p0 p1 p2 p3 k) 161 (0, 0))) ∧ Aside0 (Below w.heap.size w wr)) (fun i wr => 4 - (intOf i).toNat)
  case atStart =>
    exact ⟨0, by omega, rfl, .mk (blk_new _ _), .mk ((Below.refl _ w).alloc (Nat.le_refl _) _)⟩
  case round =>
    obtain ⟨k, hk, rfl, hc, hb⟩ := hrel
    rcases hk with rfl | rfl | rfl | rfl | rfl
    · clear hs1 ha1 hw1 hs2 ha2 hw2 hs3 ha3 hw3
      have HC := hc.out
      clear hc
      rw [show rowT p0 p1 p2 p3 0 = #[.string ⟨#[]⟩, .string ⟨#[]⟩, .string ⟨#[]⟩, .string ⟨#[]⟩] from rfl] at HC
      have HD := Aside0.mk HC
      clear HC
      go_wp2_with (go_at_call 89; refine (itoa_any p0 hb0.out w wr HG.out hb.out).mono ?_; rintro e w2 ⟨rfl, hbx⟩; have HB2 := Aside0.mk hbx; have hcx := blk_below HD.out ((hbx.mono (Nat.le_refl _))); have HC2 := Aside0.mk hcx; have hff := blk_frozen hcx 0; have hcc := blk_cell hcx 0; simp at hcc; clear hbx hcx)
      all_goals exact ⟨⟨1, by omega, rfl, .mk (blk_set HC2.out 0 _), .mk ((hb.out.trans (HB2.out.mono hb.out.size)).setCell (Nat.le_refl _) _)⟩, by decide⟩
    · clear hs0 ha0 hw0 hs2 ha2 hw2 hs3 ha3 hw3
      have HC := hc.out
      clear hc
      rw [show rowT p0 p1 p2 p3 1 = #[.string (partT p0), .string ⟨#[]⟩, .string ⟨#[]⟩, .string ⟨#[]⟩] from rfl] at HC
      have HD := Aside0.mk HC
      clear HC
      go_wp2_with (go_at_call 89; refine (itoa_any p1 hb1.out w wr HG.out hb.out).mono ?_; rintro e w2 ⟨rfl, hbx⟩; have HB2 := Aside0.mk hbx; have hcx := blk_below HD.out ((hbx.mono (Nat.le_refl _))); have HC2 := Aside0.mk hcx; have hff := blk_frozen hcx 1; have hcc := blk_cell hcx 1; simp at hcc; clear hbx hcx)
      all_goals exact ⟨⟨2, by omega, rfl, .mk (blk_set HC2.out 1 _), .mk ((hb.out.trans (HB2.out.mono hb.out.size)).setCell (Nat.le_refl _) _)⟩, by decide⟩
    · clear hs0 ha0 hw0 hs1 ha1 hw1 hs3 ha3 hw3
      have HC := hc.out
      clear hc
      rw [show rowT p0 p1 p2 p3 2 = #[.string (partT p0), .string (partT p1), .string ⟨#[]⟩, .string ⟨#[]⟩] from rfl] at HC
      have HD := Aside0.mk HC
      clear HC
      go_wp2_with (go_at_call 89; refine (itoa_any p2 hb2.out w wr HG.out hb.out).mono ?_; rintro e w2 ⟨rfl, hbx⟩; have HB2 := Aside0.mk hbx; have hcx := blk_below HD.out ((hbx.mono (Nat.le_refl _))); have HC2 := Aside0.mk hcx; have hff := blk_frozen hcx 2; have hcc := blk_cell hcx 2; simp at hcc; clear hbx hcx)
      all_goals exact ⟨⟨3, by omega, rfl, .mk (blk_set HC2.out 2 _), .mk ((hb.out.trans (HB2.out.mono hb.out.size)).setCell (Nat.le_refl _) _)⟩, by decide⟩
    · clear hs0 ha0 hw0 hs1 ha1 hw1 hs2 ha2 hw2
      have HC := hc.out
      clear hc
      rw [show rowT p0 p1 p2 p3 3 = #[.string (partT p0), .string (partT p1), .string (partT p2), .string ⟨#[]⟩] from rfl] at HC
      have HD := Aside0.mk HC
      clear HC
      go_wp2_with (go_at_call 89; refine (itoa_any p3 hb3.out w wr HG.out hb.out).mono ?_; rintro e w2 ⟨rfl, hbx⟩; have HB2 := Aside0.mk hbx; have hcx := blk_below HD.out ((hbx.mono (Nat.le_refl _))); have HC2 := Aside0.mk hcx; have hff := blk_frozen hcx 3; have hcc := blk_cell hcx 3; simp at hcc; clear hbx hcx)
      all_goals exact ⟨⟨4, by omega, rfl, .mk (blk_set HC2.out 3 _), .mk ((hb.out.trans (HB2.out.mono hb.out.size)).setCell (Nat.le_refl _) _)⟩, by decide⟩
    · have HC := hc.out
      clear hc
      rw [show rowT p0 p1 p2 p3 4 = #[.string (partT p0), .string (partT p1), .string (partT p2), .string (partT p3)] from rfl] at HC
      have HD := Aside0.mk HC
      clear HC
      clear hs0 ha0 hw0 hs1 ha1 hw1 hs2 ha2 hw2 hs3 ha3 hw3
      have hj := join_any p0 p1 p2 p3 hb0.out hb1.out hb2.out hb3.out wr w.heap.size HD.out
      have HJ := Aside0.mk hj
      clear hj
      go_wp2_with (go_at_call 111; refine HJ.out.mono ?_; rintro e w2 ⟨rfl, hbx⟩; have HB2 := Aside0.mk hbx; clear hbx)
      go_ret
      exact ⟨rfl, hb.out.trans (HB2.out.mono hb.out.size)⟩
theorem wr_u32 (n : Int) (h₀ : 0 ≤ n) (h₁ : n < 2 ^ 32) : IntKind.u32.wrap n = n := by
  rw [IntKind.wrap_u32]
  have : (2 : Int) ^ 32 = 4294967296 := by decide
  omega
theorem p32 : (2 : Int) ^ 32 = 4294967296 := by decide
theorem and255 (a : Int) (h0 : 0 ≤ a) (h1 : a ≤ 4294967295) : bits .and .u32 a 255 = a % 256 := by
  have h := bits_mask .u32 32 (by decide) wr_u32 8 (by decide) a h0 (by rw [p32]; omega)
  exact h
theorem wrap_byte (p : Int) (h : 0 ≤ p ∧ p ≤ 255) : IntKind.wrap .i64 p = p := by
  rw [IntKind.wrap_i64]; omega
def addr_Text.f (a0 : Int) : Option ByteArray := if 0 ≤ a0 ∧ a0 ≤ 4294967295 then some (textT (a0 / 16777216 % 256) (a0 / 65536 % 256) (a0 / 256 % 256) (a0 % 256)) else none
theorem addr_Text.calls (a0 : Int) (r1 : ByteArray) (w : World) (hG : Go.Proofs.YtbnihnggljagnaaDoor.WorldA.GW w) (h : addr_Text.f a0 = some r1) :
    Calls Tryd.prog 43 #[.int .u32 a0] w fun e w' => e = .returned (.string r1) ∧ Below w.heap.size w w' := by
  unfold addr_Text.f at h
  by_cases c : 0 ≤ a0 ∧ a0 ≤ 4294967295
  · rw [if_pos c] at h
    obtain rfl := Option.some.inj h
    have b0 : 0 ≤ a0 / 16777216 % 256 ∧ a0 / 16777216 % 256 ≤ 255 := by omega
    have b1 : 0 ≤ a0 / 65536 % 256 ∧ a0 / 65536 % 256 ≤ 255 := by omega
    have b2 : 0 ≤ a0 / 256 % 256 ∧ a0 / 256 % 256 ≤ 255 := by omega
    have b3 : 0 ≤ a0 % 256 ∧ a0 % 256 ≤ 255 := by omega
    exact text_calls a0 (a0 / 16777216) (a0 / 65536) (a0 / 256) a0 _ _ _ _ w hG.num
      (shift_shr .u32 .i64 a0 24 (by decide) (by decide)) (and255 _ (by omega) (by omega)) (wrap_byte _ b0) (.mk b0)
      (shift_shr .u32 .i64 a0 16 (by decide) (by decide)) (and255 _ (by omega) (by omega)) (wrap_byte _ b1) (.mk b1)
      (shift_shr .u32 .i64 a0 8 (by decide) (by decide)) (and255 _ (by omega) (by omega)) (wrap_byte _ b2) (.mk b2)
      ((shift_shr .u32 .i64 a0 0 (by decide) (by decide)).trans (by rw [show (2 : Int) ^ (0 : Int).toNat = 1 from rfl, Int.ediv_one])) (and255 _ (by omega) (by omega)) (wrap_byte _ b3) (.mk b3)
  · rw [if_neg c] at h; cases h


/-! ### header_Text_1: function 118 -/
set_option maxHeartbeats 1000000 in
theorem text1_calls (a p : Int) (ta tb : ByteArray) (w : World) (hG : Go.Proofs.YtbnihnggljagnaaDoor.WorldA.GW w) (h1 : addr_Text.f a = some ta) (h2 : strconv_Itoa.f p = some tb) (hwp : IntKind.wrap .i64 p = p)
    (c1 : ta.size + 1 ≤ 9223372036854775807) (c2 : ta.size + 1 + tb.size ≤ 9223372036854775807) :
    Calls Tryd.prog 118 #[.int .u32 a, .int .u16 p] w fun e w' => e = .returned (.string ((ta ++ (⟨#[58]⟩ : ByteArray)) ++ tb)) ∧ Below w.heap.size w w' := by
  have HG := Aside0.mk hG
  have A1 := Aside0.mk h1
  have A2 := Aside0.mk h2
  clear hG h1 h2
  have c1b0 := eq_true c1
  have c1b1 : decide (ta.size + 1 ≤ 9223372036854775807) = true := decide_eq_true c1
  have c1b2 : (9223372036854775807 < ta.size + 1) = False := eq_false (Nat.not_lt.2 c1)
  have c2b0 := eq_true c2
  have c2b1 : decide (ta.size + 1 + tb.size ≤ 9223372036854775807) = true := decide_eq_true c2
  have c2b2 : (9223372036854775807 < ta.size + 1 + tb.size) = False := eq_false (Nat.not_lt.2 c2)
  clear c1 c2
  go_enter Tryd.func118, Tryd.ntmps118
  go_wp2_with (first | (go_at_call 43; refine (addr_Text.calls a ta _ HG.out A1.out).mono ?_; rintro e w1 ⟨rfl, hb⟩; have HB := Aside0.mk hb; clear hb) | (go_at_call 89; refine (strconv_Itoa.calls p tb _ (Go.Proofs.YtbnihnggljagnaaDoor.WorldA.GW.below HG.out HB.out) A2.out).mono ?_; rintro e w2 ⟨rfl, hb⟩; have HB2 := Aside0.mk (HB.out.trans (hb.mono HB.out.size)); clear hb))
  go_ret
  exact ⟨rfl, HB2.out⟩
def header_Text_1.f (a p : Int) : Option ByteArray := if 0 ≤ p ∧ p ≤ 65535 then ((addr_Text.f a).bind fun ta => (strconv_Itoa.f p).bind fun tb => if ta.size + 1 + tb.size ≤ 9223372036854775807 then some ((ta ++ (⟨#[58]⟩ : ByteArray)) ++ tb) else none) else none
theorem header_Text_1.calls (a p : Int) (r : ByteArray) (w : World) (hG : Go.Proofs.YtbnihnggljagnaaDoor.WorldA.GW w) (h : header_Text_1.f a p = some r) :
    Calls Tryd.prog 118 #[.int .u32 a, .int .u16 p] w fun e w' => e = .returned (.string r) ∧ Below w.heap.size w w' := by
  unfold header_Text_1.f at h
  by_cases hp : 0 ≤ p ∧ p ≤ 65535
  · rw [if_pos hp] at h
    obtain ⟨ta, h1, h⟩ := Option.bind_eq_some_iff.1 h
    obtain ⟨tb, h2, h⟩ := Option.bind_eq_some_iff.1 h
    by_cases c : ta.size + 1 + tb.size ≤ 9223372036854775807
    · rw [if_pos c] at h
      obtain rfl := Option.some.inj h
      exact text1_calls a p ta tb w hG h1 h2 (by rw [IntKind.wrap_i64]; omega) (by omega) c
    · rw [if_neg c] at h; cases h
  · rw [if_neg hp] at h; cases h


/-! ### header_Text: function 56 -/
theorem gov_ {P : Program} {ops : Array Oper} {Q : Exit → Act → World → Prop} {oi : Oper} {N : Option Tmp} {a : Act} {w : World} {K : Act → World → Prop} {f : FuncId} {fn : Func} {x : Operand} {ars : Array Operand} {ts : Array TypeId} (hf : P.funcs[f]? = some fn) (hname : (fn.name == "runtime.NumGoroutine") = false) (hb : fn.body.isSome = true) (args : Array Value)
    (hw : Region.wanted oi (yielded ops a.tmps) = true) (hN : oi.dst = N) (hop : oi.op = .call { callee := .value x, args := ars, argTypes := ts }) (hx : a.eval x = .func (.func f) #[] #[]) (hargs : ars.map a.eval = args)
    (h : Calls P f args w fun e w' => ∃ v, e = .returned v ∧ K (a.put N v) w') : if Region.wanted oi (yielded ops a.tmps) = true then Oper.wp P oi a w K Q else K (a.put N undef) w := by
  refine call_ f args hw hN ?_ h
  have he := enters_ hf hname hb args w
  unfold execOp
  simp [hop, resolve, Deferred.ofValue, invoke, hx, hargs, he]
def textTab : Bool × List (List Nat × List Nat) := (true, [([], []), ([], []), ([1], [1]), ([], []), ([3], [3]), ([0, 2, 4], [0, 2, 4]), ([5], [5]), ([], []), ([], []), ([8], [8]), ([], []), ([10], [10]), ([7, 9, 11, 5], [7, 9, 11]), ([6, 12], [6, 12]), ([13], [13]), ([], []), ([15], [15]), ([16], [16]), ([17, 12], [17]), ([14, 18], [14, 18]), ([19, 18, 0, 1, 2, 3, 4, 5, 6, 7, 8, 9, 10, 11, 12, 13, 14, 15, 16, 17, 18, 19], [19])])
theorem textTab_is : rtab .any (opsOf Tryd.f56 2) = textTab := by kernel_rfl
def spaced (a b c : ByteArray) : ByteArray := (((a ++ (⟨#[32]⟩ : ByteArray)) ++ b) ++ (⟨#[32]⟩ : ByteArray)) ++ c
set_option maxRecDepth 100000 in
set_option maxHeartbeats 4000000 in
theorem htext_calls (s d p sp dp : Int) (ta tb tc : ByteArray) (w : World) (hG : Go.Proofs.YtbnihnggljagnaaDoor.WorldA.GW w) (h1 : header_Text_1.f s sp = some ta) (h2 : header_Text_1.f d dp = some tb) (h3 : strconv_Itoa.f p = some tc) (hwp : IntKind.wrap .i64 p = p)
    (c1 : ta.size + 1 ≤ 9223372036854775807) (c2 : ta.size + 1 + tb.size ≤ 9223372036854775807) (c3 : ta.size + 1 + tb.size + 1 ≤ 9223372036854775807) (c4 : ta.size + 1 + tb.size + 1 + tc.size ≤ 9223372036854775807) :
    Calls Tryd.prog 56 #[.agg #[.int .u32 s, .int .u32 d, .int .u8 p, .int .u16 sp, .int .u16 dp]] w fun e w' => e = .returned (.string (spaced ta tb tc)) ∧ Below w.heap.size w w' := by
  have HG := Aside0.mk hG
  have A1 := Aside0.mk h1
  have A2 := Aside0.mk h2
  have A3 := Aside0.mk h3
  clear hG h1 h2 h3
  have c1b0 := eq_true c1
  have c1b1 : decide (ta.size + 1 ≤ 9223372036854775807) = true := decide_eq_true c1
  have c1b2 : (9223372036854775807 < ta.size + 1) = False := eq_false (Nat.not_lt.2 c1)
  clear c1
  have c2b0 := eq_true c2
  have c2b1 : decide (ta.size + 1 + tb.size ≤ 9223372036854775807) = true := decide_eq_true c2
  have c2b2 : (9223372036854775807 < ta.size + 1 + tb.size) = False := eq_false (Nat.not_lt.2 c2)
  clear c2
  have c3b0 := eq_true c3
  have c3b1 : decide (ta.size + 1 + tb.size + 1 ≤ 9223372036854775807) = true := decide_eq_true c3
  have c3b2 : (9223372036854775807 < ta.size + 1 + tb.size + 1) = False := eq_false (Nat.not_lt.2 c3)
  clear c3
  have c4b0 := eq_true c4
  have c4b1 : decide (ta.size + 1 + tb.size + 1 + tc.size ≤ 9223372036854775807) = true := decide_eq_true c4
  have c4b2 : (9223372036854775807 < ta.size + 1 + tb.size + 1 + tc.size) = False := eq_false (Nat.not_lt.2 c4)
  clear c4
  have hA0 : (w.alloc (.cells #[.int .u32 s, .int .u32 d, .int .u8 p, .int .u16 sp, .int .u16 dp] 91 (0, 0))).heap[w.heap.size]? = some (.cells #[.int .u32 s, .int .u32 d, .int .u8 p, .int .u16 sp, .int .u16 dp] 91 (0, 0)) := blk_new _ _
  have hBW : Below w.heap.size w (w.alloc (.cells #[.int .u32 s, .int .u32 d, .int .u8 p, .int .u16 sp, .int .u16 dp] 91 (0, 0))) := (Below.refl _ w).alloc (Nat.le_refl _) _
  have HA0 := Aside0.mk hA0
  have HBW := Aside0.mk hBW
  clear hA0 hBW
  go_enter Tryd.func56, Tryd.ntmps56
  go_wp2
  generalize (w.alloc (.cells #[.int .u32 s, .int .u32 d, .int .u8 p, .int .u16 sp, .int .u16 dp] 91 (0, 0))) = W0 at HA0 HBW ⊢
  refine start_ (n := 21) (S := fun w' => Below W0.heap.size W0 w') (ds := []) #[false, false, false, false, false, false, false, false, false, false, false, false, false, false, false, false, false, false, false, false, false] (by kernel_rfl) rfl rfl (below_drew1 (Below.refl _ _)) (fun hS => ?_); refine with_tab textTab_is (fun HT_ => ?_)
  generalize W0.drew = w0 at hS ⊢
  have HS := Aside0.mk hS
  clear hS
  refine pure_ (i := 0) (N := some 4) (v := ?_) (a' := ?_) #[true, false, false, false, false, false, false, false, false, false, false, false, false, false, false, false, false, false, false, false, false] rfl rfl (any_of HT_.out (by kernel_rfl)) (fun _ _ _ h => h) (Or.inl ⟨by rfl, ?_⟩) ?_ ?_
  rotate_left
  · intro w'
    go_simp
    with_reducible rfl
  rotate_left
  · simp only [Act.put, List.setIfInBounds_toArray, List.set_cons_zero, List.set_cons_succ, i64_w, i32_w]
    rfl
  refine pure_ (i := 1) (N := some 5) (v := ?_) (a' := ?_) #[true, true, false, false, false, false, false, false, false, false, false, false, false, false, false, false, false, false, false, false, false] rfl rfl (any_of HT_.out (by kernel_rfl)) (fun _ _ _ h => h) (Or.inl ⟨by rfl, ?_⟩) ?_ ?_
  rotate_left
  · intro w'
    go_simp
    with_reducible rfl
  rotate_left
  · simp only [Act.put, List.setIfInBounds_toArray, List.set_cons_zero, List.set_cons_succ, i64_w, i32_w]
    rfl
  refine pure_ (i := 3) (N := some 7) (v := ?_) (a' := ?_) #[true, true, false, true, false, false, false, false, false, false, false, false, false, false, false, false, false, false, false, false, false] rfl rfl (any_of HT_.out (by kernel_rfl)) (fun _ _ _ h => h) (Or.inl ⟨by rfl, ?_⟩) ?_ ?_
  rotate_left
  · intro w'
    go_simp
    with_reducible rfl
  rotate_left
  · simp only [Act.put, List.setIfInBounds_toArray, List.set_cons_zero, List.set_cons_succ, i64_w, i32_w]
    rfl
  refine pure_ (i := 7) (N := some 11) (v := ?_) (a' := ?_) #[true, true, false, true, false, false, false, true, false, false, false, false, false, false, false, false, false, false, false, false, false] rfl rfl (any_of HT_.out (by kernel_rfl)) (fun _ _ _ h => h) (Or.inl ⟨by rfl, ?_⟩) ?_ ?_
  rotate_left
  · intro w'
    go_simp
    with_reducible rfl
  rotate_left
  · simp only [Act.put, List.setIfInBounds_toArray, List.set_cons_zero, List.set_cons_succ, i64_w, i32_w]
    rfl
  refine pure_ (i := 8) (N := some 12) (v := ?_) (a' := ?_) #[true, true, false, true, false, false, false, true, true, false, false, false, false, false, false, false, false, false, false, false, false] rfl rfl (any_of HT_.out (by kernel_rfl)) (fun _ _ _ h => h) (Or.inl ⟨by rfl, ?_⟩) ?_ ?_
  rotate_left
  · intro w'
    go_simp
    with_reducible rfl
  rotate_left
  · simp only [Act.put, List.setIfInBounds_toArray, List.set_cons_zero, List.set_cons_succ, i64_w, i32_w]
    rfl
  refine pure_ (i := 10) (N := some 14) (v := ?_) (a' := ?_) #[true, true, false, true, false, false, false, true, true, false, true, false, false, false, false, false, false, false, false, false, false] rfl rfl (any_of HT_.out (by kernel_rfl)) (fun _ _ _ h => h) (Or.inl ⟨by rfl, ?_⟩) ?_ ?_
  rotate_left
  · intro w'
    go_simp
    with_reducible rfl
  rotate_left
  · simp only [Act.put, List.setIfInBounds_toArray, List.set_cons_zero, List.set_cons_succ, i64_w, i32_w]
    rfl
  refine pure_ (i := 15) (N := some 19) (v := ?_) (a' := ?_) #[true, true, false, true, false, false, false, true, true, false, true, false, false, false, false, true, false, false, false, false, false] rfl rfl (any_of HT_.out (by kernel_rfl)) (fun _ _ _ h => h) (Or.inl ⟨by rfl, ?_⟩) ?_ ?_
  rotate_left
  · intro w'
    go_simp
    with_reducible rfl
  rotate_left
  · simp only [Act.put, List.setIfInBounds_toArray, List.set_cons_zero, List.set_cons_succ, i64_w, i32_w]
    rfl
  refine take_ (i := 2) (N := some 6) (v := ?_) (a' := ?_) #[true, true, true, true, false, false, false, true, true, false, true, false, false, false, false, true, false, false, false, false, false] rfl rfl (take_of HT_.out (by kernel_rfl)) (fun _ _ _ h => h) (Or.inl ⟨by rfl, ?_⟩) HS.out ?_ ?_
  rotate_left
  · intro w' hS
    have c0 := blk_cell (blk_below HA0.out hS) 0
    simp at c0
    go_simp
    with_reducible rfl
  rotate_left
  · simp only [Act.put, List.setIfInBounds_toArray, List.set_cons_zero, List.set_cons_succ, i64_w, i32_w]
    rfl
  refine take_ (i := 4) (N := some 8) (v := ?_) (a' := ?_) #[true, true, true, true, true, false, false, true, true, false, true, false, false, false, false, true, false, false, false, false, false] rfl rfl (take_of HT_.out (by kernel_rfl)) (fun _ _ _ h => h) (Or.inl ⟨by rfl, ?_⟩) HS.out ?_ ?_
  rotate_left
  · intro w' hS
    have c0 := blk_cell (blk_below HA0.out hS) 3
    simp at c0
    go_simp
    with_reducible rfl
  rotate_left
  · simp only [Act.put, List.setIfInBounds_toArray, List.set_cons_zero, List.set_cons_succ, i64_w, i32_w]
    rfl
  refine take_ (i := 9) (N := some 13) (v := ?_) (a' := ?_) #[true, true, true, true, true, false, false, true, true, true, true, false, false, false, false, true, false, false, false, false, false] rfl rfl (take_of HT_.out (by kernel_rfl)) (fun _ _ _ h => h) (Or.inl ⟨by rfl, ?_⟩) HS.out ?_ ?_
  rotate_left
  · intro w' hS
    have c0 := blk_cell (blk_below HA0.out hS) 1
    simp at c0
    go_simp
    with_reducible rfl
  rotate_left
  · simp only [Act.put, List.setIfInBounds_toArray, List.set_cons_zero, List.set_cons_succ, i64_w, i32_w]
    rfl
  refine take_ (i := 11) (N := some 15) (v := ?_) (a' := ?_) #[true, true, true, true, true, false, false, true, true, true, true, true, false, false, false, true, false, false, false, false, false] rfl rfl (take_of HT_.out (by kernel_rfl)) (fun _ _ _ h => h) (Or.inl ⟨by rfl, ?_⟩) HS.out ?_ ?_
  rotate_left
  · intro w' hS
    have c0 := blk_cell (blk_below HA0.out hS) 4
    simp at c0
    go_simp
    with_reducible rfl
  rotate_left
  · simp only [Act.put, List.setIfInBounds_toArray, List.set_cons_zero, List.set_cons_succ, i64_w, i32_w]
    rfl
  refine take_ (i := 16) (N := some 20) (v := ?_) (a' := ?_) #[true, true, true, true, true, false, false, true, true, true, true, true, false, false, false, true, true, false, false, false, false] rfl rfl (take_of HT_.out (by kernel_rfl)) (fun _ _ _ h => h) (Or.inl ⟨by rfl, ?_⟩) HS.out ?_ ?_
  rotate_left
  · intro w' hS
    have c0 := blk_cell (blk_below HA0.out hS) 2
    simp at c0
    go_simp
    with_reducible rfl
  rotate_left
  · simp only [Act.put, List.setIfInBounds_toArray, List.set_cons_zero, List.set_cons_succ, i64_w, i32_w]
    rfl
  refine pure_ (i := 17) (N := some 21) (v := ?_) (a' := ?_) #[true, true, true, true, true, false, false, true, true, true, true, true, false, false, false, true, true, true, false, false, false] rfl rfl (any_of HT_.out (by kernel_rfl)) (fun _ _ _ h => h) (Or.inl ⟨by rfl, ?_⟩) ?_ ?_
  rotate_left
  · intro w'
    go_simp
    with_reducible rfl
  rotate_left
  · simp only [Act.put, List.setIfInBounds_toArray, List.set_cons_zero, List.set_cons_succ, i64_w, i32_w]
    rfl
  refine one_ (i := 5) (N := some 9) #[true, true, true, true, true, true, false, true, true, true, true, true, false, false, false, true, true, true, false, false, false] rfl rfl (one_of HT_.out (by kernel_rfl)) (by decide) (fun K hK => ?_)
  refine gov_ Tryd.func118 (by kernel_rfl) rfl #[.int .u32 s, .int .u16 sp] (by rfl) rfl rfl rfl (by (try simp only [List.map_toArray, List.map_cons, List.map_nil]); first | done | rfl) ?_
  have HGn := Aside0.mk (Go.Proofs.YtbnihnggljagnaaDoor.WorldA.GW.below HG.out (HBW.out.trans (HS.out.mono HBW.out.size)))
  refine (header_Text_1.calls s sp ta _ HGn.out A1.out).mono ?_
  rintro e w5 ⟨rfl, hbx⟩
  refine ⟨_, rfl, ?_⟩
  have HSn := Aside0.mk (HS.out.trans (hbx.mono HS.out.size))
  clear hbx HS HGn
  refine hK.out _ _ HSn.out (fun _ => ?_)
  clear hK K
  have HS := HSn
  clear HSn
  refine norm_ (a' := ?_) ?_ ?_
  rotate_left
  · show Act.put _ (some 9) _ = _
    simp only [Act.put, List.setIfInBounds_toArray, List.set_cons_zero, List.set_cons_succ, i64_w, i32_w]
    rfl
  refine pure_ (i := 6) (N := some 10) (v := ?_) (a' := ?_) #[true, true, true, true, true, true, true, true, true, true, true, true, false, false, false, true, true, true, false, false, false] rfl rfl (any_of HT_.out (by kernel_rfl)) (fun _ _ _ h => h) (Or.inl ⟨by rfl, ?_⟩) ?_ ?_
  rotate_left
  · intro w'
    go_simp
    with_reducible rfl
  rotate_left
  · simp only [Act.put, List.setIfInBounds_toArray, List.set_cons_zero, List.set_cons_succ, i64_w, i32_w]
    rfl
  refine one_ (i := 12) (N := some 16) #[true, true, true, true, true, true, true, true, true, true, true, true, true, false, false, true, true, true, false, false, false] rfl rfl (one_of HT_.out (by kernel_rfl)) (by decide) (fun K hK => ?_)
  refine gov_ Tryd.func118 (by kernel_rfl) rfl #[.int .u32 d, .int .u16 dp] (by rfl) rfl rfl rfl (by (try simp only [List.map_toArray, List.map_cons, List.map_nil]); first | done | rfl) ?_
  have HGn := Aside0.mk (Go.Proofs.YtbnihnggljagnaaDoor.WorldA.GW.below HG.out (HBW.out.trans (HS.out.mono HBW.out.size)))
  refine (header_Text_1.calls d dp tb _ HGn.out A2.out).mono ?_
  rintro e w12 ⟨rfl, hbx⟩
  refine ⟨_, rfl, ?_⟩
  have HSn := Aside0.mk (HS.out.trans (hbx.mono HS.out.size))
  clear hbx HS HGn
  refine hK.out _ _ HSn.out (fun _ => ?_)
  clear hK K
  have HS := HSn
  clear HSn
  refine norm_ (a' := ?_) ?_ ?_
  rotate_left
  · show Act.put _ (some 16) _ = _
    simp only [Act.put, List.setIfInBounds_toArray, List.set_cons_zero, List.set_cons_succ, i64_w, i32_w]
    rfl
  refine pure_ (i := 13) (N := some 17) (v := ?_) (a' := ?_) #[true, true, true, true, true, true, true, true, true, true, true, true, true, true, false, true, true, true, false, false, false] rfl rfl (any_of HT_.out (by kernel_rfl)) (fun _ _ _ h => h) (Or.inl ⟨by rfl, ?_⟩) ?_ ?_
  rotate_left
  · intro w'
    go_simp
    with_reducible rfl
  rotate_left
  · simp only [Act.put, List.setIfInBounds_toArray, List.set_cons_zero, List.set_cons_succ, i64_w, i32_w]
    rfl
  refine pure_ (i := 14) (N := some 18) (v := ?_) (a' := ?_) #[true, true, true, true, true, true, true, true, true, true, true, true, true, true, true, true, true, true, false, false, false] rfl rfl (any_of HT_.out (by kernel_rfl)) (fun _ _ _ h => h) (Or.inl ⟨by rfl, ?_⟩) ?_ ?_
  rotate_left
  · intro w'
    go_simp
    with_reducible rfl
  rotate_left
  · simp only [Act.put, List.setIfInBounds_toArray, List.set_cons_zero, List.set_cons_succ, i64_w, i32_w]
    rfl
  refine one_ (i := 18) (N := some 22) #[true, true, true, true, true, true, true, true, true, true, true, true, true, true, true, true, true, true, true, false, false] rfl rfl (one_of HT_.out (by kernel_rfl)) (by decide) (fun K hK => ?_)
  refine goes_ Tryd.func89 (by kernel_rfl) rfl #[.int .i64 p] (by rfl) rfl rfl (by (try simp only [List.map_toArray, List.map_cons, List.map_nil]); first | done | rfl) ?_
  have HGn := Aside0.mk (Go.Proofs.YtbnihnggljagnaaDoor.WorldA.GW.below HG.out (HBW.out.trans (HS.out.mono HBW.out.size)))
  refine (strconv_Itoa.calls p tc _ HGn.out A3.out).mono ?_
  rintro e w18 ⟨rfl, hbx⟩
  refine ⟨_, rfl, ?_⟩
  have HSn := Aside0.mk (HS.out.trans (hbx.mono HS.out.size))
  clear hbx HS HGn
  refine hK.out _ _ HSn.out (fun _ => ?_)
  clear hK K
  have HS := HSn
  clear HSn
  refine norm_ (a' := ?_) ?_ ?_
  rotate_left
  · show Act.put _ (some 22) _ = _
    simp only [Act.put, List.setIfInBounds_toArray, List.set_cons_zero, List.set_cons_succ, i64_w, i32_w]
    rfl
  refine pure_ (i := 19) (N := some 23) (v := ?_) (a' := ?_) #[true, true, true, true, true, true, true, true, true, true, true, true, true, true, true, true, true, true, true, true, false] rfl rfl (any_of HT_.out (by kernel_rfl)) (fun _ _ _ h => h) (Or.inl ⟨by rfl, ?_⟩) ?_ ?_
  rotate_left
  · intro w'
    go_simp
    with_reducible rfl
  rotate_left
  · simp only [Act.put, List.setIfInBounds_toArray, List.set_cons_zero, List.set_cons_succ, i64_w, i32_w]
    rfl
  refine pure_ (i := 20) (N := some 2) (v := ?_) (a' := ?_) #[true, true, true, true, true, true, true, true, true, true, true, true, true, true, true, true, true, true, true, true, true] rfl rfl (any_of HT_.out (by kernel_rfl)) (fun _ _ _ h => h) (Or.inl ⟨by rfl, ?_⟩) ?_ ?_
  rotate_left
  · intro w'
    go_simp
    with_reducible rfl
  rotate_left
  · simp only [Act.put, List.setIfInBounds_toArray, List.set_cons_zero, List.set_cons_succ, i64_w, i32_w]
    rfl
  refine done_ (done_of HT_.out (by kernel_rfl)) ?_
  go_wp2
  go_ret
  exact ⟨rfl, HBW.out.trans (HS.out.mono HBW.out.size)⟩
def header_Text.f (s d p sp dp : Int) : Option ByteArray := if 0 ≤ p ∧ p ≤ 255 then ((header_Text_1.f s sp).bind fun ta => (header_Text_1.f d dp).bind fun tb => (strconv_Itoa.f p).bind fun tc => if ta.size + 1 + tb.size + 1 + tc.size ≤ 9223372036854775807 then some (spaced ta tb tc) else none) else none
theorem header_Text.calls (s d p sp dp : Int) (r : ByteArray) (w : World) (hG : Go.Proofs.YtbnihnggljagnaaDoor.WorldA.GW w) (h : header_Text.f s d p sp dp = some r) :
    Calls Tryd.prog 56 #[.agg #[.int .u32 s, .int .u32 d, .int .u8 p, .int .u16 sp, .int .u16 dp]] w fun e w' => e = .returned (.string r) ∧ Below w.heap.size w w' := by
  unfold header_Text.f at h
  by_cases hp : 0 ≤ p ∧ p ≤ 255
  · rw [if_pos hp] at h
    obtain ⟨ta, h1, h⟩ := Option.bind_eq_some_iff.1 h
    obtain ⟨tb, h2, h⟩ := Option.bind_eq_some_iff.1 h
    obtain ⟨tc, h3, h⟩ := Option.bind_eq_some_iff.1 h
    by_cases c : ta.size + 1 + tb.size + 1 + tc.size ≤ 9223372036854775807
    · rw [if_pos c] at h
      obtain rfl := Option.some.inj h
      exact htext_calls s d p sp dp ta tb tc w hG h1 h2 h3 (by rw [IntKind.wrap_i64]; omega) (by omega) (by omega) (by omega) c
    · rw [if_neg c] at h; cases h
  · rw [if_neg hp] at h; cases h


/-! ### strings_Cut: function 82 -/
def strings_Cut.f (a0 : ByteArray) (a1 : ByteArray) : Option (ByteArray × ByteArray × Bool) :=
  if a0.size < 4294967281 then some (⟨(Lib.cut a0.data.toList a1.data.toList).1.toArray⟩, ⟨(Lib.cut a0.data.toList a1.data.toList).2.1.toArray⟩, (Lib.cut a0.data.toList a1.data.toList).2.2) else none
theorem strings_Cut.calls (a0 : ByteArray) (a1 : ByteArray) (r1 : ByteArray) (r2 : ByteArray) (r3 : Bool) (w : World) (hG : Go.Proofs.YtbnihnggljagnaaDoor.WorldA.GW w) (h : strings_Cut.f a0 a1 = some (r1, r2, r3)) :
    Calls Tryd.prog 82 #[.string a0, .string a1] w fun e w' => e = .returned (.tuple #[.string r1, .string r2, .bool r3]) ∧ Below w.heap.size w w' := by
  unfold strings_Cut.f at h
  by_cases h1 : a0.size < 4294967281
  · rw [if_pos h1] at h
    simp only [Option.some.injEq, Prod.mk.injEq] at h
    obtain ⟨rfl, rfl, rfl⟩ := h
    obtain ⟨m, hm⟩ := hG.len
    refine (Tryd.strings_Cut a0 a1 m w h1 hm).mono ?_
    rintro e w' ⟨rfl, n, rfl⟩
    exact ⟨rfl, pw_below_drewN (Below.refl _ _) n⟩
  · rw [if_neg h1] at h; cases h


/-! ### strconv_ParseUint: function 117 -/
/-- A text that is a number of the size: the number, and no error. -/
theorem pu_ok (s : ByteArray) (b : Int) (n : Nat) (hI : ∀ w, Calls Tryd.prog 165 #[.string s, .int .i64 10, .int .i64 b] w fun e w' => e = .returned (.tuple #[.int .u64 n, .nilIface]) ∧ (w' = w ∨ w' = Lib.bytesWorld w 5 s)) (w : World) :
    Calls Tryd.prog 117 #[.string s, .int .i64 10, .int .i64 b] w fun e w' => e = .returned (.tuple #[.int .u64 n, .nilIface]) ∧ Below w.heap.size w w' := by
  have HI := Aside0.mk hI
  clear hI
  go_enter Tryd.func117, Tryd.ntmps117
  go_wp2_with (go_at_call 165; refine (HI.out _).mono ?_; rintro e w1 ⟨rfl, hw1⟩; have HB := Aside0.mk (show Below w.heap.size w w1 from by (rcases hw1 with rfl | rfl; exact Below.refl _ _; exact Lib.bytesWorld_below _ _ _)); clear hw1)
  go_ret2
  exact ⟨rfl, HB.out⟩
/-- Any other text: some number, and an error. -/
theorem pu_no (s : ByteArray) (b m : Int) (t : Int) (ht : t = 1 ∨ t = 2) (hs : s.size ≤ 281474976710656) (hI : ∀ w, Calls Tryd.prog 165 #[.string s, .int .i64 10, .int .i64 b] w fun e w' => e = .returned (.tuple #[.int .u64 m, .iface 224 (.int .i64 t)]) ∧ (w' = w ∨ w' = Lib.bytesWorld w 5 s)) (w : World) (hG : WorldN.GN w) :
    Calls Tryd.prog 117 #[.string s, .int .i64 10, .int .i64 b] w fun e w' => (∃ N, e = .returned (.tuple #[.int .u64 m, .iface 227 (.pointer (some ⟨N, 0, none⟩))])) ∧ Below w.heap.size w w' := by
  have HI := Aside0.mk hI
  have HG := Aside0.mk hG
  have HS := Aside0.mk hs
  clear hI hG hs
  rcases ht with rfl | rfl
  · go_enter Tryd.func117, Tryd.ntmps117
    go_wp2_with (first | (go_at_call 165; refine (HI.out _).mono ?_; rintro e w1 ⟨rfl, hw1⟩; have HB := Aside0.mk (show Below w.heap.size w w1 from by (rcases hw1 with rfl | rfl; exact Below.refl _ _; exact Lib.bytesWorld_below _ _ _)); clear hw1; obtain ⟨ev, hv, hev⟩ := (HG.out.below HB.out).rng; have HV := Aside0.mk hv; have HE := Aside0.mk hev; clear hv hev) | (go_at_call 158; refine (Tryd.strconv_toError_range _ s 10 b ev _ HS.out HV.out HE.out).mono ?_; rintro e w2 ⟨N, rfl, -, -, hb⟩; have HB2 := Aside0.mk (HB.out.trans (hb.mono HB.out.size)); clear hb))
    go_ret2
    exact ⟨⟨N, rfl⟩, HB2.out⟩
  · go_enter Tryd.func117, Tryd.ntmps117
    go_wp2_with (first | (go_at_call 165; refine (HI.out _).mono ?_; rintro e w1 ⟨rfl, hw1⟩; have HB := Aside0.mk (show Below w.heap.size w w1 from by (rcases hw1 with rfl | rfl; exact Below.refl _ _; exact Lib.bytesWorld_below _ _ _)); clear hw1; obtain ⟨ev, hv, hev⟩ := (HG.out.below HB.out).syn; have HV := Aside0.mk hv; have HE := Aside0.mk hev; clear hv hev) | (go_at_call 158; refine (Tryd.strconv_toError_syntax _ s 10 b ev _ HS.out HV.out HE.out).mono ?_; rintro e w2 ⟨N, rfl, -, -, hb⟩; have HB2 := Aside0.mk (HB.out.trans (hb.mono HB.out.size)); clear hb))
    go_ret2
    exact ⟨⟨N, rfl⟩, HB2.out⟩
/-- What a text says as a number of a size: the number, if it is one. -/
def puN (k : Nat) (s : ByteArray) : Option Int := match Lib.parseUintB k s.data.toList with | .ok n => some n | _ => none
theorem pu16_ok (s : ByteArray) (v : Int) (hs : s.size ≤ 281474976710656) (h : puN 16 s = some v) (w : World) :
    Calls Tryd.prog 117 #[.string s, .int .i64 10, .int .i64 16] w fun e w' => e = .returned (.tuple #[.int .u64 v, .nilIface]) ∧ Below w.heap.size w w' := by
  unfold puN at h
  have hI := fun w => Tryd.internal_strconv_ParseUint_10_at16 s (by omega) w
  rcases hp : Lib.parseUintB 16 s.data.toList with n | _ | _
  · rw [hp] at h; obtain rfl := Option.some.inj h
    exact pu_ok s 16 n (fun w => by have := hI w; rw [hp] at this; exact this) w
  · rw [hp] at h; cases h
  · rw [hp] at h; cases h
theorem pu16_no (s : ByteArray) (hs : s.size ≤ 281474976710656) (h : puN 16 s = none) (w : World) (hG : WorldN.GN w) :
    Calls Tryd.prog 117 #[.string s, .int .i64 10, .int .i64 16] w fun e w' => (∃ (m : Int) (N : Nat), e = .returned (.tuple #[.int .u64 m, .iface 227 (.pointer (some ⟨N, 0, none⟩))])) ∧ Below w.heap.size w w' := by
  unfold puN at h
  have hI := fun w => Tryd.internal_strconv_ParseUint_10_at16 s (by omega) w
  rcases hp : Lib.parseUintB 16 s.data.toList with n | _ | _
  · rw [hp] at h; cases h
  · refine (pu_no s 16 0 2 (.inr rfl) hs (fun w => by have := hI w; rw [hp] at this; exact this) w hG).mono ?_
    rintro e w' ⟨⟨N, rfl⟩, hb⟩
    exact ⟨⟨_, N, rfl⟩, hb⟩
  · refine (pu_no s 16 65535 1 (.inl rfl) hs (fun w => by have := hI w; rw [hp] at this; exact this) w hG).mono ?_
    rintro e w' ⟨⟨N, rfl⟩, hb⟩
    exact ⟨⟨_, N, rfl⟩, hb⟩
theorem pu8_ok (s : ByteArray) (v : Int) (hs : s.size ≤ 281474976710656) (h : puN 8 s = some v) (w : World) :
    Calls Tryd.prog 117 #[.string s, .int .i64 10, .int .i64 8] w fun e w' => e = .returned (.tuple #[.int .u64 v, .nilIface]) ∧ Below w.heap.size w w' := by
  unfold puN at h
  have hI := fun w => Tryd.internal_strconv_ParseUint_10_at8 s (by omega) w
  rcases hp : Lib.parseUintB 8 s.data.toList with n | _ | _
  · rw [hp] at h; obtain rfl := Option.some.inj h
    exact pu_ok s 8 n (fun w => by have := hI w; rw [hp] at this; exact this) w
  · rw [hp] at h; cases h
  · rw [hp] at h; cases h
theorem pu8_no (s : ByteArray) (hs : s.size ≤ 281474976710656) (h : puN 8 s = none) (w : World) (hG : WorldN.GN w) :
    Calls Tryd.prog 117 #[.string s, .int .i64 10, .int .i64 8] w fun e w' => (∃ (m : Int) (N : Nat), e = .returned (.tuple #[.int .u64 m, .iface 227 (.pointer (some ⟨N, 0, none⟩))]) ∧ 0 ≤ m ∧ m ≤ 255) ∧ Below w.heap.size w w' := by
  unfold puN at h
  have hI := fun w => Tryd.internal_strconv_ParseUint_10_at8 s (by omega) w
  rcases hp : Lib.parseUintB 8 s.data.toList with n | _ | _
  · rw [hp] at h; cases h
  · refine (pu_no s 8 0 2 (.inr rfl) hs (fun w => by have := hI w; rw [hp] at this; exact this) w hG).mono ?_
    rintro e w' ⟨⟨N, rfl⟩, hb⟩
    exact ⟨⟨_, N, rfl, by decide, by decide⟩, hb⟩
  · refine (pu_no s 8 255 1 (.inl rfl) hs (fun w => by have := hI w; rw [hp] at this; exact this) w hG).mono ?_
    rintro e w' ⟨⟨N, rfl⟩, hb⟩
    exact ⟨⟨_, N, rfl, by decide, by decide⟩, hb⟩


end Go.Proofs.YtbnihnggljagnaaDoor.QHeaderBack
