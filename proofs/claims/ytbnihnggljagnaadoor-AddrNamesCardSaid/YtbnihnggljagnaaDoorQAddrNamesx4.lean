-- Written by this session's program (wip/tools/printx.py) over the kit's print; the texts marked HAND are its own. Lean checks it.
import Derived.Test.YtbnihnggljagnaaDoorQAddrNamesx0
import Derived.Test.YtbnihnggljagnaaDoorQAddrNamesx1
import Derived.Test.YtbnihnggljagnaaDoorQAddrNamesx2
import Derived.Test.YtbnihnggljagnaaDoorQAddrNamesx3
namespace Go.Proofs.YtbnihnggljagnaaDoor.QAddrNames
open Go.RowKit Go.Proofs.YtbnihnggljagnaaDoorW.PrintWords Go.Proofs.YtbnihnggljagnaaDoorW.PrintLast Go.Proofs.YtbnihnggljagnaaDoorW.PrintMore
attribute [local go_sem] max2_int min2_int max_two min_two max_three min_three max_four min_four   -- for this text's walks alone
attribute [local go_sem high] Go.Proofs.YtbnihnggljagnaaDoor.Base.ux_u32 Go.Proofs.YtbnihnggljagnaaDoor.Base.ux_u64 Go.Proofs.YtbnihnggljagnaaDoor.Base.ux_u8 Go.Proofs.YtbnihnggljagnaaDoor.Base.ux_u16
set_option linter.unusedVariables false
set_option linter.unusedSimpArgs false

/-! ### waymarklaw01_AddrNames: function 10 -/
mutual
def waymarklaw01_AddrNames.l0 : Nat → List ByteArray → Int → Int → Option (Bool)
 | 0, _, _, _ => none
 | k + 1, x39, x40, x41 => if x41 < x40 then (if 0 ≤ x41 then (if x41 < (x39.length : Int) then ((addr_Parse.f k (rdOf ByteArray.empty x39 x41)).bind fun bt159 => (if bt159.2 = 4 then (waymarklaw01_AddrNames.l0 k x39 x40 (wrap64 (x41 + 1))) else (none))) else (none)) else (none)) else ((addr_ParsePrefix.f k (⟨#[48, 46, 48, 46, 48, 46, 48, 47, 48]⟩ : ByteArray)).bind fun bt161 => ((addr_ParsePrefix.f k (⟨#[50, 53, 53, 46, 50, 53, 53, 46, 50, 53, 53, 46, 50, 53, 53, 47, 51, 50]⟩ : ByteArray)).bind fun bt165 => ((addr_ParsePrefix.f k (⟨#[49, 50, 56, 46, 48, 46, 48, 46, 48, 47, 48]⟩ : ByteArray)).bind fun bt169 => ((addr_ParsePrefix.f k (⟨#[48, 46, 48, 46, 48, 46, 48, 47, 51, 51]⟩ : ByteArray)).bind fun bt173 => ((addr_Mask.f 0).bind fun bt177 => ((addr_Mask.f 32).bind fun bt179 => (if bt161.2.2 = 0 then (if bt165.2.2 = 0 then (if bt169.2.2 = 10 then (if bt173.2.2 = 4 then (if bt177.2 = 0 then (if bt179.2 = 0 then (if bt177.1 = 0 then (if bt179.1 = 4294967295 then ((addr_In.f k 0 bt161.1 bt161.2.1).bind fun t181 => (if t181 = true then ((addr_In.f k 4294967295 bt161.1 bt161.2.1).bind fun t182 => (if t182 = true then ((addr_In.f k 4294967295 bt165.1 bt165.2.1).bind fun t183 => (if t183 = true then ((addr_In.f k 0 bt165.1 bt165.2.1).bind fun t184 => (if t184 = true then (none) else ((addr_Within.f k bt165.1 bt165.2.1 bt161.1 bt161.2.1).bind fun t185 => (waymarklaw01_AddrNames.j1 k (!t185) bt161.1 bt161.2.1 bt165.1 bt165.2.1)))) else (none))) else (none))) else (none))) else (none)) else (none)) else (none)) else (none)) else (none)) else (none)) else (none)) else (none))))))))
def waymarklaw01_AddrNames.j1 : Nat → Bool → Int → Int → Int → Int → Option (Bool)
 | 0, _, _, _, _, _ => none
 | k + 1, x131, x165000, x165001, x169000, x169001 => if x131 = true then (none) else ((addr_Halves.f k x169000 x169001).bind fun bt186 => ((addr_Ends.f k x165000 x165001).bind fun bt193 => ((addr_Cut.f 0 4294967295).bind fun bt196 => ((addr_Cut.f 1 4294967294).bind fun bt200 => ((addr_Cut.f 1 0).bind fun bt204 => (if bt186.2.2.2.2 = 5 then (if bt193.2.2 = 0 then (if bt193.1 = 0 then (if bt193.2.1 = 4294967295 then (if bt196.2 = 0 then (if (bt196.1.length : Int) = 1 then (if bt200.2 = 0 then (if (bt200.1.length : Int) = 62 then (if bt204.2 = 1 then ((addr_PrefixText.f 0 (-5)).bind fun t208 => (some (t208.toList == ([48, 46, 48, 46, 48, 46, 48, 47, 45, 53] : List UInt8)))) else (none)) else (none)) else (none)) else (none)) else (none)) else (none)) else (none)) else (none)) else (none)))))))
end
def waymarklaw01_AddrNames.f (k : Nat)  : Option (Bool) := (waymarklaw01_works.f k).bind fun t154 => (if t154 = true then ((some (([(⟨#[50, 53, 54, 46, 48, 46, 48, 46, 49]⟩ : ByteArray), (⟨#[49, 46, 50, 46, 51]⟩ : ByteArray), (⟨#[49, 46, 50, 46, 51, 46, 52, 46, 53]⟩ : ByteArray), (⟨#[49, 46, 46, 50, 46, 51]⟩ : ByteArray), (⟨#[48, 49, 46, 50, 46, 51, 46, 52]⟩ : ByteArray)] : List ByteArray) : List ByteArray)).bind fun y155 => (waymarklaw01_AddrNames.l0 k y155 (y155.length : Int) 0)) else (none))
theorem waymarklaw01_AddrNames.mono_l : ∀ k, (∀ y0 y1 y2, LeO (waymarklaw01_AddrNames.l0 k y0 y1 y2) (waymarklaw01_AddrNames.l0 (k + 1) y0 y1 y2)) ∧ (∀ y0 y1 y2 y3 y4, LeO (waymarklaw01_AddrNames.j1 k y0 y1 y2 y3 y4) (waymarklaw01_AddrNames.j1 (k + 1) y0 y1 y2 y3 y4))
 | 0 => ⟨fun _ _ _ r h => by simp [waymarklaw01_AddrNames.l0] at h, fun _ _ _ _ _ r h => by simp [waymarklaw01_AddrNames.j1] at h⟩
 | k + 1 => by
  obtain ⟨ih0, ih1⟩ := waymarklaw01_AddrNames.mono_l k
  refine ⟨?_, ?_⟩
  ·intro y0 y1 y2
   unfold waymarklaw01_AddrNames.l0
   repeat' first
   | (with_reducible exact ih0 _ _ _)
   | (with_reducible exact ih1 _ _ _ _ _)
   | (with_reducible exact addr_Ends.mono _ _ _)
   | (with_reducible exact addr_Halves.mono _ _ _)
   | (with_reducible exact addr_In.mono _ _ _ _)
   | (with_reducible exact addr_Parse.mono _ _)
   | (with_reducible exact addr_ParsePrefix.mono _ _)
   | (with_reducible exact addr_Within.mono _ _ _ _ _)
   | (with_reducible exact waymarklaw01_works.mono _)
   | (with_reducible exact LeO.refl _)
   | (with_reducible exact LeO.none _)
   | (with_reducible refine LeO.ite ?_ ?_)
   | (with_reducible refine LeO.bind ?_ (fun _ => ?_))
   | exact ih0 _ _ _
   | exact ih1 _ _ _ _ _
   | exact addr_Ends.mono _ _ _
   | exact addr_Halves.mono _ _ _
   | exact addr_In.mono _ _ _ _
   | exact addr_Parse.mono _ _
   | exact addr_ParsePrefix.mono _ _
   | exact addr_Within.mono _ _ _ _ _
   | exact waymarklaw01_works.mono _
   | exact LeO.none _
   | refine LeO.ite ?_ ?_
   | refine LeO.bind ?_ (fun _ => ?_)
  ·intro y0 y1 y2 y3 y4
   unfold waymarklaw01_AddrNames.j1
   repeat' first
   | (with_reducible exact ih0 _ _ _)
   | (with_reducible exact ih1 _ _ _ _ _)
   | (with_reducible exact addr_Ends.mono _ _ _)
   | (with_reducible exact addr_Halves.mono _ _ _)
   | (with_reducible exact addr_In.mono _ _ _ _)
   | (with_reducible exact addr_Parse.mono _ _)
   | (with_reducible exact addr_ParsePrefix.mono _ _)
   | (with_reducible exact addr_Within.mono _ _ _ _ _)
   | (with_reducible exact waymarklaw01_works.mono _)
   | (with_reducible exact LeO.refl _)
   | (with_reducible exact LeO.none _)
   | (with_reducible refine LeO.ite ?_ ?_)
   | (with_reducible refine LeO.bind ?_ (fun _ => ?_))
   | exact ih0 _ _ _
   | exact ih1 _ _ _ _ _
   | exact addr_Ends.mono _ _ _
   | exact addr_Halves.mono _ _ _
   | exact addr_In.mono _ _ _ _
   | exact addr_Parse.mono _ _
   | exact addr_ParsePrefix.mono _ _
   | exact addr_Within.mono _ _ _ _ _
   | exact waymarklaw01_works.mono _
   | exact LeO.none _
   | refine LeO.ite ?_ ?_
   | refine LeO.bind ?_ (fun _ => ?_)
theorem waymarklaw01_AddrNames.mono : ∀ k, LeO (waymarklaw01_AddrNames.f k ) (waymarklaw01_AddrNames.f (k + 1) ) := by
 intro  k
 obtain ⟨ih0, ih1⟩ := waymarklaw01_AddrNames.mono_l k
 unfold waymarklaw01_AddrNames.f
 repeat' first
   | (with_reducible exact ih0 _ _ _)
   | (with_reducible exact ih1 _ _ _ _ _)
   | (with_reducible exact addr_Ends.mono _ _ _)
   | (with_reducible exact addr_Halves.mono _ _ _)
   | (with_reducible exact addr_In.mono _ _ _ _)
   | (with_reducible exact addr_Parse.mono _ _)
   | (with_reducible exact addr_ParsePrefix.mono _ _)
   | (with_reducible exact addr_Within.mono _ _ _ _ _)
   | (with_reducible exact waymarklaw01_works.mono _)
   | (with_reducible exact LeO.refl _)
   | (with_reducible exact LeO.none _)
   | (with_reducible refine LeO.ite ?_ ?_)
   | (with_reducible refine LeO.bind ?_ (fun _ => ?_))
   | exact ih0 _ _ _
   | exact ih1 _ _ _ _ _
   | exact addr_Ends.mono _ _ _
   | exact addr_Halves.mono _ _ _
   | exact addr_In.mono _ _ _ _
   | exact addr_Parse.mono _ _
   | exact addr_ParsePrefix.mono _ _
   | exact addr_Within.mono _ _ _ _ _
   | exact waymarklaw01_works.mono _
   | exact LeO.none _
   | refine LeO.ite ?_ ?_
   | refine LeO.bind ?_ (fun _ => ?_)
set_option maxHeartbeats 8000000 in
set_option maxRecDepth 100000 in
theorem waymarklaw01_AddrNames.calls (k : Nat)  (r : Bool) (w : World) (hG : Go.Proofs.YtbnihnggljagnaaDoor.WorldA.GW w) (h : waymarklaw01_AddrNames.f k  = some r) :
  Calls Tryd.prog 10 #[] w fun e w' => e = .returned (.bool r) ∧ Below w.heap.size w w' := by
 have hu42 := Tryd.underlying42
 have HGW_ := Aside0.mk hG
 clear hG
 have HB := Aside0.mk (Below.refl w.heap.size w)
 have H : ((waymarklaw01_works.f k).bind fun t154 => (if t154 = true then ((some (([(⟨#[50, 53, 54, 46, 48, 46, 48, 46, 49]⟩ : ByteArray), (⟨#[49, 46, 50, 46, 51]⟩ : ByteArray), (⟨#[49, 46, 50, 46, 51, 46, 52, 46, 53]⟩ : ByteArray), (⟨#[49, 46, 46, 50, 46, 51]⟩ : ByteArray), (⟨#[48, 49, 46, 50, 46, 51, 46, 52]⟩ : ByteArray)] : List ByteArray) : List ByteArray)).bind fun y155 => (waymarklaw01_AddrNames.l0 k y155 (y155.length : Int) 0)) else (none))) = some r := h
 clear h
 replace H := Option.bind_eq_some_iff.mp H
 obtain ⟨t154, A10, H⟩ := H
 replace H : (if t154 = true then ((some (([(⟨#[50, 53, 54, 46, 48, 46, 48, 46, 49]⟩ : ByteArray), (⟨#[49, 46, 50, 46, 51]⟩ : ByteArray), (⟨#[49, 46, 50, 46, 51, 46, 52, 46, 53]⟩ : ByteArray), (⟨#[49, 46, 46, 50, 46, 51]⟩ : ByteArray), (⟨#[48, 49, 46, 50, 46, 51, 46, 52]⟩ : ByteArray)] : List ByteArray) : List ByteArray)).bind fun y155 => (waymarklaw01_AddrNames.l0 k y155 (y155.length : Int) 0)) else (none)) = some r := H
 have A1 := Aside0.mk A10
 clear A10
 by_cases c2 : t154 = true
 ·subst c2
  have H1 : ((some (([(⟨#[50, 53, 54, 46, 48, 46, 48, 46, 49]⟩ : ByteArray), (⟨#[49, 46, 50, 46, 51]⟩ : ByteArray), (⟨#[49, 46, 50, 46, 51, 46, 52, 46, 53]⟩ : ByteArray), (⟨#[49, 46, 46, 50, 46, 51]⟩ : ByteArray), (⟨#[48, 49, 46, 50, 46, 51, 46, 52]⟩ : ByteArray)] : List ByteArray) : List ByteArray)).bind fun y155 => (waymarklaw01_AddrNames.l0 k y155 (y155.length : Int) 0)) = some r := by rw [if_pos rfl] at H; exact H
  clear H
  have H := H1
  clear H1
  obtain ⟨y155, hy155⟩ : ∃ y_ : List ByteArray, y_ = (([(⟨#[50, 53, 54, 46, 48, 46, 48, 46, 49]⟩ : ByteArray), (⟨#[49, 46, 50, 46, 51]⟩ : ByteArray), (⟨#[49, 46, 50, 46, 51, 46, 52, 46, 53]⟩ : ByteArray), (⟨#[49, 46, 46, 50, 46, 51]⟩ : ByteArray), (⟨#[48, 49, 46, 50, 46, 51, 46, 52]⟩ : ByteArray)] : List ByteArray)) := ⟨_, rfl⟩
  replace H : (waymarklaw01_AddrNames.l0 k y155 (y155.length : Int) 0) = some r := by first | (rw [hy155]; with_reducible exact H) | (have H2_ := (Option.bind_some _ _).symm.trans H; rw [hy155]; with_reducible exact H2_) | (have H2_ := (Option.bind_some _ _).symm.trans H; with_reducible exact H2_) | with_reducible exact H | (rw [hy155]; exact H) | exact H
  have Ny155 := Aside0.mk hy155
  clear hy155
  have H' := Aside0.mk H
  clear H
  go_enter Tryd.func10, Tryd.ntmps10
  go_wp2_with (first | ((with_reducible refine gate_callee (f := 47) rfl ?_); refine goesL_ (some 29) rfl rfl Tryd.func47 (by kernel_rfl) rfl #[] rfl (by (try simp only [List.map_toArray, List.map_cons, List.map_nil]); first | done | rfl | (simp only [List.length_drop, List.length_take]; rfl)) ?_; (with_reducible refine (waymarklaw01_works.calls k  true _ ?side1 A1.out).mono ?_); (case side1 => exact Go.Proofs.YtbnihnggljagnaaDoor.WorldA.GW.below HGW_.out (by repeat (first | (with_reducible first | exact HB.out | apply below_alloc | apply pw_below_drewN | apply below_drew1) | exact HB.out))); rintro e w3 ⟨rfl, hb⟩; refine ⟨_, rfl, ?_⟩; have n0_ := Aside0.mk (below_step (by repeat (first | (with_reducible first | exact HB.out | apply below_alloc | apply pw_below_drewN | apply below_drew1) | exact HB.out)) hb); clear HB; have HB := n0_; clear n0_; (try clear hb); (try clear hb2); (try clear hk); (try clear hi)) | ((with_reducible refine gate_dst (N := 39) rfl ?_); (try (refine gate_guard (by rfl) ?_; dsimp only)); refine Kd.R_lit Kd.string _ 9 ?hg (N := 39) ?hd (xs := ([(⟨#[50, 53, 54, 46, 48, 46, 48, 46, 49]⟩ : ByteArray), (⟨#[49, 46, 50, 46, 51]⟩ : ByteArray), (⟨#[49, 46, 50, 46, 51, 46, 52, 46, 53]⟩ : ByteArray), (⟨#[49, 46, 46, 50, 46, 51]⟩ : ByteArray), (⟨#[48, 49, 46, 50, 46, 51, 46, 52]⟩ : ByteArray)] : List ByteArray)) (inner := [.string (⟨#[50, 53, 54, 46, 48, 46, 48, 46, 49]⟩ : ByteArray), .string (⟨#[49, 46, 50, 46, 51]⟩ : ByteArray), .string (⟨#[49, 46, 50, 46, 51, 46, 52, 46, 53]⟩ : ByteArray), .string (⟨#[49, 46, 46, 50, 46, 51]⟩ : ByteArray), .string (⟨#[48, 49, 46, 50, 46, 51, 46, 52]⟩ : ByteArray)]) (ok := fun _ => True) (okp := fun _ => True) ?hr ?hp (fun _ hk => hk) trivial (Below.refl _ _) (Nat.le_refl _) (by simp) ?_; (case hd => rfl); (case hg => rfl); (case hr => first | (go_simp; done) | (go_simp; rfl)); (case hp => exact (Reps.one (show Kd.M Kd.string _ _ _ (⟨#[50, 53, 54, 46, 48, 46, 48, 46, 49]⟩ : ByteArray) [.string (⟨#[50, 53, 54, 46, 48, 46, 48, 46, 49]⟩ : ByteArray)] from rfl) (Reps.one (show Kd.M Kd.string _ _ _ (⟨#[49, 46, 50, 46, 51]⟩ : ByteArray) [.string (⟨#[49, 46, 50, 46, 51]⟩ : ByteArray)] from rfl) (Reps.one (show Kd.M Kd.string _ _ _ (⟨#[49, 46, 50, 46, 51, 46, 52, 46, 53]⟩ : ByteArray) [.string (⟨#[49, 46, 50, 46, 51, 46, 52, 46, 53]⟩ : ByteArray)] from rfl) (Reps.one (show Kd.M Kd.string _ _ _ (⟨#[49, 46, 46, 50, 46, 51]⟩ : ByteArray) [.string (⟨#[49, 46, 46, 50, 46, 51]⟩ : ByteArray)] from rfl) (Reps.one (show Kd.M Kd.string _ _ _ (⟨#[48, 49, 46, 50, 46, 51, 46, 52]⟩ : ByteArray) [.string (⟨#[48, 49, 46, 50, 46, 51, 46, 52]⟩ : ByteArray)] from rfl) (Reps.none _ _))))))); intro v156 w4 ho5 hb hg_ hnew_; clear hg_ hnew_; (first | rw [← Ny155.out] at ho5 | (simp only [Int.reduceToNat] at ho5; rw [← Ny155.out] at ho5)); have n0_ := Aside0.mk (Kd.R_lower ho5 (below_size (by repeat (first | (with_reducible first | exact HB.out | apply below_alloc | apply pw_below_drewN | apply below_drew1) | exact HB.out)))); have n1_ := Aside0.mk (below_step (by repeat (first | (with_reducible first | exact HB.out | apply below_alloc | apply pw_below_drewN | apply below_drew1) | exact HB.out)) hb); clear HB; have HO157 := n0_; have HB := n1_; clear n0_ n1_; clear hb ho5; obtain ⟨Ao6, co6, eo6⟩ := Kd.R_slice HO157.out; subst eo6))
  go_loopg [41] k (fun kq v41 w' => ∃ (x41_1 : Int), v41 = .int .i64 x41_1 ∧ Aside0 (waymarklaw01_AddrNames.l0 kq y155 (y155.length : Int) x41_1 = some r) ∧ Aside0 (kq ≤ k) ∧ Aside0 (Kd.R Kd.string 9 w' w.heap.size (fun _ => True) (.slice Ao6 y155.length co6) y155) ∧ Aside0 (Below w.heap.size w w'))
  case atStart => exact ⟨(0), (by first | rfl | (simp; done) | (simp [*]; done)), H', ⟨Nat.le_refl _⟩, ⟨by (with_reducible repeat (first | apply Kd.R_alloc | apply Kd.R_drewN | apply Kd.R_drew)); exact HO157.out⟩, ⟨by repeat (first | (with_reducible first | exact HB.out | apply below_alloc | apply pw_below_drewN | apply below_drew1) | exact HB.out)⟩⟩
  case round =>
   clear H'
   try clear c1
   try clear c2
   try clear p2
   try clear c4
   obtain ⟨x41_1, rfl, HA, HK1, HO_39, HB⟩ := hrel
   cases gk with
   | zero => exact absurd HA.out (by simp [waymarklaw01_AddrNames.l0])
   | succ k1 =>
    have H := HA.out
    clear HA
    simp only [waymarklaw01_AddrNames.l0] at H
    by_cases c7 : x41_1 < (y155.length : Int)
    ·rw [if_pos c7] at H
     have c7b0 : decide (x41_1 < (y155.length : Int)) = true := decide_eq_true c7
     clear c7
     by_cases c8 : 0 ≤ x41_1
     ·rw [if_pos c8] at H
      have c8b0 : decide (0 ≤ x41_1) = true := decide_eq_true c8
      clear c8
      by_cases c9 : x41_1 < (y155.length : Int)
      ·rw [if_pos c9] at H
       have c9b0 : decide (x41_1 < (y155.length : Int)) = true := decide_eq_true c9
       clear c9
       replace H := Option.bind_eq_some_iff.mp H
       obtain ⟨⟨t159, t160⟩, A100, H⟩ := H
       replace H : (if t160 = 4 then (waymarklaw01_AddrNames.l0 k1 y155 (y155.length : Int) (wrap64 (x41_1 + 1))) else (none)) = some r := H
       have A10 := Aside0.mk A100
       clear A100
       by_cases c11 : t160 = 4
       ·rw [if_pos c11] at H
        have c11b0 : (t160 == 4) = true := beq_iff_eq.mpr c11
        have c11b1 : (t160 != 4) = false := bne_eq_false_iff_eq.mpr c11
        clear c11
        as_aux_lemma =>
         have H' := Aside0.mk H
         clear H
         have p158 : 0 ≤ (x41_1 : Int) := of_decide_eq_true (by first | (with_reducible assumption) | assumption)
         have q158 : x41_1 < (y155.length : Int) := of_decide_eq_true (by first | (with_reducible assumption) | assumption)
         obtain ⟨ad158, e158, hx158_0⟩ := Kd.at_string (Kd.R_reads' HO_39.out).2.2 x41_1 p158 q158
         cases e158
         replace p158 := eq_true p158
         replace q158 := eq_true q158
         go_wp2_with (first | ((with_reducible refine gate_callee (f := 38) rfl ?_); refine goesL_ (some 47) rfl rfl Tryd.func38 (by kernel_rfl) rfl #[.string (rdOf ByteArray.empty y155 x41_1)] rfl (by (try simp only [List.map_toArray, List.map_cons, List.map_nil]); first | done | rfl | (simp only [List.length_drop, List.length_take]; rfl)) ?_; (with_reducible refine (addr_Parse.calls k1 (rdOf ByteArray.empty y155 x41_1) t159 t160 _ ?side1 A10.out).mono ?_); (case side1 => exact Go.Proofs.YtbnihnggljagnaaDoor.WorldA.GW.below HGW_.out (by repeat (first | (with_reducible first | exact HB.out | apply below_alloc | apply pw_below_drewN | apply below_drew1) | exact HB.out))); rintro e w12 ⟨rfl, hb⟩; refine ⟨_, rfl, ?_⟩; have n0_ := Aside0.mk (Kd.R_below (by (with_reducible repeat (first | apply Kd.R_alloc | apply Kd.R_drewN | apply Kd.R_drew)); exact HO_39.out) hb); have n1_ := Aside0.mk (below_step (by repeat (first | (with_reducible first | exact HB.out | apply below_alloc | apply pw_below_drewN | apply below_drew1) | exact HB.out)) hb); clear HO_39; clear HB; have HO_39 := n0_; have HB := n1_; clear n0_ n1_; (try clear hb); (try clear hb2); (try clear hk); (try clear hi)))
         go_roundg k1
         case measure => have := HK1.out; omega
         case rel => exact ⟨(wrap64 (x41_1 + 1)), (by first | rfl | (simp; done) | (simp [*]; done)), H', ⟨by have := HK1.out; omega⟩, ⟨by (with_reducible repeat (first | apply Kd.R_alloc | apply Kd.R_drewN | apply Kd.R_drew)); exact HO_39.out⟩, ⟨by repeat (first | (with_reducible first | exact HB.out | apply below_alloc | apply pw_below_drewN | apply below_drew1) | exact HB.out)⟩⟩
       ·rw [if_neg c11] at H
        exact absurd H (by simp)
      ·rw [if_neg c9] at H
       exact absurd H (by simp)
     ·rw [if_neg c8] at H
      exact absurd H (by simp)
    ·rw [if_neg c7] at H
     have c7b0 : decide (x41_1 < (y155.length : Int)) = false := decide_eq_false c7
     clear c7
     replace H := Option.bind_eq_some_iff.mp H
     obtain ⟨⟨t161, t162, t163⟩, A130, H⟩ := H
     replace H : ((addr_ParsePrefix.f k1 (⟨#[50, 53, 53, 46, 50, 53, 53, 46, 50, 53, 53, 46, 50, 53, 53, 47, 51, 50]⟩ : ByteArray)).bind fun bt165 => ((addr_ParsePrefix.f k1 (⟨#[49, 50, 56, 46, 48, 46, 48, 46, 48, 47, 48]⟩ : ByteArray)).bind fun bt169 => ((addr_ParsePrefix.f k1 (⟨#[48, 46, 48, 46, 48, 46, 48, 47, 51, 51]⟩ : ByteArray)).bind fun bt173 => ((addr_Mask.f 0).bind fun bt177 => ((addr_Mask.f 32).bind fun bt179 => (if t163 = 0 then (if bt165.2.2 = 0 then (if bt169.2.2 = 10 then (if bt173.2.2 = 4 then (if bt177.2 = 0 then (if bt179.2 = 0 then (if bt177.1 = 0 then (if bt179.1 = 4294967295 then ((addr_In.f k1 0 t161 t162).bind fun t181 => (if t181 = true then ((addr_In.f k1 4294967295 t161 t162).bind fun t182 => (if t182 = true then ((addr_In.f k1 4294967295 bt165.1 bt165.2.1).bind fun t183 => (if t183 = true then ((addr_In.f k1 0 bt165.1 bt165.2.1).bind fun t184 => (if t184 = true then (none) else ((addr_Within.f k1 bt165.1 bt165.2.1 t161 t162).bind fun t185 => (waymarklaw01_AddrNames.j1 k1 (!t185) t161 t162 bt165.1 bt165.2.1)))) else (none))) else (none))) else (none))) else (none)) else (none)) else (none)) else (none)) else (none)) else (none)) else (none)) else (none))))))) = some r := H
     have A13 := Aside0.mk A130
     clear A130
     replace H := Option.bind_eq_some_iff.mp H
     obtain ⟨⟨t165, t166, t167⟩, A140, H⟩ := H
     replace H : ((addr_ParsePrefix.f k1 (⟨#[49, 50, 56, 46, 48, 46, 48, 46, 48, 47, 48]⟩ : ByteArray)).bind fun bt169 => ((addr_ParsePrefix.f k1 (⟨#[48, 46, 48, 46, 48, 46, 48, 47, 51, 51]⟩ : ByteArray)).bind fun bt173 => ((addr_Mask.f 0).bind fun bt177 => ((addr_Mask.f 32).bind fun bt179 => (if t163 = 0 then (if t167 = 0 then (if bt169.2.2 = 10 then (if bt173.2.2 = 4 then (if bt177.2 = 0 then (if bt179.2 = 0 then (if bt177.1 = 0 then (if bt179.1 = 4294967295 then ((addr_In.f k1 0 t161 t162).bind fun t181 => (if t181 = true then ((addr_In.f k1 4294967295 t161 t162).bind fun t182 => (if t182 = true then ((addr_In.f k1 4294967295 t165 t166).bind fun t183 => (if t183 = true then ((addr_In.f k1 0 t165 t166).bind fun t184 => (if t184 = true then (none) else ((addr_Within.f k1 t165 t166 t161 t162).bind fun t185 => (waymarklaw01_AddrNames.j1 k1 (!t185) t161 t162 t165 t166)))) else (none))) else (none))) else (none))) else (none)) else (none)) else (none)) else (none)) else (none)) else (none)) else (none)) else (none)))))) = some r := H
     have A14 := Aside0.mk A140
     clear A140
     replace H := Option.bind_eq_some_iff.mp H
     obtain ⟨⟨t169, t170, t171⟩, A150, H⟩ := H
     replace H : ((addr_ParsePrefix.f k1 (⟨#[48, 46, 48, 46, 48, 46, 48, 47, 51, 51]⟩ : ByteArray)).bind fun bt173 => ((addr_Mask.f 0).bind fun bt177 => ((addr_Mask.f 32).bind fun bt179 => (if t163 = 0 then (if t167 = 0 then (if t171 = 10 then (if bt173.2.2 = 4 then (if bt177.2 = 0 then (if bt179.2 = 0 then (if bt177.1 = 0 then (if bt179.1 = 4294967295 then ((addr_In.f k1 0 t161 t162).bind fun t181 => (if t181 = true then ((addr_In.f k1 4294967295 t161 t162).bind fun t182 => (if t182 = true then ((addr_In.f k1 4294967295 t165 t166).bind fun t183 => (if t183 = true then ((addr_In.f k1 0 t165 t166).bind fun t184 => (if t184 = true then (none) else ((addr_Within.f k1 t165 t166 t161 t162).bind fun t185 => (waymarklaw01_AddrNames.j1 k1 (!t185) t161 t162 t165 t166)))) else (none))) else (none))) else (none))) else (none)) else (none)) else (none)) else (none)) else (none)) else (none)) else (none)) else (none))))) = some r := H
     have A15 := Aside0.mk A150
     clear A150
     replace H := Option.bind_eq_some_iff.mp H
     obtain ⟨⟨t173, t174, t175⟩, A160, H⟩ := H
     replace H : ((addr_Mask.f 0).bind fun bt177 => ((addr_Mask.f 32).bind fun bt179 => (if t163 = 0 then (if t167 = 0 then (if t171 = 10 then (if t175 = 4 then (if bt177.2 = 0 then (if bt179.2 = 0 then (if bt177.1 = 0 then (if bt179.1 = 4294967295 then ((addr_In.f k1 0 t161 t162).bind fun t181 => (if t181 = true then ((addr_In.f k1 4294967295 t161 t162).bind fun t182 => (if t182 = true then ((addr_In.f k1 4294967295 t165 t166).bind fun t183 => (if t183 = true then ((addr_In.f k1 0 t165 t166).bind fun t184 => (if t184 = true then (none) else ((addr_Within.f k1 t165 t166 t161 t162).bind fun t185 => (waymarklaw01_AddrNames.j1 k1 (!t185) t161 t162 t165 t166)))) else (none))) else (none))) else (none))) else (none)) else (none)) else (none)) else (none)) else (none)) else (none)) else (none)) else (none)))) = some r := H
     have A16 := Aside0.mk A160
     clear A160
     replace H := Option.bind_eq_some_iff.mp H
     obtain ⟨⟨t177, t178⟩, A170, H⟩ := H
     replace H : ((addr_Mask.f 32).bind fun bt179 => (if t163 = 0 then (if t167 = 0 then (if t171 = 10 then (if t175 = 4 then (if t178 = 0 then (if bt179.2 = 0 then (if t177 = 0 then (if bt179.1 = 4294967295 then ((addr_In.f k1 0 t161 t162).bind fun t181 => (if t181 = true then ((addr_In.f k1 4294967295 t161 t162).bind fun t182 => (if t182 = true then ((addr_In.f k1 4294967295 t165 t166).bind fun t183 => (if t183 = true then ((addr_In.f k1 0 t165 t166).bind fun t184 => (if t184 = true then (none) else ((addr_Within.f k1 t165 t166 t161 t162).bind fun t185 => (waymarklaw01_AddrNames.j1 k1 (!t185) t161 t162 t165 t166)))) else (none))) else (none))) else (none))) else (none)) else (none)) else (none)) else (none)) else (none)) else (none)) else (none)) else (none))) = some r := H
     have A17 := Aside0.mk A170
     clear A170
     replace H := Option.bind_eq_some_iff.mp H
     obtain ⟨⟨t179, t180⟩, A180, H⟩ := H
     replace H : (if t163 = 0 then (if t167 = 0 then (if t171 = 10 then (if t175 = 4 then (if t178 = 0 then (if t180 = 0 then (if t177 = 0 then (if t179 = 4294967295 then ((addr_In.f k1 0 t161 t162).bind fun t181 => (if t181 = true then ((addr_In.f k1 4294967295 t161 t162).bind fun t182 => (if t182 = true then ((addr_In.f k1 4294967295 t165 t166).bind fun t183 => (if t183 = true then ((addr_In.f k1 0 t165 t166).bind fun t184 => (if t184 = true then (none) else ((addr_Within.f k1 t165 t166 t161 t162).bind fun t185 => (waymarklaw01_AddrNames.j1 k1 (!t185) t161 t162 t165 t166)))) else (none))) else (none))) else (none))) else (none)) else (none)) else (none)) else (none)) else (none)) else (none)) else (none)) else (none)) = some r := H
     have A18 := Aside0.mk A180
     clear A180
     have HC19 := Aside0.mk H
     clear H
     go_upto_region 16 with (first | ((with_reducible refine gate_callee (f := 40) rfl ?_); refine goesL_ (some 54) rfl rfl Tryd.func40 (by kernel_rfl) rfl #[.string (⟨#[48, 46, 48, 46, 48, 46, 48, 47, 48]⟩ : ByteArray)] rfl (by (try simp only [List.map_toArray, List.map_cons, List.map_nil]); first | done | rfl | (simp only [List.length_drop, List.length_take]; rfl)) ?_; (with_reducible refine (addr_ParsePrefix.calls k1 (⟨#[48, 46, 48, 46, 48, 46, 48, 47, 48]⟩ : ByteArray) t161 t162 t163 _ ?side1 A13.out).mono ?_); (case side1 => exact Go.Proofs.YtbnihnggljagnaaDoor.WorldA.GW.below HGW_.out (by repeat (first | (with_reducible first | exact HB.out | apply below_alloc | apply pw_below_drewN | apply below_drew1) | exact HB.out))); rintro e w20 ⟨rfl, hb⟩; refine ⟨_, rfl, ?_⟩; have n0_ := Aside0.mk (Kd.R_below (by (with_reducible repeat (first | apply Kd.R_alloc | apply Kd.R_drewN | apply Kd.R_drew)); exact HO_39.out) hb); have n1_ := Aside0.mk (below_step (by repeat (first | (with_reducible first | exact HB.out | apply below_alloc | apply pw_below_drewN | apply below_drew1) | exact HB.out)) hb); clear HO_39; clear HB; have HO_39 := n0_; have HB := n1_; clear n0_ n1_; (try clear hb); (try clear hb2); (try clear hk); (try clear hi)) | ((with_reducible refine gate_dst (N := 5) rfl ?_); (try (refine gate_guard (by rfl) ?_; dsimp only)); refine box_event ?hg (N := 5) ?hd (cs := #[.int .u32 0, .int .i64 0]) (t := 42) ?hr ?_; (case hd => rfl); (case hg => rfl); (case hr => first | (go_simp; done) | (go_simp; rfl)); intro gb164 hg w21 hbox hb; have n0_ := Aside0.mk (Kd.R_below (by (with_reducible repeat (first | apply Kd.R_alloc | apply Kd.R_drewN | apply Kd.R_drew)); exact HO_39.out) hb); have n1_ := Aside0.mk (below_step (by repeat (first | (with_reducible first | exact HB.out | apply below_alloc | apply pw_below_drewN | apply below_drew1) | exact HB.out)) hb); have n2_ := Aside0.mk (hbox); have n3_ := Aside0.mk ((by rw [hg]; exact (below_size (by repeat (first | (with_reducible first | exact HB.out | apply below_alloc | apply pw_below_drewN | apply below_drew1) | exact HB.out))) : w.heap.size ≤ gb164)); have n4_ := Aside0.mk ((by rw [hg]; exact (below_size (by repeat (first | (with_reducible first | exact HB.out | apply below_alloc | apply pw_below_drewN | apply below_drew1) | exact HB.out))) : w.heap.size ≤ gb164)); clear HO_39; clear HB; have HO_39 := n0_; have HB := n1_; have BK164 := n2_; have GW164 := n3_; have GE164 := n4_; clear n0_ n1_ n2_ n3_ n4_; clear hb hbox hg; have hcz22_0 : w21.cell? ⟨gb164, 0, none⟩ = some (.int .u32 0) := (blk_cell BK164.out 0).trans rfl; have hcz22_1 : w21.cell? ⟨gb164, 1, none⟩ = some (.int .i64 0) := (blk_cell BK164.out 1).trans rfl; have hfz22_0 := blk_frozen BK164.out 0; have hfz22_1 := blk_frozen BK164.out 1) | ((with_reducible refine gate_callee (f := 40) rfl ?_); refine goesL_ (some 58) rfl rfl Tryd.func40 (by kernel_rfl) rfl #[.string (⟨#[50, 53, 53, 46, 50, 53, 53, 46, 50, 53, 53, 46, 50, 53, 53, 47, 51, 50]⟩ : ByteArray)] rfl (by (try simp only [List.map_toArray, List.map_cons, List.map_nil]); first | done | rfl | (simp only [List.length_drop, List.length_take]; rfl)) ?_; (with_reducible refine (addr_ParsePrefix.calls k1 (⟨#[50, 53, 53, 46, 50, 53, 53, 46, 50, 53, 53, 46, 50, 53, 53, 47, 51, 50]⟩ : ByteArray) t165 t166 t167 _ ?side1 A14.out).mono ?_); (case side1 => exact Go.Proofs.YtbnihnggljagnaaDoor.WorldA.GW.below HGW_.out (by repeat (first | (with_reducible first | exact HB.out | apply below_alloc | apply pw_below_drewN | apply below_drew1 | refine below_set ?_ GE164.out) | exact HB.out))); rintro e w23 ⟨rfl, hb⟩; refine ⟨_, rfl, ?_⟩; have n0_ := Aside0.mk (Kd.R_below (by (with_reducible repeat (first | apply Kd.R_alloc | apply Kd.R_drewN | apply Kd.R_drew)); exact (Kd.R_mono (Kd.R_far (p := ⟨gb164, 1, none⟩) (Kd.R_far (p := ⟨gb164, 0, none⟩) (Kd.R_types HO_39.out BK164.out (by decide)) (fun _ hk => hk.2) (.int .u32 t161)) (fun _ hk => hk.2) (.int .i64 t162)) (fun _ h_ => h_.1))) hb); have n1_ := Aside0.mk (blk_below (g := gb164) (o := .cells #[.int .u32 t161, .int .i64 t162] 42 (0, 0)) (by (with_reducible repeat (first | refine blk_drewN ?_ _ | refine blk_drew ?_ | refine blk_alloc ?_ _)); refine blk_put (cs := #[.int .u32 t161, .int .i64 0]) ?_ 1 _ rfl; (with_reducible repeat (first | refine blk_drewN ?_ _ | refine blk_drew ?_ | refine blk_alloc ?_ _)); refine blk_put (cs := #[.int .u32 0, .int .i64 0]) ?_ 0 _ rfl; (with_reducible repeat (first | refine blk_drewN ?_ _ | refine blk_drew ?_ | refine blk_alloc ?_ _)); exact BK164.out) hb); have n2_ := Aside0.mk (below_step (by repeat (first | (with_reducible first | exact HB.out | apply below_alloc | apply pw_below_drewN | apply below_drew1 | refine below_set ?_ GE164.out) | exact HB.out)) hb); clear HO_39; clear BK164; clear HB; have HO_39 := n0_; have BK164 := n1_; have HB := n2_; clear n0_ n1_ n2_; (try clear hb); (try clear hb2); (try clear hk); (try clear hi)) | ((with_reducible refine gate_dst (N := 7) rfl ?_); (try (refine gate_guard (by rfl) ?_; dsimp only)); refine box_event ?hg (N := 7) ?hd (cs := #[.int .u32 0, .int .i64 0]) (t := 42) ?hr ?_; (case hd => rfl); (case hg => rfl); (case hr => first | (go_simp; done) | (go_simp; rfl)); intro gb168 hg w24 hbox hb; have n0_ := Aside0.mk (Kd.R_below (by (with_reducible repeat (first | apply Kd.R_alloc | apply Kd.R_drewN | apply Kd.R_drew)); exact HO_39.out) hb); have n1_ := Aside0.mk (blk_below (g := gb164) (o := .cells #[.int .u32 t161, .int .i64 t162] 42 (0, 0)) (by (with_reducible repeat (first | refine blk_drewN ?_ _ | refine blk_drew ?_ | refine blk_alloc ?_ _)); exact BK164.out) hb); have n2_ := Aside0.mk (below_step (by repeat (first | (with_reducible first | exact HB.out | apply below_alloc | apply pw_below_drewN | apply below_drew1 | refine below_set ?_ GE164.out) | exact HB.out)) hb); have n3_ := Aside0.mk (hbox); have n4_ := Aside0.mk ((by rw [hg]; exact (below_size (by repeat (first | (with_reducible first | exact HB.out | apply below_alloc | apply pw_below_drewN | apply below_drew1 | refine below_set ?_ GE164.out) | exact HB.out))) : w.heap.size ≤ gb168)); have n5_ := Aside0.mk ((by rw [hg]; exact (below_size (by repeat (first | (with_reducible first | exact HB.out | apply below_alloc | apply pw_below_drewN | apply below_drew1 | refine below_set ?_ GE164.out) | exact HB.out))) : w.heap.size ≤ gb168)); have n6_ := Aside0.mk ((by rw [hg]; exact Nat.ne_of_lt (blk_lt (g := gb164) (o := .cells #[.int .u32 t161, .int .i64 t162] 42 (0, 0)) (by (with_reducible repeat (first | refine blk_drewN ?_ _ | refine blk_drew ?_ | refine blk_alloc ?_ _)); exact BK164.out)) : gb164 ≠ gb168)); have n7_ := Aside0.mk ((by rw [hg]; exact Nat.ne_of_gt (blk_lt (g := gb164) (o := .cells #[.int .u32 t161, .int .i64 t162] 42 (0, 0)) (by (with_reducible repeat (first | refine blk_drewN ?_ _ | refine blk_drew ?_ | refine blk_alloc ?_ _)); exact BK164.out)) : gb168 ≠ gb164)); clear HO_39; clear BK164; clear HB; have HO_39 := n0_; have BK164 := n1_; have HB := n2_; have BK168 := n3_; have GW168 := n4_; have GE168 := n5_; have NB164_168 := n6_; have NB168_164 := n7_; clear n0_ n1_ n2_ n3_ n4_ n5_ n6_ n7_; clear hb hbox hg; have hnb25 := NB168_164.out; have hnc25 := NB164_168.out; have hcz26_0 : w24.cell? ⟨gb168, 0, none⟩ = some (.int .u32 0) := (blk_cell BK168.out 0).trans rfl; have hcz26_1 : w24.cell? ⟨gb168, 1, none⟩ = some (.int .i64 0) := (blk_cell BK168.out 1).trans rfl; have hfz26_0 := blk_frozen BK168.out 0; have hfz26_1 := blk_frozen BK168.out 1) | ((with_reducible refine gate_callee (f := 40) rfl ?_); refine goesL_ (some 62) rfl rfl Tryd.func40 (by kernel_rfl) rfl #[.string (⟨#[49, 50, 56, 46, 48, 46, 48, 46, 48, 47, 48]⟩ : ByteArray)] rfl (by (try simp only [List.map_toArray, List.map_cons, List.map_nil]); first | done | rfl | (simp only [List.length_drop, List.length_take]; rfl)) ?_; (with_reducible refine (addr_ParsePrefix.calls k1 (⟨#[49, 50, 56, 46, 48, 46, 48, 46, 48, 47, 48]⟩ : ByteArray) t169 t170 t171 _ ?side1 A15.out).mono ?_); (case side1 => exact Go.Proofs.YtbnihnggljagnaaDoor.WorldA.GW.below HGW_.out (by repeat (first | (with_reducible first | exact HB.out | apply below_alloc | apply pw_below_drewN | apply below_drew1 | refine below_set ?_ GE164.out | refine below_set ?_ GE168.out) | exact HB.out))); rintro e w27 ⟨rfl, hb⟩; refine ⟨_, rfl, ?_⟩; have n0_ := Aside0.mk (Kd.R_below (by (with_reducible repeat (first | apply Kd.R_alloc | apply Kd.R_drewN | apply Kd.R_drew)); exact (Kd.R_mono (Kd.R_far (p := ⟨gb168, 1, none⟩) (Kd.R_far (p := ⟨gb168, 0, none⟩) (Kd.R_types HO_39.out BK168.out (by decide)) (fun _ hk => hk.2) (.int .u32 t165)) (fun _ hk => hk.2) (.int .i64 t166)) (fun _ h_ => h_.1))) hb); have n1_ := Aside0.mk (blk_below (g := gb164) (o := .cells #[.int .u32 t161, .int .i64 t162] 42 (0, 0)) (by (with_reducible repeat (first | refine blk_drewN ?_ _ | refine blk_drew ?_ | refine blk_alloc ?_ _)); refine blk_far ?_ NB164_168.out _; (with_reducible repeat (first | refine blk_drewN ?_ _ | refine blk_drew ?_ | refine blk_alloc ?_ _)); refine blk_far ?_ NB164_168.out _; (with_reducible repeat (first | refine blk_drewN ?_ _ | refine blk_drew ?_ | refine blk_alloc ?_ _)); exact BK164.out) hb); have n2_ := Aside0.mk (blk_below (g := gb168) (o := .cells #[.int .u32 t165, .int .i64 t166] 42 (0, 0)) (by (with_reducible repeat (first | refine blk_drewN ?_ _ | refine blk_drew ?_ | refine blk_alloc ?_ _)); refine blk_put (cs := #[.int .u32 t165, .int .i64 0]) ?_ 1 _ rfl; (with_reducible repeat (first | refine blk_drewN ?_ _ | refine blk_drew ?_ | refine blk_alloc ?_ _)); refine blk_put (cs := #[.int .u32 0, .int .i64 0]) ?_ 0 _ rfl; (with_reducible repeat (first | refine blk_drewN ?_ _ | refine blk_drew ?_ | refine blk_alloc ?_ _)); exact BK168.out) hb); have n3_ := Aside0.mk (below_step (by repeat (first | (with_reducible first | exact HB.out | apply below_alloc | apply pw_below_drewN | apply below_drew1 | refine below_set ?_ GE164.out | refine below_set ?_ GE168.out) | exact HB.out)) hb); clear HO_39; clear BK164; clear BK168; clear HB; have HO_39 := n0_; have BK164 := n1_; have BK168 := n2_; have HB := n3_; clear n0_ n1_ n2_ n3_; (try clear hb); (try clear hb2); (try clear hk); (try clear hi)) | ((with_reducible refine gate_dst (N := 9) rfl ?_); (try (refine gate_guard (by rfl) ?_; dsimp only)); refine box_event ?hg (N := 9) ?hd (cs := #[.int .u32 0, .int .i64 0]) (t := 42) ?hr ?_; (case hd => rfl); (case hg => rfl); (case hr => first | (go_simp; done) | (go_simp; rfl)); intro gb172 hg w28 hbox hb; have n0_ := Aside0.mk (Kd.R_below (by (with_reducible repeat (first | apply Kd.R_alloc | apply Kd.R_drewN | apply Kd.R_drew)); exact HO_39.out) hb); have n1_ := Aside0.mk (blk_below (g := gb164) (o := .cells #[.int .u32 t161, .int .i64 t162] 42 (0, 0)) (by (with_reducible repeat (first | refine blk_drewN ?_ _ | refine blk_drew ?_ | refine blk_alloc ?_ _)); exact BK164.out) hb); have n2_ := Aside0.mk (blk_below (g := gb168) (o := .cells #[.int .u32 t165, .int .i64 t166] 42 (0, 0)) (by (with_reducible repeat (first | refine blk_drewN ?_ _ | refine blk_drew ?_ | refine blk_alloc ?_ _)); exact BK168.out) hb); have n3_ := Aside0.mk (below_step (by repeat (first | (with_reducible first | exact HB.out | apply below_alloc | apply pw_below_drewN | apply below_drew1 | refine below_set ?_ GE164.out | refine below_set ?_ GE168.out) | exact HB.out)) hb); have n4_ := Aside0.mk (hbox); have n5_ := Aside0.mk ((by rw [hg]; exact (below_size (by repeat (first | (with_reducible first | exact HB.out | apply below_alloc | apply pw_below_drewN | apply below_drew1 | refine below_set ?_ GE164.out | refine below_set ?_ GE168.out) | exact HB.out))) : w.heap.size ≤ gb172)); have n6_ := Aside0.mk ((by rw [hg]; exact (below_size (by repeat (first | (with_reducible first | exact HB.out | apply below_alloc | apply pw_below_drewN | apply below_drew1 | refine below_set ?_ GE164.out | refine below_set ?_ GE168.out) | exact HB.out))) : w.heap.size ≤ gb172)); have n7_ := Aside0.mk ((by rw [hg]; exact Nat.ne_of_lt (blk_lt (g := gb164) (o := .cells #[.int .u32 t161, .int .i64 t162] 42 (0, 0)) (by (with_reducible repeat (first | refine blk_drewN ?_ _ | refine blk_drew ?_ | refine blk_alloc ?_ _)); exact BK164.out)) : gb164 ≠ gb172)); have n8_ := Aside0.mk ((by rw [hg]; exact Nat.ne_of_gt (blk_lt (g := gb164) (o := .cells #[.int .u32 t161, .int .i64 t162] 42 (0, 0)) (by (with_reducible repeat (first | refine blk_drewN ?_ _ | refine blk_drew ?_ | refine blk_alloc ?_ _)); exact BK164.out)) : gb172 ≠ gb164)); have n9_ := Aside0.mk ((by rw [hg]; exact Nat.ne_of_lt (blk_lt (g := gb168) (o := .cells #[.int .u32 t165, .int .i64 t166] 42 (0, 0)) (by (with_reducible repeat (first | refine blk_drewN ?_ _ | refine blk_drew ?_ | refine blk_alloc ?_ _)); exact BK168.out)) : gb168 ≠ gb172)); have n10_ := Aside0.mk ((by rw [hg]; exact Nat.ne_of_gt (blk_lt (g := gb168) (o := .cells #[.int .u32 t165, .int .i64 t166] 42 (0, 0)) (by (with_reducible repeat (first | refine blk_drewN ?_ _ | refine blk_drew ?_ | refine blk_alloc ?_ _)); exact BK168.out)) : gb172 ≠ gb168)); clear HO_39; clear BK164; clear BK168; clear HB; have HO_39 := n0_; have BK164 := n1_; have BK168 := n2_; have HB := n3_; have BK172 := n4_; have GW172 := n5_; have GE172 := n6_; have NB164_172 := n7_; have NB172_164 := n8_; have NB168_172 := n9_; have NB172_168 := n10_; clear n0_ n1_ n2_ n3_ n4_ n5_ n6_ n7_ n8_ n9_ n10_; clear hb hbox hg; have hnb29 := NB172_164.out; have hnc29 := NB164_172.out; have hnb30 := NB172_168.out; have hnc30 := NB168_172.out; have hcz31_0 : w28.cell? ⟨gb172, 0, none⟩ = some (.int .u32 0) := (blk_cell BK172.out 0).trans rfl; have hcz31_1 : w28.cell? ⟨gb172, 1, none⟩ = some (.int .i64 0) := (blk_cell BK172.out 1).trans rfl; have hfz31_0 := blk_frozen BK172.out 0; have hfz31_1 := blk_frozen BK172.out 1) | ((with_reducible refine gate_callee (f := 40) rfl ?_); refine goesL_ (some 66) rfl rfl Tryd.func40 (by kernel_rfl) rfl #[.string (⟨#[48, 46, 48, 46, 48, 46, 48, 47, 51, 51]⟩ : ByteArray)] rfl (by (try simp only [List.map_toArray, List.map_cons, List.map_nil]); first | done | rfl | (simp only [List.length_drop, List.length_take]; rfl)) ?_; (with_reducible refine (addr_ParsePrefix.calls k1 (⟨#[48, 46, 48, 46, 48, 46, 48, 47, 51, 51]⟩ : ByteArray) t173 t174 t175 _ ?side1 A16.out).mono ?_); (case side1 => exact Go.Proofs.YtbnihnggljagnaaDoor.WorldA.GW.below HGW_.out (by repeat (first | (with_reducible first | exact HB.out | apply below_alloc | apply pw_below_drewN | apply below_drew1 | refine below_set ?_ GE164.out | refine below_set ?_ GE168.out | refine below_set ?_ GE172.out) | exact HB.out))); rintro e w32 ⟨rfl, hb⟩; refine ⟨_, rfl, ?_⟩; have n0_ := Aside0.mk (Kd.R_below (by (with_reducible repeat (first | apply Kd.R_alloc | apply Kd.R_drewN | apply Kd.R_drew)); exact (Kd.R_mono (Kd.R_far (p := ⟨gb172, 1, none⟩) (Kd.R_far (p := ⟨gb172, 0, none⟩) (Kd.R_types HO_39.out BK172.out (by decide)) (fun _ hk => hk.2) (.int .u32 t169)) (fun _ hk => hk.2) (.int .i64 t170)) (fun _ h_ => h_.1))) hb); have n1_ := Aside0.mk (blk_below (g := gb164) (o := .cells #[.int .u32 t161, .int .i64 t162] 42 (0, 0)) (by (with_reducible repeat (first | refine blk_drewN ?_ _ | refine blk_drew ?_ | refine blk_alloc ?_ _)); refine blk_far ?_ NB164_172.out _; (with_reducible repeat (first | refine blk_drewN ?_ _ | refine blk_drew ?_ | refine blk_alloc ?_ _)); refine blk_far ?_ NB164_172.out _; (with_reducible repeat (first | refine blk_drewN ?_ _ | refine blk_drew ?_ | refine blk_alloc ?_ _)); exact BK164.out) hb); have n2_ := Aside0.mk (blk_below (g := gb168) (o := .cells #[.int .u32 t165, .int .i64 t166] 42 (0, 0)) (by (with_reducible repeat (first | refine blk_drewN ?_ _ | refine blk_drew ?_ | refine blk_alloc ?_ _)); refine blk_far ?_ NB168_172.out _; (with_reducible repeat (first | refine blk_drewN ?_ _ | refine blk_drew ?_ | refine blk_alloc ?_ _)); refine blk_far ?_ NB168_172.out _; (with_reducible repeat (first | refine blk_drewN ?_ _ | refine blk_drew ?_ | refine blk_alloc ?_ _)); exact BK168.out) hb); have n3_ := Aside0.mk (blk_below (g := gb172) (o := .cells #[.int .u32 t169, .int .i64 t170] 42 (0, 0)) (by (with_reducible repeat (first | refine blk_drewN ?_ _ | refine blk_drew ?_ | refine blk_alloc ?_ _)); refine blk_put (cs := #[.int .u32 t169, .int .i64 0]) ?_ 1 _ rfl; (with_reducible repeat (first | refine blk_drewN ?_ _ | refine blk_drew ?_ | refine blk_alloc ?_ _)); refine blk_put (cs := #[.int .u32 0, .int .i64 0]) ?_ 0 _ rfl; (with_reducible repeat (first | refine blk_drewN ?_ _ | refine blk_drew ?_ | refine blk_alloc ?_ _)); exact BK172.out) hb); have n4_ := Aside0.mk (below_step (by repeat (first | (with_reducible first | exact HB.out | apply below_alloc | apply pw_below_drewN | apply below_drew1 | refine below_set ?_ GE164.out | refine below_set ?_ GE168.out | refine below_set ?_ GE172.out) | exact HB.out)) hb); clear HO_39; clear BK164; clear BK168; clear BK172; clear HB; have HO_39 := n0_; have BK164 := n1_; have BK168 := n2_; have BK172 := n3_; have HB := n4_; clear n0_ n1_ n2_ n3_ n4_; (try clear hb); (try clear hb2); (try clear hk); (try clear hi)) | ((with_reducible refine gate_dst (N := 11) rfl ?_); (try (refine gate_guard (by rfl) ?_; dsimp only)); refine box_event ?hg (N := 11) ?hd (cs := #[.int .u32 0, .int .i64 0]) (t := 42) ?hr ?_; (case hd => rfl); (case hg => rfl); (case hr => first | (go_simp; done) | (go_simp; rfl)); intro gb176 hg w33 hbox hb; have n0_ := Aside0.mk (Kd.R_below (by (with_reducible repeat (first | apply Kd.R_alloc | apply Kd.R_drewN | apply Kd.R_drew)); exact HO_39.out) hb); have n1_ := Aside0.mk (blk_below (g := gb164) (o := .cells #[.int .u32 t161, .int .i64 t162] 42 (0, 0)) (by (with_reducible repeat (first | refine blk_drewN ?_ _ | refine blk_drew ?_ | refine blk_alloc ?_ _)); exact BK164.out) hb); have n2_ := Aside0.mk (blk_below (g := gb168) (o := .cells #[.int .u32 t165, .int .i64 t166] 42 (0, 0)) (by (with_reducible repeat (first | refine blk_drewN ?_ _ | refine blk_drew ?_ | refine blk_alloc ?_ _)); exact BK168.out) hb); have n3_ := Aside0.mk (blk_below (g := gb172) (o := .cells #[.int .u32 t169, .int .i64 t170] 42 (0, 0)) (by (with_reducible repeat (first | refine blk_drewN ?_ _ | refine blk_drew ?_ | refine blk_alloc ?_ _)); exact BK172.out) hb); have n4_ := Aside0.mk (below_step (by repeat (first | (with_reducible first | exact HB.out | apply below_alloc | apply pw_below_drewN | apply below_drew1 | refine below_set ?_ GE164.out | refine below_set ?_ GE168.out | refine below_set ?_ GE172.out) | exact HB.out)) hb); have n5_ := Aside0.mk (hbox); have n6_ := Aside0.mk ((by rw [hg]; exact (below_size (by repeat (first | (with_reducible first | exact HB.out | apply below_alloc | apply pw_below_drewN | apply below_drew1 | refine below_set ?_ GE164.out | refine below_set ?_ GE168.out | refine below_set ?_ GE172.out) | exact HB.out))) : w.heap.size ≤ gb176)); have n7_ := Aside0.mk ((by rw [hg]; exact (below_size (by repeat (first | (with_reducible first | exact HB.out | apply below_alloc | apply pw_below_drewN | apply below_drew1 | refine below_set ?_ GE164.out | refine below_set ?_ GE168.out | refine below_set ?_ GE172.out) | exact HB.out))) : w.heap.size ≤ gb176)); have n8_ := Aside0.mk ((by rw [hg]; exact Nat.ne_of_lt (blk_lt (g := gb164) (o := .cells #[.int .u32 t161, .int .i64 t162] 42 (0, 0)) (by (with_reducible repeat (first | refine blk_drewN ?_ _ | refine blk_drew ?_ | refine blk_alloc ?_ _)); exact BK164.out)) : gb164 ≠ gb176)); have n9_ := Aside0.mk ((by rw [hg]; exact Nat.ne_of_gt (blk_lt (g := gb164) (o := .cells #[.int .u32 t161, .int .i64 t162] 42 (0, 0)) (by (with_reducible repeat (first | refine blk_drewN ?_ _ | refine blk_drew ?_ | refine blk_alloc ?_ _)); exact BK164.out)) : gb176 ≠ gb164)); have n10_ := Aside0.mk ((by rw [hg]; exact Nat.ne_of_lt (blk_lt (g := gb168) (o := .cells #[.int .u32 t165, .int .i64 t166] 42 (0, 0)) (by (with_reducible repeat (first | refine blk_drewN ?_ _ | refine blk_drew ?_ | refine blk_alloc ?_ _)); exact BK168.out)) : gb168 ≠ gb176)); have n11_ := Aside0.mk ((by rw [hg]; exact Nat.ne_of_gt (blk_lt (g := gb168) (o := .cells #[.int .u32 t165, .int .i64 t166] 42 (0, 0)) (by (with_reducible repeat (first | refine blk_drewN ?_ _ | refine blk_drew ?_ | refine blk_alloc ?_ _)); exact BK168.out)) : gb176 ≠ gb168)); have n12_ := Aside0.mk ((by rw [hg]; exact Nat.ne_of_lt (blk_lt (g := gb172) (o := .cells #[.int .u32 t169, .int .i64 t170] 42 (0, 0)) (by (with_reducible repeat (first | refine blk_drewN ?_ _ | refine blk_drew ?_ | refine blk_alloc ?_ _)); exact BK172.out)) : gb172 ≠ gb176)); have n13_ := Aside0.mk ((by rw [hg]; exact Nat.ne_of_gt (blk_lt (g := gb172) (o := .cells #[.int .u32 t169, .int .i64 t170] 42 (0, 0)) (by (with_reducible repeat (first | refine blk_drewN ?_ _ | refine blk_drew ?_ | refine blk_alloc ?_ _)); exact BK172.out)) : gb176 ≠ gb172)); clear HO_39; clear BK164; clear BK168; clear BK172; clear HB; have HO_39 := n0_; have BK164 := n1_; have BK168 := n2_; have BK172 := n3_; have HB := n4_; have BK176 := n5_; have GW176 := n6_; have GE176 := n7_; have NB164_176 := n8_; have NB176_164 := n9_; have NB168_176 := n10_; have NB176_168 := n11_; have NB172_176 := n12_; have NB176_172 := n13_; clear n0_ n1_ n2_ n3_ n4_ n5_ n6_ n7_ n8_ n9_ n10_ n11_ n12_ n13_; clear hb hbox hg; have hnb34 := NB176_164.out; have hnc34 := NB164_176.out; have hnb35 := NB176_168.out; have hnc35 := NB168_176.out; have hnb36 := NB176_172.out; have hnc36 := NB172_176.out; have hcz37_0 : w33.cell? ⟨gb176, 0, none⟩ = some (.int .u32 0) := (blk_cell BK176.out 0).trans rfl; have hcz37_1 : w33.cell? ⟨gb176, 1, none⟩ = some (.int .i64 0) := (blk_cell BK176.out 1).trans rfl; have hfz37_0 := blk_frozen BK176.out 0; have hfz37_1 := blk_frozen BK176.out 1) | ((with_reducible refine gate_callee (f := 48) rfl ?_); refine goesL_ (some 70) rfl rfl Tryd.func48 (by kernel_rfl) rfl #[.int .i64 0] rfl (by (try simp only [List.map_toArray, List.map_cons, List.map_nil]); first | done | rfl | (simp only [List.length_drop, List.length_take]; rfl)) ?_; (with_reducible refine (addr_Mask.calls 0 t177 t178 _ A17.out).mono ?_); rintro e w' ⟨rfl, ⟨nd, rfl⟩⟩; refine ⟨_, rfl, ?_⟩) | ((with_reducible refine gate_callee (f := 48) rfl ?_); refine goesL_ (some 74) rfl rfl Tryd.func48 (by kernel_rfl) rfl #[.int .i64 32] rfl (by (try simp only [List.map_toArray, List.map_cons, List.map_nil]); first | done | rfl | (simp only [List.length_drop, List.length_take]; rfl)) ?_; (with_reducible refine (addr_Mask.calls 32 t179 t180 _ A18.out).mono ?_); rintro e w' ⟨rfl, ⟨nd, rfl⟩⟩; refine ⟨_, rfl, ?_⟩))
     (try simp only [Act.put, List.setIfInBounds_toArray, List.set_cons_zero, List.set_cons_succ])
     go_cut [131] (fun v131 wc => ∃ (kq : Nat) (x131_18 : Bool), v131 = .bool x131_18 ∧ Aside0 (waymarklaw01_AddrNames.j1 kq x131_18 t161 t162 t165 t166 = some r) ∧ Aside0 (kq ≤ k1) ∧ Aside0 (wc.heap[gb164]? = some (.cells #[.int .u32 t161, .int .i64 t162] 42 (0, 0))) ∧ Aside0 (wc.heap[gb168]? = some (.cells #[.int .u32 t165, .int .i64 t166] 42 (0, 0))) ∧ Aside0 (wc.heap[gb172]? = some (.cells #[.int .u32 t169, .int .i64 t170] 42 (0, 0))) ∧ Aside0 (wc.heap[gb176]? = some (.cells #[.int .u32 t173, .int .i64 t174] 42 (0, 0))) ∧ Aside0 (Below w.heap.size w wc))
     case first =>
      have H := HC19.out
      clear HC19
      by_cases c38 : t163 = 0
      ·rw [if_pos c38] at H
       have c38b0 : (t163 == 0) = true := beq_iff_eq.mpr c38
       have c38b1 : (t163 != 0) = false := bne_eq_false_iff_eq.mpr c38
       clear c38
       (first | rw [c38b0] | (simp only [i64_w, i32_w]; rw [c38b0]) | skip)
       by_cases c39 : t167 = 0
       ·rw [if_pos c39] at H
        have c39b0 : (t167 == 0) = true := beq_iff_eq.mpr c39
        have c39b1 : (t167 != 0) = false := bne_eq_false_iff_eq.mpr c39
        clear c39
        by_cases c40 : t171 = 10
        ·rw [if_pos c40] at H
         have c40b0 : (t171 == 10) = true := beq_iff_eq.mpr c40
         have c40b1 : (t171 != 10) = false := bne_eq_false_iff_eq.mpr c40
         clear c40
         by_cases c41 : t175 = 4
         ·rw [if_pos c41] at H
          have c41b0 : (t175 == 4) = true := beq_iff_eq.mpr c41
          have c41b1 : (t175 != 4) = false := bne_eq_false_iff_eq.mpr c41
          clear c41
          by_cases c42 : t178 = 0
          ·rw [if_pos c42] at H
           have c42b0 : (t178 == 0) = true := beq_iff_eq.mpr c42
           have c42b1 : (t178 != 0) = false := bne_eq_false_iff_eq.mpr c42
           clear c42
           by_cases c43 : t180 = 0
           ·rw [if_pos c43] at H
            have c43b0 : (t180 == 0) = true := beq_iff_eq.mpr c43
            have c43b1 : (t180 != 0) = false := bne_eq_false_iff_eq.mpr c43
            clear c43
            by_cases c44 : t177 = 0
            ·rw [if_pos c44] at H
             have c44b0 : (t177 == 0) = true := beq_iff_eq.mpr c44
             have c44b1 : (t177 != 0) = false := bne_eq_false_iff_eq.mpr c44
             clear c44
             by_cases c45 : t179 = 4294967295
             ·rw [if_pos c45] at H
              have c45b0 : (t179 == 4294967295) = true := beq_iff_eq.mpr c45
              have c45b1 : (t179 != 4294967295) = false := bne_eq_false_iff_eq.mpr c45
              clear c45
              replace H := Option.bind_eq_some_iff.mp H
              obtain ⟨t181, A460, H⟩ := H
              replace H : (if t181 = true then ((addr_In.f k1 4294967295 t161 t162).bind fun t182 => (if t182 = true then ((addr_In.f k1 4294967295 t165 t166).bind fun t183 => (if t183 = true then ((addr_In.f k1 0 t165 t166).bind fun t184 => (if t184 = true then (none) else ((addr_Within.f k1 t165 t166 t161 t162).bind fun t185 => (waymarklaw01_AddrNames.j1 k1 (!t185) t161 t162 t165 t166)))) else (none))) else (none))) else (none)) = some r := H
              have A46 := Aside0.mk A460
              clear A460
              by_cases c47 : t181 = true
              ·subst c47
               have H1 : ((addr_In.f k1 4294967295 t161 t162).bind fun t182 => (if t182 = true then ((addr_In.f k1 4294967295 t165 t166).bind fun t183 => (if t183 = true then ((addr_In.f k1 0 t165 t166).bind fun t184 => (if t184 = true then (none) else ((addr_Within.f k1 t165 t166 t161 t162).bind fun t185 => (waymarklaw01_AddrNames.j1 k1 (!t185) t161 t162 t165 t166)))) else (none))) else (none))) = some r := by rw [if_pos rfl] at H; exact H
               clear H
               have H := H1
               clear H1
               replace H := Option.bind_eq_some_iff.mp H
               obtain ⟨t182, A480, H⟩ := H
               replace H : (if t182 = true then ((addr_In.f k1 4294967295 t165 t166).bind fun t183 => (if t183 = true then ((addr_In.f k1 0 t165 t166).bind fun t184 => (if t184 = true then (none) else ((addr_Within.f k1 t165 t166 t161 t162).bind fun t185 => (waymarklaw01_AddrNames.j1 k1 (!t185) t161 t162 t165 t166)))) else (none))) else (none)) = some r := H
               have A48 := Aside0.mk A480
               clear A480
               by_cases c49 : t182 = true
               ·subst c49
                have H1 : ((addr_In.f k1 4294967295 t165 t166).bind fun t183 => (if t183 = true then ((addr_In.f k1 0 t165 t166).bind fun t184 => (if t184 = true then (none) else ((addr_Within.f k1 t165 t166 t161 t162).bind fun t185 => (waymarklaw01_AddrNames.j1 k1 (!t185) t161 t162 t165 t166)))) else (none))) = some r := by rw [if_pos rfl] at H; exact H
                clear H
                have H := H1
                clear H1
                replace H := Option.bind_eq_some_iff.mp H
                obtain ⟨t183, A500, H⟩ := H
                replace H : (if t183 = true then ((addr_In.f k1 0 t165 t166).bind fun t184 => (if t184 = true then (none) else ((addr_Within.f k1 t165 t166 t161 t162).bind fun t185 => (waymarklaw01_AddrNames.j1 k1 (!t185) t161 t162 t165 t166)))) else (none)) = some r := H
                have A50 := Aside0.mk A500
                clear A500
                by_cases c51 : t183 = true
                ·subst c51
                 have H1 : ((addr_In.f k1 0 t165 t166).bind fun t184 => (if t184 = true then (none) else ((addr_Within.f k1 t165 t166 t161 t162).bind fun t185 => (waymarklaw01_AddrNames.j1 k1 (!t185) t161 t162 t165 t166)))) = some r := by rw [if_pos rfl] at H; exact H
                 clear H
                 have H := H1
                 clear H1
                 replace H := Option.bind_eq_some_iff.mp H
                 obtain ⟨t184, A520, H⟩ := H
                 replace H : (if t184 = true then (none) else ((addr_Within.f k1 t165 t166 t161 t162).bind fun t185 => (waymarklaw01_AddrNames.j1 k1 (!t185) t161 t162 t165 t166))) = some r := H
                 have A52 := Aside0.mk A520
                 clear A520
                 by_cases c53 : t184 = true
                 ·subst c53
                  have H1 : (none) = some r := by rw [if_pos rfl] at H; exact H
                  clear H
                  have H := H1
                  clear H1
                  exact absurd H (by simp)
                 ·replace c53 := Bool.eq_false_iff.mpr c53
                  subst c53
                  have H1 : ((addr_Within.f k1 t165 t166 t161 t162).bind fun t185 => (waymarklaw01_AddrNames.j1 k1 (!t185) t161 t162 t165 t166)) = some r := by rw [if_neg (show ¬ (false = true) by decide)] at H; exact H
                  clear H
                  have H := H1
                  clear H1
                  replace H := Option.bind_eq_some_iff.mp H
                  obtain ⟨t185, A540, H⟩ := H
                  replace H : (waymarklaw01_AddrNames.j1 k1 (!t185) t161 t162 t165 t166) = some r := H
                  have A54 := Aside0.mk A540
                  clear A540
                  as_aux_lemma =>
                   have H' := Aside0.mk H
                   clear H
                   have hnb55 := NB164_168.out
                   have hnc55 := NB168_164.out
                   have hnb56 := NB164_172.out
                   have hnc56 := NB172_164.out
                   have hnb57 := NB164_176.out
                   have hnc57 := NB176_164.out
                   have hcz58_0 : w33.cell? ⟨gb164, 0, none⟩ = some (.int .u32 t161) := (blk_cell BK164.out 0).trans rfl
                   have hcz58_1 : w33.cell? ⟨gb164, 1, none⟩ = some (.int .i64 t162) := (blk_cell BK164.out 1).trans rfl
                   have hfz58_0 := blk_frozen BK164.out 0
                   have hfz58_1 := blk_frozen BK164.out 1
                   go_wp2_with (first | (go_at_call 49; (with_reducible refine (addr_In.calls k1 0 t161 t162 true _ A46.out).mono ?_); rintro e w59 ⟨rfl, hb⟩; have n0_ := Aside0.mk (Kd.R_below (by (with_reducible repeat (first | apply Kd.R_alloc | apply Kd.R_drewN | apply Kd.R_drew)); exact (Kd.R_mono (Kd.R_far (p := ⟨gb176, 1, none⟩) (Kd.R_far (p := ⟨gb176, 0, none⟩) (Kd.R_types HO_39.out BK176.out (by decide)) (fun _ hk => hk.2) (.int .u32 t173)) (fun _ hk => hk.2) (.int .i64 t174)) (fun _ h_ => h_.1))) hb); have n1_ := Aside0.mk (blk_below (g := gb164) (o := .cells #[.int .u32 t161, .int .i64 t162] 42 (0, 0)) (by (with_reducible repeat (first | refine blk_drewN ?_ _ | refine blk_drew ?_ | refine blk_alloc ?_ _)); refine blk_far ?_ NB164_176.out _; (with_reducible repeat (first | refine blk_drewN ?_ _ | refine blk_drew ?_ | refine blk_alloc ?_ _)); refine blk_far ?_ NB164_176.out _; (with_reducible repeat (first | refine blk_drewN ?_ _ | refine blk_drew ?_ | refine blk_alloc ?_ _)); exact BK164.out) hb); have n2_ := Aside0.mk (blk_below (g := gb168) (o := .cells #[.int .u32 t165, .int .i64 t166] 42 (0, 0)) (by (with_reducible repeat (first | refine blk_drewN ?_ _ | refine blk_drew ?_ | refine blk_alloc ?_ _)); refine blk_far ?_ NB168_176.out _; (with_reducible repeat (first | refine blk_drewN ?_ _ | refine blk_drew ?_ | refine blk_alloc ?_ _)); refine blk_far ?_ NB168_176.out _; (with_reducible repeat (first | refine blk_drewN ?_ _ | refine blk_drew ?_ | refine blk_alloc ?_ _)); exact BK168.out) hb); have n3_ := Aside0.mk (blk_below (g := gb172) (o := .cells #[.int .u32 t169, .int .i64 t170] 42 (0, 0)) (by (with_reducible repeat (first | refine blk_drewN ?_ _ | refine blk_drew ?_ | refine blk_alloc ?_ _)); refine blk_far ?_ NB172_176.out _; (with_reducible repeat (first | refine blk_drewN ?_ _ | refine blk_drew ?_ | refine blk_alloc ?_ _)); refine blk_far ?_ NB172_176.out _; (with_reducible repeat (first | refine blk_drewN ?_ _ | refine blk_drew ?_ | refine blk_alloc ?_ _)); exact BK172.out) hb); have n4_ := Aside0.mk (blk_below (g := gb176) (o := .cells #[.int .u32 t173, .int .i64 t174] 42 (0, 0)) (by (with_reducible repeat (first | refine blk_drewN ?_ _ | refine blk_drew ?_ | refine blk_alloc ?_ _)); refine blk_put (cs := #[.int .u32 t173, .int .i64 0]) ?_ 1 _ rfl; (with_reducible repeat (first | refine blk_drewN ?_ _ | refine blk_drew ?_ | refine blk_alloc ?_ _)); refine blk_put (cs := #[.int .u32 0, .int .i64 0]) ?_ 0 _ rfl; (with_reducible repeat (first | refine blk_drewN ?_ _ | refine blk_drew ?_ | refine blk_alloc ?_ _)); exact BK176.out) hb); have n5_ := Aside0.mk (below_step (by repeat (first | (with_reducible first | exact HB.out | apply below_alloc | apply pw_below_drewN | apply below_drew1 | refine below_set ?_ GE164.out | refine below_set ?_ GE168.out | refine below_set ?_ GE172.out | refine below_set ?_ GE176.out) | exact HB.out)) hb); clear HO_39; clear BK164; clear BK168; clear BK172; clear BK176; clear HB; have HO_39 := n0_; have BK164 := n1_; have BK168 := n2_; have BK172 := n3_; have BK176 := n4_; have HB := n5_; clear n0_ n1_ n2_ n3_ n4_ n5_; (try clear hb); (try clear hb2); (try clear hk); (try clear hi); have hcz60_0 : w59.cell? ⟨gb164, 0, none⟩ = some (.int .u32 t161) := (blk_cell BK164.out 0).trans rfl; have hcz60_1 : w59.cell? ⟨gb164, 1, none⟩ = some (.int .i64 t162) := (blk_cell BK164.out 1).trans rfl; have hfz60_0 := blk_frozen BK164.out 0; have hfz60_1 := blk_frozen BK164.out 1) | (go_at_call 49; (with_reducible refine (addr_In.calls k1 4294967295 t161 t162 true _ A48.out).mono ?_); rintro e w61 ⟨rfl, hb⟩; have n0_ := Aside0.mk (Kd.R_below (by (with_reducible repeat (first | apply Kd.R_alloc | apply Kd.R_drewN | apply Kd.R_drew)); exact HO_39.out) hb); have n1_ := Aside0.mk (blk_below (g := gb164) (o := .cells #[.int .u32 t161, .int .i64 t162] 42 (0, 0)) (by (with_reducible repeat (first | refine blk_drewN ?_ _ | refine blk_drew ?_ | refine blk_alloc ?_ _)); exact BK164.out) hb); have n2_ := Aside0.mk (blk_below (g := gb168) (o := .cells #[.int .u32 t165, .int .i64 t166] 42 (0, 0)) (by (with_reducible repeat (first | refine blk_drewN ?_ _ | refine blk_drew ?_ | refine blk_alloc ?_ _)); exact BK168.out) hb); have n3_ := Aside0.mk (blk_below (g := gb172) (o := .cells #[.int .u32 t169, .int .i64 t170] 42 (0, 0)) (by (with_reducible repeat (first | refine blk_drewN ?_ _ | refine blk_drew ?_ | refine blk_alloc ?_ _)); exact BK172.out) hb); have n4_ := Aside0.mk (blk_below (g := gb176) (o := .cells #[.int .u32 t173, .int .i64 t174] 42 (0, 0)) (by (with_reducible repeat (first | refine blk_drewN ?_ _ | refine blk_drew ?_ | refine blk_alloc ?_ _)); exact BK176.out) hb); have n5_ := Aside0.mk (below_step (by repeat (first | (with_reducible first | exact HB.out | apply below_alloc | apply pw_below_drewN | apply below_drew1 | refine below_set ?_ GE164.out | refine below_set ?_ GE168.out | refine below_set ?_ GE172.out | refine below_set ?_ GE176.out) | exact HB.out)) hb); clear HO_39; clear BK164; clear BK168; clear BK172; clear BK176; clear HB; have HO_39 := n0_; have BK164 := n1_; have BK168 := n2_; have BK172 := n3_; have BK176 := n4_; have HB := n5_; clear n0_ n1_ n2_ n3_ n4_ n5_; (try clear hb); (try clear hb2); (try clear hk); (try clear hi); have hnb62 := NB168_172.out; have hnc62 := NB172_168.out; have hnb63 := NB168_176.out; have hnc63 := NB176_168.out; have hcz64_0 : w61.cell? ⟨gb168, 0, none⟩ = some (.int .u32 t165) := (blk_cell BK168.out 0).trans rfl; have hcz64_1 : w61.cell? ⟨gb168, 1, none⟩ = some (.int .i64 t166) := (blk_cell BK168.out 1).trans rfl; have hfz64_0 := blk_frozen BK168.out 0; have hfz64_1 := blk_frozen BK168.out 1) | (go_at_call 49; (with_reducible refine (addr_In.calls k1 4294967295 t165 t166 true _ A50.out).mono ?_); rintro e w65 ⟨rfl, hb⟩; have n0_ := Aside0.mk (Kd.R_below (by (with_reducible repeat (first | apply Kd.R_alloc | apply Kd.R_drewN | apply Kd.R_drew)); exact HO_39.out) hb); have n1_ := Aside0.mk (blk_below (g := gb164) (o := .cells #[.int .u32 t161, .int .i64 t162] 42 (0, 0)) (by (with_reducible repeat (first | refine blk_drewN ?_ _ | refine blk_drew ?_ | refine blk_alloc ?_ _)); exact BK164.out) hb); have n2_ := Aside0.mk (blk_below (g := gb168) (o := .cells #[.int .u32 t165, .int .i64 t166] 42 (0, 0)) (by (with_reducible repeat (first | refine blk_drewN ?_ _ | refine blk_drew ?_ | refine blk_alloc ?_ _)); exact BK168.out) hb); have n3_ := Aside0.mk (blk_below (g := gb172) (o := .cells #[.int .u32 t169, .int .i64 t170] 42 (0, 0)) (by (with_reducible repeat (first | refine blk_drewN ?_ _ | refine blk_drew ?_ | refine blk_alloc ?_ _)); exact BK172.out) hb); have n4_ := Aside0.mk (blk_below (g := gb176) (o := .cells #[.int .u32 t173, .int .i64 t174] 42 (0, 0)) (by (with_reducible repeat (first | refine blk_drewN ?_ _ | refine blk_drew ?_ | refine blk_alloc ?_ _)); exact BK176.out) hb); have n5_ := Aside0.mk (below_step (by repeat (first | (with_reducible first | exact HB.out | apply below_alloc | apply pw_below_drewN | apply below_drew1 | refine below_set ?_ GE164.out | refine below_set ?_ GE168.out | refine below_set ?_ GE172.out | refine below_set ?_ GE176.out) | exact HB.out)) hb); clear HO_39; clear BK164; clear BK168; clear BK172; clear BK176; clear HB; have HO_39 := n0_; have BK164 := n1_; have BK168 := n2_; have BK172 := n3_; have BK176 := n4_; have HB := n5_; clear n0_ n1_ n2_ n3_ n4_ n5_; (try clear hb); (try clear hb2); (try clear hk); (try clear hi); have hcz66_0 : w65.cell? ⟨gb168, 0, none⟩ = some (.int .u32 t165) := (blk_cell BK168.out 0).trans rfl; have hcz66_1 : w65.cell? ⟨gb168, 1, none⟩ = some (.int .i64 t166) := (blk_cell BK168.out 1).trans rfl; have hfz66_0 := blk_frozen BK168.out 0; have hfz66_1 := blk_frozen BK168.out 1) | (go_at_call 49; (with_reducible refine (addr_In.calls k1 0 t165 t166 false _ A52.out).mono ?_); rintro e w67 ⟨rfl, hb⟩; have n0_ := Aside0.mk (Kd.R_below (by (with_reducible repeat (first | apply Kd.R_alloc | apply Kd.R_drewN | apply Kd.R_drew)); exact HO_39.out) hb); have n1_ := Aside0.mk (blk_below (g := gb164) (o := .cells #[.int .u32 t161, .int .i64 t162] 42 (0, 0)) (by (with_reducible repeat (first | refine blk_drewN ?_ _ | refine blk_drew ?_ | refine blk_alloc ?_ _)); exact BK164.out) hb); have n2_ := Aside0.mk (blk_below (g := gb168) (o := .cells #[.int .u32 t165, .int .i64 t166] 42 (0, 0)) (by (with_reducible repeat (first | refine blk_drewN ?_ _ | refine blk_drew ?_ | refine blk_alloc ?_ _)); exact BK168.out) hb); have n3_ := Aside0.mk (blk_below (g := gb172) (o := .cells #[.int .u32 t169, .int .i64 t170] 42 (0, 0)) (by (with_reducible repeat (first | refine blk_drewN ?_ _ | refine blk_drew ?_ | refine blk_alloc ?_ _)); exact BK172.out) hb); have n4_ := Aside0.mk (blk_below (g := gb176) (o := .cells #[.int .u32 t173, .int .i64 t174] 42 (0, 0)) (by (with_reducible repeat (first | refine blk_drewN ?_ _ | refine blk_drew ?_ | refine blk_alloc ?_ _)); exact BK176.out) hb); have n5_ := Aside0.mk (below_step (by repeat (first | (with_reducible first | exact HB.out | apply below_alloc | apply pw_below_drewN | apply below_drew1 | refine below_set ?_ GE164.out | refine below_set ?_ GE168.out | refine below_set ?_ GE172.out | refine below_set ?_ GE176.out) | exact HB.out)) hb); clear HO_39; clear BK164; clear BK168; clear BK172; clear BK176; clear HB; have HO_39 := n0_; have BK164 := n1_; have BK168 := n2_; have BK172 := n3_; have BK176 := n4_; have HB := n5_; clear n0_ n1_ n2_ n3_ n4_ n5_; (try clear hb); (try clear hb2); (try clear hk); (try clear hi); have hcz68_0 : w67.cell? ⟨gb168, 0, none⟩ = some (.int .u32 t165) := (blk_cell BK168.out 0).trans rfl; have hcz68_1 : w67.cell? ⟨gb168, 1, none⟩ = some (.int .i64 t166) := (blk_cell BK168.out 1).trans rfl; have hfz68_0 := blk_frozen BK168.out 0; have hfz68_1 := blk_frozen BK168.out 1; have hcz69_0 : w67.cell? ⟨gb164, 0, none⟩ = some (.int .u32 t161) := (blk_cell BK164.out 0).trans rfl; have hcz69_1 : w67.cell? ⟨gb164, 1, none⟩ = some (.int .i64 t162) := (blk_cell BK164.out 1).trans rfl; have hfz69_0 := blk_frozen BK164.out 0; have hfz69_1 := blk_frozen BK164.out 1) | (go_at_call 50; (with_reducible refine (addr_Within.calls k1 t165 t166 t161 t162 t185 _ A54.out).mono ?_); rintro e w70 ⟨rfl, hb⟩; have n0_ := Aside0.mk (Kd.R_below (by (with_reducible repeat (first | apply Kd.R_alloc | apply Kd.R_drewN | apply Kd.R_drew)); exact HO_39.out) hb); have n1_ := Aside0.mk (blk_below (g := gb164) (o := .cells #[.int .u32 t161, .int .i64 t162] 42 (0, 0)) (by (with_reducible repeat (first | refine blk_drewN ?_ _ | refine blk_drew ?_ | refine blk_alloc ?_ _)); exact BK164.out) hb); have n2_ := Aside0.mk (blk_below (g := gb168) (o := .cells #[.int .u32 t165, .int .i64 t166] 42 (0, 0)) (by (with_reducible repeat (first | refine blk_drewN ?_ _ | refine blk_drew ?_ | refine blk_alloc ?_ _)); exact BK168.out) hb); have n3_ := Aside0.mk (blk_below (g := gb172) (o := .cells #[.int .u32 t169, .int .i64 t170] 42 (0, 0)) (by (with_reducible repeat (first | refine blk_drewN ?_ _ | refine blk_drew ?_ | refine blk_alloc ?_ _)); exact BK172.out) hb); have n4_ := Aside0.mk (blk_below (g := gb176) (o := .cells #[.int .u32 t173, .int .i64 t174] 42 (0, 0)) (by (with_reducible repeat (first | refine blk_drewN ?_ _ | refine blk_drew ?_ | refine blk_alloc ?_ _)); exact BK176.out) hb); have n5_ := Aside0.mk (below_step (by repeat (first | (with_reducible first | exact HB.out | apply below_alloc | apply pw_below_drewN | apply below_drew1 | refine below_set ?_ GE164.out | refine below_set ?_ GE168.out | refine below_set ?_ GE172.out | refine below_set ?_ GE176.out) | exact HB.out)) hb); clear HO_39; clear BK164; clear BK168; clear BK172; clear BK176; clear HB; have HO_39 := n0_; have BK164 := n1_; have BK168 := n2_; have BK172 := n3_; have BK176 := n4_; have HB := n5_; clear n0_ n1_ n2_ n3_ n4_ n5_; (try clear hb); (try clear hb2); (try clear hk); (try clear hi)))
                   go_meet
                   case rel => exact ⟨_, (!t185), (by first | rfl | (simp; done) | (simp [*]; done)), H', ⟨by have := HK1.out; first | omega | exact Nat.le_refl _⟩, ⟨by (with_reducible repeat (first | refine blk_drewN ?_ _ | refine blk_drew ?_ | refine blk_alloc ?_ _)); exact BK164.out⟩, ⟨by (with_reducible repeat (first | refine blk_drewN ?_ _ | refine blk_drew ?_ | refine blk_alloc ?_ _)); exact BK168.out⟩, ⟨by (with_reducible repeat (first | refine blk_drewN ?_ _ | refine blk_drew ?_ | refine blk_alloc ?_ _)); exact BK172.out⟩, ⟨by (with_reducible repeat (first | refine blk_drewN ?_ _ | refine blk_drew ?_ | refine blk_alloc ?_ _)); exact BK176.out⟩, ⟨by repeat (first | (with_reducible first | exact HB.out | apply below_alloc | apply pw_below_drewN | apply below_drew1 | refine below_set ?_ GE164.out | refine below_set ?_ GE168.out | refine below_set ?_ GE172.out | refine below_set ?_ GE176.out) | exact HB.out)⟩⟩
                ·replace c51 := Bool.eq_false_iff.mpr c51
                 subst c51
                 have H1 : (none) = some r := by rw [if_neg (show ¬ (false = true) by decide)] at H; exact H
                 clear H
                 have H := H1
                 clear H1
                 exact absurd H (by simp)
               ·replace c49 := Bool.eq_false_iff.mpr c49
                subst c49
                have H1 : (none) = some r := by rw [if_neg (show ¬ (false = true) by decide)] at H; exact H
                clear H
                have H := H1
                clear H1
                exact absurd H (by simp)
              ·replace c47 := Bool.eq_false_iff.mpr c47
               subst c47
               have H1 : (none) = some r := by rw [if_neg (show ¬ (false = true) by decide)] at H; exact H
               clear H
               have H := H1
               clear H1
               exact absurd H (by simp)
             ·rw [if_neg c45] at H
              exact absurd H (by simp)
            ·rw [if_neg c44] at H
             exact absurd H (by simp)
           ·rw [if_neg c43] at H
            exact absurd H (by simp)
          ·rw [if_neg c42] at H
           exact absurd H (by simp)
         ·rw [if_neg c41] at H
          exact absurd H (by simp)
        ·rw [if_neg c40] at H
         exact absurd H (by simp)
       ·rw [if_neg c39] at H
        exact absurd H (by simp)
      ·rw [if_neg c38] at H
       exact absurd H (by simp)
     case rest =>
      clear HC19
      try clear c1
      try clear p1
      try clear q1
      try clear hx1
      try clear c2
      try clear p2
      try clear c3
      try clear c4
      try clear c5
      try clear c6
      try clear p6
      try clear c7
      try clear c7b0
      try clear c8
      try clear c8b0
      try clear c9
      try clear c9b0
      try clear c10
      try clear c11
      try clear c11b0
      try clear c11b1
      try clear p15
      try clear q15
      try clear hx15
      try clear c25
      try clear c29
      try clear c30
      try clear c34
      try clear c35
      try clear c36
      try clear c38
      try clear c38b0
      try clear c38b1
      try clear c39
      try clear c39b0
      try clear c39b1
      try clear c40
      try clear c40b0
      try clear c40b1
      try clear c41
      try clear c41b0
      try clear c41b1
      try clear c42
      try clear c42b0
      try clear c42b1
      try clear c43
      try clear c43b0
      try clear c43b1
      try clear c44
      try clear c44b0
      try clear c44b1
      try clear c45
      try clear c45b0
      try clear c45b1
      try clear c47
      try clear c48
      try clear c49
      try clear c51
      try clear c53
      try clear c55
      try clear c56
      try clear c57
      try clear c62
      try clear c63
      try clear p64
      try clear hcz22_0
      try clear hcz22_1
      try clear hcz26_0
      try clear hcz26_1
      try clear hcz31_0
      try clear hcz31_1
      try clear hcz37_0
      try clear hcz37_1
      try clear hcz58_0
      try clear hcz58_1
      try clear hcz60_0
      try clear hcz60_1
      try clear hcz64_0
      try clear hcz64_1
      try clear hcz66_0
      try clear hcz66_1
      try clear hcz68_0
      try clear hcz68_1
      try clear hcz69_0
      try clear hcz69_1
      try clear hfz22_0
      try clear hfz22_1
      try clear hfz26_0
      try clear hfz26_1
      try clear hfz31_0
      try clear hfz31_1
      try clear hfz37_0
      try clear hfz37_1
      try clear hfz58_0
      try clear hfz58_1
      try clear hfz60_0
      try clear hfz60_1
      try clear hfz64_0
      try clear hfz64_1
      try clear hfz66_0
      try clear hfz66_1
      try clear hfz68_0
      try clear hfz68_1
      try clear hfz69_0
      try clear hfz69_1
      try clear hx158_0
      try clear p158
      try clear p2
      try clear q158
      obtain ⟨kq, x131_18, rfl, HA, HJ18, BK164, BK168, BK172, BK176, HB⟩ := hcut
      cases kq with
      | zero => exact absurd HA.out (by simp [waymarklaw01_AddrNames.j1])
      | succ kj18 =>
       have H := HA.out
       clear HA
       simp only [waymarklaw01_AddrNames.j1] at H
       by_cases c71 : x131_18 = true
       ·subst c71
        have H1 : (none) = some r := by rw [if_pos rfl] at H; exact H
        clear H
        have H := H1
        clear H1
        exact absurd H (by simp)
       ·replace c71 := Bool.eq_false_iff.mpr c71
        subst c71
        have H1 : ((addr_Halves.f kj18 t165 t166).bind fun bt186 => ((addr_Ends.f kj18 t161 t162).bind fun bt193 => ((addr_Cut.f 0 4294967295).bind fun bt196 => ((addr_Cut.f 1 4294967294).bind fun bt200 => ((addr_Cut.f 1 0).bind fun bt204 => (if bt186.2.2.2.2 = 5 then (if bt193.2.2 = 0 then (if bt193.1 = 0 then (if bt193.2.1 = 4294967295 then (if bt196.2 = 0 then (if (bt196.1.length : Int) = 1 then (if bt200.2 = 0 then (if (bt200.1.length : Int) = 62 then (if bt204.2 = 1 then ((addr_PrefixText.f 0 (-5)).bind fun t208 => (some (t208.toList == ([48, 46, 48, 46, 48, 46, 48, 47, 45, 53] : List UInt8)))) else (none)) else (none)) else (none)) else (none)) else (none)) else (none)) else (none)) else (none)) else (none))))))) = some r := by rw [if_neg (show ¬ (false = true) by decide)] at H; exact H
        clear H
        have H := H1
        clear H1
        replace H := Option.bind_eq_some_iff.mp H
        obtain ⟨⟨t186, t187, t188, t189, t190⟩, A720, H⟩ := H
        replace H : ((addr_Ends.f kj18 t161 t162).bind fun bt193 => ((addr_Cut.f 0 4294967295).bind fun bt196 => ((addr_Cut.f 1 4294967294).bind fun bt200 => ((addr_Cut.f 1 0).bind fun bt204 => (if t190 = 5 then (if bt193.2.2 = 0 then (if bt193.1 = 0 then (if bt193.2.1 = 4294967295 then (if bt196.2 = 0 then (if (bt196.1.length : Int) = 1 then (if bt200.2 = 0 then (if (bt200.1.length : Int) = 62 then (if bt204.2 = 1 then ((addr_PrefixText.f 0 (-5)).bind fun t208 => (some (t208.toList == ([48, 46, 48, 46, 48, 46, 48, 47, 45, 53] : List UInt8)))) else (none)) else (none)) else (none)) else (none)) else (none)) else (none)) else (none)) else (none)) else (none)))))) = some r := H
        have A72 := Aside0.mk A720
        clear A720
        replace H := Option.bind_eq_some_iff.mp H
        obtain ⟨⟨t193, t194, t195⟩, A730, H⟩ := H
        replace H : ((addr_Cut.f 0 4294967295).bind fun bt196 => ((addr_Cut.f 1 4294967294).bind fun bt200 => ((addr_Cut.f 1 0).bind fun bt204 => (if t190 = 5 then (if t195 = 0 then (if t193 = 0 then (if t194 = 4294967295 then (if bt196.2 = 0 then (if (bt196.1.length : Int) = 1 then (if bt200.2 = 0 then (if (bt200.1.length : Int) = 62 then (if bt204.2 = 1 then ((addr_PrefixText.f 0 (-5)).bind fun t208 => (some (t208.toList == ([48, 46, 48, 46, 48, 46, 48, 47, 45, 53] : List UInt8)))) else (none)) else (none)) else (none)) else (none)) else (none)) else (none)) else (none)) else (none)) else (none))))) = some r := H
        have A73 := Aside0.mk A730
        clear A730
        replace H := Option.bind_eq_some_iff.mp H
        obtain ⟨⟨t196, t197⟩, A740, H⟩ := H
        replace H : ((addr_Cut.f 1 4294967294).bind fun bt200 => ((addr_Cut.f 1 0).bind fun bt204 => (if t190 = 5 then (if t195 = 0 then (if t193 = 0 then (if t194 = 4294967295 then (if t197 = 0 then (if (t196.length : Int) = 1 then (if bt200.2 = 0 then (if (bt200.1.length : Int) = 62 then (if bt204.2 = 1 then ((addr_PrefixText.f 0 (-5)).bind fun t208 => (some (t208.toList == ([48, 46, 48, 46, 48, 46, 48, 47, 45, 53] : List UInt8)))) else (none)) else (none)) else (none)) else (none)) else (none)) else (none)) else (none)) else (none)) else (none)))) = some r := H
        have A74 := Aside0.mk A740
        clear A740
        replace H := Option.bind_eq_some_iff.mp H
        obtain ⟨⟨t200, t201⟩, A750, H⟩ := H
        replace H : ((addr_Cut.f 1 0).bind fun bt204 => (if t190 = 5 then (if t195 = 0 then (if t193 = 0 then (if t194 = 4294967295 then (if t197 = 0 then (if (t196.length : Int) = 1 then (if t201 = 0 then (if (t200.length : Int) = 62 then (if bt204.2 = 1 then ((addr_PrefixText.f 0 (-5)).bind fun t208 => (some (t208.toList == ([48, 46, 48, 46, 48, 46, 48, 47, 45, 53] : List UInt8)))) else (none)) else (none)) else (none)) else (none)) else (none)) else (none)) else (none)) else (none)) else (none))) = some r := H
        have A75 := Aside0.mk A750
        clear A750
        replace H := Option.bind_eq_some_iff.mp H
        obtain ⟨⟨t204, t205⟩, A760, H⟩ := H
        replace H : (if t190 = 5 then (if t195 = 0 then (if t193 = 0 then (if t194 = 4294967295 then (if t197 = 0 then (if (t196.length : Int) = 1 then (if t201 = 0 then (if (t200.length : Int) = 62 then (if t205 = 1 then ((addr_PrefixText.f 0 (-5)).bind fun t208 => (some (t208.toList == ([48, 46, 48, 46, 48, 46, 48, 47, 45, 53] : List UInt8)))) else (none)) else (none)) else (none)) else (none)) else (none)) else (none)) else (none)) else (none)) else (none)) = some r := H
        have A76 := Aside0.mk A760
        clear A760
        by_cases c77 : t190 = 5
        ·rw [if_pos c77] at H
         have c77b0 : (t190 == 5) = true := beq_iff_eq.mpr c77
         have c77b1 : (t190 != 5) = false := bne_eq_false_iff_eq.mpr c77
         clear c77
         by_cases c78 : t195 = 0
         ·rw [if_pos c78] at H
          have c78b0 : (t195 == 0) = true := beq_iff_eq.mpr c78
          have c78b1 : (t195 != 0) = false := bne_eq_false_iff_eq.mpr c78
          clear c78
          by_cases c79 : t193 = 0
          ·rw [if_pos c79] at H
           have c79b0 : (t193 == 0) = true := beq_iff_eq.mpr c79
           have c79b1 : (t193 != 0) = false := bne_eq_false_iff_eq.mpr c79
           clear c79
           by_cases c80 : t194 = 4294967295
           ·rw [if_pos c80] at H
            have c80b0 : (t194 == 4294967295) = true := beq_iff_eq.mpr c80
            have c80b1 : (t194 != 4294967295) = false := bne_eq_false_iff_eq.mpr c80
            clear c80
            by_cases c81 : t197 = 0
            ·rw [if_pos c81] at H
             have c81b0 : (t197 == 0) = true := beq_iff_eq.mpr c81
             have c81b1 : (t197 != 0) = false := bne_eq_false_iff_eq.mpr c81
             clear c81
             by_cases c82 : (t196.length : Int) = 1
             ·rw [if_pos c82] at H
              have c82b0 : ((t196.length : Int) == 1) = true := beq_iff_eq.mpr c82
              have c82b1 : ((t196.length : Int) != 1) = false := bne_eq_false_iff_eq.mpr c82
              clear c82
              by_cases c83 : t201 = 0
              ·rw [if_pos c83] at H
               have c83b0 : (t201 == 0) = true := beq_iff_eq.mpr c83
               have c83b1 : (t201 != 0) = false := bne_eq_false_iff_eq.mpr c83
               clear c83
               by_cases c84 : (t200.length : Int) = 62
               ·rw [if_pos c84] at H
                have c84b0 : ((t200.length : Int) == 62) = true := beq_iff_eq.mpr c84
                have c84b1 : ((t200.length : Int) != 62) = false := bne_eq_false_iff_eq.mpr c84
                clear c84
                by_cases c85 : t205 = 1
                ·rw [if_pos c85] at H
                 have c85b0 : (t205 == 1) = true := beq_iff_eq.mpr c85
                 have c85b1 : (t205 != 1) = false := bne_eq_false_iff_eq.mpr c85
                 clear c85
                 replace H := Option.bind_eq_some_iff.mp H
                 obtain ⟨t208, A860, H⟩ := H
                 replace H : (some (t208.toList == ([48, 46, 48, 46, 48, 46, 48, 47, 45, 53] : List UInt8))) = some r := H
                 have A86 := Aside0.mk A860
                 clear A860
                 as_aux_lemma =>
                  obtain rfl := Option.some.inj H
                  have hnb87 := NB168_164.out
                  have hnc87 := NB164_168.out
                  have hnb88 := NB168_172.out
                  have hnc88 := NB172_168.out
                  have hnb89 := NB168_176.out
                  have hnc89 := NB176_168.out
                  have hcz90_0 : wc.cell? ⟨gb168, 0, none⟩ = some (.int .u32 t165) := (blk_cell BK168.out 0).trans rfl
                  have hcz90_1 : wc.cell? ⟨gb168, 1, none⟩ = some (.int .i64 t166) := (blk_cell BK168.out 1).trans rfl
                  have hfz90_0 := blk_frozen BK168.out 0
                  have hfz90_1 := blk_frozen BK168.out 1
                  go_wp2_with (first | ((with_reducible refine gate_callee (f := 51) rfl ?_); refine goesL_ (some 134) rfl rfl Tryd.func51 (by kernel_rfl) rfl #[.agg #[.int .u32 t165, .int .i64 t166]] rfl (by (try simp only [List.map_toArray, List.map_cons, List.map_nil]); first | done | rfl | (simp only [List.length_drop, List.length_take]; rfl)) ?_; (with_reducible refine (addr_Halves.calls kj18 t165 t166 t186 t187 t188 t189 t190 _ A72.out).mono ?_); rintro e w91 ⟨rfl, hb⟩; refine ⟨_, rfl, ?_⟩; have n0_ := Aside0.mk (blk_below (g := gb164) (o := .cells #[.int .u32 t161, .int .i64 t162] 42 (0, 0)) (by (with_reducible repeat (first | refine blk_drewN ?_ _ | refine blk_drew ?_ | refine blk_alloc ?_ _)); exact BK164.out) hb); have n1_ := Aside0.mk (blk_below (g := gb168) (o := .cells #[.int .u32 t165, .int .i64 t166] 42 (0, 0)) (by (with_reducible repeat (first | refine blk_drewN ?_ _ | refine blk_drew ?_ | refine blk_alloc ?_ _)); exact BK168.out) hb); have n2_ := Aside0.mk (blk_below (g := gb172) (o := .cells #[.int .u32 t169, .int .i64 t170] 42 (0, 0)) (by (with_reducible repeat (first | refine blk_drewN ?_ _ | refine blk_drew ?_ | refine blk_alloc ?_ _)); exact BK172.out) hb); have n3_ := Aside0.mk (blk_below (g := gb176) (o := .cells #[.int .u32 t173, .int .i64 t174] 42 (0, 0)) (by (with_reducible repeat (first | refine blk_drewN ?_ _ | refine blk_drew ?_ | refine blk_alloc ?_ _)); exact BK176.out) hb); have n4_ := Aside0.mk (below_step (by repeat (first | (with_reducible first | exact HB.out | apply below_alloc | apply pw_below_drewN | apply below_drew1 | refine below_set ?_ GE164.out | refine below_set ?_ GE168.out | refine below_set ?_ GE172.out | refine below_set ?_ GE176.out) | exact HB.out)) hb); clear BK164; clear BK168; clear BK172; clear BK176; clear HB; have BK164 := n0_; have BK168 := n1_; have BK172 := n2_; have BK176 := n3_; have HB := n4_; clear n0_ n1_ n2_ n3_ n4_; (try clear hb); (try clear hb2); (try clear hk); (try clear hi)) | ((with_reducible refine gate_dst (N := 17) rfl ?_); (try (refine gate_guard (by rfl) ?_; dsimp only)); refine box_event ?hg (N := 17) ?hd (cs := #[.int .u32 0, .int .i64 0]) (t := 42) ?hr ?_; (case hd => rfl); (case hg => rfl); (case hr => first | (go_simp; done) | (go_simp; rfl)); intro gb191 hg w92 hbox hb; have n0_ := Aside0.mk (blk_below (g := gb164) (o := .cells #[.int .u32 t161, .int .i64 t162] 42 (0, 0)) (by (with_reducible repeat (first | refine blk_drewN ?_ _ | refine blk_drew ?_ | refine blk_alloc ?_ _)); exact BK164.out) hb); have n1_ := Aside0.mk (blk_below (g := gb168) (o := .cells #[.int .u32 t165, .int .i64 t166] 42 (0, 0)) (by (with_reducible repeat (first | refine blk_drewN ?_ _ | refine blk_drew ?_ | refine blk_alloc ?_ _)); exact BK168.out) hb); have n2_ := Aside0.mk (blk_below (g := gb172) (o := .cells #[.int .u32 t169, .int .i64 t170] 42 (0, 0)) (by (with_reducible repeat (first | refine blk_drewN ?_ _ | refine blk_drew ?_ | refine blk_alloc ?_ _)); exact BK172.out) hb); have n3_ := Aside0.mk (blk_below (g := gb176) (o := .cells #[.int .u32 t173, .int .i64 t174] 42 (0, 0)) (by (with_reducible repeat (first | refine blk_drewN ?_ _ | refine blk_drew ?_ | refine blk_alloc ?_ _)); exact BK176.out) hb); have n4_ := Aside0.mk (below_step (by repeat (first | (with_reducible first | exact HB.out | apply below_alloc | apply pw_below_drewN | apply below_drew1 | refine below_set ?_ GE164.out | refine below_set ?_ GE168.out | refine below_set ?_ GE172.out | refine below_set ?_ GE176.out) | exact HB.out)) hb); have n5_ := Aside0.mk (hbox); have n6_ := Aside0.mk ((by rw [hg]; exact (below_size (by repeat (first | (with_reducible first | exact HB.out | apply below_alloc | apply pw_below_drewN | apply below_drew1 | refine below_set ?_ GE164.out | refine below_set ?_ GE168.out | refine below_set ?_ GE172.out | refine below_set ?_ GE176.out) | exact HB.out))) : w.heap.size ≤ gb191)); have n7_ := Aside0.mk ((by rw [hg]; exact (below_size (by repeat (first | (with_reducible first | exact HB.out | apply below_alloc | apply pw_below_drewN | apply below_drew1 | refine below_set ?_ GE164.out | refine below_set ?_ GE168.out | refine below_set ?_ GE172.out | refine below_set ?_ GE176.out) | exact HB.out))) : w.heap.size ≤ gb191)); have n8_ := Aside0.mk ((by rw [hg]; exact Nat.ne_of_lt (blk_lt (g := gb164) (o := .cells #[.int .u32 t161, .int .i64 t162] 42 (0, 0)) (by (with_reducible repeat (first | refine blk_drewN ?_ _ | refine blk_drew ?_ | refine blk_alloc ?_ _)); exact BK164.out)) : gb164 ≠ gb191)); have n9_ := Aside0.mk ((by rw [hg]; exact Nat.ne_of_gt (blk_lt (g := gb164) (o := .cells #[.int .u32 t161, .int .i64 t162] 42 (0, 0)) (by (with_reducible repeat (first | refine blk_drewN ?_ _ | refine blk_drew ?_ | refine blk_alloc ?_ _)); exact BK164.out)) : gb191 ≠ gb164)); have n10_ := Aside0.mk ((by rw [hg]; exact Nat.ne_of_lt (blk_lt (g := gb168) (o := .cells #[.int .u32 t165, .int .i64 t166] 42 (0, 0)) (by (with_reducible repeat (first | refine blk_drewN ?_ _ | refine blk_drew ?_ | refine blk_alloc ?_ _)); exact BK168.out)) : gb168 ≠ gb191)); have n11_ := Aside0.mk ((by rw [hg]; exact Nat.ne_of_gt (blk_lt (g := gb168) (o := .cells #[.int .u32 t165, .int .i64 t166] 42 (0, 0)) (by (with_reducible repeat (first | refine blk_drewN ?_ _ | refine blk_drew ?_ | refine blk_alloc ?_ _)); exact BK168.out)) : gb191 ≠ gb168)); have n12_ := Aside0.mk ((by rw [hg]; exact Nat.ne_of_lt (blk_lt (g := gb172) (o := .cells #[.int .u32 t169, .int .i64 t170] 42 (0, 0)) (by (with_reducible repeat (first | refine blk_drewN ?_ _ | refine blk_drew ?_ | refine blk_alloc ?_ _)); exact BK172.out)) : gb172 ≠ gb191)); have n13_ := Aside0.mk ((by rw [hg]; exact Nat.ne_of_gt (blk_lt (g := gb172) (o := .cells #[.int .u32 t169, .int .i64 t170] 42 (0, 0)) (by (with_reducible repeat (first | refine blk_drewN ?_ _ | refine blk_drew ?_ | refine blk_alloc ?_ _)); exact BK172.out)) : gb191 ≠ gb172)); have n14_ := Aside0.mk ((by rw [hg]; exact Nat.ne_of_lt (blk_lt (g := gb176) (o := .cells #[.int .u32 t173, .int .i64 t174] 42 (0, 0)) (by (with_reducible repeat (first | refine blk_drewN ?_ _ | refine blk_drew ?_ | refine blk_alloc ?_ _)); exact BK176.out)) : gb176 ≠ gb191)); have n15_ := Aside0.mk ((by rw [hg]; exact Nat.ne_of_gt (blk_lt (g := gb176) (o := .cells #[.int .u32 t173, .int .i64 t174] 42 (0, 0)) (by (with_reducible repeat (first | refine blk_drewN ?_ _ | refine blk_drew ?_ | refine blk_alloc ?_ _)); exact BK176.out)) : gb191 ≠ gb176)); clear BK164; clear BK168; clear BK172; clear BK176; clear HB; have BK164 := n0_; have BK168 := n1_; have BK172 := n2_; have BK176 := n3_; have HB := n4_; have BK191 := n5_; have GW191 := n6_; have GE191 := n7_; have NB164_191 := n8_; have NB191_164 := n9_; have NB168_191 := n10_; have NB191_168 := n11_; have NB172_191 := n12_; have NB191_172 := n13_; have NB176_191 := n14_; have NB191_176 := n15_; clear n0_ n1_ n2_ n3_ n4_ n5_ n6_ n7_ n8_ n9_ n10_ n11_ n12_ n13_ n14_ n15_; clear hb hbox hg) | ((with_reducible refine gate_dst (N := 18) rfl ?_); (try (refine gate_guard (by rfl) ?_; dsimp only)); refine box_event ?hg (N := 18) ?hd (cs := #[.int .u32 0, .int .i64 0]) (t := 42) ?hr ?_; (case hd => rfl); (case hg => rfl); (case hr => first | (go_simp; done) | (go_simp; rfl)); intro gb192 hg w93 hbox hb; have n0_ := Aside0.mk (blk_below (g := gb164) (o := .cells #[.int .u32 t161, .int .i64 t162] 42 (0, 0)) (by (with_reducible repeat (first | refine blk_drewN ?_ _ | refine blk_drew ?_ | refine blk_alloc ?_ _)); exact BK164.out) hb); have n1_ := Aside0.mk (blk_below (g := gb168) (o := .cells #[.int .u32 t165, .int .i64 t166] 42 (0, 0)) (by (with_reducible repeat (first | refine blk_drewN ?_ _ | refine blk_drew ?_ | refine blk_alloc ?_ _)); exact BK168.out) hb); have n2_ := Aside0.mk (blk_below (g := gb172) (o := .cells #[.int .u32 t169, .int .i64 t170] 42 (0, 0)) (by (with_reducible repeat (first | refine blk_drewN ?_ _ | refine blk_drew ?_ | refine blk_alloc ?_ _)); exact BK172.out) hb); have n3_ := Aside0.mk (blk_below (g := gb176) (o := .cells #[.int .u32 t173, .int .i64 t174] 42 (0, 0)) (by (with_reducible repeat (first | refine blk_drewN ?_ _ | refine blk_drew ?_ | refine blk_alloc ?_ _)); exact BK176.out) hb); have n4_ := Aside0.mk (blk_below (g := gb191) (o := .cells #[.int .u32 0, .int .i64 0] 42 (0, 0)) (by (with_reducible repeat (first | refine blk_drewN ?_ _ | refine blk_drew ?_ | refine blk_alloc ?_ _)); exact BK191.out) hb); have n5_ := Aside0.mk (below_step (by repeat (first | (with_reducible first | exact HB.out | apply below_alloc | apply pw_below_drewN | apply below_drew1 | refine below_set ?_ GE164.out | refine below_set ?_ GE168.out | refine below_set ?_ GE172.out | refine below_set ?_ GE176.out | refine below_set ?_ GE191.out) | exact HB.out)) hb); have n6_ := Aside0.mk (hbox); have n7_ := Aside0.mk ((by rw [hg]; exact (below_size (by repeat (first | (with_reducible first | exact HB.out | apply below_alloc | apply pw_below_drewN | apply below_drew1 | refine below_set ?_ GE164.out | refine below_set ?_ GE168.out | refine below_set ?_ GE172.out | refine below_set ?_ GE176.out | refine below_set ?_ GE191.out) | exact HB.out))) : w.heap.size ≤ gb192)); have n8_ := Aside0.mk ((by rw [hg]; exact (below_size (by repeat (first | (with_reducible first | exact HB.out | apply below_alloc | apply pw_below_drewN | apply below_drew1 | refine below_set ?_ GE164.out | refine below_set ?_ GE168.out | refine below_set ?_ GE172.out | refine below_set ?_ GE176.out | refine below_set ?_ GE191.out) | exact HB.out))) : w.heap.size ≤ gb192)); have n9_ := Aside0.mk ((by rw [hg]; exact Nat.ne_of_lt (blk_lt (g := gb164) (o := .cells #[.int .u32 t161, .int .i64 t162] 42 (0, 0)) (by (with_reducible repeat (first | refine blk_drewN ?_ _ | refine blk_drew ?_ | refine blk_alloc ?_ _)); exact BK164.out)) : gb164 ≠ gb192)); have n10_ := Aside0.mk ((by rw [hg]; exact Nat.ne_of_gt (blk_lt (g := gb164) (o := .cells #[.int .u32 t161, .int .i64 t162] 42 (0, 0)) (by (with_reducible repeat (first | refine blk_drewN ?_ _ | refine blk_drew ?_ | refine blk_alloc ?_ _)); exact BK164.out)) : gb192 ≠ gb164)); have n11_ := Aside0.mk ((by rw [hg]; exact Nat.ne_of_lt (blk_lt (g := gb168) (o := .cells #[.int .u32 t165, .int .i64 t166] 42 (0, 0)) (by (with_reducible repeat (first | refine blk_drewN ?_ _ | refine blk_drew ?_ | refine blk_alloc ?_ _)); exact BK168.out)) : gb168 ≠ gb192)); have n12_ := Aside0.mk ((by rw [hg]; exact Nat.ne_of_gt (blk_lt (g := gb168) (o := .cells #[.int .u32 t165, .int .i64 t166] 42 (0, 0)) (by (with_reducible repeat (first | refine blk_drewN ?_ _ | refine blk_drew ?_ | refine blk_alloc ?_ _)); exact BK168.out)) : gb192 ≠ gb168)); have n13_ := Aside0.mk ((by rw [hg]; exact Nat.ne_of_lt (blk_lt (g := gb172) (o := .cells #[.int .u32 t169, .int .i64 t170] 42 (0, 0)) (by (with_reducible repeat (first | refine blk_drewN ?_ _ | refine blk_drew ?_ | refine blk_alloc ?_ _)); exact BK172.out)) : gb172 ≠ gb192)); have n14_ := Aside0.mk ((by rw [hg]; exact Nat.ne_of_gt (blk_lt (g := gb172) (o := .cells #[.int .u32 t169, .int .i64 t170] 42 (0, 0)) (by (with_reducible repeat (first | refine blk_drewN ?_ _ | refine blk_drew ?_ | refine blk_alloc ?_ _)); exact BK172.out)) : gb192 ≠ gb172)); have n15_ := Aside0.mk ((by rw [hg]; exact Nat.ne_of_lt (blk_lt (g := gb176) (o := .cells #[.int .u32 t173, .int .i64 t174] 42 (0, 0)) (by (with_reducible repeat (first | refine blk_drewN ?_ _ | refine blk_drew ?_ | refine blk_alloc ?_ _)); exact BK176.out)) : gb176 ≠ gb192)); have n16_ := Aside0.mk ((by rw [hg]; exact Nat.ne_of_gt (blk_lt (g := gb176) (o := .cells #[.int .u32 t173, .int .i64 t174] 42 (0, 0)) (by (with_reducible repeat (first | refine blk_drewN ?_ _ | refine blk_drew ?_ | refine blk_alloc ?_ _)); exact BK176.out)) : gb192 ≠ gb176)); have n17_ := Aside0.mk ((by rw [hg]; exact Nat.ne_of_lt (blk_lt (g := gb191) (o := .cells #[.int .u32 0, .int .i64 0] 42 (0, 0)) (by (with_reducible repeat (first | refine blk_drewN ?_ _ | refine blk_drew ?_ | refine blk_alloc ?_ _)); exact BK191.out)) : gb191 ≠ gb192)); have n18_ := Aside0.mk ((by rw [hg]; exact Nat.ne_of_gt (blk_lt (g := gb191) (o := .cells #[.int .u32 0, .int .i64 0] 42 (0, 0)) (by (with_reducible repeat (first | refine blk_drewN ?_ _ | refine blk_drew ?_ | refine blk_alloc ?_ _)); exact BK191.out)) : gb192 ≠ gb191)); clear BK164; clear BK168; clear BK172; clear BK176; clear BK191; clear HB; have BK164 := n0_; have BK168 := n1_; have BK172 := n2_; have BK176 := n3_; have BK191 := n4_; have HB := n5_; have BK192 := n6_; have GW192 := n7_; have GE192 := n8_; have NB164_192 := n9_; have NB192_164 := n10_; have NB168_192 := n11_; have NB192_168 := n12_; have NB172_192 := n13_; have NB192_172 := n14_; have NB176_192 := n15_; have NB192_176 := n16_; have NB191_192 := n17_; have NB192_191 := n18_; clear n0_ n1_ n2_ n3_ n4_ n5_ n6_ n7_ n8_ n9_ n10_ n11_ n12_ n13_ n14_ n15_ n16_ n17_ n18_; clear hb hbox hg; have hnb94 := NB191_164.out; have hnc94 := NB164_191.out; have hnb95 := NB191_168.out; have hnc95 := NB168_191.out; have hnb96 := NB191_172.out; have hnc96 := NB172_191.out; have hnb97 := NB191_176.out; have hnc97 := NB176_191.out; have hnb98 := NB191_192.out; have hnc98 := NB192_191.out; have hcz99_0 : w93.cell? ⟨gb191, 0, none⟩ = some (.int .u32 0) := (blk_cell BK191.out 0).trans rfl; have hcz99_1 : w93.cell? ⟨gb191, 1, none⟩ = some (.int .i64 0) := (blk_cell BK191.out 1).trans rfl; have hfz99_0 := blk_frozen BK191.out 0; have hfz99_1 := blk_frozen BK191.out 1; have hnb100 := NB192_164.out; have hnc100 := NB164_192.out; have hnb101 := NB192_168.out; have hnc101 := NB168_192.out; have hnb102 := NB192_172.out; have hnc102 := NB172_192.out; have hnb103 := NB192_176.out; have hnc103 := NB176_192.out; have hcz104_0 : w93.cell? ⟨gb192, 0, none⟩ = some (.int .u32 0) := (blk_cell BK192.out 0).trans rfl; have hcz104_1 : w93.cell? ⟨gb192, 1, none⟩ = some (.int .i64 0) := (blk_cell BK192.out 1).trans rfl; have hfz104_0 := blk_frozen BK192.out 0; have hfz104_1 := blk_frozen BK192.out 1; have hnb105 := NB164_172.out; have hnc105 := NB172_164.out; have hnb106 := NB164_176.out; have hnc106 := NB176_164.out; have hcz107_0 : w93.cell? ⟨gb164, 0, none⟩ = some (.int .u32 t161) := (blk_cell BK164.out 0).trans rfl; have hcz107_1 : w93.cell? ⟨gb164, 1, none⟩ = some (.int .i64 t162) := (blk_cell BK164.out 1).trans rfl; have hfz107_0 := blk_frozen BK164.out 0; have hfz107_1 := blk_frozen BK164.out 1) | ((with_reducible refine gate_callee (f := 52) rfl ?_); refine goesL_ (some 140) rfl rfl Tryd.func52 (by kernel_rfl) rfl #[.agg #[.int .u32 t161, .int .i64 t162]] rfl (by (try simp only [List.map_toArray, List.map_cons, List.map_nil]); first | done | rfl | (simp only [List.length_drop, List.length_take]; rfl)) ?_; (with_reducible refine (addr_Ends.calls kj18 t161 t162 t193 t194 t195 _ A73.out).mono ?_); rintro e w108 ⟨rfl, hb⟩; refine ⟨_, rfl, ?_⟩; have n0_ := Aside0.mk (blk_below (g := gb164) (o := .cells #[.int .u32 t161, .int .i64 t162] 42 (0, 0)) (by (with_reducible repeat (first | refine blk_drewN ?_ _ | refine blk_drew ?_ | refine blk_alloc ?_ _)); refine blk_far ?_ NB164_192.out _; (with_reducible repeat (first | refine blk_drewN ?_ _ | refine blk_drew ?_ | refine blk_alloc ?_ _)); refine blk_far ?_ NB164_192.out _; (with_reducible repeat (first | refine blk_drewN ?_ _ | refine blk_drew ?_ | refine blk_alloc ?_ _)); refine blk_far ?_ NB164_191.out _; (with_reducible repeat (first | refine blk_drewN ?_ _ | refine blk_drew ?_ | refine blk_alloc ?_ _)); refine blk_far ?_ NB164_191.out _; (with_reducible repeat (first | refine blk_drewN ?_ _ | refine blk_drew ?_ | refine blk_alloc ?_ _)); exact BK164.out) hb); have n1_ := Aside0.mk (blk_below (g := gb168) (o := .cells #[.int .u32 t165, .int .i64 t166] 42 (0, 0)) (by (with_reducible repeat (first | refine blk_drewN ?_ _ | refine blk_drew ?_ | refine blk_alloc ?_ _)); refine blk_far ?_ NB168_192.out _; (with_reducible repeat (first | refine blk_drewN ?_ _ | refine blk_drew ?_ | refine blk_alloc ?_ _)); refine blk_far ?_ NB168_192.out _; (with_reducible repeat (first | refine blk_drewN ?_ _ | refine blk_drew ?_ | refine blk_alloc ?_ _)); refine blk_far ?_ NB168_191.out _; (with_reducible repeat (first | refine blk_drewN ?_ _ | refine blk_drew ?_ | refine blk_alloc ?_ _)); refine blk_far ?_ NB168_191.out _; (with_reducible repeat (first | refine blk_drewN ?_ _ | refine blk_drew ?_ | refine blk_alloc ?_ _)); exact BK168.out) hb); have n2_ := Aside0.mk (blk_below (g := gb172) (o := .cells #[.int .u32 t169, .int .i64 t170] 42 (0, 0)) (by (with_reducible repeat (first | refine blk_drewN ?_ _ | refine blk_drew ?_ | refine blk_alloc ?_ _)); refine blk_far ?_ NB172_192.out _; (with_reducible repeat (first | refine blk_drewN ?_ _ | refine blk_drew ?_ | refine blk_alloc ?_ _)); refine blk_far ?_ NB172_192.out _; (with_reducible repeat (first | refine blk_drewN ?_ _ | refine blk_drew ?_ | refine blk_alloc ?_ _)); refine blk_far ?_ NB172_191.out _; (with_reducible repeat (first | refine blk_drewN ?_ _ | refine blk_drew ?_ | refine blk_alloc ?_ _)); refine blk_far ?_ NB172_191.out _; (with_reducible repeat (first | refine blk_drewN ?_ _ | refine blk_drew ?_ | refine blk_alloc ?_ _)); exact BK172.out) hb); have n3_ := Aside0.mk (blk_below (g := gb176) (o := .cells #[.int .u32 t173, .int .i64 t174] 42 (0, 0)) (by (with_reducible repeat (first | refine blk_drewN ?_ _ | refine blk_drew ?_ | refine blk_alloc ?_ _)); refine blk_far ?_ NB176_192.out _; (with_reducible repeat (first | refine blk_drewN ?_ _ | refine blk_drew ?_ | refine blk_alloc ?_ _)); refine blk_far ?_ NB176_192.out _; (with_reducible repeat (first | refine blk_drewN ?_ _ | refine blk_drew ?_ | refine blk_alloc ?_ _)); refine blk_far ?_ NB176_191.out _; (with_reducible repeat (first | refine blk_drewN ?_ _ | refine blk_drew ?_ | refine blk_alloc ?_ _)); refine blk_far ?_ NB176_191.out _; (with_reducible repeat (first | refine blk_drewN ?_ _ | refine blk_drew ?_ | refine blk_alloc ?_ _)); exact BK176.out) hb); have n4_ := Aside0.mk (blk_below (g := gb191) (o := .cells #[.int .u32 t186, .int .i64 t187] 42 (0, 0)) (by (with_reducible repeat (first | refine blk_drewN ?_ _ | refine blk_drew ?_ | refine blk_alloc ?_ _)); refine blk_far ?_ NB191_192.out _; (with_reducible repeat (first | refine blk_drewN ?_ _ | refine blk_drew ?_ | refine blk_alloc ?_ _)); refine blk_far ?_ NB191_192.out _; (with_reducible repeat (first | refine blk_drewN ?_ _ | refine blk_drew ?_ | refine blk_alloc ?_ _)); refine blk_put (cs := #[.int .u32 t186, .int .i64 0]) ?_ 1 _ rfl; (with_reducible repeat (first | refine blk_drewN ?_ _ | refine blk_drew ?_ | refine blk_alloc ?_ _)); refine blk_put (cs := #[.int .u32 0, .int .i64 0]) ?_ 0 _ rfl; (with_reducible repeat (first | refine blk_drewN ?_ _ | refine blk_drew ?_ | refine blk_alloc ?_ _)); exact BK191.out) hb); have n5_ := Aside0.mk (blk_below (g := gb192) (o := .cells #[.int .u32 t188, .int .i64 t189] 42 (0, 0)) (by (with_reducible repeat (first | refine blk_drewN ?_ _ | refine blk_drew ?_ | refine blk_alloc ?_ _)); refine blk_put (cs := #[.int .u32 t188, .int .i64 0]) ?_ 1 _ rfl; (with_reducible repeat (first | refine blk_drewN ?_ _ | refine blk_drew ?_ | refine blk_alloc ?_ _)); refine blk_put (cs := #[.int .u32 0, .int .i64 0]) ?_ 0 _ rfl; (with_reducible repeat (first | refine blk_drewN ?_ _ | refine blk_drew ?_ | refine blk_alloc ?_ _)); refine blk_far ?_ NB192_191.out _; (with_reducible repeat (first | refine blk_drewN ?_ _ | refine blk_drew ?_ | refine blk_alloc ?_ _)); refine blk_far ?_ NB192_191.out _; (with_reducible repeat (first | refine blk_drewN ?_ _ | refine blk_drew ?_ | refine blk_alloc ?_ _)); exact BK192.out) hb); have n6_ := Aside0.mk (below_step (by repeat (first | (with_reducible first | exact HB.out | apply below_alloc | apply pw_below_drewN | apply below_drew1 | refine below_set ?_ GE164.out | refine below_set ?_ GE168.out | refine below_set ?_ GE172.out | refine below_set ?_ GE176.out | refine below_set ?_ GE191.out | refine below_set ?_ GE192.out) | exact HB.out)) hb); clear BK164; clear BK168; clear BK172; clear BK176; clear BK191; clear BK192; clear HB; have BK164 := n0_; have BK168 := n1_; have BK172 := n2_; have BK176 := n3_; have BK191 := n4_; have BK192 := n5_; have HB := n6_; clear n0_ n1_ n2_ n3_ n4_ n5_ n6_; (try clear hb); (try clear hb2); (try clear hk); (try clear hi)) | ((with_reducible refine gate_callee (f := 53) rfl ?_); refine goesL_ (some 145) rfl rfl Tryd.func53 (by kernel_rfl) rfl #[.int .u32 0, .int .u32 4294967295] rfl (by (try simp only [List.map_toArray, List.map_cons, List.map_nil]); first | done | rfl | (simp only [List.length_drop, List.length_take]; rfl)) ?_; (with_reducible refine (addr_Cut.calls 0 4294967295 t196 t197 _ A74.out).mono ?_); rintro e w109 ⟨v198, rfl, ho0, hb⟩; refine ⟨_, rfl, ?_⟩; have n0_ := Aside0.mk (Kd.R_lower (Kd.R_newB (Kd.R_newB (Kd.R_newB (Kd.R_newB (Kd.R_newB (Kd.R_newB ho0 (g := gb164) (o := .cells #[.int .u32 t161, .int .i64 t162] 42 (0, 0)) (by (with_reducible repeat (first | refine blk_drewN ?_ _ | refine blk_drew ?_ | refine blk_alloc ?_ _)); exact BK164.out)) (g := gb168) (o := .cells #[.int .u32 t165, .int .i64 t166] 42 (0, 0)) (by (with_reducible repeat (first | refine blk_drewN ?_ _ | refine blk_drew ?_ | refine blk_alloc ?_ _)); exact BK168.out)) (g := gb172) (o := .cells #[.int .u32 t169, .int .i64 t170] 42 (0, 0)) (by (with_reducible repeat (first | refine blk_drewN ?_ _ | refine blk_drew ?_ | refine blk_alloc ?_ _)); exact BK172.out)) (g := gb176) (o := .cells #[.int .u32 t173, .int .i64 t174] 42 (0, 0)) (by (with_reducible repeat (first | refine blk_drewN ?_ _ | refine blk_drew ?_ | refine blk_alloc ?_ _)); exact BK176.out)) (g := gb191) (o := .cells #[.int .u32 t186, .int .i64 t187] 42 (0, 0)) (by (with_reducible repeat (first | refine blk_drewN ?_ _ | refine blk_drew ?_ | refine blk_alloc ?_ _)); exact BK191.out)) (g := gb192) (o := .cells #[.int .u32 t188, .int .i64 t189] 42 (0, 0)) (by (with_reducible repeat (first | refine blk_drewN ?_ _ | refine blk_drew ?_ | refine blk_alloc ?_ _)); exact BK192.out)) (below_size (by repeat (first | (with_reducible first | exact HB.out | apply below_alloc | apply pw_below_drewN | apply below_drew1 | refine below_set ?_ GE164.out | refine below_set ?_ GE168.out | refine below_set ?_ GE172.out | refine below_set ?_ GE176.out | refine below_set ?_ GE191.out | refine below_set ?_ GE192.out) | exact HB.out)))); have n1_ := Aside0.mk (blk_below (g := gb164) (o := .cells #[.int .u32 t161, .int .i64 t162] 42 (0, 0)) (by (with_reducible repeat (first | refine blk_drewN ?_ _ | refine blk_drew ?_ | refine blk_alloc ?_ _)); exact BK164.out) hb); have n2_ := Aside0.mk (blk_below (g := gb168) (o := .cells #[.int .u32 t165, .int .i64 t166] 42 (0, 0)) (by (with_reducible repeat (first | refine blk_drewN ?_ _ | refine blk_drew ?_ | refine blk_alloc ?_ _)); exact BK168.out) hb); have n3_ := Aside0.mk (blk_below (g := gb172) (o := .cells #[.int .u32 t169, .int .i64 t170] 42 (0, 0)) (by (with_reducible repeat (first | refine blk_drewN ?_ _ | refine blk_drew ?_ | refine blk_alloc ?_ _)); exact BK172.out) hb); have n4_ := Aside0.mk (blk_below (g := gb176) (o := .cells #[.int .u32 t173, .int .i64 t174] 42 (0, 0)) (by (with_reducible repeat (first | refine blk_drewN ?_ _ | refine blk_drew ?_ | refine blk_alloc ?_ _)); exact BK176.out) hb); have n5_ := Aside0.mk (blk_below (g := gb191) (o := .cells #[.int .u32 t186, .int .i64 t187] 42 (0, 0)) (by (with_reducible repeat (first | refine blk_drewN ?_ _ | refine blk_drew ?_ | refine blk_alloc ?_ _)); exact BK191.out) hb); have n6_ := Aside0.mk (blk_below (g := gb192) (o := .cells #[.int .u32 t188, .int .i64 t189] 42 (0, 0)) (by (with_reducible repeat (first | refine blk_drewN ?_ _ | refine blk_drew ?_ | refine blk_alloc ?_ _)); exact BK192.out) hb); have n7_ := Aside0.mk (below_step (by repeat (first | (with_reducible first | exact HB.out | apply below_alloc | apply pw_below_drewN | apply below_drew1 | refine below_set ?_ GE164.out | refine below_set ?_ GE168.out | refine below_set ?_ GE172.out | refine below_set ?_ GE176.out | refine below_set ?_ GE191.out | refine below_set ?_ GE192.out) | exact HB.out)) hb); clear BK164; clear BK168; clear BK172; clear BK176; clear BK191; clear BK192; clear HB; have HO199 := n0_; have BK164 := n1_; have BK168 := n2_; have BK172 := n3_; have BK176 := n4_; have BK191 := n5_; have BK192 := n6_; have HB := n7_; clear n0_ n1_ n2_ n3_ n4_ n5_ n6_ n7_; (try clear hb); (try clear hb2); (try clear hk); (try clear hi); (try clear ho0)) | ((with_reducible refine gate_callee (f := 53) rfl ?_); refine goesL_ (some 149) rfl rfl Tryd.func53 (by kernel_rfl) rfl #[.int .u32 1, .int .u32 4294967294] rfl (by (try simp only [List.map_toArray, List.map_cons, List.map_nil]); first | done | rfl | (simp only [List.length_drop, List.length_take]; rfl)) ?_; (with_reducible refine (addr_Cut.calls 1 4294967294 t200 t201 _ A75.out).mono ?_); rintro e w110 ⟨v202, rfl, ho0, hb⟩; refine ⟨_, rfl, ?_⟩; have n0_ := Aside0.mk (Kd.R_elder' (by (with_reducible repeat (first | apply Kd.R_alloc | apply Kd.R_drewN | apply Kd.R_drew)); exact HO199.out) (Kd.R_base ho0) hb); have n1_ := Aside0.mk (Kd.R_lower (Kd.R_newB (Kd.R_newB (Kd.R_newB (Kd.R_newB (Kd.R_newB (Kd.R_newB (Kd.R_new' ho0 (Kd.R_lt (by (with_reducible repeat (first | apply Kd.R_alloc | apply Kd.R_drewN | apply Kd.R_drew)); exact HO199.out))) (g := gb164) (o := .cells #[.int .u32 t161, .int .i64 t162] 42 (0, 0)) (by (with_reducible repeat (first | refine blk_drewN ?_ _ | refine blk_drew ?_ | refine blk_alloc ?_ _)); exact BK164.out)) (g := gb168) (o := .cells #[.int .u32 t165, .int .i64 t166] 42 (0, 0)) (by (with_reducible repeat (first | refine blk_drewN ?_ _ | refine blk_drew ?_ | refine blk_alloc ?_ _)); exact BK168.out)) (g := gb172) (o := .cells #[.int .u32 t169, .int .i64 t170] 42 (0, 0)) (by (with_reducible repeat (first | refine blk_drewN ?_ _ | refine blk_drew ?_ | refine blk_alloc ?_ _)); exact BK172.out)) (g := gb176) (o := .cells #[.int .u32 t173, .int .i64 t174] 42 (0, 0)) (by (with_reducible repeat (first | refine blk_drewN ?_ _ | refine blk_drew ?_ | refine blk_alloc ?_ _)); exact BK176.out)) (g := gb191) (o := .cells #[.int .u32 t186, .int .i64 t187] 42 (0, 0)) (by (with_reducible repeat (first | refine blk_drewN ?_ _ | refine blk_drew ?_ | refine blk_alloc ?_ _)); exact BK191.out)) (g := gb192) (o := .cells #[.int .u32 t188, .int .i64 t189] 42 (0, 0)) (by (with_reducible repeat (first | refine blk_drewN ?_ _ | refine blk_drew ?_ | refine blk_alloc ?_ _)); exact BK192.out)) (below_size (by repeat (first | (with_reducible first | exact HB.out | apply below_alloc | apply pw_below_drewN | apply below_drew1 | refine below_set ?_ GE164.out | refine below_set ?_ GE168.out | refine below_set ?_ GE172.out | refine below_set ?_ GE176.out | refine below_set ?_ GE191.out | refine below_set ?_ GE192.out) | exact HB.out)))); have n2_ := Aside0.mk (blk_below (g := gb164) (o := .cells #[.int .u32 t161, .int .i64 t162] 42 (0, 0)) (by (with_reducible repeat (first | refine blk_drewN ?_ _ | refine blk_drew ?_ | refine blk_alloc ?_ _)); exact BK164.out) hb); have n3_ := Aside0.mk (blk_below (g := gb168) (o := .cells #[.int .u32 t165, .int .i64 t166] 42 (0, 0)) (by (with_reducible repeat (first | refine blk_drewN ?_ _ | refine blk_drew ?_ | refine blk_alloc ?_ _)); exact BK168.out) hb); have n4_ := Aside0.mk (blk_below (g := gb172) (o := .cells #[.int .u32 t169, .int .i64 t170] 42 (0, 0)) (by (with_reducible repeat (first | refine blk_drewN ?_ _ | refine blk_drew ?_ | refine blk_alloc ?_ _)); exact BK172.out) hb); have n5_ := Aside0.mk (blk_below (g := gb176) (o := .cells #[.int .u32 t173, .int .i64 t174] 42 (0, 0)) (by (with_reducible repeat (first | refine blk_drewN ?_ _ | refine blk_drew ?_ | refine blk_alloc ?_ _)); exact BK176.out) hb); have n6_ := Aside0.mk (blk_below (g := gb191) (o := .cells #[.int .u32 t186, .int .i64 t187] 42 (0, 0)) (by (with_reducible repeat (first | refine blk_drewN ?_ _ | refine blk_drew ?_ | refine blk_alloc ?_ _)); exact BK191.out) hb); have n7_ := Aside0.mk (blk_below (g := gb192) (o := .cells #[.int .u32 t188, .int .i64 t189] 42 (0, 0)) (by (with_reducible repeat (first | refine blk_drewN ?_ _ | refine blk_drew ?_ | refine blk_alloc ?_ _)); exact BK192.out) hb); have n8_ := Aside0.mk (below_step (by repeat (first | (with_reducible first | exact HB.out | apply below_alloc | apply pw_below_drewN | apply below_drew1 | refine below_set ?_ GE164.out | refine below_set ?_ GE168.out | refine below_set ?_ GE172.out | refine below_set ?_ GE176.out | refine below_set ?_ GE191.out | refine below_set ?_ GE192.out) | exact HB.out)) hb); clear HO199; clear BK164; clear BK168; clear BK172; clear BK176; clear BK191; clear BK192; clear HB; have HO199 := n0_; have HO203 := n1_; have BK164 := n2_; have BK168 := n3_; have BK172 := n4_; have BK176 := n5_; have BK191 := n6_; have BK192 := n7_; have HB := n8_; clear n0_ n1_ n2_ n3_ n4_ n5_ n6_ n7_ n8_; (try clear hb); (try clear hb2); (try clear hk); (try clear hi); (try clear ho0)) | ((with_reducible refine gate_callee (f := 53) rfl ?_); refine goesL_ (some 153) rfl rfl Tryd.func53 (by kernel_rfl) rfl #[.int .u32 1, .int .u32 0] rfl (by (try simp only [List.map_toArray, List.map_cons, List.map_nil]); first | done | rfl | (simp only [List.length_drop, List.length_take]; rfl)) ?_; (with_reducible refine (addr_Cut.calls 1 0 t204 t205 _ A76.out).mono ?_); rintro e w111 ⟨v206, rfl, ho0, hb⟩; refine ⟨_, rfl, ?_⟩; have n0_ := Aside0.mk (Kd.R_elder' (by (with_reducible repeat (first | apply Kd.R_alloc | apply Kd.R_drewN | apply Kd.R_drew)); exact HO199.out) (Kd.R_base ho0) hb); have n1_ := Aside0.mk (Kd.R_elder' (by (with_reducible repeat (first | apply Kd.R_alloc | apply Kd.R_drewN | apply Kd.R_drew)); exact HO203.out) (Kd.R_base ho0) hb); have n2_ := Aside0.mk (Kd.R_lower (Kd.R_newB (Kd.R_newB (Kd.R_newB (Kd.R_newB (Kd.R_newB (Kd.R_newB (Kd.R_new' (Kd.R_new' ho0 (Kd.R_lt (by (with_reducible repeat (first | apply Kd.R_alloc | apply Kd.R_drewN | apply Kd.R_drew)); exact HO199.out))) (Kd.R_lt (by (with_reducible repeat (first | apply Kd.R_alloc | apply Kd.R_drewN | apply Kd.R_drew)); exact HO203.out))) (g := gb164) (o := .cells #[.int .u32 t161, .int .i64 t162] 42 (0, 0)) (by (with_reducible repeat (first | refine blk_drewN ?_ _ | refine blk_drew ?_ | refine blk_alloc ?_ _)); exact BK164.out)) (g := gb168) (o := .cells #[.int .u32 t165, .int .i64 t166] 42 (0, 0)) (by (with_reducible repeat (first | refine blk_drewN ?_ _ | refine blk_drew ?_ | refine blk_alloc ?_ _)); exact BK168.out)) (g := gb172) (o := .cells #[.int .u32 t169, .int .i64 t170] 42 (0, 0)) (by (with_reducible repeat (first | refine blk_drewN ?_ _ | refine blk_drew ?_ | refine blk_alloc ?_ _)); exact BK172.out)) (g := gb176) (o := .cells #[.int .u32 t173, .int .i64 t174] 42 (0, 0)) (by (with_reducible repeat (first | refine blk_drewN ?_ _ | refine blk_drew ?_ | refine blk_alloc ?_ _)); exact BK176.out)) (g := gb191) (o := .cells #[.int .u32 t186, .int .i64 t187] 42 (0, 0)) (by (with_reducible repeat (first | refine blk_drewN ?_ _ | refine blk_drew ?_ | refine blk_alloc ?_ _)); exact BK191.out)) (g := gb192) (o := .cells #[.int .u32 t188, .int .i64 t189] 42 (0, 0)) (by (with_reducible repeat (first | refine blk_drewN ?_ _ | refine blk_drew ?_ | refine blk_alloc ?_ _)); exact BK192.out)) (below_size (by repeat (first | (with_reducible first | exact HB.out | apply below_alloc | apply pw_below_drewN | apply below_drew1 | refine below_set ?_ GE164.out | refine below_set ?_ GE168.out | refine below_set ?_ GE172.out | refine below_set ?_ GE176.out | refine below_set ?_ GE191.out | refine below_set ?_ GE192.out) | exact HB.out)))); have n3_ := Aside0.mk (blk_below (g := gb164) (o := .cells #[.int .u32 t161, .int .i64 t162] 42 (0, 0)) (by (with_reducible repeat (first | refine blk_drewN ?_ _ | refine blk_drew ?_ | refine blk_alloc ?_ _)); exact BK164.out) hb); have n4_ := Aside0.mk (blk_below (g := gb168) (o := .cells #[.int .u32 t165, .int .i64 t166] 42 (0, 0)) (by (with_reducible repeat (first | refine blk_drewN ?_ _ | refine blk_drew ?_ | refine blk_alloc ?_ _)); exact BK168.out) hb); have n5_ := Aside0.mk (blk_below (g := gb172) (o := .cells #[.int .u32 t169, .int .i64 t170] 42 (0, 0)) (by (with_reducible repeat (first | refine blk_drewN ?_ _ | refine blk_drew ?_ | refine blk_alloc ?_ _)); exact BK172.out) hb); have n6_ := Aside0.mk (blk_below (g := gb176) (o := .cells #[.int .u32 t173, .int .i64 t174] 42 (0, 0)) (by (with_reducible repeat (first | refine blk_drewN ?_ _ | refine blk_drew ?_ | refine blk_alloc ?_ _)); exact BK176.out) hb); have n7_ := Aside0.mk (blk_below (g := gb191) (o := .cells #[.int .u32 t186, .int .i64 t187] 42 (0, 0)) (by (with_reducible repeat (first | refine blk_drewN ?_ _ | refine blk_drew ?_ | refine blk_alloc ?_ _)); exact BK191.out) hb); have n8_ := Aside0.mk (blk_below (g := gb192) (o := .cells #[.int .u32 t188, .int .i64 t189] 42 (0, 0)) (by (with_reducible repeat (first | refine blk_drewN ?_ _ | refine blk_drew ?_ | refine blk_alloc ?_ _)); exact BK192.out) hb); have n9_ := Aside0.mk (below_step (by repeat (first | (with_reducible first | exact HB.out | apply below_alloc | apply pw_below_drewN | apply below_drew1 | refine below_set ?_ GE164.out | refine below_set ?_ GE168.out | refine below_set ?_ GE172.out | refine below_set ?_ GE176.out | refine below_set ?_ GE191.out | refine below_set ?_ GE192.out) | exact HB.out)) hb); clear HO199; clear HO203; clear BK164; clear BK168; clear BK172; clear BK176; clear BK191; clear BK192; clear HB; have HO199 := n0_; have HO203 := n1_; have HO207 := n2_; have BK164 := n3_; have BK168 := n4_; have BK172 := n5_; have BK176 := n6_; have BK191 := n7_; have BK192 := n8_; have HB := n9_; clear n0_ n1_ n2_ n3_ n4_ n5_ n6_ n7_ n8_ n9_; (try clear hb); (try clear hb2); (try clear hk); (try clear hi); (try clear ho0); obtain ⟨Ao112, co112, eo112⟩ := Kd.R_slice HO199.out; subst eo112; obtain ⟨Ao113, co113, eo113⟩ := Kd.R_slice HO203.out; subst eo113) | (go_at_call 45; (with_reducible refine (addr_PrefixText.calls 0 (-5) t208 _ ?side1 A86.out).mono ?_); (case side1 => exact Go.Proofs.YtbnihnggljagnaaDoor.WorldA.GW.below HGW_.out (by repeat (first | (with_reducible first | exact HB.out | apply below_alloc | apply pw_below_drewN | apply below_drew1 | refine below_set ?_ GE164.out | refine below_set ?_ GE168.out | refine below_set ?_ GE172.out | refine below_set ?_ GE176.out | refine below_set ?_ GE191.out | refine below_set ?_ GE192.out) | exact HB.out))); rintro e w114 ⟨rfl, hb⟩; have n0_ := Aside0.mk (Kd.R_below (by (with_reducible repeat (first | apply Kd.R_alloc | apply Kd.R_drewN | apply Kd.R_drew)); exact HO199.out) hb); have n1_ := Aside0.mk (Kd.R_below (by (with_reducible repeat (first | apply Kd.R_alloc | apply Kd.R_drewN | apply Kd.R_drew)); exact HO203.out) hb); have n2_ := Aside0.mk (Kd.R_below (by (with_reducible repeat (first | apply Kd.R_alloc | apply Kd.R_drewN | apply Kd.R_drew)); exact HO207.out) hb); have n3_ := Aside0.mk (blk_below (g := gb164) (o := .cells #[.int .u32 t161, .int .i64 t162] 42 (0, 0)) (by (with_reducible repeat (first | refine blk_drewN ?_ _ | refine blk_drew ?_ | refine blk_alloc ?_ _)); exact BK164.out) hb); have n4_ := Aside0.mk (blk_below (g := gb168) (o := .cells #[.int .u32 t165, .int .i64 t166] 42 (0, 0)) (by (with_reducible repeat (first | refine blk_drewN ?_ _ | refine blk_drew ?_ | refine blk_alloc ?_ _)); exact BK168.out) hb); have n5_ := Aside0.mk (blk_below (g := gb172) (o := .cells #[.int .u32 t169, .int .i64 t170] 42 (0, 0)) (by (with_reducible repeat (first | refine blk_drewN ?_ _ | refine blk_drew ?_ | refine blk_alloc ?_ _)); exact BK172.out) hb); have n6_ := Aside0.mk (blk_below (g := gb176) (o := .cells #[.int .u32 t173, .int .i64 t174] 42 (0, 0)) (by (with_reducible repeat (first | refine blk_drewN ?_ _ | refine blk_drew ?_ | refine blk_alloc ?_ _)); exact BK176.out) hb); have n7_ := Aside0.mk (blk_below (g := gb191) (o := .cells #[.int .u32 t186, .int .i64 t187] 42 (0, 0)) (by (with_reducible repeat (first | refine blk_drewN ?_ _ | refine blk_drew ?_ | refine blk_alloc ?_ _)); exact BK191.out) hb); have n8_ := Aside0.mk (blk_below (g := gb192) (o := .cells #[.int .u32 t188, .int .i64 t189] 42 (0, 0)) (by (with_reducible repeat (first | refine blk_drewN ?_ _ | refine blk_drew ?_ | refine blk_alloc ?_ _)); exact BK192.out) hb); have n9_ := Aside0.mk (below_step (by repeat (first | (with_reducible first | exact HB.out | apply below_alloc | apply pw_below_drewN | apply below_drew1 | refine below_set ?_ GE164.out | refine below_set ?_ GE168.out | refine below_set ?_ GE172.out | refine below_set ?_ GE176.out | refine below_set ?_ GE191.out | refine below_set ?_ GE192.out) | exact HB.out)) hb); clear HO199; clear HO203; clear HO207; clear BK164; clear BK168; clear BK172; clear BK176; clear BK191; clear BK192; clear HB; have HO199 := n0_; have HO203 := n1_; have HO207 := n2_; have BK164 := n3_; have BK168 := n4_; have BK172 := n5_; have BK176 := n6_; have BK191 := n7_; have BK192 := n8_; have HB := n9_; clear n0_ n1_ n2_ n3_ n4_ n5_ n6_ n7_ n8_ n9_; (try clear hb); (try clear hb2); (try clear hk); (try clear hi)))
                  go_ret
                  exact ⟨by first | rfl | (simp [errW_none, errW_some] <;> rfl) | (simp [*, errW_none, errW_some] <;> rfl), by repeat (first | (with_reducible first | exact HB.out | apply below_alloc | apply pw_below_drewN | apply below_drew1 | refine below_set ?_ GE164.out | refine below_set ?_ GE168.out | refine below_set ?_ GE172.out | refine below_set ?_ GE176.out | refine below_set ?_ GE191.out | refine below_set ?_ GE192.out) | exact HB.out)⟩
                ·rw [if_neg c85] at H
                 exact absurd H (by simp)
               ·rw [if_neg c84] at H
                exact absurd H (by simp)
              ·rw [if_neg c83] at H
               exact absurd H (by simp)
             ·rw [if_neg c82] at H
              exact absurd H (by simp)
            ·rw [if_neg c81] at H
             exact absurd H (by simp)
           ·rw [if_neg c80] at H
            exact absurd H (by simp)
          ·rw [if_neg c79] at H
           exact absurd H (by simp)
         ·rw [if_neg c78] at H
          exact absurd H (by simp)
        ·rw [if_neg c77] at H
         exact absurd H (by simp)
 ·replace c2 := Bool.eq_false_iff.mpr c2
  subst c2
  have H1 : (none) = some r := by rw [if_neg (show ¬ (false = true) by decide)] at H; exact H
  clear H
  have H := H1
  clear H1
  exact absurd H (by simp)

end Go.Proofs.YtbnihnggljagnaaDoor.QAddrNames
