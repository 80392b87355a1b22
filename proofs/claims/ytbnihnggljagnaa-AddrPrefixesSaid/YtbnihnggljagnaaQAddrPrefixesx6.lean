-- Written by this session's program (wip/tools/printx.py) over the kit's print; the texts marked HAND are its own. Lean checks it.
import Derived.Test.YtbnihnggljagnaaQAddrPrefixesx0
import Derived.Test.YtbnihnggljagnaaQAddrPrefixesx1
import Derived.Test.YtbnihnggljagnaaQAddrPrefixesx2
import Derived.Test.YtbnihnggljagnaaQAddrPrefixesx3
import Derived.Test.YtbnihnggljagnaaQAddrPrefixesx4
import Derived.Test.YtbnihnggljagnaaQAddrPrefixesx5
namespace Go.Proofs.Ytbnihnggljagnaa.QAddrPrefixes
open Go.RowKit Go.Proofs.YtbnihnggljagnaaW.PrintWords Go.Proofs.YtbnihnggljagnaaW.PrintLast Go.Proofs.YtbnihnggljagnaaW.PrintMore
attribute [local go_sem] max2_int min2_int max_two min_two max_three min_three max_four min_four   -- for this text's walks alone
attribute [local go_sem high] Go.Proofs.Ytbnihnggljagnaa.Base.ux_u32 Go.Proofs.Ytbnihnggljagnaa.Base.ux_u64 Go.Proofs.Ytbnihnggljagnaa.Base.ux_u8 Go.Proofs.Ytbnihnggljagnaa.Base.ux_u16
set_option linter.unusedVariables false
set_option linter.unusedSimpArgs false

/-! ### waymarklaw01_AddrPrefixes: function 4 -/
mutual
def waymarklaw01_AddrPrefixes.j0 : Nat → Int → Bool → Int → Int → Int → Int → Option (Bool)
  | 0, _, _, _, _, _, _ => none
  | k + 1, x0, x91, x180000, x180001, x181000, x181001 => if x91 = true then (none) else ((addr_Ends.f k x180000 x180001).bind fun bt198 => ((waymarkref01_Ends.f k x180000 x180001).bind fun bt201 => ((addr_Halves.f k x180000 x180001).bind fun bt204 => ((waymarkref01_Halves.f k x180000 x180001).bind fun bt211 => ((addr_Common.f k x180000 x180001 x181000 x181001).bind fun bt218 => ((waymarkref01_Common.f k x180000 x180001 x181000 x181001).bind fun bt222 => (if bt198.1 = bt201.1 then (if bt198.2.1 = bt201.2.1 then (if bt198.2.2 = bt201.2.2 then ((waymarklaw01_same.f bt204.1 bt204.2.1 bt211.1 bt211.2.1).bind fun t226 => (if t226 = true then ((waymarklaw01_same.f bt204.2.2.1 bt204.2.2.2.1 bt211.2.2.1 bt211.2.2.2.1).bind fun t227 => (if t227 = true then (if bt204.2.2.2.2 = bt211.2.2.2.2 then ((waymarklaw01_same.f bt218.1 bt218.2.1 bt222.1 bt222.2.1).bind fun t228 => (if t228 = true then (waymarklaw01_AddrPrefixes.j1 k x0 (bt218.2.2 != bt222.2.2) x180000 x180001 x181000 x181001) else (none))) else (none)) else (none))) else (none))) else (none)) else (none)) else (none))))))))
def waymarklaw01_AddrPrefixes.j1 : Nat → Int → Bool → Int → Int → Int → Int → Option (Bool)
  | 0, _, _, _, _, _, _ => none
  | k + 1, x0, x168, x180000, x180001, x181000, x181001 => if x168 = true then (none) else ((addr_Check.f k x180000 x180001).bind fun t229 => ((waymarkref01_Check.f k x180000 x180001).bind fun t230 => (if t229 = t230 then ((addr_In.f k x0 x180000 x180001).bind fun t231 => ((waymarkref01_In.f k x0 x180000 x180001).bind fun t232 => (if (t231 == t232) = true then ((addr_Within.f k x180000 x180001 x181000 x181001).bind fun t233 => ((waymarkref01_Within.f k x180000 x180001 x181000 x181001).bind fun t234 => (if (t233 == t234) = true then ((addr_Cmp.f k x180000 x180001 x181000 x181001).bind fun t235 => ((waymarkref01_Cmp.f k x180000 x180001 x181000 x181001).bind fun t236 => (some (t235 == t236)))) else (none)))) else (none)))) else (none))))
end
def waymarklaw01_AddrPrefixes.f (k : Nat) (a0 : Int) (a1_0 : Int) (a1_1 : Int) (a2_0 : Int) (a2_1 : Int) (a3 : Int) : Option (Bool) := (addr_Mask.f a3).bind fun bt181 => ((waymarkref01_Mask.f k a3).bind fun bt183 => ((addr_Bits.f a0).bind fun bt185 => ((waymarkref01_Bits.f k a0).bind fun bt187 => ((addr_Subnet.f a0 a3).bind fun bt189 => ((waymarkref01_Subnet.f k a0 a3).bind fun bt193 => (if bt181.1 = bt183.1 then (if bt181.2 = bt183.2 then (if bt185.1 = bt187.1 then (if bt185.2 = bt187.2 then ((waymarklaw01_same.f bt189.1 bt189.2.1 bt193.1 bt193.2.1).bind fun t197 => (if t197 = true then (waymarklaw01_AddrPrefixes.j0 k a0 (bt189.2.2 != bt193.2.2) a1_0 a1_1 a2_0 a2_1) else (none))) else (none)) else (none)) else (none)) else (none)))))))
theorem waymarklaw01_AddrPrefixes.mono_l : ∀ k, (∀ y0 y1 y2 y3 y4 y5, LeO (waymarklaw01_AddrPrefixes.j0 k y0 y1 y2 y3 y4 y5) (waymarklaw01_AddrPrefixes.j0 (k + 1) y0 y1 y2 y3 y4 y5)) ∧ (∀ y0 y1 y2 y3 y4 y5, LeO (waymarklaw01_AddrPrefixes.j1 k y0 y1 y2 y3 y4 y5) (waymarklaw01_AddrPrefixes.j1 (k + 1) y0 y1 y2 y3 y4 y5))
  | 0 => ⟨fun _ _ _ _ _ _ r h => by simp [waymarklaw01_AddrPrefixes.j0] at h, fun _ _ _ _ _ _ r h => by simp [waymarklaw01_AddrPrefixes.j1] at h⟩
  | k + 1 => by
    obtain ⟨ih0, ih1⟩ := waymarklaw01_AddrPrefixes.mono_l k
    refine ⟨?_, ?_⟩
    · intro y0 y1 y2 y3 y4 y5
      unfold waymarklaw01_AddrPrefixes.j0
      repeat' first
      | (with_reducible exact ih0 _ _ _ _ _ _)
      | (with_reducible exact ih1 _ _ _ _ _ _)
      | (with_reducible exact addr_Check.mono _ _ _)
      | (with_reducible exact addr_Cmp.mono _ _ _ _ _)
      | (with_reducible exact addr_Common.mono _ _ _ _ _)
      | (with_reducible exact addr_Ends.mono _ _ _)
      | (with_reducible exact addr_Halves.mono _ _ _)
      | (with_reducible exact addr_In.mono _ _ _ _)
      | (with_reducible exact addr_Within.mono _ _ _ _ _)
      | (with_reducible exact waymarkref01_Bits.mono _ _)
      | (with_reducible exact waymarkref01_Check.mono _ _ _)
      | (with_reducible exact waymarkref01_Cmp.mono _ _ _ _ _)
      | (with_reducible exact waymarkref01_Common.mono _ _ _ _ _)
      | (with_reducible exact waymarkref01_Ends.mono _ _ _)
      | (with_reducible exact waymarkref01_Halves.mono _ _ _)
      | (with_reducible exact waymarkref01_In.mono _ _ _ _)
      | (with_reducible exact waymarkref01_Mask.mono _ _)
      | (with_reducible exact waymarkref01_Subnet.mono _ _ _)
      | (with_reducible exact waymarkref01_Within.mono _ _ _ _ _)
      | (with_reducible exact LeO.refl _)
      | (with_reducible exact LeO.none _)
      | (with_reducible refine LeO.ite ?_ ?_)
      | (with_reducible refine LeO.bind ?_ (fun _ => ?_))
      | exact ih0 _ _ _ _ _ _
      | exact ih1 _ _ _ _ _ _
      | exact addr_Check.mono _ _ _
      | exact addr_Cmp.mono _ _ _ _ _
      | exact addr_Common.mono _ _ _ _ _
      | exact addr_Ends.mono _ _ _
      | exact addr_Halves.mono _ _ _
      | exact addr_In.mono _ _ _ _
      | exact addr_Within.mono _ _ _ _ _
      | exact waymarkref01_Bits.mono _ _
      | exact waymarkref01_Check.mono _ _ _
      | exact waymarkref01_Cmp.mono _ _ _ _ _
      | exact waymarkref01_Common.mono _ _ _ _ _
      | exact waymarkref01_Ends.mono _ _ _
      | exact waymarkref01_Halves.mono _ _ _
      | exact waymarkref01_In.mono _ _ _ _
      | exact waymarkref01_Mask.mono _ _
      | exact waymarkref01_Subnet.mono _ _ _
      | exact waymarkref01_Within.mono _ _ _ _ _
      | exact LeO.none _
      | refine LeO.ite ?_ ?_
      | refine LeO.bind ?_ (fun _ => ?_)
    · intro y0 y1 y2 y3 y4 y5
      unfold waymarklaw01_AddrPrefixes.j1
      repeat' first
      | (with_reducible exact ih0 _ _ _ _ _ _)
      | (with_reducible exact ih1 _ _ _ _ _ _)
      | (with_reducible exact addr_Check.mono _ _ _)
      | (with_reducible exact addr_Cmp.mono _ _ _ _ _)
      | (with_reducible exact addr_Common.mono _ _ _ _ _)
      | (with_reducible exact addr_Ends.mono _ _ _)
      | (with_reducible exact addr_Halves.mono _ _ _)
      | (with_reducible exact addr_In.mono _ _ _ _)
      | (with_reducible exact addr_Within.mono _ _ _ _ _)
      | (with_reducible exact waymarkref01_Bits.mono _ _)
      | (with_reducible exact waymarkref01_Check.mono _ _ _)
      | (with_reducible exact waymarkref01_Cmp.mono _ _ _ _ _)
      | (with_reducible exact waymarkref01_Common.mono _ _ _ _ _)
      | (with_reducible exact waymarkref01_Ends.mono _ _ _)
      | (with_reducible exact waymarkref01_Halves.mono _ _ _)
      | (with_reducible exact waymarkref01_In.mono _ _ _ _)
      | (with_reducible exact waymarkref01_Mask.mono _ _)
      | (with_reducible exact waymarkref01_Subnet.mono _ _ _)
      | (with_reducible exact waymarkref01_Within.mono _ _ _ _ _)
      | (with_reducible exact LeO.refl _)
      | (with_reducible exact LeO.none _)
      | (with_reducible refine LeO.ite ?_ ?_)
      | (with_reducible refine LeO.bind ?_ (fun _ => ?_))
      | exact ih0 _ _ _ _ _ _
      | exact ih1 _ _ _ _ _ _
      | exact addr_Check.mono _ _ _
      | exact addr_Cmp.mono _ _ _ _ _
      | exact addr_Common.mono _ _ _ _ _
      | exact addr_Ends.mono _ _ _
      | exact addr_Halves.mono _ _ _
      | exact addr_In.mono _ _ _ _
      | exact addr_Within.mono _ _ _ _ _
      | exact waymarkref01_Bits.mono _ _
      | exact waymarkref01_Check.mono _ _ _
      | exact waymarkref01_Cmp.mono _ _ _ _ _
      | exact waymarkref01_Common.mono _ _ _ _ _
      | exact waymarkref01_Ends.mono _ _ _
      | exact waymarkref01_Halves.mono _ _ _
      | exact waymarkref01_In.mono _ _ _ _
      | exact waymarkref01_Mask.mono _ _
      | exact waymarkref01_Subnet.mono _ _ _
      | exact waymarkref01_Within.mono _ _ _ _ _
      | exact LeO.none _
      | refine LeO.ite ?_ ?_
      | refine LeO.bind ?_ (fun _ => ?_)
theorem waymarklaw01_AddrPrefixes.mono : ∀ a0 a1 a2 a3 a4 a5 k, LeO (waymarklaw01_AddrPrefixes.f k a0 a1 a2 a3 a4 a5) (waymarklaw01_AddrPrefixes.f (k + 1) a0 a1 a2 a3 a4 a5) := by
  intro a0 a1 a2 a3 a4 a5 k
  obtain ⟨ih0, ih1⟩ := waymarklaw01_AddrPrefixes.mono_l k
  unfold waymarklaw01_AddrPrefixes.f
  repeat' first
      | (with_reducible exact ih0 _ _ _ _ _ _)
      | (with_reducible exact ih1 _ _ _ _ _ _)
      | (with_reducible exact addr_Check.mono _ _ _)
      | (with_reducible exact addr_Cmp.mono _ _ _ _ _)
      | (with_reducible exact addr_Common.mono _ _ _ _ _)
      | (with_reducible exact addr_Ends.mono _ _ _)
      | (with_reducible exact addr_Halves.mono _ _ _)
      | (with_reducible exact addr_In.mono _ _ _ _)
      | (with_reducible exact addr_Within.mono _ _ _ _ _)
      | (with_reducible exact waymarkref01_Bits.mono _ _)
      | (with_reducible exact waymarkref01_Check.mono _ _ _)
      | (with_reducible exact waymarkref01_Cmp.mono _ _ _ _ _)
      | (with_reducible exact waymarkref01_Common.mono _ _ _ _ _)
      | (with_reducible exact waymarkref01_Ends.mono _ _ _)
      | (with_reducible exact waymarkref01_Halves.mono _ _ _)
      | (with_reducible exact waymarkref01_In.mono _ _ _ _)
      | (with_reducible exact waymarkref01_Mask.mono _ _)
      | (with_reducible exact waymarkref01_Subnet.mono _ _ _)
      | (with_reducible exact waymarkref01_Within.mono _ _ _ _ _)
      | (with_reducible exact LeO.refl _)
      | (with_reducible exact LeO.none _)
      | (with_reducible refine LeO.ite ?_ ?_)
      | (with_reducible refine LeO.bind ?_ (fun _ => ?_))
      | exact ih0 _ _ _ _ _ _
      | exact ih1 _ _ _ _ _ _
      | exact addr_Check.mono _ _ _
      | exact addr_Cmp.mono _ _ _ _ _
      | exact addr_Common.mono _ _ _ _ _
      | exact addr_Ends.mono _ _ _
      | exact addr_Halves.mono _ _ _
      | exact addr_In.mono _ _ _ _
      | exact addr_Within.mono _ _ _ _ _
      | exact waymarkref01_Bits.mono _ _
      | exact waymarkref01_Check.mono _ _ _
      | exact waymarkref01_Cmp.mono _ _ _ _ _
      | exact waymarkref01_Common.mono _ _ _ _ _
      | exact waymarkref01_Ends.mono _ _ _
      | exact waymarkref01_Halves.mono _ _ _
      | exact waymarkref01_In.mono _ _ _ _
      | exact waymarkref01_Mask.mono _ _
      | exact waymarkref01_Subnet.mono _ _ _
      | exact waymarkref01_Within.mono _ _ _ _ _
      | exact LeO.none _
      | refine LeO.ite ?_ ?_
      | refine LeO.bind ?_ (fun _ => ?_)
def waymarklaw01_AddrPrefixes.T17 : Bool × List (List Nat × List Nat) := (true, [([], []), ([0], [0]), ([], []), ([2, 1], [2]), ([1, 3], [1, 3]), ([4, 3], [4]), ([5], [5]), ([5], [5]), ([6, 7, 5, 5], [5, 6, 7]), ([5], [5]), ([5], [5]), ([9, 10, 8, 5], [5, 9, 10]), ([8, 11, 5], [5, 8, 11]), ([5, 12], [5, 12]), ([13, 11], [13]), ([14], [14]), ([14], [14]), ([15, 16, 14, 14], [14, 15, 16]), ([14], [14]), ([14], [14]), ([18, 19, 17, 14], [14, 18, 19]), ([17, 20, 14], [14, 17, 20]), ([14, 21], [14, 21]), ([22, 20], [22]), ([23], [23]), ([23], [23]), ([24, 25, 23, 23], [23, 24, 25]), ([23], [23]), ([23], [23]), ([27, 28, 26, 23], [23, 27, 28]), ([26, 29, 23], [23, 26, 29]), ([23, 30], [23, 30]), ([31, 29, 0, 1, 2, 3, 4, 5, 6, 7, 8, 9, 10, 11, 12, 13, 14, 15, 16, 17, 18, 19, 20, 21, 22, 23, 24, 25, 26, 27, 28, 29, 30, 31], [31])])
def waymarklaw01_AddrPrefixes.B17 : List Nat := [0, 1, 0, 7, 15, 31, 63, 63, 255, 63, 63, 2047, 4095, 8191, 16383, 32767, 32767, 131071, 32767, 32767, 1048575, 2097151, 4194303, 8388607, 16777215, 16777215, 67108863, 16777215, 16777215, 536870911, 1073741823, 2147483647, 4294967295]
theorem waymarklaw01_AddrPrefixes.tab17 : rtab .any (opsOf Try.f4 17) = waymarklaw01_AddrPrefixes.T17 := by kernel_rfl
theorem waymarklaw01_AddrPrefixes.bits17 : waitsOk waymarklaw01_AddrPrefixes.T17.2 waymarklaw01_AddrPrefixes.B17 = true := by kernel_rfl
set_option maxHeartbeats 8000000 in
set_option maxRecDepth 100000 in
theorem waymarklaw01_AddrPrefixes.calls (k : Nat) (a0 : Int) (a1_0 : Int) (a1_1 : Int) (a2_0 : Int) (a2_1 : Int) (a3 : Int) (r : Bool) (w : World) (h : waymarklaw01_AddrPrefixes.f k a0 a1_0 a1_1 a2_0 a2_1 a3 = some r) :
    Calls Try.prog 4 #[.int .u32 a0, .agg #[.int .u32 a1_0, .int .i64 a1_1], .agg #[.int .u32 a2_0, .int .i64 a2_1], .int .i64 a3] w fun e w' => e = .returned (.bool r) ∧ Below w.heap.size w w' := by
  have hu30 := Try.underlying30
  have HB := Aside0.mk (Below.refl w.heap.size w)
  have H : ((addr_Mask.f a3).bind fun bt181 => ((waymarkref01_Mask.f k a3).bind fun bt183 => ((addr_Bits.f a0).bind fun bt185 => ((waymarkref01_Bits.f k a0).bind fun bt187 => ((addr_Subnet.f a0 a3).bind fun bt189 => ((waymarkref01_Subnet.f k a0 a3).bind fun bt193 => (if bt181.1 = bt183.1 then (if bt181.2 = bt183.2 then (if bt185.1 = bt187.1 then (if bt185.2 = bt187.2 then ((waymarklaw01_same.f bt189.1 bt189.2.1 bt193.1 bt193.2.1).bind fun t197 => (if t197 = true then (waymarklaw01_AddrPrefixes.j0 k a0 (bt189.2.2 != bt193.2.2) a1_0 a1_1 a2_0 a2_1) else (none))) else (none)) else (none)) else (none)) else (none)))))))) = some r := h
  clear h
  replace H := Option.bind_eq_some_iff.mp H
  obtain ⟨⟨t181, t182⟩, A50, H⟩ := H
  replace H : ((waymarkref01_Mask.f k a3).bind fun bt183 => ((addr_Bits.f a0).bind fun bt185 => ((waymarkref01_Bits.f k a0).bind fun bt187 => ((addr_Subnet.f a0 a3).bind fun bt189 => ((waymarkref01_Subnet.f k a0 a3).bind fun bt193 => (if t181 = bt183.1 then (if t182 = bt183.2 then (if bt185.1 = bt187.1 then (if bt185.2 = bt187.2 then ((waymarklaw01_same.f bt189.1 bt189.2.1 bt193.1 bt193.2.1).bind fun t197 => (if t197 = true then (waymarklaw01_AddrPrefixes.j0 k a0 (bt189.2.2 != bt193.2.2) a1_0 a1_1 a2_0 a2_1) else (none))) else (none)) else (none)) else (none)) else (none))))))) = some r := H
  have A5 := Aside0.mk A50
  clear A50
  replace H := Option.bind_eq_some_iff.mp H
  obtain ⟨⟨t183, t184⟩, A60, H⟩ := H
  replace H : ((addr_Bits.f a0).bind fun bt185 => ((waymarkref01_Bits.f k a0).bind fun bt187 => ((addr_Subnet.f a0 a3).bind fun bt189 => ((waymarkref01_Subnet.f k a0 a3).bind fun bt193 => (if t181 = t183 then (if t182 = t184 then (if bt185.1 = bt187.1 then (if bt185.2 = bt187.2 then ((waymarklaw01_same.f bt189.1 bt189.2.1 bt193.1 bt193.2.1).bind fun t197 => (if t197 = true then (waymarklaw01_AddrPrefixes.j0 k a0 (bt189.2.2 != bt193.2.2) a1_0 a1_1 a2_0 a2_1) else (none))) else (none)) else (none)) else (none)) else (none)))))) = some r := H
  have A6 := Aside0.mk A60
  clear A60
  replace H := Option.bind_eq_some_iff.mp H
  obtain ⟨⟨t185, t186⟩, A70, H⟩ := H
  replace H : ((waymarkref01_Bits.f k a0).bind fun bt187 => ((addr_Subnet.f a0 a3).bind fun bt189 => ((waymarkref01_Subnet.f k a0 a3).bind fun bt193 => (if t181 = t183 then (if t182 = t184 then (if t185 = bt187.1 then (if t186 = bt187.2 then ((waymarklaw01_same.f bt189.1 bt189.2.1 bt193.1 bt193.2.1).bind fun t197 => (if t197 = true then (waymarklaw01_AddrPrefixes.j0 k a0 (bt189.2.2 != bt193.2.2) a1_0 a1_1 a2_0 a2_1) else (none))) else (none)) else (none)) else (none)) else (none))))) = some r := H
  have A7 := Aside0.mk A70
  clear A70
  replace H := Option.bind_eq_some_iff.mp H
  obtain ⟨⟨t187, t188⟩, A80, H⟩ := H
  replace H : ((addr_Subnet.f a0 a3).bind fun bt189 => ((waymarkref01_Subnet.f k a0 a3).bind fun bt193 => (if t181 = t183 then (if t182 = t184 then (if t185 = t187 then (if t186 = t188 then ((waymarklaw01_same.f bt189.1 bt189.2.1 bt193.1 bt193.2.1).bind fun t197 => (if t197 = true then (waymarklaw01_AddrPrefixes.j0 k a0 (bt189.2.2 != bt193.2.2) a1_0 a1_1 a2_0 a2_1) else (none))) else (none)) else (none)) else (none)) else (none)))) = some r := H
  have A8 := Aside0.mk A80
  clear A80
  replace H := Option.bind_eq_some_iff.mp H
  obtain ⟨⟨t189, t190, t191⟩, A90, H⟩ := H
  replace H : ((waymarkref01_Subnet.f k a0 a3).bind fun bt193 => (if t181 = t183 then (if t182 = t184 then (if t185 = t187 then (if t186 = t188 then ((waymarklaw01_same.f t189 t190 bt193.1 bt193.2.1).bind fun t197 => (if t197 = true then (waymarklaw01_AddrPrefixes.j0 k a0 (t191 != bt193.2.2) a1_0 a1_1 a2_0 a2_1) else (none))) else (none)) else (none)) else (none)) else (none))) = some r := H
  have A9 := Aside0.mk A90
  clear A90
  replace H := Option.bind_eq_some_iff.mp H
  obtain ⟨⟨t193, t194, t195⟩, A100, H⟩ := H
  replace H : (if t181 = t183 then (if t182 = t184 then (if t185 = t187 then (if t186 = t188 then ((waymarklaw01_same.f t189 t190 t193 t194).bind fun t197 => (if t197 = true then (waymarklaw01_AddrPrefixes.j0 k a0 (t191 != t195) a1_0 a1_1 a2_0 a2_1) else (none))) else (none)) else (none)) else (none)) else (none)) = some r := H
  have A10 := Aside0.mk A100
  clear A100
  have HC11 := Aside0.mk H
  clear H
  go_enter Try.func4, Try.ntmps4
  go_upto_region 7 with (first | ((with_reducible refine gate_dst (N := 5) rfl ?_); refine box_event ?hg (N := 5) ?hd (cs := #[.int .u32 a1_0, .int .i64 a1_1]) (t := 30) ?hr ?_; (case hd => rfl); (case hg => rfl); (case hr => first | (go_simp; done) | (go_simp; rfl)); intro gb179 hg w12 hbox hb; have n0_ := Aside0.mk (below_step (by repeat (first | (with_reducible first | exact HB.out | apply below_alloc | apply pw_below_drewN | apply below_drew1) | exact HB.out)) hb); have n1_ := Aside0.mk (hbox); have n2_ := Aside0.mk ((by rw [hg]; exact (below_size (by repeat (first | (with_reducible first | exact HB.out | apply below_alloc | apply pw_below_drewN | apply below_drew1) | exact HB.out))) : w.heap.size ≤ gb179)); have n3_ := Aside0.mk ((by rw [hg]; exact (below_size (by repeat (first | (with_reducible first | exact HB.out | apply below_alloc | apply pw_below_drewN | apply below_drew1) | exact HB.out))) : w.heap.size ≤ gb179)); clear HB; have HB := n0_; have BK179 := n1_; have GW179 := n2_; have GE179 := n3_; clear n0_ n1_ n2_ n3_; clear hb hbox hg) | ((with_reducible refine gate_dst (N := 6) rfl ?_); refine box_event ?hg (N := 6) ?hd (cs := #[.int .u32 a2_0, .int .i64 a2_1]) (t := 30) ?hr ?_; (case hd => rfl); (case hg => rfl); (case hr => first | (go_simp; done) | (go_simp; rfl)); intro gb180 hg w13 hbox hb; have n0_ := Aside0.mk (blk_below (g := gb179) (o := .cells #[.int .u32 a1_0, .int .i64 a1_1] 30 (0, 0)) (by (with_reducible repeat (first | refine blk_drewN ?_ _ | refine blk_drew ?_ | refine blk_alloc ?_ _)); exact BK179.out) hb); have n1_ := Aside0.mk (below_step (by repeat (first | (with_reducible first | exact HB.out | apply below_alloc | apply pw_below_drewN | apply below_drew1 | refine below_set ?_ GE179.out) | exact HB.out)) hb); have n2_ := Aside0.mk (hbox); have n3_ := Aside0.mk ((by rw [hg]; exact (below_size (by repeat (first | (with_reducible first | exact HB.out | apply below_alloc | apply pw_below_drewN | apply below_drew1 | refine below_set ?_ GE179.out) | exact HB.out))) : w.heap.size ≤ gb180)); have n4_ := Aside0.mk ((by rw [hg]; exact (below_size (by repeat (first | (with_reducible first | exact HB.out | apply below_alloc | apply pw_below_drewN | apply below_drew1 | refine below_set ?_ GE179.out) | exact HB.out))) : w.heap.size ≤ gb180)); have n5_ := Aside0.mk ((by rw [hg]; exact Nat.ne_of_lt (blk_lt (g := gb179) (o := .cells #[.int .u32 a1_0, .int .i64 a1_1] 30 (0, 0)) (by (with_reducible repeat (first | refine blk_drewN ?_ _ | refine blk_drew ?_ | refine blk_alloc ?_ _)); exact BK179.out)) : gb179 ≠ gb180)); have n6_ := Aside0.mk ((by rw [hg]; exact Nat.ne_of_gt (blk_lt (g := gb179) (o := .cells #[.int .u32 a1_0, .int .i64 a1_1] 30 (0, 0)) (by (with_reducible repeat (first | refine blk_drewN ?_ _ | refine blk_drew ?_ | refine blk_alloc ?_ _)); exact BK179.out)) : gb180 ≠ gb179)); clear BK179; clear HB; have BK179 := n0_; have HB := n1_; have BK180 := n2_; have GW180 := n3_; have GE180 := n4_; have NB179_180 := n5_; have NB180_179 := n6_; clear n0_ n1_ n2_ n3_ n4_ n5_ n6_; clear hb hbox hg) | ((with_reducible refine gate_callee (f := 11) rfl ?_); refine goesL_ (some 33) rfl rfl Try.func11 (by kernel_rfl) rfl #[.int .i64 a3] rfl (by (try simp only [List.map_toArray, List.map_cons, List.map_nil]); first | done | rfl | (simp only [List.length_drop, List.length_take]; rfl)) ?_; (with_reducible refine (addr_Mask.calls a3 t181 t182 _ A5.out).mono ?_); rintro e w' ⟨rfl, ⟨nd, rfl⟩⟩; refine ⟨_, rfl, ?_⟩; (try (rw [drewN_self w13]; generalize hq_ : World.drewN w13 _ = w13; have n0_ : Aside0 (w13.heap[gb179]? = some (.cells #[.int .u32 a1_0, .int .i64 a1_1] 30 (0, 0))) := ⟨by rw [← hq_]; exact (by (with_reducible repeat (first | refine blk_drewN ?_ _ | refine blk_drew ?_ | refine blk_alloc ?_ _)); exact BK179.out)⟩; have n1_ : Aside0 (w13.heap[gb180]? = some (.cells #[.int .u32 a2_0, .int .i64 a2_1] 30 (0, 0))) := ⟨by rw [← hq_]; exact (by (with_reducible repeat (first | refine blk_drewN ?_ _ | refine blk_drew ?_ | refine blk_alloc ?_ _)); exact BK180.out)⟩; have n2_ : Aside0 (Below w.heap.size w w13) := ⟨by rw [← hq_]; exact (by repeat (first | (with_reducible first | exact HB.out | apply below_alloc | apply pw_below_drewN | apply below_drew1 | refine below_set ?_ GE179.out | refine below_set ?_ GE180.out) | exact HB.out))⟩; clear BK179 BK180 HB hq_; have BK179 := n0_; have BK180 := n1_; have HB := n2_; clear n0_ n1_ n2_))) | ((with_reducible refine gate_callee (f := 12) rfl ?_); refine goesL_ (some 38) rfl rfl Try.func12 (by kernel_rfl) rfl #[.int .i64 a3] rfl (by (try simp only [List.map_toArray, List.map_cons, List.map_nil]); first | done | rfl | (simp only [List.length_drop, List.length_take]; rfl)) ?_; (with_reducible refine (waymarkref01_Mask.calls k a3 t183 t184 _ A6.out).mono ?_); rintro e w' ⟨rfl, ⟨nd, rfl⟩⟩; refine ⟨_, rfl, ?_⟩; (try (rw [drewN_self w13]; generalize hq_ : World.drewN w13 _ = w13; have n0_ : Aside0 (w13.heap[gb179]? = some (.cells #[.int .u32 a1_0, .int .i64 a1_1] 30 (0, 0))) := ⟨by rw [← hq_]; exact (by (with_reducible repeat (first | refine blk_drewN ?_ _ | refine blk_drew ?_ | refine blk_alloc ?_ _)); exact BK179.out)⟩; have n1_ : Aside0 (w13.heap[gb180]? = some (.cells #[.int .u32 a2_0, .int .i64 a2_1] 30 (0, 0))) := ⟨by rw [← hq_]; exact (by (with_reducible repeat (first | refine blk_drewN ?_ _ | refine blk_drew ?_ | refine blk_alloc ?_ _)); exact BK180.out)⟩; have n2_ : Aside0 (Below w.heap.size w w13) := ⟨by rw [← hq_]; exact (by repeat (first | (with_reducible first | exact HB.out | apply below_alloc | apply pw_below_drewN | apply below_drew1 | refine below_set ?_ GE179.out | refine below_set ?_ GE180.out) | exact HB.out))⟩; clear BK179 BK180 HB hq_; have BK179 := n0_; have BK180 := n1_; have HB := n2_; clear n0_ n1_ n2_))) | ((with_reducible refine gate_callee (f := 13) rfl ?_); refine goesL_ (some 43) rfl rfl Try.func13 (by kernel_rfl) rfl #[.int .u32 a0] rfl (by (try simp only [List.map_toArray, List.map_cons, List.map_nil]); first | done | rfl | (simp only [List.length_drop, List.length_take]; rfl)) ?_; (with_reducible refine (addr_Bits.calls a0 t185 t186 _ A7.out).mono ?_); rintro e w' ⟨rfl, ⟨nd, rfl⟩⟩; refine ⟨_, rfl, ?_⟩; (try (rw [drewN_self w13]; generalize hq_ : World.drewN w13 _ = w13; have n0_ : Aside0 (w13.heap[gb179]? = some (.cells #[.int .u32 a1_0, .int .i64 a1_1] 30 (0, 0))) := ⟨by rw [← hq_]; exact (by (with_reducible repeat (first | refine blk_drewN ?_ _ | refine blk_drew ?_ | refine blk_alloc ?_ _)); exact BK179.out)⟩; have n1_ : Aside0 (w13.heap[gb180]? = some (.cells #[.int .u32 a2_0, .int .i64 a2_1] 30 (0, 0))) := ⟨by rw [← hq_]; exact (by (with_reducible repeat (first | refine blk_drewN ?_ _ | refine blk_drew ?_ | refine blk_alloc ?_ _)); exact BK180.out)⟩; have n2_ : Aside0 (Below w.heap.size w w13) := ⟨by rw [← hq_]; exact (by repeat (first | (with_reducible first | exact HB.out | apply below_alloc | apply pw_below_drewN | apply below_drew1 | refine below_set ?_ GE179.out | refine below_set ?_ GE180.out) | exact HB.out))⟩; clear BK179 BK180 HB hq_; have BK179 := n0_; have BK180 := n1_; have HB := n2_; clear n0_ n1_ n2_))) | ((with_reducible refine gate_callee (f := 14) rfl ?_); refine goesL_ (some 48) rfl rfl Try.func14 (by kernel_rfl) rfl #[.int .u32 a0] rfl (by (try simp only [List.map_toArray, List.map_cons, List.map_nil]); first | done | rfl | (simp only [List.length_drop, List.length_take]; rfl)) ?_; (with_reducible refine (waymarkref01_Bits.calls k a0 t187 t188 _ A8.out).mono ?_); rintro e w' ⟨rfl, ⟨nd, rfl⟩⟩; refine ⟨_, rfl, ?_⟩; (try (rw [drewN_self w13]; generalize hq_ : World.drewN w13 _ = w13; have n0_ : Aside0 (w13.heap[gb179]? = some (.cells #[.int .u32 a1_0, .int .i64 a1_1] 30 (0, 0))) := ⟨by rw [← hq_]; exact (by (with_reducible repeat (first | refine blk_drewN ?_ _ | refine blk_drew ?_ | refine blk_alloc ?_ _)); exact BK179.out)⟩; have n1_ : Aside0 (w13.heap[gb180]? = some (.cells #[.int .u32 a2_0, .int .i64 a2_1] 30 (0, 0))) := ⟨by rw [← hq_]; exact (by (with_reducible repeat (first | refine blk_drewN ?_ _ | refine blk_drew ?_ | refine blk_alloc ?_ _)); exact BK180.out)⟩; have n2_ : Aside0 (Below w.heap.size w w13) := ⟨by rw [← hq_]; exact (by repeat (first | (with_reducible first | exact HB.out | apply below_alloc | apply pw_below_drewN | apply below_drew1 | refine below_set ?_ GE179.out | refine below_set ?_ GE180.out) | exact HB.out))⟩; clear BK179 BK180 HB hq_; have BK179 := n0_; have BK180 := n1_; have HB := n2_; clear n0_ n1_ n2_))) | ((with_reducible refine gate_callee (f := 15) rfl ?_); refine goesL_ (some 54) rfl rfl Try.func15 (by kernel_rfl) rfl #[.int .u32 a0, .int .i64 a3] rfl (by (try simp only [List.map_toArray, List.map_cons, List.map_nil]); first | done | rfl | (simp only [List.length_drop, List.length_take]; rfl)) ?_; (with_reducible refine (addr_Subnet.calls a0 a3 t189 t190 t191 _ A9.out).mono ?_); rintro e w14 ⟨rfl, hb⟩; refine ⟨_, rfl, ?_⟩; have n0_ := Aside0.mk (blk_below (g := gb179) (o := .cells #[.int .u32 a1_0, .int .i64 a1_1] 30 (0, 0)) (by (with_reducible repeat (first | refine blk_drewN ?_ _ | refine blk_drew ?_ | refine blk_alloc ?_ _)); exact BK179.out) hb); have n1_ := Aside0.mk (blk_below (g := gb180) (o := .cells #[.int .u32 a2_0, .int .i64 a2_1] 30 (0, 0)) (by (with_reducible repeat (first | refine blk_drewN ?_ _ | refine blk_drew ?_ | refine blk_alloc ?_ _)); exact BK180.out) hb); have n2_ := Aside0.mk (below_step (by repeat (first | (with_reducible first | exact HB.out | apply below_alloc | apply pw_below_drewN | apply below_drew1 | refine below_set ?_ GE179.out | refine below_set ?_ GE180.out) | exact HB.out)) hb); clear BK179; clear BK180; clear HB; have BK179 := n0_; have BK180 := n1_; have HB := n2_; clear n0_ n1_ n2_; (try clear hb); (try clear hb2); (try clear hk); (try clear hi)) | ((with_reducible refine gate_dst (N := 17) rfl ?_); refine box_event ?hg (N := 17) ?hd (cs := #[.int .u32 0, .int .i64 0]) (t := 30) ?hr ?_; (case hd => rfl); (case hg => rfl); (case hr => first | (go_simp; done) | (go_simp; rfl)); intro gb192 hg w15 hbox hb; have n0_ := Aside0.mk (blk_below (g := gb179) (o := .cells #[.int .u32 a1_0, .int .i64 a1_1] 30 (0, 0)) (by (with_reducible repeat (first | refine blk_drewN ?_ _ | refine blk_drew ?_ | refine blk_alloc ?_ _)); exact BK179.out) hb); have n1_ := Aside0.mk (blk_below (g := gb180) (o := .cells #[.int .u32 a2_0, .int .i64 a2_1] 30 (0, 0)) (by (with_reducible repeat (first | refine blk_drewN ?_ _ | refine blk_drew ?_ | refine blk_alloc ?_ _)); exact BK180.out) hb); have n2_ := Aside0.mk (below_step (by repeat (first | (with_reducible first | exact HB.out | apply below_alloc | apply pw_below_drewN | apply below_drew1 | refine below_set ?_ GE179.out | refine below_set ?_ GE180.out) | exact HB.out)) hb); have n3_ := Aside0.mk (hbox); have n4_ := Aside0.mk ((by rw [hg]; exact (below_size (by repeat (first | (with_reducible first | exact HB.out | apply below_alloc | apply pw_below_drewN | apply below_drew1 | refine below_set ?_ GE179.out | refine below_set ?_ GE180.out) | exact HB.out))) : w.heap.size ≤ gb192)); have n5_ := Aside0.mk ((by rw [hg]; exact (below_size (by repeat (first | (with_reducible first | exact HB.out | apply below_alloc | apply pw_below_drewN | apply below_drew1 | refine below_set ?_ GE179.out | refine below_set ?_ GE180.out) | exact HB.out))) : w.heap.size ≤ gb192)); have n6_ := Aside0.mk ((by rw [hg]; exact Nat.ne_of_lt (blk_lt (g := gb179) (o := .cells #[.int .u32 a1_0, .int .i64 a1_1] 30 (0, 0)) (by (with_reducible repeat (first | refine blk_drewN ?_ _ | refine blk_drew ?_ | refine blk_alloc ?_ _)); exact BK179.out)) : gb179 ≠ gb192)); have n7_ := Aside0.mk ((by rw [hg]; exact Nat.ne_of_gt (blk_lt (g := gb179) (o := .cells #[.int .u32 a1_0, .int .i64 a1_1] 30 (0, 0)) (by (with_reducible repeat (first | refine blk_drewN ?_ _ | refine blk_drew ?_ | refine blk_alloc ?_ _)); exact BK179.out)) : gb192 ≠ gb179)); have n8_ := Aside0.mk ((by rw [hg]; exact Nat.ne_of_lt (blk_lt (g := gb180) (o := .cells #[.int .u32 a2_0, .int .i64 a2_1] 30 (0, 0)) (by (with_reducible repeat (first | refine blk_drewN ?_ _ | refine blk_drew ?_ | refine blk_alloc ?_ _)); exact BK180.out)) : gb180 ≠ gb192)); have n9_ := Aside0.mk ((by rw [hg]; exact Nat.ne_of_gt (blk_lt (g := gb180) (o := .cells #[.int .u32 a2_0, .int .i64 a2_1] 30 (0, 0)) (by (with_reducible repeat (first | refine blk_drewN ?_ _ | refine blk_drew ?_ | refine blk_alloc ?_ _)); exact BK180.out)) : gb192 ≠ gb180)); clear BK179; clear BK180; clear HB; have BK179 := n0_; have BK180 := n1_; have HB := n2_; have BK192 := n3_; have GW192 := n4_; have GE192 := n5_; have NB179_192 := n6_; have NB192_179 := n7_; have NB180_192 := n8_; have NB192_180 := n9_; clear n0_ n1_ n2_ n3_ n4_ n5_ n6_ n7_ n8_ n9_; clear hb hbox hg; have hnb16 := NB192_179.out; have hnc16 := NB179_192.out; have hnb17 := NB192_180.out; have hnc17 := NB180_192.out; have hcz18_0 : w15.cell? ⟨gb192, 0, none⟩ = some (.int .u32 0) := (blk_cell BK192.out 0).trans rfl; have hcz18_1 : w15.cell? ⟨gb192, 1, none⟩ = some (.int .i64 0) := (blk_cell BK192.out 1).trans rfl; have hfz18_0 := blk_frozen BK192.out 0; have hfz18_1 := blk_frozen BK192.out 1) | ((with_reducible refine gate_callee (f := 16) rfl ?_); refine goesL_ (some 60) rfl rfl Try.func16 (by kernel_rfl) rfl #[.int .u32 a0, .int .i64 a3] rfl (by (try simp only [List.map_toArray, List.map_cons, List.map_nil]); first | done | rfl | (simp only [List.length_drop, List.length_take]; rfl)) ?_; (with_reducible refine (waymarkref01_Subnet.calls k a0 a3 t193 t194 t195 _ A10.out).mono ?_); rintro e w19 ⟨rfl, hb⟩; refine ⟨_, rfl, ?_⟩; have n0_ := Aside0.mk (blk_below (g := gb179) (o := .cells #[.int .u32 a1_0, .int .i64 a1_1] 30 (0, 0)) (by (with_reducible repeat (first | refine blk_drewN ?_ _ | refine blk_drew ?_ | refine blk_alloc ?_ _)); refine blk_far ?_ NB179_192.out _; (with_reducible repeat (first | refine blk_drewN ?_ _ | refine blk_drew ?_ | refine blk_alloc ?_ _)); refine blk_far ?_ NB179_192.out _; (with_reducible repeat (first | refine blk_drewN ?_ _ | refine blk_drew ?_ | refine blk_alloc ?_ _)); exact BK179.out) hb); have n1_ := Aside0.mk (blk_below (g := gb180) (o := .cells #[.int .u32 a2_0, .int .i64 a2_1] 30 (0, 0)) (by (with_reducible repeat (first | refine blk_drewN ?_ _ | refine blk_drew ?_ | refine blk_alloc ?_ _)); refine blk_far ?_ NB180_192.out _; (with_reducible repeat (first | refine blk_drewN ?_ _ | refine blk_drew ?_ | refine blk_alloc ?_ _)); refine blk_far ?_ NB180_192.out _; (with_reducible repeat (first | refine blk_drewN ?_ _ | refine blk_drew ?_ | refine blk_alloc ?_ _)); exact BK180.out) hb); have n2_ := Aside0.mk (blk_below (g := gb192) (o := .cells #[.int .u32 t189, .int .i64 t190] 30 (0, 0)) (by (with_reducible repeat (first | refine blk_drewN ?_ _ | refine blk_drew ?_ | refine blk_alloc ?_ _)); refine blk_put (cs := #[.int .u32 t189, .int .i64 0]) ?_ 1 _ rfl; (with_reducible repeat (first | refine blk_drewN ?_ _ | refine blk_drew ?_ | refine blk_alloc ?_ _)); refine blk_put (cs := #[.int .u32 0, .int .i64 0]) ?_ 0 _ rfl; (with_reducible repeat (first | refine blk_drewN ?_ _ | refine blk_drew ?_ | refine blk_alloc ?_ _)); exact BK192.out) hb); have n3_ := Aside0.mk (below_step (by repeat (first | (with_reducible first | exact HB.out | apply below_alloc | apply pw_below_drewN | apply below_drew1 | refine below_set ?_ GE179.out | refine below_set ?_ GE180.out | refine below_set ?_ GE192.out) | exact HB.out)) hb); clear BK179; clear BK180; clear BK192; clear HB; have BK179 := n0_; have BK180 := n1_; have BK192 := n2_; have HB := n3_; clear n0_ n1_ n2_ n3_; (try clear hb); (try clear hb2); (try clear hk); (try clear hi)) | ((with_reducible refine gate_dst (N := 19) rfl ?_); refine box_event ?hg (N := 19) ?hd (cs := #[.int .u32 0, .int .i64 0]) (t := 30) ?hr ?_; (case hd => rfl); (case hg => rfl); (case hr => first | (go_simp; done) | (go_simp; rfl)); intro gb196 hg w20 hbox hb; have n0_ := Aside0.mk (blk_below (g := gb179) (o := .cells #[.int .u32 a1_0, .int .i64 a1_1] 30 (0, 0)) (by (with_reducible repeat (first | refine blk_drewN ?_ _ | refine blk_drew ?_ | refine blk_alloc ?_ _)); exact BK179.out) hb); have n1_ := Aside0.mk (blk_below (g := gb180) (o := .cells #[.int .u32 a2_0, .int .i64 a2_1] 30 (0, 0)) (by (with_reducible repeat (first | refine blk_drewN ?_ _ | refine blk_drew ?_ | refine blk_alloc ?_ _)); exact BK180.out) hb); have n2_ := Aside0.mk (blk_below (g := gb192) (o := .cells #[.int .u32 t189, .int .i64 t190] 30 (0, 0)) (by (with_reducible repeat (first | refine blk_drewN ?_ _ | refine blk_drew ?_ | refine blk_alloc ?_ _)); exact BK192.out) hb); have n3_ := Aside0.mk (below_step (by repeat (first | (with_reducible first | exact HB.out | apply below_alloc | apply pw_below_drewN | apply below_drew1 | refine below_set ?_ GE179.out | refine below_set ?_ GE180.out | refine below_set ?_ GE192.out) | exact HB.out)) hb); have n4_ := Aside0.mk (hbox); have n5_ := Aside0.mk ((by rw [hg]; exact (below_size (by repeat (first | (with_reducible first | exact HB.out | apply below_alloc | apply pw_below_drewN | apply below_drew1 | refine below_set ?_ GE179.out | refine below_set ?_ GE180.out | refine below_set ?_ GE192.out) | exact HB.out))) : w.heap.size ≤ gb196)); have n6_ := Aside0.mk ((by rw [hg]; exact (below_size (by repeat (first | (with_reducible first | exact HB.out | apply below_alloc | apply pw_below_drewN | apply below_drew1 | refine below_set ?_ GE179.out | refine below_set ?_ GE180.out | refine below_set ?_ GE192.out) | exact HB.out))) : w.heap.size ≤ gb196)); have n7_ := Aside0.mk ((by rw [hg]; exact Nat.ne_of_lt (blk_lt (g := gb179) (o := .cells #[.int .u32 a1_0, .int .i64 a1_1] 30 (0, 0)) (by (with_reducible repeat (first | refine blk_drewN ?_ _ | refine blk_drew ?_ | refine blk_alloc ?_ _)); exact BK179.out)) : gb179 ≠ gb196)); have n8_ := Aside0.mk ((by rw [hg]; exact Nat.ne_of_gt (blk_lt (g := gb179) (o := .cells #[.int .u32 a1_0, .int .i64 a1_1] 30 (0, 0)) (by (with_reducible repeat (first | refine blk_drewN ?_ _ | refine blk_drew ?_ | refine blk_alloc ?_ _)); exact BK179.out)) : gb196 ≠ gb179)); have n9_ := Aside0.mk ((by rw [hg]; exact Nat.ne_of_lt (blk_lt (g := gb180) (o := .cells #[.int .u32 a2_0, .int .i64 a2_1] 30 (0, 0)) (by (with_reducible repeat (first | refine blk_drewN ?_ _ | refine blk_drew ?_ | refine blk_alloc ?_ _)); exact BK180.out)) : gb180 ≠ gb196)); have n10_ := Aside0.mk ((by rw [hg]; exact Nat.ne_of_gt (blk_lt (g := gb180) (o := .cells #[.int .u32 a2_0, .int .i64 a2_1] 30 (0, 0)) (by (with_reducible repeat (first | refine blk_drewN ?_ _ | refine blk_drew ?_ | refine blk_alloc ?_ _)); exact BK180.out)) : gb196 ≠ gb180)); have n11_ := Aside0.mk ((by rw [hg]; exact Nat.ne_of_lt (blk_lt (g := gb192) (o := .cells #[.int .u32 t189, .int .i64 t190] 30 (0, 0)) (by (with_reducible repeat (first | refine blk_drewN ?_ _ | refine blk_drew ?_ | refine blk_alloc ?_ _)); exact BK192.out)) : gb192 ≠ gb196)); have n12_ := Aside0.mk ((by rw [hg]; exact Nat.ne_of_gt (blk_lt (g := gb192) (o := .cells #[.int .u32 t189, .int .i64 t190] 30 (0, 0)) (by (with_reducible repeat (first | refine blk_drewN ?_ _ | refine blk_drew ?_ | refine blk_alloc ?_ _)); exact BK192.out)) : gb196 ≠ gb192)); clear BK179; clear BK180; clear BK192; clear HB; have BK179 := n0_; have BK180 := n1_; have BK192 := n2_; have HB := n3_; have BK196 := n4_; have GW196 := n5_; have GE196 := n6_; have NB179_196 := n7_; have NB196_179 := n8_; have NB180_196 := n9_; have NB196_180 := n10_; have NB192_196 := n11_; have NB196_192 := n12_; clear n0_ n1_ n2_ n3_ n4_ n5_ n6_ n7_ n8_ n9_ n10_ n11_ n12_; clear hb hbox hg; have hnb21 := NB196_179.out; have hnc21 := NB179_196.out; have hnb22 := NB196_180.out; have hnc22 := NB180_196.out; have hnb23 := NB196_192.out; have hnc23 := NB192_196.out; have hcz24_0 : w20.cell? ⟨gb196, 0, none⟩ = some (.int .u32 0) := (blk_cell BK196.out 0).trans rfl; have hcz24_1 : w20.cell? ⟨gb196, 1, none⟩ = some (.int .i64 0) := (blk_cell BK196.out 1).trans rfl; have hfz24_0 := blk_frozen BK196.out 0; have hfz24_1 := blk_frozen BK196.out 1))
  (try simp only [Act.put, List.setIfInBounds_toArray, List.set_cons_zero, List.set_cons_succ])
  go_cut [91] (fun v91 wc => ∃ (kq : Nat) (x91_10 : Bool), v91 = .bool x91_10 ∧ Aside0 (waymarklaw01_AddrPrefixes.j0 kq a0 x91_10 a1_0 a1_1 a2_0 a2_1 = some r) ∧ Aside0 (kq ≤ k) ∧ Aside0 (wc.heap[gb179]? = some (.cells #[.int .u32 a1_0, .int .i64 a1_1] 30 (0, 0))) ∧ Aside0 (wc.heap[gb180]? = some (.cells #[.int .u32 a2_0, .int .i64 a2_1] 30 (0, 0))) ∧ Aside0 (wc.heap[gb192]? = some (.cells #[.int .u32 t189, .int .i64 t190] 30 (0, 0))) ∧ Aside0 (wc.heap[gb196]? = some (.cells #[.int .u32 t193, .int .i64 t194] 30 (0, 0))) ∧ Aside0 (Below w.heap.size w wc))
  case first =>
    have H := HC11.out
    clear HC11
    by_cases c25 : t181 = t183
    · rw [if_pos c25] at H
      have c25b0 : (t181 == t183) = true := beq_iff_eq.mpr c25
      have c25b1 : (t181 != t183) = false := bne_eq_false_iff_eq.mpr c25
      clear c25
      (first | rw [c25b0] | (simp only [i64_w, i32_w]; rw [c25b0]) | skip)
      by_cases c26 : t182 = t184
      · rw [if_pos c26] at H
        have c26b0 : (t182 == t184) = true := beq_iff_eq.mpr c26
        have c26b1 : (t182 != t184) = false := bne_eq_false_iff_eq.mpr c26
        clear c26
        by_cases c27 : t185 = t187
        · rw [if_pos c27] at H
          have c27b0 : (t185 == t187) = true := beq_iff_eq.mpr c27
          have c27b1 : (t185 != t187) = false := bne_eq_false_iff_eq.mpr c27
          clear c27
          by_cases c28 : t186 = t188
          · rw [if_pos c28] at H
            have c28b0 : (t186 == t188) = true := beq_iff_eq.mpr c28
            have c28b1 : (t186 != t188) = false := bne_eq_false_iff_eq.mpr c28
            clear c28
            replace H := Option.bind_eq_some_iff.mp H
            obtain ⟨t197, A290, H⟩ := H
            replace H : (if t197 = true then (waymarklaw01_AddrPrefixes.j0 k a0 (t191 != t195) a1_0 a1_1 a2_0 a2_1) else (none)) = some r := H
            have A29 := Aside0.mk A290
            clear A290
            by_cases c30 : t197 = true
            · subst c30
              have H1 : (waymarklaw01_AddrPrefixes.j0 k a0 (t191 != t195) a1_0 a1_1 a2_0 a2_1) = some r := by rw [if_pos rfl] at H; exact H
              clear H
              have H := H1
              clear H1
              have H' := Aside0.mk H
              clear H
              have hnb31 := NB192_179.out
              have hnc31 := NB179_192.out
              have hnb32 := NB192_180.out
              have hnc32 := NB180_192.out
              have hnb33 := NB192_196.out
              have hnc33 := NB196_192.out
              have hcz34_0 : w20.cell? ⟨gb192, 0, none⟩ = some (.int .u32 t189) := (blk_cell BK192.out 0).trans rfl
              have hcz34_1 : w20.cell? ⟨gb192, 1, none⟩ = some (.int .i64 t190) := (blk_cell BK192.out 1).trans rfl
              have hfz34_0 := blk_frozen BK192.out 0
              have hfz34_1 := blk_frozen BK192.out 1
              have hnb35 := NB196_179.out
              have hnc35 := NB179_196.out
              have hnb36 := NB196_180.out
              have hnc36 := NB180_196.out
              have hcz37_0 : w20.cell? ⟨gb196, 0, none⟩ = some (.int .u32 0) := (blk_cell BK196.out 0).trans rfl
              have hcz37_1 : w20.cell? ⟨gb196, 1, none⟩ = some (.int .i64 0) := (blk_cell BK196.out 1).trans rfl
              have hfz37_0 := blk_frozen BK196.out 0
              have hfz37_1 := blk_frozen BK196.out 1
              go_wp2_with (first | (go_at_call 17; (with_reducible refine (waymarklaw01_same.calls t189 t190 t193 t194 true _ A29.out).mono ?_); rintro e w38 ⟨rfl, hb⟩; have n0_ := Aside0.mk (blk_below (g := gb179) (o := .cells #[.int .u32 a1_0, .int .i64 a1_1] 30 (0, 0)) (by (with_reducible repeat (first | refine blk_drewN ?_ _ | refine blk_drew ?_ | refine blk_alloc ?_ _)); refine blk_far ?_ NB179_196.out _; (with_reducible repeat (first | refine blk_drewN ?_ _ | refine blk_drew ?_ | refine blk_alloc ?_ _)); refine blk_far ?_ NB179_196.out _; (with_reducible repeat (first | refine blk_drewN ?_ _ | refine blk_drew ?_ | refine blk_alloc ?_ _)); exact BK179.out) hb); have n1_ := Aside0.mk (blk_below (g := gb180) (o := .cells #[.int .u32 a2_0, .int .i64 a2_1] 30 (0, 0)) (by (with_reducible repeat (first | refine blk_drewN ?_ _ | refine blk_drew ?_ | refine blk_alloc ?_ _)); refine blk_far ?_ NB180_196.out _; (with_reducible repeat (first | refine blk_drewN ?_ _ | refine blk_drew ?_ | refine blk_alloc ?_ _)); refine blk_far ?_ NB180_196.out _; (with_reducible repeat (first | refine blk_drewN ?_ _ | refine blk_drew ?_ | refine blk_alloc ?_ _)); exact BK180.out) hb); have n2_ := Aside0.mk (blk_below (g := gb192) (o := .cells #[.int .u32 t189, .int .i64 t190] 30 (0, 0)) (by (with_reducible repeat (first | refine blk_drewN ?_ _ | refine blk_drew ?_ | refine blk_alloc ?_ _)); refine blk_far ?_ NB192_196.out _; (with_reducible repeat (first | refine blk_drewN ?_ _ | refine blk_drew ?_ | refine blk_alloc ?_ _)); refine blk_far ?_ NB192_196.out _; (with_reducible repeat (first | refine blk_drewN ?_ _ | refine blk_drew ?_ | refine blk_alloc ?_ _)); exact BK192.out) hb); have n3_ := Aside0.mk (blk_below (g := gb196) (o := .cells #[.int .u32 t193, .int .i64 t194] 30 (0, 0)) (by (with_reducible repeat (first | refine blk_drewN ?_ _ | refine blk_drew ?_ | refine blk_alloc ?_ _)); refine blk_put (cs := #[.int .u32 t193, .int .i64 0]) ?_ 1 _ rfl; (with_reducible repeat (first | refine blk_drewN ?_ _ | refine blk_drew ?_ | refine blk_alloc ?_ _)); refine blk_put (cs := #[.int .u32 0, .int .i64 0]) ?_ 0 _ rfl; (with_reducible repeat (first | refine blk_drewN ?_ _ | refine blk_drew ?_ | refine blk_alloc ?_ _)); exact BK196.out) hb); have n4_ := Aside0.mk (below_step (by repeat (first | (with_reducible first | exact HB.out | apply below_alloc | apply pw_below_drewN | apply below_drew1 | refine below_set ?_ GE179.out | refine below_set ?_ GE180.out | refine below_set ?_ GE192.out | refine below_set ?_ GE196.out) | exact HB.out)) hb); clear BK179; clear BK180; clear BK192; clear BK196; clear HB; have BK179 := n0_; have BK180 := n1_; have BK192 := n2_; have BK196 := n3_; have HB := n4_; clear n0_ n1_ n2_ n3_ n4_; (try clear hb); (try clear hb2); (try clear hk); (try clear hi)))
              go_meet
              case rel => exact ⟨_, ((t191 != t195)), (by first | rfl | (simp; done) | (simp [*]; done)), H', ⟨by first | omega | exact Nat.le_refl _⟩, ⟨by (with_reducible repeat (first | refine blk_drewN ?_ _ | refine blk_drew ?_ | refine blk_alloc ?_ _)); exact BK179.out⟩, ⟨by (with_reducible repeat (first | refine blk_drewN ?_ _ | refine blk_drew ?_ | refine blk_alloc ?_ _)); exact BK180.out⟩, ⟨by (with_reducible repeat (first | refine blk_drewN ?_ _ | refine blk_drew ?_ | refine blk_alloc ?_ _)); exact BK192.out⟩, ⟨by (with_reducible repeat (first | refine blk_drewN ?_ _ | refine blk_drew ?_ | refine blk_alloc ?_ _)); exact BK196.out⟩, ⟨by repeat (first | (with_reducible first | exact HB.out | apply below_alloc | apply pw_below_drewN | apply below_drew1 | refine below_set ?_ GE179.out | refine below_set ?_ GE180.out | refine below_set ?_ GE192.out | refine below_set ?_ GE196.out) | exact HB.out)⟩⟩
            · replace c30 := Bool.eq_false_iff.mpr c30
              subst c30
              have H1 : (none) = some r := by rw [if_neg (show ¬ (false = true) by decide)] at H; exact H
              clear H
              have H := H1
              clear H1
              exact absurd H (by simp)
          · rw [if_neg c28] at H
            exact absurd H (by simp)
        · rw [if_neg c27] at H
          exact absurd H (by simp)
      · rw [if_neg c26] at H
        exact absurd H (by simp)
    · rw [if_neg c25] at H
      exact absurd H (by simp)
  case rest =>
    clear HC11
    try clear c1
    try clear c2
    try clear p2
    try clear c3
    try clear c4
    try clear c11
    try clear c12
    try clear c13
    try clear c14
    try clear c15
    try clear c16
    try clear c17
    try clear c21
    try clear c22
    try clear c23
    try clear c25
    try clear c25b0
    try clear c25b1
    try clear c26
    try clear c26b0
    try clear c26b1
    try clear c27
    try clear c27b0
    try clear c27b1
    try clear c28
    try clear c28b0
    try clear c28b1
    try clear c30
    try clear c31
    try clear c32
    try clear c33
    try clear c35
    try clear c36
    try clear hcz18_0
    try clear hcz18_1
    try clear hcz24_0
    try clear hcz24_1
    try clear hcz34_0
    try clear hcz34_1
    try clear hcz37_0
    try clear hcz37_1
    try clear hfz18_0
    try clear hfz18_1
    try clear hfz24_0
    try clear hfz24_1
    try clear hfz34_0
    try clear hfz34_1
    try clear hfz37_0
    try clear hfz37_1
    obtain ⟨kq, x91_10, rfl, HA, HJ10, BK179, BK180, BK192, BK196, HB⟩ := hcut
    cases kq with
    | zero => exact absurd HA.out (by simp [waymarklaw01_AddrPrefixes.j0])
    | succ kj10 =>
      have H := HA.out
      clear HA
      simp only [waymarklaw01_AddrPrefixes.j0] at H
      by_cases c39 : x91_10 = true
      · subst c39
        have H1 : (none) = some r := by rw [if_pos rfl] at H; exact H
        clear H
        have H := H1
        clear H1
        exact absurd H (by simp)
      · replace c39 := Bool.eq_false_iff.mpr c39
        subst c39
        have H1 : ((addr_Ends.f kj10 a1_0 a1_1).bind fun bt198 => ((waymarkref01_Ends.f kj10 a1_0 a1_1).bind fun bt201 => ((addr_Halves.f kj10 a1_0 a1_1).bind fun bt204 => ((waymarkref01_Halves.f kj10 a1_0 a1_1).bind fun bt211 => ((addr_Common.f kj10 a1_0 a1_1 a2_0 a2_1).bind fun bt218 => ((waymarkref01_Common.f kj10 a1_0 a1_1 a2_0 a2_1).bind fun bt222 => (if bt198.1 = bt201.1 then (if bt198.2.1 = bt201.2.1 then (if bt198.2.2 = bt201.2.2 then ((waymarklaw01_same.f bt204.1 bt204.2.1 bt211.1 bt211.2.1).bind fun t226 => (if t226 = true then ((waymarklaw01_same.f bt204.2.2.1 bt204.2.2.2.1 bt211.2.2.1 bt211.2.2.2.1).bind fun t227 => (if t227 = true then (if bt204.2.2.2.2 = bt211.2.2.2.2 then ((waymarklaw01_same.f bt218.1 bt218.2.1 bt222.1 bt222.2.1).bind fun t228 => (if t228 = true then (waymarklaw01_AddrPrefixes.j1 kj10 a0 (bt218.2.2 != bt222.2.2) a1_0 a1_1 a2_0 a2_1) else (none))) else (none)) else (none))) else (none))) else (none)) else (none)) else (none)))))))) = some r := by rw [if_neg (show ¬ (false = true) by decide)] at H; exact H
        clear H
        have H := H1
        clear H1
        replace H := Option.bind_eq_some_iff.mp H
        obtain ⟨⟨t198, t199, t200⟩, A400, H⟩ := H
        replace H : ((waymarkref01_Ends.f kj10 a1_0 a1_1).bind fun bt201 => ((addr_Halves.f kj10 a1_0 a1_1).bind fun bt204 => ((waymarkref01_Halves.f kj10 a1_0 a1_1).bind fun bt211 => ((addr_Common.f kj10 a1_0 a1_1 a2_0 a2_1).bind fun bt218 => ((waymarkref01_Common.f kj10 a1_0 a1_1 a2_0 a2_1).bind fun bt222 => (if t198 = bt201.1 then (if t199 = bt201.2.1 then (if t200 = bt201.2.2 then ((waymarklaw01_same.f bt204.1 bt204.2.1 bt211.1 bt211.2.1).bind fun t226 => (if t226 = true then ((waymarklaw01_same.f bt204.2.2.1 bt204.2.2.2.1 bt211.2.2.1 bt211.2.2.2.1).bind fun t227 => (if t227 = true then (if bt204.2.2.2.2 = bt211.2.2.2.2 then ((waymarklaw01_same.f bt218.1 bt218.2.1 bt222.1 bt222.2.1).bind fun t228 => (if t228 = true then (waymarklaw01_AddrPrefixes.j1 kj10 a0 (bt218.2.2 != bt222.2.2) a1_0 a1_1 a2_0 a2_1) else (none))) else (none)) else (none))) else (none))) else (none)) else (none)) else (none))))))) = some r := H
        have A40 := Aside0.mk A400
        clear A400
        replace H := Option.bind_eq_some_iff.mp H
        obtain ⟨⟨t201, t202, t203⟩, A410, H⟩ := H
        replace H : ((addr_Halves.f kj10 a1_0 a1_1).bind fun bt204 => ((waymarkref01_Halves.f kj10 a1_0 a1_1).bind fun bt211 => ((addr_Common.f kj10 a1_0 a1_1 a2_0 a2_1).bind fun bt218 => ((waymarkref01_Common.f kj10 a1_0 a1_1 a2_0 a2_1).bind fun bt222 => (if t198 = t201 then (if t199 = t202 then (if t200 = t203 then ((waymarklaw01_same.f bt204.1 bt204.2.1 bt211.1 bt211.2.1).bind fun t226 => (if t226 = true then ((waymarklaw01_same.f bt204.2.2.1 bt204.2.2.2.1 bt211.2.2.1 bt211.2.2.2.1).bind fun t227 => (if t227 = true then (if bt204.2.2.2.2 = bt211.2.2.2.2 then ((waymarklaw01_same.f bt218.1 bt218.2.1 bt222.1 bt222.2.1).bind fun t228 => (if t228 = true then (waymarklaw01_AddrPrefixes.j1 kj10 a0 (bt218.2.2 != bt222.2.2) a1_0 a1_1 a2_0 a2_1) else (none))) else (none)) else (none))) else (none))) else (none)) else (none)) else (none)))))) = some r := H
        have A41 := Aside0.mk A410
        clear A410
        replace H := Option.bind_eq_some_iff.mp H
        obtain ⟨⟨t204, t205, t206, t207, t208⟩, A420, H⟩ := H
        replace H : ((waymarkref01_Halves.f kj10 a1_0 a1_1).bind fun bt211 => ((addr_Common.f kj10 a1_0 a1_1 a2_0 a2_1).bind fun bt218 => ((waymarkref01_Common.f kj10 a1_0 a1_1 a2_0 a2_1).bind fun bt222 => (if t198 = t201 then (if t199 = t202 then (if t200 = t203 then ((waymarklaw01_same.f t204 t205 bt211.1 bt211.2.1).bind fun t226 => (if t226 = true then ((waymarklaw01_same.f t206 t207 bt211.2.2.1 bt211.2.2.2.1).bind fun t227 => (if t227 = true then (if t208 = bt211.2.2.2.2 then ((waymarklaw01_same.f bt218.1 bt218.2.1 bt222.1 bt222.2.1).bind fun t228 => (if t228 = true then (waymarklaw01_AddrPrefixes.j1 kj10 a0 (bt218.2.2 != bt222.2.2) a1_0 a1_1 a2_0 a2_1) else (none))) else (none)) else (none))) else (none))) else (none)) else (none)) else (none))))) = some r := H
        have A42 := Aside0.mk A420
        clear A420
        replace H := Option.bind_eq_some_iff.mp H
        obtain ⟨⟨t211, t212, t213, t214, t215⟩, A430, H⟩ := H
        replace H : ((addr_Common.f kj10 a1_0 a1_1 a2_0 a2_1).bind fun bt218 => ((waymarkref01_Common.f kj10 a1_0 a1_1 a2_0 a2_1).bind fun bt222 => (if t198 = t201 then (if t199 = t202 then (if t200 = t203 then ((waymarklaw01_same.f t204 t205 t211 t212).bind fun t226 => (if t226 = true then ((waymarklaw01_same.f t206 t207 t213 t214).bind fun t227 => (if t227 = true then (if t208 = t215 then ((waymarklaw01_same.f bt218.1 bt218.2.1 bt222.1 bt222.2.1).bind fun t228 => (if t228 = true then (waymarklaw01_AddrPrefixes.j1 kj10 a0 (bt218.2.2 != bt222.2.2) a1_0 a1_1 a2_0 a2_1) else (none))) else (none)) else (none))) else (none))) else (none)) else (none)) else (none)))) = some r := H
        have A43 := Aside0.mk A430
        clear A430
        replace H := Option.bind_eq_some_iff.mp H
        obtain ⟨⟨t218, t219, t220⟩, A440, H⟩ := H
        replace H : ((waymarkref01_Common.f kj10 a1_0 a1_1 a2_0 a2_1).bind fun bt222 => (if t198 = t201 then (if t199 = t202 then (if t200 = t203 then ((waymarklaw01_same.f t204 t205 t211 t212).bind fun t226 => (if t226 = true then ((waymarklaw01_same.f t206 t207 t213 t214).bind fun t227 => (if t227 = true then (if t208 = t215 then ((waymarklaw01_same.f t218 t219 bt222.1 bt222.2.1).bind fun t228 => (if t228 = true then (waymarklaw01_AddrPrefixes.j1 kj10 a0 (t220 != bt222.2.2) a1_0 a1_1 a2_0 a2_1) else (none))) else (none)) else (none))) else (none))) else (none)) else (none)) else (none))) = some r := H
        have A44 := Aside0.mk A440
        clear A440
        replace H := Option.bind_eq_some_iff.mp H
        obtain ⟨⟨t222, t223, t224⟩, A450, H⟩ := H
        replace H : (if t198 = t201 then (if t199 = t202 then (if t200 = t203 then ((waymarklaw01_same.f t204 t205 t211 t212).bind fun t226 => (if t226 = true then ((waymarklaw01_same.f t206 t207 t213 t214).bind fun t227 => (if t227 = true then (if t208 = t215 then ((waymarklaw01_same.f t218 t219 t222 t223).bind fun t228 => (if t228 = true then (waymarklaw01_AddrPrefixes.j1 kj10 a0 (t220 != t224) a1_0 a1_1 a2_0 a2_1) else (none))) else (none)) else (none))) else (none))) else (none)) else (none)) else (none)) = some r := H
        have A45 := Aside0.mk A450
        clear A450
        have HC46 := Aside0.mk H
        clear H
        have hnb47 := NB179_180.out
        have hnc47 := NB180_179.out
        have hnb48 := NB179_192.out
        have hnc48 := NB192_179.out
        have hnb49 := NB179_196.out
        have hnc49 := NB196_179.out
        have hcz50_0 : wc.cell? ⟨gb179, 0, none⟩ = some (.int .u32 a1_0) := (blk_cell BK179.out 0).trans rfl
        have hcz50_1 : wc.cell? ⟨gb179, 1, none⟩ = some (.int .i64 a1_1) := (blk_cell BK179.out 1).trans rfl
        have hfz50_0 := blk_frozen BK179.out 0
        have hfz50_1 := blk_frozen BK179.out 1
        go_upto_region 15 with (first | ((with_reducible refine gate_callee (f := 18) rfl ?_); refine goesL_ (some 94) rfl rfl Try.func18 (by kernel_rfl) rfl #[.agg #[.int .u32 a1_0, .int .i64 a1_1]] rfl (by (try simp only [List.map_toArray, List.map_cons, List.map_nil]); first | done | rfl | (simp only [List.length_drop, List.length_take]; rfl)) ?_; (with_reducible refine (addr_Ends.calls kj10 a1_0 a1_1 t198 t199 t200 _ A40.out).mono ?_); rintro e w51 ⟨rfl, hb⟩; refine ⟨_, rfl, ?_⟩; have n0_ := Aside0.mk (blk_below (g := gb179) (o := .cells #[.int .u32 a1_0, .int .i64 a1_1] 30 (0, 0)) (by (with_reducible repeat (first | refine blk_drewN ?_ _ | refine blk_drew ?_ | refine blk_alloc ?_ _)); exact BK179.out) hb); have n1_ := Aside0.mk (blk_below (g := gb180) (o := .cells #[.int .u32 a2_0, .int .i64 a2_1] 30 (0, 0)) (by (with_reducible repeat (first | refine blk_drewN ?_ _ | refine blk_drew ?_ | refine blk_alloc ?_ _)); exact BK180.out) hb); have n2_ := Aside0.mk (blk_below (g := gb192) (o := .cells #[.int .u32 t189, .int .i64 t190] 30 (0, 0)) (by (with_reducible repeat (first | refine blk_drewN ?_ _ | refine blk_drew ?_ | refine blk_alloc ?_ _)); exact BK192.out) hb); have n3_ := Aside0.mk (blk_below (g := gb196) (o := .cells #[.int .u32 t193, .int .i64 t194] 30 (0, 0)) (by (with_reducible repeat (first | refine blk_drewN ?_ _ | refine blk_drew ?_ | refine blk_alloc ?_ _)); exact BK196.out) hb); have n4_ := Aside0.mk (below_step (by repeat (first | (with_reducible first | exact HB.out | apply below_alloc | apply pw_below_drewN | apply below_drew1 | refine below_set ?_ GE179.out | refine below_set ?_ GE180.out | refine below_set ?_ GE192.out | refine below_set ?_ GE196.out) | exact HB.out)) hb); clear BK179; clear BK180; clear BK192; clear BK196; clear HB; have BK179 := n0_; have BK180 := n1_; have BK192 := n2_; have BK196 := n3_; have HB := n4_; clear n0_ n1_ n2_ n3_ n4_; (try clear hb); (try clear hb2); (try clear hk); (try clear hi); have hcz52_0 : w51.cell? ⟨gb179, 0, none⟩ = some (.int .u32 a1_0) := (blk_cell BK179.out 0).trans rfl; have hcz52_1 : w51.cell? ⟨gb179, 1, none⟩ = some (.int .i64 a1_1) := (blk_cell BK179.out 1).trans rfl; have hfz52_0 := blk_frozen BK179.out 0; have hfz52_1 := blk_frozen BK179.out 1) | ((with_reducible refine gate_callee (f := 19) rfl ?_); refine goesL_ (some 100) rfl rfl Try.func19 (by kernel_rfl) rfl #[.agg #[.int .u32 a1_0, .int .i64 a1_1]] rfl (by (try simp only [List.map_toArray, List.map_cons, List.map_nil]); first | done | rfl | (simp only [List.length_drop, List.length_take]; rfl)) ?_; (with_reducible refine (waymarkref01_Ends.calls kj10 a1_0 a1_1 t201 t202 t203 _ A41.out).mono ?_); rintro e w53 ⟨rfl, hb⟩; refine ⟨_, rfl, ?_⟩; have n0_ := Aside0.mk (blk_below (g := gb179) (o := .cells #[.int .u32 a1_0, .int .i64 a1_1] 30 (0, 0)) (by (with_reducible repeat (first | refine blk_drewN ?_ _ | refine blk_drew ?_ | refine blk_alloc ?_ _)); exact BK179.out) hb); have n1_ := Aside0.mk (blk_below (g := gb180) (o := .cells #[.int .u32 a2_0, .int .i64 a2_1] 30 (0, 0)) (by (with_reducible repeat (first | refine blk_drewN ?_ _ | refine blk_drew ?_ | refine blk_alloc ?_ _)); exact BK180.out) hb); have n2_ := Aside0.mk (blk_below (g := gb192) (o := .cells #[.int .u32 t189, .int .i64 t190] 30 (0, 0)) (by (with_reducible repeat (first | refine blk_drewN ?_ _ | refine blk_drew ?_ | refine blk_alloc ?_ _)); exact BK192.out) hb); have n3_ := Aside0.mk (blk_below (g := gb196) (o := .cells #[.int .u32 t193, .int .i64 t194] 30 (0, 0)) (by (with_reducible repeat (first | refine blk_drewN ?_ _ | refine blk_drew ?_ | refine blk_alloc ?_ _)); exact BK196.out) hb); have n4_ := Aside0.mk (below_step (by repeat (first | (with_reducible first | exact HB.out | apply below_alloc | apply pw_below_drewN | apply below_drew1 | refine below_set ?_ GE179.out | refine below_set ?_ GE180.out | refine below_set ?_ GE192.out | refine below_set ?_ GE196.out) | exact HB.out)) hb); clear BK179; clear BK180; clear BK192; clear BK196; clear HB; have BK179 := n0_; have BK180 := n1_; have BK192 := n2_; have BK196 := n3_; have HB := n4_; clear n0_ n1_ n2_ n3_ n4_; (try clear hb); (try clear hb2); (try clear hk); (try clear hi); have hcz54_0 : w53.cell? ⟨gb179, 0, none⟩ = some (.int .u32 a1_0) := (blk_cell BK179.out 0).trans rfl; have hcz54_1 : w53.cell? ⟨gb179, 1, none⟩ = some (.int .i64 a1_1) := (blk_cell BK179.out 1).trans rfl; have hfz54_0 := blk_frozen BK179.out 0; have hfz54_1 := blk_frozen BK179.out 1) | ((with_reducible refine gate_callee (f := 20) rfl ?_); refine goesL_ (some 106) rfl rfl Try.func20 (by kernel_rfl) rfl #[.agg #[.int .u32 a1_0, .int .i64 a1_1]] rfl (by (try simp only [List.map_toArray, List.map_cons, List.map_nil]); first | done | rfl | (simp only [List.length_drop, List.length_take]; rfl)) ?_; (with_reducible refine (addr_Halves.calls kj10 a1_0 a1_1 t204 t205 t206 t207 t208 _ A42.out).mono ?_); rintro e w55 ⟨rfl, hb⟩; refine ⟨_, rfl, ?_⟩; have n0_ := Aside0.mk (blk_below (g := gb179) (o := .cells #[.int .u32 a1_0, .int .i64 a1_1] 30 (0, 0)) (by (with_reducible repeat (first | refine blk_drewN ?_ _ | refine blk_drew ?_ | refine blk_alloc ?_ _)); exact BK179.out) hb); have n1_ := Aside0.mk (blk_below (g := gb180) (o := .cells #[.int .u32 a2_0, .int .i64 a2_1] 30 (0, 0)) (by (with_reducible repeat (first | refine blk_drewN ?_ _ | refine blk_drew ?_ | refine blk_alloc ?_ _)); exact BK180.out) hb); have n2_ := Aside0.mk (blk_below (g := gb192) (o := .cells #[.int .u32 t189, .int .i64 t190] 30 (0, 0)) (by (with_reducible repeat (first | refine blk_drewN ?_ _ | refine blk_drew ?_ | refine blk_alloc ?_ _)); exact BK192.out) hb); have n3_ := Aside0.mk (blk_below (g := gb196) (o := .cells #[.int .u32 t193, .int .i64 t194] 30 (0, 0)) (by (with_reducible repeat (first | refine blk_drewN ?_ _ | refine blk_drew ?_ | refine blk_alloc ?_ _)); exact BK196.out) hb); have n4_ := Aside0.mk (below_step (by repeat (first | (with_reducible first | exact HB.out | apply below_alloc | apply pw_below_drewN | apply below_drew1 | refine below_set ?_ GE179.out | refine below_set ?_ GE180.out | refine below_set ?_ GE192.out | refine below_set ?_ GE196.out) | exact HB.out)) hb); clear BK179; clear BK180; clear BK192; clear BK196; clear HB; have BK179 := n0_; have BK180 := n1_; have BK192 := n2_; have BK196 := n3_; have HB := n4_; clear n0_ n1_ n2_ n3_ n4_; (try clear hb); (try clear hb2); (try clear hk); (try clear hi)) | ((with_reducible refine gate_dst (N := 25) rfl ?_); refine box_event ?hg (N := 25) ?hd (cs := #[.int .u32 0, .int .i64 0]) (t := 30) ?hr ?_; (case hd => rfl); (case hg => rfl); (case hr => first | (go_simp; done) | (go_simp; rfl)); intro gb209 hg w56 hbox hb; have n0_ := Aside0.mk (blk_below (g := gb179) (o := .cells #[.int .u32 a1_0, .int .i64 a1_1] 30 (0, 0)) (by (with_reducible repeat (first | refine blk_drewN ?_ _ | refine blk_drew ?_ | refine blk_alloc ?_ _)); exact BK179.out) hb); have n1_ := Aside0.mk (blk_below (g := gb180) (o := .cells #[.int .u32 a2_0, .int .i64 a2_1] 30 (0, 0)) (by (with_reducible repeat (first | refine blk_drewN ?_ _ | refine blk_drew ?_ | refine blk_alloc ?_ _)); exact BK180.out) hb); have n2_ := Aside0.mk (blk_below (g := gb192) (o := .cells #[.int .u32 t189, .int .i64 t190] 30 (0, 0)) (by (with_reducible repeat (first | refine blk_drewN ?_ _ | refine blk_drew ?_ | refine blk_alloc ?_ _)); exact BK192.out) hb); have n3_ := Aside0.mk (blk_below (g := gb196) (o := .cells #[.int .u32 t193, .int .i64 t194] 30 (0, 0)) (by (with_reducible repeat (first | refine blk_drewN ?_ _ | refine blk_drew ?_ | refine blk_alloc ?_ _)); exact BK196.out) hb); have n4_ := Aside0.mk (below_step (by repeat (first | (with_reducible first | exact HB.out | apply below_alloc | apply pw_below_drewN | apply below_drew1 | refine below_set ?_ GE179.out | refine below_set ?_ GE180.out | refine below_set ?_ GE192.out | refine below_set ?_ GE196.out) | exact HB.out)) hb); have n5_ := Aside0.mk (hbox); have n6_ := Aside0.mk ((by rw [hg]; exact (below_size (by repeat (first | (with_reducible first | exact HB.out | apply below_alloc | apply pw_below_drewN | apply below_drew1 | refine below_set ?_ GE179.out | refine below_set ?_ GE180.out | refine below_set ?_ GE192.out | refine below_set ?_ GE196.out) | exact HB.out))) : w.heap.size ≤ gb209)); have n7_ := Aside0.mk ((by rw [hg]; exact (below_size (by repeat (first | (with_reducible first | exact HB.out | apply below_alloc | apply pw_below_drewN | apply below_drew1 | refine below_set ?_ GE179.out | refine below_set ?_ GE180.out | refine below_set ?_ GE192.out | refine below_set ?_ GE196.out) | exact HB.out))) : w.heap.size ≤ gb209)); have n8_ := Aside0.mk ((by rw [hg]; exact Nat.ne_of_lt (blk_lt (g := gb179) (o := .cells #[.int .u32 a1_0, .int .i64 a1_1] 30 (0, 0)) (by (with_reducible repeat (first | refine blk_drewN ?_ _ | refine blk_drew ?_ | refine blk_alloc ?_ _)); exact BK179.out)) : gb179 ≠ gb209)); have n9_ := Aside0.mk ((by rw [hg]; exact Nat.ne_of_gt (blk_lt (g := gb179) (o := .cells #[.int .u32 a1_0, .int .i64 a1_1] 30 (0, 0)) (by (with_reducible repeat (first | refine blk_drewN ?_ _ | refine blk_drew ?_ | refine blk_alloc ?_ _)); exact BK179.out)) : gb209 ≠ gb179)); have n10_ := Aside0.mk ((by rw [hg]; exact Nat.ne_of_lt (blk_lt (g := gb180) (o := .cells #[.int .u32 a2_0, .int .i64 a2_1] 30 (0, 0)) (by (with_reducible repeat (first | refine blk_drewN ?_ _ | refine blk_drew ?_ | refine blk_alloc ?_ _)); exact BK180.out)) : gb180 ≠ gb209)); have n11_ := Aside0.mk ((by rw [hg]; exact Nat.ne_of_gt (blk_lt (g := gb180) (o := .cells #[.int .u32 a2_0, .int .i64 a2_1] 30 (0, 0)) (by (with_reducible repeat (first | refine blk_drewN ?_ _ | refine blk_drew ?_ | refine blk_alloc ?_ _)); exact BK180.out)) : gb209 ≠ gb180)); have n12_ := Aside0.mk ((by rw [hg]; exact Nat.ne_of_lt (blk_lt (g := gb192) (o := .cells #[.int .u32 t189, .int .i64 t190] 30 (0, 0)) (by (with_reducible repeat (first | refine blk_drewN ?_ _ | refine blk_drew ?_ | refine blk_alloc ?_ _)); exact BK192.out)) : gb192 ≠ gb209)); have n13_ := Aside0.mk ((by rw [hg]; exact Nat.ne_of_gt (blk_lt (g := gb192) (o := .cells #[.int .u32 t189, .int .i64 t190] 30 (0, 0)) (by (with_reducible repeat (first | refine blk_drewN ?_ _ | refine blk_drew ?_ | refine blk_alloc ?_ _)); exact BK192.out)) : gb209 ≠ gb192)); have n14_ := Aside0.mk ((by rw [hg]; exact Nat.ne_of_lt (blk_lt (g := gb196) (o := .cells #[.int .u32 t193, .int .i64 t194] 30 (0, 0)) (by (with_reducible repeat (first | refine blk_drewN ?_ _ | refine blk_drew ?_ | refine blk_alloc ?_ _)); exact BK196.out)) : gb196 ≠ gb209)); have n15_ := Aside0.mk ((by rw [hg]; exact Nat.ne_of_gt (blk_lt (g := gb196) (o := .cells #[.int .u32 t193, .int .i64 t194] 30 (0, 0)) (by (with_reducible repeat (first | refine blk_drewN ?_ _ | refine blk_drew ?_ | refine blk_alloc ?_ _)); exact BK196.out)) : gb209 ≠ gb196)); clear BK179; clear BK180; clear BK192; clear BK196; clear HB; have BK179 := n0_; have BK180 := n1_; have BK192 := n2_; have BK196 := n3_; have HB := n4_; have BK209 := n5_; have GW209 := n6_; have GE209 := n7_; have NB179_209 := n8_; have NB209_179 := n9_; have NB180_209 := n10_; have NB209_180 := n11_; have NB192_209 := n12_; have NB209_192 := n13_; have NB196_209 := n14_; have NB209_196 := n15_; clear n0_ n1_ n2_ n3_ n4_ n5_ n6_ n7_ n8_ n9_ n10_ n11_ n12_ n13_ n14_ n15_; clear hb hbox hg) | ((with_reducible refine gate_dst (N := 26) rfl ?_); refine box_event ?hg (N := 26) ?hd (cs := #[.int .u32 0, .int .i64 0]) (t := 30) ?hr ?_; (case hd => rfl); (case hg => rfl); (case hr => first | (go_simp; done) | (go_simp; rfl)); intro gb210 hg w57 hbox hb; have n0_ := Aside0.mk (blk_below (g := gb179) (o := .cells #[.int .u32 a1_0, .int .i64 a1_1] 30 (0, 0)) (by (with_reducible repeat (first | refine blk_drewN ?_ _ | refine blk_drew ?_ | refine blk_alloc ?_ _)); exact BK179.out) hb); have n1_ := Aside0.mk (blk_below (g := gb180) (o := .cells #[.int .u32 a2_0, .int .i64 a2_1] 30 (0, 0)) (by (with_reducible repeat (first | refine blk_drewN ?_ _ | refine blk_drew ?_ | refine blk_alloc ?_ _)); exact BK180.out) hb); have n2_ := Aside0.mk (blk_below (g := gb192) (o := .cells #[.int .u32 t189, .int .i64 t190] 30 (0, 0)) (by (with_reducible repeat (first | refine blk_drewN ?_ _ | refine blk_drew ?_ | refine blk_alloc ?_ _)); exact BK192.out) hb); have n3_ := Aside0.mk (blk_below (g := gb196) (o := .cells #[.int .u32 t193, .int .i64 t194] 30 (0, 0)) (by (with_reducible repeat (first | refine blk_drewN ?_ _ | refine blk_drew ?_ | refine blk_alloc ?_ _)); exact BK196.out) hb); have n4_ := Aside0.mk (blk_below (g := gb209) (o := .cells #[.int .u32 0, .int .i64 0] 30 (0, 0)) (by (with_reducible repeat (first | refine blk_drewN ?_ _ | refine blk_drew ?_ | refine blk_alloc ?_ _)); exact BK209.out) hb); have n5_ := Aside0.mk (below_step (by repeat (first | (with_reducible first | exact HB.out | apply below_alloc | apply pw_below_drewN | apply below_drew1 | refine below_set ?_ GE179.out | refine below_set ?_ GE180.out | refine below_set ?_ GE192.out | refine below_set ?_ GE196.out | refine below_set ?_ GE209.out) | exact HB.out)) hb); have n6_ := Aside0.mk (hbox); have n7_ := Aside0.mk ((by rw [hg]; exact (below_size (by repeat (first | (with_reducible first | exact HB.out | apply below_alloc | apply pw_below_drewN | apply below_drew1 | refine below_set ?_ GE179.out | refine below_set ?_ GE180.out | refine below_set ?_ GE192.out | refine below_set ?_ GE196.out | refine below_set ?_ GE209.out) | exact HB.out))) : w.heap.size ≤ gb210)); have n8_ := Aside0.mk ((by rw [hg]; exact (below_size (by repeat (first | (with_reducible first | exact HB.out | apply below_alloc | apply pw_below_drewN | apply below_drew1 | refine below_set ?_ GE179.out | refine below_set ?_ GE180.out | refine below_set ?_ GE192.out | refine below_set ?_ GE196.out | refine below_set ?_ GE209.out) | exact HB.out))) : w.heap.size ≤ gb210)); have n9_ := Aside0.mk ((by rw [hg]; exact Nat.ne_of_lt (blk_lt (g := gb179) (o := .cells #[.int .u32 a1_0, .int .i64 a1_1] 30 (0, 0)) (by (with_reducible repeat (first | refine blk_drewN ?_ _ | refine blk_drew ?_ | refine blk_alloc ?_ _)); exact BK179.out)) : gb179 ≠ gb210)); have n10_ := Aside0.mk ((by rw [hg]; exact Nat.ne_of_gt (blk_lt (g := gb179) (o := .cells #[.int .u32 a1_0, .int .i64 a1_1] 30 (0, 0)) (by (with_reducible repeat (first | refine blk_drewN ?_ _ | refine blk_drew ?_ | refine blk_alloc ?_ _)); exact BK179.out)) : gb210 ≠ gb179)); have n11_ := Aside0.mk ((by rw [hg]; exact Nat.ne_of_lt (blk_lt (g := gb180) (o := .cells #[.int .u32 a2_0, .int .i64 a2_1] 30 (0, 0)) (by (with_reducible repeat (first | refine blk_drewN ?_ _ | refine blk_drew ?_ | refine blk_alloc ?_ _)); exact BK180.out)) : gb180 ≠ gb210)); have n12_ := Aside0.mk ((by rw [hg]; exact Nat.ne_of_gt (blk_lt (g := gb180) (o := .cells #[.int .u32 a2_0, .int .i64 a2_1] 30 (0, 0)) (by (with_reducible repeat (first | refine blk_drewN ?_ _ | refine blk_drew ?_ | refine blk_alloc ?_ _)); exact BK180.out)) : gb210 ≠ gb180)); have n13_ := Aside0.mk ((by rw [hg]; exact Nat.ne_of_lt (blk_lt (g := gb192) (o := .cells #[.int .u32 t189, .int .i64 t190] 30 (0, 0)) (by (with_reducible repeat (first | refine blk_drewN ?_ _ | refine blk_drew ?_ | refine blk_alloc ?_ _)); exact BK192.out)) : gb192 ≠ gb210)); have n14_ := Aside0.mk ((by rw [hg]; exact Nat.ne_of_gt (blk_lt (g := gb192) (o := .cells #[.int .u32 t189, .int .i64 t190] 30 (0, 0)) (by (with_reducible repeat (first | refine blk_drewN ?_ _ | refine blk_drew ?_ | refine blk_alloc ?_ _)); exact BK192.out)) : gb210 ≠ gb192)); have n15_ := Aside0.mk ((by rw [hg]; exact Nat.ne_of_lt (blk_lt (g := gb196) (o := .cells #[.int .u32 t193, .int .i64 t194] 30 (0, 0)) (by (with_reducible repeat (first | refine blk_drewN ?_ _ | refine blk_drew ?_ | refine blk_alloc ?_ _)); exact BK196.out)) : gb196 ≠ gb210)); have n16_ := Aside0.mk ((by rw [hg]; exact Nat.ne_of_gt (blk_lt (g := gb196) (o := .cells #[.int .u32 t193, .int .i64 t194] 30 (0, 0)) (by (with_reducible repeat (first | refine blk_drewN ?_ _ | refine blk_drew ?_ | refine blk_alloc ?_ _)); exact BK196.out)) : gb210 ≠ gb196)); have n17_ := Aside0.mk ((by rw [hg]; exact Nat.ne_of_lt (blk_lt (g := gb209) (o := .cells #[.int .u32 0, .int .i64 0] 30 (0, 0)) (by (with_reducible repeat (first | refine blk_drewN ?_ _ | refine blk_drew ?_ | refine blk_alloc ?_ _)); exact BK209.out)) : gb209 ≠ gb210)); have n18_ := Aside0.mk ((by rw [hg]; exact Nat.ne_of_gt (blk_lt (g := gb209) (o := .cells #[.int .u32 0, .int .i64 0] 30 (0, 0)) (by (with_reducible repeat (first | refine blk_drewN ?_ _ | refine blk_drew ?_ | refine blk_alloc ?_ _)); exact BK209.out)) : gb210 ≠ gb209)); clear BK179; clear BK180; clear BK192; clear BK196; clear BK209; clear HB; have BK179 := n0_; have BK180 := n1_; have BK192 := n2_; have BK196 := n3_; have BK209 := n4_; have HB := n5_; have BK210 := n6_; have GW210 := n7_; have GE210 := n8_; have NB179_210 := n9_; have NB210_179 := n10_; have NB180_210 := n11_; have NB210_180 := n12_; have NB192_210 := n13_; have NB210_192 := n14_; have NB196_210 := n15_; have NB210_196 := n16_; have NB209_210 := n17_; have NB210_209 := n18_; clear n0_ n1_ n2_ n3_ n4_ n5_ n6_ n7_ n8_ n9_ n10_ n11_ n12_ n13_ n14_ n15_ n16_ n17_ n18_; clear hb hbox hg; have hnb58 := NB209_179.out; have hnc58 := NB179_209.out; have hnb59 := NB209_180.out; have hnc59 := NB180_209.out; have hnb60 := NB209_192.out; have hnc60 := NB192_209.out; have hnb61 := NB209_196.out; have hnc61 := NB196_209.out; have hnb62 := NB209_210.out; have hnc62 := NB210_209.out; have hcz63_0 : w57.cell? ⟨gb209, 0, none⟩ = some (.int .u32 0) := (blk_cell BK209.out 0).trans rfl; have hcz63_1 : w57.cell? ⟨gb209, 1, none⟩ = some (.int .i64 0) := (blk_cell BK209.out 1).trans rfl; have hfz63_0 := blk_frozen BK209.out 0; have hfz63_1 := blk_frozen BK209.out 1; have hnb64 := NB210_179.out; have hnc64 := NB179_210.out; have hnb65 := NB210_180.out; have hnc65 := NB180_210.out; have hnb66 := NB210_192.out; have hnc66 := NB192_210.out; have hnb67 := NB210_196.out; have hnc67 := NB196_210.out; have hcz68_0 : w57.cell? ⟨gb210, 0, none⟩ = some (.int .u32 0) := (blk_cell BK210.out 0).trans rfl; have hcz68_1 : w57.cell? ⟨gb210, 1, none⟩ = some (.int .i64 0) := (blk_cell BK210.out 1).trans rfl; have hfz68_0 := blk_frozen BK210.out 0; have hfz68_1 := blk_frozen BK210.out 1; have hcz69_0 : w57.cell? ⟨gb179, 0, none⟩ = some (.int .u32 a1_0) := (blk_cell BK179.out 0).trans rfl; have hcz69_1 : w57.cell? ⟨gb179, 1, none⟩ = some (.int .i64 a1_1) := (blk_cell BK179.out 1).trans rfl; have hfz69_0 := blk_frozen BK179.out 0; have hfz69_1 := blk_frozen BK179.out 1) | ((with_reducible refine gate_callee (f := 21) rfl ?_); refine goesL_ (some 112) rfl rfl Try.func21 (by kernel_rfl) rfl #[.agg #[.int .u32 a1_0, .int .i64 a1_1]] rfl (by (try simp only [List.map_toArray, List.map_cons, List.map_nil]); first | done | rfl | (simp only [List.length_drop, List.length_take]; rfl)) ?_; (with_reducible refine (waymarkref01_Halves.calls kj10 a1_0 a1_1 t211 t212 t213 t214 t215 _ A43.out).mono ?_); rintro e w70 ⟨rfl, hb⟩; refine ⟨_, rfl, ?_⟩; have n0_ := Aside0.mk (blk_below (g := gb179) (o := .cells #[.int .u32 a1_0, .int .i64 a1_1] 30 (0, 0)) (by (with_reducible repeat (first | refine blk_drewN ?_ _ | refine blk_drew ?_ | refine blk_alloc ?_ _)); refine blk_far ?_ NB179_210.out _; (with_reducible repeat (first | refine blk_drewN ?_ _ | refine blk_drew ?_ | refine blk_alloc ?_ _)); refine blk_far ?_ NB179_210.out _; (with_reducible repeat (first | refine blk_drewN ?_ _ | refine blk_drew ?_ | refine blk_alloc ?_ _)); refine blk_far ?_ NB179_209.out _; (with_reducible repeat (first | refine blk_drewN ?_ _ | refine blk_drew ?_ | refine blk_alloc ?_ _)); refine blk_far ?_ NB179_209.out _; (with_reducible repeat (first | refine blk_drewN ?_ _ | refine blk_drew ?_ | refine blk_alloc ?_ _)); exact BK179.out) hb); have n1_ := Aside0.mk (blk_below (g := gb180) (o := .cells #[.int .u32 a2_0, .int .i64 a2_1] 30 (0, 0)) (by (with_reducible repeat (first | refine blk_drewN ?_ _ | refine blk_drew ?_ | refine blk_alloc ?_ _)); refine blk_far ?_ NB180_210.out _; (with_reducible repeat (first | refine blk_drewN ?_ _ | refine blk_drew ?_ | refine blk_alloc ?_ _)); refine blk_far ?_ NB180_210.out _; (with_reducible repeat (first | refine blk_drewN ?_ _ | refine blk_drew ?_ | refine blk_alloc ?_ _)); refine blk_far ?_ NB180_209.out _; (with_reducible repeat (first | refine blk_drewN ?_ _ | refine blk_drew ?_ | refine blk_alloc ?_ _)); refine blk_far ?_ NB180_209.out _; (with_reducible repeat (first | refine blk_drewN ?_ _ | refine blk_drew ?_ | refine blk_alloc ?_ _)); exact BK180.out) hb); have n2_ := Aside0.mk (blk_below (g := gb192) (o := .cells #[.int .u32 t189, .int .i64 t190] 30 (0, 0)) (by (with_reducible repeat (first | refine blk_drewN ?_ _ | refine blk_drew ?_ | refine blk_alloc ?_ _)); refine blk_far ?_ NB192_210.out _; (with_reducible repeat (first | refine blk_drewN ?_ _ | refine blk_drew ?_ | refine blk_alloc ?_ _)); refine blk_far ?_ NB192_210.out _; (with_reducible repeat (first | refine blk_drewN ?_ _ | refine blk_drew ?_ | refine blk_alloc ?_ _)); refine blk_far ?_ NB192_209.out _; (with_reducible repeat (first | refine blk_drewN ?_ _ | refine blk_drew ?_ | refine blk_alloc ?_ _)); refine blk_far ?_ NB192_209.out _; (with_reducible repeat (first | refine blk_drewN ?_ _ | refine blk_drew ?_ | refine blk_alloc ?_ _)); exact BK192.out) hb); have n3_ := Aside0.mk (blk_below (g := gb196) (o := .cells #[.int .u32 t193, .int .i64 t194] 30 (0, 0)) (by (with_reducible repeat (first | refine blk_drewN ?_ _ | refine blk_drew ?_ | refine blk_alloc ?_ _)); refine blk_far ?_ NB196_210.out _; (with_reducible repeat (first | refine blk_drewN ?_ _ | refine blk_drew ?_ | refine blk_alloc ?_ _)); refine blk_far ?_ NB196_210.out _; (with_reducible repeat (first | refine blk_drewN ?_ _ | refine blk_drew ?_ | refine blk_alloc ?_ _)); refine blk_far ?_ NB196_209.out _; (with_reducible repeat (first | refine blk_drewN ?_ _ | refine blk_drew ?_ | refine blk_alloc ?_ _)); refine blk_far ?_ NB196_209.out _; (with_reducible repeat (first | refine blk_drewN ?_ _ | refine blk_drew ?_ | refine blk_alloc ?_ _)); exact BK196.out) hb); have n4_ := Aside0.mk (blk_below (g := gb209) (o := .cells #[.int .u32 t204, .int .i64 t205] 30 (0, 0)) (by (with_reducible repeat (first | refine blk_drewN ?_ _ | refine blk_drew ?_ | refine blk_alloc ?_ _)); refine blk_far ?_ NB209_210.out _; (with_reducible repeat (first | refine blk_drewN ?_ _ | refine blk_drew ?_ | refine blk_alloc ?_ _)); refine blk_far ?_ NB209_210.out _; (with_reducible repeat (first | refine blk_drewN ?_ _ | refine blk_drew ?_ | refine blk_alloc ?_ _)); refine blk_put (cs := #[.int .u32 t204, .int .i64 0]) ?_ 1 _ rfl; (with_reducible repeat (first | refine blk_drewN ?_ _ | refine blk_drew ?_ | refine blk_alloc ?_ _)); refine blk_put (cs := #[.int .u32 0, .int .i64 0]) ?_ 0 _ rfl; (with_reducible repeat (first | refine blk_drewN ?_ _ | refine blk_drew ?_ | refine blk_alloc ?_ _)); exact BK209.out) hb); have n5_ := Aside0.mk (blk_below (g := gb210) (o := .cells #[.int .u32 t206, .int .i64 t207] 30 (0, 0)) (by (with_reducible repeat (first | refine blk_drewN ?_ _ | refine blk_drew ?_ | refine blk_alloc ?_ _)); refine blk_put (cs := #[.int .u32 t206, .int .i64 0]) ?_ 1 _ rfl; (with_reducible repeat (first | refine blk_drewN ?_ _ | refine blk_drew ?_ | refine blk_alloc ?_ _)); refine blk_put (cs := #[.int .u32 0, .int .i64 0]) ?_ 0 _ rfl; (with_reducible repeat (first | refine blk_drewN ?_ _ | refine blk_drew ?_ | refine blk_alloc ?_ _)); refine blk_far ?_ NB210_209.out _; (with_reducible repeat (first | refine blk_drewN ?_ _ | refine blk_drew ?_ | refine blk_alloc ?_ _)); refine blk_far ?_ NB210_209.out _; (with_reducible repeat (first | refine blk_drewN ?_ _ | refine blk_drew ?_ | refine blk_alloc ?_ _)); exact BK210.out) hb); have n6_ := Aside0.mk (below_step (by repeat (first | (with_reducible first | exact HB.out | apply below_alloc | apply pw_below_drewN | apply below_drew1 | refine below_set ?_ GE179.out | refine below_set ?_ GE180.out | refine below_set ?_ GE192.out | refine below_set ?_ GE196.out | refine below_set ?_ GE209.out | refine below_set ?_ GE210.out) | exact HB.out)) hb); clear BK179; clear BK180; clear BK192; clear BK196; clear BK209; clear BK210; clear HB; have BK179 := n0_; have BK180 := n1_; have BK192 := n2_; have BK196 := n3_; have BK209 := n4_; have BK210 := n5_; have HB := n6_; clear n0_ n1_ n2_ n3_ n4_ n5_ n6_; (try clear hb); (try clear hb2); (try clear hk); (try clear hi)) | ((with_reducible refine gate_dst (N := 27) rfl ?_); refine box_event ?hg (N := 27) ?hd (cs := #[.int .u32 0, .int .i64 0]) (t := 30) ?hr ?_; (case hd => rfl); (case hg => rfl); (case hr => first | (go_simp; done) | (go_simp; rfl)); intro gb216 hg w71 hbox hb; have n0_ := Aside0.mk (blk_below (g := gb179) (o := .cells #[.int .u32 a1_0, .int .i64 a1_1] 30 (0, 0)) (by (with_reducible repeat (first | refine blk_drewN ?_ _ | refine blk_drew ?_ | refine blk_alloc ?_ _)); exact BK179.out) hb); have n1_ := Aside0.mk (blk_below (g := gb180) (o := .cells #[.int .u32 a2_0, .int .i64 a2_1] 30 (0, 0)) (by (with_reducible repeat (first | refine blk_drewN ?_ _ | refine blk_drew ?_ | refine blk_alloc ?_ _)); exact BK180.out) hb); have n2_ := Aside0.mk (blk_below (g := gb192) (o := .cells #[.int .u32 t189, .int .i64 t190] 30 (0, 0)) (by (with_reducible repeat (first | refine blk_drewN ?_ _ | refine blk_drew ?_ | refine blk_alloc ?_ _)); exact BK192.out) hb); have n3_ := Aside0.mk (blk_below (g := gb196) (o := .cells #[.int .u32 t193, .int .i64 t194] 30 (0, 0)) (by (with_reducible repeat (first | refine blk_drewN ?_ _ | refine blk_drew ?_ | refine blk_alloc ?_ _)); exact BK196.out) hb); have n4_ := Aside0.mk (blk_below (g := gb209) (o := .cells #[.int .u32 t204, .int .i64 t205] 30 (0, 0)) (by (with_reducible repeat (first | refine blk_drewN ?_ _ | refine blk_drew ?_ | refine blk_alloc ?_ _)); exact BK209.out) hb); have n5_ := Aside0.mk (blk_below (g := gb210) (o := .cells #[.int .u32 t206, .int .i64 t207] 30 (0, 0)) (by (with_reducible repeat (first | refine blk_drewN ?_ _ | refine blk_drew ?_ | refine blk_alloc ?_ _)); exact BK210.out) hb); have n6_ := Aside0.mk (below_step (by repeat (first | (with_reducible first | exact HB.out | apply below_alloc | apply pw_below_drewN | apply below_drew1 | refine below_set ?_ GE179.out | refine below_set ?_ GE180.out | refine below_set ?_ GE192.out | refine below_set ?_ GE196.out | refine below_set ?_ GE209.out | refine below_set ?_ GE210.out) | exact HB.out)) hb); have n7_ := Aside0.mk (hbox); have n8_ := Aside0.mk ((by rw [hg]; exact (below_size (by repeat (first | (with_reducible first | exact HB.out | apply below_alloc | apply pw_below_drewN | apply below_drew1 | refine below_set ?_ GE179.out | refine below_set ?_ GE180.out | refine below_set ?_ GE192.out | refine below_set ?_ GE196.out | refine below_set ?_ GE209.out | refine below_set ?_ GE210.out) | exact HB.out))) : w.heap.size ≤ gb216)); have n9_ := Aside0.mk ((by rw [hg]; exact (below_size (by repeat (first | (with_reducible first | exact HB.out | apply below_alloc | apply pw_below_drewN | apply below_drew1 | refine below_set ?_ GE179.out | refine below_set ?_ GE180.out | refine below_set ?_ GE192.out | refine below_set ?_ GE196.out | refine below_set ?_ GE209.out | refine below_set ?_ GE210.out) | exact HB.out))) : w.heap.size ≤ gb216)); have n10_ := Aside0.mk ((by rw [hg]; exact Nat.ne_of_lt (blk_lt (g := gb179) (o := .cells #[.int .u32 a1_0, .int .i64 a1_1] 30 (0, 0)) (by (with_reducible repeat (first | refine blk_drewN ?_ _ | refine blk_drew ?_ | refine blk_alloc ?_ _)); exact BK179.out)) : gb179 ≠ gb216)); have n11_ := Aside0.mk ((by rw [hg]; exact Nat.ne_of_gt (blk_lt (g := gb179) (o := .cells #[.int .u32 a1_0, .int .i64 a1_1] 30 (0, 0)) (by (with_reducible repeat (first | refine blk_drewN ?_ _ | refine blk_drew ?_ | refine blk_alloc ?_ _)); exact BK179.out)) : gb216 ≠ gb179)); have n12_ := Aside0.mk ((by rw [hg]; exact Nat.ne_of_lt (blk_lt (g := gb180) (o := .cells #[.int .u32 a2_0, .int .i64 a2_1] 30 (0, 0)) (by (with_reducible repeat (first | refine blk_drewN ?_ _ | refine blk_drew ?_ | refine blk_alloc ?_ _)); exact BK180.out)) : gb180 ≠ gb216)); have n13_ := Aside0.mk ((by rw [hg]; exact Nat.ne_of_gt (blk_lt (g := gb180) (o := .cells #[.int .u32 a2_0, .int .i64 a2_1] 30 (0, 0)) (by (with_reducible repeat (first | refine blk_drewN ?_ _ | refine blk_drew ?_ | refine blk_alloc ?_ _)); exact BK180.out)) : gb216 ≠ gb180)); have n14_ := Aside0.mk ((by rw [hg]; exact Nat.ne_of_lt (blk_lt (g := gb192) (o := .cells #[.int .u32 t189, .int .i64 t190] 30 (0, 0)) (by (with_reducible repeat (first | refine blk_drewN ?_ _ | refine blk_drew ?_ | refine blk_alloc ?_ _)); exact BK192.out)) : gb192 ≠ gb216)); have n15_ := Aside0.mk ((by rw [hg]; exact Nat.ne_of_gt (blk_lt (g := gb192) (o := .cells #[.int .u32 t189, .int .i64 t190] 30 (0, 0)) (by (with_reducible repeat (first | refine blk_drewN ?_ _ | refine blk_drew ?_ | refine blk_alloc ?_ _)); exact BK192.out)) : gb216 ≠ gb192)); have n16_ := Aside0.mk ((by rw [hg]; exact Nat.ne_of_lt (blk_lt (g := gb196) (o := .cells #[.int .u32 t193, .int .i64 t194] 30 (0, 0)) (by (with_reducible repeat (first | refine blk_drewN ?_ _ | refine blk_drew ?_ | refine blk_alloc ?_ _)); exact BK196.out)) : gb196 ≠ gb216)); have n17_ := Aside0.mk ((by rw [hg]; exact Nat.ne_of_gt (blk_lt (g := gb196) (o := .cells #[.int .u32 t193, .int .i64 t194] 30 (0, 0)) (by (with_reducible repeat (first | refine blk_drewN ?_ _ | refine blk_drew ?_ | refine blk_alloc ?_ _)); exact BK196.out)) : gb216 ≠ gb196)); have n18_ := Aside0.mk ((by rw [hg]; exact Nat.ne_of_lt (blk_lt (g := gb209) (o := .cells #[.int .u32 t204, .int .i64 t205] 30 (0, 0)) (by (with_reducible repeat (first | refine blk_drewN ?_ _ | refine blk_drew ?_ | refine blk_alloc ?_ _)); exact BK209.out)) : gb209 ≠ gb216)); have n19_ := Aside0.mk ((by rw [hg]; exact Nat.ne_of_gt (blk_lt (g := gb209) (o := .cells #[.int .u32 t204, .int .i64 t205] 30 (0, 0)) (by (with_reducible repeat (first | refine blk_drewN ?_ _ | refine blk_drew ?_ | refine blk_alloc ?_ _)); exact BK209.out)) : gb216 ≠ gb209)); have n20_ := Aside0.mk ((by rw [hg]; exact Nat.ne_of_lt (blk_lt (g := gb210) (o := .cells #[.int .u32 t206, .int .i64 t207] 30 (0, 0)) (by (with_reducible repeat (first | refine blk_drewN ?_ _ | refine blk_drew ?_ | refine blk_alloc ?_ _)); exact BK210.out)) : gb210 ≠ gb216)); have n21_ := Aside0.mk ((by rw [hg]; exact Nat.ne_of_gt (blk_lt (g := gb210) (o := .cells #[.int .u32 t206, .int .i64 t207] 30 (0, 0)) (by (with_reducible repeat (first | refine blk_drewN ?_ _ | refine blk_drew ?_ | refine blk_alloc ?_ _)); exact BK210.out)) : gb216 ≠ gb210)); clear BK179; clear BK180; clear BK192; clear BK196; clear BK209; clear BK210; clear HB; have BK179 := n0_; have BK180 := n1_; have BK192 := n2_; have BK196 := n3_; have BK209 := n4_; have BK210 := n5_; have HB := n6_; have BK216 := n7_; have GW216 := n8_; have GE216 := n9_; have NB179_216 := n10_; have NB216_179 := n11_; have NB180_216 := n12_; have NB216_180 := n13_; have NB192_216 := n14_; have NB216_192 := n15_; have NB196_216 := n16_; have NB216_196 := n17_; have NB209_216 := n18_; have NB216_209 := n19_; have NB210_216 := n20_; have NB216_210 := n21_; clear n0_ n1_ n2_ n3_ n4_ n5_ n6_ n7_ n8_ n9_ n10_ n11_ n12_ n13_ n14_ n15_ n16_ n17_ n18_ n19_ n20_ n21_; clear hb hbox hg) | ((with_reducible refine gate_dst (N := 28) rfl ?_); refine box_event ?hg (N := 28) ?hd (cs := #[.int .u32 0, .int .i64 0]) (t := 30) ?hr ?_; (case hd => rfl); (case hg => rfl); (case hr => first | (go_simp; done) | (go_simp; rfl)); intro gb217 hg w72 hbox hb; have n0_ := Aside0.mk (blk_below (g := gb179) (o := .cells #[.int .u32 a1_0, .int .i64 a1_1] 30 (0, 0)) (by (with_reducible repeat (first | refine blk_drewN ?_ _ | refine blk_drew ?_ | refine blk_alloc ?_ _)); exact BK179.out) hb); have n1_ := Aside0.mk (blk_below (g := gb180) (o := .cells #[.int .u32 a2_0, .int .i64 a2_1] 30 (0, 0)) (by (with_reducible repeat (first | refine blk_drewN ?_ _ | refine blk_drew ?_ | refine blk_alloc ?_ _)); exact BK180.out) hb); have n2_ := Aside0.mk (blk_below (g := gb192) (o := .cells #[.int .u32 t189, .int .i64 t190] 30 (0, 0)) (by (with_reducible repeat (first | refine blk_drewN ?_ _ | refine blk_drew ?_ | refine blk_alloc ?_ _)); exact BK192.out) hb); have n3_ := Aside0.mk (blk_below (g := gb196) (o := .cells #[.int .u32 t193, .int .i64 t194] 30 (0, 0)) (by (with_reducible repeat (first | refine blk_drewN ?_ _ | refine blk_drew ?_ | refine blk_alloc ?_ _)); exact BK196.out) hb); have n4_ := Aside0.mk (blk_below (g := gb209) (o := .cells #[.int .u32 t204, .int .i64 t205] 30 (0, 0)) (by (with_reducible repeat (first | refine blk_drewN ?_ _ | refine blk_drew ?_ | refine blk_alloc ?_ _)); exact BK209.out) hb); have n5_ := Aside0.mk (blk_below (g := gb210) (o := .cells #[.int .u32 t206, .int .i64 t207] 30 (0, 0)) (by (with_reducible repeat (first | refine blk_drewN ?_ _ | refine blk_drew ?_ | refine blk_alloc ?_ _)); exact BK210.out) hb); have n6_ := Aside0.mk (blk_below (g := gb216) (o := .cells #[.int .u32 0, .int .i64 0] 30 (0, 0)) (by (with_reducible repeat (first | refine blk_drewN ?_ _ | refine blk_drew ?_ | refine blk_alloc ?_ _)); exact BK216.out) hb); have n7_ := Aside0.mk (below_step (by repeat (first | (with_reducible first | exact HB.out | apply below_alloc | apply pw_below_drewN | apply below_drew1 | refine below_set ?_ GE179.out | refine below_set ?_ GE180.out | refine below_set ?_ GE192.out | refine below_set ?_ GE196.out | refine below_set ?_ GE209.out | refine below_set ?_ GE210.out | refine below_set ?_ GE216.out) | exact HB.out)) hb); have n8_ := Aside0.mk (hbox); have n9_ := Aside0.mk ((by rw [hg]; exact (below_size (by repeat (first | (with_reducible first | exact HB.out | apply below_alloc | apply pw_below_drewN | apply below_drew1 | refine below_set ?_ GE179.out | refine below_set ?_ GE180.out | refine below_set ?_ GE192.out | refine below_set ?_ GE196.out | refine below_set ?_ GE209.out | refine below_set ?_ GE210.out | refine below_set ?_ GE216.out) | exact HB.out))) : w.heap.size ≤ gb217)); have n10_ := Aside0.mk ((by rw [hg]; exact (below_size (by repeat (first | (with_reducible first | exact HB.out | apply below_alloc | apply pw_below_drewN | apply below_drew1 | refine below_set ?_ GE179.out | refine below_set ?_ GE180.out | refine below_set ?_ GE192.out | refine below_set ?_ GE196.out | refine below_set ?_ GE209.out | refine below_set ?_ GE210.out | refine below_set ?_ GE216.out) | exact HB.out))) : w.heap.size ≤ gb217)); have n11_ := Aside0.mk ((by rw [hg]; exact Nat.ne_of_lt (blk_lt (g := gb179) (o := .cells #[.int .u32 a1_0, .int .i64 a1_1] 30 (0, 0)) (by (with_reducible repeat (first | refine blk_drewN ?_ _ | refine blk_drew ?_ | refine blk_alloc ?_ _)); exact BK179.out)) : gb179 ≠ gb217)); have n12_ := Aside0.mk ((by rw [hg]; exact Nat.ne_of_gt (blk_lt (g := gb179) (o := .cells #[.int .u32 a1_0, .int .i64 a1_1] 30 (0, 0)) (by (with_reducible repeat (first | refine blk_drewN ?_ _ | refine blk_drew ?_ | refine blk_alloc ?_ _)); exact BK179.out)) : gb217 ≠ gb179)); have n13_ := Aside0.mk ((by rw [hg]; exact Nat.ne_of_lt (blk_lt (g := gb180) (o := .cells #[.int .u32 a2_0, .int .i64 a2_1] 30 (0, 0)) (by (with_reducible repeat (first | refine blk_drewN ?_ _ | refine blk_drew ?_ | refine blk_alloc ?_ _)); exact BK180.out)) : gb180 ≠ gb217)); have n14_ := Aside0.mk ((by rw [hg]; exact Nat.ne_of_gt (blk_lt (g := gb180) (o := .cells #[.int .u32 a2_0, .int .i64 a2_1] 30 (0, 0)) (by (with_reducible repeat (first | refine blk_drewN ?_ _ | refine blk_drew ?_ | refine blk_alloc ?_ _)); exact BK180.out)) : gb217 ≠ gb180)); have n15_ := Aside0.mk ((by rw [hg]; exact Nat.ne_of_lt (blk_lt (g := gb192) (o := .cells #[.int .u32 t189, .int .i64 t190] 30 (0, 0)) (by (with_reducible repeat (first | refine blk_drewN ?_ _ | refine blk_drew ?_ | refine blk_alloc ?_ _)); exact BK192.out)) : gb192 ≠ gb217)); have n16_ := Aside0.mk ((by rw [hg]; exact Nat.ne_of_gt (blk_lt (g := gb192) (o := .cells #[.int .u32 t189, .int .i64 t190] 30 (0, 0)) (by (with_reducible repeat (first | refine blk_drewN ?_ _ | refine blk_drew ?_ | refine blk_alloc ?_ _)); exact BK192.out)) : gb217 ≠ gb192)); have n17_ := Aside0.mk ((by rw [hg]; exact Nat.ne_of_lt (blk_lt (g := gb196) (o := .cells #[.int .u32 t193, .int .i64 t194] 30 (0, 0)) (by (with_reducible repeat (first | refine blk_drewN ?_ _ | refine blk_drew ?_ | refine blk_alloc ?_ _)); exact BK196.out)) : gb196 ≠ gb217)); have n18_ := Aside0.mk ((by rw [hg]; exact Nat.ne_of_gt (blk_lt (g := gb196) (o := .cells #[.int .u32 t193, .int .i64 t194] 30 (0, 0)) (by (with_reducible repeat (first | refine blk_drewN ?_ _ | refine blk_drew ?_ | refine blk_alloc ?_ _)); exact BK196.out)) : gb217 ≠ gb196)); have n19_ := Aside0.mk ((by rw [hg]; exact Nat.ne_of_lt (blk_lt (g := gb209) (o := .cells #[.int .u32 t204, .int .i64 t205] 30 (0, 0)) (by (with_reducible repeat (first | refine blk_drewN ?_ _ | refine blk_drew ?_ | refine blk_alloc ?_ _)); exact BK209.out)) : gb209 ≠ gb217)); have n20_ := Aside0.mk ((by rw [hg]; exact Nat.ne_of_gt (blk_lt (g := gb209) (o := .cells #[.int .u32 t204, .int .i64 t205] 30 (0, 0)) (by (with_reducible repeat (first | refine blk_drewN ?_ _ | refine blk_drew ?_ | refine blk_alloc ?_ _)); exact BK209.out)) : gb217 ≠ gb209)); have n21_ := Aside0.mk ((by rw [hg]; exact Nat.ne_of_lt (blk_lt (g := gb210) (o := .cells #[.int .u32 t206, .int .i64 t207] 30 (0, 0)) (by (with_reducible repeat (first | refine blk_drewN ?_ _ | refine blk_drew ?_ | refine blk_alloc ?_ _)); exact BK210.out)) : gb210 ≠ gb217)); have n22_ := Aside0.mk ((by rw [hg]; exact Nat.ne_of_gt (blk_lt (g := gb210) (o := .cells #[.int .u32 t206, .int .i64 t207] 30 (0, 0)) (by (with_reducible repeat (first | refine blk_drewN ?_ _ | refine blk_drew ?_ | refine blk_alloc ?_ _)); exact BK210.out)) : gb217 ≠ gb210)); have n23_ := Aside0.mk ((by rw [hg]; exact Nat.ne_of_lt (blk_lt (g := gb216) (o := .cells #[.int .u32 0, .int .i64 0] 30 (0, 0)) (by (with_reducible repeat (first | refine blk_drewN ?_ _ | refine blk_drew ?_ | refine blk_alloc ?_ _)); exact BK216.out)) : gb216 ≠ gb217)); have n24_ := Aside0.mk ((by rw [hg]; exact Nat.ne_of_gt (blk_lt (g := gb216) (o := .cells #[.int .u32 0, .int .i64 0] 30 (0, 0)) (by (with_reducible repeat (first | refine blk_drewN ?_ _ | refine blk_drew ?_ | refine blk_alloc ?_ _)); exact BK216.out)) : gb217 ≠ gb216)); clear BK179; clear BK180; clear BK192; clear BK196; clear BK209; clear BK210; clear BK216; clear HB; have BK179 := n0_; have BK180 := n1_; have BK192 := n2_; have BK196 := n3_; have BK209 := n4_; have BK210 := n5_; have BK216 := n6_; have HB := n7_; have BK217 := n8_; have GW217 := n9_; have GE217 := n10_; have NB179_217 := n11_; have NB217_179 := n12_; have NB180_217 := n13_; have NB217_180 := n14_; have NB192_217 := n15_; have NB217_192 := n16_; have NB196_217 := n17_; have NB217_196 := n18_; have NB209_217 := n19_; have NB217_209 := n20_; have NB210_217 := n21_; have NB217_210 := n22_; have NB216_217 := n23_; have NB217_216 := n24_; clear n0_ n1_ n2_ n3_ n4_ n5_ n6_ n7_ n8_ n9_ n10_ n11_ n12_ n13_ n14_ n15_ n16_ n17_ n18_ n19_ n20_ n21_ n22_ n23_ n24_; clear hb hbox hg; have hnb73 := NB216_179.out; have hnc73 := NB179_216.out; have hnb74 := NB216_180.out; have hnc74 := NB180_216.out; have hnb75 := NB216_192.out; have hnc75 := NB192_216.out; have hnb76 := NB216_196.out; have hnc76 := NB196_216.out; have hnb77 := NB216_209.out; have hnc77 := NB209_216.out; have hnb78 := NB216_210.out; have hnc78 := NB210_216.out; have hnb79 := NB216_217.out; have hnc79 := NB217_216.out; have hcz80_0 : w72.cell? ⟨gb216, 0, none⟩ = some (.int .u32 0) := (blk_cell BK216.out 0).trans rfl; have hcz80_1 : w72.cell? ⟨gb216, 1, none⟩ = some (.int .i64 0) := (blk_cell BK216.out 1).trans rfl; have hfz80_0 := blk_frozen BK216.out 0; have hfz80_1 := blk_frozen BK216.out 1; have hnb81 := NB217_179.out; have hnc81 := NB179_217.out; have hnb82 := NB217_180.out; have hnc82 := NB180_217.out; have hnb83 := NB217_192.out; have hnc83 := NB192_217.out; have hnb84 := NB217_196.out; have hnc84 := NB196_217.out; have hnb85 := NB217_209.out; have hnc85 := NB209_217.out; have hnb86 := NB217_210.out; have hnc86 := NB210_217.out; have hcz87_0 : w72.cell? ⟨gb217, 0, none⟩ = some (.int .u32 0) := (blk_cell BK217.out 0).trans rfl; have hcz87_1 : w72.cell? ⟨gb217, 1, none⟩ = some (.int .i64 0) := (blk_cell BK217.out 1).trans rfl; have hfz87_0 := blk_frozen BK217.out 0; have hfz87_1 := blk_frozen BK217.out 1; have hcz88_0 : w72.cell? ⟨gb179, 0, none⟩ = some (.int .u32 a1_0) := (blk_cell BK179.out 0).trans rfl; have hcz88_1 : w72.cell? ⟨gb179, 1, none⟩ = some (.int .i64 a1_1) := (blk_cell BK179.out 1).trans rfl; have hfz88_0 := blk_frozen BK179.out 0; have hfz88_1 := blk_frozen BK179.out 1; have hnb89 := NB180_192.out; have hnc89 := NB192_180.out; have hnb90 := NB180_196.out; have hnc90 := NB196_180.out; have hcz91_0 : w72.cell? ⟨gb180, 0, none⟩ = some (.int .u32 a2_0) := (blk_cell BK180.out 0).trans rfl; have hcz91_1 : w72.cell? ⟨gb180, 1, none⟩ = some (.int .i64 a2_1) := (blk_cell BK180.out 1).trans rfl; have hfz91_0 := blk_frozen BK180.out 0; have hfz91_1 := blk_frozen BK180.out 1) | ((with_reducible refine gate_callee (f := 22) rfl ?_); refine goesL_ (some 119) rfl rfl Try.func22 (by kernel_rfl) rfl #[.agg #[.int .u32 a1_0, .int .i64 a1_1], .agg #[.int .u32 a2_0, .int .i64 a2_1]] rfl (by (try simp only [List.map_toArray, List.map_cons, List.map_nil]); first | done | rfl | (simp only [List.length_drop, List.length_take]; rfl)) ?_; (with_reducible refine (addr_Common.calls kj10 a1_0 a1_1 a2_0 a2_1 t218 t219 t220 _ A44.out).mono ?_); rintro e w92 ⟨rfl, hb⟩; refine ⟨_, rfl, ?_⟩; have n0_ := Aside0.mk (blk_below (g := gb179) (o := .cells #[.int .u32 a1_0, .int .i64 a1_1] 30 (0, 0)) (by (with_reducible repeat (first | refine blk_drewN ?_ _ | refine blk_drew ?_ | refine blk_alloc ?_ _)); refine blk_far ?_ NB179_217.out _; (with_reducible repeat (first | refine blk_drewN ?_ _ | refine blk_drew ?_ | refine blk_alloc ?_ _)); refine blk_far ?_ NB179_217.out _; (with_reducible repeat (first | refine blk_drewN ?_ _ | refine blk_drew ?_ | refine blk_alloc ?_ _)); refine blk_far ?_ NB179_216.out _; (with_reducible repeat (first | refine blk_drewN ?_ _ | refine blk_drew ?_ | refine blk_alloc ?_ _)); refine blk_far ?_ NB179_216.out _; (with_reducible repeat (first | refine blk_drewN ?_ _ | refine blk_drew ?_ | refine blk_alloc ?_ _)); exact BK179.out) hb); have n1_ := Aside0.mk (blk_below (g := gb180) (o := .cells #[.int .u32 a2_0, .int .i64 a2_1] 30 (0, 0)) (by (with_reducible repeat (first | refine blk_drewN ?_ _ | refine blk_drew ?_ | refine blk_alloc ?_ _)); refine blk_far ?_ NB180_217.out _; (with_reducible repeat (first | refine blk_drewN ?_ _ | refine blk_drew ?_ | refine blk_alloc ?_ _)); refine blk_far ?_ NB180_217.out _; (with_reducible repeat (first | refine blk_drewN ?_ _ | refine blk_drew ?_ | refine blk_alloc ?_ _)); refine blk_far ?_ NB180_216.out _; (with_reducible repeat (first | refine blk_drewN ?_ _ | refine blk_drew ?_ | refine blk_alloc ?_ _)); refine blk_far ?_ NB180_216.out _; (with_reducible repeat (first | refine blk_drewN ?_ _ | refine blk_drew ?_ | refine blk_alloc ?_ _)); exact BK180.out) hb); have n2_ := Aside0.mk (blk_below (g := gb192) (o := .cells #[.int .u32 t189, .int .i64 t190] 30 (0, 0)) (by (with_reducible repeat (first | refine blk_drewN ?_ _ | refine blk_drew ?_ | refine blk_alloc ?_ _)); refine blk_far ?_ NB192_217.out _; (with_reducible repeat (first | refine blk_drewN ?_ _ | refine blk_drew ?_ | refine blk_alloc ?_ _)); refine blk_far ?_ NB192_217.out _; (with_reducible repeat (first | refine blk_drewN ?_ _ | refine blk_drew ?_ | refine blk_alloc ?_ _)); refine blk_far ?_ NB192_216.out _; (with_reducible repeat (first | refine blk_drewN ?_ _ | refine blk_drew ?_ | refine blk_alloc ?_ _)); refine blk_far ?_ NB192_216.out _; (with_reducible repeat (first | refine blk_drewN ?_ _ | refine blk_drew ?_ | refine blk_alloc ?_ _)); exact BK192.out) hb); have n3_ := Aside0.mk (blk_below (g := gb196) (o := .cells #[.int .u32 t193, .int .i64 t194] 30 (0, 0)) (by (with_reducible repeat (first | refine blk_drewN ?_ _ | refine blk_drew ?_ | refine blk_alloc ?_ _)); refine blk_far ?_ NB196_217.out _; (with_reducible repeat (first | refine blk_drewN ?_ _ | refine blk_drew ?_ | refine blk_alloc ?_ _)); refine blk_far ?_ NB196_217.out _; (with_reducible repeat (first | refine blk_drewN ?_ _ | refine blk_drew ?_ | refine blk_alloc ?_ _)); refine blk_far ?_ NB196_216.out _; (with_reducible repeat (first | refine blk_drewN ?_ _ | refine blk_drew ?_ | refine blk_alloc ?_ _)); refine blk_far ?_ NB196_216.out _; (with_reducible repeat (first | refine blk_drewN ?_ _ | refine blk_drew ?_ | refine blk_alloc ?_ _)); exact BK196.out) hb); have n4_ := Aside0.mk (blk_below (g := gb209) (o := .cells #[.int .u32 t204, .int .i64 t205] 30 (0, 0)) (by (with_reducible repeat (first | refine blk_drewN ?_ _ | refine blk_drew ?_ | refine blk_alloc ?_ _)); refine blk_far ?_ NB209_217.out _; (with_reducible repeat (first | refine blk_drewN ?_ _ | refine blk_drew ?_ | refine blk_alloc ?_ _)); refine blk_far ?_ NB209_217.out _; (with_reducible repeat (first | refine blk_drewN ?_ _ | refine blk_drew ?_ | refine blk_alloc ?_ _)); refine blk_far ?_ NB209_216.out _; (with_reducible repeat (first | refine blk_drewN ?_ _ | refine blk_drew ?_ | refine blk_alloc ?_ _)); refine blk_far ?_ NB209_216.out _; (with_reducible repeat (first | refine blk_drewN ?_ _ | refine blk_drew ?_ | refine blk_alloc ?_ _)); exact BK209.out) hb); have n5_ := Aside0.mk (blk_below (g := gb210) (o := .cells #[.int .u32 t206, .int .i64 t207] 30 (0, 0)) (by (with_reducible repeat (first | refine blk_drewN ?_ _ | refine blk_drew ?_ | refine blk_alloc ?_ _)); refine blk_far ?_ NB210_217.out _; (with_reducible repeat (first | refine blk_drewN ?_ _ | refine blk_drew ?_ | refine blk_alloc ?_ _)); refine blk_far ?_ NB210_217.out _; (with_reducible repeat (first | refine blk_drewN ?_ _ | refine blk_drew ?_ | refine blk_alloc ?_ _)); refine blk_far ?_ NB210_216.out _; (with_reducible repeat (first | refine blk_drewN ?_ _ | refine blk_drew ?_ | refine blk_alloc ?_ _)); refine blk_far ?_ NB210_216.out _; (with_reducible repeat (first | refine blk_drewN ?_ _ | refine blk_drew ?_ | refine blk_alloc ?_ _)); exact BK210.out) hb); have n6_ := Aside0.mk (blk_below (g := gb216) (o := .cells #[.int .u32 t211, .int .i64 t212] 30 (0, 0)) (by (with_reducible repeat (first | refine blk_drewN ?_ _ | refine blk_drew ?_ | refine blk_alloc ?_ _)); refine blk_far ?_ NB216_217.out _; (with_reducible repeat (first | refine blk_drewN ?_ _ | refine blk_drew ?_ | refine blk_alloc ?_ _)); refine blk_far ?_ NB216_217.out _; (with_reducible repeat (first | refine blk_drewN ?_ _ | refine blk_drew ?_ | refine blk_alloc ?_ _)); refine blk_put (cs := #[.int .u32 t211, .int .i64 0]) ?_ 1 _ rfl; (with_reducible repeat (first | refine blk_drewN ?_ _ | refine blk_drew ?_ | refine blk_alloc ?_ _)); refine blk_put (cs := #[.int .u32 0, .int .i64 0]) ?_ 0 _ rfl; (with_reducible repeat (first | refine blk_drewN ?_ _ | refine blk_drew ?_ | refine blk_alloc ?_ _)); exact BK216.out) hb); have n7_ := Aside0.mk (blk_below (g := gb217) (o := .cells #[.int .u32 t213, .int .i64 t214] 30 (0, 0)) (by (with_reducible repeat (first | refine blk_drewN ?_ _ | refine blk_drew ?_ | refine blk_alloc ?_ _)); refine blk_put (cs := #[.int .u32 t213, .int .i64 0]) ?_ 1 _ rfl; (with_reducible repeat (first | refine blk_drewN ?_ _ | refine blk_drew ?_ | refine blk_alloc ?_ _)); refine blk_put (cs := #[.int .u32 0, .int .i64 0]) ?_ 0 _ rfl; (with_reducible repeat (first | refine blk_drewN ?_ _ | refine blk_drew ?_ | refine blk_alloc ?_ _)); refine blk_far ?_ NB217_216.out _; (with_reducible repeat (first | refine blk_drewN ?_ _ | refine blk_drew ?_ | refine blk_alloc ?_ _)); refine blk_far ?_ NB217_216.out _; (with_reducible repeat (first | refine blk_drewN ?_ _ | refine blk_drew ?_ | refine blk_alloc ?_ _)); exact BK217.out) hb); have n8_ := Aside0.mk (below_step (by repeat (first | (with_reducible first | exact HB.out | apply below_alloc | apply pw_below_drewN | apply below_drew1 | refine below_set ?_ GE179.out | refine below_set ?_ GE180.out | refine below_set ?_ GE192.out | refine below_set ?_ GE196.out | refine below_set ?_ GE209.out | refine below_set ?_ GE210.out | refine below_set ?_ GE216.out | refine below_set ?_ GE217.out) | exact HB.out)) hb); clear BK179; clear BK180; clear BK192; clear BK196; clear BK209; clear BK210; clear BK216; clear BK217; clear HB; have BK179 := n0_; have BK180 := n1_; have BK192 := n2_; have BK196 := n3_; have BK209 := n4_; have BK210 := n5_; have BK216 := n6_; have BK217 := n7_; have HB := n8_; clear n0_ n1_ n2_ n3_ n4_ n5_ n6_ n7_ n8_; (try clear hb); (try clear hb2); (try clear hk); (try clear hi)) | ((with_reducible refine gate_dst (N := 29) rfl ?_); refine box_event ?hg (N := 29) ?hd (cs := #[.int .u32 0, .int .i64 0]) (t := 30) ?hr ?_; (case hd => rfl); (case hg => rfl); (case hr => first | (go_simp; done) | (go_simp; rfl)); intro gb221 hg w93 hbox hb; have n0_ := Aside0.mk (blk_below (g := gb179) (o := .cells #[.int .u32 a1_0, .int .i64 a1_1] 30 (0, 0)) (by (with_reducible repeat (first | refine blk_drewN ?_ _ | refine blk_drew ?_ | refine blk_alloc ?_ _)); exact BK179.out) hb); have n1_ := Aside0.mk (blk_below (g := gb180) (o := .cells #[.int .u32 a2_0, .int .i64 a2_1] 30 (0, 0)) (by (with_reducible repeat (first | refine blk_drewN ?_ _ | refine blk_drew ?_ | refine blk_alloc ?_ _)); exact BK180.out) hb); have n2_ := Aside0.mk (blk_below (g := gb192) (o := .cells #[.int .u32 t189, .int .i64 t190] 30 (0, 0)) (by (with_reducible repeat (first | refine blk_drewN ?_ _ | refine blk_drew ?_ | refine blk_alloc ?_ _)); exact BK192.out) hb); have n3_ := Aside0.mk (blk_below (g := gb196) (o := .cells #[.int .u32 t193, .int .i64 t194] 30 (0, 0)) (by (with_reducible repeat (first | refine blk_drewN ?_ _ | refine blk_drew ?_ | refine blk_alloc ?_ _)); exact BK196.out) hb); have n4_ := Aside0.mk (blk_below (g := gb209) (o := .cells #[.int .u32 t204, .int .i64 t205] 30 (0, 0)) (by (with_reducible repeat (first | refine blk_drewN ?_ _ | refine blk_drew ?_ | refine blk_alloc ?_ _)); exact BK209.out) hb); have n5_ := Aside0.mk (blk_below (g := gb210) (o := .cells #[.int .u32 t206, .int .i64 t207] 30 (0, 0)) (by (with_reducible repeat (first | refine blk_drewN ?_ _ | refine blk_drew ?_ | refine blk_alloc ?_ _)); exact BK210.out) hb); have n6_ := Aside0.mk (blk_below (g := gb216) (o := .cells #[.int .u32 t211, .int .i64 t212] 30 (0, 0)) (by (with_reducible repeat (first | refine blk_drewN ?_ _ | refine blk_drew ?_ | refine blk_alloc ?_ _)); exact BK216.out) hb); have n7_ := Aside0.mk (blk_below (g := gb217) (o := .cells #[.int .u32 t213, .int .i64 t214] 30 (0, 0)) (by (with_reducible repeat (first | refine blk_drewN ?_ _ | refine blk_drew ?_ | refine blk_alloc ?_ _)); exact BK217.out) hb); have n8_ := Aside0.mk (below_step (by repeat (first | (with_reducible first | exact HB.out | apply below_alloc | apply pw_below_drewN | apply below_drew1 | refine below_set ?_ GE179.out | refine below_set ?_ GE180.out | refine below_set ?_ GE192.out | refine below_set ?_ GE196.out | refine below_set ?_ GE209.out | refine below_set ?_ GE210.out | refine below_set ?_ GE216.out | refine below_set ?_ GE217.out) | exact HB.out)) hb); have n9_ := Aside0.mk (hbox); have n10_ := Aside0.mk ((by rw [hg]; exact (below_size (by repeat (first | (with_reducible first | exact HB.out | apply below_alloc | apply pw_below_drewN | apply below_drew1 | refine below_set ?_ GE179.out | refine below_set ?_ GE180.out | refine below_set ?_ GE192.out | refine below_set ?_ GE196.out | refine below_set ?_ GE209.out | refine below_set ?_ GE210.out | refine below_set ?_ GE216.out | refine below_set ?_ GE217.out) | exact HB.out))) : w.heap.size ≤ gb221)); have n11_ := Aside0.mk ((by rw [hg]; exact (below_size (by repeat (first | (with_reducible first | exact HB.out | apply below_alloc | apply pw_below_drewN | apply below_drew1 | refine below_set ?_ GE179.out | refine below_set ?_ GE180.out | refine below_set ?_ GE192.out | refine below_set ?_ GE196.out | refine below_set ?_ GE209.out | refine below_set ?_ GE210.out | refine below_set ?_ GE216.out | refine below_set ?_ GE217.out) | exact HB.out))) : w.heap.size ≤ gb221)); have n12_ := Aside0.mk ((by rw [hg]; exact Nat.ne_of_lt (blk_lt (g := gb179) (o := .cells #[.int .u32 a1_0, .int .i64 a1_1] 30 (0, 0)) (by (with_reducible repeat (first | refine blk_drewN ?_ _ | refine blk_drew ?_ | refine blk_alloc ?_ _)); exact BK179.out)) : gb179 ≠ gb221)); have n13_ := Aside0.mk ((by rw [hg]; exact Nat.ne_of_gt (blk_lt (g := gb179) (o := .cells #[.int .u32 a1_0, .int .i64 a1_1] 30 (0, 0)) (by (with_reducible repeat (first | refine blk_drewN ?_ _ | refine blk_drew ?_ | refine blk_alloc ?_ _)); exact BK179.out)) : gb221 ≠ gb179)); have n14_ := Aside0.mk ((by rw [hg]; exact Nat.ne_of_lt (blk_lt (g := gb180) (o := .cells #[.int .u32 a2_0, .int .i64 a2_1] 30 (0, 0)) (by (with_reducible repeat (first | refine blk_drewN ?_ _ | refine blk_drew ?_ | refine blk_alloc ?_ _)); exact BK180.out)) : gb180 ≠ gb221)); have n15_ := Aside0.mk ((by rw [hg]; exact Nat.ne_of_gt (blk_lt (g := gb180) (o := .cells #[.int .u32 a2_0, .int .i64 a2_1] 30 (0, 0)) (by (with_reducible repeat (first | refine blk_drewN ?_ _ | refine blk_drew ?_ | refine blk_alloc ?_ _)); exact BK180.out)) : gb221 ≠ gb180)); have n16_ := Aside0.mk ((by rw [hg]; exact Nat.ne_of_lt (blk_lt (g := gb192) (o := .cells #[.int .u32 t189, .int .i64 t190] 30 (0, 0)) (by (with_reducible repeat (first | refine blk_drewN ?_ _ | refine blk_drew ?_ | refine blk_alloc ?_ _)); exact BK192.out)) : gb192 ≠ gb221)); have n17_ := Aside0.mk ((by rw [hg]; exact Nat.ne_of_gt (blk_lt (g := gb192) (o := .cells #[.int .u32 t189, .int .i64 t190] 30 (0, 0)) (by (with_reducible repeat (first | refine blk_drewN ?_ _ | refine blk_drew ?_ | refine blk_alloc ?_ _)); exact BK192.out)) : gb221 ≠ gb192)); have n18_ := Aside0.mk ((by rw [hg]; exact Nat.ne_of_lt (blk_lt (g := gb196) (o := .cells #[.int .u32 t193, .int .i64 t194] 30 (0, 0)) (by (with_reducible repeat (first | refine blk_drewN ?_ _ | refine blk_drew ?_ | refine blk_alloc ?_ _)); exact BK196.out)) : gb196 ≠ gb221)); have n19_ := Aside0.mk ((by rw [hg]; exact Nat.ne_of_gt (blk_lt (g := gb196) (o := .cells #[.int .u32 t193, .int .i64 t194] 30 (0, 0)) (by (with_reducible repeat (first | refine blk_drewN ?_ _ | refine blk_drew ?_ | refine blk_alloc ?_ _)); exact BK196.out)) : gb221 ≠ gb196)); have n20_ := Aside0.mk ((by rw [hg]; exact Nat.ne_of_lt (blk_lt (g := gb209) (o := .cells #[.int .u32 t204, .int .i64 t205] 30 (0, 0)) (by (with_reducible repeat (first | refine blk_drewN ?_ _ | refine blk_drew ?_ | refine blk_alloc ?_ _)); exact BK209.out)) : gb209 ≠ gb221)); have n21_ := Aside0.mk ((by rw [hg]; exact Nat.ne_of_gt (blk_lt (g := gb209) (o := .cells #[.int .u32 t204, .int .i64 t205] 30 (0, 0)) (by (with_reducible repeat (first | refine blk_drewN ?_ _ | refine blk_drew ?_ | refine blk_alloc ?_ _)); exact BK209.out)) : gb221 ≠ gb209)); have n22_ := Aside0.mk ((by rw [hg]; exact Nat.ne_of_lt (blk_lt (g := gb210) (o := .cells #[.int .u32 t206, .int .i64 t207] 30 (0, 0)) (by (with_reducible repeat (first | refine blk_drewN ?_ _ | refine blk_drew ?_ | refine blk_alloc ?_ _)); exact BK210.out)) : gb210 ≠ gb221)); have n23_ := Aside0.mk ((by rw [hg]; exact Nat.ne_of_gt (blk_lt (g := gb210) (o := .cells #[.int .u32 t206, .int .i64 t207] 30 (0, 0)) (by (with_reducible repeat (first | refine blk_drewN ?_ _ | refine blk_drew ?_ | refine blk_alloc ?_ _)); exact BK210.out)) : gb221 ≠ gb210)); have n24_ := Aside0.mk ((by rw [hg]; exact Nat.ne_of_lt (blk_lt (g := gb216) (o := .cells #[.int .u32 t211, .int .i64 t212] 30 (0, 0)) (by (with_reducible repeat (first | refine blk_drewN ?_ _ | refine blk_drew ?_ | refine blk_alloc ?_ _)); exact BK216.out)) : gb216 ≠ gb221)); have n25_ := Aside0.mk ((by rw [hg]; exact Nat.ne_of_gt (blk_lt (g := gb216) (o := .cells #[.int .u32 t211, .int .i64 t212] 30 (0, 0)) (by (with_reducible repeat (first | refine blk_drewN ?_ _ | refine blk_drew ?_ | refine blk_alloc ?_ _)); exact BK216.out)) : gb221 ≠ gb216)); have n26_ := Aside0.mk ((by rw [hg]; exact Nat.ne_of_lt (blk_lt (g := gb217) (o := .cells #[.int .u32 t213, .int .i64 t214] 30 (0, 0)) (by (with_reducible repeat (first | refine blk_drewN ?_ _ | refine blk_drew ?_ | refine blk_alloc ?_ _)); exact BK217.out)) : gb217 ≠ gb221)); have n27_ := Aside0.mk ((by rw [hg]; exact Nat.ne_of_gt (blk_lt (g := gb217) (o := .cells #[.int .u32 t213, .int .i64 t214] 30 (0, 0)) (by (with_reducible repeat (first | refine blk_drewN ?_ _ | refine blk_drew ?_ | refine blk_alloc ?_ _)); exact BK217.out)) : gb221 ≠ gb217)); clear BK179; clear BK180; clear BK192; clear BK196; clear BK209; clear BK210; clear BK216; clear BK217; clear HB; have BK179 := n0_; have BK180 := n1_; have BK192 := n2_; have BK196 := n3_; have BK209 := n4_; have BK210 := n5_; have BK216 := n6_; have BK217 := n7_; have HB := n8_; have BK221 := n9_; have GW221 := n10_; have GE221 := n11_; have NB179_221 := n12_; have NB221_179 := n13_; have NB180_221 := n14_; have NB221_180 := n15_; have NB192_221 := n16_; have NB221_192 := n17_; have NB196_221 := n18_; have NB221_196 := n19_; have NB209_221 := n20_; have NB221_209 := n21_; have NB210_221 := n22_; have NB221_210 := n23_; have NB216_221 := n24_; have NB221_216 := n25_; have NB217_221 := n26_; have NB221_217 := n27_; clear n0_ n1_ n2_ n3_ n4_ n5_ n6_ n7_ n8_ n9_ n10_ n11_ n12_ n13_ n14_ n15_ n16_ n17_ n18_ n19_ n20_ n21_ n22_ n23_ n24_ n25_ n26_ n27_; clear hb hbox hg; have hnb94 := NB221_179.out; have hnc94 := NB179_221.out; have hnb95 := NB221_180.out; have hnc95 := NB180_221.out; have hnb96 := NB221_192.out; have hnc96 := NB192_221.out; have hnb97 := NB221_196.out; have hnc97 := NB196_221.out; have hnb98 := NB221_209.out; have hnc98 := NB209_221.out; have hnb99 := NB221_210.out; have hnc99 := NB210_221.out; have hnb100 := NB221_216.out; have hnc100 := NB216_221.out; have hnb101 := NB221_217.out; have hnc101 := NB217_221.out; have hcz102_0 : w93.cell? ⟨gb221, 0, none⟩ = some (.int .u32 0) := (blk_cell BK221.out 0).trans rfl; have hcz102_1 : w93.cell? ⟨gb221, 1, none⟩ = some (.int .i64 0) := (blk_cell BK221.out 1).trans rfl; have hfz102_0 := blk_frozen BK221.out 0; have hfz102_1 := blk_frozen BK221.out 1; have hcz103_0 : w93.cell? ⟨gb179, 0, none⟩ = some (.int .u32 a1_0) := (blk_cell BK179.out 0).trans rfl; have hcz103_1 : w93.cell? ⟨gb179, 1, none⟩ = some (.int .i64 a1_1) := (blk_cell BK179.out 1).trans rfl; have hfz103_0 := blk_frozen BK179.out 0; have hfz103_1 := blk_frozen BK179.out 1; have hcz104_0 : w93.cell? ⟨gb180, 0, none⟩ = some (.int .u32 a2_0) := (blk_cell BK180.out 0).trans rfl; have hcz104_1 : w93.cell? ⟨gb180, 1, none⟩ = some (.int .i64 a2_1) := (blk_cell BK180.out 1).trans rfl; have hfz104_0 := blk_frozen BK180.out 0; have hfz104_1 := blk_frozen BK180.out 1) | ((with_reducible refine gate_callee (f := 23) rfl ?_); refine goesL_ (some 125) rfl rfl Try.func23 (by kernel_rfl) rfl #[.agg #[.int .u32 a1_0, .int .i64 a1_1], .agg #[.int .u32 a2_0, .int .i64 a2_1]] rfl (by (try simp only [List.map_toArray, List.map_cons, List.map_nil]); first | done | rfl | (simp only [List.length_drop, List.length_take]; rfl)) ?_; (with_reducible refine (waymarkref01_Common.calls kj10 a1_0 a1_1 a2_0 a2_1 t222 t223 t224 _ A45.out).mono ?_); rintro e w105 ⟨rfl, hb⟩; refine ⟨_, rfl, ?_⟩; have n0_ := Aside0.mk (blk_below (g := gb179) (o := .cells #[.int .u32 a1_0, .int .i64 a1_1] 30 (0, 0)) (by (with_reducible repeat (first | refine blk_drewN ?_ _ | refine blk_drew ?_ | refine blk_alloc ?_ _)); refine blk_far ?_ NB179_221.out _; (with_reducible repeat (first | refine blk_drewN ?_ _ | refine blk_drew ?_ | refine blk_alloc ?_ _)); refine blk_far ?_ NB179_221.out _; (with_reducible repeat (first | refine blk_drewN ?_ _ | refine blk_drew ?_ | refine blk_alloc ?_ _)); exact BK179.out) hb); have n1_ := Aside0.mk (blk_below (g := gb180) (o := .cells #[.int .u32 a2_0, .int .i64 a2_1] 30 (0, 0)) (by (with_reducible repeat (first | refine blk_drewN ?_ _ | refine blk_drew ?_ | refine blk_alloc ?_ _)); refine blk_far ?_ NB180_221.out _; (with_reducible repeat (first | refine blk_drewN ?_ _ | refine blk_drew ?_ | refine blk_alloc ?_ _)); refine blk_far ?_ NB180_221.out _; (with_reducible repeat (first | refine blk_drewN ?_ _ | refine blk_drew ?_ | refine blk_alloc ?_ _)); exact BK180.out) hb); have n2_ := Aside0.mk (blk_below (g := gb192) (o := .cells #[.int .u32 t189, .int .i64 t190] 30 (0, 0)) (by (with_reducible repeat (first | refine blk_drewN ?_ _ | refine blk_drew ?_ | refine blk_alloc ?_ _)); refine blk_far ?_ NB192_221.out _; (with_reducible repeat (first | refine blk_drewN ?_ _ | refine blk_drew ?_ | refine blk_alloc ?_ _)); refine blk_far ?_ NB192_221.out _; (with_reducible repeat (first | refine blk_drewN ?_ _ | refine blk_drew ?_ | refine blk_alloc ?_ _)); exact BK192.out) hb); have n3_ := Aside0.mk (blk_below (g := gb196) (o := .cells #[.int .u32 t193, .int .i64 t194] 30 (0, 0)) (by (with_reducible repeat (first | refine blk_drewN ?_ _ | refine blk_drew ?_ | refine blk_alloc ?_ _)); refine blk_far ?_ NB196_221.out _; (with_reducible repeat (first | refine blk_drewN ?_ _ | refine blk_drew ?_ | refine blk_alloc ?_ _)); refine blk_far ?_ NB196_221.out _; (with_reducible repeat (first | refine blk_drewN ?_ _ | refine blk_drew ?_ | refine blk_alloc ?_ _)); exact BK196.out) hb); have n4_ := Aside0.mk (blk_below (g := gb209) (o := .cells #[.int .u32 t204, .int .i64 t205] 30 (0, 0)) (by (with_reducible repeat (first | refine blk_drewN ?_ _ | refine blk_drew ?_ | refine blk_alloc ?_ _)); refine blk_far ?_ NB209_221.out _; (with_reducible repeat (first | refine blk_drewN ?_ _ | refine blk_drew ?_ | refine blk_alloc ?_ _)); refine blk_far ?_ NB209_221.out _; (with_reducible repeat (first | refine blk_drewN ?_ _ | refine blk_drew ?_ | refine blk_alloc ?_ _)); exact BK209.out) hb); have n5_ := Aside0.mk (blk_below (g := gb210) (o := .cells #[.int .u32 t206, .int .i64 t207] 30 (0, 0)) (by (with_reducible repeat (first | refine blk_drewN ?_ _ | refine blk_drew ?_ | refine blk_alloc ?_ _)); refine blk_far ?_ NB210_221.out _; (with_reducible repeat (first | refine blk_drewN ?_ _ | refine blk_drew ?_ | refine blk_alloc ?_ _)); refine blk_far ?_ NB210_221.out _; (with_reducible repeat (first | refine blk_drewN ?_ _ | refine blk_drew ?_ | refine blk_alloc ?_ _)); exact BK210.out) hb); have n6_ := Aside0.mk (blk_below (g := gb216) (o := .cells #[.int .u32 t211, .int .i64 t212] 30 (0, 0)) (by (with_reducible repeat (first | refine blk_drewN ?_ _ | refine blk_drew ?_ | refine blk_alloc ?_ _)); refine blk_far ?_ NB216_221.out _; (with_reducible repeat (first | refine blk_drewN ?_ _ | refine blk_drew ?_ | refine blk_alloc ?_ _)); refine blk_far ?_ NB216_221.out _; (with_reducible repeat (first | refine blk_drewN ?_ _ | refine blk_drew ?_ | refine blk_alloc ?_ _)); exact BK216.out) hb); have n7_ := Aside0.mk (blk_below (g := gb217) (o := .cells #[.int .u32 t213, .int .i64 t214] 30 (0, 0)) (by (with_reducible repeat (first | refine blk_drewN ?_ _ | refine blk_drew ?_ | refine blk_alloc ?_ _)); refine blk_far ?_ NB217_221.out _; (with_reducible repeat (first | refine blk_drewN ?_ _ | refine blk_drew ?_ | refine blk_alloc ?_ _)); refine blk_far ?_ NB217_221.out _; (with_reducible repeat (first | refine blk_drewN ?_ _ | refine blk_drew ?_ | refine blk_alloc ?_ _)); exact BK217.out) hb); have n8_ := Aside0.mk (blk_below (g := gb221) (o := .cells #[.int .u32 t218, .int .i64 t219] 30 (0, 0)) (by (with_reducible repeat (first | refine blk_drewN ?_ _ | refine blk_drew ?_ | refine blk_alloc ?_ _)); refine blk_put (cs := #[.int .u32 t218, .int .i64 0]) ?_ 1 _ rfl; (with_reducible repeat (first | refine blk_drewN ?_ _ | refine blk_drew ?_ | refine blk_alloc ?_ _)); refine blk_put (cs := #[.int .u32 0, .int .i64 0]) ?_ 0 _ rfl; (with_reducible repeat (first | refine blk_drewN ?_ _ | refine blk_drew ?_ | refine blk_alloc ?_ _)); exact BK221.out) hb); have n9_ := Aside0.mk (below_step (by repeat (first | (with_reducible first | exact HB.out | apply below_alloc | apply pw_below_drewN | apply below_drew1 | refine below_set ?_ GE179.out | refine below_set ?_ GE180.out | refine below_set ?_ GE192.out | refine below_set ?_ GE196.out | refine below_set ?_ GE209.out | refine below_set ?_ GE210.out | refine below_set ?_ GE216.out | refine below_set ?_ GE217.out | refine below_set ?_ GE221.out) | exact HB.out)) hb); clear BK179; clear BK180; clear BK192; clear BK196; clear BK209; clear BK210; clear BK216; clear BK217; clear BK221; clear HB; have BK179 := n0_; have BK180 := n1_; have BK192 := n2_; have BK196 := n3_; have BK209 := n4_; have BK210 := n5_; have BK216 := n6_; have BK217 := n7_; have BK221 := n8_; have HB := n9_; clear n0_ n1_ n2_ n3_ n4_ n5_ n6_ n7_ n8_ n9_; (try clear hb); (try clear hb2); (try clear hk); (try clear hi)) | ((with_reducible refine gate_dst (N := 30) rfl ?_); refine box_event ?hg (N := 30) ?hd (cs := #[.int .u32 0, .int .i64 0]) (t := 30) ?hr ?_; (case hd => rfl); (case hg => rfl); (case hr => first | (go_simp; done) | (go_simp; rfl)); intro gb225 hg w106 hbox hb; have n0_ := Aside0.mk (blk_below (g := gb179) (o := .cells #[.int .u32 a1_0, .int .i64 a1_1] 30 (0, 0)) (by (with_reducible repeat (first | refine blk_drewN ?_ _ | refine blk_drew ?_ | refine blk_alloc ?_ _)); exact BK179.out) hb); have n1_ := Aside0.mk (blk_below (g := gb180) (o := .cells #[.int .u32 a2_0, .int .i64 a2_1] 30 (0, 0)) (by (with_reducible repeat (first | refine blk_drewN ?_ _ | refine blk_drew ?_ | refine blk_alloc ?_ _)); exact BK180.out) hb); have n2_ := Aside0.mk (blk_below (g := gb192) (o := .cells #[.int .u32 t189, .int .i64 t190] 30 (0, 0)) (by (with_reducible repeat (first | refine blk_drewN ?_ _ | refine blk_drew ?_ | refine blk_alloc ?_ _)); exact BK192.out) hb); have n3_ := Aside0.mk (blk_below (g := gb196) (o := .cells #[.int .u32 t193, .int .i64 t194] 30 (0, 0)) (by (with_reducible repeat (first | refine blk_drewN ?_ _ | refine blk_drew ?_ | refine blk_alloc ?_ _)); exact BK196.out) hb); have n4_ := Aside0.mk (blk_below (g := gb209) (o := .cells #[.int .u32 t204, .int .i64 t205] 30 (0, 0)) (by (with_reducible repeat (first | refine blk_drewN ?_ _ | refine blk_drew ?_ | refine blk_alloc ?_ _)); exact BK209.out) hb); have n5_ := Aside0.mk (blk_below (g := gb210) (o := .cells #[.int .u32 t206, .int .i64 t207] 30 (0, 0)) (by (with_reducible repeat (first | refine blk_drewN ?_ _ | refine blk_drew ?_ | refine blk_alloc ?_ _)); exact BK210.out) hb); have n6_ := Aside0.mk (blk_below (g := gb216) (o := .cells #[.int .u32 t211, .int .i64 t212] 30 (0, 0)) (by (with_reducible repeat (first | refine blk_drewN ?_ _ | refine blk_drew ?_ | refine blk_alloc ?_ _)); exact BK216.out) hb); have n7_ := Aside0.mk (blk_below (g := gb217) (o := .cells #[.int .u32 t213, .int .i64 t214] 30 (0, 0)) (by (with_reducible repeat (first | refine blk_drewN ?_ _ | refine blk_drew ?_ | refine blk_alloc ?_ _)); exact BK217.out) hb); have n8_ := Aside0.mk (blk_below (g := gb221) (o := .cells #[.int .u32 t218, .int .i64 t219] 30 (0, 0)) (by (with_reducible repeat (first | refine blk_drewN ?_ _ | refine blk_drew ?_ | refine blk_alloc ?_ _)); exact BK221.out) hb); have n9_ := Aside0.mk (below_step (by repeat (first | (with_reducible first | exact HB.out | apply below_alloc | apply pw_below_drewN | apply below_drew1 | refine below_set ?_ GE179.out | refine below_set ?_ GE180.out | refine below_set ?_ GE192.out | refine below_set ?_ GE196.out | refine below_set ?_ GE209.out | refine below_set ?_ GE210.out | refine below_set ?_ GE216.out | refine below_set ?_ GE217.out | refine below_set ?_ GE221.out) | exact HB.out)) hb); have n10_ := Aside0.mk (hbox); have n11_ := Aside0.mk ((by rw [hg]; exact (below_size (by repeat (first | (with_reducible first | exact HB.out | apply below_alloc | apply pw_below_drewN | apply below_drew1 | refine below_set ?_ GE179.out | refine below_set ?_ GE180.out | refine below_set ?_ GE192.out | refine below_set ?_ GE196.out | refine below_set ?_ GE209.out | refine below_set ?_ GE210.out | refine below_set ?_ GE216.out | refine below_set ?_ GE217.out | refine below_set ?_ GE221.out) | exact HB.out))) : w.heap.size ≤ gb225)); have n12_ := Aside0.mk ((by rw [hg]; exact (below_size (by repeat (first | (with_reducible first | exact HB.out | apply below_alloc | apply pw_below_drewN | apply below_drew1 | refine below_set ?_ GE179.out | refine below_set ?_ GE180.out | refine below_set ?_ GE192.out | refine below_set ?_ GE196.out | refine below_set ?_ GE209.out | refine below_set ?_ GE210.out | refine below_set ?_ GE216.out | refine below_set ?_ GE217.out | refine below_set ?_ GE221.out) | exact HB.out))) : w.heap.size ≤ gb225)); have n13_ := Aside0.mk ((by rw [hg]; exact Nat.ne_of_lt (blk_lt (g := gb179) (o := .cells #[.int .u32 a1_0, .int .i64 a1_1] 30 (0, 0)) (by (with_reducible repeat (first | refine blk_drewN ?_ _ | refine blk_drew ?_ | refine blk_alloc ?_ _)); exact BK179.out)) : gb179 ≠ gb225)); have n14_ := Aside0.mk ((by rw [hg]; exact Nat.ne_of_gt (blk_lt (g := gb179) (o := .cells #[.int .u32 a1_0, .int .i64 a1_1] 30 (0, 0)) (by (with_reducible repeat (first | refine blk_drewN ?_ _ | refine blk_drew ?_ | refine blk_alloc ?_ _)); exact BK179.out)) : gb225 ≠ gb179)); have n15_ := Aside0.mk ((by rw [hg]; exact Nat.ne_of_lt (blk_lt (g := gb180) (o := .cells #[.int .u32 a2_0, .int .i64 a2_1] 30 (0, 0)) (by (with_reducible repeat (first | refine blk_drewN ?_ _ | refine blk_drew ?_ | refine blk_alloc ?_ _)); exact BK180.out)) : gb180 ≠ gb225)); have n16_ := Aside0.mk ((by rw [hg]; exact Nat.ne_of_gt (blk_lt (g := gb180) (o := .cells #[.int .u32 a2_0, .int .i64 a2_1] 30 (0, 0)) (by (with_reducible repeat (first | refine blk_drewN ?_ _ | refine blk_drew ?_ | refine blk_alloc ?_ _)); exact BK180.out)) : gb225 ≠ gb180)); have n17_ := Aside0.mk ((by rw [hg]; exact Nat.ne_of_lt (blk_lt (g := gb192) (o := .cells #[.int .u32 t189, .int .i64 t190] 30 (0, 0)) (by (with_reducible repeat (first | refine blk_drewN ?_ _ | refine blk_drew ?_ | refine blk_alloc ?_ _)); exact BK192.out)) : gb192 ≠ gb225)); have n18_ := Aside0.mk ((by rw [hg]; exact Nat.ne_of_gt (blk_lt (g := gb192) (o := .cells #[.int .u32 t189, .int .i64 t190] 30 (0, 0)) (by (with_reducible repeat (first | refine blk_drewN ?_ _ | refine blk_drew ?_ | refine blk_alloc ?_ _)); exact BK192.out)) : gb225 ≠ gb192)); have n19_ := Aside0.mk ((by rw [hg]; exact Nat.ne_of_lt (blk_lt (g := gb196) (o := .cells #[.int .u32 t193, .int .i64 t194] 30 (0, 0)) (by (with_reducible repeat (first | refine blk_drewN ?_ _ | refine blk_drew ?_ | refine blk_alloc ?_ _)); exact BK196.out)) : gb196 ≠ gb225)); have n20_ := Aside0.mk ((by rw [hg]; exact Nat.ne_of_gt (blk_lt (g := gb196) (o := .cells #[.int .u32 t193, .int .i64 t194] 30 (0, 0)) (by (with_reducible repeat (first | refine blk_drewN ?_ _ | refine blk_drew ?_ | refine blk_alloc ?_ _)); exact BK196.out)) : gb225 ≠ gb196)); have n21_ := Aside0.mk ((by rw [hg]; exact Nat.ne_of_lt (blk_lt (g := gb209) (o := .cells #[.int .u32 t204, .int .i64 t205] 30 (0, 0)) (by (with_reducible repeat (first | refine blk_drewN ?_ _ | refine blk_drew ?_ | refine blk_alloc ?_ _)); exact BK209.out)) : gb209 ≠ gb225)); have n22_ := Aside0.mk ((by rw [hg]; exact Nat.ne_of_gt (blk_lt (g := gb209) (o := .cells #[.int .u32 t204, .int .i64 t205] 30 (0, 0)) (by (with_reducible repeat (first | refine blk_drewN ?_ _ | refine blk_drew ?_ | refine blk_alloc ?_ _)); exact BK209.out)) : gb225 ≠ gb209)); have n23_ := Aside0.mk ((by rw [hg]; exact Nat.ne_of_lt (blk_lt (g := gb210) (o := .cells #[.int .u32 t206, .int .i64 t207] 30 (0, 0)) (by (with_reducible repeat (first | refine blk_drewN ?_ _ | refine blk_drew ?_ | refine blk_alloc ?_ _)); exact BK210.out)) : gb210 ≠ gb225)); have n24_ := Aside0.mk ((by rw [hg]; exact Nat.ne_of_gt (blk_lt (g := gb210) (o := .cells #[.int .u32 t206, .int .i64 t207] 30 (0, 0)) (by (with_reducible repeat (first | refine blk_drewN ?_ _ | refine blk_drew ?_ | refine blk_alloc ?_ _)); exact BK210.out)) : gb225 ≠ gb210)); have n25_ := Aside0.mk ((by rw [hg]; exact Nat.ne_of_lt (blk_lt (g := gb216) (o := .cells #[.int .u32 t211, .int .i64 t212] 30 (0, 0)) (by (with_reducible repeat (first | refine blk_drewN ?_ _ | refine blk_drew ?_ | refine blk_alloc ?_ _)); exact BK216.out)) : gb216 ≠ gb225)); have n26_ := Aside0.mk ((by rw [hg]; exact Nat.ne_of_gt (blk_lt (g := gb216) (o := .cells #[.int .u32 t211, .int .i64 t212] 30 (0, 0)) (by (with_reducible repeat (first | refine blk_drewN ?_ _ | refine blk_drew ?_ | refine blk_alloc ?_ _)); exact BK216.out)) : gb225 ≠ gb216)); have n27_ := Aside0.mk ((by rw [hg]; exact Nat.ne_of_lt (blk_lt (g := gb217) (o := .cells #[.int .u32 t213, .int .i64 t214] 30 (0, 0)) (by (with_reducible repeat (first | refine blk_drewN ?_ _ | refine blk_drew ?_ | refine blk_alloc ?_ _)); exact BK217.out)) : gb217 ≠ gb225)); have n28_ := Aside0.mk ((by rw [hg]; exact Nat.ne_of_gt (blk_lt (g := gb217) (o := .cells #[.int .u32 t213, .int .i64 t214] 30 (0, 0)) (by (with_reducible repeat (first | refine blk_drewN ?_ _ | refine blk_drew ?_ | refine blk_alloc ?_ _)); exact BK217.out)) : gb225 ≠ gb217)); have n29_ := Aside0.mk ((by rw [hg]; exact Nat.ne_of_lt (blk_lt (g := gb221) (o := .cells #[.int .u32 t218, .int .i64 t219] 30 (0, 0)) (by (with_reducible repeat (first | refine blk_drewN ?_ _ | refine blk_drew ?_ | refine blk_alloc ?_ _)); exact BK221.out)) : gb221 ≠ gb225)); have n30_ := Aside0.mk ((by rw [hg]; exact Nat.ne_of_gt (blk_lt (g := gb221) (o := .cells #[.int .u32 t218, .int .i64 t219] 30 (0, 0)) (by (with_reducible repeat (first | refine blk_drewN ?_ _ | refine blk_drew ?_ | refine blk_alloc ?_ _)); exact BK221.out)) : gb225 ≠ gb221)); clear BK179; clear BK180; clear BK192; clear BK196; clear BK209; clear BK210; clear BK216; clear BK217; clear BK221; clear HB; have BK179 := n0_; have BK180 := n1_; have BK192 := n2_; have BK196 := n3_; have BK209 := n4_; have BK210 := n5_; have BK216 := n6_; have BK217 := n7_; have BK221 := n8_; have HB := n9_; have BK225 := n10_; have GW225 := n11_; have GE225 := n12_; have NB179_225 := n13_; have NB225_179 := n14_; have NB180_225 := n15_; have NB225_180 := n16_; have NB192_225 := n17_; have NB225_192 := n18_; have NB196_225 := n19_; have NB225_196 := n20_; have NB209_225 := n21_; have NB225_209 := n22_; have NB210_225 := n23_; have NB225_210 := n24_; have NB216_225 := n25_; have NB225_216 := n26_; have NB217_225 := n27_; have NB225_217 := n28_; have NB221_225 := n29_; have NB225_221 := n30_; clear n0_ n1_ n2_ n3_ n4_ n5_ n6_ n7_ n8_ n9_ n10_ n11_ n12_ n13_ n14_ n15_ n16_ n17_ n18_ n19_ n20_ n21_ n22_ n23_ n24_ n25_ n26_ n27_ n28_ n29_ n30_; clear hb hbox hg; have hnb107 := NB225_179.out; have hnc107 := NB179_225.out; have hnb108 := NB225_180.out; have hnc108 := NB180_225.out; have hnb109 := NB225_192.out; have hnc109 := NB192_225.out; have hnb110 := NB225_196.out; have hnc110 := NB196_225.out; have hnb111 := NB225_209.out; have hnc111 := NB209_225.out; have hnb112 := NB225_210.out; have hnc112 := NB210_225.out; have hnb113 := NB225_216.out; have hnc113 := NB216_225.out; have hnb114 := NB225_217.out; have hnc114 := NB217_225.out; have hnb115 := NB225_221.out; have hnc115 := NB221_225.out; have hcz116_0 : w106.cell? ⟨gb225, 0, none⟩ = some (.int .u32 0) := (blk_cell BK225.out 0).trans rfl; have hcz116_1 : w106.cell? ⟨gb225, 1, none⟩ = some (.int .i64 0) := (blk_cell BK225.out 1).trans rfl; have hfz116_0 := blk_frozen BK225.out 0; have hfz116_1 := blk_frozen BK225.out 1))
        (try simp only [Act.put, List.setIfInBounds_toArray, List.set_cons_zero, List.set_cons_succ])
        go_cut [168] (fun v168 wc => ∃ (kq : Nat) (x168_45 : Bool), v168 = .bool x168_45 ∧ Aside0 (waymarklaw01_AddrPrefixes.j1 kq a0 x168_45 a1_0 a1_1 a2_0 a2_1 = some r) ∧ Aside0 (kq ≤ kj10) ∧ Aside0 (wc.heap[gb179]? = some (.cells #[.int .u32 a1_0, .int .i64 a1_1] 30 (0, 0))) ∧ Aside0 (wc.heap[gb180]? = some (.cells #[.int .u32 a2_0, .int .i64 a2_1] 30 (0, 0))) ∧ Aside0 (wc.heap[gb192]? = some (.cells #[.int .u32 t189, .int .i64 t190] 30 (0, 0))) ∧ Aside0 (wc.heap[gb196]? = some (.cells #[.int .u32 t193, .int .i64 t194] 30 (0, 0))) ∧ Aside0 (wc.heap[gb209]? = some (.cells #[.int .u32 t204, .int .i64 t205] 30 (0, 0))) ∧ Aside0 (wc.heap[gb210]? = some (.cells #[.int .u32 t206, .int .i64 t207] 30 (0, 0))) ∧ Aside0 (wc.heap[gb216]? = some (.cells #[.int .u32 t211, .int .i64 t212] 30 (0, 0))) ∧ Aside0 (wc.heap[gb217]? = some (.cells #[.int .u32 t213, .int .i64 t214] 30 (0, 0))) ∧ Aside0 (wc.heap[gb221]? = some (.cells #[.int .u32 t218, .int .i64 t219] 30 (0, 0))) ∧ Aside0 (wc.heap[gb225]? = some (.cells #[.int .u32 t222, .int .i64 t223] 30 (0, 0))) ∧ Aside0 (Below w.heap.size w wc))
        case first =>
          have H := HC46.out
          clear HC46
          by_cases c117 : t198 = t201
          · rw [if_pos c117] at H
            have c117b0 : (t198 == t201) = true := beq_iff_eq.mpr c117
            have c117b1 : (t198 != t201) = false := bne_eq_false_iff_eq.mpr c117
            clear c117
            (first | rw [c117b0] | (simp only [i64_w, i32_w]; rw [c117b0]) | skip)
            by_cases c118 : t199 = t202
            · rw [if_pos c118] at H
              have c118b0 : (t199 == t202) = true := beq_iff_eq.mpr c118
              have c118b1 : (t199 != t202) = false := bne_eq_false_iff_eq.mpr c118
              clear c118
              by_cases c119 : t200 = t203
              · rw [if_pos c119] at H
                have c119b0 : (t200 == t203) = true := beq_iff_eq.mpr c119
                have c119b1 : (t200 != t203) = false := bne_eq_false_iff_eq.mpr c119
                clear c119
                replace H := Option.bind_eq_some_iff.mp H
                obtain ⟨t226, A1200, H⟩ := H
                replace H : (if t226 = true then ((waymarklaw01_same.f t206 t207 t213 t214).bind fun t227 => (if t227 = true then (if t208 = t215 then ((waymarklaw01_same.f t218 t219 t222 t223).bind fun t228 => (if t228 = true then (waymarklaw01_AddrPrefixes.j1 kj10 a0 (t220 != t224) a1_0 a1_1 a2_0 a2_1) else (none))) else (none)) else (none))) else (none)) = some r := H
                have A120 := Aside0.mk A1200
                clear A1200
                by_cases c121 : t226 = true
                · subst c121
                  have H1 : ((waymarklaw01_same.f t206 t207 t213 t214).bind fun t227 => (if t227 = true then (if t208 = t215 then ((waymarklaw01_same.f t218 t219 t222 t223).bind fun t228 => (if t228 = true then (waymarklaw01_AddrPrefixes.j1 kj10 a0 (t220 != t224) a1_0 a1_1 a2_0 a2_1) else (none))) else (none)) else (none))) = some r := by rw [if_pos rfl] at H; exact H
                  clear H
                  have H := H1
                  clear H1
                  replace H := Option.bind_eq_some_iff.mp H
                  obtain ⟨t227, A1220, H⟩ := H
                  replace H : (if t227 = true then (if t208 = t215 then ((waymarklaw01_same.f t218 t219 t222 t223).bind fun t228 => (if t228 = true then (waymarklaw01_AddrPrefixes.j1 kj10 a0 (t220 != t224) a1_0 a1_1 a2_0 a2_1) else (none))) else (none)) else (none)) = some r := H
                  have A122 := Aside0.mk A1220
                  clear A1220
                  by_cases c123 : t227 = true
                  · subst c123
                    have H1 : (if t208 = t215 then ((waymarklaw01_same.f t218 t219 t222 t223).bind fun t228 => (if t228 = true then (waymarklaw01_AddrPrefixes.j1 kj10 a0 (t220 != t224) a1_0 a1_1 a2_0 a2_1) else (none))) else (none)) = some r := by rw [if_pos rfl] at H; exact H
                    clear H
                    have H := H1
                    clear H1
                    by_cases c124 : t208 = t215
                    · rw [if_pos c124] at H
                      have c124b0 : (t208 == t215) = true := beq_iff_eq.mpr c124
                      have c124b1 : (t208 != t215) = false := bne_eq_false_iff_eq.mpr c124
                      clear c124
                      replace H := Option.bind_eq_some_iff.mp H
                      obtain ⟨t228, A1250, H⟩ := H
                      replace H : (if t228 = true then (waymarklaw01_AddrPrefixes.j1 kj10 a0 (t220 != t224) a1_0 a1_1 a2_0 a2_1) else (none)) = some r := H
                      have A125 := Aside0.mk A1250
                      clear A1250
                      by_cases c126 : t228 = true
                      · subst c126
                        have H1 : (waymarklaw01_AddrPrefixes.j1 kj10 a0 (t220 != t224) a1_0 a1_1 a2_0 a2_1) = some r := by rw [if_pos rfl] at H; exact H
                        clear H
                        have H := H1
                        clear H1
                        have H' := Aside0.mk H
                        clear H
                        have hnb127 := NB209_179.out
                        have hnc127 := NB179_209.out
                        have hnb128 := NB209_180.out
                        have hnc128 := NB180_209.out
                        have hnb129 := NB209_192.out
                        have hnc129 := NB192_209.out
                        have hnb130 := NB209_196.out
                        have hnc130 := NB196_209.out
                        have hnb131 := NB209_210.out
                        have hnc131 := NB210_209.out
                        have hnb132 := NB209_216.out
                        have hnc132 := NB216_209.out
                        have hnb133 := NB209_217.out
                        have hnc133 := NB217_209.out
                        have hnb134 := NB209_221.out
                        have hnc134 := NB221_209.out
                        have hnb135 := NB209_225.out
                        have hnc135 := NB225_209.out
                        have hcz136_0 : w106.cell? ⟨gb209, 0, none⟩ = some (.int .u32 t204) := (blk_cell BK209.out 0).trans rfl
                        have hcz136_1 : w106.cell? ⟨gb209, 1, none⟩ = some (.int .i64 t205) := (blk_cell BK209.out 1).trans rfl
                        have hfz136_0 := blk_frozen BK209.out 0
                        have hfz136_1 := blk_frozen BK209.out 1
                        have hnb137 := NB216_179.out
                        have hnc137 := NB179_216.out
                        have hnb138 := NB216_180.out
                        have hnc138 := NB180_216.out
                        have hnb139 := NB216_192.out
                        have hnc139 := NB192_216.out
                        have hnb140 := NB216_196.out
                        have hnc140 := NB196_216.out
                        have hnb141 := NB216_210.out
                        have hnc141 := NB210_216.out
                        have hnb142 := NB216_217.out
                        have hnc142 := NB217_216.out
                        have hnb143 := NB216_221.out
                        have hnc143 := NB221_216.out
                        have hnb144 := NB216_225.out
                        have hnc144 := NB225_216.out
                        have hcz145_0 : w106.cell? ⟨gb216, 0, none⟩ = some (.int .u32 t211) := (blk_cell BK216.out 0).trans rfl
                        have hcz145_1 : w106.cell? ⟨gb216, 1, none⟩ = some (.int .i64 t212) := (blk_cell BK216.out 1).trans rfl
                        have hfz145_0 := blk_frozen BK216.out 0
                        have hfz145_1 := blk_frozen BK216.out 1
                        go_wp2_with (first | (go_at_call 17; (with_reducible refine (waymarklaw01_same.calls t204 t205 t211 t212 true _ A120.out).mono ?_); rintro e w146 ⟨rfl, hb⟩; have n0_ := Aside0.mk (blk_below (g := gb179) (o := .cells #[.int .u32 a1_0, .int .i64 a1_1] 30 (0, 0)) (by (with_reducible repeat (first | refine blk_drewN ?_ _ | refine blk_drew ?_ | refine blk_alloc ?_ _)); refine blk_far ?_ NB179_225.out _; (with_reducible repeat (first | refine blk_drewN ?_ _ | refine blk_drew ?_ | refine blk_alloc ?_ _)); refine blk_far ?_ NB179_225.out _; (with_reducible repeat (first | refine blk_drewN ?_ _ | refine blk_drew ?_ | refine blk_alloc ?_ _)); exact BK179.out) hb); have n1_ := Aside0.mk (blk_below (g := gb180) (o := .cells #[.int .u32 a2_0, .int .i64 a2_1] 30 (0, 0)) (by (with_reducible repeat (first | refine blk_drewN ?_ _ | refine blk_drew ?_ | refine blk_alloc ?_ _)); refine blk_far ?_ NB180_225.out _; (with_reducible repeat (first | refine blk_drewN ?_ _ | refine blk_drew ?_ | refine blk_alloc ?_ _)); refine blk_far ?_ NB180_225.out _; (with_reducible repeat (first | refine blk_drewN ?_ _ | refine blk_drew ?_ | refine blk_alloc ?_ _)); exact BK180.out) hb); have n2_ := Aside0.mk (blk_below (g := gb192) (o := .cells #[.int .u32 t189, .int .i64 t190] 30 (0, 0)) (by (with_reducible repeat (first | refine blk_drewN ?_ _ | refine blk_drew ?_ | refine blk_alloc ?_ _)); refine blk_far ?_ NB192_225.out _; (with_reducible repeat (first | refine blk_drewN ?_ _ | refine blk_drew ?_ | refine blk_alloc ?_ _)); refine blk_far ?_ NB192_225.out _; (with_reducible repeat (first | refine blk_drewN ?_ _ | refine blk_drew ?_ | refine blk_alloc ?_ _)); exact BK192.out) hb); have n3_ := Aside0.mk (blk_below (g := gb196) (o := .cells #[.int .u32 t193, .int .i64 t194] 30 (0, 0)) (by (with_reducible repeat (first | refine blk_drewN ?_ _ | refine blk_drew ?_ | refine blk_alloc ?_ _)); refine blk_far ?_ NB196_225.out _; (with_reducible repeat (first | refine blk_drewN ?_ _ | refine blk_drew ?_ | refine blk_alloc ?_ _)); refine blk_far ?_ NB196_225.out _; (with_reducible repeat (first | refine blk_drewN ?_ _ | refine blk_drew ?_ | refine blk_alloc ?_ _)); exact BK196.out) hb); have n4_ := Aside0.mk (blk_below (g := gb209) (o := .cells #[.int .u32 t204, .int .i64 t205] 30 (0, 0)) (by (with_reducible repeat (first | refine blk_drewN ?_ _ | refine blk_drew ?_ | refine blk_alloc ?_ _)); refine blk_far ?_ NB209_225.out _; (with_reducible repeat (first | refine blk_drewN ?_ _ | refine blk_drew ?_ | refine blk_alloc ?_ _)); refine blk_far ?_ NB209_225.out _; (with_reducible repeat (first | refine blk_drewN ?_ _ | refine blk_drew ?_ | refine blk_alloc ?_ _)); exact BK209.out) hb); have n5_ := Aside0.mk (blk_below (g := gb210) (o := .cells #[.int .u32 t206, .int .i64 t207] 30 (0, 0)) (by (with_reducible repeat (first | refine blk_drewN ?_ _ | refine blk_drew ?_ | refine blk_alloc ?_ _)); refine blk_far ?_ NB210_225.out _; (with_reducible repeat (first | refine blk_drewN ?_ _ | refine blk_drew ?_ | refine blk_alloc ?_ _)); refine blk_far ?_ NB210_225.out _; (with_reducible repeat (first | refine blk_drewN ?_ _ | refine blk_drew ?_ | refine blk_alloc ?_ _)); exact BK210.out) hb); have n6_ := Aside0.mk (blk_below (g := gb216) (o := .cells #[.int .u32 t211, .int .i64 t212] 30 (0, 0)) (by (with_reducible repeat (first | refine blk_drewN ?_ _ | refine blk_drew ?_ | refine blk_alloc ?_ _)); refine blk_far ?_ NB216_225.out _; (with_reducible repeat (first | refine blk_drewN ?_ _ | refine blk_drew ?_ | refine blk_alloc ?_ _)); refine blk_far ?_ NB216_225.out _; (with_reducible repeat (first | refine blk_drewN ?_ _ | refine blk_drew ?_ | refine blk_alloc ?_ _)); exact BK216.out) hb); have n7_ := Aside0.mk (blk_below (g := gb217) (o := .cells #[.int .u32 t213, .int .i64 t214] 30 (0, 0)) (by (with_reducible repeat (first | refine blk_drewN ?_ _ | refine blk_drew ?_ | refine blk_alloc ?_ _)); refine blk_far ?_ NB217_225.out _; (with_reducible repeat (first | refine blk_drewN ?_ _ | refine blk_drew ?_ | refine blk_alloc ?_ _)); refine blk_far ?_ NB217_225.out _; (with_reducible repeat (first | refine blk_drewN ?_ _ | refine blk_drew ?_ | refine blk_alloc ?_ _)); exact BK217.out) hb); have n8_ := Aside0.mk (blk_below (g := gb221) (o := .cells #[.int .u32 t218, .int .i64 t219] 30 (0, 0)) (by (with_reducible repeat (first | refine blk_drewN ?_ _ | refine blk_drew ?_ | refine blk_alloc ?_ _)); refine blk_far ?_ NB221_225.out _; (with_reducible repeat (first | refine blk_drewN ?_ _ | refine blk_drew ?_ | refine blk_alloc ?_ _)); refine blk_far ?_ NB221_225.out _; (with_reducible repeat (first | refine blk_drewN ?_ _ | refine blk_drew ?_ | refine blk_alloc ?_ _)); exact BK221.out) hb); have n9_ := Aside0.mk (blk_below (g := gb225) (o := .cells #[.int .u32 t222, .int .i64 t223] 30 (0, 0)) (by (with_reducible repeat (first | refine blk_drewN ?_ _ | refine blk_drew ?_ | refine blk_alloc ?_ _)); refine blk_put (cs := #[.int .u32 t222, .int .i64 0]) ?_ 1 _ rfl; (with_reducible repeat (first | refine blk_drewN ?_ _ | refine blk_drew ?_ | refine blk_alloc ?_ _)); refine blk_put (cs := #[.int .u32 0, .int .i64 0]) ?_ 0 _ rfl; (with_reducible repeat (first | refine blk_drewN ?_ _ | refine blk_drew ?_ | refine blk_alloc ?_ _)); exact BK225.out) hb); have n10_ := Aside0.mk (below_step (by repeat (first | (with_reducible first | exact HB.out | apply below_alloc | apply pw_below_drewN | apply below_drew1 | refine below_set ?_ GE179.out | refine below_set ?_ GE180.out | refine below_set ?_ GE192.out | refine below_set ?_ GE196.out | refine below_set ?_ GE209.out | refine below_set ?_ GE210.out | refine below_set ?_ GE216.out | refine below_set ?_ GE217.out | refine below_set ?_ GE221.out | refine below_set ?_ GE225.out) | exact HB.out)) hb); clear BK179; clear BK180; clear BK192; clear BK196; clear BK209; clear BK210; clear BK216; clear BK217; clear BK221; clear BK225; clear HB; have BK179 := n0_; have BK180 := n1_; have BK192 := n2_; have BK196 := n3_; have BK209 := n4_; have BK210 := n5_; have BK216 := n6_; have BK217 := n7_; have BK221 := n8_; have BK225 := n9_; have HB := n10_; clear n0_ n1_ n2_ n3_ n4_ n5_ n6_ n7_ n8_ n9_ n10_; (try clear hb); (try clear hb2); (try clear hk); (try clear hi); have hnb147 := NB210_179.out; have hnc147 := NB179_210.out; have hnb148 := NB210_180.out; have hnc148 := NB180_210.out; have hnb149 := NB210_192.out; have hnc149 := NB192_210.out; have hnb150 := NB210_196.out; have hnc150 := NB196_210.out; have hnb151 := NB210_217.out; have hnc151 := NB217_210.out; have hnb152 := NB210_221.out; have hnc152 := NB221_210.out; have hnb153 := NB210_225.out; have hnc153 := NB225_210.out; have hcz154_0 : w146.cell? ⟨gb210, 0, none⟩ = some (.int .u32 t206) := (blk_cell BK210.out 0).trans rfl; have hcz154_1 : w146.cell? ⟨gb210, 1, none⟩ = some (.int .i64 t207) := (blk_cell BK210.out 1).trans rfl; have hfz154_0 := blk_frozen BK210.out 0; have hfz154_1 := blk_frozen BK210.out 1; have hnb155 := NB217_179.out; have hnc155 := NB179_217.out; have hnb156 := NB217_180.out; have hnc156 := NB180_217.out; have hnb157 := NB217_192.out; have hnc157 := NB192_217.out; have hnb158 := NB217_196.out; have hnc158 := NB196_217.out; have hnb159 := NB217_221.out; have hnc159 := NB221_217.out; have hnb160 := NB217_225.out; have hnc160 := NB225_217.out; have hcz161_0 : w146.cell? ⟨gb217, 0, none⟩ = some (.int .u32 t213) := (blk_cell BK217.out 0).trans rfl; have hcz161_1 : w146.cell? ⟨gb217, 1, none⟩ = some (.int .i64 t214) := (blk_cell BK217.out 1).trans rfl; have hfz161_0 := blk_frozen BK217.out 0; have hfz161_1 := blk_frozen BK217.out 1) | (go_at_call 17; (with_reducible refine (waymarklaw01_same.calls t206 t207 t213 t214 true _ A122.out).mono ?_); rintro e w162 ⟨rfl, hb⟩; have n0_ := Aside0.mk (blk_below (g := gb179) (o := .cells #[.int .u32 a1_0, .int .i64 a1_1] 30 (0, 0)) (by (with_reducible repeat (first | refine blk_drewN ?_ _ | refine blk_drew ?_ | refine blk_alloc ?_ _)); exact BK179.out) hb); have n1_ := Aside0.mk (blk_below (g := gb180) (o := .cells #[.int .u32 a2_0, .int .i64 a2_1] 30 (0, 0)) (by (with_reducible repeat (first | refine blk_drewN ?_ _ | refine blk_drew ?_ | refine blk_alloc ?_ _)); exact BK180.out) hb); have n2_ := Aside0.mk (blk_below (g := gb192) (o := .cells #[.int .u32 t189, .int .i64 t190] 30 (0, 0)) (by (with_reducible repeat (first | refine blk_drewN ?_ _ | refine blk_drew ?_ | refine blk_alloc ?_ _)); exact BK192.out) hb); have n3_ := Aside0.mk (blk_below (g := gb196) (o := .cells #[.int .u32 t193, .int .i64 t194] 30 (0, 0)) (by (with_reducible repeat (first | refine blk_drewN ?_ _ | refine blk_drew ?_ | refine blk_alloc ?_ _)); exact BK196.out) hb); have n4_ := Aside0.mk (blk_below (g := gb209) (o := .cells #[.int .u32 t204, .int .i64 t205] 30 (0, 0)) (by (with_reducible repeat (first | refine blk_drewN ?_ _ | refine blk_drew ?_ | refine blk_alloc ?_ _)); exact BK209.out) hb); have n5_ := Aside0.mk (blk_below (g := gb210) (o := .cells #[.int .u32 t206, .int .i64 t207] 30 (0, 0)) (by (with_reducible repeat (first | refine blk_drewN ?_ _ | refine blk_drew ?_ | refine blk_alloc ?_ _)); exact BK210.out) hb); have n6_ := Aside0.mk (blk_below (g := gb216) (o := .cells #[.int .u32 t211, .int .i64 t212] 30 (0, 0)) (by (with_reducible repeat (first | refine blk_drewN ?_ _ | refine blk_drew ?_ | refine blk_alloc ?_ _)); exact BK216.out) hb); have n7_ := Aside0.mk (blk_below (g := gb217) (o := .cells #[.int .u32 t213, .int .i64 t214] 30 (0, 0)) (by (with_reducible repeat (first | refine blk_drewN ?_ _ | refine blk_drew ?_ | refine blk_alloc ?_ _)); exact BK217.out) hb); have n8_ := Aside0.mk (blk_below (g := gb221) (o := .cells #[.int .u32 t218, .int .i64 t219] 30 (0, 0)) (by (with_reducible repeat (first | refine blk_drewN ?_ _ | refine blk_drew ?_ | refine blk_alloc ?_ _)); exact BK221.out) hb); have n9_ := Aside0.mk (blk_below (g := gb225) (o := .cells #[.int .u32 t222, .int .i64 t223] 30 (0, 0)) (by (with_reducible repeat (first | refine blk_drewN ?_ _ | refine blk_drew ?_ | refine blk_alloc ?_ _)); exact BK225.out) hb); have n10_ := Aside0.mk (below_step (by repeat (first | (with_reducible first | exact HB.out | apply below_alloc | apply pw_below_drewN | apply below_drew1 | refine below_set ?_ GE179.out | refine below_set ?_ GE180.out | refine below_set ?_ GE192.out | refine below_set ?_ GE196.out | refine below_set ?_ GE209.out | refine below_set ?_ GE210.out | refine below_set ?_ GE216.out | refine below_set ?_ GE217.out | refine below_set ?_ GE221.out | refine below_set ?_ GE225.out) | exact HB.out)) hb); clear BK179; clear BK180; clear BK192; clear BK196; clear BK209; clear BK210; clear BK216; clear BK217; clear BK221; clear BK225; clear HB; have BK179 := n0_; have BK180 := n1_; have BK192 := n2_; have BK196 := n3_; have BK209 := n4_; have BK210 := n5_; have BK216 := n6_; have BK217 := n7_; have BK221 := n8_; have BK225 := n9_; have HB := n10_; clear n0_ n1_ n2_ n3_ n4_ n5_ n6_ n7_ n8_ n9_ n10_; (try clear hb); (try clear hb2); (try clear hk); (try clear hi); have hnb163 := NB221_179.out; have hnc163 := NB179_221.out; have hnb164 := NB221_180.out; have hnc164 := NB180_221.out; have hnb165 := NB221_192.out; have hnc165 := NB192_221.out; have hnb166 := NB221_196.out; have hnc166 := NB196_221.out; have hnb167 := NB221_225.out; have hnc167 := NB225_221.out; have hcz168_0 : w162.cell? ⟨gb221, 0, none⟩ = some (.int .u32 t218) := (blk_cell BK221.out 0).trans rfl; have hcz168_1 : w162.cell? ⟨gb221, 1, none⟩ = some (.int .i64 t219) := (blk_cell BK221.out 1).trans rfl; have hfz168_0 := blk_frozen BK221.out 0; have hfz168_1 := blk_frozen BK221.out 1; have hnb169 := NB225_179.out; have hnc169 := NB179_225.out; have hnb170 := NB225_180.out; have hnc170 := NB180_225.out; have hnb171 := NB225_192.out; have hnc171 := NB192_225.out; have hnb172 := NB225_196.out; have hnc172 := NB196_225.out; have hcz173_0 : w162.cell? ⟨gb225, 0, none⟩ = some (.int .u32 t222) := (blk_cell BK225.out 0).trans rfl; have hcz173_1 : w162.cell? ⟨gb225, 1, none⟩ = some (.int .i64 t223) := (blk_cell BK225.out 1).trans rfl; have hfz173_0 := blk_frozen BK225.out 0; have hfz173_1 := blk_frozen BK225.out 1) | (go_at_call 17; (with_reducible refine (waymarklaw01_same.calls t218 t219 t222 t223 true _ A125.out).mono ?_); rintro e w174 ⟨rfl, hb⟩; have n0_ := Aside0.mk (blk_below (g := gb179) (o := .cells #[.int .u32 a1_0, .int .i64 a1_1] 30 (0, 0)) (by (with_reducible repeat (first | refine blk_drewN ?_ _ | refine blk_drew ?_ | refine blk_alloc ?_ _)); exact BK179.out) hb); have n1_ := Aside0.mk (blk_below (g := gb180) (o := .cells #[.int .u32 a2_0, .int .i64 a2_1] 30 (0, 0)) (by (with_reducible repeat (first | refine blk_drewN ?_ _ | refine blk_drew ?_ | refine blk_alloc ?_ _)); exact BK180.out) hb); have n2_ := Aside0.mk (blk_below (g := gb192) (o := .cells #[.int .u32 t189, .int .i64 t190] 30 (0, 0)) (by (with_reducible repeat (first | refine blk_drewN ?_ _ | refine blk_drew ?_ | refine blk_alloc ?_ _)); exact BK192.out) hb); have n3_ := Aside0.mk (blk_below (g := gb196) (o := .cells #[.int .u32 t193, .int .i64 t194] 30 (0, 0)) (by (with_reducible repeat (first | refine blk_drewN ?_ _ | refine blk_drew ?_ | refine blk_alloc ?_ _)); exact BK196.out) hb); have n4_ := Aside0.mk (blk_below (g := gb209) (o := .cells #[.int .u32 t204, .int .i64 t205] 30 (0, 0)) (by (with_reducible repeat (first | refine blk_drewN ?_ _ | refine blk_drew ?_ | refine blk_alloc ?_ _)); exact BK209.out) hb); have n5_ := Aside0.mk (blk_below (g := gb210) (o := .cells #[.int .u32 t206, .int .i64 t207] 30 (0, 0)) (by (with_reducible repeat (first | refine blk_drewN ?_ _ | refine blk_drew ?_ | refine blk_alloc ?_ _)); exact BK210.out) hb); have n6_ := Aside0.mk (blk_below (g := gb216) (o := .cells #[.int .u32 t211, .int .i64 t212] 30 (0, 0)) (by (with_reducible repeat (first | refine blk_drewN ?_ _ | refine blk_drew ?_ | refine blk_alloc ?_ _)); exact BK216.out) hb); have n7_ := Aside0.mk (blk_below (g := gb217) (o := .cells #[.int .u32 t213, .int .i64 t214] 30 (0, 0)) (by (with_reducible repeat (first | refine blk_drewN ?_ _ | refine blk_drew ?_ | refine blk_alloc ?_ _)); exact BK217.out) hb); have n8_ := Aside0.mk (blk_below (g := gb221) (o := .cells #[.int .u32 t218, .int .i64 t219] 30 (0, 0)) (by (with_reducible repeat (first | refine blk_drewN ?_ _ | refine blk_drew ?_ | refine blk_alloc ?_ _)); exact BK221.out) hb); have n9_ := Aside0.mk (blk_below (g := gb225) (o := .cells #[.int .u32 t222, .int .i64 t223] 30 (0, 0)) (by (with_reducible repeat (first | refine blk_drewN ?_ _ | refine blk_drew ?_ | refine blk_alloc ?_ _)); exact BK225.out) hb); have n10_ := Aside0.mk (below_step (by repeat (first | (with_reducible first | exact HB.out | apply below_alloc | apply pw_below_drewN | apply below_drew1 | refine below_set ?_ GE179.out | refine below_set ?_ GE180.out | refine below_set ?_ GE192.out | refine below_set ?_ GE196.out | refine below_set ?_ GE209.out | refine below_set ?_ GE210.out | refine below_set ?_ GE216.out | refine below_set ?_ GE217.out | refine below_set ?_ GE221.out | refine below_set ?_ GE225.out) | exact HB.out)) hb); clear BK179; clear BK180; clear BK192; clear BK196; clear BK209; clear BK210; clear BK216; clear BK217; clear BK221; clear BK225; clear HB; have BK179 := n0_; have BK180 := n1_; have BK192 := n2_; have BK196 := n3_; have BK209 := n4_; have BK210 := n5_; have BK216 := n6_; have BK217 := n7_; have BK221 := n8_; have BK225 := n9_; have HB := n10_; clear n0_ n1_ n2_ n3_ n4_ n5_ n6_ n7_ n8_ n9_ n10_; (try clear hb); (try clear hb2); (try clear hk); (try clear hi)))
                        go_meet
                        case rel => exact ⟨_, ((t220 != t224)), (by first | rfl | (simp; done) | (simp [*]; done)), H', ⟨by have := HJ10.out; first | omega | exact Nat.le_refl _⟩, ⟨by (with_reducible repeat (first | refine blk_drewN ?_ _ | refine blk_drew ?_ | refine blk_alloc ?_ _)); exact BK179.out⟩, ⟨by (with_reducible repeat (first | refine blk_drewN ?_ _ | refine blk_drew ?_ | refine blk_alloc ?_ _)); exact BK180.out⟩, ⟨by (with_reducible repeat (first | refine blk_drewN ?_ _ | refine blk_drew ?_ | refine blk_alloc ?_ _)); exact BK192.out⟩, ⟨by (with_reducible repeat (first | refine blk_drewN ?_ _ | refine blk_drew ?_ | refine blk_alloc ?_ _)); exact BK196.out⟩, ⟨by (with_reducible repeat (first | refine blk_drewN ?_ _ | refine blk_drew ?_ | refine blk_alloc ?_ _)); exact BK209.out⟩, ⟨by (with_reducible repeat (first | refine blk_drewN ?_ _ | refine blk_drew ?_ | refine blk_alloc ?_ _)); exact BK210.out⟩, ⟨by (with_reducible repeat (first | refine blk_drewN ?_ _ | refine blk_drew ?_ | refine blk_alloc ?_ _)); exact BK216.out⟩, ⟨by (with_reducible repeat (first | refine blk_drewN ?_ _ | refine blk_drew ?_ | refine blk_alloc ?_ _)); exact BK217.out⟩, ⟨by (with_reducible repeat (first | refine blk_drewN ?_ _ | refine blk_drew ?_ | refine blk_alloc ?_ _)); exact BK221.out⟩, ⟨by (with_reducible repeat (first | refine blk_drewN ?_ _ | refine blk_drew ?_ | refine blk_alloc ?_ _)); exact BK225.out⟩, ⟨by repeat (first | (with_reducible first | exact HB.out | apply below_alloc | apply pw_below_drewN | apply below_drew1 | refine below_set ?_ GE179.out | refine below_set ?_ GE180.out | refine below_set ?_ GE192.out | refine below_set ?_ GE196.out | refine below_set ?_ GE209.out | refine below_set ?_ GE210.out | refine below_set ?_ GE216.out | refine below_set ?_ GE217.out | refine below_set ?_ GE221.out | refine below_set ?_ GE225.out) | exact HB.out)⟩⟩
                      · replace c126 := Bool.eq_false_iff.mpr c126
                        subst c126
                        have H1 : (none) = some r := by rw [if_neg (show ¬ (false = true) by decide)] at H; exact H
                        clear H
                        have H := H1
                        clear H1
                        exact absurd H (by simp)
                    · rw [if_neg c124] at H
                      exact absurd H (by simp)
                  · replace c123 := Bool.eq_false_iff.mpr c123
                    subst c123
                    have H1 : (none) = some r := by rw [if_neg (show ¬ (false = true) by decide)] at H; exact H
                    clear H
                    have H := H1
                    clear H1
                    exact absurd H (by simp)
                · replace c121 := Bool.eq_false_iff.mpr c121
                  subst c121
                  have H1 : (none) = some r := by rw [if_neg (show ¬ (false = true) by decide)] at H; exact H
                  clear H
                  have H := H1
                  clear H1
                  exact absurd H (by simp)
              · rw [if_neg c119] at H
                exact absurd H (by simp)
            · rw [if_neg c118] at H
              exact absurd H (by simp)
          · rw [if_neg c117] at H
            exact absurd H (by simp)
        case rest =>
          clear HC46
          try clear c1
          try clear c2
          try clear p2
          try clear c3
          try clear c4
          try clear c5
          try clear c6
          try clear c7
          try clear c8
          try clear c9
          try clear c10
          try clear c11
          try clear c12
          try clear c13
          try clear c14
          try clear c15
          try clear c16
          try clear c17
          try clear c18
          try clear c19
          try clear c20
          try clear c21
          try clear c22
          try clear c23
          try clear c25
          try clear c25b0
          try clear c25b1
          try clear c26
          try clear c26b0
          try clear c26b1
          try clear c27
          try clear c27b0
          try clear c27b1
          try clear c28
          try clear c28b0
          try clear c28b1
          try clear c30
          try clear c31
          try clear c32
          try clear c33
          try clear c35
          try clear c36
          try clear c39
          try clear c47
          try clear c48
          try clear c49
          try clear c58
          try clear c59
          try clear c60
          try clear c61
          try clear c62
          try clear c64
          try clear c65
          try clear c66
          try clear c67
          try clear c73
          try clear c74
          try clear c75
          try clear c76
          try clear c77
          try clear c78
          try clear c79
          try clear c81
          try clear c82
          try clear c83
          try clear c84
          try clear c85
          try clear c86
          try clear c89
          try clear c90
          try clear c94
          try clear c95
          try clear c96
          try clear c97
          try clear c98
          try clear c99
          try clear c100
          try clear c101
          try clear c107
          try clear c108
          try clear c109
          try clear c110
          try clear c111
          try clear c112
          try clear c113
          try clear c114
          try clear c115
          try clear c117
          try clear c117b0
          try clear c117b1
          try clear c118
          try clear c118b0
          try clear c118b1
          try clear c119
          try clear c119b0
          try clear c119b1
          try clear c121
          try clear c123
          try clear c124
          try clear c124b0
          try clear c124b1
          try clear c126
          try clear c127
          try clear c128
          try clear c129
          try clear c130
          try clear c131
          try clear c132
          try clear c133
          try clear c134
          try clear c135
          try clear c137
          try clear c138
          try clear c139
          try clear c140
          try clear c141
          try clear c142
          try clear c143
          try clear c144
          try clear c147
          try clear c148
          try clear c149
          try clear c150
          try clear c151
          try clear c152
          try clear c153
          try clear c155
          try clear c156
          try clear c157
          try clear c158
          try clear c159
          try clear c160
          try clear c163
          try clear c164
          try clear c165
          try clear c166
          try clear c167
          try clear c169
          try clear c170
          try clear c171
          try clear c172
          try clear hcz102_0
          try clear hcz102_1
          try clear hcz103_0
          try clear hcz103_1
          try clear hcz104_0
          try clear hcz104_1
          try clear hcz116_0
          try clear hcz116_1
          try clear hcz136_0
          try clear hcz136_1
          try clear hcz145_0
          try clear hcz145_1
          try clear hcz154_0
          try clear hcz154_1
          try clear hcz161_0
          try clear hcz161_1
          try clear hcz168_0
          try clear hcz168_1
          try clear hcz173_0
          try clear hcz173_1
          try clear hcz18_0
          try clear hcz18_1
          try clear hcz24_0
          try clear hcz24_1
          try clear hcz34_0
          try clear hcz34_1
          try clear hcz37_0
          try clear hcz37_1
          try clear hcz50_0
          try clear hcz50_1
          try clear hcz52_0
          try clear hcz52_1
          try clear hcz54_0
          try clear hcz54_1
          try clear hcz63_0
          try clear hcz63_1
          try clear hcz68_0
          try clear hcz68_1
          try clear hcz69_0
          try clear hcz69_1
          try clear hcz80_0
          try clear hcz80_1
          try clear hcz87_0
          try clear hcz87_1
          try clear hcz88_0
          try clear hcz88_1
          try clear hcz91_0
          try clear hcz91_1
          try clear hfz102_0
          try clear hfz102_1
          try clear hfz103_0
          try clear hfz103_1
          try clear hfz104_0
          try clear hfz104_1
          try clear hfz116_0
          try clear hfz116_1
          try clear hfz136_0
          try clear hfz136_1
          try clear hfz145_0
          try clear hfz145_1
          try clear hfz154_0
          try clear hfz154_1
          try clear hfz161_0
          try clear hfz161_1
          try clear hfz168_0
          try clear hfz168_1
          try clear hfz173_0
          try clear hfz173_1
          try clear hfz18_0
          try clear hfz18_1
          try clear hfz24_0
          try clear hfz24_1
          try clear hfz34_0
          try clear hfz34_1
          try clear hfz37_0
          try clear hfz37_1
          try clear hfz50_0
          try clear hfz50_1
          try clear hfz52_0
          try clear hfz52_1
          try clear hfz54_0
          try clear hfz54_1
          try clear hfz63_0
          try clear hfz63_1
          try clear hfz68_0
          try clear hfz68_1
          try clear hfz69_0
          try clear hfz69_1
          try clear hfz80_0
          try clear hfz80_1
          try clear hfz87_0
          try clear hfz87_1
          try clear hfz88_0
          try clear hfz88_1
          try clear hfz91_0
          try clear hfz91_1
          try clear p2
          obtain ⟨kq, x168_45, rfl, HA, HJ45, BK179, BK180, BK192, BK196, BK209, BK210, BK216, BK217, BK221, BK225, HB⟩ := hcut
          cases kq with
          | zero => exact absurd HA.out (by simp [waymarklaw01_AddrPrefixes.j1])
          | succ kj45 =>
            have H := HA.out
            clear HA
            simp only [waymarklaw01_AddrPrefixes.j1] at H
            by_cases c175 : x168_45 = true
            · subst c175
              have H1 : (none) = some r := by rw [if_pos rfl] at H; exact H
              clear H
              have H := H1
              clear H1
              exact absurd H (by simp)
            · replace c175 := Bool.eq_false_iff.mpr c175
              subst c175
              have H1 : ((addr_Check.f kj45 a1_0 a1_1).bind fun t229 => ((waymarkref01_Check.f kj45 a1_0 a1_1).bind fun t230 => (if t229 = t230 then ((addr_In.f kj45 a0 a1_0 a1_1).bind fun t231 => ((waymarkref01_In.f kj45 a0 a1_0 a1_1).bind fun t232 => (if (t231 == t232) = true then ((addr_Within.f kj45 a1_0 a1_1 a2_0 a2_1).bind fun t233 => ((waymarkref01_Within.f kj45 a1_0 a1_1 a2_0 a2_1).bind fun t234 => (if (t233 == t234) = true then ((addr_Cmp.f kj45 a1_0 a1_1 a2_0 a2_1).bind fun t235 => ((waymarkref01_Cmp.f kj45 a1_0 a1_1 a2_0 a2_1).bind fun t236 => (some (t235 == t236)))) else (none)))) else (none)))) else (none)))) = some r := by rw [if_neg (show ¬ (false = true) by decide)] at H; exact H
              clear H
              have H := H1
              clear H1
              replace H := Option.bind_eq_some_iff.mp H
              obtain ⟨t229, A1760, H⟩ := H
              replace H : ((waymarkref01_Check.f kj45 a1_0 a1_1).bind fun t230 => (if t229 = t230 then ((addr_In.f kj45 a0 a1_0 a1_1).bind fun t231 => ((waymarkref01_In.f kj45 a0 a1_0 a1_1).bind fun t232 => (if (t231 == t232) = true then ((addr_Within.f kj45 a1_0 a1_1 a2_0 a2_1).bind fun t233 => ((waymarkref01_Within.f kj45 a1_0 a1_1 a2_0 a2_1).bind fun t234 => (if (t233 == t234) = true then ((addr_Cmp.f kj45 a1_0 a1_1 a2_0 a2_1).bind fun t235 => ((waymarkref01_Cmp.f kj45 a1_0 a1_1 a2_0 a2_1).bind fun t236 => (some (t235 == t236)))) else (none)))) else (none)))) else (none))) = some r := H
              have A176 := Aside0.mk A1760
              clear A1760
              replace H := Option.bind_eq_some_iff.mp H
              obtain ⟨t230, A1770, H⟩ := H
              replace H : (if t229 = t230 then ((addr_In.f kj45 a0 a1_0 a1_1).bind fun t231 => ((waymarkref01_In.f kj45 a0 a1_0 a1_1).bind fun t232 => (if (t231 == t232) = true then ((addr_Within.f kj45 a1_0 a1_1 a2_0 a2_1).bind fun t233 => ((waymarkref01_Within.f kj45 a1_0 a1_1 a2_0 a2_1).bind fun t234 => (if (t233 == t234) = true then ((addr_Cmp.f kj45 a1_0 a1_1 a2_0 a2_1).bind fun t235 => ((waymarkref01_Cmp.f kj45 a1_0 a1_1 a2_0 a2_1).bind fun t236 => (some (t235 == t236)))) else (none)))) else (none)))) else (none)) = some r := H
              have A177 := Aside0.mk A1770
              clear A1770
              by_cases c178 : t229 = t230
              · rw [if_pos c178] at H
                have c178b0 : (t229 == t230) = true := beq_iff_eq.mpr c178
                have c178b1 : (t229 != t230) = false := bne_eq_false_iff_eq.mpr c178
                clear c178
                replace H := Option.bind_eq_some_iff.mp H
                obtain ⟨t231, A1790, H⟩ := H
                replace H : ((waymarkref01_In.f kj45 a0 a1_0 a1_1).bind fun t232 => (if (t231 == t232) = true then ((addr_Within.f kj45 a1_0 a1_1 a2_0 a2_1).bind fun t233 => ((waymarkref01_Within.f kj45 a1_0 a1_1 a2_0 a2_1).bind fun t234 => (if (t233 == t234) = true then ((addr_Cmp.f kj45 a1_0 a1_1 a2_0 a2_1).bind fun t235 => ((waymarkref01_Cmp.f kj45 a1_0 a1_1 a2_0 a2_1).bind fun t236 => (some (t235 == t236)))) else (none)))) else (none))) = some r := H
                have A179 := Aside0.mk A1790
                clear A1790
                replace H := Option.bind_eq_some_iff.mp H
                obtain ⟨t232, A1800, H⟩ := H
                replace H : (if (t231 == t232) = true then ((addr_Within.f kj45 a1_0 a1_1 a2_0 a2_1).bind fun t233 => ((waymarkref01_Within.f kj45 a1_0 a1_1 a2_0 a2_1).bind fun t234 => (if (t233 == t234) = true then ((addr_Cmp.f kj45 a1_0 a1_1 a2_0 a2_1).bind fun t235 => ((waymarkref01_Cmp.f kj45 a1_0 a1_1 a2_0 a2_1).bind fun t236 => (some (t235 == t236)))) else (none)))) else (none)) = some r := H
                have A180 := Aside0.mk A1800
                clear A1800
                by_cases c181 : (t231 == t232) = true
                · rw [if_pos c181] at H
                  have c181b0 : (t231 == t232) = true := c181
                  (try (have c181b1 : decide (t231 = t232) = true := by simpa using c181))
                  (try (have c181b2 : (t231 == t232) = true := by simpa using c181))
                  clear c181
                  replace H := Option.bind_eq_some_iff.mp H
                  obtain ⟨t233, A1820, H⟩ := H
                  replace H : ((waymarkref01_Within.f kj45 a1_0 a1_1 a2_0 a2_1).bind fun t234 => (if (t233 == t234) = true then ((addr_Cmp.f kj45 a1_0 a1_1 a2_0 a2_1).bind fun t235 => ((waymarkref01_Cmp.f kj45 a1_0 a1_1 a2_0 a2_1).bind fun t236 => (some (t235 == t236)))) else (none))) = some r := H
                  have A182 := Aside0.mk A1820
                  clear A1820
                  replace H := Option.bind_eq_some_iff.mp H
                  obtain ⟨t234, A1830, H⟩ := H
                  replace H : (if (t233 == t234) = true then ((addr_Cmp.f kj45 a1_0 a1_1 a2_0 a2_1).bind fun t235 => ((waymarkref01_Cmp.f kj45 a1_0 a1_1 a2_0 a2_1).bind fun t236 => (some (t235 == t236)))) else (none)) = some r := H
                  have A183 := Aside0.mk A1830
                  clear A1830
                  by_cases c184 : (t233 == t234) = true
                  · rw [if_pos c184] at H
                    have c184b0 : (t233 == t234) = true := c184
                    (try (have c184b1 : decide (t233 = t234) = true := by simpa using c184))
                    (try (have c184b2 : (t233 == t234) = true := by simpa using c184))
                    clear c184
                    replace H := Option.bind_eq_some_iff.mp H
                    obtain ⟨t235, A1850, H⟩ := H
                    replace H : ((waymarkref01_Cmp.f kj45 a1_0 a1_1 a2_0 a2_1).bind fun t236 => (some (t235 == t236))) = some r := H
                    have A185 := Aside0.mk A1850
                    clear A1850
                    replace H := Option.bind_eq_some_iff.mp H
                    obtain ⟨t236, A1860, H⟩ := H
                    replace H : (some (t235 == t236)) = some r := H
                    have A186 := Aside0.mk A1860
                    clear A1860
                    obtain rfl := Option.some.inj H
                    try go_wp2
                    have n0_ := Aside0.mk (blk_drew BK179.out)
                    have n1_ := Aside0.mk (blk_drew BK180.out)
                    have n2_ := Aside0.mk (blk_drew BK192.out)
                    have n3_ := Aside0.mk (blk_drew BK196.out)
                    have n4_ := Aside0.mk (blk_drew BK209.out)
                    have n5_ := Aside0.mk (blk_drew BK210.out)
                    have n6_ := Aside0.mk (blk_drew BK216.out)
                    have n7_ := Aside0.mk (blk_drew BK217.out)
                    have n8_ := Aside0.mk (blk_drew BK221.out)
                    have n9_ := Aside0.mk (blk_drew BK225.out)
                    have n10_ := Aside0.mk (below_drew1 HB.out)
                    clear BK179
                    clear BK180
                    clear BK192
                    clear BK196
                    clear BK209
                    clear BK210
                    clear BK216
                    clear BK217
                    clear BK221
                    clear BK225
                    clear HB
                    have BK179 := n0_
                    have BK180 := n1_
                    have BK192 := n2_
                    have BK196 := n3_
                    have BK209 := n4_
                    have BK210 := n5_
                    have BK216 := n6_
                    have BK217 := n7_
                    have BK221 := n8_
                    have BK225 := n9_
                    have HB := n10_
                    clear n0_ n1_ n2_ n3_ n4_ n5_ n6_ n7_ n8_ n9_ n10_
                    refine start_ (n := 33) (S := fun w' => w'.cell? ⟨gb179, 0, none⟩ = some (.int .u32 a1_0) ∧ w'.cell? ⟨gb179, 1, none⟩ = some (.int .i64 a1_1) ∧ w'.cell? ⟨gb180, 0, none⟩ = some (.int .u32 a2_0) ∧ w'.cell? ⟨gb180, 1, none⟩ = some (.int .i64 a2_1)) (ds := []) #[false, false, false, false, false, false, false, false, false, false, false, false, false, false, false, false, false, false, false, false, false, false, false, false, false, false, false, false, false, false, false, false, false] (by kernel_rfl) rfl rfl ⟨(blk_cell BK179.out 0).trans rfl, (blk_cell BK179.out 1).trans rfl, (blk_cell BK180.out 0).trans rfl, (blk_cell BK180.out 1).trans rfl⟩ (fun hHeld => ?_); refine with_tabW waymarklaw01_AddrPrefixes.tab17 waymarklaw01_AddrPrefixes.bits17 (fun HT_ HW_ => ?_)
                    generalize wc.drew = w187 at BK179 BK180 BK192 BK196 BK209 BK210 BK216 BK217 BK221 BK225 HB hHeld ⊢
                    refine take_ (i := 0) (N := some 169) (v := ?_) (a' := ?_) #[true, false, false, false, false, false, false, false, false, false, false, false, false, false, false, false, false, false, false, false, false, false, false, false, false, false, false, false, false, false, false, false, false] rfl rfl (take_ofW HT_.out HW_.out (by kernel_rfl)) (fun _ _ _ h => h) (Or.inl ⟨by rfl, ?_⟩) hHeld ?_ ?_
                    rotate_left
                    · rintro w' ⟨s0, s1, s2, s3⟩
                      go_simp
                      with_reducible rfl
                    rotate_left
                    · simp only [Act.put, List.setIfInBounds_toArray, List.set_cons_zero, List.set_cons_succ, i64_w, i32_w]
                      rfl
                    refine take_ (i := 2) (N := some 171) (v := ?_) (a' := ?_) #[true, false, true, false, false, false, false, false, false, false, false, false, false, false, false, false, false, false, false, false, false, false, false, false, false, false, false, false, false, false, false, false, false] rfl rfl (take_ofW HT_.out HW_.out (by kernel_rfl)) (fun _ _ _ h => h) (Or.inl ⟨by rfl, ?_⟩) hHeld ?_ ?_
                    rotate_left
                    · rintro w' ⟨s0, s1, s2, s3⟩
                      go_simp
                      with_reducible rfl
                    rotate_left
                    · simp only [Act.put, List.setIfInBounds_toArray, List.set_cons_zero, List.set_cons_succ, i64_w, i32_w]
                      rfl
                    refine one_ (i := 1) (N := some 170) #[true, true, true, false, false, false, false, false, false, false, false, false, false, false, false, false, false, false, false, false, false, false, false, false, false, false, false, false, false, false, false, false, false] rfl rfl (one_of HT_.out (by kernel_rfl)) (by decide) (fun K hK => ?_)
                    refine goes_ Try.func24 (by kernel_rfl) rfl #[.agg #[.int .u32 a1_0, .int .i64 a1_1]] (by rfl) rfl rfl (by (try simp only [List.map_toArray, List.map_cons, List.map_nil]); first | done | rfl | (simp only [List.length_drop, List.length_take]; rfl)) ?_
                    with_reducible refine (addr_Check.calls kj45 a1_0 a1_1 t229 _ A176.out).mono ?_
                    rintro e w188 ⟨rfl, hb⟩
                    refine ⟨_, rfl, ?_⟩
                    have n0_ := Aside0.mk (blk_below (g := gb179) (o := .cells #[.int .u32 a1_0, .int .i64 a1_1] 30 (0, 0)) (by (with_reducible repeat (first | refine blk_drewN ?_ _ | refine blk_drew ?_ | refine blk_alloc ?_ _)); exact BK179.out) hb)
                    have n1_ := Aside0.mk (blk_below (g := gb180) (o := .cells #[.int .u32 a2_0, .int .i64 a2_1] 30 (0, 0)) (by (with_reducible repeat (first | refine blk_drewN ?_ _ | refine blk_drew ?_ | refine blk_alloc ?_ _)); exact BK180.out) hb)
                    have n2_ := Aside0.mk (blk_below (g := gb192) (o := .cells #[.int .u32 t189, .int .i64 t190] 30 (0, 0)) (by (with_reducible repeat (first | refine blk_drewN ?_ _ | refine blk_drew ?_ | refine blk_alloc ?_ _)); exact BK192.out) hb)
                    have n3_ := Aside0.mk (blk_below (g := gb196) (o := .cells #[.int .u32 t193, .int .i64 t194] 30 (0, 0)) (by (with_reducible repeat (first | refine blk_drewN ?_ _ | refine blk_drew ?_ | refine blk_alloc ?_ _)); exact BK196.out) hb)
                    have n4_ := Aside0.mk (blk_below (g := gb209) (o := .cells #[.int .u32 t204, .int .i64 t205] 30 (0, 0)) (by (with_reducible repeat (first | refine blk_drewN ?_ _ | refine blk_drew ?_ | refine blk_alloc ?_ _)); exact BK209.out) hb)
                    have n5_ := Aside0.mk (blk_below (g := gb210) (o := .cells #[.int .u32 t206, .int .i64 t207] 30 (0, 0)) (by (with_reducible repeat (first | refine blk_drewN ?_ _ | refine blk_drew ?_ | refine blk_alloc ?_ _)); exact BK210.out) hb)
                    have n6_ := Aside0.mk (blk_below (g := gb216) (o := .cells #[.int .u32 t211, .int .i64 t212] 30 (0, 0)) (by (with_reducible repeat (first | refine blk_drewN ?_ _ | refine blk_drew ?_ | refine blk_alloc ?_ _)); exact BK216.out) hb)
                    have n7_ := Aside0.mk (blk_below (g := gb217) (o := .cells #[.int .u32 t213, .int .i64 t214] 30 (0, 0)) (by (with_reducible repeat (first | refine blk_drewN ?_ _ | refine blk_drew ?_ | refine blk_alloc ?_ _)); exact BK217.out) hb)
                    have n8_ := Aside0.mk (blk_below (g := gb221) (o := .cells #[.int .u32 t218, .int .i64 t219] 30 (0, 0)) (by (with_reducible repeat (first | refine blk_drewN ?_ _ | refine blk_drew ?_ | refine blk_alloc ?_ _)); exact BK221.out) hb)
                    have n9_ := Aside0.mk (blk_below (g := gb225) (o := .cells #[.int .u32 t222, .int .i64 t223] 30 (0, 0)) (by (with_reducible repeat (first | refine blk_drewN ?_ _ | refine blk_drew ?_ | refine blk_alloc ?_ _)); exact BK225.out) hb)
                    have n10_ := Aside0.mk (below_step (by repeat (first | (with_reducible first | exact HB.out | apply below_alloc | apply pw_below_drewN | apply below_drew1 | refine below_set ?_ GE179.out | refine below_set ?_ GE180.out | refine below_set ?_ GE192.out | refine below_set ?_ GE196.out | refine below_set ?_ GE209.out | refine below_set ?_ GE210.out | refine below_set ?_ GE216.out | refine below_set ?_ GE217.out | refine below_set ?_ GE221.out | refine below_set ?_ GE225.out) | exact HB.out)) hb)
                    clear BK179
                    clear BK180
                    clear BK192
                    clear BK196
                    clear BK209
                    clear BK210
                    clear BK216
                    clear BK217
                    clear BK221
                    clear BK225
                    clear HB
                    have BK179 := n0_
                    have BK180 := n1_
                    have BK192 := n2_
                    have BK196 := n3_
                    have BK209 := n4_
                    have BK210 := n5_
                    have BK216 := n6_
                    have BK217 := n7_
                    have BK221 := n8_
                    have BK225 := n9_
                    have HB := n10_
                    clear n0_ n1_ n2_ n3_ n4_ n5_ n6_ n7_ n8_ n9_ n10_
                    (try clear hb)
                    (try clear hb2)
                    (try clear hk)
                    (try clear hi)
                    refine hK.out _ _ ⟨(blk_cell BK179.out 0).trans rfl, (blk_cell BK179.out 1).trans rfl, (blk_cell BK180.out 0).trans rfl, (blk_cell BK180.out 1).trans rfl⟩ (fun hHeld => ?_)
                    clear hK K
                    refine norm_ (a' := ?_) ?_ ?_
                    rotate_left
                    · show Act.put _ (some 170) _ = _
                      simp only [Act.put, List.setIfInBounds_toArray, List.set_cons_zero, List.set_cons_succ, i64_w, i32_w]
                      rfl
                    refine one_ (i := 3) (N := some 172) #[true, true, true, true, false, false, false, false, false, false, false, false, false, false, false, false, false, false, false, false, false, false, false, false, false, false, false, false, false, false, false, false, false] rfl rfl (one_of HT_.out (by kernel_rfl)) (by decide) (fun K hK => ?_)
                    refine goes_ Try.func25 (by kernel_rfl) rfl #[.agg #[.int .u32 a1_0, .int .i64 a1_1]] (by rfl) rfl rfl (by (try simp only [List.map_toArray, List.map_cons, List.map_nil]); first | done | rfl | (simp only [List.length_drop, List.length_take]; rfl)) ?_
                    with_reducible refine (waymarkref01_Check.calls kj45 a1_0 a1_1 t230 _ A177.out).mono ?_
                    rintro e w189 ⟨rfl, hb⟩
                    refine ⟨_, rfl, ?_⟩
                    have n0_ := Aside0.mk (blk_below (g := gb179) (o := .cells #[.int .u32 a1_0, .int .i64 a1_1] 30 (0, 0)) (by (with_reducible repeat (first | refine blk_drewN ?_ _ | refine blk_drew ?_ | refine blk_alloc ?_ _)); exact BK179.out) hb)
                    have n1_ := Aside0.mk (blk_below (g := gb180) (o := .cells #[.int .u32 a2_0, .int .i64 a2_1] 30 (0, 0)) (by (with_reducible repeat (first | refine blk_drewN ?_ _ | refine blk_drew ?_ | refine blk_alloc ?_ _)); exact BK180.out) hb)
                    have n2_ := Aside0.mk (blk_below (g := gb192) (o := .cells #[.int .u32 t189, .int .i64 t190] 30 (0, 0)) (by (with_reducible repeat (first | refine blk_drewN ?_ _ | refine blk_drew ?_ | refine blk_alloc ?_ _)); exact BK192.out) hb)
                    have n3_ := Aside0.mk (blk_below (g := gb196) (o := .cells #[.int .u32 t193, .int .i64 t194] 30 (0, 0)) (by (with_reducible repeat (first | refine blk_drewN ?_ _ | refine blk_drew ?_ | refine blk_alloc ?_ _)); exact BK196.out) hb)
                    have n4_ := Aside0.mk (blk_below (g := gb209) (o := .cells #[.int .u32 t204, .int .i64 t205] 30 (0, 0)) (by (with_reducible repeat (first | refine blk_drewN ?_ _ | refine blk_drew ?_ | refine blk_alloc ?_ _)); exact BK209.out) hb)
                    have n5_ := Aside0.mk (blk_below (g := gb210) (o := .cells #[.int .u32 t206, .int .i64 t207] 30 (0, 0)) (by (with_reducible repeat (first | refine blk_drewN ?_ _ | refine blk_drew ?_ | refine blk_alloc ?_ _)); exact BK210.out) hb)
                    have n6_ := Aside0.mk (blk_below (g := gb216) (o := .cells #[.int .u32 t211, .int .i64 t212] 30 (0, 0)) (by (with_reducible repeat (first | refine blk_drewN ?_ _ | refine blk_drew ?_ | refine blk_alloc ?_ _)); exact BK216.out) hb)
                    have n7_ := Aside0.mk (blk_below (g := gb217) (o := .cells #[.int .u32 t213, .int .i64 t214] 30 (0, 0)) (by (with_reducible repeat (first | refine blk_drewN ?_ _ | refine blk_drew ?_ | refine blk_alloc ?_ _)); exact BK217.out) hb)
                    have n8_ := Aside0.mk (blk_below (g := gb221) (o := .cells #[.int .u32 t218, .int .i64 t219] 30 (0, 0)) (by (with_reducible repeat (first | refine blk_drewN ?_ _ | refine blk_drew ?_ | refine blk_alloc ?_ _)); exact BK221.out) hb)
                    have n9_ := Aside0.mk (blk_below (g := gb225) (o := .cells #[.int .u32 t222, .int .i64 t223] 30 (0, 0)) (by (with_reducible repeat (first | refine blk_drewN ?_ _ | refine blk_drew ?_ | refine blk_alloc ?_ _)); exact BK225.out) hb)
                    have n10_ := Aside0.mk (below_step (by repeat (first | (with_reducible first | exact HB.out | apply below_alloc | apply pw_below_drewN | apply below_drew1 | refine below_set ?_ GE179.out | refine below_set ?_ GE180.out | refine below_set ?_ GE192.out | refine below_set ?_ GE196.out | refine below_set ?_ GE209.out | refine below_set ?_ GE210.out | refine below_set ?_ GE216.out | refine below_set ?_ GE217.out | refine below_set ?_ GE221.out | refine below_set ?_ GE225.out) | exact HB.out)) hb)
                    clear BK179
                    clear BK180
                    clear BK192
                    clear BK196
                    clear BK209
                    clear BK210
                    clear BK216
                    clear BK217
                    clear BK221
                    clear BK225
                    clear HB
                    have BK179 := n0_
                    have BK180 := n1_
                    have BK192 := n2_
                    have BK196 := n3_
                    have BK209 := n4_
                    have BK210 := n5_
                    have BK216 := n6_
                    have BK217 := n7_
                    have BK221 := n8_
                    have BK225 := n9_
                    have HB := n10_
                    clear n0_ n1_ n2_ n3_ n4_ n5_ n6_ n7_ n8_ n9_ n10_
                    (try clear hb)
                    (try clear hb2)
                    (try clear hk)
                    (try clear hi)
                    refine hK.out _ _ ⟨(blk_cell BK179.out 0).trans rfl, (blk_cell BK179.out 1).trans rfl, (blk_cell BK180.out 0).trans rfl, (blk_cell BK180.out 1).trans rfl⟩ (fun hHeld => ?_)
                    clear hK K
                    refine norm_ (a' := ?_) ?_ ?_
                    rotate_left
                    · show Act.put _ (some 172) _ = _
                      simp only [Act.put, List.setIfInBounds_toArray, List.set_cons_zero, List.set_cons_succ, i64_w, i32_w]
                      rfl
                    refine pure_ (i := 4) (N := some 173) (v := ?_) (a' := ?_) #[true, true, true, true, true, false, false, false, false, false, false, false, false, false, false, false, false, false, false, false, false, false, false, false, false, false, false, false, false, false, false, false, false] rfl rfl (any_of HT_.out (by kernel_rfl)) (fun _ _ _ h => h) (Or.inl ⟨by rfl, ?_⟩) ?_ ?_
                    rotate_left
                    · intro w'
                      go_simp
                      with_reducible rfl
                    rotate_left
                    · simp only [Act.put, List.setIfInBounds_toArray, List.set_cons_zero, List.set_cons_succ, i64_w, i32_w]
                      rfl
                    refine pure_ (i := 5) (N := some 174) (v := ?_) (a' := ?_) #[true, true, true, true, true, true, false, false, false, false, false, false, false, false, false, false, false, false, false, false, false, false, false, false, false, false, false, false, false, false, false, false, false] rfl rfl (any_of HT_.out (by kernel_rfl)) (fun _ _ _ h => h) (Or.inl ⟨by rfl, ?_⟩) ?_ ?_
                    rotate_left
                    · intro w'
                      go_simp
                      with_reducible rfl
                    rotate_left
                    · simp only [Act.put, List.setIfInBounds_toArray, List.set_cons_zero, List.set_cons_succ, i64_w, i32_w]
                      rfl
                    refine pure_ (i := 6) (N := some 175) (v := ?_) (a' := ?_) #[true, true, true, true, true, true, true, false, false, false, false, false, false, false, false, false, false, false, false, false, false, false, false, false, false, false, false, false, false, false, false, false, false] rfl rfl (any_of HT_.out (by kernel_rfl)) (fun _ _ _ h => h) (Or.inl ⟨by rfl, ?_⟩) ?_ ?_
                    rotate_left
                    · intro w'
                      go_simp
                      with_reducible rfl
                    rotate_left
                    · simp only [Act.put, List.setIfInBounds_toArray, List.set_cons_zero, List.set_cons_succ, i64_w, i32_w]
                      rfl
                    refine pure_ (i := 9) (N := some 178) (v := ?_) (a' := ?_) #[true, true, true, true, true, true, true, false, false, true, false, false, false, false, false, false, false, false, false, false, false, false, false, false, false, false, false, false, false, false, false, false, false] rfl rfl (any_of HT_.out (by kernel_rfl)) (fun _ _ _ h => h) (Or.inl ⟨by rfl, ?_⟩) ?_ ?_
                    rotate_left
                    · intro w'
                      go_simp
                      with_reducible rfl
                    rotate_left
                    · simp only [Act.put, List.setIfInBounds_toArray, List.set_cons_zero, List.set_cons_succ, i64_w, i32_w]
                      rfl
                    refine take_ (i := 7) (N := some 176) (v := ?_) (a' := ?_) #[true, true, true, true, true, true, true, true, false, true, false, false, false, false, false, false, false, false, false, false, false, false, false, false, false, false, false, false, false, false, false, false, false] rfl rfl (take_ofW HT_.out HW_.out (by kernel_rfl)) (fun _ _ _ h => h) (Or.inl ⟨by rfl, ?_⟩) hHeld ?_ ?_
                    rotate_left
                    · rintro w' ⟨s0, s1, s2, s3⟩
                      go_simp
                      with_reducible rfl
                    rotate_left
                    · simp only [Act.put, List.setIfInBounds_toArray, List.set_cons_zero, List.set_cons_succ, i64_w, i32_w]
                      rfl
                    refine take_ (i := 10) (N := some 179) (v := ?_) (a' := ?_) #[true, true, true, true, true, true, true, true, false, true, true, false, false, false, false, false, false, false, false, false, false, false, false, false, false, false, false, false, false, false, false, false, false] rfl rfl (take_ofW HT_.out HW_.out (by kernel_rfl)) (fun _ _ _ h => h) (Or.inl ⟨by rfl, ?_⟩) hHeld ?_ ?_
                    rotate_left
                    · rintro w' ⟨s0, s1, s2, s3⟩
                      go_simp
                      with_reducible rfl
                    rotate_left
                    · simp only [Act.put, List.setIfInBounds_toArray, List.set_cons_zero, List.set_cons_succ, i64_w, i32_w]
                      rfl
                    refine one_ (i := 8) (N := some 177) #[true, true, true, true, true, true, true, true, true, true, true, false, false, false, false, false, false, false, false, false, false, false, false, false, false, false, false, false, false, false, false, false, false] rfl rfl (one_of HT_.out (by kernel_rfl)) (by decide) (fun K hK => ?_)
                    refine goes_ Try.func26 (by kernel_rfl) rfl #[.int .u32 a0, .agg #[.int .u32 a1_0, .int .i64 a1_1]] (by rfl) rfl rfl (by (try simp only [List.map_toArray, List.map_cons, List.map_nil]); first | done | rfl | (simp only [List.length_drop, List.length_take]; rfl)) ?_
                    with_reducible refine (addr_In.calls kj45 a0 a1_0 a1_1 t231 _ A179.out).mono ?_
                    rintro e w190 ⟨rfl, hb⟩
                    refine ⟨_, rfl, ?_⟩
                    have n0_ := Aside0.mk (blk_below (g := gb179) (o := .cells #[.int .u32 a1_0, .int .i64 a1_1] 30 (0, 0)) (by (with_reducible repeat (first | refine blk_drewN ?_ _ | refine blk_drew ?_ | refine blk_alloc ?_ _)); exact BK179.out) hb)
                    have n1_ := Aside0.mk (blk_below (g := gb180) (o := .cells #[.int .u32 a2_0, .int .i64 a2_1] 30 (0, 0)) (by (with_reducible repeat (first | refine blk_drewN ?_ _ | refine blk_drew ?_ | refine blk_alloc ?_ _)); exact BK180.out) hb)
                    have n2_ := Aside0.mk (blk_below (g := gb192) (o := .cells #[.int .u32 t189, .int .i64 t190] 30 (0, 0)) (by (with_reducible repeat (first | refine blk_drewN ?_ _ | refine blk_drew ?_ | refine blk_alloc ?_ _)); exact BK192.out) hb)
                    have n3_ := Aside0.mk (blk_below (g := gb196) (o := .cells #[.int .u32 t193, .int .i64 t194] 30 (0, 0)) (by (with_reducible repeat (first | refine blk_drewN ?_ _ | refine blk_drew ?_ | refine blk_alloc ?_ _)); exact BK196.out) hb)
                    have n4_ := Aside0.mk (blk_below (g := gb209) (o := .cells #[.int .u32 t204, .int .i64 t205] 30 (0, 0)) (by (with_reducible repeat (first | refine blk_drewN ?_ _ | refine blk_drew ?_ | refine blk_alloc ?_ _)); exact BK209.out) hb)
                    have n5_ := Aside0.mk (blk_below (g := gb210) (o := .cells #[.int .u32 t206, .int .i64 t207] 30 (0, 0)) (by (with_reducible repeat (first | refine blk_drewN ?_ _ | refine blk_drew ?_ | refine blk_alloc ?_ _)); exact BK210.out) hb)
                    have n6_ := Aside0.mk (blk_below (g := gb216) (o := .cells #[.int .u32 t211, .int .i64 t212] 30 (0, 0)) (by (with_reducible repeat (first | refine blk_drewN ?_ _ | refine blk_drew ?_ | refine blk_alloc ?_ _)); exact BK216.out) hb)
                    have n7_ := Aside0.mk (blk_below (g := gb217) (o := .cells #[.int .u32 t213, .int .i64 t214] 30 (0, 0)) (by (with_reducible repeat (first | refine blk_drewN ?_ _ | refine blk_drew ?_ | refine blk_alloc ?_ _)); exact BK217.out) hb)
                    have n8_ := Aside0.mk (blk_below (g := gb221) (o := .cells #[.int .u32 t218, .int .i64 t219] 30 (0, 0)) (by (with_reducible repeat (first | refine blk_drewN ?_ _ | refine blk_drew ?_ | refine blk_alloc ?_ _)); exact BK221.out) hb)
                    have n9_ := Aside0.mk (blk_below (g := gb225) (o := .cells #[.int .u32 t222, .int .i64 t223] 30 (0, 0)) (by (with_reducible repeat (first | refine blk_drewN ?_ _ | refine blk_drew ?_ | refine blk_alloc ?_ _)); exact BK225.out) hb)
                    have n10_ := Aside0.mk (below_step (by repeat (first | (with_reducible first | exact HB.out | apply below_alloc | apply pw_below_drewN | apply below_drew1 | refine below_set ?_ GE179.out | refine below_set ?_ GE180.out | refine below_set ?_ GE192.out | refine below_set ?_ GE196.out | refine below_set ?_ GE209.out | refine below_set ?_ GE210.out | refine below_set ?_ GE216.out | refine below_set ?_ GE217.out | refine below_set ?_ GE221.out | refine below_set ?_ GE225.out) | exact HB.out)) hb)
                    clear BK179
                    clear BK180
                    clear BK192
                    clear BK196
                    clear BK209
                    clear BK210
                    clear BK216
                    clear BK217
                    clear BK221
                    clear BK225
                    clear HB
                    have BK179 := n0_
                    have BK180 := n1_
                    have BK192 := n2_
                    have BK196 := n3_
                    have BK209 := n4_
                    have BK210 := n5_
                    have BK216 := n6_
                    have BK217 := n7_
                    have BK221 := n8_
                    have BK225 := n9_
                    have HB := n10_
                    clear n0_ n1_ n2_ n3_ n4_ n5_ n6_ n7_ n8_ n9_ n10_
                    (try clear hb)
                    (try clear hb2)
                    (try clear hk)
                    (try clear hi)
                    refine hK.out _ _ ⟨(blk_cell BK179.out 0).trans rfl, (blk_cell BK179.out 1).trans rfl, (blk_cell BK180.out 0).trans rfl, (blk_cell BK180.out 1).trans rfl⟩ (fun hHeld => ?_)
                    clear hK K
                    refine norm_ (a' := ?_) ?_ ?_
                    rotate_left
                    · show Act.put _ (some 177) _ = _
                      simp only [Act.put, List.setIfInBounds_toArray, List.set_cons_zero, List.set_cons_succ, i64_w, i32_w]
                      rfl
                    refine one_ (i := 11) (N := some 180) #[true, true, true, true, true, true, true, true, true, true, true, true, false, false, false, false, false, false, false, false, false, false, false, false, false, false, false, false, false, false, false, false, false] rfl rfl (one_of HT_.out (by kernel_rfl)) (by decide) (fun K hK => ?_)
                    refine goes_ Try.func27 (by kernel_rfl) rfl #[.int .u32 a0, .agg #[.int .u32 a1_0, .int .i64 a1_1]] (by rfl) rfl rfl (by (try simp only [List.map_toArray, List.map_cons, List.map_nil]); first | done | rfl | (simp only [List.length_drop, List.length_take]; rfl)) ?_
                    with_reducible refine (waymarkref01_In.calls kj45 a0 a1_0 a1_1 t232 _ A180.out).mono ?_
                    rintro e w191 ⟨rfl, hb⟩
                    refine ⟨_, rfl, ?_⟩
                    have n0_ := Aside0.mk (blk_below (g := gb179) (o := .cells #[.int .u32 a1_0, .int .i64 a1_1] 30 (0, 0)) (by (with_reducible repeat (first | refine blk_drewN ?_ _ | refine blk_drew ?_ | refine blk_alloc ?_ _)); exact BK179.out) hb)
                    have n1_ := Aside0.mk (blk_below (g := gb180) (o := .cells #[.int .u32 a2_0, .int .i64 a2_1] 30 (0, 0)) (by (with_reducible repeat (first | refine blk_drewN ?_ _ | refine blk_drew ?_ | refine blk_alloc ?_ _)); exact BK180.out) hb)
                    have n2_ := Aside0.mk (blk_below (g := gb192) (o := .cells #[.int .u32 t189, .int .i64 t190] 30 (0, 0)) (by (with_reducible repeat (first | refine blk_drewN ?_ _ | refine blk_drew ?_ | refine blk_alloc ?_ _)); exact BK192.out) hb)
                    have n3_ := Aside0.mk (blk_below (g := gb196) (o := .cells #[.int .u32 t193, .int .i64 t194] 30 (0, 0)) (by (with_reducible repeat (first | refine blk_drewN ?_ _ | refine blk_drew ?_ | refine blk_alloc ?_ _)); exact BK196.out) hb)
                    have n4_ := Aside0.mk (blk_below (g := gb209) (o := .cells #[.int .u32 t204, .int .i64 t205] 30 (0, 0)) (by (with_reducible repeat (first | refine blk_drewN ?_ _ | refine blk_drew ?_ | refine blk_alloc ?_ _)); exact BK209.out) hb)
                    have n5_ := Aside0.mk (blk_below (g := gb210) (o := .cells #[.int .u32 t206, .int .i64 t207] 30 (0, 0)) (by (with_reducible repeat (first | refine blk_drewN ?_ _ | refine blk_drew ?_ | refine blk_alloc ?_ _)); exact BK210.out) hb)
                    have n6_ := Aside0.mk (blk_below (g := gb216) (o := .cells #[.int .u32 t211, .int .i64 t212] 30 (0, 0)) (by (with_reducible repeat (first | refine blk_drewN ?_ _ | refine blk_drew ?_ | refine blk_alloc ?_ _)); exact BK216.out) hb)
                    have n7_ := Aside0.mk (blk_below (g := gb217) (o := .cells #[.int .u32 t213, .int .i64 t214] 30 (0, 0)) (by (with_reducible repeat (first | refine blk_drewN ?_ _ | refine blk_drew ?_ | refine blk_alloc ?_ _)); exact BK217.out) hb)
                    have n8_ := Aside0.mk (blk_below (g := gb221) (o := .cells #[.int .u32 t218, .int .i64 t219] 30 (0, 0)) (by (with_reducible repeat (first | refine blk_drewN ?_ _ | refine blk_drew ?_ | refine blk_alloc ?_ _)); exact BK221.out) hb)
                    have n9_ := Aside0.mk (blk_below (g := gb225) (o := .cells #[.int .u32 t222, .int .i64 t223] 30 (0, 0)) (by (with_reducible repeat (first | refine blk_drewN ?_ _ | refine blk_drew ?_ | refine blk_alloc ?_ _)); exact BK225.out) hb)
                    have n10_ := Aside0.mk (below_step (by repeat (first | (with_reducible first | exact HB.out | apply below_alloc | apply pw_below_drewN | apply below_drew1 | refine below_set ?_ GE179.out | refine below_set ?_ GE180.out | refine below_set ?_ GE192.out | refine below_set ?_ GE196.out | refine below_set ?_ GE209.out | refine below_set ?_ GE210.out | refine below_set ?_ GE216.out | refine below_set ?_ GE217.out | refine below_set ?_ GE221.out | refine below_set ?_ GE225.out) | exact HB.out)) hb)
                    clear BK179
                    clear BK180
                    clear BK192
                    clear BK196
                    clear BK209
                    clear BK210
                    clear BK216
                    clear BK217
                    clear BK221
                    clear BK225
                    clear HB
                    have BK179 := n0_
                    have BK180 := n1_
                    have BK192 := n2_
                    have BK196 := n3_
                    have BK209 := n4_
                    have BK210 := n5_
                    have BK216 := n6_
                    have BK217 := n7_
                    have BK221 := n8_
                    have BK225 := n9_
                    have HB := n10_
                    clear n0_ n1_ n2_ n3_ n4_ n5_ n6_ n7_ n8_ n9_ n10_
                    (try clear hb)
                    (try clear hb2)
                    (try clear hk)
                    (try clear hi)
                    refine hK.out _ _ ⟨(blk_cell BK179.out 0).trans rfl, (blk_cell BK179.out 1).trans rfl, (blk_cell BK180.out 0).trans rfl, (blk_cell BK180.out 1).trans rfl⟩ (fun hHeld => ?_)
                    clear hK K
                    refine norm_ (a' := ?_) ?_ ?_
                    rotate_left
                    · show Act.put _ (some 180) _ = _
                      simp only [Act.put, List.setIfInBounds_toArray, List.set_cons_zero, List.set_cons_succ, i64_w, i32_w]
                      rfl
                    refine pure_ (i := 12) (N := some 181) (v := ?_) (a' := ?_) #[true, true, true, true, true, true, true, true, true, true, true, true, true, false, false, false, false, false, false, false, false, false, false, false, false, false, false, false, false, false, false, false, false] rfl rfl (any_of HT_.out (by kernel_rfl)) (fun _ _ _ h => h) (Or.inl ⟨by rfl, ?_⟩) ?_ ?_
                    rotate_left
                    · intro w'
                      go_simp
                      with_reducible rfl
                    rotate_left
                    · simp only [Act.put, List.setIfInBounds_toArray, List.set_cons_zero, List.set_cons_succ, i64_w, i32_w]
                      rfl
                    refine pure_ (i := 13) (N := some 182) (v := ?_) (a' := ?_) #[true, true, true, true, true, true, true, true, true, true, true, true, true, true, false, false, false, false, false, false, false, false, false, false, false, false, false, false, false, false, false, false, false] rfl rfl (any_of HT_.out (by kernel_rfl)) (fun _ _ _ h => h) (Or.inl ⟨by rfl, ?_⟩) ?_ ?_
                    rotate_left
                    · intro w'
                      go_simp
                      with_reducible rfl
                    rotate_left
                    · simp only [Act.put, List.setIfInBounds_toArray, List.set_cons_zero, List.set_cons_succ, i64_w, i32_w]
                      rfl
                    refine pure_ (i := 14) (N := some 183) (v := ?_) (a' := ?_) #[true, true, true, true, true, true, true, true, true, true, true, true, true, true, true, false, false, false, false, false, false, false, false, false, false, false, false, false, false, false, false, false, false] rfl rfl (any_of HT_.out (by kernel_rfl)) (fun _ _ _ h => h) (Or.inl ⟨by rfl, ?_⟩) ?_ ?_
                    rotate_left
                    · intro w'
                      go_simp
                      with_reducible rfl
                    rotate_left
                    · simp only [Act.put, List.setIfInBounds_toArray, List.set_cons_zero, List.set_cons_succ, i64_w, i32_w]
                      rfl
                    refine take_ (i := 15) (N := some 184) (v := ?_) (a' := ?_) #[true, true, true, true, true, true, true, true, true, true, true, true, true, true, true, true, false, false, false, false, false, false, false, false, false, false, false, false, false, false, false, false, false] rfl rfl (take_ofW HT_.out HW_.out (by kernel_rfl)) (fun _ _ _ h => h) (Or.inl ⟨by rfl, ?_⟩) hHeld ?_ ?_
                    rotate_left
                    · rintro w' ⟨s0, s1, s2, s3⟩
                      go_simp
                      with_reducible rfl
                    rotate_left
                    · simp only [Act.put, List.setIfInBounds_toArray, List.set_cons_zero, List.set_cons_succ, i64_w, i32_w]
                      rfl
                    refine take_ (i := 16) (N := some 185) (v := ?_) (a' := ?_) #[true, true, true, true, true, true, true, true, true, true, true, true, true, true, true, true, true, false, false, false, false, false, false, false, false, false, false, false, false, false, false, false, false] rfl rfl (take_ofW HT_.out HW_.out (by kernel_rfl)) (fun _ _ _ h => h) (Or.inl ⟨by rfl, ?_⟩) hHeld ?_ ?_
                    rotate_left
                    · rintro w' ⟨s0, s1, s2, s3⟩
                      go_simp
                      with_reducible rfl
                    rotate_left
                    · simp only [Act.put, List.setIfInBounds_toArray, List.set_cons_zero, List.set_cons_succ, i64_w, i32_w]
                      rfl
                    refine take_ (i := 18) (N := some 187) (v := ?_) (a' := ?_) #[true, true, true, true, true, true, true, true, true, true, true, true, true, true, true, true, true, false, true, false, false, false, false, false, false, false, false, false, false, false, false, false, false] rfl rfl (take_ofW HT_.out HW_.out (by kernel_rfl)) (fun _ _ _ h => h) (Or.inl ⟨by rfl, ?_⟩) hHeld ?_ ?_
                    rotate_left
                    · rintro w' ⟨s0, s1, s2, s3⟩
                      go_simp
                      with_reducible rfl
                    rotate_left
                    · simp only [Act.put, List.setIfInBounds_toArray, List.set_cons_zero, List.set_cons_succ, i64_w, i32_w]
                      rfl
                    refine take_ (i := 19) (N := some 188) (v := ?_) (a' := ?_) #[true, true, true, true, true, true, true, true, true, true, true, true, true, true, true, true, true, false, true, true, false, false, false, false, false, false, false, false, false, false, false, false, false] rfl rfl (take_ofW HT_.out HW_.out (by kernel_rfl)) (fun _ _ _ h => h) (Or.inl ⟨by rfl, ?_⟩) hHeld ?_ ?_
                    rotate_left
                    · rintro w' ⟨s0, s1, s2, s3⟩
                      go_simp
                      with_reducible rfl
                    rotate_left
                    · simp only [Act.put, List.setIfInBounds_toArray, List.set_cons_zero, List.set_cons_succ, i64_w, i32_w]
                      rfl
                    refine one_ (i := 17) (N := some 186) #[true, true, true, true, true, true, true, true, true, true, true, true, true, true, true, true, true, true, true, true, false, false, false, false, false, false, false, false, false, false, false, false, false] rfl rfl (one_of HT_.out (by kernel_rfl)) (by decide) (fun K hK => ?_)
                    refine goes_ Try.func28 (by kernel_rfl) rfl #[.agg #[.int .u32 a1_0, .int .i64 a1_1], .agg #[.int .u32 a2_0, .int .i64 a2_1]] (by rfl) rfl rfl (by (try simp only [List.map_toArray, List.map_cons, List.map_nil]); first | done | rfl | (simp only [List.length_drop, List.length_take]; rfl)) ?_
                    with_reducible refine (addr_Within.calls kj45 a1_0 a1_1 a2_0 a2_1 t233 _ A182.out).mono ?_
                    rintro e w192 ⟨rfl, hb⟩
                    refine ⟨_, rfl, ?_⟩
                    have n0_ := Aside0.mk (blk_below (g := gb179) (o := .cells #[.int .u32 a1_0, .int .i64 a1_1] 30 (0, 0)) (by (with_reducible repeat (first | refine blk_drewN ?_ _ | refine blk_drew ?_ | refine blk_alloc ?_ _)); exact BK179.out) hb)
                    have n1_ := Aside0.mk (blk_below (g := gb180) (o := .cells #[.int .u32 a2_0, .int .i64 a2_1] 30 (0, 0)) (by (with_reducible repeat (first | refine blk_drewN ?_ _ | refine blk_drew ?_ | refine blk_alloc ?_ _)); exact BK180.out) hb)
                    have n2_ := Aside0.mk (blk_below (g := gb192) (o := .cells #[.int .u32 t189, .int .i64 t190] 30 (0, 0)) (by (with_reducible repeat (first | refine blk_drewN ?_ _ | refine blk_drew ?_ | refine blk_alloc ?_ _)); exact BK192.out) hb)
                    have n3_ := Aside0.mk (blk_below (g := gb196) (o := .cells #[.int .u32 t193, .int .i64 t194] 30 (0, 0)) (by (with_reducible repeat (first | refine blk_drewN ?_ _ | refine blk_drew ?_ | refine blk_alloc ?_ _)); exact BK196.out) hb)
                    have n4_ := Aside0.mk (blk_below (g := gb209) (o := .cells #[.int .u32 t204, .int .i64 t205] 30 (0, 0)) (by (with_reducible repeat (first | refine blk_drewN ?_ _ | refine blk_drew ?_ | refine blk_alloc ?_ _)); exact BK209.out) hb)
                    have n5_ := Aside0.mk (blk_below (g := gb210) (o := .cells #[.int .u32 t206, .int .i64 t207] 30 (0, 0)) (by (with_reducible repeat (first | refine blk_drewN ?_ _ | refine blk_drew ?_ | refine blk_alloc ?_ _)); exact BK210.out) hb)
                    have n6_ := Aside0.mk (blk_below (g := gb216) (o := .cells #[.int .u32 t211, .int .i64 t212] 30 (0, 0)) (by (with_reducible repeat (first | refine blk_drewN ?_ _ | refine blk_drew ?_ | refine blk_alloc ?_ _)); exact BK216.out) hb)
                    have n7_ := Aside0.mk (blk_below (g := gb217) (o := .cells #[.int .u32 t213, .int .i64 t214] 30 (0, 0)) (by (with_reducible repeat (first | refine blk_drewN ?_ _ | refine blk_drew ?_ | refine blk_alloc ?_ _)); exact BK217.out) hb)
                    have n8_ := Aside0.mk (blk_below (g := gb221) (o := .cells #[.int .u32 t218, .int .i64 t219] 30 (0, 0)) (by (with_reducible repeat (first | refine blk_drewN ?_ _ | refine blk_drew ?_ | refine blk_alloc ?_ _)); exact BK221.out) hb)
                    have n9_ := Aside0.mk (blk_below (g := gb225) (o := .cells #[.int .u32 t222, .int .i64 t223] 30 (0, 0)) (by (with_reducible repeat (first | refine blk_drewN ?_ _ | refine blk_drew ?_ | refine blk_alloc ?_ _)); exact BK225.out) hb)
                    have n10_ := Aside0.mk (below_step (by repeat (first | (with_reducible first | exact HB.out | apply below_alloc | apply pw_below_drewN | apply below_drew1 | refine below_set ?_ GE179.out | refine below_set ?_ GE180.out | refine below_set ?_ GE192.out | refine below_set ?_ GE196.out | refine below_set ?_ GE209.out | refine below_set ?_ GE210.out | refine below_set ?_ GE216.out | refine below_set ?_ GE217.out | refine below_set ?_ GE221.out | refine below_set ?_ GE225.out) | exact HB.out)) hb)
                    clear BK179
                    clear BK180
                    clear BK192
                    clear BK196
                    clear BK209
                    clear BK210
                    clear BK216
                    clear BK217
                    clear BK221
                    clear BK225
                    clear HB
                    have BK179 := n0_
                    have BK180 := n1_
                    have BK192 := n2_
                    have BK196 := n3_
                    have BK209 := n4_
                    have BK210 := n5_
                    have BK216 := n6_
                    have BK217 := n7_
                    have BK221 := n8_
                    have BK225 := n9_
                    have HB := n10_
                    clear n0_ n1_ n2_ n3_ n4_ n5_ n6_ n7_ n8_ n9_ n10_
                    (try clear hb)
                    (try clear hb2)
                    (try clear hk)
                    (try clear hi)
                    refine hK.out _ _ ⟨(blk_cell BK179.out 0).trans rfl, (blk_cell BK179.out 1).trans rfl, (blk_cell BK180.out 0).trans rfl, (blk_cell BK180.out 1).trans rfl⟩ (fun hHeld => ?_)
                    clear hK K
                    refine norm_ (a' := ?_) ?_ ?_
                    rotate_left
                    · show Act.put _ (some 186) _ = _
                      simp only [Act.put, List.setIfInBounds_toArray, List.set_cons_zero, List.set_cons_succ, i64_w, i32_w]
                      rfl
                    refine one_ (i := 20) (N := some 189) #[true, true, true, true, true, true, true, true, true, true, true, true, true, true, true, true, true, true, true, true, true, false, false, false, false, false, false, false, false, false, false, false, false] rfl rfl (one_of HT_.out (by kernel_rfl)) (by decide) (fun K hK => ?_)
                    refine goes_ Try.func29 (by kernel_rfl) rfl #[.agg #[.int .u32 a1_0, .int .i64 a1_1], .agg #[.int .u32 a2_0, .int .i64 a2_1]] (by rfl) rfl rfl (by (try simp only [List.map_toArray, List.map_cons, List.map_nil]); first | done | rfl | (simp only [List.length_drop, List.length_take]; rfl)) ?_
                    with_reducible refine (waymarkref01_Within.calls kj45 a1_0 a1_1 a2_0 a2_1 t234 _ A183.out).mono ?_
                    rintro e w193 ⟨rfl, hb⟩
                    refine ⟨_, rfl, ?_⟩
                    have n0_ := Aside0.mk (blk_below (g := gb179) (o := .cells #[.int .u32 a1_0, .int .i64 a1_1] 30 (0, 0)) (by (with_reducible repeat (first | refine blk_drewN ?_ _ | refine blk_drew ?_ | refine blk_alloc ?_ _)); exact BK179.out) hb)
                    have n1_ := Aside0.mk (blk_below (g := gb180) (o := .cells #[.int .u32 a2_0, .int .i64 a2_1] 30 (0, 0)) (by (with_reducible repeat (first | refine blk_drewN ?_ _ | refine blk_drew ?_ | refine blk_alloc ?_ _)); exact BK180.out) hb)
                    have n2_ := Aside0.mk (blk_below (g := gb192) (o := .cells #[.int .u32 t189, .int .i64 t190] 30 (0, 0)) (by (with_reducible repeat (first | refine blk_drewN ?_ _ | refine blk_drew ?_ | refine blk_alloc ?_ _)); exact BK192.out) hb)
                    have n3_ := Aside0.mk (blk_below (g := gb196) (o := .cells #[.int .u32 t193, .int .i64 t194] 30 (0, 0)) (by (with_reducible repeat (first | refine blk_drewN ?_ _ | refine blk_drew ?_ | refine blk_alloc ?_ _)); exact BK196.out) hb)
                    have n4_ := Aside0.mk (blk_below (g := gb209) (o := .cells #[.int .u32 t204, .int .i64 t205] 30 (0, 0)) (by (with_reducible repeat (first | refine blk_drewN ?_ _ | refine blk_drew ?_ | refine blk_alloc ?_ _)); exact BK209.out) hb)
                    have n5_ := Aside0.mk (blk_below (g := gb210) (o := .cells #[.int .u32 t206, .int .i64 t207] 30 (0, 0)) (by (with_reducible repeat (first | refine blk_drewN ?_ _ | refine blk_drew ?_ | refine blk_alloc ?_ _)); exact BK210.out) hb)
                    have n6_ := Aside0.mk (blk_below (g := gb216) (o := .cells #[.int .u32 t211, .int .i64 t212] 30 (0, 0)) (by (with_reducible repeat (first | refine blk_drewN ?_ _ | refine blk_drew ?_ | refine blk_alloc ?_ _)); exact BK216.out) hb)
                    have n7_ := Aside0.mk (blk_below (g := gb217) (o := .cells #[.int .u32 t213, .int .i64 t214] 30 (0, 0)) (by (with_reducible repeat (first | refine blk_drewN ?_ _ | refine blk_drew ?_ | refine blk_alloc ?_ _)); exact BK217.out) hb)
                    have n8_ := Aside0.mk (blk_below (g := gb221) (o := .cells #[.int .u32 t218, .int .i64 t219] 30 (0, 0)) (by (with_reducible repeat (first | refine blk_drewN ?_ _ | refine blk_drew ?_ | refine blk_alloc ?_ _)); exact BK221.out) hb)
                    have n9_ := Aside0.mk (blk_below (g := gb225) (o := .cells #[.int .u32 t222, .int .i64 t223] 30 (0, 0)) (by (with_reducible repeat (first | refine blk_drewN ?_ _ | refine blk_drew ?_ | refine blk_alloc ?_ _)); exact BK225.out) hb)
                    have n10_ := Aside0.mk (below_step (by repeat (first | (with_reducible first | exact HB.out | apply below_alloc | apply pw_below_drewN | apply below_drew1 | refine below_set ?_ GE179.out | refine below_set ?_ GE180.out | refine below_set ?_ GE192.out | refine below_set ?_ GE196.out | refine below_set ?_ GE209.out | refine below_set ?_ GE210.out | refine below_set ?_ GE216.out | refine below_set ?_ GE217.out | refine below_set ?_ GE221.out | refine below_set ?_ GE225.out) | exact HB.out)) hb)
                    clear BK179
                    clear BK180
                    clear BK192
                    clear BK196
                    clear BK209
                    clear BK210
                    clear BK216
                    clear BK217
                    clear BK221
                    clear BK225
                    clear HB
                    have BK179 := n0_
                    have BK180 := n1_
                    have BK192 := n2_
                    have BK196 := n3_
                    have BK209 := n4_
                    have BK210 := n5_
                    have BK216 := n6_
                    have BK217 := n7_
                    have BK221 := n8_
                    have BK225 := n9_
                    have HB := n10_
                    clear n0_ n1_ n2_ n3_ n4_ n5_ n6_ n7_ n8_ n9_ n10_
                    (try clear hb)
                    (try clear hb2)
                    (try clear hk)
                    (try clear hi)
                    refine hK.out _ _ ⟨(blk_cell BK179.out 0).trans rfl, (blk_cell BK179.out 1).trans rfl, (blk_cell BK180.out 0).trans rfl, (blk_cell BK180.out 1).trans rfl⟩ (fun hHeld => ?_)
                    clear hK K
                    refine norm_ (a' := ?_) ?_ ?_
                    rotate_left
                    · show Act.put _ (some 189) _ = _
                      simp only [Act.put, List.setIfInBounds_toArray, List.set_cons_zero, List.set_cons_succ, i64_w, i32_w]
                      rfl
                    refine pure_ (i := 21) (N := some 190) (v := ?_) (a' := ?_) #[true, true, true, true, true, true, true, true, true, true, true, true, true, true, true, true, true, true, true, true, true, true, false, false, false, false, false, false, false, false, false, false, false] rfl rfl (any_of HT_.out (by kernel_rfl)) (fun _ _ _ h => h) (Or.inl ⟨by rfl, ?_⟩) ?_ ?_
                    rotate_left
                    · intro w'
                      go_simp
                      with_reducible rfl
                    rotate_left
                    · simp only [Act.put, List.setIfInBounds_toArray, List.set_cons_zero, List.set_cons_succ, i64_w, i32_w]
                      rfl
                    refine pure_ (i := 22) (N := some 191) (v := ?_) (a' := ?_) #[true, true, true, true, true, true, true, true, true, true, true, true, true, true, true, true, true, true, true, true, true, true, true, false, false, false, false, false, false, false, false, false, false] rfl rfl (any_of HT_.out (by kernel_rfl)) (fun _ _ _ h => h) (Or.inl ⟨by rfl, ?_⟩) ?_ ?_
                    rotate_left
                    · intro w'
                      go_simp
                      with_reducible rfl
                    rotate_left
                    · simp only [Act.put, List.setIfInBounds_toArray, List.set_cons_zero, List.set_cons_succ, i64_w, i32_w]
                      rfl
                    refine pure_ (i := 23) (N := some 192) (v := ?_) (a' := ?_) #[true, true, true, true, true, true, true, true, true, true, true, true, true, true, true, true, true, true, true, true, true, true, true, true, false, false, false, false, false, false, false, false, false] rfl rfl (any_of HT_.out (by kernel_rfl)) (fun _ _ _ h => h) (Or.inl ⟨by rfl, ?_⟩) ?_ ?_
                    rotate_left
                    · intro w'
                      go_simp
                      with_reducible rfl
                    rotate_left
                    · simp only [Act.put, List.setIfInBounds_toArray, List.set_cons_zero, List.set_cons_succ, i64_w, i32_w]
                      rfl
                    refine take_ (i := 24) (N := some 193) (v := ?_) (a' := ?_) #[true, true, true, true, true, true, true, true, true, true, true, true, true, true, true, true, true, true, true, true, true, true, true, true, true, false, false, false, false, false, false, false, false] rfl rfl (take_ofW HT_.out HW_.out (by kernel_rfl)) (fun _ _ _ h => h) (Or.inl ⟨by rfl, ?_⟩) hHeld ?_ ?_
                    rotate_left
                    · rintro w' ⟨s0, s1, s2, s3⟩
                      go_simp
                      with_reducible rfl
                    rotate_left
                    · simp only [Act.put, List.setIfInBounds_toArray, List.set_cons_zero, List.set_cons_succ, i64_w, i32_w]
                      rfl
                    refine take_ (i := 25) (N := some 194) (v := ?_) (a' := ?_) #[true, true, true, true, true, true, true, true, true, true, true, true, true, true, true, true, true, true, true, true, true, true, true, true, true, true, false, false, false, false, false, false, false] rfl rfl (take_ofW HT_.out HW_.out (by kernel_rfl)) (fun _ _ _ h => h) (Or.inl ⟨by rfl, ?_⟩) hHeld ?_ ?_
                    rotate_left
                    · rintro w' ⟨s0, s1, s2, s3⟩
                      go_simp
                      with_reducible rfl
                    rotate_left
                    · simp only [Act.put, List.setIfInBounds_toArray, List.set_cons_zero, List.set_cons_succ, i64_w, i32_w]
                      rfl
                    refine take_ (i := 27) (N := some 196) (v := ?_) (a' := ?_) #[true, true, true, true, true, true, true, true, true, true, true, true, true, true, true, true, true, true, true, true, true, true, true, true, true, true, false, true, false, false, false, false, false] rfl rfl (take_ofW HT_.out HW_.out (by kernel_rfl)) (fun _ _ _ h => h) (Or.inl ⟨by rfl, ?_⟩) hHeld ?_ ?_
                    rotate_left
                    · rintro w' ⟨s0, s1, s2, s3⟩
                      go_simp
                      with_reducible rfl
                    rotate_left
                    · simp only [Act.put, List.setIfInBounds_toArray, List.set_cons_zero, List.set_cons_succ, i64_w, i32_w]
                      rfl
                    refine take_ (i := 28) (N := some 197) (v := ?_) (a' := ?_) #[true, true, true, true, true, true, true, true, true, true, true, true, true, true, true, true, true, true, true, true, true, true, true, true, true, true, false, true, true, false, false, false, false] rfl rfl (take_ofW HT_.out HW_.out (by kernel_rfl)) (fun _ _ _ h => h) (Or.inl ⟨by rfl, ?_⟩) hHeld ?_ ?_
                    rotate_left
                    · rintro w' ⟨s0, s1, s2, s3⟩
                      go_simp
                      with_reducible rfl
                    rotate_left
                    · simp only [Act.put, List.setIfInBounds_toArray, List.set_cons_zero, List.set_cons_succ, i64_w, i32_w]
                      rfl
                    refine one_ (i := 26) (N := some 195) #[true, true, true, true, true, true, true, true, true, true, true, true, true, true, true, true, true, true, true, true, true, true, true, true, true, true, true, true, true, false, false, false, false] rfl rfl (one_of HT_.out (by kernel_rfl)) (by decide) (fun K hK => ?_)
                    refine goes_ Try.func30 (by kernel_rfl) rfl #[.agg #[.int .u32 a1_0, .int .i64 a1_1], .agg #[.int .u32 a2_0, .int .i64 a2_1]] (by rfl) rfl rfl (by (try simp only [List.map_toArray, List.map_cons, List.map_nil]); first | done | rfl | (simp only [List.length_drop, List.length_take]; rfl)) ?_
                    with_reducible refine (addr_Cmp.calls kj45 a1_0 a1_1 a2_0 a2_1 t235 _ A185.out).mono ?_
                    rintro e w194 ⟨rfl, hb⟩
                    refine ⟨_, rfl, ?_⟩
                    have n0_ := Aside0.mk (blk_below (g := gb179) (o := .cells #[.int .u32 a1_0, .int .i64 a1_1] 30 (0, 0)) (by (with_reducible repeat (first | refine blk_drewN ?_ _ | refine blk_drew ?_ | refine blk_alloc ?_ _)); exact BK179.out) hb)
                    have n1_ := Aside0.mk (blk_below (g := gb180) (o := .cells #[.int .u32 a2_0, .int .i64 a2_1] 30 (0, 0)) (by (with_reducible repeat (first | refine blk_drewN ?_ _ | refine blk_drew ?_ | refine blk_alloc ?_ _)); exact BK180.out) hb)
                    have n2_ := Aside0.mk (blk_below (g := gb192) (o := .cells #[.int .u32 t189, .int .i64 t190] 30 (0, 0)) (by (with_reducible repeat (first | refine blk_drewN ?_ _ | refine blk_drew ?_ | refine blk_alloc ?_ _)); exact BK192.out) hb)
                    have n3_ := Aside0.mk (blk_below (g := gb196) (o := .cells #[.int .u32 t193, .int .i64 t194] 30 (0, 0)) (by (with_reducible repeat (first | refine blk_drewN ?_ _ | refine blk_drew ?_ | refine blk_alloc ?_ _)); exact BK196.out) hb)
                    have n4_ := Aside0.mk (blk_below (g := gb209) (o := .cells #[.int .u32 t204, .int .i64 t205] 30 (0, 0)) (by (with_reducible repeat (first | refine blk_drewN ?_ _ | refine blk_drew ?_ | refine blk_alloc ?_ _)); exact BK209.out) hb)
                    have n5_ := Aside0.mk (blk_below (g := gb210) (o := .cells #[.int .u32 t206, .int .i64 t207] 30 (0, 0)) (by (with_reducible repeat (first | refine blk_drewN ?_ _ | refine blk_drew ?_ | refine blk_alloc ?_ _)); exact BK210.out) hb)
                    have n6_ := Aside0.mk (blk_below (g := gb216) (o := .cells #[.int .u32 t211, .int .i64 t212] 30 (0, 0)) (by (with_reducible repeat (first | refine blk_drewN ?_ _ | refine blk_drew ?_ | refine blk_alloc ?_ _)); exact BK216.out) hb)
                    have n7_ := Aside0.mk (blk_below (g := gb217) (o := .cells #[.int .u32 t213, .int .i64 t214] 30 (0, 0)) (by (with_reducible repeat (first | refine blk_drewN ?_ _ | refine blk_drew ?_ | refine blk_alloc ?_ _)); exact BK217.out) hb)
                    have n8_ := Aside0.mk (blk_below (g := gb221) (o := .cells #[.int .u32 t218, .int .i64 t219] 30 (0, 0)) (by (with_reducible repeat (first | refine blk_drewN ?_ _ | refine blk_drew ?_ | refine blk_alloc ?_ _)); exact BK221.out) hb)
                    have n9_ := Aside0.mk (blk_below (g := gb225) (o := .cells #[.int .u32 t222, .int .i64 t223] 30 (0, 0)) (by (with_reducible repeat (first | refine blk_drewN ?_ _ | refine blk_drew ?_ | refine blk_alloc ?_ _)); exact BK225.out) hb)
                    have n10_ := Aside0.mk (below_step (by repeat (first | (with_reducible first | exact HB.out | apply below_alloc | apply pw_below_drewN | apply below_drew1 | refine below_set ?_ GE179.out | refine below_set ?_ GE180.out | refine below_set ?_ GE192.out | refine below_set ?_ GE196.out | refine below_set ?_ GE209.out | refine below_set ?_ GE210.out | refine below_set ?_ GE216.out | refine below_set ?_ GE217.out | refine below_set ?_ GE221.out | refine below_set ?_ GE225.out) | exact HB.out)) hb)
                    clear BK179
                    clear BK180
                    clear BK192
                    clear BK196
                    clear BK209
                    clear BK210
                    clear BK216
                    clear BK217
                    clear BK221
                    clear BK225
                    clear HB
                    have BK179 := n0_
                    have BK180 := n1_
                    have BK192 := n2_
                    have BK196 := n3_
                    have BK209 := n4_
                    have BK210 := n5_
                    have BK216 := n6_
                    have BK217 := n7_
                    have BK221 := n8_
                    have BK225 := n9_
                    have HB := n10_
                    clear n0_ n1_ n2_ n3_ n4_ n5_ n6_ n7_ n8_ n9_ n10_
                    (try clear hb)
                    (try clear hb2)
                    (try clear hk)
                    (try clear hi)
                    refine hK.out _ _ ⟨(blk_cell BK179.out 0).trans rfl, (blk_cell BK179.out 1).trans rfl, (blk_cell BK180.out 0).trans rfl, (blk_cell BK180.out 1).trans rfl⟩ (fun hHeld => ?_)
                    clear hK K
                    refine norm_ (a' := ?_) ?_ ?_
                    rotate_left
                    · show Act.put _ (some 195) _ = _
                      simp only [Act.put, List.setIfInBounds_toArray, List.set_cons_zero, List.set_cons_succ, i64_w, i32_w]
                      rfl
                    refine one_ (i := 29) (N := some 198) #[true, true, true, true, true, true, true, true, true, true, true, true, true, true, true, true, true, true, true, true, true, true, true, true, true, true, true, true, true, true, false, false, false] rfl rfl (one_of HT_.out (by kernel_rfl)) (by decide) (fun K hK => ?_)
                    refine goes_ Try.func31 (by kernel_rfl) rfl #[.agg #[.int .u32 a1_0, .int .i64 a1_1], .agg #[.int .u32 a2_0, .int .i64 a2_1]] (by rfl) rfl rfl (by (try simp only [List.map_toArray, List.map_cons, List.map_nil]); first | done | rfl | (simp only [List.length_drop, List.length_take]; rfl)) ?_
                    with_reducible refine (waymarkref01_Cmp.calls kj45 a1_0 a1_1 a2_0 a2_1 t236 _ A186.out).mono ?_
                    rintro e w195 ⟨rfl, hb⟩
                    refine ⟨_, rfl, ?_⟩
                    have n0_ := Aside0.mk (blk_below (g := gb179) (o := .cells #[.int .u32 a1_0, .int .i64 a1_1] 30 (0, 0)) (by (with_reducible repeat (first | refine blk_drewN ?_ _ | refine blk_drew ?_ | refine blk_alloc ?_ _)); exact BK179.out) hb)
                    have n1_ := Aside0.mk (blk_below (g := gb180) (o := .cells #[.int .u32 a2_0, .int .i64 a2_1] 30 (0, 0)) (by (with_reducible repeat (first | refine blk_drewN ?_ _ | refine blk_drew ?_ | refine blk_alloc ?_ _)); exact BK180.out) hb)
                    have n2_ := Aside0.mk (blk_below (g := gb192) (o := .cells #[.int .u32 t189, .int .i64 t190] 30 (0, 0)) (by (with_reducible repeat (first | refine blk_drewN ?_ _ | refine blk_drew ?_ | refine blk_alloc ?_ _)); exact BK192.out) hb)
                    have n3_ := Aside0.mk (blk_below (g := gb196) (o := .cells #[.int .u32 t193, .int .i64 t194] 30 (0, 0)) (by (with_reducible repeat (first | refine blk_drewN ?_ _ | refine blk_drew ?_ | refine blk_alloc ?_ _)); exact BK196.out) hb)
                    have n4_ := Aside0.mk (blk_below (g := gb209) (o := .cells #[.int .u32 t204, .int .i64 t205] 30 (0, 0)) (by (with_reducible repeat (first | refine blk_drewN ?_ _ | refine blk_drew ?_ | refine blk_alloc ?_ _)); exact BK209.out) hb)
                    have n5_ := Aside0.mk (blk_below (g := gb210) (o := .cells #[.int .u32 t206, .int .i64 t207] 30 (0, 0)) (by (with_reducible repeat (first | refine blk_drewN ?_ _ | refine blk_drew ?_ | refine blk_alloc ?_ _)); exact BK210.out) hb)
                    have n6_ := Aside0.mk (blk_below (g := gb216) (o := .cells #[.int .u32 t211, .int .i64 t212] 30 (0, 0)) (by (with_reducible repeat (first | refine blk_drewN ?_ _ | refine blk_drew ?_ | refine blk_alloc ?_ _)); exact BK216.out) hb)
                    have n7_ := Aside0.mk (blk_below (g := gb217) (o := .cells #[.int .u32 t213, .int .i64 t214] 30 (0, 0)) (by (with_reducible repeat (first | refine blk_drewN ?_ _ | refine blk_drew ?_ | refine blk_alloc ?_ _)); exact BK217.out) hb)
                    have n8_ := Aside0.mk (blk_below (g := gb221) (o := .cells #[.int .u32 t218, .int .i64 t219] 30 (0, 0)) (by (with_reducible repeat (first | refine blk_drewN ?_ _ | refine blk_drew ?_ | refine blk_alloc ?_ _)); exact BK221.out) hb)
                    have n9_ := Aside0.mk (blk_below (g := gb225) (o := .cells #[.int .u32 t222, .int .i64 t223] 30 (0, 0)) (by (with_reducible repeat (first | refine blk_drewN ?_ _ | refine blk_drew ?_ | refine blk_alloc ?_ _)); exact BK225.out) hb)
                    have n10_ := Aside0.mk (below_step (by repeat (first | (with_reducible first | exact HB.out | apply below_alloc | apply pw_below_drewN | apply below_drew1 | refine below_set ?_ GE179.out | refine below_set ?_ GE180.out | refine below_set ?_ GE192.out | refine below_set ?_ GE196.out | refine below_set ?_ GE209.out | refine below_set ?_ GE210.out | refine below_set ?_ GE216.out | refine below_set ?_ GE217.out | refine below_set ?_ GE221.out | refine below_set ?_ GE225.out) | exact HB.out)) hb)
                    clear BK179
                    clear BK180
                    clear BK192
                    clear BK196
                    clear BK209
                    clear BK210
                    clear BK216
                    clear BK217
                    clear BK221
                    clear BK225
                    clear HB
                    have BK179 := n0_
                    have BK180 := n1_
                    have BK192 := n2_
                    have BK196 := n3_
                    have BK209 := n4_
                    have BK210 := n5_
                    have BK216 := n6_
                    have BK217 := n7_
                    have BK221 := n8_
                    have BK225 := n9_
                    have HB := n10_
                    clear n0_ n1_ n2_ n3_ n4_ n5_ n6_ n7_ n8_ n9_ n10_
                    (try clear hb)
                    (try clear hb2)
                    (try clear hk)
                    (try clear hi)
                    refine hK.out _ _ ⟨(blk_cell BK179.out 0).trans rfl, (blk_cell BK179.out 1).trans rfl, (blk_cell BK180.out 0).trans rfl, (blk_cell BK180.out 1).trans rfl⟩ (fun hHeld => ?_)
                    clear hK K
                    refine norm_ (a' := ?_) ?_ ?_
                    rotate_left
                    · show Act.put _ (some 198) _ = _
                      simp only [Act.put, List.setIfInBounds_toArray, List.set_cons_zero, List.set_cons_succ, i64_w, i32_w]
                      rfl
                    refine pure_ (i := 30) (N := some 199) (v := ?_) (a' := ?_) #[true, true, true, true, true, true, true, true, true, true, true, true, true, true, true, true, true, true, true, true, true, true, true, true, true, true, true, true, true, true, true, false, false] rfl rfl (any_of HT_.out (by kernel_rfl)) (fun _ _ _ h => h) (Or.inl ⟨by rfl, ?_⟩) ?_ ?_
                    rotate_left
                    · intro w'
                      go_simp
                      with_reducible rfl
                    rotate_left
                    · simp only [Act.put, List.setIfInBounds_toArray, List.set_cons_zero, List.set_cons_succ, i64_w, i32_w]
                      rfl
                    refine pure_ (i := 31) (N := some 200) (v := ?_) (a' := ?_) #[true, true, true, true, true, true, true, true, true, true, true, true, true, true, true, true, true, true, true, true, true, true, true, true, true, true, true, true, true, true, true, true, false] rfl rfl (any_of HT_.out (by kernel_rfl)) (fun _ _ _ h => h) (Or.inl ⟨by rfl, ?_⟩) ?_ ?_
                    rotate_left
                    · intro w'
                      go_simp
                      with_reducible rfl
                    rotate_left
                    · simp only [Act.put, List.setIfInBounds_toArray, List.set_cons_zero, List.set_cons_succ, i64_w, i32_w]
                      rfl
                    refine pure_ (i := 32) (N := some 8) (v := ?_) (a' := ?_) #[true, true, true, true, true, true, true, true, true, true, true, true, true, true, true, true, true, true, true, true, true, true, true, true, true, true, true, true, true, true, true, true, true] rfl rfl (any_of HT_.out (by kernel_rfl)) (fun _ _ _ h => h) (Or.inl ⟨by rfl, ?_⟩) ?_ ?_
                    rotate_left
                    · intro w'
                      go_simp
                      with_reducible rfl
                    rotate_left
                    · simp only [Act.put, List.setIfInBounds_toArray, List.set_cons_zero, List.set_cons_succ, i64_w, i32_w]
                      rfl
                    refine done_ (done_of HT_.out (by kernel_rfl)) ?_
                    try go_wp2
                    go_ret
                    exact ⟨by first | rfl | (simp [errW_none, errW_some] <;> rfl) | (simp [*, errW_none, errW_some] <;> rfl), by repeat (first | (with_reducible first | exact HB.out | apply below_alloc | apply pw_below_drewN | apply below_drew1 | refine below_set ?_ GE179.out | refine below_set ?_ GE180.out | refine below_set ?_ GE192.out | refine below_set ?_ GE196.out | refine below_set ?_ GE209.out | refine below_set ?_ GE210.out | refine below_set ?_ GE216.out | refine below_set ?_ GE217.out | refine below_set ?_ GE221.out | refine below_set ?_ GE225.out) | exact HB.out)⟩
                  · rw [if_neg c184] at H
                    exact absurd H (by simp)
                · rw [if_neg c181] at H
                  exact absurd H (by simp)
              · rw [if_neg c178] at H
                exact absurd H (by simp)

end Go.Proofs.Ytbnihnggljagnaa.QAddrPrefixes
