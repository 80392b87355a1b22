-- Written by this session's program (wip/tools/printx.py) over the kit's print; the texts marked HAND are its own. Lean checks it.
import Derived.Test.YtbnihnggljagnaaDoorQHeaderBackx0
import Derived.Test.YtbnihnggljagnaaDoorQHeaderBackx1
namespace Go.Proofs.YtbnihnggljagnaaDoor.QHeaderBack
open Go.RowKit Go.Proofs.YtbnihnggljagnaaDoorW.PrintWords Go.Proofs.YtbnihnggljagnaaDoorW.PrintLast Go.Proofs.YtbnihnggljagnaaDoorW.PrintMore
attribute [local go_sem] max2_int min2_int max_two min_two max_three min_three max_four min_four   -- for this text's walks alone
attribute [local go_sem high] Go.Proofs.YtbnihnggljagnaaDoor.Base.ux_u32 Go.Proofs.YtbnihnggljagnaaDoor.Base.ux_u64 Go.Proofs.YtbnihnggljagnaaDoor.Base.ux_u8 Go.Proofs.YtbnihnggljagnaaDoor.Base.ux_u16
set_option linter.unusedVariables false
set_option linter.unusedSimpArgs false

/-! ### header_Parse: function 55 -/
theorem bytes_sameH (l : ByteArray) (s : ByteArray) : (l.toList == s.toList) = decide (l = s) := by
  by_cases h : l = s
  · subst h; rw [decide_eq_true rfl]; exact beq_iff_eq.2 rfl
  · rw [decide_eq_false h]
    refine beq_eq_false_iff_ne.2 fun e => h ?_
    rw [ByteArray.toList_eq, ByteArray.toList_eq] at e
    exact ByteArray.ext (Array.toList_inj.1 e)
theorem bytes_diffH (l : ByteArray) (s : ByteArray) : (l.toList != s.toList) = !decide (l = s) := by rw [bne, bytes_sameH]
theorem puN_le (k : Nat) (s : ByteArray) (v : Int) (h : puN k s = some v) : 0 ≤ v ∧ v ≤ ((2 ^ k - 1 : Nat) : Int) := by
  unfold puN at h
  rcases hp : Lib.parseUintB k s.data.toList with n | _ | _
  · rw [hp] at h
    obtain rfl := Option.some.inj h
    have := Lib.parseUintB_le hp
    omega
  · rw [hp] at h; cases h
  · rw [hp] at h; cases h
theorem pu16_any (s : ByteArray) (hs : s.size ≤ 281474976710656) (w : World) (hG : WorldN.GN w) :
    Calls Tryd.prog 117 #[.string s, .int .i64 10, .int .i64 16] w fun e w' => (∃ (m : Int) (v : Value), e = .returned (.tuple #[.int .u64 m, v])) ∧ Below w.heap.size w w' := by
  rcases h : puN 16 s with _ | v
  · refine (pu16_no s hs h w hG).mono ?_
    rintro e w' ⟨⟨m, N, rfl⟩, hb⟩
    exact ⟨⟨m, _, rfl⟩, hb⟩
  · refine (pu16_ok s v hs h w).mono ?_
    rintro e w' ⟨rfl, hb⟩
    exact ⟨⟨v, _, rfl⟩, hb⟩
def headOf (a0 e0 : Int) (o0 : Option Int) (a1 e1 : Int) (o1 o2 : Option Int) : Option (Int × Int × Int × Int × Int) :=
  if e0 = 0 then match o0 with
    | some m => if e1 = 0 then match o1 with
      | some n => match o2 with
        | some p => some (a0, a1, p, m, n)
        | none => none
      | none => none
      else none
    | none => none
  else none
/-- What is handed back. -/
def parseE (s t : ByteArray) : Option (Int × Int × Int × Int × Int) → Ending
  | some h => if t = s then .returned (.tuple #[.agg #[.int .u32 h.1, .int .u32 h.2.1, .int .u8 h.2.2.1, .int .u16 h.2.2.2.1, .int .u16 h.2.2.2.2], .int .i64 0]) else .returned (.tuple #[.agg #[.int .u32 0, .int .u32 0, .int .u8 0, .int .u16 0, .int .u16 0], .int .i64 4])
  | none => .returned (.tuple #[.agg #[.int .u32 0, .int .u32 0, .int .u8 0, .int .u16 0, .int .u16 0], .int .i64 4])
set_option maxRecDepth 100000 in
set_option maxHeartbeats 4000000 in
theorem hparse_bad (s : ByteArray) (w : World) (hG : Go.Proofs.YtbnihnggljagnaaDoor.WorldA.GW w) (hs : s.size < 4294967281) (hc : Lib.countB s ⟨#[32]⟩ ≠ 2) :
    Calls Tryd.prog 55 #[.string s] w fun e w' => e = .returned (.tuple #[.agg #[.int .u32 0, .int .u32 0, .int .u8 0, .int .u16 0, .int .u16 0], .int .i64 4]) ∧ Below w.heap.size w w' := by
  have HI := Aside0.mk (show (Tryd.prog.info? 91).map (·.size) = some 5 from by kernel_rfl)
  have HO := Aside0.mk (show (#[.int .u32 0, .int .u32 0, .int .u8 0, .int .u16 0, .int .u16 0] : Array Value).all (·.oneCell') = true from by simp [Value.oneCell'])
  obtain ⟨m, hm⟩ := (Go.Proofs.YtbnihnggljagnaaDoor.WorldA.GW.below hG ((Below.refl _ w).alloc (Nat.le_refl _) (.cells #[.int .u32 0, .int .u32 0, .int .u8 0, .int .u16 0, .int .u16 0] 91 (0, 0)))).len
  have HM := Aside0.mk hm
  have HS := Aside0.mk hs
  have hn1 : ((Lib.countB s ⟨#[32]⟩ + 1 : Nat) : Int) ≠ 3 := by omega
  have hn2 : (((Lib.countB s ⟨#[32]⟩ + 1 : Nat) : Int) != 3) = true := by rw [bne_iff_ne]; exact hn1
  have hn3 : (((Lib.countB s ⟨#[32]⟩ : Nat) : Int) + 1 != 3) = true := by rw [bne_iff_ne]; omega
  have hn4 : ((Lib.countB s ⟨#[32]⟩ : Nat) : Int) + 1 ≠ 3 := by omega
  clear hG hm hs hc
  go_enter Tryd.func55, Tryd.ntmps55
  go_wp2_with (first | (go_at_call 80; refine (Tryd.strings_Split s ⟨#[32]⟩ m _ HS.out HM.out (by decide)).mono ?_; rintro e w1 ⟨rfl, rfl⟩) | (refine wpList_store_row rfl 91 _ _ rfl w.heap.size #[.int .u32 0, .int .u32 0, .int .u8 0, .int .u16 0, .int .u16 0] rfl rfl 91 #[.int .u32 0, .int .u32 0, .int .u8 0, .int .u16 0, .int .u16 0] (blk_alloc (blk_new _ _) _) HI.out rfl HO.out ?_))
  have hq := setRow_heap ((w.alloc (.cells #[.int .u32 0, .int .u32 0, .int .u8 0, .int .u16 0, .int .u16 0] 91 (0, 0))).alloc (.cells (List.map Value.string (Lib.splitB ⟨#[32]⟩ 0 (Lib.countB s ⟨#[32]⟩) s)).toArray 9 (0, 0))) w.heap.size _ #[.int .u32 0, .int .u32 0, .int .u8 0, .int .u16 0, .int .u16 0] 91 (0, 0) (blk_alloc (blk_new _ _) _)
  have k0 := blk_cell hq 0
  simp at k0
  have k1 := blk_cell hq 1
  simp at k1
  have k2 := blk_cell hq 2
  simp at k2
  have k3 := blk_cell hq 3
  simp at k3
  have k4 := blk_cell hq 4
  simp at k4
  clear hq
  refine bodyPost_ret (v := .tuple #[.agg #[.int .u32 0, .int .u32 0, .int .u8 0, .int .u16 0, .int .u16 0], .int .i64 4]) ?_ rfl ⟨rfl, below_setRow (((Below.refl _ w).alloc (Nat.le_refl _) _).alloc (by simp) _) (Nat.le_refl _) _⟩
  unfold results
  go_simp
def parsC (e0 e1 m0 m1 : Int) (o0 o1 : Option Int) (j : Int) : Prop := (1 ≤ j → e0 = 0 ∧ o0 = some m0) ∧ (2 ≤ j → e1 = 0 ∧ o1 = some m1)
def rowHP (a0 m0 a1 m1 k : Int) : Array Value := if k = 0 then #[.int .u32 0, .int .u32 0, .int .u8 0, .int .u16 0, .int .u16 0] else if k = 1 then #[.int .u32 a0, .int .u32 0, .int .u8 0, .int .u16 m0, .int .u16 0] else #[.int .u32 a0, .int .u32 a1, .int .u8 0, .int .u16 m0, .int .u16 m1]
set_option maxRecDepth 100000 in
set_option maxHeartbeats 8000000 in
theorem hparse_three (k : Nat) (s p0 p1 p2 x0 y0 x1 y1 t : ByteArray) (b0 b1 : Bool) (a0 e0 a1 e1 m0 m1 : Int) (w : World) (hG : Go.Proofs.YtbnihnggljagnaaDoor.WorldA.GW w) (hs : s.size < 4294967281) (hn : Lib.countB s ⟨#[32]⟩ = 2) (hp : Lib.splitB ⟨#[32]⟩ 0 2 s = [p0, p1, p2])
    (c0 : strings_Cut.f p0 (⟨#[58]⟩ : ByteArray) = some (x0, y0, b0)) (q0 : addr_Parse.f k x0 = some (a0, e0)) (c1 : strings_Cut.f p1 (⟨#[58]⟩ : ByteArray) = some (x1, y1, b1)) (q1 : addr_Parse.f k x1 = some (a1, e1))
    (z0 : y0.size ≤ 281474976710656) (z1 : y1.size ≤ 281474976710656) (z2 : p2.size ≤ 281474976710656) (hm0 : ∀ v, puN 16 y0 = some v → v = m0) (hm1 : ∀ v, puN 16 y1 = some v → v = m1)
    (hT : ∀ h, headOf a0 e0 (puN 16 y0) a1 e1 (puN 16 y1) (puN 8 p2) = some h → header_Text.f h.1 h.2.1 h.2.2.1 h.2.2.2.1 h.2.2.2.2 = some t) :
    Calls Tryd.prog 55 #[.string s] w fun e w' => e = parseE s t (headOf a0 e0 (puN 16 y0) a1 e1 (puN 16 y1) (puN 8 p2)) ∧ Below w.heap.size w w' := by
  have HI := Aside0.mk (show (Tryd.prog.info? 91).map (·.size) = some 5 from by kernel_rfl)
  have HO := Aside0.mk (show (#[.int .u32 0, .int .u32 0, .int .u8 0, .int .u16 0, .int .u16 0] : Array Value).all (·.oneCell') = true from by simp [Value.oneCell'])
  obtain ⟨ml, hml⟩ := (Go.Proofs.YtbnihnggljagnaaDoor.WorldA.GW.below hG ((Below.refl _ w).alloc (Nat.le_refl _) (.cells #[.int .u32 0, .int .u32 0, .int .u8 0, .int .u16 0, .int .u16 0] 91 (0, 0)))).len
  have HM := Aside0.mk hml
  have HS := Aside0.mk hs
  have HG := Aside0.mk hG
  have HSP := Aside0.mk (show ∀ w1 : World, w1.cell? ⟨0, 0, none⟩ = some (.int .i64 ml) → Calls Tryd.prog 80 #[.string s, .string ⟨#[32]⟩] w1 fun e w' => e = .returned (.slice (some ⟨w1.heap.size, 0, none⟩) 3 3) ∧ w' = w1.alloc (.cells #[.string p0, .string p1, .string p2] 9 (0, 0)) from fun w1 h1 => by have h := Tryd.strings_Split s ⟨#[32]⟩ ml w1 hs h1 (by decide); rw [hn, hp] at h; exact h)
  have C0 := Aside0.mk c0
  have C1 := Aside0.mk c1
  have Q0 := Aside0.mk q0
  have Q1 := Aside0.mk q1
  have Z0 := Aside0.mk z0
  have Z1 := Aside0.mk z1
  have Z2 := Aside0.mk z2
  have M0 := Aside0.mk hm0
  have M1 := Aside0.mk hm1
  have HT := Aside0.mk hT
  have FZ := Aside0.mk (show (((w.alloc (.cells #[.int .u32 0, .int .u32 0, .int .u8 0, .int .u16 0, .int .u16 0] 91 (0, 0))).alloc (.cells #[.string p0, .string p1, .string p2] 9 (0, 0))).alloc (.cells #[.int .u32 0, .int .u32 0, .int .u8 0, .int .u16 0, .int .u16 0] 91 (0, 0))).heap[w.heap.size]? = some (.cells #[.int .u32 0, .int .u32 0, .int .u8 0, .int .u16 0, .int .u16 0] 91 (0, 0)) from blk_alloc (blk_alloc (blk_new _ _) _) _)
  have FP := Aside0.mk (show (((w.alloc (.cells #[.int .u32 0, .int .u32 0, .int .u8 0, .int .u16 0, .int .u16 0] 91 (0, 0))).alloc (.cells #[.string p0, .string p1, .string p2] 9 (0, 0))).alloc (.cells #[.int .u32 0, .int .u32 0, .int .u8 0, .int .u16 0, .int .u16 0] 91 (0, 0))).heap[w.heap.size + 1]? = some (.cells #[.string p0, .string p1, .string p2] 9 (0, 0)) from blk_alloc (by have h := blk_new (w.alloc (.cells #[.int .u32 0, .int .u32 0, .int .u8 0, .int .u16 0, .int .u16 0] 91 (0, 0))) (.cells #[.string p0, .string p1, .string p2] 9 (0, 0)); simpa using h) _)
  have FH := Aside0.mk (show (((w.alloc (.cells #[.int .u32 0, .int .u32 0, .int .u8 0, .int .u16 0, .int .u16 0] 91 (0, 0))).alloc (.cells #[.string p0, .string p1, .string p2] 9 (0, 0))).alloc (.cells #[.int .u32 0, .int .u32 0, .int .u8 0, .int .u16 0, .int .u16 0] 91 (0, 0))).heap[w.heap.size + 2]? = some (.cells #[.int .u32 0, .int .u32 0, .int .u8 0, .int .u16 0, .int .u16 0] 91 (0, 0)) from by have h := blk_new ((w.alloc (.cells #[.int .u32 0, .int .u32 0, .int .u8 0, .int .u16 0, .int .u16 0] 91 (0, 0))).alloc (.cells #[.string p0, .string p1, .string p2] 9 (0, 0))) (.cells #[.int .u32 0, .int .u32 0, .int .u8 0, .int .u16 0, .int .u16 0] 91 (0, 0)); simpa [Nat.add_assoc] using h)
  have FB := Aside0.mk (show Below w.heap.size w (((w.alloc (.cells #[.int .u32 0, .int .u32 0, .int .u8 0, .int .u16 0, .int .u16 0] 91 (0, 0))).alloc (.cells #[.string p0, .string p1, .string p2] 9 (0, 0))).alloc (.cells #[.int .u32 0, .int .u32 0, .int .u8 0, .int .u16 0, .int .u16 0] 91 (0, 0))) from (((Below.refl _ w).alloc (Nat.le_refl _) _).alloc (by simp) _).alloc (by simp; omega) _)
  have NE0 := Aside0.mk (show w.heap.size ≠ w.heap.size + 2 by omega)
  have NE1 := Aside0.mk (show w.heap.size + 1 ≠ w.heap.size + 2 by omega)
  have LE2 := Aside0.mk (show w.heap.size ≤ w.heap.size + 2 by omega)
  clear hG hml hs hn hp c0 c1 q0 q1 z0 z1 z2 hm0 hm1 hT
  go_enter Tryd.func55, Tryd.ntmps55
  go_wp2_with (go_at_call 80; refine (HSP.out _ HM.out).mono ?_; rintro e w1 ⟨rfl, rfl⟩)
  go_loopw [22] (fun i wr => ∃ j : Int, (j = 0 ∨ j = 1 ∨ j = 2) ∧ i = .int .i64 j ∧ Aside0 (parsC e0 e1 m0 m1 (puN 16 y0) (puN 16 y1) j) ∧ Aside0 (wr.heap[w.heap.size + 2]? = some (.cells (rowHP a0 m0 a1 m1 j) 91 (0, 0))) ∧ Aside0 (wr.heap[w.heap.size + 1]? = some (.cells #[.string p0, .string p1, .string p2] 9 (0, 0))) ∧ Aside0 (wr.heap[w.heap.size]? = some (.cells #[.int .u32 0, .int .u32 0, .int .u8 0, .int .u16 0, .int .u16 0] 91 (0, 0))) ∧ Aside0 (Below w.heap.size w wr)) (fun i wr => 2 - (intOf i).toNat)
  case atStart => exact ⟨0, by omega, rfl, .mk ⟨fun h => absurd h (by decide), fun h => absurd h (by decide)⟩, FH, FP, FZ, FB⟩
  case round =>
    obtain ⟨j, hj, rfl, hcd, hh, hpp, hz, hbl⟩ := hrel
    rcases hj with rfl | rfl | rfl
    · have HC := hh.out
      rw [show rowHP a0 m0 a1 m1 0 = #[.int .u32 0, .int .u32 0, .int .u8 0, .int .u16 0, .int .u16 0] from rfl] at HC
      have HH := Aside0.mk HC
      clear HC hh
      have cp := blk_cell hpp.out 0
      simp at cp
      by_cases he : e0 = 0
      · rcases hpu : puN 16 y0 with _ | v
        · have HPU := Aside0.mk hpu
          clear hpu
          subst he
          go_wp2_with (first | (go_at_call 82; refine (strings_Cut.calls p0 ⟨#[58]⟩ x0 y0 b0 _ (Go.Proofs.YtbnihnggljagnaaDoor.WorldA.GW.below HG.out hbl.out) C0.out).mono ?_; rintro e w2 ⟨rfl, hbx⟩; have HZ2 := Aside0.mk (blk_below hz.out hbx); have HH2 := Aside0.mk (blk_below HH.out hbx); have HP2 := Aside0.mk (blk_below hpp.out hbx); have HB2 := Aside0.mk (hbl.out.trans (hbx.mono hbl.out.size)); clear hbx) | (go_at_call 38; refine (addr_Parse.calls k x0 a0 0 _ (Go.Proofs.YtbnihnggljagnaaDoor.WorldA.GW.below HG.out HB2.out) Q0.out).mono ?_; rintro e w3 ⟨rfl, hbx⟩; have HZ3 := Aside0.mk (blk_below HZ2.out hbx); have HH3 := Aside0.mk (blk_below HH2.out hbx); have HP3 := Aside0.mk (blk_below HP2.out hbx); have HB3 := Aside0.mk (HB2.out.trans (hbx.mono HB2.out.size)); clear hbx) | (go_at_call 117; refine (pu16_no y0 Z0.out HPU.out _ (Go.Proofs.YtbnihnggljagnaaDoor.WorldA.GW.num (Go.Proofs.YtbnihnggljagnaaDoor.WorldA.GW.below HG.out HB3.out))).mono ?_; rintro e w4 ⟨⟨mm, NN, rfl⟩, hbx⟩; have HZ4 := Aside0.mk (blk_below HZ3.out hbx); have HH4 := Aside0.mk (blk_below HH3.out hbx); have HP4 := Aside0.mk (blk_below HP3.out hbx); have HB4 := Aside0.mk (HB3.out.trans (hbx.mono HB3.out.size)); clear hbx; have g0 := blk_cell HH4.out 0; simp at g0; have f0 := blk_frozen HH4.out 0; have g1 := blk_cell HH4.out 1; simp at g1; have f1 := blk_frozen HH4.out 1; have g2 := blk_cell HH4.out 2; simp at g2; have f2 := blk_frozen HH4.out 2; have g3 := blk_cell HH4.out 3; simp at g3; have f3 := blk_frozen HH4.out 3; have g4 := blk_cell HH4.out 4; simp at g4; have f4 := blk_frozen HH4.out 4) | (refine wpList_store_row rfl 91 _ _ rfl w.heap.size #[.int .u32 0, .int .u32 0, .int .u8 0, .int .u16 0, .int .u16 0] rfl rfl 91 #[.int .u32 0, .int .u32 0, .int .u8 0, .int .u16 0, .int .u16 0] HZ4.out HI.out rfl HO.out ?_))
          have hq := setRow_heap w4 w.heap.size _ #[.int .u32 0, .int .u32 0, .int .u8 0, .int .u16 0, .int .u16 0] 91 (0, 0) HZ4.out
          have k0 := blk_cell hq 0
          simp at k0
          have k1 := blk_cell hq 1
          simp at k1
          have k2 := blk_cell hq 2
          simp at k2
          have k3 := blk_cell hq 3
          simp at k3
          have k4 := blk_cell hq 4
          simp at k4
          clear hq
          (try simp only [Exit.inBlock, Exit.then])
          refine bodyPost_ret (v := .tuple #[.agg #[.int .u32 0, .int .u32 0, .int .u8 0, .int .u16 0, .int .u16 0], .int .i64 4]) ?_ rfl ⟨by rw [show headOf a0 0 (puN 16 y0) a1 e1 (puN 16 y1) (puN 8 p2) = none from by unfold headOf; rw [if_pos rfl, HPU.out]]; rfl, below_setRow HB4.out (Nat.le_refl _) _⟩
          unfold results
          go_simp
        · obtain rfl : v = m0 := M0.out v hpu
          have hmr := puN_le 16 y0 v hpu
          have hwm : IntKind.wrap .u16 v = v := by rw [IntKind.wrap_u16]; omega
          have HPU := Aside0.mk hpu
          clear hpu hmr
          subst he
          go_wp2_with (first | (go_at_call 82; refine (strings_Cut.calls p0 ⟨#[58]⟩ x0 y0 b0 _ (Go.Proofs.YtbnihnggljagnaaDoor.WorldA.GW.below HG.out hbl.out) C0.out).mono ?_; rintro e w2 ⟨rfl, hbx⟩; have HZ2 := Aside0.mk (blk_below hz.out hbx); have HH2 := Aside0.mk (blk_below HH.out hbx); have HP2 := Aside0.mk (blk_below hpp.out hbx); have HB2 := Aside0.mk (hbl.out.trans (hbx.mono hbl.out.size)); clear hbx) | (go_at_call 38; refine (addr_Parse.calls k x0 a0 0 _ (Go.Proofs.YtbnihnggljagnaaDoor.WorldA.GW.below HG.out HB2.out) Q0.out).mono ?_; rintro e w3 ⟨rfl, hbx⟩; have HZ3 := Aside0.mk (blk_below HZ2.out hbx); have HH3 := Aside0.mk (blk_below HH2.out hbx); have HP3 := Aside0.mk (blk_below HP2.out hbx); have HB3 := Aside0.mk (HB2.out.trans (hbx.mono HB2.out.size)); clear hbx) | (go_at_call 117; refine (pu16_ok y0 v Z0.out HPU.out _).mono ?_; rintro e w4 ⟨rfl, hbx⟩; have HZ4 := Aside0.mk (blk_below HZ3.out hbx); have HH4 := Aside0.mk (blk_below HH3.out hbx); have HP4 := Aside0.mk (blk_below HP3.out hbx); have HB4 := Aside0.mk (HB3.out.trans (hbx.mono HB3.out.size)); clear hbx; have g0 := blk_cell HH4.out 0; simp at g0; have f0 := blk_frozen HH4.out 0; have g1 := blk_cell HH4.out 1; simp at g1; have f1 := blk_frozen HH4.out 1; have g2 := blk_cell HH4.out 2; simp at g2; have f2 := blk_frozen HH4.out 2; have g3 := blk_cell HH4.out 3; simp at g3; have f3 := blk_frozen HH4.out 3; have g4 := blk_cell HH4.out 4; simp at g4; have f4 := blk_frozen HH4.out 4))
          go_roundw
          case rel => exact ⟨1, by omega, rfl, .mk ⟨fun _ => ⟨rfl, rfl⟩, fun h => absurd h (by decide)⟩, .mk (by have h := blk_set (blk_set HH4.out 0 (.int .u32 a0)) 3 (.int .u16 v); simpa [rowHP] using h), .mk (blk_far (blk_far HP4.out (p := ⟨w.heap.size + 2, 0, none⟩) NE1.out _) (p := ⟨w.heap.size + 2, 3, none⟩) NE1.out _), .mk (blk_far (blk_far HZ4.out (p := ⟨w.heap.size + 2, 0, none⟩) NE0.out _) (p := ⟨w.heap.size + 2, 3, none⟩) NE0.out _), .mk ((HB4.out.setCell (p := ⟨w.heap.size + 2, 0, none⟩) LE2.out _).setCell (p := ⟨w.heap.size + 2, 3, none⟩) LE2.out _)⟩
          case measure => simp [intOf]
      · have he1 : (e0 != 0) = true := by rw [bne_iff_ne]; exact he
        have he2 : (e0 == 0) = false := by rw [beq_eq_false_iff_ne]; exact he
        go_wp2_with (first | (go_at_call 82; refine (strings_Cut.calls p0 ⟨#[58]⟩ x0 y0 b0 _ (Go.Proofs.YtbnihnggljagnaaDoor.WorldA.GW.below HG.out hbl.out) C0.out).mono ?_; rintro e w2 ⟨rfl, hbx⟩; have HZ2 := Aside0.mk (blk_below hz.out hbx); have HH2 := Aside0.mk (blk_below HH.out hbx); have HP2 := Aside0.mk (blk_below hpp.out hbx); have HB2 := Aside0.mk (hbl.out.trans (hbx.mono hbl.out.size)); clear hbx) | (go_at_call 38; refine (addr_Parse.calls k x0 a0 e0 _ (Go.Proofs.YtbnihnggljagnaaDoor.WorldA.GW.below HG.out HB2.out) Q0.out).mono ?_; rintro e w3 ⟨rfl, hbx⟩; have HZ3 := Aside0.mk (blk_below HZ2.out hbx); have HH3 := Aside0.mk (blk_below HH2.out hbx); have HP3 := Aside0.mk (blk_below HP2.out hbx); have HB3 := Aside0.mk (HB2.out.trans (hbx.mono HB2.out.size)); clear hbx) | (go_at_call 117; refine (pu16_any y0 Z0.out _ (Go.Proofs.YtbnihnggljagnaaDoor.WorldA.GW.num (Go.Proofs.YtbnihnggljagnaaDoor.WorldA.GW.below HG.out HB3.out))).mono ?_; rintro e w4 ⟨⟨mm, vv, rfl⟩, hbx⟩; have HZ4 := Aside0.mk (blk_below HZ3.out hbx); have HH4 := Aside0.mk (blk_below HH3.out hbx); have HP4 := Aside0.mk (blk_below HP3.out hbx); have HB4 := Aside0.mk (HB3.out.trans (hbx.mono HB3.out.size)); clear hbx; have g0 := blk_cell HH4.out 0; simp at g0; have f0 := blk_frozen HH4.out 0; have g1 := blk_cell HH4.out 1; simp at g1; have f1 := blk_frozen HH4.out 1; have g2 := blk_cell HH4.out 2; simp at g2; have f2 := blk_frozen HH4.out 2; have g3 := blk_cell HH4.out 3; simp at g3; have f3 := blk_frozen HH4.out 3; have g4 := blk_cell HH4.out 4; simp at g4; have f4 := blk_frozen HH4.out 4) | (refine wpList_store_row rfl 91 _ _ rfl w.heap.size #[.int .u32 0, .int .u32 0, .int .u8 0, .int .u16 0, .int .u16 0] rfl rfl 91 #[.int .u32 0, .int .u32 0, .int .u8 0, .int .u16 0, .int .u16 0] HZ4.out HI.out rfl HO.out ?_))
        have hq := setRow_heap w4 w.heap.size _ #[.int .u32 0, .int .u32 0, .int .u8 0, .int .u16 0, .int .u16 0] 91 (0, 0) HZ4.out
        have k0 := blk_cell hq 0
        simp at k0
        have k1 := blk_cell hq 1
        simp at k1
        have k2 := blk_cell hq 2
        simp at k2
        have k3 := blk_cell hq 3
        simp at k3
        have k4 := blk_cell hq 4
        simp at k4
        clear hq
        (try simp only [Exit.inBlock, Exit.then])
        refine bodyPost_ret (v := .tuple #[.agg #[.int .u32 0, .int .u32 0, .int .u8 0, .int .u16 0, .int .u16 0], .int .i64 4]) ?_ rfl ⟨by rw [show headOf a0 e0 (puN 16 y0) a1 e1 (puN 16 y1) (puN 8 p2) = none from by unfold headOf; rw [if_neg he]]; rfl, below_setRow HB4.out (Nat.le_refl _) _⟩
        unfold results
        go_simp
    · have HC := hh.out
      rw [show rowHP a0 m0 a1 m1 1 = #[.int .u32 a0, .int .u32 0, .int .u8 0, .int .u16 m0, .int .u16 0] from rfl] at HC
      have HH := Aside0.mk HC
      clear HC hh
      have cp := blk_cell hpp.out 1
      simp at cp
      obtain ⟨he0, hp0⟩ := hcd.out.1 (by decide)
      have HP0 := Aside0.mk hp0
      clear hp0
      subst he0
      by_cases he : e1 = 0
      · rcases hpu : puN 16 y1 with _ | v
        · have HPU := Aside0.mk hpu
          clear hpu
          subst he
          go_wp2_with (first | (go_at_call 82; refine (strings_Cut.calls p1 ⟨#[58]⟩ x1 y1 b1 _ (Go.Proofs.YtbnihnggljagnaaDoor.WorldA.GW.below HG.out hbl.out) C1.out).mono ?_; rintro e w2 ⟨rfl, hbx⟩; have HZ2 := Aside0.mk (blk_below hz.out hbx); have HH2 := Aside0.mk (blk_below HH.out hbx); have HP2 := Aside0.mk (blk_below hpp.out hbx); have HB2 := Aside0.mk (hbl.out.trans (hbx.mono hbl.out.size)); clear hbx) | (go_at_call 38; refine (addr_Parse.calls k x1 a1 0 _ (Go.Proofs.YtbnihnggljagnaaDoor.WorldA.GW.below HG.out HB2.out) Q1.out).mono ?_; rintro e w3 ⟨rfl, hbx⟩; have HZ3 := Aside0.mk (blk_below HZ2.out hbx); have HH3 := Aside0.mk (blk_below HH2.out hbx); have HP3 := Aside0.mk (blk_below HP2.out hbx); have HB3 := Aside0.mk (HB2.out.trans (hbx.mono HB2.out.size)); clear hbx) | (go_at_call 117; refine (pu16_no y1 Z1.out HPU.out _ (Go.Proofs.YtbnihnggljagnaaDoor.WorldA.GW.num (Go.Proofs.YtbnihnggljagnaaDoor.WorldA.GW.below HG.out HB3.out))).mono ?_; rintro e w4 ⟨⟨mm, NN, rfl⟩, hbx⟩; have HZ4 := Aside0.mk (blk_below HZ3.out hbx); have HH4 := Aside0.mk (blk_below HH3.out hbx); have HP4 := Aside0.mk (blk_below HP3.out hbx); have HB4 := Aside0.mk (HB3.out.trans (hbx.mono HB3.out.size)); clear hbx; have g0 := blk_cell HH4.out 0; simp at g0; have f0 := blk_frozen HH4.out 0; have g1 := blk_cell HH4.out 1; simp at g1; have f1 := blk_frozen HH4.out 1; have g2 := blk_cell HH4.out 2; simp at g2; have f2 := blk_frozen HH4.out 2; have g3 := blk_cell HH4.out 3; simp at g3; have f3 := blk_frozen HH4.out 3; have g4 := blk_cell HH4.out 4; simp at g4; have f4 := blk_frozen HH4.out 4) | (refine wpList_store_row rfl 91 _ _ rfl w.heap.size #[.int .u32 0, .int .u32 0, .int .u8 0, .int .u16 0, .int .u16 0] rfl rfl 91 #[.int .u32 0, .int .u32 0, .int .u8 0, .int .u16 0, .int .u16 0] HZ4.out HI.out rfl HO.out ?_))
          have hq := setRow_heap w4 w.heap.size _ #[.int .u32 0, .int .u32 0, .int .u8 0, .int .u16 0, .int .u16 0] 91 (0, 0) HZ4.out
          have k0 := blk_cell hq 0
          simp at k0
          have k1 := blk_cell hq 1
          simp at k1
          have k2 := blk_cell hq 2
          simp at k2
          have k3 := blk_cell hq 3
          simp at k3
          have k4 := blk_cell hq 4
          simp at k4
          clear hq
          (try simp only [Exit.inBlock, Exit.then])
          refine bodyPost_ret (v := .tuple #[.agg #[.int .u32 0, .int .u32 0, .int .u8 0, .int .u16 0, .int .u16 0], .int .i64 4]) ?_ rfl ⟨by rw [show headOf a0 0 (puN 16 y0) a1 0 (puN 16 y1) (puN 8 p2) = none from by unfold headOf; rw [if_pos rfl, HP0.out]; simp only [if_true, HPU.out]]; rfl, below_setRow HB4.out (Nat.le_refl _) _⟩
          unfold results
          go_simp
        · obtain rfl : v = m1 := M1.out v hpu
          have hmr := puN_le 16 y1 v hpu
          have hwm : IntKind.wrap .u16 v = v := by rw [IntKind.wrap_u16]; omega
          have HPU := Aside0.mk hpu
          clear hpu hmr
          subst he
          go_wp2_with (first | (go_at_call 82; refine (strings_Cut.calls p1 ⟨#[58]⟩ x1 y1 b1 _ (Go.Proofs.YtbnihnggljagnaaDoor.WorldA.GW.below HG.out hbl.out) C1.out).mono ?_; rintro e w2 ⟨rfl, hbx⟩; have HZ2 := Aside0.mk (blk_below hz.out hbx); have HH2 := Aside0.mk (blk_below HH.out hbx); have HP2 := Aside0.mk (blk_below hpp.out hbx); have HB2 := Aside0.mk (hbl.out.trans (hbx.mono hbl.out.size)); clear hbx) | (go_at_call 38; refine (addr_Parse.calls k x1 a1 0 _ (Go.Proofs.YtbnihnggljagnaaDoor.WorldA.GW.below HG.out HB2.out) Q1.out).mono ?_; rintro e w3 ⟨rfl, hbx⟩; have HZ3 := Aside0.mk (blk_below HZ2.out hbx); have HH3 := Aside0.mk (blk_below HH2.out hbx); have HP3 := Aside0.mk (blk_below HP2.out hbx); have HB3 := Aside0.mk (HB2.out.trans (hbx.mono HB2.out.size)); clear hbx) | (go_at_call 117; refine (pu16_ok y1 v Z1.out HPU.out _).mono ?_; rintro e w4 ⟨rfl, hbx⟩; have HZ4 := Aside0.mk (blk_below HZ3.out hbx); have HH4 := Aside0.mk (blk_below HH3.out hbx); have HP4 := Aside0.mk (blk_below HP3.out hbx); have HB4 := Aside0.mk (HB3.out.trans (hbx.mono HB3.out.size)); clear hbx; have g0 := blk_cell HH4.out 0; simp at g0; have f0 := blk_frozen HH4.out 0; have g1 := blk_cell HH4.out 1; simp at g1; have f1 := blk_frozen HH4.out 1; have g2 := blk_cell HH4.out 2; simp at g2; have f2 := blk_frozen HH4.out 2; have g3 := blk_cell HH4.out 3; simp at g3; have f3 := blk_frozen HH4.out 3; have g4 := blk_cell HH4.out 4; simp at g4; have f4 := blk_frozen HH4.out 4))
          go_roundw
          case rel => exact ⟨2, by omega, rfl, .mk ⟨fun _ => ⟨rfl, HP0.out⟩, fun h => ⟨rfl, rfl⟩⟩, .mk (by have h := blk_set (blk_set HH4.out 1 (.int .u32 a1)) 4 (.int .u16 v); simpa [rowHP] using h), .mk (blk_far (blk_far HP4.out (p := ⟨w.heap.size + 2, 1, none⟩) NE1.out _) (p := ⟨w.heap.size + 2, 4, none⟩) NE1.out _), .mk (blk_far (blk_far HZ4.out (p := ⟨w.heap.size + 2, 1, none⟩) NE0.out _) (p := ⟨w.heap.size + 2, 4, none⟩) NE0.out _), .mk ((HB4.out.setCell (p := ⟨w.heap.size + 2, 1, none⟩) LE2.out _).setCell (p := ⟨w.heap.size + 2, 4, none⟩) LE2.out _)⟩
          case measure => simp [intOf]
      · have he1 : (e1 != 0) = true := by rw [bne_iff_ne]; exact he
        have he2 : (e1 == 0) = false := by rw [beq_eq_false_iff_ne]; exact he
        go_wp2_with (first | (go_at_call 82; refine (strings_Cut.calls p1 ⟨#[58]⟩ x1 y1 b1 _ (Go.Proofs.YtbnihnggljagnaaDoor.WorldA.GW.below HG.out hbl.out) C1.out).mono ?_; rintro e w2 ⟨rfl, hbx⟩; have HZ2 := Aside0.mk (blk_below hz.out hbx); have HH2 := Aside0.mk (blk_below HH.out hbx); have HP2 := Aside0.mk (blk_below hpp.out hbx); have HB2 := Aside0.mk (hbl.out.trans (hbx.mono hbl.out.size)); clear hbx) | (go_at_call 38; refine (addr_Parse.calls k x1 a1 e1 _ (Go.Proofs.YtbnihnggljagnaaDoor.WorldA.GW.below HG.out HB2.out) Q1.out).mono ?_; rintro e w3 ⟨rfl, hbx⟩; have HZ3 := Aside0.mk (blk_below HZ2.out hbx); have HH3 := Aside0.mk (blk_below HH2.out hbx); have HP3 := Aside0.mk (blk_below HP2.out hbx); have HB3 := Aside0.mk (HB2.out.trans (hbx.mono HB2.out.size)); clear hbx) | (go_at_call 117; refine (pu16_any y1 Z1.out _ (Go.Proofs.YtbnihnggljagnaaDoor.WorldA.GW.num (Go.Proofs.YtbnihnggljagnaaDoor.WorldA.GW.below HG.out HB3.out))).mono ?_; rintro e w4 ⟨⟨mm, vv, rfl⟩, hbx⟩; have HZ4 := Aside0.mk (blk_below HZ3.out hbx); have HH4 := Aside0.mk (blk_below HH3.out hbx); have HP4 := Aside0.mk (blk_below HP3.out hbx); have HB4 := Aside0.mk (HB3.out.trans (hbx.mono HB3.out.size)); clear hbx; have g0 := blk_cell HH4.out 0; simp at g0; have f0 := blk_frozen HH4.out 0; have g1 := blk_cell HH4.out 1; simp at g1; have f1 := blk_frozen HH4.out 1; have g2 := blk_cell HH4.out 2; simp at g2; have f2 := blk_frozen HH4.out 2; have g3 := blk_cell HH4.out 3; simp at g3; have f3 := blk_frozen HH4.out 3; have g4 := blk_cell HH4.out 4; simp at g4; have f4 := blk_frozen HH4.out 4) | (refine wpList_store_row rfl 91 _ _ rfl w.heap.size #[.int .u32 0, .int .u32 0, .int .u8 0, .int .u16 0, .int .u16 0] rfl rfl 91 #[.int .u32 0, .int .u32 0, .int .u8 0, .int .u16 0, .int .u16 0] HZ4.out HI.out rfl HO.out ?_))
        have hq := setRow_heap w4 w.heap.size _ #[.int .u32 0, .int .u32 0, .int .u8 0, .int .u16 0, .int .u16 0] 91 (0, 0) HZ4.out
        have k0 := blk_cell hq 0
        simp at k0
        have k1 := blk_cell hq 1
        simp at k1
        have k2 := blk_cell hq 2
        simp at k2
        have k3 := blk_cell hq 3
        simp at k3
        have k4 := blk_cell hq 4
        simp at k4
        clear hq
        (try simp only [Exit.inBlock, Exit.then])
        refine bodyPost_ret (v := .tuple #[.agg #[.int .u32 0, .int .u32 0, .int .u8 0, .int .u16 0, .int .u16 0], .int .i64 4]) ?_ rfl ⟨by rw [show headOf a0 0 (puN 16 y0) a1 e1 (puN 16 y1) (puN 8 p2) = none from by unfold headOf; rw [if_pos rfl, HP0.out]; simp only; rw [if_neg he]]; rfl, below_setRow HB4.out (Nat.le_refl _) _⟩
        unfold results
        go_simp
    · have HC := hh.out
      rw [show rowHP a0 m0 a1 m1 2 = #[.int .u32 a0, .int .u32 a1, .int .u8 0, .int .u16 m0, .int .u16 m1] from rfl] at HC
      have HH := Aside0.mk HC
      clear HC hh
      have cp := blk_cell hpp.out 2
      simp at cp
      obtain ⟨he0, hp0⟩ := hcd.out.1 (by decide)
      have HP0 := Aside0.mk hp0
      clear hp0
      subst he0
      obtain ⟨he1, hp1⟩ := hcd.out.2 (by decide)
      have HP1 := Aside0.mk hp1
      clear hp1
      subst he1
      rcases hpu : puN 8 p2 with _ | v
      · have HPU := Aside0.mk hpu
        clear hpu
        go_wp2_with (first | (go_at_call 117; refine (pu8_no p2 Z2.out HPU.out _ (Go.Proofs.YtbnihnggljagnaaDoor.WorldA.GW.num (Go.Proofs.YtbnihnggljagnaaDoor.WorldA.GW.below HG.out hbl.out))).mono ?_; rintro e w4 ⟨⟨mm, NN, rfl, hr0, hr1⟩, hbx⟩; have HZ4 := Aside0.mk (blk_below hz.out hbx); have HH4 := Aside0.mk (blk_below HH.out hbx); have HP4 := Aside0.mk (blk_below hpp.out hbx); have HB4 := Aside0.mk (hbl.out.trans (hbx.mono hbl.out.size)); clear hbx; have g0 := blk_cell HH4.out 0; simp at g0; have f0 := blk_frozen HH4.out 0; have g1 := blk_cell HH4.out 1; simp at g1; have f1 := blk_frozen HH4.out 1; have g2 := blk_cell HH4.out 2; simp at g2; have f2 := blk_frozen HH4.out 2; have g3 := blk_cell HH4.out 3; simp at g3; have f3 := blk_frozen HH4.out 3; have g4 := blk_cell HH4.out 4; simp at g4; have f4 := blk_frozen HH4.out 4) | (refine wpList_store_row rfl 91 _ _ rfl w.heap.size #[.int .u32 0, .int .u32 0, .int .u8 0, .int .u16 0, .int .u16 0] rfl rfl 91 #[.int .u32 0, .int .u32 0, .int .u8 0, .int .u16 0, .int .u16 0] (blk_far HZ4.out (p := ⟨w.heap.size + 2, 2, none⟩) NE0.out _) HI.out rfl HO.out ?_))
        have HZ5 := Aside0.mk (blk_far HZ4.out (p := ⟨w.heap.size + 2, 2, none⟩) NE0.out (.int .u8 mm))
        have HB5 := Aside0.mk (HB4.out.setCell (p := ⟨w.heap.size + 2, 2, none⟩) LE2.out (.int .u8 mm))
        have hq := setRow_heap (w4.setCell ⟨w.heap.size + 2, 2, none⟩ (.int .u8 mm)) w.heap.size _ #[.int .u32 0, .int .u32 0, .int .u8 0, .int .u16 0, .int .u16 0] 91 (0, 0) HZ5.out
        have k0 := blk_cell hq 0
        simp at k0
        have k1 := blk_cell hq 1
        simp at k1
        have k2 := blk_cell hq 2
        simp at k2
        have k3 := blk_cell hq 3
        simp at k3
        have k4 := blk_cell hq 4
        simp at k4
        clear hq
        (try simp only [Exit.inBlock, Exit.then])
        refine bodyPost_ret (v := .tuple #[.agg #[.int .u32 0, .int .u32 0, .int .u8 0, .int .u16 0, .int .u16 0], .int .i64 4]) ?_ rfl ⟨by rw [show headOf a0 0 (puN 16 y0) a1 0 (puN 16 y1) (puN 8 p2) = none from by unfold headOf; rw [if_pos rfl, HP0.out]; simp only [if_true, HP1.out, HPU.out]]; rfl, below_setRow HB5.out (Nat.le_refl _) _⟩
        unfold results
        go_simp
      · have hvr := puN_le 8 p2 v hpu
        have hwm : IntKind.wrap .u8 v = v := by rw [IntKind.wrap_u8]; omega
        have HPU := Aside0.mk hpu
        clear hvr hpu
        have HX := Aside0.mk (show headOf a0 0 (puN 16 y0) a1 0 (puN 16 y1) (puN 8 p2) = some (a0, a1, v, m0, m1) from by unfold headOf; rw [if_pos rfl, HP0.out]; simp only [if_true, HP1.out, HPU.out])
        have HTT := Aside0.mk (show header_Text.f a0 a1 v m0 m1 = some t from HT.out _ HX.out)
        have HOR := Aside0.mk (show (#[.int .u32 a0, .int .u32 a1, .int .u8 v, .int .u16 m0, .int .u16 m1] : Array Value).all (·.oneCell') = true from by simp [Value.oneCell'])
        have hb1 := bytes_sameH t s
        have hb2 := bytes_diffH t s
        by_cases hts : t = s
        · rw [decide_eq_true hts] at hb1 hb2
          have HTS := Aside0.mk hts
          clear hts
          go_wp2_with (first | (go_at_call 117; refine (pu8_ok p2 v Z2.out HPU.out _).mono ?_; rintro e w4 ⟨rfl, hbx⟩; have HZ4 := Aside0.mk (blk_below hz.out hbx); have HH4 := Aside0.mk (blk_below HH.out hbx); have HP4 := Aside0.mk (blk_below hpp.out hbx); have HB4 := Aside0.mk (hbl.out.trans (hbx.mono hbl.out.size)); clear hbx; have g0 := blk_cell HH4.out 0; simp at g0; have f0 := blk_frozen HH4.out 0; have g1 := blk_cell HH4.out 1; simp at g1; have f1 := blk_frozen HH4.out 1; have g2 := blk_cell HH4.out 2; simp at g2; have f2 := blk_frozen HH4.out 2; have g3 := blk_cell HH4.out 3; simp at g3; have f3 := blk_frozen HH4.out 3; have g4 := blk_cell HH4.out 4; simp at g4; have f4 := blk_frozen HH4.out 4; have HH5 := Aside0.mk (show (w4.setCell ⟨w.heap.size + 2, 2, none⟩ (.int .u8 v)).heap[w.heap.size + 2]? = some (.cells #[.int .u32 a0, .int .u32 a1, .int .u8 v, .int .u16 m0, .int .u16 m1] 91 (0, 0)) from by have h := blk_set HH4.out 2 (.int .u8 v); simpa using h); have HZ5 := Aside0.mk (blk_far HZ4.out (p := ⟨w.heap.size + 2, 2, none⟩) NE0.out (.int .u8 v)); have HB5 := Aside0.mk (HB4.out.setCell (p := ⟨w.heap.size + 2, 2, none⟩) LE2.out (.int .u8 v))) | (refine wpList_load_row rfl 91 _ rfl (w.heap.size + 2) rfl 91 #[.int .u32 a0, .int .u32 a1, .int .u8 v, .int .u16 m0, .int .u16 m1] (0, 0) _ HH5.out Tryd.underlying91 rfl HI.out ?_) | (go_at_call 56; refine (header_Text.calls a0 a1 v m0 m1 t _ (Go.Proofs.YtbnihnggljagnaaDoor.WorldA.GW.below HG.out HB5.out) HTT.out).mono ?_; rintro e w6 ⟨rfl, hbx⟩; have HZ6 := Aside0.mk (blk_below HZ5.out hbx); have HH6 := Aside0.mk (blk_below HH5.out hbx); have HB6 := Aside0.mk (HB5.out.trans (hbx.mono HB5.out.size)); clear hbx) | (refine wpList_load_row rfl 91 _ rfl (w.heap.size + 2) rfl 91 #[.int .u32 a0, .int .u32 a1, .int .u8 v, .int .u16 m0, .int .u16 m1] (0, 0) _ HH6.out Tryd.underlying91 rfl HI.out ?_) | (refine wpList_store_row rfl 91 _ _ rfl w.heap.size #[.int .u32 a0, .int .u32 a1, .int .u8 v, .int .u16 m0, .int .u16 m1] rfl rfl 91 #[.int .u32 0, .int .u32 0, .int .u8 0, .int .u16 0, .int .u16 0] HZ6.out HI.out rfl HOR.out ?_))
          have hq := setRow_heap w6 w.heap.size _ #[.int .u32 a0, .int .u32 a1, .int .u8 v, .int .u16 m0, .int .u16 m1] 91 (0, 0) HZ6.out
          have k0 := blk_cell hq 0
          simp at k0
          have k1 := blk_cell hq 1
          simp at k1
          have k2 := blk_cell hq 2
          simp at k2
          have k3 := blk_cell hq 3
          simp at k3
          have k4 := blk_cell hq 4
          simp at k4
          clear hq
          (try simp only [Exit.inBlock, Exit.then])
          refine bodyPost_ret (v := .tuple #[.agg #[.int .u32 a0, .int .u32 a1, .int .u8 v, .int .u16 m0, .int .u16 m1], .int .i64 0]) ?_ rfl ⟨by rw [HX.out]; exact (if_pos HTS.out).symm, below_setRow HB6.out (Nat.le_refl _) _⟩
          unfold results
          go_simp
        · rw [decide_eq_false hts] at hb1 hb2
          have HTS := Aside0.mk hts
          clear hts
          go_wp2_with (first | (go_at_call 117; refine (pu8_ok p2 v Z2.out HPU.out _).mono ?_; rintro e w4 ⟨rfl, hbx⟩; have HZ4 := Aside0.mk (blk_below hz.out hbx); have HH4 := Aside0.mk (blk_below HH.out hbx); have HP4 := Aside0.mk (blk_below hpp.out hbx); have HB4 := Aside0.mk (hbl.out.trans (hbx.mono hbl.out.size)); clear hbx; have g0 := blk_cell HH4.out 0; simp at g0; have f0 := blk_frozen HH4.out 0; have g1 := blk_cell HH4.out 1; simp at g1; have f1 := blk_frozen HH4.out 1; have g2 := blk_cell HH4.out 2; simp at g2; have f2 := blk_frozen HH4.out 2; have g3 := blk_cell HH4.out 3; simp at g3; have f3 := blk_frozen HH4.out 3; have g4 := blk_cell HH4.out 4; simp at g4; have f4 := blk_frozen HH4.out 4; have HH5 := Aside0.mk (show (w4.setCell ⟨w.heap.size + 2, 2, none⟩ (.int .u8 v)).heap[w.heap.size + 2]? = some (.cells #[.int .u32 a0, .int .u32 a1, .int .u8 v, .int .u16 m0, .int .u16 m1] 91 (0, 0)) from by have h := blk_set HH4.out 2 (.int .u8 v); simpa using h); have HZ5 := Aside0.mk (blk_far HZ4.out (p := ⟨w.heap.size + 2, 2, none⟩) NE0.out (.int .u8 v)); have HB5 := Aside0.mk (HB4.out.setCell (p := ⟨w.heap.size + 2, 2, none⟩) LE2.out (.int .u8 v))) | (refine wpList_load_row rfl 91 _ rfl (w.heap.size + 2) rfl 91 #[.int .u32 a0, .int .u32 a1, .int .u8 v, .int .u16 m0, .int .u16 m1] (0, 0) _ HH5.out Tryd.underlying91 rfl HI.out ?_) | (go_at_call 56; refine (header_Text.calls a0 a1 v m0 m1 t _ (Go.Proofs.YtbnihnggljagnaaDoor.WorldA.GW.below HG.out HB5.out) HTT.out).mono ?_; rintro e w6 ⟨rfl, hbx⟩; have HZ6 := Aside0.mk (blk_below HZ5.out hbx); have HH6 := Aside0.mk (blk_below HH5.out hbx); have HB6 := Aside0.mk (HB5.out.trans (hbx.mono HB5.out.size)); clear hbx) | (refine wpList_load_row rfl 91 _ rfl (w.heap.size + 2) rfl 91 #[.int .u32 a0, .int .u32 a1, .int .u8 v, .int .u16 m0, .int .u16 m1] (0, 0) _ HH6.out Tryd.underlying91 rfl HI.out ?_) | (refine wpList_store_row rfl 91 _ _ rfl w.heap.size #[.int .u32 0, .int .u32 0, .int .u8 0, .int .u16 0, .int .u16 0] rfl rfl 91 #[.int .u32 0, .int .u32 0, .int .u8 0, .int .u16 0, .int .u16 0] HZ6.out HI.out rfl HO.out ?_))
          have hq := setRow_heap w6 w.heap.size _ #[.int .u32 0, .int .u32 0, .int .u8 0, .int .u16 0, .int .u16 0] 91 (0, 0) HZ6.out
          have k0 := blk_cell hq 0
          simp at k0
          have k1 := blk_cell hq 1
          simp at k1
          have k2 := blk_cell hq 2
          simp at k2
          have k3 := blk_cell hq 3
          simp at k3
          have k4 := blk_cell hq 4
          simp at k4
          clear hq
          (try simp only [Exit.inBlock, Exit.then])
          refine bodyPost_ret (v := .tuple #[.agg #[.int .u32 0, .int .u32 0, .int .u8 0, .int .u16 0, .int .u16 0], .int .i64 4]) ?_ rfl ⟨by rw [HX.out]; exact (if_neg HTS.out).symm, below_setRow HB6.out (Nat.le_refl _) _⟩
          unfold results
          go_simp
def header_Parse.f (k : Nat) (s : ByteArray) : Option (Int × Int × Int × Int × Int × Int) :=
  (strings_Split.f s (⟨#[32]⟩ : ByteArray)).bind fun w => match w with
    | [p0, p1, p2] => (strings_Cut.f p0 (⟨#[58]⟩ : ByteArray)).bind fun c0 => (addr_Parse.f k c0.1).bind fun r0 => (strings_Cut.f p1 (⟨#[58]⟩ : ByteArray)).bind fun c1 => (addr_Parse.f k c1.1).bind fun r1 =>
      if c0.2.1.size ≤ 281474976710656 ∧ c1.2.1.size ≤ 281474976710656 ∧ p2.size ≤ 281474976710656 then
        (match headOf r0.1 r0.2 (puN 16 c0.2.1) r1.1 r1.2 (puN 16 c1.2.1) (puN 8 p2) with
          | some h => (header_Text.f h.1 h.2.1 h.2.2.1 h.2.2.2.1 h.2.2.2.2).bind fun t => if t = s then some (h.1, h.2.1, h.2.2.1, h.2.2.2.1, h.2.2.2.2, 0) else some (0, 0, 0, 0, 0, 4)
          | none => some (0, 0, 0, 0, 0, 4))
      else none
    | _ => some (0, 0, 0, 0, 0, 4)
theorem header_Parse.mono : ∀ a0 k, LeO (header_Parse.f k a0) (header_Parse.f (k + 1) a0) := by
  intro s k
  unfold header_Parse.f
  refine LeO.bind (LeO.refl _) (fun w => ?_)
  split
  · refine LeO.bind (LeO.refl _) (fun c0 => LeO.bind (addr_Parse.mono _ _) (fun r0 => LeO.bind (LeO.refl _) (fun c1 => LeO.bind (addr_Parse.mono _ _) (fun r1 => LeO.refl _))))
  · exact LeO.refl _
theorem header_Parse.calls (k : Nat) (a0 : ByteArray) (r1 r2 r3 r4 r5 r6 : Int) (w : World) (hG : Go.Proofs.YtbnihnggljagnaaDoor.WorldA.GW w) (h : header_Parse.f k a0 = some (r1, r2, r3, r4, r5, r6)) :
    Calls Tryd.prog 55 #[.string a0] w fun e w' => e = .returned (.tuple #[.agg #[.int .u32 r1, .int .u32 r2, .int .u8 r3, .int .u16 r4, .int .u16 r5], .int .i64 r6]) ∧ Below w.heap.size w w' := by
  unfold header_Parse.f at h
  obtain ⟨wl, hw, h⟩ := Option.bind_eq_some_iff.1 h
  unfold strings_Split.f at hw
  by_cases h1 : a0.size < 4294967281 ∧ 1 ≤ (⟨#[32]⟩ : ByteArray).size
  · rw [if_pos h1] at hw
    have hw := Option.some.inj hw
    have hlen := Lib.splitB_all (⟨#[32]⟩ : ByteArray) (by decide) 0 _ a0 rfl
    rw [hw] at hlen
    have bad : Lib.countB a0 ⟨#[32]⟩ ≠ 2 → (some (0, 0, 0, 0, 0, 4) : Option (Int × Int × Int × Int × Int × Int)) = some (r1, r2, r3, r4, r5, r6) → Calls Tryd.prog 55 #[.string a0] w fun e w' => e = .returned (.tuple #[.agg #[.int .u32 r1, .int .u32 r2, .int .u8 r3, .int .u16 r4, .int .u16 r5], .int .i64 r6]) ∧ Below w.heap.size w w' := by
      intro hc h
      simp only [Option.some.injEq, Prod.mk.injEq] at h
      obtain ⟨rfl, rfl, rfl, rfl, rfl, rfl⟩ := h
      exact hparse_bad a0 w hG h1.1 hc
    rcases wl with _ | ⟨p0, _ | ⟨p1, _ | ⟨p2, _ | ⟨p3, wl⟩⟩⟩⟩
    · exact bad (by simp at hlen) h
    · exact bad (by simp at hlen; omega) h
    · exact bad (by simp at hlen; omega) h
    · obtain ⟨⟨x0, y0, b0⟩, hc0, h⟩ := Option.bind_eq_some_iff.1 h
      obtain ⟨⟨a0', e0⟩, hq0, h⟩ := Option.bind_eq_some_iff.1 h
      obtain ⟨⟨x1, y1, b1⟩, hc1, h⟩ := Option.bind_eq_some_iff.1 h
      obtain ⟨⟨a1', e1⟩, hq1, h⟩ := Option.bind_eq_some_iff.1 h
      simp only at hq0 hq1 h
      by_cases hz : y0.size ≤ 281474976710656 ∧ y1.size ≤ 281474976710656 ∧ p2.size ≤ 281474976710656
      · rw [if_pos hz] at h
        have hn : Lib.countB a0 ⟨#[32]⟩ = 2 := by simp only [List.length_cons, List.length_nil] at hlen; omega
        rw [hn] at hw
        rcases hh : headOf a0' e0 (puN 16 y0) a1' e1 (puN 16 y1) (puN 8 p2) with _ | hd
        · rw [hh] at h
          simp only [Option.some.injEq, Prod.mk.injEq] at h
          obtain ⟨rfl, rfl, rfl, rfl, rfl, rfl⟩ := h
          have hw3 := hparse_three k a0 p0 p1 p2 x0 y0 x1 y1 a0 b0 b1 a0' e0 a1' e1 ((puN 16 y0).getD 0) ((puN 16 y1).getD 0) w hG h1.1 hn hw hc0 hq0 hc1 hq1 hz.1 hz.2.1 hz.2.2 (fun v hv => by rw [hv]; rfl) (fun v hv => by rw [hv]; rfl) (fun h' e' => by rw [hh] at e'; cases e')
          rw [hh] at hw3
          exact hw3
        · rw [hh] at h
          obtain ⟨t, ht, h⟩ := Option.bind_eq_some_iff.1 h
          have hw3 := hparse_three k a0 p0 p1 p2 x0 y0 x1 y1 t b0 b1 a0' e0 a1' e1 ((puN 16 y0).getD 0) ((puN 16 y1).getD 0) w hG h1.1 hn hw hc0 hq0 hc1 hq1 hz.1 hz.2.1 hz.2.2 (fun v hv => by rw [hv]; rfl) (fun v hv => by rw [hv]; rfl) (fun h' e' => by rw [hh] at e'; rw [← Option.some.inj e']; exact ht)
          rw [hh] at hw3
          unfold parseE at hw3
          by_cases hts : t = a0
          · simp only [if_pos hts] at hw3
            rw [if_pos hts] at h
            simp only [Option.some.injEq, Prod.mk.injEq] at h
            obtain ⟨rfl, rfl, rfl, rfl, rfl, rfl⟩ := h
            exact hw3
          · simp only [if_neg hts] at hw3
            rw [if_neg hts] at h
            simp only [Option.some.injEq, Prod.mk.injEq] at h
            obtain ⟨rfl, rfl, rfl, rfl, rfl, rfl⟩ := h
            exact hw3
      · rw [if_neg hz] at h; cases h
    · exact bad (by simp at hlen; omega) h
  · rw [if_neg h1] at hw; cases hw


/-! ### waymarklaw03_same: function 57 -/
def waymarklaw03_same.f (a0_0 : Int) (a0_1 : Int) (a0_2 : Int) (a0_3 : Int) (a0_4 : Int) (a1_0 : Int) (a1_1 : Int) (a1_2 : Int) (a1_3 : Int) (a1_4 : Int) : Option (Bool) := if a0_0 = a1_0 then (if a0_1 = a1_1 then (if a0_2 = a1_2 then (if a0_3 = a1_3 then (some (a0_4 == a1_4)) else (some false)) else (some false)) else (some false)) else (some false)
set_option maxHeartbeats 8000000 in
set_option maxRecDepth 100000 in
theorem waymarklaw03_same.calls (a0_0 : Int) (a0_1 : Int) (a0_2 : Int) (a0_3 : Int) (a0_4 : Int) (a1_0 : Int) (a1_1 : Int) (a1_2 : Int) (a1_3 : Int) (a1_4 : Int) (r : Bool) (w : World) (h : waymarklaw03_same.f a0_0 a0_1 a0_2 a0_3 a0_4 a1_0 a1_1 a1_2 a1_3 a1_4 = some r) :
  Calls Tryd.prog 57 #[.agg #[.int .u32 a0_0, .int .u32 a0_1, .int .u8 a0_2, .int .u16 a0_3, .int .u16 a0_4], .agg #[.int .u32 a1_0, .int .u32 a1_1, .int .u8 a1_2, .int .u16 a1_3, .int .u16 a1_4]] w fun e w' => e = .returned (.bool r) ∧ Below w.heap.size w w' := by
 have hu91 := Tryd.underlying91
 have HB := Aside0.mk (Below.refl w.heap.size w)
 have H : (if a0_0 = a1_0 then (if a0_1 = a1_1 then (if a0_2 = a1_2 then (if a0_3 = a1_3 then (some (a0_4 == a1_4)) else (some false)) else (some false)) else (some false)) else (some false)) = some r := h
 clear h
 by_cases c3 : a0_0 = a1_0
 ·rw [if_pos c3] at H
  have c3b0 : (a0_0 == a1_0) = true := beq_iff_eq.mpr c3
  have c3b1 : (a0_0 != a1_0) = false := bne_eq_false_iff_eq.mpr c3
  clear c3
  by_cases c4 : a0_1 = a1_1
  ·rw [if_pos c4] at H
   have c4b0 : (a0_1 == a1_1) = true := beq_iff_eq.mpr c4
   have c4b1 : (a0_1 != a1_1) = false := bne_eq_false_iff_eq.mpr c4
   clear c4
   by_cases c5 : a0_2 = a1_2
   ·rw [if_pos c5] at H
    have c5b0 : (a0_2 == a1_2) = true := beq_iff_eq.mpr c5
    have c5b1 : (a0_2 != a1_2) = false := bne_eq_false_iff_eq.mpr c5
    clear c5
    by_cases c6 : a0_3 = a1_3
    ·rw [if_pos c6] at H
     have c6b0 : (a0_3 == a1_3) = true := beq_iff_eq.mpr c6
     have c6b1 : (a0_3 != a1_3) = false := bne_eq_false_iff_eq.mpr c6
     clear c6
     as_aux_lemma =>
      obtain rfl := Option.some.inj H
      go_enter Tryd.func57, Tryd.ntmps57
      go_wp2_with (first | ((with_reducible refine gate_dst (N := 2) rfl ?_); refine box_event ?hg (N := 2) ?hd (cs := #[.int .u32 a0_0, .int .u32 a0_1, .int .u8 a0_2, .int .u16 a0_3, .int .u16 a0_4]) (t := 91) ?hr ?_; (case hd => rfl); (case hg => rfl); (case hr => first | (go_simp; done) | (go_simp; rfl)); intro gb107 hg w7 hbox hb; have n0_ := Aside0.mk (below_step (by repeat (first | (with_reducible first | exact HB.out | apply below_alloc | apply pw_below_drewN | apply below_drew1) | exact HB.out)) hb); have n1_ := Aside0.mk (hbox); have n2_ := Aside0.mk ((by rw [hg]; exact (below_size (by repeat (first | (with_reducible first | exact HB.out | apply below_alloc | apply pw_below_drewN | apply below_drew1) | exact HB.out))) : w.heap.size ≤ gb107)); have n3_ := Aside0.mk ((by rw [hg]; exact (below_size (by repeat (first | (with_reducible first | exact HB.out | apply below_alloc | apply pw_below_drewN | apply below_drew1) | exact HB.out))) : w.heap.size ≤ gb107)); clear HB; have HB := n0_; have BK107 := n1_; have GW107 := n2_; have GE107 := n3_; clear n0_ n1_ n2_ n3_; clear hb hbox hg) | ((with_reducible refine gate_dst (N := 3) rfl ?_); refine box_event ?hg (N := 3) ?hd (cs := #[.int .u32 a1_0, .int .u32 a1_1, .int .u8 a1_2, .int .u16 a1_3, .int .u16 a1_4]) (t := 91) ?hr ?_; (case hd => rfl); (case hg => rfl); (case hr => first | (go_simp; done) | (go_simp; rfl)); intro gb108 hg w8 hbox hb; have n0_ := Aside0.mk (blk_below (g := gb107) (o := .cells #[.int .u32 a0_0, .int .u32 a0_1, .int .u8 a0_2, .int .u16 a0_3, .int .u16 a0_4] 91 (0, 0)) (by (with_reducible repeat (first | refine blk_drewN ?_ _ | refine blk_drew ?_ | refine blk_alloc ?_ _)); exact BK107.out) hb); have n1_ := Aside0.mk (below_step (by repeat (first | (with_reducible first | exact HB.out | apply below_alloc | apply pw_below_drewN | apply below_drew1 | refine below_set ?_ GE107.out) | exact HB.out)) hb); have n2_ := Aside0.mk (hbox); have n3_ := Aside0.mk ((by rw [hg]; exact (below_size (by repeat (first | (with_reducible first | exact HB.out | apply below_alloc | apply pw_below_drewN | apply below_drew1 | refine below_set ?_ GE107.out) | exact HB.out))) : w.heap.size ≤ gb108)); have n4_ := Aside0.mk ((by rw [hg]; exact (below_size (by repeat (first | (with_reducible first | exact HB.out | apply below_alloc | apply pw_below_drewN | apply below_drew1 | refine below_set ?_ GE107.out) | exact HB.out))) : w.heap.size ≤ gb108)); have n5_ := Aside0.mk ((by rw [hg]; exact Nat.ne_of_lt (blk_lt (g := gb107) (o := .cells #[.int .u32 a0_0, .int .u32 a0_1, .int .u8 a0_2, .int .u16 a0_3, .int .u16 a0_4] 91 (0, 0)) (by (with_reducible repeat (first | refine blk_drewN ?_ _ | refine blk_drew ?_ | refine blk_alloc ?_ _)); exact BK107.out)) : gb107 ≠ gb108)); have n6_ := Aside0.mk ((by rw [hg]; exact Nat.ne_of_gt (blk_lt (g := gb107) (o := .cells #[.int .u32 a0_0, .int .u32 a0_1, .int .u8 a0_2, .int .u16 a0_3, .int .u16 a0_4] 91 (0, 0)) (by (with_reducible repeat (first | refine blk_drewN ?_ _ | refine blk_drew ?_ | refine blk_alloc ?_ _)); exact BK107.out)) : gb108 ≠ gb107)); clear BK107; clear HB; have BK107 := n0_; have HB := n1_; have BK108 := n2_; have GW108 := n3_; have GE108 := n4_; have NB107_108 := n5_; have NB108_107 := n6_; clear n0_ n1_ n2_ n3_ n4_ n5_ n6_; clear hb hbox hg; have hnb9 := NB107_108.out; have hnc9 := NB108_107.out; have hcz10_0 : w8.cell? ⟨gb107, 0, none⟩ = some (.int .u32 a0_0) := (blk_cell BK107.out 0).trans rfl; have hcz10_1 : w8.cell? ⟨gb107, 1, none⟩ = some (.int .u32 a0_1) := (blk_cell BK107.out 1).trans rfl; have hcz10_2 : w8.cell? ⟨gb107, 2, none⟩ = some (.int .u8 a0_2) := (blk_cell BK107.out 2).trans rfl; have hcz10_3 : w8.cell? ⟨gb107, 3, none⟩ = some (.int .u16 a0_3) := (blk_cell BK107.out 3).trans rfl; have hcz10_4 : w8.cell? ⟨gb107, 4, none⟩ = some (.int .u16 a0_4) := (blk_cell BK107.out 4).trans rfl; have hfz10_0 := blk_frozen BK107.out 0; have hfz10_1 := blk_frozen BK107.out 1; have hfz10_2 := blk_frozen BK107.out 2; have hfz10_3 := blk_frozen BK107.out 3; have hfz10_4 := blk_frozen BK107.out 4; have hcz11_0 : w8.cell? ⟨gb108, 0, none⟩ = some (.int .u32 a1_0) := (blk_cell BK108.out 0).trans rfl; have hcz11_1 : w8.cell? ⟨gb108, 1, none⟩ = some (.int .u32 a1_1) := (blk_cell BK108.out 1).trans rfl; have hcz11_2 : w8.cell? ⟨gb108, 2, none⟩ = some (.int .u8 a1_2) := (blk_cell BK108.out 2).trans rfl; have hcz11_3 : w8.cell? ⟨gb108, 3, none⟩ = some (.int .u16 a1_3) := (blk_cell BK108.out 3).trans rfl; have hcz11_4 : w8.cell? ⟨gb108, 4, none⟩ = some (.int .u16 a1_4) := (blk_cell BK108.out 4).trans rfl; have hfz11_0 := blk_frozen BK108.out 0; have hfz11_1 := blk_frozen BK108.out 1; have hfz11_2 := blk_frozen BK108.out 2; have hfz11_3 := blk_frozen BK108.out 3; have hfz11_4 := blk_frozen BK108.out 4))
      go_ret
      exact ⟨by first | rfl | (simp [errW_none, errW_some] <;> rfl) | (simp [*, errW_none, errW_some] <;> rfl), by repeat (first | (with_reducible first | exact HB.out | apply below_alloc | apply pw_below_drewN | apply below_drew1 | refine below_set ?_ GE107.out | refine below_set ?_ GE108.out) | exact HB.out)⟩
    ·rw [if_neg c6] at H
     have c6b0 : (a0_3 == a1_3) = false := beq_eq_false_iff_ne.mpr c6
     have c6b1 : (a0_3 != a1_3) = true := bne_iff_ne.mpr c6
     as_aux_lemma =>
      obtain rfl := Option.some.inj H
      go_enter Tryd.func57, Tryd.ntmps57
      go_wp2_with (first | ((with_reducible refine gate_dst (N := 2) rfl ?_); refine box_event ?hg (N := 2) ?hd (cs := #[.int .u32 a0_0, .int .u32 a0_1, .int .u8 a0_2, .int .u16 a0_3, .int .u16 a0_4]) (t := 91) ?hr ?_; (case hd => rfl); (case hg => rfl); (case hr => first | (go_simp; done) | (go_simp; rfl)); intro gb107 hg w12 hbox hb; have n0_ := Aside0.mk (below_step (by repeat (first | (with_reducible first | exact HB.out | apply below_alloc | apply pw_below_drewN | apply below_drew1) | exact HB.out)) hb); have n1_ := Aside0.mk (hbox); have n2_ := Aside0.mk ((by rw [hg]; exact (below_size (by repeat (first | (with_reducible first | exact HB.out | apply below_alloc | apply pw_below_drewN | apply below_drew1) | exact HB.out))) : w.heap.size ≤ gb107)); have n3_ := Aside0.mk ((by rw [hg]; exact (below_size (by repeat (first | (with_reducible first | exact HB.out | apply below_alloc | apply pw_below_drewN | apply below_drew1) | exact HB.out))) : w.heap.size ≤ gb107)); clear HB; have HB := n0_; have BK107 := n1_; have GW107 := n2_; have GE107 := n3_; clear n0_ n1_ n2_ n3_; clear hb hbox hg) | ((with_reducible refine gate_dst (N := 3) rfl ?_); refine box_event ?hg (N := 3) ?hd (cs := #[.int .u32 a1_0, .int .u32 a1_1, .int .u8 a1_2, .int .u16 a1_3, .int .u16 a1_4]) (t := 91) ?hr ?_; (case hd => rfl); (case hg => rfl); (case hr => first | (go_simp; done) | (go_simp; rfl)); intro gb108 hg w13 hbox hb; have n0_ := Aside0.mk (blk_below (g := gb107) (o := .cells #[.int .u32 a0_0, .int .u32 a0_1, .int .u8 a0_2, .int .u16 a0_3, .int .u16 a0_4] 91 (0, 0)) (by (with_reducible repeat (first | refine blk_drewN ?_ _ | refine blk_drew ?_ | refine blk_alloc ?_ _)); exact BK107.out) hb); have n1_ := Aside0.mk (below_step (by repeat (first | (with_reducible first | exact HB.out | apply below_alloc | apply pw_below_drewN | apply below_drew1 | refine below_set ?_ GE107.out) | exact HB.out)) hb); have n2_ := Aside0.mk (hbox); have n3_ := Aside0.mk ((by rw [hg]; exact (below_size (by repeat (first | (with_reducible first | exact HB.out | apply below_alloc | apply pw_below_drewN | apply below_drew1 | refine below_set ?_ GE107.out) | exact HB.out))) : w.heap.size ≤ gb108)); have n4_ := Aside0.mk ((by rw [hg]; exact (below_size (by repeat (first | (with_reducible first | exact HB.out | apply below_alloc | apply pw_below_drewN | apply below_drew1 | refine below_set ?_ GE107.out) | exact HB.out))) : w.heap.size ≤ gb108)); have n5_ := Aside0.mk ((by rw [hg]; exact Nat.ne_of_lt (blk_lt (g := gb107) (o := .cells #[.int .u32 a0_0, .int .u32 a0_1, .int .u8 a0_2, .int .u16 a0_3, .int .u16 a0_4] 91 (0, 0)) (by (with_reducible repeat (first | refine blk_drewN ?_ _ | refine blk_drew ?_ | refine blk_alloc ?_ _)); exact BK107.out)) : gb107 ≠ gb108)); have n6_ := Aside0.mk ((by rw [hg]; exact Nat.ne_of_gt (blk_lt (g := gb107) (o := .cells #[.int .u32 a0_0, .int .u32 a0_1, .int .u8 a0_2, .int .u16 a0_3, .int .u16 a0_4] 91 (0, 0)) (by (with_reducible repeat (first | refine blk_drewN ?_ _ | refine blk_drew ?_ | refine blk_alloc ?_ _)); exact BK107.out)) : gb108 ≠ gb107)); clear BK107; clear HB; have BK107 := n0_; have HB := n1_; have BK108 := n2_; have GW108 := n3_; have GE108 := n4_; have NB107_108 := n5_; have NB108_107 := n6_; clear n0_ n1_ n2_ n3_ n4_ n5_ n6_; clear hb hbox hg; have hnb14 := NB107_108.out; have hnc14 := NB108_107.out; have hcz15_0 : w13.cell? ⟨gb107, 0, none⟩ = some (.int .u32 a0_0) := (blk_cell BK107.out 0).trans rfl; have hcz15_1 : w13.cell? ⟨gb107, 1, none⟩ = some (.int .u32 a0_1) := (blk_cell BK107.out 1).trans rfl; have hcz15_2 : w13.cell? ⟨gb107, 2, none⟩ = some (.int .u8 a0_2) := (blk_cell BK107.out 2).trans rfl; have hcz15_3 : w13.cell? ⟨gb107, 3, none⟩ = some (.int .u16 a0_3) := (blk_cell BK107.out 3).trans rfl; have hcz15_4 : w13.cell? ⟨gb107, 4, none⟩ = some (.int .u16 a0_4) := (blk_cell BK107.out 4).trans rfl; have hfz15_0 := blk_frozen BK107.out 0; have hfz15_1 := blk_frozen BK107.out 1; have hfz15_2 := blk_frozen BK107.out 2; have hfz15_3 := blk_frozen BK107.out 3; have hfz15_4 := blk_frozen BK107.out 4; have hcz16_0 : w13.cell? ⟨gb108, 0, none⟩ = some (.int .u32 a1_0) := (blk_cell BK108.out 0).trans rfl; have hcz16_1 : w13.cell? ⟨gb108, 1, none⟩ = some (.int .u32 a1_1) := (blk_cell BK108.out 1).trans rfl; have hcz16_2 : w13.cell? ⟨gb108, 2, none⟩ = some (.int .u8 a1_2) := (blk_cell BK108.out 2).trans rfl; have hcz16_3 : w13.cell? ⟨gb108, 3, none⟩ = some (.int .u16 a1_3) := (blk_cell BK108.out 3).trans rfl; have hcz16_4 : w13.cell? ⟨gb108, 4, none⟩ = some (.int .u16 a1_4) := (blk_cell BK108.out 4).trans rfl; have hfz16_0 := blk_frozen BK108.out 0; have hfz16_1 := blk_frozen BK108.out 1; have hfz16_2 := blk_frozen BK108.out 2; have hfz16_3 := blk_frozen BK108.out 3; have hfz16_4 := blk_frozen BK108.out 4))
      go_ret
      exact ⟨by first | rfl | (simp [errW_none, errW_some] <;> rfl) | (simp [*, errW_none, errW_some] <;> rfl), by repeat (first | (with_reducible first | exact HB.out | apply below_alloc | apply pw_below_drewN | apply below_drew1 | refine below_set ?_ GE107.out | refine below_set ?_ GE108.out) | exact HB.out)⟩
   ·rw [if_neg c5] at H
    have c5b0 : (a0_2 == a1_2) = false := beq_eq_false_iff_ne.mpr c5
    have c5b1 : (a0_2 != a1_2) = true := bne_iff_ne.mpr c5
    as_aux_lemma =>
     obtain rfl := Option.some.inj H
     go_enter Tryd.func57, Tryd.ntmps57
     go_wp2_with (first | ((with_reducible refine gate_dst (N := 2) rfl ?_); refine box_event ?hg (N := 2) ?hd (cs := #[.int .u32 a0_0, .int .u32 a0_1, .int .u8 a0_2, .int .u16 a0_3, .int .u16 a0_4]) (t := 91) ?hr ?_; (case hd => rfl); (case hg => rfl); (case hr => first | (go_simp; done) | (go_simp; rfl)); intro gb107 hg w17 hbox hb; have n0_ := Aside0.mk (below_step (by repeat (first | (with_reducible first | exact HB.out | apply below_alloc | apply pw_below_drewN | apply below_drew1) | exact HB.out)) hb); have n1_ := Aside0.mk (hbox); have n2_ := Aside0.mk ((by rw [hg]; exact (below_size (by repeat (first | (with_reducible first | exact HB.out | apply below_alloc | apply pw_below_drewN | apply below_drew1) | exact HB.out))) : w.heap.size ≤ gb107)); have n3_ := Aside0.mk ((by rw [hg]; exact (below_size (by repeat (first | (with_reducible first | exact HB.out | apply below_alloc | apply pw_below_drewN | apply below_drew1) | exact HB.out))) : w.heap.size ≤ gb107)); clear HB; have HB := n0_; have BK107 := n1_; have GW107 := n2_; have GE107 := n3_; clear n0_ n1_ n2_ n3_; clear hb hbox hg) | ((with_reducible refine gate_dst (N := 3) rfl ?_); refine box_event ?hg (N := 3) ?hd (cs := #[.int .u32 a1_0, .int .u32 a1_1, .int .u8 a1_2, .int .u16 a1_3, .int .u16 a1_4]) (t := 91) ?hr ?_; (case hd => rfl); (case hg => rfl); (case hr => first | (go_simp; done) | (go_simp; rfl)); intro gb108 hg w18 hbox hb; have n0_ := Aside0.mk (blk_below (g := gb107) (o := .cells #[.int .u32 a0_0, .int .u32 a0_1, .int .u8 a0_2, .int .u16 a0_3, .int .u16 a0_4] 91 (0, 0)) (by (with_reducible repeat (first | refine blk_drewN ?_ _ | refine blk_drew ?_ | refine blk_alloc ?_ _)); exact BK107.out) hb); have n1_ := Aside0.mk (below_step (by repeat (first | (with_reducible first | exact HB.out | apply below_alloc | apply pw_below_drewN | apply below_drew1 | refine below_set ?_ GE107.out) | exact HB.out)) hb); have n2_ := Aside0.mk (hbox); have n3_ := Aside0.mk ((by rw [hg]; exact (below_size (by repeat (first | (with_reducible first | exact HB.out | apply below_alloc | apply pw_below_drewN | apply below_drew1 | refine below_set ?_ GE107.out) | exact HB.out))) : w.heap.size ≤ gb108)); have n4_ := Aside0.mk ((by rw [hg]; exact (below_size (by repeat (first | (with_reducible first | exact HB.out | apply below_alloc | apply pw_below_drewN | apply below_drew1 | refine below_set ?_ GE107.out) | exact HB.out))) : w.heap.size ≤ gb108)); have n5_ := Aside0.mk ((by rw [hg]; exact Nat.ne_of_lt (blk_lt (g := gb107) (o := .cells #[.int .u32 a0_0, .int .u32 a0_1, .int .u8 a0_2, .int .u16 a0_3, .int .u16 a0_4] 91 (0, 0)) (by (with_reducible repeat (first | refine blk_drewN ?_ _ | refine blk_drew ?_ | refine blk_alloc ?_ _)); exact BK107.out)) : gb107 ≠ gb108)); have n6_ := Aside0.mk ((by rw [hg]; exact Nat.ne_of_gt (blk_lt (g := gb107) (o := .cells #[.int .u32 a0_0, .int .u32 a0_1, .int .u8 a0_2, .int .u16 a0_3, .int .u16 a0_4] 91 (0, 0)) (by (with_reducible repeat (first | refine blk_drewN ?_ _ | refine blk_drew ?_ | refine blk_alloc ?_ _)); exact BK107.out)) : gb108 ≠ gb107)); clear BK107; clear HB; have BK107 := n0_; have HB := n1_; have BK108 := n2_; have GW108 := n3_; have GE108 := n4_; have NB107_108 := n5_; have NB108_107 := n6_; clear n0_ n1_ n2_ n3_ n4_ n5_ n6_; clear hb hbox hg; have hnb19 := NB107_108.out; have hnc19 := NB108_107.out; have hcz20_0 : w18.cell? ⟨gb107, 0, none⟩ = some (.int .u32 a0_0) := (blk_cell BK107.out 0).trans rfl; have hcz20_1 : w18.cell? ⟨gb107, 1, none⟩ = some (.int .u32 a0_1) := (blk_cell BK107.out 1).trans rfl; have hcz20_2 : w18.cell? ⟨gb107, 2, none⟩ = some (.int .u8 a0_2) := (blk_cell BK107.out 2).trans rfl; have hcz20_3 : w18.cell? ⟨gb107, 3, none⟩ = some (.int .u16 a0_3) := (blk_cell BK107.out 3).trans rfl; have hcz20_4 : w18.cell? ⟨gb107, 4, none⟩ = some (.int .u16 a0_4) := (blk_cell BK107.out 4).trans rfl; have hfz20_0 := blk_frozen BK107.out 0; have hfz20_1 := blk_frozen BK107.out 1; have hfz20_2 := blk_frozen BK107.out 2; have hfz20_3 := blk_frozen BK107.out 3; have hfz20_4 := blk_frozen BK107.out 4; have hcz21_0 : w18.cell? ⟨gb108, 0, none⟩ = some (.int .u32 a1_0) := (blk_cell BK108.out 0).trans rfl; have hcz21_1 : w18.cell? ⟨gb108, 1, none⟩ = some (.int .u32 a1_1) := (blk_cell BK108.out 1).trans rfl; have hcz21_2 : w18.cell? ⟨gb108, 2, none⟩ = some (.int .u8 a1_2) := (blk_cell BK108.out 2).trans rfl; have hcz21_3 : w18.cell? ⟨gb108, 3, none⟩ = some (.int .u16 a1_3) := (blk_cell BK108.out 3).trans rfl; have hcz21_4 : w18.cell? ⟨gb108, 4, none⟩ = some (.int .u16 a1_4) := (blk_cell BK108.out 4).trans rfl; have hfz21_0 := blk_frozen BK108.out 0; have hfz21_1 := blk_frozen BK108.out 1; have hfz21_2 := blk_frozen BK108.out 2; have hfz21_3 := blk_frozen BK108.out 3; have hfz21_4 := blk_frozen BK108.out 4))
     go_ret
     exact ⟨by first | rfl | (simp [errW_none, errW_some] <;> rfl) | (simp [*, errW_none, errW_some] <;> rfl), by repeat (first | (with_reducible first | exact HB.out | apply below_alloc | apply pw_below_drewN | apply below_drew1 | refine below_set ?_ GE107.out | refine below_set ?_ GE108.out) | exact HB.out)⟩
  ·rw [if_neg c4] at H
   have c4b0 : (a0_1 == a1_1) = false := beq_eq_false_iff_ne.mpr c4
   have c4b1 : (a0_1 != a1_1) = true := bne_iff_ne.mpr c4
   as_aux_lemma =>
    obtain rfl := Option.some.inj H
    go_enter Tryd.func57, Tryd.ntmps57
    go_wp2_with (first | ((with_reducible refine gate_dst (N := 2) rfl ?_); refine box_event ?hg (N := 2) ?hd (cs := #[.int .u32 a0_0, .int .u32 a0_1, .int .u8 a0_2, .int .u16 a0_3, .int .u16 a0_4]) (t := 91) ?hr ?_; (case hd => rfl); (case hg => rfl); (case hr => first | (go_simp; done) | (go_simp; rfl)); intro gb107 hg w22 hbox hb; have n0_ := Aside0.mk (below_step (by repeat (first | (with_reducible first | exact HB.out | apply below_alloc | apply pw_below_drewN | apply below_drew1) | exact HB.out)) hb); have n1_ := Aside0.mk (hbox); have n2_ := Aside0.mk ((by rw [hg]; exact (below_size (by repeat (first | (with_reducible first | exact HB.out | apply below_alloc | apply pw_below_drewN | apply below_drew1) | exact HB.out))) : w.heap.size ≤ gb107)); have n3_ := Aside0.mk ((by rw [hg]; exact (below_size (by repeat (first | (with_reducible first | exact HB.out | apply below_alloc | apply pw_below_drewN | apply below_drew1) | exact HB.out))) : w.heap.size ≤ gb107)); clear HB; have HB := n0_; have BK107 := n1_; have GW107 := n2_; have GE107 := n3_; clear n0_ n1_ n2_ n3_; clear hb hbox hg) | ((with_reducible refine gate_dst (N := 3) rfl ?_); refine box_event ?hg (N := 3) ?hd (cs := #[.int .u32 a1_0, .int .u32 a1_1, .int .u8 a1_2, .int .u16 a1_3, .int .u16 a1_4]) (t := 91) ?hr ?_; (case hd => rfl); (case hg => rfl); (case hr => first | (go_simp; done) | (go_simp; rfl)); intro gb108 hg w23 hbox hb; have n0_ := Aside0.mk (blk_below (g := gb107) (o := .cells #[.int .u32 a0_0, .int .u32 a0_1, .int .u8 a0_2, .int .u16 a0_3, .int .u16 a0_4] 91 (0, 0)) (by (with_reducible repeat (first | refine blk_drewN ?_ _ | refine blk_drew ?_ | refine blk_alloc ?_ _)); exact BK107.out) hb); have n1_ := Aside0.mk (below_step (by repeat (first | (with_reducible first | exact HB.out | apply below_alloc | apply pw_below_drewN | apply below_drew1 | refine below_set ?_ GE107.out) | exact HB.out)) hb); have n2_ := Aside0.mk (hbox); have n3_ := Aside0.mk ((by rw [hg]; exact (below_size (by repeat (first | (with_reducible first | exact HB.out | apply below_alloc | apply pw_below_drewN | apply below_drew1 | refine below_set ?_ GE107.out) | exact HB.out))) : w.heap.size ≤ gb108)); have n4_ := Aside0.mk ((by rw [hg]; exact (below_size (by repeat (first | (with_reducible first | exact HB.out | apply below_alloc | apply pw_below_drewN | apply below_drew1 | refine below_set ?_ GE107.out) | exact HB.out))) : w.heap.size ≤ gb108)); have n5_ := Aside0.mk ((by rw [hg]; exact Nat.ne_of_lt (blk_lt (g := gb107) (o := .cells #[.int .u32 a0_0, .int .u32 a0_1, .int .u8 a0_2, .int .u16 a0_3, .int .u16 a0_4] 91 (0, 0)) (by (with_reducible repeat (first | refine blk_drewN ?_ _ | refine blk_drew ?_ | refine blk_alloc ?_ _)); exact BK107.out)) : gb107 ≠ gb108)); have n6_ := Aside0.mk ((by rw [hg]; exact Nat.ne_of_gt (blk_lt (g := gb107) (o := .cells #[.int .u32 a0_0, .int .u32 a0_1, .int .u8 a0_2, .int .u16 a0_3, .int .u16 a0_4] 91 (0, 0)) (by (with_reducible repeat (first | refine blk_drewN ?_ _ | refine blk_drew ?_ | refine blk_alloc ?_ _)); exact BK107.out)) : gb108 ≠ gb107)); clear BK107; clear HB; have BK107 := n0_; have HB := n1_; have BK108 := n2_; have GW108 := n3_; have GE108 := n4_; have NB107_108 := n5_; have NB108_107 := n6_; clear n0_ n1_ n2_ n3_ n4_ n5_ n6_; clear hb hbox hg; have hnb24 := NB107_108.out; have hnc24 := NB108_107.out; have hcz25_0 : w23.cell? ⟨gb107, 0, none⟩ = some (.int .u32 a0_0) := (blk_cell BK107.out 0).trans rfl; have hcz25_1 : w23.cell? ⟨gb107, 1, none⟩ = some (.int .u32 a0_1) := (blk_cell BK107.out 1).trans rfl; have hcz25_2 : w23.cell? ⟨gb107, 2, none⟩ = some (.int .u8 a0_2) := (blk_cell BK107.out 2).trans rfl; have hcz25_3 : w23.cell? ⟨gb107, 3, none⟩ = some (.int .u16 a0_3) := (blk_cell BK107.out 3).trans rfl; have hcz25_4 : w23.cell? ⟨gb107, 4, none⟩ = some (.int .u16 a0_4) := (blk_cell BK107.out 4).trans rfl; have hfz25_0 := blk_frozen BK107.out 0; have hfz25_1 := blk_frozen BK107.out 1; have hfz25_2 := blk_frozen BK107.out 2; have hfz25_3 := blk_frozen BK107.out 3; have hfz25_4 := blk_frozen BK107.out 4; have hcz26_0 : w23.cell? ⟨gb108, 0, none⟩ = some (.int .u32 a1_0) := (blk_cell BK108.out 0).trans rfl; have hcz26_1 : w23.cell? ⟨gb108, 1, none⟩ = some (.int .u32 a1_1) := (blk_cell BK108.out 1).trans rfl; have hcz26_2 : w23.cell? ⟨gb108, 2, none⟩ = some (.int .u8 a1_2) := (blk_cell BK108.out 2).trans rfl; have hcz26_3 : w23.cell? ⟨gb108, 3, none⟩ = some (.int .u16 a1_3) := (blk_cell BK108.out 3).trans rfl; have hcz26_4 : w23.cell? ⟨gb108, 4, none⟩ = some (.int .u16 a1_4) := (blk_cell BK108.out 4).trans rfl; have hfz26_0 := blk_frozen BK108.out 0; have hfz26_1 := blk_frozen BK108.out 1; have hfz26_2 := blk_frozen BK108.out 2; have hfz26_3 := blk_frozen BK108.out 3; have hfz26_4 := blk_frozen BK108.out 4))
    go_ret
    exact ⟨by first | rfl | (simp [errW_none, errW_some] <;> rfl) | (simp [*, errW_none, errW_some] <;> rfl), by repeat (first | (with_reducible first | exact HB.out | apply below_alloc | apply pw_below_drewN | apply below_drew1 | refine below_set ?_ GE107.out | refine below_set ?_ GE108.out) | exact HB.out)⟩
 ·rw [if_neg c3] at H
  have c3b0 : (a0_0 == a1_0) = false := beq_eq_false_iff_ne.mpr c3
  have c3b1 : (a0_0 != a1_0) = true := bne_iff_ne.mpr c3
  as_aux_lemma =>
   obtain rfl := Option.some.inj H
   go_enter Tryd.func57, Tryd.ntmps57
   go_wp2_with (first | ((with_reducible refine gate_dst (N := 2) rfl ?_); refine box_event ?hg (N := 2) ?hd (cs := #[.int .u32 a0_0, .int .u32 a0_1, .int .u8 a0_2, .int .u16 a0_3, .int .u16 a0_4]) (t := 91) ?hr ?_; (case hd => rfl); (case hg => rfl); (case hr => first | (go_simp; done) | (go_simp; rfl)); intro gb107 hg w27 hbox hb; have n0_ := Aside0.mk (below_step (by repeat (first | (with_reducible first | exact HB.out | apply below_alloc | apply pw_below_drewN | apply below_drew1) | exact HB.out)) hb); have n1_ := Aside0.mk (hbox); have n2_ := Aside0.mk ((by rw [hg]; exact (below_size (by repeat (first | (with_reducible first | exact HB.out | apply below_alloc | apply pw_below_drewN | apply below_drew1) | exact HB.out))) : w.heap.size ≤ gb107)); have n3_ := Aside0.mk ((by rw [hg]; exact (below_size (by repeat (first | (with_reducible first | exact HB.out | apply below_alloc | apply pw_below_drewN | apply below_drew1) | exact HB.out))) : w.heap.size ≤ gb107)); clear HB; have HB := n0_; have BK107 := n1_; have GW107 := n2_; have GE107 := n3_; clear n0_ n1_ n2_ n3_; clear hb hbox hg) | ((with_reducible refine gate_dst (N := 3) rfl ?_); refine box_event ?hg (N := 3) ?hd (cs := #[.int .u32 a1_0, .int .u32 a1_1, .int .u8 a1_2, .int .u16 a1_3, .int .u16 a1_4]) (t := 91) ?hr ?_; (case hd => rfl); (case hg => rfl); (case hr => first | (go_simp; done) | (go_simp; rfl)); intro gb108 hg w28 hbox hb; have n0_ := Aside0.mk (blk_below (g := gb107) (o := .cells #[.int .u32 a0_0, .int .u32 a0_1, .int .u8 a0_2, .int .u16 a0_3, .int .u16 a0_4] 91 (0, 0)) (by (with_reducible repeat (first | refine blk_drewN ?_ _ | refine blk_drew ?_ | refine blk_alloc ?_ _)); exact BK107.out) hb); have n1_ := Aside0.mk (below_step (by repeat (first | (with_reducible first | exact HB.out | apply below_alloc | apply pw_below_drewN | apply below_drew1 | refine below_set ?_ GE107.out) | exact HB.out)) hb); have n2_ := Aside0.mk (hbox); have n3_ := Aside0.mk ((by rw [hg]; exact (below_size (by repeat (first | (with_reducible first | exact HB.out | apply below_alloc | apply pw_below_drewN | apply below_drew1 | refine below_set ?_ GE107.out) | exact HB.out))) : w.heap.size ≤ gb108)); have n4_ := Aside0.mk ((by rw [hg]; exact (below_size (by repeat (first | (with_reducible first | exact HB.out | apply below_alloc | apply pw_below_drewN | apply below_drew1 | refine below_set ?_ GE107.out) | exact HB.out))) : w.heap.size ≤ gb108)); have n5_ := Aside0.mk ((by rw [hg]; exact Nat.ne_of_lt (blk_lt (g := gb107) (o := .cells #[.int .u32 a0_0, .int .u32 a0_1, .int .u8 a0_2, .int .u16 a0_3, .int .u16 a0_4] 91 (0, 0)) (by (with_reducible repeat (first | refine blk_drewN ?_ _ | refine blk_drew ?_ | refine blk_alloc ?_ _)); exact BK107.out)) : gb107 ≠ gb108)); have n6_ := Aside0.mk ((by rw [hg]; exact Nat.ne_of_gt (blk_lt (g := gb107) (o := .cells #[.int .u32 a0_0, .int .u32 a0_1, .int .u8 a0_2, .int .u16 a0_3, .int .u16 a0_4] 91 (0, 0)) (by (with_reducible repeat (first | refine blk_drewN ?_ _ | refine blk_drew ?_ | refine blk_alloc ?_ _)); exact BK107.out)) : gb108 ≠ gb107)); clear BK107; clear HB; have BK107 := n0_; have HB := n1_; have BK108 := n2_; have GW108 := n3_; have GE108 := n4_; have NB107_108 := n5_; have NB108_107 := n6_; clear n0_ n1_ n2_ n3_ n4_ n5_ n6_; clear hb hbox hg; have hnb29 := NB107_108.out; have hnc29 := NB108_107.out; have hcz30_0 : w28.cell? ⟨gb107, 0, none⟩ = some (.int .u32 a0_0) := (blk_cell BK107.out 0).trans rfl; have hcz30_1 : w28.cell? ⟨gb107, 1, none⟩ = some (.int .u32 a0_1) := (blk_cell BK107.out 1).trans rfl; have hcz30_2 : w28.cell? ⟨gb107, 2, none⟩ = some (.int .u8 a0_2) := (blk_cell BK107.out 2).trans rfl; have hcz30_3 : w28.cell? ⟨gb107, 3, none⟩ = some (.int .u16 a0_3) := (blk_cell BK107.out 3).trans rfl; have hcz30_4 : w28.cell? ⟨gb107, 4, none⟩ = some (.int .u16 a0_4) := (blk_cell BK107.out 4).trans rfl; have hfz30_0 := blk_frozen BK107.out 0; have hfz30_1 := blk_frozen BK107.out 1; have hfz30_2 := blk_frozen BK107.out 2; have hfz30_3 := blk_frozen BK107.out 3; have hfz30_4 := blk_frozen BK107.out 4; have hcz31_0 : w28.cell? ⟨gb108, 0, none⟩ = some (.int .u32 a1_0) := (blk_cell BK108.out 0).trans rfl; have hcz31_1 : w28.cell? ⟨gb108, 1, none⟩ = some (.int .u32 a1_1) := (blk_cell BK108.out 1).trans rfl; have hcz31_2 : w28.cell? ⟨gb108, 2, none⟩ = some (.int .u8 a1_2) := (blk_cell BK108.out 2).trans rfl; have hcz31_3 : w28.cell? ⟨gb108, 3, none⟩ = some (.int .u16 a1_3) := (blk_cell BK108.out 3).trans rfl; have hcz31_4 : w28.cell? ⟨gb108, 4, none⟩ = some (.int .u16 a1_4) := (blk_cell BK108.out 4).trans rfl; have hfz31_0 := blk_frozen BK108.out 0; have hfz31_1 := blk_frozen BK108.out 1; have hfz31_2 := blk_frozen BK108.out 2; have hfz31_3 := blk_frozen BK108.out 3; have hfz31_4 := blk_frozen BK108.out 4))
   go_ret
   exact ⟨by first | rfl | (simp [errW_none, errW_some] <;> rfl) | (simp [*, errW_none, errW_some] <;> rfl), by repeat (first | (with_reducible first | exact HB.out | apply below_alloc | apply pw_below_drewN | apply below_drew1 | refine below_set ?_ GE107.out | refine below_set ?_ GE108.out) | exact HB.out)⟩

/-! ### header_Of: function 58 -/
/-- The cells of a header out of bytes, as far as the first loop has come. -/
def rowO (s0 s1 s2 s3 s4 d0 d1 d2 d3 d4 y8 u0 v0 : Int) (k : Int) : Array Value := if k = 0 then #[.int .u32 s0, .int .u32 d0, .int .u8 y8, .int .u16 u0, .int .u16 v0] else if k = 1 then #[.int .u32 s1, .int .u32 d1, .int .u8 y8, .int .u16 u0, .int .u16 v0] else if k = 2 then #[.int .u32 s2, .int .u32 d2, .int .u8 y8, .int .u16 u0, .int .u16 v0] else if k = 3 then #[.int .u32 s3, .int .u32 d3, .int .u8 y8, .int .u16 u0, .int .u16 v0] else #[.int .u32 s4, .int .u32 d4, .int .u8 y8, .int .u16 u0, .int .u16 v0]
/-- The cells of a header out of bytes, as far as the second loop has come. -/
def rowP (s4 d4 y8 u0 u1 u2 v0 v1 v2 : Int) (k : Int) : Array Value := if k = 0 then #[.int .u32 s4, .int .u32 d4, .int .u8 y8, .int .u16 u0, .int .u16 v0] else if k = 1 then #[.int .u32 s4, .int .u32 d4, .int .u8 y8, .int .u16 u1, .int .u16 v1] else #[.int .u32 s4, .int .u32 d4, .int .u8 y8, .int .u16 u2, .int .u16 v2]
set_option maxRecDepth 100000 in
set_option maxHeartbeats 4000000 in
theorem of_calls (y0 y1 y2 y3 y4 y5 y6 y7 y8 y9 y10 y11 y12 s0 d0 s1 d1 s2 d2 s3 d3 s4 d4 u0 v0 u1 v1 u2 v2 x0 w0 x1 w1 x2 w2 x3 w3 m0 n0 m1 n1 : Int) (w : World) (HS : Aside0 (s0 = 0 ∧ d0 = 0 ∧ u0 = 0 ∧ v0 = 0))
    (hx0 : Op.shift .shl .u32 s0 .u64 8 = pure (.int .u32 x0)) (hy0 : IntKind.wrap .u32 y0 = y0) (ho0 : bits .or .u32 x0 y0 = s1) (hz0 : Op.shift .shl .u32 d0 .u64 8 = pure (.int .u32 w0)) (hq0 : IntKind.wrap .u32 y4 = y4) (hp0 : bits .or .u32 w0 y4 = d1)
    (hx1 : Op.shift .shl .u32 s1 .u64 8 = pure (.int .u32 x1)) (hy1 : IntKind.wrap .u32 y1 = y1) (ho1 : bits .or .u32 x1 y1 = s2) (hz1 : Op.shift .shl .u32 d1 .u64 8 = pure (.int .u32 w1)) (hq1 : IntKind.wrap .u32 y5 = y5) (hp1 : bits .or .u32 w1 y5 = d2)
    (hx2 : Op.shift .shl .u32 s2 .u64 8 = pure (.int .u32 x2)) (hy2 : IntKind.wrap .u32 y2 = y2) (ho2 : bits .or .u32 x2 y2 = s3) (hz2 : Op.shift .shl .u32 d2 .u64 8 = pure (.int .u32 w2)) (hq2 : IntKind.wrap .u32 y6 = y6) (hp2 : bits .or .u32 w2 y6 = d3)
    (hx3 : Op.shift .shl .u32 s3 .u64 8 = pure (.int .u32 x3)) (hy3 : IntKind.wrap .u32 y3 = y3) (ho3 : bits .or .u32 x3 y3 = s4) (hz3 : Op.shift .shl .u32 d3 .u64 8 = pure (.int .u32 w3)) (hq3 : IntKind.wrap .u32 y7 = y7) (hp3 : bits .or .u32 w3 y7 = d4)
    (gx0 : Op.shift .shl .u16 u0 .u64 8 = pure (.int .u16 m0)) (gy0 : IntKind.wrap .u16 y9 = y9) (go0 : bits .or .u16 m0 y9 = u1) (gz0 : Op.shift .shl .u16 v0 .u64 8 = pure (.int .u16 n0)) (gq0 : IntKind.wrap .u16 y11 = y11) (gp0 : bits .or .u16 n0 y11 = v1)
    (gx1 : Op.shift .shl .u16 u1 .u64 8 = pure (.int .u16 m1)) (gy1 : IntKind.wrap .u16 y10 = y10) (go1 : bits .or .u16 m1 y10 = u2) (gz1 : Op.shift .shl .u16 v1 .u64 8 = pure (.int .u16 n1)) (gq1 : IntKind.wrap .u16 y12 = y12) (gp1 : bits .or .u16 n1 y12 = v2) :
    Calls Tryd.prog 58 #[.agg #[.int .u8 y0, .int .u8 y1, .int .u8 y2, .int .u8 y3, .int .u8 y4, .int .u8 y5, .int .u8 y6, .int .u8 y7, .int .u8 y8, .int .u8 y9, .int .u8 y10, .int .u8 y11, .int .u8 y12]] w fun e w' => e = .returned (.agg #[.int .u32 s4, .int .u32 d4, .int .u8 y8, .int .u16 u2, .int .u16 v2]) ∧ Below w.heap.size w w' := by
  have FA1 : w.heap.size ≠ w.heap.size + 1 + 1 := by omega
  have FA2 : w.heap.size + 1 ≠ w.heap.size + 1 + 1 := by omega
  have FA3 : w.heap.size ≤ w.heap.size + 1 + 1 := by omega
  have FB := Aside0.mk (And.intro FA1 (And.intro FA2 FA3))
  clear FA1 FA2 FA3
  have HI := Aside0.mk (show (Tryd.prog.info? 91).map (·.size) = some 5 from by kernel_rfl)
  go_enter Tryd.func58, Tryd.ntmps58
  go_wp2
  go_loopw [9] (fun i wr => ∃ k : Int, (k = 0 ∨ k = 1 ∨ k = 2 ∨ k = 3 ∨ k = 4) ∧ i = .int .i64 k ∧ Aside0 (wr.heap[w.heap.size + 1 + 1]? = some (.cells (rowO s0 s1 s2 s3 s4 d0 d1 d2 d3 d4 y8 u0 v0 k) 91 (0, 0))) ∧ Aside0 (wr.heap[w.heap.size]? = some (.cells #[.int .u8 y0, .int .u8 y1, .int .u8 y2, .int .u8 y3, .int .u8 y4, .int .u8 y5, .int .u8 y6, .int .u8 y7, .int .u8 y8, .int .u8 y9, .int .u8 y10, .int .u8 y11, .int .u8 y12] 92 (0, 0))) ∧ Aside0 (wr.heap[w.heap.size + 1]? = some (.cells #[.int .u32 0, .int .u32 0, .int .u8 0, .int .u16 0, .int .u16 0] 91 (0, 0))) ∧ Aside0 (Below w.heap.size w wr)) (fun i wr => 4 - (intOf i).toNat)
  case atStart =>
    obtain ⟨rfl, rfl, rfl, rfl⟩ := HS.out
    exact ⟨0, by omega, rfl, .mk (by have h := blk_new ((w.alloc (.cells #[.int .u8 y0, .int .u8 y1, .int .u8 y2, .int .u8 y3, .int .u8 y4, .int .u8 y5, .int .u8 y6, .int .u8 y7, .int .u8 y8, .int .u8 y9, .int .u8 y10, .int .u8 y11, .int .u8 y12] 92 (0, 0))).alloc (.cells #[.int .u32 0, .int .u32 0, .int .u8 0, .int .u16 0, .int .u16 0] 91 (0, 0))) (.cells #[.int .u32 0, .int .u32 0, .int .u8 y8, .int .u16 0, .int .u16 0] 91 (0, 0)); simpa [rowO, Nat.add_assoc] using h), .mk (blk_alloc (blk_alloc (blk_new _ _) _) _), .mk (by have h := blk_alloc (blk_new (w.alloc (.cells #[.int .u8 y0, .int .u8 y1, .int .u8 y2, .int .u8 y3, .int .u8 y4, .int .u8 y5, .int .u8 y6, .int .u8 y7, .int .u8 y8, .int .u8 y9, .int .u8 y10, .int .u8 y11, .int .u8 y12] 92 (0, 0))) (.cells #[.int .u32 0, .int .u32 0, .int .u8 0, .int .u16 0, .int .u16 0] 91 (0, 0))) (.cells #[.int .u32 0, .int .u32 0, .int .u8 y8, .int .u16 0, .int .u16 0] 91 (0, 0)); simpa using h), .mk (((Below.refl _ w).alloc (Nat.le_refl _) _).alloc (by simp) _ |>.alloc (by simp; omega) _)⟩
  case round =>
    obtain ⟨k, hk, rfl, hc, hh, hr, hb⟩ := hrel
    rcases hk with rfl | rfl | rfl | rfl | rfl
    · clear hx1 hy1 ho1 hz1 hq1 hp1 hx2 hy2 ho2 hz2 hq2 hp2 hx3 hy3 ho3 hz3 hq3 hp3 gx0 gy0 go0 gz0 gq0 gp0 gx1 gy1 go1 gz1 gq1 gp1
      have HC := hc.out
      clear hc
      rw [show rowO s0 s1 s2 s3 s4 d0 d1 d2 d3 d4 y8 u0 v0 0 = #[.int .u32 s0, .int .u32 d0, .int .u8 y8, .int .u16 u0, .int .u16 v0] from rfl] at HC
      have x0 := blk_frozen HC 0
      have x1 := blk_frozen HC 1
      have x2 := blk_cell HC 0
      have x3 := blk_cell HC 1
      have y0 := blk_cell hh.out 0
      have y1 := blk_cell hh.out 4
      have HD := Aside0.mk HC
      clear HC
      simp at x2 x3 y0 y1
      go_wp2
      go_region
      all_goals go_wp2
      all_goals obtain ⟨FA1, FA2, FA3⟩ := FB.out
      all_goals exact ⟨⟨1, by omega, rfl, .mk (blk_drew (blk_set (blk_set HD.out 0 _) 1 _)), .mk (blk_drew (blk_far (blk_far hh.out FA1 _) FA1 _)), .mk (blk_drew (blk_far (blk_far hr.out FA2 _) FA2 _)), .mk (below_drew ((hb.out.setCell FA3 _).setCell FA3 _))⟩, by decide⟩
    · clear hx0 hy0 ho0 hz0 hq0 hp0 hx2 hy2 ho2 hz2 hq2 hp2 hx3 hy3 ho3 hz3 hq3 hp3 gx0 gy0 go0 gz0 gq0 gp0 gx1 gy1 go1 gz1 gq1 gp1
      have HC := hc.out
      clear hc
      rw [show rowO s0 s1 s2 s3 s4 d0 d1 d2 d3 d4 y8 u0 v0 1 = #[.int .u32 s1, .int .u32 d1, .int .u8 y8, .int .u16 u0, .int .u16 v0] from rfl] at HC
      have x0 := blk_frozen HC 0
      have x1 := blk_frozen HC 1
      have x2 := blk_cell HC 0
      have x3 := blk_cell HC 1
      have y0 := blk_cell hh.out 1
      have y1 := blk_cell hh.out 5
      have HD := Aside0.mk HC
      clear HC
      simp at x2 x3 y0 y1
      go_wp2
      go_region
      all_goals go_wp2
      all_goals obtain ⟨FA1, FA2, FA3⟩ := FB.out
      all_goals exact ⟨⟨2, by omega, rfl, .mk (blk_drew (blk_set (blk_set HD.out 0 _) 1 _)), .mk (blk_drew (blk_far (blk_far hh.out FA1 _) FA1 _)), .mk (blk_drew (blk_far (blk_far hr.out FA2 _) FA2 _)), .mk (below_drew ((hb.out.setCell FA3 _).setCell FA3 _))⟩, by decide⟩
    · clear hx0 hy0 ho0 hz0 hq0 hp0 hx1 hy1 ho1 hz1 hq1 hp1 hx3 hy3 ho3 hz3 hq3 hp3 gx0 gy0 go0 gz0 gq0 gp0 gx1 gy1 go1 gz1 gq1 gp1
      have HC := hc.out
      clear hc
      rw [show rowO s0 s1 s2 s3 s4 d0 d1 d2 d3 d4 y8 u0 v0 2 = #[.int .u32 s2, .int .u32 d2, .int .u8 y8, .int .u16 u0, .int .u16 v0] from rfl] at HC
      have x0 := blk_frozen HC 0
      have x1 := blk_frozen HC 1
      have x2 := blk_cell HC 0
      have x3 := blk_cell HC 1
      have y0 := blk_cell hh.out 2
      have y1 := blk_cell hh.out 6
      have HD := Aside0.mk HC
      clear HC
      simp at x2 x3 y0 y1
      go_wp2
      go_region
      all_goals go_wp2
      all_goals obtain ⟨FA1, FA2, FA3⟩ := FB.out
      all_goals exact ⟨⟨3, by omega, rfl, .mk (blk_drew (blk_set (blk_set HD.out 0 _) 1 _)), .mk (blk_drew (blk_far (blk_far hh.out FA1 _) FA1 _)), .mk (blk_drew (blk_far (blk_far hr.out FA2 _) FA2 _)), .mk (below_drew ((hb.out.setCell FA3 _).setCell FA3 _))⟩, by decide⟩
    · clear hx0 hy0 ho0 hz0 hq0 hp0 hx1 hy1 ho1 hz1 hq1 hp1 hx2 hy2 ho2 hz2 hq2 hp2 gx0 gy0 go0 gz0 gq0 gp0 gx1 gy1 go1 gz1 gq1 gp1
      have HC := hc.out
      clear hc
      rw [show rowO s0 s1 s2 s3 s4 d0 d1 d2 d3 d4 y8 u0 v0 3 = #[.int .u32 s3, .int .u32 d3, .int .u8 y8, .int .u16 u0, .int .u16 v0] from rfl] at HC
      have x0 := blk_frozen HC 0
      have x1 := blk_frozen HC 1
      have x2 := blk_cell HC 0
      have x3 := blk_cell HC 1
      have y0 := blk_cell hh.out 3
      have y1 := blk_cell hh.out 7
      have HD := Aside0.mk HC
      clear HC
      simp at x2 x3 y0 y1
      go_wp2
      go_region
      all_goals go_wp2
      all_goals obtain ⟨FA1, FA2, FA3⟩ := FB.out
      all_goals exact ⟨⟨4, by omega, rfl, .mk (blk_drew (blk_set (blk_set HD.out 0 _) 1 _)), .mk (blk_drew (blk_far (blk_far hh.out FA1 _) FA1 _)), .mk (blk_drew (blk_far (blk_far hr.out FA2 _) FA2 _)), .mk (below_drew ((hb.out.setCell FA3 _).setCell FA3 _))⟩, by decide⟩
    · clear hx0 hy0 ho0 hz0 hq0 hp0 hx1 hy1 ho1 hz1 hq1 hp1 hx2 hy2 ho2 hz2 hq2 hp2 hx3 hy3 ho3 hz3 hq3 hp3
      have HC := hc.out
      clear hc
      rw [show rowO s0 s1 s2 s3 s4 d0 d1 d2 d3 d4 y8 u0 v0 4 = #[.int .u32 s4, .int .u32 d4, .int .u8 y8, .int .u16 u0, .int .u16 v0] from rfl] at HC
      have HD1 := Aside0.mk HC
      clear HC
      go_wp2
      go_loopw [32] (fun i wr => ∃ k : Int, (k = 0 ∨ k = 1 ∨ k = 2) ∧ i = .int .i64 k ∧ Aside0 (wr.heap[w.heap.size + 1 + 1]? = some (.cells (rowP s4 d4 y8 u0 u1 u2 v0 v1 v2 k) 91 (0, 0))) ∧ Aside0 (wr.heap[w.heap.size]? = some (.cells #[.int .u8 y0, .int .u8 y1, .int .u8 y2, .int .u8 y3, .int .u8 y4, .int .u8 y5, .int .u8 y6, .int .u8 y7, .int .u8 y8, .int .u8 y9, .int .u8 y10, .int .u8 y11, .int .u8 y12] 92 (0, 0))) ∧ Aside0 (wr.heap[w.heap.size + 1]? = some (.cells #[.int .u32 0, .int .u32 0, .int .u8 0, .int .u16 0, .int .u16 0] 91 (0, 0))) ∧ Aside0 (Below w.heap.size w wr)) (fun i wr => 2 - (intOf i).toNat)
      case atStart =>
        exact ⟨0, by omega, rfl, .mk (by have h := HD1.out; simpa [rowP] using h), hh, hr, hb⟩
      case round =>
        clear HD1 hh hr hb
        obtain ⟨k, hk, rfl, hc, hh, hr, hb⟩ := hrel
        rcases hk with rfl | rfl | rfl
        · clear gx1 gy1 go1 gz1 gq1 gp1
          have HC := hc.out
          clear hc
          rw [show rowP s4 d4 y8 u0 u1 u2 v0 v1 v2 0 = #[.int .u32 s4, .int .u32 d4, .int .u8 y8, .int .u16 u0, .int .u16 v0] from rfl] at HC
          have x0 := blk_frozen HC 3
          have x1 := blk_frozen HC 4
          have x2 := blk_cell HC 3
          have x3 := blk_cell HC 4
          have y0 := blk_cell hh.out 9
          have y1 := blk_cell hh.out 11
          have HD := Aside0.mk HC
          clear HC
          simp at x2 x3 y0 y1
          go_wp2
          go_region
          all_goals go_wp2
          all_goals obtain ⟨FA1, FA2, FA3⟩ := FB.out
          all_goals exact ⟨⟨1, by omega, rfl, .mk (blk_drew (blk_set (blk_set HD.out 3 _) 4 _)), .mk (blk_drew (blk_far (blk_far hh.out FA1 _) FA1 _)), .mk (blk_drew (blk_far (blk_far hr.out FA2 _) FA2 _)), .mk (below_drew ((hb.out.setCell FA3 _).setCell FA3 _))⟩, by decide⟩
        · clear gx0 gy0 go0 gz0 gq0 gp0
          have HC := hc.out
          clear hc
          rw [show rowP s4 d4 y8 u0 u1 u2 v0 v1 v2 1 = #[.int .u32 s4, .int .u32 d4, .int .u8 y8, .int .u16 u1, .int .u16 v1] from rfl] at HC
          have x0 := blk_frozen HC 3
          have x1 := blk_frozen HC 4
          have x2 := blk_cell HC 3
          have x3 := blk_cell HC 4
          have y0 := blk_cell hh.out 10
          have y1 := blk_cell hh.out 12
          have HD := Aside0.mk HC
          clear HC
          simp at x2 x3 y0 y1
          go_wp2
          go_region
          all_goals go_wp2
          all_goals obtain ⟨FA1, FA2, FA3⟩ := FB.out
          all_goals exact ⟨⟨2, by omega, rfl, .mk (blk_drew (blk_set (blk_set HD.out 3 _) 4 _)), .mk (blk_drew (blk_far (blk_far hh.out FA1 _) FA1 _)), .mk (blk_drew (blk_far (blk_far hr.out FA2 _) FA2 _)), .mk (below_drew ((hb.out.setCell FA3 _).setCell FA3 _))⟩, by decide⟩
        · have HC := hc.out
          clear hc
          rw [show rowP s4 d4 y8 u0 u1 u2 v0 v1 v2 2 = #[.int .u32 s4, .int .u32 d4, .int .u8 y8, .int .u16 u2, .int .u16 v2] from rfl] at HC
          have z0 := blk_cell HC 0
          simp at z0
          have z1 := blk_cell HC 1
          simp at z1
          have z2 := blk_cell HC 2
          simp at z2
          have z3 := blk_cell HC 3
          simp at z3
          have z4 := blk_cell HC 4
          simp at z4
          have HD := Aside0.mk HC
          clear HC
          clear gx0 gy0 go0 gz0 gq0 gp0 gx1 gy1 go1 gz1 gq1 gp1
          have HO := Aside0.mk (show (#[.int .u32 s4, .int .u32 d4, .int .u8 y8, .int .u16 u2, .int .u16 v2] : Array Value).all (·.oneCell') = true from by simp [Value.oneCell'])
          go_wp2_with (refine wpList_store_row rfl 91 _ _ rfl (w.heap.size + 1) #[.int .u32 s4, .int .u32 d4, .int .u8 y8, .int .u16 u2, .int .u16 v2] rfl rfl 91 #[.int .u32 0, .int .u32 0, .int .u8 0, .int .u16 0, .int .u16 0] hr.out HI.out rfl HO.out ?_)
          have hq := setRow_heap wr (w.heap.size + 1) _ #[.int .u32 s4, .int .u32 d4, .int .u8 y8, .int .u16 u2, .int .u16 v2] 91 (0, 0) hr.out
          have HQ := Aside0.mk hq
          have k0 := blk_cell hq 0
          simp at k0
          have k1 := blk_cell hq 1
          simp at k1
          have k2 := blk_cell hq 2
          simp at k2
          have k3 := blk_cell hq 3
          simp at k3
          have k4 := blk_cell hq 4
          simp at k4
          clear hq
          (try simp only [Exit.inBlock, Exit.then])
          refine bodyPost_ret (v := .agg #[.int .u32 s4, .int .u32 d4, .int .u8 y8, .int .u16 u2, .int .u16 v2]) ?_ rfl ⟨rfl, below_setRow hb.out (by omega) _⟩
          unfold results
          go_simp
theorem wr_u32o (n : Int) (h₀ : 0 ≤ n) (h₁ : n < 2 ^ 32) : IntKind.u32.wrap n = n := by
  rw [IntKind.wrap_u32]
  have : (2 : Int) ^ 32 = 4294967296 := by decide
  omega
theorem wr_u16o (n : Int) (h₀ : 0 ≤ n) (h₁ : n < 2 ^ 16) : IntKind.u16.wrap n = n := by
  rw [IntKind.wrap_u16]
  have : (2 : Int) ^ 16 = 65536 := by decide
  omega
theorem p8o : (2 : Int) ^ 8 = 256 := by decide
theorem p16o : (2 : Int) ^ 16 = 65536 := by decide
theorem p32o : (2 : Int) ^ 32 = 4294967296 := by decide
theorem shl32 (x : Int) (h0 : 0 ≤ x) (h1 : x ≤ 16777215) : Op.shift .shl .u32 x .u64 8 = pure (.int .u32 (x * 256)) := by
  have h := shift_shl .u32 .u64 x 8 (by decide) (by decide)
  rw [show (2 : Int) ^ (8 : Int).toNat = 256 from rfl, wr_u32o _ (by omega) (by rw [p32o]; omega)] at h
  exact h
theorem shl16 (x : Int) (h0 : 0 ≤ x) (h1 : x ≤ 255) : Op.shift .shl .u16 x .u64 8 = pure (.int .u16 (x * 256)) := by
  have h := shift_shl .u16 .u64 x 8 (by decide) (by decide)
  rw [show (2 : Int) ^ (8 : Int).toNat = 256 from rfl, wr_u16o _ (by omega) (by rw [p16o]; omega)] at h
  exact h
theorem or32 (x y : Int) (h0 : 0 ≤ x) (h1 : x ≤ 16777215) (g0 : 0 ≤ y) (g1 : y ≤ 255) : bits .or .u32 (x * 256) y = x * 256 + y :=
  bits_join .u32 32 (by decide) wr_u32o 8 (x * 256) y (by omega) (by rw [p8o]; omega) (by rw [p32o]; omega) g0 (by rw [p8o]; omega) (by rw [p32o]; omega)
theorem or16 (x y : Int) (h0 : 0 ≤ x) (h1 : x ≤ 255) (g0 : 0 ≤ y) (g1 : y ≤ 255) : bits .or .u16 (x * 256) y = x * 256 + y :=
  bits_join .u16 16 (by decide) wr_u16o 8 (x * 256) y (by omega) (by rw [p8o]; omega) (by rw [p16o]; omega) g0 (by rw [p8o]; omega) (by rw [p16o]; omega)
open Go.Proofs.YtbnihnggljagnaaDoor.HdrMath
theorem header_Of.calls (y0 y1 y2 y3 y4 y5 y6 y7 y8 y9 y10 y11 y12 : Int) (w : World) (hY : (0 ≤ y0 ∧ y0 ≤ 255) ∧ (0 ≤ y1 ∧ y1 ≤ 255) ∧ (0 ≤ y2 ∧ y2 ≤ 255) ∧ (0 ≤ y3 ∧ y3 ≤ 255) ∧ (0 ≤ y4 ∧ y4 ≤ 255) ∧ (0 ≤ y5 ∧ y5 ≤ 255) ∧ (0 ≤ y6 ∧ y6 ≤ 255) ∧ (0 ≤ y7 ∧ y7 ≤ 255) ∧ (0 ≤ y8 ∧ y8 ≤ 255) ∧ (0 ≤ y9 ∧ y9 ≤ 255) ∧ (0 ≤ y10 ∧ y10 ≤ 255) ∧ (0 ≤ y11 ∧ y11 ≤ 255) ∧ (0 ≤ y12 ∧ y12 ≤ 255)) :
    Calls Tryd.prog 58 #[.agg #[.int .u8 y0, .int .u8 y1, .int .u8 y2, .int .u8 y3, .int .u8 y4, .int .u8 y5, .int .u8 y6, .int .u8 y7, .int .u8 y8, .int .u8 y9, .int .u8 y10, .int .u8 y11, .int .u8 y12]] w fun e w' => e = .returned (.agg #[.int .u32 (four y0 y1 y2 y3), .int .u32 (four y4 y5 y6 y7), .int .u8 y8, .int .u16 (y9 * 256 + y10), .int .u16 (y11 * 256 + y12)]) ∧ Below w.heap.size w w' := by
  obtain ⟨h0, h1, h2, h3, h4, h5, h6, h7, h8, h9, h10, h11, h12⟩ := hY
  have h := of_calls y0 y1 y2 y3 y4 y5 y6 y7 y8 y9 y10 y11 y12 0 0 (0 * 256 + y0) (0 * 256 + y4) ((0 * 256 + y0) * 256 + y1) ((0 * 256 + y4) * 256 + y5) (((0 * 256 + y0) * 256 + y1) * 256 + y2) (((0 * 256 + y4) * 256 + y5) * 256 + y6) ((((0 * 256 + y0) * 256 + y1) * 256 + y2) * 256 + y3) ((((0 * 256 + y4) * 256 + y5) * 256 + y6) * 256 + y7)
    0 0 (0 * 256 + y9) (0 * 256 + y11) ((0 * 256 + y9) * 256 + y10) ((0 * 256 + y11) * 256 + y12)
    (0 * 256) (0 * 256) ((0 * 256 + y0) * 256) ((0 * 256 + y4) * 256) (((0 * 256 + y0) * 256 + y1) * 256) (((0 * 256 + y4) * 256 + y5) * 256) ((((0 * 256 + y0) * 256 + y1) * 256 + y2) * 256) ((((0 * 256 + y4) * 256 + y5) * 256 + y6) * 256)
    (0 * 256) (0 * 256) ((0 * 256 + y9) * 256) ((0 * 256 + y11) * 256) w (.mk ⟨rfl, rfl, rfl, rfl⟩)
    (shl32 _ (by omega) (by omega)) (wr_u32o _ (by omega) (by rw [p32o]; omega)) (or32 _ _ (by omega) (by omega) (by omega) (by omega)) (shl32 _ (by omega) (by omega)) (wr_u32o _ (by omega) (by rw [p32o]; omega)) (or32 _ _ (by omega) (by omega) (by omega) (by omega))
    (shl32 _ (by omega) (by omega)) (wr_u32o _ (by omega) (by rw [p32o]; omega)) (or32 _ _ (by omega) (by omega) (by omega) (by omega)) (shl32 _ (by omega) (by omega)) (wr_u32o _ (by omega) (by rw [p32o]; omega)) (or32 _ _ (by omega) (by omega) (by omega) (by omega))
    (shl32 _ (by omega) (by omega)) (wr_u32o _ (by omega) (by rw [p32o]; omega)) (or32 _ _ (by omega) (by omega) (by omega) (by omega)) (shl32 _ (by omega) (by omega)) (wr_u32o _ (by omega) (by rw [p32o]; omega)) (or32 _ _ (by omega) (by omega) (by omega) (by omega))
    (shl32 _ (by omega) (by omega)) (wr_u32o _ (by omega) (by rw [p32o]; omega)) (or32 _ _ (by omega) (by omega) (by omega) (by omega)) (shl32 _ (by omega) (by omega)) (wr_u32o _ (by omega) (by rw [p32o]; omega)) (or32 _ _ (by omega) (by omega) (by omega) (by omega))
    (shl16 _ (by omega) (by omega)) (wr_u16o _ (by omega) (by rw [p16o]; omega)) (or16 _ _ (by omega) (by omega) (by omega) (by omega)) (shl16 _ (by omega) (by omega)) (wr_u16o _ (by omega) (by rw [p16o]; omega)) (or16 _ _ (by omega) (by omega) (by omega) (by omega))
    (shl16 _ (by omega) (by omega)) (wr_u16o _ (by omega) (by rw [p16o]; omega)) (or16 _ _ (by omega) (by omega) (by omega) (by omega)) (shl16 _ (by omega) (by omega)) (wr_u16o _ (by omega) (by rw [p16o]; omega)) (or16 _ _ (by omega) (by omega) (by omega) (by omega))
  refine h.mono ?_
  rintro e w' ⟨rfl, hb⟩
  refine ⟨?_, hb⟩
  unfold four
  simp only [Int.zero_mul, Int.zero_add]

/-- Bytes as cells. -/
def rowOf (b : Nat → Int) : Array Value := #[.int .u8 (b 0), .int .u8 (b 1), .int .u8 (b 2), .int .u8 (b 3), .int .u8 (b 4), .int .u8 (b 5), .int .u8 (b 6), .int .u8 (b 7), .int .u8 (b 8), .int .u8 (b 9), .int .u8 (b 10), .int .u8 (b 11), .int .u8 (b 12)]
theorem rowOf_get (b : Nat → Int) (n : Nat) (h : n ≤ 12) : (rowOf b)[n]? = some (.int .u8 (b n)) := by
  match n, h with
  | 0, _ => rfl | 1, _ => rfl | 2, _ => rfl | 3, _ => rfl | 4, _ => rfl | 5, _ => rfl | 6, _ => rfl | 7, _ => rfl | 8, _ => rfl | 9, _ => rfl | 10, _ => rfl | 11, _ => rfl | 12, _ => rfl
  | n + 13, h => exact absurd h (by omega)
theorem rowOf_set (b : Nat → Int) (n : Nat) (h : n ≤ 12) (v : Int) : (rowOf b).setIfInBounds n (.int .u8 v) = rowOf fun k => if k = n then v else b k := by
  match n, h with
  | 0, _ => rfl | 1, _ => rfl | 2, _ => rfl | 3, _ => rfl | 4, _ => rfl | 5, _ => rfl | 6, _ => rfl | 7, _ => rfl | 8, _ => rfl | 9, _ => rfl | 10, _ => rfl | 11, _ => rfl | 12, _ => rfl
  | n + 13, h => exact absurd h (by omega)
theorem rowOf_one (b : Nat → Int) : (rowOf b).all (·.oneCell') = true := by simp [rowOf, Value.oneCell']
theorem of_row (b : Nat → Int) (hb : ∀ n, 0 ≤ b n ∧ b n ≤ 255) (w : World) :
    Calls Tryd.prog 58 #[.agg (rowOf b)] w fun e w' => e = .returned (.agg #[.int .u32 (ofN b).1, .int .u32 (ofN b).2.1, .int .u8 (ofN b).2.2.1, .int .u16 (ofN b).2.2.2.1, .int .u16 (ofN b).2.2.2.2]) ∧ Below w.heap.size w w' :=
  header_Of.calls _ _ _ _ _ _ _ _ _ _ _ _ _ w ⟨hb 0, hb 1, hb 2, hb 3, hb 4, hb 5, hb 6, hb 7, hb 8, hb 9, hb 10, hb 11, hb 12⟩


end Go.Proofs.YtbnihnggljagnaaDoor.QHeaderBack
