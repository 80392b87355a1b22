-- Written by this session's program (wip/tools/printx.py) over the kit's print; the texts marked HAND are its own. Lean checks it.
import Derived.Test.YtbnihnggljagnaaDoorQHeaderOrderx0
import Derived.Test.YtbnihnggljagnaaDoorQHeaderOrderx2
import Derived.Test.YtbnihnggljagnaaDoorQHeaderOrderx3
namespace Go.Proofs.YtbnihnggljagnaaDoor.QHeaderOrder
open Go.RowKit Go.Proofs.YtbnihnggljagnaaDoorW.PrintWords Go.Proofs.YtbnihnggljagnaaDoorW.PrintLast Go.Proofs.YtbnihnggljagnaaDoorW.PrintMore
attribute [local go_sem] max2_int min2_int max_two min_two max_three min_three max_four min_four   -- for this text's walks alone
attribute [local go_sem high] Go.Proofs.YtbnihnggljagnaaDoor.Base.ux_u32 Go.Proofs.YtbnihnggljagnaaDoor.Base.ux_u64 Go.Proofs.YtbnihnggljagnaaDoor.Base.ux_u8 Go.Proofs.YtbnihnggljagnaaDoor.Base.ux_u16
set_option linter.unusedVariables false
set_option linter.unusedSimpArgs false

/-! ### header_Next: function 64 -/
open Go.Proofs.YtbnihnggljagnaaDoor.HdrMath
theorem bytes_rowN (s d p sp dp : Int) (w : World) :
    Calls Tryd.prog 59 #[.agg #[.int .u32 s, .int .u32 d, .int .u8 p, .int .u16 sp, .int .u16 dp]] w fun e w' => e = .returned (.agg (rowOf (byteN s d p sp dp))) ∧ Below w.heap.size w w' := header_Bytes.calls s d p sp dp w
theorem row_set_atN {w : World} {g : Nat} {b : Nat → Int} (h : w.heap[g]? = some (.cells (rowOf b) 92 (0, 0))) (n : Nat) (hn : n ≤ 12) (v : Int) : (w.setCell ⟨g, n, none⟩ (.int .u8 v)).heap[g]? = some (.cells (rowOf fun k => if k = n then v else b k) 92 (0, 0)) := by
  rw [← rowOf_set b n hn v]; exact blk_set h n _
/-- What is handed back: the header of the bytes right behind, or that there is none. -/
def nextE (o : Option (Nat → Int)) : Ending := match o with
  | some c => .returned (.tuple #[.agg #[.int .u32 (ofN c).1, .int .u32 (ofN c).2.1, .int .u8 (ofN c).2.2.1, .int .u16 (ofN c).2.2.2.1, .int .u16 (ofN c).2.2.2.2], .int .i64 0])
  | none => .returned (.tuple #[.agg #[.int .u32 0, .int .u32 0, .int .u8 0, .int .u16 0, .int .u16 0], .int .i64 5])
set_option maxRecDepth 100000 in
set_option maxHeartbeats 4000000 in
theorem next_calls (s d p sp dp : Int) (w : World) (hb : Aside0 (∀ n, 0 ≤ byteN s d p sp dp n ∧ byteN s d p sp dp n ≤ 255)) :
    Calls Tryd.prog 64 #[.agg #[.int .u32 s, .int .u32 d, .int .u8 p, .int .u16 sp, .int .u16 dp]] w fun e w' => e = nextE (upB 13 (byteN s d p sp dp)) ∧ Below w.heap.size w w' := by
  have HI := Aside0.mk (show (Tryd.prog.info? 91).map (·.size) = some 5 from by kernel_rfl)
  have HI3 := Aside0.mk (show (Tryd.prog.info? 92).map (·.size) = some 13 from by kernel_rfl)
  have HO3 := Aside0.mk (rowOf_one (byteN s d p sp dp))
  go_enter Tryd.func64, Tryd.ntmps64
  go_wp2_with (first | (go_at_call 59; refine (bytes_rowN s d p sp dp _).mono ?_; rintro e w2 ⟨rfl, hbx⟩; have hA1 := blk_below (show ((w.alloc (.cells #[.int .u32 s, .int .u32 d, .int .u8 p, .int .u16 sp, .int .u16 dp] 91 (0, 0))).alloc (.cells #[.int .u32 0, .int .u32 0, .int .u8 0, .int .u16 0, .int .u16 0] 91 (0, 0))).heap[w.heap.size + 1]? = some (.cells #[.int .u32 0, .int .u32 0, .int .u8 0, .int .u16 0, .int .u16 0] 91 (0, 0)) from by have h := blk_new (w.alloc (.cells #[.int .u32 s, .int .u32 d, .int .u8 p, .int .u16 sp, .int .u16 dp] 91 (0, 0))) (.cells #[.int .u32 0, .int .u32 0, .int .u8 0, .int .u16 0, .int .u16 0] 91 (0, 0)); simpa using h) hbx; have HA1 := Aside0.mk hA1; clear hA1; have HW := Aside0.mk (Below.trans (((Below.refl _ w).alloc (Nat.le_refl _) (.cells #[.int .u32 s, .int .u32 d, .int .u8 p, .int .u16 sp, .int .u16 dp] 91 (0, 0))).alloc (by simp) (.cells #[.int .u32 0, .int .u32 0, .int .u8 0, .int .u16 0, .int .u16 0] 91 (0, 0))) (hbx.mono (by simp; omega))); clear hbx) | (refine wpList_store_row rfl 92 _ _ rfl w2.heap.size (rowOf (byteN s d p sp dp)) rfl rfl 92 #[.int .u8 0, .int .u8 0, .int .u8 0, .int .u8 0, .int .u8 0, .int .u8 0, .int .u8 0, .int .u8 0, .int .u8 0, .int .u8 0, .int .u8 0, .int .u8 0, .int .u8 0] (blk_new w2 _) HI3.out rfl HO3.out ?_; have hrow := setRow_heap (w2.alloc (.cells #[.int .u8 0, .int .u8 0, .int .u8 0, .int .u8 0, .int .u8 0, .int .u8 0, .int .u8 0, .int .u8 0, .int .u8 0, .int .u8 0, .int .u8 0, .int .u8 0, .int .u8 0] 92 (0, 0))) w2.heap.size _ (rowOf (byteN s d p sp dp)) 92 (0, 0) (blk_new w2 _); have HROW := Aside0.mk hrow; clear hrow))
  have hlt := blk_lt HA1.out
  have hle := HW.out.size
  have HA2 := Aside0.mk ((setRow_other (w2.alloc (.cells #[.int .u8 0, .int .u8 0, .int .u8 0, .int .u8 0, .int .u8 0, .int .u8 0, .int .u8 0, .int .u8 0, .int .u8 0, .int .u8 0, .int .u8 0, .int .u8 0, .int .u8 0] 92 (0, 0))) w2.heap.size (w.heap.size + 1) (rowOf (byteN s d p sp dp)) (by omega)).trans (blk_alloc HA1.out (.cells #[.int .u8 0, .int .u8 0, .int .u8 0, .int .u8 0, .int .u8 0, .int .u8 0, .int .u8 0, .int .u8 0, .int .u8 0, .int .u8 0, .int .u8 0, .int .u8 0, .int .u8 0] 92 (0, 0))))
  have HW2 := Aside0.mk (below_setRow (HW.out.alloc HW.out.size (.cells #[.int .u8 0, .int .u8 0, .int .u8 0, .int .u8 0, .int .u8 0, .int .u8 0, .int .u8 0, .int .u8 0, .int .u8 0, .int .u8 0, .int .u8 0, .int .u8 0, .int .u8 0] 92 (0, 0))) hle (rowOf (byteN s d p sp dp)))
  have HN := Aside0.mk (show w.heap.size + 1 ≠ w2.heap.size by omega)
  have HL := Aside0.mk hle
  clear hlt hle HA1 HW
  go_loopw [5] (fun i wr => ∃ (J : Int) (b : Nat → Int), Aside0 (-1 ≤ J ∧ J ≤ 12) ∧ i = .int .i64 J ∧ Aside0 (wr.heap[w2.heap.size]? = some (.cells (rowOf b) 92 (0, 0))) ∧ Aside0 (∀ n, 0 ≤ b n ∧ b n ≤ 255) ∧ Aside0 (upB 13 (byteN s d p sp dp) = upB (J + 1).toNat b) ∧ Aside0 (wr.heap[w.heap.size + 1]? = some (.cells #[.int .u32 0, .int .u32 0, .int .u8 0, .int .u16 0, .int .u16 0] 91 (0, 0))) ∧ Aside0 (Below w.heap.size w wr)) (fun i wr => (intOf i + 1).toNat)
  case atStart => exact ⟨12, _, .mk (by omega), rfl, HROW, hb, .mk rfl, HA2, HW2⟩
  case round =>
    obtain ⟨J, b, hk, rfl, hrow, hrg, hup, hz, hbl⟩ := hrel
    by_cases h0 : J < 0
    · obtain rfl : J = -1 := by have := hk.out; omega
      have HO := Aside0.mk (show (#[.int .u32 0, .int .u32 0, .int .u8 0, .int .u16 0, .int .u16 0] : Array Value).all (·.oneCell') = true from by simp [Value.oneCell'])
      clear h0
      go_wp2_with (refine wpList_store_row rfl 91 _ _ rfl (w.heap.size + 1) #[.int .u32 0, .int .u32 0, .int .u8 0, .int .u16 0, .int .u16 0] rfl rfl 91 #[.int .u32 0, .int .u32 0, .int .u8 0, .int .u16 0, .int .u16 0] hz.out HI.out rfl HO.out ?_)
      have hq := setRow_heap wr (w.heap.size + 1) _ #[.int .u32 0, .int .u32 0, .int .u8 0, .int .u16 0, .int .u16 0] 91 (0, 0) hz.out
      have k0 := blk_cell hq 0
      simp at k0
      have k1 := blk_cell hq 1
      simp at k1
      have k2 := blk_cell hq 2
      simp at k2
      have k3 := blk_cell hq 3
      simp at k3
      have k4 := blk_cell hq 4
      simp at k4
      clear hq
      (try simp only [Exit.inBlock, Exit.then])
      refine bodyPost_ret (v := .tuple #[.agg #[.int .u32 0, .int .u32 0, .int .u8 0, .int .u16 0, .int .u16 0], .int .i64 5]) ?_ rfl ⟨by rw [hup.out]; rfl, below_setRow hbl.out (by omega) _⟩
      unfold results
      go_simp
    · have hJ1 : 0 ≤ J := by omega
      have hJ2 : J ≤ 12 := by have := hk.out; omega
      have HJ := Aside0.mk (show J.toNat ≤ 12 by omega)
      have hwJ : IntKind.wrap .i64 J = J := IntWalk.i64_in _ ⟨by omega, by omega⟩
      clear h0
      obtain ⟨v, hv⟩ : ∃ v, b J.toNat = v := ⟨_, rfl⟩
      have hvr := hrg.out J.toNat
      rw [hv] at hvr
      have hcell := (blk_cell hrow.out J.toNat).trans ((rowOf_get _ _ HJ.out).trans (congrArg (fun x => some (Value.int .u8 x)) hv))
      have hfree := blk_frozen hrow.out J.toNat
      have HV := Aside0.mk hv
      clear hv
      have e1 : (J + 1).toNat = J.toNat + 1 := by omega
      by_cases hc : v = 255
      · subst hc
        have HU := Aside0.mk (show upB (J + 1).toNat b = upB J.toNat (fun n => if n = J.toNat then 0 else b n) by rw [e1]; simp only [upB]; rw [if_pos HV.out])
        clear hvr e1
        have hw255 : IntKind.wrap .u8 (255 + 1) = 0 := by decide
        go_wp2
        go_roundw
        case rel => exact ⟨J - 1, fun n => if n = J.toNat then 0 else b n, .mk (by omega), rfl, .mk (row_set_atN hrow.out _ HJ.out 0), .mk (fun n => by show (0 ≤ (if n = J.toNat then (0 : Int) else b n)) ∧ ((if n = J.toNat then (0 : Int) else b n) ≤ 255); by_cases q : n = J.toNat; (rw [if_pos q]; omega); (rw [if_neg q]; exact hrg.out n)), .mk (by rw [hup.out, HU.out, show J - 1 + 1 = J by omega]), .mk (blk_far hz.out HN.out _), .mk (hbl.out.setCell HL.out _)⟩
        case measure => simp [intOf]; omega
      · have HU := Aside0.mk (show upB (J + 1).toNat b = some (fun n => if n = J.toNat then v + 1 else b n) by rw [e1]; simp only [upB]; rw [if_neg (by rw [HV.out]; exact hc), HV.out])
        obtain ⟨z, hz1⟩ : ∃ z, v + 1 = z := ⟨_, rfl⟩
        have hwz : IntKind.wrap .u8 (v + 1) = z := by rw [IntKind.wrap_u8]; omega
        have HRG := Aside0.mk (show ∀ n, 0 ≤ (if n = J.toNat then z else b n) ∧ (if n = J.toNat then z else b n) ≤ 255 from fun n => by by_cases q : n = J.toNat; (rw [if_pos q]; omega); (rw [if_neg q]; exact hrg.out n))
        have hzn : (z != 0) = true := by rw [bne_iff_ne]; omega
        have hzn2 : (z == 0) = false := by rw [beq_eq_false_iff_ne]; omega
        have hzn3 : ¬ z = 0 := by omega
        rw [hz1] at HU
        have HO := Aside0.mk (show (#[.int .u32 (ofN fun n => if n = J.toNat then z else b n).1, .int .u32 (ofN fun n => if n = J.toNat then z else b n).2.1, .int .u8 (ofN fun n => if n = J.toNat then z else b n).2.2.1, .int .u16 (ofN fun n => if n = J.toNat then z else b n).2.2.2.1, .int .u16 (ofN fun n => if n = J.toNat then z else b n).2.2.2.2] : Array Value).all (·.oneCell') = true from by simp [Value.oneCell'])
        have HR4 := Aside0.mk (row_set_atN hrow.out J.toNat HJ.out z)
        have HA4 := Aside0.mk (blk_far hz.out (p := ⟨w2.heap.size, J.toNat, none⟩) HN.out (.int .u8 z))
        have HW4 := Aside0.mk (hbl.out.setCell (p := ⟨w2.heap.size, J.toNat, none⟩) HL.out (.int .u8 z))
        clear hc hz1 hvr e1
        go_wp2_with (first | (refine wpList_load_row rfl 92 _ rfl w2.heap.size rfl 92 (rowOf fun n => if n = J.toNat then z else b n) (0, 0) _ HR4.out Tryd.underlying92 rfl HI3.out ?_) | (go_at_call 58; refine (of_row _ HRG.out _).mono ?_; rintro e w5 ⟨rfl, hb5⟩; have HA5 := Aside0.mk (blk_below HA4.out hb5); have HW5 := Aside0.mk (HW4.out.trans (hb5.mono HW4.out.size)); clear hb5) | (refine wpList_store_row rfl 91 _ _ rfl (w.heap.size + 1) #[.int .u32 (ofN fun n => if n = J.toNat then z else b n).1, .int .u32 (ofN fun n => if n = J.toNat then z else b n).2.1, .int .u8 (ofN fun n => if n = J.toNat then z else b n).2.2.1, .int .u16 (ofN fun n => if n = J.toNat then z else b n).2.2.2.1, .int .u16 (ofN fun n => if n = J.toNat then z else b n).2.2.2.2] rfl rfl 91 #[.int .u32 0, .int .u32 0, .int .u8 0, .int .u16 0, .int .u16 0] HA5.out HI.out rfl HO.out ?_))
        have hq := setRow_heap w5 (w.heap.size + 1) _ #[.int .u32 (ofN fun n => if n = J.toNat then z else b n).1, .int .u32 (ofN fun n => if n = J.toNat then z else b n).2.1, .int .u8 (ofN fun n => if n = J.toNat then z else b n).2.2.1, .int .u16 (ofN fun n => if n = J.toNat then z else b n).2.2.2.1, .int .u16 (ofN fun n => if n = J.toNat then z else b n).2.2.2.2] 91 (0, 0) HA5.out
        have k0 := blk_cell hq 0
        simp at k0
        have k1 := blk_cell hq 1
        simp at k1
        have k2 := blk_cell hq 2
        simp at k2
        have k3 := blk_cell hq 3
        simp at k3
        have k4 := blk_cell hq 4
        simp at k4
        clear hq
        (try simp only [Exit.inBlock, Exit.then])
        refine bodyPost_ret (v := .tuple #[.agg #[.int .u32 (ofN fun n => if n = J.toNat then z else b n).1, .int .u32 (ofN fun n => if n = J.toNat then z else b n).2.1, .int .u8 (ofN fun n => if n = J.toNat then z else b n).2.2.1, .int .u16 (ofN fun n => if n = J.toNat then z else b n).2.2.2.1, .int .u16 (ofN fun n => if n = J.toNat then z else b n).2.2.2.2], .int .i64 0]) ?_ rfl ⟨by rw [hup.out, HU.out]; rfl, below_setRow HW5.out (by omega) _⟩
        unfold results
        go_simp
def header_Next.f (s d p sp dp : Int) : Option (Int × Int × Int × Int × Int × Int) :=
  if 0 ≤ p ∧ p ≤ 255 then (match nextT (s, d, p, sp, dp) with | some t => some (t.1, t.2.1, t.2.2.1, t.2.2.2.1, t.2.2.2.2, 0) | none => some (0, 0, 0, 0, 0, 5)) else none
theorem header_Next.calls (s d p sp dp r1 r2 r3 r4 r5 r6 : Int) (w : World) (h : header_Next.f s d p sp dp = some (r1, r2, r3, r4, r5, r6)) :
    Calls Tryd.prog 64 #[.agg #[.int .u32 s, .int .u32 d, .int .u8 p, .int .u16 sp, .int .u16 dp]] w fun e w' => e = .returned (.tuple #[.agg #[.int .u32 r1, .int .u32 r2, .int .u8 r3, .int .u16 r4, .int .u16 r5], .int .i64 r6]) ∧ Below w.heap.size w w' := by
  unfold header_Next.f at h
  by_cases hp : 0 ≤ p ∧ p ≤ 255
  · rw [if_pos hp] at h
    refine (next_calls s d p sp dp w (.mk (byteN_range s d p sp dp hp))).mono ?_
    rintro e w' ⟨rfl, hb⟩
    refine ⟨?_, hb⟩
    unfold nextT at h
    rcases hu : upB 13 (byteT (s, d, p, sp, dp)) with _ | c
    · rw [hu] at h
      simp only [Option.map_none, Option.some.injEq, Prod.mk.injEq] at h
      obtain ⟨rfl, rfl, rfl, rfl, rfl, rfl⟩ := h
      have hu' : upB 13 (byteN s d p sp dp) = none := hu
      rw [hu']; rfl
    · rw [hu] at h
      simp only [Option.map_some, Option.some.injEq, Prod.mk.injEq] at h
      obtain ⟨rfl, rfl, rfl, rfl, rfl, rfl⟩ := h
      have hu' : upB 13 (byteN s d p sp dp) = some c := hu
      rw [hu']; rfl
  · rw [if_neg hp] at h; cases h


/-! ### bytes_Compare: function 127 -/
open Go.Proofs.YtbnihnggljagnaaDoor.HdrMath
def listOf (b : Nat → Int) : List Int := [b 0, b 1, b 2, b 3, b 4, b 5, b 6, b 7, b 8, b 9, b 10, b 11, b 12]
theorem byte_of (x : Int) (h : 0 ≤ x ∧ x ≤ 255) : (x.toNat.toUInt8).toNat = x.toNat := by
  show (UInt8.ofNat x.toNat).toNat = x.toNat
  rw [UInt8.toNat_ofNat']
  exact Nat.mod_eq_of_lt (by omega)
theorem cmp_lex : ∀ l m : List Int, l.length = m.length → Digs l → Digs m → Lib.compareBytes (Lib.bytesOf l) (Lib.bytesOf m) = lexI l m
  | [], [], _, _, _ => rfl
  | x :: l, y :: m, hl, h1, h2 => by
    have ih := cmp_lex l m (by simpa using hl) (fun z hz => h1 z (by simp [hz])) (fun z hz => h2 z (by simp [hz]))
    have hx := h1 x (by simp)
    have hy := h2 y (by simp)
    have e : Lib.compareBytes (Lib.bytesOf (x :: l)) (Lib.bytesOf (y :: m)) = if x.toNat.toUInt8 < y.toNat.toUInt8 then -1 else if y.toNat.toUInt8 < x.toNat.toUInt8 then 1 else Lib.compareBytes (Lib.bytesOf l) (Lib.bytesOf m) := rfl
    have a1 : x.toNat.toUInt8 < y.toNat.toUInt8 ↔ x < y := by rw [UInt8.lt_iff_toNat_lt, byte_of x hx, byte_of y hy]; omega
    have a2 : y.toNat.toUInt8 < x.toNat.toUInt8 ↔ y < x := by rw [UInt8.lt_iff_toNat_lt, byte_of x hx, byte_of y hy]; omega
    rw [e, ih]
    simp only [lexI, a1, a2, gt_iff_lt]
theorem loads_row {w : World} {g : Nat} {b : Nat → Int} (h : w.heap[g]? = some (.cells (rowOf b) 92 (0, 0))) :
    (Extern.Bytes.loadBytes ⟨g, 0, none⟩ 13 .empty).run Tryd.prog w = .ok ⟨(Lib.bytesOf (listOf b)).toArray⟩ w := by
  have hl := Lib.run_loadBytesX (P := Tryd.prog) w (listOf b) ⟨g, 0, none⟩ .empty (fun j x hj => by
    have hjl : j < (listOf b).length := (List.getElem?_eq_some_iff.1 hj).1
    have hj12 : j ≤ 12 := by have : (listOf b).length = 13 := rfl; omega
    have e : (⟨g, 0, none⟩ : Addr).add j = ⟨g, j, none⟩ := by unfold Addr.add; split <;> simp_all
    rw [e, blk_cell h j, rowOf_get b j hj12]
    congr 2
    match j, hj12, hj with
    | 0, _, hj => exact Option.some.inj hj
    | 1, _, hj => exact Option.some.inj hj
    | 2, _, hj => exact Option.some.inj hj
    | 3, _, hj => exact Option.some.inj hj
    | 4, _, hj => exact Option.some.inj hj
    | 5, _, hj => exact Option.some.inj hj
    | 6, _, hj => exact Option.some.inj hj
    | 7, _, hj => exact Option.some.inj hj
    | 8, _, hj => exact Option.some.inj hj
    | 9, _, hj => exact Option.some.inj hj
    | 10, _, hj => exact Option.some.inj hj
    | 11, _, hj => exact Option.some.inj hj
    | 12, _, hj => exact Option.some.inj hj)
  have e13 : (listOf b).length = 13 := rfl
  rw [e13] at hl
  rw [hl]
  congr 1
theorem run_compare_rows {w : World} {g k : Nat} {a b : Nat → Int} (hg : w.heap[g]? = some (.cells (rowOf a) 92 (0, 0))) (hk : w.heap[k]? = some (.cells (rowOf b) 92 (0, 0))) (ha : ∀ n, 0 ≤ a n ∧ a n ≤ 255) (hb : ∀ n, 0 ≤ b n ∧ b n ≤ 255) :
    (Extern.BytealgCompare.compare #[.slice (some ⟨g, 0, none⟩) 13 13, .slice (some ⟨k, 0, none⟩) 13 13]).run Tryd.prog w = .ok (.int .i64 (lexI (listOf a) (listOf b))) w := by
  have l1 := loads_row hg
  have l2 := loads_row hk
  have dg : ∀ c : Nat → Int, (∀ n, 0 ≤ c n ∧ c n ≤ 255) → Digs (listOf c) := by
    intro c hc x hx
    unfold listOf at hx
    simp only [List.mem_cons, List.not_mem_nil, or_false] at hx
    rcases hx with rfl | rfl | rfl | rfl | rfl | rfl | rfl | rfl | rfl | rfl | rfl | rfl | rfl <;> exact hc _
  change Sem.run Tryd.prog (do pure (goInt (Extern.BytealgCompare.cmp (← Extern.Bytes.bytesOf (.slice (some ⟨g, 0, none⟩) 13 13)) (← Extern.Bytes.bytesOf (.slice (some ⟨k, 0, none⟩) 13 13))))) w = _
  simp only [Extern.Bytes.bytesOf, Sem.run_bind, Sem.run_pure, l1, l2, Result.andThen]
  rw [Lib.cmp_eq]
  have := cmp_lex (listOf a) (listOf b) rfl (dg a ha) (dg b hb)
  rw [show ((⟨(Lib.bytesOf (listOf a)).toArray⟩ : ByteArray).data.toList) = Lib.bytesOf (listOf a) by simp, show ((⟨(Lib.bytesOf (listOf b)).toArray⟩ : ByteArray).data.toList) = Lib.bytesOf (listOf b) by simp, this]
  rfl
set_option maxRecDepth 100000 in
set_option maxHeartbeats 1000000 in
theorem compare_rows (g k : Nat) (a b : Nat → Int) (w : World) (hg : w.heap[g]? = some (.cells (rowOf a) 92 (0, 0))) (hk : w.heap[k]? = some (.cells (rowOf b) 92 (0, 0))) (ha : ∀ n, 0 ≤ a n ∧ a n ≤ 255) (hb : ∀ n, 0 ≤ b n ∧ b n ≤ 255) :
    Calls Tryd.prog 127 #[.slice (some ⟨g, 0, none⟩) 13 13, .slice (some ⟨k, 0, none⟩) 13 13] w fun e w' => e = .returned (.int .i64 (lexI (listOf a) (listOf b))) ∧ w' = w := by
  have HX := Aside0.mk (run_compare_rows hg hk ha hb)
  clear hg hk ha hb
  go_enter Tryd.func127, Tryd.ntmps127
  go_wp2
  rw [run_callFunc_extern Tryd.func171 (by kernel_rfl) (by kernel_rfl) (by kernel_rfl) (e := Extern.BytealgCompare.compare) (by kernel_rfl), HX.out]
  simp only [Result.andThen]
  rw [Oper.upon_value]
  go_wp2
  go_ret
  exact ⟨rfl, rfl⟩


end Go.Proofs.YtbnihnggljagnaaDoor.QHeaderOrder
