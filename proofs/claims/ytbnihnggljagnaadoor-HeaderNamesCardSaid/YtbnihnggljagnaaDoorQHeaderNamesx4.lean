-- Written by this session's program (wip/tools/printx.py) over the kit's print; the texts marked HAND are its own. Lean checks it.
import Derived.Test.YtbnihnggljagnaaDoorQHeaderNamesx0
import Derived.Test.YtbnihnggljagnaaDoorQHeaderNamesx2
import Derived.Test.YtbnihnggljagnaaDoorQHeaderNamesx3
namespace Go.Proofs.YtbnihnggljagnaaDoor.QHeaderNames
open Go.RowKit Go.Proofs.YtbnihnggljagnaaDoorW.PrintWords Go.Proofs.YtbnihnggljagnaaDoorW.PrintLast Go.Proofs.YtbnihnggljagnaaDoorW.PrintMore
attribute [local go_sem] max2_int min2_int max_two min_two max_three min_three max_four min_four   -- for this text's walks alone
attribute [local go_sem high] Go.Proofs.YtbnihnggljagnaaDoor.Base.ux_u32 Go.Proofs.YtbnihnggljagnaaDoor.Base.ux_u64 Go.Proofs.YtbnihnggljagnaaDoor.Base.ux_u8 Go.Proofs.YtbnihnggljagnaaDoor.Base.ux_u16
set_option linter.unusedVariables false
set_option linter.unusedSimpArgs false

/-! ### header_Next: function 64 -/
open Go.Proofs.YtbnihnggljagnaaDoor.HdrMath
theorem bytes_rowN (s d p sp dp : Int) (w : World) :
    Calls Tryd.prog 59 #[.agg #[.int .u32 s, .int .u32 d, .int .u8 p, .int .u16 sp, .int .u16 dp]] w fun e w' => e = .returned (.agg (rowOf (byteN s d p sp dp))) ∧ Below w.heap.size w w' := header_Bytes.calls s d p sp dp w
theorem row_set_atN {w : World} {g : Nat} {b : Nat → Int} (h : w.heap[g]? = some (.cells (rowOf b) 92 (0, 0))) (n : Nat) (hn : n ≤ 12) (v : Int) : (w.setCell ⟨g, n, none⟩ (.int .u8 v)).heap[g]? = some (.cells (rowOf fun k => if k = n then v else b k) 92 (0, 0)) := by
  rw [← rowOf_set b n hn v]; exact blk_set h n _
/-- What is handed back: the header of the bytes right behind, or that there is none. -/
def nextE (o : Option (Nat → Int)) : Ending := match o with
  | some c => .returned (.tuple #[.agg #[.int .u32 (ofN c).1, .int .u32 (ofN c).2.1, .int .u8 (ofN c).2.2.1, .int .u16 (ofN c).2.2.2.1, .int .u16 (ofN c).2.2.2.2], .int .i64 0])
  | none => .returned (.tuple #[.agg #[.int .u32 0, .int .u32 0, .int .u8 0, .int .u16 0, .int .u16 0], .int .i64 5])
set_option maxRecDepth 100000 in
set_option maxHeartbeats 4000000 in
theorem next_calls (s d p sp dp : Int) (w : World) (hb : Aside0 (∀ n, 0 ≤ byteN s d p sp dp n ∧ byteN s d p sp dp n ≤ 255)) :
    Calls Tryd.prog 64 #[.agg #[.int .u32 s, .int .u32 d, .int .u8 p, .int .u16 sp, .int .u16 dp]] w fun e w' => e = nextE (upB 13 (byteN s d p sp dp)) ∧ Below w.heap.size w w' := by
  have HI := Aside0.mk (show (Tryd.prog.info? 91).map (·.size) = some 5 from by kernel_rfl)
  have HI3 := Aside0.mk (show (Tryd.prog.info? 92).map (·.size) = some 13 from by kernel_rfl)
  have HO3 := Aside0.mk (rowOf_one (byteN s d p sp dp))
  go_enter Tryd.func64, Tryd.ntmps64
  go_wp2_with (first | (go_at_call 59; refine (bytes_rowN s d p sp dp _).mono ?_; rintro e w2 ⟨rfl, hbx⟩; have hA1 := blk_below (show ((w.alloc (.cells #[.int .u32 s, .int .u32 d, .int .u8 p, .int .u16 sp, .int .u16 dp] 91 (0, 0))).alloc (.cells #[.int .u32 0, .int .u32 0, .int .u8 0, .int .u16 0, .int .u16 0] 91 (0, 0))).heap[w.heap.size + 1]? = some (.cells #[.int .u32 0, .int .u32 0, .int .u8 0, .int .u16 0, .int .u16 0] 91 (0, 0)) from by have h := blk_new (w.alloc (.cells #[.int .u32 s, .int .u32 d, .int .u8 p, .int .u16 sp, .int .u16 dp] 91 (0, 0))) (.cells #[.int .u32 0, .int .u32 0, .int .u8 0, .int .u16 0, .int .u16 0] 91 (0, 0)); simpa using h) hbx; have HA1 := Aside0.mk hA1; clear hA1; have HW := Aside0.mk (Below.trans (((Below.refl _ w).alloc (Nat.le_refl _) (.cells #[.int .u32 s, .int .u32 d, .int .u8 p, .int .u16 sp, .int .u16 dp] 91 (0, 0))).alloc (by simp) (.cells #[.int .u32 0, .int .u32 0, .int .u8 0, .int .u16 0, .int .u16 0] 91 (0, 0))) (hbx.mono (by simp; omega))); clear hbx) | (refine wpList_store_row rfl 92 _ _ rfl w2.heap.size (rowOf (byteN s d p sp dp)) rfl rfl 92 #[.int .u8 0, .int .u8 0, .int .u8 0, .int .u8 0, .int .u8 0, .int .u8 0, .int .u8 0, .int .u8 0, .int .u8 0, .int .u8 0, .int .u8 0, .int .u8 0, .int .u8 0] (blk_new w2 _) HI3.out rfl HO3.out ?_; have hrow := setRow_heap (w2.alloc (.cells #[.int .u8 0, .int .u8 0, .int .u8 0, .int .u8 0, .int .u8 0, .int .u8 0, .int .u8 0, .int .u8 0, .int .u8 0, .int .u8 0, .int .u8 0, .int .u8 0, .int .u8 0] 92 (0, 0))) w2.heap.size _ (rowOf (byteN s d p sp dp)) 92 (0, 0) (blk_new w2 _); have HROW := Aside0.mk hrow; clear hrow))
  have hlt := blk_lt HA1.out
  have hle := HW.out.size
  have HA2 := Aside0.mk ((setRow_other (w2.alloc (.cells #[.int .u8 0, .int .u8 0, .int .u8 0, .int .u8 0, .int .u8 0, .int .u8 0, .int .u8 0, .int .u8 0, .int .u8 0, .int .u8 0, .int .u8 0, .int .u8 0, .int .u8 0] 92 (0, 0))) w2.heap.size (w.heap.size + 1) (rowOf (byteN s d p sp dp)) (by omega)).trans (blk_alloc HA1.out (.cells #[.int .u8 0, .int .u8 0, .int .u8 0, .int .u8 0, .int .u8 0, .int .u8 0, .int .u8 0, .int .u8 0, .int .u8 0, .int .u8 0, .int .u8 0, .int .u8 0, .int .u8 0] 92 (0, 0))))
  have HW2 := Aside0.mk (below_setRow (HW.out.alloc HW.out.size (.cells #[.int .u8 0, .int .u8 0, .int .u8 0, .int .u8 0, .int .u8 0, .int .u8 0, .int .u8 0, .int .u8 0, .int .u8 0, .int .u8 0, .int .u8 0, .int .u8 0, .int .u8 0] 92 (0, 0))) hle (rowOf (byteN s d p sp dp)))
  have HN := Aside0.mk (show w.heap.size + 1 ≠ w2.heap.size by omega)
  have HL := Aside0.mk hle
  clear hlt hle HA1 HW
  go_loopw [5] (fun i wr => ∃ (J : Int) (b : Nat → Int), Aside0 (-1 ≤ J ∧ J ≤ 12) ∧ i = .int .i64 J ∧ Aside0 (wr.heap[w2.heap.size]? = some (.cells (rowOf b) 92 (0, 0))) ∧ Aside0 (∀ n, 0 ≤ b n ∧ b n ≤ 255) ∧ Aside0 (upB 13 (byteN s d p sp dp) = upB (J + 1).toNat b) ∧ Aside0 (wr.heap[w.heap.size + 1]? = some (.cells #[.int .u32 0, .int .u32 0, .int .u8 0, .int .u16 0, .int .u16 0] 91 (0, 0))) ∧ Aside0 (Below w.heap.size w wr)) (fun i wr => (intOf i + 1).toNat)
  case atStart => exact ⟨12, _, .mk (by omega), rfl, HROW, hb, .mk rfl, HA2, HW2⟩
  case round =>
    obtain ⟨J, b, hk, rfl, hrow, hrg, hup, hz, hbl⟩ := hrel
    by_cases h0 : J < 0
    · obtain rfl : J = -1 := by have := hk.out; omega
      have HO := Aside0.mk (show (#[.int .u32 0, .int .u32 0, .int .u8 0, .int .u16 0, .int .u16 0] : Array Value).all (·.oneCell') = true from by simp [Value.oneCell'])
      clear h0
      go_wp2_with (refine wpList_store_row rfl 91 _ _ rfl (w.heap.size + 1) #[.int .u32 0, .int .u32 0, .int .u8 0, .int .u16 0, .int .u16 0] rfl rfl 91 #[.int .u32 0, .int .u32 0, .int .u8 0, .int .u16 0, .int .u16 0] hz.out HI.out rfl HO.out ?_)
      have hq := setRow_heap wr (w.heap.size + 1) _ #[.int .u32 0, .int .u32 0, .int .u8 0, .int .u16 0, .int .u16 0] 91 (0, 0) hz.out
      have k0 := blk_cell hq 0
      simp at k0
      have k1 := blk_cell hq 1
      simp at k1
      have k2 := blk_cell hq 2
      simp at k2
      have k3 := blk_cell hq 3
      simp at k3
      have k4 := blk_cell hq 4
      simp at k4
      clear hq
      (try simp only [Exit.inBlock, Exit.then])
      refine bodyPost_ret (v := .tuple #[.agg #[.int .u32 0, .int .u32 0, .int .u8 0, .int .u16 0, .int .u16 0], .int .i64 5]) ?_ rfl ⟨by rw [hup.out]; rfl, below_setRow hbl.out (by omega) _⟩
      unfold results
      go_simp
    · have hJ1 : 0 ≤ J := by omega
      have hJ2 : J ≤ 12 := by have := hk.out; omega
      have HJ := Aside0.mk (show J.toNat ≤ 12 by omega)
      have hwJ : IntKind.wrap .i64 J = J := IntWalk.i64_in _ ⟨by omega, by omega⟩
      clear h0
      obtain ⟨v, hv⟩ : ∃ v, b J.toNat = v := ⟨_, rfl⟩
      have hvr := hrg.out J.toNat
      rw [hv] at hvr
      have hcell := (blk_cell hrow.out J.toNat).trans ((rowOf_get _ _ HJ.out).trans (congrArg (fun x => some (Value.int .u8 x)) hv))
      have hfree := blk_frozen hrow.out J.toNat
      have HV := Aside0.mk hv
      clear hv
      have e1 : (J + 1).toNat = J.toNat + 1 := by omega
      by_cases hc : v = 255
      · subst hc
        have HU := Aside0.mk (show upB (J + 1).toNat b = upB J.toNat (fun n => if n = J.toNat then 0 else b n) by rw [e1]; simp only [upB]; rw [if_pos HV.out])
        clear hvr e1
        have hw255 : IntKind.wrap .u8 (255 + 1) = 0 := by decide
        go_wp2
        go_roundw
        case rel => exact ⟨J - 1, fun n => if n = J.toNat then 0 else b n, .mk (by omega), rfl, .mk (row_set_atN hrow.out _ HJ.out 0), .mk (fun n => by show (0 ≤ (if n = J.toNat then (0 : Int) else b n)) ∧ ((if n = J.toNat then (0 : Int) else b n) ≤ 255); by_cases q : n = J.toNat; (rw [if_pos q]; omega); (rw [if_neg q]; exact hrg.out n)), .mk (by rw [hup.out, HU.out, show J - 1 + 1 = J by omega]), .mk (blk_far hz.out HN.out _), .mk (hbl.out.setCell HL.out _)⟩
        case measure => simp [intOf]; omega
      · have HU := Aside0.mk (show upB (J + 1).toNat b = some (fun n => if n = J.toNat then v + 1 else b n) by rw [e1]; simp only [upB]; rw [if_neg (by rw [HV.out]; exact hc), HV.out])
        obtain ⟨z, hz1⟩ : ∃ z, v + 1 = z := ⟨_, rfl⟩
        have hwz : IntKind.wrap .u8 (v + 1) = z := by rw [IntKind.wrap_u8]; omega
        have HRG := Aside0.mk (show ∀ n, 0 ≤ (if n = J.toNat then z else b n) ∧ (if n = J.toNat then z else b n) ≤ 255 from fun n => by by_cases q : n = J.toNat; (rw [if_pos q]; omega); (rw [if_neg q]; exact hrg.out n))
        have hzn : (z != 0) = true := by rw [bne_iff_ne]; omega
        have hzn2 : (z == 0) = false := by rw [beq_eq_false_iff_ne]; omega
        have hzn3 : ¬ z = 0 := by omega
        rw [hz1] at HU
        have HO := Aside0.mk (show (#[.int .u32 (ofN fun n => if n = J.toNat then z else b n).1, .int .u32 (ofN fun n => if n = J.toNat then z else b n).2.1, .int .u8 (ofN fun n => if n = J.toNat then z else b n).2.2.1, .int .u16 (ofN fun n => if n = J.toNat then z else b n).2.2.2.1, .int .u16 (ofN fun n => if n = J.toNat then z else b n).2.2.2.2] : Array Value).all (·.oneCell') = true from by simp [Value.oneCell'])
        have HR4 := Aside0.mk (row_set_atN hrow.out J.toNat HJ.out z)
        have HA4 := Aside0.mk (blk_far hz.out (p := ⟨w2.heap.size, J.toNat, none⟩) HN.out (.int .u8 z))
        have HW4 := Aside0.mk (hbl.out.setCell (p := ⟨w2.heap.size, J.toNat, none⟩) HL.out (.int .u8 z))
        clear hc hz1 hvr e1
        go_wp2_with (first | (refine wpList_load_row rfl 92 _ rfl w2.heap.size rfl 92 (rowOf fun n => if n = J.toNat then z else b n) (0, 0) _ HR4.out Tryd.underlying92 rfl HI3.out ?_) | (go_at_call 58; refine (of_row _ HRG.out _).mono ?_; rintro e w5 ⟨rfl, hb5⟩; have HA5 := Aside0.mk (blk_below HA4.out hb5); have HW5 := Aside0.mk (HW4.out.trans (hb5.mono HW4.out.size)); clear hb5) | (refine wpList_store_row rfl 91 _ _ rfl (w.heap.size + 1) #[.int .u32 (ofN fun n => if n = J.toNat then z else b n).1, .int .u32 (ofN fun n => if n = J.toNat then z else b n).2.1, .int .u8 (ofN fun n => if n = J.toNat then z else b n).2.2.1, .int .u16 (ofN fun n => if n = J.toNat then z else b n).2.2.2.1, .int .u16 (ofN fun n => if n = J.toNat then z else b n).2.2.2.2] rfl rfl 91 #[.int .u32 0, .int .u32 0, .int .u8 0, .int .u16 0, .int .u16 0] HA5.out HI.out rfl HO.out ?_))
        have hq := setRow_heap w5 (w.heap.size + 1) _ #[.int .u32 (ofN fun n => if n = J.toNat then z else b n).1, .int .u32 (ofN fun n => if n = J.toNat then z else b n).2.1, .int .u8 (ofN fun n => if n = J.toNat then z else b n).2.2.1, .int .u16 (ofN fun n => if n = J.toNat then z else b n).2.2.2.1, .int .u16 (ofN fun n => if n = J.toNat then z else b n).2.2.2.2] 91 (0, 0) HA5.out
        have k0 := blk_cell hq 0
        simp at k0
        have k1 := blk_cell hq 1
        simp at k1
        have k2 := blk_cell hq 2
        simp at k2
        have k3 := blk_cell hq 3
        simp at k3
        have k4 := blk_cell hq 4
        simp at k4
        clear hq
        (try simp only [Exit.inBlock, Exit.then])
        refine bodyPost_ret (v := .tuple #[.agg #[.int .u32 (ofN fun n => if n = J.toNat then z else b n).1, .int .u32 (ofN fun n => if n = J.toNat then z else b n).2.1, .int .u8 (ofN fun n => if n = J.toNat then z else b n).2.2.1, .int .u16 (ofN fun n => if n = J.toNat then z else b n).2.2.2.1, .int .u16 (ofN fun n => if n = J.toNat then z else b n).2.2.2.2], .int .i64 0]) ?_ rfl ⟨by rw [hup.out, HU.out]; rfl, below_setRow HW5.out (by omega) _⟩
        unfold results
        go_simp
def header_Next.f (s d p sp dp : Int) : Option (Int × Int × Int × Int × Int × Int) :=
  if 0 ≤ p ∧ p ≤ 255 then (match nextT (s, d, p, sp, dp) with | some t => some (t.1, t.2.1, t.2.2.1, t.2.2.2.1, t.2.2.2.2, 0) | none => some (0, 0, 0, 0, 0, 5)) else none
theorem header_Next.calls (s d p sp dp r1 r2 r3 r4 r5 r6 : Int) (w : World) (h : header_Next.f s d p sp dp = some (r1, r2, r3, r4, r5, r6)) :
    Calls Tryd.prog 64 #[.agg #[.int .u32 s, .int .u32 d, .int .u8 p, .int .u16 sp, .int .u16 dp]] w fun e w' => e = .returned (.tuple #[.agg #[.int .u32 r1, .int .u32 r2, .int .u8 r3, .int .u16 r4, .int .u16 r5], .int .i64 r6]) ∧ Below w.heap.size w w' := by
  unfold header_Next.f at h
  by_cases hp : 0 ≤ p ∧ p ≤ 255
  · rw [if_pos hp] at h
    refine (next_calls s d p sp dp w (.mk (byteN_range s d p sp dp hp))).mono ?_
    rintro e w' ⟨rfl, hb⟩
    refine ⟨?_, hb⟩
    unfold nextT at h
    rcases hu : upB 13 (byteT (s, d, p, sp, dp)) with _ | c
    · rw [hu] at h
      simp only [Option.map_none, Option.some.injEq, Prod.mk.injEq] at h
      obtain ⟨rfl, rfl, rfl, rfl, rfl, rfl⟩ := h
      have hu' : upB 13 (byteN s d p sp dp) = none := hu
      rw [hu']; rfl
    · rw [hu] at h
      simp only [Option.map_some, Option.some.injEq, Prod.mk.injEq] at h
      obtain ⟨rfl, rfl, rfl, rfl, rfl, rfl⟩ := h
      have hu' : upB 13 (byteN s d p sp dp) = some c := hu
      rw [hu']; rfl
  · rw [if_neg hp] at h; cases h


/-! ### waymarklaw03_HeaderNames: function 13 -/
def namesRow : Array Value := #[.int .i64 0, .int .u32 2147483648, .int .u32 0, .int .u8 0, .int .u16 0, .int .u16 0, .int .i64 32, .int .u32 0, .int .u32 2147483648, .int .u8 0, .int .u16 0, .int .u16 0, .int .i64 64, .int .u32 0, .int .u32 0, .int .u8 128, .int .u16 0, .int .u16 0, .int .i64 72, .int .u32 0, .int .u32 0, .int .u8 0, .int .u16 32768, .int .u16 0, .int .i64 88, .int .u32 0, .int .u32 0, .int .u8 0, .int .u16 0, .int .u16 32768, .int .i64 103, .int .u32 0, .int .u32 0, .int .u8 0, .int .u16 0, .int .u16 1]
def namesText : Nat → ByteArray
  | 0 => (⟨#[49, 48, 46, 48, 46, 48, 46, 49, 58, 48, 49, 48, 50, 52, 32, 49, 48, 46, 48, 46, 48, 46, 50, 58, 56, 48, 32, 54]⟩ : ByteArray)
  | 1 => (⟨#[49, 48, 46, 48, 46, 48, 46, 49, 58, 49, 48, 50, 52, 32, 49, 48, 46, 48, 46, 48, 46, 50, 58, 56, 48, 32, 48, 54]⟩ : ByteArray)
  | 2 => (⟨#[49, 48, 46, 48, 46, 48, 46, 49, 58, 49, 48, 50, 52, 32, 32, 49, 48, 46, 48, 46, 48, 46, 50, 58, 56, 48, 32, 54]⟩ : ByteArray)
  | _ => (⟨#[49, 48, 46, 48, 46, 48, 46, 49, 58, 43, 49, 32, 49, 48, 46, 48, 46, 48, 46, 50, 58, 56, 48, 32, 54]⟩ : ByteArray)
def textsRow : Array Value := #[.string (namesText 0), .string (namesText 1), .string (namesText 2), .string (namesText 3)]
set_option maxRecDepth 100000 in
set_option maxHeartbeats 8000000 in
theorem names_calls (k : Nat) (w : World) (hG : Go.Proofs.YtbnihnggljagnaaDoor.WorldA.GW w) (h0 : waymarklaw03_works.f k = some true) (hp : ∀ j, header_Parse.f k (namesText j) = some (0, 0, 0, 0, 0, 4)) :
    Calls Tryd.prog 13 #[] w fun e w' => e = .returned (.bool true) ∧ Below w.heap.size w w' := by
  have HG := Aside0.mk hG
  have A0 := Aside0.mk h0
  have AP := Aside0.mk hp
  have HI := Aside0.mk (show (Tryd.prog.info? 91).map (·.size) = some 5 from by kernel_rfl)
  have HI7 := Aside0.mk (show (Tryd.prog.info? 107).map (·.size) = some 6 from by kernel_rfl)
  clear hG h0 hp
  go_enter Tryd.func13, Tryd.ntmps13
  go_wp2_with (go_at_call 54; refine (waymarklaw03_works.calls k true _ HG.out A0.out).mono ?_; rintro e w1 ⟨rfl, hbx⟩; have HB1 := Aside0.mk hbx; clear hbx)
  have HN1 := Aside0.mk (show (w1.alloc (.cells namesRow 107 (0, 0))).heap[w1.heap.size]? = some (.cells namesRow 107 (0, 0)) from blk_new _ _)
  have HBa := Aside0.mk (HB1.out.alloc HB1.out.size (.cells namesRow 107 (0, 0)))
  go_loopw [56] (fun i wr => ∃ j : Nat, (j = 0 ∨ j = 1 ∨ j = 2 ∨ j = 3 ∨ j = 4 ∨ j = 5 ∨ j = 6) ∧ i = .int .i64 (j : Int) ∧ Aside0 (wr.heap[w1.heap.size]? = some (.cells namesRow 107 (0, 0))) ∧ Aside0 (Below w.heap.size w wr)) (fun i wr => 6 - (intOf i).toNat)
  case atStart => exact ⟨0, .inl rfl, rfl, HN1, HBa⟩
  case round =>
    obtain ⟨j, hj, rfl, hn, hb⟩ := hrel
    clear HN1 HBa
    rcases hj with rfl | rfl | rfl | rfl | rfl | rfl | rfl
    · have HWj := Aside0.mk (show header_With.f 0 0 0 0 0 0 true = some (2147483648, 0, 0, 0, 0, 0) from by decide +kernel)
      have HSj := Aside0.mk (show waymarklaw03_same.f 2147483648 0 0 0 0 2147483648 0 0 0 0 = some true from by decide +kernel)
      have HO6 := Aside0.mk (show (#[.int .i64 0, .int .u32 2147483648, .int .u32 0, .int .u8 0, .int .u16 0, .int .u16 0] : Array Value).all (·.oneCell') = true from by simp [Value.oneCell'])
      have HO5 := Aside0.mk (show (#[.int .u32 2147483648, .int .u32 0, .int .u8 0, .int .u16 0, .int .u16 0] : Array Value).all (·.oneCell') = true from by simp [Value.oneCell'])
      have c0 := blk_cell hn.out 0
      rw [show namesRow[0]? = some (.int .i64 0) from rfl] at c0
      have c1 := blk_cell hn.out 1
      rw [show namesRow[1]? = some (.int .u32 2147483648) from rfl] at c1
      have c2 := blk_cell hn.out 2
      rw [show namesRow[2]? = some (.int .u32 0) from rfl] at c2
      have c3 := blk_cell hn.out 3
      rw [show namesRow[3]? = some (.int .u8 0) from rfl] at c3
      have c4 := blk_cell hn.out 4
      rw [show namesRow[4]? = some (.int .u16 0) from rfl] at c4
      have c5 := blk_cell hn.out 5
      rw [show namesRow[5]? = some (.int .u16 0) from rfl] at c5
      go_wp2_with (first | (refine wpList_store_row rfl 107 _ _ rfl wr.heap.size #[.int .i64 0, .int .u32 2147483648, .int .u32 0, .int .u8 0, .int .u16 0, .int .u16 0] rfl rfl 107 #[.int .i64 0, .int .u32 0, .int .u32 0, .int .u8 0, .int .u16 0, .int .u16 0] (blk_new wr _) HI7.out rfl HO6.out ?_; have HR1 := Aside0.mk (setRow_heap (wr.alloc (.cells #[.int .i64 0, .int .u32 0, .int .u32 0, .int .u8 0, .int .u16 0, .int .u16 0] 107 (0, 0))) wr.heap.size _ #[.int .i64 0, .int .u32 2147483648, .int .u32 0, .int .u8 0, .int .u16 0, .int .u16 0] 107 (0, 0) (blk_new wr _)); have HN2 := Aside0.mk ((setRow_other (wr.alloc (.cells #[.int .i64 0, .int .u32 0, .int .u32 0, .int .u8 0, .int .u16 0, .int .u16 0] 107 (0, 0))) wr.heap.size w1.heap.size #[.int .i64 0, .int .u32 2147483648, .int .u32 0, .int .u8 0, .int .u16 0, .int .u16 0] (by have := blk_lt hn.out; omega)).trans (blk_alloc hn.out _)); have HB2 := Aside0.mk (below_setRow (hb.out.alloc hb.out.size (.cells #[.int .i64 0, .int .u32 0, .int .u32 0, .int .u8 0, .int .u16 0, .int .u16 0] 107 (0, 0))) hb.out.size #[.int .i64 0, .int .u32 2147483648, .int .u32 0, .int .u8 0, .int .u16 0, .int .u16 0]); have k0 := blk_cell HR1.out 0; simp at k0; have k1 := blk_cell HR1.out 1; simp at k1; have k2 := blk_cell HR1.out 2; simp at k2; have k3 := blk_cell HR1.out 3; simp at k3; have k4 := blk_cell HR1.out 4; simp at k4; have k5 := blk_cell HR1.out 5; simp at k5) | (go_at_call 61; (with_reducible refine (header_With.calls 0 0 0 0 0 0 true 2147483648 0 0 0 0 0 _ HWj.out).mono ?_); rintro e w2 ⟨rfl, hbx⟩; have HR2 := Aside0.mk (blk_below HR1.out hbx); have HN3 := Aside0.mk (blk_below HN2.out hbx); have HB3 := Aside0.mk (HB2.out.trans (hbx.mono HB2.out.size)); clear hbx) | (refine wpList_store_row rfl 91 _ _ rfl w2.heap.size #[.int .u32 2147483648, .int .u32 0, .int .u8 0, .int .u16 0, .int .u16 0] rfl rfl 91 #[.int .u32 0, .int .u32 0, .int .u8 0, .int .u16 0, .int .u16 0] (blk_new w2 _) HI.out rfl HO5.out ?_; have HR3 := Aside0.mk (setRow_heap (w2.alloc (.cells #[.int .u32 0, .int .u32 0, .int .u8 0, .int .u16 0, .int .u16 0] 91 (0, 0))) w2.heap.size _ #[.int .u32 2147483648, .int .u32 0, .int .u8 0, .int .u16 0, .int .u16 0] 91 (0, 0) (blk_new w2 _)); have HR4 := Aside0.mk ((setRow_other (w2.alloc (.cells #[.int .u32 0, .int .u32 0, .int .u8 0, .int .u16 0, .int .u16 0] 91 (0, 0))) w2.heap.size wr.heap.size #[.int .u32 2147483648, .int .u32 0, .int .u8 0, .int .u16 0, .int .u16 0] (by have := blk_lt HR2.out; omega)).trans (blk_alloc HR2.out _)); have HN4 := Aside0.mk ((setRow_other (w2.alloc (.cells #[.int .u32 0, .int .u32 0, .int .u8 0, .int .u16 0, .int .u16 0] 91 (0, 0))) w2.heap.size w1.heap.size #[.int .u32 2147483648, .int .u32 0, .int .u8 0, .int .u16 0, .int .u16 0] (by have := blk_lt HN3.out; omega)).trans (blk_alloc HN3.out _)); have HB4 := Aside0.mk (below_setRow (HB3.out.alloc HB3.out.size (.cells #[.int .u32 0, .int .u32 0, .int .u8 0, .int .u16 0, .int .u16 0] 91 (0, 0))) HB3.out.size #[.int .u32 2147483648, .int .u32 0, .int .u8 0, .int .u16 0, .int .u16 0]); have m0 := blk_cell HR3.out 0; simp at m0; have m1 := blk_cell HR3.out 1; simp at m1; have m2 := blk_cell HR3.out 2; simp at m2; have m3 := blk_cell HR3.out 3; simp at m3; have m4 := blk_cell HR3.out 4; simp at m4; have n0 := blk_cell HR4.out 0; simp at n0; have n1 := blk_cell HR4.out 1; simp at n1; have n2 := blk_cell HR4.out 2; simp at n2; have n3 := blk_cell HR4.out 3; simp at n3; have n4 := blk_cell HR4.out 4; simp at n4; have n5 := blk_cell HR4.out 5; simp at n5) | (go_at_call 57; (with_reducible refine (waymarklaw03_same.calls 2147483648 0 0 0 0 2147483648 0 0 0 0 true _ HSj.out).mono ?_); rintro e w3 ⟨rfl, hbx⟩; have HN5 := Aside0.mk (blk_below HN4.out hbx); have HB5 := Aside0.mk (HB4.out.trans (hbx.mono HB4.out.size)); clear hbx))
      go_roundw
      case rel => exact ⟨1, by omega, rfl, HN5, HB5⟩
      case measure => simp [intOf]
    · have HWj := Aside0.mk (show header_With.f 0 0 0 0 0 32 true = some (0, 2147483648, 0, 0, 0, 0) from by decide +kernel)
      have HSj := Aside0.mk (show waymarklaw03_same.f 0 2147483648 0 0 0 0 2147483648 0 0 0 = some true from by decide +kernel)
      have HO6 := Aside0.mk (show (#[.int .i64 32, .int .u32 0, .int .u32 2147483648, .int .u8 0, .int .u16 0, .int .u16 0] : Array Value).all (·.oneCell') = true from by simp [Value.oneCell'])
      have HO5 := Aside0.mk (show (#[.int .u32 0, .int .u32 2147483648, .int .u8 0, .int .u16 0, .int .u16 0] : Array Value).all (·.oneCell') = true from by simp [Value.oneCell'])
      have c0 := blk_cell hn.out 6
      rw [show namesRow[6]? = some (.int .i64 32) from rfl] at c0
      have c1 := blk_cell hn.out 7
      rw [show namesRow[7]? = some (.int .u32 0) from rfl] at c1
      have c2 := blk_cell hn.out 8
      rw [show namesRow[8]? = some (.int .u32 2147483648) from rfl] at c2
      have c3 := blk_cell hn.out 9
      rw [show namesRow[9]? = some (.int .u8 0) from rfl] at c3
      have c4 := blk_cell hn.out 10
      rw [show namesRow[10]? = some (.int .u16 0) from rfl] at c4
      have c5 := blk_cell hn.out 11
      rw [show namesRow[11]? = some (.int .u16 0) from rfl] at c5
      go_wp2_with (first | (refine wpList_store_row rfl 107 _ _ rfl wr.heap.size #[.int .i64 32, .int .u32 0, .int .u32 2147483648, .int .u8 0, .int .u16 0, .int .u16 0] rfl rfl 107 #[.int .i64 0, .int .u32 0, .int .u32 0, .int .u8 0, .int .u16 0, .int .u16 0] (blk_new wr _) HI7.out rfl HO6.out ?_; have HR1 := Aside0.mk (setRow_heap (wr.alloc (.cells #[.int .i64 0, .int .u32 0, .int .u32 0, .int .u8 0, .int .u16 0, .int .u16 0] 107 (0, 0))) wr.heap.size _ #[.int .i64 32, .int .u32 0, .int .u32 2147483648, .int .u8 0, .int .u16 0, .int .u16 0] 107 (0, 0) (blk_new wr _)); have HN2 := Aside0.mk ((setRow_other (wr.alloc (.cells #[.int .i64 0, .int .u32 0, .int .u32 0, .int .u8 0, .int .u16 0, .int .u16 0] 107 (0, 0))) wr.heap.size w1.heap.size #[.int .i64 32, .int .u32 0, .int .u32 2147483648, .int .u8 0, .int .u16 0, .int .u16 0] (by have := blk_lt hn.out; omega)).trans (blk_alloc hn.out _)); have HB2 := Aside0.mk (below_setRow (hb.out.alloc hb.out.size (.cells #[.int .i64 0, .int .u32 0, .int .u32 0, .int .u8 0, .int .u16 0, .int .u16 0] 107 (0, 0))) hb.out.size #[.int .i64 32, .int .u32 0, .int .u32 2147483648, .int .u8 0, .int .u16 0, .int .u16 0]); have k0 := blk_cell HR1.out 0; simp at k0; have k1 := blk_cell HR1.out 1; simp at k1; have k2 := blk_cell HR1.out 2; simp at k2; have k3 := blk_cell HR1.out 3; simp at k3; have k4 := blk_cell HR1.out 4; simp at k4; have k5 := blk_cell HR1.out 5; simp at k5) | (go_at_call 61; (with_reducible refine (header_With.calls 0 0 0 0 0 32 true 0 2147483648 0 0 0 0 _ HWj.out).mono ?_); rintro e w2 ⟨rfl, hbx⟩; have HR2 := Aside0.mk (blk_below HR1.out hbx); have HN3 := Aside0.mk (blk_below HN2.out hbx); have HB3 := Aside0.mk (HB2.out.trans (hbx.mono HB2.out.size)); clear hbx) | (refine wpList_store_row rfl 91 _ _ rfl w2.heap.size #[.int .u32 0, .int .u32 2147483648, .int .u8 0, .int .u16 0, .int .u16 0] rfl rfl 91 #[.int .u32 0, .int .u32 0, .int .u8 0, .int .u16 0, .int .u16 0] (blk_new w2 _) HI.out rfl HO5.out ?_; have HR3 := Aside0.mk (setRow_heap (w2.alloc (.cells #[.int .u32 0, .int .u32 0, .int .u8 0, .int .u16 0, .int .u16 0] 91 (0, 0))) w2.heap.size _ #[.int .u32 0, .int .u32 2147483648, .int .u8 0, .int .u16 0, .int .u16 0] 91 (0, 0) (blk_new w2 _)); have HR4 := Aside0.mk ((setRow_other (w2.alloc (.cells #[.int .u32 0, .int .u32 0, .int .u8 0, .int .u16 0, .int .u16 0] 91 (0, 0))) w2.heap.size wr.heap.size #[.int .u32 0, .int .u32 2147483648, .int .u8 0, .int .u16 0, .int .u16 0] (by have := blk_lt HR2.out; omega)).trans (blk_alloc HR2.out _)); have HN4 := Aside0.mk ((setRow_other (w2.alloc (.cells #[.int .u32 0, .int .u32 0, .int .u8 0, .int .u16 0, .int .u16 0] 91 (0, 0))) w2.heap.size w1.heap.size #[.int .u32 0, .int .u32 2147483648, .int .u8 0, .int .u16 0, .int .u16 0] (by have := blk_lt HN3.out; omega)).trans (blk_alloc HN3.out _)); have HB4 := Aside0.mk (below_setRow (HB3.out.alloc HB3.out.size (.cells #[.int .u32 0, .int .u32 0, .int .u8 0, .int .u16 0, .int .u16 0] 91 (0, 0))) HB3.out.size #[.int .u32 0, .int .u32 2147483648, .int .u8 0, .int .u16 0, .int .u16 0]); have m0 := blk_cell HR3.out 0; simp at m0; have m1 := blk_cell HR3.out 1; simp at m1; have m2 := blk_cell HR3.out 2; simp at m2; have m3 := blk_cell HR3.out 3; simp at m3; have m4 := blk_cell HR3.out 4; simp at m4; have n0 := blk_cell HR4.out 0; simp at n0; have n1 := blk_cell HR4.out 1; simp at n1; have n2 := blk_cell HR4.out 2; simp at n2; have n3 := blk_cell HR4.out 3; simp at n3; have n4 := blk_cell HR4.out 4; simp at n4; have n5 := blk_cell HR4.out 5; simp at n5) | (go_at_call 57; (with_reducible refine (waymarklaw03_same.calls 0 2147483648 0 0 0 0 2147483648 0 0 0 true _ HSj.out).mono ?_); rintro e w3 ⟨rfl, hbx⟩; have HN5 := Aside0.mk (blk_below HN4.out hbx); have HB5 := Aside0.mk (HB4.out.trans (hbx.mono HB4.out.size)); clear hbx))
      go_roundw
      case rel => exact ⟨2, by omega, rfl, HN5, HB5⟩
      case measure => simp [intOf]
    · have HWj := Aside0.mk (show header_With.f 0 0 0 0 0 64 true = some (0, 0, 128, 0, 0, 0) from by decide +kernel)
      have HSj := Aside0.mk (show waymarklaw03_same.f 0 0 128 0 0 0 0 128 0 0 = some true from by decide +kernel)
      have HO6 := Aside0.mk (show (#[.int .i64 64, .int .u32 0, .int .u32 0, .int .u8 128, .int .u16 0, .int .u16 0] : Array Value).all (·.oneCell') = true from by simp [Value.oneCell'])
      have HO5 := Aside0.mk (show (#[.int .u32 0, .int .u32 0, .int .u8 128, .int .u16 0, .int .u16 0] : Array Value).all (·.oneCell') = true from by simp [Value.oneCell'])
      have c0 := blk_cell hn.out 12
      rw [show namesRow[12]? = some (.int .i64 64) from rfl] at c0
      have c1 := blk_cell hn.out 13
      rw [show namesRow[13]? = some (.int .u32 0) from rfl] at c1
      have c2 := blk_cell hn.out 14
      rw [show namesRow[14]? = some (.int .u32 0) from rfl] at c2
      have c3 := blk_cell hn.out 15
      rw [show namesRow[15]? = some (.int .u8 128) from rfl] at c3
      have c4 := blk_cell hn.out 16
      rw [show namesRow[16]? = some (.int .u16 0) from rfl] at c4
      have c5 := blk_cell hn.out 17
      rw [show namesRow[17]? = some (.int .u16 0) from rfl] at c5
      go_wp2_with (first | (refine wpList_store_row rfl 107 _ _ rfl wr.heap.size #[.int .i64 64, .int .u32 0, .int .u32 0, .int .u8 128, .int .u16 0, .int .u16 0] rfl rfl 107 #[.int .i64 0, .int .u32 0, .int .u32 0, .int .u8 0, .int .u16 0, .int .u16 0] (blk_new wr _) HI7.out rfl HO6.out ?_; have HR1 := Aside0.mk (setRow_heap (wr.alloc (.cells #[.int .i64 0, .int .u32 0, .int .u32 0, .int .u8 0, .int .u16 0, .int .u16 0] 107 (0, 0))) wr.heap.size _ #[.int .i64 64, .int .u32 0, .int .u32 0, .int .u8 128, .int .u16 0, .int .u16 0] 107 (0, 0) (blk_new wr _)); have HN2 := Aside0.mk ((setRow_other (wr.alloc (.cells #[.int .i64 0, .int .u32 0, .int .u32 0, .int .u8 0, .int .u16 0, .int .u16 0] 107 (0, 0))) wr.heap.size w1.heap.size #[.int .i64 64, .int .u32 0, .int .u32 0, .int .u8 128, .int .u16 0, .int .u16 0] (by have := blk_lt hn.out; omega)).trans (blk_alloc hn.out _)); have HB2 := Aside0.mk (below_setRow (hb.out.alloc hb.out.size (.cells #[.int .i64 0, .int .u32 0, .int .u32 0, .int .u8 0, .int .u16 0, .int .u16 0] 107 (0, 0))) hb.out.size #[.int .i64 64, .int .u32 0, .int .u32 0, .int .u8 128, .int .u16 0, .int .u16 0]); have k0 := blk_cell HR1.out 0; simp at k0; have k1 := blk_cell HR1.out 1; simp at k1; have k2 := blk_cell HR1.out 2; simp at k2; have k3 := blk_cell HR1.out 3; simp at k3; have k4 := blk_cell HR1.out 4; simp at k4; have k5 := blk_cell HR1.out 5; simp at k5) | (go_at_call 61; (with_reducible refine (header_With.calls 0 0 0 0 0 64 true 0 0 128 0 0 0 _ HWj.out).mono ?_); rintro e w2 ⟨rfl, hbx⟩; have HR2 := Aside0.mk (blk_below HR1.out hbx); have HN3 := Aside0.mk (blk_below HN2.out hbx); have HB3 := Aside0.mk (HB2.out.trans (hbx.mono HB2.out.size)); clear hbx) | (refine wpList_store_row rfl 91 _ _ rfl w2.heap.size #[.int .u32 0, .int .u32 0, .int .u8 128, .int .u16 0, .int .u16 0] rfl rfl 91 #[.int .u32 0, .int .u32 0, .int .u8 0, .int .u16 0, .int .u16 0] (blk_new w2 _) HI.out rfl HO5.out ?_; have HR3 := Aside0.mk (setRow_heap (w2.alloc (.cells #[.int .u32 0, .int .u32 0, .int .u8 0, .int .u16 0, .int .u16 0] 91 (0, 0))) w2.heap.size _ #[.int .u32 0, .int .u32 0, .int .u8 128, .int .u16 0, .int .u16 0] 91 (0, 0) (blk_new w2 _)); have HR4 := Aside0.mk ((setRow_other (w2.alloc (.cells #[.int .u32 0, .int .u32 0, .int .u8 0, .int .u16 0, .int .u16 0] 91 (0, 0))) w2.heap.size wr.heap.size #[.int .u32 0, .int .u32 0, .int .u8 128, .int .u16 0, .int .u16 0] (by have := blk_lt HR2.out; omega)).trans (blk_alloc HR2.out _)); have HN4 := Aside0.mk ((setRow_other (w2.alloc (.cells #[.int .u32 0, .int .u32 0, .int .u8 0, .int .u16 0, .int .u16 0] 91 (0, 0))) w2.heap.size w1.heap.size #[.int .u32 0, .int .u32 0, .int .u8 128, .int .u16 0, .int .u16 0] (by have := blk_lt HN3.out; omega)).trans (blk_alloc HN3.out _)); have HB4 := Aside0.mk (below_setRow (HB3.out.alloc HB3.out.size (.cells #[.int .u32 0, .int .u32 0, .int .u8 0, .int .u16 0, .int .u16 0] 91 (0, 0))) HB3.out.size #[.int .u32 0, .int .u32 0, .int .u8 128, .int .u16 0, .int .u16 0]); have m0 := blk_cell HR3.out 0; simp at m0; have m1 := blk_cell HR3.out 1; simp at m1; have m2 := blk_cell HR3.out 2; simp at m2; have m3 := blk_cell HR3.out 3; simp at m3; have m4 := blk_cell HR3.out 4; simp at m4; have n0 := blk_cell HR4.out 0; simp at n0; have n1 := blk_cell HR4.out 1; simp at n1; have n2 := blk_cell HR4.out 2; simp at n2; have n3 := blk_cell HR4.out 3; simp at n3; have n4 := blk_cell HR4.out 4; simp at n4; have n5 := blk_cell HR4.out 5; simp at n5) | (go_at_call 57; (with_reducible refine (waymarklaw03_same.calls 0 0 128 0 0 0 0 128 0 0 true _ HSj.out).mono ?_); rintro e w3 ⟨rfl, hbx⟩; have HN5 := Aside0.mk (blk_below HN4.out hbx); have HB5 := Aside0.mk (HB4.out.trans (hbx.mono HB4.out.size)); clear hbx))
      go_roundw
      case rel => exact ⟨3, by omega, rfl, HN5, HB5⟩
      case measure => simp [intOf]
    · have HWj := Aside0.mk (show header_With.f 0 0 0 0 0 72 true = some (0, 0, 0, 32768, 0, 0) from by decide +kernel)
      have HSj := Aside0.mk (show waymarklaw03_same.f 0 0 0 32768 0 0 0 0 32768 0 = some true from by decide +kernel)
      have HO6 := Aside0.mk (show (#[.int .i64 72, .int .u32 0, .int .u32 0, .int .u8 0, .int .u16 32768, .int .u16 0] : Array Value).all (·.oneCell') = true from by simp [Value.oneCell'])
      have HO5 := Aside0.mk (show (#[.int .u32 0, .int .u32 0, .int .u8 0, .int .u16 32768, .int .u16 0] : Array Value).all (·.oneCell') = true from by simp [Value.oneCell'])
      have c0 := blk_cell hn.out 18
      rw [show namesRow[18]? = some (.int .i64 72) from rfl] at c0
      have c1 := blk_cell hn.out 19
      rw [show namesRow[19]? = some (.int .u32 0) from rfl] at c1
      have c2 := blk_cell hn.out 20
      rw [show namesRow[20]? = some (.int .u32 0) from rfl] at c2
      have c3 := blk_cell hn.out 21
      rw [show namesRow[21]? = some (.int .u8 0) from rfl] at c3
      have c4 := blk_cell hn.out 22
      rw [show namesRow[22]? = some (.int .u16 32768) from rfl] at c4
      have c5 := blk_cell hn.out 23
      rw [show namesRow[23]? = some (.int .u16 0) from rfl] at c5
      go_wp2_with (first | (refine wpList_store_row rfl 107 _ _ rfl wr.heap.size #[.int .i64 72, .int .u32 0, .int .u32 0, .int .u8 0, .int .u16 32768, .int .u16 0] rfl rfl 107 #[.int .i64 0, .int .u32 0, .int .u32 0, .int .u8 0, .int .u16 0, .int .u16 0] (blk_new wr _) HI7.out rfl HO6.out ?_; have HR1 := Aside0.mk (setRow_heap (wr.alloc (.cells #[.int .i64 0, .int .u32 0, .int .u32 0, .int .u8 0, .int .u16 0, .int .u16 0] 107 (0, 0))) wr.heap.size _ #[.int .i64 72, .int .u32 0, .int .u32 0, .int .u8 0, .int .u16 32768, .int .u16 0] 107 (0, 0) (blk_new wr _)); have HN2 := Aside0.mk ((setRow_other (wr.alloc (.cells #[.int .i64 0, .int .u32 0, .int .u32 0, .int .u8 0, .int .u16 0, .int .u16 0] 107 (0, 0))) wr.heap.size w1.heap.size #[.int .i64 72, .int .u32 0, .int .u32 0, .int .u8 0, .int .u16 32768, .int .u16 0] (by have := blk_lt hn.out; omega)).trans (blk_alloc hn.out _)); have HB2 := Aside0.mk (below_setRow (hb.out.alloc hb.out.size (.cells #[.int .i64 0, .int .u32 0, .int .u32 0, .int .u8 0, .int .u16 0, .int .u16 0] 107 (0, 0))) hb.out.size #[.int .i64 72, .int .u32 0, .int .u32 0, .int .u8 0, .int .u16 32768, .int .u16 0]); have k0 := blk_cell HR1.out 0; simp at k0; have k1 := blk_cell HR1.out 1; simp at k1; have k2 := blk_cell HR1.out 2; simp at k2; have k3 := blk_cell HR1.out 3; simp at k3; have k4 := blk_cell HR1.out 4; simp at k4; have k5 := blk_cell HR1.out 5; simp at k5) | (go_at_call 61; (with_reducible refine (header_With.calls 0 0 0 0 0 72 true 0 0 0 32768 0 0 _ HWj.out).mono ?_); rintro e w2 ⟨rfl, hbx⟩; have HR2 := Aside0.mk (blk_below HR1.out hbx); have HN3 := Aside0.mk (blk_below HN2.out hbx); have HB3 := Aside0.mk (HB2.out.trans (hbx.mono HB2.out.size)); clear hbx) | (refine wpList_store_row rfl 91 _ _ rfl w2.heap.size #[.int .u32 0, .int .u32 0, .int .u8 0, .int .u16 32768, .int .u16 0] rfl rfl 91 #[.int .u32 0, .int .u32 0, .int .u8 0, .int .u16 0, .int .u16 0] (blk_new w2 _) HI.out rfl HO5.out ?_; have HR3 := Aside0.mk (setRow_heap (w2.alloc (.cells #[.int .u32 0, .int .u32 0, .int .u8 0, .int .u16 0, .int .u16 0] 91 (0, 0))) w2.heap.size _ #[.int .u32 0, .int .u32 0, .int .u8 0, .int .u16 32768, .int .u16 0] 91 (0, 0) (blk_new w2 _)); have HR4 := Aside0.mk ((setRow_other (w2.alloc (.cells #[.int .u32 0, .int .u32 0, .int .u8 0, .int .u16 0, .int .u16 0] 91 (0, 0))) w2.heap.size wr.heap.size #[.int .u32 0, .int .u32 0, .int .u8 0, .int .u16 32768, .int .u16 0] (by have := blk_lt HR2.out; omega)).trans (blk_alloc HR2.out _)); have HN4 := Aside0.mk ((setRow_other (w2.alloc (.cells #[.int .u32 0, .int .u32 0, .int .u8 0, .int .u16 0, .int .u16 0] 91 (0, 0))) w2.heap.size w1.heap.size #[.int .u32 0, .int .u32 0, .int .u8 0, .int .u16 32768, .int .u16 0] (by have := blk_lt HN3.out; omega)).trans (blk_alloc HN3.out _)); have HB4 := Aside0.mk (below_setRow (HB3.out.alloc HB3.out.size (.cells #[.int .u32 0, .int .u32 0, .int .u8 0, .int .u16 0, .int .u16 0] 91 (0, 0))) HB3.out.size #[.int .u32 0, .int .u32 0, .int .u8 0, .int .u16 32768, .int .u16 0]); have m0 := blk_cell HR3.out 0; simp at m0; have m1 := blk_cell HR3.out 1; simp at m1; have m2 := blk_cell HR3.out 2; simp at m2; have m3 := blk_cell HR3.out 3; simp at m3; have m4 := blk_cell HR3.out 4; simp at m4; have n0 := blk_cell HR4.out 0; simp at n0; have n1 := blk_cell HR4.out 1; simp at n1; have n2 := blk_cell HR4.out 2; simp at n2; have n3 := blk_cell HR4.out 3; simp at n3; have n4 := blk_cell HR4.out 4; simp at n4; have n5 := blk_cell HR4.out 5; simp at n5) | (go_at_call 57; (with_reducible refine (waymarklaw03_same.calls 0 0 0 32768 0 0 0 0 32768 0 true _ HSj.out).mono ?_); rintro e w3 ⟨rfl, hbx⟩; have HN5 := Aside0.mk (blk_below HN4.out hbx); have HB5 := Aside0.mk (HB4.out.trans (hbx.mono HB4.out.size)); clear hbx))
      go_roundw
      case rel => exact ⟨4, by omega, rfl, HN5, HB5⟩
      case measure => simp [intOf]
    · have HWj := Aside0.mk (show header_With.f 0 0 0 0 0 88 true = some (0, 0, 0, 0, 32768, 0) from by decide +kernel)
      have HSj := Aside0.mk (show waymarklaw03_same.f 0 0 0 0 32768 0 0 0 0 32768 = some true from by decide +kernel)
      have HO6 := Aside0.mk (show (#[.int .i64 88, .int .u32 0, .int .u32 0, .int .u8 0, .int .u16 0, .int .u16 32768] : Array Value).all (·.oneCell') = true from by simp [Value.oneCell'])
      have HO5 := Aside0.mk (show (#[.int .u32 0, .int .u32 0, .int .u8 0, .int .u16 0, .int .u16 32768] : Array Value).all (·.oneCell') = true from by simp [Value.oneCell'])
      have c0 := blk_cell hn.out 24
      rw [show namesRow[24]? = some (.int .i64 88) from rfl] at c0
      have c1 := blk_cell hn.out 25
      rw [show namesRow[25]? = some (.int .u32 0) from rfl] at c1
      have c2 := blk_cell hn.out 26
      rw [show namesRow[26]? = some (.int .u32 0) from rfl] at c2
      have c3 := blk_cell hn.out 27
      rw [show namesRow[27]? = some (.int .u8 0) from rfl] at c3
      have c4 := blk_cell hn.out 28
      rw [show namesRow[28]? = some (.int .u16 0) from rfl] at c4
      have c5 := blk_cell hn.out 29
      rw [show namesRow[29]? = some (.int .u16 32768) from rfl] at c5
      go_wp2_with (first | (refine wpList_store_row rfl 107 _ _ rfl wr.heap.size #[.int .i64 88, .int .u32 0, .int .u32 0, .int .u8 0, .int .u16 0, .int .u16 32768] rfl rfl 107 #[.int .i64 0, .int .u32 0, .int .u32 0, .int .u8 0, .int .u16 0, .int .u16 0] (blk_new wr _) HI7.out rfl HO6.out ?_; have HR1 := Aside0.mk (setRow_heap (wr.alloc (.cells #[.int .i64 0, .int .u32 0, .int .u32 0, .int .u8 0, .int .u16 0, .int .u16 0] 107 (0, 0))) wr.heap.size _ #[.int .i64 88, .int .u32 0, .int .u32 0, .int .u8 0, .int .u16 0, .int .u16 32768] 107 (0, 0) (blk_new wr _)); have HN2 := Aside0.mk ((setRow_other (wr.alloc (.cells #[.int .i64 0, .int .u32 0, .int .u32 0, .int .u8 0, .int .u16 0, .int .u16 0] 107 (0, 0))) wr.heap.size w1.heap.size #[.int .i64 88, .int .u32 0, .int .u32 0, .int .u8 0, .int .u16 0, .int .u16 32768] (by have := blk_lt hn.out; omega)).trans (blk_alloc hn.out _)); have HB2 := Aside0.mk (below_setRow (hb.out.alloc hb.out.size (.cells #[.int .i64 0, .int .u32 0, .int .u32 0, .int .u8 0, .int .u16 0, .int .u16 0] 107 (0, 0))) hb.out.size #[.int .i64 88, .int .u32 0, .int .u32 0, .int .u8 0, .int .u16 0, .int .u16 32768]); have k0 := blk_cell HR1.out 0; simp at k0; have k1 := blk_cell HR1.out 1; simp at k1; have k2 := blk_cell HR1.out 2; simp at k2; have k3 := blk_cell HR1.out 3; simp at k3; have k4 := blk_cell HR1.out 4; simp at k4; have k5 := blk_cell HR1.out 5; simp at k5) | (go_at_call 61; (with_reducible refine (header_With.calls 0 0 0 0 0 88 true 0 0 0 0 32768 0 _ HWj.out).mono ?_); rintro e w2 ⟨rfl, hbx⟩; have HR2 := Aside0.mk (blk_below HR1.out hbx); have HN3 := Aside0.mk (blk_below HN2.out hbx); have HB3 := Aside0.mk (HB2.out.trans (hbx.mono HB2.out.size)); clear hbx) | (refine wpList_store_row rfl 91 _ _ rfl w2.heap.size #[.int .u32 0, .int .u32 0, .int .u8 0, .int .u16 0, .int .u16 32768] rfl rfl 91 #[.int .u32 0, .int .u32 0, .int .u8 0, .int .u16 0, .int .u16 0] (blk_new w2 _) HI.out rfl HO5.out ?_; have HR3 := Aside0.mk (setRow_heap (w2.alloc (.cells #[.int .u32 0, .int .u32 0, .int .u8 0, .int .u16 0, .int .u16 0] 91 (0, 0))) w2.heap.size _ #[.int .u32 0, .int .u32 0, .int .u8 0, .int .u16 0, .int .u16 32768] 91 (0, 0) (blk_new w2 _)); have HR4 := Aside0.mk ((setRow_other (w2.alloc (.cells #[.int .u32 0, .int .u32 0, .int .u8 0, .int .u16 0, .int .u16 0] 91 (0, 0))) w2.heap.size wr.heap.size #[.int .u32 0, .int .u32 0, .int .u8 0, .int .u16 0, .int .u16 32768] (by have := blk_lt HR2.out; omega)).trans (blk_alloc HR2.out _)); have HN4 := Aside0.mk ((setRow_other (w2.alloc (.cells #[.int .u32 0, .int .u32 0, .int .u8 0, .int .u16 0, .int .u16 0] 91 (0, 0))) w2.heap.size w1.heap.size #[.int .u32 0, .int .u32 0, .int .u8 0, .int .u16 0, .int .u16 32768] (by have := blk_lt HN3.out; omega)).trans (blk_alloc HN3.out _)); have HB4 := Aside0.mk (below_setRow (HB3.out.alloc HB3.out.size (.cells #[.int .u32 0, .int .u32 0, .int .u8 0, .int .u16 0, .int .u16 0] 91 (0, 0))) HB3.out.size #[.int .u32 0, .int .u32 0, .int .u8 0, .int .u16 0, .int .u16 32768]); have m0 := blk_cell HR3.out 0; simp at m0; have m1 := blk_cell HR3.out 1; simp at m1; have m2 := blk_cell HR3.out 2; simp at m2; have m3 := blk_cell HR3.out 3; simp at m3; have m4 := blk_cell HR3.out 4; simp at m4; have n0 := blk_cell HR4.out 0; simp at n0; have n1 := blk_cell HR4.out 1; simp at n1; have n2 := blk_cell HR4.out 2; simp at n2; have n3 := blk_cell HR4.out 3; simp at n3; have n4 := blk_cell HR4.out 4; simp at n4; have n5 := blk_cell HR4.out 5; simp at n5) | (go_at_call 57; (with_reducible refine (waymarklaw03_same.calls 0 0 0 0 32768 0 0 0 0 32768 true _ HSj.out).mono ?_); rintro e w3 ⟨rfl, hbx⟩; have HN5 := Aside0.mk (blk_below HN4.out hbx); have HB5 := Aside0.mk (HB4.out.trans (hbx.mono HB4.out.size)); clear hbx))
      go_roundw
      case rel => exact ⟨5, by omega, rfl, HN5, HB5⟩
      case measure => simp [intOf]
    · have HWj := Aside0.mk (show header_With.f 0 0 0 0 0 103 true = some (0, 0, 0, 0, 1, 0) from by decide +kernel)
      have HSj := Aside0.mk (show waymarklaw03_same.f 0 0 0 0 1 0 0 0 0 1 = some true from by decide +kernel)
      have HO6 := Aside0.mk (show (#[.int .i64 103, .int .u32 0, .int .u32 0, .int .u8 0, .int .u16 0, .int .u16 1] : Array Value).all (·.oneCell') = true from by simp [Value.oneCell'])
      have HO5 := Aside0.mk (show (#[.int .u32 0, .int .u32 0, .int .u8 0, .int .u16 0, .int .u16 1] : Array Value).all (·.oneCell') = true from by simp [Value.oneCell'])
      have c0 := blk_cell hn.out 30
      rw [show namesRow[30]? = some (.int .i64 103) from rfl] at c0
      have c1 := blk_cell hn.out 31
      rw [show namesRow[31]? = some (.int .u32 0) from rfl] at c1
      have c2 := blk_cell hn.out 32
      rw [show namesRow[32]? = some (.int .u32 0) from rfl] at c2
      have c3 := blk_cell hn.out 33
      rw [show namesRow[33]? = some (.int .u8 0) from rfl] at c3
      have c4 := blk_cell hn.out 34
      rw [show namesRow[34]? = some (.int .u16 0) from rfl] at c4
      have c5 := blk_cell hn.out 35
      rw [show namesRow[35]? = some (.int .u16 1) from rfl] at c5
      go_wp2_with (first | (refine wpList_store_row rfl 107 _ _ rfl wr.heap.size #[.int .i64 103, .int .u32 0, .int .u32 0, .int .u8 0, .int .u16 0, .int .u16 1] rfl rfl 107 #[.int .i64 0, .int .u32 0, .int .u32 0, .int .u8 0, .int .u16 0, .int .u16 0] (blk_new wr _) HI7.out rfl HO6.out ?_; have HR1 := Aside0.mk (setRow_heap (wr.alloc (.cells #[.int .i64 0, .int .u32 0, .int .u32 0, .int .u8 0, .int .u16 0, .int .u16 0] 107 (0, 0))) wr.heap.size _ #[.int .i64 103, .int .u32 0, .int .u32 0, .int .u8 0, .int .u16 0, .int .u16 1] 107 (0, 0) (blk_new wr _)); have HN2 := Aside0.mk ((setRow_other (wr.alloc (.cells #[.int .i64 0, .int .u32 0, .int .u32 0, .int .u8 0, .int .u16 0, .int .u16 0] 107 (0, 0))) wr.heap.size w1.heap.size #[.int .i64 103, .int .u32 0, .int .u32 0, .int .u8 0, .int .u16 0, .int .u16 1] (by have := blk_lt hn.out; omega)).trans (blk_alloc hn.out _)); have HB2 := Aside0.mk (below_setRow (hb.out.alloc hb.out.size (.cells #[.int .i64 0, .int .u32 0, .int .u32 0, .int .u8 0, .int .u16 0, .int .u16 0] 107 (0, 0))) hb.out.size #[.int .i64 103, .int .u32 0, .int .u32 0, .int .u8 0, .int .u16 0, .int .u16 1]); have k0 := blk_cell HR1.out 0; simp at k0; have k1 := blk_cell HR1.out 1; simp at k1; have k2 := blk_cell HR1.out 2; simp at k2; have k3 := blk_cell HR1.out 3; simp at k3; have k4 := blk_cell HR1.out 4; simp at k4; have k5 := blk_cell HR1.out 5; simp at k5) | (go_at_call 61; (with_reducible refine (header_With.calls 0 0 0 0 0 103 true 0 0 0 0 1 0 _ HWj.out).mono ?_); rintro e w2 ⟨rfl, hbx⟩; have HR2 := Aside0.mk (blk_below HR1.out hbx); have HN3 := Aside0.mk (blk_below HN2.out hbx); have HB3 := Aside0.mk (HB2.out.trans (hbx.mono HB2.out.size)); clear hbx) | (refine wpList_store_row rfl 91 _ _ rfl w2.heap.size #[.int .u32 0, .int .u32 0, .int .u8 0, .int .u16 0, .int .u16 1] rfl rfl 91 #[.int .u32 0, .int .u32 0, .int .u8 0, .int .u16 0, .int .u16 0] (blk_new w2 _) HI.out rfl HO5.out ?_; have HR3 := Aside0.mk (setRow_heap (w2.alloc (.cells #[.int .u32 0, .int .u32 0, .int .u8 0, .int .u16 0, .int .u16 0] 91 (0, 0))) w2.heap.size _ #[.int .u32 0, .int .u32 0, .int .u8 0, .int .u16 0, .int .u16 1] 91 (0, 0) (blk_new w2 _)); have HR4 := Aside0.mk ((setRow_other (w2.alloc (.cells #[.int .u32 0, .int .u32 0, .int .u8 0, .int .u16 0, .int .u16 0] 91 (0, 0))) w2.heap.size wr.heap.size #[.int .u32 0, .int .u32 0, .int .u8 0, .int .u16 0, .int .u16 1] (by have := blk_lt HR2.out; omega)).trans (blk_alloc HR2.out _)); have HN4 := Aside0.mk ((setRow_other (w2.alloc (.cells #[.int .u32 0, .int .u32 0, .int .u8 0, .int .u16 0, .int .u16 0] 91 (0, 0))) w2.heap.size w1.heap.size #[.int .u32 0, .int .u32 0, .int .u8 0, .int .u16 0, .int .u16 1] (by have := blk_lt HN3.out; omega)).trans (blk_alloc HN3.out _)); have HB4 := Aside0.mk (below_setRow (HB3.out.alloc HB3.out.size (.cells #[.int .u32 0, .int .u32 0, .int .u8 0, .int .u16 0, .int .u16 0] 91 (0, 0))) HB3.out.size #[.int .u32 0, .int .u32 0, .int .u8 0, .int .u16 0, .int .u16 1]); have m0 := blk_cell HR3.out 0; simp at m0; have m1 := blk_cell HR3.out 1; simp at m1; have m2 := blk_cell HR3.out 2; simp at m2; have m3 := blk_cell HR3.out 3; simp at m3; have m4 := blk_cell HR3.out 4; simp at m4; have n0 := blk_cell HR4.out 0; simp at n0; have n1 := blk_cell HR4.out 1; simp at n1; have n2 := blk_cell HR4.out 2; simp at n2; have n3 := blk_cell HR4.out 3; simp at n3; have n4 := blk_cell HR4.out 4; simp at n4; have n5 := blk_cell HR4.out 5; simp at n5) | (go_at_call 57; (with_reducible refine (waymarklaw03_same.calls 0 0 0 0 1 0 0 0 0 1 true _ HSj.out).mono ?_); rintro e w3 ⟨rfl, hbx⟩; have HN5 := Aside0.mk (blk_below HN4.out hbx); have HB5 := Aside0.mk (HB4.out.trans (hbx.mono HB4.out.size)); clear hbx))
      go_roundw
      case rel => exact ⟨6, by omega, rfl, HN5, HB5⟩
      case measure => simp [intOf]
    · have HS1 := Aside0.mk (show (wr.alloc (.cells textsRow 9 (0, 0))).heap[wr.heap.size]? = some (.cells textsRow 9 (0, 0)) from blk_new _ _)
      have HSb := Aside0.mk (hb.out.alloc hb.out.size (.cells textsRow 9 (0, 0)))
      go_wp2
      obtain ⟨wo, hwo⟩ : ∃ wo : World, wo = wr := ⟨_, rfl⟩
      subst hwo
      go_loopw [79] (fun i wr => ∃ j : Nat, (j = 0 ∨ j = 1 ∨ j = 2 ∨ j = 3 ∨ j = 4) ∧ i = .int .i64 (j : Int) ∧ Aside0 (wr.heap[wo.heap.size]? = some (.cells textsRow 9 (0, 0))) ∧ Aside0 (Below w.heap.size w wr)) (fun i wr => 4 - (intOf i).toNat)
      case atStart => exact ⟨0, .inl rfl, rfl, HS1, HSb⟩
      case round =>
        obtain ⟨j, hj, rfl, hs, hb⟩ := hrel
        clear HS1 HSb
        rcases hj with rfl | rfl | rfl | rfl | rfl
        · have HPj := Aside0.mk (show header_Parse.f k (⟨#[49, 48, 46, 48, 46, 48, 46, 49, 58, 48, 49, 48, 50, 52, 32, 49, 48, 46, 48, 46, 48, 46, 50, 58, 56, 48, 32, 54]⟩ : ByteArray) = some (0, 0, 0, 0, 0, 4) from AP.out 0)
          have HO5 := Aside0.mk (show (#[.int .u32 0, .int .u32 0, .int .u8 0, .int .u16 0, .int .u16 0] : Array Value).all (·.oneCell') = true from by simp [Value.oneCell'])
          have c0 := blk_cell hs.out 0
          rw [show textsRow[0]? = some (.string (⟨#[49, 48, 46, 48, 46, 48, 46, 49, 58, 48, 49, 48, 50, 52, 32, 49, 48, 46, 48, 46, 48, 46, 50, 58, 56, 48, 32, 54]⟩ : ByteArray)) from rfl] at c0
          go_wp2_with (first | (go_at_call 55; refine (header_Parse.calls k (⟨#[49, 48, 46, 48, 46, 48, 46, 49, 58, 48, 49, 48, 50, 52, 32, 49, 48, 46, 48, 46, 48, 46, 50, 58, 56, 48, 32, 54]⟩ : ByteArray) 0 0 0 0 0 4 _ (Go.Proofs.YtbnihnggljagnaaDoor.WorldA.GW.below HG.out hb.out) HPj.out).mono ?_; rintro e w2 ⟨rfl, hbx⟩; have HS2 := Aside0.mk (blk_below hs.out hbx); have HB2 := Aside0.mk (hb.out.trans (hbx.mono hb.out.size)); clear hbx) | (refine wpList_store_row rfl 91 _ _ rfl w2.heap.size #[.int .u32 0, .int .u32 0, .int .u8 0, .int .u16 0, .int .u16 0] rfl rfl 91 #[.int .u32 0, .int .u32 0, .int .u8 0, .int .u16 0, .int .u16 0] (blk_new w2 _) HI.out rfl HO5.out ?_; have HS3 := Aside0.mk ((setRow_other (w2.alloc (.cells #[.int .u32 0, .int .u32 0, .int .u8 0, .int .u16 0, .int .u16 0] 91 (0, 0))) w2.heap.size wo.heap.size #[.int .u32 0, .int .u32 0, .int .u8 0, .int .u16 0, .int .u16 0] (by have := blk_lt HS2.out; omega)).trans (blk_alloc HS2.out _)); have HB3 := Aside0.mk (below_setRow (HB2.out.alloc HB2.out.size (.cells #[.int .u32 0, .int .u32 0, .int .u8 0, .int .u16 0, .int .u16 0] 91 (0, 0))) HB2.out.size #[.int .u32 0, .int .u32 0, .int .u8 0, .int .u16 0, .int .u16 0])))
          refine ⟨?_, by simp [intOf]⟩
          (repeat apply Exists.intro)
          exact ⟨⟨1, by omega, rfl, HS3, HB3⟩, rfl⟩
        · have HPj := Aside0.mk (show header_Parse.f k (⟨#[49, 48, 46, 48, 46, 48, 46, 49, 58, 49, 48, 50, 52, 32, 49, 48, 46, 48, 46, 48, 46, 50, 58, 56, 48, 32, 48, 54]⟩ : ByteArray) = some (0, 0, 0, 0, 0, 4) from AP.out 1)
          have HO5 := Aside0.mk (show (#[.int .u32 0, .int .u32 0, .int .u8 0, .int .u16 0, .int .u16 0] : Array Value).all (·.oneCell') = true from by simp [Value.oneCell'])
          have c0 := blk_cell hs.out 1
          rw [show textsRow[1]? = some (.string (⟨#[49, 48, 46, 48, 46, 48, 46, 49, 58, 49, 48, 50, 52, 32, 49, 48, 46, 48, 46, 48, 46, 50, 58, 56, 48, 32, 48, 54]⟩ : ByteArray)) from rfl] at c0
          go_wp2_with (first | (go_at_call 55; refine (header_Parse.calls k (⟨#[49, 48, 46, 48, 46, 48, 46, 49, 58, 49, 48, 50, 52, 32, 49, 48, 46, 48, 46, 48, 46, 50, 58, 56, 48, 32, 48, 54]⟩ : ByteArray) 0 0 0 0 0 4 _ (Go.Proofs.YtbnihnggljagnaaDoor.WorldA.GW.below HG.out hb.out) HPj.out).mono ?_; rintro e w2 ⟨rfl, hbx⟩; have HS2 := Aside0.mk (blk_below hs.out hbx); have HB2 := Aside0.mk (hb.out.trans (hbx.mono hb.out.size)); clear hbx) | (refine wpList_store_row rfl 91 _ _ rfl w2.heap.size #[.int .u32 0, .int .u32 0, .int .u8 0, .int .u16 0, .int .u16 0] rfl rfl 91 #[.int .u32 0, .int .u32 0, .int .u8 0, .int .u16 0, .int .u16 0] (blk_new w2 _) HI.out rfl HO5.out ?_; have HS3 := Aside0.mk ((setRow_other (w2.alloc (.cells #[.int .u32 0, .int .u32 0, .int .u8 0, .int .u16 0, .int .u16 0] 91 (0, 0))) w2.heap.size wo.heap.size #[.int .u32 0, .int .u32 0, .int .u8 0, .int .u16 0, .int .u16 0] (by have := blk_lt HS2.out; omega)).trans (blk_alloc HS2.out _)); have HB3 := Aside0.mk (below_setRow (HB2.out.alloc HB2.out.size (.cells #[.int .u32 0, .int .u32 0, .int .u8 0, .int .u16 0, .int .u16 0] 91 (0, 0))) HB2.out.size #[.int .u32 0, .int .u32 0, .int .u8 0, .int .u16 0, .int .u16 0])))
          refine ⟨?_, by simp [intOf]⟩
          (repeat apply Exists.intro)
          exact ⟨⟨2, by omega, rfl, HS3, HB3⟩, rfl⟩
        · have HPj := Aside0.mk (show header_Parse.f k (⟨#[49, 48, 46, 48, 46, 48, 46, 49, 58, 49, 48, 50, 52, 32, 32, 49, 48, 46, 48, 46, 48, 46, 50, 58, 56, 48, 32, 54]⟩ : ByteArray) = some (0, 0, 0, 0, 0, 4) from AP.out 2)
          have HO5 := Aside0.mk (show (#[.int .u32 0, .int .u32 0, .int .u8 0, .int .u16 0, .int .u16 0] : Array Value).all (·.oneCell') = true from by simp [Value.oneCell'])
          have c0 := blk_cell hs.out 2
          rw [show textsRow[2]? = some (.string (⟨#[49, 48, 46, 48, 46, 48, 46, 49, 58, 49, 48, 50, 52, 32, 32, 49, 48, 46, 48, 46, 48, 46, 50, 58, 56, 48, 32, 54]⟩ : ByteArray)) from rfl] at c0
          go_wp2_with (first | (go_at_call 55; refine (header_Parse.calls k (⟨#[49, 48, 46, 48, 46, 48, 46, 49, 58, 49, 48, 50, 52, 32, 32, 49, 48, 46, 48, 46, 48, 46, 50, 58, 56, 48, 32, 54]⟩ : ByteArray) 0 0 0 0 0 4 _ (Go.Proofs.YtbnihnggljagnaaDoor.WorldA.GW.below HG.out hb.out) HPj.out).mono ?_; rintro e w2 ⟨rfl, hbx⟩; have HS2 := Aside0.mk (blk_below hs.out hbx); have HB2 := Aside0.mk (hb.out.trans (hbx.mono hb.out.size)); clear hbx) | (refine wpList_store_row rfl 91 _ _ rfl w2.heap.size #[.int .u32 0, .int .u32 0, .int .u8 0, .int .u16 0, .int .u16 0] rfl rfl 91 #[.int .u32 0, .int .u32 0, .int .u8 0, .int .u16 0, .int .u16 0] (blk_new w2 _) HI.out rfl HO5.out ?_; have HS3 := Aside0.mk ((setRow_other (w2.alloc (.cells #[.int .u32 0, .int .u32 0, .int .u8 0, .int .u16 0, .int .u16 0] 91 (0, 0))) w2.heap.size wo.heap.size #[.int .u32 0, .int .u32 0, .int .u8 0, .int .u16 0, .int .u16 0] (by have := blk_lt HS2.out; omega)).trans (blk_alloc HS2.out _)); have HB3 := Aside0.mk (below_setRow (HB2.out.alloc HB2.out.size (.cells #[.int .u32 0, .int .u32 0, .int .u8 0, .int .u16 0, .int .u16 0] 91 (0, 0))) HB2.out.size #[.int .u32 0, .int .u32 0, .int .u8 0, .int .u16 0, .int .u16 0])))
          refine ⟨?_, by simp [intOf]⟩
          (repeat apply Exists.intro)
          exact ⟨⟨3, by omega, rfl, HS3, HB3⟩, rfl⟩
        · have HPj := Aside0.mk (show header_Parse.f k (⟨#[49, 48, 46, 48, 46, 48, 46, 49, 58, 43, 49, 32, 49, 48, 46, 48, 46, 48, 46, 50, 58, 56, 48, 32, 54]⟩ : ByteArray) = some (0, 0, 0, 0, 0, 4) from AP.out 3)
          have HO5 := Aside0.mk (show (#[.int .u32 0, .int .u32 0, .int .u8 0, .int .u16 0, .int .u16 0] : Array Value).all (·.oneCell') = true from by simp [Value.oneCell'])
          have c0 := blk_cell hs.out 3
          rw [show textsRow[3]? = some (.string (⟨#[49, 48, 46, 48, 46, 48, 46, 49, 58, 43, 49, 32, 49, 48, 46, 48, 46, 48, 46, 50, 58, 56, 48, 32, 54]⟩ : ByteArray)) from rfl] at c0
          go_wp2_with (first | (go_at_call 55; refine (header_Parse.calls k (⟨#[49, 48, 46, 48, 46, 48, 46, 49, 58, 43, 49, 32, 49, 48, 46, 48, 46, 48, 46, 50, 58, 56, 48, 32, 54]⟩ : ByteArray) 0 0 0 0 0 4 _ (Go.Proofs.YtbnihnggljagnaaDoor.WorldA.GW.below HG.out hb.out) HPj.out).mono ?_; rintro e w2 ⟨rfl, hbx⟩; have HS2 := Aside0.mk (blk_below hs.out hbx); have HB2 := Aside0.mk (hb.out.trans (hbx.mono hb.out.size)); clear hbx) | (refine wpList_store_row rfl 91 _ _ rfl w2.heap.size #[.int .u32 0, .int .u32 0, .int .u8 0, .int .u16 0, .int .u16 0] rfl rfl 91 #[.int .u32 0, .int .u32 0, .int .u8 0, .int .u16 0, .int .u16 0] (blk_new w2 _) HI.out rfl HO5.out ?_; have HS3 := Aside0.mk ((setRow_other (w2.alloc (.cells #[.int .u32 0, .int .u32 0, .int .u8 0, .int .u16 0, .int .u16 0] 91 (0, 0))) w2.heap.size wo.heap.size #[.int .u32 0, .int .u32 0, .int .u8 0, .int .u16 0, .int .u16 0] (by have := blk_lt HS2.out; omega)).trans (blk_alloc HS2.out _)); have HB3 := Aside0.mk (below_setRow (HB2.out.alloc HB2.out.size (.cells #[.int .u32 0, .int .u32 0, .int .u8 0, .int .u16 0, .int .u16 0] 91 (0, 0))) HB2.out.size #[.int .u32 0, .int .u32 0, .int .u8 0, .int .u16 0, .int .u16 0])))
          refine ⟨?_, by simp [intOf]⟩
          (repeat apply Exists.intro)
          exact ⟨⟨4, by omega, rfl, HS3, HB3⟩, rfl⟩
        · have O0 := Aside0.mk (show (#[.int .u32 0, .int .u32 0, .int .u8 0, .int .u16 0, .int .u16 0] : Array Value).all (·.oneCell') = true from by simp [Value.oneCell'])
          have O1 := Aside0.mk (show (#[.int .u32 16777216, .int .u32 0, .int .u8 0, .int .u16 0, .int .u16 0] : Array Value).all (·.oneCell') = true from by simp [Value.oneCell'])
          have O2 := Aside0.mk (show (#[.int .u32 4294967295, .int .u32 4294967295, .int .u8 255, .int .u16 65535, .int .u16 65535] : Array Value).all (·.oneCell') = true from by simp [Value.oneCell'])
          have O3 := Aside0.mk (show (#[.int .u32 0, .int .u32 0, .int .u8 0, .int .u16 8, .int .u16 0] : Array Value).all (·.oneCell') = true from by simp [Value.oneCell'])
          have F1 := Aside0.mk (show header_Next.f 16777215 4294967295 255 65535 65535 = some (16777216, 0, 0, 0, 0, 0) from by decide +kernel)
          have F2 := Aside0.mk (show waymarklaw03_same.f 16777216 0 0 0 0 16777216 0 0 0 0 = some (true) from by decide +kernel)
          have F3 := Aside0.mk (show header_Next.f 4294967295 4294967295 255 65535 65535 = some (0, 0, 0, 0, 0, 5) from by decide +kernel)
          have F4 := Aside0.mk (show header_Bit.f 4294967295 4294967295 255 65535 65535 (-1) = some (false, 1) from by decide +kernel)
          have F5 := Aside0.mk (show header_Bit.f 4294967295 4294967295 255 65535 65535 104 = some (false, 1) from by decide +kernel)
          have F6 := Aside0.mk (show header_With.f 4294967295 4294967295 255 65535 65535 104 true = some (0, 0, 0, 0, 0, 1) from by decide +kernel)
          have F7 := Aside0.mk (show header_Next.f 0 0 0 7 65535 = some (0, 0, 0, 8, 0, 0) from by decide +kernel)
          have F8 := Aside0.mk (show waymarklaw03_same.f 0 0 0 8 0 0 0 0 8 0 = some (true) from by decide +kernel)
          go_wp2_with (first | (go_at_call 64; (with_reducible refine (header_Next.calls 16777215 4294967295 255 65535 65535 16777216 0 0 0 0 0 _ F1.out).mono ?_); rintro e w2 ⟨rfl, hbx⟩; have B2 := Aside0.mk (hb.out.trans (hbx.mono hb.out.size)); clear hbx) | (refine wpList_store_row rfl 91 _ _ rfl w2.heap.size #[.int .u32 16777216, .int .u32 0, .int .u8 0, .int .u16 0, .int .u16 0] rfl rfl 91 #[.int .u32 0, .int .u32 0, .int .u8 0, .int .u16 0, .int .u16 0] (blk_new w2 _) HI.out rfl O1.out ?_; have R3 := Aside0.mk (setRow_heap (w2.alloc (.cells #[.int .u32 0, .int .u32 0, .int .u8 0, .int .u16 0, .int .u16 0] 91 (0, 0))) w2.heap.size _ #[.int .u32 16777216, .int .u32 0, .int .u8 0, .int .u16 0, .int .u16 0] 91 (0, 0) (blk_new w2 _)); have B3 := Aside0.mk (below_setRow (B2.out.alloc B2.out.size (.cells #[.int .u32 0, .int .u32 0, .int .u8 0, .int .u16 0, .int .u16 0] 91 (0, 0))) B2.out.size #[.int .u32 16777216, .int .u32 0, .int .u8 0, .int .u16 0, .int .u16 0]); have k0 := blk_cell R3.out 0; simp at k0; have k1 := blk_cell R3.out 1; simp at k1; have k2 := blk_cell R3.out 2; simp at k2; have k3 := blk_cell R3.out 3; simp at k3; have k4 := blk_cell R3.out 4; simp at k4) | (go_at_call 57; (with_reducible refine (waymarklaw03_same.calls 16777216 0 0 0 0 16777216 0 0 0 0 true _ F2.out).mono ?_); rintro e w4 ⟨rfl, hbx⟩; have B4 := Aside0.mk (B3.out.trans (hbx.mono B3.out.size)); clear hbx) | (refine wpList_store_row rfl 91 _ _ rfl w4.heap.size #[.int .u32 4294967295, .int .u32 4294967295, .int .u8 255, .int .u16 65535, .int .u16 65535] rfl rfl 91 #[.int .u32 0, .int .u32 0, .int .u8 0, .int .u16 0, .int .u16 0] (blk_new w4 _) HI.out rfl O2.out ?_; have R5 := Aside0.mk (setRow_heap (w4.alloc (.cells #[.int .u32 0, .int .u32 0, .int .u8 0, .int .u16 0, .int .u16 0] 91 (0, 0))) w4.heap.size _ #[.int .u32 4294967295, .int .u32 4294967295, .int .u8 255, .int .u16 65535, .int .u16 65535] 91 (0, 0) (blk_new w4 _)); have B5 := Aside0.mk (below_setRow (B4.out.alloc B4.out.size (.cells #[.int .u32 0, .int .u32 0, .int .u8 0, .int .u16 0, .int .u16 0] 91 (0, 0))) B4.out.size #[.int .u32 4294967295, .int .u32 4294967295, .int .u8 255, .int .u16 65535, .int .u16 65535])) | (refine wpList_load_row rfl 91 _ rfl w4.heap.size rfl 91 #[.int .u32 4294967295, .int .u32 4294967295, .int .u8 255, .int .u16 65535, .int .u16 65535] (0, 0) _ R5.out Tryd.underlying91 rfl HI.out ?_) | (go_at_call 64; (with_reducible refine (header_Next.calls 4294967295 4294967295 255 65535 65535 0 0 0 0 0 5 _ F3.out).mono ?_); rintro e w6 ⟨rfl, hbx⟩; have R6 := Aside0.mk (blk_below R5.out hbx); have B6 := Aside0.mk (B5.out.trans (hbx.mono B5.out.size)); clear hbx) | (refine wpList_store_row rfl 91 _ _ rfl w6.heap.size #[.int .u32 0, .int .u32 0, .int .u8 0, .int .u16 0, .int .u16 0] rfl rfl 91 #[.int .u32 0, .int .u32 0, .int .u8 0, .int .u16 0, .int .u16 0] (blk_new w6 _) HI.out rfl O0.out ?_; have RX := Aside0.mk (setRow_heap (w6.alloc (.cells #[.int .u32 0, .int .u32 0, .int .u8 0, .int .u16 0, .int .u16 0] 91 (0, 0))) w6.heap.size _ #[.int .u32 0, .int .u32 0, .int .u8 0, .int .u16 0, .int .u16 0] 91 (0, 0) (blk_new w6 _)); have R7 := Aside0.mk ((setRow_other (w6.alloc (.cells #[.int .u32 0, .int .u32 0, .int .u8 0, .int .u16 0, .int .u16 0] 91 (0, 0))) w6.heap.size w4.heap.size #[.int .u32 0, .int .u32 0, .int .u8 0, .int .u16 0, .int .u16 0] (by have := blk_lt R6.out; omega)).trans (blk_alloc R6.out _)); have B7 := Aside0.mk (below_setRow (B6.out.alloc B6.out.size (.cells #[.int .u32 0, .int .u32 0, .int .u8 0, .int .u16 0, .int .u16 0] 91 (0, 0))) B6.out.size #[.int .u32 0, .int .u32 0, .int .u8 0, .int .u16 0, .int .u16 0])) | (refine wpList_load_row rfl 91 _ rfl w4.heap.size rfl 91 #[.int .u32 4294967295, .int .u32 4294967295, .int .u8 255, .int .u16 65535, .int .u16 65535] (0, 0) _ R7.out Tryd.underlying91 rfl HI.out ?_) | (go_at_call 60; (with_reducible refine (header_Bit.calls 4294967295 4294967295 255 65535 65535 (-1) false 1 _ F4.out).mono ?_); rintro e w8 ⟨rfl, hbx⟩; have R8 := Aside0.mk (blk_below R7.out hbx); have B8 := Aside0.mk (B7.out.trans (hbx.mono B7.out.size)); clear hbx) | (refine wpList_load_row rfl 91 _ rfl w4.heap.size rfl 91 #[.int .u32 4294967295, .int .u32 4294967295, .int .u8 255, .int .u16 65535, .int .u16 65535] (0, 0) _ R8.out Tryd.underlying91 rfl HI.out ?_) | (go_at_call 60; (with_reducible refine (header_Bit.calls 4294967295 4294967295 255 65535 65535 104 false 1 _ F5.out).mono ?_); rintro e w9 ⟨rfl, hbx⟩; have R9 := Aside0.mk (blk_below R8.out hbx); have B9 := Aside0.mk (B8.out.trans (hbx.mono B8.out.size)); clear hbx) | (refine wpList_load_row rfl 91 _ rfl w4.heap.size rfl 91 #[.int .u32 4294967295, .int .u32 4294967295, .int .u8 255, .int .u16 65535, .int .u16 65535] (0, 0) _ R9.out Tryd.underlying91 rfl HI.out ?_) | (go_at_call 61; (with_reducible refine (header_With.calls 4294967295 4294967295 255 65535 65535 104 true 0 0 0 0 0 1 _ F6.out).mono ?_); rintro e wa ⟨rfl, hbx⟩; have Ba := Aside0.mk (B9.out.trans (hbx.mono B9.out.size)); clear hbx) | (refine wpList_store_row rfl 91 _ _ rfl wa.heap.size #[.int .u32 0, .int .u32 0, .int .u8 0, .int .u16 0, .int .u16 0] rfl rfl 91 #[.int .u32 0, .int .u32 0, .int .u8 0, .int .u16 0, .int .u16 0] (blk_new wa _) HI.out rfl O0.out ?_; have RY := Aside0.mk (setRow_heap (wa.alloc (.cells #[.int .u32 0, .int .u32 0, .int .u8 0, .int .u16 0, .int .u16 0] 91 (0, 0))) wa.heap.size _ #[.int .u32 0, .int .u32 0, .int .u8 0, .int .u16 0, .int .u16 0] 91 (0, 0) (blk_new wa _)); have Bb := Aside0.mk (below_setRow (Ba.out.alloc Ba.out.size (.cells #[.int .u32 0, .int .u32 0, .int .u8 0, .int .u16 0, .int .u16 0] 91 (0, 0))) Ba.out.size #[.int .u32 0, .int .u32 0, .int .u8 0, .int .u16 0, .int .u16 0])) | (go_at_call 64; (with_reducible refine (header_Next.calls 0 0 0 7 65535 0 0 0 8 0 0 _ F7.out).mono ?_); rintro e wc ⟨rfl, hbx⟩; have Bc := Aside0.mk (Bb.out.trans (hbx.mono Bb.out.size)); clear hbx) | (refine wpList_store_row rfl 91 _ _ rfl wc.heap.size #[.int .u32 0, .int .u32 0, .int .u8 0, .int .u16 8, .int .u16 0] rfl rfl 91 #[.int .u32 0, .int .u32 0, .int .u8 0, .int .u16 0, .int .u16 0] (blk_new wc _) HI.out rfl O3.out ?_; have Rd := Aside0.mk (setRow_heap (wc.alloc (.cells #[.int .u32 0, .int .u32 0, .int .u8 0, .int .u16 0, .int .u16 0] 91 (0, 0))) wc.heap.size _ #[.int .u32 0, .int .u32 0, .int .u8 0, .int .u16 8, .int .u16 0] 91 (0, 0) (blk_new wc _)); have Bd := Aside0.mk (below_setRow (Bc.out.alloc Bc.out.size (.cells #[.int .u32 0, .int .u32 0, .int .u8 0, .int .u16 0, .int .u16 0] 91 (0, 0))) Bc.out.size #[.int .u32 0, .int .u32 0, .int .u8 0, .int .u16 8, .int .u16 0]); have q0 := blk_cell Rd.out 0; simp at q0; have q1 := blk_cell Rd.out 1; simp at q1; have q2 := blk_cell Rd.out 2; simp at q2; have q3 := blk_cell Rd.out 3; simp at q3; have q4 := blk_cell Rd.out 4; simp at q4) | (go_at_call 57; (with_reducible refine (waymarklaw03_same.calls 0 0 0 8 0 0 0 0 8 0 true _ F8.out).mono ?_); rintro e we ⟨rfl, hbx⟩; have Be := Aside0.mk (Bd.out.trans (hbx.mono Bd.out.size)); clear hbx))
          go_ret
          exact ⟨rfl, Be.out⟩
def isErr4 (o : Option (Int × Int × Int × Int × Int × Int)) : Bool := decide (o = some (0, 0, 0, 0, 0, 4))
def waymarklaw03_HeaderNames.f (k : Nat) : Option Bool := if waymarklaw03_works.f k = some true ∧ isErr4 (header_Parse.f k (namesText 0)) = true ∧ isErr4 (header_Parse.f k (namesText 1)) = true ∧ isErr4 (header_Parse.f k (namesText 2)) = true ∧ isErr4 (header_Parse.f k (namesText 3)) = true then some true else none
theorem waymarklaw03_HeaderNames.calls (k : Nat) (r : Bool) (w : World) (hG : Go.Proofs.YtbnihnggljagnaaDoor.WorldA.GW w) (h : waymarklaw03_HeaderNames.f k = some r) :
    Calls Tryd.prog 13 #[] w fun e w' => e = .returned (.bool r) ∧ Below w.heap.size w w' := by
  unfold waymarklaw03_HeaderNames.f at h
  by_cases c : waymarklaw03_works.f k = some true ∧ isErr4 (header_Parse.f k (namesText 0)) = true ∧ isErr4 (header_Parse.f k (namesText 1)) = true ∧ isErr4 (header_Parse.f k (namesText 2)) = true ∧ isErr4 (header_Parse.f k (namesText 3)) = true
  · rw [if_pos c] at h
    obtain rfl := Option.some.inj h
    refine names_calls k w hG c.1 (fun j => ?_)
    match j with
    | 0 => exact of_decide_eq_true c.2.1
    | 1 => exact of_decide_eq_true c.2.2.1
    | 2 => exact of_decide_eq_true c.2.2.2.1
    | j + 3 => exact of_decide_eq_true c.2.2.2.2
  · rw [if_neg c] at h; cases h


end Go.Proofs.YtbnihnggljagnaaDoor.QHeaderNames
