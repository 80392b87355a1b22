-- Written by this session's program (wip/tools/printx.py) over the kit's print; the texts marked HAND are its own. Lean checks it.
import Derived.Test.YtbnihnggljagnaaDoorQHeaderBackx0
import Derived.Test.YtbnihnggljagnaaDoorQHeaderBackx1
import Derived.Test.YtbnihnggljagnaaDoorQHeaderBackx2
namespace Go.Proofs.YtbnihnggljagnaaDoor.QHeaderBack
open Go.RowKit Go.Proofs.YtbnihnggljagnaaDoorW.PrintWords Go.Proofs.YtbnihnggljagnaaDoorW.PrintLast Go.Proofs.YtbnihnggljagnaaDoorW.PrintMore
attribute [local go_sem] max2_int min2_int max_two min_two max_three min_three max_four min_four   -- for this text's walks alone
attribute [local go_sem high] Go.Proofs.YtbnihnggljagnaaDoor.Base.ux_u32 Go.Proofs.YtbnihnggljagnaaDoor.Base.ux_u64 Go.Proofs.YtbnihnggljagnaaDoor.Base.ux_u8 Go.Proofs.YtbnihnggljagnaaDoor.Base.ux_u16
set_option linter.unusedVariables false
set_option linter.unusedSimpArgs false

/-! ### header_Bytes: function 59 -/
/-- The cells of a header's bytes, as far as the first loop has come. -/
def rowB (a0 a1 a2 a3 b0 b1 b2 b3 : Int) (k : Int) : Array Value :=
  if k = 0 then #[.int .u8 0, .int .u8 0, .int .u8 0, .int .u8 0, .int .u8 0, .int .u8 0, .int .u8 0, .int .u8 0, .int .u8 0, .int .u8 0, .int .u8 0, .int .u8 0, .int .u8 0] else if k = 1 then #[.int .u8 a0, .int .u8 0, .int .u8 0, .int .u8 0, .int .u8 b0, .int .u8 0, .int .u8 0, .int .u8 0, .int .u8 0, .int .u8 0, .int .u8 0, .int .u8 0, .int .u8 0] else if k = 2 then #[.int .u8 a0, .int .u8 a1, .int .u8 0, .int .u8 0, .int .u8 b0, .int .u8 b1, .int .u8 0, .int .u8 0, .int .u8 0, .int .u8 0, .int .u8 0, .int .u8 0, .int .u8 0] else if k = 3 then #[.int .u8 a0, .int .u8 a1, .int .u8 a2, .int .u8 0, .int .u8 b0, .int .u8 b1, .int .u8 b2, .int .u8 0, .int .u8 0, .int .u8 0, .int .u8 0, .int .u8 0, .int .u8 0] else #[.int .u8 a0, .int .u8 a1, .int .u8 a2, .int .u8 a3, .int .u8 b0, .int .u8 b1, .int .u8 b2, .int .u8 b3, .int .u8 0, .int .u8 0, .int .u8 0, .int .u8 0, .int .u8 0]
/-- The cells of a header's bytes, as far as the second loop has come. -/
def rowC (a0 a1 a2 a3 b0 b1 b2 b3 p c0 c1 d0 d1 : Int) (k : Int) : Array Value :=
  if k = 0 then #[.int .u8 a0, .int .u8 a1, .int .u8 a2, .int .u8 a3, .int .u8 b0, .int .u8 b1, .int .u8 b2, .int .u8 b3, .int .u8 p, .int .u8 0, .int .u8 0, .int .u8 0, .int .u8 0] else if k = 1 then #[.int .u8 a0, .int .u8 a1, .int .u8 a2, .int .u8 a3, .int .u8 b0, .int .u8 b1, .int .u8 b2, .int .u8 b3, .int .u8 p, .int .u8 c0, .int .u8 0, .int .u8 d0, .int .u8 0] else #[.int .u8 a0, .int .u8 a1, .int .u8 a2, .int .u8 a3, .int .u8 b0, .int .u8 b1, .int .u8 b2, .int .u8 b3, .int .u8 p, .int .u8 c0, .int .u8 c1, .int .u8 d0, .int .u8 d1]
set_option maxRecDepth 100000 in
set_option maxHeartbeats 4000000 in
theorem bytes_calls (s d p sp dp q0 q1 q2 q3 e0 e1 e2 e3 f0 f1 g0 g1 a0 a1 a2 a3 b0 b1 b2 b3 c0 c1 d0 d1 : Int) (w : World)
    (hs0 : Op.shift .shr .u32 s .i64 24 = pure (.int .u32 q0)) (ha0 : IntKind.wrap .u8 q0 = a0) (ht0 : Op.shift .shr .u32 d .i64 24 = pure (.int .u32 e0)) (hb0 : IntKind.wrap .u8 e0 = b0)
    (hs1 : Op.shift .shr .u32 s .i64 16 = pure (.int .u32 q1)) (ha1 : IntKind.wrap .u8 q1 = a1) (ht1 : Op.shift .shr .u32 d .i64 16 = pure (.int .u32 e1)) (hb1 : IntKind.wrap .u8 e1 = b1)
    (hs2 : Op.shift .shr .u32 s .i64 8 = pure (.int .u32 q2)) (ha2 : IntKind.wrap .u8 q2 = a2) (ht2 : Op.shift .shr .u32 d .i64 8 = pure (.int .u32 e2)) (hb2 : IntKind.wrap .u8 e2 = b2)
    (hs3 : Op.shift .shr .u32 s .i64 0 = pure (.int .u32 q3)) (ha3 : IntKind.wrap .u8 q3 = a3) (ht3 : Op.shift .shr .u32 d .i64 0 = pure (.int .u32 e3)) (hb3 : IntKind.wrap .u8 e3 = b3)
    (hu0 : Op.shift .shr .u16 sp .i64 8 = pure (.int .u16 f0)) (hc0 : IntKind.wrap .u8 f0 = c0) (hv0 : Op.shift .shr .u16 dp .i64 8 = pure (.int .u16 g0)) (hd0 : IntKind.wrap .u8 g0 = d0)
    (hu1 : Op.shift .shr .u16 sp .i64 0 = pure (.int .u16 f1)) (hc1 : IntKind.wrap .u8 f1 = c1) (hv1 : Op.shift .shr .u16 dp .i64 0 = pure (.int .u16 g1)) (hd1 : IntKind.wrap .u8 g1 = d1) :
    Calls Tryd.prog 59 #[.agg #[.int .u32 s, .int .u32 d, .int .u8 p, .int .u16 sp, .int .u16 dp]] w fun e w' => e = .returned (.agg #[.int .u8 a0, .int .u8 a1, .int .u8 a2, .int .u8 a3, .int .u8 b0, .int .u8 b1, .int .u8 b2, .int .u8 b3, .int .u8 p, .int .u8 c0, .int .u8 c1, .int .u8 d0, .int .u8 d1]) ∧ Below w.heap.size w w' := by
  have FA1 : w.heap.size ≠ w.heap.size + 1 + 1 := by omega
  have FA2 : w.heap.size + 1 ≠ w.heap.size + 1 + 1 := by omega
  have FA3 : w.heap.size ≤ w.heap.size + 1 + 1 := by omega
  have FB := Aside0.mk (And.intro FA1 (And.intro FA2 FA3))
  clear FA1 FA2 FA3
  go_enter Tryd.func59, Tryd.ntmps59
  go_wp2
  go_loopw [6] (fun i wr => ∃ k : Int, (k = 0 ∨ k = 1 ∨ k = 2 ∨ k = 3 ∨ k = 4) ∧ i = .int .i64 k ∧ Aside0 (wr.heap[w.heap.size + 1 + 1]? = some (.cells (rowB a0 a1 a2 a3 b0 b1 b2 b3 k) 92 (0, 0))) ∧ Aside0 (wr.heap[w.heap.size]? = some (.cells #[.int .u32 s, .int .u32 d, .int .u8 p, .int .u16 sp, .int .u16 dp] 91 (0, 0))) ∧ Aside0 (wr.heap[w.heap.size + 1]? = some (.cells #[.int .u8 0, .int .u8 0, .int .u8 0, .int .u8 0, .int .u8 0, .int .u8 0, .int .u8 0, .int .u8 0, .int .u8 0, .int .u8 0, .int .u8 0, .int .u8 0, .int .u8 0] 92 (0, 0))) ∧ Aside0 (Below w.heap.size w wr)) (fun i wr => 4 - (intOf i).toNat)
  case atStart =>
    exact ⟨0, by omega, rfl, .mk (by have h := blk_new ((w.alloc (.cells #[.int .u32 s, .int .u32 d, .int .u8 p, .int .u16 sp, .int .u16 dp] 91 (0, 0))).alloc (.cells #[.int .u8 0, .int .u8 0, .int .u8 0, .int .u8 0, .int .u8 0, .int .u8 0, .int .u8 0, .int .u8 0, .int .u8 0, .int .u8 0, .int .u8 0, .int .u8 0, .int .u8 0] 92 (0, 0))) (.cells #[.int .u8 0, .int .u8 0, .int .u8 0, .int .u8 0, .int .u8 0, .int .u8 0, .int .u8 0, .int .u8 0, .int .u8 0, .int .u8 0, .int .u8 0, .int .u8 0, .int .u8 0] 92 (0, 0)); simpa [rowB, Nat.add_assoc] using h), .mk (blk_alloc (blk_alloc (blk_new _ _) _) _), .mk (by have h := blk_alloc (blk_new (w.alloc (.cells #[.int .u32 s, .int .u32 d, .int .u8 p, .int .u16 sp, .int .u16 dp] 91 (0, 0))) (.cells #[.int .u8 0, .int .u8 0, .int .u8 0, .int .u8 0, .int .u8 0, .int .u8 0, .int .u8 0, .int .u8 0, .int .u8 0, .int .u8 0, .int .u8 0, .int .u8 0, .int .u8 0] 92 (0, 0))) (.cells #[.int .u8 0, .int .u8 0, .int .u8 0, .int .u8 0, .int .u8 0, .int .u8 0, .int .u8 0, .int .u8 0, .int .u8 0, .int .u8 0, .int .u8 0, .int .u8 0, .int .u8 0] 92 (0, 0)); simpa using h), .mk (((Below.refl _ w).alloc (Nat.le_refl _) _).alloc (by simp) _ |>.alloc (by simp; omega) _)⟩
  case round =>
    obtain ⟨k, hk, rfl, hc, hh, hr, hb⟩ := hrel
    rcases hk with rfl | rfl | rfl | rfl | rfl
    · clear hs1 ha1 ht1 hb1 hs2 ha2 ht2 hb2 hs3 ha3 ht3 hb3 hu0 hc0 hv0 hd0 hu1 hc1 hv1 hd1
      have HC := hc.out
      clear hc
      rw [show rowB a0 a1 a2 a3 b0 b1 b2 b3 0 = #[.int .u8 0, .int .u8 0, .int .u8 0, .int .u8 0, .int .u8 0, .int .u8 0, .int .u8 0, .int .u8 0, .int .u8 0, .int .u8 0, .int .u8 0, .int .u8 0, .int .u8 0] from rfl] at HC
      have x0 := blk_frozen HC 0
      have x1 := blk_frozen HC 4
      have x2 := blk_cell HC 0
      have x3 := blk_cell HC 4
      have y0 := blk_cell hh.out 0
      have y1 := blk_cell hh.out 1
      have HD := Aside0.mk HC
      clear HC
      simp at x2 x3 y0 y1
      go_wp2
      go_region
      all_goals go_wp2
      all_goals obtain ⟨FA1, FA2, FA3⟩ := FB.out
      all_goals exact ⟨⟨1, by omega, rfl, .mk (blk_drew (blk_set (blk_set HD.out 0 _) 4 _)), .mk (blk_drew (blk_far (blk_far hh.out FA1 _) FA1 _)), .mk (blk_drew (blk_far (blk_far hr.out FA2 _) FA2 _)), .mk (below_drew ((hb.out.setCell FA3 _).setCell FA3 _))⟩, by decide⟩
    · clear hs0 ha0 ht0 hb0 hs2 ha2 ht2 hb2 hs3 ha3 ht3 hb3 hu0 hc0 hv0 hd0 hu1 hc1 hv1 hd1
      have HC := hc.out
      clear hc
      rw [show rowB a0 a1 a2 a3 b0 b1 b2 b3 1 = #[.int .u8 a0, .int .u8 0, .int .u8 0, .int .u8 0, .int .u8 b0, .int .u8 0, .int .u8 0, .int .u8 0, .int .u8 0, .int .u8 0, .int .u8 0, .int .u8 0, .int .u8 0] from rfl] at HC
      have x0 := blk_frozen HC 1
      have x1 := blk_frozen HC 5
      have x2 := blk_cell HC 1
      have x3 := blk_cell HC 5
      have y0 := blk_cell hh.out 0
      have y1 := blk_cell hh.out 1
      have HD := Aside0.mk HC
      clear HC
      simp at x2 x3 y0 y1
      go_wp2
      go_region
      all_goals go_wp2
      all_goals obtain ⟨FA1, FA2, FA3⟩ := FB.out
      all_goals exact ⟨⟨2, by omega, rfl, .mk (blk_drew (blk_set (blk_set HD.out 1 _) 5 _)), .mk (blk_drew (blk_far (blk_far hh.out FA1 _) FA1 _)), .mk (blk_drew (blk_far (blk_far hr.out FA2 _) FA2 _)), .mk (below_drew ((hb.out.setCell FA3 _).setCell FA3 _))⟩, by decide⟩
    · clear hs0 ha0 ht0 hb0 hs1 ha1 ht1 hb1 hs3 ha3 ht3 hb3 hu0 hc0 hv0 hd0 hu1 hc1 hv1 hd1
      have HC := hc.out
      clear hc
      rw [show rowB a0 a1 a2 a3 b0 b1 b2 b3 2 = #[.int .u8 a0, .int .u8 a1, .int .u8 0, .int .u8 0, .int .u8 b0, .int .u8 b1, .int .u8 0, .int .u8 0, .int .u8 0, .int .u8 0, .int .u8 0, .int .u8 0, .int .u8 0] from rfl] at HC
      have x0 := blk_frozen HC 2
      have x1 := blk_frozen HC 6
      have x2 := blk_cell HC 2
      have x3 := blk_cell HC 6
      have y0 := blk_cell hh.out 0
      have y1 := blk_cell hh.out 1
      have HD := Aside0.mk HC
      clear HC
      simp at x2 x3 y0 y1
      go_wp2
      go_region
      all_goals go_wp2
      all_goals obtain ⟨FA1, FA2, FA3⟩ := FB.out
      all_goals exact ⟨⟨3, by omega, rfl, .mk (blk_drew (blk_set (blk_set HD.out 2 _) 6 _)), .mk (blk_drew (blk_far (blk_far hh.out FA1 _) FA1 _)), .mk (blk_drew (blk_far (blk_far hr.out FA2 _) FA2 _)), .mk (below_drew ((hb.out.setCell FA3 _).setCell FA3 _))⟩, by decide⟩
    · clear hs0 ha0 ht0 hb0 hs1 ha1 ht1 hb1 hs2 ha2 ht2 hb2 hu0 hc0 hv0 hd0 hu1 hc1 hv1 hd1
      have HC := hc.out
      clear hc
      rw [show rowB a0 a1 a2 a3 b0 b1 b2 b3 3 = #[.int .u8 a0, .int .u8 a1, .int .u8 a2, .int .u8 0, .int .u8 b0, .int .u8 b1, .int .u8 b2, .int .u8 0, .int .u8 0, .int .u8 0, .int .u8 0, .int .u8 0, .int .u8 0] from rfl] at HC
      have x0 := blk_frozen HC 3
      have x1 := blk_frozen HC 7
      have x2 := blk_cell HC 3
      have x3 := blk_cell HC 7
      have y0 := blk_cell hh.out 0
      have y1 := blk_cell hh.out 1
      have HD := Aside0.mk HC
      clear HC
      simp at x2 x3 y0 y1
      go_wp2
      go_region
      all_goals go_wp2
      all_goals obtain ⟨FA1, FA2, FA3⟩ := FB.out
      all_goals exact ⟨⟨4, by omega, rfl, .mk (blk_drew (blk_set (blk_set HD.out 3 _) 7 _)), .mk (blk_drew (blk_far (blk_far hh.out FA1 _) FA1 _)), .mk (blk_drew (blk_far (blk_far hr.out FA2 _) FA2 _)), .mk (below_drew ((hb.out.setCell FA3 _).setCell FA3 _))⟩, by decide⟩
    · clear hs0 ha0 ht0 hb0 hs1 ha1 ht1 hb1 hs2 ha2 ht2 hb2 hs3 ha3 ht3 hb3
      have HC := hc.out
      clear hc
      rw [show rowB a0 a1 a2 a3 b0 b1 b2 b3 4 = #[.int .u8 a0, .int .u8 a1, .int .u8 a2, .int .u8 a3, .int .u8 b0, .int .u8 b1, .int .u8 b2, .int .u8 b3, .int .u8 0, .int .u8 0, .int .u8 0, .int .u8 0, .int .u8 0] from rfl] at HC
      have x0 := blk_frozen HC 8
      have x2 := blk_cell HC 8
      have y0 := blk_cell hh.out 2
      have HD := Aside0.mk HC
      clear HC
      simp at x2 y0
      go_wp2
      obtain ⟨FA1, FA2, FA3⟩ := FB.out
      have HD1 := Aside0.mk (blk_set HD.out 8 (.int .u8 p))
      have HH1 := Aside0.mk (blk_far hh.out (p := ⟨w.heap.size + 1 + 1, 8, none⟩) FA1 (.int .u8 p))
      have HR1 := Aside0.mk (blk_far hr.out (p := ⟨w.heap.size + 1 + 1, 8, none⟩) FA2 (.int .u8 p))
      have HB1 := Aside0.mk (hb.out.setCell (p := ⟨w.heap.size + 1 + 1, 8, none⟩) FA3 (.int .u8 p))
      clear FA1 FA2 FA3 hh hr hb HD x0 x2 y0
      go_loopw [32] (fun i wr => ∃ k : Int, (k = 0 ∨ k = 1 ∨ k = 2) ∧ i = .int .i64 k ∧ Aside0 (wr.heap[w.heap.size + 1 + 1]? = some (.cells (rowC a0 a1 a2 a3 b0 b1 b2 b3 p c0 c1 d0 d1 k) 92 (0, 0))) ∧ Aside0 (wr.heap[w.heap.size]? = some (.cells #[.int .u32 s, .int .u32 d, .int .u8 p, .int .u16 sp, .int .u16 dp] 91 (0, 0))) ∧ Aside0 (wr.heap[w.heap.size + 1]? = some (.cells #[.int .u8 0, .int .u8 0, .int .u8 0, .int .u8 0, .int .u8 0, .int .u8 0, .int .u8 0, .int .u8 0, .int .u8 0, .int .u8 0, .int .u8 0, .int .u8 0, .int .u8 0] 92 (0, 0))) ∧ Aside0 (Below w.heap.size w wr)) (fun i wr => 2 - (intOf i).toNat)
      case atStart =>
        exact ⟨0, by omega, rfl, .mk (by have h := HD1.out; simpa [rowC] using h), HH1, HR1, HB1⟩
      case round =>
        obtain ⟨k, hk, rfl, hc, hh, hr, hb⟩ := hrel
        rcases hk with rfl | rfl | rfl
        · clear hu1 hc1 hv1 hd1
          have HC := hc.out
          clear hc
          rw [show rowC a0 a1 a2 a3 b0 b1 b2 b3 p c0 c1 d0 d1 0 = #[.int .u8 a0, .int .u8 a1, .int .u8 a2, .int .u8 a3, .int .u8 b0, .int .u8 b1, .int .u8 b2, .int .u8 b3, .int .u8 p, .int .u8 0, .int .u8 0, .int .u8 0, .int .u8 0] from rfl] at HC
          have x0 := blk_frozen HC 9
          have x1 := blk_frozen HC 11
          have x2 := blk_cell HC 9
          have x3 := blk_cell HC 11
          have y0 := blk_cell hh.out 3
          have y1 := blk_cell hh.out 4
          have HD := Aside0.mk HC
          clear HC
          simp at x2 x3 y0 y1
          go_wp2
          go_region
          all_goals go_wp2
          all_goals obtain ⟨FA1, FA2, FA3⟩ := FB.out
          all_goals exact ⟨⟨1, by omega, rfl, .mk (blk_drew (blk_set (blk_set HD.out 9 _) 11 _)), .mk (blk_drew (blk_far (blk_far hh.out FA1 _) FA1 _)), .mk (blk_drew (blk_far (blk_far hr.out FA2 _) FA2 _)), .mk (below_drew ((hb.out.setCell FA3 _).setCell FA3 _))⟩, by decide⟩
        · clear hu0 hc0 hv0 hd0
          have HC := hc.out
          clear hc
          rw [show rowC a0 a1 a2 a3 b0 b1 b2 b3 p c0 c1 d0 d1 1 = #[.int .u8 a0, .int .u8 a1, .int .u8 a2, .int .u8 a3, .int .u8 b0, .int .u8 b1, .int .u8 b2, .int .u8 b3, .int .u8 p, .int .u8 c0, .int .u8 0, .int .u8 d0, .int .u8 0] from rfl] at HC
          have x0 := blk_frozen HC 10
          have x1 := blk_frozen HC 12
          have x2 := blk_cell HC 10
          have x3 := blk_cell HC 12
          have y0 := blk_cell hh.out 3
          have y1 := blk_cell hh.out 4
          have HD := Aside0.mk HC
          clear HC
          simp at x2 x3 y0 y1
          go_wp2
          go_region
          all_goals go_wp2
          all_goals obtain ⟨FA1, FA2, FA3⟩ := FB.out
          all_goals exact ⟨⟨2, by omega, rfl, .mk (blk_drew (blk_set (blk_set HD.out 10 _) 12 _)), .mk (blk_drew (blk_far (blk_far hh.out FA1 _) FA1 _)), .mk (blk_drew (blk_far (blk_far hr.out FA2 _) FA2 _)), .mk (below_drew ((hb.out.setCell FA3 _).setCell FA3 _))⟩, by decide⟩
        · have HC := hc.out
          clear hc
          rw [show rowC a0 a1 a2 a3 b0 b1 b2 b3 p c0 c1 d0 d1 2 = #[.int .u8 a0, .int .u8 a1, .int .u8 a2, .int .u8 a3, .int .u8 b0, .int .u8 b1, .int .u8 b2, .int .u8 b3, .int .u8 p, .int .u8 c0, .int .u8 c1, .int .u8 d0, .int .u8 d1] from rfl] at HC
          have z0 := blk_cell HC 0
          have v0 := blk_frozen hr.out 0
          simp at z0
          have z1 := blk_cell HC 1
          have v1 := blk_frozen hr.out 1
          simp at z1
          have z2 := blk_cell HC 2
          have v2 := blk_frozen hr.out 2
          simp at z2
          have z3 := blk_cell HC 3
          have v3 := blk_frozen hr.out 3
          simp at z3
          have z4 := blk_cell HC 4
          have v4 := blk_frozen hr.out 4
          simp at z4
          have z5 := blk_cell HC 5
          have v5 := blk_frozen hr.out 5
          simp at z5
          have z6 := blk_cell HC 6
          have v6 := blk_frozen hr.out 6
          simp at z6
          have z7 := blk_cell HC 7
          have v7 := blk_frozen hr.out 7
          simp at z7
          have z8 := blk_cell HC 8
          have v8 := blk_frozen hr.out 8
          simp at z8
          have z9 := blk_cell HC 9
          have v9 := blk_frozen hr.out 9
          simp at z9
          have z10 := blk_cell HC 10
          have v10 := blk_frozen hr.out 10
          simp at z10
          have z11 := blk_cell HC 11
          have v11 := blk_frozen hr.out 11
          simp at z11
          have z12 := blk_cell HC 12
          have v12 := blk_frozen hr.out 12
          simp at z12
          have HD := Aside0.mk HC
          clear HC
          clear hu0 hc0 hv0 hd0 hu1 hc1 hv1 hd1
          have HI := Aside0.mk (show (Tryd.prog.info? 92).map (·.size) = some 13 from by kernel_rfl)
          have HO := Aside0.mk (show (#[.int .u8 a0, .int .u8 a1, .int .u8 a2, .int .u8 a3, .int .u8 b0, .int .u8 b1, .int .u8 b2, .int .u8 b3, .int .u8 p, .int .u8 c0, .int .u8 c1, .int .u8 d0, .int .u8 d1] : Array Value).all (·.oneCell') = true from by simp [Value.oneCell'])
          go_wp2_with (refine wpList_store_row rfl 92 _ _ rfl (w.heap.size + 1) #[.int .u8 a0, .int .u8 a1, .int .u8 a2, .int .u8 a3, .int .u8 b0, .int .u8 b1, .int .u8 b2, .int .u8 b3, .int .u8 p, .int .u8 c0, .int .u8 c1, .int .u8 d0, .int .u8 d1] rfl rfl 92 #[.int .u8 0, .int .u8 0, .int .u8 0, .int .u8 0, .int .u8 0, .int .u8 0, .int .u8 0, .int .u8 0, .int .u8 0, .int .u8 0, .int .u8 0, .int .u8 0, .int .u8 0] hr.out HI.out rfl HO.out ?_)
          have hq := setRow_heap wr (w.heap.size + 1) _ #[.int .u8 a0, .int .u8 a1, .int .u8 a2, .int .u8 a3, .int .u8 b0, .int .u8 b1, .int .u8 b2, .int .u8 b3, .int .u8 p, .int .u8 c0, .int .u8 c1, .int .u8 d0, .int .u8 d1] 92 (0, 0) hr.out
          have HQ := Aside0.mk hq
          have k0 := blk_cell hq 0
          simp at k0
          have k1 := blk_cell hq 1
          simp at k1
          have k2 := blk_cell hq 2
          simp at k2
          have k3 := blk_cell hq 3
          simp at k3
          have k4 := blk_cell hq 4
          simp at k4
          have k5 := blk_cell hq 5
          simp at k5
          have k6 := blk_cell hq 6
          simp at k6
          have k7 := blk_cell hq 7
          simp at k7
          have k8 := blk_cell hq 8
          simp at k8
          have k9 := blk_cell hq 9
          simp at k9
          have k10 := blk_cell hq 10
          simp at k10
          have k11 := blk_cell hq 11
          simp at k11
          have k12 := blk_cell hq 12
          simp at k12
          clear hq
          (try simp only [Exit.inBlock, Exit.then])
          refine bodyPost_ret (v := .agg #[.int .u8 a0, .int .u8 a1, .int .u8 a2, .int .u8 a3, .int .u8 b0, .int .u8 b1, .int .u8 b2, .int .u8 b3, .int .u8 p, .int .u8 c0, .int .u8 c1, .int .u8 d0, .int .u8 d1]) ?_ rfl ⟨rfl, below_setRow hb.out (by omega) _⟩
          unfold results
          go_simp
/-- A header's bytes, as cells. -/
def bytesV (s d p sp dp : Int) : Array Value := #[.int .u8 (s / 16777216 % 256), .int .u8 (s / 65536 % 256), .int .u8 (s / 256 % 256), .int .u8 (s % 256), .int .u8 (d / 16777216 % 256), .int .u8 (d / 65536 % 256), .int .u8 (d / 256 % 256), .int .u8 (d % 256), .int .u8 p, .int .u8 (sp / 256 % 256), .int .u8 (sp % 256), .int .u8 (dp / 256 % 256), .int .u8 (dp % 256)]
theorem shr0 (k : IntKind) (x : Int) : Op.shift .shr k x .i64 0 = pure (.int k x) := by
  have h := shift_shr k .i64 x 0 (by decide) (by cases k <;> decide)
  rw [show (2 : Int) ^ (0 : Int).toNat = 1 from rfl, Int.ediv_one] at h
  exact h
theorem header_Bytes.calls (s d p sp dp : Int) (w : World) :
    Calls Tryd.prog 59 #[.agg #[.int .u32 s, .int .u32 d, .int .u8 p, .int .u16 sp, .int .u16 dp]] w fun e w' => e = .returned (.agg (bytesV s d p sp dp)) ∧ Below w.heap.size w w' :=
  bytes_calls s d p sp dp (s / 16777216) (s / 65536) (s / 256) s (d / 16777216) (d / 65536) (d / 256) d (sp / 256) sp (dp / 256) dp _ _ _ _ _ _ _ _ _ _ _ _ w
    (shift_shr .u32 .i64 s 24 (by decide) (by decide)) (IntKind.wrap_u8 _) (shift_shr .u32 .i64 d 24 (by decide) (by decide)) (IntKind.wrap_u8 _)
    (shift_shr .u32 .i64 s 16 (by decide) (by decide)) (IntKind.wrap_u8 _) (shift_shr .u32 .i64 d 16 (by decide) (by decide)) (IntKind.wrap_u8 _)
    (shift_shr .u32 .i64 s 8 (by decide) (by decide)) (IntKind.wrap_u8 _) (shift_shr .u32 .i64 d 8 (by decide) (by decide)) (IntKind.wrap_u8 _)
    (shr0 .u32 s) (IntKind.wrap_u8 _) (shr0 .u32 d) (IntKind.wrap_u8 _)
    (shift_shr .u16 .i64 sp 8 (by decide) (by decide)) (IntKind.wrap_u8 _) (shift_shr .u16 .i64 dp 8 (by decide) (by decide)) (IntKind.wrap_u8 _)
    (shr0 .u16 sp) (IntKind.wrap_u8 _) (shr0 .u16 dp) (IntKind.wrap_u8 _)


/-! ### header_Bit: function 60 -/
set_option maxRecDepth 100000 in
set_option maxHeartbeats 4000000 in
theorem bit_in (s d p sp dp i : Int) (j m v q z : Int) (w : World) (h0 : decide (i < 0) = false) (h1 : decide (i ≥ 104) = false) (h2 : decide (104 ≤ i) = false)
    (hj : Aside0 (0 ≤ j ∧ j ≤ 12)) (hq : Int.tdiv i 8 = j) (hm : Int.tmod i 8 = m) (hw7 : wrap64 (7 - m) = 7 - m) (hm1 : Aside0 (0 ≤ m ∧ m ≤ 7)) (hv : Aside0 ((bytesV s d p sp dp)[j.toNat]? = some (.int .u8 v)))
    (hs : Op.shift .shr .u8 v .i64 (7 - m) = pure (.int .u8 q)) (ha : bits .and .u8 q 1 = z) :
    Calls Tryd.prog 60 #[.agg #[.int .u32 s, .int .u32 d, .int .u8 p, .int .u16 sp, .int .u16 dp], .int .i64 i] w fun e w' => e = .returned (.tuple #[.bool (z == 1), .int .i64 0]) ∧ Below w.heap.size w w' := by
  have HI := Aside0.mk (show (Tryd.prog.info? 92).map (·.size) = some 13 from by kernel_rfl)
  have HO := Aside0.mk (show (bytesV s d p sp dp).all (·.oneCell') = true from by simp [bytesV, Value.oneCell'])
  go_enter Tryd.func60, Tryd.ntmps60
  obtain ⟨hj1, hj2⟩ := hj.out
  go_wp2_with (first | (go_at_call 59; refine (header_Bytes.calls s d p sp dp _).mono ?_; rintro e w1 ⟨rfl, hbx⟩; have HB := Aside0.mk hbx; clear hbx) | (refine wpList_store_row rfl 92 _ _ rfl w1.heap.size (bytesV s d p sp dp) rfl rfl 92 #[.int .u8 0, .int .u8 0, .int .u8 0, .int .u8 0, .int .u8 0, .int .u8 0, .int .u8 0, .int .u8 0, .int .u8 0, .int .u8 0, .int .u8 0, .int .u8 0, .int .u8 0] (blk_new w1 _) HI.out rfl HO.out ?_; have hcell := (cell_setRow_same (w1.alloc (.cells #[.int .u8 0, .int .u8 0, .int .u8 0, .int .u8 0, .int .u8 0, .int .u8 0, .int .u8 0, .int .u8 0, .int .u8 0, .int .u8 0, .int .u8 0, .int .u8 0, .int .u8 0] 92 (0, 0))) w1.heap.size j.toNat _ (bytesV s d p sp dp) 92 (0, 0) (blk_new w1 _)).trans hv.out))
  all_goals go_ret2
  have hA := ((Below.refl _ w).alloc (Nat.le_refl _) (.cells #[.int .u32 s, .int .u32 d, .int .u8 p, .int .u16 sp, .int .u16 dp] 91 (0, 0))).trans (HB.out.mono (by simp))
  exact ⟨rfl, below_setRow (hA.alloc hA.size _) hA.size _⟩
set_option maxRecDepth 100000 in
theorem bit_out (s d p sp dp i : Int) (w : World) (h : i < 0 ∨ 104 ≤ i) :
    Calls Tryd.prog 60 #[.agg #[.int .u32 s, .int .u32 d, .int .u8 p, .int .u16 sp, .int .u16 dp], .int .i64 i] w fun e w' => e = .returned (.tuple #[.bool false, .int .i64 1]) ∧ Below w.heap.size w w' := by
  have HH := Aside0.mk h
  clear h
  by_cases h0 : i < 0
  · have h0b := decide_eq_true h0
    go_enter Tryd.func60, Tryd.ntmps60
    go_wp2
    all_goals first | (exfalso; omega) | (go_ret2; exact ⟨rfl, (Below.refl _ w).alloc (Nat.le_refl _) _⟩)
  · have h0b := decide_eq_false h0
    have h1 : 104 ≤ i := by have := HH.out; omega
    have h1b := decide_eq_true h1
    go_enter Tryd.func60, Tryd.ntmps60
    go_wp2_with (fail)
    all_goals first | (exfalso; omega) | (go_ret2; exact ⟨rfl, (Below.refl _ w).alloc (Nat.le_refl _) _⟩)
open Go.Proofs.YtbnihnggljagnaaDoor.HdrMath
theorem byteN_cell (s d p sp dp : Int) (n : Nat) (h : n ≤ 12) : (bytesV s d p sp dp)[n]? = some (.int .u8 (byteN s d p sp dp n)) := by
  match n, h with
  | 0, _ => rfl | 1, _ => rfl | 2, _ => rfl | 3, _ => rfl | 4, _ => rfl | 5, _ => rfl | 6, _ => rfl | 7, _ => rfl | 8, _ => rfl | 9, _ => rfl | 10, _ => rfl | 11, _ => rfl | 12, _ => rfl
  | n + 13, h => exact absurd h (by omega)
theorem wr_u8b (n : Int) (h₀ : 0 ≤ n) (h₁ : n < 2 ^ 8) : IntKind.u8.wrap n = n := by
  rw [IntKind.wrap_u8]
  have : (2 : Int) ^ 8 = 256 := by decide
  omega
def header_Bit.f (s d p sp dp i : Int) : Option (Bool × Int) :=
  if i < 0 ∨ 104 ≤ i then some (false, 1) else if 0 ≤ p ∧ p ≤ 255 then some (byteN s d p sp dp (i / 8).toNat / 2 ^ (7 - i % 8).toNat % 2 == 1, 0) else none
theorem header_Bit.calls (s d p sp dp i : Int) (r1 : Bool) (r2 : Int) (w : World) (h : header_Bit.f s d p sp dp i = some (r1, r2)) :
    Calls Tryd.prog 60 #[.agg #[.int .u32 s, .int .u32 d, .int .u8 p, .int .u16 sp, .int .u16 dp], .int .i64 i] w fun e w' => e = .returned (.tuple #[.bool r1, .int .i64 r2]) ∧ Below w.heap.size w w' := by
  unfold header_Bit.f at h
  by_cases h0 : i < 0 ∨ 104 ≤ i
  · rw [if_pos h0] at h
    obtain ⟨rfl, rfl⟩ := Prod.mk.inj (Option.some.inj h)
    exact bit_out s d p sp dp i w h0
  · rw [if_neg h0] at h
    by_cases hp : 0 ≤ p ∧ p ≤ 255
    · rw [if_pos hp] at h
      obtain ⟨rfl, rfl⟩ := Prod.mk.inj (Option.some.inj h)
      have hb := byteN_range s d p sp dp hp (i / 8).toNat
      have h1 : 0 ≤ i / 8 ∧ i / 8 ≤ 12 := by omega
      have h2 : 0 ≤ i % 8 ∧ i % 8 ≤ 7 := by omega
      have hd : 0 ≤ byteN s d p sp dp (i / 8).toNat / 2 ^ (7 - i % 8).toNat := Int.ediv_nonneg hb.1 (Int.le_of_lt (Int.pow_pos (by decide)))
      have hl : byteN s d p sp dp (i / 8).toNat / 2 ^ (7 - i % 8).toNat ≤ byteN s d p sp dp (i / 8).toNat := Int.ediv_le_self _ hb.1
      have e8 : (2 : Int) ^ 8 = 256 := by decide
      exact bit_in s d p sp dp i (i / 8) (i % 8) _ _ _ w (decide_eq_false (by omega)) (decide_eq_false (by omega)) (decide_eq_false (by omega)) (.mk h1)
        (Int.tdiv_eq_ediv_of_nonneg (by omega)) (Int.tmod_eq_emod_of_nonneg (by omega)) (IntWalk.wrap64_in _ ⟨by omega, by omega⟩) (.mk h2) (.mk (byteN_cell s d p sp dp _ (by omega)))
        (shift_shr .u8 .i64 _ (7 - i % 8) (by omega) (by show 7 - i % 8 ≤ 8; omega))
        (bits_mask .u8 8 (by decide) wr_u8b 1 (by decide) _ hd (by rw [e8]; omega))
    · rw [if_neg hp] at h; cases h


/-! ### waymarklaw03_works: function 54 -/
open Go.Proofs.YtbnihnggljagnaaDoor.HdrMath
theorem run_load_row {P : Program} {o : Oper} {a : Act} {w : World} (ty : TypeId) (x : Operand) (ho : o.op = .load ty x) (g : Nat) (hx : a.eval x = .pointer (some ⟨g, 0, none⟩)) (t : TypeId) (cs : Array Value) (fr : Nat × Nat) (d : TypeDesc) (hg : w.heap[g]? = some (.cells cs t fr))
    (hu : P.underlying ty = some d) (hd : (match d with | .struct _ | .array _ _ => true | _ => false) = true) (hi : (P.info? ty).map (·.size) = some cs.size) : (execOp a.eval o).run P w = .ok (.value (.agg cs)) w := by
  unfold execOp
  simp only [ho, hx, Instr.loadAt, Instr.sureAddr, Sem.run_bind, Sem.run_pure, Result.andThen_ok, run_loadVar_row w g t ty cs fr d hg hu hd hi]
def worksTab : Bool × List (List Nat × List Nat) := (true, ([], [])::(0::[], 0::[])::(1::[], 1::[])::(2::[], 2::[])::(3::2::[], 2::3::[])::(2::4::[], 2::4::[])::(5::2::[], 5::[])::(6::[], 6::[])::(6::7::[], 6::7::[])::(8::6::[], 8::[])::(9::[], 9::[])::(10::9::[], 9::10::[])::(11::9::[], 9::11::[])::(9::12::[], 9::12::[])::(13::9::[], 13::[])::(14::[], 14::[])::(15::14::[], 14::15::[])::(16::14::[], 14::16::[])::(14::17::[], 14::17::[])::(18::14::[], 18::[])::(19::[], 19::[])::(20::19::[], 19::20::[])::(21::19::[], 19::21::[])::(19::22::[], 19::22::[])::(23::19::[], 23::[])::(24::[], 24::[])::(25::24::24::[], 24::25::[])::(26::24::[], 24::26::[])::(24::27::[], 24::27::[])::(28::26::[], 28::[])::(29::[], 29::[])::(30::29::29::[], 29::30::[])::(29::[], 29::[])::(31::32::31::29::[], 29::31::32::[])::(29::33::[], 29::33::[])::(34::33::0::1::2::3::4::5::6::7::8::9::10::11::12::13::14::15::16::17::18::19::20::21::22::23::24::25::26::27::28::29::30::31::32::33::34::[], 34::[])::[])
theorem worksTab_is : rtab .any (opsOf Tryd.f54 4) = worksTab := by kernel_rfl
theorem works_of (w : World) : Calls Tryd.prog 58 #[.agg (rowOf (byteN 167772161 167772162 6 1024 80))] w fun e w' => e = .returned (.agg #[.int .u32 167772161, .int .u32 167772162, .int .u8 6, .int .u16 1024, .int .u16 80]) ∧ Below w.heap.size w w' := by
  have h := of_row (byteN 167772161 167772162 6 1024 80) (byteN_range 167772161 167772162 6 1024 80 (by decide)) w
  rw [show ofN (byteN 167772161 167772162 6 1024 80) = (167772161, 167772162, 6, 1024, 80) from by decide +kernel] at h
  exact h
theorem works_bytes (w : World) : Calls Tryd.prog 59 #[.agg #[.int .u32 167772161, .int .u32 167772162, .int .u8 6, .int .u16 1024, .int .u16 80]] w fun e w' => e = .returned (.agg (rowOf (byteN 167772161 167772162 6 1024 80))) ∧ Below w.heap.size w w' := header_Bytes.calls 167772161 167772162 6 1024 80 w
set_option maxRecDepth 100000 in
set_option maxHeartbeats 4000000 in
theorem works_calls (k : Nat) (w : World) (hG : Go.Proofs.YtbnihnggljagnaaDoor.WorldA.GW w) (h1 : header_Parse.f k (⟨#[49, 48, 46, 48, 46, 48, 46, 49, 58, 49, 48, 50, 52, 32, 49, 48, 46, 48, 46, 48, 46, 50, 58, 56, 48, 32, 54]⟩ : ByteArray) = some (167772161, 167772162, 6, 1024, 80, 0)) (h2 : header_Text.f 167772161 167772162 6 1024 80 = some (⟨#[49, 48, 46, 48, 46, 48, 46, 49, 58, 49, 48, 50, 52, 32, 49, 48, 46, 48, 46, 48, 46, 50, 58, 56, 48, 32, 54]⟩ : ByteArray)) (h3 : waymarklaw03_same.f 167772161 167772162 6 1024 80 167772161 167772162 6 1024 80 = some true) :
    Calls Tryd.prog 54 #[] w fun e w' => e = .returned (.bool true) ∧ Below w.heap.size w w' := by
  have HG := Aside0.mk hG
  have A1 := Aside0.mk h1
  have A2 := Aside0.mk h2
  have A3 := Aside0.mk h3
  have HBit := Aside0.mk (show header_Bit.f 167772161 167772162 6 1024 80 4 = some (true, 0) from by decide +kernel)
  have HI := Aside0.mk (show (Tryd.prog.info? 91).map (·.size) = some 5 from by kernel_rfl)
  have HI3 := Aside0.mk (show (Tryd.prog.info? 92).map (·.size) = some 13 from by kernel_rfl)
  have HO := Aside0.mk (show (#[.int .u32 167772161, .int .u32 167772162, .int .u8 6, .int .u16 1024, .int .u16 80] : Array Value).all (·.oneCell') = true from by simp [Value.oneCell'])
  have HO3 := Aside0.mk (rowOf_one (byteN 167772161 167772162 6 1024 80))
  clear hG h1 h2 h3
  go_enter Tryd.func54, Tryd.ntmps54
  go_wp2_with (first | (go_at_call 55; refine (header_Parse.calls k _ 167772161 167772162 6 1024 80 0 _ HG.out A1.out).mono ?_; rintro e w1 ⟨rfl, hbx⟩; have HB1 := Aside0.mk hbx; clear hbx) | (refine wpList_store_row rfl 91 _ _ rfl w1.heap.size #[.int .u32 167772161, .int .u32 167772162, .int .u8 6, .int .u16 1024, .int .u16 80] rfl rfl 91 #[.int .u32 0, .int .u32 0, .int .u8 0, .int .u16 0, .int .u16 0] (blk_new w1 _) HI.out rfl HO.out ?_; have HH2 := Aside0.mk (setRow_heap (w1.alloc (.cells #[.int .u32 0, .int .u32 0, .int .u8 0, .int .u16 0, .int .u16 0] 91 (0, 0))) w1.heap.size _ #[.int .u32 167772161, .int .u32 167772162, .int .u8 6, .int .u16 1024, .int .u16 80] 91 (0, 0) (blk_new w1 _)); have HB2 := Aside0.mk (below_setRow (HB1.out.alloc HB1.out.size (.cells #[.int .u32 0, .int .u32 0, .int .u8 0, .int .u16 0, .int .u16 0] 91 (0, 0))) HB1.out.size #[.int .u32 167772161, .int .u32 167772162, .int .u8 6, .int .u16 1024, .int .u16 80])) | (refine wpList_load_row rfl 91 _ rfl w1.heap.size rfl 91 #[.int .u32 167772161, .int .u32 167772162, .int .u8 6, .int .u16 1024, .int .u16 80] (0, 0) _ HH4.out Tryd.underlying91 rfl HI.out ?_) | (refine wpList_load_row rfl 91 _ rfl w1.heap.size rfl 91 #[.int .u32 167772161, .int .u32 167772162, .int .u8 6, .int .u16 1024, .int .u16 80] (0, 0) _ HH2.out Tryd.underlying91 rfl HI.out ?_) | (go_at_call 59; refine (works_bytes _).mono ?_; rintro e w3 ⟨rfl, hbx⟩; have HH3 := Aside0.mk (blk_below HH2.out hbx); have HB3 := Aside0.mk (HB2.out.trans (hbx.mono HB2.out.size)); clear hbx) | (refine wpList_store_row rfl 92 _ _ rfl w3.heap.size (rowOf (byteN 167772161 167772162 6 1024 80)) rfl rfl 92 #[.int .u8 0, .int .u8 0, .int .u8 0, .int .u8 0, .int .u8 0, .int .u8 0, .int .u8 0, .int .u8 0, .int .u8 0, .int .u8 0, .int .u8 0, .int .u8 0, .int .u8 0] (blk_new w3 _) HI3.out rfl HO3.out ?_; have HR4 := Aside0.mk (setRow_heap (w3.alloc (.cells #[.int .u8 0, .int .u8 0, .int .u8 0, .int .u8 0, .int .u8 0, .int .u8 0, .int .u8 0, .int .u8 0, .int .u8 0, .int .u8 0, .int .u8 0, .int .u8 0, .int .u8 0] 92 (0, 0))) w3.heap.size _ (rowOf (byteN 167772161 167772162 6 1024 80)) 92 (0, 0) (blk_new w3 _)); have HH4 := Aside0.mk ((setRow_other (w3.alloc (.cells #[.int .u8 0, .int .u8 0, .int .u8 0, .int .u8 0, .int .u8 0, .int .u8 0, .int .u8 0, .int .u8 0, .int .u8 0, .int .u8 0, .int .u8 0, .int .u8 0, .int .u8 0] 92 (0, 0))) w3.heap.size w1.heap.size (rowOf (byteN 167772161 167772162 6 1024 80)) (by have := blk_lt HH3.out; omega)).trans (blk_alloc HH3.out (.cells #[.int .u8 0, .int .u8 0, .int .u8 0, .int .u8 0, .int .u8 0, .int .u8 0, .int .u8 0, .int .u8 0, .int .u8 0, .int .u8 0, .int .u8 0, .int .u8 0, .int .u8 0] 92 (0, 0)))); have HB4 := Aside0.mk (below_setRow (HB3.out.alloc HB3.out.size (.cells #[.int .u8 0, .int .u8 0, .int .u8 0, .int .u8 0, .int .u8 0, .int .u8 0, .int .u8 0, .int .u8 0, .int .u8 0, .int .u8 0, .int .u8 0, .int .u8 0, .int .u8 0] 92 (0, 0))) HB3.out.size (rowOf (byteN 167772161 167772162 6 1024 80)))) | (go_at_call 60; refine (header_Bit.calls 167772161 167772162 6 1024 80 4 true 0 _ HBit.out).mono ?_; rintro e w5 ⟨rfl, hbx⟩; have HH5 := Aside0.mk (blk_below HH4.out hbx); have HR5 := Aside0.mk (blk_below HR4.out hbx); have HB5 := Aside0.mk (HB4.out.trans (hbx.mono HB4.out.size)); clear hbx))
  refine start_ (n := 36) (S := fun w' => Below w5.heap.size w5 w') (ds := []) #[false, false, false, false, false, false, false, false, false, false, false, false, false, false, false, false, false, false, false, false, false, false, false, false, false, false, false, false, false, false, false, false, false, false, false, false] (by kernel_rfl) rfl rfl (below_drew1 (Below.refl _ _)) (fun hS => ?_); refine with_tab worksTab_is (fun HT_ => ?_)
  generalize w5.drew = w0 at hS ⊢
  have HS := Aside0.mk hS
  clear hS
  refine pure_ (i := 0) (N := some 17) (v := ?_) (a' := ?_) #[true, false, false, false, false, false, false, false, false, false, false, false, false, false, false, false, false, false, false, false, false, false, false, false, false, false, false, false, false, false, false, false, false, false, false, false] rfl rfl (any_of HT_.out (by kernel_rfl)) (fun _ _ _ h => h) (Or.inl ⟨by rfl, ?_⟩) ?_ ?_
  rotate_left
  · intro w'
    go_simp
    try with_reducible rfl
  rotate_left
  · simp only [Act.put, List.setIfInBounds_toArray, List.set_cons_zero, List.set_cons_succ, i64_w, i32_w]
    rfl
  refine pure_ (i := 1) (N := some 18) (v := ?_) (a' := ?_) #[true, true, false, false, false, false, false, false, false, false, false, false, false, false, false, false, false, false, false, false, false, false, false, false, false, false, false, false, false, false, false, false, false, false, false, false] rfl rfl (any_of HT_.out (by kernel_rfl)) (fun _ _ _ h => h) (Or.inl ⟨by rfl, ?_⟩) ?_ ?_
  rotate_left
  · intro w'
    go_simp
    try with_reducible rfl
  rotate_left
  · simp only [Act.put, List.setIfInBounds_toArray, List.set_cons_zero, List.set_cons_succ, i64_w, i32_w]
    rfl
  refine pure_ (i := 2) (N := some 19) (v := ?_) (a' := ?_) #[true, true, true, false, false, false, false, false, false, false, false, false, false, false, false, false, false, false, false, false, false, false, false, false, false, false, false, false, false, false, false, false, false, false, false, false] rfl rfl (any_of HT_.out (by kernel_rfl)) (fun _ _ _ h => h) (Or.inl ⟨by rfl, ?_⟩) ?_ ?_
  rotate_left
  · intro w'
    go_simp
    try with_reducible rfl
  rotate_left
  · simp only [Act.put, List.setIfInBounds_toArray, List.set_cons_zero, List.set_cons_succ, i64_w, i32_w]
    rfl
  refine pure_ (i := 3) (N := some 20) (v := ?_) (a' := ?_) #[true, true, true, true, false, false, false, false, false, false, false, false, false, false, false, false, false, false, false, false, false, false, false, false, false, false, false, false, false, false, false, false, false, false, false, false] rfl rfl (any_of HT_.out (by kernel_rfl)) (fun _ _ _ h => h) (Or.inl ⟨by rfl, ?_⟩) ?_ ?_
  rotate_left
  · intro w'
    go_simp
    try with_reducible rfl
  rotate_left
  · simp only [Act.put, List.setIfInBounds_toArray, List.set_cons_zero, List.set_cons_succ, i64_w, i32_w]
    rfl
  refine pure_ (i := 4) (N := some 21) (v := ?_) (a' := ?_) #[true, true, true, true, true, false, false, false, false, false, false, false, false, false, false, false, false, false, false, false, false, false, false, false, false, false, false, false, false, false, false, false, false, false, false, false] rfl rfl (any_of HT_.out (by kernel_rfl)) (fun _ _ _ h => h) (Or.inl ⟨by rfl, ?_⟩) ?_ ?_
  rotate_left
  · intro w'
    go_simp
    try with_reducible rfl
  rotate_left
  · simp only [Act.put, List.setIfInBounds_toArray, List.set_cons_zero, List.set_cons_succ, i64_w, i32_w]
    rfl
  refine pure_ (i := 5) (N := some 22) (v := ?_) (a' := ?_) #[true, true, true, true, true, true, false, false, false, false, false, false, false, false, false, false, false, false, false, false, false, false, false, false, false, false, false, false, false, false, false, false, false, false, false, false] rfl rfl (any_of HT_.out (by kernel_rfl)) (fun _ _ _ h => h) (Or.inl ⟨by rfl, ?_⟩) ?_ ?_
  rotate_left
  · intro w'
    go_simp
    try with_reducible rfl
  rotate_left
  · simp only [Act.put, List.setIfInBounds_toArray, List.set_cons_zero, List.set_cons_succ, i64_w, i32_w]
    rfl
  refine pure_ (i := 6) (N := some 23) (v := ?_) (a' := ?_) #[true, true, true, true, true, true, true, false, false, false, false, false, false, false, false, false, false, false, false, false, false, false, false, false, false, false, false, false, false, false, false, false, false, false, false, false] rfl rfl (any_of HT_.out (by kernel_rfl)) (fun _ _ _ h => h) (Or.inl ⟨by rfl, ?_⟩) ?_ ?_
  rotate_left
  · intro w'
    go_simp
    try with_reducible rfl
  rotate_left
  · simp only [Act.put, List.setIfInBounds_toArray, List.set_cons_zero, List.set_cons_succ, i64_w, i32_w]
    rfl
  refine pure_ (i := 7) (N := some 24) (v := ?_) (a' := ?_) #[true, true, true, true, true, true, true, true, false, false, false, false, false, false, false, false, false, false, false, false, false, false, false, false, false, false, false, false, false, false, false, false, false, false, false, false] rfl rfl (any_of HT_.out (by kernel_rfl)) (fun _ _ _ h => h) (Or.inl ⟨by rfl, ?_⟩) ?_ ?_
  rotate_left
  · intro w'
    go_simp
    try with_reducible rfl
  rotate_left
  · simp only [Act.put, List.setIfInBounds_toArray, List.set_cons_zero, List.set_cons_succ, i64_w, i32_w]
    rfl
  refine pure_ (i := 8) (N := some 25) (v := ?_) (a' := ?_) #[true, true, true, true, true, true, true, true, true, false, false, false, false, false, false, false, false, false, false, false, false, false, false, false, false, false, false, false, false, false, false, false, false, false, false, false] rfl rfl (any_of HT_.out (by kernel_rfl)) (fun _ _ _ h => h) (Or.inl ⟨by rfl, ?_⟩) ?_ ?_
  rotate_left
  · intro w'
    go_simp
    try with_reducible rfl
  rotate_left
  · simp only [Act.put, List.setIfInBounds_toArray, List.set_cons_zero, List.set_cons_succ, i64_w, i32_w]
    rfl
  refine pure_ (i := 9) (N := some 26) (v := ?_) (a' := ?_) #[true, true, true, true, true, true, true, true, true, true, false, false, false, false, false, false, false, false, false, false, false, false, false, false, false, false, false, false, false, false, false, false, false, false, false, false] rfl rfl (any_of HT_.out (by kernel_rfl)) (fun _ _ _ h => h) (Or.inl ⟨by rfl, ?_⟩) ?_ ?_
  rotate_left
  · intro w'
    go_simp
    try with_reducible rfl
  rotate_left
  · simp only [Act.put, List.setIfInBounds_toArray, List.set_cons_zero, List.set_cons_succ, i64_w, i32_w]
    rfl
  refine pure_ (i := 10) (N := some 27) (v := ?_) (a' := ?_) #[true, true, true, true, true, true, true, true, true, true, true, false, false, false, false, false, false, false, false, false, false, false, false, false, false, false, false, false, false, false, false, false, false, false, false, false] rfl rfl (any_of HT_.out (by kernel_rfl)) (fun _ _ _ h => h) (Or.inl ⟨by rfl, ?_⟩) ?_ ?_
  rotate_left
  · intro w'
    go_simp
    try with_reducible rfl
  rotate_left
  · simp only [Act.put, List.setIfInBounds_toArray, List.set_cons_zero, List.set_cons_succ, i64_w, i32_w]
    rfl
  refine take_ (i := 11) (N := some 28) (v := ?_) (a' := ?_) #[true, true, true, true, true, true, true, true, true, true, true, true, false, false, false, false, false, false, false, false, false, false, false, false, false, false, false, false, false, false, false, false, false, false, false, false] rfl rfl (take_of HT_.out (by kernel_rfl)) (fun _ _ _ h => h) (Or.inl ⟨by rfl, ?_⟩) HS.out ?_ ?_
  rotate_left
  · intro w' hS
    have c0 : w'.cell? ⟨w3.heap.size, 0, none⟩ = some (.int .u8 10) := (blk_cell (blk_below HR5.out hS) 0).trans ((rowOf_get _ 0 (by omega)).trans (congrArg (fun x => some (Value.int .u8 x)) (show byteN 167772161 167772162 6 1024 80 0 = 10 from by decide +kernel)))
    go_simp
    with_reducible rfl
  rotate_left
  · simp only [Act.put, List.setIfInBounds_toArray, List.set_cons_zero, List.set_cons_succ, i64_w, i32_w]
    rfl
  refine pure_ (i := 12) (N := some 29) (v := ?_) (a' := ?_) #[true, true, true, true, true, true, true, true, true, true, true, true, true, false, false, false, false, false, false, false, false, false, false, false, false, false, false, false, false, false, false, false, false, false, false, false] rfl rfl (any_of HT_.out (by kernel_rfl)) (fun _ _ _ h => h) (Or.inl ⟨by rfl, ?_⟩) ?_ ?_
  rotate_left
  · intro w'
    go_simp
    try with_reducible rfl
  rotate_left
  · simp only [Act.put, List.setIfInBounds_toArray, List.set_cons_zero, List.set_cons_succ, i64_w, i32_w]
    rfl
  refine pure_ (i := 13) (N := some 30) (v := ?_) (a' := ?_) #[true, true, true, true, true, true, true, true, true, true, true, true, true, true, false, false, false, false, false, false, false, false, false, false, false, false, false, false, false, false, false, false, false, false, false, false] rfl rfl (any_of HT_.out (by kernel_rfl)) (fun _ _ _ h => h) (Or.inl ⟨by rfl, ?_⟩) ?_ ?_
  rotate_left
  · intro w'
    go_simp
    try with_reducible rfl
  rotate_left
  · simp only [Act.put, List.setIfInBounds_toArray, List.set_cons_zero, List.set_cons_succ, i64_w, i32_w]
    rfl
  refine pure_ (i := 14) (N := some 31) (v := ?_) (a' := ?_) #[true, true, true, true, true, true, true, true, true, true, true, true, true, true, true, false, false, false, false, false, false, false, false, false, false, false, false, false, false, false, false, false, false, false, false, false] rfl rfl (any_of HT_.out (by kernel_rfl)) (fun _ _ _ h => h) (Or.inl ⟨by rfl, ?_⟩) ?_ ?_
  rotate_left
  · intro w'
    go_simp
    try with_reducible rfl
  rotate_left
  · simp only [Act.put, List.setIfInBounds_toArray, List.set_cons_zero, List.set_cons_succ, i64_w, i32_w]
    rfl
  refine pure_ (i := 15) (N := some 32) (v := ?_) (a' := ?_) #[true, true, true, true, true, true, true, true, true, true, true, true, true, true, true, true, false, false, false, false, false, false, false, false, false, false, false, false, false, false, false, false, false, false, false, false] rfl rfl (any_of HT_.out (by kernel_rfl)) (fun _ _ _ h => h) (Or.inl ⟨by rfl, ?_⟩) ?_ ?_
  rotate_left
  · intro w'
    go_simp
    try with_reducible rfl
  rotate_left
  · simp only [Act.put, List.setIfInBounds_toArray, List.set_cons_zero, List.set_cons_succ, i64_w, i32_w]
    rfl
  refine take_ (i := 16) (N := some 33) (v := ?_) (a' := ?_) #[true, true, true, true, true, true, true, true, true, true, true, true, true, true, true, true, true, false, false, false, false, false, false, false, false, false, false, false, false, false, false, false, false, false, false, false] rfl rfl (take_of HT_.out (by kernel_rfl)) (fun _ _ _ h => h) (Or.inl ⟨by rfl, ?_⟩) HS.out ?_ ?_
  rotate_left
  · intro w' hS
    have c0 : w'.cell? ⟨w3.heap.size, 9, none⟩ = some (.int .u8 4) := (blk_cell (blk_below HR5.out hS) 9).trans ((rowOf_get _ 9 (by omega)).trans (congrArg (fun x => some (Value.int .u8 x)) (show byteN 167772161 167772162 6 1024 80 9 = 4 from by decide +kernel)))
    go_simp
    with_reducible rfl
  rotate_left
  · simp only [Act.put, List.setIfInBounds_toArray, List.set_cons_zero, List.set_cons_succ, i64_w, i32_w]
    rfl
  refine pure_ (i := 17) (N := some 34) (v := ?_) (a' := ?_) #[true, true, true, true, true, true, true, true, true, true, true, true, true, true, true, true, true, true, false, false, false, false, false, false, false, false, false, false, false, false, false, false, false, false, false, false] rfl rfl (any_of HT_.out (by kernel_rfl)) (fun _ _ _ h => h) (Or.inl ⟨by rfl, ?_⟩) ?_ ?_
  rotate_left
  · intro w'
    go_simp
    try with_reducible rfl
  rotate_left
  · simp only [Act.put, List.setIfInBounds_toArray, List.set_cons_zero, List.set_cons_succ, i64_w, i32_w]
    rfl
  refine pure_ (i := 18) (N := some 35) (v := ?_) (a' := ?_) #[true, true, true, true, true, true, true, true, true, true, true, true, true, true, true, true, true, true, true, false, false, false, false, false, false, false, false, false, false, false, false, false, false, false, false, false] rfl rfl (any_of HT_.out (by kernel_rfl)) (fun _ _ _ h => h) (Or.inl ⟨by rfl, ?_⟩) ?_ ?_
  rotate_left
  · intro w'
    go_simp
    try with_reducible rfl
  rotate_left
  · simp only [Act.put, List.setIfInBounds_toArray, List.set_cons_zero, List.set_cons_succ, i64_w, i32_w]
    rfl
  refine pure_ (i := 19) (N := some 36) (v := ?_) (a' := ?_) #[true, true, true, true, true, true, true, true, true, true, true, true, true, true, true, true, true, true, true, true, false, false, false, false, false, false, false, false, false, false, false, false, false, false, false, false] rfl rfl (any_of HT_.out (by kernel_rfl)) (fun _ _ _ h => h) (Or.inl ⟨by rfl, ?_⟩) ?_ ?_
  rotate_left
  · intro w'
    go_simp
    try with_reducible rfl
  rotate_left
  · simp only [Act.put, List.setIfInBounds_toArray, List.set_cons_zero, List.set_cons_succ, i64_w, i32_w]
    rfl
  refine pure_ (i := 20) (N := some 37) (v := ?_) (a' := ?_) #[true, true, true, true, true, true, true, true, true, true, true, true, true, true, true, true, true, true, true, true, true, false, false, false, false, false, false, false, false, false, false, false, false, false, false, false] rfl rfl (any_of HT_.out (by kernel_rfl)) (fun _ _ _ h => h) (Or.inl ⟨by rfl, ?_⟩) ?_ ?_
  rotate_left
  · intro w'
    go_simp
    try with_reducible rfl
  rotate_left
  · simp only [Act.put, List.setIfInBounds_toArray, List.set_cons_zero, List.set_cons_succ, i64_w, i32_w]
    rfl
  refine take_ (i := 21) (N := some 38) (v := ?_) (a' := ?_) #[true, true, true, true, true, true, true, true, true, true, true, true, true, true, true, true, true, true, true, true, true, true, false, false, false, false, false, false, false, false, false, false, false, false, false, false] rfl rfl (take_of HT_.out (by kernel_rfl)) (fun _ _ _ h => h) (Or.inl ⟨by rfl, ?_⟩) HS.out ?_ ?_
  rotate_left
  · intro w' hS
    have c0 : w'.cell? ⟨w3.heap.size, 12, none⟩ = some (.int .u8 80) := (blk_cell (blk_below HR5.out hS) 12).trans ((rowOf_get _ 12 (by omega)).trans (congrArg (fun x => some (Value.int .u8 x)) (show byteN 167772161 167772162 6 1024 80 12 = 80 from by decide +kernel)))
    go_simp
    with_reducible rfl
  rotate_left
  · simp only [Act.put, List.setIfInBounds_toArray, List.set_cons_zero, List.set_cons_succ, i64_w, i32_w]
    rfl
  refine pure_ (i := 22) (N := some 39) (v := ?_) (a' := ?_) #[true, true, true, true, true, true, true, true, true, true, true, true, true, true, true, true, true, true, true, true, true, true, true, false, false, false, false, false, false, false, false, false, false, false, false, false] rfl rfl (any_of HT_.out (by kernel_rfl)) (fun _ _ _ h => h) (Or.inl ⟨by rfl, ?_⟩) ?_ ?_
  rotate_left
  · intro w'
    go_simp
    try with_reducible rfl
  rotate_left
  · simp only [Act.put, List.setIfInBounds_toArray, List.set_cons_zero, List.set_cons_succ, i64_w, i32_w]
    rfl
  refine pure_ (i := 23) (N := some 40) (v := ?_) (a' := ?_) #[true, true, true, true, true, true, true, true, true, true, true, true, true, true, true, true, true, true, true, true, true, true, true, true, false, false, false, false, false, false, false, false, false, false, false, false] rfl rfl (any_of HT_.out (by kernel_rfl)) (fun _ _ _ h => h) (Or.inl ⟨by rfl, ?_⟩) ?_ ?_
  rotate_left
  · intro w'
    go_simp
    try with_reducible rfl
  rotate_left
  · simp only [Act.put, List.setIfInBounds_toArray, List.set_cons_zero, List.set_cons_succ, i64_w, i32_w]
    rfl
  refine pure_ (i := 24) (N := some 41) (v := ?_) (a' := ?_) #[true, true, true, true, true, true, true, true, true, true, true, true, true, true, true, true, true, true, true, true, true, true, true, true, true, false, false, false, false, false, false, false, false, false, false, false] rfl rfl (any_of HT_.out (by kernel_rfl)) (fun _ _ _ h => h) (Or.inl ⟨by rfl, ?_⟩) ?_ ?_
  rotate_left
  · intro w'
    go_simp
    try with_reducible rfl
  rotate_left
  · simp only [Act.put, List.setIfInBounds_toArray, List.set_cons_zero, List.set_cons_succ, i64_w, i32_w]
    rfl
  refine take_ (i := 25) (N := some 42) (v := .agg (#[.int .u32 167772161, .int .u32 167772162, .int .u8 6, .int .u16 1024, .int .u16 80])) (a' := ?_) #[true, true, true, true, true, true, true, true, true, true, true, true, true, true, true, true, true, true, true, true, true, true, true, true, true, true, false, false, false, false, false, false, false, false, false, false] rfl rfl (take_of HT_.out (by kernel_rfl)) (fun _ _ _ h => h) (Or.inl ⟨by rfl, ?_⟩) HS.out ?_ ?_
  · exact fun w' hS => run_load_row 91 _ rfl w1.heap.size rfl 91 (#[.int .u32 167772161, .int .u32 167772162, .int .u8 6, .int .u16 1024, .int .u16 80]) (0, 0) _ (blk_below HH5.out hS) Tryd.underlying91 rfl HI.out
  rotate_left
  · simp only [Act.put, List.setIfInBounds_toArray, List.set_cons_zero, List.set_cons_succ, i64_w, i32_w]
    rfl
  refine one_ (i := 26) (N := some 43) #[true, true, true, true, true, true, true, true, true, true, true, true, true, true, true, true, true, true, true, true, true, true, true, true, true, true, true, false, false, false, false, false, false, false, false, false] rfl rfl (one_of HT_.out (by kernel_rfl)) (by decide) (fun K hK => ?_)
  refine goes_ Tryd.func56 (by kernel_rfl) rfl #[.agg #[.int .u32 167772161, .int .u32 167772162, .int .u8 6, .int .u16 1024, .int .u16 80]] (by rfl) rfl rfl (by (try simp only [List.map_toArray, List.map_cons, List.map_nil]); first | done | rfl) ?_
  have HGn := Aside0.mk (Go.Proofs.YtbnihnggljagnaaDoor.WorldA.GW.below HG.out (HB5.out.trans (HS.out.mono HB5.out.size)))
  refine (header_Text.calls 167772161 167772162 6 1024 80 _ _ HGn.out A2.out).mono ?_
  rintro e v26 ⟨rfl, hbx⟩
  refine ⟨_, rfl, ?_⟩
  have HSn := Aside0.mk (HS.out.trans (hbx.mono HS.out.size))
  clear hbx HS HGn
  refine hK.out _ _ HSn.out (fun _ => ?_)
  clear hK K
  have HS := HSn
  clear HSn
  refine norm_ (a' := ?_) ?_ ?_
  rotate_left
  · show Act.put _ (some 43) _ = _
    simp only [Act.put, List.setIfInBounds_toArray, List.set_cons_zero, List.set_cons_succ, i64_w, i32_w]
    rfl
  refine pure_ (i := 27) (N := some 44) (v := ?_) (a' := ?_) #[true, true, true, true, true, true, true, true, true, true, true, true, true, true, true, true, true, true, true, true, true, true, true, true, true, true, true, true, false, false, false, false, false, false, false, false] rfl rfl (any_of HT_.out (by kernel_rfl)) (fun _ _ _ h => h) (Or.inl ⟨by rfl, ?_⟩) ?_ ?_
  rotate_left
  · intro w'
    go_simp
    try with_reducible rfl
  rotate_left
  · simp only [Act.put, List.setIfInBounds_toArray, List.set_cons_zero, List.set_cons_succ, i64_w, i32_w]
    rfl
  refine pure_ (i := 28) (N := some 45) (v := ?_) (a' := ?_) #[true, true, true, true, true, true, true, true, true, true, true, true, true, true, true, true, true, true, true, true, true, true, true, true, true, true, true, true, true, false, false, false, false, false, false, false] rfl rfl (any_of HT_.out (by kernel_rfl)) (fun _ _ _ h => h) (Or.inl ⟨by rfl, ?_⟩) ?_ ?_
  rotate_left
  · intro w'
    go_simp
    try with_reducible rfl
  rotate_left
  · simp only [Act.put, List.setIfInBounds_toArray, List.set_cons_zero, List.set_cons_succ, i64_w, i32_w]
    rfl
  refine pure_ (i := 29) (N := some 46) (v := ?_) (a' := ?_) #[true, true, true, true, true, true, true, true, true, true, true, true, true, true, true, true, true, true, true, true, true, true, true, true, true, true, true, true, true, true, false, false, false, false, false, false] rfl rfl (any_of HT_.out (by kernel_rfl)) (fun _ _ _ h => h) (Or.inl ⟨by rfl, ?_⟩) ?_ ?_
  rotate_left
  · intro w'
    go_simp
    try with_reducible rfl
  rotate_left
  · simp only [Act.put, List.setIfInBounds_toArray, List.set_cons_zero, List.set_cons_succ, i64_w, i32_w]
    rfl
  refine take_ (i := 30) (N := some 47) (v := .agg (rowOf (byteN 167772161 167772162 6 1024 80))) (a' := ?_) #[true, true, true, true, true, true, true, true, true, true, true, true, true, true, true, true, true, true, true, true, true, true, true, true, true, true, true, true, true, true, true, false, false, false, false, false] rfl rfl (take_of HT_.out (by kernel_rfl)) (fun _ _ _ h => h) (Or.inl ⟨by rfl, ?_⟩) HS.out ?_ ?_
  · exact fun w' hS => run_load_row 92 _ rfl w3.heap.size rfl 92 (rowOf (byteN 167772161 167772162 6 1024 80)) (0, 0) _ (blk_below HR5.out hS) Tryd.underlying92 rfl HI3.out
  rotate_left
  · simp only [Act.put, List.setIfInBounds_toArray, List.set_cons_zero, List.set_cons_succ, i64_w, i32_w]
    rfl
  refine take_ (i := 32) (N := some 49) (v := .agg (#[.int .u32 167772161, .int .u32 167772162, .int .u8 6, .int .u16 1024, .int .u16 80])) (a' := ?_) #[true, true, true, true, true, true, true, true, true, true, true, true, true, true, true, true, true, true, true, true, true, true, true, true, true, true, true, true, true, true, true, false, true, false, false, false] rfl rfl (take_of HT_.out (by kernel_rfl)) (fun _ _ _ h => h) (Or.inl ⟨by rfl, ?_⟩) HS.out ?_ ?_
  · exact fun w' hS => run_load_row 91 _ rfl w1.heap.size rfl 91 (#[.int .u32 167772161, .int .u32 167772162, .int .u8 6, .int .u16 1024, .int .u16 80]) (0, 0) _ (blk_below HH5.out hS) Tryd.underlying91 rfl HI.out
  rotate_left
  · simp only [Act.put, List.setIfInBounds_toArray, List.set_cons_zero, List.set_cons_succ, i64_w, i32_w]
    rfl
  refine one_ (i := 31) (N := some 48) #[true, true, true, true, true, true, true, true, true, true, true, true, true, true, true, true, true, true, true, true, true, true, true, true, true, true, true, true, true, true, true, true, true, false, false, false] rfl rfl (one_of HT_.out (by kernel_rfl)) (by decide) (fun K hK => ?_)
  refine goes_ Tryd.func58 (by kernel_rfl) rfl #[.agg (rowOf (byteN 167772161 167772162 6 1024 80))] (by rfl) rfl rfl (by (try simp only [List.map_toArray, List.map_cons, List.map_nil]); first | done | rfl) ?_
  have HGn := Aside0.mk (Go.Proofs.YtbnihnggljagnaaDoor.WorldA.GW.below HG.out (HB5.out.trans (HS.out.mono HB5.out.size)))
  refine (works_of _).mono ?_
  rintro e v31 ⟨rfl, hbx⟩
  refine ⟨_, rfl, ?_⟩
  have HSn := Aside0.mk (HS.out.trans (hbx.mono HS.out.size))
  clear hbx HS HGn
  refine hK.out _ _ HSn.out (fun _ => ?_)
  clear hK K
  have HS := HSn
  clear HSn
  refine norm_ (a' := ?_) ?_ ?_
  rotate_left
  · show Act.put _ (some 48) _ = _
    simp only [Act.put, List.setIfInBounds_toArray, List.set_cons_zero, List.set_cons_succ, i64_w, i32_w]
    rfl
  refine one_ (i := 33) (N := some 50) #[true, true, true, true, true, true, true, true, true, true, true, true, true, true, true, true, true, true, true, true, true, true, true, true, true, true, true, true, true, true, true, true, true, true, false, false] rfl rfl (one_of HT_.out (by kernel_rfl)) (by decide) (fun K hK => ?_)
  refine goes_ Tryd.func57 (by kernel_rfl) rfl #[.agg #[.int .u32 167772161, .int .u32 167772162, .int .u8 6, .int .u16 1024, .int .u16 80], .agg #[.int .u32 167772161, .int .u32 167772162, .int .u8 6, .int .u16 1024, .int .u16 80]] (by rfl) rfl rfl (by (try simp only [List.map_toArray, List.map_cons, List.map_nil]); first | done | rfl) ?_
  have HGn := Aside0.mk (Go.Proofs.YtbnihnggljagnaaDoor.WorldA.GW.below HG.out (HB5.out.trans (HS.out.mono HB5.out.size)))
  refine (waymarklaw03_same.calls 167772161 167772162 6 1024 80 167772161 167772162 6 1024 80 true _ A3.out).mono ?_
  rintro e v33 ⟨rfl, hbx⟩
  refine ⟨_, rfl, ?_⟩
  have HSn := Aside0.mk (HS.out.trans (hbx.mono HS.out.size))
  clear hbx HS HGn
  refine hK.out _ _ HSn.out (fun _ => ?_)
  clear hK K
  have HS := HSn
  clear HSn
  refine norm_ (a' := ?_) ?_ ?_
  rotate_left
  · show Act.put _ (some 50) _ = _
    simp only [Act.put, List.setIfInBounds_toArray, List.set_cons_zero, List.set_cons_succ, i64_w, i32_w]
    rfl
  refine pure_ (i := 34) (N := some 51) (v := ?_) (a' := ?_) #[true, true, true, true, true, true, true, true, true, true, true, true, true, true, true, true, true, true, true, true, true, true, true, true, true, true, true, true, true, true, true, true, true, true, true, false] rfl rfl (any_of HT_.out (by kernel_rfl)) (fun _ _ _ h => h) (Or.inl ⟨by rfl, ?_⟩) ?_ ?_
  rotate_left
  · intro w'
    go_simp
    try with_reducible rfl
  rotate_left
  · simp only [Act.put, List.setIfInBounds_toArray, List.set_cons_zero, List.set_cons_succ, i64_w, i32_w]
    rfl
  refine pure_ (i := 35) (N := some 0) (v := ?_) (a' := ?_) #[true, true, true, true, true, true, true, true, true, true, true, true, true, true, true, true, true, true, true, true, true, true, true, true, true, true, true, true, true, true, true, true, true, true, true, true] rfl rfl (any_of HT_.out (by kernel_rfl)) (fun _ _ _ h => h) (Or.inl ⟨by rfl, ?_⟩) ?_ ?_
  rotate_left
  · intro w'
    go_simp
    try with_reducible rfl
  rotate_left
  · simp only [Act.put, List.setIfInBounds_toArray, List.set_cons_zero, List.set_cons_succ, i64_w, i32_w]
    rfl
  refine done_ (done_of HT_.out (by kernel_rfl)) ?_
  go_wp2
  go_ret
  exact ⟨rfl, HB5.out.trans (HS.out.mono HB5.out.size)⟩
def waymarklaw03_works.f (k : Nat) : Option Bool := if header_Parse.f k (⟨#[49, 48, 46, 48, 46, 48, 46, 49, 58, 49, 48, 50, 52, 32, 49, 48, 46, 48, 46, 48, 46, 50, 58, 56, 48, 32, 54]⟩ : ByteArray) = some (167772161, 167772162, 6, 1024, 80, 0) ∧ header_Text.f 167772161 167772162 6 1024 80 = some (⟨#[49, 48, 46, 48, 46, 48, 46, 49, 58, 49, 48, 50, 52, 32, 49, 48, 46, 48, 46, 48, 46, 50, 58, 56, 48, 32, 54]⟩ : ByteArray) ∧ waymarklaw03_same.f 167772161 167772162 6 1024 80 167772161 167772162 6 1024 80 = some true then some true else none
theorem waymarklaw03_works.mono : ∀ k, LeO (waymarklaw03_works.f k) (waymarklaw03_works.f (k + 1)) := by
  intro k
  unfold waymarklaw03_works.f
  by_cases c : header_Parse.f k (⟨#[49, 48, 46, 48, 46, 48, 46, 49, 58, 49, 48, 50, 52, 32, 49, 48, 46, 48, 46, 48, 46, 50, 58, 56, 48, 32, 54]⟩ : ByteArray) = some (167772161, 167772162, 6, 1024, 80, 0) ∧ header_Text.f 167772161 167772162 6 1024 80 = some (⟨#[49, 48, 46, 48, 46, 48, 46, 49, 58, 49, 48, 50, 52, 32, 49, 48, 46, 48, 46, 48, 46, 50, 58, 56, 48, 32, 54]⟩ : ByteArray) ∧ waymarklaw03_same.f 167772161 167772162 6 1024 80 167772161 167772162 6 1024 80 = some true
  · rw [if_pos c, if_pos ⟨header_Parse.mono _ k _ c.1, c.2⟩]; exact LeO.refl _
  · rw [if_neg c]; exact LeO.none _
theorem waymarklaw03_works.calls (k : Nat) (r : Bool) (w : World) (hG : Go.Proofs.YtbnihnggljagnaaDoor.WorldA.GW w) (h : waymarklaw03_works.f k = some r) :
    Calls Tryd.prog 54 #[] w fun e w' => e = .returned (.bool r) ∧ Below w.heap.size w w' := by
  unfold waymarklaw03_works.f at h
  by_cases c : header_Parse.f k (⟨#[49, 48, 46, 48, 46, 48, 46, 49, 58, 49, 48, 50, 52, 32, 49, 48, 46, 48, 46, 48, 46, 50, 58, 56, 48, 32, 54]⟩ : ByteArray) = some (167772161, 167772162, 6, 1024, 80, 0) ∧ header_Text.f 167772161 167772162 6 1024 80 = some (⟨#[49, 48, 46, 48, 46, 48, 46, 49, 58, 49, 48, 50, 52, 32, 49, 48, 46, 48, 46, 48, 46, 50, 58, 56, 48, 32, 54]⟩ : ByteArray) ∧ waymarklaw03_same.f 167772161 167772162 6 1024 80 167772161 167772162 6 1024 80 = some true
  · rw [if_pos c] at h
    obtain rfl := Option.some.inj h
    exact works_calls k w hG c.1 c.2.1 c.2.2
  · rw [if_neg c] at h; cases h


/-! ### header_With: function 61 -/
open Go.Proofs.YtbnihnggljagnaaDoor.HdrMath
theorem bytesV_row (s d p sp dp : Int) : bytesV s d p sp dp = rowOf (byteN s d p sp dp) := rfl
set_option maxRecDepth 100000 in
set_option maxHeartbeats 4000000 in
theorem with_out (s d p sp dp i : Int) (b : Bool) (w : World) (h : i < 0 ∨ 104 ≤ i) :
    Calls Tryd.prog 61 #[.agg #[.int .u32 s, .int .u32 d, .int .u8 p, .int .u16 sp, .int .u16 dp], .int .i64 i, .bool b] w fun e w' => e = .returned (.tuple #[.agg #[.int .u32 0, .int .u32 0, .int .u8 0, .int .u16 0, .int .u16 0], .int .i64 1]) ∧ Below w.heap.size w w' := by
  have HI := Aside0.mk (show (Tryd.prog.info? 91).map (·.size) = some 5 from by kernel_rfl)
  have NE1 := Aside0.mk (show w.heap.size + 1 ≠ w.heap.size by omega)
  have NE2 := Aside0.mk (show w.heap.size ≠ w.heap.size + 1 by omega)
  have HH := Aside0.mk h
  clear h
  have HO := Aside0.mk (show (#[.int .u32 0, .int .u32 0, .int .u8 0, .int .u16 0, .int .u16 0] : Array Value).all (·.oneCell') = true from by simp [Value.oneCell'])
  go_enter Tryd.func61, Tryd.ntmps61
  go_wp2_with (first | (go_at_call 60; refine (bit_out s d p sp dp i _ HH.out).mono ?_; rintro e w1 ⟨rfl, hbx⟩; have hA0 := blk_below (blk_alloc (blk_new w (.cells #[.int .u32 s, .int .u32 d, .int .u8 p, .int .u16 sp, .int .u16 dp] 91 (0, 0))) (.cells #[.int .u32 0, .int .u32 0, .int .u8 0, .int .u16 0, .int .u16 0] 91 (0, 0))) hbx; have hA1 := blk_below (show ((w.alloc (.cells #[.int .u32 s, .int .u32 d, .int .u8 p, .int .u16 sp, .int .u16 dp] 91 (0, 0))).alloc (.cells #[.int .u32 0, .int .u32 0, .int .u8 0, .int .u16 0, .int .u16 0] 91 (0, 0))).heap[w.heap.size + 1]? = some (.cells #[.int .u32 0, .int .u32 0, .int .u8 0, .int .u16 0, .int .u16 0] 91 (0, 0)) from by have h := blk_new (w.alloc (.cells #[.int .u32 s, .int .u32 d, .int .u8 p, .int .u16 sp, .int .u16 dp] 91 (0, 0))) (.cells #[.int .u32 0, .int .u32 0, .int .u8 0, .int .u16 0, .int .u16 0] 91 (0, 0)); simpa using h) hbx; have HA0 := Aside0.mk hA0; have HA1 := Aside0.mk hA1; clear hA0 hA1; have HW := Aside0.mk (Below.trans (((Below.refl _ w).alloc (Nat.le_refl _) (.cells #[.int .u32 s, .int .u32 d, .int .u8 p, .int .u16 sp, .int .u16 dp] 91 (0, 0))).alloc (by simp) (.cells #[.int .u32 0, .int .u32 0, .int .u8 0, .int .u16 0, .int .u16 0] 91 (0, 0))) (hbx.mono (by simp; omega))); clear hbx) | (refine wpList_store_row rfl 91 _ _ rfl w.heap.size #[.int .u32 0, .int .u32 0, .int .u8 0, .int .u16 0, .int .u16 0] rfl rfl 91 #[.int .u32 s, .int .u32 d, .int .u8 p, .int .u16 sp, .int .u16 dp] HA0.out HI.out rfl HO.out ?_; have hs0 := setRow_heap w1 w.heap.size _ #[.int .u32 0, .int .u32 0, .int .u8 0, .int .u16 0, .int .u16 0] 91 (0, 0) HA0.out; have HS0 := Aside0.mk hs0; have HS1 := Aside0.mk ((setRow_other w1 w.heap.size (w.heap.size + 1) #[.int .u32 0, .int .u32 0, .int .u8 0, .int .u16 0, .int .u16 0] NE1.out).trans HA1.out); clear hs0) | (refine wpList_load_row rfl 91 _ rfl w.heap.size rfl 91 #[.int .u32 0, .int .u32 0, .int .u8 0, .int .u16 0, .int .u16 0] (0, 0) _ HS0.out Tryd.underlying91 rfl HI.out ?_) | (refine wpList_store_row rfl 91 _ _ rfl (w.heap.size + 1) #[.int .u32 0, .int .u32 0, .int .u8 0, .int .u16 0, .int .u16 0] rfl rfl 91 #[.int .u32 0, .int .u32 0, .int .u8 0, .int .u16 0, .int .u16 0] HS1.out HI.out rfl HO.out ?_))
  have hq := setRow_heap (w1.setRow w.heap.size #[.int .u32 0, .int .u32 0, .int .u8 0, .int .u16 0, .int .u16 0]) (w.heap.size + 1) _ #[.int .u32 0, .int .u32 0, .int .u8 0, .int .u16 0, .int .u16 0] 91 (0, 0) HS1.out
  have k0 := blk_cell hq 0
  simp at k0
  have k1 := blk_cell hq 1
  simp at k1
  have k2 := blk_cell hq 2
  simp at k2
  have k3 := blk_cell hq 3
  simp at k3
  have k4 := blk_cell hq 4
  simp at k4
  clear hq
  refine bodyPost_ret (v := .tuple #[.agg #[.int .u32 0, .int .u32 0, .int .u8 0, .int .u16 0, .int .u16 0], .int .i64 1]) ?_ rfl ⟨rfl, below_setRow (below_setRow HW.out (Nat.le_refl _) _) (by omega) _⟩
  unfold results
  go_simp
set_option maxRecDepth 100000 in
set_option maxHeartbeats 4000000 in
theorem with_same (s d p sp dp i : Int) (b : Bool) (w : World) (h : header_Bit.f s d p sp dp i = some (b, 0)) :
    Calls Tryd.prog 61 #[.agg #[.int .u32 s, .int .u32 d, .int .u8 p, .int .u16 sp, .int .u16 dp], .int .i64 i, .bool b] w fun e w' => e = .returned (.tuple #[.agg #[.int .u32 s, .int .u32 d, .int .u8 p, .int .u16 sp, .int .u16 dp], .int .i64 0]) ∧ Below w.heap.size w w' := by
  have HI := Aside0.mk (show (Tryd.prog.info? 91).map (·.size) = some 5 from by kernel_rfl)
  have NE1 := Aside0.mk (show w.heap.size + 1 ≠ w.heap.size by omega)
  have NE2 := Aside0.mk (show w.heap.size ≠ w.heap.size + 1 by omega)
  have HH := Aside0.mk h
  clear h
  have HO := Aside0.mk (show (#[.int .u32 s, .int .u32 d, .int .u8 p, .int .u16 sp, .int .u16 dp] : Array Value).all (·.oneCell') = true from by simp [Value.oneCell'])
  go_enter Tryd.func61, Tryd.ntmps61
  go_wp2_with (first | (go_at_call 60; refine (header_Bit.calls s d p sp dp i _ _ _ HH.out).mono ?_; rintro e w1 ⟨rfl, hbx⟩; have hA0 := blk_below (blk_alloc (blk_new w (.cells #[.int .u32 s, .int .u32 d, .int .u8 p, .int .u16 sp, .int .u16 dp] 91 (0, 0))) (.cells #[.int .u32 0, .int .u32 0, .int .u8 0, .int .u16 0, .int .u16 0] 91 (0, 0))) hbx; have hA1 := blk_below (show ((w.alloc (.cells #[.int .u32 s, .int .u32 d, .int .u8 p, .int .u16 sp, .int .u16 dp] 91 (0, 0))).alloc (.cells #[.int .u32 0, .int .u32 0, .int .u8 0, .int .u16 0, .int .u16 0] 91 (0, 0))).heap[w.heap.size + 1]? = some (.cells #[.int .u32 0, .int .u32 0, .int .u8 0, .int .u16 0, .int .u16 0] 91 (0, 0)) from by have h := blk_new (w.alloc (.cells #[.int .u32 s, .int .u32 d, .int .u8 p, .int .u16 sp, .int .u16 dp] 91 (0, 0))) (.cells #[.int .u32 0, .int .u32 0, .int .u8 0, .int .u16 0, .int .u16 0] 91 (0, 0)); simpa using h) hbx; have HA0 := Aside0.mk hA0; have HA1 := Aside0.mk hA1; clear hA0 hA1; have HW := Aside0.mk (Below.trans (((Below.refl _ w).alloc (Nat.le_refl _) (.cells #[.int .u32 s, .int .u32 d, .int .u8 p, .int .u16 sp, .int .u16 dp] 91 (0, 0))).alloc (by simp) (.cells #[.int .u32 0, .int .u32 0, .int .u8 0, .int .u16 0, .int .u16 0] 91 (0, 0))) (hbx.mono (by simp; omega))); clear hbx) | (refine wpList_load_row rfl 91 _ rfl w.heap.size rfl 91 #[.int .u32 s, .int .u32 d, .int .u8 p, .int .u16 sp, .int .u16 dp] (0, 0) _ HA0.out Tryd.underlying91 rfl HI.out ?_) | (refine wpList_store_row rfl 91 _ _ rfl (w.heap.size + 1) #[.int .u32 s, .int .u32 d, .int .u8 p, .int .u16 sp, .int .u16 dp] rfl rfl 91 #[.int .u32 0, .int .u32 0, .int .u8 0, .int .u16 0, .int .u16 0] HA1.out HI.out rfl HO.out ?_))
  have hq := setRow_heap w1 (w.heap.size + 1) _ #[.int .u32 s, .int .u32 d, .int .u8 p, .int .u16 sp, .int .u16 dp] 91 (0, 0) HA1.out
  have k0 := blk_cell hq 0
  simp at k0
  have k1 := blk_cell hq 1
  simp at k1
  have k2 := blk_cell hq 2
  simp at k2
  have k3 := blk_cell hq 3
  simp at k3
  have k4 := blk_cell hq 4
  simp at k4
  clear hq
  refine bodyPost_ret (v := .tuple #[.agg #[.int .u32 s, .int .u32 d, .int .u8 p, .int .u16 sp, .int .u16 dp], .int .i64 0]) ?_ rfl ⟨rfl, below_setRow HW.out (by omega) _⟩
  unfold results
  go_simp
theorem bytes_row (s d p sp dp : Int) (w : World) :
    Calls Tryd.prog 59 #[.agg #[.int .u32 s, .int .u32 d, .int .u8 p, .int .u16 sp, .int .u16 dp]] w fun e w' => e = .returned (.agg (rowOf (byteN s d p sp dp))) ∧ Below w.heap.size w w' := header_Bytes.calls s d p sp dp w
theorem row_set_at {w : World} {g : Nat} {b : Nat → Int} (h : w.heap[g]? = some (.cells (rowOf b) 92 (0, 0))) (n : Nat) (hn : n ≤ 12) (v : Int) : (w.setCell ⟨g, n, none⟩ (.int .u8 v)).heap[g]? = some (.cells (rowOf fun k => if k = n then v else b k) 92 (0, 0)) := by
  rw [← rowOf_set b n hn v]; exact blk_set h n _
set_option maxRecDepth 100000 in
set_option maxHeartbeats 4000000 in
theorem with_turn (s d p sp dp i : Int) (b r : Bool) (j m v q z : Int) (w : World) (h : header_Bit.f s d p sp dp i = some (r, 0)) (hrb : (r == b) = false) (hj : Aside0 (0 ≤ j ∧ j ≤ 12)) (hb : Aside0 (∀ n, 0 ≤ (if n = j.toNat then z else byteN s d p sp dp n) ∧ (if n = j.toNat then z else byteN s d p sp dp n) ≤ 255)) (hq : Int.tdiv i 8 = j) (hwj : IntKind.wrap .i64 j = j) (hm : Int.tmod i 8 = m) (hv : Aside0 (byteN s d p sp dp j.toNat = v)) (hs : Op.shift .shr .u8 128 .i64 m = pure (.int .u8 q)) (hx : bits .xor .u8 v q = z) :
    Calls Tryd.prog 61 #[.agg #[.int .u32 s, .int .u32 d, .int .u8 p, .int .u16 sp, .int .u16 dp], .int .i64 i, .bool b] w fun e w' => e = .returned (.tuple #[.agg #[.int .u32 (ofN (fun k => if k = j.toNat then z else byteN s d p sp dp k)).1, .int .u32 (ofN (fun k => if k = j.toNat then z else byteN s d p sp dp k)).2.1, .int .u8 (ofN (fun k => if k = j.toNat then z else byteN s d p sp dp k)).2.2.1, .int .u16 (ofN (fun k => if k = j.toNat then z else byteN s d p sp dp k)).2.2.2.1, .int .u16 (ofN (fun k => if k = j.toNat then z else byteN s d p sp dp k)).2.2.2.2], .int .i64 0]) ∧ Below w.heap.size w w' := by
  have HI := Aside0.mk (show (Tryd.prog.info? 91).map (·.size) = some 5 from by kernel_rfl)
  have NE1 := Aside0.mk (show w.heap.size + 1 ≠ w.heap.size by omega)
  have NE2 := Aside0.mk (show w.heap.size ≠ w.heap.size + 1 by omega)
  have HH := Aside0.mk h
  clear h
  have HI3 := Aside0.mk (show (Tryd.prog.info? 92).map (·.size) = some 13 from by kernel_rfl)
  have HO := Aside0.mk (show (#[.int .u32 (ofN (fun k => if k = j.toNat then z else byteN s d p sp dp k)).1, .int .u32 (ofN (fun k => if k = j.toNat then z else byteN s d p sp dp k)).2.1, .int .u8 (ofN (fun k => if k = j.toNat then z else byteN s d p sp dp k)).2.2.1, .int .u16 (ofN (fun k => if k = j.toNat then z else byteN s d p sp dp k)).2.2.2.1, .int .u16 (ofN (fun k => if k = j.toNat then z else byteN s d p sp dp k)).2.2.2.2] : Array Value).all (·.oneCell') = true from by simp [Value.oneCell'])
  have HO3 := Aside0.mk (rowOf_one (byteN s d p sp dp))
  obtain ⟨hj1, hj2⟩ := hj.out
  have HN := Aside0.mk (show j.toNat ≤ 12 by omega)
  go_enter Tryd.func61, Tryd.ntmps61
  go_wp2_with (first | (go_at_call 60; refine (header_Bit.calls s d p sp dp i _ _ _ HH.out).mono ?_; rintro e w1 ⟨rfl, hbx⟩; have hA0 := blk_below (blk_alloc (blk_new w (.cells #[.int .u32 s, .int .u32 d, .int .u8 p, .int .u16 sp, .int .u16 dp] 91 (0, 0))) (.cells #[.int .u32 0, .int .u32 0, .int .u8 0, .int .u16 0, .int .u16 0] 91 (0, 0))) hbx; have hA1 := blk_below (show ((w.alloc (.cells #[.int .u32 s, .int .u32 d, .int .u8 p, .int .u16 sp, .int .u16 dp] 91 (0, 0))).alloc (.cells #[.int .u32 0, .int .u32 0, .int .u8 0, .int .u16 0, .int .u16 0] 91 (0, 0))).heap[w.heap.size + 1]? = some (.cells #[.int .u32 0, .int .u32 0, .int .u8 0, .int .u16 0, .int .u16 0] 91 (0, 0)) from by have h := blk_new (w.alloc (.cells #[.int .u32 s, .int .u32 d, .int .u8 p, .int .u16 sp, .int .u16 dp] 91 (0, 0))) (.cells #[.int .u32 0, .int .u32 0, .int .u8 0, .int .u16 0, .int .u16 0] 91 (0, 0)); simpa using h) hbx; have HA0 := Aside0.mk hA0; have HA1 := Aside0.mk hA1; clear hA0 hA1; have HW := Aside0.mk (Below.trans (((Below.refl _ w).alloc (Nat.le_refl _) (.cells #[.int .u32 s, .int .u32 d, .int .u8 p, .int .u16 sp, .int .u16 dp] 91 (0, 0))).alloc (by simp) (.cells #[.int .u32 0, .int .u32 0, .int .u8 0, .int .u16 0, .int .u16 0] 91 (0, 0))) (hbx.mono (by simp; omega))); clear hbx) | (refine wpList_load_row rfl 91 _ rfl w.heap.size rfl 91 #[.int .u32 s, .int .u32 d, .int .u8 p, .int .u16 sp, .int .u16 dp] (0, 0) _ HA0.out Tryd.underlying91 rfl HI.out ?_) | (go_at_call 59; refine (bytes_row s d p sp dp _).mono ?_; rintro e w2 ⟨rfl, hb2⟩; have HA2 := Aside0.mk (blk_below HA1.out hb2); have HW2 := Aside0.mk (HW.out.trans (hb2.mono HW.out.size)); clear hb2) | (refine wpList_store_row rfl 92 _ _ rfl w2.heap.size (rowOf (byteN s d p sp dp)) rfl rfl 92 #[.int .u8 0, .int .u8 0, .int .u8 0, .int .u8 0, .int .u8 0, .int .u8 0, .int .u8 0, .int .u8 0, .int .u8 0, .int .u8 0, .int .u8 0, .int .u8 0, .int .u8 0] (blk_new w2 _) HI3.out rfl HO3.out ?_; have hrow := setRow_heap (w2.alloc (.cells #[.int .u8 0, .int .u8 0, .int .u8 0, .int .u8 0, .int .u8 0, .int .u8 0, .int .u8 0, .int .u8 0, .int .u8 0, .int .u8 0, .int .u8 0, .int .u8 0, .int .u8 0] 92 (0, 0))) w2.heap.size _ (rowOf (byteN s d p sp dp)) 92 (0, 0) (blk_new w2 _); have hcell := (blk_cell hrow j.toNat).trans ((rowOf_get _ _ HN.out).trans (congrArg (fun x => some (Value.int .u8 x)) hv.out)); have hfree := blk_frozen hrow j.toNat; have HROW := Aside0.mk hrow; clear hrow))
  simp only [Act.put, List.setIfInBounds_toArray, List.set_cons_succ, List.set_cons_zero]
  go_region
  have hlt := blk_lt HA2.out
  have hle := HW2.out.size
  have HR4 := Aside0.mk (blk_drew (row_set_at HROW.out j.toNat HN.out z))
  have HA4 := Aside0.mk (blk_drew (blk_far ((setRow_other _ w2.heap.size (w.heap.size + 1) (rowOf (byteN s d p sp dp)) (by omega)).trans (blk_alloc HA2.out (.cells #[.int .u8 0, .int .u8 0, .int .u8 0, .int .u8 0, .int .u8 0, .int .u8 0, .int .u8 0, .int .u8 0, .int .u8 0, .int .u8 0, .int .u8 0, .int .u8 0, .int .u8 0] 92 (0, 0)))) (p := ⟨w2.heap.size, j.toNat, none⟩) (show w.heap.size + 1 ≠ w2.heap.size by omega) (.int .u8 z)))
  have HW4 := Aside0.mk (below_drew ((below_setRow (HW2.out.alloc HW2.out.size (.cells #[.int .u8 0, .int .u8 0, .int .u8 0, .int .u8 0, .int .u8 0, .int .u8 0, .int .u8 0, .int .u8 0, .int .u8 0, .int .u8 0, .int .u8 0, .int .u8 0, .int .u8 0] 92 (0, 0))) hle (rowOf (byteN s d p sp dp))).setCell (p := ⟨w2.heap.size, j.toNat, none⟩) hle (.int .u8 z)))
  clear hcell hfree hlt hle hq hm hs hx hwj
  go_wp2_with (first | (refine wpList_load_row rfl 92 _ rfl w2.heap.size rfl 92 (rowOf fun k => if k = j.toNat then z else byteN s d p sp dp k) (0, 0) _ HR4.out Tryd.underlying92 rfl HI3.out ?_) | (go_at_call 58; refine (of_row _ hb.out _).mono ?_; rintro e w5 ⟨rfl, hb5⟩; have HA5 := Aside0.mk (blk_below HA4.out hb5); have HW5 := Aside0.mk (HW4.out.trans (hb5.mono HW4.out.size)); clear hb5) | (refine wpList_store_row rfl 91 _ _ rfl (w.heap.size + 1) #[.int .u32 (ofN (fun k => if k = j.toNat then z else byteN s d p sp dp k)).1, .int .u32 (ofN (fun k => if k = j.toNat then z else byteN s d p sp dp k)).2.1, .int .u8 (ofN (fun k => if k = j.toNat then z else byteN s d p sp dp k)).2.2.1, .int .u16 (ofN (fun k => if k = j.toNat then z else byteN s d p sp dp k)).2.2.2.1, .int .u16 (ofN (fun k => if k = j.toNat then z else byteN s d p sp dp k)).2.2.2.2] rfl rfl 91 #[.int .u32 0, .int .u32 0, .int .u8 0, .int .u16 0, .int .u16 0] HA5.out HI.out rfl HO.out ?_))
  have hq := setRow_heap w5 (w.heap.size + 1) _ #[.int .u32 (ofN (fun k => if k = j.toNat then z else byteN s d p sp dp k)).1, .int .u32 (ofN (fun k => if k = j.toNat then z else byteN s d p sp dp k)).2.1, .int .u8 (ofN (fun k => if k = j.toNat then z else byteN s d p sp dp k)).2.2.1, .int .u16 (ofN (fun k => if k = j.toNat then z else byteN s d p sp dp k)).2.2.2.1, .int .u16 (ofN (fun k => if k = j.toNat then z else byteN s d p sp dp k)).2.2.2.2] 91 (0, 0) HA5.out
  have k0 := blk_cell hq 0
  simp at k0
  have k1 := blk_cell hq 1
  simp at k1
  have k2 := blk_cell hq 2
  simp at k2
  have k3 := blk_cell hq 3
  simp at k3
  have k4 := blk_cell hq 4
  simp at k4
  clear hq
  refine bodyPost_ret (v := .tuple #[.agg #[.int .u32 (ofN (fun k => if k = j.toNat then z else byteN s d p sp dp k)).1, .int .u32 (ofN (fun k => if k = j.toNat then z else byteN s d p sp dp k)).2.1, .int .u8 (ofN (fun k => if k = j.toNat then z else byteN s d p sp dp k)).2.2.1, .int .u16 (ofN (fun k => if k = j.toNat then z else byteN s d p sp dp k)).2.2.2.1, .int .u16 (ofN (fun k => if k = j.toNat then z else byteN s d p sp dp k)).2.2.2.2], .int .i64 0]) ?_ rfl ⟨rfl, below_setRow HW5.out (by omega) _⟩
  unfold results
  go_simp
theorem xor_set : ∀ v : Nat, v < 256 → ∀ m : Nat, m < 8 → ∀ b : Bool, ((v : Int) / 2 ^ (7 - m) % 2 == 1) ≠ b → bits .xor .u8 (v : Int) (128 / 2 ^ m) = setB v m b := by decide +kernel
theorem bit_f (s d p sp dp i : Int) (hp : 0 ≤ p ∧ p ≤ 255) (h0 : 0 ≤ i) (h1 : i < 104) : header_Bit.f s d p sp dp i = some (bitT (s, d, p, sp, dp) i.toNat, 0) := by
  unfold header_Bit.f
  rw [if_neg (by omega), if_pos hp]
  unfold bitT byteT
  rw [show (i / 8).toNat = i.toNat / 8 by omega, show (7 - i % 8).toNat = 7 - i.toNat % 8 by omega]
def header_With.f (s d p sp dp i : Int) (b : Bool) : Option (Int × Int × Int × Int × Int × Int) :=
  if i < 0 ∨ 104 ≤ i then some (0, 0, 0, 0, 0, 1) else if (0 ≤ s ∧ s ≤ 4294967295) ∧ (0 ≤ d ∧ d ≤ 4294967295) ∧ (0 ≤ p ∧ p ≤ 255) ∧ (0 ≤ sp ∧ sp ≤ 65535) ∧ (0 ≤ dp ∧ dp ≤ 65535) then
    some ((withT (s, d, p, sp, dp) i.toNat b).1, (withT (s, d, p, sp, dp) i.toNat b).2.1, (withT (s, d, p, sp, dp) i.toNat b).2.2.1, (withT (s, d, p, sp, dp) i.toNat b).2.2.2.1, (withT (s, d, p, sp, dp) i.toNat b).2.2.2.2, 0) else none
theorem header_With.calls (s d p sp dp i : Int) (b : Bool) (r1 r2 r3 r4 r5 r6 : Int) (w : World) (h : header_With.f s d p sp dp i b = some (r1, r2, r3, r4, r5, r6)) :
    Calls Tryd.prog 61 #[.agg #[.int .u32 s, .int .u32 d, .int .u8 p, .int .u16 sp, .int .u16 dp], .int .i64 i, .bool b] w fun e w' => e = .returned (.tuple #[.agg #[.int .u32 r1, .int .u32 r2, .int .u8 r3, .int .u16 r4, .int .u16 r5], .int .i64 r6]) ∧ Below w.heap.size w w' := by
  unfold header_With.f at h
  by_cases h0 : i < 0 ∨ 104 ≤ i
  · rw [if_pos h0] at h
    simp only [Option.some.injEq, Prod.mk.injEq] at h
    obtain ⟨rfl, rfl, rfl, rfl, rfl, rfl⟩ := h
    exact with_out s d p sp dp i b w h0
  · rw [if_neg h0] at h
    by_cases hr : (0 ≤ s ∧ s ≤ 4294967295) ∧ (0 ≤ d ∧ d ≤ 4294967295) ∧ (0 ≤ p ∧ p ≤ 255) ∧ (0 ≤ sp ∧ sp ≤ 65535) ∧ (0 ≤ dp ∧ dp ≤ 65535)
    · rw [if_pos hr] at h
      simp only [Option.some.injEq, Prod.mk.injEq] at h
      obtain ⟨rfl, rfl, rfl, rfl, rfl, rfl⟩ := h
      have hI : InT (s, d, p, sp, dp) := ⟨hr.1, hr.2.1, hr.2.2.1, hr.2.2.2.1, hr.2.2.2.2⟩
      have hb := bit_f s d p sp dp i hr.2.2.1 (by omega) (by omega)
      by_cases e : bitT (s, d, p, sp, dp) i.toNat = b
      · rw [with_self hI _ _ e]
        rw [e] at hb
        exact with_same s d p sp dp i b w hb
      · have hv := byteN_range s d p sp dp hr.2.2.1 (i / 8).toNat
        obtain ⟨v, hv2⟩ : ∃ v : Nat, byteN s d p sp dp (i / 8).toNat = v := ⟨(byteN s d p sp dp (i / 8).toNat).toNat, by omega⟩
        have hm8 : (i % 8).toNat < 8 := by omega
        have e1 : (i / 8).toNat = i.toNat / 8 := by omega
        have e2 : (i % 8).toNat = i.toNat % 8 := by omega
        have hne : ((v : Int) / 2 ^ (7 - (i % 8).toNat) % 2 == 1) ≠ b := by
          rw [← hv2, e1, e2]; exact e
        have hx := xor_set v (by omega) (i % 8).toNat hm8 b hne
        have ht := with_turn s d p sp dp i b (bitT (s, d, p, sp, dp) i.toNat) (i / 8) (i % 8) v (128 / 2 ^ (i % 8).toNat) (setB v (i % 8).toNat b) w hb (by simpa using e) (.mk (by omega)) (.mk fun n => ?_)
          (Int.tdiv_eq_ediv_of_nonneg (by omega)) (IntWalk.i64_in _ ⟨by omega, by omega⟩) (Int.tmod_eq_emod_of_nonneg (by omega)) (.mk hv2) (shift_shr .u8 .i64 128 (i % 8) (by omega) (by show i % 8 ≤ 8; omega)) hx
        · have hw : withT (s, d, p, sp, dp) i.toNat b = ofN fun k => if k = (i / 8).toNat then setB v (i % 8).toNat b else byteN s d p sp dp k := by
            refine ofN_congr fun n _ => ?_
            rw [← e1, ← e2]
            by_cases q : n = (i / 8).toNat
            · rw [if_pos q, if_pos q, q, ← hv2]; rfl
            · rw [if_neg q, if_neg q]; rfl
          rw [hw]
          exact ht
        · by_cases q : n = (i / 8).toNat
          · rw [if_pos q]; exact setB_range (by omega) hm8 b
          · rw [if_neg q]; exact byteN_range s d p sp dp hr.2.2.1 n
    · rw [if_neg hr] at h; cases h


end Go.Proofs.YtbnihnggljagnaaDoor.QHeaderBack
