-- Written by this session's program (wip/tools/printx.py) over the kit's print; the texts marked HAND are its own. Lean checks it.
import Derived.Test.YtbnihnggljagnaaDoorQHeaderBackx0
import Derived.Test.YtbnihnggljagnaaDoorQHeaderBackx1
import Derived.Test.YtbnihnggljagnaaDoorQHeaderBackx2
import Derived.Test.YtbnihnggljagnaaDoorQHeaderBackx3
namespace Go.Proofs.YtbnihnggljagnaaDoor.QHeaderBack
open Go.RowKit Go.Proofs.YtbnihnggljagnaaDoorW.PrintWords Go.Proofs.YtbnihnggljagnaaDoorW.PrintLast Go.Proofs.YtbnihnggljagnaaDoorW.PrintMore
attribute [local go_sem] max2_int min2_int max_two min_two max_three min_three max_four min_four   -- for this text's walks alone
attribute [local go_sem high] Go.Proofs.YtbnihnggljagnaaDoor.Base.ux_u32 Go.Proofs.YtbnihnggljagnaaDoor.Base.ux_u64 Go.Proofs.YtbnihnggljagnaaDoor.Base.ux_u8 Go.Proofs.YtbnihnggljagnaaDoor.Base.ux_u16
set_option linter.unusedVariables false
set_option linter.unusedSimpArgs false

/-! ### waymarklaw03_HeaderBack: function 11 -/
open Go.Proofs.YtbnihnggljagnaaDoor.HdrMath
def backTab : Bool × List (List Nat × List Nat) := (true, [([], []), ([0], [0]), ([1], [1]), ([2], [2]), ([2], [2]), ([3, 4, 2, 2], [2, 3, 4]), ([5, 2], [2, 5]), ([2, 6], [2, 6]), ([7, 5], [7]), ([8], [8]), ([9, 8, 8], [8, 9]), ([10, 10, 8], [8, 10]), ([8], [8]), ([11, 12, 11, 8], [8, 11, 12]), ([13, 8], [8, 13]), ([8, 14], [8, 14]), ([15, 13], [15]), ([16], [16]), ([17, 16], [16, 17]), ([18, 16, 16], [16, 18]), ([19], [19]), ([20, 19, 19], [19, 20]), ([19], [19]), ([21, 22, 19], [19, 21, 22]), ([19, 23, 16], [16, 19, 23]), ([16, 24], [16, 24])])
theorem backTab_is : rtab .any (opsOf Tryd.f11 5) = backTab := by kernel_rfl
/-- The header, as far as the bits are set. -/
def backC (X : Int × Int × Int × Int × Int) (rb : Nat → Int) : Nat → Int × Int × Int × Int × Int
  | 0 => ofN rb
  | j + 1 => withT (backC X rb j) j (bitT X j)
theorem backC_in {X : Int × Int × Int × Int × Int} {rb : Nat → Int} (hrb : ∀ n, 0 ≤ rb n ∧ rb n ≤ 255) : ∀ j, InT (backC X rb j)
  | 0 => ofN_in hrb
  | j + 1 => with_in (backC_in hrb j) j _
theorem backC_bit {X : Int × Int × Int × Int × Int} {rb : Nat → Int} (hrb : ∀ n, 0 ≤ rb n ∧ rb n ≤ 255) (i : Nat) (hi : i < 104) : ∀ j, bitT (backC X rb j) i = if i < j then bitT X i else bitT (ofN rb) i
  | 0 => by rw [if_neg (by omega)]; rfl
  | j + 1 => by
    show bitT (withT (backC X rb j) j (bitT X j)) i = _
    rw [with_bit (backC_in hrb j) j _ i hi]
    by_cases e : i = j
    · subst e; rw [if_pos rfl, if_pos (by omega)]
    · rw [if_neg e, backC_bit hrb i hi j]
      by_cases h : i < j
      · rw [if_pos h, if_pos (by omega)]
      · rw [if_neg h, if_neg (by omega)]
theorem backC_end {X : Int × Int × Int × Int × Int} (hX : InT X) {rb : Nat → Int} (hrb : ∀ n, 0 ≤ rb n ∧ rb n ≤ 255) : backC X rb 104 = X :=
  ext_bits (backC_in hrb 104) hX fun j hj => by rw [backC_bit hrb j hj 104, if_pos hj]
theorem rawbit {rb : Nat → Int} (hrb : ∀ n, 0 ≤ rb n ∧ rb n ≤ 255) (i : Nat) (hi : i < 104) : bitT (ofN rb) i = (rb (i / 8) / 2 ^ (7 - i % 8) % 2 == 1) := by
  unfold bitT
  rw [byte_ofN hrb _ (by omega)]
theorem bytes_rowK (s d p sp dp : Int) (w : World) :
    Calls Tryd.prog 59 #[.agg #[.int .u32 s, .int .u32 d, .int .u8 p, .int .u16 sp, .int .u16 dp]] w fun e w' => e = .returned (.agg (rowOf (byteN s d p sp dp))) ∧ Below w.heap.size w w' := header_Bytes.calls s d p sp dp w
theorem byteT_is (s d p sp dp : Int) : byteT (s, d, p, sp, dp) = byteN s d p sp dp := by funext n; unfold byteT; rfl
theorem ofN_is {s d p sp dp : Int} (hX : InT (s, d, p, sp, dp)) : ofN (byteN s d p sp dp) = (s, d, p, sp, dp) := by
  rw [← byteT_is]
  exact ofN_byte hX
theorem of_back {s d p sp dp : Int} (hX : InT (s, d, p, sp, dp)) (w : World) : Calls Tryd.prog 58 #[.agg (rowOf (byteN s d p sp dp))] w fun e w' => e = .returned (.agg #[.int .u32 s, .int .u32 d, .int .u8 p, .int .u16 sp, .int .u16 dp]) ∧ Below w.heap.size w w' := by
  have h := of_row (byteN s d p sp dp) (byteN_range s d p sp dp hX.p) w
  have e := ofN_is hX
  refine Calls.mono h ?_
  intro e' w' h2
  rw [e] at h2
  exact h2
theorem bytes_sameB (l : ByteArray) (s : ByteArray) : (l.toList == s.toList) = decide (l = s) := by
  by_cases h : l = s
  · subst h; rw [decide_eq_true rfl]; exact beq_iff_eq.2 rfl
  · rw [decide_eq_false h]
    refine beq_eq_false_iff_ne.2 fun e => h ?_
    rw [ByteArray.toList_eq, ByteArray.toList_eq] at e
    exact ByteArray.ext (Array.toList_inj.1 e)
set_option maxRecDepth 100000 in
set_option maxHeartbeats 8000000 in
theorem back_calls (k : Nat) (s d p sp dp : Int) (x t : ByteArray) (rb : Nat → Int) (q1 q2 q3 q4 q5 ee : Int) (w : World) (hG : Go.Proofs.YtbnihnggljagnaaDoor.WorldA.GW w) (hX : InT (s, d, p, sp, dp)) (hrb : ∀ n, 0 ≤ rb n ∧ rb n ≤ 255)
    (h0 : waymarklaw03_works.f k = some true) (h1 : header_Text.f s d p sp dp = some t) (h2 : header_Parse.f k t = some (s, d, p, sp, dp, 0)) (h3 : header_Parse.f k x = some (q1, q2, q3, q4, q5, ee)) (h4 : ee = 0 → header_Text.f q1 q2 q3 q4 q5 = some x) (h5 : waymarklaw03_same.f s d p sp dp s d p sp dp = some true) :
    Calls Tryd.prog 11 #[.agg #[.int .u32 s, .int .u32 d, .int .u8 p, .int .u16 sp, .int .u16 dp], .string x, .agg (rowOf rb)] w fun e w' => e = .returned (.bool true) ∧ Below w.heap.size w w' := by
  have HG := Aside0.mk hG
  have HX := Aside0.mk hX
  have HRB := Aside0.mk hrb
  have A0 := Aside0.mk h0
  have A1 := Aside0.mk h1
  have A2 := Aside0.mk h2
  have A3 := Aside0.mk h3
  have A4 := Aside0.mk h4
  have A5 := Aside0.mk h5
  have HI := Aside0.mk (show (Tryd.prog.info? 91).map (·.size) = some 5 from by kernel_rfl)
  have HI3 := Aside0.mk (show (Tryd.prog.info? 92).map (·.size) = some 13 from by kernel_rfl)
  have HOH := Aside0.mk (show (#[.int .u32 s, .int .u32 d, .int .u8 p, .int .u16 sp, .int .u16 dp] : Array Value).all (·.oneCell') = true from by simp [Value.oneCell'])
  have HOQ := Aside0.mk (show (#[.int .u32 q1, .int .u32 q2, .int .u8 q3, .int .u16 q4, .int .u16 q5] : Array Value).all (·.oneCell') = true from by simp [Value.oneCell'])
  have FH := Aside0.mk (show ((w.alloc (.cells #[.int .u32 s, .int .u32 d, .int .u8 p, .int .u16 sp, .int .u16 dp] 91 (0, 0))).alloc (.cells (rowOf rb) 92 (0, 0))).heap[w.heap.size]? = some (.cells #[.int .u32 s, .int .u32 d, .int .u8 p, .int .u16 sp, .int .u16 dp] 91 (0, 0)) from blk_alloc (blk_new _ _) _)
  have FR := Aside0.mk (show ((w.alloc (.cells #[.int .u32 s, .int .u32 d, .int .u8 p, .int .u16 sp, .int .u16 dp] 91 (0, 0))).alloc (.cells (rowOf rb) 92 (0, 0))).heap[w.heap.size + 1]? = some (.cells (rowOf rb) 92 (0, 0)) from by have h := blk_new (w.alloc (.cells #[.int .u32 s, .int .u32 d, .int .u8 p, .int .u16 sp, .int .u16 dp] 91 (0, 0))) (.cells (rowOf rb) 92 (0, 0)); simpa using h)
  have FB := Aside0.mk (show Below w.heap.size w ((w.alloc (.cells #[.int .u32 s, .int .u32 d, .int .u8 p, .int .u16 sp, .int .u16 dp] 91 (0, 0))).alloc (.cells (rowOf rb) 92 (0, 0))) from ((Below.refl _ w).alloc (Nat.le_refl _) _).alloc (by simp) _)
  clear hG hX hrb h0 h1 h2 h3 h4 h5
  go_enter Tryd.func11, Tryd.ntmps11
  go_wp2_with (first | (go_at_call 54; refine (waymarklaw03_works.calls k true _ (Go.Proofs.YtbnihnggljagnaaDoor.WorldA.GW.below HG.out FB.out) A0.out).mono ?_; rintro e w1 ⟨rfl, hbx⟩; have HH1 := Aside0.mk (blk_below FH.out hbx); have HR1 := Aside0.mk (blk_below FR.out hbx); have HB1 := Aside0.mk (FB.out.trans (hbx.mono FB.out.size)); clear hbx) | (refine wpList_load_row rfl 91 _ rfl w.heap.size rfl 91 #[.int .u32 s, .int .u32 d, .int .u8 p, .int .u16 sp, .int .u16 dp] (0, 0) _ HH1.out Tryd.underlying91 rfl HI.out ?_) | (go_at_call 56; refine (header_Text.calls s d p sp dp t _ (Go.Proofs.YtbnihnggljagnaaDoor.WorldA.GW.below HG.out HB1.out) A1.out).mono ?_; rintro e w2 ⟨rfl, hbx⟩; have HH2 := Aside0.mk (blk_below HH1.out hbx); have HR2 := Aside0.mk (blk_below HR1.out hbx); have HB2 := Aside0.mk (HB1.out.trans (hbx.mono HB1.out.size)); clear hbx) | (go_at_call 55; (with_reducible refine (header_Parse.calls k t s d p sp dp 0 _ (Go.Proofs.YtbnihnggljagnaaDoor.WorldA.GW.below HG.out HB2.out) A2.out).mono ?_); rintro e w3 ⟨rfl, hbx⟩; have HH3 := Aside0.mk (blk_below HH2.out hbx); have HR3 := Aside0.mk (blk_below HR2.out hbx); have HB3 := Aside0.mk (HB2.out.trans (hbx.mono HB2.out.size)); clear hbx) | (refine wpList_store_row rfl 91 _ _ rfl w3.heap.size (#[.int .u32 s, .int .u32 d, .int .u8 p, .int .u16 sp, .int .u16 dp]) rfl rfl 91 #[.int .u32 0, .int .u32 0, .int .u8 0, .int .u16 0, .int .u16 0] (blk_new w3 _) HI.out rfl HOH.out ?_; have HA4 := Aside0.mk (setRow_heap (w3.alloc (.cells #[.int .u32 0, .int .u32 0, .int .u8 0, .int .u16 0, .int .u16 0] 91 (0, 0))) w3.heap.size _ (#[.int .u32 s, .int .u32 d, .int .u8 p, .int .u16 sp, .int .u16 dp]) 91 (0, 0) (blk_new w3 _)); have HH4 := Aside0.mk ((setRow_other (w3.alloc (.cells #[.int .u32 0, .int .u32 0, .int .u8 0, .int .u16 0, .int .u16 0] 91 (0, 0))) w3.heap.size w.heap.size (#[.int .u32 s, .int .u32 d, .int .u8 p, .int .u16 sp, .int .u16 dp]) (by have := blk_lt HH3.out; omega)).trans (blk_alloc HH3.out _)); have HR4 := Aside0.mk ((setRow_other (w3.alloc (.cells #[.int .u32 0, .int .u32 0, .int .u8 0, .int .u16 0, .int .u16 0] 91 (0, 0))) w3.heap.size (w.heap.size + 1) (#[.int .u32 s, .int .u32 d, .int .u8 p, .int .u16 sp, .int .u16 dp]) (by have := blk_lt HR3.out; omega)).trans (blk_alloc HR3.out _)); have HB4 := Aside0.mk (below_setRow (HB3.out.alloc HB3.out.size (.cells #[.int .u32 0, .int .u32 0, .int .u8 0, .int .u16 0, .int .u16 0] 91 (0, 0))) HB3.out.size (#[.int .u32 s, .int .u32 d, .int .u8 p, .int .u16 sp, .int .u16 dp]))) | (go_at_call 55; (with_reducible refine (header_Parse.calls k x q1 q2 q3 q4 q5 ee _ (Go.Proofs.YtbnihnggljagnaaDoor.WorldA.GW.below HG.out HB4.out) A3.out).mono ?_); rintro e w5 ⟨rfl, hbx⟩; have HH5 := Aside0.mk (blk_below HH4.out hbx); have HR5 := Aside0.mk (blk_below HR4.out hbx); have HA5 := Aside0.mk (blk_below HA4.out hbx); have HB5 := Aside0.mk (HB4.out.trans (hbx.mono HB4.out.size)); clear hbx) | (refine wpList_store_row rfl 91 _ _ rfl w5.heap.size (#[.int .u32 q1, .int .u32 q2, .int .u8 q3, .int .u16 q4, .int .u16 q5]) rfl rfl 91 #[.int .u32 0, .int .u32 0, .int .u8 0, .int .u16 0, .int .u16 0] (blk_new w5 _) HI.out rfl HOQ.out ?_; have HQ6 := Aside0.mk (setRow_heap (w5.alloc (.cells #[.int .u32 0, .int .u32 0, .int .u8 0, .int .u16 0, .int .u16 0] 91 (0, 0))) w5.heap.size _ (#[.int .u32 q1, .int .u32 q2, .int .u8 q3, .int .u16 q4, .int .u16 q5]) 91 (0, 0) (blk_new w5 _)); have HH6 := Aside0.mk ((setRow_other (w5.alloc (.cells #[.int .u32 0, .int .u32 0, .int .u8 0, .int .u16 0, .int .u16 0] 91 (0, 0))) w5.heap.size w.heap.size (#[.int .u32 q1, .int .u32 q2, .int .u8 q3, .int .u16 q4, .int .u16 q5]) (by have := blk_lt HH5.out; omega)).trans (blk_alloc HH5.out _)); have HR6 := Aside0.mk ((setRow_other (w5.alloc (.cells #[.int .u32 0, .int .u32 0, .int .u8 0, .int .u16 0, .int .u16 0] 91 (0, 0))) w5.heap.size (w.heap.size + 1) (#[.int .u32 q1, .int .u32 q2, .int .u8 q3, .int .u16 q4, .int .u16 q5]) (by have := blk_lt HR5.out; omega)).trans (blk_alloc HR5.out _)); have HA6 := Aside0.mk ((setRow_other (w5.alloc (.cells #[.int .u32 0, .int .u32 0, .int .u8 0, .int .u16 0, .int .u16 0] 91 (0, 0))) w5.heap.size w3.heap.size (#[.int .u32 q1, .int .u32 q2, .int .u8 q3, .int .u16 q4, .int .u16 q5]) (by have := blk_lt HA5.out; omega)).trans (blk_alloc HA5.out _)); have HB6 := Aside0.mk (below_setRow (HB5.out.alloc HB5.out.size (.cells #[.int .u32 0, .int .u32 0, .int .u8 0, .int .u16 0, .int .u16 0] 91 (0, 0))) HB5.out.size (#[.int .u32 q1, .int .u32 q2, .int .u8 q3, .int .u16 q4, .int .u16 q5]))))
  (try simp only [Act.put, List.setIfInBounds_toArray, List.set_cons_succ, List.set_cons_zero])
  generalize ((w5.alloc (.cells #[.int .u32 0, .int .u32 0, .int .u8 0, .int .u16 0, .int .u16 0] 91 (0, 0))).setRow w5.heap.size #[.int .u32 q1, .int .u32 q2, .int .u8 q3, .int .u16 q4, .int .u16 q5]) = W at HH6 HR6 HA6 HQ6 HB6 ⊢
  refine start_ (n := 26) (S := fun w' => Below W.heap.size W w') (ds := []) #[false, false, false, false, false, false, false, false, false, false, false, false, false, false, false, false, false, false, false, false, false, false, false, false, false, false] (by kernel_rfl) rfl rfl (below_drew1 (Below.refl _ _)) (fun hS => ?_); refine with_tab backTab_is (fun HT_ => ?_)
  generalize W.drew = w0 at hS ⊢
  have HS := Aside0.mk hS
  clear hS
  refine pure_ (i := 0) (N := some 30) (v := ?_) (a' := ?_) #[true, false, false, false, false, false, false, false, false, false, false, false, false, false, false, false, false, false, false, false, false, false, false, false, false, false] rfl rfl (any_of HT_.out (by kernel_rfl)) (fun _ _ _ h => h) (Or.inl ⟨by rfl, ?_⟩) ?_ ?_
  rotate_left
  · intro w'
    go_simp
    try with_reducible rfl
  rotate_left
  · simp only [Act.put, List.setIfInBounds_toArray, List.set_cons_zero, List.set_cons_succ, i64_w, i32_w]
    rfl
  refine pure_ (i := 1) (N := some 31) (v := ?_) (a' := ?_) #[true, true, false, false, false, false, false, false, false, false, false, false, false, false, false, false, false, false, false, false, false, false, false, false, false, false] rfl rfl (any_of HT_.out (by kernel_rfl)) (fun _ _ _ h => h) (Or.inl ⟨by rfl, ?_⟩) ?_ ?_
  rotate_left
  · intro w'
    go_simp
    try with_reducible rfl
  rotate_left
  · simp only [Act.put, List.setIfInBounds_toArray, List.set_cons_zero, List.set_cons_succ, i64_w, i32_w]
    rfl
  refine pure_ (i := 2) (N := some 32) (v := ?_) (a' := ?_) #[true, true, true, false, false, false, false, false, false, false, false, false, false, false, false, false, false, false, false, false, false, false, false, false, false, false] rfl rfl (any_of HT_.out (by kernel_rfl)) (fun _ _ _ h => h) (Or.inl ⟨by rfl, ?_⟩) ?_ ?_
  rotate_left
  · intro w'
    go_simp
    try with_reducible rfl
  rotate_left
  · simp only [Act.put, List.setIfInBounds_toArray, List.set_cons_zero, List.set_cons_succ, i64_w, i32_w]
    rfl
  refine take_ (i := 3) (N := some 33) (v := .agg (#[.int .u32 s, .int .u32 d, .int .u8 p, .int .u16 sp, .int .u16 dp])) (a' := ?_) #[true, true, true, true, false, false, false, false, false, false, false, false, false, false, false, false, false, false, false, false, false, false, false, false, false, false] rfl rfl (take_of HT_.out (by kernel_rfl)) (fun _ _ _ h => h) (Or.inl ⟨by rfl, ?_⟩) HS.out ?_ ?_
  · exact fun w' hS => run_load_row 91 _ rfl w3.heap.size rfl 91 (#[.int .u32 s, .int .u32 d, .int .u8 p, .int .u16 sp, .int .u16 dp]) (0, 0) _ (blk_below HA6.out hS) Tryd.underlying91 rfl HI.out
  rotate_left
  · simp only [Act.put, List.setIfInBounds_toArray, List.set_cons_zero, List.set_cons_succ, i64_w, i32_w]
    rfl
  refine take_ (i := 4) (N := some 34) (v := .agg (#[.int .u32 s, .int .u32 d, .int .u8 p, .int .u16 sp, .int .u16 dp])) (a' := ?_) #[true, true, true, true, true, false, false, false, false, false, false, false, false, false, false, false, false, false, false, false, false, false, false, false, false, false] rfl rfl (take_of HT_.out (by kernel_rfl)) (fun _ _ _ h => h) (Or.inl ⟨by rfl, ?_⟩) HS.out ?_ ?_
  · exact fun w' hS => run_load_row 91 _ rfl w.heap.size rfl 91 (#[.int .u32 s, .int .u32 d, .int .u8 p, .int .u16 sp, .int .u16 dp]) (0, 0) _ (blk_below HH6.out hS) Tryd.underlying91 rfl HI.out
  rotate_left
  · simp only [Act.put, List.setIfInBounds_toArray, List.set_cons_zero, List.set_cons_succ, i64_w, i32_w]
    rfl
  refine one_ (i := 5) (N := some 35) #[true, true, true, true, true, true, false, false, false, false, false, false, false, false, false, false, false, false, false, false, false, false, false, false, false, false] rfl rfl (one_of HT_.out (by kernel_rfl)) (by decide) (fun K hK => ?_)
  refine goes_ Tryd.func57 (by kernel_rfl) rfl #[.agg #[.int .u32 s, .int .u32 d, .int .u8 p, .int .u16 sp, .int .u16 dp], .agg #[.int .u32 s, .int .u32 d, .int .u8 p, .int .u16 sp, .int .u16 dp]] (by rfl) rfl rfl (by (try simp only [List.map_toArray, List.map_cons, List.map_nil]); first | done | rfl) ?_
  have HGn := Aside0.mk (Go.Proofs.YtbnihnggljagnaaDoor.WorldA.GW.below HG.out (HB6.out.trans (HS.out.mono HB6.out.size)))
  refine (waymarklaw03_same.calls s d p sp dp s d p sp dp true _ A5.out).mono ?_
  rintro e v5 ⟨rfl, hbx⟩
  refine ⟨_, rfl, ?_⟩
  have HSn := Aside0.mk (HS.out.trans (hbx.mono HS.out.size))
  clear hbx HS HGn
  refine hK.out _ _ HSn.out (fun _ => ?_)
  clear hK K
  have HS := HSn
  clear HSn
  refine norm_ (a' := ?_) ?_ ?_
  rotate_left
  · show Act.put _ (some 35) _ = _
    simp only [Act.put, List.setIfInBounds_toArray, List.set_cons_zero, List.set_cons_succ, i64_w, i32_w]
    rfl
  refine pure_ (i := 6) (N := some 36) (v := ?_) (a' := ?_) #[true, true, true, true, true, true, true, false, false, false, false, false, false, false, false, false, false, false, false, false, false, false, false, false, false, false] rfl rfl (any_of HT_.out (by kernel_rfl)) (fun _ _ _ h => h) (Or.inl ⟨by rfl, ?_⟩) ?_ ?_
  rotate_left
  · intro w'
    go_simp
    try with_reducible rfl
  rotate_left
  · simp only [Act.put, List.setIfInBounds_toArray, List.set_cons_zero, List.set_cons_succ, i64_w, i32_w]
    rfl
  refine pure_ (i := 7) (N := some 37) (v := ?_) (a' := ?_) #[true, true, true, true, true, true, true, true, false, false, false, false, false, false, false, false, false, false, false, false, false, false, false, false, false, false] rfl rfl (any_of HT_.out (by kernel_rfl)) (fun _ _ _ h => h) (Or.inl ⟨by rfl, ?_⟩) ?_ ?_
  rotate_left
  · intro w'
    go_simp
    try with_reducible rfl
  rotate_left
  · simp only [Act.put, List.setIfInBounds_toArray, List.set_cons_zero, List.set_cons_succ, i64_w, i32_w]
    rfl
  refine pure_ (i := 8) (N := some 38) (v := ?_) (a' := ?_) #[true, true, true, true, true, true, true, true, true, false, false, false, false, false, false, false, false, false, false, false, false, false, false, false, false, false] rfl rfl (any_of HT_.out (by kernel_rfl)) (fun _ _ _ h => h) (Or.inl ⟨by rfl, ?_⟩) ?_ ?_
  rotate_left
  · intro w'
    go_simp
    try with_reducible rfl
  rotate_left
  · simp only [Act.put, List.setIfInBounds_toArray, List.set_cons_zero, List.set_cons_succ, i64_w, i32_w]
    rfl
  refine take_ (i := 9) (N := some 39) (v := .agg (#[.int .u32 s, .int .u32 d, .int .u8 p, .int .u16 sp, .int .u16 dp])) (a' := ?_) #[true, true, true, true, true, true, true, true, true, true, false, false, false, false, false, false, false, false, false, false, false, false, false, false, false, false] rfl rfl (take_of HT_.out (by kernel_rfl)) (fun _ _ _ h => h) (Or.inl ⟨by rfl, ?_⟩) HS.out ?_ ?_
  · exact fun w' hS => run_load_row 91 _ rfl w.heap.size rfl 91 (#[.int .u32 s, .int .u32 d, .int .u8 p, .int .u16 sp, .int .u16 dp]) (0, 0) _ (blk_below HH6.out hS) Tryd.underlying91 rfl HI.out
  rotate_left
  · simp only [Act.put, List.setIfInBounds_toArray, List.set_cons_zero, List.set_cons_succ, i64_w, i32_w]
    rfl
  refine take_ (i := 12) (N := some 42) (v := .agg (#[.int .u32 s, .int .u32 d, .int .u8 p, .int .u16 sp, .int .u16 dp])) (a' := ?_) #[true, true, true, true, true, true, true, true, true, true, false, false, true, false, false, false, false, false, false, false, false, false, false, false, false, false] rfl rfl (take_of HT_.out (by kernel_rfl)) (fun _ _ _ h => h) (Or.inl ⟨by rfl, ?_⟩) HS.out ?_ ?_
  · exact fun w' hS => run_load_row 91 _ rfl w.heap.size rfl 91 (#[.int .u32 s, .int .u32 d, .int .u8 p, .int .u16 sp, .int .u16 dp]) (0, 0) _ (blk_below HH6.out hS) Tryd.underlying91 rfl HI.out
  rotate_left
  · simp only [Act.put, List.setIfInBounds_toArray, List.set_cons_zero, List.set_cons_succ, i64_w, i32_w]
    rfl
  refine one_ (i := 10) (N := some 40) #[true, true, true, true, true, true, true, true, true, true, true, false, true, false, false, false, false, false, false, false, false, false, false, false, false, false] rfl rfl (one_of HT_.out (by kernel_rfl)) (by decide) (fun K hK => ?_)
  refine goes_ Tryd.func59 (by kernel_rfl) rfl #[.agg #[.int .u32 s, .int .u32 d, .int .u8 p, .int .u16 sp, .int .u16 dp]] (by rfl) rfl rfl (by (try simp only [List.map_toArray, List.map_cons, List.map_nil]); first | done | rfl) ?_
  have HGn := Aside0.mk (Go.Proofs.YtbnihnggljagnaaDoor.WorldA.GW.below HG.out (HB6.out.trans (HS.out.mono HB6.out.size)))
  refine (bytes_rowK s d p sp dp _).mono ?_
  rintro e v10 ⟨rfl, hbx⟩
  refine ⟨_, rfl, ?_⟩
  have HSn := Aside0.mk (HS.out.trans (hbx.mono HS.out.size))
  clear hbx HS HGn
  refine hK.out _ _ HSn.out (fun _ => ?_)
  clear hK K
  have HS := HSn
  clear HSn
  refine norm_ (a' := ?_) ?_ ?_
  rotate_left
  · show Act.put _ (some 40) _ = _
    simp only [Act.put, List.setIfInBounds_toArray, List.set_cons_zero, List.set_cons_succ, i64_w, i32_w]
    rfl
  refine one_ (i := 11) (N := some 41) #[true, true, true, true, true, true, true, true, true, true, true, true, true, false, false, false, false, false, false, false, false, false, false, false, false, false] rfl rfl (one_of HT_.out (by kernel_rfl)) (by decide) (fun K hK => ?_)
  refine goes_ Tryd.func58 (by kernel_rfl) rfl #[.agg (rowOf (byteN s d p sp dp))] (by rfl) rfl rfl (by (try simp only [List.map_toArray, List.map_cons, List.map_nil]); first | done | rfl) ?_
  have HGn := Aside0.mk (Go.Proofs.YtbnihnggljagnaaDoor.WorldA.GW.below HG.out (HB6.out.trans (HS.out.mono HB6.out.size)))
  refine (of_back HX.out _).mono ?_
  rintro e v11 ⟨rfl, hbx⟩
  refine ⟨_, rfl, ?_⟩
  have HSn := Aside0.mk (HS.out.trans (hbx.mono HS.out.size))
  clear hbx HS HGn
  refine hK.out _ _ HSn.out (fun _ => ?_)
  clear hK K
  have HS := HSn
  clear HSn
  refine norm_ (a' := ?_) ?_ ?_
  rotate_left
  · show Act.put _ (some 41) _ = _
    simp only [Act.put, List.setIfInBounds_toArray, List.set_cons_zero, List.set_cons_succ, i64_w, i32_w]
    rfl
  refine one_ (i := 13) (N := some 43) #[true, true, true, true, true, true, true, true, true, true, true, true, true, true, false, false, false, false, false, false, false, false, false, false, false, false] rfl rfl (one_of HT_.out (by kernel_rfl)) (by decide) (fun K hK => ?_)
  refine goes_ Tryd.func57 (by kernel_rfl) rfl #[.agg #[.int .u32 s, .int .u32 d, .int .u8 p, .int .u16 sp, .int .u16 dp], .agg #[.int .u32 s, .int .u32 d, .int .u8 p, .int .u16 sp, .int .u16 dp]] (by rfl) rfl rfl (by (try simp only [List.map_toArray, List.map_cons, List.map_nil]); first | done | rfl) ?_
  have HGn := Aside0.mk (Go.Proofs.YtbnihnggljagnaaDoor.WorldA.GW.below HG.out (HB6.out.trans (HS.out.mono HB6.out.size)))
  refine (waymarklaw03_same.calls s d p sp dp s d p sp dp true _ A5.out).mono ?_
  rintro e v13 ⟨rfl, hbx⟩
  refine ⟨_, rfl, ?_⟩
  have HSn := Aside0.mk (HS.out.trans (hbx.mono HS.out.size))
  clear hbx HS HGn
  refine hK.out _ _ HSn.out (fun _ => ?_)
  clear hK K
  have HS := HSn
  clear HSn
  refine norm_ (a' := ?_) ?_ ?_
  rotate_left
  · show Act.put _ (some 43) _ = _
    simp only [Act.put, List.setIfInBounds_toArray, List.set_cons_zero, List.set_cons_succ, i64_w, i32_w]
    rfl
  refine pure_ (i := 14) (N := some 44) (v := ?_) (a' := ?_) #[true, true, true, true, true, true, true, true, true, true, true, true, true, true, true, false, false, false, false, false, false, false, false, false, false, false] rfl rfl (any_of HT_.out (by kernel_rfl)) (fun _ _ _ h => h) (Or.inl ⟨by rfl, ?_⟩) ?_ ?_
  rotate_left
  · intro w'
    go_simp
    try with_reducible rfl
  rotate_left
  · simp only [Act.put, List.setIfInBounds_toArray, List.set_cons_zero, List.set_cons_succ, i64_w, i32_w]
    rfl
  refine pure_ (i := 15) (N := some 45) (v := ?_) (a' := ?_) #[true, true, true, true, true, true, true, true, true, true, true, true, true, true, true, true, false, false, false, false, false, false, false, false, false, false] rfl rfl (any_of HT_.out (by kernel_rfl)) (fun _ _ _ h => h) (Or.inl ⟨by rfl, ?_⟩) ?_ ?_
  rotate_left
  · intro w'
    go_simp
    try with_reducible rfl
  rotate_left
  · simp only [Act.put, List.setIfInBounds_toArray, List.set_cons_zero, List.set_cons_succ, i64_w, i32_w]
    rfl
  refine pure_ (i := 16) (N := some 46) (v := ?_) (a' := ?_) #[true, true, true, true, true, true, true, true, true, true, true, true, true, true, true, true, true, false, false, false, false, false, false, false, false, false] rfl rfl (any_of HT_.out (by kernel_rfl)) (fun _ _ _ h => h) (Or.inl ⟨by rfl, ?_⟩) ?_ ?_
  rotate_left
  · intro w'
    go_simp
    try with_reducible rfl
  rotate_left
  · simp only [Act.put, List.setIfInBounds_toArray, List.set_cons_zero, List.set_cons_succ, i64_w, i32_w]
    rfl
  refine join_ (σ := Value × Value × Value × Value × Value × Value × Value) 0 #[true, true, true, true, true, true, true, true, true, true, true, true, true, true, true, true, true, true, true, true, true, true, true, true, true, true] (fun s_ => [(47, s_.1), (48, s_.2.1), (49, s_.2.2.1), (50, s_.2.2.2.1), (51, s_.2.2.2.2.1), (52, s_.2.2.2.2.2.1), (53, s_.2.2.2.2.2.2), (54, .bool false), (55, .bool false)]) (fun s_ w' => Below W.heap.size W w') ?_ ?_
  rotate_left
  · intro hCont
    by_cases hee : ee = 0
    · have A6 := Aside0.mk (A4.out hee)
      subst hee
      have hxx := bytes_sameB x x
      rw [decide_eq_true rfl] at hxx
      refine pure_ (i := 17) (N := some 47) (v := ?_) (a' := ?_) #[true, true, true, true, true, true, true, true, true, true, true, true, true, true, true, true, true, true, false, false, false, false, false, false, false, false] rfl rfl (any_of HT_.out (by kernel_rfl)) (fun _ _ _ h => h) (Or.inl ⟨by rfl, ?_⟩) ?_ ?_
      rotate_left
      · intro w'
        go_simp
        try with_reducible rfl
      rotate_left
      · simp only [Act.put, List.setIfInBounds_toArray, List.set_cons_zero, List.set_cons_succ, i64_w, i32_w]
        rfl
      refine pure_ (i := 18) (N := some 48) (v := ?_) (a' := ?_) #[true, true, true, true, true, true, true, true, true, true, true, true, true, true, true, true, true, true, true, false, false, false, false, false, false, false] rfl rfl (any_of HT_.out (by kernel_rfl)) (fun _ _ _ h => h) (Or.inl ⟨by rfl, ?_⟩) ?_ ?_
      rotate_left
      · intro w'
        go_simp
        try with_reducible rfl
      rotate_left
      · simp only [Act.put, List.setIfInBounds_toArray, List.set_cons_zero, List.set_cons_succ, i64_w, i32_w]
        rfl
      refine pure_ (i := 19) (N := some 49) (v := ?_) (a' := ?_) #[true, true, true, true, true, true, true, true, true, true, true, true, true, true, true, true, true, true, true, true, false, false, false, false, false, false] rfl rfl (any_of HT_.out (by kernel_rfl)) (fun _ _ _ h => h) (Or.inl ⟨by rfl, ?_⟩) ?_ ?_
      rotate_left
      · intro w'
        go_simp
        try with_reducible rfl
      rotate_left
      · simp only [Act.put, List.setIfInBounds_toArray, List.set_cons_zero, List.set_cons_succ, i64_w, i32_w]
        rfl
      refine take_ (i := 20) (N := some 50) (v := .agg (#[.int .u32 q1, .int .u32 q2, .int .u8 q3, .int .u16 q4, .int .u16 q5])) (a' := ?_) #[true, true, true, true, true, true, true, true, true, true, true, true, true, true, true, true, true, true, true, true, true, false, false, false, false, false] rfl rfl (take_of HT_.out (by kernel_rfl)) (fun _ _ _ h => h) (Or.inl ⟨by rfl, ?_⟩) HS.out ?_ ?_
      · exact fun w' hS => run_load_row 91 _ rfl w5.heap.size rfl 91 (#[.int .u32 q1, .int .u32 q2, .int .u8 q3, .int .u16 q4, .int .u16 q5]) (0, 0) _ (blk_below HQ6.out hS) Tryd.underlying91 rfl HI.out
      rotate_left
      · simp only [Act.put, List.setIfInBounds_toArray, List.set_cons_zero, List.set_cons_succ, i64_w, i32_w]
        rfl
      refine pure_ (i := 22) (N := some 52) (v := ?_) (a' := ?_) #[true, true, true, true, true, true, true, true, true, true, true, true, true, true, true, true, true, true, true, true, true, false, true, false, false, false] rfl rfl (any_of HT_.out (by kernel_rfl)) (fun _ _ _ h => h) (Or.inl ⟨by rfl, ?_⟩) ?_ ?_
      rotate_left
      · intro w'
        go_simp
        try with_reducible rfl
      rotate_left
      · simp only [Act.put, List.setIfInBounds_toArray, List.set_cons_zero, List.set_cons_succ, i64_w, i32_w]
        rfl
      refine one_ (i := 21) (N := some 51) #[true, true, true, true, true, true, true, true, true, true, true, true, true, true, true, true, true, true, true, true, true, true, true, false, false, false] rfl rfl (one_of HT_.out (by kernel_rfl)) (by decide) (fun K hK => ?_)
      refine goes_ Tryd.func56 (by kernel_rfl) rfl #[.agg #[.int .u32 q1, .int .u32 q2, .int .u8 q3, .int .u16 q4, .int .u16 q5]] (by rfl) rfl rfl (by (try simp only [List.map_toArray, List.map_cons, List.map_nil]); first | done | rfl) ?_
      have HGn := Aside0.mk (Go.Proofs.YtbnihnggljagnaaDoor.WorldA.GW.below HG.out (HB6.out.trans (HS.out.mono HB6.out.size)))
      refine (header_Text.calls q1 q2 q3 q4 q5 x _ HGn.out A6.out).mono ?_
      rintro e v21 ⟨rfl, hbx⟩
      refine ⟨_, rfl, ?_⟩
      have HSn := Aside0.mk (HS.out.trans (hbx.mono HS.out.size))
      clear hbx HS HGn
      refine hK.out _ _ HSn.out (fun _ => ?_)
      clear hK K
      have HS := HSn
      clear HSn
      refine norm_ (a' := ?_) ?_ ?_
      rotate_left
      · show Act.put _ (some 51) _ = _
        simp only [Act.put, List.setIfInBounds_toArray, List.set_cons_zero, List.set_cons_succ, i64_w, i32_w]
        rfl
      refine pure_ (i := 23) (N := some 53) (v := ?_) (a' := ?_) #[true, true, true, true, true, true, true, true, true, true, true, true, true, true, true, true, true, true, true, true, true, true, true, true, false, false] rfl rfl (any_of HT_.out (by kernel_rfl)) (fun _ _ _ h => h) (Or.inl ⟨by rfl, ?_⟩) ?_ ?_
      rotate_left
      · intro w'
        go_simp
        try with_reducible rfl
      rotate_left
      · simp only [Act.put, List.setIfInBounds_toArray, List.set_cons_zero, List.set_cons_succ, i64_w, i32_w]
        rfl
      refine pure_ (i := 24) (N := some 54) (v := ?_) (a' := ?_) #[true, true, true, true, true, true, true, true, true, true, true, true, true, true, true, true, true, true, true, true, true, true, true, true, true, false] rfl rfl (any_of HT_.out (by kernel_rfl)) (fun _ _ _ h => h) (Or.inl ⟨by rfl, ?_⟩) ?_ ?_
      rotate_left
      · intro w'
        go_simp
        try with_reducible rfl
      rotate_left
      · simp only [Act.put, List.setIfInBounds_toArray, List.set_cons_zero, List.set_cons_succ, i64_w, i32_w]
        rfl
      refine pure_ (i := 25) (N := some 55) (v := ?_) (a' := ?_) #[true, true, true, true, true, true, true, true, true, true, true, true, true, true, true, true, true, true, true, true, true, true, true, true, true, true] rfl rfl (any_of HT_.out (by kernel_rfl)) (fun _ _ _ h => h) (Or.inl ⟨by rfl, ?_⟩) ?_ ?_
      rotate_left
      · intro w'
        go_simp
        try with_reducible rfl
      rotate_left
      · simp only [Act.put, List.setIfInBounds_toArray, List.set_cons_zero, List.set_cons_succ, i64_w, i32_w]
        rfl
      exact norm_ (by simp only [putAll, Act.put, List.setIfInBounds_toArray, List.set_cons_zero, List.set_cons_succ]) (hCont (.int .i64 0, .bool true, .bool true, .agg #[.int .u32 q1, .int .u32 q2, .int .u8 q3, .int .u16 q4, .int .u16 q5], .string x, .string x, .bool false) _ HS.out)
    · have he1 : (ee == 0) = false := beq_eq_false_iff_ne.2 hee
      have he2 : (ee != 0) = true := bne_iff_ne.2 hee
      clear hee
      refine pure_ (i := 17) (N := some 47) (v := ?_) (a' := ?_) #[true, true, true, true, true, true, true, true, true, true, true, true, true, true, true, true, true, true, false, false, false, false, false, false, false, false] rfl rfl (any_of HT_.out (by kernel_rfl)) (fun _ _ _ h => h) (Or.inl ⟨by rfl, ?_⟩) ?_ ?_
      rotate_left
      · intro w'
        go_simp
        try with_reducible rfl
      rotate_left
      · simp only [Act.put, List.setIfInBounds_toArray, List.set_cons_zero, List.set_cons_succ, i64_w, i32_w]
        rfl
      refine pure_ (i := 18) (N := some 48) (v := ?_) (a' := ?_) #[true, true, true, true, true, true, true, true, true, true, true, true, true, true, true, true, true, true, true, false, false, false, false, false, false, false] rfl rfl (any_of HT_.out (by kernel_rfl)) (fun _ _ _ h => h) (Or.inl ⟨by rfl, ?_⟩) ?_ ?_
      rotate_left
      · intro w'
        go_simp
        try with_reducible rfl
      rotate_left
      · simp only [Act.put, List.setIfInBounds_toArray, List.set_cons_zero, List.set_cons_succ, i64_w, i32_w]
        rfl
      refine pure_ (i := 19) (N := some 49) (v := ?_) (a' := ?_) #[true, true, true, true, true, true, true, true, true, true, true, true, true, true, true, true, true, true, true, true, false, false, false, false, false, false] rfl rfl (any_of HT_.out (by kernel_rfl)) (fun _ _ _ h => h) (Or.inl ⟨by rfl, ?_⟩) ?_ ?_
      rotate_left
      · intro w'
        go_simp
        try with_reducible rfl
      rotate_left
      · simp only [Act.put, List.setIfInBounds_toArray, List.set_cons_zero, List.set_cons_succ, i64_w, i32_w]
        rfl
      refine pure_ (i := 20) (N := some 50) (v := undef) (a' := ?_) #[true, true, true, true, true, true, true, true, true, true, true, true, true, true, true, true, true, true, true, true, true, false, false, false, false, false] rfl rfl (any_of HT_.out (by kernel_rfl)) (fun _ _ _ h => h) (Or.inr ⟨by rfl, rfl⟩) ?_ ?_
      rotate_left
      · simp only [Act.put, List.setIfInBounds_toArray, List.set_cons_zero, List.set_cons_succ, i64_w, i32_w]
        rfl
      refine pure_ (i := 21) (N := some 51) (v := undef) (a' := ?_) #[true, true, true, true, true, true, true, true, true, true, true, true, true, true, true, true, true, true, true, true, true, true, false, false, false, false] rfl rfl (any_of HT_.out (by kernel_rfl)) (fun _ _ _ h => h) (Or.inr ⟨by rfl, rfl⟩) ?_ ?_
      rotate_left
      · simp only [Act.put, List.setIfInBounds_toArray, List.set_cons_zero, List.set_cons_succ, i64_w, i32_w]
        rfl
      refine pure_ (i := 22) (N := some 52) (v := undef) (a' := ?_) #[true, true, true, true, true, true, true, true, true, true, true, true, true, true, true, true, true, true, true, true, true, true, true, false, false, false] rfl rfl (any_of HT_.out (by kernel_rfl)) (fun _ _ _ h => h) (Or.inr ⟨by rfl, rfl⟩) ?_ ?_
      rotate_left
      · simp only [Act.put, List.setIfInBounds_toArray, List.set_cons_zero, List.set_cons_succ, i64_w, i32_w]
        rfl
      refine pure_ (i := 23) (N := some 53) (v := undef) (a' := ?_) #[true, true, true, true, true, true, true, true, true, true, true, true, true, true, true, true, true, true, true, true, true, true, true, true, false, false] rfl rfl (any_of HT_.out (by kernel_rfl)) (fun _ _ _ h => h) (Or.inr ⟨by rfl, rfl⟩) ?_ ?_
      rotate_left
      · simp only [Act.put, List.setIfInBounds_toArray, List.set_cons_zero, List.set_cons_succ, i64_w, i32_w]
        rfl
      refine pure_ (i := 24) (N := some 54) (v := ?_) (a' := ?_) #[true, true, true, true, true, true, true, true, true, true, true, true, true, true, true, true, true, true, true, true, true, true, true, true, true, false] rfl rfl (any_of HT_.out (by kernel_rfl)) (fun _ _ _ h => h) (Or.inl ⟨by rfl, ?_⟩) ?_ ?_
      rotate_left
      · intro w'
        go_simp
        try with_reducible rfl
      rotate_left
      · simp only [Act.put, List.setIfInBounds_toArray, List.set_cons_zero, List.set_cons_succ, i64_w, i32_w]
        rfl
      refine pure_ (i := 25) (N := some 55) (v := ?_) (a' := ?_) #[true, true, true, true, true, true, true, true, true, true, true, true, true, true, true, true, true, true, true, true, true, true, true, true, true, true] rfl rfl (any_of HT_.out (by kernel_rfl)) (fun _ _ _ h => h) (Or.inl ⟨by rfl, ?_⟩) ?_ ?_
      rotate_left
      · intro w'
        go_simp
        try with_reducible rfl
      rotate_left
      · simp only [Act.put, List.setIfInBounds_toArray, List.set_cons_zero, List.set_cons_succ, i64_w, i32_w]
        rfl
      exact norm_ (by simp only [putAll, Act.put, List.setIfInBounds_toArray, List.set_cons_zero, List.set_cons_succ]) (hCont (.int .i64 ee, .bool false, .bool false, undef, undef, undef, undef) _ HS.out)
  rintro ⟨x47, x48, x49, x50, x51, x52, x53⟩ W7 hS7
  refine done_ (done_of HT_.out (by kernel_rfl)) ?_
  have HH7 := Aside0.mk (blk_below HH6.out hS7)
  have HR7 := Aside0.mk (blk_below HR6.out hS7)
  have HB7 := Aside0.mk (HB6.out.trans (hS7.mono HB6.out.size))
  clear hS7 HS
  simp only [putAll, Act.put, List.setIfInBounds_toArray, List.set_cons_zero, List.set_cons_succ]
  have HOC := Aside0.mk (show (#[.int .u32 (ofN rb).1, .int .u32 (ofN rb).2.1, .int .u8 (ofN rb).2.2.1, .int .u16 (ofN rb).2.2.2.1, .int .u16 (ofN rb).2.2.2.2] : Array Value).all (·.oneCell') = true from by simp [Value.oneCell'])
  go_wp2_with (first | (refine wpList_load_row rfl 92 _ rfl (w.heap.size + 1) rfl 92 (rowOf rb) (0, 0) _ HR7.out Tryd.underlying92 rfl HI3.out ?_) | (go_at_call 58; refine (of_row rb HRB.out _).mono ?_; rintro e w8 ⟨rfl, hbx⟩; have HH8 := Aside0.mk (blk_below HH7.out hbx); have HR8 := Aside0.mk (blk_below HR7.out hbx); have HB8 := Aside0.mk (HB7.out.trans (hbx.mono HB7.out.size)); clear hbx) | (refine wpList_store_row rfl 91 _ _ rfl w8.heap.size (#[.int .u32 (ofN rb).1, .int .u32 (ofN rb).2.1, .int .u8 (ofN rb).2.2.1, .int .u16 (ofN rb).2.2.2.1, .int .u16 (ofN rb).2.2.2.2]) rfl rfl 91 #[.int .u32 0, .int .u32 0, .int .u8 0, .int .u16 0, .int .u16 0] (blk_new w8 _) HI.out rfl HOC.out ?_; have HC9 := Aside0.mk (setRow_heap (w8.alloc (.cells #[.int .u32 0, .int .u32 0, .int .u8 0, .int .u16 0, .int .u16 0] 91 (0, 0))) w8.heap.size _ (#[.int .u32 (ofN rb).1, .int .u32 (ofN rb).2.1, .int .u8 (ofN rb).2.2.1, .int .u16 (ofN rb).2.2.2.1, .int .u16 (ofN rb).2.2.2.2]) 91 (0, 0) (blk_new w8 _)); have HH9 := Aside0.mk ((setRow_other (w8.alloc (.cells #[.int .u32 0, .int .u32 0, .int .u8 0, .int .u16 0, .int .u16 0] 91 (0, 0))) w8.heap.size w.heap.size (#[.int .u32 (ofN rb).1, .int .u32 (ofN rb).2.1, .int .u8 (ofN rb).2.2.1, .int .u16 (ofN rb).2.2.2.1, .int .u16 (ofN rb).2.2.2.2]) (by have := blk_lt HH8.out; omega)).trans (blk_alloc HH8.out _)); have HR9 := Aside0.mk ((setRow_other (w8.alloc (.cells #[.int .u32 0, .int .u32 0, .int .u8 0, .int .u16 0, .int .u16 0] 91 (0, 0))) w8.heap.size (w.heap.size + 1) (#[.int .u32 (ofN rb).1, .int .u32 (ofN rb).2.1, .int .u8 (ofN rb).2.2.1, .int .u16 (ofN rb).2.2.2.1, .int .u16 (ofN rb).2.2.2.2]) (by have := blk_lt HR8.out; omega)).trans (blk_alloc HR8.out _)); have HB9 := Aside0.mk (below_setRow (HB8.out.alloc HB8.out.size (.cells #[.int .u32 0, .int .u32 0, .int .u8 0, .int .u16 0, .int .u16 0] 91 (0, 0))) HB8.out.size (#[.int .u32 (ofN rb).1, .int .u32 (ofN rb).2.1, .int .u8 (ofN rb).2.2.1, .int .u16 (ofN rb).2.2.2.1, .int .u16 (ofN rb).2.2.2.2]))))
  have HNE := Aside0.mk (show w.heap.size ≠ w8.heap.size ∧ w.heap.size + 1 ≠ w8.heap.size ∧ w.heap.size ≤ w8.heap.size by have h1 := blk_lt HH8.out; have h2 := blk_lt HR8.out; omega)
  clear HOC
  go_loopw [12] (fun i wr => ∃ j : Nat, Aside0 (j ≤ 104) ∧ i = .int .i64 (j : Int) ∧ Aside0 (wr.heap[w8.heap.size]? = some (.cells #[.int .u32 (backC (s, d, p, sp, dp) rb j).1, .int .u32 (backC (s, d, p, sp, dp) rb j).2.1, .int .u8 (backC (s, d, p, sp, dp) rb j).2.2.1, .int .u16 (backC (s, d, p, sp, dp) rb j).2.2.2.1, .int .u16 (backC (s, d, p, sp, dp) rb j).2.2.2.2] 91 (0, 0))) ∧ Aside0 (wr.heap[w.heap.size]? = some (.cells #[.int .u32 s, .int .u32 d, .int .u8 p, .int .u16 sp, .int .u16 dp] 91 (0, 0))) ∧ Aside0 (wr.heap[w.heap.size + 1]? = some (.cells (rowOf rb) 92 (0, 0))) ∧ Aside0 (Below w.heap.size w wr)) (fun i wr => 104 - (intOf i).toNat)
  case atStart => exact ⟨0, .mk (by omega), rfl, HC9, HH9, HR9, HB9⟩
  case round =>
    obtain ⟨j, hj, rfl, hc, hh, hr, hb⟩ := hrel
    by_cases hlt : j < 104
    · have HCI := Aside0.mk (backC_in (X := (s, d, p, sp, dp)) HRB.out j)
      have HCB := Aside0.mk ((backC_bit (X := (s, d, p, sp, dp)) HRB.out j hlt j).trans ((if_neg (Nat.lt_irrefl j)).trans (rawbit HRB.out j hlt)))
      have HSTEP := Aside0.mk (show backC (s, d, p, sp, dp) rb (j + 1) = withT (backC (s, d, p, sp, dp) rb j) j (bitT (s, d, p, sp, dp) j) from rfl)
      have HEND := Aside0.mk (backC_in (X := (s, d, p, sp, dp)) HRB.out (j + 1))
      obtain ⟨c2, hc2⟩ : ∃ c2, backC (s, d, p, sp, dp) rb (j + 1) = c2 := ⟨_, rfl⟩
      rw [hc2] at HSTEP HEND
      have HC2 := Aside0.mk hc2
      clear hc2
      generalize backC (s, d, p, sp, dp) rb j = c1 at hc HCI HCB HSTEP
      obtain ⟨I, hIj⟩ : ∃ I : Int, (j : Int) = I := ⟨_, rfl⟩
      have HIJ := Aside0.mk hIj
      have HTN := Aside0.mk (show I.toNat = j by omega)
      have h0I : 0 ≤ I := by omega
      have h1I : I ≤ 103 := by omega
      rw [hIj]
      obtain ⟨xb, hxb⟩ : ∃ b, bitT (s, d, p, sp, dp) j = b := ⟨_, rfl⟩
      obtain ⟨yb, hyb⟩ : ∃ b, bitT c1 j = b := ⟨_, rfl⟩
      have HBX := Aside0.mk (show header_Bit.f s d p sp dp I = some (xb, 0) from by rw [bit_f s d p sp dp I HX.out.p h0I (by omega), HTN.out, hxb])
      have HBY := Aside0.mk (show header_Bit.f c1.1 c1.2.1 c1.2.2.1 c1.2.2.2.1 c1.2.2.2.2 I = some (yb, 0) from by rw [bit_f _ _ _ _ _ I HCI.out.p h0I (by omega), HTN.out]; exact congrArg (fun b => some (b, (0 : Int))) hyb)
      have HWI := Aside0.mk (show header_With.f c1.1 c1.2.1 c1.2.2.1 c1.2.2.2.1 c1.2.2.2.2 I xb = some (c2.1, c2.2.1, c2.2.2.1, c2.2.2.2.1, c2.2.2.2.2, 0) from by unfold header_With.f; rw [if_neg (by omega), if_pos ⟨HCI.out.s, HCI.out.d, HCI.out.p, HCI.out.sp, HCI.out.dp⟩, HTN.out, HSTEP.out, hxb])
      obtain ⟨v, hv⟩ : ∃ v, rb (I / 8).toNat = v := ⟨_, rfl⟩
      have hvr := HRB.out (I / 8).toNat
      rw [hv] at hvr
      have HV := Aside0.mk hv
      have hJ1 : 0 ≤ I / 8 := by omega
      have hJ2 : I / 8 ≤ 12 := by omega
      have HJN := Aside0.mk (show (I / 8).toNat ≤ 12 by omega)
      have hq : Int.tdiv I 8 = I / 8 := Int.tdiv_eq_ediv_of_nonneg h0I
      have hm : Int.tmod I 8 = I % 8 := Int.tmod_eq_emod_of_nonneg h0I
      have hd0 : 0 ≤ v / 2 ^ (7 - I % 8).toNat := Int.ediv_nonneg hvr.1 (Int.le_of_lt (Int.pow_pos (by decide)))
      have hdl : v / 2 ^ (7 - I % 8).toNat ≤ v := Int.ediv_le_self _ hvr.1
      have e8 : (2 : Int) ^ 8 = 256 := by decide
      have hs : Op.shift .shr .u8 v .i64 (7 - I % 8) = pure (.int .u8 (v / 2 ^ (7 - I % 8).toNat)) := shift_shr .u8 .i64 _ (7 - I % 8) (by omega) (by show 7 - I % 8 ≤ 8; omega)
      have ha : bits .and .u8 (v / 2 ^ (7 - I % 8).toNat) 1 = v / 2 ^ (7 - I % 8).toNat % 2 := bits_mask .u8 8 (by decide) wr_u8b 1 (by decide) _ hd0 (by rw [e8]; omega)
      have hz : (v / 2 ^ (7 - I % 8).toNat % 2 == 1) = yb := by rw [← hyb, HCB.out, ← HV.out, show (I / 8).toNat = j / 8 by omega, show (7 - I % 8).toNat = 7 - j % 8 by omega]
      generalize v / 2 ^ (7 - I % 8).toNat % 2 = z at ha hz
      generalize v / 2 ^ (7 - I % 8).toNat = qq at hs ha
      have hw7 : wrap64 (7 - I % 8) = 7 - I % 8 := IntWalk.wrap64_in _ ⟨by omega, by omega⟩
      have hw7b : IntKind.wrap .i64 (7 - I % 8) = 7 - I % 8 := IntWalk.i64_in _ ⟨by omega, by omega⟩
      clear hxb hyb hv hvr hd0 hdl e8
      generalize I % 8 = m at hm hs hw7 hw7b
      generalize I / 8 = J at hq hJ1 hJ2 HJN HV
      have hwJ : IntKind.wrap .i64 J = J := IntWalk.i64_in _ ⟨by omega, by omega⟩
      skip
      have HOc := Aside0.mk (show (#[.int .u32 c2.1, .int .u32 c2.2.1, .int .u8 c2.2.2.1, .int .u16 c2.2.2.2.1, .int .u16 c2.2.2.2.2] : Array Value).all (·.oneCell') = true from by simp [Value.oneCell'])
      clear hIj hlt
      go_wp2_with (first | (refine wpList_load_row rfl 91 _ rfl w.heap.size rfl 91 #[.int .u32 s, .int .u32 d, .int .u8 p, .int .u16 sp, .int .u16 dp] (0, 0) _ hh.out Tryd.underlying91 rfl HI.out ?_) | (go_at_call 60; (with_reducible refine (header_Bit.calls s d p sp dp I xb 0 _ HBX.out).mono ?_); rintro e wa ⟨rfl, hbx⟩; have Ca := Aside0.mk (blk_below hc.out hbx); have Ha := Aside0.mk (blk_below hh.out hbx); have Ra := Aside0.mk (blk_below hr.out hbx); have Ba := Aside0.mk (hb.out.trans (hbx.mono hb.out.size)); clear hbx) | (refine wpList_load_row rfl 91 _ rfl w8.heap.size rfl 91 #[.int .u32 c1.1, .int .u32 c1.2.1, .int .u8 c1.2.2.1, .int .u16 c1.2.2.2.1, .int .u16 c1.2.2.2.2] (0, 0) _ Ca.out Tryd.underlying91 rfl HI.out ?_) | (go_at_call 60; (with_reducible refine (header_Bit.calls c1.1 c1.2.1 c1.2.2.1 c1.2.2.2.1 c1.2.2.2.2 I yb 0 _ HBY.out).mono ?_); rintro e wb ⟨rfl, hbx⟩; have Cb := Aside0.mk (blk_below Ca.out hbx); have Hb := Aside0.mk (blk_below Ha.out hbx); have Rb := Aside0.mk (blk_below Ra.out hbx); have Bb := Aside0.mk (Ba.out.trans (hbx.mono Ba.out.size)); clear hbx; have hcell := (blk_cell Rb.out J.toNat).trans ((rowOf_get _ _ HJN.out).trans (congrArg (fun x => some (Value.int .u8 x)) HV.out))) | (refine wpList_load_row rfl 91 _ rfl w8.heap.size rfl 91 #[.int .u32 c1.1, .int .u32 c1.2.1, .int .u8 c1.2.2.1, .int .u16 c1.2.2.2.1, .int .u16 c1.2.2.2.2] (0, 0) _ Cb.out Tryd.underlying91 rfl HI.out ?_) | (go_at_call 61; (with_reducible refine (header_With.calls c1.1 c1.2.1 c1.2.2.1 c1.2.2.2.1 c1.2.2.2.2 I xb c2.1 c2.2.1 c2.2.2.1 c2.2.2.2.1 c2.2.2.2.2 0 _ HWI.out).mono ?_); rintro e wc ⟨rfl, hbx⟩; have Cc := Aside0.mk (blk_below Cb.out hbx); have Hc := Aside0.mk (blk_below Hb.out hbx); have Rc := Aside0.mk (blk_below Rb.out hbx); have Bc := Aside0.mk (Bb.out.trans (hbx.mono Bb.out.size)); clear hbx) | (refine wpList_store_row rfl 91 _ _ rfl w8.heap.size #[.int .u32 c2.1, .int .u32 c2.2.1, .int .u8 c2.2.2.1, .int .u16 c2.2.2.2.1, .int .u16 c2.2.2.2.2] rfl rfl 91 #[.int .u32 c1.1, .int .u32 c1.2.1, .int .u8 c1.2.2.1, .int .u16 c1.2.2.2.1, .int .u16 c1.2.2.2.2] Cc.out HI.out rfl HOc.out ?_))
      exact ⟨⟨j + 1, .mk (by have := HTN.out; omega), by rw [← HIJ.out]; rfl, .mk (by rw [HC2.out]; exact setRow_heap wc w8.heap.size _ _ 91 (0, 0) Cc.out), .mk ((setRow_other _ w8.heap.size w.heap.size _ HNE.out.1).trans Hc.out), .mk ((setRow_other _ w8.heap.size (w.heap.size + 1) _ HNE.out.2.1).trans Rc.out), .mk (below_setRow Bc.out HNE.out.2.2 _)⟩, by simp [intOf]; omega⟩
    · obtain rfl : j = 104 := by have := hj.out; omega
      rw [backC_end HX.out HRB.out] at hc
      have HC := Aside0.mk (show wr.heap[w8.heap.size]? = some (.cells #[.int .u32 s, .int .u32 d, .int .u8 p, .int .u16 sp, .int .u16 dp] 91 (0, 0)) from hc.out)
      clear hc hlt
      go_wp2_with (first | (refine wpList_load_row rfl 91 _ rfl w8.heap.size rfl 91 #[.int .u32 s, .int .u32 d, .int .u8 p, .int .u16 sp, .int .u16 dp] (0, 0) _ HC.out Tryd.underlying91 rfl HI.out ?_) | (refine wpList_load_row rfl 91 _ rfl w.heap.size rfl 91 #[.int .u32 s, .int .u32 d, .int .u8 p, .int .u16 sp, .int .u16 dp] (0, 0) _ hh.out Tryd.underlying91 rfl HI.out ?_) | (go_at_call 57; refine (waymarklaw03_same.calls s d p sp dp s d p sp dp true _ A5.out).mono ?_; rintro e we ⟨rfl, hbx⟩; have Be := Aside0.mk (hb.out.trans (hbx.mono hb.out.size)); clear hbx))
      go_ret
      exact ⟨rfl, Be.out⟩


end Go.Proofs.YtbnihnggljagnaaDoor.QHeaderBack
