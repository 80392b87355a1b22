/- The plain law of AddrCovers. Conditions: none. -/
import Derived.Test.YtbnihnggljagnaaDoorAddrCoversPfxVals
import Derived.Test.YtbnihnggljagnaaDoorAddrCoversPureAddrWorks
namespace Go.Proofs.YtbnihnggljagnaaDoor.QAddrCovers
open Go.RowKit Go.Proofs.YtbnihnggljagnaaDoorW.PrintWords Go.Proofs.YtbnihnggljagnaaDoorW.PrintLast Go.Proofs.YtbnihnggljagnaaDoorW.PrintMore Go.Proofs.YtbnihnggljagnaaDoor.Tools Go.Proofs.YtbnihnggljagnaaDoor.AM
set_option linter.unusedVariables false
set_option linter.unusedSimpArgs false
/-! ### one piece -/
theorem pick_ok (x y : Nat) (h : x < y) : ∀ E : Nat, pick x y E ≤ E ∧ x % 2 ^ (pick x y E) = 0 ∧ x + 2 ^ (pick x y E) ≤ y ∧ ∀ e', pick x y E < e' → e' ≤ E → ¬ (x % 2 ^ e' = 0 ∧ x + 2 ^ e' ≤ y) := by
  intro E
  induction E with
  | zero => exact ⟨Nat.le_refl _, Nat.mod_one _, h, fun e' h1 h2 => by omega⟩
  | succ E ih =>
    by_cases hc : x % 2 ^ (E + 1) = 0 ∧ x + 2 ^ (E + 1) ≤ y
    · rw [show pick x y (E + 1) = E + 1 from by rw [pick, if_pos hc]]
      exact ⟨Nat.le_refl _, hc.1, hc.2, fun e' h1 h2 => by omega⟩
    · rw [show pick x y (E + 1) = pick x y E from by rw [pick, if_neg hc]]
      obtain ⟨h1, h2, h3, h4⟩ := ih
      refine ⟨by omega, h2, h3, fun e' g1 g2 => ?_⟩
      by_cases he : e' = E + 1
      · subst he; exact hc
      · exact h4 e' g1 (by omega)
theorem mod_low {x a b : Nat} (h : a ≤ b) (hx : x % 2 ^ b = 0) : x % 2 ^ a = 0 :=
  Nat.mod_eq_zero_of_dvd (Nat.dvd_trans (Nat.pow_dvd_pow 2 h) (Nat.dvd_of_mod_eq_zero hx))
theorem mod_next {x e : Nat} (hx : x % 2 ^ e = 0) : (x % 2 ^ (e + 1) = 0 ∧ (x + 2 ^ e) % 2 ^ e = 0) ∨ (¬ x % 2 ^ (e + 1) = 0 ∧ (x + 2 ^ e) % 2 ^ (e + 1) = 0) := by
  obtain ⟨q, rfl⟩ := Nat.dvd_of_mod_eq_zero hx
  have hp : 0 < 2 ^ e := Nat.two_pow_pos e
  by_cases hq : q % 2 = 0
  · left
    obtain ⟨r, rfl⟩ := Nat.dvd_of_mod_eq_zero hq
    refine ⟨?_, by simp⟩
    rw [Nat.pow_succ, ← Nat.mul_assoc]
    exact Nat.mul_mod_right _ _
  · right
    obtain ⟨r, rfl⟩ : ∃ r, q = 2 * r + 1 := ⟨q / 2, by omega⟩
    constructor
    · rw [Nat.mul_add, ← Nat.mul_assoc, Nat.mul_one, Nat.pow_succ, Nat.mul_add_mod, Nat.mod_eq_of_lt (by omega)]
      omega
    · rw [Nat.mul_add, ← Nat.mul_assoc, Nat.mul_one, Nat.add_assoc, Nat.pow_succ, Nat.mul_add_mod, show 2 ^ e + 2 ^ e = 2 ^ e * 2 by omega, Nat.mod_self]
theorem pow_two_le {a b : Nat} (h : a ≤ b) : 2 ^ a ≤ 2 ^ b := Nat.pow_le_pow_right (by decide) h
theorem pow_two_lt {a b : Nat} (h : 2 ^ a < 2 ^ b) : a < b := (Nat.pow_lt_pow_iff_right (by decide)).1 h
/-! ### how many pieces -/
theorem len_end (y : Nat) : ∀ k : Nat, k ≤ 32 → ∀ fuel x : Nat, x % 2 ^ k = 0 → x ≤ y → y - x < 2 ^ k → (cuts y fuel x).length ≤ k := by
  intro k
  induction k with
  | zero =>
    intro _ fuel x _ hx hd
    rw [cuts_stop y fuel x (by omega)]
    exact Nat.le_refl _
  | succ k ih =>
    intro hk fuel x hm hx hd
    have hm' := mod_low (Nat.le_succ k) hm
    by_cases hs : y - x < 2 ^ k
    · exact Nat.le_succ_of_le (ih (by omega) fuel x hm' hx hs)
    · cases fuel with
      | zero => exact Nat.zero_le _
      | succ fuel =>
        have hp : 0 < 2 ^ k := Nat.two_pow_pos k
        obtain ⟨g1, g2, g3, g4⟩ := pick_ok x y (by omega) 32
        have he : pick x y 32 = k := by
          have h1 : ¬ pick x y 32 < k := fun h => g4 k h (by omega) ⟨hm', by omega⟩
          have h2 : ¬ k < pick x y 32 := fun h => by have := pow_two_le h; omega
          omega
        rw [cuts, if_pos (by omega), List.length_cons, he]
        refine Nat.succ_le_succ (ih (by omega) fuel (x + 2 ^ k) ?_ (by omega) (by rw [Nat.pow_succ] at hd; omega))
        rw [Nat.add_mod_right]
        exact hm'
theorem p32n : (2 : Nat) ^ 32 = 4294967296 := by decide
theorem len_up (y : Nat) (hy : y ≤ 4294967296) : ∀ d k : Nat, k + d = 31 → ∀ fuel x : Nat, 0 < x → x % 2 ^ k = 0 → x ≤ y → (cuts y fuel x).length + k ≤ 62 := by
  intro d
  induction d using Nat.strongRecOn with
  | _ d ih =>
    intro k hk fuel x h0 hm hx
    by_cases hxy : y ≤ x
    · rw [cuts_stop y fuel x hxy]
      show 0 + k ≤ 62
      omega
    by_cases hs : y - x < 2 ^ k
    · have := len_end y k (by omega) fuel x hm hx hs
      omega
    cases fuel with
    | zero => show 0 + k ≤ 62; omega
    | succ fuel =>
      obtain ⟨g1, g2, g3, g4⟩ := pick_ok x y (by omega) 32
      have hke : k ≤ pick x y 32 := by
        have h1 : ¬ pick x y 32 < k := fun h => g4 k h (by omega) ⟨hm, by omega⟩
        omega
      rw [cuts, if_pos (by omega), List.length_cons]
      generalize pick x y 32 = e at g1 g2 g3 g4 hke ⊢
      have e32 := p32n
      have he31 : e < 32 := pow_two_lt (by omega)
      have hpe := Nat.two_pow_pos e
      rcases mod_next g2 with ⟨a1, a2⟩ | ⟨a1, a2⟩
      · have hd := Nat.le_of_dvd h0 (Nat.dvd_of_mod_eq_zero a1)
        have he30 : e + 1 < 32 := pow_two_lt (by omega)
        have hn := g4 (e + 1) (by omega) (by omega)
        have hs2 : y < x + 2 ^ (e + 1) := by
          have : ¬ x + 2 ^ (e + 1) ≤ y := fun h => hn ⟨a1, h⟩
          omega
        rw [Nat.pow_succ] at hs2
        have := len_end y e (by omega) fuel (x + 2 ^ e) a2 g3 (by omega)
        omega
      · by_cases h31 : e + 1 ≤ 31
        · have := ih (31 - (e + 1)) (by omega) (e + 1) (by omega) fuel (x + 2 ^ e) (by omega) a2 g3
          omega
        · obtain rfl : e = 31 := by omega
          have hd := Nat.le_of_dvd h0 (Nat.dvd_of_mod_eq_zero g2)
          have e31 : (2 : Nat) ^ 31 = 2147483648 := by decide
          rw [cuts_stop y fuel (x + 2 ^ 31) (by omega)]
          show 0 + 1 + k ≤ 62
          omega
theorem len_cuts (x y : Nat) (hx : x ≤ y) (hy : y ≤ 4294967296) (fuel : Nat) : (cuts y fuel x).length ≤ 62 := by
  by_cases h0 : x = 0
  · subst h0
    by_cases h : y < 4294967296
    · have := len_end y 32 (Nat.le_refl _) fuel 0 (Nat.zero_mod _) hx (by rw [p32n]; omega)
      omega
    · obtain rfl : y = 4294967296 := by omega
      cases fuel with
      | zero => exact Nat.zero_le _
      | succ fuel =>
        have hpk : pick 0 4294967296 32 = 32 := by decide +kernel
        rw [cuts, if_pos (by omega), List.length_cons, hpk, cuts_stop _ fuel _ (by rw [p32n]; omega)]
        decide
  · have := len_up y hy 31 0 rfl fuel x (by omega) (Nat.mod_one _) hx
    omega
/-! ### which addresses are in the pieces -/
theorem sz_pow (e : Nat) (he : e ≤ 32) : sz (32 - (e : Int)) = ((2 ^ e : Nat) : Int) := by
  rw [sz_nat, show (32 - (32 - (e : Int))).toNat = e by omega]
theorem chk_piece (x e : Nat) (he : e ≤ 32) (h : x % 2 ^ e = 0) : chk (x : Int) (32 - (e : Int)) = 0 := by
  refine chk_zero.2 ⟨by omega, by omega, ?_⟩
  rw [sz_pow e he]
  have : ((x % 2 ^ e : Nat) : Int) = 0 := by rw [h]; rfl
  rw [← Int.natCast_emod]
  exact this
def cnt (v : Int) : List S42 → Int
  | [] => 0
  | p :: r => (if pin v p.f0 p.f1 = true then 1 else 0) + cnt v r
theorem cnt_cuts (y : Nat) (v : Int) : ∀ fuel x : Nat, y - x ≤ fuel → x ≤ y → cnt v (cuts y fuel x) = if (x : Int) ≤ v ∧ v < y then 1 else 0 := by
  intro fuel
  induction fuel with
  | zero =>
    intro x h hx
    rw [if_neg (by omega)]
    rfl
  | succ fuel ih =>
    intro x h hx
    by_cases hxy : x < y
    · obtain ⟨g1, g2, g3, g4⟩ := pick_ok x y hxy 32
      rw [cuts, if_pos hxy]
      generalize pick x y 32 = e at g1 g2 g3 g4 ⊢
      have hpe := Nat.two_pow_pos e
      have hc := chk_piece x e g1 g2
      have := ih (x + 2 ^ e) (by omega) g3
      unfold cnt
      rw [this]
      show (if pin v (x : Int) (32 - (e : Int)) = true then (1 : Int) else 0) + _ = _
      unfold pin
      rw [sz_pow e g1]
      generalize 2 ^ e = s at *
      by_cases h1 : (x : Int) ≤ v ∧ v < (x : Int) + (s : Int)
      · rw [if_pos (decide_eq_true ⟨hc, h1⟩), if_neg (by omega), if_pos (by omega)]
        rfl
      · rw [if_neg (by rw [decide_eq_true_iff]; exact fun h => h1 h.2)]
        by_cases h2 : (x : Int) + (s : Int) ≤ v ∧ v < y
        · rw [if_pos (by omega), if_pos (by omega)]
          rfl
        · rw [if_neg (by omega), if_neg (by omega)]
          rfl
    · rw [cuts, if_neg hxy, if_neg (by omega)]
      rfl
def okP (p : S42) : Prop := isA p.f0 ∧ chk p.f0 p.f1 = 0
theorem ok_cuts (y : Nat) (hy : y ≤ 4294967296) : ∀ fuel x : Nat, ∀ p ∈ cuts y fuel x, okP p := by
  intro fuel
  induction fuel with
  | zero => intro x p hp; cases hp
  | succ fuel ih =>
    intro x p hp
    rw [cuts] at hp
    split at hp
    · rename_i hxy
      obtain ⟨g1, g2, g3, g4⟩ := pick_ok x y hxy 32
      rcases List.mem_cons.1 hp with rfl | hp
      · exact ⟨⟨by show (0 : Int) ≤ (x : Int); omega, by show (x : Int) ≤ 4294967295; omega⟩, chk_piece x _ g1 g2⟩
      · exact ih _ p hp
    · cases hp
/-! ### neighbours -/
def adj (p q : S42) : Prop := p.f0 < q.f0 ∧ ¬ (p.f1 = q.f1 ∧ cbits p.f0 p.f1 q.f0 q.f1 = p.f1 - 1)
def Adj : List S42 → Prop
  | p :: q :: r => adj p q ∧ Adj (q :: r)
  | _ => True
theorem adj_cuts (y : Nat) (hy : y ≤ 4294967296) : ∀ fuel x : Nat, Adj (cuts y fuel x) := by
  intro fuel
  induction fuel with
  | zero => intro x; exact trivial
  | succ fuel ih =>
    intro x
    by_cases hxy : x < y
    · have hr := ih (x + 2 ^ pick x y 32)
      obtain ⟨g1, g2, g3, g4⟩ := pick_ok x y hxy 32
      rw [cuts, if_pos hxy]
      generalize hpe : pick x y 32 = e at g1 g2 g3 g4 hr ⊢
      cases fuel with
      | zero => exact trivial
      | succ fuel =>
        rw [cuts] at hr ⊢
        by_cases hx2 : x + 2 ^ e < y
        · rw [if_pos hx2] at hr ⊢
          refine ⟨⟨?_, ?_⟩, hr⟩
          · show (x : Int) < ((x + 2 ^ e : Nat) : Int)
            have := Nat.two_pow_pos e
            omega
          · rintro ⟨h1, h2⟩
            have h1 : 32 - (e : Int) = 32 - (pick (x + 2 ^ e) y 32 : Int) := h1
            have hee : pick (x + 2 ^ e) y 32 = e := by omega
            obtain ⟨k1, k2, k3, k4⟩ := pick_ok (x + 2 ^ e) y hx2 32
            rw [hee] at k3 h2
            have h2 : min (min (32 - (e : Int)) (32 - (e : Int))) (lcp (x : Int) ((x + 2 ^ e : Nat) : Int)) = 32 - (e : Int) - 1 := by
              have h3 := h2
              unfold cbits at h3
              simp only [hee] at h3
              exact h3
            have hpp := Nat.two_pow_pos e
            have he31 : e + 1 ≤ 32 := by
              have : 2 ^ (e + 1) ≤ 2 ^ 32 := by rw [Nat.pow_succ, p32n]; omega
              exact (Nat.pow_le_pow_iff_right (by decide)).1 this
            have hl : 32 - ((e + 1 : Nat) : Int) ≤ lcp (x : Int) ((x + 2 ^ e : Nat) : Int) := by omega
            have hq := (lcp_ge (x : Int) ((x + 2 ^ e : Nat) : Int) (by omega) (by omega) (by omega) (by omega) (32 - ((e + 1 : Nat) : Int)) (by omega) (by omega)).1 hl
            rw [sz_pow (e + 1) he31, ← Int.natCast_ediv, ← Int.natCast_ediv] at hq
            have hq : x / 2 ^ (e + 1) = (x + 2 ^ e) / 2 ^ (e + 1) := by omega
            rcases mod_next g2 with ⟨a1, a2⟩ | ⟨a1, a2⟩
            · refine g4 (e + 1) (by omega) he31 ⟨a1, ?_⟩
              rw [Nat.pow_succ]
              omega
            · have m1 := Nat.div_add_mod x (2 ^ (e + 1))
              have m2 := Nat.div_add_mod (x + 2 ^ e) (2 ^ (e + 1))
              rw [← hq, a2] at m2
              have := Nat.zero_le (x % 2 ^ (e + 1))
              omega
        · rw [if_neg hx2]
          exact trivial
    · rw [cuts, if_neg hxy]
      exact trivial
/-! ### the law's loops -/
theorem rd_mid (pre : List S42) (p : S42) (r : List S42) : rd_T42 (pre ++ p :: r) (pre.length : Int) = p := by
  unfold rd_T42
  simp
theorem rdi_mid (pre : List Int) (p : Int) (r : List Int) : rd (pre ++ p :: r) (pre.length : Int) = p := by
  unfold rd
  simp
theorem l2_val (L : List S42) (hL : L.length ≤ 62) (hok : ∀ p ∈ L, okP p) : ∀ suf pre : List S42, pre ++ suf = L → Adj suf → Ev (fun k => waymarklaw01_AddrCovers.l2 k L (pre.length : Int)) true := by
  intro suf
  induction suf with
  | nil =>
    intro pre h _
    have hl := congrArg List.length h
    rw [List.append_nil] at hl
    refine Ev.step (fun k => by rw [waymarklaw01_AddrCovers.l2]) (ev_neg ?_ (ev_now _))
    rw [w64_id _ (by omega) (by omega)]
    omega
  | cons p suf ih =>
    intro pre h ha
    have hl := congrArg List.length h
    rw [List.length_append, List.length_cons] at hl
    refine Ev.step (fun k => by rw [waymarklaw01_AddrCovers.l2]) ?_
    rw [w64_id ((pre.length : Int) + 1) (by omega) (by omega)]
    cases suf with
    | nil =>
      have hl0 : pre.length + 1 = L.length := by simpa using hl
      exact ev_neg (by omega) (ev_now _)
    | cons q r =>
      obtain ⟨⟨h1, h2⟩, h3⟩ := ha
      rw [List.length_cons] at hl
      have e1 : rd_T42 L (pre.length : Int) = p := by rw [← h]; exact rd_mid _ _ _
      have e2 : rd_T42 L ((pre.length : Int) + 1) = q := by
        have := rd_mid (pre ++ [p]) q r
        rw [List.append_assoc, List.length_append] at this
        rw [← h]
        exact this
      have hp := hok p (by rw [← h]; simp)
      have hq := hok q (by rw [← h]; simp)
      obtain ⟨pa, pc⟩ := hp
      obtain ⟨qa, qc⟩ := hq
      obtain ⟨b0, b1, -⟩ := chk_zero.1 pc
      obtain ⟨d0, d1, -⟩ := chk_zero.1 qc
      refine ev_pos (by omega) (ev_pos (by omega) (ev_pos (by omega) (ev_pos (by omega) ?_)))
      rw [e1, e2]
      refine ev_bind _ (common_val p.f0 p.f1 q.f0 q.f1 pa qa) ?_
      have l0 := lcp_nonneg p.f0 q.f0 pa.1 pa.2 qa.1 qa.2
      have lle := lcp_le p.f0 q.f0
      have hcm : common p.f0 p.f1 q.f0 q.f1 = (sz (cbits p.f0 p.f1 q.f0 q.f1) * (p.f0 / sz (cbits p.f0 p.f1 q.f0 q.f1)), cbits p.f0 p.f1 q.f0 q.f1, 0) := by
        unfold common sn
        rw [if_pos pc, if_pos qc, if_pos (by unfold cbits; omega)]
      rw [hcm]
      refine ev_pos rfl (ev_bind _ (cmp_val p.f0 p.f1 q.f0 q.f1) (ev_pos (by unfold pcmp; rw [if_pos h1]) ?_))
      have nxt : Ev (fun k => waymarklaw01_AddrCovers.j6 k L (pre.length : Int) false) true := by
        refine Ev.step (fun k => by rw [waymarklaw01_AddrCovers.j6]) (ev_neg (by simp) ?_)
        rw [w64_id _ (by omega) (by omega)]
        have := ih (pre ++ [p]) (by rw [List.append_assoc]; exact h) h3
        rw [List.length_append] at this
        exact this
      by_cases hb : p.f1 = q.f1
      · refine ev_pos hb ?_
        rw [w64_id (p.f1 - 1) (by omega) (by omega)]
        have hne : ((cbits p.f0 p.f1 q.f0 q.f1) == p.f1 - 1) = false := beq_eq_false_iff_ne.2 (fun e => h2 ⟨hb, e⟩)
        show Ev (fun k => waymarklaw01_AddrCovers.j6 k L (pre.length : Int) (cbits p.f0 p.f1 q.f0 q.f1 == p.f1 - 1)) true
        rw [hne]
        exact nxt
      · exact ev_neg hb nxt
theorem l1_val (x0 x1 v : Int) (hv : isA v) (L : List S42) (hL : L.length ≤ 62) (hok : ∀ p ∈ L, okP p) (xs : List Int) (n i : Int) (r : Bool) : ∀ suf pre : List S42, pre ++ suf = L → ∀ c : Int, 0 ≤ c → c ≤ pre.length →
    Ev (fun k => waymarklaw01_AddrCovers.l1 k x0 x1 L v (c + cnt v suf) (L.length : Int) xs n i) r → Ev (fun k => waymarklaw01_AddrCovers.l1 k x0 x1 L v c (pre.length : Int) xs n i) r := by
  intro suf
  induction suf with
  | nil =>
    intro pre h c c0 c1 hr
    rw [List.append_nil] at h
    subst h
    unfold cnt at hr
    rw [Int.add_zero] at hr
    exact hr
  | cons p suf ih =>
    intro pre h c c0 c1 hr
    have hl := congrArg List.length h
    rw [List.length_append, List.length_cons] at hl
    have e1 : rd_T42 L (pre.length : Int) = p := by rw [← h]; exact rd_mid _ _ _
    have hp := hok p (by rw [← h]; simp)
    refine Ev.step (fun k => by rw [waymarklaw01_AddrCovers.l1]) (ev_pos (by omega) (ev_pos (by omega) ?_))
    rw [e1, w64_id (c + 1) (by omega) (by omega), w64_id _ (by omega) (by omega)]
    refine ev_bind _ (in_val v p.f0 p.f1 hv hp.1) ?_
    have hl1 : ((pre ++ [p]).length : Int) = (pre.length : Int) + 1 := by rw [List.length_append]; rfl
    unfold cnt at hr
    by_cases hpin : pin v p.f0 p.f1 = true
    · rw [if_pos hpin] at hr
      refine ev_pos hpin ?_
      have := ih (pre ++ [p]) (by rw [List.append_assoc]; exact h) (c + 1) (by omega) (by omega) (by rw [show c + 1 + cnt v suf = c + (1 + cnt v suf) by omega]; exact hr)
      rw [hl1] at this
      exact this
    · rw [if_neg hpin] at hr
      refine ev_neg hpin ?_
      have := ih (pre ++ [p]) (by rw [List.append_assoc]; exact h) c (by omega) (by omega) (by rw [show c + cnt v suf = c + (0 + cnt v suf) by omega]; exact hr)
      rw [hl1] at this
      exact this
theorem l0_val (x0 x1 : Int) (L : List S42) (hL : L.length ≤ 62) (hok : ∀ p ∈ L, okP p) (hadj : Adj L) (hcnt : ∀ v, cnt v L = if x0 ≤ v ∧ v < x1 + 1 then 1 else 0) (xs : List Int) (hn : xs.length ≤ 6) (hxs : ∀ v ∈ xs, isA v) :
    ∀ suf pre : List Int, pre ++ suf = xs → Ev (fun k => waymarklaw01_AddrCovers.l0 k x0 x1 L xs (xs.length : Int) (pre.length : Int)) true := by
  intro suf
  induction suf with
  | nil =>
    intro pre h
    rw [List.append_nil] at h
    subst h
    refine Ev.step (fun k => by rw [waymarklaw01_AddrCovers.l0]) (ev_neg (by omega) ?_)
    exact l2_val L hL hok L [] rfl hadj
  | cons v suf ih =>
    intro pre h
    have hl := congrArg List.length h
    rw [List.length_append, List.length_cons] at hl
    have e1 : rd xs (pre.length : Int) = v := by rw [← h]; exact rdi_mid _ _ _
    have hv := hxs v (by rw [← h]; simp)
    refine Ev.step (fun k => by rw [waymarklaw01_AddrCovers.l0]) (ev_pos (by omega) (ev_pos (by omega) (ev_pos (by omega) ?_)))
    rw [e1]
    refine l1_val x0 x1 v hv L hL hok xs _ _ true L [] rfl 0 (by omega) (by simp) ?_
    rw [Int.zero_add, hcnt v]
    have nxt : Ev (fun k => waymarklaw01_AddrCovers.j4 k x0 x1 L xs (xs.length : Int) (pre.length : Int) false) true := by
      refine Ev.step (fun k => by rw [waymarklaw01_AddrCovers.j4]) (ev_neg (by simp) ?_)
      rw [w64_id _ (by omega) (by omega)]
      have := ih (pre ++ [v]) (by rw [List.append_assoc]; exact h)
      rw [List.length_append] at this
      exact this
    refine Ev.step (fun k => by rw [waymarklaw01_AddrCovers.l1]) (ev_neg (by omega) ?_)
    by_cases hin : x0 ≤ v ∧ v < x1 + 1
    · rw [if_pos hin]
      refine ev_pos rfl (ev_neg (by decide) (ev_neg (by omega) ?_))
      rw [show decide (v > x1) = false from decide_eq_false (by omega)]
      exact nxt
    · rw [if_neg hin]
      refine ev_neg (by decide) ?_
      by_cases hg : v ≥ x0
      · exact ev_pos hg (ev_neg (by omega) (ev_pos rfl nxt))
      · exact ev_neg hg (ev_pos rfl nxt)
theorem covers_j0 (x0 x1 x2 : Int) (h0 : isA x0) (h1 : isA x1) (h2 : isA x2) (h : x0 ≤ x1) : Ev (fun k => waymarklaw01_AddrCovers.j0 k x0 x1 x2) true := by
  obtain ⟨a, rfl⟩ : ∃ a : Nat, x0 = a := ⟨x0.toNat, by have := h0.1; omega⟩
  obtain ⟨b, rfl⟩ : ∃ b : Nat, x1 = b := ⟨x1.toNat, by have := h1.1; omega⟩
  obtain ⟨a0, a1⟩ := h0
  obtain ⟨b0, b1⟩ := h1
  have hcut : addr_Cut.f (a : Int) (b : Int) = some (cuts (b + 1) (b + 1 - a) a, 0) := by
    unfold addr_Cut.f
    rw [if_pos ⟨a0, a1, b0, b1⟩, if_neg (by omega)]
    rfl
  have hlen := len_cuts a (b + 1) (by omega) (by omega) (b + 1 - a)
  have hok := ok_cuts (b + 1) (by omega) (b + 1 - a) a
  have hadj := adj_cuts (b + 1) (by omega) (b + 1 - a) a
  have hcnt : ∀ v, cnt v (cuts (b + 1) (b + 1 - a) a) = if (a : Int) ≤ v ∧ v < (b : Int) + 1 then 1 else 0 := fun v => cnt_cuts (b + 1) v (b + 1 - a) a (Nat.le_refl _) (by omega)
  have hne : 1 ≤ (cuts (b + 1) (b + 1 - a) a).length := by
    obtain ⟨f, hf⟩ : ∃ f, b + 1 - a = f + 1 := ⟨b - a, by omega⟩
    rw [hf, cuts, if_pos (by omega), List.length_cons]
    omega
  generalize cuts (b + 1) (b + 1 - a) a = L at *
  refine Ev.step (fun k => by rw [waymarklaw01_AddrCovers.j0]) (ev_is _ hcut (ev_pos rfl (ev_neg (show ¬ (L.length : Int) < 1 by omega) ?_)))
  show Ev (fun k => waymarklaw01_AddrCovers.j1 k (a : Int) (b : Int) x2 L (decide ((L.length : Int) > 62))) true
  rw [show decide ((L.length : Int) > 62) = false from decide_eq_false (by omega)]
  refine Ev.step (fun k => by rw [waymarklaw01_AddrCovers.j1]) (ev_neg (by simp) (ev_some ?_))
  obtain ⟨c0, c1⟩ := h2
  refine l0_val (a : Int) (b : Int) L hlen hok hadj hcnt _ ?_ ?_ _ [] rfl
  · exact Nat.le_refl 6
  intro v hv
  simp only [List.mem_cons, List.not_mem_nil, or_false] at hv
  unfold isA
  rcases hv with rfl | rfl | rfl | rfl | rfl | rfl <;> omega
theorem addrCovers_pure (a b c : Int) (ha : isA a) (hb : isA b) (hc : isA c) : ∃ k, waymarklaw01_AddrCovers.f k a b c = some true := by
  refine Ev.rounds ?_
  unfold waymarklaw01_AddrCovers.f
  refine ev_bind true (Ev.of waymarklaw01_works.mono works_true) (ev_pos rfl ?_)
  by_cases h : a > b
  · exact ev_pos h (covers_j0 b a c hb ha hc (by omega))
  · exact ev_neg h (covers_j0 a b c ha hb hc (by omega))
end Go.Proofs.YtbnihnggljagnaaDoor.QAddrCovers
