/- The plain law of AddrCuts: the addresses between two are cut as the document's answer cuts them. Conditions: none. -/
import Derived.Test.YtbnihnggljagnaaQAddrCutsx2
import Derived.Test.YtbnihnggljagnaaTools
namespace Go.Proofs.Ytbnihnggljagnaa.Pure
open Go.RowKit Go.Proofs.Ytbnihnggljagnaa.QAddrCuts Go.Proofs.YtbnihnggljagnaaW.PrintWords Go.Proofs.YtbnihnggljagnaaW.PrintLast Go.Proofs.Ytbnihnggljagnaa.Tools
set_option linter.unusedVariables false

theorem size_l0 : ∀ (d : Nat) (e : Nat) (i : Int), i + d = 32 → d ≤ 32 → e + d ≤ 32 → Ev (fun k => waymarkref01_size.l0 k ((2 ^ e : Nat) : Int) i) ((2 ^ (e + d) : Nat) : Int) := by
  intro d
  induction d with
  | zero =>
    intro e i hi hd he
    refine Ev.step (f := fun _ => some ((2 ^ e : Nat) : Int)) (fun k => ?_) (ev_now _)
    simp only [waymarkref01_size.l0]
    rw [if_neg (by omega)]
  | succ d ih =>
    intro e i hi hd he
    have hp := pow_le_32 (e := e + 1) (by omega)
    have h2 : 2 * ((2 ^ e : Nat) : Int) = ((2 ^ (e + 1) : Nat) : Int) := by rw [Nat.pow_succ]; omega
    refine Ev.step (f := fun k => waymarkref01_size.l0 k ((2 ^ (e + 1) : Nat) : Int) (i + 1)) (fun k => ?_) (ev_to (ih (e + 1) (i + 1) (by omega) (by omega) (by omega)) (by rw [show e + 1 + d = e + (d + 1) from by omega]))
    simp only [waymarkref01_size.l0]
    rw [if_pos (by omega), h2, u64_id _ (by omega) (by omega), w64_id (i + 1) (by omega) (by omega)]
theorem size_ev (e : Nat) (he : e ≤ 32) : Ev (fun k => waymarkref01_size.f k (32 - (e : Int))) ((2 ^ e : Nat) : Int) := by
  have := size_l0 e 0 (32 - (e : Int)) (by omega) he (by omega)
  rw [Nat.zero_add] at this
  exact this

/-- One prefix: the document's answer finds the greatest one that begins there. -/
theorem inner (y x : Nat) (hy : y ≤ 4294967295) (hx : x ≤ y) (xs : List S30) (hl : xs.length < 8796093022208) (r : List S30 × Int)
    (hnext : Ev (fun k => waymarkref01_Cut.l0 k (y : Int) (xs ++ [(⟨(x : Int), 32 - (pick x (y + 1) 32 : Int)⟩ : S30)]) ((x + 2 ^ pick x (y + 1) 32 : Nat) : Int)) r) :
    ∀ e, e ≤ 32 → pick x (y + 1) 32 = pick x (y + 1) e → Ev (fun k => waymarkref01_Cut.l1 k (y : Int) xs (x : Int) (32 - (e : Int))) r := by
  intro e
  induction e with
  | zero =>
    intro he hp
    have hp0 : pick x (y + 1) 32 = 0 := by rw [hp]; rfl
    have hs := size_ev 0 (by omega)
    rw [hp0] at hnext
    refine Ev.step (f := fun k => (waymarkref01_size.f k (32 - ((0 : Nat) : Int))).bind fun t101 => if t101 = 0 then none else if Int.tmod (x : Int) t101 = 0 then (waymarkref01_size.f k (32 - ((0 : Nat) : Int))).bind fun t102 => if IntKind.u64.wrap (IntKind.u64.wrap ((x : Int) + t102) - 1) ≤ IntKind.u64.wrap (y : Int) then if xs.length < 8796093022208 then (waymarkref01_size.f k (32 - ((0 : Nat) : Int))).bind fun t106 => waymarkref01_Cut.l0 k (y : Int) (xs ++ [(⟨((x : Int)) % 4294967296, 32 - ((0 : Nat) : Int)⟩ : S30)]) (IntKind.u64.wrap ((x : Int) + t106)) else none else waymarkref01_Cut.l1 k (y : Int) xs (x : Int) (wrap64 (32 - ((0 : Nat) : Int) + 1)) else waymarkref01_Cut.l1 k (y : Int) xs (x : Int) (wrap64 (32 - ((0 : Nat) : Int) + 1))) (fun k => ?_) ?_
    · simp only [waymarkref01_Cut.l1]
      rw [if_pos (by omega)]
    · refine ev_bind _ hs (ev_neg (by simp) (ev_pos (by simp) (ev_bind _ hs (ev_pos ?_ (ev_pos hl (ev_bind _ hs ?_))))))
      · rw [show ((2 ^ 0 : Nat) : Int) = 1 from rfl, u64_id ((x : Int) + 1) (by omega) (by omega), u64_id _ (by omega) (by omega), u64_id _ (by omega) (by omega)]; omega
      · rw [show ((2 ^ 0 : Nat) : Int) = 1 from rfl, u64_id ((x : Int) + 1) (by omega) (by omega), Int.emod_eq_of_lt (by omega) (by omega)]
        exact hnext
  | succ e ih =>
    intro he hp
    have hs := size_ev (e + 1) he
    have hq := pow_le_32 (e := e + 1) he
    obtain ⟨s, hse⟩ : ∃ s, s = 2 ^ (e + 1) := ⟨_, rfl⟩
    rw [← hse] at hs hq
    refine Ev.step (f := fun k => (waymarkref01_size.f k (32 - ((e + 1 : Nat) : Int))).bind fun t101 => if t101 = 0 then none else if Int.tmod (x : Int) t101 = 0 then (waymarkref01_size.f k (32 - ((e + 1 : Nat) : Int))).bind fun t102 => if IntKind.u64.wrap (IntKind.u64.wrap ((x : Int) + t102) - 1) ≤ IntKind.u64.wrap (y : Int) then if xs.length < 8796093022208 then (waymarkref01_size.f k (32 - ((e + 1 : Nat) : Int))).bind fun t106 => waymarkref01_Cut.l0 k (y : Int) (xs ++ [(⟨((x : Int)) % 4294967296, 32 - ((e + 1 : Nat) : Int)⟩ : S30)]) (IntKind.u64.wrap ((x : Int) + t106)) else none else waymarkref01_Cut.l1 k (y : Int) xs (x : Int) (wrap64 (32 - ((e + 1 : Nat) : Int) + 1)) else waymarkref01_Cut.l1 k (y : Int) xs (x : Int) (wrap64 (32 - ((e + 1 : Nat) : Int) + 1))) (fun k => ?_) ?_
    · simp only [waymarkref01_Cut.l1]
      rw [if_pos (by omega)]
    · have hmod : Int.tmod (x : Int) (s : Int) = ((x % s : Nat) : Int) := by rw [Int.tmod_eq_emod_of_nonneg (by omega)]; rfl
      have hw : wrap64 (32 - ((e + 1 : Nat) : Int) + 1) = 32 - (e : Int) := by rw [w64_id _ (by omega) (by omega)]; omega
      refine ev_bind _ hs (ev_neg (by omega) ?_)
      by_cases h1 : x % s = 0
      · refine ev_pos (by rw [hmod, h1]; rfl) (ev_bind _ hs ?_)
        by_cases h2 : x + s ≤ y + 1
        · have hpe : pick x (y + 1) 32 = e + 1 := by rw [hp]; exact pick_hit (by omega) (by rw [← hse]; exact h1) (by rw [← hse]; exact h2)
          rw [hpe, ← hse] at hnext
          refine ev_pos ?_ (ev_pos hl (ev_bind _ hs ?_))
          · rw [u64_id ((x : Int) + (s : Int)) (by omega) (by omega), u64_id _ (by omega) (by omega), u64_id _ (by omega) (by omega)]; omega
          · rw [u64_id _ (by omega) (by omega), Int.emod_eq_of_lt (by omega) (by omega)]
            exact hnext
        · refine ev_neg ?_ ?_
          · rw [u64_id ((x : Int) + (s : Int)) (by omega) (by omega), u64_id _ (by omega) (by omega), u64_id _ (by omega) (by omega)]; omega
          · rw [hw]
            exact ih (by omega) (by rw [hp]; exact pick_miss (by omega) (by rw [← hse]; omega))
      · refine ev_neg (by rw [hmod]; omega) ?_
        rw [hw]
        exact ih (by omega) (by rw [hp]; exact pick_miss (by omega) (by rw [← hse]; omega))

theorem outer (y : Nat) (hy : y ≤ 4294967295) : ∀ (d x : Nat) (xs : List S30), y + 1 - x ≤ d → x ≤ y + 1 → xs.length ≤ x →
    Ev (fun k => waymarkref01_Cut.l0 k (y : Int) xs (x : Int)) (xs ++ cuts (y + 1) (y + 1 - x) x, 0) := by
  intro d
  induction d with
  | zero =>
    intro x xs hd hx hl
    refine Ev.step (f := fun _ => some (xs, 0)) (fun k => ?_) (ev_to (ev_now _) (by rw [cuts_stop _ _ _ (by omega), List.append_nil]))
    simp only [waymarkref01_Cut.l0]
    rw [u64_id _ (by omega) (by omega), if_neg (by omega)]
  | succ d ih =>
    intro x xs hd hx hl
    by_cases h : x ≤ y
    · have hp : 0 < 2 ^ pick x (y + 1) 32 := Nat.pow_pos (by omega)
      have hr := pick_room x (y + 1) (by omega) 32
      refine Ev.step (f := fun k => waymarkref01_Cut.l1 k (y : Int) xs (x : Int) (32 - ((32 : Nat) : Int))) (fun k => ?_) (inner y x hy h xs (by omega) _ ?_ 32 (by omega) rfl)
      · simp only [waymarkref01_Cut.l0]
        rw [u64_id _ (by omega) (by omega), if_pos (by omega)]
        rfl
      · have := ih (x + 2 ^ pick x (y + 1) 32) (xs ++ [(⟨(x : Int), 32 - (pick x (y + 1) 32 : Int)⟩ : S30)]) (by omega) (by omega) (by rw [List.length_append]; simp; omega)
        refine ev_to this ?_
        rw [cuts_go (y + 1) x (by omega), List.append_assoc]
        rfl
    · refine Ev.step (f := fun _ => some (xs, 0)) (fun k => ?_) (ev_to (ev_now _) (by rw [cuts_stop _ _ _ (by omega), List.append_nil]))
      simp only [waymarkref01_Cut.l0]
      rw [u64_id _ (by omega) (by omega), if_neg (by omega)]

theorem same_l0 (l : List S30) (hl : l.length ≤ 9223372036854775806) : ∀ (d : Nat) (i : Nat), i + d = l.length → Ev (fun k => waymarkref01_Same.l0 k l l (i : Int)) true := by
  intro d
  induction d with
  | zero =>
    intro i hi
    refine Ev.step (f := fun _ => some true) (fun k => ?_) (ev_now _)
    simp only [waymarkref01_Same.l0]
    rw [if_neg (by omega)]
  | succ d ih =>
    intro i hi
    refine Ev.step (f := fun k => waymarkref01_Same.l0 k l l ((i + 1 : Nat) : Int)) (fun k => ?_) (ih (i + 1) (by omega))
    simp only [waymarkref01_Same.l0]
    rw [if_pos (by omega), if_pos (by omega), if_pos (by omega), if_pos True.intro, if_pos True.intro, w64_id _ (by omega) (by omega)]
    rfl
theorem same_ev (l : List S30) (hl : l.length ≤ 9223372036854775806) : Ev (fun k => waymarkref01_Same.f k l l) true := by
  refine ev_eq (f := fun k => waymarkref01_Same.l0 k l l ((0 : Nat) : Int)) (fun k => ?_) (same_l0 l hl l.length 0 (by omega))
  simp only [waymarkref01_Same.f]
  rw [if_pos True.intro]
  rfl

theorem cuts_len (y : Nat) : ∀ k x, (cuts y k x).length ≤ k := by
  intro k
  induction k with
  | zero => intro x; simp [cuts]
  | succ k ih =>
    intro x
    rw [cuts]
    split
    · simp only [List.length_cons]; have := ih (x + 2 ^ pick x y 32); omega
    · simp

theorem law_l0 (a b : Int) (l : List S30) (r2 : Int) (hf : addr_Cut.f a b = some (l, r2)) (hl : l.length ≤ 9223372036854775806) (n : Nat) (hn : n ≤ 9223372036854775806) :
    ∀ (d : Nat) (i : Nat) (x5 : List S30), x5.length = n → i + d = n → Ev (fun k => waymarklaw01_AddrCuts.l0 k a b x5 l (i : Int)) true := by
  intro d
  induction d with
  | zero =>
    intro i x5 h5 hi
    refine Ev.step (f := fun k => (some (l, r2)).bind fun bt121 => ((waymarkref01_Same.f k bt121.1 l).bind fun t125 => (some t125))) (fun k => ?_) (ev_some (ev_bind _ (same_ev l hl) (ev_now _)))
    simp only [waymarklaw01_AddrCuts.l0]
    rw [if_neg (by omega), hf]
  | succ d ih =>
    intro i x5 h5 hi
    refine Ev.step (f := fun k => waymarklaw01_AddrCuts.l0 k a b (x5.set ((i : Int)).toNat (⟨(rd_T30 x5 (i : Int)).f0, (-1)⟩ : S30)) l ((i + 1 : Nat) : Int)) (fun k => ?_) (ih (i + 1) _ (by rw [List.length_set]; exact h5) (by omega))
    simp only [waymarklaw01_AddrCuts.l0]
    rw [if_pos (by omega), if_pos (by omega), w64_id _ (by omega) (by omega)]
    rfl

theorem AddrCuts : waymarklaw01_AddrCuts.Pure := by
  intro a0 a1 h0 h1
  obtain ⟨b1, b2⟩ := wf_u32 h0
  obtain ⟨b3, b4⟩ := wf_u32 h1
  refine Ev.rounds ?_
  obtain ⟨l, r2, hf, hl, hr⟩ : ∃ l r2, addr_Cut.f a0 a1 = some (l, r2) ∧ l.length ≤ 4294967296 ∧ Ev (fun k => waymarkref01_Cut.f k a0 a1) (l, r2) := by
    obtain ⟨x, rfl⟩ := Int.eq_ofNat_of_zero_le b1
    obtain ⟨y, rfl⟩ := Int.eq_ofNat_of_zero_le b3
    by_cases c : (x : Int) > (y : Int)
    · refine ⟨[], 1, ?_, by simp, ?_⟩
      · unfold addr_Cut.f; rw [if_pos ⟨b1, b2, b3, b4⟩, if_pos c]
      · refine ev_eq (f := fun _ => some ([], 1)) (fun k => ?_) (ev_now _)
        simp only [waymarkref01_Cut.f]; rw [if_pos c]
    · refine ⟨cuts (y + 1) (y + 1 - x) x, 0, ?_, ?_, ?_⟩
      · unfold addr_Cut.f; rw [if_pos ⟨b1, b2, b3, b4⟩, if_neg c, Int.toNat_natCast, Int.toNat_natCast]
      · have := cuts_len (y + 1) (y + 1 - x) x; omega
      · refine ev_eq (f := fun k => waymarkref01_Cut.l0 k (y : Int) [] (x : Int)) (fun k => ?_) (by simpa using outer y (by omega) (y + 1 - x) x [] (by omega) (by omega) (by simp))
        simp only [waymarkref01_Cut.f]
        rw [if_neg c, u64_id _ (by omega) (by omega)]
  refine ev_is _ hf (ev_bind _ hr (ev_bind _ (same_ev l (by omega)) (ev_pos rfl ?_)))
  refine Ev.step (f := fun k => waymarklaw01_AddrCuts.l0 k a0 a1 l l ((0 : Nat) : Int)) (fun k => ?_) (law_l0 a0 a1 l r2 hf (by omega) l.length (by omega) l.length 0 l rfl (by omega))
  simp only [waymarklaw01_AddrCuts.j0]
  rw [if_neg (by simp)]
  rfl

end Go.Proofs.Ytbnihnggljagnaa.Pure
