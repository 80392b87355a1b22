/- The plain law of LexAgain. Conditions: none. -/
import Derived.Test.YtbnihnggljagnaaDoorQLexAgainx5
import Derived.Test.YtbnihnggljagnaaDoorQLexAgainx6
import Derived.Test.YtbnihnggljagnaaDoorQLexAgainx7
import Derived.Test.YtbnihnggljagnaaDoorLexAgainAnewCore
import Derived.Test.YtbnihnggljagnaaDoorLexAgainPureLexWorks
namespace Go.Proofs.YtbnihnggljagnaaDoor.QLexAgain
open Go.RowKit Go.Proofs.YtbnihnggljagnaaDoorW.PrintWords Go.Proofs.YtbnihnggljagnaaDoor.Tools Go.Proofs.YtbnihnggljagnaaDoor.LexMath Go.Proofs.YtbnihnggljagnaaDoor.LexSpec
set_option linter.unusedVariables false
set_option linter.unusedSimpArgs false
theorem app_list (a b : ByteArray) : (a ++ b).data.toList = a.data.toList ++ b.data.toList := by
  rw [ByteArray.data_append, Array.toList_append]
theorem app_size (a b : ByteArray) : (a ++ b).size = a.size + b.size := ByteArray.size_append
theorem size_eq (a : ByteArray) : a.size = a.data.toList.length := (size_list a).symm
theorem pl_count (s : ByteArray) : ∀ i : Nat, i ≤ s.size → (pl s i).1 = 1 + ((s.data.toList.take i).count 10 : Nat) := by
  intro i
  induction i with
  | zero => intro _; rfl
  | succ i ih =>
    intro hi
    have e := bt_list s i (by omega)
    rw [List.take_add_one, e, List.count_append, Option.toList_some, List.count_singleton]
    by_cases h : bt s i = 10
    · rw [pl_line h, ih (by omega), h]
      show (1 : Int) + _ + 1 = _
      rw [if_pos (by rfl)]
      omega
    · rw [pl_same h, ih (by omega), if_neg]
      · rfl
      · intro h2
        exact h ((byte_eq (bt s i) (bt_nn s i) 10).1 (beq_iff_eq.1 h2))
theorem pl_le (s : ByteArray) (n : Nat) (h : s.data.toList.count 10 ≤ n) (i : Nat) (hi : i < s.size) : (pl s i).1 ≤ n + 1 := by
  rw [pl_count s i (by omega)]
  have := List.Sublist.count_le (10 : UInt8) (List.take_sublist i s.data.toList)
  omega
/-- A byte that may stand, in a list. -/
def goodC (c : UInt8) : Prop := c = 10 ∨ (32 ≤ c.toNat ∧ c.toNat ≤ 126)
theorem good_of (s : ByteArray) (h : ∀ c ∈ s.data.toList, goodC c) : ∀ j, j < s.size → good s j := by
  intro j hj
  have e := bt_list s j hj
  have hm := List.mem_of_getElem? e
  have hb := (byte_eq (bt s j) (bt_nn s j) (bt s j).toNat.toUInt8).1 rfl
  rcases h _ hm with h | h
  · left
    rw [h] at hb
    exact hb
  · right; omega
theorem of_good (s : ByteArray) (h : ∀ j, j < s.size → good s j) : ∀ c ∈ s.data.toList, goodC c := by
  intro c hc
  obtain ⟨j, hj⟩ := List.mem_iff_getElem?.1 hc
  obtain ⟨h1, h2⟩ := bt_some hj
  rcases h j h1 with h | h
  · left
    apply UInt8.toNat_inj.1
    show _ = 10
    omega
  · right; omega
theorem rdLa (A : List Ln) (i : Nat) (h : i < A.length) : rd_T35 (A.map Ln.a) i = (A[i]'h).a := by
  unfold rd_T35
  simp [List.getD, h]
theorem rdWa (A : List Wd) (i : Nat) (h : i < A.length) : rd_T37 (A.map Wd.a) i = (A[i]'h).a := by
  unfold rd_T37
  simp [List.getD, h]
theorem rdTa (A : List Tk) (i : Nat) (h : i < A.length) : rd_T64 (A.map Tk.a) i = (A[i]'h).a := by
  unfold rd_T64
  simp [List.getD, h]
section lines
variable {x1 x2 : ByteArray} {A : List Ln} {m : Nat} {r : Bool}
theorem ag_l1 (hm : m < A.length) (hn : (A[m]'hm).indent ≤ 10000) : ∀ d i : Nat, ∀ x10 : ByteArray, i + d = (A[m]'hm).indent → x10.size ≤ 1000000000000 + i → (∀ x' : ByteArray, x'.data.toList = x10.data.toList ++ List.replicate d 32 → Ev (fun k => waymarklaw07_again.l2 k x1 x2 (A.map Ln.a) x' m 0) r) → Ev (fun k => waymarklaw07_again.l1 k x1 x2 (A.map Ln.a) x10 m i) r := by
  intro d
  induction d with
  | zero =>
    intro i x10 hi hs h
    refine Ev.step (fun k => by rw [waymarklaw07_again.l1]) (ev_pos (by omega) (ev_pos (by rw [List.length_map]; omega) (ev_neg ?_ (h x10 (by simp)))))
    rw [rdLa A m hm]
    show ¬ (i : Int) < ((A[m]'hm).indent : Int)
    omega
  | succ d ih =>
    intro i x10 hi hs h
    refine Ev.step (fun k => by rw [waymarklaw07_again.l1]) (ev_pos (by omega) (ev_pos (by rw [List.length_map]; omega) (ev_pos ?_ (ev_pos (by omega) ?_))))
    · rw [rdLa A m hm]
      show (i : Int) < ((A[m]'hm).indent : Int)
      omega
    · rw [w64_id _ (by omega) (by omega)]
      refine ih (i + 1) _ (by omega) (by rw [app_size]; show x10.size + 1 ≤ _; omega) (fun x' hx => h x' ?_)
      rw [hx, app_list, List.append_assoc]
      rfl
theorem ag_l2 (g : Nat) (h1 : x1.data.toList = List.replicate g 32) (hg : g ≤ 3) (h2 : x2.size ≤ 20) (hA : A.length ≤ 1000) (hm : m < A.length) (hW : (A[m]'hm).words.length ≤ 10001) (hw : ∀ t ∈ (A[m]'hm).words, t.text.size ≤ 10000) : ∀ d j : Nat, ∀ x10 : ByteArray, j + d = (A[m]'hm).words.length → x10.size ≤ 2000000000000 + j * 10003 → (∀ x' : ByteArray, x'.data.toList = x10.data.toList ++ ((((A[m]'hm).words.drop j).map fun t => t.text.data.toList).flatMap (fun w => w ++ List.replicate g 32) ++ ([10, 32, 32, 33, 32] ++ (x2.data.toList ++ [10, 10]))) → Ev (fun k => waymarklaw07_again.l0 k x1 x2 (A.map Ln.a) x' ((m + 1 : Nat) : Int)) r) → Ev (fun k => waymarklaw07_again.l2 k x1 x2 (A.map Ln.a) x10 m j) r := by
  have hx1 : x1.size = g := by rw [size_eq, h1, List.length_replicate]
  intro d
  induction d with
  | zero =>
    intro j x10 hj hs h
    refine Ev.step (fun k => by rw [waymarklaw07_again.l2]) (ev_pos (by omega) (ev_pos (by rw [List.length_map]; omega) (ev_neg ?_ ?_)))
    · rw [rdLa A m hm]
      show ¬ (j : Int) < (((A[m]'hm).words.map Wd.a).length : Int)
      rw [List.length_map]; omega
    · have e5 : (⟨#[10, 32, 32, 33, 32]⟩ : ByteArray).size = 5 := rfl
      refine ev_pos (by omega) (ev_pos (by rw [app_size, e5]; omega) (ev_pos (by rw [app_size, app_size, e5]; omega) ?_))
      rw [w64_id _ (by omega) (by omega)]
      refine h _ ?_
      rw [List.drop_of_length_le (by omega), app_list, app_list, app_list]
      simp only [List.map_nil, List.flatMap_nil, List.nil_append, List.append_assoc]
  | succ d ih =>
    intro j x10 hj hs h
    have hjl : j < (A[m]'hm).words.length := by omega
    have hwj := hw _ (List.getElem_mem hjl)
    have rl := rdLa A m hm
    have rw1 : rd_T37 (A[m]'hm).a.f1 j = ((A[m]'hm).words[j]'hjl).a := rdWa _ j hjl
    refine Ev.step (fun k => by rw [waymarklaw07_again.l2]) ?_
    rw [rl, rw1]
    have et : ((A[m]'hm).words[j]'hjl).a.f0 = ((A[m]'hm).words[j]'hjl).text := rfl
    rw [et]
    refine ev_pos (by omega) (ev_pos (by rw [List.length_map]; omega) (ev_pos ?_ (ev_pos (by omega) (ev_pos (by omega) (ev_pos (by rw [app_size]; omega) ?_)))))
    · show (j : Int) < (((A[m]'hm).words.map Wd.a).length : Int)
      rw [List.length_map]; omega
    · rw [w64_id _ (by omega) (by omega)]
      refine ih (j + 1) _ (by omega) (by rw [app_size, app_size, Nat.add_mul]; omega) (fun x' hx => h x' ?_)
      rw [hx, List.drop_eq_getElem_cons hjl, List.map_cons, List.flatMap_cons, app_list, app_list, h1]
      simp only [List.append_assoc]
end lines
theorem again_same {A B : List Ln} (h : A.map Ln.spec = B.map Ln.spec) (hA : A.length ≤ 1000) (hW : ∀ l ∈ A, l.words.length ≤ 10001) : Ev (fun k => waymarklaw07_again.l3 k (A.map Ln.a) (B.map Ln.a) 0) true := by
  have hlen : A.length = B.length := by have := congrArg List.length h; simpa using this
  have key : ∀ d i : Nat, i + d = A.length → Ev (fun k => waymarklaw07_again.l3 k (A.map Ln.a) (B.map Ln.a) i) true := by
    intro d
    induction d with
    | zero =>
      intro i hi
      exact Ev.step (fun k => by rw [waymarklaw07_again.l3]) (ev_neg (by rw [List.length_map]; omega) (ev_now _))
    | succ d ih =>
      intro i hi
      have hia : i < A.length := by omega
      have hib : i < B.length := by omega
      have hw := hW _ (List.getElem_mem hia)
      have hs : (A[i]'hia).spec = (B[i]'hib).spec := by
        have := congrArg (fun l => l[i]?) h
        simpa [hia, hib] using this
      have hind : (A[i]'hia).indent = (B[i]'hib).indent := congrArg Prod.fst hs
      have htx : (A[i]'hia).words.map (fun t => t.text.data.toList) = (B[i]'hib).words.map (fun t => t.text.data.toList) := congrArg Prod.snd hs
      have hwl : (A[i]'hia).words.length = (B[i]'hib).words.length := by have := congrArg List.length htx; simpa using this
      have ra := rdLa A i hia
      have rb := rdLa B i hib
      have inner : ∀ d2 j : Nat, j + d2 = (A[i]'hia).words.length → Ev (fun k => waymarklaw07_again.l4 k (A.map Ln.a) (B.map Ln.a) i j) true := by
        intro d2
        induction d2 with
        | zero =>
          intro j hj
          refine Ev.step (fun k => by rw [waymarklaw07_again.l4]) ?_
          refine ev_pos (by omega) (ev_pos (by rw [List.length_map]; omega) (ev_neg ?_ ?_))
          · rw [ra]
            show ¬ (j : Int) < (((A[i]'hia).words.map Wd.a).length : Int)
            rw [List.length_map]; omega
          · rw [w64_id _ (by omega) (by omega)]
            exact ih (i + 1) (by omega)
        | succ d2 ih2 =>
          intro j hj
          have hja : j < (A[i]'hia).words.length := by omega
          have hjb : j < (B[i]'hib).words.length := by omega
          have wa : rd_T37 (A[i]'hia).a.f1 j = ((A[i]'hia).words[j]'hja).a := rdWa _ j hja
          have wb : rd_T37 (B[i]'hib).a.f1 j = ((B[i]'hib).words[j]'hjb).a := rdWa _ j hjb
          refine Ev.step (fun k => by rw [waymarklaw07_again.l4]) ?_
          rw [ra, rb, wa, wb]
          refine ev_pos (by omega) (ev_pos (by rw [List.length_map]; omega) (ev_pos ?_ (ev_pos (by omega) (ev_pos (by rw [List.length_map]; omega) (ev_pos ?_ (ev_pos ?_ ?_))))))
          · show (j : Int) < (((A[i]'hia).words.map Wd.a).length : Int)
            rw [List.length_map]; omega
          · show (j : Int) < (((B[i]'hib).words.map Wd.a).length : Int)
            rw [List.length_map]; omega
          · show ((A[i]'hia).words[j]'hja).text.toList = ((B[i]'hib).words[j]'hjb).text.toList
            rw [ByteArray.toList_eq, ByteArray.toList_eq]
            have := congrArg (fun l => l[j]?) htx
            simpa [hja, hjb] using this
          · rw [w64_id _ (by omega) (by omega)]
            exact ih2 (j + 1) (by omega)
      refine Ev.step (fun k => by rw [waymarklaw07_again.l3]) ?_
      rw [ra, rb]
      refine ev_pos (by rw [List.length_map]; omega) (ev_pos (by omega) (ev_pos (by rw [List.length_map]; omega) (ev_pos ?_ ?_)))
      · show ((A[i]'hia).indent : Int) = ((B[i]'hib).indent : Int)
        rw [hind]
      · rw [show ((((A[i]'hia).a.f1).length : Int) != (((B[i]'hib).a.f1).length : Int)) = false by
          show ((((A[i]'hia).words.map Wd.a).length : Int) != (((B[i]'hib).words.map Wd.a).length : Int)) = false
          rw [List.length_map, List.length_map, hwl, bne_self_eq_false]]
        refine Ev.step (fun k => by rw [waymarklaw07_again.j5]) ?_
        exact ev_neg (by decide) (inner _ 0 (Nat.zero_add _))
  exact key A.length 0 (by omega)
theorem again_val (s x1 x2 : ByteArray) (g : Nat) (h1 : x1.data.toList = List.replicate g 32) (hg0 : 0 < g) (hg : g ≤ 3) (h2 : x2.size ≤ 20) (hnote : ∀ c ∈ x2.data.toList, 97 ≤ c.toNat ∧ c.toNat ≤ 122) : Ev (fun k => waymarklaw07_again.f k s x1 x2) true := by
  obtain ⟨r, c1, c2, _⟩ := check_val s
  have out : ∀ {X : List S35}, Ev (fun k => waymarklaw07_again.j0 k x1 x2 X true) true := fun {X} => Ev.step (fun k => by rw [waymarklaw07_again.j0]) (ev_pos rfl (ev_now _))
  by_cases h0 : r.2.2 = 0
  · obtain ⟨hr, hs, hgood⟩ := c2 h0
    subst hr
    obtain ⟨A, a1, a2, a3, F⟩ := lines_ok s hs c1
    refine Ev.congr (fun k => by rw [waymarklaw07_again.f]) (Ev.bind F (ev_pos rfl ?_))
    by_cases hbig : (s.size : Int) > 10000
    · exact ev_pos hbig out
    refine ev_neg hbig ?_
    by_cases hmany : ((A.map Ln.a).length : Int) > 1000
    · rw [decide_eq_true hmany]; exact out
    rw [decide_eq_false hmany]
    rw [List.length_map] at hmany
    have hA : A.length ≤ 1000 := by omega
    have hsl : s.data.toList.length ≤ 10000 := by rw [size_list]; omega
    -- what the lines are
    have ok : ∀ l ∈ A, okLine l.spec ∧ l.indent ≤ 10000 ∧ l.words.length ≤ 10001 ∧ (∀ t ∈ l.words, t.text.size ≤ 10000 ∧ ∀ c ∈ t.text.data.toList, goodC c) := by
      intro l hl
      obtain ⟨q1, q2, q3, q4⟩ := linesL_ok s.data.toList l.spec (by rw [← a2]; exact List.mem_map_of_mem hl)
      have q2 : l.indent ≤ s.data.toList.length := q2
      have q3 : (l.words.map fun t => t.text.data.toList).length ≤ s.data.toList.length + 1 := q3
      rw [List.length_map] at q3
      refine ⟨q1, by omega, by omega, fun t ht => ?_⟩
      obtain ⟨p1, p2⟩ := q4 _ (List.mem_map_of_mem (f := fun t : Wd => t.text.data.toList) ht)
      rw [size_list] at p1
      exact ⟨by omega, fun c hc => of_good s hgood c (p2 c hc)⟩
    have key : ∀ d m : Nat, ∀ x10 : ByteArray, m + d = A.length → x10.data.toList = againT g x2.data.toList ((A.take m).map Ln.spec) → x10.size ≤ m * 200000000 → Ev (fun k => waymarklaw07_again.l0 k x1 x2 (A.map Ln.a) x10 m) true := by
      intro d
      induction d with
      | zero =>
        intro m x10 hm hx hsz
        refine Ev.step (fun k => by rw [waymarklaw07_again.l0]) (ev_neg (by rw [List.length_map]; omega) ?_)
        rw [List.take_of_length_le (by omega)] at hx
        have okS : ∀ L ∈ A.map Ln.spec, okLine L := fun L hL => by
          obtain ⟨l, hl, rfl⟩ := List.mem_map.1 hL
          exact (ok l hl).1
        have note10 : ∀ c ∈ x2.data.toList, c ≠ 10 := fun c hc h => by
          subst h
          exact absurd (hnote _ hc).1 (by decide)
        by_cases hl : x10.size ≤ 65536
        · have gx : ∀ j, j < x10.size → good x10 j := good_of x10 fun c hc => by
            rw [hx] at hc
            rcases again_mem g _ _ c hc with h | h | h | h | ⟨L, hL, w, hw, hcw⟩
            · subst h; right; decide
            · exact .inl h
            · subst h; right; decide
            · right; have := hnote c h; omega
            · obtain ⟨l, hl, rfl⟩ := List.mem_map.1 hL
              obtain ⟨t, ht, rfl⟩ := List.mem_map.1 hw
              exact ((ok l hl).2.2.2 t ht).2 c hcw
          have lx : ∀ j, j < x10.size → (pl x10 j).1 ≤ 4096 := fun j hj => by
            have := pl_le x10 3000 (by rw [hx, again_count g _ note10 _ okS, List.length_map]; omega) j hj
            omega
          obtain ⟨B, b1, b2, _, G⟩ := lines_ok x10 hl (check_ok x10 hl gx lx)
          rw [hx, linesL_again g _ hg0 note10 _ okS] at b2
          have hlen : A.length = B.length := by have := congrArg List.length b2; simpa using this.symm
          refine Ev.bind G (ev_pos rfl (ev_pos (by rw [List.length_map, List.length_map, hlen]) ?_))
          exact again_same b2.symm hA (fun l hl => (ok l hl).2.2.1)
        · refine Ev.bind (lines_bad x10 _ (check_big x10 (by omega)) (show ¬ (3 : Int) = 0 by decide)) (ev_neg (show ¬ (3 : Int) = 0 by decide) ?_)
          rw [decide_eq_true (by omega)]
          exact ev_now _
      | succ d ih =>
        intro m x10 hm hx hsz
        have hml : m < A.length := by omega
        obtain ⟨o1, o2, o3, o4⟩ := ok _ (List.getElem_mem hml)
        refine Ev.step (fun k => by rw [waymarklaw07_again.l0]) (ev_pos (by rw [List.length_map]; omega) ?_)
        refine ag_l1 hml o2 _ 0 x10 (Nat.zero_add _) (by omega) (fun x' hx' => ?_)
        have hx's : x'.size = x10.size + (A[m]'hml).indent := by rw [size_eq, hx', List.length_append, List.length_replicate, size_list]
        refine ag_l2 g h1 hg h2 hA hml o3 (fun t ht => (o4 t ht).1) _ 0 x' (Nat.zero_add _) (by omega) (fun x'' hx'' => ?_)
        rw [List.drop_zero] at hx''
        refine ih (m + 1) x'' (by omega) ?_ ?_
        · rw [hx'', hx', hx, List.take_add_one, List.getElem?_eq_getElem hml, Option.toList_some, List.map_append, List.map_singleton]
          unfold againT lineT
          rw [List.flatMap_append, List.flatMap_singleton]
          simp only [List.append_assoc, List.cons_append, List.nil_append]
          rfl
        · have hfl : ∀ ws : List Wd, (∀ t ∈ ws, t.text.size ≤ 10000) → ((ws.map fun t => t.text.data.toList).flatMap (fun w => w ++ List.replicate g 32)).length ≤ ws.length * 10003 := by
            intro ws
            induction ws with
            | nil => intro _; simp
            | cons t ws ihw =>
              intro h
              have e1 := ihw (fun t ht => h t (List.mem_cons_of_mem _ ht))
              have e2 := h t (List.mem_cons_self ..)
              rw [List.map_cons, List.flatMap_cons, List.length_append, List.length_append, List.length_replicate, size_list, List.length_cons, Nat.add_mul]
              omega
          have e := hfl (A[m]'hml).words (fun t ht => (o4 t ht).1)
          have hlen := congrArg List.length hx''
          rw [size_list, List.length_append, size_list, List.length_append, List.length_append, List.length_append, size_list] at hlen
          have e5 : ([10, 32, 32, 33, 32] : List UInt8).length = 5 := rfl
          have e2 : ([10, 10] : List UInt8).length = 2 := rfl
          rw [e5, e2] at hlen
          have hmul : (A[m]'hml).words.length * 10003 ≤ 10001 * 10003 := Nat.mul_le_mul_right _ o3
          rw [hlen, Nat.add_mul]
          omega
    have := key A.length 0 ⟨#[]⟩ (by omega) rfl (by show (0 : Nat) ≤ _; omega)
    refine Ev.step (fun k => by rw [waymarklaw07_again.j0]) ?_
    exact ev_neg (by decide) this
  · exact Ev.congr (fun k => by rw [waymarklaw07_again.f]) (Ev.bind (lines_bad s r c1 h0) (ev_neg h0 out))
/-- A token, without its place. -/
def Tk.spec (t : Tk) : Int × List UInt8 := (t.kind, t.text.data.toList)
theorem an_step {x1 x2 : ByteArray} {A : List Tk} {m : Nat} {r : Bool} (g : Nat) (h1 : x1.data.toList = List.replicate g 32) (hg : g ≤ 3) (h2 : x2.size ≤ 20) (hA : A.length ≤ 1000) (hm : m < A.length) (ht : (A[m]'hm).text.size ≤ 10000) (x10 : ByteArray) (hs : x10.size ≤ 2000000000000)
    (h : ∀ x' : ByteArray, x'.data.toList = x10.data.toList ++ (wordT (A[m]'hm).spec ++ tailT g x2.data.toList) → Ev (fun k => waymarklaw07_anew.l0 k x1 x2 (A.map Tk.a) x' ((m + 1 : Nat) : Int)) r) : Ev (fun k => waymarklaw07_anew.l0 k x1 x2 (A.map Tk.a) x10 m) r := by
  have hx1 : x1.size = g := by rw [size_eq, h1, List.length_replicate]
  have rt := rdTa A m hm
  have e1 : (⟨#[34]⟩ : ByteArray).size = 1 := rfl
  have e2 : (⟨#[47, 42]⟩ : ByteArray).size = 2 := rfl
  have e3 : (⟨#[42, 47, 32, 35, 32]⟩ : ByteArray).size = 5 := rfl
  refine Ev.step (fun k => by rw [waymarklaw07_anew.l0]) ?_
  rw [rt]
  have k0 : (A[m]'hm).a.f0 = (A[m]'hm).kind := rfl
  have k1 : (A[m]'hm).a.f1 = (A[m]'hm).text := rfl
  rw [k0, k1]
  refine ev_pos (by rw [List.length_map]; omega) (ev_pos (by omega) ?_)
  by_cases hk : (A[m]'hm).kind = 1
  · refine ev_pos hk (ev_pos (by omega) (ev_pos (by simp only [app_size, e1, e2, e3]; omega) (ev_pos (by simp only [app_size, e1, e2, e3]; omega) (ev_pos (by simp only [app_size, e1, e2, e3]; omega) (ev_pos (by simp only [app_size, e1, e2, e3]; omega) (ev_pos (by simp only [app_size, e1, e2, e3]; omega) (ev_pos (by simp only [app_size, e1, e2, e3]; omega) (ev_pos (by simp only [app_size, e1, e2, e3]; omega) (ev_pos (by simp only [app_size, e1, e2, e3]; omega) ?_)))))))))
    rw [w64_id _ (by omega) (by omega)]
    refine h _ ?_
    have e : wordT (A[m]'hm).spec = 34 :: ((A[m]'hm).text.data.toList ++ [34]) := by unfold wordT; rw [if_pos (show (A[m]'hm).spec.1 = 1 from hk)]; rfl
    rw [e]
    simp only [app_list, h1, tailT, List.append_assoc, List.cons_append, List.nil_append]
  · refine ev_neg hk (ev_pos (by omega) (ev_pos (by simp only [app_size, e1, e2, e3]; omega) (ev_pos (by simp only [app_size, e1, e2, e3]; omega) (ev_pos (by simp only [app_size, e1, e2, e3]; omega) (ev_pos (by simp only [app_size, e1, e2, e3]; omega) (ev_pos (by simp only [app_size, e1, e2, e3]; omega) (ev_pos (by simp only [app_size, e1, e2, e3]; omega) ?_)))))))
    rw [w64_id _ (by omega) (by omega)]
    refine h _ ?_
    have e : wordT (A[m]'hm).spec = (A[m]'hm).text.data.toList := by unfold wordT; rw [if_neg (show ¬ (A[m]'hm).spec.1 = 1 from hk)]; rfl
    rw [e]
    simp only [app_list, h1, tailT, List.append_assoc, List.cons_append, List.nil_append]
theorem anew_same {A B : List Tk} (h : B.map Tk.spec = A.map Tk.spec) (hA : A.length ≤ 1000) : Ev (fun k => waymarklaw07_anew.l1 k (A.map Tk.a) (B.map Tk.a) 0) true := by
  have hlen : A.length = B.length := by have := congrArg List.length h; simpa using this.symm
  have key : ∀ d i : Nat, i + d = A.length → Ev (fun k => waymarklaw07_anew.l1 k (A.map Tk.a) (B.map Tk.a) i) true := by
    intro d
    induction d with
    | zero =>
      intro i hi
      exact Ev.step (fun k => by rw [waymarklaw07_anew.l1]) (ev_neg (by rw [List.length_map]; omega) (ev_now _))
    | succ d ih =>
      intro i hi
      have hia : i < A.length := by omega
      have hib : i < B.length := by omega
      have hs : (A[i]'hia).spec = (B[i]'hib).spec := by
        have := congrArg (fun l => l[i]?) h
        simpa [hia, hib] using this.symm
      refine Ev.step (fun k => by rw [waymarklaw07_anew.l1]) ?_
      rw [rdTa A i hia, rdTa B i hib]
      refine ev_pos (by rw [List.length_map]; omega) (ev_pos (by omega) (ev_pos (by rw [List.length_map]; omega) (ev_pos ?_ (ev_pos ?_ ?_))))
      · exact congrArg Prod.fst hs
      · show (A[i]'hia).text.toList = (B[i]'hib).text.toList
        rw [ByteArray.toList_eq, ByteArray.toList_eq]
        exact congrArg Prod.snd hs
      · rw [w64_id _ (by omega) (by omega)]
        exact ih (i + 1) (by omega)
  exact key A.length 0 (by omega)
theorem at_sub {s : ByteArray} {i : Nat} {t : Tk} (h : At s i t) : t.text.size ≤ s.size ∧ ∀ c ∈ t.text.data.toList, c ∈ s.data.toList := by
  obtain ⟨h0, _, _, h⟩ := h
  obtain ⟨a, b, e⟩ : ∃ a b, t.text = s.extract a b := by
    rcases h with ⟨_, _, m, _, h2, _⟩ | ⟨_, _, m, _, _, h2, _⟩ | ⟨_, _, h2⟩ <;> exact ⟨_, _, h2⟩
  rw [e]
  refine ⟨by rw [ByteArray.size_extract]; omega, fun c hc => ?_⟩
  rw [list_mid] at hc
  exact List.mem_of_mem_drop (List.mem_of_mem_take hc)
theorem sgn_not (c : UInt8) (h : ¬ sgn c.toNat = 0) : c ≠ 10 := by
  rintro rfl
  exact h (by decide)
theorem wordT_ten (t : Int × List UInt8) (h : okTok t) : ∀ c ∈ wordT t, c ≠ 10 := by
  intro c hc
  unfold wordT at hc
  rcases h with ⟨h1, h2⟩ | ⟨x, h1, h2, h3⟩
  · rw [if_pos h1] at hc
    rcases List.mem_cons.1 hc with rfl | hc
    · decide
    · rcases List.mem_append.1 hc with hc | hc
      · exact (h2 c hc).2
      · rw [List.mem_singleton.1 hc]; decide
  · rw [if_neg (fun h => sgn_one x.toNat (h3 ▸ h)), h1] at hc
    rw [List.mem_singleton.1 hc]
    exact sgn_not x h2
theorem anew_count (g : Nat) (note : List UInt8) (hn : ∀ c ∈ note, c ≠ 10) : ∀ A : List (Int × List UInt8), (∀ t ∈ A, okTok t) → (anewT g note A).count 10 = A.length
  | [], _ => rfl
  | t :: A, h => by
    have ih := anew_count g note hn A (fun t ht => h t (List.mem_cons_of_mem _ ht))
    have z : ∀ l : List UInt8, (∀ c ∈ l, c ≠ 10) → l.count 10 = 0 := fun l hl => List.count_eq_zero.2 fun h => hl 10 h rfl
    have zr : (List.replicate g 32 : List UInt8).count 10 = 0 := z _ fun c hc => by rw [List.eq_of_mem_replicate hc]; decide
    unfold anewT at ih ⊢
    rw [List.flatMap_cons, List.count_append, List.count_append, ih, z _ (wordT_ten t (h t (List.mem_cons_self ..))), List.length_cons]
    unfold tailT
    simp only [List.count_append, List.count_cons, zr, z _ hn, List.count_nil]
    simp
    omega
theorem anew_mem (g : Nat) (note : List UInt8) (A : List (Int × List UInt8)) : ∀ c ∈ anewT g note A, goodC c ∨ c ∈ note ∨ ∃ t ∈ A, c ∈ t.2 := by
  intro c hc
  have k : ∀ x : UInt8, x = 34 ∨ x = 32 ∨ x = 47 ∨ x = 42 ∨ x = 35 ∨ x = 10 → goodC x := by
    rintro x (rfl | rfl | rfl | rfl | rfl | rfl)
    all_goals first | (left; rfl) | (right; decide)
  obtain ⟨t, ht, hc⟩ := List.mem_flatMap.1 hc
  rcases List.mem_append.1 hc with hc | hc
  · unfold wordT at hc
    split at hc
    · rcases List.mem_cons.1 hc with h | hc
      · exact .inl (k c (.inl h))
      · rcases List.mem_append.1 hc with hc | hc
        · exact .inr (.inr ⟨t, ht, hc⟩)
        · exact .inl (k c (.inl (List.mem_singleton.1 hc)))
    · exact .inr (.inr ⟨t, ht, hc⟩)
  · unfold tailT at hc
    simp only [List.mem_append, List.mem_cons, List.not_mem_nil, or_false] at hc
    rcases hc with h | h | h | h | h | h | h | h | h | h | h
    · exact .inl (k c (.inr (.inl (List.eq_of_mem_replicate h))))
    · exact .inl (k c (by simp [h]))
    · exact .inl (k c (by simp [h]))
    · exact .inr (.inl h)
    · exact .inl (k c (by simp [h]))
    · exact .inl (k c (by simp [h]))
    · exact .inl (k c (by simp [h]))
    · exact .inl (k c (by simp [h]))
    · exact .inl (k c (by simp [h]))
    · exact .inr (.inl h)
    · exact .inl (k c (by simp [h]))
theorem anew_val (s x1 x2 : ByteArray) (g : Nat) (h1 : x1.data.toList = List.replicate g 32) (hg0 : 0 < g) (hg : g ≤ 3) (h2 : x2.size ≤ 20) (hnote : ∀ c ∈ x2.data.toList, 97 ≤ c.toNat ∧ c.toNat ≤ 122) : Ev (fun k => waymarklaw07_anew.f k s x1 x2) true := by
  obtain ⟨A, e, F, T⟩ := tokens_val s
  have out : ∀ {X : List S64}, Ev (fun k => waymarklaw07_anew.j0 k x1 x2 X true) true := fun {X} => Ev.step (fun k => by rw [waymarklaw07_anew.j0]) (ev_pos rfl (ev_now _))
  by_cases h0 : e.2.2 = 0
  · obtain ⟨T1, T2, hs, hgood⟩ := T h0
    have hr : resA [] A e = (A.map Tk.a, 0, 0, 0) := by simp [resA, h0]
    rw [hr] at F
    refine Ev.congr (fun k => by rw [waymarklaw07_anew.f]) (Ev.bind F (ev_pos rfl ?_))
    by_cases hbig : (s.size : Int) > 10000
    · exact ev_pos hbig out
    refine ev_neg hbig ?_
    by_cases hmany : ((A.map Tk.a).length : Int) > 1000
    · rw [decide_eq_true hmany]; exact out
    rw [decide_eq_false hmany]
    rw [List.length_map] at hmany
    have hA : A.length ≤ 1000 := by omega
    have ok : ∀ t ∈ A, okTok t.spec ∧ t.text.size ≤ 10000 ∧ ∀ c ∈ t.text.data.toList, goodC c := fun t ht => by
      obtain ⟨a, ha⟩ := toks_ok T2 t ht
      obtain ⟨s1, s2⟩ := at_sub ha
      exact ⟨at_ok ha, by omega, fun c hc => of_good s hgood c (s2 c hc)⟩
    have key : ∀ d m : Nat, ∀ x10 : ByteArray, m + d = A.length → x10.data.toList = anewT g x2.data.toList ((A.take m).map Tk.spec) → x10.size ≤ m * 20000 → Ev (fun k => waymarklaw07_anew.l0 k x1 x2 (A.map Tk.a) x10 m) true := by
      intro d
      induction d with
      | zero =>
        intro m x10 hm hx hsz
        refine Ev.step (fun k => by rw [waymarklaw07_anew.l0]) (ev_neg (by rw [List.length_map]; omega) ?_)
        rw [List.take_of_length_le (by omega)] at hx
        have okS : ∀ t ∈ A.map Tk.spec, okTok t := fun t ht => by
          obtain ⟨t0, ht0, rfl⟩ := List.mem_map.1 ht
          exact (ok t0 ht0).1
        have note10 : ∀ c ∈ x2.data.toList, c ≠ 42 ∧ c ≠ 10 := fun c hc => by
          have := hnote c hc
          constructor
          · rintro rfl; exact absurd this.1 (by decide)
          · rintro rfl; exact absurd this.1 (by decide)
        by_cases hl : x10.size ≤ 65536
        · have gx : ∀ j, j < x10.size → good x10 j := good_of x10 fun c hc => by
            rw [hx] at hc
            rcases anew_mem g _ _ c hc with h | h | ⟨t, ht, hct⟩
            · exact h
            · right; have := hnote c h; omega
            · obtain ⟨t0, ht0, rfl⟩ := List.mem_map.1 ht
              exact (ok t0 ht0).2.2 c hct
          have lx : ∀ j, j < x10.size → (pl x10 j).1 ≤ 4096 := fun j hj => by
            have := pl_le x10 1000 (by rw [hx, anew_count g _ (fun c hc => (note10 c hc).2) _ okS, List.length_map]; omega) j hj
            omega
          obtain ⟨B, b1, b2⟩ := v_all hl gx g x2.data.toList note10 (A.map Tk.spec) 0 (by omega) (by rw [List.drop_zero]; exact hx) okS
          have G := tokens_of x10 _ (check_ok x10 hl gx lx) (b2 [] (by rw [List.length_map]; simp; omega))
          rw [List.nil_append] at G
          have b1 : B.map Tk.spec = A.map Tk.spec := b1
          have hlen : A.length = B.length := by have := congrArg List.length b1; simpa using this.symm
          refine Ev.bind G (ev_pos rfl (ev_pos (by rw [List.length_map, List.length_map, hlen]) ?_))
          exact anew_same b1 hA
        · have hbad : Ev (fun k => lex_Tokens.f k x10) (([], 0, 0, 3) : List S64 × Int × Int × Int) := Ev.congr (fun k => by rw [lex_Tokens.f]) (Ev.bind (check_big x10 (by omega)) (ev_neg (show ¬ (3 : Int) = 0 by decide) (ev_now _)))
          refine Ev.bind hbad (ev_neg (show ¬ (3 : Int) = 0 by decide) ?_)
          rw [decide_eq_true (by omega)]
          exact ev_now _
      | succ d ih =>
        intro m x10 hm hx hsz
        have hml : m < A.length := by omega
        obtain ⟨o1, o2, o3⟩ := ok _ (List.getElem_mem hml)
        refine an_step g h1 hg h2 hA hml o2 x10 (by omega) (fun x' hx' => ?_)
        refine ih (m + 1) x' (by omega) ?_ ?_
        · rw [hx', hx, List.take_add_one, List.getElem?_eq_getElem hml, Option.toList_some, List.map_append, List.map_singleton]
          unfold anewT
          rw [List.flatMap_append, List.flatMap_singleton]
        · have hlen := congrArg List.length hx'
          have hw : (wordT (A[m]'hml).spec).length ≤ (A[m]'hml).text.size + 2 := by
            unfold wordT
            split
            · simp only [List.length_cons, List.length_append, List.length_nil]
              show (A[m]'hml).text.data.toList.length + 1 + 1 ≤ _
              rw [size_list]; omega
            · show (A[m]'hml).text.data.toList.length ≤ _
              rw [size_list]; omega
          have htl : (tailT g x2.data.toList).length ≤ 60 := by
            unfold tailT
            simp only [List.length_append, List.length_replicate, List.length_cons, List.length_nil, size_list]
            omega
          rw [size_list, List.length_append, size_list, List.length_append] at hlen
          rw [Nat.add_mul]
          omega
    have := key A.length 0 ⟨#[]⟩ (by omega) rfl (by show (0 : Nat) ≤ _; omega)
    refine Ev.step (fun k => by rw [waymarklaw07_anew.j0]) ?_
    exact ev_neg (by decide) this
  · have hr : resA [] A e = ([], e) := by simp [resA, h0]
    rw [hr] at F
    exact Ev.congr (fun k => by rw [waymarklaw07_anew.f]) (Ev.bind F (ev_neg h0 out))
theorem lexAgain_pure (s : ByteArray) (b : Int) (hb : 0 ≤ b ∧ b ≤ 255) (note : ByteArray) : ∃ k, waymarklaw07_LexAgain.f k s b note = some true := by
  apply Ev.rounds
  have hw : Ev (fun k => waymarklaw07_works.f k) true := Ev.of (waymarklaw07_works.mono) works_true
  refine Ev.congr (fun k => by rw [waymarklaw07_LexAgain.f]) (Ev.bind hw (ev_pos rfl ?_))
  have hm0 : wrap64 (Int.tmod b 3) = Int.tmod b 3 := by
    have h1 : Int.tmod b 3 = b % 3 := Int.tmod_eq_emod_of_nonneg hb.1
    rw [h1]
    exact w64_id _ (by omega) (by omega)
  obtain ⟨q, hq, hq3⟩ : ∃ q : Nat, Int.tmod b 3 = q ∧ q ≤ 2 := by
    have h1 : Int.tmod b 3 = b % 3 := Int.tmod_eq_emod_of_nonneg hb.1
    exact ⟨(b % 3).toNat, by rw [h1]; omega, by omega⟩
  -- the gap
  have gap : ∀ c : ByteArray, c.size ≤ 20 → (∀ x ∈ c.data.toList, 97 ≤ x.toNat ∧ x.toNat ≤ 122) → ∀ d i : Nat, ∀ x9 : ByteArray, i + d = q → x9.data.toList = List.replicate (i + 1) 32 → Ev (fun k => waymarklaw07_LexAgain.l1 k s b c x9 i) true := by
    intro c hc hcl d
    induction d with
    | zero =>
      intro i x9 hi hx
      refine Ev.step (fun k => by rw [waymarklaw07_LexAgain.l1]) ?_
      rw [hm0, hq]
      refine ev_neg (by omega) (Ev.bind (again_val s x9 c (i + 1) hx (by omega) (by omega) hc hcl) (ev_pos rfl (Ev.bind (anew_val s x9 c (i + 1) hx (by omega) (by omega) hc hcl) (ev_now _))))
    | succ d ih =>
      intro i x9 hi hx
      have hsz : x9.size = i + 1 := by rw [size_eq, hx, List.length_replicate]
      refine Ev.step (fun k => by rw [waymarklaw07_LexAgain.l1]) ?_
      rw [hm0, hq]
      refine ev_pos (by omega) (ev_pos (by omega) ?_)
      rw [w64_id _ (by omega) (by omega)]
      refine ih (i + 1) _ (by omega) ?_
      rw [app_list, hx]
      exact (List.replicate_succ' ..).symm
  -- the note
  have fin : ∀ c : ByteArray, ∀ i : Nat, c.size ≤ 20 → (∀ x ∈ c.data.toList, 97 ≤ x.toNat ∧ x.toNat ≤ 122) → Ev (fun k => waymarklaw07_LexAgain.j1 k s b note c i false) true := fun c i hc hcl => by
    refine Ev.step (fun k => by rw [waymarklaw07_LexAgain.j1]) ?_
    exact ev_neg (by decide) (gap c hc hcl q 0 (⟨#[32]⟩ : ByteArray) (by omega) rfl)
  have key : ∀ d i : Nat, ∀ c : ByteArray, i + d = 20 → c.size ≤ i → (∀ x ∈ c.data.toList, 97 ≤ x.toNat ∧ x.toNat ≤ 122) → Ev (fun k => waymarklaw07_LexAgain.l0 k s b note c i) true := by
    intro d
    induction d with
    | zero =>
      intro i c hi hc hcl
      refine Ev.step (fun k => by rw [waymarklaw07_LexAgain.l0]) ?_
      by_cases hl : (i : Int) < (note.size : Int)
      · refine ev_pos hl ?_
        rw [decide_eq_false (by omega)]
        exact fin c i (by omega) hcl
      · exact ev_neg hl (fin c i (by omega) hcl)
    | succ d ih =>
      intro i c hi hc hcl
      refine Ev.step (fun k => by rw [waymarklaw07_LexAgain.l0]) ?_
      by_cases hl : (i : Int) < (note.size : Int)
      · refine ev_pos hl ?_
        rw [decide_eq_true (by omega)]
        refine Ev.step (fun k => by rw [waymarklaw07_LexAgain.j1]) (ev_pos rfl (ev_pos (by omega) (ev_pos hl ?_)))
        rw [w64_id ((i : Int) + 1) (by omega) (by omega)]
        have no := ih (i + 1) c (by omega) (by omega) hcl
        by_cases h1 : bt note i ≥ 97
        · refine ev_pos h1 ?_
          by_cases h2 : bt note i ≤ 122
          · have hsz : (note.extract (i : Int).toNat ((i : Int) + 1).toNat).size = 1 := by rw [ByteArray.size_extract]; omega
            refine ev_pos h2 (ev_pos (by omega) (ev_pos (by omega) (ev_pos (by rw [hsz]; omega) ?_)))
            refine ih (i + 1) _ (by omega) (by rw [app_size, hsz]; omega) (fun x hx => ?_)
            rw [app_list] at hx
            rcases List.mem_append.1 hx with hx | hx
            · exact hcl x hx
            · obtain ⟨j, hj⟩ := List.mem_iff_getElem?.1 hx
              obtain ⟨j1, j2⟩ := bt_some hj
              rw [hsz] at j1
              have : j = 0 := by omega
              subst this
              have e := bt_ext note i 0 (i + 1) (by omega) (by omega)
              rw [Nat.add_zero] at e
              have e' : bt (note.extract (i : Int).toNat ((i : Int) + 1).toNat) ((0 : Nat) : Int) = bt note i := e
              rw [e'] at j2
              omega
          · exact ev_neg h2 no
        · exact ev_neg h1 no
      · exact ev_neg hl (fin c i (by omega) hcl)
  exact key 20 0 ⟨#[]⟩ (by omega) (by show (0 : Nat) ≤ _; omega) (by simp)
end Go.Proofs.YtbnihnggljagnaaDoor.QLexAgain
