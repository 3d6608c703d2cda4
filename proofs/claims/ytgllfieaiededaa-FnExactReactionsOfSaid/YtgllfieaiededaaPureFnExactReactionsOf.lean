/- For every list of loads and every two numbers the plain function of the ReactionsOf law answers true. -/
import Derived.Test.YtgllfieaiededaaPFnExactReactionsOfx4
import Derived.Test.YtgllfieaiededaaLib
set_option linter.unusedVariables false
set_option linter.unusedSimpArgs false
namespace Go.Proofs.Ytgllfieaiededaa.Pure
open Go.RowKit Go.Proofs.Ytgllfieaiededaa.PFnExactReactionsOf Go.Proofs.YtgllfieaiededaaW.PrintWords Go.Proofs.YtgllfieaiededaaW.PrintLast Go.Proofs.Ytgllfieaiededaa.Lib

theorem l1In_eq (a b c : Int) : spec_l1In.f a b c = some (decide (b ≤ a ∧ a ≤ c)) := by
  unfold spec_l1In.f
  by_cases h : a ≥ b
  · rw [if_pos h]
    congr 1
    simp only [decide_eq_decide]
    omega
  · rw [if_neg h]
    congr 1
    simp only [Bool.false_eq, decide_eq_false_iff_not]
    omega

theorem within_eq (a b c : Int) : impl_within.f a b c = some (decide (b ≤ a ∧ a ≤ c)) := by
  unfold impl_within.f
  by_cases h : a ≥ b
  · rw [if_pos h]
    congr 1
    simp only [decide_eq_decide]
    omega
  · rw [if_neg h]
    congr 1
    simp only [Bool.false_eq, decide_eq_false_iff_not]
    omega

theorem szLoadS_eq (l : List (S78)) (hl : l.length ≤ maxLen) : laws_szLoadS.f l 1048576 = some (if (l.length : Int) > 1048576 then -1 else 1048576 - (l.length : Int)) := by
  unfold maxLen at hl
  unfold laws_szLoadS.f
  rw [w64 (show -9223372036854775808 ≤ 1048576 - (l.length : Int) by omega) (by omega)]
  by_cases h : (l.length : Int) > 1048576
  · rw [if_pos h, if_pos (by omega)]
  · rw [if_neg h, if_neg (by omega)]

/-- The program's own load for the law's. -/
def toL (x : S78) : S73 := ⟨x.f0, x.f1⟩
theorem toLoadS_ev (l : List (S78)) (hl : l.length ≤ 1048576) : Ev (fun k => laws_toLoadS.f k l) (l.map toL) := by
  unfold laws_toLoadS.f
  simp only [if_pos (show 0 ≤ (l.length : Int) by omega), if_pos (show ((l.length : Int) : Int).toNat ≤ 17592186044416 by omega)]
  have h := Ev.fold (l := fun k x i => laws_toLoadS.l0 k l x i) (n := l.length) (fun i => (l.map toL).take i.toNat ++ List.replicate (l.length - i.toNat) z73) (a := l.map toL)
    (fun i h0 h1 r h => by
      refine Ev.step (fun k => by rw [laws_toLoadS.l0]) ?_
      have hx : i < (((l.map toL).take i.toNat ++ List.replicate (l.length - i.toNat) z73).length : Int) := by
        rw [List.length_append, List.length_take, List.length_replicate, List.length_map]; omega
      have e : (⟨(rd_T78 l i).f0, (rd_T78 l i).f1⟩ : S73) = (l.map toL).getD i.toNat z73 := by
        unfold rd_T78
        rw [getD_lt _ (by omega), getD_lt _ (by rw [List.length_map]; omega), List.getElem_map]
        rfl
      simp only [if_pos h1, if_pos h0, laws_toLoad.f, Option.bind_some, if_pos hx, w64 (show -9223372036854775808 ≤ i + 1 by omega) (by omega), e]
      have hs := set_fill (l.map toL) z73 z73 i.toNat (by rw [List.length_map]; omega)
      rw [List.length_map] at hs
      rw [hs, ← toNat_succ h0]
      exact h)
    (by
      refine Ev.step (fun k => by rw [laws_toLoadS.l0]) ?_
      simp only [if_neg (show ¬ (l.length : Int) < l.length by omega)]
      exact Ev.some (by simp [List.take_of_length_le]))
    l.length 0 (by omega) (by omega)
  simpa using h

instance : DecidableEq (S73) := fun a b => if h : a.f0 = b.f0 ∧ a.f1 = b.f1 then isTrue (by cases a; cases b; simp_all) else isFalse (by rintro rfl; exact h ⟨rfl, rfl⟩)
theorem S73_eq (a b : S73) : a = b ↔ a.f0 = b.f0 ∧ a.f1 = b.f1 := by
  cases a; cases b; simp
theorem eqLoad_eq (a b : S73) : laws_eqLoad.f a.f0 a.f1 b.f0 b.f1 = some (decide (a = b)) := by
  unfold laws_eqLoad.f
  by_cases h0 : a.f0 = b.f0
  · by_cases h1 : a.f1 = b.f1
    · rw [if_pos h0, if_pos h1, decide_eq_true ((S73_eq a b).2 ⟨h0, h1⟩)]
    · rw [if_pos h0, if_neg h1, decide_eq_false fun e => h1 ((S73_eq a b).1 e).2]
  · rw [if_neg h0, decide_eq_false fun e => h0 ((S73_eq a b).1 e).1]
theorem eqLoadS_ev (a b : List (S73)) (ha : a.length ≤ 9223372036854775806) : Ev (fun k => laws_eqLoadS.f k a b) (decide (a = b)) := by
  unfold laws_eqLoadS.f
  by_cases hl : (a.length : Int) = (b.length : Int)
  · simp only [if_pos hl]
    have h := Ev.count' (l := fun k i => laws_eqLoadS.l0 k a b i) (n := a.length) (P := fun i => rd_T73 a i = rd_T73 b i) (a := true) (b := false) (by omega)
      (fun i h0 h1 hp r h => by
        refine Ev.step (fun k => by rw [laws_eqLoadS.l0]) ?_
        simp only [if_pos h0, if_pos h1, if_pos (show i < (b.length : Int) by omega), eqLoad_eq, Option.bind_some, decide_eq_true hp, if_true, w64 (show -9223372036854775808 ≤ i + 1 by omega) (by omega)]
        exact h)
      (fun i h0 h1 hp => by
        refine Ev.step (fun k => by rw [laws_eqLoadS.l0]) ?_
        simp only [if_pos h0, if_pos h1, if_pos (show i < (b.length : Int) by omega), eqLoad_eq, Option.bind_some, decide_eq_false hp, Bool.false_eq_true, if_false]
        exact Ev.now _)
      (fun i h0 h1 => by
        refine Ev.step (fun k => by rw [laws_eqLoadS.l0]) ?_
        simp only [if_neg (show ¬ i < (a.length : Int) by omega)]
        exact Ev.now _)
    refine Ev.as h ?_
    split
    · rename_i hc
      exact (decide_eq_true (getD_ext z73 (by omega) fun i hi => hc i (by omega) (by omega))).symm
    · rename_i hc
      exact (decide_eq_false fun e => hc fun i h0 h1 => by rw [e]).symm
  · simp only [if_neg hl]
    exact Ev.some (decide_eq_false fun e => hl (by rw [e])).symm
theorem eqLoadS_self (a : List (S73)) (ha : a.length ≤ 9223372036854775806) : Ev (fun k => laws_eqLoadS.f k a a) true :=
  Ev.as (eqLoadS_ev a a ha) (decide_eq_true rfl)

/-- Loads that are a row. -/
def rowB (l : List (S73)) : Bool := decide (l.length ≤ 12) && l.all rowItem
theorem rowItem_iff (x : S73) : rowItem x = true ↔ (0 ≤ x.f0 ∧ x.f0 ≤ 60) ∧ (1 ≤ x.f1 ∧ x.f1 ≤ 99) := by
  unfold rowItem; simp
theorem rowB_iff (l : List (S73)) : rowB l = true ↔ l.length ≤ 12 ∧ ∀ x ∈ l, (0 ≤ x.f0 ∧ x.f0 ≤ 60) ∧ (1 ≤ x.f1 ∧ x.f1 ≤ 99) := by
  unfold rowB
  rw [Bool.and_eq_true, decide_eq_true_eq, List.all_eq_true]
  simp only [rowItem_iff]
theorem implIsRow_eq (l : List (S73)) : impl_IsRow.f l = some (rowB l) := rfl

theorem l2In_eq (a : Int) : spec_l2In.f a = some (decide (0 ≤ a ∧ a ≤ 60)) := by
  unfold spec_l2In.f
  simp only [l1In_eq, Option.bind_some]
theorem rdL_mem {l : List (S73)} {i : Int} (h0 : 0 ≤ i) (h1 : i < l.length) : rd_T73 l i ∈ l := by
  unfold rd_T73
  rw [getD_lt _ (by omega)]
  exact List.getElem_mem _
theorem all_rd {l : List (S73)} {p : S73 → Bool} : l.all p = true ↔ ∀ i : Int, 0 ≤ i → i < l.length → p (rd_T73 l i) = true := by
  rw [List.all_eq_true]
  refine ⟨fun h i h0 h1 => h _ (rdL_mem h0 h1), fun h x hx => ?_⟩
  obtain ⟨j, hj, rfl⟩ := List.getElem_of_mem hx
  have := h j (by omega) (by omega)
  unfold rd_T73 at this
  rwa [Int.toNat_natCast, getD_lt _ hj] at this
theorem l2Row_ev (l : List (S73)) : Ev (fun k => spec_l2Row.f k l) (rowB l) := by
  unfold spec_l2Row.f
  -- the loop goes over at most 13 loads
  have yes : ∀ i : Int, 0 ≤ i → i < (l.length : Int) → i ≤ 12 → rowItem (rd_T73 l i) = true → ∀ r, Ev (fun k => spec_l2Row.l0 k l (i + 1)) r → Ev (fun k => spec_l2Row.l0 k l i) r := by
    intro i h0 h1 h2 hp r h
    rw [rowItem_iff] at hp
    refine Ev.step (fun k => by rw [spec_l2Row.l0]) ?_
    simp only [if_pos h1, decide_eq_true h2]
    refine Ev.step (fun k => by rw [spec_l2Row.j1]) ?_
    simp only [if_true, if_pos h0, if_pos h1, l2In_eq, l1In_eq, Option.bind_some, decide_eq_true_eq, if_pos hp.1, if_pos hp.2, w64 (show -9223372036854775808 ≤ i + 1 by omega) (by omega)]
    exact h
  have no : ∀ i : Int, 0 ≤ i → i < (l.length : Int) → i ≤ 12 → ¬ rowItem (rd_T73 l i) = true → Ev (fun k => spec_l2Row.l0 k l i) false := by
    intro i h0 h1 h2 hp
    rw [rowItem_iff] at hp
    refine Ev.step (fun k => by rw [spec_l2Row.l0]) ?_
    simp only [if_pos h1, decide_eq_true h2]
    refine Ev.step (fun k => by rw [spec_l2Row.j1]) ?_
    simp only [if_true, if_pos h0, if_pos h1, l2In_eq, l1In_eq, Option.bind_some, decide_eq_true_eq]
    by_cases hq : 0 ≤ (rd_T73 l i).f0 ∧ (rd_T73 l i).f0 ≤ 60
    · simp only [if_pos hq, if_neg (show ¬ (1 ≤ (rd_T73 l i).f1 ∧ (rd_T73 l i).f1 ≤ 99) from fun h => hp ⟨hq, h⟩)]
      exact Ev.now _
    · simp only [if_neg hq]
      exact Ev.now _
  have endd : ∀ i : Int, 0 ≤ i → (i = (l.length : Int) ∨ (i = 13 ∧ i ≤ l.length)) → Ev (fun k => spec_l2Row.l0 k l i) (decide (l.length ≤ 12)) := by
    intro i h0 h1
    refine Ev.step (fun k => by rw [spec_l2Row.l0]) ?_
    by_cases h2 : i < (l.length : Int)
    · simp only [if_pos h2, decide_eq_false (show ¬ i ≤ 12 by omega)]
      refine Ev.step (fun k => by rw [spec_l2Row.j1]) ?_
      simp only [Bool.false_eq_true, if_false]
      exact Ev.some (by simp only [decide_eq_decide]; omega)
    · simp only [if_neg h2]
      refine Ev.step (fun k => by rw [spec_l2Row.j1]) ?_
      simp only [Bool.false_eq_true, if_false]
      exact Ev.some (by simp only [decide_eq_decide]; omega)
  by_cases hl : l.length ≤ 12
  · have h := Ev.count' (l := fun k i => spec_l2Row.l0 k l i) (n := l.length) (P := fun i => rowItem (rd_T73 l i) = true) (a := decide (l.length ≤ 12)) (b := false) (by omega)
      (fun i h0 h1 hp r h => yes i h0 h1 (by omega) hp r h) (fun i h0 h1 hp => no i h0 h1 (by omega) hp) (fun i h0 h1 => endd i h0 (.inl h1))
    refine Ev.as h ?_
    unfold rowB
    split
    · rename_i hc
      rw [all_rd.2 hc, Bool.and_true]
    · rename_i hc
      rw [Bool.eq_false_iff.2 (fun h => hc (all_rd.1 h)), Bool.and_false]
  · have h := Ev.count' (l := fun k i => spec_l2Row.l0 k l i) (n := 13) (P := fun i => rowItem (rd_T73 l i) = true) (a := decide (l.length ≤ 12)) (b := false) (by omega)
      (fun i h0 h1 hp r h => yes i h0 (by omega) (by omega) hp r h) (fun i h0 h1 hp => no i h0 (by omega) (by omega) hp) (fun i h0 h1 => endd i h0 (.inr ⟨h1, by omega⟩))
    refine Ev.as h ?_
    unfold rowB
    rw [decide_eq_false hl, Bool.false_and]
    split <;> rfl

def wtStep (s : Int) (x : S73) : Int := wrap64 (s + x.f1)
def momStep (p : Int) (s : Int) (x : S73) : Int := wrap64 (s + wrap64 (x.f1 * wrap64 (x.f0 - p)))
/-- The weight, and the moment about p, as the machine sums them. -/
def wtW (l : List (S73)) : Int := l.foldl wtStep 0
def momW (l : List (S73)) (p : Int) : Int := l.foldl (momStep p) 0
theorem take_succ_rd (l : List (S73)) (i : Int) (h0 : 0 ≤ i) (h1 : i < l.length) : l.take (i + 1).toNat = l.take i.toNat ++ [rd_T73 l i] := by
  rw [toNat_succ h0, List.take_add_one, List.getElem?_eq_getElem (by omega)]
  unfold rd_T73
  rw [getD_lt _ (by omega)]
  rfl

theorem prod_bound {a d : Int} (h1 : 1 ≤ a) (h2 : a ≤ 99) (h3 : -60 ≤ d) (h4 : d ≤ 60) : -5940 ≤ a * d ∧ a * d ≤ 5940 := by
  by_cases h : 0 ≤ d
  · have e1 := Int.mul_le_mul_of_nonneg_right h2 h
    have e2 := Int.mul_nonneg (show 0 ≤ a by omega) h
    omega
  · have e1 := Int.mul_le_mul_of_nonneg_right h2 (show 0 ≤ -d by omega)
    have e2 := Int.mul_nonneg (show 0 ≤ a by omega) (show 0 ≤ -d by omega)
    rw [Int.mul_neg] at e1 e2
    omega
/-- The weight, and the moment about p. -/
def wt : List (S73) → Int
  | [] => 0
  | x :: l => x.f1 + wt l
def mom (p : Int) : List (S73) → Int
  | [] => 0
  | x :: l => x.f1 * (x.f0 - p) + mom p l
def okL (l : List (S73)) : Prop := ∀ x ∈ l, (0 ≤ x.f0 ∧ x.f0 ≤ 60) ∧ (1 ≤ x.f1 ∧ x.f1 ≤ 99)
theorem okL_cons {x : S73} {l : List (S73)} (h : okL (x :: l)) : ((0 ≤ x.f0 ∧ x.f0 ≤ 60) ∧ (1 ≤ x.f1 ∧ x.f1 ≤ 99)) ∧ okL l :=
  ⟨h x (List.mem_cons_self ..), fun y hy => h y (List.mem_cons_of_mem _ hy)⟩
theorem wt_bounds : ∀ l : List (S73), okL l → (l.length : Int) ≤ wt l ∧ wt l ≤ 99 * l.length
  | [], _ => by simp [wt]
  | x :: l, h => by
    have h' := okL_cons h
    have ih := wt_bounds l h'.2
    simp only [wt, List.length_cons]
    omega
theorem mom_bounds (p : Int) (hp : 0 ≤ p ∧ p ≤ 60) : ∀ l : List (S73), okL l → -(5940 * l.length) ≤ mom p l ∧ mom p l ≤ 5940 * l.length
  | [], _ => by simp [mom]
  | x :: l, h => by
    have h' := okL_cons h
    have ih := mom_bounds p hp l h'.2
    have hb := prod_bound (d := x.f0 - p) h'.1.2.1 h'.1.2.2 (by omega) (by omega)
    simp only [mom, List.length_cons]
    omega
theorem mom0_nonneg : ∀ l : List (S73), okL l → 0 ≤ mom 0 l
  | [], _ => by simp [mom]
  | x :: l, h => by
    have h' := okL_cons h
    have ih := mom0_nonneg l h'.2
    have hb := Int.mul_nonneg (show 0 ≤ x.f1 by omega) (show 0 ≤ x.f0 - 0 by omega)
    simp only [mom]
    omega
theorem foldl_wt : ∀ (l : List (S73)) (s : Int), okL l → 0 ≤ s → s + 99 * l.length ≤ 1000000 → l.foldl wtStep s = s + wt l
  | [], s, _, _, _ => by rw [List.foldl_nil, wt, Int.add_zero]
  | x :: l, s, h, h0, h1 => by
    have h' := okL_cons h
    simp only [List.length_cons] at h1
    rw [List.foldl_cons, wtStep, w64 (by omega) (by omega), foldl_wt l _ h'.2 (by omega) (by omega), wt]
    omega
theorem foldl_mom (p : Int) (hp : 0 ≤ p ∧ p ≤ 60) (l : List (S73)) : ∀ s : Int, okL l → -1000000 + 5940 * (l.length : Int) ≤ s → s + 5940 * (l.length : Int) ≤ 1000000 → l.foldl (momStep p) s = s + mom p l := by
  induction l with
  | nil => intro s _ _ _; rw [List.foldl_nil, mom, Int.add_zero]
  | cons x l ih =>
    intro s h h0 h1
    have h' := okL_cons h
    have hb := prod_bound (d := x.f0 - p) h'.1.2.1 h'.1.2.2 (by omega) (by omega)
    simp only [List.length_cons] at h0 h1
    have e1 : wrap64 (x.f0 - p) = x.f0 - p := w64 (by omega) (by omega)
    have e2 : wrap64 (x.f1 * (x.f0 - p)) = x.f1 * (x.f0 - p) := w64 (by omega) (by omega)
    have e3 : wrap64 (s + x.f1 * (x.f0 - p)) = s + x.f1 * (x.f0 - p) := w64 (by omega) (by omega)
    rw [List.foldl_cons, momStep, e1, e2, e3, ih _ h'.2 (by omega) (by omega), mom, Int.add_assoc]
theorem okL_of {l : List (S73)} (h : rowB l = true) : okL l := ((rowB_iff l).1 h).2
theorem wtW_eq {l : List (S73)} (h : okL l) (hl : l.length ≤ 13) : wtW l = wt l := by
  unfold wtW
  rw [foldl_wt l 0 h (by omega) (by omega), Int.zero_add]
theorem momW_eq {l : List (S73)} {p : Int} (h : okL l) (hl : l.length ≤ 13) (hp : 0 ≤ p ∧ p ≤ 60) : momW l p = mom p l := by
  unfold momW
  rw [foldl_mom p hp l 0 h (by omega) (by omega), Int.zero_add]

theorem l2Moment_ev (l : List (S73)) (p : Int) (hl : l.length ≤ 9223372036854775806) : Ev (fun k => spec_l2Moment.f k l p) (momW l p) := by
  unfold spec_l2Moment.f
  have h := Ev.fold (l := fun k s i => spec_l2Moment.l0 k l p s i) (n := l.length) (fun i => (l.take i.toNat).foldl (momStep p) 0) (a := momW l p)
    (fun i h0 h1 r h => by
      refine Ev.step (fun k => by rw [spec_l2Moment.l0]) ?_
      simp only [if_pos h1, if_pos h0, w64 (show -9223372036854775808 ≤ i + 1 by omega) (by omega)]
      rw [take_succ_rd l i h0 h1, List.foldl_append] at h
      exact h)
    (by
      refine Ev.step (fun k => by rw [spec_l2Moment.l0]) ?_
      simp only [if_neg (show ¬ (l.length : Int) < l.length by omega)]
      exact Ev.some (by simp [momW]))
    l.length 0 (by omega) (by omega)
  simpa using h

theorem implMoment_ev (l : List (S73)) (p : Int) (hl : l.length ≤ 9223372036854775806) : Ev (fun k => impl_momentAbout.f k l p) (momW l p) := by
  unfold impl_momentAbout.f
  have h := Ev.fold (l := fun k s i => impl_momentAbout.l0 k p s l l.length i) (n := l.length) (fun i => (l.take i.toNat).foldl (momStep p) 0) (a := momW l p)
    (fun i h0 h1 r h => by
      refine Ev.step (fun k => by rw [impl_momentAbout.l0]) ?_
      simp only [if_pos h1, if_pos h0, w64 (show -9223372036854775808 ≤ i + 1 by omega) (by omega)]
      rw [take_succ_rd l i h0 h1, List.foldl_append] at h
      exact h)
    (by
      refine Ev.step (fun k => by rw [impl_momentAbout.l0]) ?_
      simp only [if_neg (show ¬ (l.length : Int) < l.length by omega)]
      exact Ev.some (by simp [momW]))
    l.length 0 (by omega) (by omega)
  simpa using h

theorem isPlace_eq (a : Int) : impl_isPlace.f a = some (decide (0 ≤ a ∧ a ≤ 60)) := by
  unfold impl_isPlace.f
  simp only [within_eq, Option.bind_some]
/-- Two places that are a base. -/
def baseB (a b : Int) : Bool := decide ((0 ≤ a ∧ a ≤ 60) ∧ (0 ≤ b ∧ b ≤ 60) ∧ a ≤ b)
theorem l2Base_eq (a b : Int) : spec_l2Base.f a b = some (baseB a b) := by
  unfold spec_l2Base.f baseB
  simp only [l2In_eq, Option.bind_some, decide_eq_true_eq]
  by_cases h1 : 0 ≤ a ∧ a ≤ 60 <;> by_cases h2 : 0 ≤ b ∧ b ≤ 60 <;> simp [h1, h2]
theorem isBase_eq (a b : Int) : impl_isBase.f a b = some (baseB a b) := by
  unfold impl_isBase.f baseB
  simp only [isPlace_eq, Option.bind_some, decide_eq_true_eq]
  by_cases h1 : 0 ≤ a ∧ a ≤ 60 <;> by_cases h2 : 0 ≤ b ∧ b ≤ 60 <;> simp [h1, h2]
theorem l2On_ev (l : List (S73)) (a b : Int) : Ev (fun k => spec_l2On.f k l a b) (rowB l && baseB a b) := by
  unfold spec_l2On.f
  refine Ev.bind (l2Row_ev l) ?_
  cases h : rowB l
  · simp only [Bool.false_eq_true, if_false, Bool.false_and]
    exact Ev.now _
  · simp only [if_true, Bool.true_and, l2Base_eq, Option.bind_some]
    exact Ev.now _

/-- A fraction in lowest terms, as the machine tells it. -/
def gcdW (a b : Int) : Nat := Nat.gcd (mx a (wrap64 (-a))).toNat b.toNat
def cutR (a b : Int) : Int × Int := (wrap64 (Int.tdiv a (gcdW a b)), wrap64 (Int.tdiv b (gcdW a b)))
theorem gcdW_pos {a b : Int} (hb : 0 < b) : (gcdW a b : Int) ≠ 0 := by
  have : 0 < gcdW a b := Nat.gcd_pos_of_pos_right _ (by omega)
  omega
theorem mx_abs {a : Int} (h1 : -4611686018427387904 ≤ a) (h2 : a ≤ 4611686018427387904) : mx a (wrap64 (-a)) = (a.natAbs : Int) := by
  rw [w64 (by omega) (by omega)]
  unfold mx
  split <;> omega
theorem l1Most_eq (a b : Int) : spec_l1Most.f a b = some (mx a b) := by
  unfold spec_l1Most.f mx
  by_cases h : a > b
  · rw [if_pos h, if_neg (by omega)]
  · by_cases h2 : a < b
    · rw [if_neg h, if_pos h2]
    · rw [if_neg h, if_neg h2, show a = b by omega]
theorem specGcd_ev (n : Nat) : ∀ m : Nat, Ev (fun k => spec_l2Gcd.l0 k (m : Int) (n : Int)) (Nat.gcd m n : Int) := by
  induction n using Nat.strongRecOn with
  | _ n ih =>
    intro m
    refine Ev.step (fun k => by rw [spec_l2Gcd.l0]) ?_
    by_cases h : n = 0
    · subst h
      simp only [show ¬ ((0 : Nat) : Int) > 0 by omega, if_false]
      exact Ev.some (by rw [Nat.gcd_zero_right])
    · simp only [if_pos (show (n : Int) > 0 by omega), if_neg (show ¬ (n : Int) = 0 by omega)]
      have h2 := ih (m % n) (Nat.mod_lt _ (by omega)) n
      rw [show Int.tmod (m : Int) (n : Int) = ((m % n : Nat) : Int) from rfl]
      refine Ev.as h2 ?_
      rw [Nat.gcd_comm m n, Nat.gcd_rec n m, Nat.gcd_comm]
theorem implGcd_ev (n : Nat) : ∀ m : Nat, Ev (fun k => impl_divisor.l0 k (m : Int) (n : Int)) (Nat.gcd m n : Int) := by
  induction n using Nat.strongRecOn with
  | _ n ih =>
    intro m
    refine Ev.step (fun k => by rw [impl_divisor.l0]) ?_
    by_cases h : n = 0
    · subst h
      simp only [show ¬ ((0 : Nat) : Int) > 0 by omega, if_false]
      exact Ev.some (by rw [Nat.gcd_zero_right])
    · simp only [if_pos (show (n : Int) > 0 by omega), if_neg (show ¬ (n : Int) = 0 by omega)]
      have h2 := ih (m % n) (Nat.mod_lt _ (by omega)) n
      rw [show Int.tmod (m : Int) (n : Int) = ((m % n : Nat) : Int) from rfl]
      refine Ev.as h2 ?_
      rw [Nat.gcd_comm m n, Nat.gcd_rec n m, Nat.gcd_comm]
theorem l2Cut_ev {a b : Int} (h1 : -4611686018427387904 ≤ a) (h2 : a ≤ 4611686018427387904) (hb : 0 < b) : Ev (fun k => spec_l2Cut.f k a b) (cutR a b) := by
  unfold spec_l2Cut.f spec_l2Gcd.f
  simp only [l1Most_eq, Option.bind_some]
  have h := specGcd_ev b.toNat (mx a (wrap64 (-a))).toNat
  rw [Int.toNat_of_nonneg (show 0 ≤ b by omega), Int.toNat_of_nonneg (show 0 ≤ mx a (wrap64 (-a)) by rw [mx_abs h1 h2]; omega)] at h
  refine Ev.bind h ?_
  have hz := gcdW_pos (a := a) hb
  unfold gcdW at hz
  simp only [if_neg hz]
  exact Ev.now _
theorem fraction_ev {a b : Int} (h1 : -4611686018427387904 ≤ a) (h2 : a ≤ 4611686018427387904) (hb : 0 < b) : Ev (fun k => impl_fraction.f k a b) (cutR a b) := by
  unfold impl_fraction.f impl_divisor.f
  have h := implGcd_ev b.toNat (mx a (wrap64 (-a))).toNat
  rw [Int.toNat_of_nonneg (show 0 ≤ b by omega), Int.toNat_of_nonneg (show 0 ≤ mx a (wrap64 (-a)) by rw [mx_abs h1 h2]; omega)] at h
  refine Ev.bind h ?_
  have hz := gcdW_pos (a := a) hb
  unfold gcdW at hz
  simp only [if_neg hz]
  exact Ev.now _

theorem eqIntA2_self (a b : Int) : laws_eqIntA2.f a b a b = some true := by
  unfold laws_eqIntA2.f
  simp

def ReactionsOfR (l : List (S73)) (a b : Int) : Int × Int × Int × Int × Bool :=
  if (rowB l && baseB a b) = true ∧ a ≠ b then ((cutR (-(mom b l)) (b - a)).1, (cutR (-(mom b l)) (b - a)).2, (cutR (mom a l) (b - a)).1, (cutR (mom a l) (b - a)).2, true) else (0, 0, 0, 0, false)
theorem react_facts {l : List (S73)} {a b : Int} (h : (rowB l && baseB a b) = true) (hab : a ≠ b) : momW l a = mom a l ∧ momW l b = mom b l ∧ -71280 ≤ mom a l ∧ mom a l ≤ 71280 ∧ -71280 ≤ mom b l ∧ mom b l ≤ 71280 ∧ 0 < b - a ∧ b - a ≤ 60 := by
  have h' := Bool.and_eq_true_iff.1 h
  have ok := okL_of h'.1
  have hl := ((rowB_iff l).1 h'.1).1
  have hb : (0 ≤ a ∧ a ≤ 60) ∧ (0 ≤ b ∧ b ≤ 60) ∧ a ≤ b := by have := h'.2; unfold baseB at this; simpa using this
  have h1 := mom_bounds a hb.1 l ok
  have h2 := mom_bounds b hb.2.1 l ok
  exact ⟨momW_eq ok (by omega) hb.1, momW_eq ok (by omega) hb.2.1, by omega, by omega, by omega, by omega, by omega, by omega⟩
theorem specReactionsOf_ev (l : List (S73)) (a b : Int) (hl : l.length ≤ 9223372036854775806) : Ev (fun k => spec_ReactionsOf.f k l a b) (ReactionsOfR l a b) := by
  unfold spec_ReactionsOf.f ReactionsOfR
  have done : Ev (fun k => spec_ReactionsOf.j0 k l a b true) (0, 0, 0, 0, false) := by
    refine Ev.step (fun k => by rw [spec_ReactionsOf.j0]) ?_
    simp only [if_true]
    exact Ev.now _
  refine Ev.bind (l2On_ev l a b) ?_
  by_cases h : (rowB l && baseB a b) = true
  · by_cases hab : a = b
    · subst hab
      simp only [h, if_true, beq_self_eq_true, ne_eq, not_true, and_false, if_false]
      exact done
    · obtain ⟨e1, e2, b1, b2, b3, b4, b5, b6⟩ := react_facts h hab
      simp only [h, if_true, beq_eq_false_iff_ne.2 hab, ne_eq, hab, not_false_eq_true, and_self]
      refine Ev.step (fun k => by rw [spec_ReactionsOf.j0]) ?_
      simp only [Bool.false_eq_true, if_false]
      have ha := l2Moment_ev l a hl
      have hb := l2Moment_ev l b hl
      rw [e1] at ha
      rw [e2] at hb
      refine Ev.bind hb ?_
      simp only [w64 (x := -(mom b l)) (by omega) (by omega), w64 (x := b - a) (by omega) (by omega)]
      exact Ev.bind (l2Cut_ev (by omega) (by omega) b5) (Ev.bind ha (Ev.bind (l2Cut_ev (by omega) (by omega) b5) (Ev.now _)))
  · simp only [h, false_and, if_false]
    exact done
theorem implReactionsOf_ev (l : List (S73)) (a b : Int) (hl : l.length ≤ 9223372036854775806) : Ev (fun k => impl_ReactionsOf.f k l a b) (ReactionsOfR l a b) := by
  unfold impl_ReactionsOf.f ReactionsOfR
  have done : Ev (fun k => impl_ReactionsOf.j0 k l a b true) (0, 0, 0, 0, false) := by
    refine Ev.step (fun k => by rw [impl_ReactionsOf.j0]) ?_
    simp only [if_true]
    exact Ev.now _
  simp only [implIsRow_eq, isBase_eq, Option.bind_some]
  by_cases h : (rowB l && baseB a b) = true
  · have h' := Bool.and_eq_true_iff.1 h
    by_cases hab : a = b
    · subst hab
      simp only [h, h'.1, h'.2, if_true, beq_self_eq_true, ne_eq, not_true, and_false, if_false]
      exact done
    · obtain ⟨e1, e2, b1, b2, b3, b4, b5, b6⟩ := react_facts h hab
      simp only [h, h'.1, h'.2, if_true, beq_eq_false_iff_ne.2 hab, ne_eq, hab, not_false_eq_true, and_self]
      refine Ev.step (fun k => by rw [impl_ReactionsOf.j0]) ?_
      simp only [Bool.false_eq_true, if_false]
      have ha := implMoment_ev l a hl
      have hb := implMoment_ev l b hl
      rw [e1] at ha
      rw [e2] at hb
      refine Ev.bind hb ?_
      simp only [w64 (x := -(mom b l)) (by omega) (by omega), w64 (x := b - a) (by omega) (by omega)]
      exact Ev.bind (fraction_ev (by omega) (by omega) b5) (Ev.bind ha (Ev.bind (fraction_ev (by omega) (by omega) b5) (Ev.now _)))
  · simp only [h, false_and, if_false]
    cases h1 : rowB l
    · simp only [Bool.false_eq_true, if_false]
      exact done
    · rw [h1, Bool.true_and] at h
      simp only [if_true, h, if_false]
      exact done
theorem ReactionsOf_same (l : List (S73)) (a b : Int) (hl : l.length ≤ 9223372036854775806) : ∃ r, Ev (fun k => spec_ReactionsOf.f k l a b) r ∧ Ev (fun k => impl_ReactionsOf.f k l a b) r :=
  ⟨_, specReactionsOf_ev l a b hl, implReactionsOf_ev l a b hl⟩

theorem FnExactReactionsOf : laws_FnExactReactionsOf.Pure := by
  intro l a b hw ha hb
  refine Ev.rounds ?_
  unfold laws_FnExactReactionsOf.f
  simp only [szLoadS_eq l hw.1, Option.bind_some]
  by_cases h : (l.length : Int) > 1048576
  · simp only [if_pos h, show ((-1 : Int) < 0) by decide, if_true]; exact Ev.now _
  · simp only [if_neg h, if_neg (show ¬ 1048576 - (l.length : Int) < 0 by omega)]
    have ht := toLoadS_ev l (by omega)
    have hm : (l.map toL).length ≤ 9223372036854775806 := by rw [List.length_map]; omega
    obtain ⟨r, hs, hi⟩ := ReactionsOf_same (l.map toL) a b hm
    refine Ev.bind ht (Ev.bind hs (Ev.bind ht (Ev.bind hi ?_)))
    simp only [eqIntA2_self, Option.bind_some, if_true, bne_self_eq_false]
    refine Ev.step (fun k => by rw [laws_FnExactReactionsOf.j0]) ?_
    simp only [Bool.false_eq_true, if_false]
    refine Ev.bind ht (Ev.bind (eqLoadS_self _ hm) ?_)
    simp only [if_true]
    exact Ev.now _


end Go.Proofs.Ytgllfieaiededaa.Pure

