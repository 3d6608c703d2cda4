/- For every code the plain function of the law FnCentres answers true. -/
import Derived.Test.YtfjcnpoigndfjaaPFnCentresx9
import Derived.Test.YtfjcnpoigndfjaaLib
set_option linter.unusedVariables false
set_option linter.unusedSimpArgs false
namespace Go.Proofs.Ytfjcnpoigndfjaa.Pure
open Go.RowKit Go.Proofs.Ytfjcnpoigndfjaa.PFnCentres Go.Proofs.YtfjcnpoigndfjaaW.PrintWords Go.Proofs.YtfjcnpoigndfjaaW.PrintLast Go.Proofs.Ytfjcnpoigndfjaa.Lib

theorem l1In_eq (a b c : Int) : spec_l1In.f a b c = some (decide (b ≤ a ∧ a ≤ c)) := by
  unfold spec_l1In.f
  by_cases h : a ≥ b
  · rw [if_pos h]
    congr 1
    simp only [decide_eq_decide]
    omega
  · rw [if_neg h]
    congr 1
    simp only [Bool.false_eq, decide_eq_false_iff_not]
    omega

theorem within_eq (a b c : Int) : impl_within.f a b c = some (decide (b ≤ a ∧ a ≤ c)) := by
  unfold impl_within.f
  by_cases h : a ≥ b
  · rw [if_pos h]
    congr 1
    simp only [decide_eq_decide]
    omega
  · rw [if_neg h]
    congr 1
    simp only [Bool.false_eq, decide_eq_false_iff_not]
    omega

theorem isWeight_eq (a : Int) : impl_isWeight.f a = some (decide (1 ≤ a ∧ a ≤ 99)) := by
  unfold impl_isWeight.f
  simp only [within_eq, Option.bind_some]

/-- Loads that are a row. -/
def rowB (l : List (S33)) : Bool := decide (l.length ≤ 12) && l.all rowItem
theorem rowItem_iff (x : S33) : rowItem x = true ↔ (0 ≤ x.f0 ∧ x.f0 ≤ 60) ∧ (1 ≤ x.f1 ∧ x.f1 ≤ 99) := by
  unfold rowItem; simp
theorem rowB_iff (l : List (S33)) : rowB l = true ↔ l.length ≤ 12 ∧ ∀ x ∈ l, (0 ≤ x.f0 ∧ x.f0 ≤ 60) ∧ (1 ≤ x.f1 ∧ x.f1 ≤ 99) := by
  unfold rowB
  rw [Bool.and_eq_true, decide_eq_true_eq, List.all_eq_true]
  simp only [rowItem_iff]
theorem implIsRow_eq (l : List (S33)) : impl_IsRow.f l = some (rowB l) := rfl

theorem l2In_eq (a : Int) : spec_l2In.f a = some (decide (0 ≤ a ∧ a ≤ 60)) := by
  unfold spec_l2In.f
  simp only [l1In_eq, Option.bind_some]
theorem rdL_mem {l : List (S33)} {i : Int} (h0 : 0 ≤ i) (h1 : i < l.length) : rd_T33 l i ∈ l := by
  unfold rd_T33
  rw [getD_lt _ (by omega)]
  exact List.getElem_mem _
theorem all_rd {l : List (S33)} {p : S33 → Bool} : l.all p = true ↔ ∀ i : Int, 0 ≤ i → i < l.length → p (rd_T33 l i) = true := by
  rw [List.all_eq_true]
  refine ⟨fun h i h0 h1 => h _ (rdL_mem h0 h1), fun h x hx => ?_⟩
  obtain ⟨j, hj, rfl⟩ := List.getElem_of_mem hx
  have := h j (by omega) (by omega)
  unfold rd_T33 at this
  rwa [Int.toNat_natCast, getD_lt _ hj] at this
theorem l2Row_ev (l : List (S33)) : Ev (fun k => spec_l2Row.f k l) (rowB l) := by
  unfold spec_l2Row.f
  -- the loop goes over at most 13 loads
  have yes : ∀ i : Int, 0 ≤ i → i < (l.length : Int) → i ≤ 12 → rowItem (rd_T33 l i) = true → ∀ r, Ev (fun k => spec_l2Row.l0 k l (i + 1)) r → Ev (fun k => spec_l2Row.l0 k l i) r := by
    intro i h0 h1 h2 hp r h
    rw [rowItem_iff] at hp
    refine Ev.step (fun k => by rw [spec_l2Row.l0]) ?_
    simp only [if_pos h1, decide_eq_true h2]
    refine Ev.step (fun k => by rw [spec_l2Row.j1]) ?_
    simp only [if_true, if_pos h0, if_pos h1, l2In_eq, l1In_eq, Option.bind_some, decide_eq_true_eq, if_pos hp.1, if_pos hp.2, w64 (show -9223372036854775808 ≤ i + 1 by omega) (by omega)]
    exact h
  have no : ∀ i : Int, 0 ≤ i → i < (l.length : Int) → i ≤ 12 → ¬ rowItem (rd_T33 l i) = true → Ev (fun k => spec_l2Row.l0 k l i) false := by
    intro i h0 h1 h2 hp
    rw [rowItem_iff] at hp
    refine Ev.step (fun k => by rw [spec_l2Row.l0]) ?_
    simp only [if_pos h1, decide_eq_true h2]
    refine Ev.step (fun k => by rw [spec_l2Row.j1]) ?_
    simp only [if_true, if_pos h0, if_pos h1, l2In_eq, l1In_eq, Option.bind_some, decide_eq_true_eq]
    by_cases hq : 0 ≤ (rd_T33 l i).f0 ∧ (rd_T33 l i).f0 ≤ 60
    · simp only [if_pos hq, if_neg (show ¬ (1 ≤ (rd_T33 l i).f1 ∧ (rd_T33 l i).f1 ≤ 99) from fun h => hp ⟨hq, h⟩)]
      exact Ev.now _
    · simp only [if_neg hq]
      exact Ev.now _
  have endd : ∀ i : Int, 0 ≤ i → (i = (l.length : Int) ∨ (i = 13 ∧ i ≤ l.length)) → Ev (fun k => spec_l2Row.l0 k l i) (decide (l.length ≤ 12)) := by
    intro i h0 h1
    refine Ev.step (fun k => by rw [spec_l2Row.l0]) ?_
    by_cases h2 : i < (l.length : Int)
    · simp only [if_pos h2, decide_eq_false (show ¬ i ≤ 12 by omega)]
      refine Ev.step (fun k => by rw [spec_l2Row.j1]) ?_
      simp only [Bool.false_eq_true, if_false]
      exact Ev.some (by simp only [decide_eq_decide]; omega)
    · simp only [if_neg h2]
      refine Ev.step (fun k => by rw [spec_l2Row.j1]) ?_
      simp only [Bool.false_eq_true, if_false]
      exact Ev.some (by simp only [decide_eq_decide]; omega)
  by_cases hl : l.length ≤ 12
  · have h := Ev.count' (l := fun k i => spec_l2Row.l0 k l i) (n := l.length) (P := fun i => rowItem (rd_T33 l i) = true) (a := decide (l.length ≤ 12)) (b := false) (by omega)
      (fun i h0 h1 hp r h => yes i h0 h1 (by omega) hp r h) (fun i h0 h1 hp => no i h0 h1 (by omega) hp) (fun i h0 h1 => endd i h0 (.inl h1))
    refine Ev.as h ?_
    unfold rowB
    split
    · rename_i hc
      rw [all_rd.2 hc, Bool.and_true]
    · rename_i hc
      rw [Bool.eq_false_iff.2 (fun h => hc (all_rd.1 h)), Bool.and_false]
  · have h := Ev.count' (l := fun k i => spec_l2Row.l0 k l i) (n := 13) (P := fun i => rowItem (rd_T33 l i) = true) (a := decide (l.length ≤ 12)) (b := false) (by omega)
      (fun i h0 h1 hp r h => yes i h0 (by omega) (by omega) hp r h) (fun i h0 h1 hp => no i h0 (by omega) (by omega) hp) (fun i h0 h1 => endd i h0 (.inr ⟨h1, by omega⟩))
    refine Ev.as h ?_
    unfold rowB
    rw [decide_eq_false hl, Bool.false_and]
    split <;> rfl

def wtStep (s : Int) (x : S33) : Int := wrap64 (s + x.f1)
def momStep (p : Int) (s : Int) (x : S33) : Int := wrap64 (s + wrap64 (x.f1 * wrap64 (x.f0 - p)))
/-- The weight, and the moment about p, as the machine sums them. -/
def wtW (l : List (S33)) : Int := l.foldl wtStep 0
def momW (l : List (S33)) (p : Int) : Int := l.foldl (momStep p) 0
theorem take_succ_rd (l : List (S33)) (i : Int) (h0 : 0 ≤ i) (h1 : i < l.length) : l.take (i + 1).toNat = l.take i.toNat ++ [rd_T33 l i] := by
  rw [toNat_succ h0, List.take_add_one, List.getElem?_eq_getElem (by omega)]
  unfold rd_T33
  rw [getD_lt _ (by omega)]
  rfl

theorem l2Moment_ev (l : List (S33)) (p : Int) (hl : l.length ≤ 9223372036854775806) : Ev (fun k => spec_l2Moment.f k l p) (momW l p) := by
  unfold spec_l2Moment.f
  have h := Ev.fold (l := fun k s i => spec_l2Moment.l0 k l p s i) (n := l.length) (fun i => (l.take i.toNat).foldl (momStep p) 0) (a := momW l p)
    (fun i h0 h1 r h => by
      refine Ev.step (fun k => by rw [spec_l2Moment.l0]) ?_
      simp only [if_pos h1, if_pos h0, w64 (show -9223372036854775808 ≤ i + 1 by omega) (by omega)]
      rw [take_succ_rd l i h0 h1, List.foldl_append] at h
      exact h)
    (by
      refine Ev.step (fun k => by rw [spec_l2Moment.l0]) ?_
      simp only [if_neg (show ¬ (l.length : Int) < l.length by omega)]
      exact Ev.some (by simp [momW]))
    l.length 0 (by omega) (by omega)
  simpa using h

theorem implMoment_ev (l : List (S33)) (p : Int) (hl : l.length ≤ 9223372036854775806) : Ev (fun k => impl_momentAbout.f k l p) (momW l p) := by
  unfold impl_momentAbout.f
  have h := Ev.fold (l := fun k s i => impl_momentAbout.l0 k p s l l.length i) (n := l.length) (fun i => (l.take i.toNat).foldl (momStep p) 0) (a := momW l p)
    (fun i h0 h1 r h => by
      refine Ev.step (fun k => by rw [impl_momentAbout.l0]) ?_
      simp only [if_pos h1, if_pos h0, w64 (show -9223372036854775808 ≤ i + 1 by omega) (by omega)]
      rw [take_succ_rd l i h0 h1, List.foldl_append] at h
      exact h)
    (by
      refine Ev.step (fun k => by rw [impl_momentAbout.l0]) ?_
      simp only [if_neg (show ¬ (l.length : Int) < l.length by omega)]
      exact Ev.some (by simp [momW]))
    l.length 0 (by omega) (by omega)
  simpa using h

theorem l2Weight_ev (l : List (S33)) (hl : l.length ≤ 9223372036854775806) : Ev (fun k => spec_l2Weight.f k l) (wtW l) := by
  unfold spec_l2Weight.f
  have h := Ev.fold (l := fun k s i => spec_l2Weight.l0 k l s i) (n := l.length) (fun i => (l.take i.toNat).foldl wtStep 0) (a := wtW l)
    (fun i h0 h1 r h => by
      refine Ev.step (fun k => by rw [spec_l2Weight.l0]) ?_
      simp only [if_pos h1, if_pos h0, w64 (show -9223372036854775808 ≤ i + 1 by omega) (by omega)]
      rw [take_succ_rd l i h0 h1, List.foldl_append] at h
      exact h)
    (by
      refine Ev.step (fun k => by rw [spec_l2Weight.l0]) ?_
      simp only [if_neg (show ¬ (l.length : Int) < l.length by omega)]
      exact Ev.some (by simp [wtW]))
    l.length 0 (by omega) (by omega)
  simpa using h

theorem implWeight_ev (l : List (S33)) (hl : l.length ≤ 9223372036854775806) : Ev (fun k => impl_weightOf.f k l) (wtW l) := by
  unfold impl_weightOf.f
  have h := Ev.fold (l := fun k s i => impl_weightOf.l0 k s l l.length i) (n := l.length) (fun i => (l.take i.toNat).foldl wtStep 0) (a := wtW l)
    (fun i h0 h1 r h => by
      refine Ev.step (fun k => by rw [impl_weightOf.l0]) ?_
      simp only [if_pos h1, if_pos h0, w64 (show -9223372036854775808 ≤ i + 1 by omega) (by omega)]
      rw [take_succ_rd l i h0 h1, List.foldl_append] at h
      exact h)
    (by
      refine Ev.step (fun k => by rw [impl_weightOf.l0]) ?_
      simp only [if_neg (show ¬ (l.length : Int) < l.length by omega)]
      exact Ev.some (by simp [wtW]))
    l.length 0 (by omega) (by omega)
  simpa using h

def WeightOfR (l : List (S33)) : Int × Bool := if rowB l = true then (wtW l, true) else (0, false)
theorem specWeightOf_ev (l : List (S33)) (hl : l.length ≤ 9223372036854775806) : Ev (fun k => spec_WeightOf.f k l) (WeightOfR l) := by
  unfold spec_WeightOf.f WeightOfR
  refine Ev.bind (l2Row_ev l) ?_
  by_cases h : rowB l = true
  · simp only [h, if_true]
    exact Ev.bind (l2Weight_ev l hl) (Ev.now _)
  · simp only [h, if_false, Bool.false_eq_true]
    exact Ev.now _
theorem implWeightOf_ev (l : List (S33)) (hl : l.length ≤ 9223372036854775806) : Ev (fun k => impl_WeightOf.f k l) (WeightOfR l) := by
  unfold impl_WeightOf.f WeightOfR
  simp only [implIsRow_eq, Option.bind_some]
  by_cases h : rowB l = true
  · simp only [h, if_true]
    exact Ev.bind (implWeight_ev l hl) (Ev.now _)
  · simp only [h, if_false, Bool.false_eq_true]
    exact Ev.now _
theorem WeightOf_same (l : List (S33)) (hl : l.length ≤ 9223372036854775806) : ∃ r, Ev (fun k => spec_WeightOf.f k l) r ∧ Ev (fun k => impl_WeightOf.f k l) r :=
  ⟨_, specWeightOf_ev l hl, implWeightOf_ev l hl⟩

theorem isPlace_eq (a : Int) : impl_isPlace.f a = some (decide (0 ≤ a ∧ a ≤ 60)) := by
  unfold impl_isPlace.f
  simp only [within_eq, Option.bind_some]
/-- Two places that are a base. -/
def baseB (a b : Int) : Bool := decide ((0 ≤ a ∧ a ≤ 60) ∧ (0 ≤ b ∧ b ≤ 60) ∧ a ≤ b)
theorem l2Base_eq (a b : Int) : spec_l2Base.f a b = some (baseB a b) := by
  unfold spec_l2Base.f baseB
  simp only [l2In_eq, Option.bind_some, decide_eq_true_eq]
  by_cases h1 : 0 ≤ a ∧ a ≤ 60 <;> by_cases h2 : 0 ≤ b ∧ b ≤ 60 <;> simp [h1, h2]
theorem isBase_eq (a b : Int) : impl_isBase.f a b = some (baseB a b) := by
  unfold impl_isBase.f baseB
  simp only [isPlace_eq, Option.bind_some, decide_eq_true_eq]
  by_cases h1 : 0 ≤ a ∧ a ≤ 60 <;> by_cases h2 : 0 ≤ b ∧ b ≤ 60 <;> simp [h1, h2]
theorem l2On_ev (l : List (S33)) (a b : Int) : Ev (fun k => spec_l2On.f k l a b) (rowB l && baseB a b) := by
  unfold spec_l2On.f
  refine Ev.bind (l2Row_ev l) ?_
  cases h : rowB l
  · simp only [Bool.false_eq_true, if_false, Bool.false_and]
    exact Ev.now _
  · simp only [if_true, Bool.true_and, l2Base_eq, Option.bind_some]
    exact Ev.now _

def sideW (l : List (S33)) (a b : Int) : Int := if momW l a < 0 then -1 else if momW l b > 0 then 1 else 0
theorem l2Side_ev (l : List (S33)) (a b : Int) (hl : l.length ≤ 9223372036854775806) : Ev (fun k => spec_l2Side.f k l a b) (sideW l a b) := by
  unfold spec_l2Side.f sideW
  refine Ev.bind (l2Moment_ev l a hl) ?_
  split
  · exact Ev.now _
  · refine Ev.bind (l2Moment_ev l b hl) ?_
    split <;> exact Ev.now _
theorem tipSide_ev (l : List (S33)) (a b : Int) (hl : l.length ≤ 9223372036854775806) : Ev (fun k => impl_tipSide.f k l a b) (sideW l a b) := by
  unfold impl_tipSide.f sideW
  refine Ev.bind (implMoment_ev l a hl) ?_
  split
  · exact Ev.now _
  · refine Ev.bind (implMoment_ev l b hl) ?_
    split <;> exact Ev.now _

/-- Does the row stand with one more load? -/
def standB (l : List (S33)) (a b p w : Int) : Bool := sideW (l ++ [⟨p, w⟩]) a b == 0

theorem prod_bound {a d : Int} (h1 : 1 ≤ a) (h2 : a ≤ 99) (h3 : -60 ≤ d) (h4 : d ≤ 60) : -5940 ≤ a * d ∧ a * d ≤ 5940 := by
  by_cases h : 0 ≤ d
  · have e1 := Int.mul_le_mul_of_nonneg_right h2 h
    have e2 := Int.mul_nonneg (show 0 ≤ a by omega) h
    omega
  · have e1 := Int.mul_le_mul_of_nonneg_right h2 (show 0 ≤ -d by omega)
    have e2 := Int.mul_nonneg (show 0 ≤ a by omega) (show 0 ≤ -d by omega)
    rw [Int.mul_neg] at e1 e2
    omega
/-- The weight, and the moment about p. -/
def wt : List (S33) → Int
  | [] => 0
  | x :: l => x.f1 + wt l
def mom (p : Int) : List (S33) → Int
  | [] => 0
  | x :: l => x.f1 * (x.f0 - p) + mom p l
def okL (l : List (S33)) : Prop := ∀ x ∈ l, (0 ≤ x.f0 ∧ x.f0 ≤ 60) ∧ (1 ≤ x.f1 ∧ x.f1 ≤ 99)
theorem okL_cons {x : S33} {l : List (S33)} (h : okL (x :: l)) : ((0 ≤ x.f0 ∧ x.f0 ≤ 60) ∧ (1 ≤ x.f1 ∧ x.f1 ≤ 99)) ∧ okL l :=
  ⟨h x (List.mem_cons_self ..), fun y hy => h y (List.mem_cons_of_mem _ hy)⟩
theorem wt_bounds : ∀ l : List (S33), okL l → (l.length : Int) ≤ wt l ∧ wt l ≤ 99 * l.length
  | [], _ => by simp [wt]
  | x :: l, h => by
    have h' := okL_cons h
    have ih := wt_bounds l h'.2
    simp only [wt, List.length_cons]
    omega
theorem mom_bounds (p : Int) (hp : 0 ≤ p ∧ p ≤ 60) : ∀ l : List (S33), okL l → -(5940 * l.length) ≤ mom p l ∧ mom p l ≤ 5940 * l.length
  | [], _ => by simp [mom]
  | x :: l, h => by
    have h' := okL_cons h
    have ih := mom_bounds p hp l h'.2
    have hb := prod_bound (d := x.f0 - p) h'.1.2.1 h'.1.2.2 (by omega) (by omega)
    simp only [mom, List.length_cons]
    omega
theorem mom0_nonneg : ∀ l : List (S33), okL l → 0 ≤ mom 0 l
  | [], _ => by simp [mom]
  | x :: l, h => by
    have h' := okL_cons h
    have ih := mom0_nonneg l h'.2
    have hb := Int.mul_nonneg (show 0 ≤ x.f1 by omega) (show 0 ≤ x.f0 - 0 by omega)
    simp only [mom]
    omega
theorem foldl_wt : ∀ (l : List (S33)) (s : Int), okL l → 0 ≤ s → s + 99 * l.length ≤ 1000000 → l.foldl wtStep s = s + wt l
  | [], s, _, _, _ => by rw [List.foldl_nil, wt, Int.add_zero]
  | x :: l, s, h, h0, h1 => by
    have h' := okL_cons h
    simp only [List.length_cons] at h1
    rw [List.foldl_cons, wtStep, w64 (by omega) (by omega), foldl_wt l _ h'.2 (by omega) (by omega), wt]
    omega
theorem foldl_mom (p : Int) (hp : 0 ≤ p ∧ p ≤ 60) (l : List (S33)) : ∀ s : Int, okL l → -1000000 + 5940 * (l.length : Int) ≤ s → s + 5940 * (l.length : Int) ≤ 1000000 → l.foldl (momStep p) s = s + mom p l := by
  induction l with
  | nil => intro s _ _ _; rw [List.foldl_nil, mom, Int.add_zero]
  | cons x l ih =>
    intro s h h0 h1
    have h' := okL_cons h
    have hb := prod_bound (d := x.f0 - p) h'.1.2.1 h'.1.2.2 (by omega) (by omega)
    simp only [List.length_cons] at h0 h1
    have e1 : wrap64 (x.f0 - p) = x.f0 - p := w64 (by omega) (by omega)
    have e2 : wrap64 (x.f1 * (x.f0 - p)) = x.f1 * (x.f0 - p) := w64 (by omega) (by omega)
    have e3 : wrap64 (s + x.f1 * (x.f0 - p)) = s + x.f1 * (x.f0 - p) := w64 (by omega) (by omega)
    rw [List.foldl_cons, momStep, e1, e2, e3, ih _ h'.2 (by omega) (by omega), mom, Int.add_assoc]
theorem okL_of {l : List (S33)} (h : rowB l = true) : okL l := ((rowB_iff l).1 h).2
theorem wtW_eq {l : List (S33)} (h : okL l) (hl : l.length ≤ 13) : wtW l = wt l := by
  unfold wtW
  rw [foldl_wt l 0 h (by omega) (by omega), Int.zero_add]
theorem momW_eq {l : List (S33)} {p : Int} (h : okL l) (hl : l.length ≤ 13) (hp : 0 ≤ p ∧ p ≤ 60) : momW l p = mom p l := by
  unfold momW
  rw [foldl_mom p hp l 0 h (by omega) (by omega), Int.zero_add]

theorem mom_append (p : Int) : ∀ (l m : List (S33)), mom p (l ++ m) = mom p l + mom p m
  | [], m => by simp [mom]
  | x :: l, m => by
    rw [List.cons_append, mom, mom, mom_append p l m, Int.add_assoc]
theorem okL_append {l : List (S33)} {x : S33} (h : okL l) (hx : (0 ≤ x.f0 ∧ x.f0 ≤ 60) ∧ (1 ≤ x.f1 ∧ x.f1 ≤ 99)) : okL (l ++ [x]) := by
  intro y hy
  rcases List.mem_append.1 hy with h' | h'
  · exact h y h'
  · rw [List.mem_singleton.1 h']; exact hx
theorem sideW_zero {l : List (S33)} {a b : Int} (h : okL l) (hl : l.length ≤ 13) (ha : 0 ≤ a ∧ a ≤ 60) (hb : 0 ≤ b ∧ b ≤ 60) : sideW l a b = 0 ↔ 0 ≤ mom a l ∧ mom b l ≤ 0 := by
  unfold sideW
  rw [momW_eq h hl ha, momW_eq h hl hb]
  split
  · constructor <;> omega
  · split
    · constructor <;> omega
    · constructor <;> omega
theorem standB_iff {l : List (S33)} {a b p w : Int} (h : okL l) (hl : l.length ≤ 12) (ha : 0 ≤ a ∧ a ≤ 60) (hb : 0 ≤ b ∧ b ≤ 60) (hp : 0 ≤ p ∧ p ≤ 60) (hw : 1 ≤ w ∧ w ≤ 99) :
    standB l a b p w = true ↔ 0 ≤ mom a l + w * (p - a) ∧ mom b l + w * (p - b) ≤ 0 := by
  unfold standB
  rw [beq_iff_eq, sideW_zero (okL_append h ⟨hp, hw⟩) (by rw [List.length_append, List.length_singleton]; omega) ha hb, mom_append, mom_append]
  simp only [mom, Int.add_zero]
theorem baseB_iff (a b : Int) : baseB a b = true ↔ (0 ≤ a ∧ a ≤ 60) ∧ (0 ≤ b ∧ b ≤ 60) ∧ a ≤ b := by
  unfold baseB; simp

/-- A fraction in lowest terms, as the machine tells it. -/
def gcdW (a b : Int) : Nat := Nat.gcd (mx a (wrap64 (-a))).toNat b.toNat
def cutR (a b : Int) : Int × Int := (wrap64 (Int.tdiv a (gcdW a b)), wrap64 (Int.tdiv b (gcdW a b)))
theorem gcdW_pos {a b : Int} (hb : 0 < b) : (gcdW a b : Int) ≠ 0 := by
  have : 0 < gcdW a b := Nat.gcd_pos_of_pos_right _ (by omega)
  omega
theorem mx_abs {a : Int} (h1 : -4611686018427387904 ≤ a) (h2 : a ≤ 4611686018427387904) : mx a (wrap64 (-a)) = (a.natAbs : Int) := by
  rw [w64 (by omega) (by omega)]
  unfold mx
  split <;> omega
theorem l1Most_eq (a b : Int) : spec_l1Most.f a b = some (mx a b) := by
  unfold spec_l1Most.f mx
  by_cases h : a > b
  · rw [if_pos h, if_neg (by omega)]
  · by_cases h2 : a < b
    · rw [if_neg h, if_pos h2]
    · rw [if_neg h, if_neg h2, show a = b by omega]
theorem specGcd_ev (n : Nat) : ∀ m : Nat, Ev (fun k => spec_l2Gcd.l0 k (m : Int) (n : Int)) (Nat.gcd m n : Int) := by
  induction n using Nat.strongRecOn with
  | _ n ih =>
    intro m
    refine Ev.step (fun k => by rw [spec_l2Gcd.l0]) ?_
    by_cases h : n = 0
    · subst h
      simp only [show ¬ ((0 : Nat) : Int) > 0 by omega, if_false]
      exact Ev.some (by rw [Nat.gcd_zero_right])
    · simp only [if_pos (show (n : Int) > 0 by omega), if_neg (show ¬ (n : Int) = 0 by omega)]
      have h2 := ih (m % n) (Nat.mod_lt _ (by omega)) n
      rw [show Int.tmod (m : Int) (n : Int) = ((m % n : Nat) : Int) from rfl]
      refine Ev.as h2 ?_
      rw [Nat.gcd_comm m n, Nat.gcd_rec n m, Nat.gcd_comm]
theorem implGcd_ev (n : Nat) : ∀ m : Nat, Ev (fun k => impl_divisor.l0 k (m : Int) (n : Int)) (Nat.gcd m n : Int) := by
  induction n using Nat.strongRecOn with
  | _ n ih =>
    intro m
    refine Ev.step (fun k => by rw [impl_divisor.l0]) ?_
    by_cases h : n = 0
    · subst h
      simp only [show ¬ ((0 : Nat) : Int) > 0 by omega, if_false]
      exact Ev.some (by rw [Nat.gcd_zero_right])
    · simp only [if_pos (show (n : Int) > 0 by omega), if_neg (show ¬ (n : Int) = 0 by omega)]
      have h2 := ih (m % n) (Nat.mod_lt _ (by omega)) n
      rw [show Int.tmod (m : Int) (n : Int) = ((m % n : Nat) : Int) from rfl]
      refine Ev.as h2 ?_
      rw [Nat.gcd_comm m n, Nat.gcd_rec n m, Nat.gcd_comm]
theorem l2Cut_ev {a b : Int} (h1 : -4611686018427387904 ≤ a) (h2 : a ≤ 4611686018427387904) (hb : 0 < b) : Ev (fun k => spec_l2Cut.f k a b) (cutR a b) := by
  unfold spec_l2Cut.f spec_l2Gcd.f
  simp only [l1Most_eq, Option.bind_some]
  have h := specGcd_ev b.toNat (mx a (wrap64 (-a))).toNat
  rw [Int.toNat_of_nonneg (show 0 ≤ b by omega), Int.toNat_of_nonneg (show 0 ≤ mx a (wrap64 (-a)) by rw [mx_abs h1 h2]; omega)] at h
  refine Ev.bind h ?_
  have hz := gcdW_pos (a := a) hb
  unfold gcdW at hz
  simp only [if_neg hz]
  exact Ev.now _
theorem fraction_ev {a b : Int} (h1 : -4611686018427387904 ≤ a) (h2 : a ≤ 4611686018427387904) (hb : 0 < b) : Ev (fun k => impl_fraction.f k a b) (cutR a b) := by
  unfold impl_fraction.f impl_divisor.f
  have h := implGcd_ev b.toNat (mx a (wrap64 (-a))).toNat
  rw [Int.toNat_of_nonneg (show 0 ≤ b by omega), Int.toNat_of_nonneg (show 0 ≤ mx a (wrap64 (-a)) by rw [mx_abs h1 h2]; omega)] at h
  refine Ev.bind h ?_
  have hz := gcdW_pos (a := a) hb
  unfold gcdW at hz
  simp only [if_neg hz]
  exact Ev.now _

def TipSideR (l : List (S33)) (a b : Int) : Int × Bool := if (rowB l && baseB a b) = true then (sideW l a b, true) else (0, false)
theorem specTipSide_ev (l : List (S33)) (a b : Int) (hl : l.length ≤ 9223372036854775806) : Ev (fun k => spec_TipSide.f k l a b) (TipSideR l a b) := by
  unfold spec_TipSide.f TipSideR
  refine Ev.bind (l2On_ev l a b) ?_
  split
  · exact Ev.bind (l2Side_ev l a b hl) (Ev.now _)
  · exact Ev.now _
theorem implTipSide_ev (l : List (S33)) (a b : Int) (hl : l.length ≤ 9223372036854775806) : Ev (fun k => impl_TipSide.f k l a b) (TipSideR l a b) := by
  unfold impl_TipSide.f TipSideR
  simp only [implIsRow_eq, isBase_eq, Option.bind_some]
  cases h : rowB l
  · simp only [Bool.false_and, Bool.false_eq_true, if_false]
    exact Ev.now _
  · simp only [if_true, Bool.true_and]
    split
    · exact Ev.bind (tipSide_ev l a b hl) (Ev.now _)
    · exact Ev.now _
theorem TipSide_same (l : List (S33)) (a b : Int) (hl : l.length ≤ 9223372036854775806) : ∃ r, Ev (fun k => spec_TipSide.f k l a b) r ∧ Ev (fun k => impl_TipSide.f k l a b) r :=
  ⟨_, specTipSide_ev l a b hl, implTipSide_ev l a b hl⟩

def MomentAboutR (l : List (S33)) (p : Int) : Int × Bool := if rowB l = true ∧ 0 ≤ p ∧ p ≤ 60 then (momW l p, true) else (0, false)
theorem specMomentAbout_ev (l : List (S33)) (p : Int) (hl : l.length ≤ 9223372036854775806) : Ev (fun k => spec_MomentAbout.f k l p) (MomentAboutR l p) := by
  unfold spec_MomentAbout.f MomentAboutR
  refine Ev.bind (l2Row_ev l) ?_
  by_cases h : rowB l = true
  · by_cases h2 : 0 ≤ p ∧ p ≤ 60
    · simp only [l2In_eq, Option.bind_some, h, h2, and_self, decide_true, if_true]
      exact Ev.bind (l2Moment_ev l p hl) (Ev.now _)
    · simp only [l2In_eq, Option.bind_some, h, h2, and_false, decide_false, if_true, Bool.false_eq_true, if_false]
      exact Ev.now _
  · simp only [h, false_and, if_false, Bool.false_eq_true]
    exact Ev.now _
theorem implMomentAbout_ev (l : List (S33)) (p : Int) (hl : l.length ≤ 9223372036854775806) : Ev (fun k => impl_MomentAbout.f k l p) (MomentAboutR l p) := by
  unfold impl_MomentAbout.f MomentAboutR
  simp only [implIsRow_eq, Option.bind_some]
  by_cases h : rowB l = true
  · by_cases h2 : 0 ≤ p ∧ p ≤ 60
    · simp only [isPlace_eq, Option.bind_some, h, h2, and_self, decide_true, if_true]
      exact Ev.bind (implMoment_ev l p hl) (Ev.now _)
    · simp only [isPlace_eq, Option.bind_some, h, h2, and_false, decide_false, if_true, Bool.false_eq_true, if_false]
      exact Ev.now _
  · simp only [h, false_and, if_false, Bool.false_eq_true]
    exact Ev.now _
theorem MomentAbout_same (l : List (S33)) (p : Int) (hl : l.length ≤ 9223372036854775806) : ∃ r, Ev (fun k => spec_MomentAbout.f k l p) r ∧ Ev (fun k => impl_MomentAbout.f k l p) r :=
  ⟨_, specMomentAbout_ev l p hl, implMomentAbout_ev l p hl⟩

theorem ceil_eq {m w : Int} (hw : 0 < w) : (m + w - 1) / w = if m / w * w = m then m / w else m / w + 1 := by
  have hr0 := Int.emod_nonneg m (show w ≠ 0 by omega)
  have hr1 := Int.emod_lt_of_pos m hw
  have hd := Int.mul_ediv_add_emod m w
  rw [Int.mul_comm (m / w) w]
  by_cases h : w * (m / w) = m
  · rw [if_pos h]
    have : m + w - 1 = (w - 1) + w * (m / w) := by omega
    rw [this, Int.add_mul_ediv_left _ _ (by omega), Int.ediv_eq_zero_of_lt (by omega) (by omega), Int.zero_add]
  · rw [if_neg h]
    have : m + w - 1 = (m % w - 1) + w * (m / w + 1) := by rw [Int.mul_add]; omega
    rw [this, Int.add_mul_ediv_left _ _ (by omega), Int.ediv_eq_zero_of_lt (by omega) (by omega), Int.zero_add]
def NarrowBaseR (l : List (S33)) : Int × Int × Bool := if rowB l = true ∧ l ≠ [] then (mom 0 l / wt l, (mom 0 l + wt l - 1) / wt l, true) else (0, 0, false)
theorem len_pos {l : List (S33)} (h : l ≠ []) : 0 < l.length := List.length_pos_iff.2 h
theorem narrow_facts {l : List (S33)} (h : rowB l = true) (hn : l ≠ []) : wtW l = wt l ∧ momW l 0 = mom 0 l ∧ 1 ≤ wt l ∧ wt l ≤ 1188 ∧ 0 ≤ mom 0 l ∧ mom 0 l ≤ 71280 ∧ 0 ≤ mom 0 l / wt l ∧ mom 0 l / wt l * wt l ≤ mom 0 l ∧ mom 0 l / wt l ≤ mom 0 l := by
  have ok := okL_of h
  have hl := ((rowB_iff l).1 h).1
  have h1 := wt_bounds l ok
  have h2 := mom_bounds 0 (by omega) l ok
  have h3 := mom0_nonneg l ok
  have h4 := len_pos hn
  refine ⟨wtW_eq ok (by omega), momW_eq ok (by omega) (by omega), by omega, by omega, h3, by omega, Int.ediv_nonneg h3 (by omega), Int.ediv_mul_le _ (by omega), Int.ediv_le_self _ h3⟩
theorem specNarrowBase_ev (l : List (S33)) (hl : l.length ≤ 9223372036854775806) : Ev (fun k => spec_NarrowBase.f k l) (NarrowBaseR l) := by
  unfold spec_NarrowBase.f NarrowBaseR
  refine Ev.bind (l2Row_ev l) ?_
  by_cases h : rowB l = true
  · by_cases hn : l = []
    · simp only [h, hn, if_true, List.length_nil, Int.natCast_zero, beq_self_eq_true, ne_eq, not_true, and_false, if_false]
      refine Ev.step (fun k => by rw [spec_NarrowBase.j0]) ?_
      simp only [if_true]
      exact Ev.now _
    · obtain ⟨e1, e2, b1, b2, b3, b4, b5, b6, b7⟩ := narrow_facts h hn
      have hz : ((l.length : Int) == 0) = false := by have := len_pos hn; simp; exact hn
      simp only [h, if_true, hz, ne_eq, hn, not_false_eq_true, and_self]
      refine Ev.step (fun k => by rw [spec_NarrowBase.j0]) ?_
      simp only [Bool.false_eq_true, if_false]
      have hm := l2Moment_ev l 0 hl
      have hw := l2Weight_ev l hl
      rw [e1] at hw
      rw [e2] at hm
      refine Ev.bind hm (Ev.bind hw ?_)
      simp only [if_neg (show ¬ wt l = 0 by omega)]
      refine Ev.bind hw (Ev.bind hm ?_)
      have hdl : 0 ≤ mom 0 l / wt l * wt l := Int.mul_nonneg b5 (by omega)
      rw [Int.tdiv_eq_ediv_of_nonneg b3, w64 (x := mom 0 l / wt l) (by omega) (by omega), w64 (x := mom 0 l / wt l * wt l) (by omega) (by omega), w64 (x := mom 0 l / wt l + 1) (by omega) (by omega), ceil_eq (by omega)]
      split <;> exact Ev.now _
  · simp only [h, false_and, if_false, Bool.false_eq_true]
    refine Ev.step (fun k => by rw [spec_NarrowBase.j0]) ?_
    simp only [if_true]
    exact Ev.now _
theorem implNarrowBase_ev (l : List (S33)) (hl : l.length ≤ 9223372036854775806) : Ev (fun k => impl_NarrowBase.f k l) (NarrowBaseR l) := by
  unfold impl_NarrowBase.f NarrowBaseR
  simp only [implIsRow_eq, Option.bind_some]
  by_cases h : rowB l = true
  · by_cases hn : l = []
    · simp only [h, hn, if_true, List.length_nil, Int.natCast_zero, beq_self_eq_true, ne_eq, not_true, and_false, if_false]
      refine Ev.step (fun k => by rw [impl_NarrowBase.j0]) ?_
      simp only [if_true]
      exact Ev.now _
    · obtain ⟨e1, e2, b1, b2, b3, b4, b5, b6, b7⟩ := narrow_facts h hn
      have hz : ((l.length : Int) == 0) = false := by have := len_pos hn; simp; exact hn
      simp only [h, if_true, hz, ne_eq, hn, not_false_eq_true, and_self]
      refine Ev.step (fun k => by rw [impl_NarrowBase.j0]) ?_
      simp only [Bool.false_eq_true, if_false]
      have hm := implMoment_ev l 0 hl
      have hw := implWeight_ev l hl
      rw [e1] at hw
      rw [e2] at hm
      refine Ev.bind hm (Ev.bind hw ?_)
      simp only [if_neg (show ¬ wt l = 0 by omega)]
      have c1 : 0 ≤ (mom 0 l + wt l - 1) / wt l := Int.ediv_nonneg (by omega) (by omega)
      have c2 : (mom 0 l + wt l - 1) / wt l ≤ mom 0 l + wt l - 1 := Int.ediv_le_self _ (by omega)
      rw [Int.tdiv_eq_ediv_of_nonneg b3, w64 (x := mom 0 l / wt l) (by omega) (by omega), w64 (x := mom 0 l + wt l) (by omega) (by omega), w64 (x := mom 0 l + wt l - 1) (by omega) (by omega), Int.tdiv_eq_ediv_of_nonneg (by omega), w64 (x := (mom 0 l + wt l - 1) / wt l) (by omega) (by omega)]
      exact Ev.now _
  · simp only [h, false_and, if_false, Bool.false_eq_true]
    refine Ev.step (fun k => by rw [impl_NarrowBase.j0]) ?_
    simp only [if_true]
    exact Ev.now _
theorem NarrowBase_same (l : List (S33)) (hl : l.length ≤ 9223372036854775806) : ∃ r, Ev (fun k => spec_NarrowBase.f k l) r ∧ Ev (fun k => impl_NarrowBase.f k l) r :=
  ⟨_, specNarrowBase_ev l hl, implNarrowBase_ev l hl⟩

theorem len_pos' {l : List (S33)} (h : l ≠ []) : 0 < l.length := List.length_pos_iff.2 h
def CentreOfR (l : List (S33)) : Int × Int × Bool := if rowB l = true ∧ l ≠ [] then ((cutR (mom 0 l) (wt l)).1, (cutR (mom 0 l) (wt l)).2, true) else (0, 0, false)
theorem centre_facts {l : List (S33)} (h : rowB l = true) (hn : l ≠ []) : wtW l = wt l ∧ momW l 0 = mom 0 l ∧ 1 ≤ wt l ∧ wt l ≤ 1188 ∧ 0 ≤ mom 0 l ∧ mom 0 l ≤ 71280 := by
  have ok := okL_of h
  have hl := ((rowB_iff l).1 h).1
  have h1 := wt_bounds l ok
  have h2 := mom_bounds 0 (by omega) l ok
  have h3 := mom0_nonneg l ok
  have h4 := len_pos' hn
  exact ⟨wtW_eq ok (by omega), momW_eq ok (by omega) (by omega), by omega, by omega, h3, by omega⟩
theorem specCentreOf_ev (l : List (S33)) (hl : l.length ≤ 9223372036854775806) : Ev (fun k => spec_CentreOf.f k l) (CentreOfR l) := by
  unfold spec_CentreOf.f CentreOfR
  refine Ev.bind (l2Row_ev l) ?_
  by_cases h : rowB l = true
  · by_cases hn : l = []
    · simp only [h, hn, if_true, List.length_nil, Int.natCast_zero, beq_self_eq_true, ne_eq, not_true, and_false, if_false]
      refine Ev.step (fun k => by rw [spec_CentreOf.j0]) ?_
      simp only [if_true]
      exact Ev.now _
    · obtain ⟨e1, e2, b1, b2, b3, b4⟩ := centre_facts h hn
      have hz : ((l.length : Int) == 0) = false := by have := len_pos' hn; simp; exact hn
      simp only [h, if_true, hz, ne_eq, hn, not_false_eq_true, and_self]
      refine Ev.step (fun k => by rw [spec_CentreOf.j0]) ?_
      simp only [Bool.false_eq_true, if_false]
      have hm := l2Moment_ev l 0 hl
      have hw := l2Weight_ev l hl
      rw [e1] at hw
      rw [e2] at hm
      exact Ev.bind hm (Ev.bind hw (Ev.bind (l2Cut_ev (by omega) (by omega) (by omega)) (Ev.now _)))
  · simp only [h, false_and, if_false, Bool.false_eq_true]
    refine Ev.step (fun k => by rw [spec_CentreOf.j0]) ?_
    simp only [if_true]
    exact Ev.now _
theorem implCentreOf_ev (l : List (S33)) (hl : l.length ≤ 9223372036854775806) : Ev (fun k => impl_CentreOf.f k l) (CentreOfR l) := by
  unfold impl_CentreOf.f CentreOfR
  simp only [implIsRow_eq, Option.bind_some]
  by_cases h : rowB l = true
  · by_cases hn : l = []
    · simp only [h, hn, if_true, List.length_nil, Int.natCast_zero, beq_self_eq_true, ne_eq, not_true, and_false, if_false]
      refine Ev.step (fun k => by rw [impl_CentreOf.j0]) ?_
      simp only [if_true]
      exact Ev.now _
    · obtain ⟨e1, e2, b1, b2, b3, b4⟩ := centre_facts h hn
      have hz : ((l.length : Int) == 0) = false := by have := len_pos' hn; simp; exact hn
      simp only [h, if_true, hz, ne_eq, hn, not_false_eq_true, and_self]
      refine Ev.step (fun k => by rw [impl_CentreOf.j0]) ?_
      simp only [Bool.false_eq_true, if_false]
      have hm := implMoment_ev l 0 hl
      have hw := implWeight_ev l hl
      rw [e1] at hw
      rw [e2] at hm
      exact Ev.bind hm (Ev.bind hw (Ev.bind (fraction_ev (by omega) (by omega) (by omega)) (Ev.now _)))
  · simp only [h, false_and, if_false, Bool.false_eq_true]
    refine Ev.step (fun k => by rw [impl_CentreOf.j0]) ?_
    simp only [if_true]
    exact Ev.now _
theorem CentreOf_same (l : List (S33)) (hl : l.length ≤ 9223372036854775806) : ∃ r, Ev (fun k => spec_CentreOf.f k l) r ∧ Ev (fun k => impl_CentreOf.f k l) r :=
  ⟨_, specCentreOf_ev l hl, implCentreOf_ev l hl⟩

def ReactionsOfR (l : List (S33)) (a b : Int) : Int × Int × Int × Int × Bool :=
  if (rowB l && baseB a b) = true ∧ a ≠ b then ((cutR (-(mom b l)) (b - a)).1, (cutR (-(mom b l)) (b - a)).2, (cutR (mom a l) (b - a)).1, (cutR (mom a l) (b - a)).2, true) else (0, 0, 0, 0, false)
theorem react_facts {l : List (S33)} {a b : Int} (h : (rowB l && baseB a b) = true) (hab : a ≠ b) : momW l a = mom a l ∧ momW l b = mom b l ∧ -71280 ≤ mom a l ∧ mom a l ≤ 71280 ∧ -71280 ≤ mom b l ∧ mom b l ≤ 71280 ∧ 0 < b - a ∧ b - a ≤ 60 := by
  have h' := Bool.and_eq_true_iff.1 h
  have ok := okL_of h'.1
  have hl := ((rowB_iff l).1 h'.1).1
  have hb : (0 ≤ a ∧ a ≤ 60) ∧ (0 ≤ b ∧ b ≤ 60) ∧ a ≤ b := by have := h'.2; unfold baseB at this; simpa using this
  have h1 := mom_bounds a hb.1 l ok
  have h2 := mom_bounds b hb.2.1 l ok
  exact ⟨momW_eq ok (by omega) hb.1, momW_eq ok (by omega) hb.2.1, by omega, by omega, by omega, by omega, by omega, by omega⟩
theorem specReactionsOf_ev (l : List (S33)) (a b : Int) (hl : l.length ≤ 9223372036854775806) : Ev (fun k => spec_ReactionsOf.f k l a b) (ReactionsOfR l a b) := by
  unfold spec_ReactionsOf.f ReactionsOfR
  have done : Ev (fun k => spec_ReactionsOf.j0 k l a b true) (0, 0, 0, 0, false) := by
    refine Ev.step (fun k => by rw [spec_ReactionsOf.j0]) ?_
    simp only [if_true]
    exact Ev.now _
  refine Ev.bind (l2On_ev l a b) ?_
  by_cases h : (rowB l && baseB a b) = true
  · by_cases hab : a = b
    · subst hab
      simp only [h, if_true, beq_self_eq_true, ne_eq, not_true, and_false, if_false]
      exact done
    · obtain ⟨e1, e2, b1, b2, b3, b4, b5, b6⟩ := react_facts h hab
      simp only [h, if_true, beq_eq_false_iff_ne.2 hab, ne_eq, hab, not_false_eq_true, and_self]
      refine Ev.step (fun k => by rw [spec_ReactionsOf.j0]) ?_
      simp only [Bool.false_eq_true, if_false]
      have ha := l2Moment_ev l a hl
      have hb := l2Moment_ev l b hl
      rw [e1] at ha
      rw [e2] at hb
      refine Ev.bind hb ?_
      simp only [w64 (x := -(mom b l)) (by omega) (by omega), w64 (x := b - a) (by omega) (by omega)]
      exact Ev.bind (l2Cut_ev (by omega) (by omega) b5) (Ev.bind ha (Ev.bind (l2Cut_ev (by omega) (by omega) b5) (Ev.now _)))
  · simp only [h, false_and, if_false]
    exact done
theorem implReactionsOf_ev (l : List (S33)) (a b : Int) (hl : l.length ≤ 9223372036854775806) : Ev (fun k => impl_ReactionsOf.f k l a b) (ReactionsOfR l a b) := by
  unfold impl_ReactionsOf.f ReactionsOfR
  have done : Ev (fun k => impl_ReactionsOf.j0 k l a b true) (0, 0, 0, 0, false) := by
    refine Ev.step (fun k => by rw [impl_ReactionsOf.j0]) ?_
    simp only [if_true]
    exact Ev.now _
  simp only [implIsRow_eq, isBase_eq, Option.bind_some]
  by_cases h : (rowB l && baseB a b) = true
  · have h' := Bool.and_eq_true_iff.1 h
    by_cases hab : a = b
    · subst hab
      simp only [h, h'.1, h'.2, if_true, beq_self_eq_true, ne_eq, not_true, and_false, if_false]
      exact done
    · obtain ⟨e1, e2, b1, b2, b3, b4, b5, b6⟩ := react_facts h hab
      simp only [h, h'.1, h'.2, if_true, beq_eq_false_iff_ne.2 hab, ne_eq, hab, not_false_eq_true, and_self]
      refine Ev.step (fun k => by rw [impl_ReactionsOf.j0]) ?_
      simp only [Bool.false_eq_true, if_false]
      have ha := implMoment_ev l a hl
      have hb := implMoment_ev l b hl
      rw [e1] at ha
      rw [e2] at hb
      refine Ev.bind hb ?_
      simp only [w64 (x := -(mom b l)) (by omega) (by omega), w64 (x := b - a) (by omega) (by omega)]
      exact Ev.bind (fraction_ev (by omega) (by omega) b5) (Ev.bind ha (Ev.bind (fraction_ev (by omega) (by omega) b5) (Ev.now _)))
  · simp only [h, false_and, if_false]
    cases h1 : rowB l
    · simp only [Bool.false_eq_true, if_false]
      exact done
    · rw [h1, Bool.true_and] at h
      simp only [if_true, h, if_false]
      exact done
theorem ReactionsOf_same (l : List (S33)) (a b : Int) (hl : l.length ≤ 9223372036854775806) : ∃ r, Ev (fun k => spec_ReactionsOf.f k l a b) r ∧ Ev (fun k => impl_ReactionsOf.f k l a b) r :=
  ⟨_, specReactionsOf_ev l a b hl, implReactionsOf_ev l a b hl⟩

/-- Loads, if they are a row. -/
def keptR (l : List (S33)) : List (S33) × Bool := if rowB l = true then (l, true) else ([], false)
theorem validRow_eq (l : List (S33)) : impl_validRow.f l = some (keptR l) := by
  unfold impl_validRow.f keptR
  simp only [implIsRow_eq, Option.bind_some]
  split <;> rfl
theorem keptR_len {l : List (S33)} : (keptR l).1.length ≤ 12 := by
  unfold keptR
  split
  · rename_i h; exact ((rowB_iff l).1 h).1
  · simp

def movedW (s by_ : Int) (l : List (S33)) : List (S33) := l.map fun x => ⟨wrap64 (wrap64 (s * x.f0) + by_), x.f1⟩
theorem l2Moved_ev (l : List (S33)) (s by_ : Int) (hl : l.length ≤ 1000) : Ev (fun k => spec_l2Moved.f k l s by_) (movedW s by_ l) := by
  unfold spec_l2Moved.f
  have h := Ev.fold (l := fun k o i => spec_l2Moved.l0 k l s by_ o i) (n := l.length) (fun i => movedW s by_ (l.take i.toNat)) (a := movedW s by_ l)
    (fun i h0 h1 r h => by
      refine Ev.step (fun k => by rw [spec_l2Moved.l0]) ?_
      have hx : (movedW s by_ (l.take i.toNat)).length < 8796093022208 := by
        unfold movedW; rw [List.length_map, List.length_take]; omega
      simp only [if_pos h1, if_pos h0, if_pos hx, w64 (show -9223372036854775808 ≤ i + 1 by omega) (by omega)]
      rw [take_succ_rd l i h0 h1] at h
      simp only [movedW, List.map_append, List.map_cons, List.map_nil] at h ⊢
      exact h)
    (by
      refine Ev.step (fun k => by rw [spec_l2Moved.l0]) ?_
      simp only [if_neg (show ¬ (l.length : Int) < l.length by omega)]
      exact Ev.some (by simp))
    l.length 0 (by omega) (by omega)
  simpa [movedW] using h

def byW (c : Int → Int) (l : List (S33)) : List (S33) := l.map fun x => ⟨c x.f0, x.f1⟩
def placesByR (c : Int → Int) (l : List (S33)) : List (S33) × Bool := if rowB l = true then keptR (byW c l) else ([], false)
theorem placesBy_ev (c : Int → Int) (l : List (S33)) : Ev (fun k => impl_placesBy.f (fun p => some (c p)) k l) (placesByR c l) := by
  unfold impl_placesBy.f placesByR
  simp only [implIsRow_eq, Option.bind_some]
  by_cases hb : rowB l = true
  · have hl := ((rowB_iff l).1 hb).1
    simp only [hb, if_true]
    have h := Ev.fold (l := fun k o i => impl_placesBy.l0 (fun p => some (c p)) k o l l.length i) (n := l.length) (fun i => byW c (l.take i.toNat)) (a := keptR (byW c l))
      (fun i h0 h1 r h => by
        refine Ev.step (fun k => by rw [impl_placesBy.l0]) ?_
        have hx : (byW c (l.take i.toNat)).length < 8796093022208 := by
          unfold byW; rw [List.length_map, List.length_take]; omega
        simp only [if_pos h1, if_pos h0, Option.bind_some, if_pos hx, w64 (show -9223372036854775808 ≤ i + 1 by omega) (by omega)]
        rw [take_succ_rd l i h0 h1] at h
        simp only [byW, List.map_append, List.map_cons, List.map_nil] at h ⊢
        exact h)
      (by
        refine Ev.step (fun k => by rw [impl_placesBy.l0]) ?_
        simp only [if_neg (show ¬ (l.length : Int) < l.length by omega), validRow_eq, Option.bind_some]
        exact Ev.some (by simp))
      l.length 0 (by omega) (by omega)
    simpa [byW] using h
  · simp only [hb, if_false]
    exact Ev.now _
theorem placesByR_len {c : Int → Int} {l : List (S33)} : (placesByR c l).1.length ≤ 12 := by
  unfold placesByR
  split
  · exact keptR_len
  · simp

theorem implMirrorRow_ev (l : List (S33)) : Ev (fun k => impl_MirrorRow.f k l) (placesByR (fun p => wrap64 (60 - p)) l) := by
  unfold impl_MirrorRow.f impl_MirrorRow_1.f
  exact placesBy_ev (fun p => wrap64 (60 - p)) l
theorem mirror_valid {l : List (S33)} (h : rowB l = true) : movedW (-1) 60 l = byW (fun p => wrap64 (60 - p)) l ∧ rowB (byW (fun p => wrap64 (60 - p)) l) = true := by
  have hr := (rowB_iff l).1 h
  constructor
  · unfold movedW byW
    refine List.map_congr_left fun x hx => ?_
    have := hr.2 x hx
    show (⟨wrap64 (wrap64 (-1 * x.f0) + 60), x.f1⟩ : S33) = ⟨wrap64 (60 - x.f0), x.f1⟩
    rw [w64 (x := -1 * x.f0) (by omega) (by omega), w64 (x := -1 * x.f0 + 60) (by omega) (by omega), w64 (x := 60 - x.f0) (by omega) (by omega), show -1 * x.f0 + 60 = 60 - x.f0 by omega]
  · rw [rowB_iff]
    unfold byW
    refine ⟨by rw [List.length_map]; exact hr.1, fun y hy => ?_⟩
    obtain ⟨x, hx, rfl⟩ := List.mem_map.1 hy
    have := hr.2 x hx
    simp only
    rw [w64 (x := 60 - x.f0) (by omega) (by omega)]
    omega
theorem specMirrorRow_ev (l : List (S33)) : Ev (fun k => spec_MirrorRow.f k l) (placesByR (fun p => wrap64 (60 - p)) l) := by
  unfold spec_MirrorRow.f placesByR
  refine Ev.bind (l2Row_ev l) ?_
  by_cases h : rowB l = true
  · have hl := ((rowB_iff l).1 h).1
    have hv := mirror_valid h
    simp only [h, if_true]
    refine Ev.bind (l2Moved_ev l (-1) 60 (by omega)) (Ev.some ?_)
    unfold keptR
    rw [if_pos hv.2, hv.1]
  · simp only [h, if_false]
    exact Ev.now _
theorem MirrorRow_same (l : List (S33)) (hl : l.length ≤ 1048576) : ∃ r : List (S33) × Bool, r.1.length ≤ 1048576 ∧ Ev (fun k => spec_MirrorRow.f k l) r ∧ Ev (fun k => impl_MirrorRow.f k l) r :=
  ⟨_, by have := placesByR_len (c := fun p => wrap64 (60 - p)) (l := l); omega, specMirrorRow_ev l, implMirrorRow_ev l⟩

/-- The bytes that a reader of draws reads. -/
def Code8 (c : List Int) : Prop := (∀ x ∈ c, 0 ≤ x ∧ x ≤ 255) ∧ c.length ≤ 140737488351232
theorem code8 {c : List Int} (h1 : c.length * 1 ≤ 140737488351232) (h2 : ∀ x ∈ c, (Lit.int .u8 x).wf = true) : Code8 c := by
  refine ⟨fun x hx => ?_, by omega⟩
  have h := h2 x hx
  simp [Lit.wf, IntKind.min, IntKind.max, IntKind.signed, IntKind.bits] at h
  omega
theorem and255 (x : Int) (h0 : 0 ≤ x) (h1 : x < 18446744073709551616) : 0 ≤ Go.bits .and .u64 x 255 ∧ Go.bits .and .u64 x 255 ≤ 255 := by
  have := Go.bits_mask .u64 64 (by decide) (fun n g0 g1 => by rw [IntKind.wrap_u64]; omega) 8 (by decide) x h0 h1
  rw [show ((2 : Int) ^ 8 - 1) = 255 by decide, show ((2 : Int) ^ 8) = 256 by decide] at this
  rw [this]
  omega
theorem u64_range (x : Int) : 0 ≤ IntKind.u64.wrap x ∧ IntKind.u64.wrap x < 18446744073709551616 := by
  rw [IntKind.wrap_u64]
  omega
theorem seedByte (x : Int) : 0 ≤ wrap64 (Go.bits .and .u64 (IntKind.u64.wrap x / 1099511627776) 255) ∧ wrap64 (Go.bits .and .u64 (IntKind.u64.wrap x / 1099511627776) 255) ≤ 255 := by
  have h := u64_range x
  have h2 := and255 (IntKind.u64.wrap x / 1099511627776) (by omega) (by omega)
  rw [w64 (by omega) (by omega)]
  exact h2
theorem next_ok {c : List Int} (hc : Code8 c) {p : Int} (s : Int) (h0 : 0 ≤ p) (h1 : p ≤ 4611686018427387904) : ∃ b s', spec_l1Cur_next.f c p s = some (b, p + 1, s') ∧ 0 ≤ b ∧ b ≤ 255 := by
  unfold spec_l1Cur_next.f
  rw [w64 (show -9223372036854775808 ≤ p + 1 by omega) (by omega)]
  by_cases h : p < (c.length : Int)
  · have hb := hc.1 _ (rd_mem h0 h)
    have e : wrap64 (rd c p) = rd c p := w64 (by omega) (by omega)
    simp only [if_pos h, if_pos h0, e]
    split
    · exact ⟨_, _, rfl, hb⟩
    · exact ⟨_, _, rfl, seedByte _⟩
  · simp only [if_neg h]
    split
    · exact ⟨_, _, rfl, by omega, by omega⟩
    · exact ⟨_, _, rfl, seedByte _⟩
theorem tmod_in {x n : Int} (h0 : 0 ≤ x) (h1 : 1 ≤ n) : 0 ≤ Int.tmod x n ∧ Int.tmod x n < n := by
  rw [Int.tmod_eq_emod_of_nonneg h0]
  exact ⟨Int.emod_nonneg _ (by omega), Int.emod_lt_of_pos _ (by omega)⟩
theorem pick_ok {c : List Int} (hc : Code8 c) {p : Int} (s n : Int) (h0 : 0 ≤ p) (h1 : p ≤ 4611686018427387000) : ∃ x p' s', spec_l1Cur_pick.f c p s n = some (x, p', s') ∧ (p ≤ p' ∧ p' ≤ p + 2) ∧ 0 ≤ x ∧ (1 ≤ n → x < n) := by
  unfold spec_l1Cur_pick.f
  by_cases hn : n ≤ 1
  · rw [if_pos hn]
    exact ⟨_, _, _, rfl, by omega, by omega, by omega⟩
  · rw [if_neg hn]
    obtain ⟨b, s1, e1, b0, b1⟩ := next_ok hc s h0 (by omega)
    rw [e1, Option.bind_some]
    by_cases h2 : n > 200
    · obtain ⟨d, s2, e2, d0, d1⟩ := next_ok hc s1 (show 0 ≤ p + 1 by omega) (by omega)
      simp only [if_pos h2, e2, Option.bind_some, if_neg (show ¬ n = 0 by omega)]
      rw [w64 (show -9223372036854775808 ≤ b * 256 by omega) (by omega), w64 (show -9223372036854775808 ≤ b * 256 + d by omega) (by omega)]
      have := tmod_in (show 0 ≤ b * 256 + d by omega) (show 1 ≤ n by omega)
      exact ⟨_, _, _, rfl, by omega, this.1, fun _ => this.2⟩
    · simp only [if_neg h2, if_neg (show ¬ n = 0 by omega)]
      have := tmod_in b0 (show 1 ≤ n by omega)
      exact ⟨_, _, _, rfl, by omega, this.1, fun _ => this.2⟩
theorem among_ok {c : List Int} (hc : Code8 c) {p : Int} (s : Int) (l : List Int) (h0 : 0 ≤ p) (h1 : p ≤ 4611686018427387000) (hl : 1 ≤ l.length) : ∃ x p' s', spec_l1Cur_among.f c p s l = some (x, p', s') ∧ (p ≤ p' ∧ p' ≤ p + 2) ∧ x ∈ l := by
  unfold spec_l1Cur_among.f
  obtain ⟨x, p', s', e, hp, x0, x1⟩ := pick_ok hc s (l.length : Int) h0 h1
  have x1' := x1 (by omega)
  simp only [e, Option.bind_some, if_pos x0, if_pos x1']
  exact ⟨_, _, _, rfl, hp, rd_mem x0 x1'⟩
theorem one_ok {c : List Int} (hc : Code8 c) {p : Int} (s n : Int) (h0 : 0 ≤ p) (h1 : p ≤ 4611686018427387000) : ∃ x p' s', spec_l1Cur_one.f c p s n = some (x, p', s') ∧ (p ≤ p' ∧ p' ≤ p + 2) := by
  unfold spec_l1Cur_one.f
  obtain ⟨x, p', s', e, hp, x0, x1⟩ := pick_ok hc s n h0 h1
  simp only [e, Option.bind_some]
  exact ⟨_, _, _, rfl, hp⟩

theorem l1Least_eq (a b : Int) : spec_l1Least.f a b = some (min a b) := by
  unfold spec_l1Least.f
  split
  · rw [Int.min_eq_left (by omega)]
  · rw [Int.min_eq_right (by omega)]
theorem placeIn_ok {c : List Int} (hc : Code8 c) {p : Int} (s : Int) (h0 : 0 ≤ p) (h1 : p ≤ 4611686018427386000) : ∃ x p' s', spec_l1Cur_placeIn.f c p s = some (x, p', s') ∧ (p ≤ p' ∧ p' ≤ p + 6) := by
  unfold spec_l1Cur_placeIn.f
  obtain ⟨x, p1, s1, e, hp⟩ := one_ok hc s 30 h0 (by omega)
  simp only [e, Option.bind_some]
  cases x
  · obtain ⟨y, p2, s2, e2, hp2, _⟩ := among_ok hc s1 [11, 11, 21, 61] (show 0 ≤ p1 by omega) (by omega) (by decide)
    obtain ⟨z, p3, s3, e3, hp3, _⟩ := pick_ok hc s2 y (show 0 ≤ p2 by omega) (by omega)
    simp only [Bool.false_eq_true, if_false, e2, e3, Option.bind_some]
    exact ⟨_, _, _, rfl, by omega⟩
  · obtain ⟨y, p2, s2, e2, hp2, _⟩ := among_ok hc s1 [(-1), 0, 60, 61, 4611686018427387904] (show 0 ≤ p1 by omega) (by omega) (by decide)
    simp only [if_true, e2, Option.bind_some]
    exact ⟨_, _, _, rfl, by omega⟩
theorem base_ok {c : List Int} (hc : Code8 c) {p : Int} (s : Int) (h0 : 0 ≤ p) (h1 : p ≤ 4611686018427385000) : ∃ x y p' s', spec_l1Cur_base.f c p s = some (x, y, p', s') ∧ (p ≤ p' ∧ p' ≤ p + 14) := by
  unfold spec_l1Cur_base.f
  obtain ⟨x, p1, s1, e1, hp1⟩ := placeIn_ok hc s h0 (by omega)
  obtain ⟨y, p2, s2, e2, hp2⟩ := placeIn_ok hc s1 (show 0 ≤ p1 by omega) (by omega)
  simp only [e1, e2, Option.bind_some]
  by_cases h : x > y
  · obtain ⟨z, p3, s3, e3, hp3⟩ := one_ok hc s2 16 (show 0 ≤ p2 by omega) (by omega)
    simp only [if_pos h, e3, Option.bind_some]
    cases z
    · simp only [Bool.false_eq_true, if_false]
      exact ⟨_, _, _, _, rfl, by omega⟩
    · simp only [if_true]
      exact ⟨_, _, _, _, rfl, by omega⟩
  · simp only [if_neg h]
    exact ⟨_, _, _, _, rfl, by omega⟩
theorem fill_ok (c : List Int) (p s : Int) : ∀ (d : Nat) (r : List (S33)), r.length ≤ 13 → 13 - r.length = d → ∃ r', Ev (fun k => spec_l1Cur_someRow.l1 k r c p s) (r', p, s) ∧ r'.length ≤ 13 := by
  intro d
  induction d with
  | zero =>
    intro r h0 hd
    refine ⟨r, ?_, h0⟩
    refine Ev.step (fun k => by rw [spec_l1Cur_someRow.l1]) ?_
    simp only [if_neg (show ¬ (r.length : Int) < 13 by omega)]
    exact Ev.now _
  | succ d ih =>
    intro r h0 hd
    obtain ⟨r', hr, hl⟩ := ih (r ++ [⟨5, 1⟩]) (by rw [List.length_append, List.length_singleton]; omega) (by rw [List.length_append, List.length_singleton]; omega)
    refine ⟨r', ?_, hl⟩
    refine Ev.step (fun k => by rw [spec_l1Cur_someRow.l1]) ?_
    simp only [if_pos (show (r.length : Int) < 13 by omega), if_pos (show r.length < 8796093022208 by omega)]
    exact hr
theorem someRow_ok {c : List Int} (hc : Code8 c) : ∀ (d : Nat) (n : Int) (r : List (S33)) (p s : Int), n ≤ d → r.length + d ≤ 12 → 0 ≤ p → p ≤ 4611686018427380000 - 8 * (d : Int) →
    ∃ r' p' s', Ev (fun k => spec_l1Cur_someRow.l0 k r n c p s) (r', p', s') ∧ r'.length ≤ 13 ∧ (p ≤ p' ∧ p' ≤ p + 8 * d + 6) := by
  intro d
  induction d with
  | zero =>
    intro n r p s hn hr h0 h1
    have nn : ¬ n > 0 := by omega
    by_cases hz : (r.length : Int) > 0
    · obtain ⟨x, p1, s1, e1, hp1, x0, x1⟩ := pick_ok hc s 60 h0 (by omega)
      by_cases g0 : x = 0
      · obtain ⟨y, p2, s2, e2, hp2, y0, y1⟩ := pick_ok hc s1 (r.length : Int) (show 0 ≤ p1 by omega) (by omega)
        obtain ⟨z, p3, s3, e3, hp3, _⟩ := among_ok hc s2 [(-1), 60, 61, 4611686018427387904] (show 0 ≤ p2 by omega) (by omega) (by decide)
        refine ⟨r.set y.toNat ⟨z, (rd_T33 r y).f1⟩, p3, s3, Ev.step (fun k => by rw [spec_l1Cur_someRow.l0]) ?_, by rw [List.length_set]; omega, by omega⟩
        simp only [if_neg nn, if_pos hz, e1, e2, e3, Option.bind_some, if_pos g0, if_pos y0, if_pos (y1 (by omega))]
        exact Ev.now _
      · by_cases g1 : x = 1
        · obtain ⟨y, p2, s2, e2, hp2, y0, y1⟩ := pick_ok hc s1 (r.length : Int) (show 0 ≤ p1 by omega) (by omega)
          obtain ⟨z, p3, s3, e3, hp3, _⟩ := among_ok hc s2 [0, 99, 100, (-1)] (show 0 ≤ p2 by omega) (by omega) (by decide)
          refine ⟨r.set y.toNat ⟨(rd_T33 r y).f0, z⟩, p3, s3, Ev.step (fun k => by rw [spec_l1Cur_someRow.l0]) ?_, by rw [List.length_set]; omega, by omega⟩
          simp only [if_neg nn, if_pos hz, e1, e2, e3, Option.bind_some, if_neg g0, if_pos g1, if_pos y0, if_pos (y1 (by omega))]
          exact Ev.now _
        · by_cases g2 : x = 2
          · obtain ⟨r', hr', hl'⟩ := fill_ok c p1 s1 _ r (by omega) rfl
            refine ⟨r', p1, s1, Ev.step (fun k => by rw [spec_l1Cur_someRow.l0]) ?_, hl', by omega⟩
            simp only [if_neg nn, if_pos hz, e1, Option.bind_some, if_neg g0, if_neg g1, if_pos g2]
            exact hr'
          · refine ⟨r, p1, s1, Ev.step (fun k => by rw [spec_l1Cur_someRow.l0]) ?_, by omega, by omega⟩
            simp only [if_neg nn, if_pos hz, e1, Option.bind_some, if_neg g0, if_neg g1, if_neg g2]
            exact Ev.now _
    · refine ⟨r, p, s, Ev.step (fun k => by rw [spec_l1Cur_someRow.l0]) ?_, by omega, by omega⟩
      simp only [if_neg nn, if_neg hz]
      exact Ev.now _
  | succ d ih =>
    intro n r p s hn hr h0 h1
    by_cases hd : n ≤ d
    · obtain ⟨r', p', s', h, hl, hp⟩ := ih n r p s hd (by omega) h0 (by omega)
      exact ⟨r', p', s', h, hl, by omega⟩
    · obtain ⟨a, p1, s1, e1, hp1, _⟩ := among_ok hc s [11, 11, 21, 61] h0 (by omega) (by decide)
      obtain ⟨b, p2, s2, e2, hp2, _⟩ := pick_ok hc s1 a (show 0 ≤ p1 by omega) (by omega)
      obtain ⟨x, p3, s3, e3, hp3, _⟩ := among_ok hc s2 [3, 9, 30] (show 0 ≤ p2 by omega) (by omega) (by decide)
      obtain ⟨y, p4, s4, e4, hp4, _⟩ := pick_ok hc s3 x (show 0 ≤ p3 by omega) (by omega)
      obtain ⟨r', p', s', h, hl, hp⟩ := ih (n - 1) (r ++ [⟨b, wrap64 (1 + y)⟩]) p4 s4 (by omega) (by rw [List.length_append, List.length_singleton]; omega) (by omega) (by omega)
      refine ⟨r', p', s', Ev.step (fun k => by rw [spec_l1Cur_someRow.l0]) ?_, hl, by omega⟩
      simp only [if_pos (show n > 0 by omega), e1, e2, e3, e4, Option.bind_some, if_pos (show r.length < 8796093022208 by omega), w64 (show -9223372036854775808 ≤ n - 1 by omega) (by omega)]
      exact h
theorem row_ok {c : List Int} (hc : Code8 c) (p s : Int) (h0 : 0 ≤ p) (h1 : p ≤ 4611686018427370000) : ∃ r' p' s', Ev (fun k => spec_l1Cur_row.f k c p s) (r', p', s') ∧ r'.length ≤ 13 ∧ (p ≤ p' ∧ p' ≤ p + 200) := by
  obtain ⟨n, p1, s1, e1, hp1, _⟩ := among_ok hc s [3, 2, 4, 1, 0, 6, 12] h0 (by omega) (by decide)
  obtain ⟨r', p', s', h, hl, hp⟩ := someRow_ok hc 12 (min n 12) [] p1 s1 (by omega) (by decide) (by omega) (by omega)
  refine ⟨r', p', s', ?_, hl, by omega⟩
  unfold spec_l1Cur_row.f spec_l1Cur_someRow.f
  simp only [e1, l1Least_eq, Option.bind_some]
  exact Ev.bind h (Ev.now _)

theorem w_add (x y : Int) : wrap64 (wrap64 x + wrap64 y) = wrap64 (x + y) := by unfold wrap64; omega
theorem w_mul (x y : Int) : wrap64 (wrap64 x * y) = wrap64 (x * y) := by
  obtain ⟨k, hk⟩ : ∃ k : Int, wrap64 x = x + 18446744073709551616 * k := ⟨-((x + 9223372036854775808) / 18446744073709551616), by unfold wrap64; omega⟩
  rw [hk, Int.add_mul, Int.mul_assoc]
  generalize k * y = z
  generalize x * y = t
  unfold wrap64
  omega
/-- What a fraction in lowest terms is. -/
theorem cut_facts {a b : Int} (h1 : -4611686018427387904 ≤ a) (h2 : a ≤ 4611686018427387904) (hb : 0 < b) (hb2 : b ≤ 4611686018427387904) :
    ∃ g : Int, 0 < g ∧ (cutR a b).1 * g = a ∧ (cutR a b).2 * g = b ∧ 1 ≤ (cutR a b).2 ∧ ((cutR a b).2 = 1 ↔ b ∣ a) := by
  have hg : gcdW a b = Nat.gcd a.natAbs b.toNat := by unfold gcdW; rw [mx_abs h1 h2, Int.toNat_natCast]
  have hpos : 0 < Nat.gcd a.natAbs b.toNat := Nat.gcd_pos_of_pos_right _ (by omega)
  have da : ((Nat.gcd a.natAbs b.toNat : Nat) : Int) ∣ a := Int.ofNat_dvd_left.2 (Nat.gcd_dvd_left _ _)
  have db : ((Nat.gcd a.natAbs b.toNat : Nat) : Int) ∣ b := by
    have : ((Nat.gcd a.natAbs b.toNat : Nat) : Int) ∣ ((b.toNat : Nat) : Int) := Int.natCast_dvd_natCast.2 (Nat.gcd_dvd_right _ _)
    rwa [Int.toNat_of_nonneg (by omega)] at this
  obtain ⟨x, hx⟩ := da
  obtain ⟨y, hy⟩ := db
  have dvd : b ∣ a → Nat.gcd a.natAbs b.toNat = b.toNat := fun h => by
    rw [Nat.gcd_comm]
    refine Nat.gcd_eq_left ?_
    have := Int.natAbs_dvd_natAbs.2 h
    rwa [show b.natAbs = b.toNat by omega] at this
  unfold cutR
  rw [hg]
  generalize Nat.gcd a.natAbs b.toNat = g at hpos hx hy dvd
  have hg0 : (g : Int) ≠ 0 := by omega
  have ex : Int.tdiv a g = x := by rw [hx]; exact Int.mul_tdiv_cancel_left _ hg0
  have ey : Int.tdiv b g = y := by rw [hy]; exact Int.mul_tdiv_cancel_left _ hg0
  have hg1 : (1 : Int) ≤ g := by omega
  have bx : -4611686018427387904 ≤ x ∧ x ≤ 4611686018427387904 := by
    by_cases h : 0 ≤ x
    · have := Int.mul_le_mul_of_nonneg_right hg1 h; omega
    · have := Int.mul_le_mul_of_nonneg_right hg1 (show 0 ≤ -x by omega)
      rw [Int.mul_neg, Int.mul_neg] at this; omega
  have y0 : 1 ≤ y := by
    by_cases h : 1 ≤ y
    · exact h
    · have := Int.mul_le_mul_of_nonneg_left (show y ≤ 0 by omega) (show 0 ≤ (g : Int) by omega); omega
  have by1 : y ≤ 4611686018427387904 := by have := Int.mul_le_mul_of_nonneg_right hg1 (show 0 ≤ y by omega); omega
  refine ⟨g, by omega, ?_, ?_, ?_, ?_⟩ <;> simp only [ex, ey, w64 (show -9223372036854775808 ≤ x by omega) (by omega), w64 (show -9223372036854775808 ≤ y by omega) (by omega)]
  · rw [Int.mul_comm]; exact hx.symm
  · rw [Int.mul_comm]; exact hy.symm
  · exact y0
  · constructor
    · intro e; rw [e, Int.mul_one] at hy; rw [hy]; exact ⟨x, hx⟩
    · intro h
      have := dvd h
      have e : (g : Int) = b := by omega
      rw [e] at hy
      have : b * y = b * 1 := by omega
      exact Int.eq_of_mul_eq_mul_left (by omega) this
theorem mom_at (p : Int) : ∀ l : List (S33), mom p l = mom 0 l - p * wt l
  | [] => by simp [mom, wt]
  | x :: l => by
    simp only [mom, wt]
    rw [mom_at p l, Int.mul_sub, Int.mul_sub, Int.mul_add, Int.mul_comm p x.f1]
    omega
theorem mom0_le : ∀ l : List (S33), okL l → mom 0 l ≤ 60 * wt l
  | [], _ => by simp [mom, wt]
  | x :: l, h => by
    have h' := okL_cons h
    have ih := mom0_le l h'.2
    have := Int.mul_le_mul_of_nonneg_left h'.1.1.2 (show 0 ≤ x.f1 by omega)
    simp only [mom, wt, Int.sub_zero, Int.mul_add]
    omega
theorem mom_mirror (q : Int) : ∀ l : List (S33), okL l → mom (60 - q) (byW (fun p => wrap64 (60 - p)) l) = -(mom q l)
  | [], _ => by simp [mom, byW]
  | x :: l, h => by
    have h' := okL_cons h
    have ih := mom_mirror q l h'.2
    unfold byW at ih ⊢
    simp only [List.map_cons, mom]
    rw [ih, w64 (show -9223372036854775808 ≤ 60 - x.f0 by omega) (by omega), show 60 - x.f0 - (60 - q) = -(x.f0 - q) by omega, Int.mul_neg]
    omega
theorem placesByR_ok {l : List (S33)} (h : rowB l = true) : placesByR (fun p => wrap64 (60 - p)) l = (byW (fun p => wrap64 (60 - p)) l, true) := by
  unfold placesByR keptR
  rw [if_pos h, if_pos (mirror_valid h).2]
theorem placesByR_two (l : List (S33)) : (placesByR (fun p => wrap64 (60 - p)) l).2 = rowB l := by
  by_cases h : rowB l = true
  · rw [placesByR_ok h, h]
  · unfold placesByR
    rw [if_neg h, Bool.eq_false_iff.2 h]
/-- The mirrored row tips to the other side. -/
theorem side_mirror {l : List (S33)} {a b : Int} (h : rowB l = true) (hb : baseB a b = true) : TipSideR (byW (fun p => wrap64 (60 - p)) l) (wrap64 (60 - b)) (wrap64 (60 - a)) = (wrap64 (-(sideW l a b)), true) := by
  have hbb := (baseB_iff a b).1 hb
  have ok := okL_of h
  have hl := ((rowB_iff l).1 h).1
  have hm := mirror_valid h
  have hml : (byW (fun p => wrap64 (60 - p)) l).length ≤ 13 := by unfold byW; rw [List.length_map]; omega
  rw [w64 (show -9223372036854775808 ≤ 60 - b by omega) (by omega), w64 (show -9223372036854775808 ≤ 60 - a by omega) (by omega)]
  unfold TipSideR
  rw [if_pos (by rw [hm.2, Bool.true_and]; exact (baseB_iff _ _).2 ⟨by omega, by omega, by omega⟩)]
  have e : sideW (byW (fun p => wrap64 (60 - p)) l) (60 - b) (60 - a) = -(sideW l a b) := by
    unfold sideW
    rw [momW_eq (okL_of hm.2) hml (by omega), momW_eq (okL_of hm.2) hml (by omega), mom_mirror b l ok, mom_mirror a l ok, momW_eq ok (by omega) hbb.1, momW_eq ok (by omega) hbb.2.1]
    have e1 := mom_at a l
    have e2 := mom_at b l
    have w0 := (wt_bounds l ok).1
    have e3 := Int.mul_le_mul_of_nonneg_right hbb.2.2 (show 0 ≤ wt l by omega)
    split
    · rw [if_neg (by omega), if_pos (by omega)]
    · split
      · rw [if_pos (by omega)]; rfl
      · rw [if_neg (by omega), if_neg (by omega)]; rfl
  rw [e]
  have : -1 ≤ sideW l a b ∧ sideW l a b ≤ 1 := by unfold sideW; split <;> (try split) <;> omega
  rw [w64 (by omega) (by omega)]
theorem tail_ev {l : List (S33)} {a b : Int} {g : Nat → Option Bool}
    (hg : ∀ k, g (k + 1) = if (TipSideR l a b).2 = true then ((impl_TipSide.f k (placesByR (fun p => wrap64 (60 - p)) l).1 (wrap64 (60 - b)) (wrap64 (60 - a))).bind fun bt => (if bt.2 = true then (some (bt.1 == (wrap64 (-(TipSideR l a b).1)))) else (some false))) else (some true)) : Ev g true := by
  refine Ev.step hg ?_
  by_cases h : (TipSideR l a b).2 = true
  · simp only [if_pos h]
    have hh : (rowB l && baseB a b) = true := by
      unfold TipSideR at h
      split at h
      · assumption
      · cases h
    have h' := Bool.and_eq_true_iff.1 hh
    refine Ev.bind (implTipSide_ev _ _ _ (by have := placesByR_len (c := fun p => wrap64 (60 - p)) (l := l); omega)) ?_
    rw [placesByR_ok h'.1]
    simp only [side_mirror h'.1 h'.2, if_true]
    refine Ev.some ?_
    unfold TipSideR
    rw [if_pos hh]
    simp
  · simp only [if_neg h]
    exact Ev.now _
theorem rRow_self (l : List (S33)) (hl : l.length ≤ 1000) : Ev (fun k => laws_rRow.f k l l) true := by
  unfold laws_rRow.f
  simp only [if_true]
  have key : ∀ (d : Nat) (i : Int), 0 ≤ i → (l.length : Int) - i = d → Ev (fun k => laws_rRow.l0 k l l i) true := by
    intro d
    induction d with
    | zero =>
      intro i h0 h
      refine Ev.step (fun k => by rw [laws_rRow.l0]) ?_
      simp only [if_neg (show ¬ i < (l.length : Int) by omega)]
      exact Ev.now _
    | succ d ih =>
      intro i h0 h
      refine Ev.step (fun k => by rw [laws_rRow.l0]) ?_
      simp only [if_pos (show i < (l.length : Int) by omega), if_pos h0, beq_self_eq_true, Bool.not_true, Bool.or_self, Bool.false_eq_true, if_false, w64 (show -9223372036854775808 ≤ i + 1 by omega) (by omega)]
      exact ih (i + 1) (by omega) (by omega)
  exact key l.length 0 (by omega) (by omega)
theorem rBig_eq (c : List Int) : laws_rBig.f c = some (decide ((c.length : Int) > 65536)) := rfl
/-- The two reactions bear the row, and are none below 0 exactly if it stands. -/
theorem react_law {l : List (S33)} {a b : Int} (h : (rowB l && baseB a b) = true) (hab : a ≠ b) :
    1 ≤ (cutR (-(mom b l)) (b - a)).2 ∧ 1 ≤ (cutR (mom a l) (b - a)).2 ∧ ((0 ≤ (cutR (-(mom b l)) (b - a)).1 ∧ 0 ≤ (cutR (mom a l) (b - a)).1) ↔ sideW l a b = 0) ∧
    (cutR (-(mom b l)) (b - a)).1 * (cutR (mom a l) (b - a)).2 + (cutR (mom a l) (b - a)).1 * (cutR (-(mom b l)) (b - a)).2 = wt l * (cutR (-(mom b l)) (b - a)).2 * (cutR (mom a l) (b - a)).2 := by
  have hf := react_facts h hab
  have h' := Bool.and_eq_true_iff.1 h
  have hbb := (baseB_iff a b).1 h'.2
  have hl := ((rowB_iff l).1 h'.1).1
  obtain ⟨g, g0, e1, e2, e3, _⟩ := cut_facts (a := -(mom b l)) (b := b - a) (by omega) (by omega) hf.2.2.2.2.2.2.1 (by omega)
  obtain ⟨q, q0, f1, f2, f3, _⟩ := cut_facts (a := mom a l) (b := b - a) (by omega) (by omega) hf.2.2.2.2.2.2.1 (by omega)
  have sum : -(mom b l) + mom a l = wt l * (b - a) := by rw [mom_at a l, mom_at b l, Int.mul_sub, Int.mul_comm (wt l) b, Int.mul_comm (wt l) a]; omega
  rw [sideW_zero (okL_of h'.1) (by omega) hbb.1 hbb.2.1]
  generalize (cutR (-(mom b l)) (b - a)).1 = x1 at *
  generalize (cutR (-(mom b l)) (b - a)).2 = y1 at *
  generalize (cutR (mom a l) (b - a)).1 = x2 at *
  generalize (cutR (mom a l) (b - a)).2 = y2 at *
  have sgn : ∀ {x z : Int}, 0 < z → (0 ≤ x ↔ 0 ≤ x * z) := fun {x z} hz => ⟨fun h => Int.mul_nonneg h (by omega), fun h => by
    by_cases hx : 0 ≤ x
    · exact hx
    · have := Int.mul_lt_mul_of_pos_right (show x < 0 by omega) hz; omega⟩
  refine ⟨e3, f3, ?_, ?_⟩
  · rw [sgn g0 (x := x1), sgn q0 (x := x2), e1, f1]; constructor <;> (intro ⟨_, _⟩; constructor <;> omega)
  · have D0 : b - a ≠ 0 := by omega
    refine Int.eq_of_mul_eq_mul_right (a := b - a) D0 ?_
    have p1 : x1 * y2 * (b - a) = -(mom b l) * (y1 * y2) := by
      rw [← e2, ← e1]; simp only [Int.mul_comm, Int.mul_left_comm]
    have p2 : x2 * y1 * (b - a) = mom a l * (y1 * y2) := by
      rw [← f2, ← f1]; simp only [Int.mul_comm, Int.mul_left_comm]
    rw [Int.add_mul, p1, p2, ← Int.add_mul, sum, Int.mul_assoc (wt l) y1 y2, Int.mul_assoc, Int.mul_assoc, Int.mul_comm (b - a) (y1 * y2)]
/-- The narrow base holds the centre. -/
theorem narrow_law {l : List (S33)} (h : rowB l = true) (hn : l ≠ []) :
    TipSideR l (mom 0 l / wt l) ((mom 0 l + wt l - 1) / wt l) = (0, true) ∧ ((mom 0 l + wt l - 1) / wt l) - mom 0 l / wt l ≤ 1 ∧ 0 ≤ ((mom 0 l + wt l - 1) / wt l) - mom 0 l / wt l ∧
    ((cutR (mom 0 l) (wt l)).2 == 1) = (mom 0 l / wt l == (mom 0 l + wt l - 1) / wt l) ∧ ((cutR (mom 0 l) (wt l)).2 = 1 → MomentAboutR l (cutR (mom 0 l) (wt l)).1 = (0, true)) := by
  have hf := narrow_facts h hn
  have ok := okL_of h
  have hl := ((rowB_iff l).1 h).1
  have hm60 := mom0_le l ok
  have w1 := hf.2.2.1
  have hc := ceil_eq (m := mom 0 l) (w := wt l) (by omega)
  obtain ⟨g, g0, e1, e2, e3, e4⟩ := cut_facts (a := mom 0 l) (b := wt l) (by omega) (by omega) (by omega) (by omega)
  have hd := Int.mul_ediv_add_emod (mom 0 l) (wt l)
  have hr0 := Int.emod_nonneg (mom 0 l) (show wt l ≠ 0 by omega)
  have hr1 := Int.emod_lt_of_pos (mom 0 l) (show 0 < wt l by omega)
  have q60 : mom 0 l / wt l ≤ 60 := by
    have := Int.ediv_le_ediv (show 0 < wt l by omega) hm60
    rwa [Int.mul_ediv_cancel _ (by omega)] at this
  have c60 : (mom 0 l + wt l - 1) / wt l ≤ 60 := by
    have h2 : mom 0 l + wt l - 1 ≤ 60 * wt l + (wt l - 1) := by omega
    have := Int.ediv_le_ediv (show 0 < wt l by omega) h2
    rwa [show 60 * wt l + (wt l - 1) = (wt l - 1) + wt l * 60 by omega, Int.add_mul_ediv_left _ _ (by omega), Int.ediv_eq_zero_of_lt (a := wt l - 1) (b := wt l) (by omega) (by omega), Int.zero_add] at this
  have comm : mom 0 l / wt l * wt l = wt l * (mom 0 l / wt l) := Int.mul_comm _ _
  have hb : baseB (mom 0 l / wt l) ((mom 0 l + wt l - 1) / wt l) = true := by
    refine (baseB_iff _ _).2 ⟨⟨by omega, q60⟩, ⟨?_, c60⟩, ?_⟩ <;> (rw [hc]; split <;> omega)
  have hbb := (baseB_iff _ _).1 hb
  have dv : wt l ∣ mom 0 l ↔ mom 0 l / wt l * wt l = mom 0 l := by
    constructor
    · exact Int.ediv_mul_cancel
    · intro e; exact ⟨mom 0 l / wt l, by omega⟩
  refine ⟨?_, ?_, ?_, ?_, ?_⟩
  · unfold TipSideR
    rw [if_pos (by rw [h, hb]; rfl)]
    rw [(sideW_zero ok (by omega) hbb.1 hbb.2.1).2]
    rw [mom_at (mom 0 l / wt l) l, mom_at ((mom 0 l + wt l - 1) / wt l) l, hc]
    refine ⟨by omega, ?_⟩
    split
    · omega
    · rw [Int.add_mul]; omega
  · rw [hc]; split <;> omega
  · rw [hc]; split <;> omega
  · rw [Bool.eq_iff_iff, beq_iff_eq, beq_iff_eq, e4, dv, hc]
    split
    · rename_i e; exact ⟨fun _ => rfl, fun _ => e⟩
    · rename_i e; exact ⟨fun x => absurd x e, fun x => by omega⟩
  · intro e
    rw [e, Int.one_mul] at e2
    rw [e2] at e1
    have c0 : 0 ≤ (cutR (mom 0 l) (wt l)).1 ∧ (cutR (mom 0 l) (wt l)).1 ≤ 60 := by
      constructor
      · by_cases hx : 0 ≤ (cutR (mom 0 l) (wt l)).1
        · exact hx
        · have := Int.mul_lt_mul_of_pos_right (show (cutR (mom 0 l) (wt l)).1 < 0 by omega) (show 0 < wt l by omega); omega
      · by_cases hx : (cutR (mom 0 l) (wt l)).1 ≤ 60
        · exact hx
        · have := Int.mul_lt_mul_of_pos_right (show 60 < (cutR (mom 0 l) (wt l)).1 by omega) (show 0 < wt l by omega); omega
    unfold MomentAboutR
    rw [if_pos ⟨h, c0⟩, momW_eq ok (by omega) c0, mom_at, e1]
    simp
theorem drawTip_ok {c : List Int} (hc : Code8 c) : ∃ r a b, Ev (fun k => spec_DrawTipSide.f k c) (r, a, b) ∧ r.length ≤ 13 := by
  obtain ⟨r, p1, s1, h, hl, hp⟩ := row_ok hc 0 0 (by omega) (by omega)
  obtain ⟨a, b, p2, s2, e2, hp2⟩ := base_ok hc s1 (show 0 ≤ p1 by omega) (by omega)
  refine ⟨r, a, b, ?_, hl⟩
  unfold spec_DrawTipSide.f
  refine Ev.bind h ?_
  simp only [e2, Option.bind_some]
  exact Ev.now _
theorem drawMoment_ok {c : List Int} (hc : Code8 c) : ∃ r p, Ev (fun k => spec_DrawMomentAbout.f k c) (r, p) ∧ r.length ≤ 13 := by
  obtain ⟨r, p1, s1, h, hl, hp⟩ := row_ok hc 0 0 (by omega) (by omega)
  obtain ⟨a, p2, s2, e2, hp2⟩ := placeIn_ok hc s1 (show 0 ≤ p1 by omega) (by omega)
  refine ⟨r, a, ?_, hl⟩
  unfold spec_DrawMomentAbout.f
  refine Ev.bind h ?_
  simp only [e2, Option.bind_some]
  exact Ev.now _
theorem centre_two (l : List (S33)) : (CentreOfR l).2.2 = (rowB l && decide ((l.length : Int) > 0)) := by
  unfold CentreOfR
  by_cases h : rowB l = true ∧ l ≠ []
  · rw [if_pos h, h.1, decide_eq_true (show (l.length : Int) > 0 by have := List.length_pos_iff.2 h.2; omega)]
    rfl
  · rw [if_neg h]
    by_cases h1 : rowB l = true
    · have : l = [] := by
        by_cases e : l = []
        · exact e
        · exact absurd ⟨h1, e⟩ h
      rw [this]; simp
    · rw [Bool.eq_false_iff.2 h1]; rfl
theorem narrow_two (l : List (S33)) : (NarrowBaseR l).2.2 = (CentreOfR l).2.2 := by
  unfold NarrowBaseR CentreOfR
  split <;> rfl
theorem FnCentres : laws_FnCentres.Pure := by
  intro c hc1 hc2 hc3
  have hc := code8 hc2 hc3
  refine Ev.rounds ?_
  unfold laws_FnCentres.f
  simp only [rBig_eq, Option.bind_some]
  by_cases hbig : (c.length : Int) > 65536
  · simp only [hbig, decide_true, if_true]; exact Ev.now _
  simp only [hbig, decide_false, Bool.false_eq_true, if_false]
  obtain ⟨l, a, b, hdraw, hr⟩ := drawTip_ok hc
  obtain ⟨m, p, hdraw2, hm⟩ := drawMoment_ok hc
  refine Ev.bind hdraw (Ev.bind (implTipSide_ev l a b (by omega)) (Ev.bind (specTipSide_ev l a b (by omega)) ?_))
  simp only [if_true, bne_self_eq_false]
  refine Ev.step (fun k => by rw [laws_FnCentres.j0]) ?_
  simp only [Bool.false_eq_true, if_false]
  refine Ev.bind (implReactionsOf_ev l a b (by omega)) (Ev.bind (specReactionsOf_ev l a b (by omega)) ?_)
  simp only [if_true, bne_self_eq_false]
  refine Ev.step (fun k => by rw [laws_FnCentres.j1]) ?_
  simp only [Bool.false_eq_true, if_false]
  have hw2 : (WeightOfR l).2 = rowB l := by
    unfold WeightOfR
    by_cases h : rowB l = true
    · rw [if_pos h, h]
    · rw [if_neg h, Bool.eq_false_iff.2 h]
  refine Ev.bind (implWeightOf_ev l (by omega)) (Ev.bind (specWeightOf_ev l (by omega)) ?_)
  simp only [if_true, bne_self_eq_false, Bool.false_eq_true, if_false, implIsRow_eq, Option.bind_some, hw2]
  refine Ev.step (fun k => by rw [laws_FnCentres.j2]) ?_
  simp only [Bool.false_eq_true, if_false]
  refine Ev.bind (implCentreOf_ev l (by omega)) (Ev.bind (specCentreOf_ev l (by omega)) ?_)
  simp only [if_true, bne_self_eq_false, Bool.false_eq_true, if_false]
  have three : Ev (fun k => laws_FnCentres.j3 k c l a b (TipSideR l a b).1 (TipSideR l a b).2 (ReactionsOfR l a b).2.2.2.2 (WeightOfR l).1 (rowB l) (CentreOfR l).2.2 false (ReactionsOfR l a b).1 (ReactionsOfR l a b).2.1 (ReactionsOfR l a b).2.2.1 (ReactionsOfR l a b).2.2.2.1 (CentreOfR l).1 (CentreOfR l).2.1) true := by
    refine Ev.step (fun k => by rw [laws_FnCentres.j3]) ?_
    simp only [Bool.false_eq_true, if_false]
    refine Ev.bind (implMirrorRow_ev l) (Ev.bind (specMirrorRow_ev l) ?_)
    simp only [bne_self_eq_false, Bool.false_eq_true, if_false, placesByR_two]
    refine Ev.bind (rRow_self _ (by have := placesByR_len (c := fun p => wrap64 (60 - p)) (l := l); omega)) ?_
    simp only [Bool.not_true]
    refine Ev.step (fun k => by rw [laws_FnCentres.j4]) ?_
    simp only [Bool.false_eq_true, if_false]
    refine Ev.bind hdraw2 (Ev.bind (implMomentAbout_ev m p (by omega)) (Ev.bind (specMomentAbout_ev m p (by omega)) ?_))
    simp only [if_true, bne_self_eq_false]
    refine Ev.step (fun k => by rw [laws_FnCentres.j5]) ?_
    simp only [Bool.false_eq_true, if_false]
    refine Ev.bind (implNarrowBase_ev l (by omega)) (Ev.bind (specNarrowBase_ev l (by omega)) ?_)
    simp only [if_true, bne_self_eq_false, Bool.false_eq_true, if_false, narrow_two]
    -- the last ones
    have nine : Ev (fun k => laws_FnCentres.j9 k a b (TipSideR l a b).1 (TipSideR l a b).2 (placesByR (fun p => wrap64 (60 - p)) l).1 false) true :=
      tail_ev (l := l) (a := a) (b := b) (fun k => by rw [laws_FnCentres.j9]; simp only [Bool.false_eq_true, if_false])
    have seven : Ev (fun k => laws_FnCentres.j7 k l a b (TipSideR l a b).1 (TipSideR l a b).2 (CentreOfR l).2.2 (placesByR (fun p => wrap64 (60 - p)) l).1 (NarrowBaseR l).1 (NarrowBaseR l).2.1 false (CentreOfR l).1 (CentreOfR l).2.1) true := by
      by_cases h3 : rowB l = true ∧ l ≠ []
      · refine Ev.step (fun k => by rw [laws_FnCentres.j7]) ?_
        have hn := narrow_law h3.1 h3.2
        have hC : CentreOfR l = ((cutR (mom 0 l) (wt l)).1, (cutR (mom 0 l) (wt l)).2, true) := by unfold CentreOfR; rw [if_pos h3]
        have hN : NarrowBaseR l = (mom 0 l / wt l, (mom 0 l + wt l - 1) / wt l, true) := by unfold NarrowBaseR; rw [if_pos h3]
        simp only [Bool.false_eq_true, if_false, hC, hN, if_true]
        refine Ev.bind (implTipSide_ev l _ _ (by omega)) ?_
        rw [hn.1]
        simp only [if_true, w64 (show -9223372036854775808 ≤ (mom 0 l + wt l - 1) / wt l - mom 0 l / wt l by omega) (by omega), if_neg (show ¬ (mom 0 l + wt l - 1) / wt l - mom 0 l / wt l > 1 by omega), hn.2.2.2.1, bne_self_eq_false]
        by_cases h1 : (cutR (mom 0 l) (wt l)).2 = 1
        · refine Ev.step (fun k => by rw [laws_FnCentres.j8]) ?_
          simp only [Bool.false_eq_true, if_false, if_pos h1]
          refine Ev.bind (implMomentAbout_ev l _ (by omega)) ?_
          rw [hn.2.2.2.2 h1]
          simp only [if_true, bne_self_eq_false]
          exact nine
        · refine tail_ev (l := l) (a := a) (b := b) (fun k => by rw [laws_FnCentres.j8]; simp only [Bool.false_eq_true, if_false, if_neg h1])
      · have hC : (CentreOfR l).2.2 = false := by unfold CentreOfR; rw [if_neg h3]
        refine tail_ev (l := l) (a := a) (b := b) (fun k => by rw [laws_FnCentres.j7]; simp only [Bool.false_eq_true, if_false, hC])
    refine Ev.step (fun k => by rw [laws_FnCentres.j6]) ?_
    simp only [Bool.false_eq_true, if_false]
    by_cases h2 : (rowB l && baseB a b) = true ∧ a ≠ b
    · have hR : ReactionsOfR l a b = ((cutR (-(mom b l)) (b - a)).1, (cutR (-(mom b l)) (b - a)).2, (cutR (mom a l) (b - a)).1, (cutR (mom a l) (b - a)).2, true) := by unfold ReactionsOfR; rw [if_pos h2]
      have hT : (TipSideR l a b).1 = sideW l a b := by unfold TipSideR; rw [if_pos h2.1]
      have hrow := (Bool.and_eq_true_iff.1 h2.1).1
      have hW : (WeightOfR l).1 = wt l := by unfold WeightOfR; rw [if_pos hrow]; exact wtW_eq (okL_of hrow) (by omega)
      obtain ⟨r1, r2, r3, r4⟩ := react_law h2.1 h2.2
      have r5 : (wrap64 (wrap64 ((cutR (-(mom b l)) (b - a)).1 * (cutR (mom a l) (b - a)).2) + wrap64 ((cutR (mom a l) (b - a)).1 * (cutR (-(mom b l)) (b - a)).2)) != wrap64 (wrap64 (wt l * (cutR (-(mom b l)) (b - a)).2) * (cutR (mom a l) (b - a)).2)) = false := by
        rw [w_add, w_mul, r4, bne_self_eq_false]
      simp only [hR, if_true, hT] at seven ⊢
      simp only [if_neg (show ¬ (cutR (-(mom b l)) (b - a)).2 < 1 by omega), if_neg (show ¬ (cutR (mom a l) (b - a)).2 < 1 by omega), hW, r5]
      by_cases hx : (cutR (-(mom b l)) (b - a)).1 ≥ 0
      · have : (decide ((cutR (mom a l) (b - a)).1 ≥ 0) != (sideW l a b == 0)) = false := by
          by_cases hy : (cutR (mom a l) (b - a)).1 ≥ 0
          · rw [decide_eq_true hy, r3.1 ⟨hx, hy⟩]; rfl
          · rw [decide_eq_false hy, beq_eq_false_iff_ne.2 (fun e => hy (r3.2 e).2)]; rfl
        simp only [if_pos hx, this, Bool.false_eq_true, if_false]
        exact seven
      · have : (false != (sideW l a b == 0)) = false := by
          rw [beq_eq_false_iff_ne.2 (fun e => hx (r3.2 e).1)]; rfl
        simp only [if_neg hx, this, Bool.false_eq_true, if_false]
        exact seven
    · have hR : (ReactionsOfR l a b).2.2.2.2 = false := by unfold ReactionsOfR; rw [if_neg h2]
      simp only [hR, Bool.false_eq_true, if_false]
      exact seven
  have h2 := centre_two l
  by_cases hrow : rowB l = true
  · rw [hrow, Bool.true_and] at h2
    simp only [hrow, if_true]
    rw [hrow] at three
    have : ((CentreOfR l).2.2 != decide ((l.length : Int) > 0)) = false := by rw [h2, bne_self_eq_false]
    simp only [this]
    exact three
  · rw [Bool.eq_false_iff.2 hrow, Bool.false_and] at h2
    rw [Bool.eq_false_iff.2 hrow] at three
    simp only [Bool.eq_false_iff.2 hrow, Bool.false_eq_true, if_false]
    have : ((CentreOfR l).2.2 != false) = false := by rw [h2]; rfl
    simp only [this]
    exact three


end Go.Proofs.Ytfjcnpoigndfjaa.Pure

