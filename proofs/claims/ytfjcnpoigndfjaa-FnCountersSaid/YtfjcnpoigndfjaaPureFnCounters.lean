/- For every code the plain function of the law FnCounters answers true. -/
import Derived.Test.YtfjcnpoigndfjaaPFnCountersx7
import Derived.Test.YtfjcnpoigndfjaaLib
set_option linter.unusedVariables false
set_option linter.unusedSimpArgs false
namespace Go.Proofs.Ytfjcnpoigndfjaa.Pure
open Go.RowKit Go.Proofs.Ytfjcnpoigndfjaa.PFnCounters Go.Proofs.YtfjcnpoigndfjaaW.PrintWords Go.Proofs.YtfjcnpoigndfjaaW.PrintLast Go.Proofs.Ytfjcnpoigndfjaa.Lib

theorem l1In_eq (a b c : Int) : spec_l1In.f a b c = some (decide (b ≤ a ∧ a ≤ c)) := by
  unfold spec_l1In.f
  by_cases h : a ≥ b
  · rw [if_pos h]
    congr 1
    simp only [decide_eq_decide]
    omega
  · rw [if_neg h]
    congr 1
    simp only [Bool.false_eq, decide_eq_false_iff_not]
    omega

theorem within_eq (a b c : Int) : impl_within.f a b c = some (decide (b ≤ a ∧ a ≤ c)) := by
  unfold impl_within.f
  by_cases h : a ≥ b
  · rw [if_pos h]
    congr 1
    simp only [decide_eq_decide]
    omega
  · rw [if_neg h]
    congr 1
    simp only [Bool.false_eq, decide_eq_false_iff_not]
    omega

theorem isWeight_eq (a : Int) : impl_isWeight.f a = some (decide (1 ≤ a ∧ a ≤ 99)) := by
  unfold impl_isWeight.f
  simp only [within_eq, Option.bind_some]

/-- Loads that are a row. -/
def rowB (l : List (S33)) : Bool := decide (l.length ≤ 12) && l.all rowItem
theorem rowItem_iff (x : S33) : rowItem x = true ↔ (0 ≤ x.f0 ∧ x.f0 ≤ 60) ∧ (1 ≤ x.f1 ∧ x.f1 ≤ 99) := by
  unfold rowItem; simp
theorem rowB_iff (l : List (S33)) : rowB l = true ↔ l.length ≤ 12 ∧ ∀ x ∈ l, (0 ≤ x.f0 ∧ x.f0 ≤ 60) ∧ (1 ≤ x.f1 ∧ x.f1 ≤ 99) := by
  unfold rowB
  rw [Bool.and_eq_true, decide_eq_true_eq, List.all_eq_true]
  simp only [rowItem_iff]
theorem implIsRow_eq (l : List (S33)) : impl_IsRow.f l = some (rowB l) := rfl

theorem l2In_eq (a : Int) : spec_l2In.f a = some (decide (0 ≤ a ∧ a ≤ 60)) := by
  unfold spec_l2In.f
  simp only [l1In_eq, Option.bind_some]
theorem rdL_mem {l : List (S33)} {i : Int} (h0 : 0 ≤ i) (h1 : i < l.length) : rd_T33 l i ∈ l := by
  unfold rd_T33
  rw [getD_lt _ (by omega)]
  exact List.getElem_mem _
theorem all_rd {l : List (S33)} {p : S33 → Bool} : l.all p = true ↔ ∀ i : Int, 0 ≤ i → i < l.length → p (rd_T33 l i) = true := by
  rw [List.all_eq_true]
  refine ⟨fun h i h0 h1 => h _ (rdL_mem h0 h1), fun h x hx => ?_⟩
  obtain ⟨j, hj, rfl⟩ := List.getElem_of_mem hx
  have := h j (by omega) (by omega)
  unfold rd_T33 at this
  rwa [Int.toNat_natCast, getD_lt _ hj] at this
theorem l2Row_ev (l : List (S33)) : Ev (fun k => spec_l2Row.f k l) (rowB l) := by
  unfold spec_l2Row.f
  -- the loop goes over at most 13 loads
  have yes : ∀ i : Int, 0 ≤ i → i < (l.length : Int) → i ≤ 12 → rowItem (rd_T33 l i) = true → ∀ r, Ev (fun k => spec_l2Row.l0 k l (i + 1)) r → Ev (fun k => spec_l2Row.l0 k l i) r := by
    intro i h0 h1 h2 hp r h
    rw [rowItem_iff] at hp
    refine Ev.step (fun k => by rw [spec_l2Row.l0]) ?_
    simp only [if_pos h1, decide_eq_true h2]
    refine Ev.step (fun k => by rw [spec_l2Row.j1]) ?_
    simp only [if_true, if_pos h0, if_pos h1, l2In_eq, l1In_eq, Option.bind_some, decide_eq_true_eq, if_pos hp.1, if_pos hp.2, w64 (show -9223372036854775808 ≤ i + 1 by omega) (by omega)]
    exact h
  have no : ∀ i : Int, 0 ≤ i → i < (l.length : Int) → i ≤ 12 → ¬ rowItem (rd_T33 l i) = true → Ev (fun k => spec_l2Row.l0 k l i) false := by
    intro i h0 h1 h2 hp
    rw [rowItem_iff] at hp
    refine Ev.step (fun k => by rw [spec_l2Row.l0]) ?_
    simp only [if_pos h1, decide_eq_true h2]
    refine Ev.step (fun k => by rw [spec_l2Row.j1]) ?_
    simp only [if_true, if_pos h0, if_pos h1, l2In_eq, l1In_eq, Option.bind_some, decide_eq_true_eq]
    by_cases hq : 0 ≤ (rd_T33 l i).f0 ∧ (rd_T33 l i).f0 ≤ 60
    · simp only [if_pos hq, if_neg (show ¬ (1 ≤ (rd_T33 l i).f1 ∧ (rd_T33 l i).f1 ≤ 99) from fun h => hp ⟨hq, h⟩)]
      exact Ev.now _
    · simp only [if_neg hq]
      exact Ev.now _
  have endd : ∀ i : Int, 0 ≤ i → (i = (l.length : Int) ∨ (i = 13 ∧ i ≤ l.length)) → Ev (fun k => spec_l2Row.l0 k l i) (decide (l.length ≤ 12)) := by
    intro i h0 h1
    refine Ev.step (fun k => by rw [spec_l2Row.l0]) ?_
    by_cases h2 : i < (l.length : Int)
    · simp only [if_pos h2, decide_eq_false (show ¬ i ≤ 12 by omega)]
      refine Ev.step (fun k => by rw [spec_l2Row.j1]) ?_
      simp only [Bool.false_eq_true, if_false]
      exact Ev.some (by simp only [decide_eq_decide]; omega)
    · simp only [if_neg h2]
      refine Ev.step (fun k => by rw [spec_l2Row.j1]) ?_
      simp only [Bool.false_eq_true, if_false]
      exact Ev.some (by simp only [decide_eq_decide]; omega)
  by_cases hl : l.length ≤ 12
  · have h := Ev.count' (l := fun k i => spec_l2Row.l0 k l i) (n := l.length) (P := fun i => rowItem (rd_T33 l i) = true) (a := decide (l.length ≤ 12)) (b := false) (by omega)
      (fun i h0 h1 hp r h => yes i h0 h1 (by omega) hp r h) (fun i h0 h1 hp => no i h0 h1 (by omega) hp) (fun i h0 h1 => endd i h0 (.inl h1))
    refine Ev.as h ?_
    unfold rowB
    split
    · rename_i hc
      rw [all_rd.2 hc, Bool.and_true]
    · rename_i hc
      rw [Bool.eq_false_iff.2 (fun h => hc (all_rd.1 h)), Bool.and_false]
  · have h := Ev.count' (l := fun k i => spec_l2Row.l0 k l i) (n := 13) (P := fun i => rowItem (rd_T33 l i) = true) (a := decide (l.length ≤ 12)) (b := false) (by omega)
      (fun i h0 h1 hp r h => yes i h0 (by omega) (by omega) hp r h) (fun i h0 h1 hp => no i h0 (by omega) (by omega) hp) (fun i h0 h1 => endd i h0 (.inr ⟨h1, by omega⟩))
    refine Ev.as h ?_
    unfold rowB
    rw [decide_eq_false hl, Bool.false_and]
    split <;> rfl

def wtStep (s : Int) (x : S33) : Int := wrap64 (s + x.f1)
def momStep (p : Int) (s : Int) (x : S33) : Int := wrap64 (s + wrap64 (x.f1 * wrap64 (x.f0 - p)))
/-- The weight, and the moment about p, as the machine sums them. -/
def wtW (l : List (S33)) : Int := l.foldl wtStep 0
def momW (l : List (S33)) (p : Int) : Int := l.foldl (momStep p) 0
theorem take_succ_rd (l : List (S33)) (i : Int) (h0 : 0 ≤ i) (h1 : i < l.length) : l.take (i + 1).toNat = l.take i.toNat ++ [rd_T33 l i] := by
  rw [toNat_succ h0, List.take_add_one, List.getElem?_eq_getElem (by omega)]
  unfold rd_T33
  rw [getD_lt _ (by omega)]
  rfl

theorem l2Moment_ev (l : List (S33)) (p : Int) (hl : l.length ≤ 9223372036854775806) : Ev (fun k => spec_l2Moment.f k l p) (momW l p) := by
  unfold spec_l2Moment.f
  have h := Ev.fold (l := fun k s i => spec_l2Moment.l0 k l p s i) (n := l.length) (fun i => (l.take i.toNat).foldl (momStep p) 0) (a := momW l p)
    (fun i h0 h1 r h => by
      refine Ev.step (fun k => by rw [spec_l2Moment.l0]) ?_
      simp only [if_pos h1, if_pos h0, w64 (show -9223372036854775808 ≤ i + 1 by omega) (by omega)]
      rw [take_succ_rd l i h0 h1, List.foldl_append] at h
      exact h)
    (by
      refine Ev.step (fun k => by rw [spec_l2Moment.l0]) ?_
      simp only [if_neg (show ¬ (l.length : Int) < l.length by omega)]
      exact Ev.some (by simp [momW]))
    l.length 0 (by omega) (by omega)
  simpa using h

theorem implMoment_ev (l : List (S33)) (p : Int) (hl : l.length ≤ 9223372036854775806) : Ev (fun k => impl_momentAbout.f k l p) (momW l p) := by
  unfold impl_momentAbout.f
  have h := Ev.fold (l := fun k s i => impl_momentAbout.l0 k p s l l.length i) (n := l.length) (fun i => (l.take i.toNat).foldl (momStep p) 0) (a := momW l p)
    (fun i h0 h1 r h => by
      refine Ev.step (fun k => by rw [impl_momentAbout.l0]) ?_
      simp only [if_pos h1, if_pos h0, w64 (show -9223372036854775808 ≤ i + 1 by omega) (by omega)]
      rw [take_succ_rd l i h0 h1, List.foldl_append] at h
      exact h)
    (by
      refine Ev.step (fun k => by rw [impl_momentAbout.l0]) ?_
      simp only [if_neg (show ¬ (l.length : Int) < l.length by omega)]
      exact Ev.some (by simp [momW]))
    l.length 0 (by omega) (by omega)
  simpa using h

theorem isPlace_eq (a : Int) : impl_isPlace.f a = some (decide (0 ≤ a ∧ a ≤ 60)) := by
  unfold impl_isPlace.f
  simp only [within_eq, Option.bind_some]
/-- Two places that are a base. -/
def baseB (a b : Int) : Bool := decide ((0 ≤ a ∧ a ≤ 60) ∧ (0 ≤ b ∧ b ≤ 60) ∧ a ≤ b)
theorem l2Base_eq (a b : Int) : spec_l2Base.f a b = some (baseB a b) := by
  unfold spec_l2Base.f baseB
  simp only [l2In_eq, Option.bind_some, decide_eq_true_eq]
  by_cases h1 : 0 ≤ a ∧ a ≤ 60 <;> by_cases h2 : 0 ≤ b ∧ b ≤ 60 <;> simp [h1, h2]
theorem isBase_eq (a b : Int) : impl_isBase.f a b = some (baseB a b) := by
  unfold impl_isBase.f baseB
  simp only [isPlace_eq, Option.bind_some, decide_eq_true_eq]
  by_cases h1 : 0 ≤ a ∧ a ≤ 60 <;> by_cases h2 : 0 ≤ b ∧ b ≤ 60 <;> simp [h1, h2]
theorem l2On_ev (l : List (S33)) (a b : Int) : Ev (fun k => spec_l2On.f k l a b) (rowB l && baseB a b) := by
  unfold spec_l2On.f
  refine Ev.bind (l2Row_ev l) ?_
  cases h : rowB l
  · simp only [Bool.false_eq_true, if_false, Bool.false_and]
    exact Ev.now _
  · simp only [if_true, Bool.true_and, l2Base_eq, Option.bind_some]
    exact Ev.now _

def sideW (l : List (S33)) (a b : Int) : Int := if momW l a < 0 then -1 else if momW l b > 0 then 1 else 0
theorem l2Side_ev (l : List (S33)) (a b : Int) (hl : l.length ≤ 9223372036854775806) : Ev (fun k => spec_l2Side.f k l a b) (sideW l a b) := by
  unfold spec_l2Side.f sideW
  refine Ev.bind (l2Moment_ev l a hl) ?_
  split
  · exact Ev.now _
  · refine Ev.bind (l2Moment_ev l b hl) ?_
    split <;> exact Ev.now _
theorem tipSide_ev (l : List (S33)) (a b : Int) (hl : l.length ≤ 9223372036854775806) : Ev (fun k => impl_tipSide.f k l a b) (sideW l a b) := by
  unfold impl_tipSide.f sideW
  refine Ev.bind (implMoment_ev l a hl) ?_
  split
  · exact Ev.now _
  · refine Ev.bind (implMoment_ev l b hl) ?_
    split <;> exact Ev.now _

theorem l2With_eq (l : List (S33)) (p w : Int) (hl : l.length ≤ 1000) : spec_l2With.f l p w = some (l ++ [⟨p, w⟩]) := by
  unfold spec_l2With.f
  simp only [Option.bind_some, List.length_nil, List.nil_append]
  rw [if_pos (by omega), if_pos (by omega)]
/-- Does the row stand with one more load? -/
def standB (l : List (S33)) (a b p w : Int) : Bool := sideW (l ++ [⟨p, w⟩]) a b == 0

theorem prod_bound {a d : Int} (h1 : 1 ≤ a) (h2 : a ≤ 99) (h3 : -60 ≤ d) (h4 : d ≤ 60) : -5940 ≤ a * d ∧ a * d ≤ 5940 := by
  by_cases h : 0 ≤ d
  · have e1 := Int.mul_le_mul_of_nonneg_right h2 h
    have e2 := Int.mul_nonneg (show 0 ≤ a by omega) h
    omega
  · have e1 := Int.mul_le_mul_of_nonneg_right h2 (show 0 ≤ -d by omega)
    have e2 := Int.mul_nonneg (show 0 ≤ a by omega) (show 0 ≤ -d by omega)
    rw [Int.mul_neg] at e1 e2
    omega
/-- The weight, and the moment about p. -/
def wt : List (S33) → Int
  | [] => 0
  | x :: l => x.f1 + wt l
def mom (p : Int) : List (S33) → Int
  | [] => 0
  | x :: l => x.f1 * (x.f0 - p) + mom p l
def okL (l : List (S33)) : Prop := ∀ x ∈ l, (0 ≤ x.f0 ∧ x.f0 ≤ 60) ∧ (1 ≤ x.f1 ∧ x.f1 ≤ 99)
theorem okL_cons {x : S33} {l : List (S33)} (h : okL (x :: l)) : ((0 ≤ x.f0 ∧ x.f0 ≤ 60) ∧ (1 ≤ x.f1 ∧ x.f1 ≤ 99)) ∧ okL l :=
  ⟨h x (List.mem_cons_self ..), fun y hy => h y (List.mem_cons_of_mem _ hy)⟩
theorem wt_bounds : ∀ l : List (S33), okL l → (l.length : Int) ≤ wt l ∧ wt l ≤ 99 * l.length
  | [], _ => by simp [wt]
  | x :: l, h => by
    have h' := okL_cons h
    have ih := wt_bounds l h'.2
    simp only [wt, List.length_cons]
    omega
theorem mom_bounds (p : Int) (hp : 0 ≤ p ∧ p ≤ 60) : ∀ l : List (S33), okL l → -(5940 * l.length) ≤ mom p l ∧ mom p l ≤ 5940 * l.length
  | [], _ => by simp [mom]
  | x :: l, h => by
    have h' := okL_cons h
    have ih := mom_bounds p hp l h'.2
    have hb := prod_bound (d := x.f0 - p) h'.1.2.1 h'.1.2.2 (by omega) (by omega)
    simp only [mom, List.length_cons]
    omega
theorem mom0_nonneg : ∀ l : List (S33), okL l → 0 ≤ mom 0 l
  | [], _ => by simp [mom]
  | x :: l, h => by
    have h' := okL_cons h
    have ih := mom0_nonneg l h'.2
    have hb := Int.mul_nonneg (show 0 ≤ x.f1 by omega) (show 0 ≤ x.f0 - 0 by omega)
    simp only [mom]
    omega
theorem foldl_wt : ∀ (l : List (S33)) (s : Int), okL l → 0 ≤ s → s + 99 * l.length ≤ 1000000 → l.foldl wtStep s = s + wt l
  | [], s, _, _, _ => by rw [List.foldl_nil, wt, Int.add_zero]
  | x :: l, s, h, h0, h1 => by
    have h' := okL_cons h
    simp only [List.length_cons] at h1
    rw [List.foldl_cons, wtStep, w64 (by omega) (by omega), foldl_wt l _ h'.2 (by omega) (by omega), wt]
    omega
theorem foldl_mom (p : Int) (hp : 0 ≤ p ∧ p ≤ 60) (l : List (S33)) : ∀ s : Int, okL l → -1000000 + 5940 * (l.length : Int) ≤ s → s + 5940 * (l.length : Int) ≤ 1000000 → l.foldl (momStep p) s = s + mom p l := by
  induction l with
  | nil => intro s _ _ _; rw [List.foldl_nil, mom, Int.add_zero]
  | cons x l ih =>
    intro s h h0 h1
    have h' := okL_cons h
    have hb := prod_bound (d := x.f0 - p) h'.1.2.1 h'.1.2.2 (by omega) (by omega)
    simp only [List.length_cons] at h0 h1
    have e1 : wrap64 (x.f0 - p) = x.f0 - p := w64 (by omega) (by omega)
    have e2 : wrap64 (x.f1 * (x.f0 - p)) = x.f1 * (x.f0 - p) := w64 (by omega) (by omega)
    have e3 : wrap64 (s + x.f1 * (x.f0 - p)) = s + x.f1 * (x.f0 - p) := w64 (by omega) (by omega)
    rw [List.foldl_cons, momStep, e1, e2, e3, ih _ h'.2 (by omega) (by omega), mom, Int.add_assoc]
theorem okL_of {l : List (S33)} (h : rowB l = true) : okL l := ((rowB_iff l).1 h).2
theorem wtW_eq {l : List (S33)} (h : okL l) (hl : l.length ≤ 13) : wtW l = wt l := by
  unfold wtW
  rw [foldl_wt l 0 h (by omega) (by omega), Int.zero_add]
theorem momW_eq {l : List (S33)} {p : Int} (h : okL l) (hl : l.length ≤ 13) (hp : 0 ≤ p ∧ p ≤ 60) : momW l p = mom p l := by
  unfold momW
  rw [foldl_mom p hp l 0 h (by omega) (by omega), Int.zero_add]

theorem mom_append (p : Int) : ∀ (l m : List (S33)), mom p (l ++ m) = mom p l + mom p m
  | [], m => by simp [mom]
  | x :: l, m => by
    rw [List.cons_append, mom, mom, mom_append p l m, Int.add_assoc]
theorem okL_append {l : List (S33)} {x : S33} (h : okL l) (hx : (0 ≤ x.f0 ∧ x.f0 ≤ 60) ∧ (1 ≤ x.f1 ∧ x.f1 ≤ 99)) : okL (l ++ [x]) := by
  intro y hy
  rcases List.mem_append.1 hy with h' | h'
  · exact h y h'
  · rw [List.mem_singleton.1 h']; exact hx
theorem sideW_zero {l : List (S33)} {a b : Int} (h : okL l) (hl : l.length ≤ 13) (ha : 0 ≤ a ∧ a ≤ 60) (hb : 0 ≤ b ∧ b ≤ 60) : sideW l a b = 0 ↔ 0 ≤ mom a l ∧ mom b l ≤ 0 := by
  unfold sideW
  rw [momW_eq h hl ha, momW_eq h hl hb]
  split
  · constructor <;> omega
  · split
    · constructor <;> omega
    · constructor <;> omega
theorem standB_iff {l : List (S33)} {a b p w : Int} (h : okL l) (hl : l.length ≤ 12) (ha : 0 ≤ a ∧ a ≤ 60) (hb : 0 ≤ b ∧ b ≤ 60) (hp : 0 ≤ p ∧ p ≤ 60) (hw : 1 ≤ w ∧ w ≤ 99) :
    standB l a b p w = true ↔ 0 ≤ mom a l + w * (p - a) ∧ mom b l + w * (p - b) ≤ 0 := by
  unfold standB
  rw [beq_iff_eq, sideW_zero (okL_append h ⟨hp, hw⟩) (by rw [List.length_append, List.length_singleton]; omega) ha hb, mom_append, mom_append]
  simp only [mom, Int.add_zero]
theorem baseB_iff (a b : Int) : baseB a b = true ↔ (0 ≤ a ∧ a ≤ 60) ∧ (0 ≤ b ∧ b ≤ 60) ∧ a ≤ b := by
  unfold baseB; simp

theorem standsWith_ev (l : List (S33)) (a b p w : Int) (hl : l.length ≤ 1000) : Ev (fun k => impl_standsWith.f k l a b p w) (standB l a b p w) := by
  unfold impl_standsWith.f standB
  unfold impl_Load_62.f
  simp only [if_pos (show l.length < 8796093022208 by omega), Option.bind_some]
  exact Ev.bind (tipSide_ev _ a b (by rw [List.length_append, List.length_singleton]; omega)) (Ev.now _)

/-- The first and the last place, from p on, at which the test holds. -/
def spanFrom (st : Int → Bool) : Nat → Int → Int → Int → Int × Int
  | 0, lo, hi, _ => (lo, hi)
  | d + 1, lo, hi, p => if st p then spanFrom st d (if lo < 0 then p else lo) p (p + 1) else spanFrom st d lo hi (p + 1)
def spanR (s : Int × Int) : Int × Int × Bool := if s.1 < 0 then (0, 0, false) else (s.1, s.2, true)
def StandPlacesR (l : List (S33)) (a b w : Int) : Int × Int × Bool :=
  if (rowB l && baseB a b) = true ∧ l.length < 12 ∧ 1 ≤ w ∧ w ≤ 99 then spanR (spanFrom (fun p => standB l a b p w) 61 (-1) (-1) 0) else (0, 0, false)
theorem specSpan_loop (l : List (S33)) (a b w : Int) (hl : l.length < 12) : ∀ (d : Nat) (lo hi p : Int), 0 ≤ p → p + d = 61 → Ev (fun k => spec_StandPlaces.l0 k l a b w lo hi p) (spanR (spanFrom (fun p => standB l a b p w) d lo hi p)) := by
  intro d
  induction d with
  | zero =>
    intro lo hi p h0 hd
    refine Ev.step (fun k => by rw [spec_StandPlaces.l0]) ?_
    simp only [if_neg (show ¬ p ≤ 60 by omega)]
    unfold spanR spanFrom
    by_cases h : lo < 0
    · simp only [if_pos h]; exact Ev.now _
    · simp only [if_neg h]; exact Ev.now _
  | succ d ih =>
    intro lo hi p h0 hd
    refine Ev.step (fun k => by rw [spec_StandPlaces.l0]) ?_
    simp only [if_pos (show p ≤ 60 by omega), l2With_eq l p w (by omega), Option.bind_some, w64 (show -9223372036854775808 ≤ p + 1 by omega) (by omega)]
    refine Ev.bind (l2Side_ev _ a b (by rw [List.length_append, List.length_singleton]; omega)) ?_
    unfold spanFrom
    by_cases h : sideW (l ++ [⟨p, w⟩]) a b = 0
    · have hs : standB l a b p w = true := by unfold standB; rw [h]; rfl
      simp only [if_pos h, hs, if_true]
      by_cases h1 : lo < 0
      · simp only [if_pos h1]; exact ih p p (p + 1) (by omega) (by omega)
      · simp only [if_neg h1]; exact ih lo p (p + 1) (by omega) (by omega)
    · have hs : standB l a b p w = false := by unfold standB; exact beq_eq_false_iff_ne.2 h
      simp only [if_neg h, hs, Bool.false_eq_true, if_false]
      exact ih lo hi (p + 1) (by omega) (by omega)
theorem implSpan_loop (l : List (S33)) (a b w : Int) (hl : l.length < 12) : ∀ (d : Nat) (lo hi p : Int), 0 ≤ p → p + d = 61 → Ev (fun k => impl_StandPlaces.l0 k l a b w lo hi p) (spanR (spanFrom (fun p => standB l a b p w) d lo hi p)) := by
  intro d
  induction d with
  | zero =>
    intro lo hi p h0 hd
    refine Ev.step (fun k => by rw [impl_StandPlaces.l0]) ?_
    simp only [if_neg (show ¬ p < 61 by omega)]
    unfold spanR spanFrom
    by_cases h : lo < 0
    · simp only [if_pos h]; exact Ev.now _
    · simp only [if_neg h]; exact Ev.now _
  | succ d ih =>
    intro lo hi p h0 hd
    refine Ev.step (fun k => by rw [impl_StandPlaces.l0]) ?_
    simp only [if_pos (show p < 61 by omega), w64 (show -9223372036854775808 ≤ p + 1 by omega) (by omega)]
    refine Ev.bind (standsWith_ev l a b p w (by omega)) ?_
    unfold spanFrom
    cases h : standB l a b p w
    · simp only [Bool.false_eq_true, if_false]
      exact ih lo hi (p + 1) (by omega) (by omega)
    · simp only [if_true]
      by_cases h1 : lo < 0
      · simp only [if_pos h1]; exact ih p p (p + 1) (by omega) (by omega)
      · simp only [if_neg h1]; exact ih lo p (p + 1) (by omega) (by omega)
theorem specStandPlaces_ev (l : List (S33)) (a b w : Int) (hl : l.length ≤ 9223372036854775806) : Ev (fun k => spec_StandPlaces.f k l a b w) (StandPlacesR l a b w) := by
  unfold spec_StandPlaces.f StandPlacesR
  have done : Ev (fun k => spec_StandPlaces.j0 k l a b w true) (0, 0, false) := by
    refine Ev.step (fun k => by rw [spec_StandPlaces.j0]) ?_
    simp only [if_true]
    exact Ev.now _
  refine Ev.bind (l2On_ev l a b) ?_
  by_cases h : (rowB l && baseB a b) = true
  · have hr := (rowB_iff l).1 (Bool.and_eq_true_iff.1 h).1
    simp only [h, if_true, true_and, l1In_eq, Option.bind_some]
    by_cases h12 : l.length < 12
    · simp only [if_neg (show ¬ (l.length : Int) = 12 by omega), h12, true_and]
      by_cases hw : 1 ≤ w ∧ w ≤ 99
      · simp only [hw, and_self, decide_true, Bool.not_true, if_true]
        refine Ev.step (fun k => by rw [spec_StandPlaces.j0]) ?_
        simp only [Bool.false_eq_true, if_false]
        exact specSpan_loop l a b w h12 61 (-1) (-1) 0 (by omega) (by omega)
      · simp only [hw, decide_false, Bool.not_false, if_false]
        exact done
    · simp only [if_pos (show (l.length : Int) = 12 by omega), h12, false_and, if_false]
      exact done
  · simp only [h, false_and, if_false]
    exact done
theorem implStandPlaces_ev (l : List (S33)) (a b w : Int) (hl : l.length ≤ 9223372036854775806) : Ev (fun k => impl_StandPlaces.f k l a b w) (StandPlacesR l a b w) := by
  unfold impl_StandPlaces.f StandPlacesR
  have done : Ev (fun k => impl_StandPlaces.j0 k l a b w true) (0, 0, false) := by
    refine Ev.step (fun k => by rw [impl_StandPlaces.j0]) ?_
    simp only [if_true]
    exact Ev.now _
  simp only [implIsRow_eq, isBase_eq, isWeight_eq, Option.bind_some]
  by_cases h1 : rowB l = true
  · have hr := (rowB_iff l).1 h1
    simp only [h1, if_true, Bool.true_and]
    by_cases h12 : l.length < 12
    · simp only [if_neg (show ¬ (l.length : Int) = 12 by omega), h12, true_and]
      by_cases h2 : baseB a b = true
      · simp only [h2, if_true, true_and]
        by_cases hw : 1 ≤ w ∧ w ≤ 99
        · simp only [hw, and_self, decide_true, Bool.not_true, if_true]
          refine Ev.step (fun k => by rw [impl_StandPlaces.j0]) ?_
          simp only [Bool.false_eq_true, if_false]
          exact implSpan_loop l a b w h12 61 (-1) (-1) 0 (by omega) (by omega)
        · simp only [hw, decide_false, Bool.not_false, if_false]
          exact done
      · simp only [h2, false_and, if_false]
        exact done
    · simp only [if_pos (show (l.length : Int) = 12 by omega), h12, false_and, and_false, if_false]
      exact done
  · simp only [h1, Bool.false_and, Bool.false_eq_true, false_and, if_false]
    exact done
theorem StandPlaces_same (l : List (S33)) (a b w : Int) (hl : l.length ≤ 9223372036854775806) : ∃ r, Ev (fun k => spec_StandPlaces.f k l a b w) r ∧ Ev (fun k => impl_StandPlaces.f k l a b w) r :=
  ⟨_, specStandPlaces_ev l a b w hl, implStandPlaces_ev l a b w hl⟩

def leastW (st : Int → Bool) : Nat → Int → Int × Bool
  | 0, _ => (0, false)
  | d + 1, w => if st w then (w, true) else leastW st d (w + 1)
def LeastCounterR (l : List (S33)) (a b p : Int) : Int × Bool :=
  if (rowB l && baseB a b) = true ∧ 0 ≤ p ∧ p ≤ 60 then (if sideW l a b = 0 then (0, true) else if l.length < 12 then leastW (standB l a b p) 99 1 else (0, false)) else (0, false)
theorem specLeast_loop (l : List (S33)) (a b p : Int) (hl : l.length < 12) : ∀ (d : Nat) (w : Int), 1 ≤ w → w + d = 100 → Ev (fun k => spec_LeastCounter.l0 k l a b p w) (leastW (standB l a b p) d w) := by
  intro d
  induction d with
  | zero =>
    intro w h1 hd
    refine Ev.step (fun k => by rw [spec_LeastCounter.l0]) ?_
    simp only [if_neg (show ¬ w ≤ 99 by omega)]
    refine Ev.step (fun k => by rw [spec_LeastCounter.j2]) ?_
    simp only [Bool.false_eq_true, if_false]
    exact Ev.now _
  | succ d ih =>
    intro w h1 hd
    refine Ev.step (fun k => by rw [spec_LeastCounter.l0]) ?_
    simp only [if_pos (show w ≤ 99 by omega), decide_eq_true (show (l.length : Int) < 12 by omega)]
    refine Ev.step (fun k => by rw [spec_LeastCounter.j2]) ?_
    simp only [if_true, l2With_eq l p w (by omega), Option.bind_some, w64 (show -9223372036854775808 ≤ w + 1 by omega) (by omega)]
    refine Ev.bind (l2Side_ev _ a b (by rw [List.length_append, List.length_singleton]; omega)) ?_
    unfold leastW standB
    by_cases h : sideW (l ++ [⟨p, w⟩]) a b = 0
    · simp only [if_pos h, h, beq_self_eq_true, if_true]
      exact Ev.now _
    · simp only [if_neg h, beq_eq_false_iff_ne.2 h, Bool.false_eq_true, if_false]
      exact ih (w + 1) (by omega) (by omega)
theorem specLeastCounter_ev (l : List (S33)) (a b p : Int) (hl : l.length ≤ 9223372036854775806) : Ev (fun k => spec_LeastCounter.f k l a b p) (LeastCounterR l a b p) := by
  unfold spec_LeastCounter.f LeastCounterR
  refine Ev.bind (l2On_ev l a b) ?_
  by_cases h : (rowB l && baseB a b) = true
  · have hr := ((rowB_iff l).1 (Bool.and_eq_true_iff.1 h).1).1
    simp only [h, if_true, l2In_eq, Option.bind_some, true_and]
    refine Ev.step (fun k => by rw [spec_LeastCounter.j0]) ?_
    by_cases hp : 0 ≤ p ∧ p ≤ 60
    · simp only [hp, and_self, decide_true, Bool.not_true, Bool.false_eq_true, if_false, if_true]
      refine Ev.bind (l2Side_ev l a b hl) ?_
      by_cases h0 : sideW l a b = 0
      · simp only [if_pos h0]
        exact Ev.now _
      · simp only [if_neg h0]
        by_cases h12 : l.length < 12
        · simp only [if_pos h12]
          exact specLeast_loop l a b p h12 99 1 (by omega) (by omega)
        · simp only [if_neg h12]
          refine Ev.step (fun k => by rw [spec_LeastCounter.l0]) ?_
          simp only [show ((1 : Int) ≤ 99) by decide, if_true, decide_eq_false (show ¬ (l.length : Int) < 12 by omega)]
          refine Ev.step (fun k => by rw [spec_LeastCounter.j2]) ?_
          simp only [Bool.false_eq_true, if_false]
          exact Ev.now _
    · simp only [hp, decide_false, Bool.not_false, if_true, if_false]
      exact Ev.now _
  · simp only [h, false_and, if_false, Bool.false_eq_true]
    refine Ev.step (fun k => by rw [spec_LeastCounter.j0]) ?_
    simp only [if_true]
    exact Ev.now _
theorem implLeast_loop (l : List (S33)) (a b p : Int) (hl : l.length < 12) : ∀ (d : Nat) (w : Int), 1 ≤ w → w + d = 100 → Ev (fun k => impl_LeastCounter.l0 k l a b p w) (leastW (standB l a b p) d w) := by
  intro d
  induction d with
  | zero =>
    intro w h1 hd
    refine Ev.step (fun k => by rw [impl_LeastCounter.l0]) ?_
    simp only [if_neg (show ¬ w ≤ 99 by omega)]
    refine Ev.step (fun k => by rw [impl_LeastCounter.j2]) ?_
    simp only [Bool.false_eq_true, if_false]
    exact Ev.now _
  | succ d ih =>
    intro w h1 hd
    refine Ev.step (fun k => by rw [impl_LeastCounter.l0]) ?_
    simp only [if_pos (show w ≤ 99 by omega), decide_eq_true (show (l.length : Int) < 12 by omega)]
    refine Ev.step (fun k => by rw [impl_LeastCounter.j2]) ?_
    simp only [if_true, w64 (show -9223372036854775808 ≤ w + 1 by omega) (by omega)]
    refine Ev.bind (standsWith_ev l a b p w (by omega)) ?_
    unfold leastW
    cases h : standB l a b p w
    · simp only [Bool.false_eq_true, if_false]
      exact ih (w + 1) (by omega) (by omega)
    · simp only [if_true]
      exact Ev.now _
theorem implLeastCounter_ev (l : List (S33)) (a b p : Int) (hl : l.length ≤ 9223372036854775806) : Ev (fun k => impl_LeastCounter.f k l a b p) (LeastCounterR l a b p) := by
  unfold impl_LeastCounter.f LeastCounterR
  simp only [implIsRow_eq, isBase_eq, isPlace_eq, Option.bind_some]
  by_cases h : (rowB l && baseB a b) = true
  · have h' := Bool.and_eq_true_iff.1 h
    have hr := ((rowB_iff l).1 h'.1).1
    simp only [h'.1, h'.2, Bool.and_self, if_true, true_and]
    refine Ev.step (fun k => by rw [impl_LeastCounter.j0]) ?_
    by_cases hp : 0 ≤ p ∧ p ≤ 60
    · simp only [hp, and_self, decide_true, Bool.not_true, Bool.false_eq_true, if_false, if_true]
      refine Ev.bind (tipSide_ev l a b hl) ?_
      by_cases h0 : sideW l a b = 0
      · simp only [if_pos h0]
        exact Ev.now _
      · simp only [if_neg h0]
        by_cases h12 : l.length < 12
        · simp only [if_pos h12]
          exact implLeast_loop l a b p h12 99 1 (by omega) (by omega)
        · simp only [if_neg h12]
          refine Ev.step (fun k => by rw [impl_LeastCounter.l0]) ?_
          simp only [show ((1 : Int) ≤ 99) by decide, if_true, decide_eq_false (show ¬ (l.length : Int) < 12 by omega)]
          refine Ev.step (fun k => by rw [impl_LeastCounter.j2]) ?_
          simp only [Bool.false_eq_true, if_false]
          exact Ev.now _
    · simp only [hp, decide_false, Bool.not_false, if_true, if_false]
      exact Ev.now _
  · simp only [h, false_and, if_false]
    have done : Ev (fun k => impl_LeastCounter.j0 k l a b p true) (0, false) := by
      refine Ev.step (fun k => by rw [impl_LeastCounter.j0]) ?_
      simp only [if_true]
      exact Ev.now _
    cases h1 : rowB l
    · simp only [Bool.false_eq_true, if_false]
      exact done
    · rw [h1, Bool.true_and] at h
      simp only [if_true, h, if_false]
      exact done
theorem LeastCounter_same (l : List (S33)) (a b p : Int) (hl : l.length ≤ 9223372036854775806) : ∃ r, Ev (fun k => spec_LeastCounter.f k l a b p) r ∧ Ev (fun k => impl_LeastCounter.f k l a b p) r :=
  ⟨_, specLeastCounter_ev l a b p hl, implLeastCounter_ev l a b p hl⟩

theorem lin_ge {m c w v : Int} (h0 : 0 ≤ m) (hv : 0 ≤ m + v * c) (hw : 0 ≤ w) (hwv : w ≤ v) : 0 ≤ m + w * c := by
  by_cases hc : 0 ≤ c
  · have := Int.mul_nonneg hw hc
    omega
  · have := Int.mul_le_mul_of_nonneg_right hwv (show 0 ≤ -c by omega)
    rw [Int.mul_neg, Int.mul_neg] at this
    omega
theorem lin_le {m c w v : Int} (h0 : m ≤ 0) (hv : m + v * c ≤ 0) (hw : 0 ≤ w) (hwv : w ≤ v) : m + w * c ≤ 0 := by
  have := lin_ge (m := -m) (c := -c) (w := w) (v := v) (by omega) (by rw [Int.mul_neg]; omega) hw hwv
  rw [Int.mul_neg] at this
  omega
/-- What stands with more stands with less. -/
theorem standB_down {l : List (S33)} {a b p w v : Int} (h : okL l) (hl : l.length ≤ 12) (ha : 0 ≤ a ∧ a ≤ 60) (hb : 0 ≤ b ∧ b ≤ 60) (hp : 0 ≤ p ∧ p ≤ 60) (hz : sideW l a b = 0) (hw : 1 ≤ w) (hwv : w ≤ v) (hv : v ≤ 99) (hs : standB l a b p v = true) : standB l a b p w = true := by
  rw [standB_iff h hl ha hb hp ⟨by omega, by omega⟩] at hs ⊢
  have hz' := (sideW_zero h (by omega) ha hb).1 hz
  exact ⟨lin_ge hz'.1 hs.1 (by omega) hwv, lin_le hz'.2 hs.2 (by omega) hwv⟩
/-- The greatest weight from v down. -/
def mostD (st : Int → Bool) : Nat → Int
  | 0 => 0
  | d + 1 => if st ((d : Int) + 1) then (d : Int) + 1 else mostD st d
theorem mostD_le (st : Int → Bool) : ∀ d, 0 ≤ mostD st d ∧ mostD st d ≤ d
  | 0 => by simp [mostD]
  | d + 1 => by
    have := mostD_le st d
    unfold mostD
    split <;> omega
theorem mostD_stands (st : Int → Bool) : ∀ d, 1 ≤ mostD st d → st (mostD st d) = true
  | 0, h => by simp [mostD] at h
  | d + 1, h => by
    unfold mostD at h ⊢
    by_cases hs : st ((d : Int) + 1) = true
    · rw [if_pos hs]; exact hs
    · rw [if_neg hs] at h ⊢
      exact mostD_stands st d h
theorem mostD_beyond (st : Int → Bool) : ∀ (d : Nat) (w : Int), mostD st d < w → w ≤ d → st w = false
  | 0, w, h1, h2 => by simp [mostD] at h1; omega
  | d + 1, w, h1, h2 => by
    unfold mostD at h1
    by_cases hs : st ((d : Int) + 1) = true
    · rw [if_pos hs] at h1; omega
    · rw [if_neg hs] at h1
      by_cases e : w = (d : Int) + 1
      · subst e; exact Bool.eq_false_iff.2 hs
      · exact mostD_beyond st d w h1 (by omega)
def MostExtraR (l : List (S33)) (a b p : Int) : Int × Bool :=
  if (rowB l && baseB a b) = true ∧ (0 ≤ p ∧ p ≤ 60) ∧ l.length < 12 ∧ sideW l a b = 0 then (mostD (standB l a b p) 99, true) else (0, false)
theorem specMost_loop (l : List (S33)) (a b p : Int) (hl : l.length < 12) (hdown : ∀ w v, 1 ≤ w → w ≤ v → v ≤ 99 → standB l a b p v = true → standB l a b p w = true) :
    ∀ (d : Nat) (m : Int), 0 ≤ m → m + d = 99 → (1 ≤ m → standB l a b p m = true) → Ev (fun k => spec_MostExtra.l0 k l a b p m) (mostD (standB l a b p) 99, true) := by
  intro d
  induction d with
  | zero =>
    intro m h0 hd hm
    refine Ev.step (fun k => by rw [spec_MostExtra.l0]) ?_
    simp only [if_neg (show ¬ m < 99 by omega)]
    refine Ev.some ?_
    have : mostD (standB l a b p) 99 = 99 := by
      have h1 := mostD_le (standB l a b p) 99
      by_cases h : mostD (standB l a b p) 99 < 99
      · have := mostD_beyond (standB l a b p) 99 99 h (by omega)
        rw [show m = 99 by omega] at hm
        rw [hm (by omega)] at this
        cases this
      · omega
    rw [this, show m = 99 by omega]
  | succ d ih =>
    intro m h0 hd hm
    refine Ev.step (fun k => by rw [spec_MostExtra.l0]) ?_
    simp only [if_pos (show m < 99 by omega), w64 (show -9223372036854775808 ≤ m + 1 by omega) (by omega), l2With_eq l p (m + 1) (by omega), Option.bind_some]
    refine Ev.bind (l2Side_ev _ a b (by rw [List.length_append, List.length_singleton]; omega)) ?_
    by_cases h : sideW (l ++ [⟨p, m + 1⟩]) a b = 0
    · simp only [if_pos h]
      exact ih (m + 1) (by omega) (by omega) (fun _ => by unfold standB; rw [h]; rfl)
    · simp only [if_neg h]
      refine Ev.some ?_
      have hf : standB l a b p (m + 1) = false := by unfold standB; exact beq_eq_false_iff_ne.2 h
      have h1 := mostD_le (standB l a b p) 99
      have : mostD (standB l a b p) 99 = m := by
        by_cases hlt : mostD (standB l a b p) 99 < m
        · have := mostD_beyond (standB l a b p) 99 m hlt (by omega)
          rw [hm (by omega)] at this
          cases this
        · by_cases hgt : m < mostD (standB l a b p) 99
          · have := hdown (m + 1) _ (by omega) (by omega) (by omega) (mostD_stands (standB l a b p) 99 (by omega))
            rw [hf] at this
            cases this
          · omega
      rw [this]
theorem implMost_loop (l : List (S33)) (a b p : Int) (hl : l.length < 12) : ∀ (d : Nat), d ≤ 99 → Ev (fun k => impl_MostExtra.l0 k l a b p d) (mostD (standB l a b p) d, true) := by
  intro d
  induction d with
  | zero =>
    intro hd
    refine Ev.step (fun k => by rw [impl_MostExtra.l0]) ?_
    simp only [if_neg (show ¬ ((0 : Nat) : Int) ≥ 1 by omega)]
    exact Ev.now _
  | succ d ih =>
    intro hd
    refine Ev.step (fun k => by rw [impl_MostExtra.l0]) ?_
    simp only [if_pos (show ((d + 1 : Nat) : Int) ≥ 1 by omega), w64 (show -9223372036854775808 ≤ ((d + 1 : Nat) : Int) - 1 by omega) (by omega)]
    refine Ev.bind (standsWith_ev l a b p _ (by omega)) ?_
    unfold mostD
    rw [show ((d + 1 : Nat) : Int) = (d : Int) + 1 by omega]
    cases h : standB l a b p ((d : Int) + 1)
    · simp only [Bool.false_eq_true, if_false]
      rw [show (d : Int) + 1 - 1 = d by omega]
      exact ih (by omega)
    · simp only [if_true]
      exact Ev.now _
theorem len12 {l : List (S33)} (h : l.length ≤ 12) : (l.length : Int) = 12 ↔ ¬ l.length < 12 := by omega
theorem specMostExtra_ev (l : List (S33)) (a b p : Int) (hl : l.length ≤ 9223372036854775806) : Ev (fun k => spec_MostExtra.f k l a b p) (MostExtraR l a b p) := by
  unfold spec_MostExtra.f MostExtraR
  have done : Ev (fun k => spec_MostExtra.j0 k l a b p true) (0, false) := by
    refine Ev.step (fun k => by rw [spec_MostExtra.j0]) ?_
    simp only [if_true]
    exact Ev.now _
  refine Ev.bind (l2On_ev l a b) ?_
  by_cases h : (rowB l && baseB a b) = true
  · have h' := Bool.and_eq_true_iff.1 h
    have hr := (rowB_iff l).1 h'.1
    have hb := (baseB_iff a b).1 h'.2
    simp only [h, if_true, l2In_eq, Option.bind_some, true_and]
    by_cases hp : 0 ≤ p ∧ p ≤ 60
    · simp only [hp, and_self, decide_true, if_true, true_and]
      by_cases h12 : l.length < 12
      · simp only [if_neg (show ¬ (l.length : Int) = 12 by omega), h12, true_and]
        refine Ev.bind (l2Side_ev l a b hl) ?_
        by_cases h0 : sideW l a b = 0
        · simp only [h0, bne_self_eq_false, if_true]
          refine Ev.step (fun k => by rw [spec_MostExtra.j0]) ?_
          simp only [Bool.false_eq_true, if_false]
          exact specMost_loop l a b p h12 (fun w v h1 h2 h3 h4 => standB_down hr.2 (by omega) hb.1 hb.2.1 hp h0 h1 h2 h3 h4) 99 0 (by omega) (by omega) (by omega)
        · simp only [bne_iff_ne.2 h0, if_neg h0]
          exact done
      · simp only [if_pos (show (l.length : Int) = 12 by omega), h12, false_and, if_false]
        exact done
    · simp only [hp, decide_false, Bool.false_eq_true, false_and, if_false]
      exact done
  · simp only [h, false_and, if_false]
    exact done
theorem implMostExtra_ev (l : List (S33)) (a b p : Int) (hl : l.length ≤ 9223372036854775806) : Ev (fun k => impl_MostExtra.f k l a b p) (MostExtraR l a b p) := by
  unfold impl_MostExtra.f MostExtraR
  have done : Ev (fun k => impl_MostExtra.j0 k l a b p true) (0, false) := by
    refine Ev.step (fun k => by rw [impl_MostExtra.j0]) ?_
    simp only [if_true]
    exact Ev.now _
  simp only [implIsRow_eq, isBase_eq, isPlace_eq, Option.bind_some]
  by_cases h1 : rowB l = true
  · have hr := (rowB_iff l).1 h1
    simp only [h1, if_true, Bool.true_and]
    by_cases h12 : l.length < 12
    · simp only [if_neg (show ¬ (l.length : Int) = 12 by omega), h12, true_and]
      by_cases h2 : baseB a b = true
      · have hb := (baseB_iff a b).1 h2
        simp only [h2, if_true, true_and, decide_eq_true_eq]
        by_cases hp : 0 ≤ p ∧ p ≤ 60
        · simp only [if_pos hp, hp, and_self, true_and]
          refine Ev.bind (tipSide_ev l a b hl) ?_
          by_cases h0 : sideW l a b = 0
          · simp only [h0, bne_self_eq_false, if_true]
            refine Ev.step (fun k => by rw [impl_MostExtra.j0]) ?_
            simp only [Bool.false_eq_true, if_false]
            exact implMost_loop l a b p h12 99 (by omega)
          · simp only [bne_iff_ne.2 h0, if_neg h0]
            exact done
        · simp only [hp, false_and, if_false]
          exact done
      · simp only [h2, false_and, if_false]
        exact done
    · simp only [if_pos (show (l.length : Int) = 12 by omega), h12, false_and, and_false, if_false]
      exact done
  · simp only [h1, Bool.false_and, Bool.false_eq_true, false_and, if_false]
    exact done
theorem MostExtra_same (l : List (S33)) (a b p : Int) (hl : l.length ≤ 9223372036854775806) : ∃ r, Ev (fun k => spec_MostExtra.f k l a b p) r ∧ Ev (fun k => impl_MostExtra.f k l a b p) r :=
  ⟨_, specMostExtra_ev l a b p hl, implMostExtra_ev l a b p hl⟩

def TipSideR (l : List (S33)) (a b : Int) : Int × Bool := if (rowB l && baseB a b) = true then (sideW l a b, true) else (0, false)
theorem implTipSide_ev (l : List (S33)) (a b : Int) (hl : l.length ≤ 9223372036854775806) : Ev (fun k => impl_TipSide.f k l a b) (TipSideR l a b) := by
  unfold impl_TipSide.f TipSideR
  simp only [implIsRow_eq, isBase_eq, Option.bind_some]
  cases h : rowB l
  · simp only [Bool.false_and, Bool.false_eq_true, if_false]
    exact Ev.now _
  · simp only [if_true, Bool.true_and]
    split
    · exact Ev.bind (tipSide_ev l a b hl) (Ev.now _)
    · exact Ev.now _

/-- The bytes that a reader of draws reads. -/
def Code8 (c : List Int) : Prop := (∀ x ∈ c, 0 ≤ x ∧ x ≤ 255) ∧ c.length ≤ 140737488351232
theorem code8 {c : List Int} (h1 : c.length * 1 ≤ 140737488351232) (h2 : ∀ x ∈ c, (Lit.int .u8 x).wf = true) : Code8 c := by
  refine ⟨fun x hx => ?_, by omega⟩
  have h := h2 x hx
  simp [Lit.wf, IntKind.min, IntKind.max, IntKind.signed, IntKind.bits] at h
  omega
theorem and255 (x : Int) (h0 : 0 ≤ x) (h1 : x < 18446744073709551616) : 0 ≤ Go.bits .and .u64 x 255 ∧ Go.bits .and .u64 x 255 ≤ 255 := by
  have := Go.bits_mask .u64 64 (by decide) (fun n g0 g1 => by rw [IntKind.wrap_u64]; omega) 8 (by decide) x h0 h1
  rw [show ((2 : Int) ^ 8 - 1) = 255 by decide, show ((2 : Int) ^ 8) = 256 by decide] at this
  rw [this]
  omega
theorem u64_range (x : Int) : 0 ≤ IntKind.u64.wrap x ∧ IntKind.u64.wrap x < 18446744073709551616 := by
  rw [IntKind.wrap_u64]
  omega
theorem seedByte (x : Int) : 0 ≤ wrap64 (Go.bits .and .u64 (IntKind.u64.wrap x / 1099511627776) 255) ∧ wrap64 (Go.bits .and .u64 (IntKind.u64.wrap x / 1099511627776) 255) ≤ 255 := by
  have h := u64_range x
  have h2 := and255 (IntKind.u64.wrap x / 1099511627776) (by omega) (by omega)
  rw [w64 (by omega) (by omega)]
  exact h2
theorem next_ok {c : List Int} (hc : Code8 c) {p : Int} (s : Int) (h0 : 0 ≤ p) (h1 : p ≤ 4611686018427387904) : ∃ b s', spec_l1Cur_next.f c p s = some (b, p + 1, s') ∧ 0 ≤ b ∧ b ≤ 255 := by
  unfold spec_l1Cur_next.f
  rw [w64 (show -9223372036854775808 ≤ p + 1 by omega) (by omega)]
  by_cases h : p < (c.length : Int)
  · have hb := hc.1 _ (rd_mem h0 h)
    have e : wrap64 (rd c p) = rd c p := w64 (by omega) (by omega)
    simp only [if_pos h, if_pos h0, e]
    split
    · exact ⟨_, _, rfl, hb⟩
    · exact ⟨_, _, rfl, seedByte _⟩
  · simp only [if_neg h]
    split
    · exact ⟨_, _, rfl, by omega, by omega⟩
    · exact ⟨_, _, rfl, seedByte _⟩
theorem tmod_in {x n : Int} (h0 : 0 ≤ x) (h1 : 1 ≤ n) : 0 ≤ Int.tmod x n ∧ Int.tmod x n < n := by
  rw [Int.tmod_eq_emod_of_nonneg h0]
  exact ⟨Int.emod_nonneg _ (by omega), Int.emod_lt_of_pos _ (by omega)⟩
theorem pick_ok {c : List Int} (hc : Code8 c) {p : Int} (s n : Int) (h0 : 0 ≤ p) (h1 : p ≤ 4611686018427387000) : ∃ x p' s', spec_l1Cur_pick.f c p s n = some (x, p', s') ∧ (p ≤ p' ∧ p' ≤ p + 2) ∧ 0 ≤ x ∧ (1 ≤ n → x < n) := by
  unfold spec_l1Cur_pick.f
  by_cases hn : n ≤ 1
  · rw [if_pos hn]
    exact ⟨_, _, _, rfl, by omega, by omega, by omega⟩
  · rw [if_neg hn]
    obtain ⟨b, s1, e1, b0, b1⟩ := next_ok hc s h0 (by omega)
    rw [e1, Option.bind_some]
    by_cases h2 : n > 200
    · obtain ⟨d, s2, e2, d0, d1⟩ := next_ok hc s1 (show 0 ≤ p + 1 by omega) (by omega)
      simp only [if_pos h2, e2, Option.bind_some, if_neg (show ¬ n = 0 by omega)]
      rw [w64 (show -9223372036854775808 ≤ b * 256 by omega) (by omega), w64 (show -9223372036854775808 ≤ b * 256 + d by omega) (by omega)]
      have := tmod_in (show 0 ≤ b * 256 + d by omega) (show 1 ≤ n by omega)
      exact ⟨_, _, _, rfl, by omega, this.1, fun _ => this.2⟩
    · simp only [if_neg h2, if_neg (show ¬ n = 0 by omega)]
      have := tmod_in b0 (show 1 ≤ n by omega)
      exact ⟨_, _, _, rfl, by omega, this.1, fun _ => this.2⟩
theorem among_ok {c : List Int} (hc : Code8 c) {p : Int} (s : Int) (l : List Int) (h0 : 0 ≤ p) (h1 : p ≤ 4611686018427387000) (hl : 1 ≤ l.length) : ∃ x p' s', spec_l1Cur_among.f c p s l = some (x, p', s') ∧ (p ≤ p' ∧ p' ≤ p + 2) ∧ x ∈ l := by
  unfold spec_l1Cur_among.f
  obtain ⟨x, p', s', e, hp, x0, x1⟩ := pick_ok hc s (l.length : Int) h0 h1
  have x1' := x1 (by omega)
  simp only [e, Option.bind_some, if_pos x0, if_pos x1']
  exact ⟨_, _, _, rfl, hp, rd_mem x0 x1'⟩
theorem one_ok {c : List Int} (hc : Code8 c) {p : Int} (s n : Int) (h0 : 0 ≤ p) (h1 : p ≤ 4611686018427387000) : ∃ x p' s', spec_l1Cur_one.f c p s n = some (x, p', s') ∧ (p ≤ p' ∧ p' ≤ p + 2) := by
  unfold spec_l1Cur_one.f
  obtain ⟨x, p', s', e, hp, x0, x1⟩ := pick_ok hc s n h0 h1
  simp only [e, Option.bind_some]
  exact ⟨_, _, _, rfl, hp⟩

theorem l1Least_eq (a b : Int) : spec_l1Least.f a b = some (min a b) := by
  unfold spec_l1Least.f
  split
  · rw [Int.min_eq_left (by omega)]
  · rw [Int.min_eq_right (by omega)]
theorem placeIn_ok {c : List Int} (hc : Code8 c) {p : Int} (s : Int) (h0 : 0 ≤ p) (h1 : p ≤ 4611686018427386000) : ∃ x p' s', spec_l1Cur_placeIn.f c p s = some (x, p', s') ∧ (p ≤ p' ∧ p' ≤ p + 6) := by
  unfold spec_l1Cur_placeIn.f
  obtain ⟨x, p1, s1, e, hp⟩ := one_ok hc s 30 h0 (by omega)
  simp only [e, Option.bind_some]
  cases x
  · obtain ⟨y, p2, s2, e2, hp2, _⟩ := among_ok hc s1 [11, 11, 21, 61] (show 0 ≤ p1 by omega) (by omega) (by decide)
    obtain ⟨z, p3, s3, e3, hp3, _⟩ := pick_ok hc s2 y (show 0 ≤ p2 by omega) (by omega)
    simp only [Bool.false_eq_true, if_false, e2, e3, Option.bind_some]
    exact ⟨_, _, _, rfl, by omega⟩
  · obtain ⟨y, p2, s2, e2, hp2, _⟩ := among_ok hc s1 [(-1), 0, 60, 61, 4611686018427387904] (show 0 ≤ p1 by omega) (by omega) (by decide)
    simp only [if_true, e2, Option.bind_some]
    exact ⟨_, _, _, rfl, by omega⟩
theorem base_ok {c : List Int} (hc : Code8 c) {p : Int} (s : Int) (h0 : 0 ≤ p) (h1 : p ≤ 4611686018427385000) : ∃ x y p' s', spec_l1Cur_base.f c p s = some (x, y, p', s') ∧ (p ≤ p' ∧ p' ≤ p + 14) := by
  unfold spec_l1Cur_base.f
  obtain ⟨x, p1, s1, e1, hp1⟩ := placeIn_ok hc s h0 (by omega)
  obtain ⟨y, p2, s2, e2, hp2⟩ := placeIn_ok hc s1 (show 0 ≤ p1 by omega) (by omega)
  simp only [e1, e2, Option.bind_some]
  by_cases h : x > y
  · obtain ⟨z, p3, s3, e3, hp3⟩ := one_ok hc s2 16 (show 0 ≤ p2 by omega) (by omega)
    simp only [if_pos h, e3, Option.bind_some]
    cases z
    · simp only [Bool.false_eq_true, if_false]
      exact ⟨_, _, _, _, rfl, by omega⟩
    · simp only [if_true]
      exact ⟨_, _, _, _, rfl, by omega⟩
  · simp only [if_neg h]
    exact ⟨_, _, _, _, rfl, by omega⟩
theorem fill_ok (c : List Int) (p s : Int) : ∀ (d : Nat) (r : List (S33)), r.length ≤ 13 → 13 - r.length = d → ∃ r', Ev (fun k => spec_l1Cur_someRow.l1 k r c p s) (r', p, s) ∧ r'.length ≤ 13 := by
  intro d
  induction d with
  | zero =>
    intro r h0 hd
    refine ⟨r, ?_, h0⟩
    refine Ev.step (fun k => by rw [spec_l1Cur_someRow.l1]) ?_
    simp only [if_neg (show ¬ (r.length : Int) < 13 by omega)]
    exact Ev.now _
  | succ d ih =>
    intro r h0 hd
    obtain ⟨r', hr, hl⟩ := ih (r ++ [⟨5, 1⟩]) (by rw [List.length_append, List.length_singleton]; omega) (by rw [List.length_append, List.length_singleton]; omega)
    refine ⟨r', ?_, hl⟩
    refine Ev.step (fun k => by rw [spec_l1Cur_someRow.l1]) ?_
    simp only [if_pos (show (r.length : Int) < 13 by omega), if_pos (show r.length < 8796093022208 by omega)]
    exact hr
theorem someRow_ok {c : List Int} (hc : Code8 c) : ∀ (d : Nat) (n : Int) (r : List (S33)) (p s : Int), n ≤ d → r.length + d ≤ 12 → 0 ≤ p → p ≤ 4611686018427380000 - 8 * (d : Int) →
    ∃ r' p' s', Ev (fun k => spec_l1Cur_someRow.l0 k r n c p s) (r', p', s') ∧ r'.length ≤ 13 ∧ (p ≤ p' ∧ p' ≤ p + 8 * d + 6) := by
  intro d
  induction d with
  | zero =>
    intro n r p s hn hr h0 h1
    have nn : ¬ n > 0 := by omega
    by_cases hz : (r.length : Int) > 0
    · obtain ⟨x, p1, s1, e1, hp1, x0, x1⟩ := pick_ok hc s 60 h0 (by omega)
      by_cases g0 : x = 0
      · obtain ⟨y, p2, s2, e2, hp2, y0, y1⟩ := pick_ok hc s1 (r.length : Int) (show 0 ≤ p1 by omega) (by omega)
        obtain ⟨z, p3, s3, e3, hp3, _⟩ := among_ok hc s2 [(-1), 60, 61, 4611686018427387904] (show 0 ≤ p2 by omega) (by omega) (by decide)
        refine ⟨r.set y.toNat ⟨z, (rd_T33 r y).f1⟩, p3, s3, Ev.step (fun k => by rw [spec_l1Cur_someRow.l0]) ?_, by rw [List.length_set]; omega, by omega⟩
        simp only [if_neg nn, if_pos hz, e1, e2, e3, Option.bind_some, if_pos g0, if_pos y0, if_pos (y1 (by omega))]
        exact Ev.now _
      · by_cases g1 : x = 1
        · obtain ⟨y, p2, s2, e2, hp2, y0, y1⟩ := pick_ok hc s1 (r.length : Int) (show 0 ≤ p1 by omega) (by omega)
          obtain ⟨z, p3, s3, e3, hp3, _⟩ := among_ok hc s2 [0, 99, 100, (-1)] (show 0 ≤ p2 by omega) (by omega) (by decide)
          refine ⟨r.set y.toNat ⟨(rd_T33 r y).f0, z⟩, p3, s3, Ev.step (fun k => by rw [spec_l1Cur_someRow.l0]) ?_, by rw [List.length_set]; omega, by omega⟩
          simp only [if_neg nn, if_pos hz, e1, e2, e3, Option.bind_some, if_neg g0, if_pos g1, if_pos y0, if_pos (y1 (by omega))]
          exact Ev.now _
        · by_cases g2 : x = 2
          · obtain ⟨r', hr', hl'⟩ := fill_ok c p1 s1 _ r (by omega) rfl
            refine ⟨r', p1, s1, Ev.step (fun k => by rw [spec_l1Cur_someRow.l0]) ?_, hl', by omega⟩
            simp only [if_neg nn, if_pos hz, e1, Option.bind_some, if_neg g0, if_neg g1, if_pos g2]
            exact hr'
          · refine ⟨r, p1, s1, Ev.step (fun k => by rw [spec_l1Cur_someRow.l0]) ?_, by omega, by omega⟩
            simp only [if_neg nn, if_pos hz, e1, Option.bind_some, if_neg g0, if_neg g1, if_neg g2]
            exact Ev.now _
    · refine ⟨r, p, s, Ev.step (fun k => by rw [spec_l1Cur_someRow.l0]) ?_, by omega, by omega⟩
      simp only [if_neg nn, if_neg hz]
      exact Ev.now _
  | succ d ih =>
    intro n r p s hn hr h0 h1
    by_cases hd : n ≤ d
    · obtain ⟨r', p', s', h, hl, hp⟩ := ih n r p s hd (by omega) h0 (by omega)
      exact ⟨r', p', s', h, hl, by omega⟩
    · obtain ⟨a, p1, s1, e1, hp1, _⟩ := among_ok hc s [11, 11, 21, 61] h0 (by omega) (by decide)
      obtain ⟨b, p2, s2, e2, hp2, _⟩ := pick_ok hc s1 a (show 0 ≤ p1 by omega) (by omega)
      obtain ⟨x, p3, s3, e3, hp3, _⟩ := among_ok hc s2 [3, 9, 30] (show 0 ≤ p2 by omega) (by omega) (by decide)
      obtain ⟨y, p4, s4, e4, hp4, _⟩ := pick_ok hc s3 x (show 0 ≤ p3 by omega) (by omega)
      obtain ⟨r', p', s', h, hl, hp⟩ := ih (n - 1) (r ++ [⟨b, wrap64 (1 + y)⟩]) p4 s4 (by omega) (by rw [List.length_append, List.length_singleton]; omega) (by omega) (by omega)
      refine ⟨r', p', s', Ev.step (fun k => by rw [spec_l1Cur_someRow.l0]) ?_, hl, by omega⟩
      simp only [if_pos (show n > 0 by omega), e1, e2, e3, e4, Option.bind_some, if_pos (show r.length < 8796093022208 by omega), w64 (show -9223372036854775808 ≤ n - 1 by omega) (by omega)]
      exact h
theorem row_ok {c : List Int} (hc : Code8 c) (p s : Int) (h0 : 0 ≤ p) (h1 : p ≤ 4611686018427370000) : ∃ r' p' s', Ev (fun k => spec_l1Cur_row.f k c p s) (r', p', s') ∧ r'.length ≤ 13 ∧ (p ≤ p' ∧ p' ≤ p + 200) := by
  obtain ⟨n, p1, s1, e1, hp1, _⟩ := among_ok hc s [3, 2, 4, 1, 0, 6, 12] h0 (by omega) (by decide)
  obtain ⟨r', p', s', h, hl, hp⟩ := someRow_ok hc 12 (min n 12) [] p1 s1 (by omega) (by decide) (by omega) (by omega)
  refine ⟨r', p', s', ?_, hl, by omega⟩
  unfold spec_l1Cur_row.f spec_l1Cur_someRow.f
  simp only [e1, l1Least_eq, Option.bind_some]
  exact Ev.bind h (Ev.now _)

theorem drawStand_ok {c : List Int} (hc : Code8 c) : ∃ r a b w, Ev (fun k => spec_DrawStandPlaces.f k c) (r, a, b, w) ∧ r.length ≤ 13 := by
  obtain ⟨r, p1, s1, h, hl, hp⟩ := row_ok hc 0 0 (by omega) (by omega)
  obtain ⟨a, b, p2, s2, e2, hp2⟩ := base_ok hc s1 (show 0 ≤ p1 by omega) (by omega)
  obtain ⟨x, p3, s3, e3, hp3, _⟩ := among_ok hc s2 [1, 3, 10, 40, 99, 100, 0] (show 0 ≤ p2 by omega) (by omega) (by decide)
  refine ⟨r, a, b, x, ?_, hl⟩
  unfold spec_DrawStandPlaces.f
  refine Ev.bind h ?_
  simp only [e2, e3, Option.bind_some]
  exact Ev.now _
theorem drawLeast_ok {c : List Int} (hc : Code8 c) : ∃ r a b w, Ev (fun k => spec_DrawLeastCounter.f k c) (r, a, b, w) ∧ r.length ≤ 13 := by
  obtain ⟨r, p1, s1, h, hl, hp⟩ := row_ok hc 0 0 (by omega) (by omega)
  obtain ⟨a, b, p2, s2, e2, hp2⟩ := base_ok hc s1 (show 0 ≤ p1 by omega) (by omega)
  obtain ⟨x, p3, s3, e3, hp3⟩ := placeIn_ok hc s2 (show 0 ≤ p2 by omega) (by omega)
  refine ⟨r, a, b, x, ?_, hl⟩
  unfold spec_DrawLeastCounter.f
  refine Ev.bind h ?_
  simp only [e2, e3, Option.bind_some]
  exact Ev.now _

theorem fstOf {α β : Type} {a x : α} {b y : β} (h : (a, b) = (x, y)) : a = x := congrArg Prod.fst h
theorem sndOf {α β : Type} {a x : α} {b y : β} (h : (a, b) = (x, y)) : b = y := congrArg Prod.snd h
theorem TipSide_with (l : List (S33)) {a b p w : Int} (hr : rowB l = true) (h12 : l.length < 12) (hb : baseB a b = true) (hp : 0 ≤ p ∧ p ≤ 60) (hw : 1 ≤ w ∧ w ≤ 99) :
    Ev (fun k => impl_TipSide.f k (l ++ [⟨p, w⟩]) a b) (sideW (l ++ [⟨p, w⟩]) a b, true) := by
  refine Ev.as (implTipSide_ev (l ++ [⟨p, w⟩]) a b (by rw [List.length_append, List.length_singleton]; omega)) ?_
  unfold TipSideR
  rw [if_pos]
  rw [hb, Bool.and_true]
  exact (rowB_iff _).2 ⟨by rw [List.length_append, List.length_singleton]; omega, okL_append (okL_of hr) ⟨hp, hw⟩⟩
/-- The moment grows with the place. -/
theorem stand_between {l : List (S33)} {a b p q r w : Int} (h : okL l) (hl : l.length ≤ 12) (ha : 0 ≤ a ∧ a ≤ 60) (hb : 0 ≤ b ∧ b ≤ 60) (hw : 1 ≤ w ∧ w ≤ 99) (h0 : 0 ≤ p) (h1 : r ≤ 60) (hpq : p ≤ q) (hqr : q ≤ r)
    (hp : standB l a b p w = true) (hr : standB l a b r w = true) : standB l a b q w = true := by
  rw [standB_iff h hl ha hb ⟨by omega, by omega⟩ hw] at hp hr ⊢
  have e1 := Int.mul_le_mul_of_nonneg_left (show p - a ≤ q - a by omega) (show 0 ≤ w by omega)
  have e2 := Int.mul_le_mul_of_nonneg_left (show q - b ≤ r - b by omega) (show 0 ≤ w by omega)
  omega
theorem spanFrom_spec (st : Int → Bool) : ∀ (d : Nat) (lo hi p : Int), 0 ≤ p → ((lo < 0 ∧ ∀ q, 0 ≤ q → q < p → st q = false) ∨ (0 ≤ lo ∧ lo ≤ hi ∧ hi < p ∧ st lo = true ∧ st hi = true ∧ ∀ q, 0 ≤ q → q < p → st q = true → lo ≤ q ∧ q ≤ hi)) →
    ((spanFrom st d lo hi p).1 < 0 ∧ ∀ q, 0 ≤ q → q < p + d → st q = false) ∨ (0 ≤ (spanFrom st d lo hi p).1 ∧ (spanFrom st d lo hi p).1 ≤ (spanFrom st d lo hi p).2 ∧ (spanFrom st d lo hi p).2 < p + d ∧ st (spanFrom st d lo hi p).1 = true ∧ st (spanFrom st d lo hi p).2 = true ∧ ∀ q, 0 ≤ q → q < p + d → st q = true → (spanFrom st d lo hi p).1 ≤ q ∧ q ≤ (spanFrom st d lo hi p).2) := by
  intro d
  induction d with
  | zero =>
    intro lo hi p h0 h
    unfold spanFrom
    simpa using h
  | succ d ih =>
    intro lo hi p h0 h
    unfold spanFrom
    rw [show p + ((d + 1 : Nat) : Int) = (p + 1) + (d : Int) by omega]
    cases hs : st p
    · simp only [Bool.false_eq_true, if_false]
      refine ih lo hi (p + 1) (by omega) ?_
      rcases h with ⟨h1, h2⟩ | ⟨h1, h2, h3, h4, h5, h6⟩
      · refine .inl ⟨h1, fun q q0 q1 => ?_⟩
        by_cases e : q = p
        · rw [e]; exact hs
        · exact h2 q q0 (by omega)
      · refine .inr ⟨h1, h2, by omega, h4, h5, fun q q0 q1 q2 => ?_⟩
        by_cases e : q = p
        · rw [e, hs] at q2; cases q2
        · exact h6 q q0 (by omega) q2
    · simp only [if_true]
      refine ih _ p (p + 1) (by omega) ?_
      rcases h with ⟨h1, h2⟩ | ⟨h1, h2, h3, h4, h5, h6⟩
      · rw [if_pos h1]
        refine .inr ⟨h0, Int.le_refl _, by omega, hs, hs, fun q q0 q1 q2 => ?_⟩
        by_cases e : q = p
        · omega
        · rw [h2 q q0 (by omega)] at q2; cases q2
      · rw [if_neg (by omega)]
        refine .inr ⟨h1, by omega, by omega, h4, hs, fun q q0 q1 q2 => ?_⟩
        by_cases e : q = p
        · omega
        · have := h6 q q0 (by omega) q2; omega
/-- Where a row stands, for every place. -/
theorem stand_span {l : List (S33)} {a b w : Int} (h : okL l) (hl : l.length ≤ 12) (ha : 0 ≤ a ∧ a ≤ 60) (hb : 0 ≤ b ∧ b ≤ 60) (hw : 1 ≤ w ∧ w ≤ 99) (hs : ¬ (spanFrom (fun p => standB l a b p w) 61 (-1) (-1) 0).1 < 0) (q : Int) (q0 : 0 ≤ q) (q1 : q ≤ 60) :
    standB l a b q w = decide (q ≥ (spanFrom (fun p => standB l a b p w) 61 (-1) (-1) 0).1 ∧ q ≤ (spanFrom (fun p => standB l a b p w) 61 (-1) (-1) 0).2) := by
  rcases spanFrom_spec (fun p => standB l a b p w) 61 (-1) (-1) 0 (by omega) (.inl ⟨by omega, fun q _ _ => by omega⟩) with ⟨h1, _⟩ | ⟨h1, h2, h3, h4, h5, h6⟩
  · exact absurd h1 hs
  · by_cases hq : standB l a b q w = true
    · rw [hq]
      exact (decide_eq_true (h6 q q0 (by omega) hq)).symm
    · rw [Bool.eq_false_iff.2 hq]
      refine (decide_eq_false fun hh => hq ?_).symm
      exact stand_between h hl ha hb hw (by omega) (by omega) hh.1 hh.2 h4 h5
theorem leastW_spec (st : Int → Bool) : ∀ (d : Nat) (w : Int), (leastW st d w).2 = true → w ≤ (leastW st d w).1 ∧ (leastW st d w).1 < w + d ∧ st (leastW st d w).1 = true ∧ ∀ v, w ≤ v → v < (leastW st d w).1 → st v = false := by
  intro d
  induction d with
  | zero => intro w h; simp [leastW] at h
  | succ d ih =>
    intro w h
    unfold leastW at h ⊢
    cases hs : st w
    · simp only [hs, Bool.false_eq_true, if_false] at h ⊢
      have := ih (w + 1) h
      refine ⟨by omega, by omega, this.2.2.1, fun v v0 v1 => ?_⟩
      by_cases e : v = w
      · rw [e]; exact hs
      · exact this.2.2.2 v (by omega) v1
    · simp only [hs, if_true]
      exact ⟨Int.le_refl _, by omega, trivial, fun v v0 v1 => by omega⟩
/-- The last question: one more than the most does not stand. -/
def lastQ (m : Int) (two : Bool) : Prop := two = true → m < 99
theorem beyond_ev (c : List (S33)) (d e p most : Int) (two : Bool) (hc : c.length ≤ 13) (hm : MostExtraR c d e p = (most, two)) (h1 : two = true) (h2 : most < 99) :
    ∃ s, Ev (fun k => impl_TipSide.f k (c ++ [⟨p, wrap64 (most + 1)⟩]) d e) (s, true) ∧ (s != 0) = true := by
  unfold MostExtraR at hm
  split at hm
  · rename_i h
    obtain ⟨hrb, hp, h12, hz⟩ := h
    have hrb' := Bool.and_eq_true_iff.1 hrb
    have hmost : mostD (standB c d e p) 99 = most := (fstOf hm)
    have hle := mostD_le (standB c d e p) 99
    rw [w64 (show -9223372036854775808 ≤ most + 1 by omega) (by omega)]
    refine ⟨_, TipSide_with c hrb'.1 h12 hrb'.2 hp ⟨by omega, by omega⟩, ?_⟩
    have := mostD_beyond (standB c d e p) 99 (most + 1) (by omega) (by omega)
    unfold standB at this
    rw [bne, this]
    rfl
  · rw [← (sndOf hm)] at h1
    cases h1
theorem afterMost (c : List (S33)) (d e p most : Int) (two : Bool) (hc : c.length ≤ 13) (hm : MostExtraR c d e p = (most, two)) {g : Nat → Option Bool}
    (hg : ∀ k, g (k + 1) = if two = true then (if most < 99 then ((some (([] : List (S33)) : List (S33))).bind fun y => (if y.length + c.length < 8796093022208 then ((some (y ++ c : List (S33))).bind fun z => (if z.length < 8796093022208 then ((impl_TipSide.f k (z ++ [(⟨p, wrap64 (most + 1)⟩ : S33)]) d e).bind fun b => (if b.2 = true then (some (b.1 != 0)) else (some false))) else (none))) else (none))) else (some true)) else (some true)) :
    Ev g true := by
  refine Ev.step hg ?_
  by_cases h1 : two = true
  · simp only [if_pos h1]
    by_cases h2 : most < 99
    · obtain ⟨s, he, hs⟩ := beyond_ev c d e p most two hc hm h1 h2
      simp only [if_pos h2, Option.bind_some, List.length_nil, List.nil_append]
      simp only [if_pos (show 0 + c.length < 8796093022208 by omega), if_pos (show c.length < 8796093022208 by omega)]
      refine Ev.bind he ?_
      simp only [if_true, hs]
      exact Ev.now _
    · simp only [if_neg h2]; exact Ev.now _
  · simp only [if_neg h1]; exact Ev.now _
theorem counter_loop (c : List (S33)) (d e p counter most : Int) (two : Bool) (hc : c.length ≤ 13) (hm : MostExtraR c d e p = (most, two)) (hk : LeastCounterR c d e p = (counter, true)) :
    ∀ (n : Nat) (w : Int), counter - 1 ≤ w → counter + 1 - w = n → Ev (fun k => laws_FnCounters.l1 k c d e p counter most two w) true := by
  unfold LeastCounterR at hk
  split at hk
  · rename_i h
    have hrb := Bool.and_eq_true_iff.1 h.1
    have hcnt : (counter = 0) ∨ (c.length < 12 ∧ 1 ≤ counter ∧ counter ≤ 99 ∧ ∀ v, 1 ≤ v → v ≤ counter → (standB c d e p v == (v == counter)) = true) := by
      split at hk
      · exact .inl (fstOf hk).symm
      · split at hk
        · rename_i h12
          have hs := leastW_spec (standB c d e p) 99 1 (by rw [hk])
          rw [hk] at hs
          refine .inr ⟨h12, hs.1, by have := hs.2.1; omega, fun v v0 v1 => ?_⟩
          by_cases ev : v = counter
          · rw [ev, hs.2.2.1]; simp
          · rw [hs.2.2.2 v v0 (by simp only at *; omega)]; simp [ev]
        · cases (sndOf hk)
    intro n
    induction n with
    | zero =>
      intro w hw hn
      refine Ev.step (fun k => by rw [laws_FnCounters.l1]) ?_
      simp only [if_neg (show ¬ w ≤ counter by omega)]
      refine afterMost c d e p most two hc hm (fun k => by rw [laws_FnCounters.j7]; simp only [Bool.false_eq_true, if_false])
    | succ n ih =>
      intro w hw hn
      refine Ev.step (fun k => by rw [laws_FnCounters.l1]) ?_
      simp only [if_pos (show w ≤ counter by omega)]
      rcases hcnt with h0 | ⟨h12, c1, c2, hst⟩
      · simp only [decide_eq_false (show ¬ counter > 0 by omega)]
        refine afterMost c d e p most two hc hm (fun k => by rw [laws_FnCounters.j7]; simp only [Bool.false_eq_true, if_false])
      · simp only [decide_eq_true (show counter > 0 by omega)]
        refine Ev.step (fun k => by rw [laws_FnCounters.j7]) ?_
        simp only [if_true, w64 (show -9223372036854775808 ≤ w + 1 by omega) (by omega)]
        by_cases hz : w = 0
        · simp only [if_pos hz]
          exact ih (w + 1) (by omega) (by omega)
        · simp only [if_neg hz, Option.bind_some, List.length_nil, List.nil_append]
          simp only [if_pos (show 0 + c.length < 8796093022208 by omega), if_pos (show c.length < 8796093022208 by omega)]
          refine Ev.bind (TipSide_with c hrb.1 h12 hrb.2 h.2 ⟨by omega, by omega⟩) ?_
          have hv := hst w (by omega) (by omega)
          unfold standB at hv
          rw [beq_iff_eq] at hv
          simp only [if_true, hv, bne_self_eq_false, Bool.false_eq_true, if_false]
          exact ih (w + 1) (by omega) (by omega)
  · cases (sndOf hk)
theorem afterSpan (c : List (S33)) (d e p counter most : Int) (one two : Bool) (hc : c.length ≤ 13) (hm : MostExtraR c d e p = (most, two)) (hk : LeastCounterR c d e p = (counter, one)) :
    Ev (fun k => laws_FnCounters.j4 k c d e p counter one most two) true := by
  cases one
  · exact afterMost c d e p most two hc hm (fun k => by rw [laws_FnCounters.j4]; simp only [Bool.false_eq_true, if_false])
  · refine Ev.step (fun k => by rw [laws_FnCounters.j4]) ?_
    simp only [if_true]
    have hk' := hk
    unfold LeastCounterR at hk'
    split at hk'
    · rename_i h
      refine Ev.bind (Ev.as (implTipSide_ev c d e (by omega)) (show TipSideR c d e = (sideW c d e, true) by unfold TipSideR; rw [if_pos h.1])) ?_
      have hside : ((sideW c d e == 0) != (counter == 0)) = false := by
        split at hk'
        · rename_i h0
          rw [h0, ← (fstOf hk')]; rfl
        · rename_i h0
          split at hk'
          · have hs := leastW_spec (standB c d e p) 99 1 (by rw [hk'])
            rw [hk'] at hs
            have : counter ≠ 0 := by have := hs.1; simp only at this; omega
            rw [beq_eq_false_iff_ne.2 h0, beq_eq_false_iff_ne.2 this]; rfl
          · cases (sndOf hk')
      simp only [if_true, hside]
      refine Ev.step (fun k => by rw [laws_FnCounters.j5]) ?_
      simp only [Bool.false_eq_true, if_false]
      have hb : 0 ≤ counter ∧ counter ≤ 99 := by
        split at hk'
        · rw [← (fstOf hk')]; omega
        · split at hk'
          · have hs := leastW_spec (standB c d e p) 99 1 (by rw [hk'])
            rw [hk'] at hs
            have := hs.1; have := hs.2.1
            simp only at *; omega
          · cases (sndOf hk')
      rw [w64 (show -9223372036854775808 ≤ counter - 1 by omega) (by omega)]
      exact counter_loop c d e p counter most two hc hm hk 2 (counter - 1) (by omega) (by omega)
    · cases (sndOf hk')
theorem span_loop (r c : List (S33)) (a b w low high d e p counter most : Int) (one two : Bool) (hc : c.length ≤ 13) (hm : MostExtraR c d e p = (most, two)) (hk : LeastCounterR c d e p = (counter, one)) (hs : StandPlacesR r a b w = (low, high, true)) :
    ∀ (n : Nat) (q : Int), 0 ≤ q → 61 - q = n → Ev (fun k => laws_FnCounters.l0 k r a b w low high c d e p counter one most two q) true := by
  unfold StandPlacesR at hs
  split at hs
  · rename_i h
    obtain ⟨hrb, h12, hw⟩ := h
    have hrb' := Bool.and_eq_true_iff.1 hrb
    have hb := (baseB_iff a b).1 hrb'.2
    unfold spanR at hs
    split at hs
    · cases (sndOf (sndOf hs))
    · rename_i hneg
      have e1 : _ = low := (fstOf hs)
      have e2 : _ = high := (fstOf (sndOf hs))
      have hspan := stand_span (okL_of hrb'.1) (by omega) hb.1 hb.2.1 hw hneg
      rw [e1, e2] at hspan
      intro n
      induction n with
      | zero =>
        intro q q0 hn
        refine Ev.step (fun k => by rw [laws_FnCounters.l0]) ?_
        simp only [if_neg (show ¬ q ≤ 60 by omega)]
        exact afterSpan c d e p counter most one two hc hm hk
      | succ n ih =>
        intro q q0 hn
        refine Ev.step (fun k => by rw [laws_FnCounters.l0]) ?_
        simp only [if_pos (show q ≤ 60 by omega), Option.bind_some, List.length_nil, List.nil_append]
        simp only [if_pos (show 0 + r.length < 8796093022208 by omega), if_pos (show r.length < 8796093022208 by omega)]
        refine Ev.bind (TipSide_with r hrb'.1 h12 hrb'.2 ⟨q0, by omega⟩ hw) ?_
        have hv := hspan q q0 (by omega)
        unfold standB at hv
        simp only [if_true, hv, w64 (show -9223372036854775808 ≤ q + 1 by omega) (by omega)]
        have next := ih (q + 1) (by omega) (by omega)
        by_cases hq : q ≥ low
        · simp only [if_pos hq, hq, true_and, bne_self_eq_false, Bool.false_eq_true, if_false]
          exact next
        · simp only [if_neg hq, hq, false_and, decide_false, bne_self_eq_false, Bool.false_eq_true, if_false]
          exact next
  · cases (sndOf (sndOf hs))
theorem rBig_eq (c : List Int) : laws_rBig.f c = some (decide ((c.length : Int) > 65536)) := rfl
theorem FnCounters : laws_FnCounters.Pure := by
  intro c hc1 hc2 hc3
  have hc := code8 hc2 hc3
  refine Ev.rounds ?_
  unfold laws_FnCounters.f
  simp only [rBig_eq, Option.bind_some]
  by_cases hbig : (c.length : Int) > 65536
  · simp only [hbig, decide_true, if_true]; exact Ev.now _
  simp only [hbig, decide_false, Bool.false_eq_true, if_false]
  obtain ⟨r, a, b, w, hdraw, hr⟩ := drawStand_ok hc
  refine Ev.bind hdraw (Ev.bind (implStandPlaces_ev r a b w (by omega)) (Ev.bind (specStandPlaces_ev r a b w (by omega)) ?_))
  simp only [if_true, bne_self_eq_false]
  refine Ev.step (fun k => by rw [laws_FnCounters.j0]) ?_
  simp only [Bool.false_eq_true, if_false]
  obtain ⟨c', d, e, p, hdraw2, hl⟩ := drawLeast_ok hc
  refine Ev.bind hdraw2 (Ev.bind (implLeastCounter_ev c' d e p (by omega)) (Ev.bind (specLeastCounter_ev c' d e p (by omega)) ?_))
  simp only [if_true, bne_self_eq_false]
  refine Ev.step (fun k => by rw [laws_FnCounters.j1]) ?_
  simp only [Bool.false_eq_true, if_false]
  refine Ev.bind (implMostExtra_ev c' d e p (by omega)) (Ev.bind (specMostExtra_ev c' d e p (by omega)) ?_)
  simp only [if_true, bne_self_eq_false]
  refine Ev.step (fun k => by rw [laws_FnCounters.j2]) ?_
  simp only [Bool.false_eq_true, if_false]
  cases hok : (StandPlacesR r a b w).2.2
  · simp only [Bool.false_eq_true, if_false]
    exact afterSpan c' d e p _ _ _ _ hl rfl rfl
  · simp only [if_true]
    exact span_loop r c' a b w _ _ d e p _ _ _ _ hl rfl rfl (by rw [← hok]) 61 0 (by omega) (by omega)


end Go.Proofs.Ytfjcnpoigndfjaa.Pure

