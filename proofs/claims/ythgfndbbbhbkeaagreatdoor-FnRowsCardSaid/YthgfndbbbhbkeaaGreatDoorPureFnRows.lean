/- The rows: joined, merged and shifted ones have the moments of their Loads; texts tell rows. -/
import Derived.Test.YthgfndbbbhbkeaaGreatDoorPFnRowsx12
import Derived.Lib.AtoiTie
import Derived.Lib.AtoiAllCases
import Derived.Test.YthgfndbbbhbkeaaGreatDoorLib
set_option linter.unusedVariables false
set_option linter.unusedSimpArgs false
namespace Go.Proofs.YthgfndbbbhbkeaaGreatDoor.Pure
open Go.RowKit Go.Proofs.YthgfndbbbhbkeaaGreatDoor.PFnRows Go.Proofs.YthgfndbbbhbkeaaGreatDoorW.PrintWords Go.Proofs.YthgfndbbbhbkeaaGreatDoorW.PrintLast Go.Proofs.YthgfndbbbhbkeaaGreatDoor.Lib

theorem l1In_eq (a b c : Int) : spec_l1In.f a b c = some (decide (b ≤ a ∧ a ≤ c)) := by
  unfold spec_l1In.f
  by_cases h : a ≥ b
  · rw [if_pos h]
    congr 1
    simp only [decide_eq_decide]
    omega
  · rw [if_neg h]
    congr 1
    simp only [Bool.false_eq, decide_eq_false_iff_not]
    omega

theorem within_eq (a b c : Int) : impl_within.f a b c = some (decide (b ≤ a ∧ a ≤ c)) := by
  unfold impl_within.f
  by_cases h : a ≥ b
  · rw [if_pos h]
    congr 1
    simp only [decide_eq_decide]
    omega
  · rw [if_neg h]
    congr 1
    simp only [Bool.false_eq, decide_eq_false_iff_not]
    omega

theorem isWeight_eq (a : Int) : impl_isWeight.f a = some (decide (1 ≤ a ∧ a ≤ 99)) := by
  unfold impl_isWeight.f
  simp only [within_eq, Option.bind_some]

/-- Loads that are a row. -/
def rowB (l : List (S42)) : Bool := decide (l.length ≤ 12) && l.all rowItem
theorem rowItem_iff (x : S42) : rowItem x = true ↔ (0 ≤ x.f0 ∧ x.f0 ≤ 60) ∧ (1 ≤ x.f1 ∧ x.f1 ≤ 99) := by
  unfold rowItem; simp
theorem rowB_iff (l : List (S42)) : rowB l = true ↔ l.length ≤ 12 ∧ ∀ x ∈ l, (0 ≤ x.f0 ∧ x.f0 ≤ 60) ∧ (1 ≤ x.f1 ∧ x.f1 ≤ 99) := by
  unfold rowB
  rw [Bool.and_eq_true, decide_eq_true_eq, List.all_eq_true]
  simp only [rowItem_iff]
theorem implIsRow_eq (l : List (S42)) : impl_IsRow.f l = some (rowB l) := rfl

theorem l2In_eq (a : Int) : spec_l2In.f a = some (decide (0 ≤ a ∧ a ≤ 60)) := by
  unfold spec_l2In.f
  simp only [l1In_eq, Option.bind_some]
theorem rdL_mem {l : List (S42)} {i : Int} (h0 : 0 ≤ i) (h1 : i < l.length) : rd_T42 l i ∈ l := by
  unfold rd_T42
  rw [getD_lt _ (by omega)]
  exact List.getElem_mem _
theorem all_rd {l : List (S42)} {p : S42 → Bool} : l.all p = true ↔ ∀ i : Int, 0 ≤ i → i < l.length → p (rd_T42 l i) = true := by
  rw [List.all_eq_true]
  refine ⟨fun h i h0 h1 => h _ (rdL_mem h0 h1), fun h x hx => ?_⟩
  obtain ⟨j, hj, rfl⟩ := List.getElem_of_mem hx
  have := h j (by omega) (by omega)
  unfold rd_T42 at this
  rwa [Int.toNat_natCast, getD_lt _ hj] at this
theorem l2Row_ev (l : List (S42)) : Ev (fun k => spec_l2Row.f k l) (rowB l) := by
  unfold spec_l2Row.f
  -- the loop goes over at most 13 loads
  have yes : ∀ i : Int, 0 ≤ i → i < (l.length : Int) → i ≤ 12 → rowItem (rd_T42 l i) = true → ∀ r, Ev (fun k => spec_l2Row.l0 k l (i + 1)) r → Ev (fun k => spec_l2Row.l0 k l i) r := by
    intro i h0 h1 h2 hp r h
    rw [rowItem_iff] at hp
    refine Ev.step (fun k => by rw [spec_l2Row.l0]) ?_
    simp only [if_pos h1, decide_eq_true h2]
    refine Ev.step (fun k => by rw [spec_l2Row.j1]) ?_
    simp only [if_true, if_pos h0, if_pos h1, l2In_eq, l1In_eq, Option.bind_some, decide_eq_true_eq, if_pos hp.1, if_pos hp.2, w64 (show -9223372036854775808 ≤ i + 1 by omega) (by omega)]
    exact h
  have no : ∀ i : Int, 0 ≤ i → i < (l.length : Int) → i ≤ 12 → ¬ rowItem (rd_T42 l i) = true → Ev (fun k => spec_l2Row.l0 k l i) false := by
    intro i h0 h1 h2 hp
    rw [rowItem_iff] at hp
    refine Ev.step (fun k => by rw [spec_l2Row.l0]) ?_
    simp only [if_pos h1, decide_eq_true h2]
    refine Ev.step (fun k => by rw [spec_l2Row.j1]) ?_
    simp only [if_true, if_pos h0, if_pos h1, l2In_eq, l1In_eq, Option.bind_some, decide_eq_true_eq]
    by_cases hq : 0 ≤ (rd_T42 l i).f0 ∧ (rd_T42 l i).f0 ≤ 60
    · simp only [if_pos hq, if_neg (show ¬ (1 ≤ (rd_T42 l i).f1 ∧ (rd_T42 l i).f1 ≤ 99) from fun h => hp ⟨hq, h⟩)]
      exact Ev.now _
    · simp only [if_neg hq]
      exact Ev.now _
  have endd : ∀ i : Int, 0 ≤ i → (i = (l.length : Int) ∨ (i = 13 ∧ i ≤ l.length)) → Ev (fun k => spec_l2Row.l0 k l i) (decide (l.length ≤ 12)) := by
    intro i h0 h1
    refine Ev.step (fun k => by rw [spec_l2Row.l0]) ?_
    by_cases h2 : i < (l.length : Int)
    · simp only [if_pos h2, decide_eq_false (show ¬ i ≤ 12 by omega)]
      refine Ev.step (fun k => by rw [spec_l2Row.j1]) ?_
      simp only [Bool.false_eq_true, if_false]
      exact Ev.some (by simp only [decide_eq_decide]; omega)
    · simp only [if_neg h2]
      refine Ev.step (fun k => by rw [spec_l2Row.j1]) ?_
      simp only [Bool.false_eq_true, if_false]
      exact Ev.some (by simp only [decide_eq_decide]; omega)
  by_cases hl : l.length ≤ 12
  · have h := Ev.count' (l := fun k i => spec_l2Row.l0 k l i) (n := l.length) (P := fun i => rowItem (rd_T42 l i) = true) (a := decide (l.length ≤ 12)) (b := false) (by omega)
      (fun i h0 h1 hp r h => yes i h0 h1 (by omega) hp r h) (fun i h0 h1 hp => no i h0 h1 (by omega) hp) (fun i h0 h1 => endd i h0 (.inl h1))
    refine Ev.as h ?_
    unfold rowB
    split
    · rename_i hc
      rw [all_rd.2 hc, Bool.and_true]
    · rename_i hc
      rw [Bool.eq_false_iff.2 (fun h => hc (all_rd.1 h)), Bool.and_false]
  · have h := Ev.count' (l := fun k i => spec_l2Row.l0 k l i) (n := 13) (P := fun i => rowItem (rd_T42 l i) = true) (a := decide (l.length ≤ 12)) (b := false) (by omega)
      (fun i h0 h1 hp r h => yes i h0 (by omega) (by omega) hp r h) (fun i h0 h1 hp => no i h0 (by omega) (by omega) hp) (fun i h0 h1 => endd i h0 (.inr ⟨h1, by omega⟩))
    refine Ev.as h ?_
    unfold rowB
    rw [decide_eq_false hl, Bool.false_and]
    split <;> rfl

def wtStep (s : Int) (x : S42) : Int := wrap64 (s + x.f1)
def momStep (p : Int) (s : Int) (x : S42) : Int := wrap64 (s + wrap64 (x.f1 * wrap64 (x.f0 - p)))
/-- The weight, and the moment about p, as the machine sums them. -/
def wtW (l : List (S42)) : Int := l.foldl wtStep 0
def momW (l : List (S42)) (p : Int) : Int := l.foldl (momStep p) 0
theorem take_succ_rd (l : List (S42)) (i : Int) (h0 : 0 ≤ i) (h1 : i < l.length) : l.take (i + 1).toNat = l.take i.toNat ++ [rd_T42 l i] := by
  rw [toNat_succ h0, List.take_add_one, List.getElem?_eq_getElem (by omega)]
  unfold rd_T42
  rw [getD_lt _ (by omega)]
  rfl

theorem implMoment_ev (l : List (S42)) (p : Int) (hl : l.length ≤ 9223372036854775806) : Ev (fun k => impl_momentAbout.f k l p) (momW l p) := by
  unfold impl_momentAbout.f
  have h := Ev.fold (l := fun k s i => impl_momentAbout.l0 k p s l l.length i) (n := l.length) (fun i => (l.take i.toNat).foldl (momStep p) 0) (a := momW l p)
    (fun i h0 h1 r h => by
      refine Ev.step (fun k => by rw [impl_momentAbout.l0]) ?_
      simp only [if_pos h1, if_pos h0, w64 (show -9223372036854775808 ≤ i + 1 by omega) (by omega)]
      rw [take_succ_rd l i h0 h1, List.foldl_append] at h
      exact h)
    (by
      refine Ev.step (fun k => by rw [impl_momentAbout.l0]) ?_
      simp only [if_neg (show ¬ (l.length : Int) < l.length by omega)]
      exact Ev.some (by simp [momW]))
    l.length 0 (by omega) (by omega)
  simpa using h

theorem implWeight_ev (l : List (S42)) (hl : l.length ≤ 9223372036854775806) : Ev (fun k => impl_weightOf.f k l) (wtW l) := by
  unfold impl_weightOf.f
  have h := Ev.fold (l := fun k s i => impl_weightOf.l0 k s l l.length i) (n := l.length) (fun i => (l.take i.toNat).foldl wtStep 0) (a := wtW l)
    (fun i h0 h1 r h => by
      refine Ev.step (fun k => by rw [impl_weightOf.l0]) ?_
      simp only [if_pos h1, if_pos h0, w64 (show -9223372036854775808 ≤ i + 1 by omega) (by omega)]
      rw [take_succ_rd l i h0 h1, List.foldl_append] at h
      exact h)
    (by
      refine Ev.step (fun k => by rw [impl_weightOf.l0]) ?_
      simp only [if_neg (show ¬ (l.length : Int) < l.length by omega)]
      exact Ev.some (by simp [wtW]))
    l.length 0 (by omega) (by omega)
  simpa using h

theorem isPlace_eq (a : Int) : impl_isPlace.f a = some (decide (0 ≤ a ∧ a ≤ 60)) := by
  unfold impl_isPlace.f
  simp only [within_eq, Option.bind_some]
/-- Two places that are a base. -/
def baseB (a b : Int) : Bool := decide ((0 ≤ a ∧ a ≤ 60) ∧ (0 ≤ b ∧ b ≤ 60) ∧ a ≤ b)
theorem isBase_eq (a b : Int) : impl_isBase.f a b = some (baseB a b) := by
  unfold impl_isBase.f baseB
  simp only [isPlace_eq, Option.bind_some, decide_eq_true_eq]
  by_cases h1 : 0 ≤ a ∧ a ≤ 60 <;> by_cases h2 : 0 ≤ b ∧ b ≤ 60 <;> simp [h1, h2]
def WeightOfR (l : List (S42)) : Int × Bool := if rowB l = true then (wtW l, true) else (0, false)
theorem implWeightOf_ev (l : List (S42)) (hl : l.length ≤ 9223372036854775806) : Ev (fun k => impl_WeightOf.f k l) (WeightOfR l) := by
  unfold impl_WeightOf.f WeightOfR
  simp only [implIsRow_eq, Option.bind_some]
  by_cases h : rowB l = true
  · simp only [h, if_true]
    exact Ev.bind (implWeight_ev l hl) (Ev.now _)
  · simp only [h, if_false, Bool.false_eq_true]
    exact Ev.now _
def sideW (l : List (S42)) (a b : Int) : Int := if momW l a < 0 then -1 else if momW l b > 0 then 1 else 0
theorem tipSide_ev (l : List (S42)) (a b : Int) (hl : l.length ≤ 9223372036854775806) : Ev (fun k => impl_tipSide.f k l a b) (sideW l a b) := by
  unfold impl_tipSide.f sideW
  refine Ev.bind (implMoment_ev l a hl) ?_
  split
  · exact Ev.now _
  · refine Ev.bind (implMoment_ev l b hl) ?_
    split <;> exact Ev.now _

theorem prod_bound {a d : Int} (h1 : 1 ≤ a) (h2 : a ≤ 99) (h3 : -60 ≤ d) (h4 : d ≤ 60) : -5940 ≤ a * d ∧ a * d ≤ 5940 := by
  by_cases h : 0 ≤ d
  · have e1 := Int.mul_le_mul_of_nonneg_right h2 h
    have e2 := Int.mul_nonneg (show 0 ≤ a by omega) h
    omega
  · have e1 := Int.mul_le_mul_of_nonneg_right h2 (show 0 ≤ -d by omega)
    have e2 := Int.mul_nonneg (show 0 ≤ a by omega) (show 0 ≤ -d by omega)
    rw [Int.mul_neg] at e1 e2
    omega
/-- The weight, and the moment about p. -/
def wt : List (S42) → Int
  | [] => 0
  | x :: l => x.f1 + wt l
def mom (p : Int) : List (S42) → Int
  | [] => 0
  | x :: l => x.f1 * (x.f0 - p) + mom p l
def okL (l : List (S42)) : Prop := ∀ x ∈ l, (0 ≤ x.f0 ∧ x.f0 ≤ 60) ∧ (1 ≤ x.f1 ∧ x.f1 ≤ 99)
theorem okL_cons {x : S42} {l : List (S42)} (h : okL (x :: l)) : ((0 ≤ x.f0 ∧ x.f0 ≤ 60) ∧ (1 ≤ x.f1 ∧ x.f1 ≤ 99)) ∧ okL l :=
  ⟨h x (List.mem_cons_self ..), fun y hy => h y (List.mem_cons_of_mem _ hy)⟩
theorem wt_bounds : ∀ l : List (S42), okL l → (l.length : Int) ≤ wt l ∧ wt l ≤ 99 * l.length
  | [], _ => by simp [wt]
  | x :: l, h => by
    have h' := okL_cons h
    have ih := wt_bounds l h'.2
    simp only [wt, List.length_cons]
    omega
theorem mom_bounds (p : Int) (hp : 0 ≤ p ∧ p ≤ 60) : ∀ l : List (S42), okL l → -(5940 * l.length) ≤ mom p l ∧ mom p l ≤ 5940 * l.length
  | [], _ => by simp [mom]
  | x :: l, h => by
    have h' := okL_cons h
    have ih := mom_bounds p hp l h'.2
    have hb := prod_bound (d := x.f0 - p) h'.1.2.1 h'.1.2.2 (by omega) (by omega)
    simp only [mom, List.length_cons]
    omega
theorem mom0_nonneg : ∀ l : List (S42), okL l → 0 ≤ mom 0 l
  | [], _ => by simp [mom]
  | x :: l, h => by
    have h' := okL_cons h
    have ih := mom0_nonneg l h'.2
    have hb := Int.mul_nonneg (show 0 ≤ x.f1 by omega) (show 0 ≤ x.f0 - 0 by omega)
    simp only [mom]
    omega
theorem foldl_wt : ∀ (l : List (S42)) (s : Int), okL l → 0 ≤ s → s + 99 * l.length ≤ 1000000 → l.foldl wtStep s = s + wt l
  | [], s, _, _, _ => by rw [List.foldl_nil, wt, Int.add_zero]
  | x :: l, s, h, h0, h1 => by
    have h' := okL_cons h
    simp only [List.length_cons] at h1
    rw [List.foldl_cons, wtStep, w64 (by omega) (by omega), foldl_wt l _ h'.2 (by omega) (by omega), wt]
    omega
theorem foldl_mom (p : Int) (hp : 0 ≤ p ∧ p ≤ 60) (l : List (S42)) : ∀ s : Int, okL l → -1000000 + 5940 * (l.length : Int) ≤ s → s + 5940 * (l.length : Int) ≤ 1000000 → l.foldl (momStep p) s = s + mom p l := by
  induction l with
  | nil => intro s _ _ _; rw [List.foldl_nil, mom, Int.add_zero]
  | cons x l ih =>
    intro s h h0 h1
    have h' := okL_cons h
    have hb := prod_bound (d := x.f0 - p) h'.1.2.1 h'.1.2.2 (by omega) (by omega)
    simp only [List.length_cons] at h0 h1
    have e1 : wrap64 (x.f0 - p) = x.f0 - p := w64 (by omega) (by omega)
    have e2 : wrap64 (x.f1 * (x.f0 - p)) = x.f1 * (x.f0 - p) := w64 (by omega) (by omega)
    have e3 : wrap64 (s + x.f1 * (x.f0 - p)) = s + x.f1 * (x.f0 - p) := w64 (by omega) (by omega)
    rw [List.foldl_cons, momStep, e1, e2, e3, ih _ h'.2 (by omega) (by omega), mom, Int.add_assoc]
theorem okL_of {l : List (S42)} (h : rowB l = true) : okL l := ((rowB_iff l).1 h).2
theorem wtW_eq {l : List (S42)} (h : okL l) (hl : l.length ≤ 13) : wtW l = wt l := by
  unfold wtW
  rw [foldl_wt l 0 h (by omega) (by omega), Int.zero_add]
theorem momW_eq {l : List (S42)} {p : Int} (h : okL l) (hl : l.length ≤ 13) (hp : 0 ≤ p ∧ p ≤ 60) : momW l p = mom p l := by
  unfold momW
  rw [foldl_mom p hp l 0 h (by omega) (by omega), Int.zero_add]

theorem mom_append (p : Int) : ∀ (l m : List (S42)), mom p (l ++ m) = mom p l + mom p m
  | [], m => by simp [mom]
  | x :: l, m => by
    rw [List.cons_append, mom, mom, mom_append p l m, Int.add_assoc]
theorem okL_append {l : List (S42)} {x : S42} (h : okL l) (hx : (0 ≤ x.f0 ∧ x.f0 ≤ 60) ∧ (1 ≤ x.f1 ∧ x.f1 ≤ 99)) : okL (l ++ [x]) := by
  intro y hy
  rcases List.mem_append.1 hy with h' | h'
  · exact h y h'
  · rw [List.mem_singleton.1 h']; exact hx
theorem sideW_zero {l : List (S42)} {a b : Int} (h : okL l) (hl : l.length ≤ 13) (ha : 0 ≤ a ∧ a ≤ 60) (hb : 0 ≤ b ∧ b ≤ 60) : sideW l a b = 0 ↔ 0 ≤ mom a l ∧ mom b l ≤ 0 := by
  unfold sideW
  rw [momW_eq h hl ha, momW_eq h hl hb]
  split
  · constructor <;> omega
  · split
    · constructor <;> omega
    · constructor <;> omega
theorem baseB_iff (a b : Int) : baseB a b = true ↔ (0 ≤ a ∧ a ≤ 60) ∧ (0 ≤ b ∧ b ≤ 60) ∧ a ≤ b := by
  unfold baseB; simp

def TipSideR (l : List (S42)) (a b : Int) : Int × Bool := if (rowB l && baseB a b) = true then (sideW l a b, true) else (0, false)
theorem implTipSide_ev (l : List (S42)) (a b : Int) (hl : l.length ≤ 9223372036854775806) : Ev (fun k => impl_TipSide.f k l a b) (TipSideR l a b) := by
  unfold impl_TipSide.f TipSideR
  simp only [implIsRow_eq, isBase_eq, Option.bind_some]
  cases h : rowB l
  · simp only [Bool.false_and, Bool.false_eq_true, if_false]
    exact Ev.now _
  · simp only [if_true, Bool.true_and]
    split
    · exact Ev.bind (tipSide_ev l a b hl) (Ev.now _)
    · exact Ev.now _

def MomentAboutR (l : List (S42)) (p : Int) : Int × Bool := if rowB l = true ∧ 0 ≤ p ∧ p ≤ 60 then (momW l p, true) else (0, false)
theorem implMomentAbout_ev (l : List (S42)) (p : Int) (hl : l.length ≤ 9223372036854775806) : Ev (fun k => impl_MomentAbout.f k l p) (MomentAboutR l p) := by
  unfold impl_MomentAbout.f MomentAboutR
  simp only [implIsRow_eq, Option.bind_some]
  by_cases h : rowB l = true
  · by_cases h2 : 0 ≤ p ∧ p ≤ 60
    · simp only [isPlace_eq, Option.bind_some, h, h2, and_self, decide_true, if_true]
      exact Ev.bind (implMoment_ev l p hl) (Ev.now _)
    · simp only [isPlace_eq, Option.bind_some, h, h2, and_false, decide_false, if_true, Bool.false_eq_true, if_false]
      exact Ev.now _
  · simp only [h, false_and, if_false, Bool.false_eq_true]
    exact Ev.now _
/-- Loads, if they are a row. -/
def keptR (l : List (S42)) : List (S42) × Bool := if rowB l = true then (l, true) else ([], false)
theorem validRow_eq (l : List (S42)) : impl_validRow.f l = some (keptR l) := by
  unfold impl_validRow.f keptR
  simp only [implIsRow_eq, Option.bind_some]
  split <;> rfl
theorem keptR_len {l : List (S42)} : (keptR l).1.length ≤ 12 := by
  unfold keptR
  split
  · rename_i h; exact ((rowB_iff l).1 h).1
  · simp

theorem l2Kept_ev (l : List (S42)) : Ev (fun k => spec_l2Kept.f k l) (keptR l) := by
  unfold spec_l2Kept.f keptR
  refine Ev.bind (l2Row_ev l) ?_
  split <;> exact Ev.now _

def movedW (s by_ : Int) (l : List (S42)) : List (S42) := l.map fun x => ⟨wrap64 (wrap64 (s * x.f0) + by_), x.f1⟩
theorem l2Moved_ev (l : List (S42)) (s by_ : Int) (hl : l.length ≤ 1000) : Ev (fun k => spec_l2Moved.f k l s by_) (movedW s by_ l) := by
  unfold spec_l2Moved.f
  have h := Ev.fold (l := fun k o i => spec_l2Moved.l0 k l s by_ o i) (n := l.length) (fun i => movedW s by_ (l.take i.toNat)) (a := movedW s by_ l)
    (fun i h0 h1 r h => by
      refine Ev.step (fun k => by rw [spec_l2Moved.l0]) ?_
      have hx : (movedW s by_ (l.take i.toNat)).length < 8796093022208 := by
        unfold movedW; rw [List.length_map, List.length_take]; omega
      simp only [if_pos h1, if_pos h0, if_pos hx, w64 (show -9223372036854775808 ≤ i + 1 by omega) (by omega)]
      rw [take_succ_rd l i h0 h1] at h
      simp only [movedW, List.map_append, List.map_cons, List.map_nil] at h ⊢
      exact h)
    (by
      refine Ev.step (fun k => by rw [spec_l2Moved.l0]) ?_
      simp only [if_neg (show ¬ (l.length : Int) < l.length by omega)]
      exact Ev.some (by simp))
    l.length 0 (by omega) (by omega)
  simpa [movedW] using h

def byW (c : Int → Int) (l : List (S42)) : List (S42) := l.map fun x => ⟨c x.f0, x.f1⟩
def placesByR (c : Int → Int) (l : List (S42)) : List (S42) × Bool := if rowB l = true then keptR (byW c l) else ([], false)
theorem placesBy_ev (c : Int → Int) (l : List (S42)) : Ev (fun k => impl_placesBy.f (fun p => some (c p)) k l) (placesByR c l) := by
  unfold impl_placesBy.f placesByR
  simp only [implIsRow_eq, Option.bind_some]
  by_cases hb : rowB l = true
  · have hl := ((rowB_iff l).1 hb).1
    simp only [hb, if_true]
    have h := Ev.fold (l := fun k o i => impl_placesBy.l0 (fun p => some (c p)) k o l l.length i) (n := l.length) (fun i => byW c (l.take i.toNat)) (a := keptR (byW c l))
      (fun i h0 h1 r h => by
        refine Ev.step (fun k => by rw [impl_placesBy.l0]) ?_
        have hx : (byW c (l.take i.toNat)).length < 8796093022208 := by
          unfold byW; rw [List.length_map, List.length_take]; omega
        simp only [if_pos h1, if_pos h0, Option.bind_some, if_pos hx, w64 (show -9223372036854775808 ≤ i + 1 by omega) (by omega)]
        rw [take_succ_rd l i h0 h1] at h
        simp only [byW, List.map_append, List.map_cons, List.map_nil] at h ⊢
        exact h)
      (by
        refine Ev.step (fun k => by rw [impl_placesBy.l0]) ?_
        simp only [if_neg (show ¬ (l.length : Int) < l.length by omega), validRow_eq, Option.bind_some]
        exact Ev.some (by simp))
      l.length 0 (by omega) (by omega)
    simpa [byW] using h
  · simp only [hb, if_false]
    exact Ev.now _
theorem placesByR_len {c : Int → Int} {l : List (S42)} : (placesByR c l).1.length ≤ 12 := by
  unfold placesByR
  split
  · exact keptR_len
  · simp

def ShiftRowR (l : List (S42)) (n : Int) : List (S42) × Bool := if -60 ≤ n ∧ n ≤ 60 then placesByR (fun p => wrap64 (p + n)) l else ([], false)
theorem implShiftRow_ev (l : List (S42)) (n : Int) : Ev (fun k => impl_ShiftRow.f k l n) (ShiftRowR l n) := by
  unfold impl_ShiftRow.f ShiftRowR
  simp only [within_eq, Option.bind_some, decide_eq_true_eq]
  by_cases h : -60 ≤ n ∧ n ≤ 60
  · simp only [if_pos h]
    exact placesBy_ev (fun p => wrap64 (p + n)) l
  · simp only [if_neg h]
    exact Ev.now _
theorem specShiftRow_ev (l : List (S42)) (n : Int) : Ev (fun k => spec_ShiftRow.f k l n) (ShiftRowR l n) := by
  unfold spec_ShiftRow.f ShiftRowR placesByR
  have done : Ev (fun k => spec_ShiftRow.j0 k l n true) ([], false) := by
    refine Ev.step (fun k => by rw [spec_ShiftRow.j0]) ?_
    simp only [if_true]
    exact Ev.now _
  refine Ev.bind (l2Row_ev l) ?_
  by_cases h : rowB l = true
  · have hr := (rowB_iff l).1 h
    simp only [h, if_true, l1In_eq, Option.bind_some]
    by_cases hn : -60 ≤ n ∧ n ≤ 60
    · simp only [hn, and_self, decide_true, Bool.not_true, if_true]
      refine Ev.step (fun k => by rw [spec_ShiftRow.j0]) ?_
      simp only [Bool.false_eq_true, if_false]
      have e : movedW 1 n l = byW (fun p => wrap64 (p + n)) l := by
        unfold movedW byW
        refine List.map_congr_left fun x hx => ?_
        have := hr.2 x hx
        rw [w64 (x := 1 * x.f0) (by omega) (by omega), Int.one_mul]
      rw [← e]
      exact Ev.bind (l2Moved_ev l 1 n (by omega)) (Ev.bind (l2Kept_ev _) (Ev.now _))
    · simp only [hn, decide_false, Bool.not_false, if_false]
      exact done
  · simp only [h, if_false]
    refine Ev.as done ?_
    split <;> rfl
theorem ShiftRow_same (l : List (S42)) (n : Int) (hl : l.length ≤ 1048576) : ∃ r : List (S42) × Bool, r.1.length ≤ 1048576 ∧ Ev (fun k => spec_ShiftRow.f k l n) r ∧ Ev (fun k => impl_ShiftRow.f k l n) r := by
  refine ⟨_, ?_, specShiftRow_ev l n, implShiftRow_ev l n⟩
  unfold ShiftRowR
  split
  · have := placesByR_len (c := fun p => wrap64 (p + n)) (l := l); omega
  · simp

def sumStep (p : Int) (s : Int) (x : S42) : Int := if x.f0 = p then wrap64 (s + x.f1) else s
/-- The weight at a place. -/
def sumAt (l : List (S42)) (p : Int) : Int := l.foldl (sumStep p) 0
def mergedFrom (l : List (S42)) : Nat → Int → List (S42) → List (S42)
  | 0, _, out => out
  | d + 1, p, out => mergedFrom l d (p + 1) (if sumAt l p > 0 then out ++ [⟨p, sumAt l p⟩] else out)
theorem specMerged_loop (l : List (S42)) (hl : l.length ≤ 1000) : ∀ (d : Nat) (p : Int) (out : List (S42)), 0 ≤ p → p + d = 61 → out.length ≤ p → Ev (fun k => spec_l2Merged.l0 k l out p) (mergedFrom l d p out) := by
  intro d
  induction d with
  | zero =>
    intro p out h0 hd ho
    refine Ev.step (fun k => by rw [spec_l2Merged.l0]) ?_
    simp only [if_neg (show ¬ p ≤ 60 by omega)]
    exact Ev.now _
  | succ d ih =>
    intro p out h0 hd ho
    refine Ev.step (fun k => by rw [spec_l2Merged.l0]) ?_
    simp only [if_pos (show p ≤ 60 by omega)]
    have h := Ev.fold (l := fun k s i => spec_l2Merged.l1 k l out p s i) (n := l.length) (fun i => (l.take i.toNat).foldl (sumStep p) 0) (a := mergedFrom l (d + 1) p out)
      (fun i h0' h1 r h => by
        refine Ev.step (fun k => by rw [spec_l2Merged.l1]) ?_
        simp only [if_pos h1, if_pos h0', w64 (show -9223372036854775808 ≤ i + 1 by omega) (by omega)]
        rw [take_succ_rd l i h0' h1, List.foldl_append, List.foldl_cons, List.foldl_nil, sumStep] at h
        by_cases hq : (rd_T42 l i).f0 = p
        · simp only [if_pos hq] at h ⊢; exact h
        · simp only [if_neg hq] at h ⊢; exact h)
      (by
        refine Ev.step (fun k => by rw [spec_l2Merged.l1]) ?_
        simp only [if_neg (show ¬ (l.length : Int) < l.length by omega), w64 (show -9223372036854775808 ≤ p + 1 by omega) (by omega), if_pos (show out.length < 8796093022208 by omega)]
        rw [show l.take (l.length : Int).toNat = l by simp]
        unfold mergedFrom
        rw [← sumAt]
        by_cases hs : sumAt l p > 0
        · simp only [if_pos hs]
          exact ih (p + 1) _ (by omega) (by omega) (by rw [List.length_append, List.length_singleton]; omega)
        · simp only [if_neg hs]
          exact ih (p + 1) out (by omega) (by omega) (by omega))
      l.length 0 (by omega) (by omega)
    simpa using h
theorem implMerged_loop (l : List (S42)) (hl : l.length ≤ 1000) : ∀ (d : Nat) (p : Int) (out : List (S42)), 0 ≤ p → p + d = 61 → out.length ≤ p → Ev (fun k => impl_MergeRow.l0 k l out p) (keptR (mergedFrom l d p out)) := by
  intro d
  induction d with
  | zero =>
    intro p out h0 hd ho
    refine Ev.step (fun k => by rw [impl_MergeRow.l0]) ?_
    simp only [if_neg (show ¬ p < 61 by omega), validRow_eq, Option.bind_some]
    exact Ev.now _
  | succ d ih =>
    intro p out h0 hd ho
    refine Ev.step (fun k => by rw [impl_MergeRow.l0]) ?_
    simp only [if_pos (show p < 61 by omega)]
    have h := Ev.fold (l := fun k s i => impl_MergeRow.l1 k l out p s p l l.length i) (n := l.length) (fun i => (l.take i.toNat).foldl (sumStep p) 0) (a := keptR (mergedFrom l (d + 1) p out))
      (fun i h0' h1 r h => by
        refine Ev.step (fun k => by rw [impl_MergeRow.l1]) ?_
        simp only [if_pos h1, if_pos h0', w64 (show -9223372036854775808 ≤ i + 1 by omega) (by omega)]
        rw [take_succ_rd l i h0' h1, List.foldl_append, List.foldl_cons, List.foldl_nil, sumStep] at h
        by_cases hq : (rd_T42 l i).f0 = p
        · simp only [if_pos hq] at h ⊢; exact h
        · simp only [if_neg hq] at h ⊢; exact h)
      (by
        refine Ev.step (fun k => by rw [impl_MergeRow.l1]) ?_
        simp only [if_neg (show ¬ (l.length : Int) < l.length by omega), w64 (show -9223372036854775808 ≤ p + 1 by omega) (by omega), if_pos (show out.length < 8796093022208 by omega)]
        rw [show l.take (l.length : Int).toNat = l by simp]
        unfold mergedFrom
        rw [← sumAt]
        by_cases hs : sumAt l p > 0
        · simp only [if_pos hs]
          exact ih (p + 1) _ (by omega) (by omega) (by rw [List.length_append, List.length_singleton]; omega)
        · simp only [if_neg hs]
          exact ih (p + 1) out (by omega) (by omega) (by omega))
      l.length 0 (by omega) (by omega)
    simpa using h
def MergeRowR (l : List (S42)) : List (S42) × Bool := if rowB l = true then keptR (mergedFrom l 61 0 []) else ([], false)
theorem specMergeRow_ev (l : List (S42)) : Ev (fun k => spec_MergeRow.f k l) (MergeRowR l) := by
  unfold spec_MergeRow.f spec_l2Merged.f MergeRowR
  refine Ev.bind (l2Row_ev l) ?_
  by_cases h : rowB l = true
  · have hl := ((rowB_iff l).1 h).1
    simp only [h, if_true]
    exact Ev.bind (specMerged_loop l (by omega) 61 0 [] (by omega) (by omega) (by simp)) (Ev.bind (l2Kept_ev _) (Ev.now _))
  · simp only [h, if_false]
    exact Ev.now _
theorem implMergeRow_ev (l : List (S42)) : Ev (fun k => impl_MergeRow.f k l) (MergeRowR l) := by
  unfold impl_MergeRow.f MergeRowR
  simp only [implIsRow_eq, Option.bind_some]
  by_cases h : rowB l = true
  · have hl := ((rowB_iff l).1 h).1
    simp only [h, if_true]
    exact implMerged_loop l (by omega) 61 0 [] (by omega) (by omega) (by simp)
  · simp only [h, if_false]
    exact Ev.now _
theorem MergeRow_same (l : List (S42)) (hl : l.length ≤ 1048576) : ∃ r : List (S42) × Bool, r.1.length ≤ 1048576 ∧ Ev (fun k => spec_MergeRow.f k l) r ∧ Ev (fun k => impl_MergeRow.f k l) r := by
  refine ⟨_, ?_, specMergeRow_ev l, implMergeRow_ev l⟩
  unfold MergeRowR
  split
  · have := keptR_len (l := mergedFrom l 61 0 []); omega
  · simp

theorem l2Joined_eq (a b : List (S42)) (ha : a.length ≤ 1000) (hb : b.length ≤ 1000) : spec_l2Joined.f a b = some (a ++ b) := by
  unfold spec_l2Joined.f
  simp only [Option.bind_some, List.nil_append, List.length_nil]
  rw [if_pos (by omega), if_pos (by omega)]
theorem grow_eq (n : Int) (h0 : 0 ≤ n) (h1 : n ≤ 1000) : impl_Load_57.f n = some [] := by
  unfold impl_Load_57.f
  rw [if_neg (by omega), w64 (by omega) (by omega)]
  by_cases h : n > 0
  · rw [if_pos h, if_pos h0, if_pos (by simp only [List.length_nil]; omega)]
    simp only [Option.bind_some, List.nil_append]
    rw [if_pos (by omega)]
    rfl
  · rw [if_neg h]
theorem concat_ev (a b : List (S42)) (ha : a.length ≤ 400) (hb : b.length ≤ 400) : Ev (fun k => impl_Load_27.f k [a, b]) (a ++ b) := by
  have r0 : rd_L4 [a, b] 0 = a := rfl
  have r1 : rd_L4 [a, b] 1 = b := rfl
  have e1 : wrap64 (0 + 1 : Int) = 1 := by rw [w64 (by omega) (by omega)]; rfl
  have e2 : wrap64 (1 + 1 : Int) = 2 := by rw [w64 (by omega) (by omega)]; rfl
  have e3 : wrap64 (0 + (a.length : Int)) = (a.length : Int) := by rw [w64 (by omega) (by omega)]; omega
  have e4 : wrap64 ((a.length : Int) + (b.length : Int)) = (a.length : Int) + (b.length : Int) := w64 (by omega) (by omega)
  have hl : (([a, b] : List (List (S42))).length : Int) = 2 := rfl
  unfold impl_Load_27.f
  rw [hl]
  refine Ev.step (fun k => by rw [impl_Load_27.l0]) ?_
  simp only [show ((0 : Int) < 2) by decide, show ((0 : Int) ≤ 0) by decide, hl, if_true, r0, e3, e1, if_neg (show ¬ (a.length : Int) < 0 by omega)]
  refine Ev.step (fun k => by rw [impl_Load_27.l0]) ?_
  simp only [show ((1 : Int) < 2) by decide, show ((0 : Int) ≤ 1) by decide, hl, if_true, r1, e4, e2, if_neg (show ¬ (a.length : Int) + (b.length : Int) < 0 by omega)]
  refine Ev.step (fun k => by rw [impl_Load_27.l0]) ?_
  simp only [show ¬ ((2 : Int) < 2) by decide, if_false, grow_eq _ (show 0 ≤ (a.length : Int) + (b.length : Int) by omega) (show (a.length : Int) + (b.length : Int) ≤ 1000 by omega), Option.bind_some, hl]
  refine Ev.step (fun k => by rw [impl_Load_27.l1]) ?_
  simp only [show ((0 : Int) < 2) by decide, show ((0 : Int) ≤ 0) by decide, hl, if_true, r0, e1, List.length_nil, List.nil_append, if_pos (show 0 + a.length < 8796093022208 by omega)]
  refine Ev.step (fun k => by rw [impl_Load_27.l1]) ?_
  simp only [show ((1 : Int) < 2) by decide, show ((0 : Int) ≤ 1) by decide, hl, if_true, r1, e2, if_pos (show a.length + b.length < 8796093022208 by omega)]
  refine Ev.step (fun k => by rw [impl_Load_27.l1]) ?_
  simp only [show ¬ ((2 : Int) < 2) by decide, if_false]
  exact Ev.now _
def JoinRowsR (a b : List (S42)) : List (S42) × Bool := if (rowB a && rowB b) = true then keptR (a ++ b) else ([], false)
theorem specJoinRows_ev (a b : List (S42)) : Ev (fun k => spec_JoinRows.f k a b) (JoinRowsR a b) := by
  unfold spec_JoinRows.f JoinRowsR
  have done : Ev (fun k => spec_JoinRows.j0 k a b true) ([], false) := by
    refine Ev.step (fun k => by rw [spec_JoinRows.j0]) ?_
    simp only [if_true]
    exact Ev.now _
  refine Ev.bind (l2Row_ev a) ?_
  by_cases h : rowB a = true
  · simp only [h, if_true, Bool.true_and]
    refine Ev.bind (l2Row_ev b) ?_
    by_cases h2 : rowB b = true
    · simp only [h2, Bool.not_true, if_true]
      have ha := ((rowB_iff a).1 h).1
      have hb := ((rowB_iff b).1 h2).1
      refine Ev.step (fun k => by rw [spec_JoinRows.j0]) ?_
      simp only [Bool.false_eq_true, if_false, l2Joined_eq a b (by omega) (by omega), Option.bind_some]
      exact Ev.bind (l2Kept_ev _) (Ev.now _)
    · rw [Bool.eq_false_iff.2 h2]
      simp only [Bool.not_false, Bool.false_eq_true, if_false]
      exact done
  · simp only [h, Bool.false_and, Bool.false_eq_true, if_false]
    exact done
theorem implJoinRows_ev (a b : List (S42)) : Ev (fun k => impl_JoinRows.f k a b) (JoinRowsR a b) := by
  unfold impl_JoinRows.f JoinRowsR
  have done : Ev (fun k => impl_JoinRows.j0 k a b true) ([], false) := by
    refine Ev.step (fun k => by rw [impl_JoinRows.j0]) ?_
    simp only [if_true]
    exact Ev.now _
  simp only [implIsRow_eq, Option.bind_some]
  by_cases h : rowB a = true
  · simp only [h, if_true, Bool.true_and]
    by_cases h2 : rowB b = true
    · simp only [h2, Bool.not_true, if_true]
      have ha := ((rowB_iff a).1 h).1
      have hb := ((rowB_iff b).1 h2).1
      refine Ev.step (fun k => by rw [impl_JoinRows.j0]) ?_
      simp only [Bool.false_eq_true, if_false]
      refine Ev.bind (concat_ev a b (by omega) (by omega)) ?_
      simp only [validRow_eq, Option.bind_some]
      exact Ev.now _
    · rw [Bool.eq_false_iff.2 h2]
      simp only [Bool.not_false, Bool.false_eq_true, if_false]
      exact done
  · simp only [h, Bool.false_and, Bool.false_eq_true, if_false]
    exact done
theorem JoinRowsR_len {a b : List (S42)} : (JoinRowsR a b).1.length ≤ 12 := by
  unfold JoinRowsR
  split
  · exact keptR_len
  · simp

theorem ba_ext {a b : ByteArray} (h : a.data.toList = b.data.toList) : a = b := by
  cases a; cases b
  simp only [ByteArray.mk.injEq]
  exact Array.toList_inj.1 h
theorem ba_app (a b : ByteArray) : (a ++ b).data.toList = a.data.toList ++ b.data.toList := by
  simp [ByteArray.data_append]
theorem ba_size (a : ByteArray) : a.size = a.data.toList.length := by
  cases a
  simp [ByteArray.size]
theorem bt_at (s : ByteArray) (i : Nat) (h : i < s.size) : bt s (i : Int) = ((s.data.toList[i]'(by rw [← ba_size]; exact h)).toNat : Int) := by
  unfold bt
  rw [Int.toNat_natCast, dif_pos h]
  congr 1

theorem digit_at : ∀ j : Fin 10, ((⟨#[48, 49, 50, 51, 52, 53, 54, 55, 56, 57]⟩ : ByteArray).extract j.val (j.val + 1)).data.toList = [UInt8.ofNat (48 + j.val)] := by
  decide
theorem digit_nat (j : Nat) (h : j < 10) : (⟨#[48, 49, 50, 51, 52, 53, 54, 55, 56, 57]⟩ : ByteArray).extract j (j + 1) = ⟨#[UInt8.ofNat (48 + j)]⟩ := ba_ext (digit_at ⟨j, h⟩)
theorem dec_len (u : Nat) (h : u ≤ 1000000000000) : (Lib.decDigits u).length ≤ 21 := by
  have := Lib.itoa_length_le (u : Int) (by omega) (by omega)
  rwa [Lib.itoa_nonneg] at this
theorem l1Num_small (u : Nat) (hu : u < 10) : Ev (fun k => spec_l1Num.f k (u : Int)) ⟨(Lib.decDigits u).toArray⟩ := by
  refine Ev.step (fun k => by rw [spec_l1Num.f]) ?_
  have e1 : wrap64 ((u : Int) + 1) = ((u + 1 : Nat) : Int) := by rw [w64 (by omega) (by omega)]; exact (Int.natCast_add u 1).symm
  simp only [if_neg (show ¬ (u : Int) < 0 by omega), if_pos (show (u : Int) < 10 by omega), if_pos (show 0 ≤ (u : Int) by omega), e1, if_pos (show (u : Int) ≤ ((u + 1 : Nat) : Int) by omega), if_pos (show ((u + 1 : Nat) : Int) ≤ 10 by omega), Int.toNat_natCast, digit_nat u hu]
  rw [Lib.decDigits_one hu]
  exact Ev.now _
theorem l1Num_nat : ∀ (m u : Nat), u ≤ m → u ≤ 1000000000000 → Ev (fun k => spec_l1Num.f k (u : Int)) ⟨(Lib.decDigits u).toArray⟩ := by
  intro m
  induction m with
  | zero =>
    intro u h0 h1
    exact l1Num_small u (by omega)
  | succ m ih =>
    intro u h0 h1
    by_cases hu : u < 10
    · exact l1Num_small u hu
    · have e2 : Int.tdiv (u : Int) 10 = ((u / 10 : Nat) : Int) := by
        rw [show (10 : Int) = ((10 : Nat) : Int) from rfl, ← Int.ofNat_tdiv]
      have e3 : Int.tmod (u : Int) 10 = ((u % 10 : Nat) : Int) := by
        rw [show (10 : Int) = ((10 : Nat) : Int) from rfl, ← Int.ofNat_tmod]
      have e4 : wrap64 ((u / 10 : Nat) : Int) = ((u / 10 : Nat) : Int) := w64 (by omega) (by omega)
      have e5 : wrap64 (((u % 10 : Nat) : Int) + 1) = ((u % 10 + 1 : Nat) : Int) := by rw [w64 (by omega) (by omega)]; exact (Int.natCast_add _ 1).symm
      have hd : Lib.decDigits u = Lib.decDigits (u / 10) ++ [UInt8.ofNat (48 + u % 10)] := by
        rw [Lib.decDigits, dif_neg hu]
      have hlen := dec_len (u / 10) (by omega)
      have hs1 : (⟨(Lib.decDigits (u / 10)).toArray⟩ : ByteArray).size ≤ 21 := by rw [ba_size]; exact hlen
      have hs2 : (⟨#[UInt8.ofNat (48 + u % 10)]⟩ : ByteArray).size = 1 := rfl
      refine Ev.step (fun k => by rw [spec_l1Num.f]) ?_
      simp only [if_neg (show ¬ (u : Int) < 0 by omega), if_neg (show ¬ (u : Int) < 10 by omega), e2, e3, e4]
      refine Ev.bind (ih (u / 10) (by omega) (by omega)) ?_
      simp only [if_pos (show 0 ≤ ((u % 10 : Nat) : Int) by omega), e5, if_pos (show ((u % 10 : Nat) : Int) ≤ ((u % 10 + 1 : Nat) : Int) by omega), if_pos (show ((u % 10 + 1 : Nat) : Int) ≤ 10 by omega), Int.toNat_natCast, digit_nat (u % 10) (by omega), hs2, if_pos (show (⟨(Lib.decDigits (u / 10)).toArray⟩ : ByteArray).size + 1 ≤ 9223372036854775807 by omega)]
      refine Ev.some (ba_ext ?_)
      rw [ba_app, hd]
theorem l1Num_ev (n : Int) (h0 : -1000000000 ≤ n) (h1 : n ≤ 1000000000) : Ev (fun k => spec_l1Num.f k n) ⟨(Lib.itoa n).toArray⟩ := by
  by_cases hn : n < 0
  · obtain ⟨u, hu⟩ : ∃ u : Nat, n = -(u : Int) := ⟨n.natAbs, by omega⟩
    subst hu
    refine Ev.step (fun k => by rw [spec_l1Num.f]) ?_
    have e : wrap64 (-(-(u : Int))) = (u : Int) := by rw [w64 (by omega) (by omega)]; omega
    simp only [if_pos hn, e]
    refine Ev.bind (l1Num_nat u u (Nat.le_refl _) (by omega)) ?_
    have hlen := dec_len u (by omega)
    have hs1 : (⟨(Lib.decDigits u).toArray⟩ : ByteArray).size ≤ 21 := by rw [ba_size]; exact hlen
    simp only [if_pos (show 1 + (⟨(Lib.decDigits u).toArray⟩ : ByteArray).size ≤ 9223372036854775807 by omega)]
    refine Ev.some (ba_ext ?_)
    rw [ba_app, Lib.itoa_neg u (by omega)]
    rfl
  · obtain ⟨u, hu⟩ : ∃ u : Nat, n = (u : Int) := ⟨n.toNat, by omega⟩
    subst hu
    rw [Lib.itoa_nonneg]
    exact l1Num_nat u u (Nat.le_refl _) (by omega)
theorem itoa_eq (n : Int) (h0 : -1000000000 ≤ n) (h1 : n ≤ 1000000000) : strconv_Itoa.f n = some ⟨(Lib.itoa n).toArray⟩ := by
  unfold strconv_Itoa.f
  rw [if_pos ⟨by omega, by omega⟩]

def tl (sep : List UInt8) : Bool → List ByteArray → List UInt8
  | _, [] => []
  | first, x :: r => (if first = true then [] else sep) ++ x.data.toList ++ tl sep false r
theorem tl_join (sep : List UInt8) (x : ByteArray) (r : List ByteArray) : Lib.join ((x :: r).map (·.data.toList)) sep = tl sep true (x :: r) := by
  have h : ∀ r : List ByteArray, Lib.joinTail sep (r.map (·.data.toList)) = tl sep false r := by
    intro r
    induction r with
    | nil => rfl
    | cons y r ih =>
      rw [List.map_cons, tl, ← ih]
      simp [Lib.joinTail]
  rw [List.map_cons, Lib.join_cons, h, tl]
  simp

theorem rdStr (l : List ByteArray) (i : Nat) (h : i < l.length) : rdOf ByteArray.empty l (i : Int) = l[i] := by
  unfold rdOf
  rw [Int.toNat_natCast]
  exact getD_lt _ h
theorem rdStr' (l : List ByteArray) (i : Int) (h0 : 0 ≤ i) (h : i < l.length) : rdOf ByteArray.empty l i = l[i.toNat]'(by omega) := by
  unfold rdOf
  exact getD_lt _ (show i.toNat < l.length by omega)

def spl (c : UInt8) : List UInt8 → List UInt8 → List (List UInt8)
  | p, [] => [p]
  | p, b :: r => if b = c then p :: spl c [] r else spl c (p ++ [b]) r
theorem spl_len (c : UInt8) : ∀ (l p : List UInt8), (spl c p l).length ≤ l.length + 1
  | [], p => by simp [spl]
  | b :: r, p => by
    rw [spl]
    split
    · have := spl_len c r []
      simp only [List.length_cons]; omega
    · have := spl_len c r (p ++ [b])
      simp only [List.length_cons]; omega
theorem ext_data (s : ByteArray) (a b : Nat) : (s.extract a b).data.toList = (s.data.toList.take b).drop a := by
  rw [ByteArray.data_extract, Array.toList_extract, List.extract_eq_take_drop, List.drop_take]

theorem l1Split_ev (s : ByteArray) (c : UInt8) (hs : s.size ≤ 1048576) : Ev (fun k => spec_l1Split.f k s (c.toNat : Int)) ((spl c [] s.data.toList).map fun x => (⟨x.toArray⟩ : ByteArray)) := by
  unfold spec_l1Split.f
  have key : ∀ (d i f : Nat) (o : List ByteArray), i + d = s.size → f ≤ i → o.length ≤ i → Ev (fun k => spec_l1Split.l0 k s (c.toNat : Int) o (f : Int) (i : Int)) (o ++ (spl c ((s.data.toList.take i).drop f) (s.data.toList.drop i)).map fun x => (⟨x.toArray⟩ : ByteArray)) := by
    intro d
    induction d with
    | zero =>
      intro i f o h hf ho
      refine Ev.step (fun k => by rw [spec_l1Split.l0]) ?_
      simp only [if_neg (show ¬ (i : Int) < (s.size : Int) by omega), if_pos (show 0 ≤ (f : Int) by omega), if_pos (show (f : Int) ≤ (s.size : Int) by omega), if_pos (show o.length < 8796093022208 by omega), Int.toNat_natCast]
      refine Ev.some ?_
      have hi : i = s.size := by omega
      have hd : s.data.toList.drop i = [] := List.drop_eq_nil_of_le (by rw [← ba_size]; omega)
      have hx : s.extract f s.size = ⟨((s.data.toList.take i).drop f).toArray⟩ := ba_ext (by rw [ext_data, hi])
      rw [hd, spl, List.map_cons, List.map_nil, hx]
    | succ d ih =>
      intro i f o h hf ho
      have hi : i < s.size := by omega
      have hi2 : i < s.data.toList.length := by rw [← ba_size]; exact hi
      have ei : wrap64 ((i : Int) + 1) = ((i + 1 : Nat) : Int) := by rw [w64 (by omega) (by omega)]; exact (Int.natCast_add i 1).symm
      refine Ev.step (fun k => by rw [spec_l1Split.l0]) ?_
      simp only [if_pos (show (i : Int) < (s.size : Int) by omega), if_pos (show 0 ≤ (i : Int) by omega), bt_at s i hi, ei, if_pos (show 0 ≤ (f : Int) by omega), if_pos (show (f : Int) ≤ (i : Int) by omega), if_pos (show (i : Int) ≤ (s.size : Int) by omega), if_pos (show o.length < 8796093022208 by omega), Int.toNat_natCast]
      rw [List.drop_eq_getElem_cons hi2]
      by_cases hc : s.data.toList[i] = c
      · simp only [if_pos (show (s.data.toList[i].toNat : Int) = (c.toNat : Int) by rw [hc])]
        refine Ev.as (ih (i + 1) (i + 1) (o ++ [s.extract f i]) (by omega) (by omega) (by rw [List.length_append]; simp; omega)) ?_
        have hd : (s.data.toList.take (i + 1)).drop (i + 1) = [] := List.drop_eq_nil_of_le (by rw [List.length_take]; omega)
        have hx : s.extract f i = ⟨((s.data.toList.take i).drop f).toArray⟩ := ba_ext (by rw [ext_data])
        rw [spl, if_pos hc, hd, List.append_assoc, List.map_cons, hx]
        rfl
      · simp only [if_neg (show ¬ (s.data.toList[i].toNat : Int) = (c.toNat : Int) from fun e => hc (UInt8.toNat_inj.1 (by omega)))]
        refine Ev.as (ih (i + 1) f o (by omega) (by omega) (by omega)) ?_
        have hd : (s.data.toList.take (i + 1)).drop f = (s.data.toList.take i).drop f ++ [s.data.toList[i]] := by
          rw [List.take_add_one, List.getElem?_eq_getElem hi2, List.drop_append_of_le_length (by rw [List.length_take]; omega)]
          rfl
        rw [spl, if_neg hc, hd]
  have h := key s.size 0 0 [] (by omega) (by omega) (by simp)
  rw [List.drop_zero, List.nil_append] at h
  exact h

theorem spl_pre (c : UInt8) : ∀ (l p : List UInt8), c ∉ l → spl c p l = [p ++ l]
  | [], p, _ => by simp [spl]
  | b :: r, p, h => by
    rw [spl, if_neg (fun e => h (by rw [e]; exact List.mem_cons_self)), spl_pre c r (p ++ [b]) (fun e => h (List.mem_cons_of_mem _ e))]
    simp
theorem spl_hit (c : UInt8) : ∀ (l p r : List UInt8), c ∉ l → spl c p (l ++ c :: r) = (p ++ l) :: spl c [] r
  | [], p, r, _ => by simp [spl]
  | b :: l, p, r, h => by
    rw [List.cons_append, spl, if_neg (fun e => h (by rw [e]; exact List.mem_cons_self)), spl_hit c l (p ++ [b]) r (fun e => h (List.mem_cons_of_mem _ e))]
    simp
theorem index_one (c : UInt8) : ∀ l : List UInt8, (Lib.index l [c] = -1 ∧ c ∉ l) ∨ ∃ i : Nat, Lib.index l [c] = i ∧ ∃ a r, l = a ++ c :: r ∧ c ∉ a ∧ a.length = i
  | [] => .inl ⟨by simp [Lib.index], by simp⟩
  | b :: l => by
    rw [Lib.index]
    by_cases h : b = c
    · subst h
      refine .inr ⟨0, by simp [List.isPrefixOf], [], l, rfl, by simp, rfl⟩
    · have hp : ([c] : List UInt8).isPrefixOf (b :: l) = false := by simp [List.isPrefixOf, Ne.symm h]
      rw [hp]
      rcases index_one c l with ⟨h1, h2⟩ | ⟨i, h1, a, r, rfl, h3, h4⟩
      · refine .inl ⟨by rw [h1]; rfl, ?_⟩
        intro e
        rcases List.mem_cons.1 e with e | e
        · exact h e.symm
        · exact h2 e
      · refine .inr ⟨i + 1, ?_, b :: a, r, rfl, ?_, by simp [h4]⟩
        · have hne : (Lib.index (a ++ c :: r) [c] == -1) = false := beq_eq_false_iff_ne.2 (by omega)
          rw [hne, h1]
          simp
        · intro e
          rcases List.mem_cons.1 e with e | e
          · exact h e.symm
          · exact h3 e
theorem splitK_spl (c : UInt8) : ∀ (k : Nat) (l : List UInt8), l.count c ≤ k → Lib.splitK [c] 0 k l = spl c [] l
  | 0, l, h => by
    have hn : c ∉ l := fun e => by have := List.count_pos_iff.2 e; omega
    rw [Lib.splitK, spl_pre c l [] hn, List.nil_append]
  | k + 1, l, h => by
    rw [Lib.splitK]
    rcases index_one c l with ⟨h1, h2⟩ | ⟨i, h1, a, r, rfl, h3, h4⟩
    · rw [if_pos (beq_iff_eq.2 h1), spl_pre c l [] h2, List.nil_append]
    · have hne : ¬ (Lib.index (a ++ c :: r) [c] == -1) = true := fun e => by have := beq_iff_eq.1 e; omega
      rw [if_neg hne, spl_hit c a [] r h3, List.nil_append]
      have e1 : (Lib.index (a ++ c :: r) [c]).toNat = a.length := by omega
      rw [e1, Nat.add_zero, List.take_left']
      · have e2 : (a ++ c :: r).drop (a.length + ([c] : List UInt8).length) = r := by
          rw [← List.drop_drop, List.drop_left']
          · rfl
          · rfl
        rw [e2, splitK_spl c k r (by
          rw [List.count_append, List.count_cons_self] at h
          omega)]
      · rfl
theorem splitB_spl (s : ByteArray) (c : UInt8) : Lib.splitB ⟨#[c]⟩ 0 (Lib.countB s ⟨#[c]⟩) s = (spl c [] s.data.toList).map fun x => (⟨x.toArray⟩ : ByteArray) := by
  have h := Lib.splitB_data ⟨#[c]⟩ 0 (Lib.countB s ⟨#[c]⟩) s
  have hc : Lib.countB s ⟨#[c]⟩ = s.data.toList.count c := Lib.count_one c _
  have h2 : (Lib.splitB ⟨#[c]⟩ 0 (Lib.countB s ⟨#[c]⟩) s).map (·.data.toList) = spl c [] s.data.toList := by
    rw [h]
    exact splitK_spl c _ _ (by rw [hc]; exact Nat.le_refl _)
  rw [← h2, List.map_map]
  exact (List.map_id' _).symm

def word (x : S42) : ByteArray := (⟨(Lib.itoa x.f0).toArray⟩ ++ ⟨#[58]⟩) ++ ⟨(Lib.itoa x.f1).toArray⟩
theorem itoa_size (n : Int) (h0 : -1000000000 ≤ n) (h1 : n ≤ 1000000000) : (⟨(Lib.itoa n).toArray⟩ : ByteArray).size ≤ 21 := by
  rw [ba_size]
  have := Lib.itoa_length_le n (by omega) (by omega)
  exact this
theorem lit58 : (⟨#[58]⟩ : ByteArray).size = 1 := rfl
theorem lit32 : (⟨#[32]⟩ : ByteArray).size = 1 := rfl
theorem word_size (x : S42) (h : (0 ≤ x.f0 ∧ x.f0 ≤ 60) ∧ (1 ≤ x.f1 ∧ x.f1 ≤ 99)) : (word x).size ≤ 43 := by
  have h0 := itoa_size x.f0 (by omega) (by omega)
  have h1 := itoa_size x.f1 (by omega) (by omega)
  unfold word
  rw [ByteArray.size_append, ByteArray.size_append, lit58]
  omega
theorem specText_l0 (l : List (S42)) (hr : rowB l = true) (hn : 0 < l.length) : ∀ (d i : Nat) (o : ByteArray), i + d = l.length → o.size ≤ 44 * i →
    Ev (fun k => spec_l2Text.l0 k l o (i : Int)) ⟨(o.data.toList ++ tl [32] (decide (i = 0)) ((l.drop i).map word)).toArray⟩ := by
  obtain ⟨hl, hall⟩ := (rowB_iff l).1 hr
  intro d
  induction d with
  | zero =>
    intro i o h ho
    refine Ev.step (fun k => by rw [spec_l2Text.l0]) ?_
    simp only [if_neg (show ¬ (i : Int) < (l.length : Int) by omega), if_neg (show ¬ (l.length : Int) = 0 by omega)]
    rw [List.drop_eq_nil_of_le (by omega), List.map_nil, tl, List.append_nil]
    exact Ev.now _
  | succ d ih =>
    intro i o h ho
    have hi : i < l.length := by omega
    have hx := hall _ (List.getElem_mem hi)
    have erd : rd_T42 l (i : Int) = l[i] := by
      unfold rd_T42
      rw [Int.toNat_natCast]
      exact getD_lt _ hi
    have ei : wrap64 ((i : Int) + 1) = ((i + 1 : Nat) : Int) := by rw [w64 (by omega) (by omega)]; exact (Int.natCast_add i 1).symm
    have s0 := itoa_size l[i].f0 (by omega) (by omega)
    have s1 := itoa_size l[i].f1 (by omega) (by omega)
    have n0 := l1Num_ev l[i].f0 (by omega) (by omega)
    have n1 := l1Num_ev l[i].f1 (by omega) (by omega)
    have ht : decide (i + 1 = 0) = false := by simp
    rw [List.drop_eq_getElem_cons hi, List.map_cons]
    refine Ev.step (fun k => by rw [spec_l2Text.l0]) ?_
    simp only [if_pos (show (i : Int) < (l.length : Int) by omega), if_pos (show 0 ≤ (i : Int) by omega), erd, ei]
    by_cases h0 : (i : Int) > 0
    · have hd : decide (i = 0) = false := decide_eq_false (by omega)
      simp only [if_pos h0, if_pos (show o.size + 1 ≤ 9223372036854775807 by omega)]
      refine Ev.bind n0 ?_
      simp only [ByteArray.size_append, lit32, lit58, if_pos (show o.size + 1 + (⟨(Lib.itoa l[i].f0).toArray⟩ : ByteArray).size ≤ 9223372036854775807 by omega), if_pos (show o.size + 1 + (⟨(Lib.itoa l[i].f0).toArray⟩ : ByteArray).size + 1 ≤ 9223372036854775807 by omega)]
      refine Ev.bind n1 ?_
      simp only [if_pos (show o.size + 1 + (⟨(Lib.itoa l[i].f0).toArray⟩ : ByteArray).size + 1 + (⟨(Lib.itoa l[i].f1).toArray⟩ : ByteArray).size ≤ 9223372036854775807 by omega)]
      refine Ev.as (ih (i + 1) _ (by omega) (by rw [ByteArray.size_append, ByteArray.size_append, ByteArray.size_append, ByteArray.size_append, lit32, lit58]; omega)) ?_
      rw [ht, hd, tl, if_neg (by simp)]
      unfold word
      simp only [ba_app, List.append_assoc]
    · have hi0 : i = 0 := by omega
      have hd : decide (i = 0) = true := decide_eq_true hi0
      simp only [if_neg h0]
      refine Ev.bind n0 ?_
      simp only [ByteArray.size_append, lit58, if_pos (show o.size + (⟨(Lib.itoa l[i].f0).toArray⟩ : ByteArray).size ≤ 9223372036854775807 by omega), if_pos (show o.size + (⟨(Lib.itoa l[i].f0).toArray⟩ : ByteArray).size + 1 ≤ 9223372036854775807 by omega)]
      refine Ev.bind n1 ?_
      simp only [if_pos (show o.size + (⟨(Lib.itoa l[i].f0).toArray⟩ : ByteArray).size + 1 + (⟨(Lib.itoa l[i].f1).toArray⟩ : ByteArray).size ≤ 9223372036854775807 by omega)]
      refine Ev.as (ih (i + 1) _ (by omega) (by rw [ByteArray.size_append, ByteArray.size_append, ByteArray.size_append, lit58]; omega)) ?_
      rw [ht, hd, tl, if_pos rfl]
      unfold word
      simp only [ba_app, List.append_assoc, List.nil_append]
def rowText (l : List (S42)) : ByteArray := if l.length = 0 then ⟨#[110, 111, 110, 101]⟩ else ⟨(tl [32] true (l.map word)).toArray⟩
theorem specText_ev (l : List (S42)) (hr : rowB l = true) : Ev (fun k => spec_l2Text.f k l) (rowText l) := by
  unfold spec_l2Text.f rowText
  by_cases hn : l.length = 0
  · refine Ev.step (fun k => by rw [spec_l2Text.l0]) ?_
    simp only [if_neg (show ¬ (0 : Int) < (l.length : Int) by omega), if_pos (show (l.length : Int) = 0 by omega), if_pos hn]
    exact Ev.now _
  · rw [if_neg hn]
    have h := specText_l0 l hr (by omega) l.length 0 ⟨#[]⟩ (by omega) (by decide)
    rw [List.drop_zero] at h
    exact h

theorem wordText_ev (x : S42) (h : (0 ≤ x.f0 ∧ x.f0 ≤ 60) ∧ (1 ≤ x.f1 ∧ x.f1 ≤ 99)) : Ev (fun k => impl_numbersText.f k [x.f0, x.f1] ⟨#[58]⟩) (word x) := by
  have s0 := itoa_size x.f0 (by omega) (by omega)
  have s1 := itoa_size x.f1 (by omega) (by omega)
  have hl : ((([x.f0, x.f1] : List Int).length : Nat) : Int) = 2 := rfl
  have e1 : wrap64 (0 + 1) = 1 := w64 (by decide) (by decide)
  have e2 : wrap64 (1 + 1) = 2 := w64 (by decide) (by decide)
  have r0 : rd [x.f0, x.f1] 0 = x.f0 := rfl
  have r1 : rd [x.f0, x.f1] 1 = x.f1 := rfl
  unfold impl_numbersText.f
  refine Ev.step (fun k => by rw [impl_numbersText.l0]) ?_
  simp only [hl, if_pos (show (0 : Int) < 2 by decide), if_pos (show (0 : Int) ≤ 0 by decide), r0, itoa_eq x.f0 (by omega) (by omega), Option.bind_some, if_pos (show ([] : List ByteArray).length < 8796093022208 by decide), e1, List.nil_append]
  refine Ev.step (fun k => by rw [impl_numbersText.l0]) ?_
  simp only [hl, if_pos (show (1 : Int) < 2 by decide), if_pos (show (0 : Int) ≤ 1 by decide), r1, itoa_eq x.f1 (by omega) (by omega), Option.bind_some, if_pos (show ([⟨(Lib.itoa x.f0).toArray⟩] : List ByteArray).length < 8796093022208 from by rw [List.length_singleton]; omega), e2]
  refine Ev.step (fun k => by rw [impl_numbersText.l0]) ?_
  simp only [if_neg (show ¬ (2 : Int) < 2 by decide)]
  have hj : Lib.join (([⟨(Lib.itoa x.f0).toArray⟩, ⟨(Lib.itoa x.f1).toArray⟩] : List ByteArray).map (·.data.toList)) [58] = (word x).data.toList := by
    rw [tl_join]
    unfold word
    simp only [tl, ba_app, if_true, Bool.false_eq_true, if_false, List.nil_append, List.append_nil, List.append_assoc]
  have hjl : (Lib.join (([⟨(Lib.itoa x.f0).toArray⟩, ⟨(Lib.itoa x.f1).toArray⟩] : List ByteArray).map (·.data.toList)) [58]).length ≤ 43 := by
    rw [hj, ← ba_size]
    exact word_size x h
  unfold strings_Join.f
  rw [List.singleton_append]
  rw [if_pos ⟨by simp, by simp, by
    show (Lib.join (([⟨(Lib.itoa x.f0).toArray⟩, ⟨(Lib.itoa x.f1).toArray⟩] : List ByteArray).map (·.data.toList)) [58]).length ≤ _
    omega⟩, Option.bind_some]
  refine Ev.some ?_
  show (⟨(Lib.join (([⟨(Lib.itoa x.f0).toArray⟩, ⟨(Lib.itoa x.f1).toArray⟩] : List ByteArray).map (·.data.toList)) [58]).toArray⟩ : ByteArray) = _
  exact ba_ext (by rw [hj])
theorem tl_size (l : List (S42)) (b : Bool) (h : ∀ x ∈ l, (0 ≤ x.f0 ∧ x.f0 ≤ 60) ∧ (1 ≤ x.f1 ∧ x.f1 ≤ 99)) : (tl [32] b (l.map word)).length ≤ 44 * l.length := by
  induction l generalizing b with
  | nil => simp [tl]
  | cons x r ih =>
    have h1 := word_size x (h x List.mem_cons_self)
    have h2 := ih false (fun y hy => h y (List.mem_cons_of_mem _ hy))
    have h3 : (if b = true then ([] : List UInt8) else [32]).length ≤ 1 := by split <;> simp
    rw [List.map_cons, tl, List.length_append, List.length_append, ← ba_size, List.length_cons]
    omega
theorem implText_l0 (l : List (S42)) (hr : rowB l = true) (hn : 0 < l.length) : ∀ (d i : Nat), i + d = l.length →
    Ev (fun k => impl_RowText.l0 k ((l.take i).map word) l (l.length : Int) (i : Int)) (⟨(tl [32] true (l.map word)).toArray⟩, true) := by
  obtain ⟨hl, hall⟩ := (rowB_iff l).1 hr
  intro d
  induction d with
  | zero =>
    intro i h
    refine Ev.step (fun k => by rw [impl_RowText.l0]) ?_
    simp only [if_neg (show ¬ (i : Int) < (l.length : Int) by omega)]
    have hz := tl_size l true hall
    have hj : Lib.join ((l.map word).map (·.data.toList)) [32] = tl [32] true (l.map word) := by
      cases l with
      | nil => simp at hn
      | cons x r => exact tl_join [32] (word x) (r.map word)
    rw [List.take_of_length_le (by omega)]
    unfold strings_Join.f
    rw [if_pos ⟨by rw [List.length_map]; exact hn, by rw [List.length_map]; omega, by
      show (Lib.join ((l.map word).map (·.data.toList)) [32]).length ≤ _
      rw [hj]; omega⟩, Option.bind_some]
    refine Ev.some ?_
    show ((⟨(Lib.join ((l.map word).map (·.data.toList)) [32]).toArray⟩ : ByteArray), true) = _
    rw [hj]
  | succ d ih =>
    intro i h
    have hi : i < l.length := by omega
    have hx := hall _ (List.getElem_mem hi)
    have erd : rd_T42 l (i : Int) = l[i] := by
      unfold rd_T42
      rw [Int.toNat_natCast]
      exact getD_lt _ hi
    have ei : wrap64 ((i : Int) + 1) = ((i + 1 : Nat) : Int) := by rw [w64 (by omega) (by omega)]; exact (Int.natCast_add i 1).symm
    refine Ev.step (fun k => by rw [impl_RowText.l0]) ?_
    simp only [if_pos (show (i : Int) < (l.length : Int) by omega), if_pos (show 0 ≤ (i : Int) by omega), erd, ei]
    refine Ev.bind (wordText_ev l[i] hx) ?_
    simp only [if_pos (show ((l.take i).map word).length < 8796093022208 by rw [List.length_map, List.length_take]; omega)]
    have e : (l.take i).map word ++ [word l[i]] = (l.take (i + 1)).map word := by
      rw [List.take_add_one, List.getElem?_eq_getElem hi, List.map_append]
      rfl
    rw [e]
    exact ih (i + 1) (by omega)
theorem rowTextBoth (l : List (S42)) : ∃ R, Ev (fun k => spec_RowText.f k l) R ∧ Ev (fun k => impl_RowText.f k l) R := by
  unfold spec_RowText.f impl_RowText.f
  by_cases hr : rowB l = true
  · refine ⟨(rowText l, true), ?_, ?_⟩
    · refine Ev.bind (Ev.as (l2Row_ev l) hr) ?_
      simp only [if_true]
      exact Ev.bind (specText_ev l hr) (Ev.now _)
    · simp only [implIsRow_eq, hr, Option.bind_some, if_true]
      unfold rowText
      by_cases hn : l.length = 0
      · simp only [if_pos (show (l.length : Int) = 0 by omega), if_pos hn]
        exact Ev.now _
      · simp only [if_neg (show ¬ (l.length : Int) = 0 by omega), if_neg hn]
        have h := implText_l0 l hr (by omega) l.length 0 (by omega)
        rw [List.take_zero, List.map_nil] at h
        exact h
  · have hr := Bool.eq_false_iff.2 hr
    refine ⟨(⟨#[]⟩, false), ?_, ?_⟩
    · refine Ev.bind (Ev.as (l2Row_ev l) hr) ?_
      simp only [Bool.false_eq_true, if_false]
      exact Ev.now _
    · simp only [implIsRow_eq, hr, Option.bind_some, Bool.false_eq_true, if_false]
      exact Ev.now _

theorem decFrom_app : ∀ (l : List UInt8) (b : UInt8) (acc : Nat), Lib.decFrom acc (l ++ [b]) = (Lib.decFrom acc l).bind fun n => (Lib.digitVal b).map fun d => n * 10 + d
  | [], b, acc => by
    simp only [List.nil_append, Lib.decFrom, Option.bind_some]
    cases Lib.digitVal b <;> rfl
  | a :: l, b, acc => by
    simp only [List.cons_append, Lib.decFrom]
    cases Lib.digitVal a with
    | none => rfl
    | some d => exact decFrom_app l b _
theorem digit_dig (j : Nat) (h : j < 10) : Lib.digitVal (UInt8.ofNat (48 + j)) = some j := by
  have : ∀ i : Fin 10, Lib.digitVal (UInt8.ofNat (48 + i.val)) = some i.val := by decide
  exact this ⟨j, h⟩
theorem dec_read : ∀ (m u : Nat), u ≤ m → Lib.decFrom 0 (Lib.decDigits u) = some u := by
  intro m
  induction m with
  | zero =>
    intro u h
    rw [Lib.decDigits_one (by omega)]
    simp only [Lib.decFrom, digit_dig u (by omega)]
    simp
  | succ m ih =>
    intro u h
    by_cases hu : u < 10
    · rw [Lib.decDigits_one hu]
      simp only [Lib.decFrom, digit_dig u hu]
      simp
    · rw [Lib.decDigits, dif_neg hu, decFrom_app, ih (u / 10) (by omega), Option.bind_some, digit_dig _ (by omega)]
      show some (u / 10 * 10 + u % 10) = some u
      rw [show u / 10 * 10 + u % 10 = u by omega]
theorem dec_len6 : ∀ (k u : Nat), u < 10 ^ (k + 1) → (Lib.decDigits u).length ≤ k + 1 := by
  intro k
  induction k with
  | zero =>
    intro u h
    rw [Lib.decDigits_one (by omega)]
    simp
  | succ k ih =>
    intro u h
    by_cases hu : u < 10
    · rw [Lib.decDigits_one hu]
      simp
    · have := ih (u / 10) (by rw [Nat.pow_succ] at h; omega)
      rw [Lib.decDigits, dif_neg hu, List.length_append, List.length_singleton]
      omega
theorem dec_ne (u : Nat) : 1 ≤ (Lib.decDigits u).length := by
  rw [Lib.decDigits]
  split
  · simp
  · rw [List.length_append]; simp
theorem dec_digit (u : Nat) (b : UInt8) (k : Nat) (h : (Lib.decDigits u)[k]? = some b) : ∃ d, Lib.digitVal b = some d := Lib.digit_of_decFrom _ 0 u (dec_read u u (Nat.le_refl _)) k b h
theorem dec_cons (u : Nat) : ∃ c r, Lib.decDigits u = c :: r ∧ c ≠ 45 ∧ c ≠ 43 := by
  cases h : Lib.decDigits u with
  | nil => have := dec_ne u; rw [h] at this; simp at this
  | cons c r =>
    obtain ⟨d, hd⟩ := dec_digit u c 0 (by rw [h]; rfl)
    refine ⟨c, r, rfl, ?_, ?_⟩
    · rintro rfl; cases hd
    · rintro rfl; cases hd
/-- What is read ends so. -/
def readEnd (s : List UInt8) (neg : Bool) : Option Nat → Int × Bool
  | none => (0, false)
  | some m => if Lib.itoa (if neg = true then -(m : Int) else (m : Int)) = s then (if neg = true then -(m : Int) else (m : Int), true) else (0, false)
theorem digitVal_no (c : UInt8) (h : ¬ (48 ≤ c.toNat ∧ c.toNat ≤ 57)) : Lib.digitVal c = none := by
  unfold Lib.digitVal
  rw [if_neg h]
theorem digitVal_yes (c : UInt8) (h : 48 ≤ c.toNat ∧ c.toNat ≤ 57) : Lib.digitVal c = some (c.toNat - 48) := by
  unfold Lib.digitVal
  rw [if_pos h]
theorem toList_iff (l : List UInt8) (s : ByteArray) : (⟨l.toArray⟩ : ByteArray).toList = s.toList ↔ l = s.data.toList := by
  rw [ByteArray.toList_eq, ByteArray.toList_eq]
theorem l1Read_l0 (s t : ByteArray) (ht : t.size ≤ 6) (hs : s.size ≤ 1048576) : ∀ (d i acc : Nat), i + d = t.size → acc < 10 ^ i →
    Ev (fun k => spec_l1Read.l0 k s t (acc : Int) (i : Int)) (readEnd s.data.toList (decide (t.size < s.size)) (Lib.decFrom acc (t.data.toList.drop i))) := by
  intro d
  induction d with
  | zero =>
    intro i acc h ha
    have hp : 10 ^ i ≤ 10 ^ 6 := Nat.pow_le_pow_right (by decide) (by omega)
    have hm : acc ≤ 1000000 := by omega
    refine Ev.step (fun k => by rw [spec_l1Read.l0]) ?_
    simp only [if_neg (show ¬ (i : Int) < (t.size : Int) by omega)]
    rw [List.drop_eq_nil_of_le (by rw [← ba_size]; omega)]
    unfold Lib.decFrom readEnd
    have en : wrap64 (-(acc : Int)) = -(acc : Int) := w64 (by omega) (by omega)
    by_cases hn : t.size < s.size
    · simp only [if_pos (show (t.size : Int) < (s.size : Int) by omega), hn, decide_true, if_true, en]
      refine Ev.bind (l1Num_ev (-(acc : Int)) (by omega) (by omega)) ?_
      simp only [toList_iff]
      by_cases he : Lib.itoa (-(acc : Int)) = s.data.toList
      · simp only [if_pos he]; exact Ev.now _
      · simp only [if_neg he]; exact Ev.now _
    · simp only [if_neg (show ¬ (t.size : Int) < (s.size : Int) by omega), hn, decide_false, Bool.false_eq_true, if_false]
      refine Ev.bind (l1Num_ev (acc : Int) (by omega) (by omega)) ?_
      simp only [toList_iff]
      by_cases he : Lib.itoa (acc : Int) = s.data.toList
      · simp only [if_pos he]; exact Ev.now _
      · simp only [if_neg he]; exact Ev.now _
  | succ d ih =>
    intro i acc h ha
    have hi : i < t.size := by omega
    have hi2 : i < t.data.toList.length := by rw [← ba_size]; exact hi
    have hp : 10 ^ i ≤ 10 ^ 6 := Nat.pow_le_pow_right (by decide) (by omega)
    have hm : acc ≤ 1000000 := by omega
    refine Ev.step (fun k => by rw [spec_l1Read.l0]) ?_
    have ei : wrap64 ((i : Int) + 1) = ((i + 1 : Nat) : Int) := by rw [w64 (by omega) (by omega)]; exact (Int.natCast_add i 1).symm
    simp only [if_pos (show (i : Int) < (t.size : Int) by omega), if_pos (show 0 ≤ (i : Int) by omega), bt_at t i hi, ei]
    rw [List.drop_eq_getElem_cons hi2]
    unfold Lib.decFrom
    by_cases h1 : t.data.toList[i].toNat < 48
    · simp only [if_pos (show (t.data.toList[i].toNat : Int) < 48 by omega), digitVal_no _ (show ¬ (48 ≤ t.data.toList[i].toNat ∧ t.data.toList[i].toNat ≤ 57) by omega)]
      exact Ev.now _
    · by_cases h2 : t.data.toList[i].toNat > 57
      · simp only [if_neg (show ¬ (t.data.toList[i].toNat : Int) < 48 by omega), if_pos (show (t.data.toList[i].toNat : Int) > 57 by omega), digitVal_no _ (show ¬ (48 ≤ t.data.toList[i].toNat ∧ t.data.toList[i].toNat ≤ 57) by omega)]
        exact Ev.now _
      · have e1 : wrap64 (10 * (acc : Int)) = 10 * (acc : Int) := w64 (by omega) (by omega)
        have e2 : wrap64 (10 * (acc : Int) + ((t.data.toList[i].toNat : Int) - 48) % 256) = ((acc * 10 + (t.data.toList[i].toNat - 48) : Nat) : Int) := by
          rw [w64 (by omega) (by omega)]; omega
        simp only [if_neg (show ¬ (t.data.toList[i].toNat : Int) < 48 by omega), if_neg (show ¬ (t.data.toList[i].toNat : Int) > 57 by omega), e1, e2, digitVal_yes _ (show 48 ≤ t.data.toList[i].toNat ∧ t.data.toList[i].toNat ≤ 57 by omega)]
        exact ih (i + 1) _ (by omega) (by rw [Nat.pow_succ]; omega)
/-- What l1Read gives. -/
def readL (s : List UInt8) : Int × Bool :=
  if s.length > 1 ∧ s.head? = some 45 then (if s.length ≤ 7 then readEnd s true (Lib.decFrom 0 s.tail) else (0, false))
  else (if 1 ≤ s.length ∧ s.length ≤ 6 then readEnd s false (Lib.decFrom 0 s) else (0, false))
theorem l1Read_j1 (s t : ByteArray) (hs : s.size ≤ 1048576) (ht : t.size ≤ s.size) : Ev (fun k => spec_l1Read.j1 k s t) (if 1 ≤ t.size ∧ t.size ≤ 6 then readEnd s.data.toList (decide (t.size < s.size)) (Lib.decFrom 0 t.data.toList) else (0, false)) := by
  refine Ev.step (fun k => by rw [spec_l1Read.j1]) ?_
  simp only [l1In_eq, Option.bind_some, decide_eq_true_eq]
  by_cases h : 1 ≤ t.size ∧ t.size ≤ 6
  · simp only [if_pos (show 1 ≤ (t.size : Int) ∧ (t.size : Int) ≤ 6 by omega), if_pos h]
    exact l1Read_l0 s t h.2 hs t.size 0 0 (by omega) (by decide)
  · simp only [if_neg (show ¬ (1 ≤ (t.size : Int) ∧ (t.size : Int) ≤ 6) by omega), if_neg h]
    exact Ev.now _
theorem l1Read_ev (s : ByteArray) (hs : s.size ≤ 1048576) : Ev (fun k => spec_l1Read.f k s) (readL s.data.toList) := by
  unfold spec_l1Read.f readL
  have hz := ba_size s
  by_cases h1 : s.size > 1
  · have hl : 0 < s.data.toList.length := by omega
    have hh : s.data.toList.head? = some s.data.toList[0] := by
      rw [List.head?_eq_getElem?, List.getElem?_eq_getElem hl]
    have hb := bt_at s 0 (by omega)
    have hb : bt s 0 = (s.data.toList[0].toNat : Int) := hb
    simp only [if_pos (show (s.size : Int) > 1 by omega), if_pos (show 0 < (s.size : Int) by omega), hb]
    by_cases hc : s.data.toList[0] = 45
    · have hbe : ((s.data.toList[0].toNat : Int) == 45) = true := by rw [hc]; rfl
      have hex : (s.extract 1 s.size).data.toList = s.data.toList.tail := by
        rw [ByteArray.data_extract, Array.toList_extract, List.extract_eq_take_drop, List.take_of_length_le (by rw [List.length_drop]; omega), List.drop_one]
      have hes : (s.extract 1 s.size).size = s.size - 1 := by rw [ba_size, hex, List.length_tail, ← hz]
      refine Ev.step (fun k => by rw [spec_l1Read.j0]) ?_
      simp only [hbe, if_true, if_pos (show 1 ≤ (s.size : Int) by omega)]
      refine Ev.as (l1Read_j1 s (s.extract 1 s.size) hs (by omega)) ?_
      rw [hes, hex, decide_eq_true (show s.size - 1 < s.size by omega), if_pos (show s.data.toList.length > 1 ∧ s.data.toList.head? = some 45 from ⟨by omega, by rw [hh, hc]⟩)]
      by_cases h7 : s.data.toList.length ≤ 7
      · rw [if_pos h7, if_pos ⟨by omega, by omega⟩]
      · rw [if_neg h7, if_neg (by omega)]
    · have hbe : ((s.data.toList[0].toNat : Int) == 45) = false := beq_eq_false_iff_ne.2 (fun e => hc (UInt8.toNat_inj.1 (show s.data.toList[0].toNat = (45 : UInt8).toNat from by have : (45 : UInt8).toNat = 45 := rfl; omega)))
      refine Ev.step (fun k => by rw [spec_l1Read.j0]) ?_
      simp only [hbe, Bool.false_eq_true, if_false]
      refine Ev.as (l1Read_j1 s s hs (Nat.le_refl _)) ?_
      rw [decide_eq_false (Nat.lt_irrefl _), if_neg (show ¬ (s.data.toList.length > 1 ∧ s.data.toList.head? = some 45) from fun e => hc (by rw [hh] at e; exact Option.some.inj e.2)), hz]
  · simp only [if_neg (show ¬ (s.size : Int) > 1 by omega)]
    refine Ev.step (fun k => by rw [spec_l1Read.j0]) ?_
    simp only [Bool.false_eq_true, if_false]
    refine Ev.as (l1Read_j1 s s hs (Nat.le_refl _)) ?_
    rw [decide_eq_false (Nat.lt_irrefl _), if_neg (show ¬ (s.data.toList.length > 1 ∧ s.data.toList.head? = some 45) by omega), hz]
/-- The number of a text. -/
theorem readL_yes (n : Int) (h0 : -999999 ≤ n) (h1 : n ≤ 999999) : readL (Lib.itoa n) = (n, true) := by
  unfold readL
  by_cases hn : n < 0
  · obtain ⟨u, hu⟩ : ∃ u : Nat, n = -(u : Int) := ⟨n.natAbs, by omega⟩
    subst hu
    have he := Lib.itoa_neg u (by omega)
    have h6 := dec_len6 5 u (by omega)
    have h7 := dec_ne u
    rw [he, if_pos ⟨by rw [List.length_cons]; omega, rfl⟩, if_pos (by rw [List.length_cons]; omega), List.tail_cons, dec_read u u (Nat.le_refl _)]
    unfold readEnd
    simp only [if_true]
    rw [if_pos he]
  · obtain ⟨u, hu⟩ : ∃ u : Nat, n = (u : Int) := ⟨n.toNat, by omega⟩
    subst hu
    have he := Lib.itoa_nonneg u
    have h6 := dec_len6 5 u (by omega)
    have h7 := dec_ne u
    obtain ⟨c, r, hc, hc5, _⟩ := dec_cons u
    rw [he, if_neg (fun e => hc5 (by rw [hc] at e; exact Option.some.inj e.2)), if_pos ⟨h7, h6⟩, dec_read u u (Nat.le_refl _)]
    unfold readEnd
    simp only [Bool.false_eq_true, if_false]
    rw [if_pos he]
theorem readEnd_cases (s : List UInt8) (neg : Bool) (o : Option Nat) (ho : ∀ m, o = some m → m ≤ 999999) : readEnd s neg o = (0, false) ∨ ∃ n : Int, -999999 ≤ n ∧ n ≤ 999999 ∧ Lib.itoa n = s ∧ readEnd s neg o = (n, true) := by
  cases o with
  | none => exact .inl rfl
  | some m =>
    have hm := ho m rfl
    unfold readEnd
    by_cases he : Lib.itoa (if neg = true then -(m : Int) else (m : Int)) = s
    · right
      refine ⟨_, ?_, ?_, he, by simp only [if_pos he]⟩
      · cases neg <;> simp <;> omega
      · cases neg <;> simp <;> omega
    · left
      simp only [if_neg he]
theorem dec_small (l : List UInt8) (hl : l.length ≤ 6) (m : Nat) (h : Lib.decFrom 0 l = some m) : m ≤ 999999 := by
  have h1 := Lib.decFrom_lt l 0 m h
  have hp : 10 ^ l.length ≤ 10 ^ 6 := Nat.pow_le_pow_right (by decide) hl
  omega
theorem readL_cases (s : List UInt8) : readL s = (0, false) ∨ ∃ n : Int, -999999 ≤ n ∧ n ≤ 999999 ∧ Lib.itoa n = s ∧ readL s = (n, true) := by
  unfold readL
  split
  · rename_i h
    split
    · rename_i h7
      exact readEnd_cases s true _ (fun m hm => dec_small s.tail (by rw [List.length_tail]; omega) m hm)
    · exact .inl rfl
  · split
    · rename_i h6
      exact readEnd_cases s false _ (fun m hm => dec_small s h6.2 m hm)
    · exact .inl rfl
/-- A numeral is read as its number. -/
theorem atoi_itoa (n : Int) (h0 : -999999 ≤ n) (h1 : n ≤ 999999) : Lib.atoiAll (Lib.itoa n) = .ok n := by
  by_cases hn : n < 0
  · obtain ⟨u, hu⟩ : ∃ u : Nat, n = -(u : Int) := ⟨n.natAbs, by omega⟩
    subst hu
    have h6 := dec_len6 5 u (by omega)
    obtain ⟨c, r, hc, _, _⟩ := dec_cons u
    rw [Lib.itoa_neg u (by omega), Lib.atoiAll_short _ (by rw [List.length_cons]; omega)]
    have hd : Lib.decNat (Lib.decDigits u) = some u := by
      unfold Lib.decNat
      rw [if_neg (by rw [hc]; simp), dec_read u u (Nat.le_refl _)]
    simp only [Lib.atoi, beq_self_eq_true, if_true, hd, Option.map_some]
    rfl
  · obtain ⟨u, hu⟩ : ∃ u : Nat, n = (u : Int) := ⟨n.toNat, by omega⟩
    subst hu
    have h6 := dec_len6 5 u (by omega)
    obtain ⟨c, r, hc, h45, h43⟩ := dec_cons u
    rw [Lib.itoa_nonneg, Lib.atoiAll_short _ (by omega)]
    have hd : Lib.decNat (Lib.decDigits u) = some u := by
      unfold Lib.decNat
      rw [if_neg (by rw [hc]; simp), dec_read u u (Nat.le_refl _)]
    rw [hc] at hd ⊢
    simp only [Lib.atoi, beq_eq_false_iff_ne.2 h45, beq_eq_false_iff_ne.2 h43, Bool.false_eq_true, if_false, hd, Option.map_some]
    rfl
theorem itoa_eq64 (n : Int) (h0 : -9223372036854775808 ≤ n) (h1 : n ≤ 9223372036854775807) : strconv_Itoa.f n = some ⟨(Lib.itoa n).toArray⟩ := by
  unfold strconv_Itoa.f
  rw [if_pos ⟨h0, h1⟩]

theorem spl_sizes (c : UInt8) : ∀ (l p x : List UInt8), x ∈ spl c p l → x.length ≤ p.length + l.length
  | [], p, x, h => by
    rw [spl, List.mem_singleton] at h
    subst h
    simp
  | b :: l, p, x, h => by
    rw [spl] at h
    split at h
    · rcases List.mem_cons.1 h with rfl | h
      · simp
      · have := spl_sizes c l [] x h
        simp only [List.length_nil, List.length_cons] at this ⊢
        omega
    · have := spl_sizes c l _ x h
      simp only [List.length_append, List.length_cons, List.length_nil] at this ⊢
      omega
theorem tl_false (sep : List UInt8) (X : List ByteArray) (h : X ≠ []) : tl sep false X = sep ++ tl sep true X := by
  cases X with
  | nil => exact absurd rfl h
  | cons x r => rw [tl, tl]; simp
theorem spl_ne (c : UInt8) : ∀ (l p : List UInt8), spl c p l ≠ []
  | [], p => by rw [spl]; simp
  | b :: l, p => by
    rw [spl]
    split
    · simp
    · exact spl_ne c l _
theorem spl_join (c : UInt8) : ∀ (l p : List UInt8), tl [c] true ((spl c p l).map fun x => (⟨x.toArray⟩ : ByteArray)) = p ++ l
  | [], p => by
    rw [spl, List.map_cons, List.map_nil, tl, tl]
    simp
  | b :: l, p => by
    rw [spl]
    split
    · rename_i hb
      rw [List.map_cons, tl, tl_false _ _ (by rw [Ne, List.map_eq_nil_iff]; exact spl_ne c l []), spl_join c l [], hb]
      simp
    · rw [spl_join c l (p ++ [b])]
      simp

def mapO {α β : Type} (f : α → Option β) : List α → Option (List β)
  | [] => some []
  | x :: r => (f x).bind fun y => (mapO f r).map fun ys => y :: ys
theorem mapO_none {α β : Type} (f : α → Option β) (x : α) (r : List α) (h : f x = none) : mapO f (x :: r) = none := by rw [mapO, h]; rfl
theorem mapO_some {α β : Type} (f : α → Option β) (x : α) (r : List α) (y : β) (h : f x = some y) : mapO f (x :: r) = (mapO f r).map fun ys => y :: ys := by rw [mapO, h]; rfl
theorem mapO_len {α β : Type} (f : α → Option β) : ∀ (l : List α) (r : List β), mapO f l = some r → r.length = l.length
  | [], r, h => by cases h; rfl
  | x :: l, r, h => by
    rw [mapO] at h
    obtain ⟨y, _, h⟩ := Option.bind_eq_some_iff.1 h
    obtain ⟨ys, hys, rfl⟩ := Option.map_eq_some_iff.1 h
    rw [List.length_cons, List.length_cons, mapO_len f l ys hys]
/-- The number of a word, by Atoi. -/
def numI (p : List UInt8) : Option Int := match Lib.atoiAll p with
  | .ok v => if Lib.itoa v = p then some v else none
  | _ => none
theorem numI_itoa {p : List UInt8} {v : Int} (h : numI p = some v) : Lib.itoa v = p := by
  unfold numI at h
  split at h
  · split at h
    · rename_i he
      cases h
      exact he
    · cases h
  · cases h
theorem numI_small (v : Int) (h0 : -999999 ≤ v) (h1 : v ≤ 999999) : numI (Lib.itoa v) = some v := by
  unfold numI
  rw [atoi_itoa v h0 h1]
  exact if_pos rfl
theorem num_step (p : ByteArray) (hp : p.size ≤ 1048576) :
    (numI p.data.toList = none ∧ ((∃ n q, strconv_Atoi.f p = some (n, some q)) ∨ ∃ v, strconv_Atoi.f p = some (v, none) ∧ strconv_Itoa.f v = some ⟨(Lib.itoa v).toArray⟩ ∧ ¬ Lib.itoa v = p.data.toList)) ∨
    (∃ v, numI p.data.toList = some v ∧ strconv_Atoi.f p = some (v, none) ∧ strconv_Itoa.f v = some ⟨(Lib.itoa v).toArray⟩ ∧ Lib.itoa v = p.data.toList) := by
  unfold strconv_Atoi.f numI
  rw [if_pos (by omega)]
  cases ha : Lib.atoiAll p.data.toList with
  | ok v =>
    have hb := Lib.atoiAll_bounds ha
    by_cases he : Lib.itoa v = p.data.toList
    · exact .inr ⟨v, by simp only [if_pos he], rfl, itoa_eq64 v hb.1 hb.2, he⟩
    · exact .inl ⟨by simp only [if_neg he], .inr ⟨v, rfl, itoa_eq64 v hb.1 hb.2, he⟩⟩
  | _ => exact .inl ⟨rfl, .inl ⟨_, _, rfl⟩⟩
def numR (o : List Int) : Option (List Int) → List Int × Bool
  | some r => (o ++ r, true)
  | none => ([], false)
theorem numbers_l0 (ps : List ByteArray) (hp : ∀ x ∈ ps, x.size ≤ 1048576) (hl : ps.length ≤ 2097152) : ∀ (d i : Nat) (o : List Int), i + d = ps.length → o.length ≤ i →
    Ev (fun k => impl_numbers.l0 k o ps (ps.length : Int) (i : Int)) (numR o (mapO numI ((ps.drop i).map (·.data.toList)))) := by
  intro d
  induction d with
  | zero =>
    intro i o h ho
    refine Ev.step (fun k => by rw [impl_numbers.l0]) ?_
    simp only [if_neg (show ¬ (i : Int) < (ps.length : Int) by omega)]
    rw [List.drop_eq_nil_of_le (by omega)]
    exact Ev.some (by show _ = (o ++ [], true); rw [List.append_nil])
  | succ d ih =>
    intro i o h ho
    have hi : i < ps.length := by omega
    have ei : wrap64 ((i : Int) + 1) = ((i + 1 : Nat) : Int) := by rw [w64 (by omega) (by omega)]; exact (Int.natCast_add i 1).symm
    rw [List.drop_eq_getElem_cons hi, List.map_cons]
    refine Ev.step (fun k => by rw [impl_numbers.l0]) ?_
    simp only [if_pos (show (i : Int) < (ps.length : Int) by omega), if_pos (show 0 ≤ (i : Int) by omega), rdStr ps i hi, ei]
    rcases num_step ps[i] (hp _ (List.getElem_mem hi)) with ⟨hn, ⟨n, q, ha⟩ | ⟨v, ha, hv, he⟩⟩ | ⟨v, hn, ha, hv, he⟩
    · rw [mapO_none _ _ _ hn]
      simp only [ha, Option.bind_some, show (some q).isNone = false from rfl, Bool.false_eq_true, if_false]
      exact Ev.now _
    · rw [mapO_none _ _ _ hn]
      simp only [ha, Option.bind_some, show (none : Option Int).isNone = true from rfl, if_true, hv, toList_iff, if_neg he]
      exact Ev.now _
    · rw [mapO_some _ _ _ v hn]
      simp only [ha, Option.bind_some, show (none : Option Int).isNone = true from rfl, if_true, hv, toList_iff, if_pos he, if_pos (show o.length < 17592186044416 by omega)]
      refine Ev.as (ih (i + 1) (o ++ [v]) (by omega) (by rw [List.length_append, List.length_singleton]; omega)) ?_
      cases mapO numI ((ps.drop (i + 1)).map (·.data.toList)) with
      | none => rfl
      | some r => show (o ++ [v] ++ r, true) = (o ++ (v :: r), true); rw [List.append_assoc]; rfl
theorem ba_map (l : List (List UInt8)) : (l.map fun x => (⟨x.toArray⟩ : ByteArray)).map (·.data.toList) = l := by
  rw [List.map_map]
  exact List.map_id' _
theorem spl_ba (c : UInt8) (w : ByteArray) (hw : w.size ≤ 1048576) : ((spl c [] w.data.toList).map fun x => (⟨x.toArray⟩ : ByteArray)).length ≤ 1048577 ∧ ∀ x ∈ ((spl c [] w.data.toList).map fun x => (⟨x.toArray⟩ : ByteArray)), x.size ≤ 1048576 := by
  have h1 := spl_len c w.data.toList []
  have hz := ba_size w
  refine ⟨by rw [List.length_map]; omega, fun x hx => ?_⟩
  obtain ⟨y, hy, rfl⟩ := List.mem_map.1 hx
  have := spl_sizes c w.data.toList [] y hy
  rw [ba_size]
  show y.length ≤ _
  simp only [List.length_nil] at this
  omega
theorem numbers_ev (w : ByteArray) (hw : w.size ≤ 1048576) : Ev (fun k => impl_numbers.f k w ⟨#[58]⟩) (numR [] (mapO numI (spl 58 [] w.data.toList))) := by
  obtain ⟨h1, h2⟩ := spl_ba 58 w hw
  have hz : (⟨#[58]⟩ : ByteArray).size = 1 := rfl
  unfold impl_numbers.f strings_Split.f
  simp only [if_pos (show w.size < 4294967281 ∧ 1 ≤ (⟨#[58]⟩ : ByteArray).size from ⟨by omega, by rw [hz]; omega⟩), Option.bind_some, splitB_spl]
  have h := numbers_l0 _ h2 (by omega) _ 0 [] (Nat.zero_add _) (by simp)
  rw [List.drop_zero, ba_map] at h
  exact h
/-- The load of a word, by the numbers. -/
def wordI (w : List UInt8) : Option (S42) := match mapO numI (spl 58 [] w) with
  | some [a, b] => some ⟨a, b⟩
  | _ => none
/-- The load of a word, by l1Read. -/
def wordS (w : List UInt8) : Option (S42) := match spl 58 [] w with
  | [a, b] => if (readL a).2 = true ∧ (readL b).2 = true then some ⟨(readL a).1, (readL b).1⟩ else none
  | _ => none
theorem two_of {α : Type} (l : List α) (h : l.length = 2) : ∃ a b, l = [a, b] := by
  match l, h with
  | [a, b], _ => exact ⟨a, b, rfl⟩
theorem wordI_no {w : List UInt8} {l : List Int} (h : mapO numI (spl 58 [] w) = some l) (hl : ¬ l.length = 2) : wordI w = none := by
  unfold wordI
  rw [h]
  match l, hl with
  | [], _ => rfl
  | [a], _ => rfl
  | [a, b], hl => exact absurd rfl hl
  | a :: b :: c :: r, _ => rfl
theorem wordS_no {w : List UInt8} (hl : ¬ (spl 58 [] w).length = 2) : wordS w = none := by
  unfold wordS
  split
  · rename_i a b h
    exact absurd (by rw [h]; rfl) hl
  · rfl
theorem spl_two {w a b : List UInt8} (h : spl 58 [] w = [a, b]) : w = a ++ 58 :: b := by
  have := spl_join 58 w []
  rw [h] at this
  simp only [List.map_cons, List.map_nil, tl, if_true, Bool.false_eq_true, if_false, List.nil_append, List.append_nil] at this
  rw [← this]
  simp
theorem readL_itoa {p : List UInt8} (h : (readL p).2 = true) : Lib.itoa (readL p).1 = p ∧ -999999 ≤ (readL p).1 ∧ (readL p).1 ≤ 999999 := by
  rcases readL_cases p with hr | ⟨n, h0, h1, h2, hr⟩
  · rw [hr] at h; cases h
  · rw [hr]; exact ⟨h2, h0, h1⟩
theorem wordS_cases {w : List UInt8} {x : S42} (h : wordS w = some x) : w = (word x).data.toList ∧ wordI w = some x := by
  unfold wordS at h
  split at h
  · rename_i a b hs
    split at h
    · rename_i hc
      cases h
      obtain ⟨ha, ha0, ha1⟩ := readL_itoa hc.1
      obtain ⟨hb, hb0, hb1⟩ := readL_itoa hc.2
      refine ⟨?_, ?_⟩
      · rw [spl_two hs]
        unfold word
        rw [ba_app, ba_app]
        show _ = (Lib.itoa (readL a).1 ++ [58]) ++ Lib.itoa (readL b).1
        rw [ha, hb]
        simp
      · unfold wordI
        have na := numI_small _ ha0 ha1
        have nb := numI_small _ hb0 hb1
        rw [ha] at na
        rw [hb] at nb
        rw [hs, mapO_some _ _ _ _ na, mapO_some _ _ _ _ nb]
        rfl
    · cases h
  · cases h
theorem wordI_cases {w : List UInt8} {x : S42} (h : wordI w = some x) (hx : (0 ≤ x.f0 ∧ x.f0 ≤ 60) ∧ (1 ≤ x.f1 ∧ x.f1 ≤ 99)) : wordS w = some x := by
  unfold wordI at h
  split at h
  · rename_i a b hm
    cases h
    have hlen := mapO_len _ _ _ hm
    obtain ⟨p, q, hs⟩ := two_of (spl 58 [] w) (by rw [← hlen]; rfl)
    rw [hs] at hm
    rw [mapO] at hm
    obtain ⟨y, hy, hm⟩ := Option.bind_eq_some_iff.1 hm
    obtain ⟨ys, hys, e⟩ := Option.map_eq_some_iff.1 hm
    rw [mapO] at hys
    obtain ⟨z, hz, hys⟩ := Option.bind_eq_some_iff.1 hys
    obtain ⟨zs, hzs, e2⟩ := Option.map_eq_some_iff.1 hys
    cases hzs
    subst e2
    cases e
    have e0 := numI_itoa hy
    have e1 := numI_itoa hz
    have r0 := readL_yes a (by simp only at hx; omega) (by simp only at hx; omega)
    have r1 := readL_yes b (by simp only at hx; omega) (by simp only at hx; omega)
    rw [e0] at r0
    rw [e1] at r1
    unfold wordS
    rw [hs]
    simp only [r0, r1, and_self, if_true]
  · cases h
theorem rows_S {ws : List (List UInt8)} : ∀ {r : List (S42)}, mapO wordS ws = some r → mapO wordI ws = some r ∧ ws = (r.map word).map (·.data.toList) := by
  induction ws with
  | nil => intro r h; cases h; exact ⟨rfl, rfl⟩
  | cons w ws ih =>
    intro r h
    rw [mapO] at h
    obtain ⟨y, hy, h⟩ := Option.bind_eq_some_iff.1 h
    obtain ⟨ys, hys, rfl⟩ := Option.map_eq_some_iff.1 h
    obtain ⟨h1, h2⟩ := ih hys
    obtain ⟨h3, h4⟩ := wordS_cases hy
    refine ⟨by rw [mapO_some _ _ _ _ h4, h1]; rfl, ?_⟩
    rw [List.map_cons, List.map_cons, ← h3, ← h2]
theorem rows_I {ws : List (List UInt8)} : ∀ {r : List (S42)}, mapO wordI ws = some r → (∀ x ∈ r, (0 ≤ x.f0 ∧ x.f0 ≤ 60) ∧ (1 ≤ x.f1 ∧ x.f1 ≤ 99)) → mapO wordS ws = some r := by
  induction ws with
  | nil => intro r h _; cases h; rfl
  | cons w ws ih =>
    intro r h hx
    rw [mapO] at h
    obtain ⟨y, hy, h⟩ := Option.bind_eq_some_iff.1 h
    obtain ⟨ys, hys, rfl⟩ := Option.map_eq_some_iff.1 h
    rw [mapO_some _ _ _ _ (wordI_cases hy (hx y List.mem_cons_self)), ih hys (fun x h => hx x (List.mem_cons_of_mem _ h))]
    rfl
def implFin (n : Nat) (o : List (S42)) : Option (List (S42)) → List (S42) × Bool
  | some r => if n ≤ 12 ∧ rowB (o ++ r) = true then (o ++ r, true) else ([], false)
  | none => ([], false)
theorem implFin_big (n : Nat) (o : List (S42)) (x : Option (List (S42))) (h : 12 < n) : implFin n o x = ([], false) := by
  cases x with
  | none => rfl
  | some r => exact if_neg (fun e => by omega)
theorem implFin_cons (n : Nat) (o : List (S42)) (y : S42) (x : Option (List (S42))) : implFin n o (x.map fun ys => y :: ys) = implFin n (o ++ [y]) x := by
  cases x with
  | none => rfl
  | some r =>
    show (if n ≤ 12 ∧ rowB (o ++ y :: r) = true then (o ++ y :: r, true) else ([], false)) = (if n ≤ 12 ∧ rowB (o ++ [y] ++ r) = true then (o ++ [y] ++ r, true) else ([], false))
    rw [List.append_assoc]
    rfl
theorem implRow_l0 (ws : List ByteArray) (hp : ∀ x ∈ ws, x.size ≤ 1048576) (hl : ws.length ≤ 2097152) : ∀ (d i : Nat) (o : List (S42)), i + d = ws.length → o.length = i → i ≤ 12 →
    Ev (fun k => impl_ParseRow.l0 k o ws (ws.length : Int) (i : Int)) (implFin ws.length o (mapO wordI ((ws.drop i).map (·.data.toList)))) := by
  intro d
  induction d with
  | zero =>
    intro i o h ho h12
    refine Ev.step (fun k => by rw [impl_ParseRow.l0]) ?_
    simp only [if_neg (show ¬ (i : Int) < (ws.length : Int) by omega)]
    rw [List.drop_eq_nil_of_le (by omega)]
    unfold impl_validRow.f
    simp only [implIsRow_eq, Option.bind_some]
    show Ev _ (if ws.length ≤ 12 ∧ rowB (o ++ []) = true then (o ++ [], true) else ([], false))
    rw [List.append_nil]
    by_cases hr : rowB o = true
    · simp only [if_pos hr, Option.bind_some]
      rw [if_pos ⟨by omega, hr⟩]
      exact Ev.now _
    · simp only [if_neg hr, Option.bind_some]
      rw [if_neg (fun e => hr e.2)]
      exact Ev.now _
  | succ d ih =>
    intro i o h ho h12
    have hi : i < ws.length := by omega
    have ei : wrap64 ((i : Int) + 1) = ((i + 1 : Nat) : Int) := by rw [w64 (by omega) (by omega)]; exact (Int.natCast_add i 1).symm
    rw [List.drop_eq_getElem_cons hi, List.map_cons]
    refine Ev.step (fun k => by rw [impl_ParseRow.l0]) ?_
    simp only [if_pos (show (i : Int) < (ws.length : Int) by omega), if_pos (show 0 ≤ (i : Int) by omega), rdStr ws i hi, ei]
    refine Ev.bind (numbers_ev ws[i] (hp _ (List.getElem_mem hi))) ?_
    cases hm : mapO numI (spl 58 [] ws[i].data.toList) with
    | none =>
      have hw : wordI ws[i].data.toList = none := by unfold wordI; rw [hm]
      rw [mapO_none _ _ _ hw]
      simp only [numR, Bool.false_eq_true, if_false]
      exact Ev.now _
    | some l =>
      have hnr : numR [] (some l) = (l, true) := rfl
      rw [hnr]
      simp only [if_true]
      by_cases h2 : l.length = 2
      · obtain ⟨a, b, rfl⟩ := two_of l h2
        have hw : wordI ws[i].data.toList = some ⟨a, b⟩ := by unfold wordI; rw [hm]
        rw [mapO_some _ _ _ _ hw, implFin_cons]
        have e2 : (([a, b] : List Int).length : Int) = 2 := rfl
        have r0 : rd [a, b] 0 = a := rfl
        have r1 : rd [a, b] 1 = b := rfl
        simp only [e2, if_true, r0, r1, if_pos (show (0 : Int) < 2 by decide), if_pos (show (1 : Int) < 2 by decide)]
        by_cases h3 : (o.length : Int) = 12
        · simp only [if_pos h3]
          rw [implFin_big _ _ _ (by omega)]
          exact Ev.now _
        · simp only [if_neg h3, if_pos (show o.length < 8796093022208 by omega)]
          exact ih (i + 1) (o ++ [⟨a, b⟩]) (by omega) (by rw [List.length_append, List.length_singleton]; omega) (by omega)
      · have hw := wordI_no hm h2
        rw [mapO_none _ _ _ hw]
        simp only [if_neg (show ¬ (l.length : Int) = 2 by omega)]
        exact Ev.now _
noncomputable def specFin (s : ByteArray) (o : List (S42)) : Option (List (S42)) → List (S42) × Bool
  | some r => if rowB (o ++ r) = true then (if (rowText (o ++ r)).toList = s.toList then (o ++ r, true) else ([], false)) else ([], false)
  | none => ([], false)
theorem specFin_cons (s : ByteArray) (o : List (S42)) (y : S42) (x : Option (List (S42))) : specFin s o (x.map fun ys => y :: ys) = specFin s (o ++ [y]) x := by
  cases x with
  | none => rfl
  | some r =>
    show (if rowB (o ++ y :: r) = true then (if (rowText (o ++ y :: r)).toList = s.toList then (o ++ y :: r, true) else ([], false)) else ([], false)) = (if rowB (o ++ [y] ++ r) = true then (if (rowText (o ++ [y] ++ r)).toList = s.toList then (o ++ [y] ++ r, true) else ([], false)) else ([], false))
    rw [List.append_assoc]
    rfl
theorem specRow_j1 (s : ByteArray) (ws : List ByteArray) (o : List (S42)) (i : Int) : Ev (fun k => spec_ParseRow.j1 k s o ws i false) (specFin s o (some [])) := by
  refine Ev.step (fun k => by rw [spec_ParseRow.j1]) ?_
  simp only [Bool.false_eq_true, if_false]
  show Ev _ (if rowB (o ++ []) = true then (if (rowText (o ++ [])).toList = s.toList then (o ++ [], true) else ([], false)) else ([], false))
  rw [List.append_nil]
  refine Ev.bind (l2Row_ev o) ?_
  by_cases hr : rowB o = true
  · simp only [if_pos hr]
    refine Ev.bind (specText_ev o hr) ?_
    by_cases he : (rowText o).toList = s.toList
    · simp only [if_pos he]; exact Ev.now _
    · simp only [if_neg he]; exact Ev.now _
  · simp only [if_neg hr]
    exact Ev.now _
theorem specRow_l0 (s : ByteArray) (ws : List ByteArray) (hp : ∀ x ∈ ws, x.size ≤ 1048576) (hl : ws.length ≤ 2097152) : ∀ (d i : Nat) (o : List (S42)), i + d = (ws.take 13).length → o.length = i →
    Ev (fun k => spec_ParseRow.l0 k s o ws (i : Int)) (specFin s o (mapO wordS (((ws.take 13).drop i).map (·.data.toList)))) := by
  have htl : (ws.take 13).length = min 13 ws.length := List.length_take
  intro d
  induction d with
  | zero =>
    intro i o h ho
    refine Ev.step (fun k => by rw [spec_ParseRow.l0]) ?_
    rw [List.drop_eq_nil_of_le (by omega)]
    by_cases h1 : (i : Int) < (ws.length : Int)
    · simp only [if_pos h1, decide_eq_false (show ¬ (i : Int) ≤ 12 by omega)]
      exact specRow_j1 s ws o _
    · simp only [if_neg h1]
      exact specRow_j1 s ws o _
  | succ d ih =>
    intro i o h ho
    have hi : i < ws.length := by omega
    have hi3 : i < (ws.take 13).length := by omega
    have ei : wrap64 ((i : Int) + 1) = ((i + 1 : Nat) : Int) := by rw [w64 (by omega) (by omega)]; exact (Int.natCast_add i 1).symm
    have hwz := hp _ (List.getElem_mem hi)
    obtain ⟨hq1, hq2⟩ := spl_ba 58 ws[i] hwz
    rw [List.drop_eq_getElem_cons hi3, List.map_cons, List.getElem_take]
    refine Ev.step (fun k => by rw [spec_ParseRow.l0]) ?_
    simp only [if_pos (show (i : Int) < (ws.length : Int) by omega), decide_eq_true (show (i : Int) ≤ 12 by omega)]
    refine Ev.step (fun k => by rw [spec_ParseRow.j1]) ?_
    simp only [if_true, if_pos (show (i : Int) < (ws.length : Int) by omega), if_pos (show 0 ≤ (i : Int) by omega), rdStr ws i hi, ei]
    refine Ev.bind (l1Split_ev ws[i] 58 hwz) ?_
    by_cases h2 : (spl 58 [] ws[i].data.toList).length = 2
    · obtain ⟨a, b, hs⟩ := two_of _ h2
      rw [hs] at hq2
      have hza : (⟨a.toArray⟩ : ByteArray).size ≤ 1048576 := hq2 _ (by simp)
      have hzb : (⟨b.toArray⟩ : ByteArray).size ≤ 1048576 := hq2 _ (by simp)
      have e2 : (((([a, b] : List (List UInt8)).map fun x => (⟨x.toArray⟩ : ByteArray)).length : Nat) : Int) = 2 := rfl
      have r0 : rdOf ByteArray.empty (([a, b] : List (List UInt8)).map fun x => (⟨x.toArray⟩ : ByteArray)) 0 = ⟨a.toArray⟩ := rfl
      have r1 : rdOf ByteArray.empty (([a, b] : List (List UInt8)).map fun x => (⟨x.toArray⟩ : ByteArray)) 1 = ⟨b.toArray⟩ := rfl
      have hw : wordS ws[i].data.toList = if (readL a).2 = true ∧ (readL b).2 = true then some ⟨(readL a).1, (readL b).1⟩ else none := by unfold wordS; rw [hs]
      simp only [hs, e2, if_true, if_pos (show (0 : Int) < 2 by decide), if_pos (show (1 : Int) < 2 by decide), r0, r1]
      refine Ev.bind (l1Read_ev ⟨a.toArray⟩ hza) (Ev.bind (l1Read_ev ⟨b.toArray⟩ hzb) ?_)
      show Ev (fun k => if (readL a).2 = true then (if (readL b).2 = true then (if o.length < 8796093022208 then spec_ParseRow.l0 k s (o ++ [(⟨(readL a).1, (readL b).1⟩ : S42)]) ws ((i + 1 : Nat) : Int) else none) else some ([], false)) else some ([], false)) _
      by_cases ha : (readL a).2 = true
      · by_cases hb : (readL b).2 = true
        · simp only [if_pos ha, if_pos hb, if_pos (show o.length < 8796093022208 by omega)]
          rw [if_pos ⟨ha, hb⟩] at hw
          rw [mapO_some _ _ _ _ hw, specFin_cons]
          exact ih (i + 1) _ (by omega) (by rw [List.length_append, List.length_singleton]; omega)
        · simp only [if_pos ha, if_neg hb]
          rw [if_neg (fun e => hb e.2)] at hw
          rw [mapO_none _ _ _ hw]
          exact Ev.now _
      · simp only [if_neg ha]
        rw [if_neg (fun e => ha e.1)] at hw
        rw [mapO_none _ _ _ hw]
        exact Ev.now _
    · have hw := wordS_no h2
      rw [mapO_none _ _ _ hw]
      simp only [List.length_map, if_neg (show ¬ ((spl 58 [] ws[i].data.toList).length : Int) = 2 by omega)]
      exact Ev.now _
theorem finBoth (s : ByteArray) (W : List (List UInt8)) (hW : W = spl 32 [] s.data.toList) : specFin s [] (mapO wordS (W.take 13)) = implFin W.length [] (mapO wordI W) := by
  by_cases hl : W.length ≤ 12
  · rw [List.take_of_length_le (by omega)]
    cases hS : mapO wordS W with
    | some r =>
      obtain ⟨hI, hw⟩ := rows_S hS
      rw [hI]
      show (if rowB r = true then (if (rowText r).toList = s.toList then (r, true) else ([], false)) else ([], false)) = (if W.length ≤ 12 ∧ rowB r = true then (r, true) else ([], false))
      by_cases hr : rowB r = true
      · have hlen := mapO_len _ _ _ hS
        have hne : W ≠ [] := by rw [hW]; exact spl_ne 32 _ _
        have ht : rowText r = s := by
          unfold rowText
          have h0 : ¬ r.length = 0 := by
            intro e
            rw [hlen] at e
            exact hne (List.length_eq_zero_iff.1 e)
          rw [if_neg h0]
          refine ba_ext ?_
          show tl [32] true (r.map word) = _
          have h1 := spl_join 32 s.data.toList []
          rw [← hW, hw, List.nil_append, List.map_map] at h1
          rw [← h1]
          congr 1
          exact (List.map_id' _).symm
        rw [if_pos hr, ht, if_pos rfl, if_pos ⟨hl, hr⟩]
      · rw [if_neg hr, if_neg (fun e => hr e.2)]
    | none =>
      cases hI : mapO wordI W with
      | none => rfl
      | some r =>
        show ([], false) = (if W.length ≤ 12 ∧ rowB r = true then (r, true) else ([], false))
        rw [if_neg]
        intro e
        have := rows_I hI ((rowB_iff r).1 e.2).2
        rw [hS] at this
        cases this
  · rw [implFin_big _ _ _ (by omega)]
    cases hS : mapO wordS (W.take 13) with
    | none => rfl
    | some r =>
      have hlen := mapO_len _ _ _ hS
      rw [List.length_take] at hlen
      exact if_neg (fun e => by have := ((rowB_iff r).1 e).1; omega)
theorem parseRowBoth (s : ByteArray) (hs : s.size ≤ 1048576) : ∃ R : List (S42) × Bool, Ev (fun k => spec_ParseRow.f k s) R ∧ Ev (fun k => impl_ParseRow.f k s) R ∧ R.1.length ≤ 12 := by
  unfold spec_ParseRow.f impl_ParseRow.f
  by_cases h : s.toList = ([110, 111, 110, 101] : List UInt8)
  · refine ⟨([], true), ?_, ?_, by simp⟩
    · simp only [Option.bind_some, if_pos h]; exact Ev.now _
    · simp only [if_pos h]; exact Ev.now _
  · obtain ⟨h1, h2⟩ := spl_ba 32 s hs
    have hz : (⟨#[32]⟩ : ByteArray).size = 1 := rfl
    refine ⟨implFin (spl 32 [] s.data.toList).length [] (mapO wordI (spl 32 [] s.data.toList)), ?_, ?_, ?_⟩
    · simp only [Option.bind_some, if_neg h]
      refine Ev.bind (l1Split_ev s 32 hs) ?_
      have e := specRow_l0 s _ h2 (by omega) _ 0 [] (Nat.zero_add _) rfl
      rw [List.drop_zero, ← List.map_take, ba_map, finBoth s _ rfl] at e
      exact e
    · simp only [if_neg h]
      unfold strings_Split.f
      simp only [if_pos (show s.size < 4294967281 ∧ 1 ≤ (⟨#[32]⟩ : ByteArray).size from ⟨by omega, by rw [hz]; omega⟩), Option.bind_some, splitB_spl]
      have e := implRow_l0 _ h2 (by omega) _ 0 [] (Nat.zero_add _) rfl (by omega)
      rw [List.drop_zero, ba_map, List.length_map] at e
      rw [List.length_map]
      exact e
    · cases hm : mapO wordI (spl 32 [] s.data.toList) with
      | none => simp [implFin]
      | some r =>
        show (if (spl 32 [] s.data.toList).length ≤ 12 ∧ rowB r = true then (r, true) else ([], false)).1.length ≤ 12
        split
        · rename_i hc
          exact ((rowB_iff r).1 hc.2).1
        · simp

/-- What the program's ParseRow gives. -/
def parseRowR (s : ByteArray) : List (S42) × Bool := if s.toList = ([110, 111, 110, 101] : List UInt8) then ([], true) else implFin (spl 32 [] s.data.toList).length [] (mapO wordI (spl 32 [] s.data.toList))
theorem implParseRow_ev (s : ByteArray) (hs : s.size ≤ 1048576) : Ev (fun k => impl_ParseRow.f k s) (parseRowR s) := by
  unfold impl_ParseRow.f parseRowR
  by_cases h : s.toList = ([110, 111, 110, 101] : List UInt8)
  · simp only [if_pos h]; exact Ev.now _
  · obtain ⟨h1, h2⟩ := spl_ba 32 s hs
    have hz : (⟨#[32]⟩ : ByteArray).size = 1 := rfl
    simp only [if_neg h]
    unfold strings_Split.f
    simp only [if_pos (show s.size < 4294967281 ∧ 1 ≤ (⟨#[32]⟩ : ByteArray).size from ⟨by omega, by rw [hz]; omega⟩), Option.bind_some, splitB_spl]
    have e := implRow_l0 _ h2 (by omega) _ 0 [] (Nat.zero_add _) rfl (by omega)
    rw [List.drop_zero, ba_map, List.length_map] at e
    rw [List.length_map]
    exact e
theorem spl_no (c : UInt8) : ∀ (l p : List UInt8), (∀ b ∈ l, b ≠ c) → spl c p l = [p ++ l]
  | [], p, _ => by rw [spl, List.append_nil]
  | b :: l, p, h => by
    rw [spl, if_neg (h b List.mem_cons_self), spl_no c l (p ++ [b]) (fun x hx => h x (List.mem_cons_of_mem _ hx)), List.append_assoc, List.singleton_append]
theorem spl_app (c : UInt8) (l : List UInt8) : ∀ (x p : List UInt8), (∀ b ∈ x, b ≠ c) → spl c p (x ++ c :: l) = (p ++ x) :: spl c [] l
  | [], p, _ => by rw [List.nil_append, spl, if_pos rfl, List.append_nil]
  | b :: x, p, h => by
    rw [List.cons_append, spl, if_neg (h b List.mem_cons_self), spl_app c l x (p ++ [b]) (fun y hy => h y (List.mem_cons_of_mem _ hy)), List.append_assoc, List.singleton_append]
theorem spl_tl (c : UInt8) : ∀ (r : List ByteArray) (x : ByteArray), (∀ y ∈ x :: r, ∀ b ∈ y.data.toList, b ≠ c) → spl c [] (tl [c] true (x :: r)) = (x :: r).map (·.data.toList)
  | [], x, h => by
    rw [tl, tl, if_pos rfl, List.nil_append, List.append_nil, spl_no c _ [] (h x List.mem_cons_self)]
    rfl
  | y :: r, x, h => by
    have ih := spl_tl c r y (fun z hz => h z (List.mem_cons_of_mem _ hz))
    have e : tl [c] true (x :: y :: r) = x.data.toList ++ c :: tl [c] true (y :: r) := by
      simp only [tl, if_true, List.nil_append, Bool.false_eq_true, if_false, List.append_assoc, List.cons_append]
    rw [e, spl_app c _ _ [] (h x List.mem_cons_self), ih, List.nil_append]
    rfl
theorem itoa_no (n : Int) (h0 : 0 ≤ n) (c : UInt8) (hc : Lib.digitVal c = none) : ∀ b ∈ Lib.itoa n, b ≠ c := by
  intro b hb
  obtain ⟨u, hu⟩ : ∃ u : Nat, n = (u : Int) := ⟨n.toNat, by omega⟩
  subst hu
  rw [Lib.itoa_nonneg] at hb
  obtain ⟨k, hk, e⟩ := List.getElem_of_mem hb
  obtain ⟨d, hd⟩ := dec_digit u b k (by rw [List.getElem?_eq_getElem hk, e])
  rintro rfl
  rw [hc] at hd
  cases hd
theorem word_data (x : S42) : (word x).data.toList = Lib.itoa x.f0 ++ 58 :: Lib.itoa x.f1 := by
  unfold word
  simp only [ba_app, List.append_assoc]
  rfl
theorem word_no (x : S42) (h0 : 0 ≤ x.f0) (h1 : 0 ≤ x.f1) : ∀ b ∈ (word x).data.toList, b ≠ 32 := by
  intro b hb
  rw [word_data] at hb
  rcases List.mem_append.1 hb with hb | hb
  · exact itoa_no x.f0 h0 32 (by decide) b hb
  · rcases List.mem_cons.1 hb with rfl | hb
    · decide
    · exact itoa_no x.f1 h1 32 (by decide) b hb
theorem wordI_word (x : S42) (h : (0 ≤ x.f0 ∧ x.f0 ≤ 60) ∧ (1 ≤ x.f1 ∧ x.f1 ≤ 99)) : wordI (word x).data.toList = some x := by
  have e : spl 58 [] (word x).data.toList = [Lib.itoa x.f0, Lib.itoa x.f1] := by
    rw [word_data, spl_app 58 _ _ [] (itoa_no x.f0 h.1.1 58 (by decide)), spl_no 58 _ [] (itoa_no x.f1 (by omega) 58 (by decide))]
    rfl
  unfold wordI
  rw [e, mapO_some _ _ _ _ (numI_small x.f0 (by omega) (by omega)), mapO_some _ _ _ _ (numI_small x.f1 (by omega) (by omega))]
  rfl
theorem words_back : ∀ l : List (S42), (∀ x ∈ l, (0 ≤ x.f0 ∧ x.f0 ≤ 60) ∧ (1 ≤ x.f1 ∧ x.f1 ≤ 99)) → mapO wordI ((l.map word).map (·.data.toList)) = some l
  | [], _ => rfl
  | x :: l, h => by
    rw [List.map_cons, List.map_cons, mapO_some _ _ _ _ (wordI_word x (h x List.mem_cons_self)), words_back l (fun y hy => h y (List.mem_cons_of_mem _ hy))]
    rfl
theorem row_back (l : List (S42)) (hr : rowB l = true) : parseRowR (rowText l) = (l, true) := by
  obtain ⟨hl, hall⟩ := (rowB_iff l).1 hr
  unfold parseRowR
  by_cases hn : l.length = 0
  · obtain rfl := List.eq_nil_of_length_eq_zero hn
    rw [if_pos (by unfold rowText; rw [if_pos List.length_nil, ByteArray.toList_eq])]
  · obtain ⟨x, r, rfl⟩ : ∃ x r, l = x :: r := by
      cases l with
      | nil => simp at hn
      | cons x r => exact ⟨x, r, rfl⟩
    have hd : (rowText (x :: r)).data.toList = tl [32] true ((x :: r).map word) := by
      unfold rowText
      rw [if_neg hn]
    have hs : spl 32 [] (rowText (x :: r)).data.toList = ((x :: r).map word).map (·.data.toList) := by
      rw [hd]
      refine spl_tl 32 (r.map word) (word x) ?_
      intro y hy
      rw [← List.map_cons] at hy
      obtain ⟨z, hz, rfl⟩ := List.mem_map.1 hy
      have := hall z hz
      exact word_no z (by omega) (by omega)
    have hne : ¬ (rowText (x :: r)).toList = ([110, 111, 110, 101] : List UInt8) := by
      intro e
      rw [ByteArray.toList_eq, hd] at e
      have hm : (58 : UInt8) ∈ ([110, 111, 110, 101] : List UInt8) := by
        rw [← e, List.map_cons, tl, if_pos rfl, List.nil_append, word_data]
        exact List.mem_append_left _ (List.mem_append_right _ List.mem_cons_self)
      revert hm
      decide
    rw [if_neg hne, hs, words_back (x :: r) hall]
    unfold implFin
    simp only [List.length_map, List.nil_append]
    exact if_pos ⟨hl, hr⟩
theorem rowText_size (l : List (S42)) (hr : rowB l = true) : (rowText l).size ≤ 1000 := by
  obtain ⟨hl, hall⟩ := (rowB_iff l).1 hr
  unfold rowText
  split
  · decide
  · have := tl_size l true hall
    rw [ba_size]
    show (tl [32] true (l.map word)).length ≤ _
    omega

/-- The weight at a place, and the moment of what lies there or beyond, in whole numbers. -/
def wAt (q : Int) : List (S42) → Int
  | [] => 0
  | x :: l => (if x.f0 = q then x.f1 else 0) + wAt q l
def momGe (p q : Int) : List (S42) → Int
  | [] => 0
  | x :: l => (if q ≤ x.f0 then x.f1 * (x.f0 - p) else 0) + momGe p q l
theorem wAt_bounds (q : Int) : ∀ l : List (S42), okL l → 0 ≤ wAt q l ∧ wAt q l ≤ 99 * l.length
  | [], _ => by simp [wAt]
  | x :: l, h => by
    have h' := okL_cons h
    have ih := wAt_bounds q l h'.2
    simp only [wAt, List.length_cons]
    split <;> omega
theorem sumAt_fold (q : Int) : ∀ (l : List (S42)) (s : Int), okL l → 0 ≤ s → s + 99 * l.length ≤ 1000000 → l.foldl (sumStep q) s = s + wAt q l
  | [], s, _, _, _ => by rw [List.foldl_nil, wAt, Int.add_zero]
  | x :: l, s, h, h0, h1 => by
    have h' := okL_cons h
    simp only [List.length_cons] at h1
    rw [List.foldl_cons, sumStep, wAt]
    split
    · rw [w64 (by omega) (by omega), sumAt_fold q l _ h'.2 (by omega) (by omega)]
      omega
    · rw [sumAt_fold q l _ h'.2 (by omega) (by omega)]
      omega
theorem sumAt_eq (l : List (S42)) (q : Int) (h : okL l) (hl : l.length ≤ 13) : sumAt l q = wAt q l := by
  unfold sumAt
  rw [sumAt_fold q l 0 h (by omega) (by omega), Int.zero_add]
theorem momGe_step (p q : Int) : ∀ l : List (S42), momGe p q l = wAt q l * (q - p) + momGe p (q + 1) l
  | [] => by simp [momGe, wAt]
  | x :: l => by
    have ih := momGe_step p q l
    simp only [momGe, wAt, Int.add_mul]
    by_cases h1 : x.f0 = q
    · rw [if_pos h1, if_pos (by omega), if_neg (by omega), h1]
      omega
    · rw [if_neg h1]
      by_cases h2 : q ≤ x.f0
      · rw [if_pos h2, if_pos (by omega)]
        omega
      · rw [if_neg h2, if_neg (by omega)]
        omega
theorem momGe_all (p : Int) : ∀ l : List (S42), okL l → momGe p 0 l = mom p l
  | [], _ => rfl
  | x :: l, h => by
    have h' := okL_cons h
    rw [momGe, mom, momGe_all p l h'.2, if_pos h'.1.1.1]
theorem momGe_none (p : Int) : ∀ l : List (S42), okL l → momGe p 61 l = 0
  | [], _ => rfl
  | x :: l, h => by
    have h' := okL_cons h
    rw [momGe, momGe_none p l h'.2, if_neg (by omega), Int.add_zero]
/-- Merged Loads have the moment of their Loads, and their places rise. -/
theorem merged_mom (l : List (S42)) (p : Int) (hk : okL l) (hl : l.length ≤ 13) : ∀ (d : Nat) (q : Int) (out : List (S42)), q + d = 61 → mom p (mergedFrom l d q out) = mom p out + momGe p q l := by
  intro d
  induction d with
  | zero =>
    intro q out hq
    obtain rfl : q = 61 := by omega
    rw [mergedFrom, momGe_none p l hk, Int.add_zero]
  | succ d ih =>
    intro q out hq
    rw [mergedFrom, ih (q + 1) _ (by omega), momGe_step p q l, sumAt_eq l q hk hl]
    have hb := wAt_bounds q l hk
    split
    · rw [mom_append]
      simp only [mom, Int.add_zero]
      omega
    · obtain h0 : wAt q l = 0 := by omega
      rw [h0, Int.zero_mul, Int.zero_add]
theorem merged_up (l : List (S42)) : ∀ (d : Nat) (q : Int) (out : List (S42)), (∀ x ∈ out, x.f0 < q) → out.Pairwise (fun x y => x.f0 < y.f0) → (mergedFrom l d q out).Pairwise (fun x y => x.f0 < y.f0) := by
  intro d
  induction d with
  | zero => intro q out _ h; exact h
  | succ d ih =>
    intro q out h1 h2
    rw [mergedFrom]
    split
    · refine ih (q + 1) _ ?_ ?_
      · intro x hx
        rcases List.mem_append.1 hx with hx | hx
        · have := h1 x hx; omega
        · rw [List.mem_singleton.1 hx]; show q < q + 1; omega
      · rw [List.pairwise_append]
        refine ⟨h2, List.pairwise_singleton _ _, ?_⟩
        intro x hx y hy
        rw [List.mem_singleton.1 hy]
        exact h1 x hx
    · exact ih (q + 1) _ (fun x hx => by have := h1 x hx; omega) h2
theorem keptR_yes {l r : List (S42)} (h : keptR l = (r, true)) : rowB l = true ∧ r = l := by
  unfold keptR at h
  split at h
  · rename_i hb
    cases h
    exact ⟨hb, rfl⟩
  · cases h
/-- What MergeRow has given. -/
theorem MergeRow_yes {l r : List (S42)} (h : MergeRowR l = (r, true)) : rowB l = true ∧ rowB r = true ∧ (∀ p, 0 ≤ p ∧ p ≤ 60 → momW r p = momW l p) ∧ r.Pairwise (fun x y => x.f0 < y.f0) := by
  unfold MergeRowR at h
  split at h
  · rename_i hb
    obtain ⟨h1, rfl⟩ := keptR_yes h
    have hk := okL_of hb
    have hl := ((rowB_iff l).1 hb).1
    refine ⟨hb, h1, fun p hp => ?_, merged_up l 61 0 [] (fun x hx => by cases hx) List.Pairwise.nil⟩
    rw [momW_eq (okL_of h1) (by have := ((rowB_iff _).1 h1).1; omega) hp, momW_eq hk (by omega) hp, merged_mom l p hk (by omega) 61 0 [] (by omega), momGe_all p l hk]
    simp [mom]
  · cases h
theorem shift_mom (n : Int) (hn : -60 ≤ n ∧ n ≤ 60) : ∀ l : List (S42), okL l → mom 0 (byW (fun p => wrap64 (p + n)) l) = mom 0 l + wt l * n
  | [], _ => by simp [mom, wt, byW]
  | x :: l, h => by
    have h' := okL_cons h
    have ih := shift_mom n hn l h'.2
    unfold byW at ih ⊢
    rw [List.map_cons, mom, mom, wt, ih]
    show x.f1 * (wrap64 (x.f0 + n) - 0) + (mom 0 l + wt l * n) = x.f1 * (x.f0 - 0) + mom 0 l + (x.f1 + wt l) * n
    rw [w64 (by omega) (by omega), Int.sub_zero, Int.sub_zero, Int.mul_add, Int.add_mul]
    omega
/-- What ShiftRow has given. -/
theorem ShiftRow_yes {l r : List (S42)} {n : Int} (h : ShiftRowR l n = (r, true)) : rowB l = true ∧ rowB r = true ∧ (-60 ≤ n ∧ n ≤ 60) ∧ momW r 0 = wrap64 (momW l 0 + wrap64 (wtW l * n)) := by
  unfold ShiftRowR at h
  split at h
  · rename_i hn
    unfold placesByR at h
    split at h
    · rename_i hb
      obtain ⟨h1, rfl⟩ := keptR_yes h
      have hk := okL_of hb
      have hl := ((rowB_iff l).1 hb).1
      refine ⟨hb, h1, hn, ?_⟩
      have hw := wt_bounds l hk
      have hm := mom_bounds 0 (by omega) l hk
      have hr := mom_bounds 0 (by omega) _ (okL_of h1)
      have hrl := ((rowB_iff _).1 h1).1
      have e := shift_mom n hn l hk
      rw [momW_eq (okL_of h1) (by omega) (by omega), momW_eq hk (by omega) (by omega), wtW_eq hk (by omega)]
      rw [w64 (x := wt l * n) (by omega) (by omega), w64 (by omega) (by omega)]
      exact e
    · cases h
  · cases h
/-- What JoinRows has given. -/
theorem JoinRows_yes {a b r : List (S42)} (h : JoinRowsR a b = (r, true)) : rowB a = true ∧ rowB b = true ∧ rowB r = true ∧ r = a ++ b := by
  unfold JoinRowsR at h
  split at h
  · rename_i hb
    obtain ⟨h1, rfl⟩ := keptR_yes h
    simp only [Bool.and_eq_true] at hb
    exact ⟨hb.1, hb.2, h1, rfl⟩
  · cases h
theorem join_mom {a b : List (S42)} (ha : rowB a = true) (hb : rowB b = true) (hr : rowB (a ++ b) = true) {p : Int} (hp : 0 ≤ p ∧ p ≤ 60) : wrap64 (momW a p + momW b p) = momW (a ++ b) p := by
  have la := ((rowB_iff a).1 ha).1
  have lb := ((rowB_iff b).1 hb).1
  have lr := ((rowB_iff _).1 hr).1
  have ma := mom_bounds p hp a (okL_of ha)
  have mb := mom_bounds p hp b (okL_of hb)
  rw [momW_eq (okL_of ha) (by omega) hp, momW_eq (okL_of hb) (by omega) hp, momW_eq (okL_of hr) (by omega) hp, mom_append, w64 (by omega) (by omega)]
theorem join_side {a b : List (S42)} (ha : rowB a = true) (hb : rowB b = true) (hr : rowB (a ++ b) = true) {p q : Int} (hp : 0 ≤ p ∧ p ≤ 60) (hq : 0 ≤ q ∧ q ≤ 60) (h1 : sideW a p q = 0) (h2 : sideW b p q = 0) : sideW (a ++ b) p q = 0 := by
  have la := ((rowB_iff a).1 ha).1
  have lb := ((rowB_iff b).1 hb).1
  have lr := ((rowB_iff _).1 hr).1
  have e1 := (sideW_zero (okL_of ha) (by omega) hp hq).1 h1
  have e2 := (sideW_zero (okL_of hb) (by omega) hp hq).1 h2
  refine (sideW_zero (okL_of hr) (by omega) hp hq).2 ?_
  rw [mom_append, mom_append]
  omega

/-- The bytes that a reader of draws reads. -/
def Code8 (c : List Int) : Prop := (∀ x ∈ c, 0 ≤ x ∧ x ≤ 255) ∧ c.length ≤ 140737488351232
theorem code8 {c : List Int} (h1 : c.length * 1 ≤ 140737488351232) (h2 : ∀ x ∈ c, (Lit.int .u8 x).wf = true) : Code8 c := by
  refine ⟨fun x hx => ?_, by omega⟩
  have h := h2 x hx
  simp [Lit.wf, IntKind.min, IntKind.max, IntKind.signed, IntKind.bits] at h
  omega
theorem and255 (x : Int) (h0 : 0 ≤ x) (h1 : x < 18446744073709551616) : 0 ≤ Go.bits .and .u64 x 255 ∧ Go.bits .and .u64 x 255 ≤ 255 := by
  have := Go.bits_mask .u64 64 (by decide) (fun n g0 g1 => by rw [IntKind.wrap_u64]; omega) 8 (by decide) x h0 h1
  rw [show ((2 : Int) ^ 8 - 1) = 255 by decide, show ((2 : Int) ^ 8) = 256 by decide] at this
  rw [this]
  omega
theorem u64_range (x : Int) : 0 ≤ IntKind.u64.wrap x ∧ IntKind.u64.wrap x < 18446744073709551616 := by
  rw [IntKind.wrap_u64]
  omega
theorem seedByte (x : Int) : 0 ≤ wrap64 (Go.bits .and .u64 (IntKind.u64.wrap x / 1099511627776) 255) ∧ wrap64 (Go.bits .and .u64 (IntKind.u64.wrap x / 1099511627776) 255) ≤ 255 := by
  have h := u64_range x
  have h2 := and255 (IntKind.u64.wrap x / 1099511627776) (by omega) (by omega)
  rw [w64 (by omega) (by omega)]
  exact h2
theorem next_ok {c : List Int} (hc : Code8 c) {p : Int} (s : Int) (h0 : 0 ≤ p) (h1 : p ≤ 4611686018427387904) : ∃ b s', spec_l1Cur_next.f c p s = some (b, p + 1, s') ∧ 0 ≤ b ∧ b ≤ 255 := by
  unfold spec_l1Cur_next.f
  rw [w64 (show -9223372036854775808 ≤ p + 1 by omega) (by omega)]
  by_cases h : p < (c.length : Int)
  · have hb := hc.1 _ (rd_mem h0 h)
    have e : wrap64 (rd c p) = rd c p := w64 (by omega) (by omega)
    simp only [if_pos h, if_pos h0, e]
    split
    · exact ⟨_, _, rfl, hb⟩
    · exact ⟨_, _, rfl, seedByte _⟩
  · simp only [if_neg h]
    split
    · exact ⟨_, _, rfl, by omega, by omega⟩
    · exact ⟨_, _, rfl, seedByte _⟩
theorem tmod_in {x n : Int} (h0 : 0 ≤ x) (h1 : 1 ≤ n) : 0 ≤ Int.tmod x n ∧ Int.tmod x n < n := by
  rw [Int.tmod_eq_emod_of_nonneg h0]
  exact ⟨Int.emod_nonneg _ (by omega), Int.emod_lt_of_pos _ (by omega)⟩
theorem pick_ok {c : List Int} (hc : Code8 c) {p : Int} (s n : Int) (h0 : 0 ≤ p) (h1 : p ≤ 4611686018427387000) : ∃ x p' s', spec_l1Cur_pick.f c p s n = some (x, p', s') ∧ (p ≤ p' ∧ p' ≤ p + 2) ∧ 0 ≤ x ∧ (1 ≤ n → x < n) := by
  unfold spec_l1Cur_pick.f
  by_cases hn : n ≤ 1
  · rw [if_pos hn]
    exact ⟨_, _, _, rfl, by omega, by omega, by omega⟩
  · rw [if_neg hn]
    obtain ⟨b, s1, e1, b0, b1⟩ := next_ok hc s h0 (by omega)
    rw [e1, Option.bind_some]
    by_cases h2 : n > 200
    · obtain ⟨d, s2, e2, d0, d1⟩ := next_ok hc s1 (show 0 ≤ p + 1 by omega) (by omega)
      simp only [if_pos h2, e2, Option.bind_some, if_neg (show ¬ n = 0 by omega)]
      rw [w64 (show -9223372036854775808 ≤ b * 256 by omega) (by omega), w64 (show -9223372036854775808 ≤ b * 256 + d by omega) (by omega)]
      have := tmod_in (show 0 ≤ b * 256 + d by omega) (show 1 ≤ n by omega)
      exact ⟨_, _, _, rfl, by omega, this.1, fun _ => this.2⟩
    · simp only [if_neg h2, if_neg (show ¬ n = 0 by omega)]
      have := tmod_in b0 (show 1 ≤ n by omega)
      exact ⟨_, _, _, rfl, by omega, this.1, fun _ => this.2⟩

theorem among_ok {c : List Int} (hc : Code8 c) {p : Int} (s : Int) (l : List Int) (h0 : 0 ≤ p) (h1 : p ≤ 4611686018427387000) (hl : 1 ≤ l.length) : ∃ x p' s', spec_l1Cur_among.f c p s l = some (x, p', s') ∧ (p ≤ p' ∧ p' ≤ p + 2) ∧ x ∈ l := by
  unfold spec_l1Cur_among.f
  obtain ⟨x, p', s', e, hp, x0, x1⟩ := pick_ok hc s (l.length : Int) h0 h1
  have x1' := x1 (by omega)
  simp only [e, Option.bind_some, if_pos x0, if_pos x1']
  exact ⟨_, _, _, rfl, hp, rd_mem x0 x1'⟩
theorem one_ok {c : List Int} (hc : Code8 c) {p : Int} (s n : Int) (h0 : 0 ≤ p) (h1 : p ≤ 4611686018427387000) : ∃ x p' s', spec_l1Cur_one.f c p s n = some (x, p', s') ∧ (p ≤ p' ∧ p' ≤ p + 2) := by
  unfold spec_l1Cur_one.f
  obtain ⟨x, p', s', e, hp, x0, x1⟩ := pick_ok hc s n h0 h1
  simp only [e, Option.bind_some]
  exact ⟨_, _, _, rfl, hp⟩

theorem l1Least_eq (a b : Int) : spec_l1Least.f a b = some (min a b) := by
  unfold spec_l1Least.f
  split
  · rw [Int.min_eq_left (by omega)]
  · rw [Int.min_eq_right (by omega)]
theorem fill_ok (c : List Int) (p s : Int) : ∀ (d : Nat) (r : List (S42)), r.length ≤ 13 → 13 - r.length = d → ∃ r', Ev (fun k => spec_l1Cur_someRow.l1 k r c p s) (r', p, s) ∧ r'.length ≤ 13 := by
  intro d
  induction d with
  | zero =>
    intro r h0 hd
    refine ⟨r, ?_, h0⟩
    refine Ev.step (fun k => by rw [spec_l1Cur_someRow.l1]) ?_
    simp only [if_neg (show ¬ (r.length : Int) < 13 by omega)]
    exact Ev.now _
  | succ d ih =>
    intro r h0 hd
    obtain ⟨r', hr, hl⟩ := ih (r ++ [⟨5, 1⟩]) (by rw [List.length_append, List.length_singleton]; omega) (by rw [List.length_append, List.length_singleton]; omega)
    refine ⟨r', ?_, hl⟩
    refine Ev.step (fun k => by rw [spec_l1Cur_someRow.l1]) ?_
    simp only [if_pos (show (r.length : Int) < 13 by omega), if_pos (show r.length < 8796093022208 by omega)]
    exact hr
theorem someRow_ok {c : List Int} (hc : Code8 c) : ∀ (d : Nat) (n : Int) (r : List (S42)) (p s : Int), n ≤ d → r.length + d ≤ 12 → 0 ≤ p → p ≤ 4611686018427380000 - 8 * (d : Int) →
    ∃ r' p' s', Ev (fun k => spec_l1Cur_someRow.l0 k r n c p s) (r', p', s') ∧ r'.length ≤ 13 ∧ (p ≤ p' ∧ p' ≤ p + 8 * d + 6) := by
  intro d
  induction d with
  | zero =>
    intro n r p s hn hr h0 h1
    have nn : ¬ n > 0 := by omega
    by_cases hz : (r.length : Int) > 0
    · obtain ⟨x, p1, s1, e1, hp1, x0, x1⟩ := pick_ok hc s 60 h0 (by omega)
      by_cases g0 : x = 0
      · obtain ⟨y, p2, s2, e2, hp2, y0, y1⟩ := pick_ok hc s1 (r.length : Int) (show 0 ≤ p1 by omega) (by omega)
        obtain ⟨z, p3, s3, e3, hp3, _⟩ := among_ok hc s2 [(-1), 60, 61, 4611686018427387904] (show 0 ≤ p2 by omega) (by omega) (by decide)
        refine ⟨r.set y.toNat ⟨z, (rd_T42 r y).f1⟩, p3, s3, Ev.step (fun k => by rw [spec_l1Cur_someRow.l0]) ?_, by rw [List.length_set]; omega, by omega⟩
        simp only [if_neg nn, if_pos hz, e1, e2, e3, Option.bind_some, if_pos g0, if_pos y0, if_pos (y1 (by omega))]
        exact Ev.now _
      · by_cases g1 : x = 1
        · obtain ⟨y, p2, s2, e2, hp2, y0, y1⟩ := pick_ok hc s1 (r.length : Int) (show 0 ≤ p1 by omega) (by omega)
          obtain ⟨z, p3, s3, e3, hp3, _⟩ := among_ok hc s2 [0, 99, 100, (-1)] (show 0 ≤ p2 by omega) (by omega) (by decide)
          refine ⟨r.set y.toNat ⟨(rd_T42 r y).f0, z⟩, p3, s3, Ev.step (fun k => by rw [spec_l1Cur_someRow.l0]) ?_, by rw [List.length_set]; omega, by omega⟩
          simp only [if_neg nn, if_pos hz, e1, e2, e3, Option.bind_some, if_neg g0, if_pos g1, if_pos y0, if_pos (y1 (by omega))]
          exact Ev.now _
        · by_cases g2 : x = 2
          · obtain ⟨r', hr', hl'⟩ := fill_ok c p1 s1 _ r (by omega) rfl
            refine ⟨r', p1, s1, Ev.step (fun k => by rw [spec_l1Cur_someRow.l0]) ?_, hl', by omega⟩
            simp only [if_neg nn, if_pos hz, e1, Option.bind_some, if_neg g0, if_neg g1, if_pos g2]
            exact hr'
          · refine ⟨r, p1, s1, Ev.step (fun k => by rw [spec_l1Cur_someRow.l0]) ?_, by omega, by omega⟩
            simp only [if_neg nn, if_pos hz, e1, Option.bind_some, if_neg g0, if_neg g1, if_neg g2]
            exact Ev.now _
    · refine ⟨r, p, s, Ev.step (fun k => by rw [spec_l1Cur_someRow.l0]) ?_, by omega, by omega⟩
      simp only [if_neg nn, if_neg hz]
      exact Ev.now _
  | succ d ih =>
    intro n r p s hn hr h0 h1
    by_cases hd : n ≤ d
    · obtain ⟨r', p', s', h, hl, hp⟩ := ih n r p s hd (by omega) h0 (by omega)
      exact ⟨r', p', s', h, hl, by omega⟩
    · obtain ⟨a, p1, s1, e1, hp1, _⟩ := among_ok hc s [11, 11, 21, 61] h0 (by omega) (by decide)
      obtain ⟨b, p2, s2, e2, hp2, _⟩ := pick_ok hc s1 a (show 0 ≤ p1 by omega) (by omega)
      obtain ⟨x, p3, s3, e3, hp3, _⟩ := among_ok hc s2 [3, 9, 30] (show 0 ≤ p2 by omega) (by omega) (by decide)
      obtain ⟨y, p4, s4, e4, hp4, _⟩ := pick_ok hc s3 x (show 0 ≤ p3 by omega) (by omega)
      obtain ⟨r', p', s', h, hl, hp⟩ := ih (n - 1) (r ++ [⟨b, wrap64 (1 + y)⟩]) p4 s4 (by omega) (by rw [List.length_append, List.length_singleton]; omega) (by omega) (by omega)
      refine ⟨r', p', s', Ev.step (fun k => by rw [spec_l1Cur_someRow.l0]) ?_, hl, by omega⟩
      simp only [if_pos (show n > 0 by omega), e1, e2, e3, e4, Option.bind_some, if_pos (show r.length < 8796093022208 by omega), w64 (show -9223372036854775808 ≤ n - 1 by omega) (by omega)]
      exact h
theorem row_ok {c : List Int} (hc : Code8 c) (p s : Int) (h0 : 0 ≤ p) (h1 : p ≤ 4611686018427370000) : ∃ r' p' s', Ev (fun k => spec_l1Cur_row.f k c p s) (r', p', s') ∧ r'.length ≤ 13 ∧ (p ≤ p' ∧ p' ≤ p + 200) := by
  obtain ⟨n, p1, s1, e1, hp1, _⟩ := among_ok hc s [3, 2, 4, 1, 0, 6, 12] h0 (by omega) (by decide)
  obtain ⟨r', p', s', h, hl, hp⟩ := someRow_ok hc 12 (min n 12) [] p1 s1 (by omega) (by decide) (by omega) (by omega)
  refine ⟨r', p', s', ?_, hl, by omega⟩
  unfold spec_l1Cur_row.f spec_l1Cur_someRow.f
  simp only [e1, l1Least_eq, Option.bind_some]
  exact Ev.bind h (Ev.now _)

theorem rRow_self (l : List (S42)) (hl : l.length ≤ 1000) : Ev (fun k => laws_rRow.f k l l) true := by
  unfold laws_rRow.f
  simp only [if_true]
  have key : ∀ (d : Nat) (i : Int), 0 ≤ i → (l.length : Int) - i = d → Ev (fun k => laws_rRow.l0 k l l i) true := by
    intro d
    induction d with
    | zero =>
      intro i h0 h
      refine Ev.step (fun k => by rw [laws_rRow.l0]) ?_
      simp only [if_neg (show ¬ i < (l.length : Int) by omega)]
      exact Ev.now _
    | succ d ih =>
      intro i h0 h
      refine Ev.step (fun k => by rw [laws_rRow.l0]) ?_
      simp only [if_pos (show i < (l.length : Int) by omega), if_pos h0, beq_self_eq_true, Bool.not_true, Bool.or_self, Bool.false_eq_true, if_false, w64 (show -9223372036854775808 ≤ i + 1 by omega) (by omega)]
      exact ih (i + 1) (by omega) (by omega)
  exact key l.length 0 (by omega) (by omega)
theorem rBig_eq (c : List Int) : laws_rBig.f c = some (decide ((c.length : Int) > 65536)) := rfl

theorem drawJoinR_ok {c : List Int} (hc : Code8 c) : ∃ a b, Ev (fun k => spec_DrawJoinRows.f k c) (a, b) ∧ a.length ≤ 13 ∧ b.length ≤ 13 := by
  obtain ⟨a, p1, s1, h, hl, hp⟩ := row_ok hc 0 0 (by omega) (by omega)
  obtain ⟨b, p2, s2, h2, hl2, hp2⟩ := row_ok hc p1 s1 (by omega) (by omega)
  refine ⟨a, b, ?_, hl, hl2⟩
  unfold spec_DrawJoinRows.f
  exact Ev.bind h (Ev.bind h2 (Ev.now _))
theorem drawMerge_l0 {c : List Int} (hc : Code8 c) : ∀ (d : Nat) (l : List (S42)) (i : Nat) (p s : Int), l.length ≤ 13 → l.length - i = d → 0 ≤ p → p ≤ 4611686018427380000 - 8 * (d : Int) →
    ∃ r, Ev (fun k => spec_DrawMergeRow.l0 k l (i : Int) c p s) r ∧ r.length ≤ 13 := by
  intro d
  induction d with
  | zero =>
    intro l i p s hl hd h0 h1
    refine ⟨l, Ev.step (fun k => by rw [spec_DrawMergeRow.l0]) ?_, hl⟩
    simp only [if_neg (show ¬ (i : Int) < (l.length : Int) by omega)]
    exact Ev.now _
  | succ d ih =>
    intro l i p s hl hd h0 h1
    obtain ⟨x, p1, s1, e1, hp1⟩ := one_ok hc s 3 h0 (by omega)
    have ei : wrap64 ((i : Int) + 1) = ((i + 1 : Nat) : Int) := by rw [w64 (by omega) (by omega)]; exact (Int.natCast_add i 1).symm
    cases x with
    | false =>
      obtain ⟨r, hr, hrl⟩ := ih l (i + 1) p1 s1 hl (by omega) (by omega) (by omega)
      refine ⟨r, Ev.step (fun k => by rw [spec_DrawMergeRow.l0]) ?_, hrl⟩
      simp only [if_pos (show (i : Int) < (l.length : Int) by omega), e1, Option.bind_some, Bool.false_eq_true, if_false, ei]
      exact hr
    | true =>
      obtain ⟨r, hr, hrl⟩ := ih (l.set ((i : Int) : Int).toNat (⟨(rd_T42 l 0).f0, (rd_T42 l (i : Int)).f1⟩ : S42)) (i + 1) p1 s1 (by rw [List.length_set]; exact hl) (by rw [List.length_set]; omega) (by omega) (by omega)
      refine ⟨r, Ev.step (fun k => by rw [spec_DrawMergeRow.l0]) ?_, hrl⟩
      simp only [if_pos (show (i : Int) < (l.length : Int) by omega), e1, Option.bind_some, if_true, ei, if_pos (show 0 < (l.length : Int) by omega), if_pos (show 0 ≤ (i : Int) by omega)]
      exact hr
theorem drawMerge_ok {c : List Int} (hc : Code8 c) : ∃ r, Ev (fun k => spec_DrawMergeRow.f k c) r ∧ r.length ≤ 13 := by
  obtain ⟨a, p1, s1, h, hl, hp⟩ := row_ok hc 0 0 (by omega) (by omega)
  obtain ⟨r, hr, hrl⟩ := drawMerge_l0 hc _ a 1 p1 s1 hl rfl (by omega) (by omega)
  refine ⟨r, ?_, hrl⟩
  unfold spec_DrawMergeRow.f
  exact Ev.bind h hr
theorem drawShift_ok {c : List Int} (hc : Code8 c) : ∃ r n, Ev (fun k => spec_DrawShiftRow.f k c) (r, n) ∧ r.length ≤ 13 := by
  obtain ⟨a, p1, s1, h, hl, hp⟩ := row_ok hc 0 0 (by omega) (by omega)
  obtain ⟨n, p2, s2, e2, hp2, _⟩ := among_ok hc s1 [1, 3, (-1), 10, (-3), 40, 60, (-60), 61, (-61), 0] (show 0 ≤ p1 by omega) (by omega) (by decide)
  refine ⟨a, n, ?_, hl⟩
  unfold spec_DrawShiftRow.f
  refine Ev.bind h ?_
  simp only [e2, Option.bind_some]
  exact Ev.now _
theorem drawText_ok {c : List Int} (hc : Code8 c) : ∃ r, Ev (fun k => spec_DrawRowText.f k c) r ∧ r.length ≤ 13 := by
  obtain ⟨a, p1, s1, h, hl, hp⟩ := row_ok hc 0 0 (by omega) (by omega)
  refine ⟨a, ?_, hl⟩
  unfold spec_DrawRowText.f spec_DrawIsRow.f
  exact Ev.bind (Ev.bind h (Ev.now _)) (Ev.now _)
theorem ext_size (s : ByteArray) (a b : Nat) : (s.extract a b).size = min b s.size - a := by
  rw [ByteArray.size_extract]
theorem spoilt_ok {c : List Int} (hc : Code8 c) {p : Int} (s : Int) (t w : ByteArray) (h0 : 0 ≤ p) (h1 : p ≤ 4611686018427380000) (ht : t.size ≤ 1000) (hw : 1 ≤ w.size ∧ w.size ≤ 20) :
    ∃ x p' s', spec_l1Cur_spoilt.f c p s t w = some (x, p', s') ∧ x.size ≤ 2000 := by
  unfold spec_l1Cur_spoilt.f
  by_cases hz : t.toList = ([] : List UInt8)
  · simp only [if_pos hz, if_pos (show (0 : Int) ≤ 1 by decide), if_pos (show (1 : Int) ≤ (w.size : Int) by omega)]
    exact ⟨_, _, _, rfl, by rw [ext_size]; omega⟩
  · have htz : 1 ≤ t.size := by
      rcases Nat.eq_zero_or_pos t.size with h | h
      · exact absurd (by rw [ByteArray.toList_eq]; exact List.eq_nil_of_length_eq_zero (by rw [← ba_size]; exact h)) hz
      · exact h
    obtain ⟨i, p1, s1, e1, hp1, i0, i1⟩ := pick_ok hc s (t.size : Int) h0 (by omega)
    obtain ⟨j, p2, s2, e2, hp2, j0, j1⟩ := pick_ok hc s1 (w.size : Int) (show 0 ≤ p1 by omega) (by omega)
    obtain ⟨m, p3, s3, e3, hp3, _⟩ := pick_ok hc s2 3 (show 0 ≤ p2 by omega) (by omega)
    have i1 := i1 (by omega)
    have j1 := j1 (by omega)
    have ei : wrap64 (i + 1) = i + 1 := w64 (by omega) (by omega)
    have z1 : (w.extract j.toNat w.size).size = w.size - j.toNat := by rw [ext_size, Nat.min_self]
    have z2 : ((w.extract j.toNat w.size).extract 0 1).size = 1 := by rw [ext_size, z1]; omega
    have z3 : (t.extract 0 i.toNat).size = i.toNat := by rw [ext_size]; omega
    have z4 : (t.extract i.toNat t.size).size = t.size - i.toNat := by rw [ext_size, Nat.min_self]
    have z5 : (t.extract (i + 1).toNat t.size).size = t.size - (i + 1).toNat := by rw [ext_size, Nat.min_self]
    simp only [if_neg hz, e1, e2, e3, Option.bind_some, if_pos j0, if_pos (show j ≤ (w.size : Int) by omega), if_pos (show (0 : Int) ≤ 1 by decide), z1, if_pos (show (1 : Int) ≤ ((w.size - j.toNat : Nat) : Int) by omega), ei, if_pos i0, if_pos (show i ≤ (t.size : Int) by omega), ByteArray.size_append, z2, z3, z4, z5, if_pos (show (0 : Int) ≤ i + 1 by omega), if_pos (show i + 1 ≤ (t.size : Int) by omega), if_pos (show i.toNat + 1 ≤ 9223372036854775807 by omega), if_pos (show i.toNat + 1 + (t.size - i.toNat) ≤ 9223372036854775807 by omega), if_pos (show i.toNat + 1 + (t.size - (i + 1).toNat) ≤ 9223372036854775807 by omega), if_pos (show i.toNat + (t.size - (i + 1).toNat) ≤ 9223372036854775807 by omega)]
    by_cases m0 : m = 0
    · simp only [if_pos m0]
      exact ⟨_, _, _, rfl, by simp only [ByteArray.size_append, z2, z3, z4]; omega⟩
    · by_cases m1 : m = 1
      · simp only [if_neg m0, if_pos m1]
        exact ⟨_, _, _, rfl, by simp only [ByteArray.size_append, z2, z3, z5]; omega⟩
      · simp only [if_neg m0, if_neg m1]
        exact ⟨_, _, _, rfl, by simp only [ByteArray.size_append, z3, z5]; omega⟩
theorem drawParseR_ok {c : List Int} (hc : Code8 c) : ∃ t, Ev (fun k => spec_DrawParseRow.f k c) t ∧ t.size ≤ 1048576 := by
  obtain ⟨a, p1, s1, h, hl, hp⟩ := row_ok hc 0 0 (by omega) (by omega)
  have last : ∀ t : ByteArray, t.size ≤ 1000 → ∃ x, Ev (fun k => spec_DrawParseRow.j0 k t c p1 s1) x ∧ x.size ≤ 1048576 := by
    intro t ht
    obtain ⟨x, p2, s2, e2, hp2⟩ := one_ok hc s1 3 (show 0 ≤ p1 by omega) (by omega)
    cases x with
    | false =>
      refine ⟨t, Ev.step (fun k => by rw [spec_DrawParseRow.j0]) ?_, by omega⟩
      simp only [e2, Option.bind_some, Bool.false_eq_true, if_false]
      exact Ev.now _
    | true =>
      obtain ⟨y, p3, s3, e3, hy⟩ := spoilt_ok hc s2 t (⟨#[48, 49, 50, 51, 32, 58, 110, 111, 110, 101]⟩ : ByteArray) (show 0 ≤ p2 by omega) (by omega) ht (by decide)
      refine ⟨y, Ev.step (fun k => by rw [spec_DrawParseRow.j0]) ?_, by omega⟩
      simp only [e2, Option.bind_some, if_true, e3]
      exact Ev.now _
  unfold spec_DrawParseRow.f
  by_cases hr : rowB a = true
  · obtain ⟨x, hx, hz⟩ := last (rowText a) (rowText_size a hr)
    refine ⟨x, Ev.bind h (Ev.bind (Ev.as (l2Row_ev a) hr) ?_), hz⟩
    simp only [if_true]
    exact Ev.bind (specText_ev a hr) hx
  · obtain ⟨x, hx, hz⟩ := last (⟨#[51, 58, 49, 32, 52, 58, 49, 48]⟩ : ByteArray) (by decide)
    refine ⟨x, Ev.bind h (Ev.bind (Ev.as (l2Row_ev a) (Bool.eq_false_iff.2 hr)) ?_), hz⟩
    simp only [Bool.false_eq_true, if_false]
    exact hx

theorem ev_same {α : Type} {g : Nat → Option α} {a b : α} (h1 : Ev g a) (h2 : Ev g b) : a = b := by
  obtain ⟨K1, h1⟩ := h1
  obtain ⟨K2, h2⟩ := h2
  exact Option.some.inj ((h1 (K1 + K2) (by omega)).symm.trans (h2 (K1 + K2) (by omega)))
theorem implRowText_ev (l : List (S42)) : Ev (fun k => impl_RowText.f k l) (if rowB l = true then (rowText l, true) else (⟨#[]⟩, false)) ∧ Ev (fun k => spec_RowText.f k l) (if rowB l = true then (rowText l, true) else (⟨#[]⟩, false)) := by
  obtain ⟨R, h1, h2⟩ := rowTextBoth l
  have h3 : Ev (fun k => spec_RowText.f k l) (if rowB l = true then (rowText l, true) else (⟨#[]⟩, false)) := by
    unfold spec_RowText.f
    by_cases hr : rowB l = true
    · refine Ev.bind (Ev.as (l2Row_ev l) hr) ?_
      simp only [if_true, hr]
      exact Ev.bind (specText_ev l hr) (Ev.now _)
    · refine Ev.bind (Ev.as (l2Row_ev l) (Bool.eq_false_iff.2 hr)) ?_
      simp only [Bool.false_eq_true, if_false, hr]
      exact Ev.now _
  have e := ev_same h1 h3
  rw [e] at h2
  exact ⟨h2, h3⟩
/-- The last part: joined rows have the moments of both, and stand where both stand. -/
theorem rows_l1 {a b : List (S42)} (ha : rowB a = true) (hb : rowB b = true) (hr : rowB (a ++ b) = true) : ∀ (d : Nat) (p : Int), 0 ≤ p → p + 3 * d = 21 → Ev (fun k => laws_FnRows.l1 k a b (a ++ b) p) true := by
  have la := ((rowB_iff a).1 ha).1
  have lb := ((rowB_iff b).1 hb).1
  have lr := ((rowB_iff _).1 hr).1
  intro d
  induction d with
  | zero =>
    intro p h0 h
    refine Ev.step (fun k => by rw [laws_FnRows.l1]) ?_
    simp only [if_neg (show ¬ p < 20 by omega)]
    exact Ev.now _
  | succ d ih =>
    intro p h0 h
    have nx := ih (p + 3) (by omega) (by omega)
    have e4 : wrap64 (p + 4) = p + 4 := w64 (by omega) (by omega)
    have e3 : wrap64 (p + 3) = p + 3 := w64 (by omega) (by omega)
    have hm : ∀ l : List (S42), rowB l = true → MomentAboutR l p = (momW l p, true) := fun l hl => by unfold MomentAboutR; rw [if_pos ⟨hl, h0, by omega⟩]
    have hbase : baseB p (p + 4) = true := (baseB_iff p (p + 4)).2 ⟨by omega, by omega, by omega⟩
    have ht : ∀ l : List (S42), rowB l = true → TipSideR l p (p + 4) = (sideW l p (p + 4), true) := fun l hl => by unfold TipSideR; rw [hl, hbase]; rfl
    refine Ev.step (fun k => by rw [laws_FnRows.l1]) ?_
    simp only [if_pos (show p < 20 by omega), e4, e3]
    refine Ev.bind (implMomentAbout_ev a p (by omega)) (Ev.bind (implMomentAbout_ev b p (by omega)) (Ev.bind (implMomentAbout_ev (a ++ b) p (by omega)) (Ev.bind (implTipSide_ev a p (p + 4) (by omega)) (Ev.bind (implTipSide_ev b p (p + 4) (by omega)) (Ev.bind (implTipSide_ev (a ++ b) p (p + 4) (by omega)) ?_)))))
    simp only [hm a ha, hm b hb, hm _ hr, ht a ha, ht b hb, ht _ hr, if_true, if_pos (join_mom ha hb hr (p := p) ⟨h0, by omega⟩)]
    by_cases s1 : sideW a p (p + 4) = 0
    · by_cases s2 : sideW b p (p + 4) = 0
      · simp only [if_pos s1, if_pos s2, if_pos (join_side ha hb hr ⟨h0, by omega⟩ ⟨by omega, by omega⟩ s1 s2)]
        exact nx
      · simp only [if_pos s1, if_neg s2]
        exact nx
    · simp only [if_neg s1]
      exact nx
theorem rows_j9 (a b : List (S42)) : Ev (fun k => laws_FnRows.j9 k a b (JoinRowsR a b).1 (JoinRowsR a b).2) true := by
  refine Ev.step (fun k => by rw [laws_FnRows.j9]) ?_
  cases hj : (JoinRowsR a b).2 with
  | false => simp only [Bool.false_eq_true, if_false]; exact Ev.now _
  | true =>
    obtain ⟨h1, h2, h3, h4⟩ := JoinRows_yes (a := a) (b := b) (r := (JoinRowsR a b).1) (by rw [← hj])
    rw [h4] at h3 ⊢
    simp only [if_true]
    exact rows_l1 h1 h2 h3 7 0 (by omega) (by omega)
theorem rows_j8 (a b d : List (S42)) (n : Int) (hd : d.length ≤ 13) : Ev (fun k => laws_FnRows.j8 k a b (JoinRowsR a b).1 (JoinRowsR a b).2 d n (ShiftRowR d n).1 (ShiftRowR d n).2) true := by
  refine Ev.step (fun k => by rw [laws_FnRows.j8]) ?_
  cases hj : (ShiftRowR d n).2 with
  | false => simp only [Bool.false_eq_true, if_false]; exact rows_j9 a b
  | true =>
    obtain ⟨h1, h2, h3, h4⟩ := ShiftRow_yes (l := d) (n := n) (r := (ShiftRowR d n).1) (by rw [← hj])
    have hz := ((rowB_iff _).1 h2).1
    have hm : ∀ l : List (S42), rowB l = true → MomentAboutR l 0 = (momW l 0, true) := fun l hl => by unfold MomentAboutR; rw [if_pos ⟨hl, by decide, by decide⟩]
    have hw : WeightOfR d = (wtW d, true) := by unfold WeightOfR; rw [if_pos h1]
    simp only [if_true]
    refine Ev.bind (implMomentAbout_ev d 0 (by omega)) (Ev.bind (implMomentAbout_ev _ 0 (by omega)) (Ev.bind (implWeightOf_ev d (by omega)) ?_))
    simp only [hm d h1, hm _ h2, hw, if_true, if_pos h4]
    exact rows_j9 a b
theorem rows_l0 (a b r d : List (S42)) (n : Int) (hd : d.length ≤ 13) (hr : r.length ≤ 13) (hp : r.Pairwise (fun x y => x.f0 < y.f0)) : ∀ (m : Nat) (i : Int), 1 ≤ i → r.length - i.toNat = m →
    Ev (fun k => laws_FnRows.l0 k a b (JoinRowsR a b).1 (JoinRowsR a b).2 r d n (ShiftRowR d n).1 (ShiftRowR d n).2 i) true := by
  intro m
  induction m with
  | zero =>
    intro i h1 h
    refine Ev.step (fun k => by rw [laws_FnRows.l0]) ?_
    simp only [if_neg (show ¬ i < (r.length : Int) by omega)]
    exact rows_j8 a b d n hd
  | succ m ih =>
    intro i h1 h
    have e1 : wrap64 (i - 1) = i - 1 := w64 (by omega) (by omega)
    have e2 : wrap64 (i + 1) = i + 1 := w64 (by omega) (by omega)
    have hlt : ¬ (rd_T42 r i).f0 ≤ (rd_T42 r (i - 1)).f0 := by
      have h2 : i.toNat < r.length := by omega
      have h3 : (i - 1).toNat < r.length := by omega
      unfold rd_T42
      rw [getD_lt _ h2, getD_lt _ h3]
      have := List.pairwise_iff_getElem.1 hp (i - 1).toNat i.toNat h3 h2 (by omega)
      omega
    refine Ev.step (fun k => by rw [laws_FnRows.l0]) ?_
    simp only [if_pos (show i < (r.length : Int) by omega), if_pos (show 0 ≤ i by omega), e1, e2, if_pos (show 0 ≤ i - 1 by omega), if_pos (show i - 1 < (r.length : Int) by omega), if_neg hlt]
    exact ih (i + 1) (by omega) (by omega)
theorem rows_j5 (a b c d : List (S42)) (n : Int) (hc : c.length ≤ 13) (hd : d.length ≤ 13) : Ev (fun k => laws_FnRows.j5 k a b (JoinRowsR a b).1 (JoinRowsR a b).2 c (MergeRowR c).1 (MergeRowR c).2 d n (ShiftRowR d n).1 (ShiftRowR d n).2 false) true := by
  refine Ev.step (fun k => by rw [laws_FnRows.j5]) ?_
  simp only [Bool.false_eq_true, if_false]
  cases hj : (MergeRowR c).2 with
  | false => simp only [Bool.false_eq_true, if_false]; exact rows_j8 a b d n hd
  | true =>
    obtain ⟨h1, h2, h3, h4⟩ := MergeRow_yes (l := c) (r := (MergeRowR c).1) (by rw [← hj])
    have hz := ((rowB_iff _).1 h2).1
    have hm : ∀ l : List (S42), rowB l = true → MomentAboutR l 7 = (momW l 7, true) := fun l hl => by unfold MomentAboutR; rw [if_pos ⟨hl, by decide, by decide⟩]
    simp only [if_true]
    refine Ev.bind (implMomentAbout_ev c 7 (by omega)) (Ev.bind (implMomentAbout_ev _ 7 (by omega)) ?_)
    simp only [hm c h1, hm _ h2, if_true, h3 7 (by decide), bne_self_eq_false]
    refine Ev.step (fun k => by rw [laws_FnRows.j6]) ?_
    simp only [Bool.false_eq_true, if_false]
    exact rows_l0 a b _ d n hd (by omega) h4 _ 1 (by omega) rfl
theorem MergeRowR_len {l : List (S42)} : (MergeRowR l).1.length ≤ 12 := by
  unfold MergeRowR
  split
  · exact keptR_len
  · simp
theorem ShiftRowR_len {l : List (S42)} {n : Int} : (ShiftRowR l n).1.length ≤ 12 := by
  unfold ShiftRowR
  split
  · exact placesByR_len
  · simp
theorem FnRows : laws_FnRows.Pure := by
  intro x hw
  refine Ev.rounds ?_
  unfold laws_FnRows.f
  simp only [rBig_eq, Option.bind_some]
  by_cases hb : decide ((x.length : Int) > 65536) = true
  · simp only [if_pos hb]; exact Ev.now _
  · simp only [if_neg hb]
    have hlen : ¬ (x.length : Int) > 65536 := fun e => hb (decide_eq_true e)
    have hc8 : Code8 x := code8 (by omega) hw.2
    obtain ⟨a, b, q1, la, lb⟩ := drawJoinR_ok hc8
    obtain ⟨c, q2, lc⟩ := drawMerge_ok hc8
    obtain ⟨d, n, q3, ld⟩ := drawShift_ok hc8
    obtain ⟨e, q4, le⟩ := drawText_ok hc8
    obtain ⟨t, q5, lt⟩ := drawParseR_ok hc8
    obtain ⟨R, r1, r2, r3⟩ := parseRowBoth t lt
    refine Ev.bind q1 (Ev.bind (implJoinRows_ev a b) (Ev.bind (specJoinRows_ev a b) ?_))
    simp only [bne_self_eq_false, Bool.false_eq_true, if_false]
    refine Ev.bind (rRow_self _ (by have := JoinRowsR_len (a := a) (b := b); omega)) ?_
    simp only [Bool.not_true]
    refine Ev.step (fun k => by rw [laws_FnRows.j0]) ?_
    simp only [Bool.false_eq_true, if_false]
    refine Ev.bind q2 (Ev.bind (implMergeRow_ev c) (Ev.bind (specMergeRow_ev c) ?_))
    simp only [bne_self_eq_false, Bool.false_eq_true, if_false]
    refine Ev.bind (rRow_self _ (by have := MergeRowR_len (l := c); omega)) ?_
    simp only [Bool.not_true]
    refine Ev.step (fun k => by rw [laws_FnRows.j1]) ?_
    simp only [Bool.false_eq_true, if_false]
    refine Ev.bind q3 (Ev.bind (implShiftRow_ev d n) (Ev.bind (specShiftRow_ev d n) ?_))
    simp only [bne_self_eq_false, Bool.false_eq_true, if_false]
    refine Ev.bind (rRow_self _ (by have := ShiftRowR_len (l := d) (n := n); omega)) ?_
    simp only [Bool.not_true]
    refine Ev.step (fun k => by rw [laws_FnRows.j2]) ?_
    simp only [Bool.false_eq_true, if_false]
    obtain ⟨t1, t2⟩ := implRowText_ev e
    refine Ev.bind q4 (Ev.bind t1 (Ev.bind t2 ?_))
    simp only [if_true, bne_self_eq_false]
    refine Ev.step (fun k => by rw [laws_FnRows.j3]) ?_
    simp only [Bool.false_eq_true, if_false]
    have four : Ev (fun k => laws_FnRows.j4 k x a b (JoinRowsR a b).1 (JoinRowsR a b).2 c (MergeRowR c).1 (MergeRowR c).2 d n (ShiftRowR d n).1 (ShiftRowR d n).2) true := by
      refine Ev.step (fun k => by rw [laws_FnRows.j4]) ?_
      refine Ev.bind q5 (Ev.bind r2 (Ev.bind r1 ?_))
      simp only [bne_self_eq_false, Bool.false_eq_true, if_false]
      refine Ev.bind (rRow_self _ (by omega)) ?_
      simp only [Bool.not_true]
      exact rows_j5 a b c d n lc ld
    by_cases hr : rowB e = true
    · simp only [if_pos hr, if_true]
      refine Ev.bind (implParseRow_ev (rowText e) (by have := rowText_size e hr; omega)) ?_
      simp only [row_back e hr, if_true]
      refine Ev.bind (rRow_self e (by omega)) ?_
      simp only [if_true]
      exact four
    · simp only [if_neg hr, Bool.false_eq_true, if_false]
      exact four


end Go.Proofs.YthgfndbbbhbkeaaGreatDoor.Pure

