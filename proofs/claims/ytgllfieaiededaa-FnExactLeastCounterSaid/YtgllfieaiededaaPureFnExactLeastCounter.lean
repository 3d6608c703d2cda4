/- For every list of loads and every three numbers the plain function of the LeastCounter law answers true. -/
import Derived.Test.YtgllfieaiededaaPFnExactLeastCounterx3
import Derived.Test.YtgllfieaiededaaLib
set_option linter.unusedVariables false
set_option linter.unusedSimpArgs false
namespace Go.Proofs.Ytgllfieaiededaa.Pure
open Go.RowKit Go.Proofs.Ytgllfieaiededaa.PFnExactLeastCounter Go.Proofs.YtgllfieaiededaaW.PrintWords Go.Proofs.YtgllfieaiededaaW.PrintLast Go.Proofs.Ytgllfieaiededaa.Lib

theorem l1In_eq (a b c : Int) : spec_l1In.f a b c = some (decide (b ≤ a ∧ a ≤ c)) := by
  unfold spec_l1In.f
  by_cases h : a ≥ b
  · rw [if_pos h]
    congr 1
    simp only [decide_eq_decide]
    omega
  · rw [if_neg h]
    congr 1
    simp only [Bool.false_eq, decide_eq_false_iff_not]
    omega

theorem within_eq (a b c : Int) : impl_within.f a b c = some (decide (b ≤ a ∧ a ≤ c)) := by
  unfold impl_within.f
  by_cases h : a ≥ b
  · rw [if_pos h]
    congr 1
    simp only [decide_eq_decide]
    omega
  · rw [if_neg h]
    congr 1
    simp only [Bool.false_eq, decide_eq_false_iff_not]
    omega

theorem szLoadS_eq (l : List (S78)) (hl : l.length ≤ maxLen) : laws_szLoadS.f l 1048576 = some (if (l.length : Int) > 1048576 then -1 else 1048576 - (l.length : Int)) := by
  unfold maxLen at hl
  unfold laws_szLoadS.f
  rw [w64 (show -9223372036854775808 ≤ 1048576 - (l.length : Int) by omega) (by omega)]
  by_cases h : (l.length : Int) > 1048576
  · rw [if_pos h, if_pos (by omega)]
  · rw [if_neg h, if_neg (by omega)]

/-- The program's own load for the law's. -/
def toL (x : S78) : S73 := ⟨x.f0, x.f1⟩
theorem toLoadS_ev (l : List (S78)) (hl : l.length ≤ 1048576) : Ev (fun k => laws_toLoadS.f k l) (l.map toL) := by
  unfold laws_toLoadS.f
  simp only [if_pos (show 0 ≤ (l.length : Int) by omega), if_pos (show ((l.length : Int) : Int).toNat ≤ 17592186044416 by omega)]
  have h := Ev.fold (l := fun k x i => laws_toLoadS.l0 k l x i) (n := l.length) (fun i => (l.map toL).take i.toNat ++ List.replicate (l.length - i.toNat) z73) (a := l.map toL)
    (fun i h0 h1 r h => by
      refine Ev.step (fun k => by rw [laws_toLoadS.l0]) ?_
      have hx : i < (((l.map toL).take i.toNat ++ List.replicate (l.length - i.toNat) z73).length : Int) := by
        rw [List.length_append, List.length_take, List.length_replicate, List.length_map]; omega
      have e : (⟨(rd_T78 l i).f0, (rd_T78 l i).f1⟩ : S73) = (l.map toL).getD i.toNat z73 := by
        unfold rd_T78
        rw [getD_lt _ (by omega), getD_lt _ (by rw [List.length_map]; omega), List.getElem_map]
        rfl
      simp only [if_pos h1, if_pos h0, laws_toLoad.f, Option.bind_some, if_pos hx, w64 (show -9223372036854775808 ≤ i + 1 by omega) (by omega), e]
      have hs := set_fill (l.map toL) z73 z73 i.toNat (by rw [List.length_map]; omega)
      rw [List.length_map] at hs
      rw [hs, ← toNat_succ h0]
      exact h)
    (by
      refine Ev.step (fun k => by rw [laws_toLoadS.l0]) ?_
      simp only [if_neg (show ¬ (l.length : Int) < l.length by omega)]
      exact Ev.some (by simp [List.take_of_length_le]))
    l.length 0 (by omega) (by omega)
  simpa using h

instance : DecidableEq (S73) := fun a b => if h : a.f0 = b.f0 ∧ a.f1 = b.f1 then isTrue (by cases a; cases b; simp_all) else isFalse (by rintro rfl; exact h ⟨rfl, rfl⟩)
theorem S73_eq (a b : S73) : a = b ↔ a.f0 = b.f0 ∧ a.f1 = b.f1 := by
  cases a; cases b; simp
theorem eqLoad_eq (a b : S73) : laws_eqLoad.f a.f0 a.f1 b.f0 b.f1 = some (decide (a = b)) := by
  unfold laws_eqLoad.f
  by_cases h0 : a.f0 = b.f0
  · by_cases h1 : a.f1 = b.f1
    · rw [if_pos h0, if_pos h1, decide_eq_true ((S73_eq a b).2 ⟨h0, h1⟩)]
    · rw [if_pos h0, if_neg h1, decide_eq_false fun e => h1 ((S73_eq a b).1 e).2]
  · rw [if_neg h0, decide_eq_false fun e => h0 ((S73_eq a b).1 e).1]
theorem eqLoadS_ev (a b : List (S73)) (ha : a.length ≤ 9223372036854775806) : Ev (fun k => laws_eqLoadS.f k a b) (decide (a = b)) := by
  unfold laws_eqLoadS.f
  by_cases hl : (a.length : Int) = (b.length : Int)
  · simp only [if_pos hl]
    have h := Ev.count' (l := fun k i => laws_eqLoadS.l0 k a b i) (n := a.length) (P := fun i => rd_T73 a i = rd_T73 b i) (a := true) (b := false) (by omega)
      (fun i h0 h1 hp r h => by
        refine Ev.step (fun k => by rw [laws_eqLoadS.l0]) ?_
        simp only [if_pos h0, if_pos h1, if_pos (show i < (b.length : Int) by omega), eqLoad_eq, Option.bind_some, decide_eq_true hp, if_true, w64 (show -9223372036854775808 ≤ i + 1 by omega) (by omega)]
        exact h)
      (fun i h0 h1 hp => by
        refine Ev.step (fun k => by rw [laws_eqLoadS.l0]) ?_
        simp only [if_pos h0, if_pos h1, if_pos (show i < (b.length : Int) by omega), eqLoad_eq, Option.bind_some, decide_eq_false hp, Bool.false_eq_true, if_false]
        exact Ev.now _)
      (fun i h0 h1 => by
        refine Ev.step (fun k => by rw [laws_eqLoadS.l0]) ?_
        simp only [if_neg (show ¬ i < (a.length : Int) by omega)]
        exact Ev.now _)
    refine Ev.as h ?_
    split
    · rename_i hc
      exact (decide_eq_true (getD_ext z73 (by omega) fun i hi => hc i (by omega) (by omega))).symm
    · rename_i hc
      exact (decide_eq_false fun e => hc fun i h0 h1 => by rw [e]).symm
  · simp only [if_neg hl]
    exact Ev.some (decide_eq_false fun e => hl (by rw [e])).symm
theorem eqLoadS_self (a : List (S73)) (ha : a.length ≤ 9223372036854775806) : Ev (fun k => laws_eqLoadS.f k a a) true :=
  Ev.as (eqLoadS_ev a a ha) (decide_eq_true rfl)

/-- Loads that are a row. -/
def rowB (l : List (S73)) : Bool := decide (l.length ≤ 12) && l.all rowItem
theorem rowItem_iff (x : S73) : rowItem x = true ↔ (0 ≤ x.f0 ∧ x.f0 ≤ 60) ∧ (1 ≤ x.f1 ∧ x.f1 ≤ 99) := by
  unfold rowItem; simp
theorem rowB_iff (l : List (S73)) : rowB l = true ↔ l.length ≤ 12 ∧ ∀ x ∈ l, (0 ≤ x.f0 ∧ x.f0 ≤ 60) ∧ (1 ≤ x.f1 ∧ x.f1 ≤ 99) := by
  unfold rowB
  rw [Bool.and_eq_true, decide_eq_true_eq, List.all_eq_true]
  simp only [rowItem_iff]
theorem implIsRow_eq (l : List (S73)) : impl_IsRow.f l = some (rowB l) := rfl

theorem l2In_eq (a : Int) : spec_l2In.f a = some (decide (0 ≤ a ∧ a ≤ 60)) := by
  unfold spec_l2In.f
  simp only [l1In_eq, Option.bind_some]
theorem rdL_mem {l : List (S73)} {i : Int} (h0 : 0 ≤ i) (h1 : i < l.length) : rd_T73 l i ∈ l := by
  unfold rd_T73
  rw [getD_lt _ (by omega)]
  exact List.getElem_mem _
theorem all_rd {l : List (S73)} {p : S73 → Bool} : l.all p = true ↔ ∀ i : Int, 0 ≤ i → i < l.length → p (rd_T73 l i) = true := by
  rw [List.all_eq_true]
  refine ⟨fun h i h0 h1 => h _ (rdL_mem h0 h1), fun h x hx => ?_⟩
  obtain ⟨j, hj, rfl⟩ := List.getElem_of_mem hx
  have := h j (by omega) (by omega)
  unfold rd_T73 at this
  rwa [Int.toNat_natCast, getD_lt _ hj] at this
theorem l2Row_ev (l : List (S73)) : Ev (fun k => spec_l2Row.f k l) (rowB l) := by
  unfold spec_l2Row.f
  -- the loop goes over at most 13 loads
  have yes : ∀ i : Int, 0 ≤ i → i < (l.length : Int) → i ≤ 12 → rowItem (rd_T73 l i) = true → ∀ r, Ev (fun k => spec_l2Row.l0 k l (i + 1)) r → Ev (fun k => spec_l2Row.l0 k l i) r := by
    intro i h0 h1 h2 hp r h
    rw [rowItem_iff] at hp
    refine Ev.step (fun k => by rw [spec_l2Row.l0]) ?_
    simp only [if_pos h1, decide_eq_true h2]
    refine Ev.step (fun k => by rw [spec_l2Row.j1]) ?_
    simp only [if_true, if_pos h0, if_pos h1, l2In_eq, l1In_eq, Option.bind_some, decide_eq_true_eq, if_pos hp.1, if_pos hp.2, w64 (show -9223372036854775808 ≤ i + 1 by omega) (by omega)]
    exact h
  have no : ∀ i : Int, 0 ≤ i → i < (l.length : Int) → i ≤ 12 → ¬ rowItem (rd_T73 l i) = true → Ev (fun k => spec_l2Row.l0 k l i) false := by
    intro i h0 h1 h2 hp
    rw [rowItem_iff] at hp
    refine Ev.step (fun k => by rw [spec_l2Row.l0]) ?_
    simp only [if_pos h1, decide_eq_true h2]
    refine Ev.step (fun k => by rw [spec_l2Row.j1]) ?_
    simp only [if_true, if_pos h0, if_pos h1, l2In_eq, l1In_eq, Option.bind_some, decide_eq_true_eq]
    by_cases hq : 0 ≤ (rd_T73 l i).f0 ∧ (rd_T73 l i).f0 ≤ 60
    · simp only [if_pos hq, if_neg (show ¬ (1 ≤ (rd_T73 l i).f1 ∧ (rd_T73 l i).f1 ≤ 99) from fun h => hp ⟨hq, h⟩)]
      exact Ev.now _
    · simp only [if_neg hq]
      exact Ev.now _
  have endd : ∀ i : Int, 0 ≤ i → (i = (l.length : Int) ∨ (i = 13 ∧ i ≤ l.length)) → Ev (fun k => spec_l2Row.l0 k l i) (decide (l.length ≤ 12)) := by
    intro i h0 h1
    refine Ev.step (fun k => by rw [spec_l2Row.l0]) ?_
    by_cases h2 : i < (l.length : Int)
    · simp only [if_pos h2, decide_eq_false (show ¬ i ≤ 12 by omega)]
      refine Ev.step (fun k => by rw [spec_l2Row.j1]) ?_
      simp only [Bool.false_eq_true, if_false]
      exact Ev.some (by simp only [decide_eq_decide]; omega)
    · simp only [if_neg h2]
      refine Ev.step (fun k => by rw [spec_l2Row.j1]) ?_
      simp only [Bool.false_eq_true, if_false]
      exact Ev.some (by simp only [decide_eq_decide]; omega)
  by_cases hl : l.length ≤ 12
  · have h := Ev.count' (l := fun k i => spec_l2Row.l0 k l i) (n := l.length) (P := fun i => rowItem (rd_T73 l i) = true) (a := decide (l.length ≤ 12)) (b := false) (by omega)
      (fun i h0 h1 hp r h => yes i h0 h1 (by omega) hp r h) (fun i h0 h1 hp => no i h0 h1 (by omega) hp) (fun i h0 h1 => endd i h0 (.inl h1))
    refine Ev.as h ?_
    unfold rowB
    split
    · rename_i hc
      rw [all_rd.2 hc, Bool.and_true]
    · rename_i hc
      rw [Bool.eq_false_iff.2 (fun h => hc (all_rd.1 h)), Bool.and_false]
  · have h := Ev.count' (l := fun k i => spec_l2Row.l0 k l i) (n := 13) (P := fun i => rowItem (rd_T73 l i) = true) (a := decide (l.length ≤ 12)) (b := false) (by omega)
      (fun i h0 h1 hp r h => yes i h0 (by omega) (by omega) hp r h) (fun i h0 h1 hp => no i h0 (by omega) (by omega) hp) (fun i h0 h1 => endd i h0 (.inr ⟨h1, by omega⟩))
    refine Ev.as h ?_
    unfold rowB
    rw [decide_eq_false hl, Bool.false_and]
    split <;> rfl

def wtStep (s : Int) (x : S73) : Int := wrap64 (s + x.f1)
def momStep (p : Int) (s : Int) (x : S73) : Int := wrap64 (s + wrap64 (x.f1 * wrap64 (x.f0 - p)))
/-- The weight, and the moment about p, as the machine sums them. -/
def wtW (l : List (S73)) : Int := l.foldl wtStep 0
def momW (l : List (S73)) (p : Int) : Int := l.foldl (momStep p) 0
theorem take_succ_rd (l : List (S73)) (i : Int) (h0 : 0 ≤ i) (h1 : i < l.length) : l.take (i + 1).toNat = l.take i.toNat ++ [rd_T73 l i] := by
  rw [toNat_succ h0, List.take_add_one, List.getElem?_eq_getElem (by omega)]
  unfold rd_T73
  rw [getD_lt _ (by omega)]
  rfl

theorem l2Moment_ev (l : List (S73)) (p : Int) (hl : l.length ≤ 9223372036854775806) : Ev (fun k => spec_l2Moment.f k l p) (momW l p) := by
  unfold spec_l2Moment.f
  have h := Ev.fold (l := fun k s i => spec_l2Moment.l0 k l p s i) (n := l.length) (fun i => (l.take i.toNat).foldl (momStep p) 0) (a := momW l p)
    (fun i h0 h1 r h => by
      refine Ev.step (fun k => by rw [spec_l2Moment.l0]) ?_
      simp only [if_pos h1, if_pos h0, w64 (show -9223372036854775808 ≤ i + 1 by omega) (by omega)]
      rw [take_succ_rd l i h0 h1, List.foldl_append] at h
      exact h)
    (by
      refine Ev.step (fun k => by rw [spec_l2Moment.l0]) ?_
      simp only [if_neg (show ¬ (l.length : Int) < l.length by omega)]
      exact Ev.some (by simp [momW]))
    l.length 0 (by omega) (by omega)
  simpa using h

theorem implMoment_ev (l : List (S73)) (p : Int) (hl : l.length ≤ 9223372036854775806) : Ev (fun k => impl_momentAbout.f k l p) (momW l p) := by
  unfold impl_momentAbout.f
  have h := Ev.fold (l := fun k s i => impl_momentAbout.l0 k p s l l.length i) (n := l.length) (fun i => (l.take i.toNat).foldl (momStep p) 0) (a := momW l p)
    (fun i h0 h1 r h => by
      refine Ev.step (fun k => by rw [impl_momentAbout.l0]) ?_
      simp only [if_pos h1, if_pos h0, w64 (show -9223372036854775808 ≤ i + 1 by omega) (by omega)]
      rw [take_succ_rd l i h0 h1, List.foldl_append] at h
      exact h)
    (by
      refine Ev.step (fun k => by rw [impl_momentAbout.l0]) ?_
      simp only [if_neg (show ¬ (l.length : Int) < l.length by omega)]
      exact Ev.some (by simp [momW]))
    l.length 0 (by omega) (by omega)
  simpa using h

theorem isPlace_eq (a : Int) : impl_isPlace.f a = some (decide (0 ≤ a ∧ a ≤ 60)) := by
  unfold impl_isPlace.f
  simp only [within_eq, Option.bind_some]
/-- Two places that are a base. -/
def baseB (a b : Int) : Bool := decide ((0 ≤ a ∧ a ≤ 60) ∧ (0 ≤ b ∧ b ≤ 60) ∧ a ≤ b)
theorem l2Base_eq (a b : Int) : spec_l2Base.f a b = some (baseB a b) := by
  unfold spec_l2Base.f baseB
  simp only [l2In_eq, Option.bind_some, decide_eq_true_eq]
  by_cases h1 : 0 ≤ a ∧ a ≤ 60 <;> by_cases h2 : 0 ≤ b ∧ b ≤ 60 <;> simp [h1, h2]
theorem isBase_eq (a b : Int) : impl_isBase.f a b = some (baseB a b) := by
  unfold impl_isBase.f baseB
  simp only [isPlace_eq, Option.bind_some, decide_eq_true_eq]
  by_cases h1 : 0 ≤ a ∧ a ≤ 60 <;> by_cases h2 : 0 ≤ b ∧ b ≤ 60 <;> simp [h1, h2]
def sideW (l : List (S73)) (a b : Int) : Int := if momW l a < 0 then -1 else if momW l b > 0 then 1 else 0
theorem l2Side_ev (l : List (S73)) (a b : Int) (hl : l.length ≤ 9223372036854775806) : Ev (fun k => spec_l2Side.f k l a b) (sideW l a b) := by
  unfold spec_l2Side.f sideW
  refine Ev.bind (l2Moment_ev l a hl) ?_
  split
  · exact Ev.now _
  · refine Ev.bind (l2Moment_ev l b hl) ?_
    split <;> exact Ev.now _
theorem tipSide_ev (l : List (S73)) (a b : Int) (hl : l.length ≤ 9223372036854775806) : Ev (fun k => impl_tipSide.f k l a b) (sideW l a b) := by
  unfold impl_tipSide.f sideW
  refine Ev.bind (implMoment_ev l a hl) ?_
  split
  · exact Ev.now _
  · refine Ev.bind (implMoment_ev l b hl) ?_
    split <;> exact Ev.now _
theorem l2On_ev (l : List (S73)) (a b : Int) : Ev (fun k => spec_l2On.f k l a b) (rowB l && baseB a b) := by
  unfold spec_l2On.f
  refine Ev.bind (l2Row_ev l) ?_
  cases h : rowB l
  · simp only [Bool.false_eq_true, if_false, Bool.false_and]
    exact Ev.now _
  · simp only [if_true, Bool.true_and, l2Base_eq, Option.bind_some]
    exact Ev.now _

theorem l2With_eq (l : List (S73)) (p w : Int) (hl : l.length ≤ 1000) : spec_l2With.f l p w = some (l ++ [⟨p, w⟩]) := by
  unfold spec_l2With.f
  simp only [Option.bind_some, List.length_nil, List.nil_append]
  rw [if_pos (by omega), if_pos (by omega)]
/-- Does the row stand with one more load? -/
def standB (l : List (S73)) (a b p w : Int) : Bool := sideW (l ++ [⟨p, w⟩]) a b == 0

theorem standsWith_ev (l : List (S73)) (a b p w : Int) (hl : l.length ≤ 1000) : Ev (fun k => impl_standsWith.f k l a b p w) (standB l a b p w) := by
  unfold impl_standsWith.f standB
  unfold impl_Load_103.f
  simp only [if_pos (show l.length < 8796093022208 by omega), Option.bind_some]
  exact Ev.bind (tipSide_ev _ a b (by rw [List.length_append, List.length_singleton]; omega)) (Ev.now _)

def leastW (st : Int → Bool) : Nat → Int → Int × Bool
  | 0, _ => (0, false)
  | d + 1, w => if st w then (w, true) else leastW st d (w + 1)
def LeastCounterR (l : List (S73)) (a b p : Int) : Int × Bool :=
  if (rowB l && baseB a b) = true ∧ 0 ≤ p ∧ p ≤ 60 then (if sideW l a b = 0 then (0, true) else if l.length < 12 then leastW (standB l a b p) 99 1 else (0, false)) else (0, false)
theorem specLeast_loop (l : List (S73)) (a b p : Int) (hl : l.length < 12) : ∀ (d : Nat) (w : Int), 1 ≤ w → w + d = 100 → Ev (fun k => spec_LeastCounter.l0 k l a b p w) (leastW (standB l a b p) d w) := by
  intro d
  induction d with
  | zero =>
    intro w h1 hd
    refine Ev.step (fun k => by rw [spec_LeastCounter.l0]) ?_
    simp only [if_neg (show ¬ w ≤ 99 by omega)]
    refine Ev.step (fun k => by rw [spec_LeastCounter.j2]) ?_
    simp only [Bool.false_eq_true, if_false]
    exact Ev.now _
  | succ d ih =>
    intro w h1 hd
    refine Ev.step (fun k => by rw [spec_LeastCounter.l0]) ?_
    simp only [if_pos (show w ≤ 99 by omega), decide_eq_true (show (l.length : Int) < 12 by omega)]
    refine Ev.step (fun k => by rw [spec_LeastCounter.j2]) ?_
    simp only [if_true, l2With_eq l p w (by omega), Option.bind_some, w64 (show -9223372036854775808 ≤ w + 1 by omega) (by omega)]
    refine Ev.bind (l2Side_ev _ a b (by rw [List.length_append, List.length_singleton]; omega)) ?_
    unfold leastW standB
    by_cases h : sideW (l ++ [⟨p, w⟩]) a b = 0
    · simp only [if_pos h, h, beq_self_eq_true, if_true]
      exact Ev.now _
    · simp only [if_neg h, beq_eq_false_iff_ne.2 h, Bool.false_eq_true, if_false]
      exact ih (w + 1) (by omega) (by omega)
theorem specLeastCounter_ev (l : List (S73)) (a b p : Int) (hl : l.length ≤ 9223372036854775806) : Ev (fun k => spec_LeastCounter.f k l a b p) (LeastCounterR l a b p) := by
  unfold spec_LeastCounter.f LeastCounterR
  refine Ev.bind (l2On_ev l a b) ?_
  by_cases h : (rowB l && baseB a b) = true
  · have hr := ((rowB_iff l).1 (Bool.and_eq_true_iff.1 h).1).1
    simp only [h, if_true, l2In_eq, Option.bind_some, true_and]
    refine Ev.step (fun k => by rw [spec_LeastCounter.j0]) ?_
    by_cases hp : 0 ≤ p ∧ p ≤ 60
    · simp only [hp, and_self, decide_true, Bool.not_true, Bool.false_eq_true, if_false, if_true]
      refine Ev.bind (l2Side_ev l a b hl) ?_
      by_cases h0 : sideW l a b = 0
      · simp only [if_pos h0]
        exact Ev.now _
      · simp only [if_neg h0]
        by_cases h12 : l.length < 12
        · simp only [if_pos h12]
          exact specLeast_loop l a b p h12 99 1 (by omega) (by omega)
        · simp only [if_neg h12]
          refine Ev.step (fun k => by rw [spec_LeastCounter.l0]) ?_
          simp only [show ((1 : Int) ≤ 99) by decide, if_true, decide_eq_false (show ¬ (l.length : Int) < 12 by omega)]
          refine Ev.step (fun k => by rw [spec_LeastCounter.j2]) ?_
          simp only [Bool.false_eq_true, if_false]
          exact Ev.now _
    · simp only [hp, decide_false, Bool.not_false, if_true, if_false]
      exact Ev.now _
  · simp only [h, false_and, if_false, Bool.false_eq_true]
    refine Ev.step (fun k => by rw [spec_LeastCounter.j0]) ?_
    simp only [if_true]
    exact Ev.now _
theorem implLeast_loop (l : List (S73)) (a b p : Int) (hl : l.length < 12) : ∀ (d : Nat) (w : Int), 1 ≤ w → w + d = 100 → Ev (fun k => impl_LeastCounter.l0 k l a b p w) (leastW (standB l a b p) d w) := by
  intro d
  induction d with
  | zero =>
    intro w h1 hd
    refine Ev.step (fun k => by rw [impl_LeastCounter.l0]) ?_
    simp only [if_neg (show ¬ w ≤ 99 by omega)]
    refine Ev.step (fun k => by rw [impl_LeastCounter.j2]) ?_
    simp only [Bool.false_eq_true, if_false]
    exact Ev.now _
  | succ d ih =>
    intro w h1 hd
    refine Ev.step (fun k => by rw [impl_LeastCounter.l0]) ?_
    simp only [if_pos (show w ≤ 99 by omega), decide_eq_true (show (l.length : Int) < 12 by omega)]
    refine Ev.step (fun k => by rw [impl_LeastCounter.j2]) ?_
    simp only [if_true, w64 (show -9223372036854775808 ≤ w + 1 by omega) (by omega)]
    refine Ev.bind (standsWith_ev l a b p w (by omega)) ?_
    unfold leastW
    cases h : standB l a b p w
    · simp only [Bool.false_eq_true, if_false]
      exact ih (w + 1) (by omega) (by omega)
    · simp only [if_true]
      exact Ev.now _
theorem implLeastCounter_ev (l : List (S73)) (a b p : Int) (hl : l.length ≤ 9223372036854775806) : Ev (fun k => impl_LeastCounter.f k l a b p) (LeastCounterR l a b p) := by
  unfold impl_LeastCounter.f LeastCounterR
  simp only [implIsRow_eq, isBase_eq, isPlace_eq, Option.bind_some]
  by_cases h : (rowB l && baseB a b) = true
  · have h' := Bool.and_eq_true_iff.1 h
    have hr := ((rowB_iff l).1 h'.1).1
    simp only [h'.1, h'.2, Bool.and_self, if_true, true_and]
    refine Ev.step (fun k => by rw [impl_LeastCounter.j0]) ?_
    by_cases hp : 0 ≤ p ∧ p ≤ 60
    · simp only [hp, and_self, decide_true, Bool.not_true, Bool.false_eq_true, if_false, if_true]
      refine Ev.bind (tipSide_ev l a b hl) ?_
      by_cases h0 : sideW l a b = 0
      · simp only [if_pos h0]
        exact Ev.now _
      · simp only [if_neg h0]
        by_cases h12 : l.length < 12
        · simp only [if_pos h12]
          exact implLeast_loop l a b p h12 99 1 (by omega) (by omega)
        · simp only [if_neg h12]
          refine Ev.step (fun k => by rw [impl_LeastCounter.l0]) ?_
          simp only [show ((1 : Int) ≤ 99) by decide, if_true, decide_eq_false (show ¬ (l.length : Int) < 12 by omega)]
          refine Ev.step (fun k => by rw [impl_LeastCounter.j2]) ?_
          simp only [Bool.false_eq_true, if_false]
          exact Ev.now _
    · simp only [hp, decide_false, Bool.not_false, if_true, if_false]
      exact Ev.now _
  · simp only [h, false_and, if_false]
    have done : Ev (fun k => impl_LeastCounter.j0 k l a b p true) (0, false) := by
      refine Ev.step (fun k => by rw [impl_LeastCounter.j0]) ?_
      simp only [if_true]
      exact Ev.now _
    cases h1 : rowB l
    · simp only [Bool.false_eq_true, if_false]
      exact done
    · rw [h1, Bool.true_and] at h
      simp only [if_true, h, if_false]
      exact done
theorem LeastCounter_same (l : List (S73)) (a b p : Int) (hl : l.length ≤ 9223372036854775806) : ∃ r, Ev (fun k => spec_LeastCounter.f k l a b p) r ∧ Ev (fun k => impl_LeastCounter.f k l a b p) r :=
  ⟨_, specLeastCounter_ev l a b p hl, implLeastCounter_ev l a b p hl⟩

theorem FnExactLeastCounter : laws_FnExactLeastCounter.Pure := by
  intro l a b p hw ha hb hp
  refine Ev.rounds ?_
  unfold laws_FnExactLeastCounter.f
  simp only [szLoadS_eq l hw.1, Option.bind_some]
  by_cases h : (l.length : Int) > 1048576
  · simp only [if_pos h, show ((-1 : Int) < 0) by decide, if_true]; exact Ev.now _
  · simp only [if_neg h, if_neg (show ¬ 1048576 - (l.length : Int) < 0 by omega)]
    have ht := toLoadS_ev l (by omega)
    have hm : (l.map toL).length ≤ 9223372036854775806 := by rw [List.length_map]; omega
    obtain ⟨r, hs, hi⟩ := LeastCounter_same (l.map toL) a b p hm
    refine Ev.bind ht (Ev.bind hs (Ev.bind ht (Ev.bind hi ?_)))
    simp only [if_true, bne_self_eq_false]
    refine Ev.step (fun k => by rw [laws_FnExactLeastCounter.j0]) ?_
    simp only [Bool.false_eq_true, if_false]
    refine Ev.bind ht (Ev.bind (eqLoadS_self _ hm) ?_)
    simp only [if_true]
    exact Ev.now _


end Go.Proofs.Ytgllfieaiededaa.Pure

