/- Coins: plans for heavy coins tell them with as few weighings as can be, and what has an outcome is told by it. -/
import Derived.Test.YtgnmomdgfamhnaaPFnCoinsx14
import Derived.Test.YtgnmomdgfamhnaaLib
set_option linter.unusedVariables false
set_option linter.unusedSimpArgs false
namespace Go.Proofs.Ytgnmomdgfamhnaa.Pure
open Go.RowKit Go.Proofs.Ytgnmomdgfamhnaa.PFnCoins Go.Proofs.YtgnmomdgfamhnaaW.PrintWords Go.Proofs.YtgnmomdgfamhnaaW.PrintLast Go.Proofs.Ytgnmomdgfamhnaa.Lib

theorem l1In_eq (a b c : Int) : spec_l1In.f a b c = some (decide (b ≤ a ∧ a ≤ c)) := by
  unfold spec_l1In.f
  by_cases h : a ≥ b
  · rw [if_pos h]
    congr 1
    simp only [decide_eq_decide]
    omega
  · rw [if_neg h]
    congr 1
    simp only [Bool.false_eq, decide_eq_false_iff_not]
    omega

theorem within_eq (a b c : Int) : impl_within.f a b c = some (decide (b ≤ a ∧ a ≤ c)) := by
  unfold impl_within.f
  by_cases h : a ≥ b
  · rw [if_pos h]
    congr 1
    simp only [decide_eq_decide]
    omega
  · rw [if_neg h]
    congr 1
    simp only [Bool.false_eq, decide_eq_false_iff_not]
    omega

/-- Signs alone. -/
def SignAt (l : List Int) (i : Int) : Prop := -1 ≤ rd l i ∧ rd l i ≤ 1
open Classical in
theorem l3Signs_ev (l : List Int) (n : Int) (hl : l.length ≤ 9223372036854775806) : Ev (fun k => spec_l3Signs.f k l n) (if ∀ j, 0 ≤ j → j < (l.length : Int) → SignAt l j then ((l.length : Int) == n) else false) := by
  unfold spec_l3Signs.f
  refine Ev.count' (l := fun k i => spec_l3Signs.l0 k l n i) (n := l.length) (P := SignAt l) (by omega) ?_ ?_ ?_
  · intro i h0 h1 hp r h
    refine Ev.step (fun k => by rw [spec_l3Signs.l0]) ?_
    simp only [if_pos h0, if_pos h1, l1In_eq, Option.bind_some, decide_eq_true_eq, if_pos (show -1 ≤ rd l i ∧ rd l i ≤ 1 from hp), w64 (show -9223372036854775808 ≤ i + 1 by omega) (by omega)]
    exact h
  · intro i h0 h1 hp
    refine Ev.step (fun k => by rw [spec_l3Signs.l0]) ?_
    simp only [if_pos h0, if_pos h1, l1In_eq, Option.bind_some, decide_eq_true_eq, if_neg (show ¬ (-1 ≤ rd l i ∧ rd l i ≤ 1) from hp)]
    exact Ev.now _
  · intro i h0 h1
    refine Ev.step (fun k => by rw [spec_l3Signs.l0]) ?_
    simp only [if_neg (show ¬ i < (l.length : Int) by omega)]
    exact Ev.now _

theorem isSign_eq (a : Int) : impl_isSign.f a = some (decide (-1 ≤ a ∧ a ≤ 1)) := by
  unfold impl_isSign.f
  simp only [within_eq, Option.bind_some]

theorem l3Coins_eq (a : Int) : spec_l3Coins.f a = some (decide (2 ≤ a ∧ a ≤ 40)) := by
  unfold spec_l3Coins.f
  simp only [l1In_eq, Option.bind_some]
theorem areCoins_eq (a : Int) : impl_areCoins.f a = some (decide (2 ≤ a ∧ a ≤ 40)) := by
  unfold impl_areCoins.f
  simp only [within_eq, Option.bind_some]

theorem first_nat {P : Nat → Prop} (n : Nat) : P n → ∃ i, i ≤ n ∧ P i ∧ ∀ j, j < i → ¬ P j := by
  induction n using Nat.strongRecOn with
  | _ n ih =>
    intro h
    by_cases hc : ∃ j, j < n ∧ P j
    · obtain ⟨j, hj, hp⟩ := hc
      obtain ⟨i, hi, hpi, hf⟩ := ih j hj hp
      exact ⟨i, by omega, hpi, hf⟩
    · exact ⟨n, Nat.le_refl _, h, fun j hj hp => hc ⟨j, hj, hp⟩⟩
/-- The first place at which something holds. -/
theorem first_of {P : Int → Prop} {n : Int} (h : ∃ i, 0 ≤ i ∧ i < n ∧ P i) : ∃ i, 0 ≤ i ∧ i < n ∧ P i ∧ ∀ j, 0 ≤ j → j < i → ¬ P j := by
  obtain ⟨i, h0, h1, hp⟩ := h
  obtain ⟨m, hm, hpm, hf⟩ := first_nat (P := fun m => P (m : Int)) i.toNat (by rw [Int.toNat_of_nonneg h0]; exact hp)
  refine ⟨m, by omega, by omega, hpm, fun j hj0 hj => ?_⟩
  have := hf j.toNat (by omega)
  rwa [Int.toNat_of_nonneg hj0] at this
/-- `Ev.fold` up to a place n. -/
theorem Ev.upto {α σ : Type} {l : Nat → σ → Int → Option α} {n : Int} (st : Int → σ) {a : α} (hn : 0 ≤ n)
    (hstep : ∀ i, 0 ≤ i → i < n → ∀ r, Ev (fun k => l k (st (i + 1)) (i + 1)) r → Ev (fun k => l k (st i) i) r)
    (hend : Ev (fun k => l k (st n) n) a) : Ev (fun k => l k (st 0) 0) a :=
  Ev.fold st hstep hend n.toNat 0 (by omega) (by omega)

def totStep (s x : Int) : Int := wrap64 (s + x)
def totW (l : List Int) : Int := l.foldl totStep 0
theorem take_succ_rdI (l : List Int) (i : Int) (h0 : 0 ≤ i) (h1 : i < l.length) : l.take (i + 1).toNat = l.take i.toNat ++ [rd l i] := by
  rw [toNat_succ h0, List.take_add_one, List.getElem?_eq_getElem (by omega)]
  unfold rd
  rw [getD_lt _ (by omega)]
  rfl
theorem l3Total_ev (l : List Int) (hl : l.length ≤ 9223372036854775806) : Ev (fun k => spec_l3Total.f k l) (totW l) := by
  unfold spec_l3Total.f
  have h := Ev.fold (l := fun k s i => spec_l3Total.l0 k l s i) (n := l.length) (fun i => (l.take i.toNat).foldl totStep 0) (a := totW l)
    (fun i h0 h1 r h => by
      refine Ev.step (fun k => by rw [spec_l3Total.l0]) ?_
      simp only [if_pos h1, if_pos h0, w64 (show -9223372036854775808 ≤ i + 1 by omega) (by omega)]
      rw [take_succ_rdI l i h0 h1, List.foldl_append] at h
      exact h)
    (by
      refine Ev.step (fun k => by rw [spec_l3Total.l0]) ?_
      simp only [if_neg (show ¬ (l.length : Int) < l.length by omega)]
      exact Ev.some (by simp [totW]))
    l.length 0 (by omega) (by omega)
  simpa using h
/-- A row of a plan for n coins. -/
def PlanAt (n : Int) (r : List Int) : Prop := ((r.length : Int) = n ∧ ∀ j, 0 ≤ j → j < (r.length : Int) → SignAt r j) ∧ totW r = 0
open Classical in
noncomputable def planB (n : Int) (l : List (List Int)) : Bool := if ∀ i, 0 ≤ i → i < (l.length : Int) → PlanAt n (rd_L2 l i) then decide ((l.length : Int) ≤ 5) else false
theorem rdI_len {l : List (List Int)} (hw : ∀ x ∈ l, x.length ≤ 1048576) (i : Int) : (rd_L2 l i).length ≤ 1048576 := by
  unfold rd_L2
  by_cases h : i.toNat < l.length
  · rw [getD_lt _ h]; exact hw _ (List.getElem_mem _)
  · rw [List.getD_eq_getElem?_getD, List.getElem?_eq_none (by omega)]; simp
theorem l3Plan_ev (n : Int) (l : List (List Int)) (hl : l.length ≤ 1048576) (hw : ∀ x ∈ l, x.length ≤ 1048576) : Ev (fun k => spec_l3Plan.f k n l) (planB n l) := by
  unfold spec_l3Plan.f planB
  refine Ev.count' (l := fun k i => spec_l3Plan.l0 k n l i) (n := l.length) (P := fun i => PlanAt n (rd_L2 l i)) (by omega) ?_ ?_ ?_
  · intro i h0 h1 hp r h
    refine Ev.step (fun k => by rw [spec_l3Plan.l0]) ?_
    simp only [if_pos h0, if_pos h1]
    have hlen := rdI_len hw i
    refine Ev.bind (l3Signs_ev (rd_L2 l i) n (by omega)) ?_
    rw [if_pos hp.1.2]
    simp only [beq_iff_eq.2 hp.1.1, if_true]
    refine Ev.bind (l3Total_ev (rd_L2 l i) (by omega)) ?_
    simp only [if_pos hp.2, w64 (show -9223372036854775808 ≤ i + 1 by omega) (by omega)]
    exact h
  · intro i h0 h1 hp
    refine Ev.step (fun k => by rw [spec_l3Plan.l0]) ?_
    simp only [if_pos h0, if_pos h1]
    have hlen := rdI_len hw i
    refine Ev.bind (l3Signs_ev (rd_L2 l i) n (by omega)) ?_
    by_cases h2 : ∀ j, 0 ≤ j → j < ((rd_L2 l i).length : Int) → SignAt (rd_L2 l i) j
    · rw [if_pos h2]
      by_cases h3 : ((rd_L2 l i).length : Int) = n
      · simp only [beq_iff_eq.2 h3, if_true]
        refine Ev.bind (l3Total_ev (rd_L2 l i) (by omega)) ?_
        simp only [if_neg (show ¬ totW (rd_L2 l i) = 0 from fun h => hp ⟨⟨h3, h2⟩, h⟩)]
        exact Ev.now _
      · simp only [beq_eq_false_iff_ne.2 h3, Bool.false_eq_true, if_false]
        exact Ev.now _
    · rw [if_neg h2]
      simp only [Bool.false_eq_true, if_false]
      exact Ev.now _
  · intro i h0 h1
    refine Ev.step (fun k => by rw [spec_l3Plan.l0]) ?_
    simp only [if_neg (show ¬ i < (l.length : Int) by omega)]
    exact Ev.now _

/-- The inner loop of isPlan: over one row, from its begin, goes on where the row is fine. -/
theorem isPlan_row (n : Int) (l : List (List Int)) (m i : Int) (r : List Int) (hr : r.length ≤ 1048576) (hs : ∀ j, 0 ≤ j → j < (r.length : Int) → SignAt r j) (hi0 : 0 ≤ i) (hi1 : i ≤ 1048576) {a : Bool}
    (h : Ev (fun k => if totW r = 0 then impl_isPlan.l0 k n l l m (i + 1) else some false) a) : Ev (fun k => impl_isPlan.l1 k n l 0 l m i r r.length 0) a := by
  have h := Ev.fold (l := fun k s j => impl_isPlan.l1 k n l s l m i r r.length j) (n := r.length) (fun j => (r.take j.toNat).foldl totStep 0) (a := a)
    (fun j h0 h1 q h => by
      refine Ev.step (fun k => by rw [impl_isPlan.l1]) ?_
      simp only [if_pos h1, if_pos h0, isSign_eq, Option.bind_some, decide_eq_true_eq, if_pos (show -1 ≤ rd r j ∧ rd r j ≤ 1 from hs j h0 h1), w64 (show -9223372036854775808 ≤ j + 1 by omega) (by omega)]
      rw [take_succ_rdI r j h0 h1, List.foldl_append] at h
      exact h)
    (by
      refine Ev.step (fun k => by rw [impl_isPlan.l1]) ?_
      simp only [if_neg (show ¬ (r.length : Int) < r.length by omega), w64 (show -9223372036854775808 ≤ i + 1 by omega) (by omega)]
      rw [show r.take (r.length : Int).toNat = r by simp]
      exact h)
    r.length 0 (by omega) (by omega)
  simpa using h
theorem isPlan_bad (n : Int) (l : List (List Int)) (m i : Int) (r : List Int) (hr : r.length ≤ 1048576) (hs : ¬ ∀ j, 0 ≤ j → j < (r.length : Int) → SignAt r j) : Ev (fun k => impl_isPlan.l1 k n l 0 l m i r r.length 0) false := by
  simp only [Classical.not_forall] at hs
  obtain ⟨j, hj0, hj1, hj2⟩ := hs
  obtain ⟨q, hq0, hq1, hq2, hq3⟩ := first_of (P := fun j => ¬ SignAt r j) ⟨j, hj0, hj1, hj2⟩
  have h := Ev.upto (l := fun k s j => impl_isPlan.l1 k n l s l m i r r.length j) (n := q) (fun j => (r.take j.toNat).foldl totStep 0) (a := false) hq0
    (fun j h0 h1 p h => by
      refine Ev.step (fun k => by rw [impl_isPlan.l1]) ?_
      simp only [if_pos (show j < (r.length : Int) by omega), if_pos h0, isSign_eq, Option.bind_some, decide_eq_true_eq, if_pos (show -1 ≤ rd r j ∧ rd r j ≤ 1 from Classical.not_not.1 (hq3 j h0 h1)), w64 (show -9223372036854775808 ≤ j + 1 by omega) (by omega)]
      rw [take_succ_rdI r j h0 (by omega), List.foldl_append] at h
      exact h)
    (by
      refine Ev.step (fun k => by rw [impl_isPlan.l1]) ?_
      simp only [if_pos hq1, if_pos hq0, isSign_eq, Option.bind_some, decide_eq_true_eq, if_neg (show ¬ (-1 ≤ rd r q ∧ rd r q ≤ 1) from hq2)]
      exact Ev.now _)
  simpa using h
theorem isPlan_ev (n : Int) (l : List (List Int)) (hl : l.length ≤ 1048576) (hw : ∀ x ∈ l, x.length ≤ 1048576) : Ev (fun k => impl_isPlan.f k n l) (decide (2 ≤ n ∧ n ≤ 40) && planB n l) := by
  unfold impl_isPlan.f
  have h := Ev.count' (l := fun k i => impl_isPlan.l0 k n l l l.length i) (n := l.length) (P := fun i => PlanAt n (rd_L2 l i)) (a := decide (2 ≤ n ∧ n ≤ 40) && decide ((l.length : Int) ≤ 5)) (b := false) (by omega)
    (fun i h0 h1 hp r h => by
      refine Ev.step (fun k => by rw [impl_isPlan.l0]) ?_
      simp only [if_pos h0, if_pos h1, if_pos hp.1.1]
      refine isPlan_row n l l.length i (rd_L2 l i) (rdI_len hw i) hp.1.2 h0 (by omega) ?_
      simp only [if_pos hp.2]
      exact h)
    (fun i h0 h1 hp => by
      refine Ev.step (fun k => by rw [impl_isPlan.l0]) ?_
      simp only [if_pos h0, if_pos h1]
      by_cases h3 : ((rd_L2 l i).length : Int) = n
      · simp only [if_pos h3]
        by_cases h2 : ∀ j, 0 ≤ j → j < ((rd_L2 l i).length : Int) → SignAt (rd_L2 l i) j
        · refine isPlan_row n l l.length i (rd_L2 l i) (rdI_len hw i) h2 h0 (by omega) ?_
          simp only [if_neg (show ¬ totW (rd_L2 l i) = 0 from fun h => hp ⟨⟨h3, h2⟩, h⟩)]
          exact Ev.now _
        · exact isPlan_bad n l l.length i (rd_L2 l i) (rdI_len hw i) h2
      · simp only [if_neg h3]
        exact Ev.now _)
    (fun i h0 h1 => by
      refine Ev.step (fun k => by rw [impl_isPlan.l0]) ?_
      simp only [if_neg (show ¬ i < (l.length : Int) by omega), areCoins_eq, Option.bind_some, decide_eq_true_eq]
      by_cases hc : 2 ≤ n ∧ n ≤ 40
      · simp only [if_pos hc, decide_eq_true hc, Bool.true_and]
        exact Ev.now _
      · simp only [if_neg hc, decide_eq_false hc, Bool.false_and]
        exact Ev.now _)
  refine Ev.as h ?_
  unfold planB
  split
  · rfl
  · rw [Bool.and_false]

/-- The outcome of a coin, heavier (1) or lighter (-1). -/
def colW (l : List (List Int)) (c s : Int) : List Int := l.map fun r => s * rd r c
theorem good_plan {n : Int} {l : List (List Int)} (h : planB n l = true) : l.length ≤ 5 ∧ ∀ i, 0 ≤ i → i < (l.length : Int) → PlanAt n (rd_L2 l i) := by
  unfold planB at h
  split at h
  · rename_i hp
    exact ⟨by have := of_decide_eq_true h; omega, hp⟩
  · cases h
theorem take_succ_rdL (l : List (List Int)) (i : Int) (h0 : 0 ≤ i) (h1 : i < l.length) : l.take (i + 1).toNat = l.take i.toNat ++ [rd_L2 l i] := by
  rw [toNat_succ h0, List.take_add_one]
  unfold rd_L2
  rw [getD_lt _ (show i.toNat < l.length by omega), List.getElem?_eq_getElem (show i.toNat < l.length by omega)]
  rfl
theorem colW_len (l : List (List Int)) (c s : Int) : (colW l c s).length = l.length := List.length_map _
theorem colW_take (l : List (List Int)) (c s i : Int) (h0 : 0 ≤ i) (h1 : i < l.length) : colW (l.take (i + 1).toNat) c s = colW (l.take i.toNat) c s ++ [s * rd (rd_L2 l i) c] := by
  rw [take_succ_rdL l i h0 h1]
  simp [colW]
theorem cell_sign {n : Int} {l : List (List Int)} (hp : ∀ i, 0 ≤ i → i < (l.length : Int) → PlanAt n (rd_L2 l i)) {i c : Int} (h0 : 0 ≤ i) (h1 : i < l.length) (c0 : 0 ≤ c) (c1 : c < n) : c < ((rd_L2 l i).length : Int) ∧ -1 ≤ rd (rd_L2 l i) c ∧ rd (rd_L2 l i) c ≤ 1 := by
  have h := hp i h0 h1
  have hl := h.1.1
  have := h.1.2 c c0 (by omega)
  exact ⟨by omega, this⟩

theorem slEq_ev (a b : List Int) (ha : a.length ≤ 9223372036854775806) : Ev (fun k => slices_Equal_int_int.f k a b) (decide (a = b)) := by
  unfold slices_Equal_int_int.f
  by_cases hl : (a.length : Int) = (b.length : Int)
  · simp only [if_pos hl]
    have h := Ev.count' (l := fun k i => slices_Equal_int_int.l0 k a b a.length i) (n := a.length) (P := fun i => rd a i = rd b i) (a := true) (b := false) (by omega)
      (fun i h0 h1 hp r h => by
        refine Ev.step (fun k => by rw [slices_Equal_int_int.l0]) ?_
        simp only [if_pos h1, if_pos h0, if_pos (show i < (b.length : Int) by omega), if_pos hp, w64 (show -9223372036854775808 ≤ i + 1 by omega) (by omega)]
        exact h)
      (fun i h0 h1 hp => by
        refine Ev.step (fun k => by rw [slices_Equal_int_int.l0]) ?_
        simp only [if_pos h1, if_pos h0, if_pos (show i < (b.length : Int) by omega), if_neg hp]
        exact Ev.now _)
      (fun i _ e => by
        subst e
        refine Ev.step (fun k => by rw [slices_Equal_int_int.l0]) ?_
        simp only [if_neg (show ¬ (a.length : Int) < a.length by omega)]
        exact Ev.now _)
    refine Ev.as h ?_
    by_cases e : a = b
    · rw [if_pos (fun i _ _ => by rw [e]), decide_eq_true e]
    · rw [if_neg (fun hh => e (rd_ext (by omega) hh)), decide_eq_false e]
  · simp only [if_neg hl]
    rw [decide_eq_false (fun e => hl (by rw [e]))]
    exact Ev.now _

theorem implOutcome_ev {n : Int} {l : List (List Int)} (hl : l.length ≤ 5) (hp : ∀ i, 0 ≤ i → i < (l.length : Int) → PlanAt n (rd_L2 l i)) {c s : Int} (c0 : 0 ≤ c) (c1 : c < n) (hs : s = 1 ∨ s = -1) :
    Ev (fun k => impl_outcomeOf.f k l c s) (colW l c s) := by
  unfold impl_outcomeOf.f
  have h := Ev.fold (l := fun k o i => impl_outcomeOf.l0 k c s o l l.length i) (n := l.length) (fun i => colW (l.take i.toNat) c s) (a := colW l c s)
    (fun i h0 h1 r h => by
      refine Ev.step (fun k => by rw [impl_outcomeOf.l0]) ?_
      have hx : (colW (l.take i.toNat) c s).length < 17592186044416 := by rw [colW_len, List.length_take]; omega
      have hc := cell_sign hp h0 h1 c0 c1
      have e : wrap64 (s * rd (rd_L2 l i) c) = s * rd (rd_L2 l i) c := by rcases hs with rfl | rfl <;> exact w64 (by omega) (by omega)
      simp only [if_pos h1, if_pos h0, if_pos c0, if_pos hc.1, if_pos hx, e, w64 (show -9223372036854775808 ≤ i + 1 by omega) (by omega)]
      rw [colW_take l c s i h0 h1] at h
      exact h)
    (by
      refine Ev.step (fun k => by rw [impl_outcomeOf.l0]) ?_
      simp only [if_neg (show ¬ (l.length : Int) < l.length by omega)]
      exact Ev.some (by simp))
    l.length 0 (by omega) (by omega)
  simpa [colW] using h

def sgnOf (heavy : Bool) : Int := if heavy = true then 1 else -1
theorem specOutcome_ev {n : Int} {l : List (List Int)} (hl : l.length ≤ 5) (hp : ∀ i, 0 ≤ i → i < (l.length : Int) → PlanAt n (rd_L2 l i)) {c : Int} (heavy : Bool) (c0 : 0 ≤ c) (c1 : c < n) :
    Ev (fun k => spec_l3Outcome.f k l c heavy) (colW l c (sgnOf heavy)) := by
  unfold spec_l3Outcome.f
  have h := Ev.fold (l := fun k o i => spec_l3Outcome.l0 k l c heavy o i) (n := l.length) (fun i => colW (l.take i.toNat) c (sgnOf heavy)) (a := colW l c (sgnOf heavy))
    (fun i h0 h1 r h => by
      refine Ev.step (fun k => by rw [spec_l3Outcome.l0]) ?_
      have hx : (colW (l.take i.toNat) c (sgnOf heavy)).length < 17592186044416 := by rw [colW_len, List.length_take]; omega
      have hc := cell_sign hp h0 h1 c0 c1
      rw [colW_take l c _ i h0 h1] at h
      cases heavy
      · have e : wrap64 (-(rd (rd_L2 l i) c)) = -1 * rd (rd_L2 l i) c := by rw [w64 (by omega) (by omega)]; omega
        simp only [sgnOf, Bool.false_eq_true, if_false] at h hx ⊢
        simp only [if_pos h1, if_pos h0, if_pos c0, if_pos hc.1, if_pos hx, e, w64 (show -9223372036854775808 ≤ i + 1 by omega) (by omega)]
        exact h
      · simp only [sgnOf, if_true, Int.one_mul] at h hx ⊢
        simp only [if_pos h1, if_pos h0, if_pos c0, if_pos hc.1, if_pos hx, w64 (show -9223372036854775808 ≤ i + 1 by omega) (by omega)]
        exact h)
    (by
      refine Ev.step (fun k => by rw [spec_l3Outcome.l0]) ?_
      simp only [if_neg (show ¬ (l.length : Int) < l.length by omega)]
      exact Ev.some (by simp))
    l.length 0 (by omega) (by omega)
  simpa [colW] using h

/-- The outcomes of d coins from c on. -/
def colsD (l : List (List Int)) (signs : List Int) : Nat → Int → List (List Int)
  | 0, _ => []
  | d + 1, c => signs.map (colW l c) ++ colsD l signs d (c + 1)
/-- None of these comes twice, and none is among those seen. -/
def distB (seen : List (List Int)) : List (List Int) → Bool
  | [] => true
  | x :: xs => if seen.any (fun y => y == x) = true then false else distB (seen ++ [x]) xs
def Dist (X : List (List Int)) (m : Nat) : Prop := ∀ i j : Nat, m ≤ i → i < X.length → j < i → X.getD i [] ≠ X.getD j []
theorem distB_iff : ∀ (xs seen : List (List Int)), distB seen xs = true ↔ Dist (seen ++ xs) seen.length
  | [], seen => by
    constructor
    · intro _ i j h1 h2
      rw [List.append_nil] at h2
      omega
    · intro _; rfl
  | x :: xs, seen => by
    have ih := distB_iff xs (seen ++ [x])
    rw [List.append_assoc, List.singleton_append, List.length_append, List.length_singleton] at ih
    unfold distB
    have hx : (seen ++ x :: xs).getD seen.length [] = x := by
      rw [List.getD_eq_getElem?_getD, List.getElem?_append_right (Nat.le_refl _), Nat.sub_self]; rfl
    have hj : ∀ j, j < seen.length → (seen ++ x :: xs).getD j [] = seen.getD j [] := fun j h => by
      rw [List.getD_eq_getElem?_getD, List.getD_eq_getElem?_getD, List.getElem?_append_left h]
    by_cases h : seen.any (fun y => y == x) = true
    · rw [if_pos h]
      constructor
      · intro h2; cases h2
      · intro hD
        obtain ⟨y, hy, e⟩ := List.any_eq_true.1 h
        obtain ⟨j, hjl, rfl⟩ := List.getElem_of_mem hy
        refine absurd ?_ (hD seen.length j (Nat.le_refl _) (by rw [List.length_append, List.length_cons]; omega) hjl)
        rw [hx, hj j hjl, getD_lt _ hjl]
        exact (beq_iff_eq.1 e).symm
    · rw [if_neg h, ih]
      constructor
      · intro hD i j h1 h2 h3
        by_cases e : i = seen.length
        · subst e
          rw [hx, hj j h3]
          intro e2
          refine h (List.any_eq_true.2 ⟨seen.getD j [], ?_, by rw [beq_iff_eq]; exact e2.symm⟩)
          rw [getD_lt _ h3]; exact List.getElem_mem _
        · exact hD i j (by omega) h2 h3
      · intro hD i j h1 h2 h3
        exact hD i j (by omega) h2 h3

theorem seenHas_eq {seen : List (List Int)} {row : List Int} (h1 : seen.length ≤ 1000) (h2 : row.length ≤ 1000) : seenHas.f seen row = some (seen.any fun y => y == row) := by
  unfold seenHas.f
  rw [if_pos ⟨by omega, by omega⟩]
theorem implTells_in {n : Int} {l : List (List Int)} {signs : List Int} (hl : l.length ≤ 5) (hp : ∀ i, 0 ≤ i → i < (l.length : Int) → PlanAt n (rd_L2 l i)) (hs : ∀ s ∈ signs, s = 1 ∨ s = -1) (hs2 : signs.length ≤ 2) (hn : n ≤ 40) {c : Int} (c0 : 0 ≤ c) (c1 : c < n) (rest : List (List Int)) (B : Nat) (hB : B ≤ 1000)
    (ih : ∀ seen : List (List Int), seen.length ≤ B → Ev (fun k => impl_tells.l0 k l signs seen n (c + 1)) (distB seen rest)) :
    ∀ (d j : Nat) (seen : List (List Int)), j + d = signs.length → seen.length + d ≤ B → Ev (fun k => impl_tells.l1 k l signs seen c n c signs signs.length (j : Int)) (distB seen ((signs.drop j).map (colW l c) ++ rest)) := by
  intro d
  induction d with
  | zero =>
    intro j seen h1 h2
    refine Ev.step (fun k => by rw [impl_tells.l1]) ?_
    simp only [if_neg (show ¬ (j : Int) < (signs.length : Int) by omega), w64 (show -9223372036854775808 ≤ c + 1 by omega) (by omega)]
    rw [List.drop_eq_nil_of_le (by omega), List.map_nil, List.nil_append]
    exact ih seen (by omega)
  | succ d ihd =>
    intro j seen h1 h2
    have hj : j < signs.length := by omega
    refine Ev.step (fun k => by rw [impl_tells.l1]) ?_
    simp only [if_pos (show (j : Int) < (signs.length : Int) by omega), if_pos (show 0 ≤ (j : Int) by omega)]
    have hm : rd signs (j : Int) ∈ signs := rd_mem (by omega) (by omega)
    refine Ev.bind (implOutcome_ev hl hp c0 c1 (hs _ hm)) ?_
    simp only [seenHas_eq (seen := seen) (row := colW l c (rd signs (j : Int))) (by omega) (by rw [colW_len]; omega), Option.bind_some]
    have e : signs.drop j = rd signs (j : Int) :: signs.drop (j + 1) := by
      rw [List.drop_eq_getElem_cons hj]
      unfold rd
      rw [Int.toNat_natCast, getD_lt _ hj]
    rw [e, List.map_cons, List.cons_append]
    unfold distB
    by_cases h : (seen.any fun y => y == colW l c (rd signs (j : Int))) = true
    · simp only [if_pos h]; exact Ev.now _
    · simp only [if_neg h, if_pos (show seen.length < 5864062014805 by omega)]
      rw [show wrap64 ((j : Int) + 1) = ((j + 1 : Nat) : Int) by rw [w64 (by omega) (by omega)]; omega]
      exact ihd (j + 1) (seen ++ [colW l c (rd signs (j : Int))]) (by omega) (by rw [List.length_append, List.length_singleton]; omega)
theorem implTells_ev {n : Int} {l : List (List Int)} {signs : List Int} (hl : l.length ≤ 5) (hp : ∀ i, 0 ≤ i → i < (l.length : Int) → PlanAt n (rd_L2 l i)) (hs : ∀ s ∈ signs, s = 1 ∨ s = -1) (hs2 : signs.length ≤ 2) (hn : n ≤ 40) :
    ∀ (d : Nat) (c : Int) (seen : List (List Int)), 0 ≤ c → c + d = n → seen.length + 2 * d ≤ 1000 → Ev (fun k => impl_tells.l0 k l signs seen n c) (distB seen (colsD l signs d c)) := by
  intro d
  induction d with
  | zero =>
    intro c seen c0 h1 h2
    refine Ev.step (fun k => by rw [impl_tells.l0]) ?_
    simp only [if_neg (show ¬ c < n by omega)]
    exact Ev.now _
  | succ d ih =>
    intro c seen c0 h1 h2
    refine Ev.step (fun k => by rw [impl_tells.l0]) ?_
    simp only [if_pos (show c < n by omega)]
    exact implTells_in hl hp hs hs2 hn c0 (by omega) (colsD l signs d (c + 1)) (1000 - 2 * d) (by omega) (fun seen' h => ih (c + 1) seen' (by omega) (by omega) (by omega)) signs.length 0 seen (by omega) (by omega)

theorem l1Same_ev (a b : List Int) (ha : a.length ≤ 9223372036854775806) : Ev (fun k => spec_l1Same.f k a b) (decide (a = b)) := by
  unfold spec_l1Same.f
  by_cases hl : (a.length : Int) = (b.length : Int)
  · simp only [if_pos hl]
    have h := Ev.count' (l := fun k i => spec_l1Same.l0 k a b i) (n := a.length) (P := fun i => rd a i = rd b i) (a := true) (b := false) (by omega)
      (fun i h0 h1 hp r h => by
        refine Ev.step (fun k => by rw [spec_l1Same.l0]) ?_
        simp only [if_pos h1, if_pos h0, if_pos (show i < (b.length : Int) by omega), if_pos hp, w64 (show -9223372036854775808 ≤ i + 1 by omega) (by omega)]
        exact h)
      (fun i h0 h1 hp => by
        refine Ev.step (fun k => by rw [spec_l1Same.l0]) ?_
        simp only [if_pos h1, if_pos h0, if_pos (show i < (b.length : Int) by omega), if_neg hp]
        exact Ev.now _)
      (fun i _ e => by
        subst e
        refine Ev.step (fun k => by rw [spec_l1Same.l0]) ?_
        simp only [if_neg (show ¬ (a.length : Int) < a.length by omega)]
        exact Ev.now _)
    refine Ev.as h ?_
    by_cases e : a = b
    · rw [if_pos (fun i _ _ => by rw [e]), decide_eq_true e]
    · rw [if_neg (fun hh => e (rd_ext (by omega) hh)), decide_eq_false e]
  · simp only [if_neg hl]
    rw [decide_eq_false (fun e => hl (by rw [e]))]
    exact Ev.now _

open Classical in
theorem specTells_look (X : List (List Int)) (hX : X.length ≤ 1000) (hw : ∀ x ∈ X, x.length ≤ 1000) : Ev (fun k => spec_l3Tells.l1 k X 0) (distB [] X) := by
  have hr : ∀ i : Int, (rd_L2 X i).length ≤ 1000 := fun i => by
    unfold rd_L2
    by_cases h : i.toNat < X.length
    · rw [getD_lt _ h]; exact hw _ (List.getElem_mem _)
    · rw [List.getD_eq_getElem?_getD, List.getElem?_eq_none (by omega)]; simp
  have inner : ∀ i : Int, 0 ≤ i → i < X.length → ∀ r, Ev (fun k => spec_l3Tells.l1 k X (i + 1)) r → Ev (fun k => spec_l3Tells.l2 k X i 0) (if ∀ j, 0 ≤ j → j < i → ¬ rd_L2 X i = rd_L2 X j then r else false) := fun i i0 i1 r h => by
    refine Ev.count' (l := fun k j => spec_l3Tells.l2 k X i j) (n := i) (P := fun j => ¬ rd_L2 X i = rd_L2 X j) (a := r) (b := false) i0 ?_ ?_ ?_
    · intro j j0 j1 hp r2 h2
      refine Ev.step (fun k => by rw [spec_l3Tells.l2]) ?_
      simp only [if_pos j1, if_pos i0, if_pos i1, if_pos j0, if_pos (show j < (X.length : Int) by omega)]
      refine Ev.bind (l1Same_ev _ _ (by have := hr i; omega)) ?_
      simp only [decide_eq_false hp, Bool.false_eq_true, if_false, w64 (show -9223372036854775808 ≤ j + 1 by omega) (by omega)]
      exact h2
    · intro j j0 j1 hp
      refine Ev.step (fun k => by rw [spec_l3Tells.l2]) ?_
      simp only [if_pos j1, if_pos i0, if_pos i1, if_pos j0, if_pos (show j < (X.length : Int) by omega)]
      refine Ev.bind (l1Same_ev _ _ (by have := hr i; omega)) ?_
      simp only [decide_eq_true (Classical.not_not.1 hp), if_true]
      exact Ev.now _
    · intro m _ e
      subst e
      refine Ev.step (fun k => by rw [spec_l3Tells.l2]) ?_
      simp only [if_neg (show ¬ m < m by omega), w64 (show -9223372036854775808 ≤ m + 1 by omega) (by omega)]
      exact h
  have h := Ev.count' (l := fun k i => spec_l3Tells.l1 k X i) (n := X.length) (P := fun i => ∀ j, 0 ≤ j → j < i → ¬ rd_L2 X i = rd_L2 X j) (a := true) (b := false) (by omega)
    (fun i h0 h1 hp r h => by
      refine Ev.step (fun k => by rw [spec_l3Tells.l1]) ?_
      simp only [if_pos h1]
      refine Ev.as (inner i h0 h1 r h) ?_
      rw [if_pos hp])
    (fun i h0 h1 hp => by
      refine Ev.step (fun k => by rw [spec_l3Tells.l1]) ?_
      simp only [if_pos h1]
      obtain ⟨j, hj⟩ := Classical.not_forall.1 hp
      have hj0 : 0 ≤ j := by
        by_cases x : 0 ≤ j
        · exact x
        · exact absurd (fun a => absurd a x) hj
      have hj1 : j < i := by
        by_cases x : j < i
        · exact x
        · exact absurd (fun _ a => absurd a x) hj
      have hjj : rd_L2 X i = rd_L2 X j := Classical.not_not.1 (fun x => hj (fun _ _ => x))
      -- the search stops at the first that is the same
      have stop : ∀ (d : Nat) (m : Int), 0 ≤ m → m ≤ j → j - m = d → Ev (fun k => spec_l3Tells.l2 k X i m) false := by
        intro d
        induction d with
        | zero =>
          intro m m0 m1 hd
          obtain rfl : m = j := by omega
          refine Ev.step (fun k => by rw [spec_l3Tells.l2]) ?_
          simp only [if_pos hj1, if_pos h0, if_pos h1, if_pos m0, if_pos (show m < (X.length : Int) by omega)]
          refine Ev.bind (l1Same_ev _ _ (by have := hr i; omega)) ?_
          simp only [decide_eq_true hjj, if_true]
          exact Ev.now _
        | succ d ihd =>
          intro m m0 m1 hd
          refine Ev.step (fun k => by rw [spec_l3Tells.l2]) ?_
          simp only [if_pos (show m < i by omega), if_pos h0, if_pos h1, if_pos m0, if_pos (show m < (X.length : Int) by omega)]
          refine Ev.bind (l1Same_ev _ _ (by have := hr i; omega)) ?_
          by_cases x : rd_L2 X i = rd_L2 X m
          · simp only [decide_eq_true x, if_true]; exact Ev.now _
          · simp only [decide_eq_false x, Bool.false_eq_true, if_false, w64 (show -9223372036854775808 ≤ m + 1 by omega) (by omega)]
            exact ihd (m + 1) (by omega) (by omega) (by omega)
      exact stop j.toNat 0 (by omega) hj0 (by omega))
    (fun i _ e => by
      subst e
      refine Ev.step (fun k => by rw [spec_l3Tells.l1]) ?_
      simp only [if_neg (show ¬ (X.length : Int) < X.length by omega)]
      exact Ev.now _)
  refine Ev.as h ?_
  have hD := distB_iff X []
  rw [List.nil_append, List.length_nil] at hD
  by_cases hall : ∀ i : Int, 0 ≤ i → i < X.length → ∀ j, 0 ≤ j → j < i → ¬ rd_L2 X i = rd_L2 X j
  · rw [if_pos hall]
    refine (hD.2 fun i j _ h2 h3 => ?_).symm
    have := hall (i : Int) (by omega) (by omega) (j : Int) (by omega) (by omega)
    unfold rd_L2 at this
    rwa [Int.toNat_natCast, Int.toNat_natCast] at this
  · rw [if_neg hall]
    cases hd : distB [] X
    · rfl
    · refine absurd (fun i h0 h1 j j0 j1 => ?_) hall
      have := hD.1 hd i.toNat j.toNat (by omega) (by omega) (by omega)
      unfold rd_L2
      exact this
def signsOf (both : Bool) : List Int := if both = true then [1, -1] else [1]
theorem colsD_len (l : List (List Int)) (both : Bool) : ∀ (d : Nat) (c : Int), (colsD l (signsOf both) d c).length ≤ 2 * d
  | 0, _ => by simp [colsD]
  | d + 1, c => by
    have := colsD_len l both d (c + 1)
    unfold colsD
    rw [List.length_append, List.length_map]
    have : (signsOf both).length ≤ 2 := by cases both <;> decide
    omega
theorem colsD_row (l : List (List Int)) (signs : List Int) : ∀ (d : Nat) (c : Int), ∀ x ∈ colsD l signs d c, x.length = l.length
  | 0, _ => by simp [colsD]
  | d + 1, c => by
    intro x hx
    unfold colsD at hx
    rcases List.mem_append.1 hx with h | h
    · obtain ⟨s, _, rfl⟩ := List.mem_map.1 h
      exact colW_len _ _ _
    · exact colsD_row l signs d (c + 1) x h
theorem specTells_gather {n : Int} {l : List (List Int)} (both : Bool) (hl : l.length ≤ 5) (hp : ∀ i, 0 ≤ i → i < (l.length : Int) → PlanAt n (rd_L2 l i)) (hn : n ≤ 40) (r : Bool) :
    ∀ (d : Nat) (c : Int) (X : List (List Int)), 0 ≤ c → c + d = n → X.length + 2 * d ≤ 1000 → Ev (fun k => spec_l3Tells.l1 k (X ++ colsD l (signsOf both) d c) 0) r → Ev (fun k => spec_l3Tells.l0 k n l both X c) r := by
  intro d
  induction d with
  | zero =>
    intro c X c0 h1 h2 h
    refine Ev.step (fun k => by rw [spec_l3Tells.l0]) ?_
    simp only [if_neg (show ¬ c < n by omega)]
    unfold colsD at h
    rwa [List.append_nil] at h
  | succ d ih =>
    intro c X c0 h1 h2 h
    refine Ev.step (fun k => by rw [spec_l3Tells.l0]) ?_
    simp only [if_pos (show c < n by omega)]
    refine Ev.bind (specOutcome_ev hl hp true c0 (by omega)) ?_
    simp only [if_pos (show X.length < 5864062014805 by omega), Option.bind_some, w64 (show -9223372036854775808 ≤ c + 1 by omega) (by omega)]
    cases both
    · simp only [Bool.false_eq_true, if_false]
      refine ih (c + 1) _ (by omega) (by omega) (by rw [List.length_append, List.length_singleton]; omega) ?_
      simpa [colsD, signsOf, sgnOf] using h
    · simp only [if_true]
      refine Ev.bind (specOutcome_ev hl hp false c0 (by omega)) ?_
      have hx : (X ++ [colW l c (sgnOf true)]).length < 5864062014805 := by rw [List.length_append, List.length_singleton]; omega
      simp only [if_pos hx]
      refine ih (c + 1) _ (by omega) (by omega) (by rw [List.length_append, List.length_append, List.length_singleton, List.length_singleton]; omega) ?_
      simpa [colsD, signsOf, sgnOf] using h
theorem specTells_ev {n : Int} {l : List (List Int)} (both : Bool) (hl : l.length ≤ 5) (hp : ∀ i, 0 ≤ i → i < (l.length : Int) → PlanAt n (rd_L2 l i)) (h0 : 2 ≤ n) (hn : n ≤ 40) :
    Ev (fun k => spec_l3Tells.f k n l both) (distB [] (colsD l (signsOf both) n.toNat 0)) := by
  unfold spec_l3Tells.f
  have hlen := colsD_len l both n.toNat 0
  refine specTells_gather both hl hp hn _ n.toNat 0 [] (by omega) (by omega) (by simp; omega) ?_
  rw [List.nil_append]
  exact specTells_look _ (by omega) (fun x hx => by have := colsD_row l _ _ _ x hx; omega)
theorem implTells_all {n : Int} {l : List (List Int)} (both : Bool) (hl : l.length ≤ 5) (hp : ∀ i, 0 ≤ i → i < (l.length : Int) → PlanAt n (rd_L2 l i)) (h0 : 2 ≤ n) (hn : n ≤ 40) :
    Ev (fun k => impl_tells.f k n l (signsOf both)) (distB [] (colsD l (signsOf both) n.toNat 0)) := by
  unfold impl_tells.f
  exact implTells_ev hl hp (by cases both <;> simp [signsOf]) (by cases both <;> decide) hn n.toNat 0 [] (by omega) (by omega) (by simp; omega)
theorem l3Good_ev (n : Int) (l : List (List Int)) (hl : l.length ≤ 1048576) (hw : ∀ x ∈ l, x.length ≤ 1048576) : Ev (fun k => spec_l3Good.f k n l) (decide (2 ≤ n ∧ n ≤ 40) && planB n l) := by
  unfold spec_l3Good.f
  simp only [l3Coins_eq, Option.bind_some, decide_eq_true_eq]
  by_cases h : 2 ≤ n ∧ n ≤ 40
  · simp only [if_pos h]
    rw [decide_eq_true h, Bool.true_and]
    exact Ev.bind (l3Plan_ev n l hl hw) (Ev.now _)
  · simp only [if_neg h]
    rw [decide_eq_false h, Bool.false_and]
    exact Ev.now _

noncomputable def CoinOutcomeR (n : Int) (l : List (List Int)) (c : Int) (heavy : Bool) : List Int × Bool := if (decide (2 ≤ n ∧ n ≤ 40) && planB n l) = true ∧ 0 ≤ c ∧ c ≤ n - 1 then (colW l c (sgnOf heavy), true) else ([], false)
theorem specCoinOutcome_ev (n : Int) (l : List (List Int)) (c : Int) (heavy : Bool) (hl : l.length ≤ 1048576) (hw : ∀ x ∈ l, x.length ≤ 1048576) : Ev (fun k => spec_CoinOutcome.f k n l c heavy) (CoinOutcomeR n l c heavy) := by
  unfold spec_CoinOutcome.f CoinOutcomeR
  refine Ev.bind (l3Good_ev n l hl hw) ?_
  by_cases h : (decide (2 ≤ n ∧ n ≤ 40) && planB n l) = true
  · have h' := Bool.and_eq_true_iff.1 h
    have hn := of_decide_eq_true h'.1
    have hg := good_plan h'.2
    simp only [h, if_true, true_and, l1In_eq, Option.bind_some, w64 (show -9223372036854775808 ≤ n - 1 by omega) (by omega), decide_eq_true_eq]
    by_cases hc : 0 ≤ c ∧ c ≤ n - 1
    · simp only [if_pos hc]
      exact Ev.bind (specOutcome_ev hg.1 hg.2 heavy hc.1 (by omega)) (Ev.now _)
    · simp only [if_neg hc]
      exact Ev.now _
  · simp only [h, false_and, if_false]
    exact Ev.now _
theorem implCoinOutcome_ev (n : Int) (l : List (List Int)) (c : Int) (heavy : Bool) (hl : l.length ≤ 1048576) (hw : ∀ x ∈ l, x.length ≤ 1048576) : Ev (fun k => impl_CoinOutcome.f k n l c heavy) (CoinOutcomeR n l c heavy) := by
  unfold impl_CoinOutcome.f CoinOutcomeR
  refine Ev.bind (isPlan_ev n l hl hw) ?_
  by_cases h : (decide (2 ≤ n ∧ n ≤ 40) && planB n l) = true
  · have h' := Bool.and_eq_true_iff.1 h
    have hn := of_decide_eq_true h'.1
    have hg := good_plan h'.2
    simp only [h, if_true, true_and, within_eq, Option.bind_some, w64 (show -9223372036854775808 ≤ n - 1 by omega) (by omega)]
    refine Ev.step (fun k => by rw [impl_CoinOutcome.j0]) ?_
    by_cases hc : 0 ≤ c ∧ c ≤ n - 1
    · simp only [hc, and_self, decide_true, Bool.not_true, Bool.false_eq_true, if_false, if_true]
      cases heavy
      · simp only [Bool.false_eq_true, if_false]
        exact Ev.bind (implOutcome_ev hg.1 hg.2 hc.1 (by omega) (.inr rfl)) (Ev.now _)
      · simp only [if_true]
        exact Ev.bind (implOutcome_ev hg.1 hg.2 hc.1 (by omega) (.inl rfl)) (Ev.now _)
    · simp only [hc, decide_false, Bool.not_false, if_true, if_false]
      exact Ev.now _
  · simp only [h, false_and, if_false]
    refine Ev.step (fun k => by rw [impl_CoinOutcome.j0]) ?_
    simp only [if_true]
    exact Ev.now _
theorem CoinOutcomeR_len (n : Int) (l : List (List Int)) (c : Int) (heavy : Bool) : (CoinOutcomeR n l c heavy).1.length ≤ 1048576 := by
  unfold CoinOutcomeR
  split
  · rename_i h
    have hg := good_plan (Bool.and_eq_true_iff.1 h.1).2
    simp only [colW_len]; omega
  · simp
/-- What a coin gives to an outcome's list. -/
def foundW (l : List (List Int)) (out : List Int) (c : Int) : List (S47) := (if colW l c 1 = out then [⟨c, 1⟩] else []) ++ (if colW l c (-1) = out then [⟨c, -1⟩] else [])
def coinsW (l : List (List Int)) (out : List Int) : Nat → List (S47)
  | 0 => []
  | n + 1 => coinsW l out n ++ foundW l out n
theorem coinsW_len (l : List (List Int)) (out : List Int) : ∀ n, (coinsW l out n).length ≤ 2 * n
  | 0 => Nat.le_refl _
  | n + 1 => by
    have := coinsW_len l out n
    rw [coinsW, List.length_append]
    have h : (foundW l out n).length ≤ 2 := by
      unfold foundW
      rw [List.length_append]
      split <;> split <;> simp
    omega
open Classical in
noncomputable def CoinsWithR (n : Int) (l : List (List Int)) (out : List Int) : List (S47) × Bool := if (decide (2 ≤ n ∧ n ≤ 40) && planB n l) = true ∧ (out.length : Int) = l.length ∧ (∀ j, 0 ≤ j → j < (out.length : Int) → SignAt out j) then (coinsW l out n.toNat, true) else ([], false)
theorem CoinsWithR_len (n : Int) (l : List (List Int)) (out : List Int) : (CoinsWithR n l out).1.length ≤ 80 := by
  unfold CoinsWithR
  split
  · rename_i h
    have h2 := of_decide_eq_true (Bool.and_eq_true_iff.1 h.1).1
    have := coinsW_len l out n.toNat
    show (coinsW l out n.toNat).length ≤ 80
    omega
  · simp
theorem specCoinsWith_ev (n : Int) (l : List (List Int)) (out : List Int) (hl : l.length ≤ 1048576) (hw : ∀ x ∈ l, x.length ≤ 1048576) (ho : out.length ≤ 1048576) : Ev (fun k => spec_CoinsWith.f k n l out) (CoinsWithR n l out) := by
  unfold spec_CoinsWith.f CoinsWithR
  simp only [Option.bind_some]
  refine Ev.bind (l3Good_ev n l hl hw) ?_
  by_cases h : (decide (2 ≤ n ∧ n ≤ 40) && planB n l) = true
  · have h' := Bool.and_eq_true_iff.1 h
    have hn := of_decide_eq_true h'.1
    have hg := good_plan h'.2
    simp only [h, if_true, true_and]
    refine Ev.bind (l3Signs_ev out l.length (by omega)) ?_
    refine Ev.step (fun k => by rw [spec_CoinsWith.j0]) ?_
    by_cases hs : ∀ j, 0 ≤ j → j < (out.length : Int) → SignAt out j
    · rw [if_pos hs]
      by_cases hL : (out.length : Int) = l.length
      · rw [if_pos ⟨h, hL, hs⟩]
        simp only [hL, beq_self_eq_true, Bool.not_true, Bool.false_eq_true, if_false]
        have hf := Ev.upto (l := fun k o i => spec_CoinsWith.l0 k n l out o i) (n := n) (fun i => coinsW l out i.toNat) (a := (coinsW l out n.toNat, true)) (by omega)
          (fun i h0 h1 r h => by
            have hlen := coinsW_len l out i.toNat
            have hx : (coinsW l out i.toNat).length < 8796093022208 := by omega
            have e2 : coinsW l out (i + 1).toNat = coinsW l out i.toNat ++ foundW l out i := by
              rw [toNat_succ h0, coinsW, Int.toNat_of_nonneg h0]
            rw [e2] at h
            refine Ev.step (fun k => by rw [spec_CoinsWith.l0]) ?_
            simp only [if_pos h1]
            refine Ev.bind (specOutcome_ev hg.1 hg.2 true h0 h1) (Ev.bind (l1Same_ev _ _ (by rw [colW_len]; omega)) ?_)
            simp only [sgnOf, if_true, decide_eq_true_eq]
            unfold foundW at h
            by_cases e1 : colW l i 1 = out
            · simp only [if_pos e1, if_pos hx] at h ⊢
              refine Ev.step (fun k => by rw [spec_CoinsWith.j2]) ?_
              refine Ev.bind (specOutcome_ev hg.1 hg.2 false h0 h1) (Ev.bind (l1Same_ev _ _ (by rw [colW_len]; omega)) ?_)
              simp only [sgnOf, Bool.false_eq_true, if_false, decide_eq_true_eq]
              by_cases e3 : colW l i (-1) = out
              · simp only [if_pos e3, if_pos (show (coinsW l out i.toNat ++ [(⟨i, 1⟩ : S47)]).length < 8796093022208 by rw [List.length_append, List.length_singleton]; omega), w64 (show -9223372036854775808 ≤ i + 1 by omega) (by omega)] at h ⊢
                simpa [List.append_assoc] using h
              · simp only [if_neg e3, w64 (show -9223372036854775808 ≤ i + 1 by omega) (by omega)] at h ⊢
                simpa using h
            · simp only [if_neg e1] at h ⊢
              refine Ev.step (fun k => by rw [spec_CoinsWith.j2]) ?_
              refine Ev.bind (specOutcome_ev hg.1 hg.2 false h0 h1) (Ev.bind (l1Same_ev _ _ (by rw [colW_len]; omega)) ?_)
              simp only [sgnOf, Bool.false_eq_true, if_false, decide_eq_true_eq]
              by_cases e3 : colW l i (-1) = out
              · simp only [if_pos e3, if_pos hx, w64 (show -9223372036854775808 ≤ i + 1 by omega) (by omega)] at h ⊢
                simpa using h
              · simp only [if_neg e3, w64 (show -9223372036854775808 ≤ i + 1 by omega) (by omega)] at h ⊢
                simpa using h)
          (by
            refine Ev.step (fun k => by rw [spec_CoinsWith.l0]) ?_
            simp only [if_neg (show ¬ n < n by omega)]
            exact Ev.now _)
        exact hf
      · rw [if_neg (fun e => hL e.2.1)]
        have : ((out.length : Int) == (l.length : Int)) = false := beq_eq_false_iff_ne.2 hL
        simp only [this, Bool.not_false, if_true]
        exact Ev.now _
    · rw [if_neg hs, if_neg (fun e => hs e.2.2)]
      simp only [Bool.not_false, if_true]
      exact Ev.now _
  · rw [if_neg (fun e => h e.1)]
    simp only [Bool.eq_false_iff.2 h, Bool.false_eq_true, if_false]
    refine Ev.step (fun k => by rw [spec_CoinsWith.j0]) ?_
    simp only [if_true]
    exact Ev.now _
theorem any_bad (out : List Int) : out.any signBad = false ↔ ∀ j, 0 ≤ j → j < (out.length : Int) → SignAt out j := by
  rw [List.any_eq_false]
  constructor
  · intro h j h0 h1
    have hm : out[j.toNat]'(by omega) ∈ out := List.getElem_mem _
    have := h _ hm
    unfold signBad at this
    have e : rd out j = out[j.toNat]'(by omega) := by
      unfold rd
      exact getD_lt _ (show j.toNat < out.length by omega)
    unfold SignAt
    rw [e]
    simpa using this
  · intro h x hx
    obtain ⟨j, hj, rfl⟩ := List.getElem_of_mem hx
    have := h (j : Int) (by omega) (by omega)
    unfold SignAt at this
    have e : rd out (j : Int) = out[j] := by
      unfold rd
      exact getD_lt _ (show (j : Int).toNat < out.length by omega)
    rw [e] at this
    unfold signBad
    simpa using this
theorem implCoinsWith_in {n : Int} {l : List (List Int)} (out : List Int) (ho : out.length ≤ 1048576) (hl : l.length ≤ 5) (hp : ∀ i, 0 ≤ i → i < (l.length : Int) → PlanAt n (rd_L2 l i)) (hn : n ≤ 40) (o : List (S47)) (hx : o.length ≤ 1048576) (i : Int) (h0 : 0 ≤ i) (h1 : i < n) {r : List (S47) × Bool}
    (h : Ev (fun k => impl_CoinsWith.l0 k l out (o ++ foundW l out i) n (i + 1)) r) : Ev (fun k => impl_CoinsWith.l1 k l out o i 1 n i) r := by
  refine Ev.step (fun k => by rw [impl_CoinsWith.l1]) ?_
  simp only [if_pos (show (1 : Int) ≥ -1 by omega)]
  refine Ev.bind (implOutcome_ev hl hp h0 h1 (.inl rfl)) (Ev.bind (slEq_ev _ _ (by rw [colW_len]; omega)) ?_)
  unfold foundW at h
  have ew : wrap64 ((1 : Int) - 2) = -1 := w64 (by omega) (by omega)
  have ew2 : wrap64 ((-1 : Int) - 2) = -3 := w64 (by omega) (by omega)
  have hend : ∀ o2, Ev (fun k => impl_CoinsWith.l0 k l out o2 n (i + 1)) r → Ev (fun k => impl_CoinsWith.l1 k l out o2 i (-3) n i) r := fun o2 h => by
    refine Ev.step (fun k => by rw [impl_CoinsWith.l1]) ?_
    simp only [if_neg (show ¬ (-3 : Int) ≥ -1 by omega), w64 (show -9223372036854775808 ≤ i + 1 by omega) (by omega)]
    exact h
  have hmid : ∀ o2 : List (S47), o2.length < 8796093022208 → Ev (fun k => impl_CoinsWith.l0 k l out (o2 ++ (if colW l i (-1) = out then [⟨i, -1⟩] else [])) n (i + 1)) r → Ev (fun k => impl_CoinsWith.l1 k l out o2 i (-1) n i) r := fun o2 h2 h => by
    refine Ev.step (fun k => by rw [impl_CoinsWith.l1]) ?_
    simp only [if_pos (show (-1 : Int) ≥ -1 by omega)]
    refine Ev.bind (implOutcome_ev hl hp h0 h1 (.inr rfl)) (Ev.bind (slEq_ev _ _ (by rw [colW_len]; omega)) ?_)
    simp only [decide_eq_true_eq]
    by_cases e3 : colW l i (-1) = out
    · simp only [if_pos e3, if_pos h2, ew2] at h ⊢
      exact hend _ h
    · simp only [if_neg e3, ew2, List.append_nil] at h ⊢
      exact hend _ h
  simp only [decide_eq_true_eq]
  rw [← List.append_assoc] at h
  by_cases e1 : colW l i 1 = out
  · simp only [if_pos e1, if_pos (show o.length < 8796093022208 by omega), ew] at h ⊢
    exact hmid _ (by rw [List.length_append, List.length_singleton]; omega) h
  · simp only [if_neg e1, ew, List.append_nil] at h ⊢
    exact hmid _ (by omega) h
theorem implCoinsWith_ev (n : Int) (l : List (List Int)) (out : List Int) (hl : l.length ≤ 1048576) (hw : ∀ x ∈ l, x.length ≤ 1048576) (ho : out.length ≤ 1048576) : Ev (fun k => impl_CoinsWith.f k n l out) (CoinsWithR n l out) := by
  unfold impl_CoinsWith.f CoinsWithR
  refine Ev.bind (isPlan_ev n l hl hw) ?_
  by_cases h : (decide (2 ≤ n ∧ n ≤ 40) && planB n l) = true
  · have h' := Bool.and_eq_true_iff.1 h
    have hn := of_decide_eq_true h'.1
    have hg := good_plan h'.2
    simp only [h, if_true, true_and]
    by_cases hL : (out.length : Int) = l.length
    · simp only [if_pos hL]
      unfold slices_ContainsFunc_int_int_60.f
      simp only [if_pos (show out.length ≤ 9223372036854775806 by omega), Option.bind_some]
      refine Ev.step (fun k => by rw [impl_CoinsWith.j0]) ?_
      by_cases hs : ∀ j, 0 ≤ j → j < (out.length : Int) → SignAt out j
      · rw [if_pos ⟨h, hL, hs⟩, (any_bad out).2 hs]
        simp only [Bool.false_eq_true, if_false]
        exact Ev.upto (l := fun k o i => impl_CoinsWith.l0 k l out o n i) (n := n) (fun i => coinsW l out i.toNat) (a := (coinsW l out n.toNat, true)) (by omega)
          (fun i h0 h1 r h => by
            have hlen := coinsW_len l out i.toNat
            have e2 : coinsW l out (i + 1).toNat = coinsW l out i.toNat ++ foundW l out i := by
              rw [toNat_succ h0, coinsW, Int.toNat_of_nonneg h0]
            rw [e2] at h
            refine Ev.step (fun k => by rw [impl_CoinsWith.l0]) ?_
            simp only [if_pos h1]
            exact implCoinsWith_in out ho hg.1 hg.2 hn.2 _ (by omega) i h0 h1 h)
          (by
            refine Ev.step (fun k => by rw [impl_CoinsWith.l0]) ?_
            simp only [if_neg (show ¬ n < n by omega)]
            exact Ev.now _)
      · rw [if_neg (fun e => hs e.2.2)]
        have : out.any signBad = true := by
          cases hb : out.any signBad
          · exact absurd ((any_bad out).1 hb) hs
          · rfl
        simp only [this, if_true]
        exact Ev.now _
    · simp only [if_neg hL]
      rw [if_neg (fun e => hL e.2.1)]
      refine Ev.step (fun k => by rw [impl_CoinsWith.j0]) ?_
      simp only [if_true]
      exact Ev.now _
  · rw [if_neg (fun e => h e.1)]
    simp only [Bool.eq_false_iff.2 h, Bool.false_eq_true, if_false]
    refine Ev.step (fun k => by rw [impl_CoinsWith.j0]) ?_
    simp only [if_true]
    exact Ev.now _
/-- All lists of signs from low on, in their order. -/
def allL (low : Int) : Nat → List (List Int)
  | 0 => [[]]
  | n + 1 => (impl_eachSigns.upto low).flatMap fun g => (allL low n).map (g :: ·)
def dotW : List Int → List Int → Int
  | x :: kit, g :: y => g * x + dotW kit y
  | _, _ => 0
theorem upto_mem {low g : Int} (h : g ∈ impl_eachSigns.upto low) : -1 ≤ g ∧ g ≤ 1 := by
  unfold impl_eachSigns.upto at h
  split at h
  · simp at h; omega
  · split at h
    · simp at h; omega
    · split at h
      · simp at h; omega
      · simp at h
theorem allL_mem {low : Int} : ∀ {n : Nat} {y : List Int}, y ∈ allL low n → y.length = n ∧ ∀ g ∈ y, -1 ≤ g ∧ g ≤ 1
  | 0, y, h => by
    simp [allL] at h
    subst h
    simp
  | n + 1, y, h => by
    simp only [allL, List.mem_flatMap, List.mem_map] at h
    obtain ⟨g, hg, y2, hy, rfl⟩ := h
    obtain ⟨h1, h2⟩ := allL_mem hy
    refine ⟨by simp [h1], fun z hz => ?_⟩
    rcases List.mem_cons.1 hz with rfl | hz
    · exact upto_mem hg
    · exact h2 z hz
theorem foldlM_flat {σ : Type} (tf : σ → List Int → Int → Option σ) (low : Int) (rest pre : List Int) (sum x : Int) (n : Nat)
    (hG : ∀ g, -1 ≤ g → g ≤ 1 → ∀ s, impl_eachSigns.eachG tf low rest (pre ++ [g]) (wrap64 (sum + wrap64 (g * x))) s = (allL low n).foldlM (fun s y => tf s (pre ++ g :: y) (sum + dotW (x :: rest) (g :: y))) s) :
    ∀ (L : List Int), (∀ g ∈ L, -1 ≤ g ∧ g ≤ 1) → ∀ s, L.foldlM (fun s g => impl_eachSigns.eachG tf low rest (pre ++ [g]) (wrap64 (sum + wrap64 (g * x))) s) s = (L.flatMap fun g => (allL low n).map (g :: ·)).foldlM (fun s y => tf s (pre ++ y) (sum + dotW (x :: rest) y)) s
  | [], _, s => rfl
  | g :: L, hL, s => by
    rw [List.foldlM_cons, List.flatMap_cons, List.foldlM_append, List.foldlM_map, hG g (hL g (List.mem_cons_self)).1 (hL g (List.mem_cons_self)).2 s]
    congr 1
    funext s2
    exact foldlM_flat tf low rest pre sum x n hG L (fun z hz => hL z (List.mem_cons_of_mem _ hz)) s2
theorem eachG_foldM {σ : Type} (tf : σ → List Int → Int → Option σ) (low : Int) (kit : List Int) : ∀ (pre : List Int) (sum : Int) (s : σ), (∀ x ∈ kit, 0 ≤ x ∧ x ≤ 99) → -1000000 + 99 * (kit.length : Int) ≤ sum → sum ≤ 1000000 - 99 * (kit.length : Int) →
    impl_eachSigns.eachG tf low kit pre sum s = (allL low kit.length).foldlM (fun s y => tf s (pre ++ y) (sum + dotW kit y)) s := by
  induction kit with
  | nil =>
    intro pre sum s _ _ _
    simp only [impl_eachSigns.eachG, allL, List.length_nil, List.foldlM_cons, List.foldlM_nil, List.append_nil, dotW, Int.add_zero]
    cases tf s pre sum <;> rfl
  | cons x kit ih =>
    intro pre sum s hk h0 h1
    rw [List.length_cons] at h0 h1
    have hx := hk x (List.mem_cons_self)
    have hk2 : ∀ z ∈ kit, 0 ≤ z ∧ z ≤ 99 := fun z hz => hk z (List.mem_cons_of_mem _ hz)
    rw [impl_eachSigns.eachG, List.length_cons, allL]
    refine foldlM_flat tf low kit pre sum x kit.length (fun g g0 g1 s => ?_) _ (fun g hg => upto_mem hg) s
    have hgx : -99 ≤ g * x ∧ g * x ≤ 99 := by
      rcases (show g = -1 ∨ g = 0 ∨ g = 1 by omega) with rfl | rfl | rfl <;> omega
    rw [w64 (show -9223372036854775808 ≤ g * x by omega) (by omega), w64 (show -9223372036854775808 ≤ sum + g * x by omega) (by omega)]
    rw [ih (pre ++ [g]) (sum + g * x) s hk2 (by omega) (by omega)]
    congr 1
    funext s2 y
    rw [List.append_assoc, List.singleton_append]
    congr 1
    show sum + g * x + dotW kit y = sum + (g * x + dotW kit y)
    omega

def ext3 (x : List Int) : List (List Int) := [x ++ [-1], x ++ [0], x ++ [1]]
def allS : Nat → List (List Int)
  | 0 => [[]]
  | n + 1 => (allS n).flatMap ext3
theorem allL_ext : ∀ n, allL (-1) (n + 1) = (allL (-1) n).flatMap ext3
  | 0 => rfl
  | n + 1 => by
    have ih := allL_ext n
    show ((impl_eachSigns.upto (-1)).flatMap fun g => (allL (-1) (n + 1)).map (g :: ·)) = ((impl_eachSigns.upto (-1)).flatMap fun g => (allL (-1) n).map (g :: ·)).flatMap ext3
    rw [List.flatMap_assoc]
    congr 1
    funext g
    rw [ih, List.map_flatMap, List.flatMap_map]
    rfl
theorem allS_eq : ∀ n, allS n = allL (-1) n
  | 0 => rfl
  | n + 1 => by rw [allS, allS_eq n, allL_ext]
theorem allS_len : ∀ n, (allS n).length = 3 ^ n
  | 0 => rfl
  | n + 1 => by
    have : ∀ l : List (List Int), (l.flatMap ext3).length = 3 * l.length := by
      intro l
      induction l with
      | nil => rfl
      | cons a l ih => rw [List.flatMap_cons, List.length_append, ih, List.length_cons, ext3]; simp; omega
    rw [allS, this, allS_len n, Nat.pow_succ, Nat.mul_comm]
theorem allS_row {n : Nat} {y : List Int} (h : y ∈ allS n) : y.length = n ∧ ∀ g ∈ y, -1 ≤ g ∧ g ≤ 1 := allL_mem (allS_eq n ▸ h)
theorem l1Own_eq (l : List Int) (h : l.length < 17592186044416) : spec_l1Own.f l = some l := by
  unfold spec_l1Own.f
  simp only [Option.bind_some, List.length_nil, Nat.zero_add, if_pos h, List.nil_append]
theorem l3All_row (n i : Int) (X : List (List Int)) (hX : X.length ≤ 729) (hr : ∀ x ∈ X, x.length ≤ 6) (hn : n ≤ 6) (hi : 0 ≤ i) (hi2 : i < n) {r : List (List Int)} : ∀ (d j : Nat) (o : List (List Int)), j + d = X.length → o.length = 3 * j →
    Ev (fun k => spec_l3All.l0 k n (o ++ (X.drop j).flatMap ext3) (i + 1)) r → Ev (fun k => spec_l3All.l1 k n X i o (j : Int)) r := by
  intro d
  induction d with
  | zero =>
    intro j o h ho h2
    refine Ev.step (fun k => by rw [spec_l3All.l1]) ?_
    simp only [if_neg (show ¬ (j : Int) < (X.length : Int) by omega), w64 (show -9223372036854775808 ≤ i + 1 by omega) (by omega)]
    rw [List.drop_eq_nil_of_le (by omega), List.flatMap_nil, List.append_nil] at h2
    exact h2
  | succ d ih =>
    intro j o h ho h2
    have hj : j < X.length := by omega
    have hrow : (X[j]).length ≤ 6 := hr _ (List.getElem_mem hj)
    have er : rd_L2 X (j : Int) = X[j] := by
      unfold rd_L2
      rw [Int.toNat_natCast]
      exact getD_lt _ hj
    have c1 : (j : Int) < (X.length : Int) := by omega
    have ew : wrap64 ((j : Int) + 1) = ((j + 1 : Nat) : Int) := by rw [w64 (by omega) (by omega)]; omega
    refine Ev.step (fun k => by rw [spec_l3All.l1]) ?_
    simp only [if_pos c1]
    have one : ∀ (g : Int) (o2 : List (List Int)), -1 ≤ g → g ≤ 1 → o2.length ≤ 3000 → Ev (fun k => spec_l3All.l2 k n X i (o2 ++ [X[j] ++ [g]]) (j : Int) (g + 1)) r → Ev (fun k => spec_l3All.l2 k n X i o2 (j : Int) g) r := by
      intro g o2 g0 g1 h2 h3
      refine Ev.step (fun k => by rw [spec_l3All.l2]) ?_
      simp only [if_pos g1, if_pos (show 0 ≤ (j : Int) by omega), if_pos c1, er, l1Own_eq (X[j]) (by omega), Option.bind_some, if_pos (show (X[j]).length < 17592186044416 by omega), if_pos (show o2.length < 5864062014805 by omega), w64 (show -9223372036854775808 ≤ g + 1 by omega) (by omega)]
      exact h3
    refine one (-1) o (by omega) (by omega) (by omega) ?_
    refine one 0 _ (by omega) (by omega) (by rw [List.length_append, List.length_singleton]; omega) ?_
    refine one 1 _ (by omega) (by omega) (by simp only [List.length_append, List.length_singleton]; omega) ?_
    refine Ev.step (fun k => by rw [spec_l3All.l2]) ?_
    simp only [if_neg (show ¬ ((1 : Int) + 1) ≤ 1 by omega), ew]
    refine ih (j + 1) _ (by omega) (by simp only [List.length_append, List.length_singleton]; omega) ?_
    rw [List.drop_eq_getElem_cons hj, List.flatMap_cons] at h2
    have e : o ++ [X[j] ++ [-1]] ++ [X[j] ++ [0]] ++ [X[j] ++ [1]] ++ (X.drop (j + 1)).flatMap ext3 = o ++ (ext3 X[j] ++ (X.drop (j + 1)).flatMap ext3) := by
      unfold ext3
      simp only [List.append_assoc, List.singleton_append, List.cons_append, List.nil_append]
    rw [e]
    exact h2
theorem l3All_ev (n : Nat) (hn : n ≤ 6) : Ev (fun k => spec_l3All.f k (n : Int)) (allS n) := by
  unfold spec_l3All.f
  have hp : ∀ m : Nat, m ≤ 6 → (3 : Nat) ^ m ≤ 729 := by
    intro m hm
    exact Nat.pow_le_pow_right (by omega) hm
  exact Ev.fold (l := fun k o i => spec_l3All.l0 k (n : Int) o i) (n := (n : Int)) (fun i => allS i.toNat) (a := allS n)
    (fun i h0 h1 r h => by
      refine Ev.step (fun k => by rw [spec_l3All.l0]) ?_
      simp only [if_pos h1]
      refine l3All_row (n : Int) i _ (by rw [allS_len]; exact hp i.toNat (by omega)) (fun x hx => by rw [(allS_row (n := i.toNat) hx).1]; omega) (by omega) h0 h1 (allS i.toNat).length 0 [] (by omega) rfl ?_
      rw [List.drop_zero, List.nil_append]
      rw [toNat_succ h0, allS] at h
      exact h)
    (by
      refine Ev.step (fun k => by rw [spec_l3All.l0]) ?_
      simp only [if_neg (show ¬ (n : Int) < (n : Int) by omega)]
      exact Ev.some (by simp))
    n 0 (by omega) (by omega)

/-- The signs turned over. -/
def turnW (x : List Int) : List Int := x.map fun s => wrap64 (-s)
def addC (codes : List (List Int)) (x : List Int) : List (List Int) := if impl_HeavyPlan.lead x > 0 then codes ++ [x, turnW x] else codes
def allC (n : Int) (m : Nat) : List (List Int) := (allS m).foldl addC (impl_HeavyPlan.start n m)
def need : Nat → Int → Int → Int → Int
  | 0, _, x, _ => x
  | d + 1, n, x, p => if p < n then need d n (x + 1) (p * 3) else x
def needN (n : Int) : Nat := (need 40 n 0 1).toNat
/-- The plan itself. -/
def planH (n : Int) : List (List Int) := impl_HeavyPlan.lines (allC n (needN n)) n.toNat (needN n)
def HeavyR (n : Int) : List (List Int) × Bool := if 2 ≤ n ∧ n ≤ 40 then (planH n, true) else ([], false)
set_option maxRecDepth 100000 in
theorem need_closed0 : ∀ N : Fin 41, 2 ≤ N.val → (0 ≤ need 40 (N.val : Int) 0 1 ∧ 1 ≤ needN (N.val : Int) ∧ needN (N.val : Int) ≤ 4 ∧ N.val ≤ (allC (N.val : Int) (needN (N.val : Int))).length) := by decide +kernel
theorem need_closed {n : Int} (h : 2 ≤ n ∧ n ≤ 40) : need 40 n 0 1 = (needN n : Int) ∧ 1 ≤ needN n ∧ needN n ≤ 4 ∧ n.toNat ≤ (allC n (needN n)).length := by
  obtain ⟨N, rfl⟩ := Int.eq_ofNat_of_zero_le (show 0 ≤ n by omega)
  have z := need_closed0 ⟨N, by omega⟩ (by simp only; omega)
  simp only at z
  refine ⟨?_, z.2.1, z.2.2.1, z.2.2.2⟩
  unfold needN
  omega
theorem needH_ev : ∀ (d : Nat) (n x p : Int), 1 ≤ p → n ≤ 40 → 0 ≤ x → x + d ≤ 100 → n ≤ p + d → Ev (fun k => spec_l3Needed.l0 k n x p) (need d n x p) ∧ Ev (fun k => impl_WeighingsNeeded.l0 k n x p) (need d n x p, true)
  | 0, n, x, p, hp, hn, hx, hx2, hd => by
    refine ⟨Ev.step (fun k => by rw [spec_l3Needed.l0]) ?_, Ev.step (fun k => by rw [impl_WeighingsNeeded.l0]) ?_⟩
    · simp only [if_neg (show ¬ p < n by omega)]; exact Ev.now _
    · simp only [if_neg (show ¬ p < n by omega)]; exact Ev.now _
  | d + 1, n, x, p, hp, hn, hx, hx2, hd => by
    by_cases h : p < n
    · obtain ⟨h1, h2⟩ := needH_ev d n (x + 1) (p * 3) (by omega) hn (by omega) (by omega) (by omega)
      rw [need, if_pos h]
      refine ⟨Ev.step (fun k => by rw [spec_l3Needed.l0]) ?_, Ev.step (fun k => by rw [impl_WeighingsNeeded.l0]) ?_⟩
      · simp only [if_pos h, w64 (show -9223372036854775808 ≤ x + 1 by omega) (by omega), w64 (show -9223372036854775808 ≤ 3 * p by omega) (by omega)]
        rw [Int.mul_comm 3 p]
        exact h1
      · simp only [if_pos h, w64 (show -9223372036854775808 ≤ x + 1 by omega) (by omega), w64 (show -9223372036854775808 ≤ p * 3 by omega) (by omega)]
        exact h2
    · rw [need, if_neg h]
      refine ⟨Ev.step (fun k => by rw [spec_l3Needed.l0]) ?_, Ev.step (fun k => by rw [impl_WeighingsNeeded.l0]) ?_⟩
      · simp only [if_neg h]; exact Ev.now _
      · simp only [if_neg h]; exact Ev.now _
theorem fold_rows {m : Nat} : ∀ (L c : List (List Int)), (∀ y ∈ L, y.length = m) → (∀ y ∈ c, y.length = m) → ∀ y ∈ L.foldl addC c, y.length = m
  | [], c, _, hc => hc
  | x :: L, c, hL, hc => by
    rw [List.foldl_cons]
    refine fold_rows L _ (fun z hz => hL z (List.mem_cons_of_mem _ hz)) ?_
    have hx := hL x (List.mem_cons_self)
    unfold addC
    split
    · intro y hy
      rcases List.mem_append.1 hy with h | h
      · exact hc y h
      · rcases List.mem_cons.1 h with rfl | h
        · exact hx
        · rw [List.mem_singleton.1 h]
          unfold turnW
          rw [List.length_map]
          exact hx
    · exact hc
theorem fold_len : ∀ (L c : List (List Int)), (L.foldl addC c).length ≤ c.length + 2 * L.length
  | [], c => by rw [List.foldl_nil, List.length_nil]; omega
  | x :: L, c => by
    rw [List.foldl_cons, List.length_cons]
    have h := fold_len L (addC c x)
    have h2 : (addC c x).length ≤ c.length + 2 := by
      unfold addC
      split
      · rw [List.length_append]; simp
      · omega
    omega
theorem fold_more : ∀ (L c : List (List Int)), c.length + 2 * L.length < 1000000 → L.foldlM (fun s y => impl_HeavyPlan.more s y) c = some (L.foldl addC c)
  | [], c, _ => rfl
  | x :: L, c, h => by
    rw [List.length_cons] at h
    rw [List.foldlM_cons, List.foldl_cons]
    have e : impl_HeavyPlan.more c x = some (addC c x) := by
      unfold impl_HeavyPlan.more addC turnW
      split
      · rw [if_pos (by omega)]
      · rfl
    have h2 : (addC c x).length ≤ c.length + 2 := by
      unfold addC
      split
      · rw [List.length_append]; simp
      · omega
    rw [e]
    exact fold_more L _ (by omega)
theorem fold_ext : ∀ (L c : List (List Int)), ∃ t, L.foldl addC c = c ++ t
  | [], c => ⟨[], by rw [List.foldl_nil, List.append_nil]⟩
  | x :: L, c => by
    rw [List.foldl_cons]
    obtain ⟨t, ht⟩ := fold_ext L (addC c x)
    rw [ht]
    unfold addC
    split
    · exact ⟨[x, turnW x] ++ t, by rw [List.append_assoc]⟩
    · exact ⟨t, rfl⟩
theorem start_rows (n : Int) (m : Nat) : (impl_HeavyPlan.start n m).length ≤ 1 ∧ ∀ y ∈ impl_HeavyPlan.start n m, y.length = m := by
  unfold impl_HeavyPlan.start
  split
  · refine ⟨by simp, fun y hy => ?_⟩
    rw [List.mem_singleton.1 hy, List.length_replicate]
  · exact ⟨by simp, fun y hy => by cases hy⟩
theorem allC_at {n : Int} (h : 2 ≤ n ∧ n ≤ 40) : (allC n (needN n)).length ≤ 163 ∧ ∀ y ∈ allC n (needN n), y.length = needN n := by
  obtain ⟨_, h1, h2, _⟩ := need_closed h
  obtain ⟨s1, s2⟩ := start_rows n (needN n)
  refine ⟨?_, fold_rows _ _ (fun y hy => (allS_row hy).1) s2⟩
  have h3 := fold_len (allS (needN n)) (impl_HeavyPlan.start n (needN n))
  rw [allS_len] at h3
  have h4 : (3 : Nat) ^ needN n ≤ 3 ^ 4 := Nat.pow_le_pow_right (by omega) h2
  unfold allC
  omega
theorem implHeavy_ev (n : Int) : Ev (fun k => impl_HeavyPlan.f k n) (HeavyR n) := by
  unfold impl_HeavyPlan.f impl_WeighingsNeeded.f impl_areCoins.f HeavyR
  simp only [within_eq, Option.bind_some]
  by_cases h : 2 ≤ n ∧ n ≤ 40
  · obtain ⟨h0, h1, h2, h3⟩ := need_closed h
    obtain ⟨l1, l2⟩ := allC_at h
    simp only [h, decide_true, and_self, if_true]
    refine Ev.bind (needH_ev 40 n 0 1 (by omega) (by omega) (by omega) (by omega) (by omega)).2 ?_
    simp only [if_true, h0, if_pos (Int.natCast_nonneg (needN n)), Int.toNat_natCast]
    have e : impl_HeavyPlan.g n (needN n) = some (planH n, true) := by
      unfold impl_HeavyPlan.g planH
      rw [if_pos (by omega), eachG_foldM _ _ _ [] 0 _ (fun x hx => by rw [List.eq_of_mem_replicate hx]; omega) (by rw [List.length_replicate]; omega) (by rw [List.length_replicate]; omega), List.length_replicate, ← allS_eq]
      simp only [List.nil_append]
      rw [fold_more _ _ (by
        have s1 := (start_rows n (needN n)).1
        have h4 : (3 : Nat) ^ needN n ≤ 3 ^ 4 := Nat.pow_le_pow_right (by omega) h2
        rw [allS_len]; omega)]
      rw [Option.bind_some]
      refine if_pos ⟨by omega, ?_, ?_, ?_⟩
      · show n ≤ ((allC n (needN n)).length : Int)
        omega
      · show (allC n (needN n)).length ≤ 1000002
        omega
      · show (((allC n (needN n)).take n.toNat).all fun c => decide (needN n ≤ c.length)) = true
        rw [List.all_eq_true]
        intro c hc
        exact decide_eq_true (Nat.le_of_eq (l2 c (List.mem_of_mem_take hc)).symm)
    rw [e]
    exact Ev.now _
  · simp only [h, decide_false, Bool.false_eq_true, if_false]
    exact Ev.now _
theorem leads_l0 (row : List Int) (hl : row.length ≤ 100) (hs : ∀ g ∈ row, -1 ≤ g ∧ g ≤ 1) : ∀ (d j : Nat), j + d = row.length → Ev (fun k => spec_l3Leads.l0 k row (j : Int)) (decide (impl_HeavyPlan.lead (row.drop j) > 0)) := by
  intro d
  induction d with
  | zero =>
    intro j h
    refine Ev.step (fun k => by rw [spec_l3Leads.l0]) ?_
    simp only [if_neg (show ¬ (j : Int) < (row.length : Int) by omega)]
    rw [List.drop_eq_nil_of_le (by omega)]
    exact Ev.some rfl
  | succ d ih =>
    intro j h
    have hj : j < row.length := by omega
    have hz := hs _ (List.getElem_mem hj)
    have e1 : rd row (j : Int) = row[j] := by
      unfold rd
      rw [Int.toNat_natCast]
      exact getD_lt _ hj
    have ew : wrap64 ((j : Int) + 1) = ((j + 1 : Nat) : Int) := by rw [w64 (by omega) (by omega)]; omega
    refine Ev.step (fun k => by rw [spec_l3Leads.l0]) ?_
    simp only [if_pos (show (j : Int) < (row.length : Int) by omega), if_pos (show 0 ≤ (j : Int) by omega), e1, ew]
    rw [List.drop_eq_getElem_cons hj, impl_HeavyPlan.lead]
    by_cases c : row[j] = 0
    · simp only [if_pos c]
      exact ih (j + 1) (by omega)
    · simp only [if_neg c]
      refine Ev.some ?_
      rcases (show row[j] = -1 ∨ row[j] = 1 by omega) with e | e <;> rw [e] <;> decide
theorem leads_ev (row : List Int) (hl : row.length ≤ 100) (hs : ∀ g ∈ row, -1 ≤ g ∧ g ≤ 1) : Ev (fun k => spec_l3Leads.f k row) (decide (impl_HeavyPlan.lead row > 0)) := by
  unfold spec_l3Leads.f
  exact leads_l0 row hl hs row.length 0 (by omega)
theorem turned_ev (row : List Int) (hl : row.length ≤ 100) : Ev (fun k => spec_l3Turned.f k row) (turnW row) := by
  unfold spec_l3Turned.f turnW
  have key : ∀ (d j : Nat), j + d = row.length → Ev (fun k => spec_l3Turned.l0 k row ((row.take j).map fun s => wrap64 (-s)) (j : Int)) (row.map fun s => wrap64 (-s)) := by
    intro d
    induction d with
    | zero =>
      intro j h
      refine Ev.step (fun k => by rw [spec_l3Turned.l0]) ?_
      simp only [if_neg (show ¬ (j : Int) < (row.length : Int) by omega)]
      rw [List.take_of_length_le (by omega)]
      exact Ev.now _
    | succ d ih =>
      intro j h
      have hj : j < row.length := by omega
      have e1 : rd row (j : Int) = row[j] := by
        unfold rd
        rw [Int.toNat_natCast]
        exact getD_lt _ hj
      have ew : wrap64 ((j : Int) + 1) = ((j + 1 : Nat) : Int) := by rw [w64 (by omega) (by omega)]; omega
      have hlen : ((row.take j).map fun s => wrap64 (-s)).length < 17592186044416 := by
        rw [List.length_map, List.length_take]; omega
      have hk := ih (j + 1) (by omega)
      rw [List.take_add_one, List.getElem?_eq_getElem hj, List.map_append] at hk
      refine Ev.step (fun k => by rw [spec_l3Turned.l0]) ?_
      simp only [if_pos (show (j : Int) < (row.length : Int) by omega), if_pos (show 0 ≤ (j : Int) by omega), e1, ew, if_pos hlen]
      exact hk
  exact key row.length 0 (by omega)
theorem linesH_len (codes : List (List Int)) (n : Nat) : ∀ j, (impl_HeavyPlan.lines codes n j).length = j
  | 0 => rfl
  | j + 1 => by rw [impl_HeavyPlan.lines, List.length_append, linesH_len codes n j]; rfl
theorem lines_l2 {cf : List (List Int)} {m : Nat} (N : Nat) (hN : N ≤ 40) (hc : N ≤ cf.length) (hr : ∀ y ∈ cf, y.length = m) (hm : m ≤ 4) (j : Nat) (hj : j < m) {o : List (List Int)} (ho : o.length ≤ 100) {r : List (List Int) × Bool} : ∀ (d i : Nat), i + d = N →
    Ev (fun k => spec_HeavyPlan.l1 k (N : Int) (m : Int) cf (o ++ [impl_HeavyPlan.line cf N (j : Int)]) ((j + 1 : Nat) : Int)) r → Ev (fun k => spec_HeavyPlan.l2 k (N : Int) (m : Int) cf o (j : Int) (impl_HeavyPlan.line cf i (j : Int)) (i : Int)) r := by
  intro d
  induction d with
  | zero =>
    intro i h h2
    have ew : wrap64 ((j : Int) + 1) = ((j + 1 : Nat) : Int) := by rw [w64 (by omega) (by omega)]; omega
    refine Ev.step (fun k => by rw [spec_HeavyPlan.l2]) ?_
    simp only [if_neg (show ¬ (i : Int) < (N : Int) by omega), if_pos (show o.length < 5864062014805 by omega), ew]
    rw [show i = N by omega]
    exact h2
  | succ d ih =>
    intro i h h2
    have hi : i < cf.length := by omega
    have er : rd_L2 cf (i : Int) = cf[i] := by
      unfold rd_L2
      rw [Int.toNat_natCast]
      exact getD_lt _ hi
    have el := hr _ (List.getElem_mem hi)
    have ew : wrap64 ((i : Int) + 1) = ((i + 1 : Nat) : Int) := by rw [w64 (by omega) (by omega)]; omega
    have hlen : (impl_HeavyPlan.line cf i (j : Int)).length < 17592186044416 := by
      unfold impl_HeavyPlan.line
      rw [List.length_map, List.length_take]; omega
    have hn : impl_HeavyPlan.line cf (i + 1) (j : Int) = impl_HeavyPlan.line cf i (j : Int) ++ [rd cf[i] (j : Int)] := by
      unfold impl_HeavyPlan.line
      rw [List.take_add_one, List.getElem?_eq_getElem hi, List.map_append]
      rfl
    have hk := ih (i + 1) (by omega) h2
    rw [hn] at hk
    refine Ev.step (fun k => by rw [spec_HeavyPlan.l2]) ?_
    simp only [if_pos (show (i : Int) < (N : Int) by omega), if_pos (show 0 ≤ (i : Int) by omega), if_pos (show (i : Int) < (cf.length : Int) by omega), if_pos (show 0 ≤ (j : Int) by omega), er, if_pos (show (j : Int) < ((cf[i]).length : Int) by omega), if_pos hlen, ew]
    exact hk
theorem lines_l1 {cf : List (List Int)} {m : Nat} (N : Nat) (hN : N ≤ 40) (hc : N ≤ cf.length) (hr : ∀ y ∈ cf, y.length = m) (hm : m ≤ 4) : ∀ (d j : Nat), j + d = m →
    Ev (fun k => spec_HeavyPlan.l1 k (N : Int) (m : Int) cf (impl_HeavyPlan.lines cf N j) (j : Int)) (impl_HeavyPlan.lines cf N m, true) := by
  intro d
  induction d with
  | zero =>
    intro j h
    refine Ev.step (fun k => by rw [spec_HeavyPlan.l1]) ?_
    simp only [if_neg (show ¬ (j : Int) < (m : Int) by omega)]
    rw [show j = m by omega]
    exact Ev.now _
  | succ d ih =>
    intro j h
    refine Ev.step (fun k => by rw [spec_HeavyPlan.l1]) ?_
    simp only [if_pos (show (j : Int) < (m : Int) by omega)]
    exact lines_l2 N hN hc hr hm j (by omega) (by rw [linesH_len]; omega) N 0 (by omega) (ih (j + 1) (by omega))
theorem lines_cut (c t : List (List Int)) (N : Nat) (h : N ≤ c.length) : ∀ j, impl_HeavyPlan.lines (c ++ t) N j = impl_HeavyPlan.lines c N j
  | 0 => rfl
  | j + 1 => by
    rw [impl_HeavyPlan.lines, impl_HeavyPlan.lines, lines_cut c t N h j]
    unfold impl_HeavyPlan.line
    rw [List.take_append_of_le_length h]
theorem specHeavy_l0 (N m : Nat) (hN : N ≤ 40) (hm : m ≤ 4) (L : List (List Int)) (hL : L.length ≤ 729) (hs : ∀ y ∈ L, y.length = m ∧ ∀ g ∈ y, -1 ≤ g ∧ g ≤ 1) : ∀ (d j : Nat) (c : List (List Int)), j + d = L.length → c.length ≤ 1 + 2 * j → (∀ y ∈ c, y.length = m) → N ≤ ((L.drop j).foldl addC c).length →
    Ev (fun k => spec_HeavyPlan.l0 k (N : Int) (m : Int) c L (j : Int)) (impl_HeavyPlan.lines ((L.drop j).foldl addC c) N m, true) := by
  intro d
  induction d with
  | zero =>
    intro j c h hc hr hf
    rw [List.drop_eq_nil_of_le (by omega), List.foldl_nil] at hf ⊢
    refine Ev.step (fun k => by rw [spec_HeavyPlan.l0]) ?_
    simp only [if_neg (show ¬ (j : Int) < (L.length : Int) by omega)]
    refine Ev.step (fun k => by rw [spec_HeavyPlan.j2]) ?_
    simp only [Bool.false_eq_true, if_false]
    exact lines_l1 N hN hf hr hm m 0 (by omega)
  | succ d ih =>
    intro j c h hc hr hf
    have hj : j < L.length := by omega
    have er : rd_L2 L (j : Int) = L[j] := by
      unfold rd_L2
      rw [Int.toNat_natCast]
      exact getD_lt _ hj
    obtain ⟨hy, hg⟩ := hs _ (List.getElem_mem hj)
    have ew : wrap64 ((j : Int) + 1) = ((j + 1 : Nat) : Int) := by rw [w64 (by omega) (by omega)]; omega
    refine Ev.step (fun k => by rw [spec_HeavyPlan.l0]) ?_
    simp only [if_pos (show (j : Int) < (L.length : Int) by omega)]
    refine Ev.step (fun k => by rw [spec_HeavyPlan.j2]) ?_
    by_cases hlt : c.length < N
    · simp only [decide_eq_true (show (c.length : Int) < (N : Int) by omega), if_true, if_pos (show (j : Int) < (L.length : Int) by omega), if_pos (show 0 ≤ (j : Int) by omega), er, ew]
      refine Ev.bind (leads_ev L[j] (by omega) hg) ?_
      rw [List.drop_eq_getElem_cons hj, List.foldl_cons] at hf ⊢
      by_cases hl : impl_HeavyPlan.lead L[j] > 0
      · simp only [decide_eq_true hl, if_true]
        refine Ev.bind (turned_ev L[j] (by omega)) ?_
        have ea : addC c L[j] = c ++ [L[j], turnW L[j]] := by unfold addC; rw [if_pos hl]
        rw [ea] at hf ⊢
        simp only [Option.bind_some, List.length_cons, List.length_nil, if_pos (show c.length + (0 + 1 + 1) < 5864062014805 by omega)]
        refine ih (j + 1) _ (by omega) (by rw [List.length_append]; simp only [List.length_cons, List.length_nil]; omega) (fun y hy2 => ?_) hf
        rcases List.mem_append.1 hy2 with h3 | h3
        · exact hr y h3
        · rcases List.mem_cons.1 h3 with rfl | h3
          · exact hy
          · rw [List.mem_singleton.1 h3]
            unfold turnW
            rw [List.length_map]
            exact hy
      · simp only [decide_eq_false hl, Bool.false_eq_true, if_false]
        have ea : addC c L[j] = c := by unfold addC; rw [if_neg hl]
        rw [ea] at hf ⊢
        exact ih (j + 1) _ (by omega) (by omega) hr hf
    · simp only [decide_eq_false (show ¬ (c.length : Int) < (N : Int) by omega), Bool.false_eq_true, if_false]
      obtain ⟨t, ht⟩ := fold_ext (L.drop j) c
      rw [ht, lines_cut c t N (by omega)]
      exact lines_l1 N hN (by omega) hr hm m 0 (by omega)
theorem specHeavy_ev (n : Int) : Ev (fun k => spec_HeavyPlan.f k n) (HeavyR n) := by
  unfold spec_HeavyPlan.f spec_l3Coins.f HeavyR
  simp only [l1In_eq, Option.bind_some]
  by_cases h : 2 ≤ n ∧ n ≤ 40
  · obtain ⟨h0, h1, h2, h3⟩ := need_closed h
    obtain ⟨s1, s2⟩ := start_rows n (needN n)
    simp only [h, decide_true, and_self, if_true]
    have hn : Ev (fun k => spec_l3Needed.f k n) ((needN n : Nat) : Int) := by
      unfold spec_l3Needed.f
      rw [← h0]
      exact (needH_ev 40 n 0 1 (by omega) (by omega) (by omega) (by omega) (by omega)).1
    refine Ev.bind hn ?_
    have fin : Ev (fun k => spec_HeavyPlan.j0 k n ((needN n : Nat) : Int) (impl_HeavyPlan.start n (needN n))) (planH n, true) := by
      refine Ev.step (fun k => by rw [spec_HeavyPlan.j0]) ?_
      refine Ev.bind (l3All_ev (needN n) (by omega)) ?_
      have h4 : (3 : Nat) ^ needN n ≤ 3 ^ 4 := Nat.pow_le_pow_right (by omega) h2
      have z := specHeavy_l0 n.toNat (needN n) (by omega) h2 (allS (needN n)) (by rw [allS_len]; omega) (fun y hy => allS_row hy) (allS (needN n)).length 0 (impl_HeavyPlan.start n (needN n)) (by omega) (by omega) s2 (by rw [List.drop_zero]; exact h3)
      rw [List.drop_zero, show ((n.toNat : Nat) : Int) = n by omega] at z
      exact z
    unfold impl_HeavyPlan.start at fin
    by_cases c : Int.tmod n 2 = 1
    · rw [if_pos c] at fin
      simp only [if_pos c, if_pos (Int.natCast_nonneg (needN n)), Int.toNat_natCast, if_pos (show needN n ≤ 35184372088832 by omega), Option.bind_some, List.length_nil, List.nil_append, if_pos (show 0 < 5864062014805 by omega)]
      exact fin
    · rw [if_neg c] at fin
      simp only [if_neg c, Option.bind_some]
      exact fin
  · simp only [h, decide_false, Bool.false_eq_true, if_false]
    exact Ev.now _
theorem lines_rows (c : List (List Int)) (N : Nat) : ∀ j, ∀ y ∈ impl_HeavyPlan.lines c N j, y.length ≤ N
  | 0, y, hy => by cases hy
  | j + 1, y, hy => by
    rw [impl_HeavyPlan.lines] at hy
    rcases List.mem_append.1 hy with h | h
    · exact lines_rows c N j y h
    · rw [List.mem_singleton.1 h]
      unfold impl_HeavyPlan.line
      rw [List.length_map, List.length_take]
      omega
theorem HeavyR_at (n : Int) : (HeavyR n).1.length ≤ 4 ∧ ∀ y ∈ (HeavyR n).1, y.length ≤ 40 := by
  unfold HeavyR
  by_cases h : 2 ≤ n ∧ n ≤ 40
  · rw [if_pos h]
    obtain ⟨h0, h1, h2, h3⟩ := need_closed h
    refine ⟨?_, fun y hy => ?_⟩
    · show (planH n).length ≤ 4
      unfold planH
      rw [linesH_len]
      exact h2
    · have := lines_rows _ _ _ y hy
      omega
  · rw [if_neg h]
    exact ⟨by simp, fun y hy => by cases hy⟩

/-- The bytes that a reader of draws reads. -/
def Code8 (c : List Int) : Prop := (∀ x ∈ c, 0 ≤ x ∧ x ≤ 255) ∧ c.length ≤ 140737488351232
theorem code8 {c : List Int} (h1 : c.length * 1 ≤ 140737488351232) (h2 : ∀ x ∈ c, (Lit.int .u8 x).wf = true) : Code8 c := by
  refine ⟨fun x hx => ?_, by omega⟩
  have h := h2 x hx
  simp [Lit.wf, IntKind.min, IntKind.max, IntKind.signed, IntKind.bits] at h
  omega
theorem and255 (x : Int) (h0 : 0 ≤ x) (h1 : x < 18446744073709551616) : 0 ≤ Go.bits .and .u64 x 255 ∧ Go.bits .and .u64 x 255 ≤ 255 := by
  have := Go.bits_mask .u64 64 (by decide) (fun n g0 g1 => by rw [IntKind.wrap_u64]; omega) 8 (by decide) x h0 h1
  rw [show ((2 : Int) ^ 8 - 1) = 255 by decide, show ((2 : Int) ^ 8) = 256 by decide] at this
  rw [this]
  omega
theorem u64_range (x : Int) : 0 ≤ IntKind.u64.wrap x ∧ IntKind.u64.wrap x < 18446744073709551616 := by
  rw [IntKind.wrap_u64]
  omega
theorem seedByte (x : Int) : 0 ≤ wrap64 (Go.bits .and .u64 (IntKind.u64.wrap x / 1099511627776) 255) ∧ wrap64 (Go.bits .and .u64 (IntKind.u64.wrap x / 1099511627776) 255) ≤ 255 := by
  have h := u64_range x
  have h2 := and255 (IntKind.u64.wrap x / 1099511627776) (by omega) (by omega)
  rw [w64 (by omega) (by omega)]
  exact h2
theorem next_ok {c : List Int} (hc : Code8 c) {p : Int} (s : Int) (h0 : 0 ≤ p) (h1 : p ≤ 4611686018427387904) : ∃ b s', spec_l1Cur_next.f c p s = some (b, p + 1, s') ∧ 0 ≤ b ∧ b ≤ 255 := by
  unfold spec_l1Cur_next.f
  rw [w64 (show -9223372036854775808 ≤ p + 1 by omega) (by omega)]
  by_cases h : p < (c.length : Int)
  · have hb := hc.1 _ (rd_mem h0 h)
    have e : wrap64 (rd c p) = rd c p := w64 (by omega) (by omega)
    simp only [if_pos h, if_pos h0, e]
    split
    · exact ⟨_, _, rfl, hb⟩
    · exact ⟨_, _, rfl, seedByte _⟩
  · simp only [if_neg h]
    split
    · exact ⟨_, _, rfl, by omega, by omega⟩
    · exact ⟨_, _, rfl, seedByte _⟩
theorem tmod_in {x n : Int} (h0 : 0 ≤ x) (h1 : 1 ≤ n) : 0 ≤ Int.tmod x n ∧ Int.tmod x n < n := by
  rw [Int.tmod_eq_emod_of_nonneg h0]
  exact ⟨Int.emod_nonneg _ (by omega), Int.emod_lt_of_pos _ (by omega)⟩
theorem pick_ok {c : List Int} (hc : Code8 c) {p : Int} (s n : Int) (h0 : 0 ≤ p) (h1 : p ≤ 4611686018427387000) : ∃ x p' s', spec_l1Cur_pick.f c p s n = some (x, p', s') ∧ (p ≤ p' ∧ p' ≤ p + 2) ∧ 0 ≤ x ∧ (1 ≤ n → x < n) := by
  unfold spec_l1Cur_pick.f
  by_cases hn : n ≤ 1
  · rw [if_pos hn]
    exact ⟨_, _, _, rfl, by omega, by omega, by omega⟩
  · rw [if_neg hn]
    obtain ⟨b, s1, e1, b0, b1⟩ := next_ok hc s h0 (by omega)
    rw [e1, Option.bind_some]
    by_cases h2 : n > 200
    · obtain ⟨d, s2, e2, d0, d1⟩ := next_ok hc s1 (show 0 ≤ p + 1 by omega) (by omega)
      simp only [if_pos h2, e2, Option.bind_some, if_neg (show ¬ n = 0 by omega)]
      rw [w64 (show -9223372036854775808 ≤ b * 256 by omega) (by omega), w64 (show -9223372036854775808 ≤ b * 256 + d by omega) (by omega)]
      have := tmod_in (show 0 ≤ b * 256 + d by omega) (show 1 ≤ n by omega)
      exact ⟨_, _, _, rfl, by omega, this.1, fun _ => this.2⟩
    · simp only [if_neg h2, if_neg (show ¬ n = 0 by omega)]
      have := tmod_in b0 (show 1 ≤ n by omega)
      exact ⟨_, _, _, rfl, by omega, this.1, fun _ => this.2⟩

theorem among_ok {c : List Int} (hc : Code8 c) {p : Int} (s : Int) (l : List Int) (h0 : 0 ≤ p) (h1 : p ≤ 4611686018427387000) (hl : 1 ≤ l.length) : ∃ x p' s', spec_l1Cur_among.f c p s l = some (x, p', s') ∧ (p ≤ p' ∧ p' ≤ p + 2) ∧ x ∈ l := by
  unfold spec_l1Cur_among.f
  obtain ⟨x, p', s', e, hp, x0, x1⟩ := pick_ok hc s (l.length : Int) h0 h1
  have x1' := x1 (by omega)
  simp only [e, Option.bind_some, if_pos x0, if_pos x1']
  exact ⟨_, _, _, rfl, hp, rd_mem x0 x1'⟩
theorem one_ok {c : List Int} (hc : Code8 c) {p : Int} (s n : Int) (h0 : 0 ≤ p) (h1 : p ≤ 4611686018427387000) : ∃ x p' s', spec_l1Cur_one.f c p s n = some (x, p', s') ∧ (p ≤ p' ∧ p' ≤ p + 2) := by
  unfold spec_l1Cur_one.f
  obtain ⟨x, p', s', e, hp, x0, x1⟩ := pick_ok hc s n h0 h1
  simp only [e, Option.bind_some]
  exact ⟨_, _, _, rfl, hp⟩

theorem coins3_ok {c : List Int} (hc : Code8 c) {p : Int} (s : Int) (h0 : 0 ≤ p) (h1 : p ≤ 4611686018427380000) : ∃ n p' s', spec_l1Cur_coins3.f c p s = some (n, p', s') ∧ (p ≤ p' ∧ p' ≤ p + 4) ∧ -1 ≤ n ∧ n ≤ 41 := by
  unfold spec_l1Cur_coins3.f
  obtain ⟨x, p1, s1, e1, hp1, x0, x1⟩ := pick_ok hc s 24 h0 (by omega)
  have x1' := x1 (by omega)
  simp only [e1, Option.bind_some, if_pos (show 0 ≤ x ∧ x ≤ 23 by omega)]
  obtain ⟨n, p2, s2, e2, hp2, hn⟩ := among_ok hc s1 (spec_l1Cur_coins3.list x) (show 0 ≤ p1 by omega) (by omega) (by
    unfold spec_l1Cur_coins3.list
    rw [List.length_take]
    simp only [List.length_cons, List.length_nil]
    omega)
  refine ⟨n, p2, s2, e2, by omega, ?_⟩
  unfold spec_l1Cur_coins3.list at hn
  have hm := List.mem_of_mem_take hn
  simp at hm
  omega
/-- One row of a drawn plan. -/
theorem row3_ok {c : List Int} (hc : Code8 c) (n : Int) (hn : 2 ≤ n ∧ n ≤ 40) (o : List (List Int)) (x7 : Int) : ∀ (d : Nat) (y : List Int) (p s : Int), d ≤ 100 → (y.length : Int) = n → 0 ≤ p → p ≤ 4611686018427380000 - 4 * d → ∃ y' p' s', (y'.length : Int) = n ∧ p ≤ p' ∧ p' ≤ p + 4 * d ∧
    ∀ r, Ev (fun k => if o.length < 5864062014805 then spec_l1Cur_plan3.l0 k n (o ++ [y']) (wrap64 (x7 - 1)) c p' s' else none) r → Ev (fun k => spec_l1Cur_plan3.l1 k n o x7 y (d : Int) c p s) r := by
  intro d
  induction d with
  | zero =>
    intro y p s _ hy h0 h1
    refine ⟨y, p, s, hy, by omega, by omega, fun r h => Ev.step (fun k => by rw [spec_l1Cur_plan3.l1]) ?_⟩
    simp only [if_neg (show ¬ ((0 : Nat) : Int) > 0 by omega)]
    exact h
  | succ d ih =>
    intro y p s hd hy h0 h1
    obtain ⟨a, p1, s1, e1, hp1, a0, a1⟩ := pick_ok hc s n h0 (by omega)
    obtain ⟨b, p2, s2, e2, hp2, b0, b1⟩ := pick_ok hc s1 n (show 0 ≤ p1 by omega) (by omega)
    have a1' := a1 (by omega)
    have b1' := b1 (by omega)
    have ew : wrap64 (((d + 1 : Nat) : Int) - 1) = (d : Int) := by rw [w64 (by omega) (by omega)]; omega
    have same : ∃ y' p' s', (y'.length : Int) = n ∧ p ≤ p' ∧ p' ≤ p + 4 * ((d + 1 : Nat) : Int) ∧ ∀ r, Ev (fun k => if o.length < 5864062014805 then spec_l1Cur_plan3.l0 k n (o ++ [y']) (wrap64 (x7 - 1)) c p' s' else none) r → Ev (fun k => spec_l1Cur_plan3.l1 k n o x7 y (d : Int) c p2 s2) r := by
      obtain ⟨y', p', s', h2, h3, h4, h5⟩ := ih y p2 s2 (by omega) hy (by omega) (by omega)
      exact ⟨y', p', s', h2, by omega, by omega, h5⟩
    by_cases c1 : rd y a = 0
    · by_cases c2 : rd y b = 0
      · by_cases c3 : a = b
        · obtain ⟨y', p', s', h2, h3, h4, h5⟩ := same
          refine ⟨y', p', s', h2, h3, h4, fun r h => Ev.step (fun k => by rw [spec_l1Cur_plan3.l1]) ?_⟩
          simp only [if_pos (show ((d + 1 : Nat) : Int) > 0 by omega), e1, e2, Option.bind_some, if_pos a0, if_pos (show a < (y.length : Int) by omega), if_pos c1, if_pos b0, if_pos (show b < (y.length : Int) by omega), if_pos c2, if_pos c3, ew]
          exact h5 r h
        · obtain ⟨y', p', s', h2, h3, h4, h5⟩ := ih ((y.set a.toNat 1).set b.toNat (-1)) p2 s2 (by omega) (by rw [List.length_set, List.length_set]; exact hy) (by omega) (by omega)
          refine ⟨y', p', s', h2, by omega, by omega, fun r h => Ev.step (fun k => by rw [spec_l1Cur_plan3.l1]) ?_⟩
          simp only [if_pos (show ((d + 1 : Nat) : Int) > 0 by omega), e1, e2, Option.bind_some, if_pos a0, if_pos (show a < (y.length : Int) by omega), if_pos c1, if_pos b0, if_pos (show b < (y.length : Int) by omega), if_pos c2, if_neg c3, ew]
          exact h5 r h
      · obtain ⟨y', p', s', h2, h3, h4, h5⟩ := same
        refine ⟨y', p', s', h2, h3, h4, fun r h => Ev.step (fun k => by rw [spec_l1Cur_plan3.l1]) ?_⟩
        simp only [if_pos (show ((d + 1 : Nat) : Int) > 0 by omega), e1, e2, Option.bind_some, if_pos a0, if_pos (show a < (y.length : Int) by omega), if_pos c1, if_pos b0, if_pos (show b < (y.length : Int) by omega), if_neg c2, ew]
        exact h5 r h
    · obtain ⟨y', p', s', h2, h3, h4, h5⟩ := same
      refine ⟨y', p', s', h2, h3, h4, fun r h => Ev.step (fun k => by rw [spec_l1Cur_plan3.l1]) ?_⟩
      simp only [if_pos (show ((d + 1 : Nat) : Int) > 0 by omega), e1, e2, Option.bind_some, if_pos a0, if_pos (show a < (y.length : Int) by omega), if_neg c1, ew]
      exact h5 r h
/-- The rows of a plan that is drawn are as long as the coins are many. -/
def Rows3 (n : Int) (o : List (List Int)) : Prop := o.length ≤ 5 ∧ ∀ y ∈ o, (y.length : Int) = n
theorem end3_ok {c : List Int} (hc : Code8 c) (n : Int) (hn : 2 ≤ n ∧ n ≤ 40) (o : List (List Int)) (ho : Rows3 n o) (p s : Int) (h0 : 0 ≤ p) (h1 : p ≤ 4611686018427380000) : ∃ o' p' s', Ev (fun k => spec_l1Cur_plan3.j2 k n o c p s) (o', p', s') ∧ Rows3 n o' ∧ p ≤ p' ∧ p' ≤ p + 6 := by
  by_cases hl : (o.length : Int) > 0
  · obtain ⟨b, p1, s1, e1, hp1⟩ := one_ok hc s 20 h0 (by omega)
    cases b with
    | false =>
      refine ⟨o, p1, s1, Ev.step (fun k => by rw [spec_l1Cur_plan3.j2]) ?_, ho, by omega, by omega⟩
      simp only [if_pos hl, e1, Option.bind_some]
      refine Ev.step (fun k => by rw [spec_l1Cur_plan3.j3]) ?_
      simp only [Bool.false_eq_true, if_false]
      exact Ev.now _
    | true =>
      obtain ⟨a, p2, s2, e2, hp2, a0, a1⟩ := pick_ok hc s1 n (show 0 ≤ p1 by omega) (by omega)
      obtain ⟨z, p3, s3, e3, hp3, _⟩ := among_ok hc s2 [0, 1, 2] (show 0 ≤ p2 by omega) (by omega) (by decide)
      have a1' := a1 (by omega)
      have er : ((rd_L2 o 0).length : Int) = n := by
        unfold rd_L2
        rw [getD_lt _ (show (0 : Int).toNat < o.length by simp; omega)]
        exact ho.2 _ (List.getElem_mem _)
      refine ⟨o.set (0 : Int).toNat ((rd_L2 o 0).set a.toNat z), p3, s3, Ev.step (fun k => by rw [spec_l1Cur_plan3.j2]) ?_, ⟨by rw [List.length_set]; exact ho.1, fun y hy => ?_⟩, by omega, by omega⟩
      · simp only [if_pos hl, e1, Option.bind_some]
        refine Ev.step (fun k => by rw [spec_l1Cur_plan3.j3]) ?_
        simp only [if_true, if_pos (show 0 < (o.length : Int) by omega), e2, e3, Option.bind_some, if_pos a0, if_pos (show a < ((rd_L2 o 0).length : Int) by omega)]
        exact Ev.now _
      · rcases List.mem_or_eq_of_mem_set hy with h | h
        · exact ho.2 y h
        · rw [h, List.length_set]; exact er
  · refine ⟨o, p, s, Ev.step (fun k => by rw [spec_l1Cur_plan3.j2]) ?_, ho, by omega, by omega⟩
    simp only [if_neg hl]
    refine Ev.step (fun k => by rw [spec_l1Cur_plan3.j3]) ?_
    simp only [Bool.false_eq_true, if_false]
    exact Ev.now _
theorem rows3_ok {c : List Int} (hc : Code8 c) (n : Int) (hn : 2 ≤ n ∧ n ≤ 40) : ∀ (d : Nat) (o : List (List Int)) (p s : Int), d + o.length ≤ 5 → (∀ y ∈ o, (y.length : Int) = n) → 0 ≤ p → p ≤ 4611686018427370000 - 500 * d → ∃ o' p' s', Ev (fun k => spec_l1Cur_plan3.l0 k n o (d : Int) c p s) (o', p', s') ∧ Rows3 n o' ∧ p ≤ p' ∧ p' ≤ p + 500 * d + 6 := by
  intro d
  induction d with
  | zero =>
    intro o p s hl ho h0 h1
    obtain ⟨o', p', s', h2, h3, h4, h5⟩ := end3_ok hc n hn o ⟨by omega, ho⟩ p s h0 (by omega)
    refine ⟨o', p', s', Ev.step (fun k => by rw [spec_l1Cur_plan3.l0]) ?_, h3, h4, by omega⟩
    simp only [if_neg (show ¬ ((0 : Nat) : Int) > 0 by omega)]
    exact h2
  | succ d ih =>
    intro o p s hl ho h0 h1
    have et : Int.tdiv n 2 = n / 2 := Int.tdiv_eq_ediv_of_nonneg (by omega)
    have ed : wrap64 (wrap64 (Int.tdiv n 2) + 1) = n / 2 + 1 := by
      rw [et, w64 (show -9223372036854775808 ≤ n / 2 by omega) (by omega), w64 (show -9223372036854775808 ≤ n / 2 + 1 by omega) (by omega)]
    obtain ⟨m, p1, s1, e1, hp1, m0, m1⟩ := pick_ok hc s (n / 2 + 1) h0 (by omega)
    have m1' := m1 (by omega)
    obtain ⟨M, rfl⟩ := Int.eq_ofNat_of_zero_le m0
    obtain ⟨y', p2, s2, hy, hp2, hp3, hstep⟩ := row3_ok hc n hn o ((d + 1 : Nat) : Int) M (List.replicate n.toNat 0) p1 s1 (by omega) (by rw [List.length_replicate]; omega) (by omega) (by omega)
    have ew : wrap64 (((d + 1 : Nat) : Int) - 1) = (d : Int) := by rw [w64 (by omega) (by omega)]; omega
    obtain ⟨o', p', s', h2, h3, h4, h5⟩ := ih (o ++ [y']) p2 s2 (by rw [List.length_append, List.length_singleton]; omega) (fun y hy2 => by
      rcases List.mem_append.1 hy2 with h | h
      · exact ho y h
      · rw [List.mem_singleton.1 h]; exact hy) (by omega) (by omega)
    refine ⟨o', p', s', Ev.step (fun k => by rw [spec_l1Cur_plan3.l0]) ?_, h3, by omega, by omega⟩
    simp only [if_pos (show ((d + 1 : Nat) : Int) > 0 by omega), if_pos (show 0 ≤ n by omega), if_pos (show n.toNat ≤ 35184372088832 by omega), ed, e1, Option.bind_some]
    refine hstep _ ?_
    simp only [if_pos (show o.length < 5864062014805 by omega), ew]
    exact h2
theorem line_len (c : List (List Int)) (N : Nat) (h : N ≤ c.length) (j : Int) : (impl_HeavyPlan.line c N j).length = N := by
  unfold impl_HeavyPlan.line
  rw [List.length_map, List.length_take]
  omega
theorem lines_all (c : List (List Int)) (N : Nat) (h : N ≤ c.length) : ∀ j, ∀ y ∈ impl_HeavyPlan.lines c N j, y.length = N
  | 0, y, hy => by cases hy
  | j + 1, y, hy => by
    rw [impl_HeavyPlan.lines] at hy
    rcases List.mem_append.1 hy with h2 | h2
    · exact lines_all c N h j y h2
    · rw [List.mem_singleton.1 h2]; exact line_len c N h _
theorem planH_rows {n : Int} (hn : 2 ≤ n ∧ n ≤ 40) : Rows3 n (planH n) := by
  obtain ⟨h0, h1, h2, h3⟩ := need_closed hn
  unfold planH
  refine ⟨by rw [linesH_len]; omega, fun y hy => ?_⟩
  rw [lines_all _ _ h3 _ y hy]
  omega
/-- A plan that is drawn is a small one. -/
def Small3 (o : List (List Int)) : Prop := o.length ≤ 5 ∧ ∀ y ∈ o, y.length ≤ 40
theorem plan3_ok {c : List Int} (hc : Code8 c) (n : Int) (p s : Int) (h0 : 0 ≤ p) (h1 : p ≤ 4611686018427300000) : ∃ o p' s', Ev (fun k => spec_l1Cur_plan3.f k c p s n) (o, p', s') ∧ Small3 o ∧ p ≤ p' ∧ p' ≤ p + 3000 := by
  by_cases hn : 2 ≤ n ∧ n ≤ 40
  · have small : ∀ o, Rows3 n o → Small3 o := fun o ho => ⟨ho.1, fun y hy => by have := ho.2 y hy; omega⟩
    obtain ⟨b, p1, s1, e1, hp1⟩ := one_ok hc s 2 h0 (by omega)
    have eh : HeavyR n = (planH n, true) := by unfold HeavyR; rw [if_pos hn]
    cases b with
    | false =>
      obtain ⟨o', p', s', h2, h3, h4, h5⟩ := end3_ok hc n hn (planH n) (planH_rows hn) p1 s1 (by omega) (by omega)
      refine ⟨o', p', s', ?_, small _ h3, by omega, by omega⟩
      unfold spec_l1Cur_plan3.f
      refine Ev.bind (specHeavy_ev n) ?_
      rw [eh]
      simp only [if_true, e1, Option.bind_some, Bool.false_eq_true, if_false]
      exact h2
    | true =>
      obtain ⟨m, p2, s2, e2, hp2, hm⟩ := among_ok hc s1 [2, 3, 1, 0] (show 0 ≤ p1 by omega) (by omega) (by decide)
      have hm2 : 0 ≤ m ∧ m ≤ 3 := by simp at hm; omega
      obtain ⟨M, rfl⟩ := Int.eq_ofNat_of_zero_le hm2.1
      obtain ⟨o', p', s', h2, h3, h4, h5⟩ := rows3_ok hc n hn M [] p2 s2 (by simp; omega) (fun y hy => by cases hy) (by omega) (by omega)
      refine ⟨o', p', s', ?_, small _ h3, by omega, by omega⟩
      unfold spec_l1Cur_plan3.f
      refine Ev.bind (specHeavy_ev n) ?_
      rw [eh]
      simp only [if_true, e1, e2, Option.bind_some]
      exact h2
  · have eh : HeavyR n = ([], false) := by unfold HeavyR; rw [if_neg hn]
    refine ⟨[[1, -1]], p, s, ?_, ⟨by decide, by decide⟩, by omega, by omega⟩
    unfold spec_l1Cur_plan3.f
    refine Ev.bind (specHeavy_ev n) ?_
    rw [eh]
    simp only [Bool.false_eq_true, if_false]
    exact Ev.now _
theorem DrawIsCoinPlan_ok {c : List Int} (hc : Code8 c) : ∃ n o, Ev (fun k => spec_DrawTellsHeavy.f k c) (n, o) ∧ Small3 o := by
  obtain ⟨n, p1, s1, e1, hp1, _⟩ := coins3_ok hc 0 (show (0 : Int) ≤ 0 by omega) (by omega)
  obtain ⟨o, p2, s2, h2, h3, _⟩ := plan3_ok hc n p1 s1 (by omega) (by omega)
  refine ⟨n, o, ?_, h3⟩
  unfold spec_DrawTellsHeavy.f spec_DrawIsCoinPlan.f
  refine Ev.bind (a := (n, o)) ?_ (Ev.now _)
  simp only [e1, Option.bind_some]
  exact Ev.bind h2 (Ev.now _)
theorem DrawCoinOutcome_ok {c : List Int} (hc : Code8 c) : ∃ n o x b, Ev (fun k => spec_DrawCoinOutcome.f k c) (n, o, x, b) ∧ Small3 o := by
  obtain ⟨n, p1, s1, e1, hp1, n0, n1⟩ := coins3_ok hc 0 (show (0 : Int) ≤ 0 by omega) (by omega)
  obtain ⟨o, p2, s2, h2, h3, hp2, hp3⟩ := plan3_ok hc n p1 s1 (by omega) (by omega)
  obtain ⟨q, hq⟩ : ∃ q, spec_l1Most.f 1 n = some q := by
    unfold spec_l1Most.f
    split
    · exact ⟨_, rfl⟩
    · exact ⟨_, rfl⟩
  obtain ⟨x, p4, s4, e4, hp4, _⟩ := pick_ok hc s2 q (show 0 ≤ p2 by omega) (by omega)
  obtain ⟨z, p5, s5, e5, hp5, _⟩ := pick_ok hc s4 24 (show 0 ≤ p4 by omega) (by omega)
  obtain ⟨b, p6, s6, e6, hp6⟩ := one_ok hc s5 2 (show 0 ≤ p5 by omega) (by omega)
  refine ⟨n, o, wrap64 (x - wrap64 (Int.tdiv z 23)), b, ?_, h3⟩
  unfold spec_DrawCoinOutcome.f
  simp only [e1, Option.bind_some]
  refine Ev.bind h2 ?_
  simp only [hq, e4, e5, e6, Option.bind_some]
  exact Ev.now _
theorem outcome3_ok {c : List Int} (hc : Code8 c) (n : Int) (o : List (List Int)) (ho : o.length ≤ 5) : ∀ (d j : Nat) (y : List Int) (p s : Int), j + d = o.length → y.length ≤ j → 0 ≤ p → p ≤ 4611686018427370000 - 2 * d → ∃ y', Ev (fun k => spec_DrawCoinsWith.l0 k n o y (j : Int) c p s) (n, o, y') ∧ y'.length ≤ 6 := by
  intro d
  induction d with
  | zero =>
    intro j y p s hj hy h0 h1
    obtain ⟨b, p1, s1, e1, hp1⟩ := one_ok hc s 24 h0 (by omega)
    cases b with
    | false =>
      refine ⟨y, Ev.step (fun k => by rw [spec_DrawCoinsWith.l0]) ?_, by omega⟩
      simp only [if_neg (show ¬ (j : Int) < (o.length : Int) by omega), e1, Option.bind_some, Bool.false_eq_true, if_false]
      exact Ev.now _
    | true =>
      obtain ⟨z, p2, s2, e2, hp2, _⟩ := among_ok hc s1 [0, 2] (show 0 ≤ p1 by omega) (by omega) (by decide)
      refine ⟨y ++ [z], Ev.step (fun k => by rw [spec_DrawCoinsWith.l0]) ?_, by rw [List.length_append, List.length_singleton]; omega⟩
      simp only [if_neg (show ¬ (j : Int) < (o.length : Int) by omega), e1, e2, Option.bind_some, if_true, if_pos (show y.length < 17592186044416 by omega)]
      exact Ev.now _
  | succ d ih =>
    intro j y p s hj hy h0 h1
    obtain ⟨x, p1, s1, e1, hp1, _⟩ := pick_ok hc s 3 h0 (by omega)
    obtain ⟨y', h2, h3⟩ := ih (j + 1) (y ++ [wrap64 (x - 1)]) p1 s1 (by omega) (by rw [List.length_append, List.length_singleton]; omega) (by omega) (by omega)
    have ew : wrap64 ((j : Int) + 1) = ((j + 1 : Nat) : Int) := by rw [w64 (by omega) (by omega)]; omega
    refine ⟨y', Ev.step (fun k => by rw [spec_DrawCoinsWith.l0]) ?_, h3⟩
    simp only [if_pos (show (j : Int) < (o.length : Int) by omega), e1, Option.bind_some, if_pos (show y.length < 17592186044416 by omega), ew]
    exact h2
theorem DrawCoinsWith_ok {c : List Int} (hc : Code8 c) : ∃ n o y, Ev (fun k => spec_DrawCoinsWith.f k c) (n, o, y) ∧ Small3 o ∧ y.length ≤ 6 := by
  obtain ⟨n, p1, s1, e1, hp1, n0, n1⟩ := coins3_ok hc 0 (show (0 : Int) ≤ 0 by omega) (by omega)
  obtain ⟨o, p2, s2, h2, h3, hp2, hp3⟩ := plan3_ok hc n p1 s1 (by omega) (by omega)
  obtain ⟨y, h4, h5⟩ := outcome3_ok hc n o h3.1 o.length 0 [] p2 s2 (by omega) (by simp) (by omega) (by have := h3.1; omega)
  refine ⟨n, o, y, ?_, h3, h5⟩
  unfold spec_DrawCoinsWith.f
  simp only [e1, Option.bind_some]
  exact Ev.bind h2 h4

theorem vInts_self (l : List Int) (hl : l.length ≤ 2000000) : Ev (fun k => laws_vInts.f k l l) true := by
  unfold laws_vInts.f
  simp only [if_true]
  have key : ∀ (d : Nat) (i : Int), 0 ≤ i → (l.length : Int) - i = d → Ev (fun k => laws_vInts.l0 k l l i) true := by
    intro d
    induction d with
    | zero =>
      intro i h0 h
      refine Ev.step (fun k => by rw [laws_vInts.l0]) ?_
      simp only [if_neg (show ¬ i < (l.length : Int) by omega)]
      exact Ev.now _
    | succ d ih =>
      intro i h0 h
      refine Ev.step (fun k => by rw [laws_vInts.l0]) ?_
      simp only [if_pos (show i < (l.length : Int) by omega), if_pos h0, if_true, w64 (show -9223372036854775808 ≤ i + 1 by omega) (by omega)]
      exact ih (i + 1) (by omega) (by omega)
  exact key l.length 0 (by omega) (by omega)
theorem vCut_ok {c : List Int} (hc : Code8 c) (hl : c.length ≤ 65536) (n : Int) (hn : 0 ≤ n) : ∃ t, laws_vCut.f c n = some t ∧ Code8 t := by
  have g : ∀ x : Int, 0 ≤ x → x ≤ (c.length : Int) → ∃ t, laws_vCut.g c x = some t ∧ Code8 t := by
    intro x h0 h1
    have hd : (c.drop x.toNat).length ≤ 65536 := by rw [List.length_drop]; omega
    refine ⟨c.drop x.toNat ++ [x % 256], ?_, ?_, ?_⟩
    · unfold laws_vCut.g
      simp only [Option.bind_some, if_pos h0, if_pos h1, List.nil_append, List.length_nil, Nat.zero_add, if_pos (show (c.drop x.toNat).length < 140737488355328 by omega)]
    · intro y hy
      rcases List.mem_append.1 hy with hy | hy
      · exact hc.1 y (List.mem_of_mem_drop hy)
      · rw [List.mem_singleton.1 hy]; omega
    · rw [List.length_append, List.length_singleton]
      omega
  unfold laws_vCut.f
  split
  · exact g _ (by omega) (Int.le_refl _)
  · exact g n hn (by omega)
theorem vTable_self (l : List (List Int)) (hl : l.length ≤ 1000) (hw : ∀ x ∈ l, x.length ≤ 1000) : Ev (fun k => laws_vTable.f k l l) true := by
  unfold laws_vTable.f
  simp only [if_true]
  have key : ∀ (d i : Nat), i + d = l.length → Ev (fun k => laws_vTable.l0 k l l (i : Int)) true := by
    intro d
    induction d with
    | zero =>
      intro i h
      refine Ev.step (fun k => by rw [laws_vTable.l0]) ?_
      simp only [if_neg (show ¬ (i : Int) < (l.length : Int) by omega)]
      exact Ev.now _
    | succ d ih =>
      intro i h
      have hi : i < l.length := by omega
      have er : rd_L2 l (i : Int) = l[i] := by
        unfold rd_L2
        rw [Int.toNat_natCast]
        exact getD_lt _ hi
      have hr := hw _ (List.getElem_mem hi)
      have ew : wrap64 ((i : Int) + 1) = ((i + 1 : Nat) : Int) := by rw [w64 (by omega) (by omega)]; omega
      refine Ev.step (fun k => by rw [laws_vTable.l0]) ?_
      simp only [if_pos (show (i : Int) < (l.length : Int) by omega), if_pos (show 0 ≤ (i : Int) by omega), er, ew]
      refine Ev.bind (vInts_self l[i] (by omega)) ?_
      simp only [if_true]
      exact ih (i + 1) (by omega)
  exact key l.length 0 (by omega)
theorem vPairs_self (l : List (S47)) (hl : l.length ≤ 1000) : Ev (fun k => laws_vPairs.f k l l) true := by
  unfold laws_vPairs.f
  simp only [if_true]
  have key : ∀ (d i : Nat), i + d = l.length → Ev (fun k => laws_vPairs.l0 k l l (i : Int)) true := by
    intro d
    induction d with
    | zero =>
      intro i h
      refine Ev.step (fun k => by rw [laws_vPairs.l0]) ?_
      simp only [if_neg (show ¬ (i : Int) < (l.length : Int) by omega)]
      exact Ev.now _
    | succ d ih =>
      intro i h
      have ew : wrap64 ((i : Int) + 1) = ((i + 1 : Nat) : Int) := by rw [w64 (by omega) (by omega)]; omega
      refine Ev.step (fun k => by rw [laws_vPairs.l0]) ?_
      simp only [if_pos (show (i : Int) < (l.length : Int) by omega), if_pos (show 0 ≤ (i : Int) by omega), if_true, ew]
      exact ih (i + 1) (by omega)
  exact key l.length 0 (by omega)
/-- What TellsHeavy and TellsBoth answer. -/
noncomputable def TellsR (n : Int) (l : List (List Int)) (both : Bool) : Bool × Bool := if (decide (2 ≤ n ∧ n ≤ 40) && planB n l) = true then (distB [] (colsD l (signsOf both) n.toNat 0), true) else (false, false)
theorem TellsHeavy_ev (n : Int) (l : List (List Int)) (hl : l.length ≤ 1048576) (hr : ∀ x ∈ l, x.length ≤ 1048576) : Ev (fun k => impl_TellsHeavy.f k n l) (TellsR n l false) ∧ Ev (fun k => spec_TellsHeavy.f k n l) (TellsR n l false) := by
  unfold impl_TellsHeavy.f spec_TellsHeavy.f TellsR
  by_cases h : (decide (2 ≤ n ∧ n ≤ 40) && planB n l) = true
  · have h' := Bool.and_eq_true_iff.1 h
    have hn' := of_decide_eq_true h'.1
    have hg := good_plan h'.2
    refine ⟨?_, ?_⟩
    · refine Ev.bind (isPlan_ev n l hl hr) ?_
      simp only [h, if_true]
      exact Ev.bind (implTells_all false hg.1 hg.2 hn'.1 hn'.2) (Ev.now _)
    · refine Ev.bind (l3Good_ev n l hl hr) ?_
      simp only [h, if_true]
      exact Ev.bind (specTells_ev false hg.1 hg.2 hn'.1 hn'.2) (Ev.now _)
  · refine ⟨?_, ?_⟩
    · refine Ev.bind (isPlan_ev n l hl hr) ?_
      simp only [h, if_false]
      exact Ev.now _
    · refine Ev.bind (l3Good_ev n l hl hr) ?_
      simp only [h, if_false]
      exact Ev.now _
theorem TellsBoth_ev (n : Int) (l : List (List Int)) (hl : l.length ≤ 1048576) (hr : ∀ x ∈ l, x.length ≤ 1048576) : Ev (fun k => impl_TellsBoth.f k n l) (TellsR n l true) ∧ Ev (fun k => spec_TellsBoth.f k n l) (TellsR n l true) := by
  unfold impl_TellsBoth.f spec_TellsBoth.f TellsR
  by_cases h : (decide (2 ≤ n ∧ n ≤ 40) && planB n l) = true
  · have h' := Bool.and_eq_true_iff.1 h
    have hn' := of_decide_eq_true h'.1
    have hg := good_plan h'.2
    refine ⟨?_, ?_⟩
    · refine Ev.bind (isPlan_ev n l hl hr) ?_
      simp only [h, if_true]
      exact Ev.bind (implTells_all true hg.1 hg.2 hn'.1 hn'.2) (Ev.now _)
    · refine Ev.bind (l3Good_ev n l hl hr) ?_
      simp only [h, if_true]
      exact Ev.bind (specTells_ev true hg.1 hg.2 hn'.1 hn'.2) (Ev.now _)
  · refine ⟨?_, ?_⟩
    · refine Ev.bind (isPlan_ev n l hl hr) ?_
      simp only [h, if_false]
      exact Ev.now _
    · refine Ev.bind (l3Good_ev n l hl hr) ?_
      simp only [h, if_false]
      exact Ev.now _
noncomputable def IsR (n : Int) (l : List (List Int)) : Bool × Bool := if 2 ≤ n ∧ n ≤ 40 then (planB n l, true) else (false, false)
theorem IsCoinPlan_ev (n : Int) (l : List (List Int)) (hl : l.length ≤ 1048576) (hr : ∀ x ∈ l, x.length ≤ 1048576) : Ev (fun k => impl_IsCoinPlan.f k n l) (IsR n l) ∧ Ev (fun k => spec_IsCoinPlan.f k n l) (IsR n l) := by
  unfold impl_IsCoinPlan.f spec_IsCoinPlan.f IsR
  simp only [areCoins_eq, l3Coins_eq, Option.bind_some, decide_eq_true_eq]
  by_cases h : 2 ≤ n ∧ n ≤ 40
  · simp only [if_pos h]
    refine ⟨Ev.bind (isPlan_ev n l hl hr) ?_, Ev.bind (l3Plan_ev n l hl hr) (Ev.now _)⟩
    rw [decide_eq_true h, Bool.true_and]
    exact Ev.now _
  · simp only [if_neg h]
    exact ⟨Ev.now _, Ev.now _⟩
def NeedR (n : Int) : Int × Bool := if 2 ≤ n ∧ n ≤ 40 then ((needN n : Int), true) else (0, false)
theorem Need_ev (n : Int) : Ev (fun k => impl_WeighingsNeeded.f k n) (NeedR n) ∧ Ev (fun k => spec_WeighingsNeeded.f k n) (NeedR n) := by
  unfold impl_WeighingsNeeded.f spec_WeighingsNeeded.f spec_l3Needed.f NeedR
  simp only [areCoins_eq, l3Coins_eq, Option.bind_some, decide_eq_true_eq]
  by_cases h : 2 ≤ n ∧ n ≤ 40
  · obtain ⟨h0, _⟩ := need_closed h
    have z := needH_ev 40 n 0 1 (by omega) (by omega) (by omega) (by omega) (by omega)
    rw [h0] at z
    simp only [if_pos h]
    exact ⟨z.2, Ev.bind z.1 (Ev.now _)⟩
  · simp only [if_neg h]
    exact ⟨Ev.now _, Ev.now _⟩
def planFine (N : Nat) : Bool := (planH (N : Int)).all (fun r => decide ((r.length : Int) = (N : Int)) && (r.all (fun x => decide (-1 ≤ x ∧ x ≤ 1)) && decide (totW r = 0))) && distB [] (colsD (planH (N : Int)) [1] N 0)
set_option maxRecDepth 100000 in
theorem planH_closed0 : ∀ N : Fin 41, 2 ≤ N.val → planFine N.val = true := by decide +kernel
theorem planH_fine {n : Int} (hn : 2 ≤ n ∧ n ≤ 40) : planB n (planH n) = true ∧ distB [] (colsD (planH n) (signsOf false) n.toNat 0) = true := by
  obtain ⟨N, rfl⟩ := Int.eq_ofNat_of_zero_le (show 0 ≤ n by omega)
  have z := planH_closed0 ⟨N, by omega⟩ (by simp only; omega)
  unfold planFine at z
  obtain ⟨z1, z2⟩ := Bool.and_eq_true_iff.1 z
  refine ⟨?_, by rw [Int.toNat_natCast]; exact z2⟩
  have hl := (planH_rows hn).1
  unfold planB
  rw [if_pos, decide_eq_true (by omega)]
  intro i h0 h1
  have hi : i.toNat < (planH (N : Int)).length := by omega
  have er : rd_L2 (planH (N : Int)) i = (planH (N : Int))[i.toNat] := by
    unfold rd_L2
    exact getD_lt _ hi
  rw [er]
  have y := List.all_eq_true.1 z1 _ (List.getElem_mem hi)
  obtain ⟨y1, y2⟩ := Bool.and_eq_true_iff.1 y
  obtain ⟨y3, y4⟩ := Bool.and_eq_true_iff.1 y2
  refine ⟨⟨of_decide_eq_true y1, fun j j0 j1 => ?_⟩, of_decide_eq_true y4⟩
  have := of_decide_eq_true (List.all_eq_true.1 y3 _ (rd_mem j0 j1))
  exact this
theorem need_le : ∀ (d : Nat) (n x p : Int) (j : Nat), 1 ≤ p → n ≤ p * 3 ^ j → need d n x p ≤ x + j
  | 0, n, x, p, j, _, _ => by rw [need]; omega
  | d + 1, n, x, p, j, hp, h => by
    rw [need]
    by_cases c : p < n
    · rw [if_pos c]
      cases j with
      | zero => rw [Int.pow_zero, Int.mul_one] at h; omega
      | succ j =>
        have := need_le d n (x + 1) (p * 3) j (by omega) (by rw [Int.pow_succ, Int.mul_comm (3 ^ j) 3, ← Int.mul_assoc] at h; exact h)
        omega
    · rw [if_neg c]
      omega
theorem nodup_le {α : Type} [DecidableEq α] : ∀ (X L : List α), X.Pairwise (· ≠ ·) → (∀ x ∈ X, x ∈ L) → X.length ≤ L.length
  | [], L, _, _ => Nat.zero_le _
  | x :: X, L, hp, hm => by
    obtain ⟨h1, h2⟩ := List.pairwise_cons.1 hp
    have hx := hm x (List.mem_cons_self)
    have ih := nodup_le X (L.erase x) h2 (fun y hy => (List.mem_erase_of_ne (fun e => h1 y hy e.symm)).2 (hm y (List.mem_cons_of_mem _ hy)))
    rw [List.length_erase_of_mem hx] at ih
    have : 0 < L.length := List.length_pos_of_mem hx
    rw [List.length_cons]
    omega
theorem dist_pair : ∀ (xs seen : List (List Int)), distB seen xs = true → seen.Pairwise (· ≠ ·) → (seen ++ xs).Pairwise (· ≠ ·)
  | [], seen, _, hs => by rwa [List.append_nil]
  | x :: xs, seen, h, hs => by
    rw [distB] at h
    by_cases c : seen.any (fun y => y == x) = true
    · rw [if_pos c] at h; cases h
    · rw [if_neg c] at h
      have ih := dist_pair xs (seen ++ [x]) h (List.pairwise_append.2 ⟨hs, List.pairwise_singleton _ _, fun a ha b hb => by
        rw [List.mem_singleton] at hb
        subst hb
        intro e
        subst e
        exact c (List.any_eq_true.2 ⟨a, ha, beq_self_eq_true a⟩)⟩)
      rwa [List.append_assoc, List.singleton_append] at ih
theorem allL_in : ∀ x : List Int, (∀ g ∈ x, -1 ≤ g ∧ g ≤ 1) → x ∈ allL (-1) x.length
  | [], _ => by simp [allL]
  | g :: x, h => by
    have hg := h g (List.mem_cons_self)
    have ih := allL_in x (fun z hz => h z (List.mem_cons_of_mem _ hz))
    rw [List.length_cons, allL, List.mem_flatMap]
    refine ⟨g, ?_, List.mem_map.2 ⟨x, ih, rfl⟩⟩
    unfold impl_eachSigns.upto
    simp
    omega
theorem colsD_one (l : List (List Int)) : ∀ (d : Nat) (c : Int), (colsD l [1] d c).length = d
  | 0, _ => rfl
  | d + 1, c => by
    rw [colsD, List.length_append, colsD_one l d (c + 1)]
    simp
    omega
theorem colsD_sign {n : Int} {l : List (List Int)} (hp : ∀ i, 0 ≤ i → i < (l.length : Int) → PlanAt n (rd_L2 l i)) : ∀ (d : Nat) (c : Int), 0 ≤ c → c + d ≤ n → ∀ x ∈ colsD l [1] d c, ∀ g ∈ x, -1 ≤ g ∧ g ≤ 1
  | 0, _, _, _, x, hx, _, _ => by cases hx
  | d + 1, c, h0, h1, x, hx, g, hg => by
    rw [colsD] at hx
    rcases List.mem_append.1 hx with h | h
    · simp at h
      subst h
      unfold colW at hg
      obtain ⟨r, hr, rfl⟩ := List.mem_map.1 hg
      obtain ⟨i, hi, rfl⟩ := List.getElem_of_mem hr
      have z := cell_sign hp (i := (i : Int)) (by omega) (by omega) h0 (show c < n by omega)
      have er : rd_L2 l (i : Int) = l[i] := by
        unfold rd_L2
        rw [Int.toNat_natCast]
        exact getD_lt _ hi
      rw [er] at z
      omega
    · exact colsD_sign hp d (c + 1) (by omega) (by omega) x h g hg
/-- A plan that tells the heavy coin is no shorter than is needed. -/
theorem tells_needs {n : Int} {l : List (List Int)} (hn : 2 ≤ n ∧ n ≤ 40) (hp : ∀ i, 0 ≤ i → i < (l.length : Int) → PlanAt n (rd_L2 l i)) (h : distB [] (colsD l (signsOf false) n.toNat 0) = true) : (needN n : Int) ≤ l.length := by
  have h1 := dist_pair _ [] h List.Pairwise.nil
  rw [List.nil_append] at h1
  have h2 := nodup_le _ (allL (-1) l.length) h1 (fun x hx => by
    have e := colsD_row l _ _ _ x hx
    have := allL_in x (colsD_sign hp n.toNat 0 (by omega) (by omega) x hx)
    rwa [e] at this)
  have e1 : (colsD l (signsOf false) n.toNat 0).length = n.toNat := colsD_one l n.toNat 0
  rw [e1, ← allS_eq, allS_len] at h2
  have h3 := need_le 40 n 0 1 l.length (by omega) (by
    rw [Int.one_mul]
    have : ((3 ^ l.length : Nat) : Int) = (3 : Int) ^ l.length := by rw [Int.natCast_pow]; rfl
    omega)
  have h4 := (need_closed hn).1
  omega
theorem colsD_two (l : List (List Int)) : ∀ (d : Nat) (c : Int) (i : Nat), i < d → (colsD l [1, -1] d c).getD (2 * i) [] = colW l (c + i) 1 ∧ (colsD l [1, -1] d c).getD (2 * i + 1) [] = colW l (c + i) (-1)
  | 0, _, _, h => absurd h (Nat.not_lt_zero _)
  | d + 1, c, 0, _ => by
    rw [colsD]
    refine ⟨?_, ?_⟩
    · show colW l c 1 = _
      rw [Int.natCast_zero, Int.add_zero]
    · show colW l c (-1) = _
      rw [Int.natCast_zero, Int.add_zero]
  | d + 1, c, i + 1, h => by
    have ih := colsD_two l d (c + 1) i (by omega)
    rw [colsD]
    have e : c + 1 + (i : Int) = c + ((i + 1 : Nat) : Int) := by omega
    rw [e] at ih
    refine ⟨ih.1, ih.2⟩
theorem colsD_lenT (l : List (List Int)) : ∀ (d : Nat) (c : Int), (colsD l [1, -1] d c).length = 2 * d
  | 0, _ => rfl
  | d + 1, c => by
    rw [colsD, List.length_append, colsD_lenT l d (c + 1)]
    simp
    omega
/-- No outcome belongs to two coins, or to one in both ways. -/
theorem both_apart {n : Int} {l : List (List Int)} (h : distB [] (colsD l (signsOf true) n.toNat 0) = true) {a b s t : Int} (ha : 0 ≤ a ∧ a < n) (hb : 0 ≤ b ∧ b < n) (hs : s = 1 ∨ s = -1) (ht : t = 1 ∨ t = -1) (e : colW l a s = colW l b t) : a = b ∧ s = t := by
  have hd := (distB_iff _ []).1 h
  rw [List.nil_append] at hd
  obtain ⟨A, rfl⟩ := Int.eq_ofNat_of_zero_le ha.1
  obtain ⟨B, rfl⟩ := Int.eq_ofNat_of_zero_le hb.1
  have zA := colsD_two l n.toNat 0 A (by omega)
  have zB := colsD_two l n.toNat 0 B (by omega)
  rw [Int.zero_add] at zA zB
  have hl := colsD_lenT l n.toNat 0
  have key : ∀ i j : Nat, i < 2 * n.toNat → j < 2 * n.toNat → (colsD l [1, -1] n.toNat 0).getD i [] = (colsD l [1, -1] n.toNat 0).getD j [] → i = j := by
    intro i j hi hj e
    have hs0 : colsD l (signsOf true) n.toNat 0 = colsD l [1, -1] n.toNat 0 := rfl
    rw [hs0] at hd
    rcases Nat.lt_trichotomy i j with h | h | h
    · exact absurd e.symm (hd j i (Nat.zero_le _) (by omega) h)
    · exact h
    · exact absurd e (hd i j (Nat.zero_le _) (by omega) h)
  rcases hs with rfl | rfl <;> rcases ht with rfl | rfl
  · have := key (2 * A) (2 * B) (by omega) (by omega) (by rw [zA.1, zB.1]; exact e)
    exact ⟨by omega, rfl⟩
  · have := key (2 * A) (2 * B + 1) (by omega) (by omega) (by rw [zA.1, zB.2]; exact e)
    omega
  · have := key (2 * A + 1) (2 * B) (by omega) (by omega) (by rw [zA.2, zB.1]; exact e)
    omega
  · have := key (2 * A + 1) (2 * B + 1) (by omega) (by omega) (by rw [zA.2, zB.2]; exact e)
    exact ⟨by omega, rfl⟩
theorem both_heavy {n : Int} {l : List (List Int)} (hn : 2 ≤ n) (h : distB [] (colsD l (signsOf true) n.toNat 0) = true) : distB [] (colsD l (signsOf false) n.toNat 0) = true := by
  have one : ∀ (d : Nat) (c : Int) (i : Nat), i < d → (colsD l [1] d c).getD i [] = colW l (c + i) 1 := by
    intro d
    induction d with
    | zero => intro c i h; omega
    | succ d ih =>
      intro c i h
      cases i with
      | zero =>
        show colW l c 1 = _
        rw [Int.natCast_zero, Int.add_zero]
      | succ i =>
        have := ih (c + 1) i (by omega)
        have e : c + 1 + (i : Int) = c + ((i + 1 : Nat) : Int) := by omega
        rw [e] at this
        exact this
  refine (distB_iff _ []).2 ?_
  rw [List.nil_append]
  intro i j _ hi hj e
  have hl : (colsD l (signsOf false) n.toNat 0).length = n.toNat := colsD_one l n.toNat 0
  have e1 := one n.toNat 0 i (by omega)
  have e2 := one n.toNat 0 j (by omega)
  rw [Int.zero_add] at e1 e2
  have := both_apart h (a := (i : Int)) (b := (j : Int)) (by omega) (by omega) (.inl rfl) (.inl rfl) (e1.symm.trans (e.trans e2))
  omega
theorem coinsW_mem (l : List (List Int)) (out : List Int) : ∀ (n : Nat) (e : S47), e ∈ coinsW l out n → ∃ (c : Nat) (s : Int), c < n ∧ (s = 1 ∨ s = -1) ∧ e = ⟨(c : Int), s⟩ ∧ colW l c s = out
  | 0, e, h => by cases h
  | n + 1, e, h => by
    rw [coinsW] at h
    rcases List.mem_append.1 h with h | h
    · obtain ⟨c, s, h1, h2⟩ := coinsW_mem l out n e h
      exact ⟨c, s, by omega, h2⟩
    · unfold foundW at h
      rcases List.mem_append.1 h with h | h
      · split at h
        · rename_i hc
          rw [List.mem_singleton] at h
          exact ⟨n, 1, by omega, .inl rfl, h, hc⟩
        · cases h
      · split at h
        · rename_i hc
          rw [List.mem_singleton] at h
          exact ⟨n, -1, by omega, .inr rfl, h, hc⟩
        · cases h
theorem coinsW_has (l : List (List Int)) (out : List Int) (c : Nat) (s : Int) (hs : s = 1 ∨ s = -1) (hc : colW l c s = out) : ∀ n : Nat, c < n → (⟨(c : Int), s⟩ : S47) ∈ coinsW l out n
  | 0, h => absurd h (Nat.not_lt_zero _)
  | n + 1, h => by
    rw [coinsW]
    by_cases e : c < n
    · exact List.mem_append.2 (.inl (coinsW_has l out c s hs hc n e))
    · have e2 : c = n := by omega
      subst e2
      refine List.mem_append.2 (.inr ?_)
      unfold foundW
      rcases hs with rfl | rfl
      · rw [if_pos hc]
        exact List.mem_append.2 (.inl (List.mem_singleton.2 rfl))
      · rw [if_pos hc]
        exact List.mem_append.2 (.inr (List.mem_singleton.2 rfl))
theorem coinsW_one (l : List (List Int)) (out : List Int) (c : Nat) (s : Int) (hs : s = 1 ∨ s = -1) (hc : colW l c s = out) (N : Nat) (hu : ∀ (a : Nat) (t : Int), a < N → (t = 1 ∨ t = -1) → colW l a t = out → a = c ∧ t = s) : ∀ n : Nat, n ≤ N → (coinsW l out n).length = if c < n then 1 else 0
  | 0, _ => by simp [coinsW]
  | n + 1, h => by
    rw [coinsW, List.length_append, coinsW_one l out c s hs hc N hu n (by omega)]
    unfold foundW
    rw [List.length_append]
    by_cases e : n = c
    · subst e
      rw [if_neg (show ¬ n < n by omega), if_pos (show n < n + 1 by omega)]
      rcases hs with rfl | rfl
      · rw [if_pos hc, if_neg (fun e2 => by have := (hu n (-1) (by omega) (.inr rfl) e2).2; omega)]
        rfl
      · rw [if_pos hc, if_neg (fun e2 => by have := (hu n 1 (by omega) (.inl rfl) e2).2; omega)]
        rfl
    · rw [if_neg (fun e2 => e (hu n 1 (by omega) (.inl rfl) e2).1), if_neg (fun e2 => e (hu n (-1) (by omega) (.inr rfl) e2).1)]
      simp only [List.length_nil, Nat.add_zero]
      by_cases e3 : c < n
      · rw [if_pos e3, if_pos (by omega)]
      · rw [if_neg e3, if_neg (by omega)]

theorem small_w {l : List (List Int)} (h : Small3 l) : l.length ≤ 1048576 ∧ ∀ x ∈ l, x.length ≤ 1048576 := ⟨by have := h.1; omega, fun x hx => by have := h.2 x hx; omega⟩
theorem coins_l1 (n : Int) (plan : List (List Int)) (out : List Int) (X : List (S47)) (hs : Small3 plan) (ho : out.length ≤ 6) (hX : X.length ≤ 80) (hg : (decide (2 ≤ n ∧ n ≤ 40) && planB n plan) = true) (hm : ∀ e ∈ X, ∃ c s : Int, 0 ≤ c ∧ c ≤ n - 1 ∧ (s = 1 ∨ s = -1) ∧ e = ⟨c, s⟩ ∧ colW plan c s = out) :
    ∀ (d j : Nat), j + d = X.length → Ev (fun k => laws_FnCoins.l1 k n plan out X true (j : Int)) true := by
  intro d
  induction d with
  | zero =>
    intro j h
    refine Ev.step (fun k => by rw [laws_FnCoins.l1]) ?_
    simp only [if_true, decide_eq_false (show ¬ (j : Int) < (X.length : Int) by omega)]
    refine Ev.step (fun k => by rw [laws_FnCoins.j7]) ?_
    simp only [Bool.false_eq_true, if_false]
    exact Ev.now _
  | succ d ih =>
    intro j h
    have hj : j < X.length := by omega
    obtain ⟨c, s, c0, c1, hs1, he, hc⟩ := hm _ (List.getElem_mem hj)
    have er : rd_T47 X (j : Int) = ⟨c, s⟩ := by
      unfold rd_T47
      rw [Int.toNat_natCast, getD_lt _ hj]
      exact he
    have ew : wrap64 ((j : Int) + 1) = ((j + 1 : Nat) : Int) := by rw [w64 (by omega) (by omega)]; omega
    have hO : CoinOutcomeR n plan c (s == 1) = (out, true) := by
      unfold CoinOutcomeR
      rw [if_pos ⟨hg, c0, c1⟩]
      rcases hs1 with rfl | rfl
      · exact congrArg (fun z => (z, true)) hc
      · exact congrArg (fun z => (z, true)) hc
    refine Ev.step (fun k => by rw [laws_FnCoins.l1]) ?_
    simp only [if_true, decide_eq_true (show (j : Int) < (X.length : Int) by omega)]
    refine Ev.step (fun k => by rw [laws_FnCoins.j7]) ?_
    simp only [if_true, if_pos (show 0 ≤ (j : Int) by omega), if_pos (show (j : Int) < (X.length : Int) by omega), er, ew]
    refine Ev.bind (implCoinOutcome_ev n plan c (s == 1) (small_w hs).1 (small_w hs).2) ?_
    rw [hO]
    simp only [if_true]
    refine Ev.bind (vInts_self out (by omega)) ?_
    simp only [if_true]
    exact ih (j + 1) (by omega)
theorem coins_j5 (n : Int) (plan : List (List Int)) (out : List Int) (hs : Small3 plan) (ho : out.length ≤ 6) : Ev (fun k => laws_FnCoins.j5 k n plan out (CoinsWithR n plan out).1 (CoinsWithR n plan out).2) true := by
  refine Ev.step (fun k => by rw [laws_FnCoins.j5]) ?_
  by_cases h : (decide (2 ≤ n ∧ n ≤ 40) && planB n plan) = true ∧ (out.length : Int) = plan.length ∧ (∀ j, 0 ≤ j → j < (out.length : Int) → SignAt out j)
  · have e : CoinsWithR n plan out = (coinsW plan out n.toNat, true) := by unfold CoinsWithR; rw [if_pos h]
    have hn := of_decide_eq_true (Bool.and_eq_true_iff.1 h.1).1
    have hl := CoinsWithR_len n plan out
    rw [e] at hl ⊢
    refine coins_l1 n plan out _ hs ho hl h.1 (fun z hz => ?_) _ 0 (Nat.zero_add _)
    obtain ⟨c, s, h1, h2, h3, h4⟩ := coinsW_mem plan out _ z hz
    exact ⟨(c : Int), s, by omega, by omega, h2, h3, h4⟩
  · have e : CoinsWithR n plan out = ([], false) := by unfold CoinsWithR; rw [if_neg h]
    rw [e]
    refine Ev.step (fun k => by rw [laws_FnCoins.l1]) ?_
    simp only [Bool.false_eq_true, if_false]
    refine Ev.step (fun k => by rw [laws_FnCoins.j7]) ?_
    simp only [Bool.false_eq_true, if_false]
    exact Ev.now _
theorem coins_l0 {n : Int} {plan : List (List Int)} {out : List Int} {X : List (S47)} {b : Bool} (E5 : Ev (fun k => laws_FnCoins.j5 k n plan out X b) true) (u : Int) (list : List (List Int)) (hs : Small3 list) (coin sgn : Int) (L : List (S47)) (hL : L.length ≤ 80) (hone : (TellsR u list true).1 = true → L.length = 1) :
    ∀ (d j : Nat) (fl : Bool), j + d = L.length → (fl = true ∨ ∃ e ∈ L.drop j, e.f0 = coin ∧ e.f1 = sgn) → Ev (fun k => laws_FnCoins.l0 k n plan out X b u list coin L true sgn fl (j : Int)) true := by
  intro d
  induction d with
  | zero =>
    intro j fl h hf
    have hfl : fl = true := by
      rcases hf with hf | ⟨e, he, _⟩
      · exact hf
      · rw [List.drop_eq_nil_of_le (by omega)] at he; cases he
    subst hfl
    refine Ev.step (fun k => by rw [laws_FnCoins.l0]) ?_
    simp only [if_neg (show ¬ (j : Int) < (L.length : Int) by omega)]
    refine Ev.bind (TellsBoth_ev u list (small_w hs).1 (small_w hs).2).1 ?_
    simp only [if_true]
    by_cases t : (TellsR u list true).1 = true
    · simp only [if_pos t, if_pos (show (L.length : Int) = 1 by have := hone t; omega)]
      exact E5
    · simp only [if_neg t]
      exact E5
  | succ d ih =>
    intro j fl h hf
    have hj : j < L.length := by omega
    have er : rd_T47 L (j : Int) = L[j] := by
      unfold rd_T47
      rw [Int.toNat_natCast]
      exact getD_lt _ hj
    have ew : wrap64 ((j : Int) + 1) = ((j + 1 : Nat) : Int) := by rw [w64 (by omega) (by omega)]; omega
    refine Ev.step (fun k => by rw [laws_FnCoins.l0]) ?_
    simp only [if_pos (show (j : Int) < (L.length : Int) by omega)]
    cases fl with
    | true =>
      simp only [if_true, ew]
      exact ih (j + 1) true (by omega) (.inl rfl)
    | false =>
      simp only [Bool.false_eq_true, if_false, if_pos (show 0 ≤ (j : Int) by omega), er, ew]
      have hd : ∃ e ∈ L[j] :: L.drop (j + 1), e.f0 = coin ∧ e.f1 = sgn := by
        rcases hf with hf | hf
        · cases hf
        · rwa [List.drop_eq_getElem_cons hj] at hf
      obtain ⟨e, he, h1, h2⟩ := hd
      by_cases c1 : (L[j]).f0 = coin
      · by_cases c2 : (L[j]).f1 = sgn
        · simp only [if_pos c1, if_pos c2]
          exact ih (j + 1) true (by omega) (.inl rfl)
        · simp only [if_pos c1, if_neg c2]
          refine ih (j + 1) false (by omega) (.inr ⟨e, ?_, h1, h2⟩)
          rcases List.mem_cons.1 he with rfl | he
          · exact absurd h2 c2
          · exact he
      · simp only [if_neg c1]
        refine ih (j + 1) false (by omega) (.inr ⟨e, ?_, h1, h2⟩)
        rcases List.mem_cons.1 he with rfl | he
        · exact absurd h1 c1
        · exact he
theorem colW_sign {n : Int} {l : List (List Int)} (hp : ∀ i, 0 ≤ i → i < (l.length : Int) → PlanAt n (rd_L2 l i)) {c s : Int} (c0 : 0 ≤ c) (c1 : c < n) (hs : s = 1 ∨ s = -1) : ∀ g ∈ colW l c s, -1 ≤ g ∧ g ≤ 1 := by
  intro g hg
  unfold colW at hg
  obtain ⟨r, hr, rfl⟩ := List.mem_map.1 hg
  obtain ⟨i, hi, rfl⟩ := List.getElem_of_mem hr
  have z := cell_sign hp (i := (i : Int)) (by omega) (by omega) c0 c1
  have er : rd_L2 l (i : Int) = l[i] := by
    unfold rd_L2
    rw [Int.toNat_natCast]
    exact getD_lt _ hi
  rw [er] at z
  rcases hs with rfl | rfl <;> omega
theorem coins_j2 {n : Int} {plan : List (List Int)} {out : List Int} {X : List (S47)} {b : Bool} (E5 : Ev (fun k => laws_FnCoins.j5 k n plan out X b) true) (u : Int) (list : List (List Int)) (hs : Small3 list) (coin : Int) (up : Bool) : Ev (fun k => laws_FnCoins.j2 k n plan out X b u list coin up (CoinOutcomeR u list coin up).1 (CoinOutcomeR u list coin up).2) true := by
  refine Ev.step (fun k => by rw [laws_FnCoins.j2]) ?_
  by_cases h : (decide (2 ≤ u ∧ u ≤ 40) && planB u list) = true ∧ 0 ≤ coin ∧ coin ≤ u - 1
  · have e : CoinOutcomeR u list coin up = (colW list coin (sgnOf up), true) := by unfold CoinOutcomeR; rw [if_pos h]
    rw [e]
    have h' := Bool.and_eq_true_iff.1 h.1
    have hu := of_decide_eq_true h'.1
    have hg := good_plan h'.2
    have hsg : sgnOf up = 1 ∨ sgnOf up = -1 := by cases up <;> simp [sgnOf]
    have hlen : (colW list coin (sgnOf up)).length = list.length := colW_len _ _ _
    have hC : CoinsWithR u list (colW list coin (sgnOf up)) = (coinsW list (colW list coin (sgnOf up)) u.toNat, true) := by
      unfold CoinsWithR
      rw [if_pos ⟨h.1, by rw [hlen], fun j j0 j1 => colW_sign hg.2 h.2.1 (by omega) hsg _ (rd_mem j0 j1)⟩]
    simp only [if_true]
    refine Ev.bind (implCoinsWith_ev u list (colW list coin (sgnOf up)) (small_w hs).1 (small_w hs).2 (by rw [hlen]; exact (small_w hs).1)) ?_
    have hL := CoinsWithR_len u list (colW list coin (sgnOf up))
    rw [hC] at hL ⊢
    obtain ⟨C, hC0⟩ := Int.eq_ofNat_of_zero_le h.2.1
    have has := coinsW_has list (colW list coin (sgnOf up)) C (sgnOf up) hsg (by rw [← hC0]) u.toNat (by omega)
    have hone : (TellsR u list true).1 = true → (coinsW list (colW list coin (sgnOf up)) u.toNat).length = 1 := by
      intro t
      unfold TellsR at t
      rw [if_pos h.1] at t
      rw [coinsW_one list (colW list coin (sgnOf up)) C (sgnOf up) hsg (by rw [← hC0]) u.toNat (fun a t2 ha ht2 e2 => by
        have := both_apart t (a := (a : Int)) (b := coin) (by omega) ⟨h.2.1, by omega⟩ ht2 hsg e2
        exact ⟨by omega, this.2⟩) u.toNat (Nat.le_refl _)]
      exact if_pos (by omega)
    have fin : Ev (fun k => laws_FnCoins.j3 k n plan out X b u list coin (coinsW list (colW list coin (sgnOf up)) u.toNat) true (sgnOf up)) true := by
      refine Ev.step (fun k => by rw [laws_FnCoins.j3]) ?_
      exact coins_l0 E5 u list hs coin (sgnOf up) _ hL hone _ 0 false (Nat.zero_add _) (.inr ⟨_, has, hC0.symm, rfl⟩)
    cases up with
    | true => simp only [if_true]; exact fin
    | false => simp only [Bool.false_eq_true, if_false]; exact fin
  · have e : CoinOutcomeR u list coin up = ([], false) := by unfold CoinOutcomeR; rw [if_neg h]
    rw [e]
    simp only [Bool.false_eq_true, if_false]
    exact E5
theorem coins_j1 {n : Int} {plan : List (List Int)} {out : List Int} {X : List (S47)} {b : Bool} {u coin : Int} {list : List (List Int)} {up two : Bool} {told : List Int} (E2 : Ev (fun k => laws_FnCoins.j2 k n plan out X b u list coin up told two) true) (m : Int) (other : List (List Int)) :
    Ev (fun k => laws_FnCoins.j1 k n plan out X b m other (TellsR m other false).1 (TellsR m other false).2 (TellsR m other true).1 u list coin up told two) true := by
  refine Ev.step (fun k => by rw [laws_FnCoins.j1]) ?_
  by_cases h : (decide (2 ≤ m ∧ m ≤ 40) && planB m other) = true
  · have h' := Bool.and_eq_true_iff.1 h
    have hm := of_decide_eq_true h'.1
    have hg := good_plan h'.2
    have e1 : TellsR m other false = (distB [] (colsD other (signsOf false) m.toNat 0), true) := by unfold TellsR; rw [if_pos h]
    have e2 : TellsR m other true = (distB [] (colsD other (signsOf true) m.toNat 0), true) := by unfold TellsR; rw [if_pos h]
    have e3 : NeedR m = ((needN m : Int), true) := by unfold NeedR; rw [if_pos hm]
    rw [e1, e2]
    simp only [if_true]
    refine Ev.bind (Need_ev m).1 ?_
    rw [e3]
    simp only [if_true]
    by_cases d1 : distB [] (colsD other (signsOf false) m.toNat 0) = true
    · have := tells_needs hm hg.2 d1
      simp only [if_pos d1, if_neg (show ¬ (other.length : Int) < (needN m : Int) by omega)]
      by_cases d2 : distB [] (colsD other (signsOf true) m.toNat 0) = true
      · simp only [if_pos d2]; exact E2
      · simp only [if_neg d2]; exact E2
    · have d2 : ¬ distB [] (colsD other (signsOf true) m.toNat 0) = true := fun d2 => d1 (both_heavy hm.1 d2)
      simp only [if_neg d1, if_neg d2]
      exact E2
  · have e1 : TellsR m other false = (false, false) := by unfold TellsR; rw [if_neg h]
    have e2 : TellsR m other true = (false, false) := by unfold TellsR; rw [if_neg h]
    rw [e1, e2]
    simp only [Bool.false_eq_true, if_false]
    exact E2
theorem coins_j0 {n : Int} {plan : List (List Int)} {out : List Int} {X : List (S47)} {b : Bool} {m u coin : Int} {other list : List (List Int)} {heavy fine both up two : Bool} {told : List Int} (E1 : Ev (fun k => laws_FnCoins.j1 k n plan out X b m other heavy fine both u list coin up told two) true) :
    Ev (fun k => laws_FnCoins.j0 k n plan out X b m other heavy fine both u list coin up told two (HeavyR n).1 (HeavyR n).2 (NeedR n).1 (NeedR n).2 false) true := by
  refine Ev.step (fun k => by rw [laws_FnCoins.j0]) ?_
  simp only [Bool.false_eq_true, if_false]
  by_cases h : 2 ≤ n ∧ n ≤ 40
  · have e1 : HeavyR n = (planH n, true) := by unfold HeavyR; rw [if_pos h]
    have e2 : NeedR n = ((needN n : Int), true) := by unfold NeedR; rw [if_pos h]
    have e3 : IsR n (planH n) = (true, true) := by unfold IsR; rw [if_pos h, (planH_fine h).1]
    have e4 : TellsR n (planH n) false = (true, true) := by unfold TellsR; rw [if_pos (by rw [decide_eq_true h, (planH_fine h).1]; rfl), (planH_fine h).2]
    have hr := planH_rows h
    have hs : Small3 (planH n) := ⟨hr.1, fun y hy => by have := hr.2 y hy; omega⟩
    rw [e1, e2]
    simp only [if_true]
    refine Ev.bind (IsCoinPlan_ev n (planH n) (small_w hs).1 (small_w hs).2).1 (Ev.bind (TellsHeavy_ev n (planH n) (small_w hs).1 (small_w hs).2).1 ?_)
    rw [e3, e4]
    have hl : (planH n).length = needN n := by unfold planH; exact linesH_len _ _ _
    simp only [if_true, if_pos (show ((planH n).length : Int) = (needN n : Int) by omega)]
    exact E1
  · have e1 : HeavyR n = ([], false) := by unfold HeavyR; rw [if_neg h]
    rw [e1]
    simp only [Bool.false_eq_true, if_false]
    exact E1
theorem TellsR_ok (n : Int) (l : List (List Int)) (both : Bool) : (TellsR n l both).2 = (decide (2 ≤ n ∧ n ≤ 40) && planB n l) := by
  unfold TellsR
  by_cases h : (decide (2 ≤ n ∧ n ≤ 40) && planB n l) = true
  · rw [if_pos h, h]
  · rw [if_neg h, Bool.eq_false_iff.2 h]
theorem FnCoins : laws_FnCoins.Pure := by
  intro c h0 h1 h2
  refine Ev.rounds ?_
  unfold laws_FnCoins.f laws_vBig.f
  simp only [Option.bind_some]
  by_cases hb : (c.length : Int) > 65536
  · simp only [decide_eq_true hb, if_true]
    exact Ev.now _
  · simp only [decide_eq_false hb, Bool.false_eq_true, if_false]
    have hc := code8 h1 h2
    obtain ⟨n, plan, out, q1, s1, o1⟩ := DrawCoinsWith_ok hc
    obtain ⟨c1, v1, hc1⟩ := vCut_ok hc (by omega) 1 (by omega)
    obtain ⟨m, other, q2, s2⟩ := DrawIsCoinPlan_ok hc1
    obtain ⟨c2, v2, hc2⟩ := vCut_ok hc (by omega) 2 (by omega)
    obtain ⟨u, list, coin, up, q3, s3⟩ := DrawCoinOutcome_ok hc2
    have w1 := small_w s1
    have w2 := small_w s2
    have w3 := small_w s3
    have hE := coins_j0 (heavy := (TellsR m other false).1) (fine := (TellsR m other false).2) (both := (TellsR m other true).1) (coins_j1 (coins_j2 (coins_j5 n plan out s1 o1) u list s3 coin up) m other)
    have hH := HeavyR_at n
    have hT := TellsR_ok m other
    refine Ev.bind q1 (Ev.bind (implCoinsWith_ev n plan out w1.1 w1.2 (by omega)) (Ev.bind (specCoinsWith_ev n plan out w1.1 w1.2 (by omega)) ?_))
    simp only [v1, Option.bind_some]
    refine Ev.bind q2 (Ev.bind (TellsHeavy_ev m other w2.1 w2.2).1 (Ev.bind (TellsHeavy_ev m other w2.1 w2.2).2 (Ev.bind (TellsBoth_ev m other w2.1 w2.2).1 (Ev.bind (TellsBoth_ev m other w2.1 w2.2).2 (Ev.bind (IsCoinPlan_ev m other w2.1 w2.2).1 (Ev.bind (IsCoinPlan_ev m other w2.1 w2.2).2 ?_))))))
    simp only [v2, Option.bind_some]
    refine Ev.bind q3 (Ev.bind (implCoinOutcome_ev u list coin up w3.1 w3.2) (Ev.bind (specCoinOutcome_ev u list coin up w3.1 w3.2) (Ev.bind (implHeavy_ev n) (Ev.bind (specHeavy_ev n) (Ev.bind (Need_ev n).1 (Ev.bind (Need_ev n).2 ?_))))))
    simp only [bne_self_eq_false, Bool.false_eq_true, if_false]
    refine Ev.bind (vPairs_self _ (by have := CoinsWithR_len n plan out; omega)) ?_
    simp only [if_true]
    refine Ev.bind (vInts_self _ (by have := CoinOutcomeR_len u list coin up; omega)) ?_
    simp only [if_true]
    refine Ev.bind (vTable_self _ (by omega) (fun x hx => by have := hH.2 x hx; omega)) ?_
    simp only [if_true]
    have t1 := hT false
    have t2 := hT true
    by_cases hm : 2 ≤ m ∧ m ≤ 40
    · have e1 : IsR m other = (planB m other, true) := by unfold IsR; rw [if_pos hm]
      rw [decide_eq_true hm, Bool.true_and] at t1 t2
      rw [t1] at hE
      rw [e1, t1, t2]
      simp only [if_true, bne_self_eq_false, Bool.false_eq_true, if_false]
      exact hE
    · have e1 : IsR m other = (false, false) := by unfold IsR; rw [if_neg hm]
      rw [decide_eq_false hm, Bool.false_and] at t1 t2
      rw [t1] at hE
      rw [e1, t1, t2]
      simp only [bne_self_eq_false, Bool.false_eq_true, if_false]
      exact hE


end Go.Proofs.Ytgnmomdgfamhnaa.Pure

