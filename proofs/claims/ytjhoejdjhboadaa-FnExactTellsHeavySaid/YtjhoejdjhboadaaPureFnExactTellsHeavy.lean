/- For every number and plan the plain function of the law FnExactTellsHeavy answers true. -/
import Derived.Test.YtjhoejdjhboadaaPFnExactTellsHeavyx5
import Derived.Test.YtjhoejdjhboadaaLib
set_option linter.unusedVariables false
set_option linter.unusedSimpArgs false
namespace Go.Proofs.Ytjhoejdjhboadaa.Pure
open Go.RowKit Go.Proofs.Ytjhoejdjhboadaa.PFnExactTellsHeavy Go.Proofs.YtjhoejdjhboadaaW.PrintWords Go.Proofs.YtjhoejdjhboadaaW.PrintLast Go.Proofs.Ytjhoejdjhboadaa.Lib

theorem l1In_eq (a b c : Int) : spec_l1In.f a b c = some (decide (b ≤ a ∧ a ≤ c)) := by
  unfold spec_l1In.f
  by_cases h : a ≥ b
  · rw [if_pos h]
    congr 1
    simp only [decide_eq_decide]
    omega
  · rw [if_neg h]
    congr 1
    simp only [Bool.false_eq, decide_eq_false_iff_not]
    omega

theorem within_eq (a b c : Int) : impl_within.f a b c = some (decide (b ≤ a ∧ a ≤ c)) := by
  unfold impl_within.f
  by_cases h : a ≥ b
  · rw [if_pos h]
    congr 1
    simp only [decide_eq_decide]
    omega
  · rw [if_neg h]
    congr 1
    simp only [Bool.false_eq, decide_eq_false_iff_not]
    omega

theorem szIntS_eq (l : List Int) (n : Int) (h0 : 0 ≤ n) (h1 : n ≤ 1048576) (hl : l.length ≤ maxLen) : laws_szIntS.f l n = some (if (l.length : Int) > n then -1 else n - (l.length : Int)) := by
  unfold maxLen at hl
  unfold laws_szIntS.f
  rw [w64 (show -9223372036854775808 ≤ n - (l.length : Int) by omega) (by omega)]
  by_cases h : (l.length : Int) > n
  · rw [if_pos h, if_pos (by omega)]
  · rw [if_neg h, if_neg (by omega)]

/-- What is left of n behind the rows' lengths; -1 behind too many. -/
theorem szIntSS_ev (l : List (List Int)) (hl : l.length ≤ maxLen) (hw : ∀ x ∈ l, x.length ≤ maxLen) : ∃ r, Ev (fun k => laws_szIntSS.f k l 1048576) r ∧ (r < 0 ∨ (l.length ≤ 1048576 ∧ ∀ x ∈ l, x.length ≤ 1048576)) := by
  unfold maxLen at hl
  unfold laws_szIntSS.f
  rw [w64 (show -9223372036854775808 ≤ 1048576 - (l.length : Int) by omega) (by omega)]
  by_cases h : 1048576 - (l.length : Int) < 0
  · exact ⟨-1, by simp only [if_pos h]; exact Ev.now _, .inl (by omega)⟩
  · simp only [if_neg h]
    have key : ∀ (d : Nat) (i n : Int), 0 ≤ i → i + d = l.length → 0 ≤ n → n ≤ 1048576 → (∀ j, 0 ≤ j → j < i → (rd_L1 l j).length ≤ 1048576) → ∃ r, Ev (fun k => laws_szIntSS.l0 k l n i) r ∧ (r < 0 ∨ ∀ j, 0 ≤ j → j < (l.length : Int) → (rd_L1 l j).length ≤ 1048576) := by
      intro d
      induction d with
      | zero =>
        intro i n h0 hd hn0 hn1 hb
        refine ⟨n, Ev.step (fun k => by rw [laws_szIntSS.l0]) ?_, .inr fun j hj0 hj1 => hb j hj0 (by omega)⟩
        simp only [if_neg (show ¬ i < (l.length : Int) by omega)]
        exact Ev.now _
      | succ d ih =>
        intro i n h0 hd hn0 hn1 hb
        have hmem : rd_L1 l i ∈ l := by
          unfold rd_L1
          rw [getD_lt _ (by omega)]
          exact List.getElem_mem _
        by_cases hs : ((rd_L1 l i).length : Int) > n
        · refine ⟨-1, Ev.step (fun k => by rw [laws_szIntSS.l0]) ?_, .inl (by omega)⟩
          simp only [if_pos (show i < (l.length : Int) by omega), if_pos h0, szIntS_eq (rd_L1 l i) n hn0 hn1 (hw _ hmem), Option.bind_some, if_pos hs, show ((-1 : Int) < 0) by decide, if_true]
          exact Ev.now _
        · obtain ⟨r, hr, hp⟩ := ih (i + 1) (n - ((rd_L1 l i).length : Int)) (by omega) (by omega) (by omega) (by omega) (fun j hj0 hj1 => by
            by_cases e : j = i
            · subst e; omega
            · exact hb j hj0 (by omega))
          refine ⟨r, Ev.step (fun k => by rw [laws_szIntSS.l0]) ?_, hp⟩
          simp only [if_pos (show i < (l.length : Int) by omega), if_pos h0, szIntS_eq (rd_L1 l i) n hn0 hn1 (hw _ hmem), Option.bind_some, if_neg hs, if_neg (show ¬ n - ((rd_L1 l i).length : Int) < 0 by omega), w64 (show -9223372036854775808 ≤ i + 1 by omega) (by omega)]
          exact hr
    obtain ⟨r, hr, hp⟩ := key l.length 0 (1048576 - (l.length : Int)) (by omega) (by omega) (by omega) (by omega) (fun j h0 h1 => by omega)
    refine ⟨r, hr, hp.imp id fun hp => ⟨by omega, fun x hx => ?_⟩⟩
    obtain ⟨j, hj, rfl⟩ := List.getElem_of_mem hx
    have := hp j (by omega) (by omega)
    unfold rd_L1 at this
    rwa [Int.toNat_natCast, getD_lt _ hj] at this

theorem toIntS_ev (l : List Int) (hl : l.length ≤ 1048576) : Ev (fun k => laws_toIntS.f k l) l := by
  unfold laws_toIntS.f
  simp only [if_pos (show 0 ≤ (l.length : Int) by omega), if_pos (show ((l.length : Int) : Int).toNat ≤ 35184372088832 by omega)]
  have h := Ev.fold (l := fun k x i => laws_toIntS.l0 k l x i) (n := l.length) (fun i => l.take i.toNat ++ List.replicate (l.length - i.toNat) 0) (a := l)
    (fun i h0 h1 r h => by
      refine Ev.step (fun k => by rw [laws_toIntS.l0]) ?_
      have hx : i < ((l.take i.toNat ++ List.replicate (l.length - i.toNat) (0 : Int)).length : Int) := by
        rw [List.length_append, List.length_take, List.length_replicate]; omega
      simp only [if_pos h1, if_pos h0, if_pos hx, w64 (show -9223372036854775808 ≤ i + 1 by omega) (by omega)]
      unfold rd
      rw [set_fill l 0 0 i.toNat (by omega), ← toNat_succ h0]
      exact h)
    (by
      refine Ev.step (fun k => by rw [laws_toIntS.l0]) ?_
      simp only [if_neg (show ¬ (l.length : Int) < l.length by omega)]
      exact Ev.some (by simp))
    l.length 0 (by omega) (by omega)
  simpa using h

theorem toIntSS_ev (l : List (List Int)) (hl : l.length ≤ 1048576) (hw : ∀ x ∈ l, x.length ≤ 1048576) : Ev (fun k => laws_toIntSS.f k l) l := by
  unfold laws_toIntSS.f
  simp only [if_pos (show 0 ≤ (l.length : Int) by omega), if_pos (show ((l.length : Int) : Int).toNat ≤ 11728124029610 by omega)]
  have h := Ev.fold (l := fun k x i => laws_toIntSS.l0 k l x i) (n := l.length) (fun i => l.take i.toNat ++ List.replicate (l.length - i.toNat) []) (a := l)
    (fun i h0 h1 r h => by
      refine Ev.step (fun k => by rw [laws_toIntSS.l0]) ?_
      have hx : i < ((l.take i.toNat ++ List.replicate (l.length - i.toNat) ([] : List Int)).length : Int) := by
        rw [List.length_append, List.length_take, List.length_replicate]; omega
      have hmem : rd_L1 l i ∈ l := by
        unfold rd_L1
        rw [getD_lt _ (by omega)]
        exact List.getElem_mem _
      simp only [if_pos h1, if_pos h0]
      refine Ev.bind (toIntS_ev (rd_L1 l i) (hw _ hmem)) ?_
      simp only [if_pos hx, w64 (show -9223372036854775808 ≤ i + 1 by omega) (by omega)]
      unfold rd_L1
      rw [set_fill l [] [] i.toNat (by omega), ← toNat_succ h0]
      exact h)
    (by
      refine Ev.step (fun k => by rw [laws_toIntSS.l0]) ?_
      simp only [if_neg (show ¬ (l.length : Int) < l.length by omega)]
      exact Ev.some (by simp))
    l.length 0 (by omega) (by omega)
  simpa using h

theorem eqIntS_ev (a b : List Int) (ha : a.length ≤ 9223372036854775806) : Ev (fun k => laws_eqIntS.f k a b) (decide (a = b)) := by
  unfold laws_eqIntS.f
  by_cases hl : (a.length : Int) = (b.length : Int)
  · simp only [if_pos hl]
    have h := Ev.count' (l := fun k i => laws_eqIntS.l0 k a b i) (n := a.length) (P := fun i => rd a i = rd b i) (a := true) (b := false) (by omega)
      (fun i h0 h1 hp r h => by
        refine Ev.step (fun k => by rw [laws_eqIntS.l0]) ?_
        simp only [if_pos h0, if_pos h1, if_pos (show i < (b.length : Int) by omega), if_pos hp, w64 (show -9223372036854775808 ≤ i + 1 by omega) (by omega)]
        exact h)
      (fun i h0 h1 hp => by
        refine Ev.step (fun k => by rw [laws_eqIntS.l0]) ?_
        simp only [if_pos h0, if_pos h1, if_pos (show i < (b.length : Int) by omega), if_neg hp]
        exact Ev.now _)
      (fun i h0 h1 => by
        refine Ev.step (fun k => by rw [laws_eqIntS.l0]) ?_
        simp only [if_neg (show ¬ i < (a.length : Int) by omega)]
        exact Ev.now _)
    refine Ev.as h ?_
    split
    · rename_i hc
      exact (decide_eq_true (rd_ext (by omega) fun i h0 h1 => hc i h0 h1)).symm
    · rename_i hc
      exact (decide_eq_false fun e => hc fun i h0 h1 => by rw [e]).symm
  · simp only [if_neg hl]
    exact Ev.some (decide_eq_false fun e => hl (by rw [e])).symm
theorem eqIntS_self (a : List Int) (ha : a.length ≤ 9223372036854775806) : Ev (fun k => laws_eqIntS.f k a a) true :=
  Ev.as (eqIntS_ev a a ha) (decide_eq_true rfl)

theorem eqIntSS_ev (a b : List (List Int)) (ha : a.length ≤ 9223372036854775806) (hw : ∀ x ∈ a, x.length ≤ 9223372036854775806) : Ev (fun k => laws_eqIntSS.f k a b) (decide (a = b)) := by
  unfold laws_eqIntSS.f
  by_cases hl : (a.length : Int) = (b.length : Int)
  · simp only [if_pos hl]
    have mem : ∀ i : Int, 0 ≤ i → i < (a.length : Int) → (rd_L1 a i).length ≤ 9223372036854775806 := fun i h0 h1 => hw _ (by
      unfold rd_L1
      rw [getD_lt _ (by omega)]
      exact List.getElem_mem _)
    have h := Ev.count' (l := fun k i => laws_eqIntSS.l0 k a b i) (n := a.length) (P := fun i => rd_L1 a i = rd_L1 b i) (a := true) (b := false) (by omega)
      (fun i h0 h1 hp r h => by
        refine Ev.step (fun k => by rw [laws_eqIntSS.l0]) ?_
        simp only [if_pos h0, if_pos h1, if_pos (show i < (b.length : Int) by omega)]
        refine Ev.bind (eqIntS_ev _ _ (mem i h0 h1)) ?_
        simp only [decide_eq_true hp, if_true, w64 (show -9223372036854775808 ≤ i + 1 by omega) (by omega)]
        exact h)
      (fun i h0 h1 hp => by
        refine Ev.step (fun k => by rw [laws_eqIntSS.l0]) ?_
        simp only [if_pos h0, if_pos h1, if_pos (show i < (b.length : Int) by omega)]
        refine Ev.bind (eqIntS_ev _ _ (mem i h0 h1)) ?_
        simp only [decide_eq_false hp, Bool.false_eq_true, if_false]
        exact Ev.now _)
      (fun i h0 h1 => by
        refine Ev.step (fun k => by rw [laws_eqIntSS.l0]) ?_
        simp only [if_neg (show ¬ i < (a.length : Int) by omega)]
        exact Ev.now _)
    refine Ev.as h ?_
    split
    · rename_i hc
      exact (decide_eq_true (getD_ext [] (by omega) fun i hi => by
        have := hc i (by omega) (by omega)
        unfold rd_L1 at this
        rwa [Int.toNat_natCast] at this)).symm
    · rename_i hc
      exact (decide_eq_false fun e => hc fun i h0 h1 => by rw [e]).symm
  · simp only [if_neg hl]
    exact Ev.some (decide_eq_false fun e => hl (by rw [e])).symm
theorem eqIntSS_self (a : List (List Int)) (ha : a.length ≤ 9223372036854775806) (hw : ∀ x ∈ a, x.length ≤ 9223372036854775806) : Ev (fun k => laws_eqIntSS.f k a a) true :=
  Ev.as (eqIntSS_ev a a ha hw) (decide_eq_true rfl)

/-- Signs alone. -/
def SignAt (l : List Int) (i : Int) : Prop := -1 ≤ rd l i ∧ rd l i ≤ 1
open Classical in
theorem l3Signs_ev (l : List Int) (n : Int) (hl : l.length ≤ 9223372036854775806) : Ev (fun k => spec_l3Signs.f k l n) (if ∀ j, 0 ≤ j → j < (l.length : Int) → SignAt l j then ((l.length : Int) == n) else false) := by
  unfold spec_l3Signs.f
  refine Ev.count' (l := fun k i => spec_l3Signs.l0 k l n i) (n := l.length) (P := SignAt l) (by omega) ?_ ?_ ?_
  · intro i h0 h1 hp r h
    refine Ev.step (fun k => by rw [spec_l3Signs.l0]) ?_
    simp only [if_pos h0, if_pos h1, l1In_eq, Option.bind_some, decide_eq_true_eq, if_pos (show -1 ≤ rd l i ∧ rd l i ≤ 1 from hp), w64 (show -9223372036854775808 ≤ i + 1 by omega) (by omega)]
    exact h
  · intro i h0 h1 hp
    refine Ev.step (fun k => by rw [spec_l3Signs.l0]) ?_
    simp only [if_pos h0, if_pos h1, l1In_eq, Option.bind_some, decide_eq_true_eq, if_neg (show ¬ (-1 ≤ rd l i ∧ rd l i ≤ 1) from hp)]
    exact Ev.now _
  · intro i h0 h1
    refine Ev.step (fun k => by rw [spec_l3Signs.l0]) ?_
    simp only [if_neg (show ¬ i < (l.length : Int) by omega)]
    exact Ev.now _

theorem isSign_eq (a : Int) : impl_isSign.f a = some (decide (-1 ≤ a ∧ a ≤ 1)) := by
  unfold impl_isSign.f
  simp only [within_eq, Option.bind_some]

theorem l3Coins_eq (a : Int) : spec_l3Coins.f a = some (decide (2 ≤ a ∧ a ≤ 40)) := by
  unfold spec_l3Coins.f
  simp only [l1In_eq, Option.bind_some]
theorem areCoins_eq (a : Int) : impl_areCoins.f a = some (decide (2 ≤ a ∧ a ≤ 40)) := by
  unfold impl_areCoins.f
  simp only [within_eq, Option.bind_some]

theorem first_nat {P : Nat → Prop} (n : Nat) : P n → ∃ i, i ≤ n ∧ P i ∧ ∀ j, j < i → ¬ P j := by
  induction n using Nat.strongRecOn with
  | _ n ih =>
    intro h
    by_cases hc : ∃ j, j < n ∧ P j
    · obtain ⟨j, hj, hp⟩ := hc
      obtain ⟨i, hi, hpi, hf⟩ := ih j hj hp
      exact ⟨i, by omega, hpi, hf⟩
    · exact ⟨n, Nat.le_refl _, h, fun j hj hp => hc ⟨j, hj, hp⟩⟩
/-- The first place at which something holds. -/
theorem first_of {P : Int → Prop} {n : Int} (h : ∃ i, 0 ≤ i ∧ i < n ∧ P i) : ∃ i, 0 ≤ i ∧ i < n ∧ P i ∧ ∀ j, 0 ≤ j → j < i → ¬ P j := by
  obtain ⟨i, h0, h1, hp⟩ := h
  obtain ⟨m, hm, hpm, hf⟩ := first_nat (P := fun m => P (m : Int)) i.toNat (by rw [Int.toNat_of_nonneg h0]; exact hp)
  refine ⟨m, by omega, by omega, hpm, fun j hj0 hj => ?_⟩
  have := hf j.toNat (by omega)
  rwa [Int.toNat_of_nonneg hj0] at this
/-- `Ev.fold` up to a place n. -/
theorem Ev.upto {α σ : Type} {l : Nat → σ → Int → Option α} {n : Int} (st : Int → σ) {a : α} (hn : 0 ≤ n)
    (hstep : ∀ i, 0 ≤ i → i < n → ∀ r, Ev (fun k => l k (st (i + 1)) (i + 1)) r → Ev (fun k => l k (st i) i) r)
    (hend : Ev (fun k => l k (st n) n) a) : Ev (fun k => l k (st 0) 0) a :=
  Ev.fold st hstep hend n.toNat 0 (by omega) (by omega)

def totStep (s x : Int) : Int := wrap64 (s + x)
def totW (l : List Int) : Int := l.foldl totStep 0
theorem take_succ_rdI (l : List Int) (i : Int) (h0 : 0 ≤ i) (h1 : i < l.length) : l.take (i + 1).toNat = l.take i.toNat ++ [rd l i] := by
  rw [toNat_succ h0, List.take_add_one, List.getElem?_eq_getElem (by omega)]
  unfold rd
  rw [getD_lt _ (by omega)]
  rfl
theorem l3Total_ev (l : List Int) (hl : l.length ≤ 9223372036854775806) : Ev (fun k => spec_l3Total.f k l) (totW l) := by
  unfold spec_l3Total.f
  have h := Ev.fold (l := fun k s i => spec_l3Total.l0 k l s i) (n := l.length) (fun i => (l.take i.toNat).foldl totStep 0) (a := totW l)
    (fun i h0 h1 r h => by
      refine Ev.step (fun k => by rw [spec_l3Total.l0]) ?_
      simp only [if_pos h1, if_pos h0, w64 (show -9223372036854775808 ≤ i + 1 by omega) (by omega)]
      rw [take_succ_rdI l i h0 h1, List.foldl_append] at h
      exact h)
    (by
      refine Ev.step (fun k => by rw [spec_l3Total.l0]) ?_
      simp only [if_neg (show ¬ (l.length : Int) < l.length by omega)]
      exact Ev.some (by simp [totW]))
    l.length 0 (by omega) (by omega)
  simpa using h
/-- A row of a plan for n coins. -/
def PlanAt (n : Int) (r : List Int) : Prop := ((r.length : Int) = n ∧ ∀ j, 0 ≤ j → j < (r.length : Int) → SignAt r j) ∧ totW r = 0
open Classical in
noncomputable def planB (n : Int) (l : List (List Int)) : Bool := if ∀ i, 0 ≤ i → i < (l.length : Int) → PlanAt n (rd_L1 l i) then decide ((l.length : Int) ≤ 5) else false
theorem rdI_len {l : List (List Int)} (hw : ∀ x ∈ l, x.length ≤ 1048576) (i : Int) : (rd_L1 l i).length ≤ 1048576 := by
  unfold rd_L1
  by_cases h : i.toNat < l.length
  · rw [getD_lt _ h]; exact hw _ (List.getElem_mem _)
  · rw [List.getD_eq_getElem?_getD, List.getElem?_eq_none (by omega)]; simp
theorem l3Plan_ev (n : Int) (l : List (List Int)) (hl : l.length ≤ 1048576) (hw : ∀ x ∈ l, x.length ≤ 1048576) : Ev (fun k => spec_l3Plan.f k n l) (planB n l) := by
  unfold spec_l3Plan.f planB
  refine Ev.count' (l := fun k i => spec_l3Plan.l0 k n l i) (n := l.length) (P := fun i => PlanAt n (rd_L1 l i)) (by omega) ?_ ?_ ?_
  · intro i h0 h1 hp r h
    refine Ev.step (fun k => by rw [spec_l3Plan.l0]) ?_
    simp only [if_pos h0, if_pos h1]
    have hlen := rdI_len hw i
    refine Ev.bind (l3Signs_ev (rd_L1 l i) n (by omega)) ?_
    rw [if_pos hp.1.2]
    simp only [beq_iff_eq.2 hp.1.1, if_true]
    refine Ev.bind (l3Total_ev (rd_L1 l i) (by omega)) ?_
    simp only [if_pos hp.2, w64 (show -9223372036854775808 ≤ i + 1 by omega) (by omega)]
    exact h
  · intro i h0 h1 hp
    refine Ev.step (fun k => by rw [spec_l3Plan.l0]) ?_
    simp only [if_pos h0, if_pos h1]
    have hlen := rdI_len hw i
    refine Ev.bind (l3Signs_ev (rd_L1 l i) n (by omega)) ?_
    by_cases h2 : ∀ j, 0 ≤ j → j < ((rd_L1 l i).length : Int) → SignAt (rd_L1 l i) j
    · rw [if_pos h2]
      by_cases h3 : ((rd_L1 l i).length : Int) = n
      · simp only [beq_iff_eq.2 h3, if_true]
        refine Ev.bind (l3Total_ev (rd_L1 l i) (by omega)) ?_
        simp only [if_neg (show ¬ totW (rd_L1 l i) = 0 from fun h => hp ⟨⟨h3, h2⟩, h⟩)]
        exact Ev.now _
      · simp only [beq_eq_false_iff_ne.2 h3, Bool.false_eq_true, if_false]
        exact Ev.now _
    · rw [if_neg h2]
      simp only [Bool.false_eq_true, if_false]
      exact Ev.now _
  · intro i h0 h1
    refine Ev.step (fun k => by rw [spec_l3Plan.l0]) ?_
    simp only [if_neg (show ¬ i < (l.length : Int) by omega)]
    exact Ev.now _

/-- The inner loop of isPlan: over one row, from its begin, goes on where the row is fine. -/
theorem isPlan_row (n : Int) (l : List (List Int)) (m i : Int) (r : List Int) (hr : r.length ≤ 1048576) (hs : ∀ j, 0 ≤ j → j < (r.length : Int) → SignAt r j) (hi0 : 0 ≤ i) (hi1 : i ≤ 1048576) {a : Bool}
    (h : Ev (fun k => if totW r = 0 then impl_isPlan.l0 k n l l m (i + 1) else some false) a) : Ev (fun k => impl_isPlan.l1 k n l 0 l m i r r.length 0) a := by
  have h := Ev.fold (l := fun k s j => impl_isPlan.l1 k n l s l m i r r.length j) (n := r.length) (fun j => (r.take j.toNat).foldl totStep 0) (a := a)
    (fun j h0 h1 q h => by
      refine Ev.step (fun k => by rw [impl_isPlan.l1]) ?_
      simp only [if_pos h1, if_pos h0, isSign_eq, Option.bind_some, decide_eq_true_eq, if_pos (show -1 ≤ rd r j ∧ rd r j ≤ 1 from hs j h0 h1), w64 (show -9223372036854775808 ≤ j + 1 by omega) (by omega)]
      rw [take_succ_rdI r j h0 h1, List.foldl_append] at h
      exact h)
    (by
      refine Ev.step (fun k => by rw [impl_isPlan.l1]) ?_
      simp only [if_neg (show ¬ (r.length : Int) < r.length by omega), w64 (show -9223372036854775808 ≤ i + 1 by omega) (by omega)]
      rw [show r.take (r.length : Int).toNat = r by simp]
      exact h)
    r.length 0 (by omega) (by omega)
  simpa using h
theorem isPlan_bad (n : Int) (l : List (List Int)) (m i : Int) (r : List Int) (hr : r.length ≤ 1048576) (hs : ¬ ∀ j, 0 ≤ j → j < (r.length : Int) → SignAt r j) : Ev (fun k => impl_isPlan.l1 k n l 0 l m i r r.length 0) false := by
  simp only [Classical.not_forall] at hs
  obtain ⟨j, hj0, hj1, hj2⟩ := hs
  obtain ⟨q, hq0, hq1, hq2, hq3⟩ := first_of (P := fun j => ¬ SignAt r j) ⟨j, hj0, hj1, hj2⟩
  have h := Ev.upto (l := fun k s j => impl_isPlan.l1 k n l s l m i r r.length j) (n := q) (fun j => (r.take j.toNat).foldl totStep 0) (a := false) hq0
    (fun j h0 h1 p h => by
      refine Ev.step (fun k => by rw [impl_isPlan.l1]) ?_
      simp only [if_pos (show j < (r.length : Int) by omega), if_pos h0, isSign_eq, Option.bind_some, decide_eq_true_eq, if_pos (show -1 ≤ rd r j ∧ rd r j ≤ 1 from Classical.not_not.1 (hq3 j h0 h1)), w64 (show -9223372036854775808 ≤ j + 1 by omega) (by omega)]
      rw [take_succ_rdI r j h0 (by omega), List.foldl_append] at h
      exact h)
    (by
      refine Ev.step (fun k => by rw [impl_isPlan.l1]) ?_
      simp only [if_pos hq1, if_pos hq0, isSign_eq, Option.bind_some, decide_eq_true_eq, if_neg (show ¬ (-1 ≤ rd r q ∧ rd r q ≤ 1) from hq2)]
      exact Ev.now _)
  simpa using h
theorem isPlan_ev (n : Int) (l : List (List Int)) (hl : l.length ≤ 1048576) (hw : ∀ x ∈ l, x.length ≤ 1048576) : Ev (fun k => impl_isPlan.f k n l) (decide (2 ≤ n ∧ n ≤ 40) && planB n l) := by
  unfold impl_isPlan.f
  have h := Ev.count' (l := fun k i => impl_isPlan.l0 k n l l l.length i) (n := l.length) (P := fun i => PlanAt n (rd_L1 l i)) (a := decide (2 ≤ n ∧ n ≤ 40) && decide ((l.length : Int) ≤ 5)) (b := false) (by omega)
    (fun i h0 h1 hp r h => by
      refine Ev.step (fun k => by rw [impl_isPlan.l0]) ?_
      simp only [if_pos h0, if_pos h1, if_pos hp.1.1]
      refine isPlan_row n l l.length i (rd_L1 l i) (rdI_len hw i) hp.1.2 h0 (by omega) ?_
      simp only [if_pos hp.2]
      exact h)
    (fun i h0 h1 hp => by
      refine Ev.step (fun k => by rw [impl_isPlan.l0]) ?_
      simp only [if_pos h0, if_pos h1]
      by_cases h3 : ((rd_L1 l i).length : Int) = n
      · simp only [if_pos h3]
        by_cases h2 : ∀ j, 0 ≤ j → j < ((rd_L1 l i).length : Int) → SignAt (rd_L1 l i) j
        · refine isPlan_row n l l.length i (rd_L1 l i) (rdI_len hw i) h2 h0 (by omega) ?_
          simp only [if_neg (show ¬ totW (rd_L1 l i) = 0 from fun h => hp ⟨⟨h3, h2⟩, h⟩)]
          exact Ev.now _
        · exact isPlan_bad n l l.length i (rd_L1 l i) (rdI_len hw i) h2
      · simp only [if_neg h3]
        exact Ev.now _)
    (fun i h0 h1 => by
      refine Ev.step (fun k => by rw [impl_isPlan.l0]) ?_
      simp only [if_neg (show ¬ i < (l.length : Int) by omega), areCoins_eq, Option.bind_some, decide_eq_true_eq]
      by_cases hc : 2 ≤ n ∧ n ≤ 40
      · simp only [if_pos hc, decide_eq_true hc, Bool.true_and]
        exact Ev.now _
      · simp only [if_neg hc, decide_eq_false hc, Bool.false_and]
        exact Ev.now _)
  refine Ev.as h ?_
  unfold planB
  split
  · rfl
  · rw [Bool.and_false]

/-- The outcome of a coin, heavier (1) or lighter (-1). -/
def colW (l : List (List Int)) (c s : Int) : List Int := l.map fun r => s * rd r c
theorem good_plan {n : Int} {l : List (List Int)} (h : planB n l = true) : l.length ≤ 5 ∧ ∀ i, 0 ≤ i → i < (l.length : Int) → PlanAt n (rd_L1 l i) := by
  unfold planB at h
  split at h
  · rename_i hp
    exact ⟨by have := of_decide_eq_true h; omega, hp⟩
  · cases h
theorem take_succ_rdL (l : List (List Int)) (i : Int) (h0 : 0 ≤ i) (h1 : i < l.length) : l.take (i + 1).toNat = l.take i.toNat ++ [rd_L1 l i] := by
  rw [toNat_succ h0, List.take_add_one]
  unfold rd_L1
  rw [getD_lt _ (show i.toNat < l.length by omega), List.getElem?_eq_getElem (show i.toNat < l.length by omega)]
  rfl
theorem colW_len (l : List (List Int)) (c s : Int) : (colW l c s).length = l.length := List.length_map _
theorem colW_take (l : List (List Int)) (c s i : Int) (h0 : 0 ≤ i) (h1 : i < l.length) : colW (l.take (i + 1).toNat) c s = colW (l.take i.toNat) c s ++ [s * rd (rd_L1 l i) c] := by
  rw [take_succ_rdL l i h0 h1]
  simp [colW]
theorem cell_sign {n : Int} {l : List (List Int)} (hp : ∀ i, 0 ≤ i → i < (l.length : Int) → PlanAt n (rd_L1 l i)) {i c : Int} (h0 : 0 ≤ i) (h1 : i < l.length) (c0 : 0 ≤ c) (c1 : c < n) : c < ((rd_L1 l i).length : Int) ∧ -1 ≤ rd (rd_L1 l i) c ∧ rd (rd_L1 l i) c ≤ 1 := by
  have h := hp i h0 h1
  have hl := h.1.1
  have := h.1.2 c c0 (by omega)
  exact ⟨by omega, this⟩

theorem implOutcome_ev {n : Int} {l : List (List Int)} (hl : l.length ≤ 5) (hp : ∀ i, 0 ≤ i → i < (l.length : Int) → PlanAt n (rd_L1 l i)) {c s : Int} (c0 : 0 ≤ c) (c1 : c < n) (hs : s = 1 ∨ s = -1) :
    Ev (fun k => impl_outcomeOf.f k l c s) (colW l c s) := by
  unfold impl_outcomeOf.f
  have h := Ev.fold (l := fun k o i => impl_outcomeOf.l0 k c s o l l.length i) (n := l.length) (fun i => colW (l.take i.toNat) c s) (a := colW l c s)
    (fun i h0 h1 r h => by
      refine Ev.step (fun k => by rw [impl_outcomeOf.l0]) ?_
      have hx : (colW (l.take i.toNat) c s).length < 17592186044416 := by rw [colW_len, List.length_take]; omega
      have hc := cell_sign hp h0 h1 c0 c1
      have e : wrap64 (s * rd (rd_L1 l i) c) = s * rd (rd_L1 l i) c := by rcases hs with rfl | rfl <;> exact w64 (by omega) (by omega)
      simp only [if_pos h1, if_pos h0, if_pos c0, if_pos hc.1, if_pos hx, e, w64 (show -9223372036854775808 ≤ i + 1 by omega) (by omega)]
      rw [colW_take l c s i h0 h1] at h
      exact h)
    (by
      refine Ev.step (fun k => by rw [impl_outcomeOf.l0]) ?_
      simp only [if_neg (show ¬ (l.length : Int) < l.length by omega)]
      exact Ev.some (by simp))
    l.length 0 (by omega) (by omega)
  simpa [colW] using h

def sgnOf (heavy : Bool) : Int := if heavy = true then 1 else -1
theorem specOutcome_ev {n : Int} {l : List (List Int)} (hl : l.length ≤ 5) (hp : ∀ i, 0 ≤ i → i < (l.length : Int) → PlanAt n (rd_L1 l i)) {c : Int} (heavy : Bool) (c0 : 0 ≤ c) (c1 : c < n) :
    Ev (fun k => spec_l3Outcome.f k l c heavy) (colW l c (sgnOf heavy)) := by
  unfold spec_l3Outcome.f
  have h := Ev.fold (l := fun k o i => spec_l3Outcome.l0 k l c heavy o i) (n := l.length) (fun i => colW (l.take i.toNat) c (sgnOf heavy)) (a := colW l c (sgnOf heavy))
    (fun i h0 h1 r h => by
      refine Ev.step (fun k => by rw [spec_l3Outcome.l0]) ?_
      have hx : (colW (l.take i.toNat) c (sgnOf heavy)).length < 17592186044416 := by rw [colW_len, List.length_take]; omega
      have hc := cell_sign hp h0 h1 c0 c1
      rw [colW_take l c _ i h0 h1] at h
      cases heavy
      · have e : wrap64 (-(rd (rd_L1 l i) c)) = -1 * rd (rd_L1 l i) c := by rw [w64 (by omega) (by omega)]; omega
        simp only [sgnOf, Bool.false_eq_true, if_false] at h hx ⊢
        simp only [if_pos h1, if_pos h0, if_pos c0, if_pos hc.1, if_pos hx, e, w64 (show -9223372036854775808 ≤ i + 1 by omega) (by omega)]
        exact h
      · simp only [sgnOf, if_true, Int.one_mul] at h hx ⊢
        simp only [if_pos h1, if_pos h0, if_pos c0, if_pos hc.1, if_pos hx, w64 (show -9223372036854775808 ≤ i + 1 by omega) (by omega)]
        exact h)
    (by
      refine Ev.step (fun k => by rw [spec_l3Outcome.l0]) ?_
      simp only [if_neg (show ¬ (l.length : Int) < l.length by omega)]
      exact Ev.some (by simp))
    l.length 0 (by omega) (by omega)
  simpa [colW] using h

/-- The outcomes of d coins from c on. -/
def colsD (l : List (List Int)) (signs : List Int) : Nat → Int → List (List Int)
  | 0, _ => []
  | d + 1, c => signs.map (colW l c) ++ colsD l signs d (c + 1)
/-- None of these comes twice, and none is among those seen. -/
def distB (seen : List (List Int)) : List (List Int) → Bool
  | [] => true
  | x :: xs => if seen.any (fun y => y == x) = true then false else distB (seen ++ [x]) xs
def Dist (X : List (List Int)) (m : Nat) : Prop := ∀ i j : Nat, m ≤ i → i < X.length → j < i → X.getD i [] ≠ X.getD j []
theorem distB_iff : ∀ (xs seen : List (List Int)), distB seen xs = true ↔ Dist (seen ++ xs) seen.length
  | [], seen => by
    constructor
    · intro _ i j h1 h2
      rw [List.append_nil] at h2
      omega
    · intro _; rfl
  | x :: xs, seen => by
    have ih := distB_iff xs (seen ++ [x])
    rw [List.append_assoc, List.singleton_append, List.length_append, List.length_singleton] at ih
    unfold distB
    have hx : (seen ++ x :: xs).getD seen.length [] = x := by
      rw [List.getD_eq_getElem?_getD, List.getElem?_append_right (Nat.le_refl _), Nat.sub_self]; rfl
    have hj : ∀ j, j < seen.length → (seen ++ x :: xs).getD j [] = seen.getD j [] := fun j h => by
      rw [List.getD_eq_getElem?_getD, List.getD_eq_getElem?_getD, List.getElem?_append_left h]
    by_cases h : seen.any (fun y => y == x) = true
    · rw [if_pos h]
      constructor
      · intro h2; cases h2
      · intro hD
        obtain ⟨y, hy, e⟩ := List.any_eq_true.1 h
        obtain ⟨j, hjl, rfl⟩ := List.getElem_of_mem hy
        refine absurd ?_ (hD seen.length j (Nat.le_refl _) (by rw [List.length_append, List.length_cons]; omega) hjl)
        rw [hx, hj j hjl, getD_lt _ hjl]
        exact (beq_iff_eq.1 e).symm
    · rw [if_neg h, ih]
      constructor
      · intro hD i j h1 h2 h3
        by_cases e : i = seen.length
        · subst e
          rw [hx, hj j h3]
          intro e2
          refine h (List.any_eq_true.2 ⟨seen.getD j [], ?_, by rw [beq_iff_eq]; exact e2.symm⟩)
          rw [getD_lt _ h3]; exact List.getElem_mem _
        · exact hD i j (by omega) h2 h3
      · intro hD i j h1 h2 h3
        exact hD i j (by omega) h2 h3

theorem seenHas_eq {seen : List (List Int)} {row : List Int} (h1 : seen.length ≤ 1000) (h2 : row.length ≤ 1000) : seenHas.f seen row = some (seen.any fun y => y == row) := by
  unfold seenHas.f
  rw [if_pos ⟨by omega, by omega⟩]
theorem implTells_in {n : Int} {l : List (List Int)} {signs : List Int} (hl : l.length ≤ 5) (hp : ∀ i, 0 ≤ i → i < (l.length : Int) → PlanAt n (rd_L1 l i)) (hs : ∀ s ∈ signs, s = 1 ∨ s = -1) (hs2 : signs.length ≤ 2) (hn : n ≤ 40) {c : Int} (c0 : 0 ≤ c) (c1 : c < n) (rest : List (List Int)) (B : Nat) (hB : B ≤ 1000)
    (ih : ∀ seen : List (List Int), seen.length ≤ B → Ev (fun k => impl_tells.l0 k l signs seen n (c + 1)) (distB seen rest)) :
    ∀ (d j : Nat) (seen : List (List Int)), j + d = signs.length → seen.length + d ≤ B → Ev (fun k => impl_tells.l1 k l signs seen c n c signs signs.length (j : Int)) (distB seen ((signs.drop j).map (colW l c) ++ rest)) := by
  intro d
  induction d with
  | zero =>
    intro j seen h1 h2
    refine Ev.step (fun k => by rw [impl_tells.l1]) ?_
    simp only [if_neg (show ¬ (j : Int) < (signs.length : Int) by omega), w64 (show -9223372036854775808 ≤ c + 1 by omega) (by omega)]
    rw [List.drop_eq_nil_of_le (by omega), List.map_nil, List.nil_append]
    exact ih seen (by omega)
  | succ d ihd =>
    intro j seen h1 h2
    have hj : j < signs.length := by omega
    refine Ev.step (fun k => by rw [impl_tells.l1]) ?_
    simp only [if_pos (show (j : Int) < (signs.length : Int) by omega), if_pos (show 0 ≤ (j : Int) by omega)]
    have hm : rd signs (j : Int) ∈ signs := rd_mem (by omega) (by omega)
    refine Ev.bind (implOutcome_ev hl hp c0 c1 (hs _ hm)) ?_
    simp only [seenHas_eq (seen := seen) (row := colW l c (rd signs (j : Int))) (by omega) (by rw [colW_len]; omega), Option.bind_some]
    have e : signs.drop j = rd signs (j : Int) :: signs.drop (j + 1) := by
      rw [List.drop_eq_getElem_cons hj]
      unfold rd
      rw [Int.toNat_natCast, getD_lt _ hj]
    rw [e, List.map_cons, List.cons_append]
    unfold distB
    by_cases h : (seen.any fun y => y == colW l c (rd signs (j : Int))) = true
    · simp only [if_pos h]; exact Ev.now _
    · simp only [if_neg h, if_pos (show seen.length < 5864062014805 by omega)]
      rw [show wrap64 ((j : Int) + 1) = ((j + 1 : Nat) : Int) by rw [w64 (by omega) (by omega)]; omega]
      exact ihd (j + 1) (seen ++ [colW l c (rd signs (j : Int))]) (by omega) (by rw [List.length_append, List.length_singleton]; omega)
theorem implTells_ev {n : Int} {l : List (List Int)} {signs : List Int} (hl : l.length ≤ 5) (hp : ∀ i, 0 ≤ i → i < (l.length : Int) → PlanAt n (rd_L1 l i)) (hs : ∀ s ∈ signs, s = 1 ∨ s = -1) (hs2 : signs.length ≤ 2) (hn : n ≤ 40) :
    ∀ (d : Nat) (c : Int) (seen : List (List Int)), 0 ≤ c → c + d = n → seen.length + 2 * d ≤ 1000 → Ev (fun k => impl_tells.l0 k l signs seen n c) (distB seen (colsD l signs d c)) := by
  intro d
  induction d with
  | zero =>
    intro c seen c0 h1 h2
    refine Ev.step (fun k => by rw [impl_tells.l0]) ?_
    simp only [if_neg (show ¬ c < n by omega)]
    exact Ev.now _
  | succ d ih =>
    intro c seen c0 h1 h2
    refine Ev.step (fun k => by rw [impl_tells.l0]) ?_
    simp only [if_pos (show c < n by omega)]
    exact implTells_in hl hp hs hs2 hn c0 (by omega) (colsD l signs d (c + 1)) (1000 - 2 * d) (by omega) (fun seen' h => ih (c + 1) seen' (by omega) (by omega) (by omega)) signs.length 0 seen (by omega) (by omega)

theorem l1Same_ev (a b : List Int) (ha : a.length ≤ 9223372036854775806) : Ev (fun k => spec_l1Same.f k a b) (decide (a = b)) := by
  unfold spec_l1Same.f
  by_cases hl : (a.length : Int) = (b.length : Int)
  · simp only [if_pos hl]
    have h := Ev.count' (l := fun k i => spec_l1Same.l0 k a b i) (n := a.length) (P := fun i => rd a i = rd b i) (a := true) (b := false) (by omega)
      (fun i h0 h1 hp r h => by
        refine Ev.step (fun k => by rw [spec_l1Same.l0]) ?_
        simp only [if_pos h1, if_pos h0, if_pos (show i < (b.length : Int) by omega), if_pos hp, w64 (show -9223372036854775808 ≤ i + 1 by omega) (by omega)]
        exact h)
      (fun i h0 h1 hp => by
        refine Ev.step (fun k => by rw [spec_l1Same.l0]) ?_
        simp only [if_pos h1, if_pos h0, if_pos (show i < (b.length : Int) by omega), if_neg hp]
        exact Ev.now _)
      (fun i _ e => by
        subst e
        refine Ev.step (fun k => by rw [spec_l1Same.l0]) ?_
        simp only [if_neg (show ¬ (a.length : Int) < a.length by omega)]
        exact Ev.now _)
    refine Ev.as h ?_
    by_cases e : a = b
    · rw [if_pos (fun i _ _ => by rw [e]), decide_eq_true e]
    · rw [if_neg (fun hh => e (rd_ext (by omega) hh)), decide_eq_false e]
  · simp only [if_neg hl]
    rw [decide_eq_false (fun e => hl (by rw [e]))]
    exact Ev.now _

open Classical in
theorem specTells_look (X : List (List Int)) (hX : X.length ≤ 1000) (hw : ∀ x ∈ X, x.length ≤ 1000) : Ev (fun k => spec_l3Tells.l1 k X 0) (distB [] X) := by
  have hr : ∀ i : Int, (rd_L1 X i).length ≤ 1000 := fun i => by
    unfold rd_L1
    by_cases h : i.toNat < X.length
    · rw [getD_lt _ h]; exact hw _ (List.getElem_mem _)
    · rw [List.getD_eq_getElem?_getD, List.getElem?_eq_none (by omega)]; simp
  have inner : ∀ i : Int, 0 ≤ i → i < X.length → ∀ r, Ev (fun k => spec_l3Tells.l1 k X (i + 1)) r → Ev (fun k => spec_l3Tells.l2 k X i 0) (if ∀ j, 0 ≤ j → j < i → ¬ rd_L1 X i = rd_L1 X j then r else false) := fun i i0 i1 r h => by
    refine Ev.count' (l := fun k j => spec_l3Tells.l2 k X i j) (n := i) (P := fun j => ¬ rd_L1 X i = rd_L1 X j) (a := r) (b := false) i0 ?_ ?_ ?_
    · intro j j0 j1 hp r2 h2
      refine Ev.step (fun k => by rw [spec_l3Tells.l2]) ?_
      simp only [if_pos j1, if_pos i0, if_pos i1, if_pos j0, if_pos (show j < (X.length : Int) by omega)]
      refine Ev.bind (l1Same_ev _ _ (by have := hr i; omega)) ?_
      simp only [decide_eq_false hp, Bool.false_eq_true, if_false, w64 (show -9223372036854775808 ≤ j + 1 by omega) (by omega)]
      exact h2
    · intro j j0 j1 hp
      refine Ev.step (fun k => by rw [spec_l3Tells.l2]) ?_
      simp only [if_pos j1, if_pos i0, if_pos i1, if_pos j0, if_pos (show j < (X.length : Int) by omega)]
      refine Ev.bind (l1Same_ev _ _ (by have := hr i; omega)) ?_
      simp only [decide_eq_true (Classical.not_not.1 hp), if_true]
      exact Ev.now _
    · intro m _ e
      subst e
      refine Ev.step (fun k => by rw [spec_l3Tells.l2]) ?_
      simp only [if_neg (show ¬ m < m by omega), w64 (show -9223372036854775808 ≤ m + 1 by omega) (by omega)]
      exact h
  have h := Ev.count' (l := fun k i => spec_l3Tells.l1 k X i) (n := X.length) (P := fun i => ∀ j, 0 ≤ j → j < i → ¬ rd_L1 X i = rd_L1 X j) (a := true) (b := false) (by omega)
    (fun i h0 h1 hp r h => by
      refine Ev.step (fun k => by rw [spec_l3Tells.l1]) ?_
      simp only [if_pos h1]
      refine Ev.as (inner i h0 h1 r h) ?_
      rw [if_pos hp])
    (fun i h0 h1 hp => by
      refine Ev.step (fun k => by rw [spec_l3Tells.l1]) ?_
      simp only [if_pos h1]
      obtain ⟨j, hj⟩ := Classical.not_forall.1 hp
      have hj0 : 0 ≤ j := by
        by_cases x : 0 ≤ j
        · exact x
        · exact absurd (fun a => absurd a x) hj
      have hj1 : j < i := by
        by_cases x : j < i
        · exact x
        · exact absurd (fun _ a => absurd a x) hj
      have hjj : rd_L1 X i = rd_L1 X j := Classical.not_not.1 (fun x => hj (fun _ _ => x))
      -- the search stops at the first that is the same
      have stop : ∀ (d : Nat) (m : Int), 0 ≤ m → m ≤ j → j - m = d → Ev (fun k => spec_l3Tells.l2 k X i m) false := by
        intro d
        induction d with
        | zero =>
          intro m m0 m1 hd
          obtain rfl : m = j := by omega
          refine Ev.step (fun k => by rw [spec_l3Tells.l2]) ?_
          simp only [if_pos hj1, if_pos h0, if_pos h1, if_pos m0, if_pos (show m < (X.length : Int) by omega)]
          refine Ev.bind (l1Same_ev _ _ (by have := hr i; omega)) ?_
          simp only [decide_eq_true hjj, if_true]
          exact Ev.now _
        | succ d ihd =>
          intro m m0 m1 hd
          refine Ev.step (fun k => by rw [spec_l3Tells.l2]) ?_
          simp only [if_pos (show m < i by omega), if_pos h0, if_pos h1, if_pos m0, if_pos (show m < (X.length : Int) by omega)]
          refine Ev.bind (l1Same_ev _ _ (by have := hr i; omega)) ?_
          by_cases x : rd_L1 X i = rd_L1 X m
          · simp only [decide_eq_true x, if_true]; exact Ev.now _
          · simp only [decide_eq_false x, Bool.false_eq_true, if_false, w64 (show -9223372036854775808 ≤ m + 1 by omega) (by omega)]
            exact ihd (m + 1) (by omega) (by omega) (by omega)
      exact stop j.toNat 0 (by omega) hj0 (by omega))
    (fun i _ e => by
      subst e
      refine Ev.step (fun k => by rw [spec_l3Tells.l1]) ?_
      simp only [if_neg (show ¬ (X.length : Int) < X.length by omega)]
      exact Ev.now _)
  refine Ev.as h ?_
  have hD := distB_iff X []
  rw [List.nil_append, List.length_nil] at hD
  by_cases hall : ∀ i : Int, 0 ≤ i → i < X.length → ∀ j, 0 ≤ j → j < i → ¬ rd_L1 X i = rd_L1 X j
  · rw [if_pos hall]
    refine (hD.2 fun i j _ h2 h3 => ?_).symm
    have := hall (i : Int) (by omega) (by omega) (j : Int) (by omega) (by omega)
    unfold rd_L1 at this
    rwa [Int.toNat_natCast, Int.toNat_natCast] at this
  · rw [if_neg hall]
    cases hd : distB [] X
    · rfl
    · refine absurd (fun i h0 h1 j j0 j1 => ?_) hall
      have := hD.1 hd i.toNat j.toNat (by omega) (by omega) (by omega)
      unfold rd_L1
      exact this
def signsOf (both : Bool) : List Int := if both = true then [1, -1] else [1]
theorem colsD_len (l : List (List Int)) (both : Bool) : ∀ (d : Nat) (c : Int), (colsD l (signsOf both) d c).length ≤ 2 * d
  | 0, _ => by simp [colsD]
  | d + 1, c => by
    have := colsD_len l both d (c + 1)
    unfold colsD
    rw [List.length_append, List.length_map]
    have : (signsOf both).length ≤ 2 := by cases both <;> decide
    omega
theorem colsD_row (l : List (List Int)) (signs : List Int) : ∀ (d : Nat) (c : Int), ∀ x ∈ colsD l signs d c, x.length = l.length
  | 0, _ => by simp [colsD]
  | d + 1, c => by
    intro x hx
    unfold colsD at hx
    rcases List.mem_append.1 hx with h | h
    · obtain ⟨s, _, rfl⟩ := List.mem_map.1 h
      exact colW_len _ _ _
    · exact colsD_row l signs d (c + 1) x h
theorem specTells_gather {n : Int} {l : List (List Int)} (both : Bool) (hl : l.length ≤ 5) (hp : ∀ i, 0 ≤ i → i < (l.length : Int) → PlanAt n (rd_L1 l i)) (hn : n ≤ 40) (r : Bool) :
    ∀ (d : Nat) (c : Int) (X : List (List Int)), 0 ≤ c → c + d = n → X.length + 2 * d ≤ 1000 → Ev (fun k => spec_l3Tells.l1 k (X ++ colsD l (signsOf both) d c) 0) r → Ev (fun k => spec_l3Tells.l0 k n l both X c) r := by
  intro d
  induction d with
  | zero =>
    intro c X c0 h1 h2 h
    refine Ev.step (fun k => by rw [spec_l3Tells.l0]) ?_
    simp only [if_neg (show ¬ c < n by omega)]
    unfold colsD at h
    rwa [List.append_nil] at h
  | succ d ih =>
    intro c X c0 h1 h2 h
    refine Ev.step (fun k => by rw [spec_l3Tells.l0]) ?_
    simp only [if_pos (show c < n by omega)]
    refine Ev.bind (specOutcome_ev hl hp true c0 (by omega)) ?_
    simp only [if_pos (show X.length < 5864062014805 by omega), Option.bind_some, w64 (show -9223372036854775808 ≤ c + 1 by omega) (by omega)]
    cases both
    · simp only [Bool.false_eq_true, if_false]
      refine ih (c + 1) _ (by omega) (by omega) (by rw [List.length_append, List.length_singleton]; omega) ?_
      simpa [colsD, signsOf, sgnOf] using h
    · simp only [if_true]
      refine Ev.bind (specOutcome_ev hl hp false c0 (by omega)) ?_
      have hx : (X ++ [colW l c (sgnOf true)]).length < 5864062014805 := by rw [List.length_append, List.length_singleton]; omega
      simp only [if_pos hx]
      refine ih (c + 1) _ (by omega) (by omega) (by rw [List.length_append, List.length_append, List.length_singleton, List.length_singleton]; omega) ?_
      simpa [colsD, signsOf, sgnOf] using h
theorem specTells_ev {n : Int} {l : List (List Int)} (both : Bool) (hl : l.length ≤ 5) (hp : ∀ i, 0 ≤ i → i < (l.length : Int) → PlanAt n (rd_L1 l i)) (h0 : 2 ≤ n) (hn : n ≤ 40) :
    Ev (fun k => spec_l3Tells.f k n l both) (distB [] (colsD l (signsOf both) n.toNat 0)) := by
  unfold spec_l3Tells.f
  have hlen := colsD_len l both n.toNat 0
  refine specTells_gather both hl hp hn _ n.toNat 0 [] (by omega) (by omega) (by simp; omega) ?_
  rw [List.nil_append]
  exact specTells_look _ (by omega) (fun x hx => by have := colsD_row l _ _ _ x hx; omega)
theorem implTells_all {n : Int} {l : List (List Int)} (both : Bool) (hl : l.length ≤ 5) (hp : ∀ i, 0 ≤ i → i < (l.length : Int) → PlanAt n (rd_L1 l i)) (h0 : 2 ≤ n) (hn : n ≤ 40) :
    Ev (fun k => impl_tells.f k n l (signsOf both)) (distB [] (colsD l (signsOf both) n.toNat 0)) := by
  unfold impl_tells.f
  exact implTells_ev hl hp (by cases both <;> simp [signsOf]) (by cases both <;> decide) hn n.toNat 0 [] (by omega) (by omega) (by simp; omega)
theorem l3Good_ev (n : Int) (l : List (List Int)) (hl : l.length ≤ 1048576) (hw : ∀ x ∈ l, x.length ≤ 1048576) : Ev (fun k => spec_l3Good.f k n l) (decide (2 ≤ n ∧ n ≤ 40) && planB n l) := by
  unfold spec_l3Good.f
  simp only [l3Coins_eq, Option.bind_some, decide_eq_true_eq]
  by_cases h : 2 ≤ n ∧ n ≤ 40
  · simp only [if_pos h]
    rw [decide_eq_true h, Bool.true_and]
    exact Ev.bind (l3Plan_ev n l hl hw) (Ev.now _)
  · simp only [if_neg h]
    rw [decide_eq_false h, Bool.false_and]
    exact Ev.now _

theorem FnExactTellsHeavy : laws_FnExactTellsHeavy.Pure := by
  intro n l _ hw
  refine Ev.rounds ?_
  unfold laws_FnExactTellsHeavy.f
  obtain ⟨q, hq, hp⟩ := szIntSS_ev l hw.1 (fun x hx => (hw.2 x hx).1)
  refine Ev.bind hq ?_
  by_cases hn : q < 0
  · simp only [if_pos hn]; exact Ev.now _
  · simp only [if_neg hn]
    obtain ⟨hl, hr⟩ := hp.resolve_left hn
    have ht := toIntSS_ev l hl hr
    have key : ∃ r, Ev (fun k => spec_TellsHeavy.f k n l) r ∧ Ev (fun k => impl_TellsHeavy.f k n l) r := by
      unfold spec_TellsHeavy.f impl_TellsHeavy.f
      by_cases h : (decide (2 ≤ n ∧ n ≤ 40) && planB n l) = true
      · have h' := Bool.and_eq_true_iff.1 h
        have hn' := of_decide_eq_true h'.1
        have hg := good_plan h'.2
        refine ⟨(distB [] (colsD l (signsOf false) n.toNat 0), true), ?_, ?_⟩
        · refine Ev.bind (l3Good_ev n l hl hr) ?_
          simp only [h, if_true]
          exact Ev.bind (specTells_ev false hg.1 hg.2 hn'.1 hn'.2) (Ev.now _)
        · refine Ev.bind (isPlan_ev n l hl hr) ?_
          simp only [h, if_true]
          exact Ev.bind (implTells_all false hg.1 hg.2 hn'.1 hn'.2) (Ev.now _)
      · refine ⟨(false, false), ?_, ?_⟩
        · refine Ev.bind (l3Good_ev n l hl hr) ?_
          simp only [h, if_false]
          exact Ev.now _
        · refine Ev.bind (isPlan_ev n l hl hr) ?_
          simp only [h, if_false]
          exact Ev.now _
    obtain ⟨r, hs, hi⟩ := key
    refine Ev.bind ht (Ev.bind hs (Ev.bind ht (Ev.bind hi ?_)))
    simp only [bne_self_eq_false, Bool.false_eq_true, if_false]
    refine Ev.step (fun k => by rw [laws_FnExactTellsHeavy.j0]) ?_
    simp only [Bool.false_eq_true, if_false]
    refine Ev.bind ht (Ev.bind (eqIntSS_self l (by omega) (fun x hx => by have := hr x hx; omega)) ?_)
    simp only [if_true]
    exact Ev.now _


end Go.Proofs.Ytjhoejdjhboadaa.Pure

