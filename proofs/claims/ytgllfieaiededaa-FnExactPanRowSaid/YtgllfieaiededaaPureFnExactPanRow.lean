/- For every two lists of whole numbers and every number the plain function of the PanRow law answers true. -/
import Derived.Test.YtgllfieaiededaaPFnExactPanRowx4
import Derived.Test.YtgllfieaiededaaLib
set_option linter.unusedVariables false
set_option linter.unusedSimpArgs false
namespace Go.Proofs.Ytgllfieaiededaa.Pure
open Go.RowKit Go.Proofs.Ytgllfieaiededaa.PFnExactPanRow Go.Proofs.YtgllfieaiededaaW.PrintWords Go.Proofs.YtgllfieaiededaaW.PrintLast Go.Proofs.Ytgllfieaiededaa.Lib

theorem l1In_eq (a b c : Int) : spec_l1In.f a b c = some (decide (b ≤ a ∧ a ≤ c)) := by
  unfold spec_l1In.f
  by_cases h : a ≥ b
  · rw [if_pos h]
    congr 1
    simp only [decide_eq_decide]
    omega
  · rw [if_neg h]
    congr 1
    simp only [Bool.false_eq, decide_eq_false_iff_not]
    omega

theorem within_eq (a b c : Int) : impl_within.f a b c = some (decide (b ≤ a ∧ a ≤ c)) := by
  unfold impl_within.f
  by_cases h : a ≥ b
  · rw [if_pos h]
    congr 1
    simp only [decide_eq_decide]
    omega
  · rw [if_neg h]
    congr 1
    simp only [Bool.false_eq, decide_eq_false_iff_not]
    omega

theorem toIntS_ev (l : List Int) (hl : l.length ≤ 1048576) : Ev (fun k => laws_toIntS.f k l) l := by
  unfold laws_toIntS.f
  simp only [if_pos (show 0 ≤ (l.length : Int) by omega), if_pos (show ((l.length : Int) : Int).toNat ≤ 35184372088832 by omega)]
  have h := Ev.fold (l := fun k x i => laws_toIntS.l0 k l x i) (n := l.length) (fun i => l.take i.toNat ++ List.replicate (l.length - i.toNat) 0) (a := l)
    (fun i h0 h1 r h => by
      refine Ev.step (fun k => by rw [laws_toIntS.l0]) ?_
      have hx : i < ((l.take i.toNat ++ List.replicate (l.length - i.toNat) (0 : Int)).length : Int) := by
        rw [List.length_append, List.length_take, List.length_replicate]; omega
      simp only [if_pos h1, if_pos h0, if_pos hx, w64 (show -9223372036854775808 ≤ i + 1 by omega) (by omega)]
      unfold rd
      rw [set_fill l 0 0 i.toNat (by omega), ← toNat_succ h0]
      exact h)
    (by
      refine Ev.step (fun k => by rw [laws_toIntS.l0]) ?_
      simp only [if_neg (show ¬ (l.length : Int) < l.length by omega)]
      exact Ev.some (by simp))
    l.length 0 (by omega) (by omega)
  simpa using h

theorem eqIntS_ev (a b : List Int) (ha : a.length ≤ 9223372036854775806) : Ev (fun k => laws_eqIntS.f k a b) (decide (a = b)) := by
  unfold laws_eqIntS.f
  by_cases hl : (a.length : Int) = (b.length : Int)
  · simp only [if_pos hl]
    have h := Ev.count' (l := fun k i => laws_eqIntS.l0 k a b i) (n := a.length) (P := fun i => rd a i = rd b i) (a := true) (b := false) (by omega)
      (fun i h0 h1 hp r h => by
        refine Ev.step (fun k => by rw [laws_eqIntS.l0]) ?_
        simp only [if_pos h0, if_pos h1, if_pos (show i < (b.length : Int) by omega), if_pos hp, w64 (show -9223372036854775808 ≤ i + 1 by omega) (by omega)]
        exact h)
      (fun i h0 h1 hp => by
        refine Ev.step (fun k => by rw [laws_eqIntS.l0]) ?_
        simp only [if_pos h0, if_pos h1, if_pos (show i < (b.length : Int) by omega), if_neg hp]
        exact Ev.now _)
      (fun i h0 h1 => by
        refine Ev.step (fun k => by rw [laws_eqIntS.l0]) ?_
        simp only [if_neg (show ¬ i < (a.length : Int) by omega)]
        exact Ev.now _)
    refine Ev.as h ?_
    split
    · rename_i hc
      exact (decide_eq_true (rd_ext (by omega) fun i h0 h1 => hc i h0 h1)).symm
    · rename_i hc
      exact (decide_eq_false fun e => hc fun i h0 h1 => by rw [e]).symm
  · simp only [if_neg hl]
    exact Ev.some (decide_eq_false fun e => hl (by rw [e])).symm
theorem eqIntS_self (a : List Int) (ha : a.length ≤ 9223372036854775806) : Ev (fun k => laws_eqIntS.f k a a) true :=
  Ev.as (eqIntS_ev a a ha) (decide_eq_true rfl)

theorem markIntS_ev (l : List Int) (hl : l.length ≤ 1048576) (m : Int) (hm : 0 ≤ m) (hm2 : m ≤ 16777216) : Ev (fun k => laws_markIntS.f k l m) (m + l.length, marks m l.length) := by
  unfold laws_markIntS.f
  have h := Ev.fold (l := fun k (s : List Int × Int) i => laws_markIntS.l0 k s.1 s.2 i) (n := l.length) (fun i => (marks m i.toNat ++ l.drop i.toNat, m + i)) (a := (m + l.length, marks m l.length))
    (fun i h0 h1 r h => by
      refine Ev.step (fun k => by rw [laws_markIntS.l0]) ?_
      have hx : i < ((marks m i.toNat ++ l.drop i.toNat).length : Int) := by
        rw [List.length_append, marks_length, List.length_drop]; omega
      simp only [if_pos h0, if_pos hx, w64 (show -9223372036854775808 ≤ i + 1 by omega) (by omega), w64 (show -9223372036854775808 ≤ m + i + 1 by omega) (by omega)]
      rw [List.set_append_right _ _ (by rw [marks_length]; omega), marks_length, Nat.sub_self]
      have e : l.drop i.toNat = l[i.toNat]'(by omega) :: l.drop (i + 1).toNat := by
        rw [toNat_succ h0]; exact List.drop_eq_getElem_cons (by omega)
      rw [e, List.set_cons_zero]
      have e2 : marks m (i + 1).toNat = marks m i.toNat ++ [m + i] := by
        rw [toNat_succ h0]; unfold marks; rw [List.range_succ, List.map_append]; simp; omega
      simp only [e2, List.append_assoc, List.singleton_append, ← Int.add_assoc] at h
      exact h)
    (by
      refine Ev.step (fun k => by rw [laws_markIntS.l0]) ?_
      have hx : ¬ (l.length : Int) < ((marks m (l.length : Int).toNat ++ l.drop (l.length : Int).toNat).length : Int) := by
        rw [List.length_append, marks_length, List.length_drop]; omega
      simp only [if_neg hx]
      exact Ev.some (by simp))
    l.length 0 (by omega) (by omega)
  simpa [marks] using h

instance : DecidableEq (S73) := fun a b => if h : a.f0 = b.f0 ∧ a.f1 = b.f1 then isTrue (by cases a; cases b; simp_all) else isFalse (by rintro rfl; exact h ⟨rfl, rfl⟩)
theorem S73_eq (a b : S73) : a = b ↔ a.f0 = b.f0 ∧ a.f1 = b.f1 := by
  cases a; cases b; simp
theorem eqLoad_eq (a b : S73) : laws_eqLoad.f a.f0 a.f1 b.f0 b.f1 = some (decide (a = b)) := by
  unfold laws_eqLoad.f
  by_cases h0 : a.f0 = b.f0
  · by_cases h1 : a.f1 = b.f1
    · rw [if_pos h0, if_pos h1, decide_eq_true ((S73_eq a b).2 ⟨h0, h1⟩)]
    · rw [if_pos h0, if_neg h1, decide_eq_false fun e => h1 ((S73_eq a b).1 e).2]
  · rw [if_neg h0, decide_eq_false fun e => h0 ((S73_eq a b).1 e).1]
theorem eqLoadS_ev (a b : List (S73)) (ha : a.length ≤ 9223372036854775806) : Ev (fun k => laws_eqLoadS.f k a b) (decide (a = b)) := by
  unfold laws_eqLoadS.f
  by_cases hl : (a.length : Int) = (b.length : Int)
  · simp only [if_pos hl]
    have h := Ev.count' (l := fun k i => laws_eqLoadS.l0 k a b i) (n := a.length) (P := fun i => rd_T73 a i = rd_T73 b i) (a := true) (b := false) (by omega)
      (fun i h0 h1 hp r h => by
        refine Ev.step (fun k => by rw [laws_eqLoadS.l0]) ?_
        simp only [if_pos h0, if_pos h1, if_pos (show i < (b.length : Int) by omega), eqLoad_eq, Option.bind_some, decide_eq_true hp, if_true, w64 (show -9223372036854775808 ≤ i + 1 by omega) (by omega)]
        exact h)
      (fun i h0 h1 hp => by
        refine Ev.step (fun k => by rw [laws_eqLoadS.l0]) ?_
        simp only [if_pos h0, if_pos h1, if_pos (show i < (b.length : Int) by omega), eqLoad_eq, Option.bind_some, decide_eq_false hp, Bool.false_eq_true, if_false]
        exact Ev.now _)
      (fun i h0 h1 => by
        refine Ev.step (fun k => by rw [laws_eqLoadS.l0]) ?_
        simp only [if_neg (show ¬ i < (a.length : Int) by omega)]
        exact Ev.now _)
    refine Ev.as h ?_
    split
    · rename_i hc
      exact (decide_eq_true (getD_ext z73 (by omega) fun i hi => hc i (by omega) (by omega))).symm
    · rename_i hc
      exact (decide_eq_false fun e => hc fun i h0 h1 => by rw [e]).symm
  · simp only [if_neg hl]
    exact Ev.some (decide_eq_false fun e => hl (by rw [e])).symm
theorem eqLoadS_self (a : List (S73)) (ha : a.length ≤ 9223372036854775806) : Ev (fun k => laws_eqLoadS.f k a a) true :=
  Ev.as (eqLoadS_ev a a ha) (decide_eq_true rfl)

/-- Loads with the marks m, m + 1, .. -/
def marksL (m : Int) : Nat → List (S73)
  | 0 => []
  | n + 1 => marksL m n ++ [⟨m + 2 * n, m + 2 * n + 1⟩]
theorem marksL_length (m : Int) : ∀ n, (marksL m n).length = n
  | 0 => rfl
  | n + 1 => by rw [marksL, List.length_append, marksL_length m n]; rfl
theorem rd_marksL (m : Int) : ∀ (n : Nat) (i : Int), 0 ≤ i → i < n → rd_T73 (marksL m n) i = ⟨m + 2 * i, m + 2 * i + 1⟩
  | 0, i, h0, h1 => by omega
  | n + 1, i, h0, h1 => by
    unfold rd_T73 marksL
    by_cases h : i < (n : Int)
    · have ih := rd_marksL m n i h0 h
      unfold rd_T73 at ih
      rw [List.getD_eq_getElem?_getD, List.getElem?_append_left (by rw [marksL_length]; omega), ← List.getD_eq_getElem?_getD]
      exact ih
    · rw [List.getD_eq_getElem?_getD, List.getElem?_append_right (by rw [marksL_length]; omega), marksL_length, show i.toNat - n = 0 by omega, show i = (n : Int) by omega]
      rfl
theorem markLoadS_ev (l : List (S73)) (hl : l.length ≤ 1048576) (m : Int) (hm : 0 ≤ m) (hm2 : m ≤ 16777216) : Ev (fun k => laws_markLoadS.f k l m) (m + 2 * l.length, marksL m l.length) := by
  unfold laws_markLoadS.f
  have h := Ev.fold (l := fun k (s : List (S73) × Int) i => laws_markLoadS.l0 k s.1 s.2 i) (n := l.length) (fun i => (marksL m i.toNat ++ l.drop i.toNat, m + 2 * i)) (a := (m + 2 * l.length, marksL m l.length))
    (fun i h0 h1 r h => by
      refine Ev.step (fun k => by rw [laws_markLoadS.l0]) ?_
      have hx : i < ((marksL m i.toNat ++ l.drop i.toNat).length : Int) := by
        rw [List.length_append, marksL_length, List.length_drop]; omega
      simp only [if_pos h0, if_pos hx, Option.bind_some, w64 (show -9223372036854775808 ≤ i + 1 by omega) (by omega), w64 (show -9223372036854775808 ≤ m + 2 * i + 1 by omega) (by omega), w64 (show -9223372036854775808 ≤ m + 2 * i + 1 + 1 by omega) (by omega)]
      have e : l.drop i.toNat = l[i.toNat]'(by omega) :: l.drop (i + 1).toNat := by
        rw [toNat_succ h0]; exact List.drop_eq_getElem_cons (by omega)
      have e3 : ∀ y : S73, (marksL m i.toNat ++ y :: l.drop (i + 1).toNat).set i.toNat (⟨(rd_T73 (marksL m i.toNat ++ y :: l.drop (i + 1).toNat) i).f0, m + 2 * i + 1⟩ : S73) = marksL m i.toNat ++ ⟨y.f0, m + 2 * i + 1⟩ :: l.drop (i + 1).toNat := by
        intro y
        unfold rd_T73
        rw [List.getD_eq_getElem?_getD, List.getElem?_append_right (by rw [marksL_length]; omega), marksL_length, Nat.sub_self, List.set_append_right _ _ (by rw [marksL_length]; omega), marksL_length, Nat.sub_self]
        rfl
      have e4 : ∀ z : S73, (marksL m i.toNat ++ l.drop i.toNat).set i.toNat z = marksL m i.toNat ++ z :: l.drop (i + 1).toNat := by
        intro z
        rw [List.set_append_right _ _ (by rw [marksL_length]; omega), marksL_length, Nat.sub_self, e]
        rfl
      rw [e4, e3]
      have e2 : marksL m (i + 1).toNat = marksL m i.toNat ++ [⟨m + 2 * i, m + 2 * i + 1⟩] := by
        rw [toNat_succ h0, marksL, Int.toNat_of_nonneg h0]
      simp only [e2, List.append_assoc, List.singleton_append, show m + 2 * (i + 1) = m + 2 * i + 1 + 1 by omega] at h
      exact h)
    (by
      refine Ev.step (fun k => by rw [laws_markLoadS.l0]) ?_
      have hx : ¬ (l.length : Int) < ((marksL m (l.length : Int).toNat ++ l.drop (l.length : Int).toNat).length : Int) := by
        rw [List.length_append, marksL_length, List.length_drop]; omega
      simp only [if_neg hx]
      exact Ev.some (by simp))
    l.length 0 (by omega) (by omega)
  simpa [marksL] using h
theorem heldLoadS_ev (n : Nat) (hn : n ≤ 1048576) (m : Int) (hm : 0 ≤ m) (hm2 : m ≤ 16777216) : Ev (fun k => laws_heldLoadS.f k (marksL m n) m) (m + 2 * n) := by
  unfold laws_heldLoadS.f
  have h := Ev.fold (l := fun k (s : Int) i => laws_heldLoadS.l0 k (marksL m n) s i) (n := n) (fun i => m + 2 * i) (a := m + 2 * n)
    (fun i h0 h1 r h => by
      refine Ev.step (fun k => by rw [laws_heldLoadS.l0]) ?_
      simp only [if_pos h0, marksL_length, if_pos h1, rd_marksL m n i h0 h1, if_true, w64 (show -9223372036854775808 ≤ i + 1 by omega) (by omega), w64 (show -9223372036854775808 ≤ m + 2 * i + 1 by omega) (by omega), w64 (show -9223372036854775808 ≤ m + 2 * i + 1 + 1 by omega) (by omega)]
      simp only [show m + 2 * (i + 1) = m + 2 * i + 1 + 1 by omega] at h
      exact h)
    (by
      refine Ev.step (fun k => by rw [laws_heldLoadS.l0]) ?_
      simp only [marksL_length, if_neg (show ¬ (n : Int) < (n : Int) by omega)]
      exact Ev.now _)
    n 0 (by omega) (by omega)
  simpa using h

theorem first_nat {P : Nat → Prop} (n : Nat) : P n → ∃ i, i ≤ n ∧ P i ∧ ∀ j, j < i → ¬ P j := by
  induction n using Nat.strongRecOn with
  | _ n ih =>
    intro h
    by_cases hc : ∃ j, j < n ∧ P j
    · obtain ⟨j, hj, hp⟩ := hc
      obtain ⟨i, hi, hpi, hf⟩ := ih j hj hp
      exact ⟨i, by omega, hpi, hf⟩
    · exact ⟨n, Nat.le_refl _, h, fun j hj hp => hc ⟨j, hj, hp⟩⟩
/-- The first place at which something holds. -/
theorem first_of {P : Int → Prop} {n : Int} (h : ∃ i, 0 ≤ i ∧ i < n ∧ P i) : ∃ i, 0 ≤ i ∧ i < n ∧ P i ∧ ∀ j, 0 ≤ j → j < i → ¬ P j := by
  obtain ⟨i, h0, h1, hp⟩ := h
  obtain ⟨m, hm, hpm, hf⟩ := first_nat (P := fun m => P (m : Int)) i.toNat (by rw [Int.toNat_of_nonneg h0]; exact hp)
  refine ⟨m, by omega, by omega, hpm, fun j hj0 hj => ?_⟩
  have := hf j.toNat (by omega)
  rwa [Int.toNat_of_nonneg hj0] at this
/-- `Ev.fold` up to a place n. -/
theorem Ev.upto {α σ : Type} {l : Nat → σ → Int → Option α} {n : Int} (st : Int → σ) {a : α} (hn : 0 ≤ n)
    (hstep : ∀ i, 0 ≤ i → i < n → ∀ r, Ev (fun k => l k (st (i + 1)) (i + 1)) r → Ev (fun k => l k (st i) i) r)
    (hend : Ev (fun k => l k (st n) n) a) : Ev (fun k => l k (st 0) 0) a :=
  Ev.fold st hstep hend n.toNat 0 (by omega) (by omega)

/-- The list's places are fine: each a weight, none less than the one before. -/
def KitAt (l : List Int) (i : Int) : Prop := (1 ≤ rd l i ∧ rd l i ≤ 99) ∧ (0 < i → rd l (i - 1) ≤ rd l i)
open Classical in
noncomputable def kitB (l : List Int) : Bool := if ∀ j, 0 ≤ j → j < (l.length : Int) → KitAt l j then decide (1 ≤ (l.length : Int) ∧ (l.length : Int) ≤ 6) else false

theorem l3Kit_ev (l : List Int) (hl : l.length ≤ 9223372036854775806) : Ev (fun k => spec_l3Kit.f k l) (kitB l) := by
  unfold spec_l3Kit.f kitB
  refine Ev.count' (l := fun k i => spec_l3Kit.l0 k l i) (n := l.length) (P := KitAt l) (by omega) ?_ ?_ ?_
  · intro i h0 h1 hp r h
    refine Ev.step (fun k => by rw [spec_l3Kit.l0]) ?_
    simp only [if_pos h0, if_pos h1, l1In_eq, Option.bind_some, decide_eq_true_eq, if_pos hp.1]
    by_cases hi : i > 0
    · simp only [if_pos hi, w64 (show -9223372036854775808 ≤ i - 1 by omega) (by omega), w64 (show -9223372036854775808 ≤ i + 1 by omega) (by omega), if_pos (show 0 ≤ i - 1 by omega), if_pos (show i - 1 < (l.length : Int) by omega), if_neg (show ¬ rd l (i - 1) > rd l i from by have := hp.2 hi; omega)]
      exact h
    · simp only [if_neg hi, w64 (show -9223372036854775808 ≤ i + 1 by omega) (by omega)]
      exact h
  · intro i h0 h1 hp
    refine Ev.step (fun k => by rw [spec_l3Kit.l0]) ?_
    simp only [if_pos h0, if_pos h1, l1In_eq, Option.bind_some, decide_eq_true_eq]
    by_cases hw : 1 ≤ rd l i ∧ rd l i ≤ 99
    · have hi : i > 0 := by
        by_cases hi : i > 0
        · exact hi
        · exact absurd ⟨hw, fun h => absurd h hi⟩ hp
      simp only [if_pos hw, if_pos hi, w64 (show -9223372036854775808 ≤ i - 1 by omega) (by omega), if_pos (show 0 ≤ i - 1 by omega), if_pos (show i - 1 < (l.length : Int) by omega), if_pos (show rd l (i - 1) > rd l i from by
        have : ¬ rd l (i - 1) ≤ rd l i := fun h => hp ⟨hw, fun _ => h⟩
        omega)]
      exact Ev.now _
    · simp only [if_neg hw]
      exact Ev.now _
  · intro i h0 h1
    refine Ev.step (fun k => by rw [spec_l3Kit.l0]) ?_
    simp only [if_neg (show ¬ i < (l.length : Int) by omega), l1In_eq, Option.bind_some]
    exact Ev.now _

theorem isWeight_eq (a : Int) : impl_isWeight.f a = some (decide (1 ≤ a ∧ a ≤ 99)) := by
  unfold impl_isWeight.f
  simp only [within_eq, Option.bind_some]

theorem implIsKit_ev (l : List Int) (hl : l.length ≤ 9223372036854775806) : Ev (fun k => impl_IsKit.f k l) (kitB l) := by
  unfold impl_IsKit.f kitB
  refine Ev.count' (l := fun k i => impl_IsKit.l0 k l l l.length i) (n := l.length) (P := KitAt l) (by omega) ?_ ?_ ?_
  · intro i h0 h1 hp r h
    refine Ev.step (fun k => by rw [impl_IsKit.l0]) ?_
    simp only [if_pos h0, if_pos h1, isWeight_eq, Option.bind_some, decide_eq_true_eq, if_pos hp.1]
    by_cases hi : i > 0
    · simp only [if_pos hi, w64 (show -9223372036854775808 ≤ i - 1 by omega) (by omega), w64 (show -9223372036854775808 ≤ i + 1 by omega) (by omega), if_pos (show 0 ≤ i - 1 by omega), if_pos (show i - 1 < (l.length : Int) by omega), if_neg (show ¬ rd l i < rd l (i - 1) from by have := hp.2 hi; omega)]
      exact h
    · simp only [if_neg hi, w64 (show -9223372036854775808 ≤ i + 1 by omega) (by omega)]
      exact h
  · intro i h0 h1 hp
    refine Ev.step (fun k => by rw [impl_IsKit.l0]) ?_
    simp only [if_pos h0, if_pos h1, isWeight_eq, Option.bind_some, decide_eq_true_eq]
    by_cases hw : 1 ≤ rd l i ∧ rd l i ≤ 99
    · have hi : i > 0 := by
        by_cases hi : i > 0
        · exact hi
        · exact absurd ⟨hw, fun h => absurd h hi⟩ hp
      simp only [if_pos hw, if_pos hi, w64 (show -9223372036854775808 ≤ i - 1 by omega) (by omega), if_pos (show 0 ≤ i - 1 by omega), if_pos (show i - 1 < (l.length : Int) by omega), if_pos (show rd l i < rd l (i - 1) from by
        have : ¬ rd l (i - 1) ≤ rd l i := fun h => hp ⟨hw, fun _ => h⟩
        omega)]
      exact Ev.now _
    · simp only [if_neg hw]
      exact Ev.now _
  · intro i h0 h1
    refine Ev.step (fun k => by rw [impl_IsKit.l0]) ?_
    simp only [if_neg (show ¬ i < (l.length : Int) by omega), within_eq, Option.bind_some]
    exact Ev.now _

/-- Signs alone. -/
def SignAt (l : List Int) (i : Int) : Prop := -1 ≤ rd l i ∧ rd l i ≤ 1
open Classical in
theorem l3Signs_ev (l : List Int) (n : Int) (hl : l.length ≤ 9223372036854775806) : Ev (fun k => spec_l3Signs.f k l n) (if ∀ j, 0 ≤ j → j < (l.length : Int) → SignAt l j then ((l.length : Int) == n) else false) := by
  unfold spec_l3Signs.f
  refine Ev.count' (l := fun k i => spec_l3Signs.l0 k l n i) (n := l.length) (P := SignAt l) (by omega) ?_ ?_ ?_
  · intro i h0 h1 hp r h
    refine Ev.step (fun k => by rw [spec_l3Signs.l0]) ?_
    simp only [if_pos h0, if_pos h1, l1In_eq, Option.bind_some, decide_eq_true_eq, if_pos (show -1 ≤ rd l i ∧ rd l i ≤ 1 from hp), w64 (show -9223372036854775808 ≤ i + 1 by omega) (by omega)]
    exact h
  · intro i h0 h1 hp
    refine Ev.step (fun k => by rw [spec_l3Signs.l0]) ?_
    simp only [if_pos h0, if_pos h1, l1In_eq, Option.bind_some, decide_eq_true_eq, if_neg (show ¬ (-1 ≤ rd l i ∧ rd l i ≤ 1) from hp)]
    exact Ev.now _
  · intro i h0 h1
    refine Ev.step (fun k => by rw [spec_l3Signs.l0]) ?_
    simp only [if_neg (show ¬ i < (l.length : Int) by omega)]
    exact Ev.now _

theorem isSign_eq (a : Int) : impl_isSign.f a = some (decide (-1 ≤ a ∧ a ≤ 1)) := by
  unfold impl_isSign.f
  simp only [within_eq, Option.bind_some]

/-- The loads of the scales, up to sign i. -/
def panAt (kit signs : List Int) (n : Int) : Nat → List (S73)
  | 0 => [⟨29, n⟩]
  | i + 1 => if rd signs i = 0 then panAt kit signs n i else panAt kit signs n i ++ [⟨wrap64 (30 + rd signs i), rd kit i⟩]
theorem panAt_len (kit signs : List Int) (n : Int) : ∀ i, (panAt kit signs n i).length ≤ i + 1
  | 0 => Nat.le_refl _
  | i + 1 => by
    have := panAt_len kit signs n i
    unfold panAt
    split
    · omega
    · rw [List.length_append, List.length_singleton]; omega
theorem panAt_succ (kit signs : List Int) (n : Int) {i : Int} (h0 : 0 ≤ i) : panAt kit signs n (i + 1).toNat = if rd signs i = 0 then panAt kit signs n i.toNat else panAt kit signs n i.toNat ++ [⟨wrap64 (30 + rd signs i), rd kit i⟩] := by
  rw [toNat_succ h0, panAt, Int.toNat_of_nonneg h0]
open Classical in
noncomputable def PanRowR (kit signs : List Int) (n : Int) : List (S73) × Bool :=
  if kitB kit = true ∧ (signs.length : Int) = (kit.length : Int) ∧ (1 ≤ n ∧ n ≤ 99) ∧ (∀ j, 0 ≤ j → j < (signs.length : Int) → SignAt signs j) then (panAt kit signs n signs.length, true) else ([], false)
theorem PanRowR_pos {kit signs : List Int} {n : Int} (h : kitB kit = true) (h3 : (signs.length : Int) = (kit.length : Int)) (h4 : 1 ≤ n ∧ n ≤ 99) (h2 : ∀ j, 0 ≤ j → j < (signs.length : Int) → SignAt signs j) : (panAt kit signs n signs.length, true) = PanRowR kit signs n := by
  unfold PanRowR
  rw [if_pos ⟨h, h3, h4, h2⟩]
theorem PanRowR_neg {kit signs : List Int} {n : Int} (h : ¬ (kitB kit = true ∧ (signs.length : Int) = (kit.length : Int) ∧ (1 ≤ n ∧ n ≤ 99) ∧ (∀ j, 0 ≤ j → j < (signs.length : Int) → SignAt signs j))) : (([], false) : List (S73) × Bool) = PanRowR kit signs n := by
  unfold PanRowR
  rw [if_neg h]
theorem kitB_len {l : List Int} (h : kitB l = true) : l.length ≤ 6 := by
  unfold kitB at h
  split at h
  · have := of_decide_eq_true h; omega
  · cases h
theorem specPanRow_ev (kit signs : List Int) (n : Int) (hk : kit.length ≤ 1048576) (hs : signs.length ≤ 1048576) : Ev (fun k => spec_PanRow.f k kit signs n) (PanRowR kit signs n) := by
  unfold spec_PanRow.f
  have done : Ev (fun k => spec_PanRow.j0 k kit signs n [] true) ([], false) := by
    refine Ev.step (fun k => by rw [spec_PanRow.j0]) ?_
    simp only [if_true]
    exact Ev.now _
  simp only [Option.bind_some]
  refine Ev.bind (l3Kit_ev kit (by omega)) ?_
  by_cases h1 : kitB kit = true
  · have hk6 := kitB_len h1
    simp only [h1, if_true]
    refine Ev.bind (l3Signs_ev signs kit.length (by omega)) ?_
    by_cases h2 : ∀ j, 0 ≤ j → j < (signs.length : Int) → SignAt signs j
    · simp only [if_pos h2]
      by_cases h3 : (signs.length : Int) = (kit.length : Int)
      · simp only [beq_iff_eq.2 h3, if_true, l1In_eq, Option.bind_some]
        by_cases h4 : 1 ≤ n ∧ n ≤ 99
        · refine Ev.as (r := (panAt kit signs n signs.length, true)) ?_ (PanRowR_pos h1 h3 h4 h2)
          simp only [h4, and_self, decide_true, Bool.not_true]
          refine Ev.step (fun k => by rw [spec_PanRow.j0]) ?_
          simp only [Bool.false_eq_true, if_false, List.length_nil, show 0 < 8796093022208 by decide, if_true, List.nil_append]
          refine Ev.upto (l := fun k o i => spec_PanRow.l0 k kit signs o i) (n := signs.length) (fun i => panAt kit signs n i.toNat) (by omega) (fun i h0 hi r h => ?_) ?_
          · rw [panAt_succ kit signs n h0] at h
            refine Ev.step (fun k => by rw [spec_PanRow.l0]) ?_
            have hx := panAt_len kit signs n i.toNat
            simp only [if_pos (show i < (kit.length : Int) by omega), if_pos h0, if_pos hi, w64 (show -9223372036854775808 ≤ i + 1 by omega) (by omega), if_pos (show (panAt kit signs n i.toNat).length < 8796093022208 by omega)]
            by_cases hz : rd signs i = 0
            · simp only [if_pos hz] at h ⊢; exact h
            · simp only [if_neg hz] at h ⊢; exact h
          · refine Ev.step (fun k => by rw [spec_PanRow.l0]) ?_
            simp only [if_neg (show ¬ (signs.length : Int) < (kit.length : Int) by omega)]
            exact Ev.some (by simp)
        · simp only [h4, decide_false, Bool.not_false]
          exact Ev.as done (PanRowR_neg fun h => h4 h.2.2.1)
      · simp only [beq_eq_false_iff_ne.2 h3, Bool.false_eq_true, if_false]
        exact Ev.as done (PanRowR_neg fun h => h3 h.2.1)
    · simp only [if_neg h2, Bool.false_eq_true, if_false]
      exact Ev.as done (PanRowR_neg fun h => h2 h.2.2.2)
  · simp only [h1, if_false]
    exact Ev.as done (PanRowR_neg fun h => h1 h.1)
theorem implPanRow_ev (kit signs : List Int) (n : Int) (hk : kit.length ≤ 1048576) (hs : signs.length ≤ 1048576) : Ev (fun k => impl_PanRow.f k kit signs n) (PanRowR kit signs n) := by
  unfold impl_PanRow.f
  have done : Ev (fun k => impl_PanRow.j0 k kit signs n true) ([], false) := by
    refine Ev.step (fun k => by rw [impl_PanRow.j0]) ?_
    simp only [if_true]
    exact Ev.now _
  refine Ev.bind (implIsKit_ev kit (by omega)) ?_
  by_cases h1 : kitB kit = true
  · have hk6 := kitB_len h1
    simp only [h1, if_true]
    by_cases h3 : (signs.length : Int) = (kit.length : Int)
    · simp only [if_pos h3, isWeight_eq, Option.bind_some]
      by_cases h4 : 1 ≤ n ∧ n ≤ 99
      · simp only [h4, and_self, decide_true, Bool.not_true]
        refine Ev.step (fun k => by rw [impl_PanRow.j0]) ?_
        simp only [Bool.false_eq_true, if_false]
        have step : ∀ i, 0 ≤ i → i < (signs.length : Int) → SignAt signs i → ∀ r, Ev (fun k => impl_PanRow.l0 k kit (panAt kit signs n (i + 1).toNat) signs signs.length (i + 1)) r → Ev (fun k => impl_PanRow.l0 k kit (panAt kit signs n i.toNat) signs signs.length i) r := by
          intro i h0 hi hp r h
          rw [panAt_succ kit signs n h0] at h
          refine Ev.step (fun k => by rw [impl_PanRow.l0]) ?_
          have hx := panAt_len kit signs n i.toNat
          simp only [if_pos hi, if_pos h0, isSign_eq, Option.bind_some, decide_eq_true_eq, if_pos (show -1 ≤ rd signs i ∧ rd signs i ≤ 1 from hp), if_pos (show i < (kit.length : Int) by omega), w64 (show -9223372036854775808 ≤ i + 1 by omega) (by omega), if_pos (show (panAt kit signs n i.toNat).length < 8796093022208 by omega)]
          by_cases hz : rd signs i = 0
          · simp only [if_pos hz] at h ⊢; exact h
          · simp only [if_neg hz] at h ⊢; exact h
        by_cases h2 : ∀ j, 0 ≤ j → j < (signs.length : Int) → SignAt signs j
        · refine Ev.as (r := (panAt kit signs n signs.length, true)) ?_ (PanRowR_pos h1 h3 h4 h2)
          refine Ev.upto (l := fun k o i => impl_PanRow.l0 k kit o signs signs.length i) (n := signs.length) (fun i => panAt kit signs n i.toNat) (by omega) (fun i h0 hi r h => step i h0 hi (h2 i h0 hi) r h) ?_
          refine Ev.step (fun k => by rw [impl_PanRow.l0]) ?_
          simp only [if_neg (show ¬ (signs.length : Int) < (signs.length : Int) by omega)]
          exact Ev.some (by simp)
        · refine Ev.as (r := ([], false)) ?_ (PanRowR_neg fun h => h2 h.2.2.2)
          simp only [Classical.not_forall] at h2
          obtain ⟨j, hj0, hj1, hj2⟩ := h2
          obtain ⟨m, hm0, hm1, hm2, hm3⟩ := first_of (P := fun j => ¬ SignAt signs j) ⟨j, hj0, hj1, hj2⟩
          refine Ev.upto (l := fun k o i => impl_PanRow.l0 k kit o signs signs.length i) (n := m) (fun i => panAt kit signs n i.toNat) hm0 (fun i h0 hi r h => step i h0 (by omega) (Classical.not_not.1 (hm3 i h0 hi)) r h) ?_
          refine Ev.step (fun k => by rw [impl_PanRow.l0]) ?_
          simp only [if_pos hm1, if_pos hm0, isSign_eq, Option.bind_some, decide_eq_true_eq, if_neg (show ¬ (-1 ≤ rd signs m ∧ rd signs m ≤ 1) from hm2)]
          exact Ev.now _
      · simp only [h4, decide_false, Bool.not_false]
        exact Ev.as done (PanRowR_neg fun h => h4 h.2.2.1)
    · simp only [if_neg h3]
      exact Ev.as done (PanRowR_neg fun h => h3 h.2.1)
  · simp only [h1, if_false]
    exact Ev.as done (PanRowR_neg fun h => h1 h.1)
theorem PanRowR_len (kit signs : List Int) (n : Int) (hs : signs.length ≤ 1048576) : (PanRowR kit signs n).1.length ≤ 1048576 := by
  unfold PanRowR
  split
  · rename_i h
    have := panAt_len kit signs n signs.length
    have := kitB_len h.1
    simp only
    omega
  · simp

theorem FnExactPanRow : laws_FnExactPanRow.Pure := by
  intro l m n _ _ _ _ _ _ _
  refine Ev.rounds ?_
  unfold laws_FnExactPanRow.f
  by_cases h : (l.length : Int) > 1048576
  · simp only [if_pos h]; exact Ev.now _
  · by_cases h2 : (m.length : Int) > 1048576
    · simp only [if_neg h, if_pos h2]; exact Ev.now _
    · simp only [if_neg h, if_neg h2]
      have ht := toIntS_ev l (by omega)
      have hu := toIntS_ev m (by omega)
      have hs := specPanRow_ev l m n (by omega) (by omega)
      have hi := implPanRow_ev l m n (by omega) (by omega)
      have ho := PanRowR_len l m n (by omega)
      generalize PanRowR l m n = r at hs hi ho
      obtain ⟨o, b⟩ := r
      simp only at ho
      have hx := eqIntS_self l (by omega)
      have hx2 := eqIntS_self m (by omega)
      have hq := eqLoadS_self o (by omega)
      have hk := markIntS_ev l (by omega) 1 (by omega) (by omega)
      have hk1 := markIntS_ev m (by omega) (1 + (l.length : Int)) (by omega) (by omega)
      have hk2 := markLoadS_ev o (by omega) 1 (by omega) (by omega)
      have hh := heldLoadS_ev o.length (by omega) 1 (by omega) (by omega)
      refine Ev.bind ht (Ev.bind hu (Ev.bind hs (Ev.bind ht (Ev.bind hu (Ev.bind hi (Ev.bind hq ?_))))))
      simp only [if_true, bne_self_eq_false]
      refine Ev.step (fun k => by rw [laws_FnExactPanRow.j0]) ?_
      simp only [Bool.false_eq_true, if_false]
      refine Ev.bind ht (Ev.bind hx ?_)
      simp only [if_true]
      refine Ev.bind hu (Ev.bind hx2 ?_)
      simp only [if_true]
      refine Ev.bind hk (Ev.bind hk1 ?_)
      simp only [if_neg (show ¬ (1 : Int) + (l.length : Int) + (m.length : Int) < 0 by omega)]
      refine Ev.bind hq ?_
      simp only [if_true, bne_self_eq_false]
      refine Ev.step (fun k => by rw [laws_FnExactPanRow.j1]) ?_
      simp only [Bool.false_eq_true, if_false]
      refine Ev.bind hk2 (Ev.bind hh ?_)
      simp only [if_neg (show ¬ (1 : Int) + 2 * (o.length : Int) < 0 by omega), if_true]
      refine Ev.bind ht (Ev.bind hu (Ev.bind hi (Ev.bind hq ?_)))
      simp only [if_true, bne_self_eq_false]
      refine Ev.step (fun k => by rw [laws_FnExactPanRow.j2]) ?_
      simp only [Bool.false_eq_true, if_false]
      refine Ev.bind hh ?_
      simp only [if_neg (show ¬ (1 : Int) + 2 * (o.length : Int) < 0 by omega), if_true]
      exact Ev.now _


end Go.Proofs.Ytgllfieaiededaa.Pure

