/- For every list of whole numbers the plain function of the IsKit law answers true. -/
import Derived.Test.YtpmilnjjgcohhaaPFnExactIsKitx1
import Derived.Test.YtpmilnjjgcohhaaLib
set_option linter.unusedVariables false
set_option linter.unusedSimpArgs false
namespace Go.Proofs.Ytpmilnjjgcohhaa.Pure
open Go.RowKit Go.Proofs.Ytpmilnjjgcohhaa.PFnExactIsKit Go.Proofs.YtpmilnjjgcohhaaW.PrintWords Go.Proofs.YtpmilnjjgcohhaaW.PrintLast Go.Proofs.Ytpmilnjjgcohhaa.Lib

theorem l1In_eq (a b c : Int) : spec_l1In.f a b c = some (decide (b ≤ a ∧ a ≤ c)) := by
  unfold spec_l1In.f
  by_cases h : a ≥ b
  · rw [if_pos h]
    congr 1
    simp only [decide_eq_decide]
    omega
  · rw [if_neg h]
    congr 1
    simp only [Bool.false_eq, decide_eq_false_iff_not]
    omega

theorem within_eq (a b c : Int) : impl_within.f a b c = some (decide (b ≤ a ∧ a ≤ c)) := by
  unfold impl_within.f
  by_cases h : a ≥ b
  · rw [if_pos h]
    congr 1
    simp only [decide_eq_decide]
    omega
  · rw [if_neg h]
    congr 1
    simp only [Bool.false_eq, decide_eq_false_iff_not]
    omega

theorem toIntS_ev (l : List Int) (hl : l.length ≤ 1048576) : Ev (fun k => laws_toIntS.f k l) l := by
  unfold laws_toIntS.f
  simp only [if_pos (show 0 ≤ (l.length : Int) by omega), if_pos (show ((l.length : Int) : Int).toNat ≤ 35184372088832 by omega)]
  have h := Ev.fold (l := fun k x i => laws_toIntS.l0 k l x i) (n := l.length) (fun i => l.take i.toNat ++ List.replicate (l.length - i.toNat) 0) (a := l)
    (fun i h0 h1 r h => by
      refine Ev.step (fun k => by rw [laws_toIntS.l0]) ?_
      have hx : i < ((l.take i.toNat ++ List.replicate (l.length - i.toNat) (0 : Int)).length : Int) := by
        rw [List.length_append, List.length_take, List.length_replicate]; omega
      simp only [if_pos h1, if_pos h0, if_pos hx, w64 (show -9223372036854775808 ≤ i + 1 by omega) (by omega)]
      unfold rd
      rw [set_fill l 0 0 i.toNat (by omega), ← toNat_succ h0]
      exact h)
    (by
      refine Ev.step (fun k => by rw [laws_toIntS.l0]) ?_
      simp only [if_neg (show ¬ (l.length : Int) < l.length by omega)]
      exact Ev.some (by simp))
    l.length 0 (by omega) (by omega)
  simpa using h

theorem eqIntS_ev (a b : List Int) (ha : a.length ≤ 9223372036854775806) : Ev (fun k => laws_eqIntS.f k a b) (decide (a = b)) := by
  unfold laws_eqIntS.f
  by_cases hl : (a.length : Int) = (b.length : Int)
  · simp only [if_pos hl]
    have h := Ev.count' (l := fun k i => laws_eqIntS.l0 k a b i) (n := a.length) (P := fun i => rd a i = rd b i) (a := true) (b := false) (by omega)
      (fun i h0 h1 hp r h => by
        refine Ev.step (fun k => by rw [laws_eqIntS.l0]) ?_
        simp only [if_pos h0, if_pos h1, if_pos (show i < (b.length : Int) by omega), if_pos hp, w64 (show -9223372036854775808 ≤ i + 1 by omega) (by omega)]
        exact h)
      (fun i h0 h1 hp => by
        refine Ev.step (fun k => by rw [laws_eqIntS.l0]) ?_
        simp only [if_pos h0, if_pos h1, if_pos (show i < (b.length : Int) by omega), if_neg hp]
        exact Ev.now _)
      (fun i h0 h1 => by
        refine Ev.step (fun k => by rw [laws_eqIntS.l0]) ?_
        simp only [if_neg (show ¬ i < (a.length : Int) by omega)]
        exact Ev.now _)
    refine Ev.as h ?_
    split
    · rename_i hc
      exact (decide_eq_true (rd_ext (by omega) fun i h0 h1 => hc i h0 h1)).symm
    · rename_i hc
      exact (decide_eq_false fun e => hc fun i h0 h1 => by rw [e]).symm
  · simp only [if_neg hl]
    exact Ev.some (decide_eq_false fun e => hl (by rw [e])).symm
theorem eqIntS_self (a : List Int) (ha : a.length ≤ 9223372036854775806) : Ev (fun k => laws_eqIntS.f k a a) true :=
  Ev.as (eqIntS_ev a a ha) (decide_eq_true rfl)

/-- The list's places are fine: each a weight, none less than the one before. -/
def KitAt (l : List Int) (i : Int) : Prop := (1 ≤ rd l i ∧ rd l i ≤ 99) ∧ (0 < i → rd l (i - 1) ≤ rd l i)
open Classical in
noncomputable def kitB (l : List Int) : Bool := if ∀ j, 0 ≤ j → j < (l.length : Int) → KitAt l j then decide (1 ≤ (l.length : Int) ∧ (l.length : Int) ≤ 6) else false

theorem l3Kit_ev (l : List Int) (hl : l.length ≤ 9223372036854775806) : Ev (fun k => spec_l3Kit.f k l) (kitB l) := by
  unfold spec_l3Kit.f kitB
  refine Ev.count' (l := fun k i => spec_l3Kit.l0 k l i) (n := l.length) (P := KitAt l) (by omega) ?_ ?_ ?_
  · intro i h0 h1 hp r h
    refine Ev.step (fun k => by rw [spec_l3Kit.l0]) ?_
    simp only [if_pos h0, if_pos h1, l1In_eq, Option.bind_some, decide_eq_true_eq, if_pos hp.1]
    by_cases hi : i > 0
    · simp only [if_pos hi, w64 (show -9223372036854775808 ≤ i - 1 by omega) (by omega), w64 (show -9223372036854775808 ≤ i + 1 by omega) (by omega), if_pos (show 0 ≤ i - 1 by omega), if_pos (show i - 1 < (l.length : Int) by omega), if_neg (show ¬ rd l (i - 1) > rd l i from by have := hp.2 hi; omega)]
      exact h
    · simp only [if_neg hi, w64 (show -9223372036854775808 ≤ i + 1 by omega) (by omega)]
      exact h
  · intro i h0 h1 hp
    refine Ev.step (fun k => by rw [spec_l3Kit.l0]) ?_
    simp only [if_pos h0, if_pos h1, l1In_eq, Option.bind_some, decide_eq_true_eq]
    by_cases hw : 1 ≤ rd l i ∧ rd l i ≤ 99
    · have hi : i > 0 := by
        by_cases hi : i > 0
        · exact hi
        · exact absurd ⟨hw, fun h => absurd h hi⟩ hp
      simp only [if_pos hw, if_pos hi, w64 (show -9223372036854775808 ≤ i - 1 by omega) (by omega), if_pos (show 0 ≤ i - 1 by omega), if_pos (show i - 1 < (l.length : Int) by omega), if_pos (show rd l (i - 1) > rd l i from by
        have : ¬ rd l (i - 1) ≤ rd l i := fun h => hp ⟨hw, fun _ => h⟩
        omega)]
      exact Ev.now _
    · simp only [if_neg hw]
      exact Ev.now _
  · intro i h0 h1
    refine Ev.step (fun k => by rw [spec_l3Kit.l0]) ?_
    simp only [if_neg (show ¬ i < (l.length : Int) by omega), l1In_eq, Option.bind_some]
    exact Ev.now _

theorem specIsKit_ev (l : List Int) (hl : l.length ≤ 9223372036854775806) : Ev (fun k => spec_IsKit.f k l) (kitB l) := by
  unfold spec_IsKit.f
  exact Ev.bind (l3Kit_ev l hl) (Ev.now _)

theorem isWeight_eq (a : Int) : impl_isWeight.f a = some (decide (1 ≤ a ∧ a ≤ 99)) := by
  unfold impl_isWeight.f
  simp only [within_eq, Option.bind_some]

theorem implIsKit_ev (l : List Int) (hl : l.length ≤ 9223372036854775806) : Ev (fun k => impl_IsKit.f k l) (kitB l) := by
  unfold impl_IsKit.f kitB
  refine Ev.count' (l := fun k i => impl_IsKit.l0 k l l l.length i) (n := l.length) (P := KitAt l) (by omega) ?_ ?_ ?_
  · intro i h0 h1 hp r h
    refine Ev.step (fun k => by rw [impl_IsKit.l0]) ?_
    simp only [if_pos h0, if_pos h1, isWeight_eq, Option.bind_some, decide_eq_true_eq, if_pos hp.1]
    by_cases hi : i > 0
    · simp only [if_pos hi, w64 (show -9223372036854775808 ≤ i - 1 by omega) (by omega), w64 (show -9223372036854775808 ≤ i + 1 by omega) (by omega), if_pos (show 0 ≤ i - 1 by omega), if_pos (show i - 1 < (l.length : Int) by omega), if_neg (show ¬ rd l i < rd l (i - 1) from by have := hp.2 hi; omega)]
      exact h
    · simp only [if_neg hi, w64 (show -9223372036854775808 ≤ i + 1 by omega) (by omega)]
      exact h
  · intro i h0 h1 hp
    refine Ev.step (fun k => by rw [impl_IsKit.l0]) ?_
    simp only [if_pos h0, if_pos h1, isWeight_eq, Option.bind_some, decide_eq_true_eq]
    by_cases hw : 1 ≤ rd l i ∧ rd l i ≤ 99
    · have hi : i > 0 := by
        by_cases hi : i > 0
        · exact hi
        · exact absurd ⟨hw, fun h => absurd h hi⟩ hp
      simp only [if_pos hw, if_pos hi, w64 (show -9223372036854775808 ≤ i - 1 by omega) (by omega), if_pos (show 0 ≤ i - 1 by omega), if_pos (show i - 1 < (l.length : Int) by omega), if_pos (show rd l i < rd l (i - 1) from by
        have : ¬ rd l (i - 1) ≤ rd l i := fun h => hp ⟨hw, fun _ => h⟩
        omega)]
      exact Ev.now _
    · simp only [if_neg hw]
      exact Ev.now _
  · intro i h0 h1
    refine Ev.step (fun k => by rw [impl_IsKit.l0]) ?_
    simp only [if_neg (show ¬ i < (l.length : Int) by omega), within_eq, Option.bind_some]
    exact Ev.now _

theorem FnExactIsKit : laws_FnExactIsKit.Pure := by
  intro l hm hb hw
  refine Ev.rounds ?_
  unfold laws_FnExactIsKit.f
  by_cases h : (l.length : Int) > 1048576
  · simp only [if_pos h]; exact Ev.now _
  · simp only [if_neg h]
    have ht := toIntS_ev l (by omega)
    refine Ev.bind ht (Ev.bind (specIsKit_ev l (by omega)) (Ev.bind ht (Ev.bind (implIsKit_ev l (by omega)) ?_)))
    simp only [bne_self_eq_false, Bool.false_eq_true, if_false]
    refine Ev.bind ht (Ev.bind (eqIntS_self l (by omega)) ?_)
    simp only [if_true]
    exact Ev.now _


end Go.Proofs.Ytpmilnjjgcohhaa.Pure

