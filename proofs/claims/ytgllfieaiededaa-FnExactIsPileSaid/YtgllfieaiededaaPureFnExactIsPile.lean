/- For every pile the plain function of the IsPile law answers true. -/
import Derived.Test.YtgllfieaiededaaPFnExactIsPilex3
import Derived.Test.YtgllfieaiededaaLib
set_option linter.unusedVariables false
set_option linter.unusedSimpArgs false
namespace Go.Proofs.Ytgllfieaiededaa.Pure
open Go.RowKit Go.Proofs.Ytgllfieaiededaa.PFnExactIsPile Go.Proofs.YtgllfieaiededaaW.PrintWords Go.Proofs.YtgllfieaiededaaW.PrintLast Go.Proofs.Ytgllfieaiededaa.Lib

theorem l1In_eq (a b c : Int) : spec_l1In.f a b c = some (decide (b ≤ a ∧ a ≤ c)) := by
  unfold spec_l1In.f
  by_cases h : a ≥ b
  · rw [if_pos h]
    congr 1
    simp only [decide_eq_decide]
    omega
  · rw [if_neg h]
    congr 1
    simp only [Bool.false_eq, decide_eq_false_iff_not]
    omega

theorem within_eq (a b c : Int) : impl_within.f a b c = some (decide (b ≤ a ∧ a ≤ c)) := by
  unfold impl_within.f
  by_cases h : a ≥ b
  · rw [if_pos h]
    congr 1
    simp only [decide_eq_decide]
    omega
  · rw [if_neg h]
    congr 1
    simp only [Bool.false_eq, decide_eq_false_iff_not]
    omega

theorem toIntS_ev (l : List Int) (hl : l.length ≤ 1048576) : Ev (fun k => laws_toIntS.f k l) l := by
  unfold laws_toIntS.f
  simp only [if_pos (show 0 ≤ (l.length : Int) by omega), if_pos (show ((l.length : Int) : Int).toNat ≤ 35184372088832 by omega)]
  have h := Ev.fold (l := fun k x i => laws_toIntS.l0 k l x i) (n := l.length) (fun i => l.take i.toNat ++ List.replicate (l.length - i.toNat) 0) (a := l)
    (fun i h0 h1 r h => by
      refine Ev.step (fun k => by rw [laws_toIntS.l0]) ?_
      have hx : i < ((l.take i.toNat ++ List.replicate (l.length - i.toNat) (0 : Int)).length : Int) := by
        rw [List.length_append, List.length_take, List.length_replicate]; omega
      simp only [if_pos h1, if_pos h0, if_pos hx, w64 (show -9223372036854775808 ≤ i + 1 by omega) (by omega)]
      unfold rd
      rw [set_fill l 0 0 i.toNat (by omega), ← toNat_succ h0]
      exact h)
    (by
      refine Ev.step (fun k => by rw [laws_toIntS.l0]) ?_
      simp only [if_neg (show ¬ (l.length : Int) < l.length by omega)]
      exact Ev.some (by simp))
    l.length 0 (by omega) (by omega)
  simpa using h

theorem eqIntS_ev (a b : List Int) (ha : a.length ≤ 9223372036854775806) : Ev (fun k => laws_eqIntS.f k a b) (decide (a = b)) := by
  unfold laws_eqIntS.f
  by_cases hl : (a.length : Int) = (b.length : Int)
  · simp only [if_pos hl]
    have h := Ev.count' (l := fun k i => laws_eqIntS.l0 k a b i) (n := a.length) (P := fun i => rd a i = rd b i) (a := true) (b := false) (by omega)
      (fun i h0 h1 hp r h => by
        refine Ev.step (fun k => by rw [laws_eqIntS.l0]) ?_
        simp only [if_pos h0, if_pos h1, if_pos (show i < (b.length : Int) by omega), if_pos hp, w64 (show -9223372036854775808 ≤ i + 1 by omega) (by omega)]
        exact h)
      (fun i h0 h1 hp => by
        refine Ev.step (fun k => by rw [laws_eqIntS.l0]) ?_
        simp only [if_pos h0, if_pos h1, if_pos (show i < (b.length : Int) by omega), if_neg hp]
        exact Ev.now _)
      (fun i h0 h1 => by
        refine Ev.step (fun k => by rw [laws_eqIntS.l0]) ?_
        simp only [if_neg (show ¬ i < (a.length : Int) by omega)]
        exact Ev.now _)
    refine Ev.as h ?_
    split
    · rename_i hc
      exact (decide_eq_true (rd_ext (by omega) fun i h0 h1 => hc i h0 h1)).symm
    · rename_i hc
      exact (decide_eq_false fun e => hc fun i h0 h1 => by rw [e]).symm
  · simp only [if_neg hl]
    exact Ev.some (decide_eq_false fun e => hl (by rw [e])).symm
theorem eqIntS_self (a : List Int) (ha : a.length ≤ 9223372036854775806) : Ev (fun k => laws_eqIntS.f k a a) true :=
  Ev.as (eqIntS_ev a a ha) (decide_eq_true rfl)

theorem szIntS_eq (l : List Int) (n : Int) (h0 : 0 ≤ n) (h1 : n ≤ 1048576) (hl : l.length ≤ maxLen) : laws_szIntS.f l n = some (if (l.length : Int) > n then -1 else n - (l.length : Int)) := by
  unfold maxLen at hl
  unfold laws_szIntS.f
  rw [w64 (show -9223372036854775808 ≤ n - (l.length : Int) by omega) (by omega)]
  by_cases h : (l.length : Int) > n
  · rw [if_pos h, if_pos (by omega)]
  · rw [if_neg h, if_neg (by omega)]

def PileAt (l w : List Int) (i : Int) : Prop := (-99 ≤ rd l i ∧ rd l i ≤ 99) ∧ (1 ≤ rd w i ∧ rd w i ≤ 99)
open Classical in
noncomputable def pileB (n : Int) (l w : List Int) : Bool := if (1 ≤ n ∧ n ≤ 24) ∧ (1 ≤ (l.length : Int) ∧ (l.length : Int) ≤ 8) ∧ (w.length : Int) = (l.length : Int) then (if ∀ j, 0 ≤ j → j < (l.length : Int) → PileAt l w j then true else false) else false
theorem specPile_ev (n : Int) (l w : List Int) (hl : l.length ≤ 1048576) : Ev (fun k => spec_IsPile.f k n l w) (pileB n l w) := by
  unfold spec_IsPile.f spec_l4Pile.f pileB
  have done : Ev (fun k => spec_l4Pile.j0 k (l.length : Int) true n l w) false := by
    refine Ev.step (fun k => by rw [spec_l4Pile.j0]) ?_
    simp only [if_true]
    exact Ev.now _
  refine Ev.bind (a := _) ?_ (Ev.now _)
  simp only [l1In_eq, Option.bind_some, decide_eq_true_eq]
  by_cases h1 : 1 ≤ n ∧ n ≤ 24
  · by_cases h2 : 1 ≤ (l.length : Int) ∧ (l.length : Int) ≤ 8
    · by_cases h3 : (w.length : Int) = (l.length : Int)
      · simp only [if_pos h1, if_pos h2, h1, h2, h3, and_self, if_true, bne_self_eq_false]
        refine Ev.step (fun k => by rw [spec_l4Pile.j0]) ?_
        simp only [Bool.false_eq_true, if_false]
        refine Ev.count' (l := fun k i => spec_l4Pile.l0 k l.length i n l w) (P := PileAt l w) (by omega) ?_ ?_ ?_
        · intro i h0 hi hp r h
          refine Ev.step (fun k => by rw [spec_l4Pile.l0]) ?_
          simp only [if_pos hi, if_pos h0, l1In_eq, Option.bind_some, decide_eq_true_eq, if_pos hp.1, if_pos (show i < (w.length : Int) by omega), if_pos hp.2, w64 (show -9223372036854775808 ≤ i + 1 by omega) (by omega)]
          exact h
        · intro i h0 hi hp
          refine Ev.step (fun k => by rw [spec_l4Pile.l0]) ?_
          simp only [if_pos hi, if_pos h0, l1In_eq, Option.bind_some, decide_eq_true_eq, if_pos (show i < (w.length : Int) by omega)]
          by_cases hq : -99 ≤ rd l i ∧ rd l i ≤ 99
          · simp only [if_pos hq, if_neg (show ¬ (1 ≤ rd w i ∧ rd w i ≤ 99) from fun h => hp ⟨hq, h⟩)]
            exact Ev.now _
          · simp only [if_neg hq]
            exact Ev.now _
        · intro i h0 hi
          refine Ev.step (fun k => by rw [spec_l4Pile.l0]) ?_
          simp only [if_neg (show ¬ i < (l.length : Int) by omega)]
          exact Ev.now _
      · simp only [if_pos h1, if_pos h2, h3, and_false, if_false, bne_iff_ne.2 h3]
        exact done
    · simp only [if_pos h1, if_neg h2, h2, false_and, and_false, if_false]
      exact done
  · simp only [if_neg h1, h1, false_and, if_false]
    exact done
theorem implPile_ev (n : Int) (l w : List Int) (hl : l.length ≤ 1048576) : Ev (fun k => impl_IsPile.f k n l w) (pileB n l w) := by
  unfold impl_IsPile.f impl_isWide.f pileB
  have done : Ev (fun k => impl_IsPile.j0 k true n l w) false := by
    refine Ev.step (fun k => by rw [impl_IsPile.j0]) ?_
    simp only [if_true]
    exact Ev.now _
  simp only [within_eq, Option.bind_some, decide_eq_true_eq]
  by_cases h1 : 1 ≤ n ∧ n ≤ 24
  · by_cases h2 : 1 ≤ (l.length : Int) ∧ (l.length : Int) ≤ 8
    · by_cases h3 : (w.length : Int) = (l.length : Int)
      · simp only [if_pos h1, if_pos h2, h1, h2, h3, and_self, if_true, bne_self_eq_false]
        refine Ev.step (fun k => by rw [impl_IsPile.j0]) ?_
        simp only [Bool.false_eq_true, if_false]
        refine Ev.count' (l := fun k i => impl_IsPile.l0 k l l.length i n l w) (P := PileAt l w) (by omega) ?_ ?_ ?_
        · intro i h0 hi hp r h
          refine Ev.step (fun k => by rw [impl_IsPile.l0]) ?_
          simp only [if_pos hi, if_pos h0, impl_isLeft.f, impl_isWeight.f, within_eq, Option.bind_some, decide_eq_true_eq, if_pos hp.1, if_pos (show i < (w.length : Int) by omega), if_pos hp.2, w64 (show -9223372036854775808 ≤ i + 1 by omega) (by omega)]
          exact h
        · intro i h0 hi hp
          refine Ev.step (fun k => by rw [impl_IsPile.l0]) ?_
          simp only [if_pos hi, if_pos h0, impl_isLeft.f, impl_isWeight.f, within_eq, Option.bind_some, decide_eq_true_eq, if_pos (show i < (w.length : Int) by omega)]
          by_cases hq : -99 ≤ rd l i ∧ rd l i ≤ 99
          · simp only [if_pos hq, if_neg (show ¬ (1 ≤ rd w i ∧ rd w i ≤ 99) from fun h => hp ⟨hq, h⟩)]
            exact Ev.now _
          · simp only [if_neg hq]
            exact Ev.now _
        · intro i h0 hi
          refine Ev.step (fun k => by rw [impl_IsPile.l0]) ?_
          simp only [if_neg (show ¬ i < (l.length : Int) by omega)]
          exact Ev.now _
      · simp only [if_pos h1, if_pos h2, h3, and_false, if_false, bne_iff_ne.2 h3]
        exact done
    · simp only [if_pos h1, if_neg h2, h2, false_and, and_false, if_false]
      exact done
  · simp only [if_neg h1, h1, false_and, if_false]
    exact done

theorem FnExactIsPile : laws_FnExactIsPile.Pure := by
  intro n l w _ hl hw
  refine Ev.rounds ?_
  unfold laws_FnExactIsPile.f laws_szPile.f
  simp only [szIntS_eq l 1048576 (by omega) (by omega) hl.1, Option.bind_some]
  by_cases h : (l.length : Int) > 1048576
  · simp only [if_pos h, show ((-1 : Int) < 0) by decide, if_true, Option.bind_some]; exact Ev.now _
  · simp only [if_neg h, if_neg (show ¬ 1048576 - (l.length : Int) < 0 by omega), szIntS_eq w (1048576 - (l.length : Int)) (by omega) (by omega) hw.1, Option.bind_some]
    by_cases h2 : (w.length : Int) > 1048576 - (l.length : Int)
    · simp only [if_pos h2, show ((-1 : Int) < 0) by decide, if_true, Option.bind_some]; exact Ev.now _
    · simp only [if_neg h2, if_neg (show ¬ 1048576 - (l.length : Int) - (w.length : Int) < 0 by omega), Option.bind_some]
      have ht : Ev (fun k => laws_toPile.f k n l w) (n, l, w) := by
        unfold laws_toPile.f
        exact Ev.bind (toIntS_ev l (by omega)) (Ev.bind (toIntS_ev w (by omega)) (Ev.now _))
      have he : Ev (fun k => laws_eqPile.f k n l w n l w) true := by
        unfold laws_eqPile.f
        simp only [if_true]
        refine Ev.bind (eqIntS_self l (by omega)) ?_
        simp only [if_true]
        refine Ev.bind (eqIntS_self w (by omega)) ?_
        simp only [if_true]
        exact Ev.now _
      refine Ev.bind ht (Ev.bind (specPile_ev n l w (by omega)) (Ev.bind ht (Ev.bind (implPile_ev n l w (by omega)) ?_)))
      simp only [bne_self_eq_false, Bool.false_eq_true, if_false]
      refine Ev.bind ht (Ev.bind he ?_)
      simp only [if_true]
      exact Ev.now _


end Go.Proofs.Ytgllfieaiededaa.Pure

