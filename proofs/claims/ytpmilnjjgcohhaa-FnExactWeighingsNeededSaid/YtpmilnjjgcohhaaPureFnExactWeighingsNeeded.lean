/- For every whole number the plain function of the WeighingsNeeded law answers true. -/
import Derived.Test.YtpmilnjjgcohhaaPFnExactWeighingsNeededx1
import Derived.Test.YtpmilnjjgcohhaaLib
set_option linter.unusedVariables false
set_option linter.unusedSimpArgs false
namespace Go.Proofs.Ytpmilnjjgcohhaa.Pure
open Go.RowKit Go.Proofs.Ytpmilnjjgcohhaa.PFnExactWeighingsNeeded Go.Proofs.YtpmilnjjgcohhaaW.PrintWords Go.Proofs.YtpmilnjjgcohhaaW.PrintLast Go.Proofs.Ytpmilnjjgcohhaa.Lib

theorem l1In_eq (a b c : Int) : spec_l1In.f a b c = some (decide (b ≤ a ∧ a ≤ c)) := by
  unfold spec_l1In.f
  by_cases h : a ≥ b
  · rw [if_pos h]
    congr 1
    simp only [decide_eq_decide]
    omega
  · rw [if_neg h]
    congr 1
    simp only [Bool.false_eq, decide_eq_false_iff_not]
    omega

theorem within_eq (a b c : Int) : impl_within.f a b c = some (decide (b ≤ a ∧ a ≤ c)) := by
  unfold impl_within.f
  by_cases h : a ≥ b
  · rw [if_pos h]
    congr 1
    simp only [decide_eq_decide]
    omega
  · rw [if_neg h]
    congr 1
    simp only [Bool.false_eq, decide_eq_false_iff_not]
    omega

theorem needed_ev : ∀ (d : Nat) (n x p : Int), 1 ≤ p → n ≤ 40 → 0 ≤ x → x + d ≤ 100 → n ≤ p + d → ∃ r, Ev (fun k => spec_l3Needed.l0 k n x p) r ∧ Ev (fun k => impl_WeighingsNeeded.l0 k n x p) (r, true)
  | 0, n, x, p, hp, hn, hx, hx2, hd => by
    refine ⟨x, Ev.step (fun k => by rw [spec_l3Needed.l0]) ?_, Ev.step (fun k => by rw [impl_WeighingsNeeded.l0]) ?_⟩
    · simp only [if_neg (show ¬ p < n by omega)]; exact Ev.now _
    · simp only [if_neg (show ¬ p < n by omega)]; exact Ev.now _
  | d + 1, n, x, p, hp, hn, hx, hx2, hd => by
    by_cases h : p < n
    · obtain ⟨r, h1, h2⟩ := needed_ev d n (x + 1) (p * 3) (by omega) hn (by omega) (by omega) (by omega)
      refine ⟨r, Ev.step (fun k => by rw [spec_l3Needed.l0]) ?_, Ev.step (fun k => by rw [impl_WeighingsNeeded.l0]) ?_⟩
      · simp only [if_pos h, w64 (show -9223372036854775808 ≤ x + 1 by omega) (by omega), w64 (show -9223372036854775808 ≤ 3 * p by omega) (by omega)]
        rw [Int.mul_comm 3 p]
        exact h1
      · simp only [if_pos h, w64 (show -9223372036854775808 ≤ x + 1 by omega) (by omega), w64 (show -9223372036854775808 ≤ p * 3 by omega) (by omega)]
        exact h2
    · refine ⟨x, Ev.step (fun k => by rw [spec_l3Needed.l0]) ?_, Ev.step (fun k => by rw [impl_WeighingsNeeded.l0]) ?_⟩
      · simp only [if_neg h]; exact Ev.now _
      · simp only [if_neg h]; exact Ev.now _

theorem WeighingsNeeded_ev (n : Int) : ∃ r b, Ev (fun k => spec_WeighingsNeeded.f k n) (r, b) ∧ Ev (fun k => impl_WeighingsNeeded.f k n) (r, b) := by
  unfold spec_WeighingsNeeded.f impl_WeighingsNeeded.f spec_l3Coins.f impl_areCoins.f spec_l3Needed.f
  simp only [l1In_eq, within_eq, Option.bind_some]
  by_cases h : 2 ≤ n ∧ n ≤ 40
  · obtain ⟨r, h1, h2⟩ := needed_ev 40 n 0 1 (by omega) (by omega) (by omega) (by omega) (by omega)
    refine ⟨r, true, ?_, ?_⟩
    · simp only [h, decide_true, and_self, if_true]
      exact Ev.bind h1 (Ev.now _)
    · simp only [h, decide_true, and_self, if_true]
      exact h2
  · refine ⟨0, false, ?_, ?_⟩
    · simp only [h, decide_false, Bool.false_eq_true, if_false]
      exact Ev.now _
    · simp only [h, decide_false, Bool.false_eq_true, if_false]
      exact Ev.now _


theorem FnExactWeighingsNeeded : laws_FnExactWeighingsNeeded.Pure := by
  intro n _
  refine Ev.rounds ?_
  unfold laws_FnExactWeighingsNeeded.f
  obtain ⟨r, b, h1, h2⟩ := WeighingsNeeded_ev n
  refine Ev.bind h1 (Ev.bind h2 ?_)
  simp only [bne_self_eq_false, Bool.false_eq_true, if_false, if_true]
  exact Ev.now _


end Go.Proofs.Ytpmilnjjgcohhaa.Pure

