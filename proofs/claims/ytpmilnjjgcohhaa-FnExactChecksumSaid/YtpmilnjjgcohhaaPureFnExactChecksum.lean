/- For every string the plain function of the Checksum law answers true. -/
import Derived.Test.YtpmilnjjgcohhaaPFnExactChecksumx1
import Derived.Test.YtpmilnjjgcohhaaLib
set_option linter.unusedVariables false
set_option linter.unusedSimpArgs false
namespace Go.Proofs.Ytpmilnjjgcohhaa.Pure
open Go.RowKit Go.Proofs.Ytpmilnjjgcohhaa.PFnExactChecksum Go.Proofs.YtpmilnjjgcohhaaW.PrintWords Go.Proofs.YtpmilnjjgcohhaaW.PrintLast Go.Proofs.Ytpmilnjjgcohhaa.Lib

theorem sum_ev (s : ByteArray) (hs : s.size ≤ 4000) : ∀ (d : Nat) (x i : Int), 0 ≤ i → i + d = s.size → ∃ r, Ev (fun k => spec_l1Sum.l0 k s x i) r ∧ Ev (fun k => impl_Checksum.l0 k s x (s.size : Int) i) (r, true)
  | 0, x, i, h0, hd => by
    refine ⟨x, Ev.step (fun k => by rw [spec_l1Sum.l0]) ?_, Ev.step (fun k => by rw [impl_Checksum.l0]) ?_⟩
    · simp only [if_neg (show ¬ i < (s.size : Int) by omega)]; exact Ev.now _
    · simp only [if_neg (show ¬ i < (s.size : Int) by omega)]; exact Ev.now _
  | d + 1, x, i, h0, hd => by
    have e : wrap64 (i + 1) = i + 1 := w64 (by omega) (by omega)
    obtain ⟨r, h1, h2⟩ := sum_ev s hs d (Int.tmod (wrap64 ((wrap64 ((wrap64 (41 * x)) + (wrap64 (bt s i)))) + 1)) 999979) (i + 1) (by omega) (by omega)
    refine ⟨r, Ev.step (fun k => by rw [spec_l1Sum.l0]) ?_, Ev.step (fun k => by rw [impl_Checksum.l0]) ?_⟩
    · simp only [if_pos (show i < (s.size : Int) by omega), if_pos h0, e]; exact h1
    · simp only [if_pos (show i < (s.size : Int) by omega), if_pos h0, e]; exact h2

theorem Checksum_ev (s : ByteArray) : ∃ r b, Ev (fun k => spec_Checksum.f k s) (r, b) ∧ Ev (fun k => impl_Checksum.f k s) (r, b) := by
  unfold spec_Checksum.f impl_Checksum.f spec_l1Sum.f
  by_cases h : (s.size : Int) > 4000
  · exact ⟨0, false, by simp only [if_pos h]; exact Ev.now _, by simp only [if_pos h]; exact Ev.now _⟩
  · obtain ⟨r, h1, h2⟩ := sum_ev s (by omega) s.size 7 0 (by omega) (by omega)
    exact ⟨r, true, by simp only [if_neg h]; exact Ev.bind h1 (Ev.now _), by simp only [if_neg h]; exact h2⟩

theorem FnExactChecksum : laws_FnExactChecksum.Pure := by
  intro s _
  refine Ev.rounds ?_
  unfold laws_FnExactChecksum.f
  by_cases h : (s.size : Int) > 1048576
  · simp only [if_pos h]; exact Ev.now _
  · simp only [if_neg h]
    obtain ⟨r, b, h1, h2⟩ := Checksum_ev s
    refine Ev.bind h1 (Ev.bind h2 ?_)
    simp only [bne_self_eq_false, Bool.false_eq_true, if_false, if_true]
    exact Ev.now _


end Go.Proofs.Ytpmilnjjgcohhaa.Pure

