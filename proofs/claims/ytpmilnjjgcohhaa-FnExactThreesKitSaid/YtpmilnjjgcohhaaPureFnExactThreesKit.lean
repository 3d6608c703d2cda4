/- For every whole number the plain function of the ThreesKit law answers true. -/
import Derived.Test.YtpmilnjjgcohhaaPFnExactThreesKitx2
import Derived.Test.YtpmilnjjgcohhaaLib
set_option linter.unusedVariables false
set_option linter.unusedSimpArgs false
namespace Go.Proofs.Ytpmilnjjgcohhaa.Pure
open Go.RowKit Go.Proofs.Ytpmilnjjgcohhaa.PFnExactThreesKit Go.Proofs.YtpmilnjjgcohhaaW.PrintWords Go.Proofs.YtpmilnjjgcohhaaW.PrintLast Go.Proofs.Ytpmilnjjgcohhaa.Lib

theorem l1In_eq (a b c : Int) : spec_l1In.f a b c = some (decide (b ≤ a ∧ a ≤ c)) := by
  unfold spec_l1In.f
  by_cases h : a ≥ b
  · rw [if_pos h]
    congr 1
    simp only [decide_eq_decide]
    omega
  · rw [if_neg h]
    congr 1
    simp only [Bool.false_eq, decide_eq_false_iff_not]
    omega

theorem within_eq (a b c : Int) : impl_within.f a b c = some (decide (b ≤ a ∧ a ≤ c)) := by
  unfold impl_within.f
  by_cases h : a ≥ b
  · rw [if_pos h]
    congr 1
    simp only [decide_eq_decide]
    omega
  · rw [if_neg h]
    congr 1
    simp only [Bool.false_eq, decide_eq_false_iff_not]
    omega

theorem eqIntS_ev (a b : List Int) (ha : a.length ≤ 9223372036854775806) : Ev (fun k => laws_eqIntS.f k a b) (decide (a = b)) := by
  unfold laws_eqIntS.f
  by_cases hl : (a.length : Int) = (b.length : Int)
  · simp only [if_pos hl]
    have h := Ev.count' (l := fun k i => laws_eqIntS.l0 k a b i) (n := a.length) (P := fun i => rd a i = rd b i) (a := true) (b := false) (by omega)
      (fun i h0 h1 hp r h => by
        refine Ev.step (fun k => by rw [laws_eqIntS.l0]) ?_
        simp only [if_pos h0, if_pos h1, if_pos (show i < (b.length : Int) by omega), if_pos hp, w64 (show -9223372036854775808 ≤ i + 1 by omega) (by omega)]
        exact h)
      (fun i h0 h1 hp => by
        refine Ev.step (fun k => by rw [laws_eqIntS.l0]) ?_
        simp only [if_pos h0, if_pos h1, if_pos (show i < (b.length : Int) by omega), if_neg hp]
        exact Ev.now _)
      (fun i h0 h1 => by
        refine Ev.step (fun k => by rw [laws_eqIntS.l0]) ?_
        simp only [if_neg (show ¬ i < (a.length : Int) by omega)]
        exact Ev.now _)
    refine Ev.as h ?_
    split
    · rename_i hc
      exact (decide_eq_true (rd_ext (by omega) fun i h0 h1 => hc i h0 h1)).symm
    · rename_i hc
      exact (decide_eq_false fun e => hc fun i h0 h1 => by rw [e]).symm
  · simp only [if_neg hl]
    exact Ev.some (decide_eq_false fun e => hl (by rw [e])).symm
theorem eqIntS_self (a : List Int) (ha : a.length ≤ 9223372036854775806) : Ev (fun k => laws_eqIntS.f k a a) true :=
  Ev.as (eqIntS_ev a a ha) (decide_eq_true rfl)

theorem markIntS_ev (l : List Int) (hl : l.length ≤ 1048576) (m : Int) (hm : 0 ≤ m) (hm2 : m ≤ 1048576) : Ev (fun k => laws_markIntS.f k l m) (m + l.length, marks m l.length) := by
  unfold laws_markIntS.f
  have h := Ev.fold (l := fun k (s : List Int × Int) i => laws_markIntS.l0 k s.1 s.2 i) (n := l.length) (fun i => (marks m i.toNat ++ l.drop i.toNat, m + i)) (a := (m + l.length, marks m l.length))
    (fun i h0 h1 r h => by
      refine Ev.step (fun k => by rw [laws_markIntS.l0]) ?_
      have hx : i < ((marks m i.toNat ++ l.drop i.toNat).length : Int) := by
        rw [List.length_append, marks_length, List.length_drop]; omega
      simp only [if_pos h0, if_pos hx, w64 (show -9223372036854775808 ≤ i + 1 by omega) (by omega), w64 (show -9223372036854775808 ≤ m + i + 1 by omega) (by omega)]
      rw [List.set_append_right _ _ (by rw [marks_length]; omega), marks_length, Nat.sub_self]
      have e : l.drop i.toNat = l[i.toNat]'(by omega) :: l.drop (i + 1).toNat := by
        rw [toNat_succ h0]; exact List.drop_eq_getElem_cons (by omega)
      rw [e, List.set_cons_zero]
      have e2 : marks m (i + 1).toNat = marks m i.toNat ++ [m + i] := by
        rw [toNat_succ h0]; unfold marks; rw [List.range_succ, List.map_append]; simp; omega
      simp only [e2, List.append_assoc, List.singleton_append, ← Int.add_assoc] at h
      exact h)
    (by
      refine Ev.step (fun k => by rw [laws_markIntS.l0]) ?_
      have hx : ¬ (l.length : Int) < ((marks m (l.length : Int).toNat ++ l.drop (l.length : Int).toNat).length : Int) := by
        rw [List.length_append, marks_length, List.length_drop]; omega
      simp only [if_neg hx]
      exact Ev.some (by simp))
    l.length 0 (by omega) (by omega)
  simpa [marks] using h
theorem heldIntS_ev (n : Nat) (hn : n ≤ 1048576) (m : Int) (hm : 0 ≤ m) (hm2 : m ≤ 1048576) : Ev (fun k => laws_heldIntS.f k (marks m n) m) (m + n) := by
  unfold laws_heldIntS.f
  have h := Ev.fold (l := fun k (s : Int) i => laws_heldIntS.l0 k (marks m n) s i) (n := n) (fun i => m + i) (a := m + n)
    (fun i h0 h1 r h => by
      refine Ev.step (fun k => by rw [laws_heldIntS.l0]) ?_
      simp only [if_pos h0, marks_length, if_pos h1, if_pos (rd_marks m n i h0 h1), w64 (show -9223372036854775808 ≤ i + 1 by omega) (by omega), w64 (show -9223372036854775808 ≤ m + i + 1 by omega) (by omega)]
      simp only [← Int.add_assoc] at h
      exact h)
    (by
      refine Ev.step (fun k => by rw [laws_heldIntS.l0]) ?_
      simp only [marks_length, if_neg (show ¬ (n : Int) < (n : Int) by omega)]
      exact Ev.now _)
    n 0 (by omega) (by omega)
  simpa using h

/-- The first n powers of b. -/
def pows (b : Int) (n : Nat) : List Int := (List.range n).map fun (j : Nat) => b ^ j
theorem pows_succ (b : Int) (n : Nat) : pows b (n + 1) = pows b n ++ [b ^ n] := by
  unfold pows; rw [List.range_succ, List.map_append]; rfl
theorem pows_length (b : Int) (n : Nat) : (pows b n).length = n := by simp [pows]
theorem rd_pows (b : Int) (n : Nat) (i : Int) (h0 : 0 ≤ i) (h1 : i < n) : rd (pows b n) i = b ^ i.toNat := by
  unfold rd pows
  rw [getD_lt _ (by simp; omega)]
  simp
theorem pow_fits (b : Int) (hb : b = 2 ∨ b = 3) : ∀ n : Nat, n ≤ 8 → 1 ≤ b ^ n ∧ b ^ n ≤ 6561 := by
  intro n hn
  have : n = 0 ∨ n = 1 ∨ n = 2 ∨ n = 3 ∨ n = 4 ∨ n = 5 ∨ n = 6 ∨ n = 7 ∨ n = 8 := by omega
  rcases hb with rfl | rfl <;> rcases this with rfl | rfl | rfl | rfl | rfl | rfl | rfl | rfl | rfl <;> decide
theorem l3Powers_ev (b : Int) (hb : b = 2 ∨ b = 3) (n : Int) (h1 : 1 ≤ n) (h6 : n ≤ 6) : Ev (fun k => spec_l3Powers.f k b n) (pows b n.toNat) := by
  unfold spec_l3Powers.f
  have key : ∀ (d : Nat) (i : Nat), 1 ≤ i → (i : Int) + d = n → Ev (fun k => spec_l3Powers.l0 k b n (pows b i)) (pows b n.toNat) := by
    intro d
    induction d with
    | zero =>
      intro i hi hd
      refine Ev.step (fun k => by rw [spec_l3Powers.l0]) ?_
      simp only [pows_length, if_neg (show ¬ (i : Int) < n by omega)]
      exact Ev.some (by congr 1; omega)
    | succ d ih =>
      intro i hi hd
      have hp := pow_fits b hb (i - 1) (by omega)
      refine Ev.step (fun k => by rw [spec_l3Powers.l0]) ?_
      have e : b * b ^ (i - 1) = b ^ i := by
        obtain ⟨j, rfl⟩ : ∃ j, i = j + 1 := ⟨i - 1, by omega⟩
        rw [Nat.add_sub_cancel, Int.pow_succ, Int.mul_comm]
      have hp' := pow_fits b hb i (by omega)
      simp only [pows_length, if_pos (show (i : Int) < n by omega), w64 (show -9223372036854775808 ≤ (i : Int) - 1 by omega) (by omega), if_pos (show 0 ≤ (i : Int) - 1 by omega), if_pos (show (i : Int) - 1 < (i : Int) by omega), if_pos (show i < 17592186044416 by omega), rd_pows b i ((i : Int) - 1) (by omega) (by omega), show ((i : Int) - 1).toNat = i - 1 by omega, e, w64 (show -9223372036854775808 ≤ b ^ i by omega) (by omega)]
      rw [← pows_succ]
      exact ih (i + 1) (by omega) (by omega)
  have h := key (n.toNat - 1) 1 (by omega) (by omega)
  simpa [pows] using h
theorem powers_ev (b : Int) (hb : b = 2 ∨ b = 3) (n : Int) (h1 : 1 ≤ n) (h6 : n ≤ 6) : Ev (fun k => impl_powers.f k b n) (pows b n.toNat) := by
  unfold impl_powers.f
  have h := Ev.fold (l := fun k (s : List Int × Int) i => impl_powers.l0 k b s.1 s.2 n i) (n := n) (fun i => (pows b i.toNat, b ^ i.toNat)) (a := pows b n.toNat)
    (fun i h0 h1 r h => by
      have hp := pow_fits b hb (i.toNat + 1) (by omega)
      rw [Int.pow_succ] at hp
      refine Ev.step (fun k => by rw [impl_powers.l0]) ?_
      simp only [if_pos h1, pows_length, if_pos (show i.toNat < 17592186044416 by omega), w64 (show -9223372036854775808 ≤ i + 1 by omega) (by omega), w64 (show -9223372036854775808 ≤ b ^ i.toNat * b by omega) (by omega)]
      simp only [toNat_succ h0, pows_succ, Int.pow_succ] at h
      exact h)
    (by
      refine Ev.step (fun k => by rw [impl_powers.l0]) ?_
      simp only [if_neg (show ¬ n < n by omega)]
      exact Ev.now _)
    n.toNat 0 (by omega) (by omega)
  simpa [pows] using h

theorem specThreesKit_ev (n : Int) : Ev (fun k => spec_ThreesKit.f k n) (if 1 ≤ n ∧ n ≤ 5 then (pows 3 n.toNat, true) else ([], false)) := by
  unfold spec_ThreesKit.f
  simp only [l1In_eq, Option.bind_some, decide_eq_true_eq]
  by_cases h : 1 ≤ n ∧ n ≤ 5
  · simp only [if_pos h]
    exact Ev.bind (l3Powers_ev 3 (by decide) n (by omega) (by omega)) (Ev.now _)
  · simp only [if_neg h]
    exact Ev.now _
theorem implThreesKit_ev (n : Int) : Ev (fun k => impl_ThreesKit.f k n) (if 1 ≤ n ∧ n ≤ 5 then (pows 3 n.toNat, true) else ([], false)) := by
  unfold impl_ThreesKit.f
  simp only [within_eq, Option.bind_some, decide_eq_true_eq]
  by_cases h : 1 ≤ n ∧ n ≤ 5
  · simp only [if_pos h]
    exact Ev.bind (powers_ev 3 (by decide) n (by omega) (by omega)) (Ev.now _)
  · simp only [if_neg h]
    exact Ev.now _

theorem FnExactThreesKit : laws_FnExactThreesKit.Pure := by
  intro n _
  refine Ev.rounds ?_
  unfold laws_FnExactThreesKit.f
  have hs := specThreesKit_ev n
  have hi := implThreesKit_ev n
  obtain ⟨l, b, hl, hs, hi⟩ : ∃ (l : List Int) (b : Bool), l.length ≤ 6 ∧ Ev (fun k => spec_ThreesKit.f k n) (l, b) ∧ Ev (fun k => impl_ThreesKit.f k n) (l, b) := by
    by_cases h : 1 ≤ n ∧ n ≤ 5
    · rw [if_pos h] at hs hi
      exact ⟨_, _, by rw [pows_length]; omega, hs, hi⟩
    · rw [if_neg h] at hs hi
      exact ⟨_, _, by simp, hs, hi⟩
  have heq := eqIntS_self l (by omega)
  have hh := heldIntS_ev l.length (by omega) 1 (by omega) (by omega)
  refine Ev.bind hs (Ev.bind hi (Ev.bind heq ?_))
  simp only [if_true, bne_self_eq_false]
  refine Ev.step (fun k => by rw [laws_FnExactThreesKit.j0]) ?_
  simp only [Bool.false_eq_true, if_false]
  have hm := markIntS_ev l (by omega) 1 (by omega) (by omega)
  refine Ev.bind hm (Ev.bind hh ?_)
  simp only [if_neg (show ¬ (1 : Int) + (l.length : Int) < 0 by omega), if_true]
  refine Ev.bind hi (Ev.bind heq ?_)
  simp only [if_true, bne_self_eq_false]
  refine Ev.step (fun k => by rw [laws_FnExactThreesKit.j1]) ?_
  simp only [Bool.false_eq_true, if_false]
  refine Ev.bind hh ?_
  simp only [if_neg (show ¬ (1 : Int) + (l.length : Int) < 0 by omega), if_true]
  exact Ev.now _


end Go.Proofs.Ytpmilnjjgcohhaa.Pure

