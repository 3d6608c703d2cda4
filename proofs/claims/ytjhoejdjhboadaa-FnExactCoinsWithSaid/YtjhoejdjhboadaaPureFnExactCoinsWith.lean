/- For every plan and outcome the plain function of the law FnExactCoinsWith answers true. -/
import Derived.Test.YtjhoejdjhboadaaPFnExactCoinsWithx6
import Derived.Test.YtjhoejdjhboadaaLib
set_option linter.unusedVariables false
set_option linter.unusedSimpArgs false
namespace Go.Proofs.Ytjhoejdjhboadaa.Pure
open Go.RowKit Go.Proofs.Ytjhoejdjhboadaa.PFnExactCoinsWith Go.Proofs.YtjhoejdjhboadaaW.PrintWords Go.Proofs.YtjhoejdjhboadaaW.PrintLast Go.Proofs.Ytjhoejdjhboadaa.Lib

theorem l1In_eq (a b c : Int) : spec_l1In.f a b c = some (decide (b ≤ a ∧ a ≤ c)) := by
  unfold spec_l1In.f
  by_cases h : a ≥ b
  · rw [if_pos h]
    congr 1
    simp only [decide_eq_decide]
    omega
  · rw [if_neg h]
    congr 1
    simp only [Bool.false_eq, decide_eq_false_iff_not]
    omega

theorem within_eq (a b c : Int) : impl_within.f a b c = some (decide (b ≤ a ∧ a ≤ c)) := by
  unfold impl_within.f
  by_cases h : a ≥ b
  · rw [if_pos h]
    congr 1
    simp only [decide_eq_decide]
    omega
  · rw [if_neg h]
    congr 1
    simp only [Bool.false_eq, decide_eq_false_iff_not]
    omega

theorem szIntS_eq (l : List Int) (n : Int) (h0 : 0 ≤ n) (h1 : n ≤ 1048576) (hl : l.length ≤ maxLen) : laws_szIntS.f l n = some (if (l.length : Int) > n then -1 else n - (l.length : Int)) := by
  unfold maxLen at hl
  unfold laws_szIntS.f
  rw [w64 (show -9223372036854775808 ≤ n - (l.length : Int) by omega) (by omega)]
  by_cases h : (l.length : Int) > n
  · rw [if_pos h, if_pos (by omega)]
  · rw [if_neg h, if_neg (by omega)]

/-- What is left of n behind the rows' lengths; -1 behind too many. -/
theorem szIntSS_ev (l : List (List Int)) (hl : l.length ≤ maxLen) (hw : ∀ x ∈ l, x.length ≤ maxLen) : ∃ r, Ev (fun k => laws_szIntSS.f k l 1048576) r ∧ (r < 0 ∨ (l.length ≤ 1048576 ∧ ∀ x ∈ l, x.length ≤ 1048576)) := by
  unfold maxLen at hl
  unfold laws_szIntSS.f
  rw [w64 (show -9223372036854775808 ≤ 1048576 - (l.length : Int) by omega) (by omega)]
  by_cases h : 1048576 - (l.length : Int) < 0
  · exact ⟨-1, by simp only [if_pos h]; exact Ev.now _, .inl (by omega)⟩
  · simp only [if_neg h]
    have key : ∀ (d : Nat) (i n : Int), 0 ≤ i → i + d = l.length → 0 ≤ n → n ≤ 1048576 → (∀ j, 0 ≤ j → j < i → (rd_L1 l j).length ≤ 1048576) → ∃ r, Ev (fun k => laws_szIntSS.l0 k l n i) r ∧ (r < 0 ∨ ∀ j, 0 ≤ j → j < (l.length : Int) → (rd_L1 l j).length ≤ 1048576) := by
      intro d
      induction d with
      | zero =>
        intro i n h0 hd hn0 hn1 hb
        refine ⟨n, Ev.step (fun k => by rw [laws_szIntSS.l0]) ?_, .inr fun j hj0 hj1 => hb j hj0 (by omega)⟩
        simp only [if_neg (show ¬ i < (l.length : Int) by omega)]
        exact Ev.now _
      | succ d ih =>
        intro i n h0 hd hn0 hn1 hb
        have hmem : rd_L1 l i ∈ l := by
          unfold rd_L1
          rw [getD_lt _ (by omega)]
          exact List.getElem_mem _
        by_cases hs : ((rd_L1 l i).length : Int) > n
        · refine ⟨-1, Ev.step (fun k => by rw [laws_szIntSS.l0]) ?_, .inl (by omega)⟩
          simp only [if_pos (show i < (l.length : Int) by omega), if_pos h0, szIntS_eq (rd_L1 l i) n hn0 hn1 (hw _ hmem), Option.bind_some, if_pos hs, show ((-1 : Int) < 0) by decide, if_true]
          exact Ev.now _
        · obtain ⟨r, hr, hp⟩ := ih (i + 1) (n - ((rd_L1 l i).length : Int)) (by omega) (by omega) (by omega) (by omega) (fun j hj0 hj1 => by
            by_cases e : j = i
            · subst e; omega
            · exact hb j hj0 (by omega))
          refine ⟨r, Ev.step (fun k => by rw [laws_szIntSS.l0]) ?_, hp⟩
          simp only [if_pos (show i < (l.length : Int) by omega), if_pos h0, szIntS_eq (rd_L1 l i) n hn0 hn1 (hw _ hmem), Option.bind_some, if_neg hs, if_neg (show ¬ n - ((rd_L1 l i).length : Int) < 0 by omega), w64 (show -9223372036854775808 ≤ i + 1 by omega) (by omega)]
          exact hr
    obtain ⟨r, hr, hp⟩ := key l.length 0 (1048576 - (l.length : Int)) (by omega) (by omega) (by omega) (by omega) (fun j h0 h1 => by omega)
    refine ⟨r, hr, hp.imp id fun hp => ⟨by omega, fun x hx => ?_⟩⟩
    obtain ⟨j, hj, rfl⟩ := List.getElem_of_mem hx
    have := hp j (by omega) (by omega)
    unfold rd_L1 at this
    rwa [Int.toNat_natCast, getD_lt _ hj] at this

theorem toIntS_ev (l : List Int) (hl : l.length ≤ 1048576) : Ev (fun k => laws_toIntS.f k l) l := by
  unfold laws_toIntS.f
  simp only [if_pos (show 0 ≤ (l.length : Int) by omega), if_pos (show ((l.length : Int) : Int).toNat ≤ 35184372088832 by omega)]
  have h := Ev.fold (l := fun k x i => laws_toIntS.l0 k l x i) (n := l.length) (fun i => l.take i.toNat ++ List.replicate (l.length - i.toNat) 0) (a := l)
    (fun i h0 h1 r h => by
      refine Ev.step (fun k => by rw [laws_toIntS.l0]) ?_
      have hx : i < ((l.take i.toNat ++ List.replicate (l.length - i.toNat) (0 : Int)).length : Int) := by
        rw [List.length_append, List.length_take, List.length_replicate]; omega
      simp only [if_pos h1, if_pos h0, if_pos hx, w64 (show -9223372036854775808 ≤ i + 1 by omega) (by omega)]
      unfold rd
      rw [set_fill l 0 0 i.toNat (by omega), ← toNat_succ h0]
      exact h)
    (by
      refine Ev.step (fun k => by rw [laws_toIntS.l0]) ?_
      simp only [if_neg (show ¬ (l.length : Int) < l.length by omega)]
      exact Ev.some (by simp))
    l.length 0 (by omega) (by omega)
  simpa using h

theorem toIntSS_ev (l : List (List Int)) (hl : l.length ≤ 1048576) (hw : ∀ x ∈ l, x.length ≤ 1048576) : Ev (fun k => laws_toIntSS.f k l) l := by
  unfold laws_toIntSS.f
  simp only [if_pos (show 0 ≤ (l.length : Int) by omega), if_pos (show ((l.length : Int) : Int).toNat ≤ 11728124029610 by omega)]
  have h := Ev.fold (l := fun k x i => laws_toIntSS.l0 k l x i) (n := l.length) (fun i => l.take i.toNat ++ List.replicate (l.length - i.toNat) []) (a := l)
    (fun i h0 h1 r h => by
      refine Ev.step (fun k => by rw [laws_toIntSS.l0]) ?_
      have hx : i < ((l.take i.toNat ++ List.replicate (l.length - i.toNat) ([] : List Int)).length : Int) := by
        rw [List.length_append, List.length_take, List.length_replicate]; omega
      have hmem : rd_L1 l i ∈ l := by
        unfold rd_L1
        rw [getD_lt _ (by omega)]
        exact List.getElem_mem _
      simp only [if_pos h1, if_pos h0]
      refine Ev.bind (toIntS_ev (rd_L1 l i) (hw _ hmem)) ?_
      simp only [if_pos hx, w64 (show -9223372036854775808 ≤ i + 1 by omega) (by omega)]
      unfold rd_L1
      rw [set_fill l [] [] i.toNat (by omega), ← toNat_succ h0]
      exact h)
    (by
      refine Ev.step (fun k => by rw [laws_toIntSS.l0]) ?_
      simp only [if_neg (show ¬ (l.length : Int) < l.length by omega)]
      exact Ev.some (by simp))
    l.length 0 (by omega) (by omega)
  simpa using h

theorem eqIntS_ev (a b : List Int) (ha : a.length ≤ 9223372036854775806) : Ev (fun k => laws_eqIntS.f k a b) (decide (a = b)) := by
  unfold laws_eqIntS.f
  by_cases hl : (a.length : Int) = (b.length : Int)
  · simp only [if_pos hl]
    have h := Ev.count' (l := fun k i => laws_eqIntS.l0 k a b i) (n := a.length) (P := fun i => rd a i = rd b i) (a := true) (b := false) (by omega)
      (fun i h0 h1 hp r h => by
        refine Ev.step (fun k => by rw [laws_eqIntS.l0]) ?_
        simp only [if_pos h0, if_pos h1, if_pos (show i < (b.length : Int) by omega), if_pos hp, w64 (show -9223372036854775808 ≤ i + 1 by omega) (by omega)]
        exact h)
      (fun i h0 h1 hp => by
        refine Ev.step (fun k => by rw [laws_eqIntS.l0]) ?_
        simp only [if_pos h0, if_pos h1, if_pos (show i < (b.length : Int) by omega), if_neg hp]
        exact Ev.now _)
      (fun i h0 h1 => by
        refine Ev.step (fun k => by rw [laws_eqIntS.l0]) ?_
        simp only [if_neg (show ¬ i < (a.length : Int) by omega)]
        exact Ev.now _)
    refine Ev.as h ?_
    split
    · rename_i hc
      exact (decide_eq_true (rd_ext (by omega) fun i h0 h1 => hc i h0 h1)).symm
    · rename_i hc
      exact (decide_eq_false fun e => hc fun i h0 h1 => by rw [e]).symm
  · simp only [if_neg hl]
    exact Ev.some (decide_eq_false fun e => hl (by rw [e])).symm
theorem eqIntS_self (a : List Int) (ha : a.length ≤ 9223372036854775806) : Ev (fun k => laws_eqIntS.f k a a) true :=
  Ev.as (eqIntS_ev a a ha) (decide_eq_true rfl)

theorem eqIntSS_ev (a b : List (List Int)) (ha : a.length ≤ 9223372036854775806) (hw : ∀ x ∈ a, x.length ≤ 9223372036854775806) : Ev (fun k => laws_eqIntSS.f k a b) (decide (a = b)) := by
  unfold laws_eqIntSS.f
  by_cases hl : (a.length : Int) = (b.length : Int)
  · simp only [if_pos hl]
    have mem : ∀ i : Int, 0 ≤ i → i < (a.length : Int) → (rd_L1 a i).length ≤ 9223372036854775806 := fun i h0 h1 => hw _ (by
      unfold rd_L1
      rw [getD_lt _ (by omega)]
      exact List.getElem_mem _)
    have h := Ev.count' (l := fun k i => laws_eqIntSS.l0 k a b i) (n := a.length) (P := fun i => rd_L1 a i = rd_L1 b i) (a := true) (b := false) (by omega)
      (fun i h0 h1 hp r h => by
        refine Ev.step (fun k => by rw [laws_eqIntSS.l0]) ?_
        simp only [if_pos h0, if_pos h1, if_pos (show i < (b.length : Int) by omega)]
        refine Ev.bind (eqIntS_ev _ _ (mem i h0 h1)) ?_
        simp only [decide_eq_true hp, if_true, w64 (show -9223372036854775808 ≤ i + 1 by omega) (by omega)]
        exact h)
      (fun i h0 h1 hp => by
        refine Ev.step (fun k => by rw [laws_eqIntSS.l0]) ?_
        simp only [if_pos h0, if_pos h1, if_pos (show i < (b.length : Int) by omega)]
        refine Ev.bind (eqIntS_ev _ _ (mem i h0 h1)) ?_
        simp only [decide_eq_false hp, Bool.false_eq_true, if_false]
        exact Ev.now _)
      (fun i h0 h1 => by
        refine Ev.step (fun k => by rw [laws_eqIntSS.l0]) ?_
        simp only [if_neg (show ¬ i < (a.length : Int) by omega)]
        exact Ev.now _)
    refine Ev.as h ?_
    split
    · rename_i hc
      exact (decide_eq_true (getD_ext [] (by omega) fun i hi => by
        have := hc i (by omega) (by omega)
        unfold rd_L1 at this
        rwa [Int.toNat_natCast] at this)).symm
    · rename_i hc
      exact (decide_eq_false fun e => hc fun i h0 h1 => by rw [e]).symm
  · simp only [if_neg hl]
    exact Ev.some (decide_eq_false fun e => hl (by rw [e])).symm
theorem eqIntSS_self (a : List (List Int)) (ha : a.length ≤ 9223372036854775806) (hw : ∀ x ∈ a, x.length ≤ 9223372036854775806) : Ev (fun k => laws_eqIntSS.f k a a) true :=
  Ev.as (eqIntSS_ev a a ha hw) (decide_eq_true rfl)

instance : DecidableEq (S66) := fun a b => if h : a.f0 = b.f0 ∧ a.f1 = b.f1 then isTrue (by cases a; cases b; simp_all) else isFalse (by rintro rfl; exact h ⟨rfl, rfl⟩)
theorem S66_eq (a b : S66) : a = b ↔ a.f0 = b.f0 ∧ a.f1 = b.f1 := by
  cases a; cases b; simp
theorem eqIntA2_eq (a b : S66) : laws_eqIntA2.f a.f0 a.f1 b.f0 b.f1 = some (decide (a = b)) := by
  unfold laws_eqIntA2.f
  by_cases h0 : a.f0 = b.f0
  · by_cases h1 : a.f1 = b.f1
    · rw [decide_eq_true h0, decide_eq_true h1, decide_eq_true ((S66_eq a b).2 ⟨h0, h1⟩)]; rfl
    · rw [decide_eq_true h0, decide_eq_false h1, decide_eq_false fun e => h1 ((S66_eq a b).1 e).2]; rfl
  · rw [decide_eq_false h0, decide_eq_false fun e => h0 ((S66_eq a b).1 e).1, Bool.false_and]
theorem eqIntA2S_ev (a b : List (S66)) (ha : a.length ≤ 9223372036854775806) : Ev (fun k => laws_eqIntA2S.f k a b) (decide (a = b)) := by
  unfold laws_eqIntA2S.f
  by_cases hl : (a.length : Int) = (b.length : Int)
  · simp only [if_pos hl]
    have h := Ev.count' (l := fun k i => laws_eqIntA2S.l0 k a b i) (n := a.length) (P := fun i => rd_T66 a i = rd_T66 b i) (a := true) (b := false) (by omega)
      (fun i h0 h1 hp r h => by
        refine Ev.step (fun k => by rw [laws_eqIntA2S.l0]) ?_
        simp only [if_pos h0, if_pos h1, if_pos (show i < (b.length : Int) by omega), eqIntA2_eq, Option.bind_some, decide_eq_true hp, if_true, w64 (show -9223372036854775808 ≤ i + 1 by omega) (by omega)]
        exact h)
      (fun i h0 h1 hp => by
        refine Ev.step (fun k => by rw [laws_eqIntA2S.l0]) ?_
        simp only [if_pos h0, if_pos h1, if_pos (show i < (b.length : Int) by omega), eqIntA2_eq, Option.bind_some, decide_eq_false hp, Bool.false_eq_true, if_false]
        exact Ev.now _)
      (fun i h0 h1 => by
        refine Ev.step (fun k => by rw [laws_eqIntA2S.l0]) ?_
        simp only [if_neg (show ¬ i < (a.length : Int) by omega)]
        exact Ev.now _)
    refine Ev.as h ?_
    split
    · rename_i hc
      exact (decide_eq_true (getD_ext z66 (by omega) fun i hi => hc i (by omega) (by omega))).symm
    · rename_i hc
      exact (decide_eq_false fun e => hc fun i h0 h1 => by rw [e]).symm
  · simp only [if_neg hl]
    exact Ev.some (decide_eq_false fun e => hl (by rw [e])).symm
theorem eqIntA2S_self (a : List (S66)) (ha : a.length ≤ 9223372036854775806) : Ev (fun k => laws_eqIntA2S.f k a a) true :=
  Ev.as (eqIntA2S_ev a a ha) (decide_eq_true rfl)

theorem markIntS_ev (l : List Int) (hl : l.length ≤ 1048576) (m : Int) (hm : 0 ≤ m) (hm2 : m ≤ 4611686018427387904) : Ev (fun k => laws_markIntS.f k l m) (m + l.length, marks m l.length) := by
  unfold laws_markIntS.f
  have h := Ev.fold (l := fun k (s : List Int × Int) i => laws_markIntS.l0 k s.1 s.2 i) (n := l.length) (fun i => (marks m i.toNat ++ l.drop i.toNat, m + i)) (a := (m + l.length, marks m l.length))
    (fun i h0 h1 r h => by
      refine Ev.step (fun k => by rw [laws_markIntS.l0]) ?_
      have hx : i < ((marks m i.toNat ++ l.drop i.toNat).length : Int) := by
        rw [List.length_append, marks_length, List.length_drop]; omega
      simp only [if_pos h0, if_pos hx, w64 (show -9223372036854775808 ≤ i + 1 by omega) (by omega), w64 (show -9223372036854775808 ≤ m + i + 1 by omega) (by omega)]
      rw [List.set_append_right _ _ (by rw [marks_length]; omega), marks_length, Nat.sub_self]
      have e : l.drop i.toNat = l[i.toNat]'(by omega) :: l.drop (i + 1).toNat := by
        rw [toNat_succ h0]; exact List.drop_eq_getElem_cons (by omega)
      rw [e, List.set_cons_zero]
      have e2 : marks m (i + 1).toNat = marks m i.toNat ++ [m + i] := by
        rw [toNat_succ h0]; unfold marks; rw [List.range_succ, List.map_append]; simp; omega
      simp only [e2, List.append_assoc, List.singleton_append, ← Int.add_assoc] at h
      exact h)
    (by
      refine Ev.step (fun k => by rw [laws_markIntS.l0]) ?_
      have hx : ¬ (l.length : Int) < ((marks m (l.length : Int).toNat ++ l.drop (l.length : Int).toNat).length : Int) := by
        rw [List.length_append, marks_length, List.length_drop]; omega
      simp only [if_neg hx]
      exact Ev.some (by simp))
    l.length 0 (by omega) (by omega)
  simpa [marks] using h

theorem markIntSS_ev2 (l : List (List Int)) (hl : l.length ≤ 1048576) (hw : ∀ x ∈ l, x.length ≤ 1048576) : ∃ (m : Int) (X : List (List Int)), Ev (fun k => laws_markIntSS.f k l 1) (m, X) ∧ 0 ≤ m ∧ m ≤ 4611686018427387904 := by
  have key : ∀ (d : Nat) (i : Nat) (X : List (List Int)) (m : Int), X.length ≤ 1048576 → (∀ x ∈ X, x.length ≤ 1048576) → i + d = X.length → 1 ≤ m → m ≤ 1 + 1048576 * (i : Int) → ∃ (m' : Int) (X' : List (List Int)), Ev (fun k => laws_markIntSS.l0 k X m (i : Int)) (m', X') ∧ 0 ≤ m' ∧ m' ≤ 4611686018427387904 := by
    intro d
    induction d with
    | zero =>
      intro i X m h1 h2 h3 h4 h5
      refine ⟨m, X, Ev.step (fun k => by rw [laws_markIntSS.l0]) ?_, by omega, by omega⟩
      simp only [if_neg (show ¬ (i : Int) < (X.length : Int) by omega)]
      exact Ev.now _
    | succ d ih =>
      intro i X m h1 h2 h3 h4 h5
      have hi : i < X.length := by omega
      have hrow : (X.getD i []).length ≤ 1048576 := by rw [getD_lt _ hi]; exact h2 _ (List.getElem_mem _)
      obtain ⟨m', X', he, hm⟩ := ih (i + 1) (X.set i (marks m (X.getD i []).length)) (m + (X.getD i []).length) (by rw [List.length_set]; exact h1) (fun x hx => by
        rcases List.mem_or_eq_of_mem_set hx with h | h
        · exact h2 x h
        · rw [h, marks_length]; exact hrow) (by rw [List.length_set]; omega) (by omega) (by omega)
      refine ⟨m', X', Ev.step (fun k => by rw [laws_markIntSS.l0]) ?_, hm⟩
      simp only [if_pos (show (i : Int) < (X.length : Int) by omega), if_pos (show 0 ≤ (i : Int) by omega), Int.toNat_natCast]
      refine Ev.bind (markIntS_ev _ hrow m (by omega) (by omega)) ?_
      rw [w64 (show -9223372036854775808 ≤ (i : Int) + 1 by omega) (by omega), show (i : Int) + 1 = ((i + 1 : Nat) : Int) by omega]
      exact he
  unfold laws_markIntSS.f
  exact key l.length 0 l 1 hl hw (by omega) (by omega) (by omega)

/-- Loads with the marks m, m + 1, .. -/
def marksA (m : Int) : Nat → List (S66)
  | 0 => []
  | n + 1 => marksA m n ++ [⟨m + 2 * n, m + 2 * n + 1⟩]
theorem marksA_length (m : Int) : ∀ n, (marksA m n).length = n
  | 0 => rfl
  | n + 1 => by rw [marksA, List.length_append, marksA_length m n]; rfl
theorem rd_marksA (m : Int) : ∀ (n : Nat) (i : Int), 0 ≤ i → i < n → rd_T66 (marksA m n) i = ⟨m + 2 * i, m + 2 * i + 1⟩
  | 0, i, h0, h1 => by omega
  | n + 1, i, h0, h1 => by
    unfold rd_T66 marksA
    by_cases h : i < (n : Int)
    · have ih := rd_marksA m n i h0 h
      unfold rd_T66 at ih
      rw [List.getD_eq_getElem?_getD, List.getElem?_append_left (by rw [marksA_length]; omega), ← List.getD_eq_getElem?_getD]
      exact ih
    · rw [List.getD_eq_getElem?_getD, List.getElem?_append_right (by rw [marksA_length]; omega), marksA_length, show i.toNat - n = 0 by omega, show i = (n : Int) by omega]
      rfl
theorem markIntA2S_ev (l : List (S66)) (hl : l.length ≤ 1048576) (m : Int) (hm : 0 ≤ m) (hm2 : m ≤ 16777216) : Ev (fun k => laws_markIntA2S.f k l m) (m + 2 * l.length, marksA m l.length) := by
  unfold laws_markIntA2S.f
  have h := Ev.fold (l := fun k (s : List (S66) × Int) i => laws_markIntA2S.l0 k s.1 s.2 i) (n := l.length) (fun i => (marksA m i.toNat ++ l.drop i.toNat, m + 2 * i)) (a := (m + 2 * l.length, marksA m l.length))
    (fun i h0 h1 r h => by
      refine Ev.step (fun k => by rw [laws_markIntA2S.l0]) ?_
      have hx : i < ((marksA m i.toNat ++ l.drop i.toNat).length : Int) := by
        rw [List.length_append, marksA_length, List.length_drop]; omega
      simp only [if_pos h0, if_pos hx, Option.bind_some, w64 (show -9223372036854775808 ≤ i + 1 by omega) (by omega), w64 (show -9223372036854775808 ≤ m + 2 * i + 1 by omega) (by omega), w64 (show -9223372036854775808 ≤ m + 2 * i + 1 + 1 by omega) (by omega)]
      have e : l.drop i.toNat = l[i.toNat]'(by omega) :: l.drop (i + 1).toNat := by
        rw [toNat_succ h0]; exact List.drop_eq_getElem_cons (by omega)
      have e3 : ∀ y : S66, (marksA m i.toNat ++ y :: l.drop (i + 1).toNat).set i.toNat (⟨(rd_T66 (marksA m i.toNat ++ y :: l.drop (i + 1).toNat) i).f0, m + 2 * i + 1⟩ : S66) = marksA m i.toNat ++ ⟨y.f0, m + 2 * i + 1⟩ :: l.drop (i + 1).toNat := by
        intro y
        unfold rd_T66
        rw [List.getD_eq_getElem?_getD, List.getElem?_append_right (by rw [marksA_length]; omega), marksA_length, Nat.sub_self, List.set_append_right _ _ (by rw [marksA_length]; omega), marksA_length, Nat.sub_self]
        rfl
      have e4 : ∀ z : S66, (marksA m i.toNat ++ l.drop i.toNat).set i.toNat z = marksA m i.toNat ++ z :: l.drop (i + 1).toNat := by
        intro z
        rw [List.set_append_right _ _ (by rw [marksA_length]; omega), marksA_length, Nat.sub_self, e]
        rfl
      rw [e4, e3]
      have e2 : marksA m (i + 1).toNat = marksA m i.toNat ++ [⟨m + 2 * i, m + 2 * i + 1⟩] := by
        rw [toNat_succ h0, marksA, Int.toNat_of_nonneg h0]
      simp only [e2, List.append_assoc, List.singleton_append, show m + 2 * (i + 1) = m + 2 * i + 1 + 1 by omega] at h
      exact h)
    (by
      refine Ev.step (fun k => by rw [laws_markIntA2S.l0]) ?_
      have hx : ¬ (l.length : Int) < ((marksA m (l.length : Int).toNat ++ l.drop (l.length : Int).toNat).length : Int) := by
        rw [List.length_append, marksA_length, List.length_drop]; omega
      simp only [if_neg hx]
      exact Ev.some (by simp))
    l.length 0 (by omega) (by omega)
  simpa [marksA] using h
theorem heldIntA2S_ev (n : Nat) (hn : n ≤ 1048576) (m : Int) (hm : 0 ≤ m) (hm2 : m ≤ 16777216) : Ev (fun k => laws_heldIntA2S.f k (marksA m n) m) (m + 2 * n) := by
  unfold laws_heldIntA2S.f
  have h := Ev.fold (l := fun k (s : Int) i => laws_heldIntA2S.l0 k (marksA m n) s i) (n := n) (fun i => m + 2 * i) (a := m + 2 * n)
    (fun i h0 h1 r h => by
      refine Ev.step (fun k => by rw [laws_heldIntA2S.l0]) ?_
      simp only [if_pos h0, marksA_length, if_pos h1, rd_marksA m n i h0 h1, if_true, w64 (show -9223372036854775808 ≤ i + 1 by omega) (by omega), w64 (show -9223372036854775808 ≤ m + 2 * i + 1 by omega) (by omega), w64 (show -9223372036854775808 ≤ m + 2 * i + 1 + 1 by omega) (by omega)]
      simp only [show m + 2 * (i + 1) = m + 2 * i + 1 + 1 by omega] at h
      exact h)
    (by
      refine Ev.step (fun k => by rw [laws_heldIntA2S.l0]) ?_
      simp only [marksA_length, if_neg (show ¬ (n : Int) < (n : Int) by omega)]
      exact Ev.now _)
    n 0 (by omega) (by omega)
  simpa using h

/-- Signs alone. -/
def SignAt (l : List Int) (i : Int) : Prop := -1 ≤ rd l i ∧ rd l i ≤ 1
open Classical in
theorem l3Signs_ev (l : List Int) (n : Int) (hl : l.length ≤ 9223372036854775806) : Ev (fun k => spec_l3Signs.f k l n) (if ∀ j, 0 ≤ j → j < (l.length : Int) → SignAt l j then ((l.length : Int) == n) else false) := by
  unfold spec_l3Signs.f
  refine Ev.count' (l := fun k i => spec_l3Signs.l0 k l n i) (n := l.length) (P := SignAt l) (by omega) ?_ ?_ ?_
  · intro i h0 h1 hp r h
    refine Ev.step (fun k => by rw [spec_l3Signs.l0]) ?_
    simp only [if_pos h0, if_pos h1, l1In_eq, Option.bind_some, decide_eq_true_eq, if_pos (show -1 ≤ rd l i ∧ rd l i ≤ 1 from hp), w64 (show -9223372036854775808 ≤ i + 1 by omega) (by omega)]
    exact h
  · intro i h0 h1 hp
    refine Ev.step (fun k => by rw [spec_l3Signs.l0]) ?_
    simp only [if_pos h0, if_pos h1, l1In_eq, Option.bind_some, decide_eq_true_eq, if_neg (show ¬ (-1 ≤ rd l i ∧ rd l i ≤ 1) from hp)]
    exact Ev.now _
  · intro i h0 h1
    refine Ev.step (fun k => by rw [spec_l3Signs.l0]) ?_
    simp only [if_neg (show ¬ i < (l.length : Int) by omega)]
    exact Ev.now _

theorem isSign_eq (a : Int) : impl_isSign.f a = some (decide (-1 ≤ a ∧ a ≤ 1)) := by
  unfold impl_isSign.f
  simp only [within_eq, Option.bind_some]

theorem l3Coins_eq (a : Int) : spec_l3Coins.f a = some (decide (2 ≤ a ∧ a ≤ 40)) := by
  unfold spec_l3Coins.f
  simp only [l1In_eq, Option.bind_some]
theorem areCoins_eq (a : Int) : impl_areCoins.f a = some (decide (2 ≤ a ∧ a ≤ 40)) := by
  unfold impl_areCoins.f
  simp only [within_eq, Option.bind_some]

theorem first_nat {P : Nat → Prop} (n : Nat) : P n → ∃ i, i ≤ n ∧ P i ∧ ∀ j, j < i → ¬ P j := by
  induction n using Nat.strongRecOn with
  | _ n ih =>
    intro h
    by_cases hc : ∃ j, j < n ∧ P j
    · obtain ⟨j, hj, hp⟩ := hc
      obtain ⟨i, hi, hpi, hf⟩ := ih j hj hp
      exact ⟨i, by omega, hpi, hf⟩
    · exact ⟨n, Nat.le_refl _, h, fun j hj hp => hc ⟨j, hj, hp⟩⟩
/-- The first place at which something holds. -/
theorem first_of {P : Int → Prop} {n : Int} (h : ∃ i, 0 ≤ i ∧ i < n ∧ P i) : ∃ i, 0 ≤ i ∧ i < n ∧ P i ∧ ∀ j, 0 ≤ j → j < i → ¬ P j := by
  obtain ⟨i, h0, h1, hp⟩ := h
  obtain ⟨m, hm, hpm, hf⟩ := first_nat (P := fun m => P (m : Int)) i.toNat (by rw [Int.toNat_of_nonneg h0]; exact hp)
  refine ⟨m, by omega, by omega, hpm, fun j hj0 hj => ?_⟩
  have := hf j.toNat (by omega)
  rwa [Int.toNat_of_nonneg hj0] at this
/-- `Ev.fold` up to a place n. -/
theorem Ev.upto {α σ : Type} {l : Nat → σ → Int → Option α} {n : Int} (st : Int → σ) {a : α} (hn : 0 ≤ n)
    (hstep : ∀ i, 0 ≤ i → i < n → ∀ r, Ev (fun k => l k (st (i + 1)) (i + 1)) r → Ev (fun k => l k (st i) i) r)
    (hend : Ev (fun k => l k (st n) n) a) : Ev (fun k => l k (st 0) 0) a :=
  Ev.fold st hstep hend n.toNat 0 (by omega) (by omega)

def totStep (s x : Int) : Int := wrap64 (s + x)
def totW (l : List Int) : Int := l.foldl totStep 0
theorem take_succ_rdI (l : List Int) (i : Int) (h0 : 0 ≤ i) (h1 : i < l.length) : l.take (i + 1).toNat = l.take i.toNat ++ [rd l i] := by
  rw [toNat_succ h0, List.take_add_one, List.getElem?_eq_getElem (by omega)]
  unfold rd
  rw [getD_lt _ (by omega)]
  rfl
theorem l3Total_ev (l : List Int) (hl : l.length ≤ 9223372036854775806) : Ev (fun k => spec_l3Total.f k l) (totW l) := by
  unfold spec_l3Total.f
  have h := Ev.fold (l := fun k s i => spec_l3Total.l0 k l s i) (n := l.length) (fun i => (l.take i.toNat).foldl totStep 0) (a := totW l)
    (fun i h0 h1 r h => by
      refine Ev.step (fun k => by rw [spec_l3Total.l0]) ?_
      simp only [if_pos h1, if_pos h0, w64 (show -9223372036854775808 ≤ i + 1 by omega) (by omega)]
      rw [take_succ_rdI l i h0 h1, List.foldl_append] at h
      exact h)
    (by
      refine Ev.step (fun k => by rw [spec_l3Total.l0]) ?_
      simp only [if_neg (show ¬ (l.length : Int) < l.length by omega)]
      exact Ev.some (by simp [totW]))
    l.length 0 (by omega) (by omega)
  simpa using h
/-- A row of a plan for n coins. -/
def PlanAt (n : Int) (r : List Int) : Prop := ((r.length : Int) = n ∧ ∀ j, 0 ≤ j → j < (r.length : Int) → SignAt r j) ∧ totW r = 0
open Classical in
noncomputable def planB (n : Int) (l : List (List Int)) : Bool := if ∀ i, 0 ≤ i → i < (l.length : Int) → PlanAt n (rd_L1 l i) then decide ((l.length : Int) ≤ 5) else false
theorem rdI_len {l : List (List Int)} (hw : ∀ x ∈ l, x.length ≤ 1048576) (i : Int) : (rd_L1 l i).length ≤ 1048576 := by
  unfold rd_L1
  by_cases h : i.toNat < l.length
  · rw [getD_lt _ h]; exact hw _ (List.getElem_mem _)
  · rw [List.getD_eq_getElem?_getD, List.getElem?_eq_none (by omega)]; simp
theorem l3Plan_ev (n : Int) (l : List (List Int)) (hl : l.length ≤ 1048576) (hw : ∀ x ∈ l, x.length ≤ 1048576) : Ev (fun k => spec_l3Plan.f k n l) (planB n l) := by
  unfold spec_l3Plan.f planB
  refine Ev.count' (l := fun k i => spec_l3Plan.l0 k n l i) (n := l.length) (P := fun i => PlanAt n (rd_L1 l i)) (by omega) ?_ ?_ ?_
  · intro i h0 h1 hp r h
    refine Ev.step (fun k => by rw [spec_l3Plan.l0]) ?_
    simp only [if_pos h0, if_pos h1]
    have hlen := rdI_len hw i
    refine Ev.bind (l3Signs_ev (rd_L1 l i) n (by omega)) ?_
    rw [if_pos hp.1.2]
    simp only [beq_iff_eq.2 hp.1.1, if_true]
    refine Ev.bind (l3Total_ev (rd_L1 l i) (by omega)) ?_
    simp only [if_pos hp.2, w64 (show -9223372036854775808 ≤ i + 1 by omega) (by omega)]
    exact h
  · intro i h0 h1 hp
    refine Ev.step (fun k => by rw [spec_l3Plan.l0]) ?_
    simp only [if_pos h0, if_pos h1]
    have hlen := rdI_len hw i
    refine Ev.bind (l3Signs_ev (rd_L1 l i) n (by omega)) ?_
    by_cases h2 : ∀ j, 0 ≤ j → j < ((rd_L1 l i).length : Int) → SignAt (rd_L1 l i) j
    · rw [if_pos h2]
      by_cases h3 : ((rd_L1 l i).length : Int) = n
      · simp only [beq_iff_eq.2 h3, if_true]
        refine Ev.bind (l3Total_ev (rd_L1 l i) (by omega)) ?_
        simp only [if_neg (show ¬ totW (rd_L1 l i) = 0 from fun h => hp ⟨⟨h3, h2⟩, h⟩)]
        exact Ev.now _
      · simp only [beq_eq_false_iff_ne.2 h3, Bool.false_eq_true, if_false]
        exact Ev.now _
    · rw [if_neg h2]
      simp only [Bool.false_eq_true, if_false]
      exact Ev.now _
  · intro i h0 h1
    refine Ev.step (fun k => by rw [spec_l3Plan.l0]) ?_
    simp only [if_neg (show ¬ i < (l.length : Int) by omega)]
    exact Ev.now _

/-- The inner loop of isPlan: over one row, from its begin, goes on where the row is fine. -/
theorem isPlan_row (n : Int) (l : List (List Int)) (m i : Int) (r : List Int) (hr : r.length ≤ 1048576) (hs : ∀ j, 0 ≤ j → j < (r.length : Int) → SignAt r j) (hi0 : 0 ≤ i) (hi1 : i ≤ 1048576) {a : Bool}
    (h : Ev (fun k => if totW r = 0 then impl_isPlan.l0 k n l l m (i + 1) else some false) a) : Ev (fun k => impl_isPlan.l1 k n l 0 l m i r r.length 0) a := by
  have h := Ev.fold (l := fun k s j => impl_isPlan.l1 k n l s l m i r r.length j) (n := r.length) (fun j => (r.take j.toNat).foldl totStep 0) (a := a)
    (fun j h0 h1 q h => by
      refine Ev.step (fun k => by rw [impl_isPlan.l1]) ?_
      simp only [if_pos h1, if_pos h0, isSign_eq, Option.bind_some, decide_eq_true_eq, if_pos (show -1 ≤ rd r j ∧ rd r j ≤ 1 from hs j h0 h1), w64 (show -9223372036854775808 ≤ j + 1 by omega) (by omega)]
      rw [take_succ_rdI r j h0 h1, List.foldl_append] at h
      exact h)
    (by
      refine Ev.step (fun k => by rw [impl_isPlan.l1]) ?_
      simp only [if_neg (show ¬ (r.length : Int) < r.length by omega), w64 (show -9223372036854775808 ≤ i + 1 by omega) (by omega)]
      rw [show r.take (r.length : Int).toNat = r by simp]
      exact h)
    r.length 0 (by omega) (by omega)
  simpa using h
theorem isPlan_bad (n : Int) (l : List (List Int)) (m i : Int) (r : List Int) (hr : r.length ≤ 1048576) (hs : ¬ ∀ j, 0 ≤ j → j < (r.length : Int) → SignAt r j) : Ev (fun k => impl_isPlan.l1 k n l 0 l m i r r.length 0) false := by
  simp only [Classical.not_forall] at hs
  obtain ⟨j, hj0, hj1, hj2⟩ := hs
  obtain ⟨q, hq0, hq1, hq2, hq3⟩ := first_of (P := fun j => ¬ SignAt r j) ⟨j, hj0, hj1, hj2⟩
  have h := Ev.upto (l := fun k s j => impl_isPlan.l1 k n l s l m i r r.length j) (n := q) (fun j => (r.take j.toNat).foldl totStep 0) (a := false) hq0
    (fun j h0 h1 p h => by
      refine Ev.step (fun k => by rw [impl_isPlan.l1]) ?_
      simp only [if_pos (show j < (r.length : Int) by omega), if_pos h0, isSign_eq, Option.bind_some, decide_eq_true_eq, if_pos (show -1 ≤ rd r j ∧ rd r j ≤ 1 from Classical.not_not.1 (hq3 j h0 h1)), w64 (show -9223372036854775808 ≤ j + 1 by omega) (by omega)]
      rw [take_succ_rdI r j h0 (by omega), List.foldl_append] at h
      exact h)
    (by
      refine Ev.step (fun k => by rw [impl_isPlan.l1]) ?_
      simp only [if_pos hq1, if_pos hq0, isSign_eq, Option.bind_some, decide_eq_true_eq, if_neg (show ¬ (-1 ≤ rd r q ∧ rd r q ≤ 1) from hq2)]
      exact Ev.now _)
  simpa using h
theorem isPlan_ev (n : Int) (l : List (List Int)) (hl : l.length ≤ 1048576) (hw : ∀ x ∈ l, x.length ≤ 1048576) : Ev (fun k => impl_isPlan.f k n l) (decide (2 ≤ n ∧ n ≤ 40) && planB n l) := by
  unfold impl_isPlan.f
  have h := Ev.count' (l := fun k i => impl_isPlan.l0 k n l l l.length i) (n := l.length) (P := fun i => PlanAt n (rd_L1 l i)) (a := decide (2 ≤ n ∧ n ≤ 40) && decide ((l.length : Int) ≤ 5)) (b := false) (by omega)
    (fun i h0 h1 hp r h => by
      refine Ev.step (fun k => by rw [impl_isPlan.l0]) ?_
      simp only [if_pos h0, if_pos h1, if_pos hp.1.1]
      refine isPlan_row n l l.length i (rd_L1 l i) (rdI_len hw i) hp.1.2 h0 (by omega) ?_
      simp only [if_pos hp.2]
      exact h)
    (fun i h0 h1 hp => by
      refine Ev.step (fun k => by rw [impl_isPlan.l0]) ?_
      simp only [if_pos h0, if_pos h1]
      by_cases h3 : ((rd_L1 l i).length : Int) = n
      · simp only [if_pos h3]
        by_cases h2 : ∀ j, 0 ≤ j → j < ((rd_L1 l i).length : Int) → SignAt (rd_L1 l i) j
        · refine isPlan_row n l l.length i (rd_L1 l i) (rdI_len hw i) h2 h0 (by omega) ?_
          simp only [if_neg (show ¬ totW (rd_L1 l i) = 0 from fun h => hp ⟨⟨h3, h2⟩, h⟩)]
          exact Ev.now _
        · exact isPlan_bad n l l.length i (rd_L1 l i) (rdI_len hw i) h2
      · simp only [if_neg h3]
        exact Ev.now _)
    (fun i h0 h1 => by
      refine Ev.step (fun k => by rw [impl_isPlan.l0]) ?_
      simp only [if_neg (show ¬ i < (l.length : Int) by omega), areCoins_eq, Option.bind_some, decide_eq_true_eq]
      by_cases hc : 2 ≤ n ∧ n ≤ 40
      · simp only [if_pos hc, decide_eq_true hc, Bool.true_and]
        exact Ev.now _
      · simp only [if_neg hc, decide_eq_false hc, Bool.false_and]
        exact Ev.now _)
  refine Ev.as h ?_
  unfold planB
  split
  · rfl
  · rw [Bool.and_false]

theorem l3Good_ev (n : Int) (l : List (List Int)) (hl : l.length ≤ 1048576) (hw : ∀ x ∈ l, x.length ≤ 1048576) : Ev (fun k => spec_l3Good.f k n l) (decide (2 ≤ n ∧ n ≤ 40) && planB n l) := by
  unfold spec_l3Good.f
  simp only [l3Coins_eq, Option.bind_some, decide_eq_true_eq]
  by_cases h : 2 ≤ n ∧ n ≤ 40
  · simp only [if_pos h]
    rw [decide_eq_true h, Bool.true_and]
    exact Ev.bind (l3Plan_ev n l hl hw) (Ev.now _)
  · simp only [if_neg h]
    rw [decide_eq_false h, Bool.false_and]
    exact Ev.now _

/-- The outcome of a coin, heavier (1) or lighter (-1). -/
def colW (l : List (List Int)) (c s : Int) : List Int := l.map fun r => s * rd r c
theorem good_plan {n : Int} {l : List (List Int)} (h : planB n l = true) : l.length ≤ 5 ∧ ∀ i, 0 ≤ i → i < (l.length : Int) → PlanAt n (rd_L1 l i) := by
  unfold planB at h
  split at h
  · rename_i hp
    exact ⟨by have := of_decide_eq_true h; omega, hp⟩
  · cases h
theorem take_succ_rdL (l : List (List Int)) (i : Int) (h0 : 0 ≤ i) (h1 : i < l.length) : l.take (i + 1).toNat = l.take i.toNat ++ [rd_L1 l i] := by
  rw [toNat_succ h0, List.take_add_one]
  unfold rd_L1
  rw [getD_lt _ (show i.toNat < l.length by omega), List.getElem?_eq_getElem (show i.toNat < l.length by omega)]
  rfl
theorem colW_len (l : List (List Int)) (c s : Int) : (colW l c s).length = l.length := List.length_map _
theorem colW_take (l : List (List Int)) (c s i : Int) (h0 : 0 ≤ i) (h1 : i < l.length) : colW (l.take (i + 1).toNat) c s = colW (l.take i.toNat) c s ++ [s * rd (rd_L1 l i) c] := by
  rw [take_succ_rdL l i h0 h1]
  simp [colW]
theorem cell_sign {n : Int} {l : List (List Int)} (hp : ∀ i, 0 ≤ i → i < (l.length : Int) → PlanAt n (rd_L1 l i)) {i c : Int} (h0 : 0 ≤ i) (h1 : i < l.length) (c0 : 0 ≤ c) (c1 : c < n) : c < ((rd_L1 l i).length : Int) ∧ -1 ≤ rd (rd_L1 l i) c ∧ rd (rd_L1 l i) c ≤ 1 := by
  have h := hp i h0 h1
  have hl := h.1.1
  have := h.1.2 c c0 (by omega)
  exact ⟨by omega, this⟩

theorem l1Same_ev (a b : List Int) (ha : a.length ≤ 9223372036854775806) : Ev (fun k => spec_l1Same.f k a b) (decide (a = b)) := by
  unfold spec_l1Same.f
  by_cases hl : (a.length : Int) = (b.length : Int)
  · simp only [if_pos hl]
    have h := Ev.count' (l := fun k i => spec_l1Same.l0 k a b i) (n := a.length) (P := fun i => rd a i = rd b i) (a := true) (b := false) (by omega)
      (fun i h0 h1 hp r h => by
        refine Ev.step (fun k => by rw [spec_l1Same.l0]) ?_
        simp only [if_pos h1, if_pos h0, if_pos (show i < (b.length : Int) by omega), if_pos hp, w64 (show -9223372036854775808 ≤ i + 1 by omega) (by omega)]
        exact h)
      (fun i h0 h1 hp => by
        refine Ev.step (fun k => by rw [spec_l1Same.l0]) ?_
        simp only [if_pos h1, if_pos h0, if_pos (show i < (b.length : Int) by omega), if_neg hp]
        exact Ev.now _)
      (fun i _ e => by
        subst e
        refine Ev.step (fun k => by rw [spec_l1Same.l0]) ?_
        simp only [if_neg (show ¬ (a.length : Int) < a.length by omega)]
        exact Ev.now _)
    refine Ev.as h ?_
    by_cases e : a = b
    · rw [if_pos (fun i _ _ => by rw [e]), decide_eq_true e]
    · rw [if_neg (fun hh => e (rd_ext (by omega) hh)), decide_eq_false e]
  · simp only [if_neg hl]
    rw [decide_eq_false (fun e => hl (by rw [e]))]
    exact Ev.now _

theorem slEq_ev (a b : List Int) (ha : a.length ≤ 9223372036854775806) : Ev (fun k => slices_Equal_int_int.f k a b) (decide (a = b)) := by
  unfold slices_Equal_int_int.f
  by_cases hl : (a.length : Int) = (b.length : Int)
  · simp only [if_pos hl]
    have h := Ev.count' (l := fun k i => slices_Equal_int_int.l0 k a b a.length i) (n := a.length) (P := fun i => rd a i = rd b i) (a := true) (b := false) (by omega)
      (fun i h0 h1 hp r h => by
        refine Ev.step (fun k => by rw [slices_Equal_int_int.l0]) ?_
        simp only [if_pos h1, if_pos h0, if_pos (show i < (b.length : Int) by omega), if_pos hp, w64 (show -9223372036854775808 ≤ i + 1 by omega) (by omega)]
        exact h)
      (fun i h0 h1 hp => by
        refine Ev.step (fun k => by rw [slices_Equal_int_int.l0]) ?_
        simp only [if_pos h1, if_pos h0, if_pos (show i < (b.length : Int) by omega), if_neg hp]
        exact Ev.now _)
      (fun i _ e => by
        subst e
        refine Ev.step (fun k => by rw [slices_Equal_int_int.l0]) ?_
        simp only [if_neg (show ¬ (a.length : Int) < a.length by omega)]
        exact Ev.now _)
    refine Ev.as h ?_
    by_cases e : a = b
    · rw [if_pos (fun i _ _ => by rw [e]), decide_eq_true e]
    · rw [if_neg (fun hh => e (rd_ext (by omega) hh)), decide_eq_false e]
  · simp only [if_neg hl]
    rw [decide_eq_false (fun e => hl (by rw [e]))]
    exact Ev.now _

theorem implOutcome_ev {n : Int} {l : List (List Int)} (hl : l.length ≤ 5) (hp : ∀ i, 0 ≤ i → i < (l.length : Int) → PlanAt n (rd_L1 l i)) {c s : Int} (c0 : 0 ≤ c) (c1 : c < n) (hs : s = 1 ∨ s = -1) :
    Ev (fun k => impl_outcomeOf.f k l c s) (colW l c s) := by
  unfold impl_outcomeOf.f
  have h := Ev.fold (l := fun k o i => impl_outcomeOf.l0 k c s o l l.length i) (n := l.length) (fun i => colW (l.take i.toNat) c s) (a := colW l c s)
    (fun i h0 h1 r h => by
      refine Ev.step (fun k => by rw [impl_outcomeOf.l0]) ?_
      have hx : (colW (l.take i.toNat) c s).length < 17592186044416 := by rw [colW_len, List.length_take]; omega
      have hc := cell_sign hp h0 h1 c0 c1
      have e : wrap64 (s * rd (rd_L1 l i) c) = s * rd (rd_L1 l i) c := by rcases hs with rfl | rfl <;> exact w64 (by omega) (by omega)
      simp only [if_pos h1, if_pos h0, if_pos c0, if_pos hc.1, if_pos hx, e, w64 (show -9223372036854775808 ≤ i + 1 by omega) (by omega)]
      rw [colW_take l c s i h0 h1] at h
      exact h)
    (by
      refine Ev.step (fun k => by rw [impl_outcomeOf.l0]) ?_
      simp only [if_neg (show ¬ (l.length : Int) < l.length by omega)]
      exact Ev.some (by simp))
    l.length 0 (by omega) (by omega)
  simpa [colW] using h

def sgnOf (heavy : Bool) : Int := if heavy = true then 1 else -1
theorem specOutcome_ev {n : Int} {l : List (List Int)} (hl : l.length ≤ 5) (hp : ∀ i, 0 ≤ i → i < (l.length : Int) → PlanAt n (rd_L1 l i)) {c : Int} (heavy : Bool) (c0 : 0 ≤ c) (c1 : c < n) :
    Ev (fun k => spec_l3Outcome.f k l c heavy) (colW l c (sgnOf heavy)) := by
  unfold spec_l3Outcome.f
  have h := Ev.fold (l := fun k o i => spec_l3Outcome.l0 k l c heavy o i) (n := l.length) (fun i => colW (l.take i.toNat) c (sgnOf heavy)) (a := colW l c (sgnOf heavy))
    (fun i h0 h1 r h => by
      refine Ev.step (fun k => by rw [spec_l3Outcome.l0]) ?_
      have hx : (colW (l.take i.toNat) c (sgnOf heavy)).length < 17592186044416 := by rw [colW_len, List.length_take]; omega
      have hc := cell_sign hp h0 h1 c0 c1
      rw [colW_take l c _ i h0 h1] at h
      cases heavy
      · have e : wrap64 (-(rd (rd_L1 l i) c)) = -1 * rd (rd_L1 l i) c := by rw [w64 (by omega) (by omega)]; omega
        simp only [sgnOf, Bool.false_eq_true, if_false] at h hx ⊢
        simp only [if_pos h1, if_pos h0, if_pos c0, if_pos hc.1, if_pos hx, e, w64 (show -9223372036854775808 ≤ i + 1 by omega) (by omega)]
        exact h
      · simp only [sgnOf, if_true, Int.one_mul] at h hx ⊢
        simp only [if_pos h1, if_pos h0, if_pos c0, if_pos hc.1, if_pos hx, w64 (show -9223372036854775808 ≤ i + 1 by omega) (by omega)]
        exact h)
    (by
      refine Ev.step (fun k => by rw [spec_l3Outcome.l0]) ?_
      simp only [if_neg (show ¬ (l.length : Int) < l.length by omega)]
      exact Ev.some (by simp))
    l.length 0 (by omega) (by omega)
  simpa [colW] using h

/-- What a coin gives to an outcome's list. -/
def foundW (l : List (List Int)) (out : List Int) (c : Int) : List (S66) := (if colW l c 1 = out then [⟨c, 1⟩] else []) ++ (if colW l c (-1) = out then [⟨c, -1⟩] else [])
def coinsW (l : List (List Int)) (out : List Int) : Nat → List (S66)
  | 0 => []
  | n + 1 => coinsW l out n ++ foundW l out n
theorem coinsW_len (l : List (List Int)) (out : List Int) : ∀ n, (coinsW l out n).length ≤ 2 * n
  | 0 => Nat.le_refl _
  | n + 1 => by
    have := coinsW_len l out n
    rw [coinsW, List.length_append]
    have h : (foundW l out n).length ≤ 2 := by
      unfold foundW
      rw [List.length_append]
      split <;> split <;> simp
    omega
open Classical in
noncomputable def CoinsWithR (n : Int) (l : List (List Int)) (out : List Int) : List (S66) × Bool := if (decide (2 ≤ n ∧ n ≤ 40) && planB n l) = true ∧ (out.length : Int) = l.length ∧ (∀ j, 0 ≤ j → j < (out.length : Int) → SignAt out j) then (coinsW l out n.toNat, true) else ([], false)
theorem CoinsWithR_len (n : Int) (l : List (List Int)) (out : List Int) : (CoinsWithR n l out).1.length ≤ 80 := by
  unfold CoinsWithR
  split
  · rename_i h
    have h2 := of_decide_eq_true (Bool.and_eq_true_iff.1 h.1).1
    have := coinsW_len l out n.toNat
    show (coinsW l out n.toNat).length ≤ 80
    omega
  · simp
theorem specCoinsWith_ev (n : Int) (l : List (List Int)) (out : List Int) (hl : l.length ≤ 1048576) (hw : ∀ x ∈ l, x.length ≤ 1048576) (ho : out.length ≤ 1048576) : Ev (fun k => spec_CoinsWith.f k n l out) (CoinsWithR n l out) := by
  unfold spec_CoinsWith.f CoinsWithR
  simp only [Option.bind_some]
  refine Ev.bind (l3Good_ev n l hl hw) ?_
  by_cases h : (decide (2 ≤ n ∧ n ≤ 40) && planB n l) = true
  · have h' := Bool.and_eq_true_iff.1 h
    have hn := of_decide_eq_true h'.1
    have hg := good_plan h'.2
    simp only [h, if_true, true_and]
    refine Ev.bind (l3Signs_ev out l.length (by omega)) ?_
    refine Ev.step (fun k => by rw [spec_CoinsWith.j0]) ?_
    by_cases hs : ∀ j, 0 ≤ j → j < (out.length : Int) → SignAt out j
    · rw [if_pos hs]
      by_cases hL : (out.length : Int) = l.length
      · rw [if_pos ⟨h, hL, hs⟩]
        simp only [hL, beq_self_eq_true, Bool.not_true, Bool.false_eq_true, if_false]
        have hf := Ev.upto (l := fun k o i => spec_CoinsWith.l0 k n l out o i) (n := n) (fun i => coinsW l out i.toNat) (a := (coinsW l out n.toNat, true)) (by omega)
          (fun i h0 h1 r h => by
            have hlen := coinsW_len l out i.toNat
            have hx : (coinsW l out i.toNat).length < 8796093022208 := by omega
            have e2 : coinsW l out (i + 1).toNat = coinsW l out i.toNat ++ foundW l out i := by
              rw [toNat_succ h0, coinsW, Int.toNat_of_nonneg h0]
            rw [e2] at h
            refine Ev.step (fun k => by rw [spec_CoinsWith.l0]) ?_
            simp only [if_pos h1]
            refine Ev.bind (specOutcome_ev hg.1 hg.2 true h0 h1) (Ev.bind (l1Same_ev _ _ (by rw [colW_len]; omega)) ?_)
            simp only [sgnOf, if_true, decide_eq_true_eq]
            unfold foundW at h
            by_cases e1 : colW l i 1 = out
            · simp only [if_pos e1, if_pos hx] at h ⊢
              refine Ev.step (fun k => by rw [spec_CoinsWith.j2]) ?_
              refine Ev.bind (specOutcome_ev hg.1 hg.2 false h0 h1) (Ev.bind (l1Same_ev _ _ (by rw [colW_len]; omega)) ?_)
              simp only [sgnOf, Bool.false_eq_true, if_false, decide_eq_true_eq]
              by_cases e3 : colW l i (-1) = out
              · simp only [if_pos e3, if_pos (show (coinsW l out i.toNat ++ [(⟨i, 1⟩ : S66)]).length < 8796093022208 by rw [List.length_append, List.length_singleton]; omega), w64 (show -9223372036854775808 ≤ i + 1 by omega) (by omega)] at h ⊢
                simpa [List.append_assoc] using h
              · simp only [if_neg e3, w64 (show -9223372036854775808 ≤ i + 1 by omega) (by omega)] at h ⊢
                simpa using h
            · simp only [if_neg e1] at h ⊢
              refine Ev.step (fun k => by rw [spec_CoinsWith.j2]) ?_
              refine Ev.bind (specOutcome_ev hg.1 hg.2 false h0 h1) (Ev.bind (l1Same_ev _ _ (by rw [colW_len]; omega)) ?_)
              simp only [sgnOf, Bool.false_eq_true, if_false, decide_eq_true_eq]
              by_cases e3 : colW l i (-1) = out
              · simp only [if_pos e3, if_pos hx, w64 (show -9223372036854775808 ≤ i + 1 by omega) (by omega)] at h ⊢
                simpa using h
              · simp only [if_neg e3, w64 (show -9223372036854775808 ≤ i + 1 by omega) (by omega)] at h ⊢
                simpa using h)
          (by
            refine Ev.step (fun k => by rw [spec_CoinsWith.l0]) ?_
            simp only [if_neg (show ¬ n < n by omega)]
            exact Ev.now _)
        exact hf
      · rw [if_neg (fun e => hL e.2.1)]
        have : ((out.length : Int) == (l.length : Int)) = false := beq_eq_false_iff_ne.2 hL
        simp only [this, Bool.not_false, if_true]
        exact Ev.now _
    · rw [if_neg hs, if_neg (fun e => hs e.2.2)]
      simp only [Bool.not_false, if_true]
      exact Ev.now _
  · rw [if_neg (fun e => h e.1)]
    simp only [Bool.eq_false_iff.2 h, Bool.false_eq_true, if_false]
    refine Ev.step (fun k => by rw [spec_CoinsWith.j0]) ?_
    simp only [if_true]
    exact Ev.now _
theorem any_bad (out : List Int) : out.any signBad = false ↔ ∀ j, 0 ≤ j → j < (out.length : Int) → SignAt out j := by
  rw [List.any_eq_false]
  constructor
  · intro h j h0 h1
    have hm : out[j.toNat]'(by omega) ∈ out := List.getElem_mem _
    have := h _ hm
    unfold signBad at this
    have e : rd out j = out[j.toNat]'(by omega) := by
      unfold rd
      exact getD_lt _ (show j.toNat < out.length by omega)
    unfold SignAt
    rw [e]
    simpa using this
  · intro h x hx
    obtain ⟨j, hj, rfl⟩ := List.getElem_of_mem hx
    have := h (j : Int) (by omega) (by omega)
    unfold SignAt at this
    have e : rd out (j : Int) = out[j] := by
      unfold rd
      exact getD_lt _ (show (j : Int).toNat < out.length by omega)
    rw [e] at this
    unfold signBad
    simpa using this
theorem implCoinsWith_in {n : Int} {l : List (List Int)} (out : List Int) (ho : out.length ≤ 1048576) (hl : l.length ≤ 5) (hp : ∀ i, 0 ≤ i → i < (l.length : Int) → PlanAt n (rd_L1 l i)) (hn : n ≤ 40) (o : List (S66)) (hx : o.length ≤ 1048576) (i : Int) (h0 : 0 ≤ i) (h1 : i < n) {r : List (S66) × Bool}
    (h : Ev (fun k => impl_CoinsWith.l0 k l out (o ++ foundW l out i) n (i + 1)) r) : Ev (fun k => impl_CoinsWith.l1 k l out o i 1 n i) r := by
  refine Ev.step (fun k => by rw [impl_CoinsWith.l1]) ?_
  simp only [if_pos (show (1 : Int) ≥ -1 by omega)]
  refine Ev.bind (implOutcome_ev hl hp h0 h1 (.inl rfl)) (Ev.bind (slEq_ev _ _ (by rw [colW_len]; omega)) ?_)
  unfold foundW at h
  have ew : wrap64 ((1 : Int) - 2) = -1 := w64 (by omega) (by omega)
  have ew2 : wrap64 ((-1 : Int) - 2) = -3 := w64 (by omega) (by omega)
  have hend : ∀ o2, Ev (fun k => impl_CoinsWith.l0 k l out o2 n (i + 1)) r → Ev (fun k => impl_CoinsWith.l1 k l out o2 i (-3) n i) r := fun o2 h => by
    refine Ev.step (fun k => by rw [impl_CoinsWith.l1]) ?_
    simp only [if_neg (show ¬ (-3 : Int) ≥ -1 by omega), w64 (show -9223372036854775808 ≤ i + 1 by omega) (by omega)]
    exact h
  have hmid : ∀ o2 : List (S66), o2.length < 8796093022208 → Ev (fun k => impl_CoinsWith.l0 k l out (o2 ++ (if colW l i (-1) = out then [⟨i, -1⟩] else [])) n (i + 1)) r → Ev (fun k => impl_CoinsWith.l1 k l out o2 i (-1) n i) r := fun o2 h2 h => by
    refine Ev.step (fun k => by rw [impl_CoinsWith.l1]) ?_
    simp only [if_pos (show (-1 : Int) ≥ -1 by omega)]
    refine Ev.bind (implOutcome_ev hl hp h0 h1 (.inr rfl)) (Ev.bind (slEq_ev _ _ (by rw [colW_len]; omega)) ?_)
    simp only [decide_eq_true_eq]
    by_cases e3 : colW l i (-1) = out
    · simp only [if_pos e3, if_pos h2, ew2] at h ⊢
      exact hend _ h
    · simp only [if_neg e3, ew2, List.append_nil] at h ⊢
      exact hend _ h
  simp only [decide_eq_true_eq]
  rw [← List.append_assoc] at h
  by_cases e1 : colW l i 1 = out
  · simp only [if_pos e1, if_pos (show o.length < 8796093022208 by omega), ew] at h ⊢
    exact hmid _ (by rw [List.length_append, List.length_singleton]; omega) h
  · simp only [if_neg e1, ew, List.append_nil] at h ⊢
    exact hmid _ (by omega) h
theorem implCoinsWith_ev (n : Int) (l : List (List Int)) (out : List Int) (hl : l.length ≤ 1048576) (hw : ∀ x ∈ l, x.length ≤ 1048576) (ho : out.length ≤ 1048576) : Ev (fun k => impl_CoinsWith.f k n l out) (CoinsWithR n l out) := by
  unfold impl_CoinsWith.f CoinsWithR
  refine Ev.bind (isPlan_ev n l hl hw) ?_
  by_cases h : (decide (2 ≤ n ∧ n ≤ 40) && planB n l) = true
  · have h' := Bool.and_eq_true_iff.1 h
    have hn := of_decide_eq_true h'.1
    have hg := good_plan h'.2
    simp only [h, if_true, true_and]
    by_cases hL : (out.length : Int) = l.length
    · simp only [if_pos hL]
      unfold slices_ContainsFunc_int_int.f
      simp only [if_pos (show out.length ≤ 9223372036854775806 by omega), Option.bind_some]
      refine Ev.step (fun k => by rw [impl_CoinsWith.j0]) ?_
      by_cases hs : ∀ j, 0 ≤ j → j < (out.length : Int) → SignAt out j
      · rw [if_pos ⟨h, hL, hs⟩, (any_bad out).2 hs]
        simp only [Bool.false_eq_true, if_false]
        exact Ev.upto (l := fun k o i => impl_CoinsWith.l0 k l out o n i) (n := n) (fun i => coinsW l out i.toNat) (a := (coinsW l out n.toNat, true)) (by omega)
          (fun i h0 h1 r h => by
            have hlen := coinsW_len l out i.toNat
            have e2 : coinsW l out (i + 1).toNat = coinsW l out i.toNat ++ foundW l out i := by
              rw [toNat_succ h0, coinsW, Int.toNat_of_nonneg h0]
            rw [e2] at h
            refine Ev.step (fun k => by rw [impl_CoinsWith.l0]) ?_
            simp only [if_pos h1]
            exact implCoinsWith_in out ho hg.1 hg.2 hn.2 _ (by omega) i h0 h1 h)
          (by
            refine Ev.step (fun k => by rw [impl_CoinsWith.l0]) ?_
            simp only [if_neg (show ¬ n < n by omega)]
            exact Ev.now _)
      · rw [if_neg (fun e => hs e.2.2)]
        have : out.any signBad = true := by
          cases hb : out.any signBad
          · exact absurd ((any_bad out).1 hb) hs
          · rfl
        simp only [this, if_true]
        exact Ev.now _
    · simp only [if_neg hL]
      rw [if_neg (fun e => hL e.2.1)]
      refine Ev.step (fun k => by rw [impl_CoinsWith.j0]) ?_
      simp only [if_true]
      exact Ev.now _
  · rw [if_neg (fun e => h e.1)]
    simp only [Bool.eq_false_iff.2 h, Bool.false_eq_true, if_false]
    refine Ev.step (fun k => by rw [impl_CoinsWith.j0]) ?_
    simp only [if_true]
    exact Ev.now _
theorem FnExactCoinsWith : laws_FnExactCoinsWith.Pure := by
  intro n l out _ hw how
  refine Ev.rounds ?_
  unfold laws_FnExactCoinsWith.f
  by_cases ho' : (out.length : Int) > 1048576
  · simp only [if_pos ho']; exact Ev.now _
  · simp only [if_neg ho']
    have ho : out.length ≤ 1048576 := by omega
    obtain ⟨q, hq, hp⟩ := szIntSS_ev l hw.1 (fun x hx => (hw.2 x hx).1)
    refine Ev.bind hq ?_
    by_cases hn : q < 0
    · simp only [if_pos hn]; exact Ev.now _
    · simp only [if_neg hn]
      obtain ⟨hl, hr⟩ := hp.resolve_left hn
      have ht := toIntSS_ev l hl hr
      have hto := toIntS_ev out ho
      have hi := implCoinsWith_ev n l out hl hr ho
      have hlen := CoinsWithR_len n l out
      have hes := eqIntA2S_self (CoinsWithR n l out).1 (by omega)
      obtain ⟨m, X, hm, hm0, hm9⟩ := markIntSS_ev2 l hl hr
      refine Ev.bind ht (Ev.bind hto (Ev.bind (specCoinsWith_ev n l out hl hr ho) (Ev.bind ht (Ev.bind hto (Ev.bind hi (Ev.bind hes ?_))))))
      simp only [if_true, bne_self_eq_false]
      refine Ev.step (fun k => by rw [laws_FnExactCoinsWith.j0]) ?_
      simp only [Bool.false_eq_true, if_false]
      refine Ev.bind ht (Ev.bind (eqIntSS_self l (by omega) (fun x hx => by have := hr x hx; omega)) ?_)
      simp only [if_true]
      refine Ev.bind hto (Ev.bind (eqIntS_self out (by omega)) ?_)
      simp only [if_true]
      refine Ev.bind hm (Ev.bind (markIntS_ev out ho m hm0 hm9) ?_)
      simp only [if_neg (show ¬ m + (out.length : Int) < 0 by omega)]
      refine Ev.bind hes ?_
      simp only [if_true, bne_self_eq_false]
      refine Ev.step (fun k => by rw [laws_FnExactCoinsWith.j1]) ?_
      simp only [Bool.false_eq_true, if_false]
      have hheld := heldIntA2S_ev (CoinsWithR n l out).1.length (by omega) 1 (by omega) (by omega)
      refine Ev.bind (markIntA2S_ev _ (by omega) 1 (by omega) (by omega)) (Ev.bind hheld ?_)
      simp only [if_neg (show ¬ (1 : Int) + 2 * ((CoinsWithR n l out).1.length : Int) < 0 by omega), if_true]
      refine Ev.bind ht (Ev.bind hto (Ev.bind hi (Ev.bind hes ?_)))
      simp only [if_true, bne_self_eq_false]
      refine Ev.step (fun k => by rw [laws_FnExactCoinsWith.j2]) ?_
      simp only [Bool.false_eq_true, if_false]
      refine Ev.bind hheld ?_
      simp only [if_neg (show ¬ (1 : Int) + 2 * ((CoinsWithR n l out).1.length : Int) < 0 by omega), if_true]
      exact Ev.now _


end Go.Proofs.Ytjhoejdjhboadaa.Pure

