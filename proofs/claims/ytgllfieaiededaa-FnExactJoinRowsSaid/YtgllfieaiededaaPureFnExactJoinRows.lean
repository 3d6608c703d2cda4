/- For every two lists of loads the plain function of the JoinRows law answers true. -/
import Derived.Test.YtgllfieaiededaaPFnExactJoinRowsx4
import Derived.Test.YtgllfieaiededaaLib
set_option linter.unusedVariables false
set_option linter.unusedSimpArgs false
namespace Go.Proofs.Ytgllfieaiededaa.Pure
open Go.RowKit Go.Proofs.Ytgllfieaiededaa.PFnExactJoinRows Go.Proofs.YtgllfieaiededaaW.PrintWords Go.Proofs.YtgllfieaiededaaW.PrintLast Go.Proofs.Ytgllfieaiededaa.Lib

theorem l1In_eq (a b c : Int) : spec_l1In.f a b c = some (decide (b ≤ a ∧ a ≤ c)) := by
  unfold spec_l1In.f
  by_cases h : a ≥ b
  · rw [if_pos h]
    congr 1
    simp only [decide_eq_decide]
    omega
  · rw [if_neg h]
    congr 1
    simp only [Bool.false_eq, decide_eq_false_iff_not]
    omega

theorem within_eq (a b c : Int) : impl_within.f a b c = some (decide (b ≤ a ∧ a ≤ c)) := by
  unfold impl_within.f
  by_cases h : a ≥ b
  · rw [if_pos h]
    congr 1
    simp only [decide_eq_decide]
    omega
  · rw [if_neg h]
    congr 1
    simp only [Bool.false_eq, decide_eq_false_iff_not]
    omega

theorem szLoadS_eq (l : List (S78)) (hl : l.length ≤ maxLen) : laws_szLoadS.f l 1048576 = some (if (l.length : Int) > 1048576 then -1 else 1048576 - (l.length : Int)) := by
  unfold maxLen at hl
  unfold laws_szLoadS.f
  rw [w64 (show -9223372036854775808 ≤ 1048576 - (l.length : Int) by omega) (by omega)]
  by_cases h : (l.length : Int) > 1048576
  · rw [if_pos h, if_pos (by omega)]
  · rw [if_neg h, if_neg (by omega)]

/-- The program's own load for the law's. -/
def toL (x : S78) : S73 := ⟨x.f0, x.f1⟩
theorem toLoadS_ev (l : List (S78)) (hl : l.length ≤ 1048576) : Ev (fun k => laws_toLoadS.f k l) (l.map toL) := by
  unfold laws_toLoadS.f
  simp only [if_pos (show 0 ≤ (l.length : Int) by omega), if_pos (show ((l.length : Int) : Int).toNat ≤ 17592186044416 by omega)]
  have h := Ev.fold (l := fun k x i => laws_toLoadS.l0 k l x i) (n := l.length) (fun i => (l.map toL).take i.toNat ++ List.replicate (l.length - i.toNat) z73) (a := l.map toL)
    (fun i h0 h1 r h => by
      refine Ev.step (fun k => by rw [laws_toLoadS.l0]) ?_
      have hx : i < (((l.map toL).take i.toNat ++ List.replicate (l.length - i.toNat) z73).length : Int) := by
        rw [List.length_append, List.length_take, List.length_replicate, List.length_map]; omega
      have e : (⟨(rd_T78 l i).f0, (rd_T78 l i).f1⟩ : S73) = (l.map toL).getD i.toNat z73 := by
        unfold rd_T78
        rw [getD_lt _ (by omega), getD_lt _ (by rw [List.length_map]; omega), List.getElem_map]
        rfl
      simp only [if_pos h1, if_pos h0, laws_toLoad.f, Option.bind_some, if_pos hx, w64 (show -9223372036854775808 ≤ i + 1 by omega) (by omega), e]
      have hs := set_fill (l.map toL) z73 z73 i.toNat (by rw [List.length_map]; omega)
      rw [List.length_map] at hs
      rw [hs, ← toNat_succ h0]
      exact h)
    (by
      refine Ev.step (fun k => by rw [laws_toLoadS.l0]) ?_
      simp only [if_neg (show ¬ (l.length : Int) < l.length by omega)]
      exact Ev.some (by simp [List.take_of_length_le]))
    l.length 0 (by omega) (by omega)
  simpa using h

instance : DecidableEq (S73) := fun a b => if h : a.f0 = b.f0 ∧ a.f1 = b.f1 then isTrue (by cases a; cases b; simp_all) else isFalse (by rintro rfl; exact h ⟨rfl, rfl⟩)
theorem S73_eq (a b : S73) : a = b ↔ a.f0 = b.f0 ∧ a.f1 = b.f1 := by
  cases a; cases b; simp
theorem eqLoad_eq (a b : S73) : laws_eqLoad.f a.f0 a.f1 b.f0 b.f1 = some (decide (a = b)) := by
  unfold laws_eqLoad.f
  by_cases h0 : a.f0 = b.f0
  · by_cases h1 : a.f1 = b.f1
    · rw [if_pos h0, if_pos h1, decide_eq_true ((S73_eq a b).2 ⟨h0, h1⟩)]
    · rw [if_pos h0, if_neg h1, decide_eq_false fun e => h1 ((S73_eq a b).1 e).2]
  · rw [if_neg h0, decide_eq_false fun e => h0 ((S73_eq a b).1 e).1]
theorem eqLoadS_ev (a b : List (S73)) (ha : a.length ≤ 9223372036854775806) : Ev (fun k => laws_eqLoadS.f k a b) (decide (a = b)) := by
  unfold laws_eqLoadS.f
  by_cases hl : (a.length : Int) = (b.length : Int)
  · simp only [if_pos hl]
    have h := Ev.count' (l := fun k i => laws_eqLoadS.l0 k a b i) (n := a.length) (P := fun i => rd_T73 a i = rd_T73 b i) (a := true) (b := false) (by omega)
      (fun i h0 h1 hp r h => by
        refine Ev.step (fun k => by rw [laws_eqLoadS.l0]) ?_
        simp only [if_pos h0, if_pos h1, if_pos (show i < (b.length : Int) by omega), eqLoad_eq, Option.bind_some, decide_eq_true hp, if_true, w64 (show -9223372036854775808 ≤ i + 1 by omega) (by omega)]
        exact h)
      (fun i h0 h1 hp => by
        refine Ev.step (fun k => by rw [laws_eqLoadS.l0]) ?_
        simp only [if_pos h0, if_pos h1, if_pos (show i < (b.length : Int) by omega), eqLoad_eq, Option.bind_some, decide_eq_false hp, Bool.false_eq_true, if_false]
        exact Ev.now _)
      (fun i h0 h1 => by
        refine Ev.step (fun k => by rw [laws_eqLoadS.l0]) ?_
        simp only [if_neg (show ¬ i < (a.length : Int) by omega)]
        exact Ev.now _)
    refine Ev.as h ?_
    split
    · rename_i hc
      exact (decide_eq_true (getD_ext z73 (by omega) fun i hi => hc i (by omega) (by omega))).symm
    · rename_i hc
      exact (decide_eq_false fun e => hc fun i h0 h1 => by rw [e]).symm
  · simp only [if_neg hl]
    exact Ev.some (decide_eq_false fun e => hl (by rw [e])).symm
theorem eqLoadS_self (a : List (S73)) (ha : a.length ≤ 9223372036854775806) : Ev (fun k => laws_eqLoadS.f k a a) true :=
  Ev.as (eqLoadS_ev a a ha) (decide_eq_true rfl)

/-- Loads that are a row. -/
def rowB (l : List (S73)) : Bool := decide (l.length ≤ 12) && l.all rowItem
theorem rowItem_iff (x : S73) : rowItem x = true ↔ (0 ≤ x.f0 ∧ x.f0 ≤ 60) ∧ (1 ≤ x.f1 ∧ x.f1 ≤ 99) := by
  unfold rowItem; simp
theorem rowB_iff (l : List (S73)) : rowB l = true ↔ l.length ≤ 12 ∧ ∀ x ∈ l, (0 ≤ x.f0 ∧ x.f0 ≤ 60) ∧ (1 ≤ x.f1 ∧ x.f1 ≤ 99) := by
  unfold rowB
  rw [Bool.and_eq_true, decide_eq_true_eq, List.all_eq_true]
  simp only [rowItem_iff]
theorem implIsRow_eq (l : List (S73)) : impl_IsRow.f l = some (rowB l) := rfl

theorem l2In_eq (a : Int) : spec_l2In.f a = some (decide (0 ≤ a ∧ a ≤ 60)) := by
  unfold spec_l2In.f
  simp only [l1In_eq, Option.bind_some]
theorem rdL_mem {l : List (S73)} {i : Int} (h0 : 0 ≤ i) (h1 : i < l.length) : rd_T73 l i ∈ l := by
  unfold rd_T73
  rw [getD_lt _ (by omega)]
  exact List.getElem_mem _
theorem all_rd {l : List (S73)} {p : S73 → Bool} : l.all p = true ↔ ∀ i : Int, 0 ≤ i → i < l.length → p (rd_T73 l i) = true := by
  rw [List.all_eq_true]
  refine ⟨fun h i h0 h1 => h _ (rdL_mem h0 h1), fun h x hx => ?_⟩
  obtain ⟨j, hj, rfl⟩ := List.getElem_of_mem hx
  have := h j (by omega) (by omega)
  unfold rd_T73 at this
  rwa [Int.toNat_natCast, getD_lt _ hj] at this
theorem l2Row_ev (l : List (S73)) : Ev (fun k => spec_l2Row.f k l) (rowB l) := by
  unfold spec_l2Row.f
  -- the loop goes over at most 13 loads
  have yes : ∀ i : Int, 0 ≤ i → i < (l.length : Int) → i ≤ 12 → rowItem (rd_T73 l i) = true → ∀ r, Ev (fun k => spec_l2Row.l0 k l (i + 1)) r → Ev (fun k => spec_l2Row.l0 k l i) r := by
    intro i h0 h1 h2 hp r h
    rw [rowItem_iff] at hp
    refine Ev.step (fun k => by rw [spec_l2Row.l0]) ?_
    simp only [if_pos h1, decide_eq_true h2]
    refine Ev.step (fun k => by rw [spec_l2Row.j1]) ?_
    simp only [if_true, if_pos h0, if_pos h1, l2In_eq, l1In_eq, Option.bind_some, decide_eq_true_eq, if_pos hp.1, if_pos hp.2, w64 (show -9223372036854775808 ≤ i + 1 by omega) (by omega)]
    exact h
  have no : ∀ i : Int, 0 ≤ i → i < (l.length : Int) → i ≤ 12 → ¬ rowItem (rd_T73 l i) = true → Ev (fun k => spec_l2Row.l0 k l i) false := by
    intro i h0 h1 h2 hp
    rw [rowItem_iff] at hp
    refine Ev.step (fun k => by rw [spec_l2Row.l0]) ?_
    simp only [if_pos h1, decide_eq_true h2]
    refine Ev.step (fun k => by rw [spec_l2Row.j1]) ?_
    simp only [if_true, if_pos h0, if_pos h1, l2In_eq, l1In_eq, Option.bind_some, decide_eq_true_eq]
    by_cases hq : 0 ≤ (rd_T73 l i).f0 ∧ (rd_T73 l i).f0 ≤ 60
    · simp only [if_pos hq, if_neg (show ¬ (1 ≤ (rd_T73 l i).f1 ∧ (rd_T73 l i).f1 ≤ 99) from fun h => hp ⟨hq, h⟩)]
      exact Ev.now _
    · simp only [if_neg hq]
      exact Ev.now _
  have endd : ∀ i : Int, 0 ≤ i → (i = (l.length : Int) ∨ (i = 13 ∧ i ≤ l.length)) → Ev (fun k => spec_l2Row.l0 k l i) (decide (l.length ≤ 12)) := by
    intro i h0 h1
    refine Ev.step (fun k => by rw [spec_l2Row.l0]) ?_
    by_cases h2 : i < (l.length : Int)
    · simp only [if_pos h2, decide_eq_false (show ¬ i ≤ 12 by omega)]
      refine Ev.step (fun k => by rw [spec_l2Row.j1]) ?_
      simp only [Bool.false_eq_true, if_false]
      exact Ev.some (by simp only [decide_eq_decide]; omega)
    · simp only [if_neg h2]
      refine Ev.step (fun k => by rw [spec_l2Row.j1]) ?_
      simp only [Bool.false_eq_true, if_false]
      exact Ev.some (by simp only [decide_eq_decide]; omega)
  by_cases hl : l.length ≤ 12
  · have h := Ev.count' (l := fun k i => spec_l2Row.l0 k l i) (n := l.length) (P := fun i => rowItem (rd_T73 l i) = true) (a := decide (l.length ≤ 12)) (b := false) (by omega)
      (fun i h0 h1 hp r h => yes i h0 h1 (by omega) hp r h) (fun i h0 h1 hp => no i h0 h1 (by omega) hp) (fun i h0 h1 => endd i h0 (.inl h1))
    refine Ev.as h ?_
    unfold rowB
    split
    · rename_i hc
      rw [all_rd.2 hc, Bool.and_true]
    · rename_i hc
      rw [Bool.eq_false_iff.2 (fun h => hc (all_rd.1 h)), Bool.and_false]
  · have h := Ev.count' (l := fun k i => spec_l2Row.l0 k l i) (n := 13) (P := fun i => rowItem (rd_T73 l i) = true) (a := decide (l.length ≤ 12)) (b := false) (by omega)
      (fun i h0 h1 hp r h => yes i h0 (by omega) (by omega) hp r h) (fun i h0 h1 hp => no i h0 (by omega) (by omega) hp) (fun i h0 h1 => endd i h0 (.inr ⟨h1, by omega⟩))
    refine Ev.as h ?_
    unfold rowB
    rw [decide_eq_false hl, Bool.false_and]
    split <;> rfl

def wtStep (s : Int) (x : S73) : Int := wrap64 (s + x.f1)
def momStep (p : Int) (s : Int) (x : S73) : Int := wrap64 (s + wrap64 (x.f1 * wrap64 (x.f0 - p)))
/-- The weight, and the moment about p, as the machine sums them. -/
def wtW (l : List (S73)) : Int := l.foldl wtStep 0
def momW (l : List (S73)) (p : Int) : Int := l.foldl (momStep p) 0
theorem take_succ_rd (l : List (S73)) (i : Int) (h0 : 0 ≤ i) (h1 : i < l.length) : l.take (i + 1).toNat = l.take i.toNat ++ [rd_T73 l i] := by
  rw [toNat_succ h0, List.take_add_one, List.getElem?_eq_getElem (by omega)]
  unfold rd_T73
  rw [getD_lt _ (by omega)]
  rfl

theorem szLoadS_eq2 (l : List (S78)) (n : Int) (h0 : 0 ≤ n) (h1 : n ≤ 1048576) (hl : l.length ≤ maxLen) : laws_szLoadS.f l n = some (if (l.length : Int) > n then -1 else n - (l.length : Int)) := by
  unfold maxLen at hl
  unfold laws_szLoadS.f
  rw [w64 (show -9223372036854775808 ≤ n - (l.length : Int) by omega) (by omega)]
  by_cases h : (l.length : Int) > n
  · rw [if_pos h, if_pos (by omega)]
  · rw [if_neg h, if_neg (by omega)]

/-- Loads with the marks m, m + 1, .. -/
def marksL (m : Int) : Nat → List (S73)
  | 0 => []
  | n + 1 => marksL m n ++ [⟨m + 2 * n, m + 2 * n + 1⟩]
theorem marksL_length (m : Int) : ∀ n, (marksL m n).length = n
  | 0 => rfl
  | n + 1 => by rw [marksL, List.length_append, marksL_length m n]; rfl
theorem rd_marksL (m : Int) : ∀ (n : Nat) (i : Int), 0 ≤ i → i < n → rd_T73 (marksL m n) i = ⟨m + 2 * i, m + 2 * i + 1⟩
  | 0, i, h0, h1 => by omega
  | n + 1, i, h0, h1 => by
    unfold rd_T73 marksL
    by_cases h : i < (n : Int)
    · have ih := rd_marksL m n i h0 h
      unfold rd_T73 at ih
      rw [List.getD_eq_getElem?_getD, List.getElem?_append_left (by rw [marksL_length]; omega), ← List.getD_eq_getElem?_getD]
      exact ih
    · rw [List.getD_eq_getElem?_getD, List.getElem?_append_right (by rw [marksL_length]; omega), marksL_length, show i.toNat - n = 0 by omega, show i = (n : Int) by omega]
      rfl
theorem markLoadS_ev (l : List (S73)) (hl : l.length ≤ 1048576) (m : Int) (hm : 0 ≤ m) (hm2 : m ≤ 16777216) : Ev (fun k => laws_markLoadS.f k l m) (m + 2 * l.length, marksL m l.length) := by
  unfold laws_markLoadS.f
  have h := Ev.fold (l := fun k (s : List (S73) × Int) i => laws_markLoadS.l0 k s.1 s.2 i) (n := l.length) (fun i => (marksL m i.toNat ++ l.drop i.toNat, m + 2 * i)) (a := (m + 2 * l.length, marksL m l.length))
    (fun i h0 h1 r h => by
      refine Ev.step (fun k => by rw [laws_markLoadS.l0]) ?_
      have hx : i < ((marksL m i.toNat ++ l.drop i.toNat).length : Int) := by
        rw [List.length_append, marksL_length, List.length_drop]; omega
      simp only [if_pos h0, if_pos hx, Option.bind_some, w64 (show -9223372036854775808 ≤ i + 1 by omega) (by omega), w64 (show -9223372036854775808 ≤ m + 2 * i + 1 by omega) (by omega), w64 (show -9223372036854775808 ≤ m + 2 * i + 1 + 1 by omega) (by omega)]
      have e : l.drop i.toNat = l[i.toNat]'(by omega) :: l.drop (i + 1).toNat := by
        rw [toNat_succ h0]; exact List.drop_eq_getElem_cons (by omega)
      have e3 : ∀ y : S73, (marksL m i.toNat ++ y :: l.drop (i + 1).toNat).set i.toNat (⟨(rd_T73 (marksL m i.toNat ++ y :: l.drop (i + 1).toNat) i).f0, m + 2 * i + 1⟩ : S73) = marksL m i.toNat ++ ⟨y.f0, m + 2 * i + 1⟩ :: l.drop (i + 1).toNat := by
        intro y
        unfold rd_T73
        rw [List.getD_eq_getElem?_getD, List.getElem?_append_right (by rw [marksL_length]; omega), marksL_length, Nat.sub_self, List.set_append_right _ _ (by rw [marksL_length]; omega), marksL_length, Nat.sub_self]
        rfl
      have e4 : ∀ z : S73, (marksL m i.toNat ++ l.drop i.toNat).set i.toNat z = marksL m i.toNat ++ z :: l.drop (i + 1).toNat := by
        intro z
        rw [List.set_append_right _ _ (by rw [marksL_length]; omega), marksL_length, Nat.sub_self, e]
        rfl
      rw [e4, e3]
      have e2 : marksL m (i + 1).toNat = marksL m i.toNat ++ [⟨m + 2 * i, m + 2 * i + 1⟩] := by
        rw [toNat_succ h0, marksL, Int.toNat_of_nonneg h0]
      simp only [e2, List.append_assoc, List.singleton_append, show m + 2 * (i + 1) = m + 2 * i + 1 + 1 by omega] at h
      exact h)
    (by
      refine Ev.step (fun k => by rw [laws_markLoadS.l0]) ?_
      have hx : ¬ (l.length : Int) < ((marksL m (l.length : Int).toNat ++ l.drop (l.length : Int).toNat).length : Int) := by
        rw [List.length_append, marksL_length, List.length_drop]; omega
      simp only [if_neg hx]
      exact Ev.some (by simp))
    l.length 0 (by omega) (by omega)
  simpa [marksL] using h
theorem heldLoadS_ev (n : Nat) (hn : n ≤ 1048576) (m : Int) (hm : 0 ≤ m) (hm2 : m ≤ 16777216) : Ev (fun k => laws_heldLoadS.f k (marksL m n) m) (m + 2 * n) := by
  unfold laws_heldLoadS.f
  have h := Ev.fold (l := fun k (s : Int) i => laws_heldLoadS.l0 k (marksL m n) s i) (n := n) (fun i => m + 2 * i) (a := m + 2 * n)
    (fun i h0 h1 r h => by
      refine Ev.step (fun k => by rw [laws_heldLoadS.l0]) ?_
      simp only [if_pos h0, marksL_length, if_pos h1, rd_marksL m n i h0 h1, if_true, w64 (show -9223372036854775808 ≤ i + 1 by omega) (by omega), w64 (show -9223372036854775808 ≤ m + 2 * i + 1 by omega) (by omega), w64 (show -9223372036854775808 ≤ m + 2 * i + 1 + 1 by omega) (by omega)]
      simp only [show m + 2 * (i + 1) = m + 2 * i + 1 + 1 by omega] at h
      exact h)
    (by
      refine Ev.step (fun k => by rw [laws_heldLoadS.l0]) ?_
      simp only [marksL_length, if_neg (show ¬ (n : Int) < (n : Int) by omega)]
      exact Ev.now _)
    n 0 (by omega) (by omega)
  simpa using h

/-- Loads, if they are a row. -/
def keptR (l : List (S73)) : List (S73) × Bool := if rowB l = true then (l, true) else ([], false)
theorem validRow_eq (l : List (S73)) : impl_validRow.f l = some (keptR l) := by
  unfold impl_validRow.f keptR
  simp only [implIsRow_eq, Option.bind_some]
  split <;> rfl
theorem keptR_len {l : List (S73)} : (keptR l).1.length ≤ 12 := by
  unfold keptR
  split
  · rename_i h; exact ((rowB_iff l).1 h).1
  · simp

theorem l2Kept_ev (l : List (S73)) : Ev (fun k => spec_l2Kept.f k l) (keptR l) := by
  unfold spec_l2Kept.f keptR
  refine Ev.bind (l2Row_ev l) ?_
  split <;> exact Ev.now _

theorem l2Joined_eq (a b : List (S73)) (ha : a.length ≤ 1000) (hb : b.length ≤ 1000) : spec_l2Joined.f a b = some (a ++ b) := by
  unfold spec_l2Joined.f
  simp only [Option.bind_some, List.nil_append, List.length_nil]
  rw [if_pos (by omega), if_pos (by omega)]
theorem grow_eq (n : Int) (h0 : 0 ≤ n) (h1 : n ≤ 1000) : impl_Load_104.f n = some [] := by
  unfold impl_Load_104.f
  rw [if_neg (by omega), w64 (by omega) (by omega)]
  by_cases h : n > 0
  · rw [if_pos h, if_pos h0, if_pos (by simp only [List.length_nil]; omega)]
    simp only [Option.bind_some, List.nil_append]
    rw [if_pos (by omega)]
    rfl
  · rw [if_neg h]
theorem concat_ev (a b : List (S73)) (ha : a.length ≤ 400) (hb : b.length ≤ 400) : Ev (fun k => impl_Load_95.f k [a, b]) (a ++ b) := by
  have r0 : rd_L4 [a, b] 0 = a := rfl
  have r1 : rd_L4 [a, b] 1 = b := rfl
  have e1 : wrap64 (0 + 1 : Int) = 1 := by rw [w64 (by omega) (by omega)]; rfl
  have e2 : wrap64 (1 + 1 : Int) = 2 := by rw [w64 (by omega) (by omega)]; rfl
  have e3 : wrap64 (0 + (a.length : Int)) = (a.length : Int) := by rw [w64 (by omega) (by omega)]; omega
  have e4 : wrap64 ((a.length : Int) + (b.length : Int)) = (a.length : Int) + (b.length : Int) := w64 (by omega) (by omega)
  have hl : (([a, b] : List (List (S73))).length : Int) = 2 := rfl
  unfold impl_Load_95.f
  rw [hl]
  refine Ev.step (fun k => by rw [impl_Load_95.l0]) ?_
  simp only [show ((0 : Int) < 2) by decide, show ((0 : Int) ≤ 0) by decide, hl, if_true, r0, e3, e1, if_neg (show ¬ (a.length : Int) < 0 by omega)]
  refine Ev.step (fun k => by rw [impl_Load_95.l0]) ?_
  simp only [show ((1 : Int) < 2) by decide, show ((0 : Int) ≤ 1) by decide, hl, if_true, r1, e4, e2, if_neg (show ¬ (a.length : Int) + (b.length : Int) < 0 by omega)]
  refine Ev.step (fun k => by rw [impl_Load_95.l0]) ?_
  simp only [show ¬ ((2 : Int) < 2) by decide, if_false, grow_eq _ (show 0 ≤ (a.length : Int) + (b.length : Int) by omega) (show (a.length : Int) + (b.length : Int) ≤ 1000 by omega), Option.bind_some, hl]
  refine Ev.step (fun k => by rw [impl_Load_95.l1]) ?_
  simp only [show ((0 : Int) < 2) by decide, show ((0 : Int) ≤ 0) by decide, hl, if_true, r0, e1, List.length_nil, List.nil_append, if_pos (show 0 + a.length < 8796093022208 by omega)]
  refine Ev.step (fun k => by rw [impl_Load_95.l1]) ?_
  simp only [show ((1 : Int) < 2) by decide, show ((0 : Int) ≤ 1) by decide, hl, if_true, r1, e2, if_pos (show a.length + b.length < 8796093022208 by omega)]
  refine Ev.step (fun k => by rw [impl_Load_95.l1]) ?_
  simp only [show ¬ ((2 : Int) < 2) by decide, if_false]
  exact Ev.now _
def JoinRowsR (a b : List (S73)) : List (S73) × Bool := if (rowB a && rowB b) = true then keptR (a ++ b) else ([], false)
theorem specJoinRows_ev (a b : List (S73)) : Ev (fun k => spec_JoinRows.f k a b) (JoinRowsR a b) := by
  unfold spec_JoinRows.f JoinRowsR
  have done : Ev (fun k => spec_JoinRows.j0 k a b true) ([], false) := by
    refine Ev.step (fun k => by rw [spec_JoinRows.j0]) ?_
    simp only [if_true]
    exact Ev.now _
  refine Ev.bind (l2Row_ev a) ?_
  by_cases h : rowB a = true
  · simp only [h, if_true, Bool.true_and]
    refine Ev.bind (l2Row_ev b) ?_
    by_cases h2 : rowB b = true
    · simp only [h2, Bool.not_true, if_true]
      have ha := ((rowB_iff a).1 h).1
      have hb := ((rowB_iff b).1 h2).1
      refine Ev.step (fun k => by rw [spec_JoinRows.j0]) ?_
      simp only [Bool.false_eq_true, if_false, l2Joined_eq a b (by omega) (by omega), Option.bind_some]
      exact Ev.bind (l2Kept_ev _) (Ev.now _)
    · rw [Bool.eq_false_iff.2 h2]
      simp only [Bool.not_false, Bool.false_eq_true, if_false]
      exact done
  · simp only [h, Bool.false_and, Bool.false_eq_true, if_false]
    exact done
theorem implJoinRows_ev (a b : List (S73)) : Ev (fun k => impl_JoinRows.f k a b) (JoinRowsR a b) := by
  unfold impl_JoinRows.f JoinRowsR
  have done : Ev (fun k => impl_JoinRows.j0 k a b true) ([], false) := by
    refine Ev.step (fun k => by rw [impl_JoinRows.j0]) ?_
    simp only [if_true]
    exact Ev.now _
  simp only [implIsRow_eq, Option.bind_some]
  by_cases h : rowB a = true
  · simp only [h, if_true, Bool.true_and]
    by_cases h2 : rowB b = true
    · simp only [h2, Bool.not_true, if_true]
      have ha := ((rowB_iff a).1 h).1
      have hb := ((rowB_iff b).1 h2).1
      refine Ev.step (fun k => by rw [impl_JoinRows.j0]) ?_
      simp only [Bool.false_eq_true, if_false]
      refine Ev.bind (concat_ev a b (by omega) (by omega)) ?_
      simp only [validRow_eq, Option.bind_some]
      exact Ev.now _
    · rw [Bool.eq_false_iff.2 h2]
      simp only [Bool.not_false, Bool.false_eq_true, if_false]
      exact done
  · simp only [h, Bool.false_and, Bool.false_eq_true, if_false]
    exact done
theorem JoinRowsR_len {a b : List (S73)} : (JoinRowsR a b).1.length ≤ 12 := by
  unfold JoinRowsR
  split
  · exact keptR_len
  · simp

theorem FnExactJoinRows : laws_FnExactJoinRows.Pure := by
  intro l m hw hw2
  refine Ev.rounds ?_
  unfold laws_FnExactJoinRows.f
  simp only [szLoadS_eq l hw.1, Option.bind_some]
  by_cases h : (l.length : Int) > 1048576
  · simp only [if_pos h, show ((-1 : Int) < 0) by decide, if_true]; exact Ev.now _
  · simp only [if_neg h, if_neg (show ¬ 1048576 - (l.length : Int) < 0 by omega), szLoadS_eq2 m (1048576 - (l.length : Int)) (by omega) (by omega) hw2.1, Option.bind_some]
    by_cases h2 : (m.length : Int) > 1048576 - (l.length : Int)
    · simp only [if_pos h2, show ((-1 : Int) < 0) by decide, if_true]; exact Ev.now _
    · simp only [if_neg h2, if_neg (show ¬ 1048576 - (l.length : Int) - (m.length : Int) < 0 by omega)]
      have ht := toLoadS_ev l (by omega)
      have hu := toLoadS_ev m (by omega)
      have hm : (l.map toL).length ≤ 1048576 := by rw [List.length_map]; omega
      have hn : (m.map toL).length ≤ 1048576 := by rw [List.length_map]; omega
      have hs := specJoinRows_ev (l.map toL) (m.map toL)
      have hi := implJoinRows_ev (l.map toL) (m.map toL)
      have ho := JoinRowsR_len (a := l.map toL) (b := m.map toL)
      generalize JoinRowsR (l.map toL) (m.map toL) = r at hs hi ho
      obtain ⟨o, b⟩ := r
      simp only at ho
      have hx := eqLoadS_self (l.map toL) (by omega)
      have hx2 := eqLoadS_self (m.map toL) (by omega)
      have hq := eqLoadS_self o (by omega)
      have hk := markLoadS_ev (l.map toL) (by omega) 1 (by omega) (by omega)
      have hk1 := markLoadS_ev (m.map toL) (by omega) (1 + 2 * ((l.map toL).length : Int)) (by omega) (by omega)
      have hk2 := markLoadS_ev o (by omega) 1 (by omega) (by omega)
      have hh := heldLoadS_ev o.length (by omega) 1 (by omega) (by omega)
      refine Ev.bind ht (Ev.bind hu (Ev.bind hs (Ev.bind ht (Ev.bind hu (Ev.bind hi (Ev.bind hq ?_))))))
      simp only [if_true, bne_self_eq_false]
      refine Ev.step (fun k => by rw [laws_FnExactJoinRows.j0]) ?_
      simp only [Bool.false_eq_true, if_false]
      refine Ev.bind ht (Ev.bind hx ?_)
      simp only [if_true]
      refine Ev.bind hu (Ev.bind hx2 ?_)
      simp only [if_true]
      refine Ev.bind hk (Ev.bind hk1 ?_)
      simp only [if_neg (show ¬ (1 : Int) + 2 * ((l.map toL).length : Int) + 2 * ((m.map toL).length : Int) < 0 by omega)]
      refine Ev.bind hq ?_
      simp only [if_true, bne_self_eq_false]
      refine Ev.step (fun k => by rw [laws_FnExactJoinRows.j1]) ?_
      simp only [Bool.false_eq_true, if_false]
      refine Ev.bind hk2 (Ev.bind hh ?_)
      simp only [if_neg (show ¬ (1 : Int) + 2 * (o.length : Int) < 0 by omega), if_true]
      refine Ev.bind ht (Ev.bind hu (Ev.bind hi (Ev.bind hq ?_)))
      simp only [if_true, bne_self_eq_false]
      refine Ev.step (fun k => by rw [laws_FnExactJoinRows.j2]) ?_
      simp only [Bool.false_eq_true, if_false]
      refine Ev.bind hh ?_
      simp only [if_neg (show ¬ (1 : Int) + 2 * (o.length : Int) < 0 by omega), if_true]
      exact Ev.now _


end Go.Proofs.Ytgllfieaiededaa.Pure

