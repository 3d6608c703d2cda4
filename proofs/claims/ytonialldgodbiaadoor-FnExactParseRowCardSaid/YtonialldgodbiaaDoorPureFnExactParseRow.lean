/- For every text the plain function of the law FnExactParseRow answers true. -/
import Derived.Test.YtonialldgodbiaaDoorPFnExactParseRowx5
import Derived.Lib.AtoiTie
import Derived.Lib.AtoiAllCases
import Derived.Test.YtonialldgodbiaaDoorLib
set_option linter.unusedVariables false
set_option linter.unusedSimpArgs false
namespace Go.Proofs.YtonialldgodbiaaDoor.Pure
open Go.RowKit Go.Proofs.YtonialldgodbiaaDoor.PFnExactParseRow Go.Proofs.YtonialldgodbiaaDoorW.PrintWords Go.Proofs.YtonialldgodbiaaDoorW.PrintLast Go.Proofs.YtonialldgodbiaaDoor.Lib

theorem l1In_eq (a b c : Int) : spec_l1In.f a b c = some (decide (b ≤ a ∧ a ≤ c)) := by
  unfold spec_l1In.f
  by_cases h : a ≥ b
  · rw [if_pos h]
    congr 1
    simp only [decide_eq_decide]
    omega
  · rw [if_neg h]
    congr 1
    simp only [Bool.false_eq, decide_eq_false_iff_not]
    omega

theorem within_eq (a b c : Int) : impl_within.f a b c = some (decide (b ≤ a ∧ a ≤ c)) := by
  unfold impl_within.f
  by_cases h : a ≥ b
  · rw [if_pos h]
    congr 1
    simp only [decide_eq_decide]
    omega
  · rw [if_neg h]
    congr 1
    simp only [Bool.false_eq, decide_eq_false_iff_not]
    omega

/-- Loads that are a row. -/
def rowB (l : List (S56)) : Bool := decide (l.length ≤ 12) && l.all rowItem
theorem rowItem_iff (x : S56) : rowItem x = true ↔ (0 ≤ x.f0 ∧ x.f0 ≤ 60) ∧ (1 ≤ x.f1 ∧ x.f1 ≤ 99) := by
  unfold rowItem; simp
theorem rowB_iff (l : List (S56)) : rowB l = true ↔ l.length ≤ 12 ∧ ∀ x ∈ l, (0 ≤ x.f0 ∧ x.f0 ≤ 60) ∧ (1 ≤ x.f1 ∧ x.f1 ≤ 99) := by
  unfold rowB
  rw [Bool.and_eq_true, decide_eq_true_eq, List.all_eq_true]
  simp only [rowItem_iff]
theorem implIsRow_eq (l : List (S56)) : impl_IsRow.f l = some (rowB l) := rfl

theorem l2In_eq (a : Int) : spec_l2In.f a = some (decide (0 ≤ a ∧ a ≤ 60)) := by
  unfold spec_l2In.f
  simp only [l1In_eq, Option.bind_some]
theorem rdL_mem {l : List (S56)} {i : Int} (h0 : 0 ≤ i) (h1 : i < l.length) : rd_T56 l i ∈ l := by
  unfold rd_T56
  rw [getD_lt _ (by omega)]
  exact List.getElem_mem _
theorem all_rd {l : List (S56)} {p : S56 → Bool} : l.all p = true ↔ ∀ i : Int, 0 ≤ i → i < l.length → p (rd_T56 l i) = true := by
  rw [List.all_eq_true]
  refine ⟨fun h i h0 h1 => h _ (rdL_mem h0 h1), fun h x hx => ?_⟩
  obtain ⟨j, hj, rfl⟩ := List.getElem_of_mem hx
  have := h j (by omega) (by omega)
  unfold rd_T56 at this
  rwa [Int.toNat_natCast, getD_lt _ hj] at this
theorem l2Row_ev (l : List (S56)) : Ev (fun k => spec_l2Row.f k l) (rowB l) := by
  unfold spec_l2Row.f
  -- the loop goes over at most 13 loads
  have yes : ∀ i : Int, 0 ≤ i → i < (l.length : Int) → i ≤ 12 → rowItem (rd_T56 l i) = true → ∀ r, Ev (fun k => spec_l2Row.l0 k l (i + 1)) r → Ev (fun k => spec_l2Row.l0 k l i) r := by
    intro i h0 h1 h2 hp r h
    rw [rowItem_iff] at hp
    refine Ev.step (fun k => by rw [spec_l2Row.l0]) ?_
    simp only [if_pos h1, decide_eq_true h2]
    refine Ev.step (fun k => by rw [spec_l2Row.j1]) ?_
    simp only [if_true, if_pos h0, if_pos h1, l2In_eq, l1In_eq, Option.bind_some, decide_eq_true_eq, if_pos hp.1, if_pos hp.2, w64 (show -9223372036854775808 ≤ i + 1 by omega) (by omega)]
    exact h
  have no : ∀ i : Int, 0 ≤ i → i < (l.length : Int) → i ≤ 12 → ¬ rowItem (rd_T56 l i) = true → Ev (fun k => spec_l2Row.l0 k l i) false := by
    intro i h0 h1 h2 hp
    rw [rowItem_iff] at hp
    refine Ev.step (fun k => by rw [spec_l2Row.l0]) ?_
    simp only [if_pos h1, decide_eq_true h2]
    refine Ev.step (fun k => by rw [spec_l2Row.j1]) ?_
    simp only [if_true, if_pos h0, if_pos h1, l2In_eq, l1In_eq, Option.bind_some, decide_eq_true_eq]
    by_cases hq : 0 ≤ (rd_T56 l i).f0 ∧ (rd_T56 l i).f0 ≤ 60
    · simp only [if_pos hq, if_neg (show ¬ (1 ≤ (rd_T56 l i).f1 ∧ (rd_T56 l i).f1 ≤ 99) from fun h => hp ⟨hq, h⟩)]
      exact Ev.now _
    · simp only [if_neg hq]
      exact Ev.now _
  have endd : ∀ i : Int, 0 ≤ i → (i = (l.length : Int) ∨ (i = 13 ∧ i ≤ l.length)) → Ev (fun k => spec_l2Row.l0 k l i) (decide (l.length ≤ 12)) := by
    intro i h0 h1
    refine Ev.step (fun k => by rw [spec_l2Row.l0]) ?_
    by_cases h2 : i < (l.length : Int)
    · simp only [if_pos h2, decide_eq_false (show ¬ i ≤ 12 by omega)]
      refine Ev.step (fun k => by rw [spec_l2Row.j1]) ?_
      simp only [Bool.false_eq_true, if_false]
      exact Ev.some (by simp only [decide_eq_decide]; omega)
    · simp only [if_neg h2]
      refine Ev.step (fun k => by rw [spec_l2Row.j1]) ?_
      simp only [Bool.false_eq_true, if_false]
      exact Ev.some (by simp only [decide_eq_decide]; omega)
  by_cases hl : l.length ≤ 12
  · have h := Ev.count' (l := fun k i => spec_l2Row.l0 k l i) (n := l.length) (P := fun i => rowItem (rd_T56 l i) = true) (a := decide (l.length ≤ 12)) (b := false) (by omega)
      (fun i h0 h1 hp r h => yes i h0 h1 (by omega) hp r h) (fun i h0 h1 hp => no i h0 h1 (by omega) hp) (fun i h0 h1 => endd i h0 (.inl h1))
    refine Ev.as h ?_
    unfold rowB
    split
    · rename_i hc
      rw [all_rd.2 hc, Bool.and_true]
    · rename_i hc
      rw [Bool.eq_false_iff.2 (fun h => hc (all_rd.1 h)), Bool.and_false]
  · have h := Ev.count' (l := fun k i => spec_l2Row.l0 k l i) (n := 13) (P := fun i => rowItem (rd_T56 l i) = true) (a := decide (l.length ≤ 12)) (b := false) (by omega)
      (fun i h0 h1 hp r h => yes i h0 (by omega) (by omega) hp r h) (fun i h0 h1 hp => no i h0 (by omega) (by omega) hp) (fun i h0 h1 => endd i h0 (.inr ⟨h1, by omega⟩))
    refine Ev.as h ?_
    unfold rowB
    rw [decide_eq_false hl, Bool.false_and]
    split <;> rfl

instance : DecidableEq (S56) := fun a b => if h : a.f0 = b.f0 ∧ a.f1 = b.f1 then isTrue (by cases a; cases b; simp_all) else isFalse (by rintro rfl; exact h ⟨rfl, rfl⟩)
theorem S56_eq (a b : S56) : a = b ↔ a.f0 = b.f0 ∧ a.f1 = b.f1 := by
  cases a; cases b; simp
theorem eqLoad_eq (a b : S56) : laws_eqLoad.f a.f0 a.f1 b.f0 b.f1 = some (decide (a = b)) := by
  unfold laws_eqLoad.f
  by_cases h0 : a.f0 = b.f0
  · by_cases h1 : a.f1 = b.f1
    · rw [if_pos h0, if_pos h1, decide_eq_true ((S56_eq a b).2 ⟨h0, h1⟩)]
    · rw [if_pos h0, if_neg h1, decide_eq_false fun e => h1 ((S56_eq a b).1 e).2]
  · rw [if_neg h0, decide_eq_false fun e => h0 ((S56_eq a b).1 e).1]
theorem eqLoadS_ev (a b : List (S56)) (ha : a.length ≤ 9223372036854775806) : Ev (fun k => laws_eqLoadS.f k a b) (decide (a = b)) := by
  unfold laws_eqLoadS.f
  by_cases hl : (a.length : Int) = (b.length : Int)
  · simp only [if_pos hl]
    have h := Ev.count' (l := fun k i => laws_eqLoadS.l0 k a b i) (n := a.length) (P := fun i => rd_T56 a i = rd_T56 b i) (a := true) (b := false) (by omega)
      (fun i h0 h1 hp r h => by
        refine Ev.step (fun k => by rw [laws_eqLoadS.l0]) ?_
        simp only [if_pos h0, if_pos h1, if_pos (show i < (b.length : Int) by omega), eqLoad_eq, Option.bind_some, decide_eq_true hp, if_true, w64 (show -9223372036854775808 ≤ i + 1 by omega) (by omega)]
        exact h)
      (fun i h0 h1 hp => by
        refine Ev.step (fun k => by rw [laws_eqLoadS.l0]) ?_
        simp only [if_pos h0, if_pos h1, if_pos (show i < (b.length : Int) by omega), eqLoad_eq, Option.bind_some, decide_eq_false hp, Bool.false_eq_true, if_false]
        exact Ev.now _)
      (fun i h0 h1 => by
        refine Ev.step (fun k => by rw [laws_eqLoadS.l0]) ?_
        simp only [if_neg (show ¬ i < (a.length : Int) by omega)]
        exact Ev.now _)
    refine Ev.as h ?_
    split
    · rename_i hc
      exact (decide_eq_true (getD_ext z56 (by omega) fun i hi => hc i (by omega) (by omega))).symm
    · rename_i hc
      exact (decide_eq_false fun e => hc fun i h0 h1 => by rw [e]).symm
  · simp only [if_neg hl]
    exact Ev.some (decide_eq_false fun e => hl (by rw [e])).symm
theorem eqLoadS_self (a : List (S56)) (ha : a.length ≤ 9223372036854775806) : Ev (fun k => laws_eqLoadS.f k a a) true :=
  Ev.as (eqLoadS_ev a a ha) (decide_eq_true rfl)

/-- Loads with the marks m, m + 1, .. -/
def marksL (m : Int) : Nat → List (S56)
  | 0 => []
  | n + 1 => marksL m n ++ [⟨m + 2 * n, m + 2 * n + 1⟩]
theorem marksL_length (m : Int) : ∀ n, (marksL m n).length = n
  | 0 => rfl
  | n + 1 => by rw [marksL, List.length_append, marksL_length m n]; rfl
theorem rd_marksL (m : Int) : ∀ (n : Nat) (i : Int), 0 ≤ i → i < n → rd_T56 (marksL m n) i = ⟨m + 2 * i, m + 2 * i + 1⟩
  | 0, i, h0, h1 => by omega
  | n + 1, i, h0, h1 => by
    unfold rd_T56 marksL
    by_cases h : i < (n : Int)
    · have ih := rd_marksL m n i h0 h
      unfold rd_T56 at ih
      rw [List.getD_eq_getElem?_getD, List.getElem?_append_left (by rw [marksL_length]; omega), ← List.getD_eq_getElem?_getD]
      exact ih
    · rw [List.getD_eq_getElem?_getD, List.getElem?_append_right (by rw [marksL_length]; omega), marksL_length, show i.toNat - n = 0 by omega, show i = (n : Int) by omega]
      rfl
theorem markLoadS_ev (l : List (S56)) (hl : l.length ≤ 1048576) (m : Int) (hm : 0 ≤ m) (hm2 : m ≤ 16777216) : Ev (fun k => laws_markLoadS.f k l m) (m + 2 * l.length, marksL m l.length) := by
  unfold laws_markLoadS.f
  have h := Ev.fold (l := fun k (s : List (S56) × Int) i => laws_markLoadS.l0 k s.1 s.2 i) (n := l.length) (fun i => (marksL m i.toNat ++ l.drop i.toNat, m + 2 * i)) (a := (m + 2 * l.length, marksL m l.length))
    (fun i h0 h1 r h => by
      refine Ev.step (fun k => by rw [laws_markLoadS.l0]) ?_
      have hx : i < ((marksL m i.toNat ++ l.drop i.toNat).length : Int) := by
        rw [List.length_append, marksL_length, List.length_drop]; omega
      simp only [if_pos h0, if_pos hx, Option.bind_some, w64 (show -9223372036854775808 ≤ i + 1 by omega) (by omega), w64 (show -9223372036854775808 ≤ m + 2 * i + 1 by omega) (by omega), w64 (show -9223372036854775808 ≤ m + 2 * i + 1 + 1 by omega) (by omega)]
      have e : l.drop i.toNat = l[i.toNat]'(by omega) :: l.drop (i + 1).toNat := by
        rw [toNat_succ h0]; exact List.drop_eq_getElem_cons (by omega)
      have e3 : ∀ y : S56, (marksL m i.toNat ++ y :: l.drop (i + 1).toNat).set i.toNat (⟨(rd_T56 (marksL m i.toNat ++ y :: l.drop (i + 1).toNat) i).f0, m + 2 * i + 1⟩ : S56) = marksL m i.toNat ++ ⟨y.f0, m + 2 * i + 1⟩ :: l.drop (i + 1).toNat := by
        intro y
        unfold rd_T56
        rw [List.getD_eq_getElem?_getD, List.getElem?_append_right (by rw [marksL_length]; omega), marksL_length, Nat.sub_self, List.set_append_right _ _ (by rw [marksL_length]; omega), marksL_length, Nat.sub_self]
        rfl
      have e4 : ∀ z : S56, (marksL m i.toNat ++ l.drop i.toNat).set i.toNat z = marksL m i.toNat ++ z :: l.drop (i + 1).toNat := by
        intro z
        rw [List.set_append_right _ _ (by rw [marksL_length]; omega), marksL_length, Nat.sub_self, e]
        rfl
      rw [e4, e3]
      have e2 : marksL m (i + 1).toNat = marksL m i.toNat ++ [⟨m + 2 * i, m + 2 * i + 1⟩] := by
        rw [toNat_succ h0, marksL, Int.toNat_of_nonneg h0]
      simp only [e2, List.append_assoc, List.singleton_append, show m + 2 * (i + 1) = m + 2 * i + 1 + 1 by omega] at h
      exact h)
    (by
      refine Ev.step (fun k => by rw [laws_markLoadS.l0]) ?_
      have hx : ¬ (l.length : Int) < ((marksL m (l.length : Int).toNat ++ l.drop (l.length : Int).toNat).length : Int) := by
        rw [List.length_append, marksL_length, List.length_drop]; omega
      simp only [if_neg hx]
      exact Ev.some (by simp))
    l.length 0 (by omega) (by omega)
  simpa [marksL] using h
theorem heldLoadS_ev (n : Nat) (hn : n ≤ 1048576) (m : Int) (hm : 0 ≤ m) (hm2 : m ≤ 16777216) : Ev (fun k => laws_heldLoadS.f k (marksL m n) m) (m + 2 * n) := by
  unfold laws_heldLoadS.f
  have h := Ev.fold (l := fun k (s : Int) i => laws_heldLoadS.l0 k (marksL m n) s i) (n := n) (fun i => m + 2 * i) (a := m + 2 * n)
    (fun i h0 h1 r h => by
      refine Ev.step (fun k => by rw [laws_heldLoadS.l0]) ?_
      simp only [if_pos h0, marksL_length, if_pos h1, rd_marksL m n i h0 h1, if_true, w64 (show -9223372036854775808 ≤ i + 1 by omega) (by omega), w64 (show -9223372036854775808 ≤ m + 2 * i + 1 by omega) (by omega), w64 (show -9223372036854775808 ≤ m + 2 * i + 1 + 1 by omega) (by omega)]
      simp only [show m + 2 * (i + 1) = m + 2 * i + 1 + 1 by omega] at h
      exact h)
    (by
      refine Ev.step (fun k => by rw [laws_heldLoadS.l0]) ?_
      simp only [marksL_length, if_neg (show ¬ (n : Int) < (n : Int) by omega)]
      exact Ev.now _)
    n 0 (by omega) (by omega)
  simpa using h

theorem ba_ext {a b : ByteArray} (h : a.data.toList = b.data.toList) : a = b := by
  cases a; cases b
  simp only [ByteArray.mk.injEq]
  exact Array.toList_inj.1 h
theorem ba_app (a b : ByteArray) : (a ++ b).data.toList = a.data.toList ++ b.data.toList := by
  simp [ByteArray.data_append]
theorem ba_size (a : ByteArray) : a.size = a.data.toList.length := by
  cases a
  simp [ByteArray.size]
theorem bt_at (s : ByteArray) (i : Nat) (h : i < s.size) : bt s (i : Int) = ((s.data.toList[i]'(by rw [← ba_size]; exact h)).toNat : Int) := by
  unfold bt
  rw [Int.toNat_natCast, dif_pos h]
  congr 1

theorem digit_at : ∀ j : Fin 10, ((⟨#[48, 49, 50, 51, 52, 53, 54, 55, 56, 57]⟩ : ByteArray).extract j.val (j.val + 1)).data.toList = [UInt8.ofNat (48 + j.val)] := by
  decide
theorem digit_nat (j : Nat) (h : j < 10) : (⟨#[48, 49, 50, 51, 52, 53, 54, 55, 56, 57]⟩ : ByteArray).extract j (j + 1) = ⟨#[UInt8.ofNat (48 + j)]⟩ := ba_ext (digit_at ⟨j, h⟩)
theorem dec_len (u : Nat) (h : u ≤ 1000000000000) : (Lib.decDigits u).length ≤ 21 := by
  have := Lib.itoa_length_le (u : Int) (by omega) (by omega)
  rwa [Lib.itoa_nonneg] at this
theorem l1Num_small (u : Nat) (hu : u < 10) : Ev (fun k => spec_l1Num.f k (u : Int)) ⟨(Lib.decDigits u).toArray⟩ := by
  refine Ev.step (fun k => by rw [spec_l1Num.f]) ?_
  have e1 : wrap64 ((u : Int) + 1) = ((u + 1 : Nat) : Int) := by rw [w64 (by omega) (by omega)]; exact (Int.natCast_add u 1).symm
  simp only [if_neg (show ¬ (u : Int) < 0 by omega), if_pos (show (u : Int) < 10 by omega), if_pos (show 0 ≤ (u : Int) by omega), e1, if_pos (show (u : Int) ≤ ((u + 1 : Nat) : Int) by omega), if_pos (show ((u + 1 : Nat) : Int) ≤ 10 by omega), Int.toNat_natCast, digit_nat u hu]
  rw [Lib.decDigits_one hu]
  exact Ev.now _
theorem l1Num_nat : ∀ (m u : Nat), u ≤ m → u ≤ 1000000000000 → Ev (fun k => spec_l1Num.f k (u : Int)) ⟨(Lib.decDigits u).toArray⟩ := by
  intro m
  induction m with
  | zero =>
    intro u h0 h1
    exact l1Num_small u (by omega)
  | succ m ih =>
    intro u h0 h1
    by_cases hu : u < 10
    · exact l1Num_small u hu
    · have e2 : Int.tdiv (u : Int) 10 = ((u / 10 : Nat) : Int) := by
        rw [show (10 : Int) = ((10 : Nat) : Int) from rfl, ← Int.ofNat_tdiv]
      have e3 : Int.tmod (u : Int) 10 = ((u % 10 : Nat) : Int) := by
        rw [show (10 : Int) = ((10 : Nat) : Int) from rfl, ← Int.ofNat_tmod]
      have e4 : wrap64 ((u / 10 : Nat) : Int) = ((u / 10 : Nat) : Int) := w64 (by omega) (by omega)
      have e5 : wrap64 (((u % 10 : Nat) : Int) + 1) = ((u % 10 + 1 : Nat) : Int) := by rw [w64 (by omega) (by omega)]; exact (Int.natCast_add _ 1).symm
      have hd : Lib.decDigits u = Lib.decDigits (u / 10) ++ [UInt8.ofNat (48 + u % 10)] := by
        rw [Lib.decDigits, dif_neg hu]
      have hlen := dec_len (u / 10) (by omega)
      have hs1 : (⟨(Lib.decDigits (u / 10)).toArray⟩ : ByteArray).size ≤ 21 := by rw [ba_size]; exact hlen
      have hs2 : (⟨#[UInt8.ofNat (48 + u % 10)]⟩ : ByteArray).size = 1 := rfl
      refine Ev.step (fun k => by rw [spec_l1Num.f]) ?_
      simp only [if_neg (show ¬ (u : Int) < 0 by omega), if_neg (show ¬ (u : Int) < 10 by omega), e2, e3, e4]
      refine Ev.bind (ih (u / 10) (by omega) (by omega)) ?_
      simp only [if_pos (show 0 ≤ ((u % 10 : Nat) : Int) by omega), e5, if_pos (show ((u % 10 : Nat) : Int) ≤ ((u % 10 + 1 : Nat) : Int) by omega), if_pos (show ((u % 10 + 1 : Nat) : Int) ≤ 10 by omega), Int.toNat_natCast, digit_nat (u % 10) (by omega), hs2, if_pos (show (⟨(Lib.decDigits (u / 10)).toArray⟩ : ByteArray).size + 1 ≤ 9223372036854775807 by omega)]
      refine Ev.some (ba_ext ?_)
      rw [ba_app, hd]
theorem l1Num_ev (n : Int) (h0 : -1000000000 ≤ n) (h1 : n ≤ 1000000000) : Ev (fun k => spec_l1Num.f k n) ⟨(Lib.itoa n).toArray⟩ := by
  by_cases hn : n < 0
  · obtain ⟨u, hu⟩ : ∃ u : Nat, n = -(u : Int) := ⟨n.natAbs, by omega⟩
    subst hu
    refine Ev.step (fun k => by rw [spec_l1Num.f]) ?_
    have e : wrap64 (-(-(u : Int))) = (u : Int) := by rw [w64 (by omega) (by omega)]; omega
    simp only [if_pos hn, e]
    refine Ev.bind (l1Num_nat u u (Nat.le_refl _) (by omega)) ?_
    have hlen := dec_len u (by omega)
    have hs1 : (⟨(Lib.decDigits u).toArray⟩ : ByteArray).size ≤ 21 := by rw [ba_size]; exact hlen
    simp only [if_pos (show 1 + (⟨(Lib.decDigits u).toArray⟩ : ByteArray).size ≤ 9223372036854775807 by omega)]
    refine Ev.some (ba_ext ?_)
    rw [ba_app, Lib.itoa_neg u (by omega)]
    rfl
  · obtain ⟨u, hu⟩ : ∃ u : Nat, n = (u : Int) := ⟨n.toNat, by omega⟩
    subst hu
    rw [Lib.itoa_nonneg]
    exact l1Num_nat u u (Nat.le_refl _) (by omega)
theorem itoa_eq (n : Int) (h0 : -1000000000 ≤ n) (h1 : n ≤ 1000000000) : strconv_Itoa.f n = some ⟨(Lib.itoa n).toArray⟩ := by
  unfold strconv_Itoa.f
  rw [if_pos ⟨by omega, by omega⟩]

def tl (sep : List UInt8) : Bool → List ByteArray → List UInt8
  | _, [] => []
  | first, x :: r => (if first = true then [] else sep) ++ x.data.toList ++ tl sep false r
theorem tl_join (sep : List UInt8) (x : ByteArray) (r : List ByteArray) : Lib.join ((x :: r).map (·.data.toList)) sep = tl sep true (x :: r) := by
  have h : ∀ r : List ByteArray, Lib.joinTail sep (r.map (·.data.toList)) = tl sep false r := by
    intro r
    induction r with
    | nil => rfl
    | cons y r ih =>
      rw [List.map_cons, tl, ← ih]
      simp [Lib.joinTail]
  rw [List.map_cons, Lib.join_cons, h, tl]
  simp

theorem rdStr (l : List ByteArray) (i : Nat) (h : i < l.length) : rdOf ByteArray.empty l (i : Int) = l[i] := by
  unfold rdOf
  rw [Int.toNat_natCast]
  exact getD_lt _ h
theorem rdStr' (l : List ByteArray) (i : Int) (h0 : 0 ≤ i) (h : i < l.length) : rdOf ByteArray.empty l i = l[i.toNat]'(by omega) := by
  unfold rdOf
  exact getD_lt _ (show i.toNat < l.length by omega)

def spl (c : UInt8) : List UInt8 → List UInt8 → List (List UInt8)
  | p, [] => [p]
  | p, b :: r => if b = c then p :: spl c [] r else spl c (p ++ [b]) r
theorem spl_len (c : UInt8) : ∀ (l p : List UInt8), (spl c p l).length ≤ l.length + 1
  | [], p => by simp [spl]
  | b :: r, p => by
    rw [spl]
    split
    · have := spl_len c r []
      simp only [List.length_cons]; omega
    · have := spl_len c r (p ++ [b])
      simp only [List.length_cons]; omega
theorem ext_data (s : ByteArray) (a b : Nat) : (s.extract a b).data.toList = (s.data.toList.take b).drop a := by
  rw [ByteArray.data_extract, Array.toList_extract, List.extract_eq_take_drop, List.drop_take]
theorem l1Split_ev (s : ByteArray) (c : UInt8) (hs : s.size ≤ 1048576) : Ev (fun k => spec_l1Split.f k s (c.toNat : Int)) ((spl c [] s.data.toList).map fun x => (⟨x.toArray⟩ : ByteArray)) := by
  unfold spec_l1Split.f
  have key : ∀ (d i f : Nat) (o : List ByteArray), i + d = s.size → f ≤ i → o.length ≤ i → Ev (fun k => spec_l1Split.l0 k s (c.toNat : Int) o (f : Int) (i : Int)) (o ++ (spl c ((s.data.toList.take i).drop f) (s.data.toList.drop i)).map fun x => (⟨x.toArray⟩ : ByteArray)) := by
    intro d
    induction d with
    | zero =>
      intro i f o h hf ho
      refine Ev.step (fun k => by rw [spec_l1Split.l0]) ?_
      simp only [if_neg (show ¬ (i : Int) < (s.size : Int) by omega), if_pos (show 0 ≤ (f : Int) by omega), if_pos (show (f : Int) ≤ (s.size : Int) by omega), if_pos (show o.length < 8796093022208 by omega), Int.toNat_natCast]
      refine Ev.some ?_
      have hi : i = s.size := by omega
      have hd : s.data.toList.drop i = [] := List.drop_eq_nil_of_le (by rw [← ba_size]; omega)
      have hx : s.extract f s.size = ⟨((s.data.toList.take i).drop f).toArray⟩ := ba_ext (by rw [ext_data, hi])
      rw [hd, spl, List.map_cons, List.map_nil, hx]
    | succ d ih =>
      intro i f o h hf ho
      have hi : i < s.size := by omega
      have hi2 : i < s.data.toList.length := by rw [← ba_size]; exact hi
      have ei : wrap64 ((i : Int) + 1) = ((i + 1 : Nat) : Int) := by rw [w64 (by omega) (by omega)]; exact (Int.natCast_add i 1).symm
      refine Ev.step (fun k => by rw [spec_l1Split.l0]) ?_
      simp only [if_pos (show (i : Int) < (s.size : Int) by omega), if_pos (show 0 ≤ (i : Int) by omega), bt_at s i hi, ei, if_pos (show 0 ≤ (f : Int) by omega), if_pos (show (f : Int) ≤ (i : Int) by omega), if_pos (show (i : Int) ≤ (s.size : Int) by omega), if_pos (show o.length < 8796093022208 by omega), Int.toNat_natCast]
      rw [List.drop_eq_getElem_cons hi2]
      by_cases hc : s.data.toList[i] = c
      · simp only [if_pos (show (s.data.toList[i].toNat : Int) = (c.toNat : Int) by rw [hc])]
        refine Ev.as (ih (i + 1) (i + 1) (o ++ [s.extract f i]) (by omega) (by omega) (by rw [List.length_append]; simp; omega)) ?_
        have hd : (s.data.toList.take (i + 1)).drop (i + 1) = [] := List.drop_eq_nil_of_le (by rw [List.length_take]; omega)
        have hx : s.extract f i = ⟨((s.data.toList.take i).drop f).toArray⟩ := ba_ext (by rw [ext_data])
        rw [spl, if_pos hc, hd, List.append_assoc, List.map_cons, hx]
        rfl
      · simp only [if_neg (show ¬ (s.data.toList[i].toNat : Int) = (c.toNat : Int) from fun e => hc (UInt8.toNat_inj.1 (by omega)))]
        refine Ev.as (ih (i + 1) f o (by omega) (by omega) (by omega)) ?_
        have hd : (s.data.toList.take (i + 1)).drop f = (s.data.toList.take i).drop f ++ [s.data.toList[i]] := by
          rw [List.take_add_one, List.getElem?_eq_getElem hi2, List.drop_append_of_le_length (by rw [List.length_take]; omega)]
          rfl
        rw [spl, if_neg hc, hd]
  have h := key s.size 0 0 [] (by omega) (by omega) (by simp)
  rw [List.drop_zero, List.nil_append] at h
  exact h

theorem spl_pre (c : UInt8) : ∀ (l p : List UInt8), c ∉ l → spl c p l = [p ++ l]
  | [], p, _ => by simp [spl]
  | b :: r, p, h => by
    rw [spl, if_neg (fun e => h (by rw [e]; exact List.mem_cons_self)), spl_pre c r (p ++ [b]) (fun e => h (List.mem_cons_of_mem _ e))]
    simp
theorem spl_hit (c : UInt8) : ∀ (l p r : List UInt8), c ∉ l → spl c p (l ++ c :: r) = (p ++ l) :: spl c [] r
  | [], p, r, _ => by simp [spl]
  | b :: l, p, r, h => by
    rw [List.cons_append, spl, if_neg (fun e => h (by rw [e]; exact List.mem_cons_self)), spl_hit c l (p ++ [b]) r (fun e => h (List.mem_cons_of_mem _ e))]
    simp
theorem index_one (c : UInt8) : ∀ l : List UInt8, (Lib.index l [c] = -1 ∧ c ∉ l) ∨ ∃ i : Nat, Lib.index l [c] = i ∧ ∃ a r, l = a ++ c :: r ∧ c ∉ a ∧ a.length = i
  | [] => .inl ⟨by simp [Lib.index], by simp⟩
  | b :: l => by
    rw [Lib.index]
    by_cases h : b = c
    · subst h
      refine .inr ⟨0, by simp [List.isPrefixOf], [], l, rfl, by simp, rfl⟩
    · have hp : ([c] : List UInt8).isPrefixOf (b :: l) = false := by simp [List.isPrefixOf, Ne.symm h]
      rw [hp]
      rcases index_one c l with ⟨h1, h2⟩ | ⟨i, h1, a, r, rfl, h3, h4⟩
      · refine .inl ⟨by rw [h1]; rfl, ?_⟩
        intro e
        rcases List.mem_cons.1 e with e | e
        · exact h e.symm
        · exact h2 e
      · refine .inr ⟨i + 1, ?_, b :: a, r, rfl, ?_, by simp [h4]⟩
        · have hne : (Lib.index (a ++ c :: r) [c] == -1) = false := beq_eq_false_iff_ne.2 (by omega)
          rw [hne, h1]
          simp
        · intro e
          rcases List.mem_cons.1 e with e | e
          · exact h e.symm
          · exact h3 e
theorem splitK_spl (c : UInt8) : ∀ (k : Nat) (l : List UInt8), l.count c ≤ k → Lib.splitK [c] 0 k l = spl c [] l
  | 0, l, h => by
    have hn : c ∉ l := fun e => by have := List.count_pos_iff.2 e; omega
    rw [Lib.splitK, spl_pre c l [] hn, List.nil_append]
  | k + 1, l, h => by
    rw [Lib.splitK]
    rcases index_one c l with ⟨h1, h2⟩ | ⟨i, h1, a, r, rfl, h3, h4⟩
    · rw [if_pos (beq_iff_eq.2 h1), spl_pre c l [] h2, List.nil_append]
    · have hne : ¬ (Lib.index (a ++ c :: r) [c] == -1) = true := fun e => by have := beq_iff_eq.1 e; omega
      rw [if_neg hne, spl_hit c a [] r h3, List.nil_append]
      have e1 : (Lib.index (a ++ c :: r) [c]).toNat = a.length := by omega
      rw [e1, Nat.add_zero, List.take_left']
      · have e2 : (a ++ c :: r).drop (a.length + ([c] : List UInt8).length) = r := by
          rw [← List.drop_drop, List.drop_left']
          · rfl
          · rfl
        rw [e2, splitK_spl c k r (by
          rw [List.count_append, List.count_cons_self] at h
          omega)]
      · rfl
theorem splitB_spl (s : ByteArray) (c : UInt8) : Lib.splitB ⟨#[c]⟩ 0 (Lib.countB s ⟨#[c]⟩) s = (spl c [] s.data.toList).map fun x => (⟨x.toArray⟩ : ByteArray) := by
  have h := Lib.splitB_data ⟨#[c]⟩ 0 (Lib.countB s ⟨#[c]⟩) s
  have hc : Lib.countB s ⟨#[c]⟩ = s.data.toList.count c := Lib.count_one c _
  have h2 : (Lib.splitB ⟨#[c]⟩ 0 (Lib.countB s ⟨#[c]⟩) s).map (·.data.toList) = spl c [] s.data.toList := by
    rw [h]
    exact splitK_spl c _ _ (by rw [hc]; exact Nat.le_refl _)
  rw [← h2, List.map_map]
  exact (List.map_id' _).symm

def word (x : S56) : ByteArray := (⟨(Lib.itoa x.f0).toArray⟩ ++ ⟨#[58]⟩) ++ ⟨(Lib.itoa x.f1).toArray⟩
theorem itoa_size (n : Int) (h0 : -1000000000 ≤ n) (h1 : n ≤ 1000000000) : (⟨(Lib.itoa n).toArray⟩ : ByteArray).size ≤ 21 := by
  rw [ba_size]
  have := Lib.itoa_length_le n (by omega) (by omega)
  exact this
theorem lit58 : (⟨#[58]⟩ : ByteArray).size = 1 := rfl
theorem lit32 : (⟨#[32]⟩ : ByteArray).size = 1 := rfl
theorem word_size (x : S56) (h : (0 ≤ x.f0 ∧ x.f0 ≤ 60) ∧ (1 ≤ x.f1 ∧ x.f1 ≤ 99)) : (word x).size ≤ 43 := by
  have h0 := itoa_size x.f0 (by omega) (by omega)
  have h1 := itoa_size x.f1 (by omega) (by omega)
  unfold word
  rw [ByteArray.size_append, ByteArray.size_append, lit58]
  omega
theorem specText_l0 (l : List (S56)) (hr : rowB l = true) (hn : 0 < l.length) : ∀ (d i : Nat) (o : ByteArray), i + d = l.length → o.size ≤ 44 * i →
    Ev (fun k => spec_l2Text.l0 k l o (i : Int)) ⟨(o.data.toList ++ tl [32] (decide (i = 0)) ((l.drop i).map word)).toArray⟩ := by
  obtain ⟨hl, hall⟩ := (rowB_iff l).1 hr
  intro d
  induction d with
  | zero =>
    intro i o h ho
    refine Ev.step (fun k => by rw [spec_l2Text.l0]) ?_
    simp only [if_neg (show ¬ (i : Int) < (l.length : Int) by omega), if_neg (show ¬ (l.length : Int) = 0 by omega)]
    rw [List.drop_eq_nil_of_le (by omega), List.map_nil, tl, List.append_nil]
    exact Ev.now _
  | succ d ih =>
    intro i o h ho
    have hi : i < l.length := by omega
    have hx := hall _ (List.getElem_mem hi)
    have erd : rd_T56 l (i : Int) = l[i] := by
      unfold rd_T56
      rw [Int.toNat_natCast]
      exact getD_lt _ hi
    have ei : wrap64 ((i : Int) + 1) = ((i + 1 : Nat) : Int) := by rw [w64 (by omega) (by omega)]; exact (Int.natCast_add i 1).symm
    have s0 := itoa_size l[i].f0 (by omega) (by omega)
    have s1 := itoa_size l[i].f1 (by omega) (by omega)
    have n0 := l1Num_ev l[i].f0 (by omega) (by omega)
    have n1 := l1Num_ev l[i].f1 (by omega) (by omega)
    have ht : decide (i + 1 = 0) = false := by simp
    rw [List.drop_eq_getElem_cons hi, List.map_cons]
    refine Ev.step (fun k => by rw [spec_l2Text.l0]) ?_
    simp only [if_pos (show (i : Int) < (l.length : Int) by omega), if_pos (show 0 ≤ (i : Int) by omega), erd, ei]
    by_cases h0 : (i : Int) > 0
    · have hd : decide (i = 0) = false := decide_eq_false (by omega)
      simp only [if_pos h0, if_pos (show o.size + 1 ≤ 9223372036854775807 by omega)]
      refine Ev.bind n0 ?_
      simp only [ByteArray.size_append, lit32, lit58, if_pos (show o.size + 1 + (⟨(Lib.itoa l[i].f0).toArray⟩ : ByteArray).size ≤ 9223372036854775807 by omega), if_pos (show o.size + 1 + (⟨(Lib.itoa l[i].f0).toArray⟩ : ByteArray).size + 1 ≤ 9223372036854775807 by omega)]
      refine Ev.bind n1 ?_
      simp only [if_pos (show o.size + 1 + (⟨(Lib.itoa l[i].f0).toArray⟩ : ByteArray).size + 1 + (⟨(Lib.itoa l[i].f1).toArray⟩ : ByteArray).size ≤ 9223372036854775807 by omega)]
      refine Ev.as (ih (i + 1) _ (by omega) (by rw [ByteArray.size_append, ByteArray.size_append, ByteArray.size_append, ByteArray.size_append, lit32, lit58]; omega)) ?_
      rw [ht, hd, tl, if_neg (by simp)]
      unfold word
      simp only [ba_app, List.append_assoc]
    · have hi0 : i = 0 := by omega
      have hd : decide (i = 0) = true := decide_eq_true hi0
      simp only [if_neg h0]
      refine Ev.bind n0 ?_
      simp only [ByteArray.size_append, lit58, if_pos (show o.size + (⟨(Lib.itoa l[i].f0).toArray⟩ : ByteArray).size ≤ 9223372036854775807 by omega), if_pos (show o.size + (⟨(Lib.itoa l[i].f0).toArray⟩ : ByteArray).size + 1 ≤ 9223372036854775807 by omega)]
      refine Ev.bind n1 ?_
      simp only [if_pos (show o.size + (⟨(Lib.itoa l[i].f0).toArray⟩ : ByteArray).size + 1 + (⟨(Lib.itoa l[i].f1).toArray⟩ : ByteArray).size ≤ 9223372036854775807 by omega)]
      refine Ev.as (ih (i + 1) _ (by omega) (by rw [ByteArray.size_append, ByteArray.size_append, ByteArray.size_append, lit58]; omega)) ?_
      rw [ht, hd, tl, if_pos rfl]
      unfold word
      simp only [ba_app, List.append_assoc, List.nil_append]
def rowText (l : List (S56)) : ByteArray := if l.length = 0 then ⟨#[110, 111, 110, 101]⟩ else ⟨(tl [32] true (l.map word)).toArray⟩
theorem specText_ev (l : List (S56)) (hr : rowB l = true) : Ev (fun k => spec_l2Text.f k l) (rowText l) := by
  unfold spec_l2Text.f rowText
  by_cases hn : l.length = 0
  · refine Ev.step (fun k => by rw [spec_l2Text.l0]) ?_
    simp only [if_neg (show ¬ (0 : Int) < (l.length : Int) by omega), if_pos (show (l.length : Int) = 0 by omega), if_pos hn]
    exact Ev.now _
  · rw [if_neg hn]
    have h := specText_l0 l hr (by omega) l.length 0 ⟨#[]⟩ (by omega) (by decide)
    rw [List.drop_zero] at h
    exact h

theorem decFrom_app : ∀ (l : List UInt8) (b : UInt8) (acc : Nat), Lib.decFrom acc (l ++ [b]) = (Lib.decFrom acc l).bind fun n => (Lib.digitVal b).map fun d => n * 10 + d
  | [], b, acc => by
    simp only [List.nil_append, Lib.decFrom, Option.bind_some]
    cases Lib.digitVal b <;> rfl
  | a :: l, b, acc => by
    simp only [List.cons_append, Lib.decFrom]
    cases Lib.digitVal a with
    | none => rfl
    | some d => exact decFrom_app l b _
theorem digit_dig (j : Nat) (h : j < 10) : Lib.digitVal (UInt8.ofNat (48 + j)) = some j := by
  have : ∀ i : Fin 10, Lib.digitVal (UInt8.ofNat (48 + i.val)) = some i.val := by decide
  exact this ⟨j, h⟩
theorem dec_read : ∀ (m u : Nat), u ≤ m → Lib.decFrom 0 (Lib.decDigits u) = some u := by
  intro m
  induction m with
  | zero =>
    intro u h
    rw [Lib.decDigits_one (by omega)]
    simp only [Lib.decFrom, digit_dig u (by omega)]
    simp
  | succ m ih =>
    intro u h
    by_cases hu : u < 10
    · rw [Lib.decDigits_one hu]
      simp only [Lib.decFrom, digit_dig u hu]
      simp
    · rw [Lib.decDigits, dif_neg hu, decFrom_app, ih (u / 10) (by omega), Option.bind_some, digit_dig _ (by omega)]
      show some (u / 10 * 10 + u % 10) = some u
      rw [show u / 10 * 10 + u % 10 = u by omega]
theorem dec_len6 : ∀ (k u : Nat), u < 10 ^ (k + 1) → (Lib.decDigits u).length ≤ k + 1 := by
  intro k
  induction k with
  | zero =>
    intro u h
    rw [Lib.decDigits_one (by omega)]
    simp
  | succ k ih =>
    intro u h
    by_cases hu : u < 10
    · rw [Lib.decDigits_one hu]
      simp
    · have := ih (u / 10) (by rw [Nat.pow_succ] at h; omega)
      rw [Lib.decDigits, dif_neg hu, List.length_append, List.length_singleton]
      omega
theorem dec_ne (u : Nat) : 1 ≤ (Lib.decDigits u).length := by
  rw [Lib.decDigits]
  split
  · simp
  · rw [List.length_append]; simp
theorem dec_digit (u : Nat) (b : UInt8) (k : Nat) (h : (Lib.decDigits u)[k]? = some b) : ∃ d, Lib.digitVal b = some d := Lib.digit_of_decFrom _ 0 u (dec_read u u (Nat.le_refl _)) k b h
theorem dec_cons (u : Nat) : ∃ c r, Lib.decDigits u = c :: r ∧ c ≠ 45 ∧ c ≠ 43 := by
  cases h : Lib.decDigits u with
  | nil => have := dec_ne u; rw [h] at this; simp at this
  | cons c r =>
    obtain ⟨d, hd⟩ := dec_digit u c 0 (by rw [h]; rfl)
    refine ⟨c, r, rfl, ?_, ?_⟩
    · rintro rfl; cases hd
    · rintro rfl; cases hd
/-- What is read ends so. -/
def readEnd (s : List UInt8) (neg : Bool) : Option Nat → Int × Bool
  | none => (0, false)
  | some m => if Lib.itoa (if neg = true then -(m : Int) else (m : Int)) = s then (if neg = true then -(m : Int) else (m : Int), true) else (0, false)
theorem digitVal_no (c : UInt8) (h : ¬ (48 ≤ c.toNat ∧ c.toNat ≤ 57)) : Lib.digitVal c = none := by
  unfold Lib.digitVal
  rw [if_neg h]
theorem digitVal_yes (c : UInt8) (h : 48 ≤ c.toNat ∧ c.toNat ≤ 57) : Lib.digitVal c = some (c.toNat - 48) := by
  unfold Lib.digitVal
  rw [if_pos h]
theorem toList_iff (l : List UInt8) (s : ByteArray) : (⟨l.toArray⟩ : ByteArray).toList = s.toList ↔ l = s.data.toList := by
  rw [ByteArray.toList_eq, ByteArray.toList_eq]
theorem l1Read_l0 (s t : ByteArray) (ht : t.size ≤ 6) (hs : s.size ≤ 1048576) : ∀ (d i acc : Nat), i + d = t.size → acc < 10 ^ i →
    Ev (fun k => spec_l1Read.l0 k s t (acc : Int) (i : Int)) (readEnd s.data.toList (decide (t.size < s.size)) (Lib.decFrom acc (t.data.toList.drop i))) := by
  intro d
  induction d with
  | zero =>
    intro i acc h ha
    have hp : 10 ^ i ≤ 10 ^ 6 := Nat.pow_le_pow_right (by decide) (by omega)
    have hm : acc ≤ 1000000 := by omega
    refine Ev.step (fun k => by rw [spec_l1Read.l0]) ?_
    simp only [if_neg (show ¬ (i : Int) < (t.size : Int) by omega)]
    rw [List.drop_eq_nil_of_le (by rw [← ba_size]; omega)]
    unfold Lib.decFrom readEnd
    have en : wrap64 (-(acc : Int)) = -(acc : Int) := w64 (by omega) (by omega)
    by_cases hn : t.size < s.size
    · simp only [if_pos (show (t.size : Int) < (s.size : Int) by omega), hn, decide_true, if_true, en]
      refine Ev.bind (l1Num_ev (-(acc : Int)) (by omega) (by omega)) ?_
      simp only [toList_iff]
      by_cases he : Lib.itoa (-(acc : Int)) = s.data.toList
      · simp only [if_pos he]; exact Ev.now _
      · simp only [if_neg he]; exact Ev.now _
    · simp only [if_neg (show ¬ (t.size : Int) < (s.size : Int) by omega), hn, decide_false, Bool.false_eq_true, if_false]
      refine Ev.bind (l1Num_ev (acc : Int) (by omega) (by omega)) ?_
      simp only [toList_iff]
      by_cases he : Lib.itoa (acc : Int) = s.data.toList
      · simp only [if_pos he]; exact Ev.now _
      · simp only [if_neg he]; exact Ev.now _
  | succ d ih =>
    intro i acc h ha
    have hi : i < t.size := by omega
    have hi2 : i < t.data.toList.length := by rw [← ba_size]; exact hi
    have hp : 10 ^ i ≤ 10 ^ 6 := Nat.pow_le_pow_right (by decide) (by omega)
    have hm : acc ≤ 1000000 := by omega
    refine Ev.step (fun k => by rw [spec_l1Read.l0]) ?_
    have ei : wrap64 ((i : Int) + 1) = ((i + 1 : Nat) : Int) := by rw [w64 (by omega) (by omega)]; exact (Int.natCast_add i 1).symm
    simp only [if_pos (show (i : Int) < (t.size : Int) by omega), if_pos (show 0 ≤ (i : Int) by omega), bt_at t i hi, ei]
    rw [List.drop_eq_getElem_cons hi2]
    unfold Lib.decFrom
    by_cases h1 : t.data.toList[i].toNat < 48
    · simp only [if_pos (show (t.data.toList[i].toNat : Int) < 48 by omega), digitVal_no _ (show ¬ (48 ≤ t.data.toList[i].toNat ∧ t.data.toList[i].toNat ≤ 57) by omega)]
      exact Ev.now _
    · by_cases h2 : t.data.toList[i].toNat > 57
      · simp only [if_neg (show ¬ (t.data.toList[i].toNat : Int) < 48 by omega), if_pos (show (t.data.toList[i].toNat : Int) > 57 by omega), digitVal_no _ (show ¬ (48 ≤ t.data.toList[i].toNat ∧ t.data.toList[i].toNat ≤ 57) by omega)]
        exact Ev.now _
      · have e1 : wrap64 (10 * (acc : Int)) = 10 * (acc : Int) := w64 (by omega) (by omega)
        have e2 : wrap64 (10 * (acc : Int) + ((t.data.toList[i].toNat : Int) - 48) % 256) = ((acc * 10 + (t.data.toList[i].toNat - 48) : Nat) : Int) := by
          rw [w64 (by omega) (by omega)]; omega
        simp only [if_neg (show ¬ (t.data.toList[i].toNat : Int) < 48 by omega), if_neg (show ¬ (t.data.toList[i].toNat : Int) > 57 by omega), e1, e2, digitVal_yes _ (show 48 ≤ t.data.toList[i].toNat ∧ t.data.toList[i].toNat ≤ 57 by omega)]
        exact ih (i + 1) _ (by omega) (by rw [Nat.pow_succ]; omega)
/-- What l1Read gives. -/
def readL (s : List UInt8) : Int × Bool :=
  if s.length > 1 ∧ s.head? = some 45 then (if s.length ≤ 7 then readEnd s true (Lib.decFrom 0 s.tail) else (0, false))
  else (if 1 ≤ s.length ∧ s.length ≤ 6 then readEnd s false (Lib.decFrom 0 s) else (0, false))
theorem l1Read_j1 (s t : ByteArray) (hs : s.size ≤ 1048576) (ht : t.size ≤ s.size) : Ev (fun k => spec_l1Read.j1 k s t) (if 1 ≤ t.size ∧ t.size ≤ 6 then readEnd s.data.toList (decide (t.size < s.size)) (Lib.decFrom 0 t.data.toList) else (0, false)) := by
  refine Ev.step (fun k => by rw [spec_l1Read.j1]) ?_
  simp only [l1In_eq, Option.bind_some, decide_eq_true_eq]
  by_cases h : 1 ≤ t.size ∧ t.size ≤ 6
  · simp only [if_pos (show 1 ≤ (t.size : Int) ∧ (t.size : Int) ≤ 6 by omega), if_pos h]
    exact l1Read_l0 s t h.2 hs t.size 0 0 (by omega) (by decide)
  · simp only [if_neg (show ¬ (1 ≤ (t.size : Int) ∧ (t.size : Int) ≤ 6) by omega), if_neg h]
    exact Ev.now _
theorem l1Read_ev (s : ByteArray) (hs : s.size ≤ 1048576) : Ev (fun k => spec_l1Read.f k s) (readL s.data.toList) := by
  unfold spec_l1Read.f readL
  have hz := ba_size s
  by_cases h1 : s.size > 1
  · have hl : 0 < s.data.toList.length := by omega
    have hh : s.data.toList.head? = some s.data.toList[0] := by
      rw [List.head?_eq_getElem?, List.getElem?_eq_getElem hl]
    have hb := bt_at s 0 (by omega)
    have hb : bt s 0 = (s.data.toList[0].toNat : Int) := hb
    simp only [if_pos (show (s.size : Int) > 1 by omega), if_pos (show 0 < (s.size : Int) by omega), hb]
    by_cases hc : s.data.toList[0] = 45
    · have hbe : ((s.data.toList[0].toNat : Int) == 45) = true := by rw [hc]; rfl
      have hex : (s.extract 1 s.size).data.toList = s.data.toList.tail := by
        rw [ByteArray.data_extract, Array.toList_extract, List.extract_eq_take_drop, List.take_of_length_le (by rw [List.length_drop]; omega), List.drop_one]
      have hes : (s.extract 1 s.size).size = s.size - 1 := by rw [ba_size, hex, List.length_tail, ← hz]
      refine Ev.step (fun k => by rw [spec_l1Read.j0]) ?_
      simp only [hbe, if_true, if_pos (show 1 ≤ (s.size : Int) by omega)]
      refine Ev.as (l1Read_j1 s (s.extract 1 s.size) hs (by omega)) ?_
      rw [hes, hex, decide_eq_true (show s.size - 1 < s.size by omega), if_pos (show s.data.toList.length > 1 ∧ s.data.toList.head? = some 45 from ⟨by omega, by rw [hh, hc]⟩)]
      by_cases h7 : s.data.toList.length ≤ 7
      · rw [if_pos h7, if_pos ⟨by omega, by omega⟩]
      · rw [if_neg h7, if_neg (by omega)]
    · have hbe : ((s.data.toList[0].toNat : Int) == 45) = false := beq_eq_false_iff_ne.2 (fun e => hc (UInt8.toNat_inj.1 (show s.data.toList[0].toNat = (45 : UInt8).toNat from by have : (45 : UInt8).toNat = 45 := rfl; omega)))
      refine Ev.step (fun k => by rw [spec_l1Read.j0]) ?_
      simp only [hbe, Bool.false_eq_true, if_false]
      refine Ev.as (l1Read_j1 s s hs (Nat.le_refl _)) ?_
      rw [decide_eq_false (Nat.lt_irrefl _), if_neg (show ¬ (s.data.toList.length > 1 ∧ s.data.toList.head? = some 45) from fun e => hc (by rw [hh] at e; exact Option.some.inj e.2)), hz]
  · simp only [if_neg (show ¬ (s.size : Int) > 1 by omega)]
    refine Ev.step (fun k => by rw [spec_l1Read.j0]) ?_
    simp only [Bool.false_eq_true, if_false]
    refine Ev.as (l1Read_j1 s s hs (Nat.le_refl _)) ?_
    rw [decide_eq_false (Nat.lt_irrefl _), if_neg (show ¬ (s.data.toList.length > 1 ∧ s.data.toList.head? = some 45) by omega), hz]
/-- The number of a text. -/
theorem readL_yes (n : Int) (h0 : -999999 ≤ n) (h1 : n ≤ 999999) : readL (Lib.itoa n) = (n, true) := by
  unfold readL
  by_cases hn : n < 0
  · obtain ⟨u, hu⟩ : ∃ u : Nat, n = -(u : Int) := ⟨n.natAbs, by omega⟩
    subst hu
    have he := Lib.itoa_neg u (by omega)
    have h6 := dec_len6 5 u (by omega)
    have h7 := dec_ne u
    rw [he, if_pos ⟨by rw [List.length_cons]; omega, rfl⟩, if_pos (by rw [List.length_cons]; omega), List.tail_cons, dec_read u u (Nat.le_refl _)]
    unfold readEnd
    simp only [if_true]
    rw [if_pos he]
  · obtain ⟨u, hu⟩ : ∃ u : Nat, n = (u : Int) := ⟨n.toNat, by omega⟩
    subst hu
    have he := Lib.itoa_nonneg u
    have h6 := dec_len6 5 u (by omega)
    have h7 := dec_ne u
    obtain ⟨c, r, hc, hc5, _⟩ := dec_cons u
    rw [he, if_neg (fun e => hc5 (by rw [hc] at e; exact Option.some.inj e.2)), if_pos ⟨h7, h6⟩, dec_read u u (Nat.le_refl _)]
    unfold readEnd
    simp only [Bool.false_eq_true, if_false]
    rw [if_pos he]
theorem readEnd_cases (s : List UInt8) (neg : Bool) (o : Option Nat) (ho : ∀ m, o = some m → m ≤ 999999) : readEnd s neg o = (0, false) ∨ ∃ n : Int, -999999 ≤ n ∧ n ≤ 999999 ∧ Lib.itoa n = s ∧ readEnd s neg o = (n, true) := by
  cases o with
  | none => exact .inl rfl
  | some m =>
    have hm := ho m rfl
    unfold readEnd
    by_cases he : Lib.itoa (if neg = true then -(m : Int) else (m : Int)) = s
    · right
      refine ⟨_, ?_, ?_, he, by simp only [if_pos he]⟩
      · cases neg <;> simp <;> omega
      · cases neg <;> simp <;> omega
    · left
      simp only [if_neg he]
theorem dec_small (l : List UInt8) (hl : l.length ≤ 6) (m : Nat) (h : Lib.decFrom 0 l = some m) : m ≤ 999999 := by
  have h1 := Lib.decFrom_lt l 0 m h
  have hp : 10 ^ l.length ≤ 10 ^ 6 := Nat.pow_le_pow_right (by decide) hl
  omega
theorem readL_cases (s : List UInt8) : readL s = (0, false) ∨ ∃ n : Int, -999999 ≤ n ∧ n ≤ 999999 ∧ Lib.itoa n = s ∧ readL s = (n, true) := by
  unfold readL
  split
  · rename_i h
    split
    · rename_i h7
      exact readEnd_cases s true _ (fun m hm => dec_small s.tail (by rw [List.length_tail]; omega) m hm)
    · exact .inl rfl
  · split
    · rename_i h6
      exact readEnd_cases s false _ (fun m hm => dec_small s h6.2 m hm)
    · exact .inl rfl
/-- A numeral is read as its number. -/
theorem atoi_itoa (n : Int) (h0 : -999999 ≤ n) (h1 : n ≤ 999999) : Lib.atoiAll (Lib.itoa n) = .ok n := by
  by_cases hn : n < 0
  · obtain ⟨u, hu⟩ : ∃ u : Nat, n = -(u : Int) := ⟨n.natAbs, by omega⟩
    subst hu
    have h6 := dec_len6 5 u (by omega)
    obtain ⟨c, r, hc, _, _⟩ := dec_cons u
    rw [Lib.itoa_neg u (by omega), Lib.atoiAll_short _ (by rw [List.length_cons]; omega)]
    have hd : Lib.decNat (Lib.decDigits u) = some u := by
      unfold Lib.decNat
      rw [if_neg (by rw [hc]; simp), dec_read u u (Nat.le_refl _)]
    simp only [Lib.atoi, beq_self_eq_true, if_true, hd, Option.map_some]
    rfl
  · obtain ⟨u, hu⟩ : ∃ u : Nat, n = (u : Int) := ⟨n.toNat, by omega⟩
    subst hu
    have h6 := dec_len6 5 u (by omega)
    obtain ⟨c, r, hc, h45, h43⟩ := dec_cons u
    rw [Lib.itoa_nonneg, Lib.atoiAll_short _ (by omega)]
    have hd : Lib.decNat (Lib.decDigits u) = some u := by
      unfold Lib.decNat
      rw [if_neg (by rw [hc]; simp), dec_read u u (Nat.le_refl _)]
    rw [hc] at hd ⊢
    simp only [Lib.atoi, beq_eq_false_iff_ne.2 h45, beq_eq_false_iff_ne.2 h43, Bool.false_eq_true, if_false, hd, Option.map_some]
    rfl
theorem itoa_eq64 (n : Int) (h0 : -9223372036854775808 ≤ n) (h1 : n ≤ 9223372036854775807) : strconv_Itoa.f n = some ⟨(Lib.itoa n).toArray⟩ := by
  unfold strconv_Itoa.f
  rw [if_pos ⟨h0, h1⟩]

def mapO {α β : Type} (f : α → Option β) : List α → Option (List β)
  | [] => some []
  | x :: r => (f x).bind fun y => (mapO f r).map fun ys => y :: ys
theorem mapO_none {α β : Type} (f : α → Option β) (x : α) (r : List α) (h : f x = none) : mapO f (x :: r) = none := by rw [mapO, h]; rfl
theorem mapO_some {α β : Type} (f : α → Option β) (x : α) (r : List α) (y : β) (h : f x = some y) : mapO f (x :: r) = (mapO f r).map fun ys => y :: ys := by rw [mapO, h]; rfl
theorem mapO_len {α β : Type} (f : α → Option β) : ∀ (l : List α) (r : List β), mapO f l = some r → r.length = l.length
  | [], r, h => by cases h; rfl
  | x :: l, r, h => by
    rw [mapO] at h
    obtain ⟨y, _, h⟩ := Option.bind_eq_some_iff.1 h
    obtain ⟨ys, hys, rfl⟩ := Option.map_eq_some_iff.1 h
    rw [List.length_cons, List.length_cons, mapO_len f l ys hys]
/-- The number of a word, by Atoi. -/
def numI (p : List UInt8) : Option Int := match Lib.atoiAll p with
  | .ok v => if Lib.itoa v = p then some v else none
  | _ => none
theorem numI_itoa {p : List UInt8} {v : Int} (h : numI p = some v) : Lib.itoa v = p := by
  unfold numI at h
  split at h
  · split at h
    · rename_i he
      cases h
      exact he
    · cases h
  · cases h
theorem numI_small (v : Int) (h0 : -999999 ≤ v) (h1 : v ≤ 999999) : numI (Lib.itoa v) = some v := by
  unfold numI
  rw [atoi_itoa v h0 h1]
  exact if_pos rfl
theorem num_step (p : ByteArray) (hp : p.size ≤ 1048576) :
    (numI p.data.toList = none ∧ ((∃ n q, strconv_Atoi.f p = some (n, some q)) ∨ ∃ v, strconv_Atoi.f p = some (v, none) ∧ strconv_Itoa.f v = some ⟨(Lib.itoa v).toArray⟩ ∧ ¬ Lib.itoa v = p.data.toList)) ∨
    (∃ v, numI p.data.toList = some v ∧ strconv_Atoi.f p = some (v, none) ∧ strconv_Itoa.f v = some ⟨(Lib.itoa v).toArray⟩ ∧ Lib.itoa v = p.data.toList) := by
  unfold strconv_Atoi.f numI
  rw [if_pos (by omega)]
  cases ha : Lib.atoiAll p.data.toList with
  | ok v =>
    have hb := Lib.atoiAll_bounds ha
    by_cases he : Lib.itoa v = p.data.toList
    · exact .inr ⟨v, by simp only [if_pos he], rfl, itoa_eq64 v hb.1 hb.2, he⟩
    · exact .inl ⟨by simp only [if_neg he], .inr ⟨v, rfl, itoa_eq64 v hb.1 hb.2, he⟩⟩
  | _ => exact .inl ⟨rfl, .inl ⟨_, _, rfl⟩⟩
def numR (o : List Int) : Option (List Int) → List Int × Bool
  | some r => (o ++ r, true)
  | none => ([], false)
theorem numbers_l0 (ps : List ByteArray) (hp : ∀ x ∈ ps, x.size ≤ 1048576) (hl : ps.length ≤ 2097152) : ∀ (d i : Nat) (o : List Int), i + d = ps.length → o.length ≤ i →
    Ev (fun k => impl_numbers.l0 k o ps (ps.length : Int) (i : Int)) (numR o (mapO numI ((ps.drop i).map (·.data.toList)))) := by
  intro d
  induction d with
  | zero =>
    intro i o h ho
    refine Ev.step (fun k => by rw [impl_numbers.l0]) ?_
    simp only [if_neg (show ¬ (i : Int) < (ps.length : Int) by omega)]
    rw [List.drop_eq_nil_of_le (by omega)]
    exact Ev.some (by show _ = (o ++ [], true); rw [List.append_nil])
  | succ d ih =>
    intro i o h ho
    have hi : i < ps.length := by omega
    have ei : wrap64 ((i : Int) + 1) = ((i + 1 : Nat) : Int) := by rw [w64 (by omega) (by omega)]; exact (Int.natCast_add i 1).symm
    rw [List.drop_eq_getElem_cons hi, List.map_cons]
    refine Ev.step (fun k => by rw [impl_numbers.l0]) ?_
    simp only [if_pos (show (i : Int) < (ps.length : Int) by omega), if_pos (show 0 ≤ (i : Int) by omega), rdStr ps i hi, ei]
    rcases num_step ps[i] (hp _ (List.getElem_mem hi)) with ⟨hn, ⟨n, q, ha⟩ | ⟨v, ha, hv, he⟩⟩ | ⟨v, hn, ha, hv, he⟩
    · rw [mapO_none _ _ _ hn]
      simp only [ha, Option.bind_some, show (some q).isNone = false from rfl, Bool.false_eq_true, if_false]
      exact Ev.now _
    · rw [mapO_none _ _ _ hn]
      simp only [ha, Option.bind_some, show (none : Option Int).isNone = true from rfl, if_true, hv, toList_iff, if_neg he]
      exact Ev.now _
    · rw [mapO_some _ _ _ v hn]
      simp only [ha, Option.bind_some, show (none : Option Int).isNone = true from rfl, if_true, hv, toList_iff, if_pos he, if_pos (show o.length < 17592186044416 by omega)]
      refine Ev.as (ih (i + 1) (o ++ [v]) (by omega) (by rw [List.length_append, List.length_singleton]; omega)) ?_
      cases mapO numI ((ps.drop (i + 1)).map (·.data.toList)) with
      | none => rfl
      | some r => show (o ++ [v] ++ r, true) = (o ++ (v :: r), true); rw [List.append_assoc]; rfl
theorem spl_sizes (c : UInt8) : ∀ (l p x : List UInt8), x ∈ spl c p l → x.length ≤ p.length + l.length
  | [], p, x, h => by
    rw [spl, List.mem_singleton] at h
    subst h
    simp
  | b :: l, p, x, h => by
    rw [spl] at h
    split at h
    · rcases List.mem_cons.1 h with rfl | h
      · simp
      · have := spl_sizes c l [] x h
        simp only [List.length_nil, List.length_cons] at this ⊢
        omega
    · have := spl_sizes c l _ x h
      simp only [List.length_append, List.length_cons, List.length_nil] at this ⊢
      omega
theorem ba_map (l : List (List UInt8)) : (l.map fun x => (⟨x.toArray⟩ : ByteArray)).map (·.data.toList) = l := by
  rw [List.map_map]
  exact List.map_id' _
theorem spl_ba (c : UInt8) (w : ByteArray) (hw : w.size ≤ 1048576) : ((spl c [] w.data.toList).map fun x => (⟨x.toArray⟩ : ByteArray)).length ≤ 1048577 ∧ ∀ x ∈ ((spl c [] w.data.toList).map fun x => (⟨x.toArray⟩ : ByteArray)), x.size ≤ 1048576 := by
  have h1 := spl_len c w.data.toList []
  have hz := ba_size w
  refine ⟨by rw [List.length_map]; omega, fun x hx => ?_⟩
  obtain ⟨y, hy, rfl⟩ := List.mem_map.1 hx
  have := spl_sizes c w.data.toList [] y hy
  rw [ba_size]
  show y.length ≤ _
  simp only [List.length_nil] at this
  omega
theorem numbers_ev (w : ByteArray) (hw : w.size ≤ 1048576) : Ev (fun k => impl_numbers.f k w ⟨#[58]⟩) (numR [] (mapO numI (spl 58 [] w.data.toList))) := by
  obtain ⟨h1, h2⟩ := spl_ba 58 w hw
  have hz : (⟨#[58]⟩ : ByteArray).size = 1 := rfl
  unfold impl_numbers.f strings_Split.f
  simp only [if_pos (show w.size < 4294967281 ∧ 1 ≤ (⟨#[58]⟩ : ByteArray).size from ⟨by omega, by rw [hz]; omega⟩), Option.bind_some, splitB_spl]
  have h := numbers_l0 _ h2 (by omega) _ 0 [] (Nat.zero_add _) (by simp)
  rw [List.drop_zero, ba_map] at h
  exact h
/-- The load of a word, by the numbers. -/
def wordI (w : List UInt8) : Option (S56) := match mapO numI (spl 58 [] w) with
  | some [a, b] => some ⟨a, b⟩
  | _ => none
/-- The load of a word, by l1Read. -/
def wordS (w : List UInt8) : Option (S56) := match spl 58 [] w with
  | [a, b] => if (readL a).2 = true ∧ (readL b).2 = true then some ⟨(readL a).1, (readL b).1⟩ else none
  | _ => none
theorem two_of {α : Type} (l : List α) (h : l.length = 2) : ∃ a b, l = [a, b] := by
  match l, h with
  | [a, b], _ => exact ⟨a, b, rfl⟩
theorem wordI_no {w : List UInt8} {l : List Int} (h : mapO numI (spl 58 [] w) = some l) (hl : ¬ l.length = 2) : wordI w = none := by
  unfold wordI
  rw [h]
  match l, hl with
  | [], _ => rfl
  | [a], _ => rfl
  | [a, b], hl => exact absurd rfl hl
  | a :: b :: c :: r, _ => rfl
theorem wordS_no {w : List UInt8} (hl : ¬ (spl 58 [] w).length = 2) : wordS w = none := by
  unfold wordS
  split
  · rename_i a b h
    exact absurd (by rw [h]; rfl) hl
  · rfl
theorem tl_false (sep : List UInt8) (X : List ByteArray) (h : X ≠ []) : tl sep false X = sep ++ tl sep true X := by
  cases X with
  | nil => exact absurd rfl h
  | cons x r => rw [tl, tl]; simp
theorem spl_ne (c : UInt8) : ∀ (l p : List UInt8), spl c p l ≠ []
  | [], p => by rw [spl]; simp
  | b :: l, p => by
    rw [spl]
    split
    · simp
    · exact spl_ne c l _
theorem spl_join (c : UInt8) : ∀ (l p : List UInt8), tl [c] true ((spl c p l).map fun x => (⟨x.toArray⟩ : ByteArray)) = p ++ l
  | [], p => by
    rw [spl, List.map_cons, List.map_nil, tl, tl]
    simp
  | b :: l, p => by
    rw [spl]
    split
    · rename_i hb
      rw [List.map_cons, tl, tl_false _ _ (by rw [Ne, List.map_eq_nil_iff]; exact spl_ne c l []), spl_join c l [], hb]
      simp
    · rw [spl_join c l (p ++ [b])]
      simp
theorem spl_two {w a b : List UInt8} (h : spl 58 [] w = [a, b]) : w = a ++ 58 :: b := by
  have := spl_join 58 w []
  rw [h] at this
  simp only [List.map_cons, List.map_nil, tl, if_true, Bool.false_eq_true, if_false, List.nil_append, List.append_nil] at this
  rw [← this]
  simp
theorem readL_itoa {p : List UInt8} (h : (readL p).2 = true) : Lib.itoa (readL p).1 = p ∧ -999999 ≤ (readL p).1 ∧ (readL p).1 ≤ 999999 := by
  rcases readL_cases p with hr | ⟨n, h0, h1, h2, hr⟩
  · rw [hr] at h; cases h
  · rw [hr]; exact ⟨h2, h0, h1⟩
theorem wordS_cases {w : List UInt8} {x : S56} (h : wordS w = some x) : w = (word x).data.toList ∧ wordI w = some x := by
  unfold wordS at h
  split at h
  · rename_i a b hs
    split at h
    · rename_i hc
      cases h
      obtain ⟨ha, ha0, ha1⟩ := readL_itoa hc.1
      obtain ⟨hb, hb0, hb1⟩ := readL_itoa hc.2
      refine ⟨?_, ?_⟩
      · rw [spl_two hs]
        unfold word
        rw [ba_app, ba_app]
        show _ = (Lib.itoa (readL a).1 ++ [58]) ++ Lib.itoa (readL b).1
        rw [ha, hb]
        simp
      · unfold wordI
        have na := numI_small _ ha0 ha1
        have nb := numI_small _ hb0 hb1
        rw [ha] at na
        rw [hb] at nb
        rw [hs, mapO_some _ _ _ _ na, mapO_some _ _ _ _ nb]
        rfl
    · cases h
  · cases h
theorem wordI_cases {w : List UInt8} {x : S56} (h : wordI w = some x) (hx : (0 ≤ x.f0 ∧ x.f0 ≤ 60) ∧ (1 ≤ x.f1 ∧ x.f1 ≤ 99)) : wordS w = some x := by
  unfold wordI at h
  split at h
  · rename_i a b hm
    cases h
    have hlen := mapO_len _ _ _ hm
    obtain ⟨p, q, hs⟩ := two_of (spl 58 [] w) (by rw [← hlen]; rfl)
    rw [hs] at hm
    rw [mapO] at hm
    obtain ⟨y, hy, hm⟩ := Option.bind_eq_some_iff.1 hm
    obtain ⟨ys, hys, e⟩ := Option.map_eq_some_iff.1 hm
    rw [mapO] at hys
    obtain ⟨z, hz, hys⟩ := Option.bind_eq_some_iff.1 hys
    obtain ⟨zs, hzs, e2⟩ := Option.map_eq_some_iff.1 hys
    cases hzs
    subst e2
    cases e
    have e0 := numI_itoa hy
    have e1 := numI_itoa hz
    have r0 := readL_yes a (by simp only at hx; omega) (by simp only at hx; omega)
    have r1 := readL_yes b (by simp only at hx; omega) (by simp only at hx; omega)
    rw [e0] at r0
    rw [e1] at r1
    unfold wordS
    rw [hs]
    simp only [r0, r1, and_self, if_true]
  · cases h
theorem rows_S {ws : List (List UInt8)} : ∀ {r : List (S56)}, mapO wordS ws = some r → mapO wordI ws = some r ∧ ws = (r.map word).map (·.data.toList) := by
  induction ws with
  | nil => intro r h; cases h; exact ⟨rfl, rfl⟩
  | cons w ws ih =>
    intro r h
    rw [mapO] at h
    obtain ⟨y, hy, h⟩ := Option.bind_eq_some_iff.1 h
    obtain ⟨ys, hys, rfl⟩ := Option.map_eq_some_iff.1 h
    obtain ⟨h1, h2⟩ := ih hys
    obtain ⟨h3, h4⟩ := wordS_cases hy
    refine ⟨by rw [mapO_some _ _ _ _ h4, h1]; rfl, ?_⟩
    rw [List.map_cons, List.map_cons, ← h3, ← h2]
theorem rows_I {ws : List (List UInt8)} : ∀ {r : List (S56)}, mapO wordI ws = some r → (∀ x ∈ r, (0 ≤ x.f0 ∧ x.f0 ≤ 60) ∧ (1 ≤ x.f1 ∧ x.f1 ≤ 99)) → mapO wordS ws = some r := by
  induction ws with
  | nil => intro r h _; cases h; rfl
  | cons w ws ih =>
    intro r h hx
    rw [mapO] at h
    obtain ⟨y, hy, h⟩ := Option.bind_eq_some_iff.1 h
    obtain ⟨ys, hys, rfl⟩ := Option.map_eq_some_iff.1 h
    rw [mapO_some _ _ _ _ (wordI_cases hy (hx y List.mem_cons_self)), ih hys (fun x h => hx x (List.mem_cons_of_mem _ h))]
    rfl
def implFin (n : Nat) (o : List (S56)) : Option (List (S56)) → List (S56) × Bool
  | some r => if n ≤ 12 ∧ rowB (o ++ r) = true then (o ++ r, true) else ([], false)
  | none => ([], false)
theorem implFin_big (n : Nat) (o : List (S56)) (x : Option (List (S56))) (h : 12 < n) : implFin n o x = ([], false) := by
  cases x with
  | none => rfl
  | some r => exact if_neg (fun e => by omega)
theorem implFin_cons (n : Nat) (o : List (S56)) (y : S56) (x : Option (List (S56))) : implFin n o (x.map fun ys => y :: ys) = implFin n (o ++ [y]) x := by
  cases x with
  | none => rfl
  | some r =>
    show (if n ≤ 12 ∧ rowB (o ++ y :: r) = true then (o ++ y :: r, true) else ([], false)) = (if n ≤ 12 ∧ rowB (o ++ [y] ++ r) = true then (o ++ [y] ++ r, true) else ([], false))
    rw [List.append_assoc]
    rfl
theorem implRow_l0 (ws : List ByteArray) (hp : ∀ x ∈ ws, x.size ≤ 1048576) (hl : ws.length ≤ 2097152) : ∀ (d i : Nat) (o : List (S56)), i + d = ws.length → o.length = i → i ≤ 12 →
    Ev (fun k => impl_ParseRow.l0 k o ws (ws.length : Int) (i : Int)) (implFin ws.length o (mapO wordI ((ws.drop i).map (·.data.toList)))) := by
  intro d
  induction d with
  | zero =>
    intro i o h ho h12
    refine Ev.step (fun k => by rw [impl_ParseRow.l0]) ?_
    simp only [if_neg (show ¬ (i : Int) < (ws.length : Int) by omega)]
    rw [List.drop_eq_nil_of_le (by omega)]
    unfold impl_validRow.f
    simp only [implIsRow_eq, Option.bind_some]
    show Ev _ (if ws.length ≤ 12 ∧ rowB (o ++ []) = true then (o ++ [], true) else ([], false))
    rw [List.append_nil]
    by_cases hr : rowB o = true
    · simp only [if_pos hr, Option.bind_some]
      rw [if_pos ⟨by omega, hr⟩]
      exact Ev.now _
    · simp only [if_neg hr, Option.bind_some]
      rw [if_neg (fun e => hr e.2)]
      exact Ev.now _
  | succ d ih =>
    intro i o h ho h12
    have hi : i < ws.length := by omega
    have ei : wrap64 ((i : Int) + 1) = ((i + 1 : Nat) : Int) := by rw [w64 (by omega) (by omega)]; exact (Int.natCast_add i 1).symm
    rw [List.drop_eq_getElem_cons hi, List.map_cons]
    refine Ev.step (fun k => by rw [impl_ParseRow.l0]) ?_
    simp only [if_pos (show (i : Int) < (ws.length : Int) by omega), if_pos (show 0 ≤ (i : Int) by omega), rdStr ws i hi, ei]
    refine Ev.bind (numbers_ev ws[i] (hp _ (List.getElem_mem hi))) ?_
    cases hm : mapO numI (spl 58 [] ws[i].data.toList) with
    | none =>
      have hw : wordI ws[i].data.toList = none := by unfold wordI; rw [hm]
      rw [mapO_none _ _ _ hw]
      simp only [numR, Bool.false_eq_true, if_false]
      exact Ev.now _
    | some l =>
      have hnr : numR [] (some l) = (l, true) := rfl
      rw [hnr]
      simp only [if_true]
      by_cases h2 : l.length = 2
      · obtain ⟨a, b, rfl⟩ := two_of l h2
        have hw : wordI ws[i].data.toList = some ⟨a, b⟩ := by unfold wordI; rw [hm]
        rw [mapO_some _ _ _ _ hw, implFin_cons]
        have e2 : (([a, b] : List Int).length : Int) = 2 := rfl
        have r0 : rd [a, b] 0 = a := rfl
        have r1 : rd [a, b] 1 = b := rfl
        simp only [e2, if_true, r0, r1, if_pos (show (0 : Int) < 2 by decide), if_pos (show (1 : Int) < 2 by decide)]
        by_cases h3 : (o.length : Int) = 12
        · simp only [if_pos h3]
          rw [implFin_big _ _ _ (by omega)]
          exact Ev.now _
        · simp only [if_neg h3, if_pos (show o.length < 8796093022208 by omega)]
          exact ih (i + 1) (o ++ [⟨a, b⟩]) (by omega) (by rw [List.length_append, List.length_singleton]; omega) (by omega)
      · have hw := wordI_no hm h2
        rw [mapO_none _ _ _ hw]
        simp only [if_neg (show ¬ (l.length : Int) = 2 by omega)]
        exact Ev.now _
noncomputable def specFin (s : ByteArray) (o : List (S56)) : Option (List (S56)) → List (S56) × Bool
  | some r => if rowB (o ++ r) = true then (if (rowText (o ++ r)).toList = s.toList then (o ++ r, true) else ([], false)) else ([], false)
  | none => ([], false)
theorem specFin_cons (s : ByteArray) (o : List (S56)) (y : S56) (x : Option (List (S56))) : specFin s o (x.map fun ys => y :: ys) = specFin s (o ++ [y]) x := by
  cases x with
  | none => rfl
  | some r =>
    show (if rowB (o ++ y :: r) = true then (if (rowText (o ++ y :: r)).toList = s.toList then (o ++ y :: r, true) else ([], false)) else ([], false)) = (if rowB (o ++ [y] ++ r) = true then (if (rowText (o ++ [y] ++ r)).toList = s.toList then (o ++ [y] ++ r, true) else ([], false)) else ([], false))
    rw [List.append_assoc]
    rfl
theorem specRow_j1 (s : ByteArray) (ws : List ByteArray) (o : List (S56)) (i : Int) : Ev (fun k => spec_ParseRow.j1 k s o ws i false) (specFin s o (some [])) := by
  refine Ev.step (fun k => by rw [spec_ParseRow.j1]) ?_
  simp only [Bool.false_eq_true, if_false]
  show Ev _ (if rowB (o ++ []) = true then (if (rowText (o ++ [])).toList = s.toList then (o ++ [], true) else ([], false)) else ([], false))
  rw [List.append_nil]
  refine Ev.bind (l2Row_ev o) ?_
  by_cases hr : rowB o = true
  · simp only [if_pos hr]
    refine Ev.bind (specText_ev o hr) ?_
    by_cases he : (rowText o).toList = s.toList
    · simp only [if_pos he]; exact Ev.now _
    · simp only [if_neg he]; exact Ev.now _
  · simp only [if_neg hr]
    exact Ev.now _
theorem specRow_l0 (s : ByteArray) (ws : List ByteArray) (hp : ∀ x ∈ ws, x.size ≤ 1048576) (hl : ws.length ≤ 2097152) : ∀ (d i : Nat) (o : List (S56)), i + d = (ws.take 13).length → o.length = i →
    Ev (fun k => spec_ParseRow.l0 k s o ws (i : Int)) (specFin s o (mapO wordS (((ws.take 13).drop i).map (·.data.toList)))) := by
  have htl : (ws.take 13).length = min 13 ws.length := List.length_take
  intro d
  induction d with
  | zero =>
    intro i o h ho
    refine Ev.step (fun k => by rw [spec_ParseRow.l0]) ?_
    rw [List.drop_eq_nil_of_le (by omega)]
    by_cases h1 : (i : Int) < (ws.length : Int)
    · simp only [if_pos h1, decide_eq_false (show ¬ (i : Int) ≤ 12 by omega)]
      exact specRow_j1 s ws o _
    · simp only [if_neg h1]
      exact specRow_j1 s ws o _
  | succ d ih =>
    intro i o h ho
    have hi : i < ws.length := by omega
    have hi3 : i < (ws.take 13).length := by omega
    have ei : wrap64 ((i : Int) + 1) = ((i + 1 : Nat) : Int) := by rw [w64 (by omega) (by omega)]; exact (Int.natCast_add i 1).symm
    have hwz := hp _ (List.getElem_mem hi)
    obtain ⟨hq1, hq2⟩ := spl_ba 58 ws[i] hwz
    rw [List.drop_eq_getElem_cons hi3, List.map_cons, List.getElem_take]
    refine Ev.step (fun k => by rw [spec_ParseRow.l0]) ?_
    simp only [if_pos (show (i : Int) < (ws.length : Int) by omega), decide_eq_true (show (i : Int) ≤ 12 by omega)]
    refine Ev.step (fun k => by rw [spec_ParseRow.j1]) ?_
    simp only [if_true, if_pos (show (i : Int) < (ws.length : Int) by omega), if_pos (show 0 ≤ (i : Int) by omega), rdStr ws i hi, ei]
    refine Ev.bind (l1Split_ev ws[i] 58 hwz) ?_
    by_cases h2 : (spl 58 [] ws[i].data.toList).length = 2
    · obtain ⟨a, b, hs⟩ := two_of _ h2
      rw [hs] at hq2
      have hza : (⟨a.toArray⟩ : ByteArray).size ≤ 1048576 := hq2 _ (by simp)
      have hzb : (⟨b.toArray⟩ : ByteArray).size ≤ 1048576 := hq2 _ (by simp)
      have e2 : (((([a, b] : List (List UInt8)).map fun x => (⟨x.toArray⟩ : ByteArray)).length : Nat) : Int) = 2 := rfl
      have r0 : rdOf ByteArray.empty (([a, b] : List (List UInt8)).map fun x => (⟨x.toArray⟩ : ByteArray)) 0 = ⟨a.toArray⟩ := rfl
      have r1 : rdOf ByteArray.empty (([a, b] : List (List UInt8)).map fun x => (⟨x.toArray⟩ : ByteArray)) 1 = ⟨b.toArray⟩ := rfl
      have hw : wordS ws[i].data.toList = if (readL a).2 = true ∧ (readL b).2 = true then some ⟨(readL a).1, (readL b).1⟩ else none := by unfold wordS; rw [hs]
      simp only [hs, e2, if_true, if_pos (show (0 : Int) < 2 by decide), if_pos (show (1 : Int) < 2 by decide), r0, r1]
      refine Ev.bind (l1Read_ev ⟨a.toArray⟩ hza) (Ev.bind (l1Read_ev ⟨b.toArray⟩ hzb) ?_)
      show Ev (fun k => if (readL a).2 = true then (if (readL b).2 = true then (if o.length < 8796093022208 then spec_ParseRow.l0 k s (o ++ [(⟨(readL a).1, (readL b).1⟩ : S56)]) ws ((i + 1 : Nat) : Int) else none) else some ([], false)) else some ([], false)) _
      by_cases ha : (readL a).2 = true
      · by_cases hb : (readL b).2 = true
        · simp only [if_pos ha, if_pos hb, if_pos (show o.length < 8796093022208 by omega)]
          rw [if_pos ⟨ha, hb⟩] at hw
          rw [mapO_some _ _ _ _ hw, specFin_cons]
          exact ih (i + 1) _ (by omega) (by rw [List.length_append, List.length_singleton]; omega)
        · simp only [if_pos ha, if_neg hb]
          rw [if_neg (fun e => hb e.2)] at hw
          rw [mapO_none _ _ _ hw]
          exact Ev.now _
      · simp only [if_neg ha]
        rw [if_neg (fun e => ha e.1)] at hw
        rw [mapO_none _ _ _ hw]
        exact Ev.now _
    · have hw := wordS_no h2
      rw [mapO_none _ _ _ hw]
      simp only [List.length_map, if_neg (show ¬ ((spl 58 [] ws[i].data.toList).length : Int) = 2 by omega)]
      exact Ev.now _
theorem finBoth (s : ByteArray) (W : List (List UInt8)) (hW : W = spl 32 [] s.data.toList) : specFin s [] (mapO wordS (W.take 13)) = implFin W.length [] (mapO wordI W) := by
  by_cases hl : W.length ≤ 12
  · rw [List.take_of_length_le (by omega)]
    cases hS : mapO wordS W with
    | some r =>
      obtain ⟨hI, hw⟩ := rows_S hS
      rw [hI]
      show (if rowB r = true then (if (rowText r).toList = s.toList then (r, true) else ([], false)) else ([], false)) = (if W.length ≤ 12 ∧ rowB r = true then (r, true) else ([], false))
      by_cases hr : rowB r = true
      · have hlen := mapO_len _ _ _ hS
        have hne : W ≠ [] := by rw [hW]; exact spl_ne 32 _ _
        have ht : rowText r = s := by
          unfold rowText
          have h0 : ¬ r.length = 0 := by
            intro e
            rw [hlen] at e
            exact hne (List.length_eq_zero_iff.1 e)
          rw [if_neg h0]
          refine ba_ext ?_
          show tl [32] true (r.map word) = _
          have h1 := spl_join 32 s.data.toList []
          rw [← hW, hw, List.nil_append, List.map_map] at h1
          rw [← h1]
          congr 1
          exact (List.map_id' _).symm
        rw [if_pos hr, ht, if_pos rfl, if_pos ⟨hl, hr⟩]
      · rw [if_neg hr, if_neg (fun e => hr e.2)]
    | none =>
      cases hI : mapO wordI W with
      | none => rfl
      | some r =>
        show ([], false) = (if W.length ≤ 12 ∧ rowB r = true then (r, true) else ([], false))
        rw [if_neg]
        intro e
        have := rows_I hI ((rowB_iff r).1 e.2).2
        rw [hS] at this
        cases this
  · rw [implFin_big _ _ _ (by omega)]
    cases hS : mapO wordS (W.take 13) with
    | none => rfl
    | some r =>
      have hlen := mapO_len _ _ _ hS
      rw [List.length_take] at hlen
      exact if_neg (fun e => by have := ((rowB_iff r).1 e).1; omega)
theorem parseRowBoth (s : ByteArray) (hs : s.size ≤ 1048576) : ∃ R : List (S56) × Bool, Ev (fun k => spec_ParseRow.f k s) R ∧ Ev (fun k => impl_ParseRow.f k s) R ∧ R.1.length ≤ 12 := by
  unfold spec_ParseRow.f impl_ParseRow.f
  by_cases h : s.toList = ([110, 111, 110, 101] : List UInt8)
  · refine ⟨([], true), ?_, ?_, by simp⟩
    · simp only [Option.bind_some, if_pos h]; exact Ev.now _
    · simp only [if_pos h]; exact Ev.now _
  · obtain ⟨h1, h2⟩ := spl_ba 32 s hs
    have hz : (⟨#[32]⟩ : ByteArray).size = 1 := rfl
    refine ⟨implFin (spl 32 [] s.data.toList).length [] (mapO wordI (spl 32 [] s.data.toList)), ?_, ?_, ?_⟩
    · simp only [Option.bind_some, if_neg h]
      refine Ev.bind (l1Split_ev s 32 hs) ?_
      have e := specRow_l0 s _ h2 (by omega) _ 0 [] (Nat.zero_add _) rfl
      rw [List.drop_zero, ← List.map_take, ba_map, finBoth s _ rfl] at e
      exact e
    · simp only [if_neg h]
      unfold strings_Split.f
      simp only [if_pos (show s.size < 4294967281 ∧ 1 ≤ (⟨#[32]⟩ : ByteArray).size from ⟨by omega, by rw [hz]; omega⟩), Option.bind_some, splitB_spl]
      have e := implRow_l0 _ h2 (by omega) _ 0 [] (Nat.zero_add _) rfl (by omega)
      rw [List.drop_zero, ba_map, List.length_map] at e
      rw [List.length_map]
      exact e
    · cases hm : mapO wordI (spl 32 [] s.data.toList) with
      | none => simp [implFin]
      | some r =>
        show (if (spl 32 [] s.data.toList).length ≤ 12 ∧ rowB r = true then (r, true) else ([], false)).1.length ≤ 12
        split
        · rename_i hc
          exact ((rowB_iff r).1 hc.2).1
        · simp

theorem FnExactParseRow : laws_FnExactParseRow.Pure := by
  intro s _
  refine Ev.rounds ?_
  unfold laws_FnExactParseRow.f
  by_cases h : (s.size : Int) > 1048576
  · simp only [if_pos h]; exact Ev.now _
  · simp only [if_neg h]
    obtain ⟨R, hS, hI, hl⟩ := parseRowBoth s (by omega)
    have hq := eqLoadS_self R.1 (by omega)
    have hh := heldLoadS_ev R.1.length (by omega) 1 (by omega) (by omega)
    have hm := markLoadS_ev R.1 (by omega) 1 (by omega) (by omega)
    refine Ev.bind hS (Ev.bind hI (Ev.bind hq ?_))
    simp only [if_true, bne_self_eq_false]
    refine Ev.step (fun k => by rw [laws_FnExactParseRow.j0]) ?_
    simp only [Bool.false_eq_true, if_false]
    refine Ev.bind hm (Ev.bind hh ?_)
    simp only [if_neg (show ¬ (1 + 2 * (R.1.length : Int) < 0) by omega), if_true]
    refine Ev.bind hI (Ev.bind hq ?_)
    simp only [if_true, bne_self_eq_false]
    refine Ev.step (fun k => by rw [laws_FnExactParseRow.j1]) ?_
    simp only [Bool.false_eq_true, if_false]
    refine Ev.bind hh ?_
    simp only [if_neg (show ¬ (1 + 2 * (R.1.length : Int) < 0) by omega), if_true]
    exact Ev.now _


end Go.Proofs.YtonialldgodbiaaDoor.Pure

