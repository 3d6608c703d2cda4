/- For every row the plain function of the law FnExactRowText answers true. -/
import Derived.Test.YtonialldgodbiaaDoorPFnExactRowTextx4
import Derived.Test.YtonialldgodbiaaDoorLib
set_option linter.unusedVariables false
set_option linter.unusedSimpArgs false
namespace Go.Proofs.YtonialldgodbiaaDoor.Pure
open Go.RowKit Go.Proofs.YtonialldgodbiaaDoor.PFnExactRowText Go.Proofs.YtonialldgodbiaaDoorW.PrintWords Go.Proofs.YtonialldgodbiaaDoorW.PrintLast Go.Proofs.YtonialldgodbiaaDoor.Lib

theorem l1In_eq (a b c : Int) : spec_l1In.f a b c = some (decide (b ≤ a ∧ a ≤ c)) := by
  unfold spec_l1In.f
  by_cases h : a ≥ b
  · rw [if_pos h]
    congr 1
    simp only [decide_eq_decide]
    omega
  · rw [if_neg h]
    congr 1
    simp only [Bool.false_eq, decide_eq_false_iff_not]
    omega

theorem within_eq (a b c : Int) : impl_within.f a b c = some (decide (b ≤ a ∧ a ≤ c)) := by
  unfold impl_within.f
  by_cases h : a ≥ b
  · rw [if_pos h]
    congr 1
    simp only [decide_eq_decide]
    omega
  · rw [if_neg h]
    congr 1
    simp only [Bool.false_eq, decide_eq_false_iff_not]
    omega

/-- Loads that are a row. -/
def rowB (l : List (S56)) : Bool := decide (l.length ≤ 12) && l.all rowItem
theorem rowItem_iff (x : S56) : rowItem x = true ↔ (0 ≤ x.f0 ∧ x.f0 ≤ 60) ∧ (1 ≤ x.f1 ∧ x.f1 ≤ 99) := by
  unfold rowItem; simp
theorem rowB_iff (l : List (S56)) : rowB l = true ↔ l.length ≤ 12 ∧ ∀ x ∈ l, (0 ≤ x.f0 ∧ x.f0 ≤ 60) ∧ (1 ≤ x.f1 ∧ x.f1 ≤ 99) := by
  unfold rowB
  rw [Bool.and_eq_true, decide_eq_true_eq, List.all_eq_true]
  simp only [rowItem_iff]
theorem implIsRow_eq (l : List (S56)) : impl_IsRow.f l = some (rowB l) := rfl

theorem l2In_eq (a : Int) : spec_l2In.f a = some (decide (0 ≤ a ∧ a ≤ 60)) := by
  unfold spec_l2In.f
  simp only [l1In_eq, Option.bind_some]
theorem rdL_mem {l : List (S56)} {i : Int} (h0 : 0 ≤ i) (h1 : i < l.length) : rd_T56 l i ∈ l := by
  unfold rd_T56
  rw [getD_lt _ (by omega)]
  exact List.getElem_mem _
theorem all_rd {l : List (S56)} {p : S56 → Bool} : l.all p = true ↔ ∀ i : Int, 0 ≤ i → i < l.length → p (rd_T56 l i) = true := by
  rw [List.all_eq_true]
  refine ⟨fun h i h0 h1 => h _ (rdL_mem h0 h1), fun h x hx => ?_⟩
  obtain ⟨j, hj, rfl⟩ := List.getElem_of_mem hx
  have := h j (by omega) (by omega)
  unfold rd_T56 at this
  rwa [Int.toNat_natCast, getD_lt _ hj] at this
theorem l2Row_ev (l : List (S56)) : Ev (fun k => spec_l2Row.f k l) (rowB l) := by
  unfold spec_l2Row.f
  -- the loop goes over at most 13 loads
  have yes : ∀ i : Int, 0 ≤ i → i < (l.length : Int) → i ≤ 12 → rowItem (rd_T56 l i) = true → ∀ r, Ev (fun k => spec_l2Row.l0 k l (i + 1)) r → Ev (fun k => spec_l2Row.l0 k l i) r := by
    intro i h0 h1 h2 hp r h
    rw [rowItem_iff] at hp
    refine Ev.step (fun k => by rw [spec_l2Row.l0]) ?_
    simp only [if_pos h1, decide_eq_true h2]
    refine Ev.step (fun k => by rw [spec_l2Row.j1]) ?_
    simp only [if_true, if_pos h0, if_pos h1, l2In_eq, l1In_eq, Option.bind_some, decide_eq_true_eq, if_pos hp.1, if_pos hp.2, w64 (show -9223372036854775808 ≤ i + 1 by omega) (by omega)]
    exact h
  have no : ∀ i : Int, 0 ≤ i → i < (l.length : Int) → i ≤ 12 → ¬ rowItem (rd_T56 l i) = true → Ev (fun k => spec_l2Row.l0 k l i) false := by
    intro i h0 h1 h2 hp
    rw [rowItem_iff] at hp
    refine Ev.step (fun k => by rw [spec_l2Row.l0]) ?_
    simp only [if_pos h1, decide_eq_true h2]
    refine Ev.step (fun k => by rw [spec_l2Row.j1]) ?_
    simp only [if_true, if_pos h0, if_pos h1, l2In_eq, l1In_eq, Option.bind_some, decide_eq_true_eq]
    by_cases hq : 0 ≤ (rd_T56 l i).f0 ∧ (rd_T56 l i).f0 ≤ 60
    · simp only [if_pos hq, if_neg (show ¬ (1 ≤ (rd_T56 l i).f1 ∧ (rd_T56 l i).f1 ≤ 99) from fun h => hp ⟨hq, h⟩)]
      exact Ev.now _
    · simp only [if_neg hq]
      exact Ev.now _
  have endd : ∀ i : Int, 0 ≤ i → (i = (l.length : Int) ∨ (i = 13 ∧ i ≤ l.length)) → Ev (fun k => spec_l2Row.l0 k l i) (decide (l.length ≤ 12)) := by
    intro i h0 h1
    refine Ev.step (fun k => by rw [spec_l2Row.l0]) ?_
    by_cases h2 : i < (l.length : Int)
    · simp only [if_pos h2, decide_eq_false (show ¬ i ≤ 12 by omega)]
      refine Ev.step (fun k => by rw [spec_l2Row.j1]) ?_
      simp only [Bool.false_eq_true, if_false]
      exact Ev.some (by simp only [decide_eq_decide]; omega)
    · simp only [if_neg h2]
      refine Ev.step (fun k => by rw [spec_l2Row.j1]) ?_
      simp only [Bool.false_eq_true, if_false]
      exact Ev.some (by simp only [decide_eq_decide]; omega)
  by_cases hl : l.length ≤ 12
  · have h := Ev.count' (l := fun k i => spec_l2Row.l0 k l i) (n := l.length) (P := fun i => rowItem (rd_T56 l i) = true) (a := decide (l.length ≤ 12)) (b := false) (by omega)
      (fun i h0 h1 hp r h => yes i h0 h1 (by omega) hp r h) (fun i h0 h1 hp => no i h0 h1 (by omega) hp) (fun i h0 h1 => endd i h0 (.inl h1))
    refine Ev.as h ?_
    unfold rowB
    split
    · rename_i hc
      rw [all_rd.2 hc, Bool.and_true]
    · rename_i hc
      rw [Bool.eq_false_iff.2 (fun h => hc (all_rd.1 h)), Bool.and_false]
  · have h := Ev.count' (l := fun k i => spec_l2Row.l0 k l i) (n := 13) (P := fun i => rowItem (rd_T56 l i) = true) (a := decide (l.length ≤ 12)) (b := false) (by omega)
      (fun i h0 h1 hp r h => yes i h0 (by omega) (by omega) hp r h) (fun i h0 h1 hp => no i h0 (by omega) (by omega) hp) (fun i h0 h1 => endd i h0 (.inr ⟨h1, by omega⟩))
    refine Ev.as h ?_
    unfold rowB
    rw [decide_eq_false hl, Bool.false_and]
    split <;> rfl

theorem szLoadS_eq (l : List (S58)) (hl : l.length ≤ maxLen) : laws_szLoadS.f l 1048576 = some (if (l.length : Int) > 1048576 then -1 else 1048576 - (l.length : Int)) := by
  unfold maxLen at hl
  unfold laws_szLoadS.f
  rw [w64 (show -9223372036854775808 ≤ 1048576 - (l.length : Int) by omega) (by omega)]
  by_cases h : (l.length : Int) > 1048576
  · rw [if_pos h, if_pos (by omega)]
  · rw [if_neg h, if_neg (by omega)]

/-- The program's own load for the law's. -/
def toL (x : S58) : S56 := ⟨x.f0, x.f1⟩
theorem toLoadS_ev (l : List (S58)) (hl : l.length ≤ 1048576) : Ev (fun k => laws_toLoadS.f k l) (l.map toL) := by
  unfold laws_toLoadS.f
  simp only [if_pos (show 0 ≤ (l.length : Int) by omega), if_pos (show ((l.length : Int) : Int).toNat ≤ 17592186044416 by omega)]
  have h := Ev.fold (l := fun k x i => laws_toLoadS.l0 k l x i) (n := l.length) (fun i => (l.map toL).take i.toNat ++ List.replicate (l.length - i.toNat) z56) (a := l.map toL)
    (fun i h0 h1 r h => by
      refine Ev.step (fun k => by rw [laws_toLoadS.l0]) ?_
      have hx : i < (((l.map toL).take i.toNat ++ List.replicate (l.length - i.toNat) z56).length : Int) := by
        rw [List.length_append, List.length_take, List.length_replicate, List.length_map]; omega
      have e : (⟨(rd_T58 l i).f0, (rd_T58 l i).f1⟩ : S56) = (l.map toL).getD i.toNat z56 := by
        unfold rd_T58
        rw [getD_lt _ (by omega), getD_lt _ (by rw [List.length_map]; omega), List.getElem_map]
        rfl
      simp only [if_pos h1, if_pos h0, laws_toLoad.f, Option.bind_some, if_pos hx, w64 (show -9223372036854775808 ≤ i + 1 by omega) (by omega), e]
      have hs := set_fill (l.map toL) z56 z56 i.toNat (by rw [List.length_map]; omega)
      rw [List.length_map] at hs
      rw [hs, ← toNat_succ h0]
      exact h)
    (by
      refine Ev.step (fun k => by rw [laws_toLoadS.l0]) ?_
      simp only [if_neg (show ¬ (l.length : Int) < l.length by omega)]
      exact Ev.some (by simp [List.take_of_length_le]))
    l.length 0 (by omega) (by omega)
  simpa using h

instance : DecidableEq (S56) := fun a b => if h : a.f0 = b.f0 ∧ a.f1 = b.f1 then isTrue (by cases a; cases b; simp_all) else isFalse (by rintro rfl; exact h ⟨rfl, rfl⟩)
theorem S56_eq (a b : S56) : a = b ↔ a.f0 = b.f0 ∧ a.f1 = b.f1 := by
  cases a; cases b; simp
theorem eqLoad_eq (a b : S56) : laws_eqLoad.f a.f0 a.f1 b.f0 b.f1 = some (decide (a = b)) := by
  unfold laws_eqLoad.f
  by_cases h0 : a.f0 = b.f0
  · by_cases h1 : a.f1 = b.f1
    · rw [if_pos h0, if_pos h1, decide_eq_true ((S56_eq a b).2 ⟨h0, h1⟩)]
    · rw [if_pos h0, if_neg h1, decide_eq_false fun e => h1 ((S56_eq a b).1 e).2]
  · rw [if_neg h0, decide_eq_false fun e => h0 ((S56_eq a b).1 e).1]
theorem eqLoadS_ev (a b : List (S56)) (ha : a.length ≤ 9223372036854775806) : Ev (fun k => laws_eqLoadS.f k a b) (decide (a = b)) := by
  unfold laws_eqLoadS.f
  by_cases hl : (a.length : Int) = (b.length : Int)
  · simp only [if_pos hl]
    have h := Ev.count' (l := fun k i => laws_eqLoadS.l0 k a b i) (n := a.length) (P := fun i => rd_T56 a i = rd_T56 b i) (a := true) (b := false) (by omega)
      (fun i h0 h1 hp r h => by
        refine Ev.step (fun k => by rw [laws_eqLoadS.l0]) ?_
        simp only [if_pos h0, if_pos h1, if_pos (show i < (b.length : Int) by omega), eqLoad_eq, Option.bind_some, decide_eq_true hp, if_true, w64 (show -9223372036854775808 ≤ i + 1 by omega) (by omega)]
        exact h)
      (fun i h0 h1 hp => by
        refine Ev.step (fun k => by rw [laws_eqLoadS.l0]) ?_
        simp only [if_pos h0, if_pos h1, if_pos (show i < (b.length : Int) by omega), eqLoad_eq, Option.bind_some, decide_eq_false hp, Bool.false_eq_true, if_false]
        exact Ev.now _)
      (fun i h0 h1 => by
        refine Ev.step (fun k => by rw [laws_eqLoadS.l0]) ?_
        simp only [if_neg (show ¬ i < (a.length : Int) by omega)]
        exact Ev.now _)
    refine Ev.as h ?_
    split
    · rename_i hc
      exact (decide_eq_true (getD_ext z56 (by omega) fun i hi => hc i (by omega) (by omega))).symm
    · rename_i hc
      exact (decide_eq_false fun e => hc fun i h0 h1 => by rw [e]).symm
  · simp only [if_neg hl]
    exact Ev.some (decide_eq_false fun e => hl (by rw [e])).symm
theorem eqLoadS_self (a : List (S56)) (ha : a.length ≤ 9223372036854775806) : Ev (fun k => laws_eqLoadS.f k a a) true :=
  Ev.as (eqLoadS_ev a a ha) (decide_eq_true rfl)

theorem ba_ext {a b : ByteArray} (h : a.data.toList = b.data.toList) : a = b := by
  cases a; cases b
  simp only [ByteArray.mk.injEq]
  exact Array.toList_inj.1 h
theorem ba_app (a b : ByteArray) : (a ++ b).data.toList = a.data.toList ++ b.data.toList := by
  simp [ByteArray.data_append]
theorem ba_size (a : ByteArray) : a.size = a.data.toList.length := by
  cases a
  simp [ByteArray.size]
theorem bt_at (s : ByteArray) (i : Nat) (h : i < s.size) : bt s (i : Int) = ((s.data.toList[i]'(by rw [← ba_size]; exact h)).toNat : Int) := by
  unfold bt
  rw [Int.toNat_natCast, dif_pos h]
  congr 1

theorem digit_at : ∀ j : Fin 10, ((⟨#[48, 49, 50, 51, 52, 53, 54, 55, 56, 57]⟩ : ByteArray).extract j.val (j.val + 1)).data.toList = [UInt8.ofNat (48 + j.val)] := by
  decide
theorem digit_nat (j : Nat) (h : j < 10) : (⟨#[48, 49, 50, 51, 52, 53, 54, 55, 56, 57]⟩ : ByteArray).extract j (j + 1) = ⟨#[UInt8.ofNat (48 + j)]⟩ := ba_ext (digit_at ⟨j, h⟩)
theorem dec_len (u : Nat) (h : u ≤ 1000000000000) : (Lib.decDigits u).length ≤ 21 := by
  have := Lib.itoa_length_le (u : Int) (by omega) (by omega)
  rwa [Lib.itoa_nonneg] at this
theorem l1Num_small (u : Nat) (hu : u < 10) : Ev (fun k => spec_l1Num.f k (u : Int)) ⟨(Lib.decDigits u).toArray⟩ := by
  refine Ev.step (fun k => by rw [spec_l1Num.f]) ?_
  have e1 : wrap64 ((u : Int) + 1) = ((u + 1 : Nat) : Int) := by rw [w64 (by omega) (by omega)]; exact (Int.natCast_add u 1).symm
  simp only [if_neg (show ¬ (u : Int) < 0 by omega), if_pos (show (u : Int) < 10 by omega), if_pos (show 0 ≤ (u : Int) by omega), e1, if_pos (show (u : Int) ≤ ((u + 1 : Nat) : Int) by omega), if_pos (show ((u + 1 : Nat) : Int) ≤ 10 by omega), Int.toNat_natCast, digit_nat u hu]
  rw [Lib.decDigits_one hu]
  exact Ev.now _
theorem l1Num_nat : ∀ (m u : Nat), u ≤ m → u ≤ 1000000000000 → Ev (fun k => spec_l1Num.f k (u : Int)) ⟨(Lib.decDigits u).toArray⟩ := by
  intro m
  induction m with
  | zero =>
    intro u h0 h1
    exact l1Num_small u (by omega)
  | succ m ih =>
    intro u h0 h1
    by_cases hu : u < 10
    · exact l1Num_small u hu
    · have e2 : Int.tdiv (u : Int) 10 = ((u / 10 : Nat) : Int) := by
        rw [show (10 : Int) = ((10 : Nat) : Int) from rfl, ← Int.ofNat_tdiv]
      have e3 : Int.tmod (u : Int) 10 = ((u % 10 : Nat) : Int) := by
        rw [show (10 : Int) = ((10 : Nat) : Int) from rfl, ← Int.ofNat_tmod]
      have e4 : wrap64 ((u / 10 : Nat) : Int) = ((u / 10 : Nat) : Int) := w64 (by omega) (by omega)
      have e5 : wrap64 (((u % 10 : Nat) : Int) + 1) = ((u % 10 + 1 : Nat) : Int) := by rw [w64 (by omega) (by omega)]; exact (Int.natCast_add _ 1).symm
      have hd : Lib.decDigits u = Lib.decDigits (u / 10) ++ [UInt8.ofNat (48 + u % 10)] := by
        rw [Lib.decDigits, dif_neg hu]
      have hlen := dec_len (u / 10) (by omega)
      have hs1 : (⟨(Lib.decDigits (u / 10)).toArray⟩ : ByteArray).size ≤ 21 := by rw [ba_size]; exact hlen
      have hs2 : (⟨#[UInt8.ofNat (48 + u % 10)]⟩ : ByteArray).size = 1 := rfl
      refine Ev.step (fun k => by rw [spec_l1Num.f]) ?_
      simp only [if_neg (show ¬ (u : Int) < 0 by omega), if_neg (show ¬ (u : Int) < 10 by omega), e2, e3, e4]
      refine Ev.bind (ih (u / 10) (by omega) (by omega)) ?_
      simp only [if_pos (show 0 ≤ ((u % 10 : Nat) : Int) by omega), e5, if_pos (show ((u % 10 : Nat) : Int) ≤ ((u % 10 + 1 : Nat) : Int) by omega), if_pos (show ((u % 10 + 1 : Nat) : Int) ≤ 10 by omega), Int.toNat_natCast, digit_nat (u % 10) (by omega), hs2, if_pos (show (⟨(Lib.decDigits (u / 10)).toArray⟩ : ByteArray).size + 1 ≤ 9223372036854775807 by omega)]
      refine Ev.some (ba_ext ?_)
      rw [ba_app, hd]
theorem l1Num_ev (n : Int) (h0 : -1000000000 ≤ n) (h1 : n ≤ 1000000000) : Ev (fun k => spec_l1Num.f k n) ⟨(Lib.itoa n).toArray⟩ := by
  by_cases hn : n < 0
  · obtain ⟨u, hu⟩ : ∃ u : Nat, n = -(u : Int) := ⟨n.natAbs, by omega⟩
    subst hu
    refine Ev.step (fun k => by rw [spec_l1Num.f]) ?_
    have e : wrap64 (-(-(u : Int))) = (u : Int) := by rw [w64 (by omega) (by omega)]; omega
    simp only [if_pos hn, e]
    refine Ev.bind (l1Num_nat u u (Nat.le_refl _) (by omega)) ?_
    have hlen := dec_len u (by omega)
    have hs1 : (⟨(Lib.decDigits u).toArray⟩ : ByteArray).size ≤ 21 := by rw [ba_size]; exact hlen
    simp only [if_pos (show 1 + (⟨(Lib.decDigits u).toArray⟩ : ByteArray).size ≤ 9223372036854775807 by omega)]
    refine Ev.some (ba_ext ?_)
    rw [ba_app, Lib.itoa_neg u (by omega)]
    rfl
  · obtain ⟨u, hu⟩ : ∃ u : Nat, n = (u : Int) := ⟨n.toNat, by omega⟩
    subst hu
    rw [Lib.itoa_nonneg]
    exact l1Num_nat u u (Nat.le_refl _) (by omega)
theorem itoa_eq (n : Int) (h0 : -1000000000 ≤ n) (h1 : n ≤ 1000000000) : strconv_Itoa.f n = some ⟨(Lib.itoa n).toArray⟩ := by
  unfold strconv_Itoa.f
  rw [if_pos ⟨by omega, by omega⟩]

def tl (sep : List UInt8) : Bool → List ByteArray → List UInt8
  | _, [] => []
  | first, x :: r => (if first = true then [] else sep) ++ x.data.toList ++ tl sep false r
theorem tl_join (sep : List UInt8) (x : ByteArray) (r : List ByteArray) : Lib.join ((x :: r).map (·.data.toList)) sep = tl sep true (x :: r) := by
  have h : ∀ r : List ByteArray, Lib.joinTail sep (r.map (·.data.toList)) = tl sep false r := by
    intro r
    induction r with
    | nil => rfl
    | cons y r ih =>
      rw [List.map_cons, tl, ← ih]
      simp [Lib.joinTail]
  rw [List.map_cons, Lib.join_cons, h, tl]
  simp

def word (x : S56) : ByteArray := (⟨(Lib.itoa x.f0).toArray⟩ ++ ⟨#[58]⟩) ++ ⟨(Lib.itoa x.f1).toArray⟩
theorem itoa_size (n : Int) (h0 : -1000000000 ≤ n) (h1 : n ≤ 1000000000) : (⟨(Lib.itoa n).toArray⟩ : ByteArray).size ≤ 21 := by
  rw [ba_size]
  have := Lib.itoa_length_le n (by omega) (by omega)
  exact this
theorem lit58 : (⟨#[58]⟩ : ByteArray).size = 1 := rfl
theorem lit32 : (⟨#[32]⟩ : ByteArray).size = 1 := rfl
theorem word_size (x : S56) (h : (0 ≤ x.f0 ∧ x.f0 ≤ 60) ∧ (1 ≤ x.f1 ∧ x.f1 ≤ 99)) : (word x).size ≤ 43 := by
  have h0 := itoa_size x.f0 (by omega) (by omega)
  have h1 := itoa_size x.f1 (by omega) (by omega)
  unfold word
  rw [ByteArray.size_append, ByteArray.size_append, lit58]
  omega
theorem specText_l0 (l : List (S56)) (hr : rowB l = true) (hn : 0 < l.length) : ∀ (d i : Nat) (o : ByteArray), i + d = l.length → o.size ≤ 44 * i →
    Ev (fun k => spec_l2Text.l0 k l o (i : Int)) ⟨(o.data.toList ++ tl [32] (decide (i = 0)) ((l.drop i).map word)).toArray⟩ := by
  obtain ⟨hl, hall⟩ := (rowB_iff l).1 hr
  intro d
  induction d with
  | zero =>
    intro i o h ho
    refine Ev.step (fun k => by rw [spec_l2Text.l0]) ?_
    simp only [if_neg (show ¬ (i : Int) < (l.length : Int) by omega), if_neg (show ¬ (l.length : Int) = 0 by omega)]
    rw [List.drop_eq_nil_of_le (by omega), List.map_nil, tl, List.append_nil]
    exact Ev.now _
  | succ d ih =>
    intro i o h ho
    have hi : i < l.length := by omega
    have hx := hall _ (List.getElem_mem hi)
    have erd : rd_T56 l (i : Int) = l[i] := by
      unfold rd_T56
      rw [Int.toNat_natCast]
      exact getD_lt _ hi
    have ei : wrap64 ((i : Int) + 1) = ((i + 1 : Nat) : Int) := by rw [w64 (by omega) (by omega)]; exact (Int.natCast_add i 1).symm
    have s0 := itoa_size l[i].f0 (by omega) (by omega)
    have s1 := itoa_size l[i].f1 (by omega) (by omega)
    have n0 := l1Num_ev l[i].f0 (by omega) (by omega)
    have n1 := l1Num_ev l[i].f1 (by omega) (by omega)
    have ht : decide (i + 1 = 0) = false := by simp
    rw [List.drop_eq_getElem_cons hi, List.map_cons]
    refine Ev.step (fun k => by rw [spec_l2Text.l0]) ?_
    simp only [if_pos (show (i : Int) < (l.length : Int) by omega), if_pos (show 0 ≤ (i : Int) by omega), erd, ei]
    by_cases h0 : (i : Int) > 0
    · have hd : decide (i = 0) = false := decide_eq_false (by omega)
      simp only [if_pos h0, if_pos (show o.size + 1 ≤ 9223372036854775807 by omega)]
      refine Ev.bind n0 ?_
      simp only [ByteArray.size_append, lit32, lit58, if_pos (show o.size + 1 + (⟨(Lib.itoa l[i].f0).toArray⟩ : ByteArray).size ≤ 9223372036854775807 by omega), if_pos (show o.size + 1 + (⟨(Lib.itoa l[i].f0).toArray⟩ : ByteArray).size + 1 ≤ 9223372036854775807 by omega)]
      refine Ev.bind n1 ?_
      simp only [if_pos (show o.size + 1 + (⟨(Lib.itoa l[i].f0).toArray⟩ : ByteArray).size + 1 + (⟨(Lib.itoa l[i].f1).toArray⟩ : ByteArray).size ≤ 9223372036854775807 by omega)]
      refine Ev.as (ih (i + 1) _ (by omega) (by rw [ByteArray.size_append, ByteArray.size_append, ByteArray.size_append, ByteArray.size_append, lit32, lit58]; omega)) ?_
      rw [ht, hd, tl, if_neg (by simp)]
      unfold word
      simp only [ba_app, List.append_assoc]
    · have hi0 : i = 0 := by omega
      have hd : decide (i = 0) = true := decide_eq_true hi0
      simp only [if_neg h0]
      refine Ev.bind n0 ?_
      simp only [ByteArray.size_append, lit58, if_pos (show o.size + (⟨(Lib.itoa l[i].f0).toArray⟩ : ByteArray).size ≤ 9223372036854775807 by omega), if_pos (show o.size + (⟨(Lib.itoa l[i].f0).toArray⟩ : ByteArray).size + 1 ≤ 9223372036854775807 by omega)]
      refine Ev.bind n1 ?_
      simp only [if_pos (show o.size + (⟨(Lib.itoa l[i].f0).toArray⟩ : ByteArray).size + 1 + (⟨(Lib.itoa l[i].f1).toArray⟩ : ByteArray).size ≤ 9223372036854775807 by omega)]
      refine Ev.as (ih (i + 1) _ (by omega) (by rw [ByteArray.size_append, ByteArray.size_append, ByteArray.size_append, lit58]; omega)) ?_
      rw [ht, hd, tl, if_pos rfl]
      unfold word
      simp only [ba_app, List.append_assoc, List.nil_append]
def rowText (l : List (S56)) : ByteArray := if l.length = 0 then ⟨#[110, 111, 110, 101]⟩ else ⟨(tl [32] true (l.map word)).toArray⟩
theorem specText_ev (l : List (S56)) (hr : rowB l = true) : Ev (fun k => spec_l2Text.f k l) (rowText l) := by
  unfold spec_l2Text.f rowText
  by_cases hn : l.length = 0
  · refine Ev.step (fun k => by rw [spec_l2Text.l0]) ?_
    simp only [if_neg (show ¬ (0 : Int) < (l.length : Int) by omega), if_pos (show (l.length : Int) = 0 by omega), if_pos hn]
    exact Ev.now _
  · rw [if_neg hn]
    have h := specText_l0 l hr (by omega) l.length 0 ⟨#[]⟩ (by omega) (by decide)
    rw [List.drop_zero] at h
    exact h
theorem wordText_ev (x : S56) (h : (0 ≤ x.f0 ∧ x.f0 ≤ 60) ∧ (1 ≤ x.f1 ∧ x.f1 ≤ 99)) : Ev (fun k => impl_numbersText.f k [x.f0, x.f1] ⟨#[58]⟩) (word x) := by
  have s0 := itoa_size x.f0 (by omega) (by omega)
  have s1 := itoa_size x.f1 (by omega) (by omega)
  have hl : ((([x.f0, x.f1] : List Int).length : Nat) : Int) = 2 := rfl
  have e1 : wrap64 (0 + 1) = 1 := w64 (by decide) (by decide)
  have e2 : wrap64 (1 + 1) = 2 := w64 (by decide) (by decide)
  have r0 : rd [x.f0, x.f1] 0 = x.f0 := rfl
  have r1 : rd [x.f0, x.f1] 1 = x.f1 := rfl
  unfold impl_numbersText.f
  refine Ev.step (fun k => by rw [impl_numbersText.l0]) ?_
  simp only [hl, if_pos (show (0 : Int) < 2 by decide), if_pos (show (0 : Int) ≤ 0 by decide), r0, itoa_eq x.f0 (by omega) (by omega), Option.bind_some, if_pos (show ([] : List ByteArray).length < 8796093022208 by decide), e1, List.nil_append]
  refine Ev.step (fun k => by rw [impl_numbersText.l0]) ?_
  simp only [hl, if_pos (show (1 : Int) < 2 by decide), if_pos (show (0 : Int) ≤ 1 by decide), r1, itoa_eq x.f1 (by omega) (by omega), Option.bind_some, if_pos (show ([⟨(Lib.itoa x.f0).toArray⟩] : List ByteArray).length < 8796093022208 from by rw [List.length_singleton]; omega), e2]
  refine Ev.step (fun k => by rw [impl_numbersText.l0]) ?_
  simp only [if_neg (show ¬ (2 : Int) < 2 by decide)]
  have hj : Lib.join (([⟨(Lib.itoa x.f0).toArray⟩, ⟨(Lib.itoa x.f1).toArray⟩] : List ByteArray).map (·.data.toList)) [58] = (word x).data.toList := by
    rw [tl_join]
    unfold word
    simp only [tl, ba_app, if_true, Bool.false_eq_true, if_false, List.nil_append, List.append_nil, List.append_assoc]
  have hjl : (Lib.join (([⟨(Lib.itoa x.f0).toArray⟩, ⟨(Lib.itoa x.f1).toArray⟩] : List ByteArray).map (·.data.toList)) [58]).length ≤ 43 := by
    rw [hj, ← ba_size]
    exact word_size x h
  unfold strings_Join.f
  rw [List.singleton_append]
  rw [if_pos ⟨by simp, by simp, by
    show (Lib.join (([⟨(Lib.itoa x.f0).toArray⟩, ⟨(Lib.itoa x.f1).toArray⟩] : List ByteArray).map (·.data.toList)) [58]).length ≤ _
    omega⟩, Option.bind_some]
  refine Ev.some ?_
  show (⟨(Lib.join (([⟨(Lib.itoa x.f0).toArray⟩, ⟨(Lib.itoa x.f1).toArray⟩] : List ByteArray).map (·.data.toList)) [58]).toArray⟩ : ByteArray) = _
  exact ba_ext (by rw [hj])
theorem tl_size (l : List (S56)) (b : Bool) (h : ∀ x ∈ l, (0 ≤ x.f0 ∧ x.f0 ≤ 60) ∧ (1 ≤ x.f1 ∧ x.f1 ≤ 99)) : (tl [32] b (l.map word)).length ≤ 44 * l.length := by
  induction l generalizing b with
  | nil => simp [tl]
  | cons x r ih =>
    have h1 := word_size x (h x List.mem_cons_self)
    have h2 := ih false (fun y hy => h y (List.mem_cons_of_mem _ hy))
    have h3 : (if b = true then ([] : List UInt8) else [32]).length ≤ 1 := by split <;> simp
    rw [List.map_cons, tl, List.length_append, List.length_append, ← ba_size, List.length_cons]
    omega
theorem implText_l0 (l : List (S56)) (hr : rowB l = true) (hn : 0 < l.length) : ∀ (d i : Nat), i + d = l.length →
    Ev (fun k => impl_RowText.l0 k ((l.take i).map word) l (l.length : Int) (i : Int)) (⟨(tl [32] true (l.map word)).toArray⟩, true) := by
  obtain ⟨hl, hall⟩ := (rowB_iff l).1 hr
  intro d
  induction d with
  | zero =>
    intro i h
    refine Ev.step (fun k => by rw [impl_RowText.l0]) ?_
    simp only [if_neg (show ¬ (i : Int) < (l.length : Int) by omega)]
    have hz := tl_size l true hall
    have hj : Lib.join ((l.map word).map (·.data.toList)) [32] = tl [32] true (l.map word) := by
      cases l with
      | nil => simp at hn
      | cons x r => exact tl_join [32] (word x) (r.map word)
    rw [List.take_of_length_le (by omega)]
    unfold strings_Join.f
    rw [if_pos ⟨by rw [List.length_map]; exact hn, by rw [List.length_map]; omega, by
      show (Lib.join ((l.map word).map (·.data.toList)) [32]).length ≤ _
      rw [hj]; omega⟩, Option.bind_some]
    refine Ev.some ?_
    show ((⟨(Lib.join ((l.map word).map (·.data.toList)) [32]).toArray⟩ : ByteArray), true) = _
    rw [hj]
  | succ d ih =>
    intro i h
    have hi : i < l.length := by omega
    have hx := hall _ (List.getElem_mem hi)
    have erd : rd_T56 l (i : Int) = l[i] := by
      unfold rd_T56
      rw [Int.toNat_natCast]
      exact getD_lt _ hi
    have ei : wrap64 ((i : Int) + 1) = ((i + 1 : Nat) : Int) := by rw [w64 (by omega) (by omega)]; exact (Int.natCast_add i 1).symm
    refine Ev.step (fun k => by rw [impl_RowText.l0]) ?_
    simp only [if_pos (show (i : Int) < (l.length : Int) by omega), if_pos (show 0 ≤ (i : Int) by omega), erd, ei]
    refine Ev.bind (wordText_ev l[i] hx) ?_
    simp only [if_pos (show ((l.take i).map word).length < 8796093022208 by rw [List.length_map, List.length_take]; omega)]
    have e : (l.take i).map word ++ [word l[i]] = (l.take (i + 1)).map word := by
      rw [List.take_add_one, List.getElem?_eq_getElem hi, List.map_append]
      rfl
    rw [e]
    exact ih (i + 1) (by omega)
theorem rowTextBoth (l : List (S56)) : ∃ R, Ev (fun k => spec_RowText.f k l) R ∧ Ev (fun k => impl_RowText.f k l) R := by
  unfold spec_RowText.f impl_RowText.f
  by_cases hr : rowB l = true
  · refine ⟨(rowText l, true), ?_, ?_⟩
    · refine Ev.bind (Ev.as (l2Row_ev l) hr) ?_
      simp only [if_true]
      exact Ev.bind (specText_ev l hr) (Ev.now _)
    · simp only [implIsRow_eq, hr, Option.bind_some, if_true]
      unfold rowText
      by_cases hn : l.length = 0
      · simp only [if_pos (show (l.length : Int) = 0 by omega), if_pos hn]
        exact Ev.now _
      · simp only [if_neg (show ¬ (l.length : Int) = 0 by omega), if_neg hn]
        have h := implText_l0 l hr (by omega) l.length 0 (by omega)
        rw [List.take_zero, List.map_nil] at h
        exact h
  · have hr := Bool.eq_false_iff.2 hr
    refine ⟨(⟨#[]⟩, false), ?_, ?_⟩
    · refine Ev.bind (Ev.as (l2Row_ev l) hr) ?_
      simp only [Bool.false_eq_true, if_false]
      exact Ev.now _
    · simp only [implIsRow_eq, hr, Option.bind_some, Bool.false_eq_true, if_false]
      exact Ev.now _

theorem FnExactRowText : laws_FnExactRowText.Pure := by
  intro l hw
  refine Ev.rounds ?_
  unfold laws_FnExactRowText.f
  simp only [szLoadS_eq l hw.1, Option.bind_some]
  by_cases h : (l.length : Int) > 1048576
  · simp only [if_pos h, show ((-1 : Int) < 0) by decide, if_true]; exact Ev.now _
  · simp only [if_neg h, if_neg (show ¬ 1048576 - (l.length : Int) < 0 by omega)]
    have ht := toLoadS_ev l (by omega)
    have hm : (l.map toL).length ≤ 9223372036854775806 := by rw [List.length_map]; omega
    obtain ⟨R, hS, hI⟩ := rowTextBoth (l.map toL)
    refine Ev.bind ht (Ev.bind hS (Ev.bind ht (Ev.bind hI ?_)))
    simp only [if_true, bne_self_eq_false]
    refine Ev.step (fun k => by rw [laws_FnExactRowText.j0]) ?_
    simp only [Bool.false_eq_true, if_false]
    refine Ev.bind ht (Ev.bind (eqLoadS_self _ hm) ?_)
    simp only [if_true]
    exact Ev.now _


end Go.Proofs.YtonialldgodbiaaDoor.Pure

