/- For every kit the plain function of the law FnExactWeighTwo answers true. -/
import Derived.Test.YtjhoejdjhboadaaPFnExactWeighTwox4
import Derived.Test.YtjhoejdjhboadaaLib
set_option linter.unusedVariables false
set_option linter.unusedSimpArgs false
namespace Go.Proofs.Ytjhoejdjhboadaa.Pure
open Go.RowKit Go.Proofs.Ytjhoejdjhboadaa.PFnExactWeighTwo Go.Proofs.YtjhoejdjhboadaaW.PrintWords Go.Proofs.YtjhoejdjhboadaaW.PrintLast Go.Proofs.Ytjhoejdjhboadaa.Lib

theorem l1In_eq (a b c : Int) : spec_l1In.f a b c = some (decide (b ≤ a ∧ a ≤ c)) := by
  unfold spec_l1In.f
  by_cases h : a ≥ b
  · rw [if_pos h]
    congr 1
    simp only [decide_eq_decide]
    omega
  · rw [if_neg h]
    congr 1
    simp only [Bool.false_eq, decide_eq_false_iff_not]
    omega

theorem within_eq (a b c : Int) : impl_within.f a b c = some (decide (b ≤ a ∧ a ≤ c)) := by
  unfold impl_within.f
  by_cases h : a ≥ b
  · rw [if_pos h]
    congr 1
    simp only [decide_eq_decide]
    omega
  · rw [if_neg h]
    congr 1
    simp only [Bool.false_eq, decide_eq_false_iff_not]
    omega

theorem isWeight_eq (a : Int) : impl_isWeight.f a = some (decide (1 ≤ a ∧ a ≤ 99)) := by
  unfold impl_isWeight.f
  simp only [within_eq, Option.bind_some]

theorem toIntS_ev (l : List Int) (hl : l.length ≤ 1048576) : Ev (fun k => laws_toIntS.f k l) l := by
  unfold laws_toIntS.f
  simp only [if_pos (show 0 ≤ (l.length : Int) by omega), if_pos (show ((l.length : Int) : Int).toNat ≤ 35184372088832 by omega)]
  have h := Ev.fold (l := fun k x i => laws_toIntS.l0 k l x i) (n := l.length) (fun i => l.take i.toNat ++ List.replicate (l.length - i.toNat) 0) (a := l)
    (fun i h0 h1 r h => by
      refine Ev.step (fun k => by rw [laws_toIntS.l0]) ?_
      have hx : i < ((l.take i.toNat ++ List.replicate (l.length - i.toNat) (0 : Int)).length : Int) := by
        rw [List.length_append, List.length_take, List.length_replicate]; omega
      simp only [if_pos h1, if_pos h0, if_pos hx, w64 (show -9223372036854775808 ≤ i + 1 by omega) (by omega)]
      unfold rd
      rw [set_fill l 0 0 i.toNat (by omega), ← toNat_succ h0]
      exact h)
    (by
      refine Ev.step (fun k => by rw [laws_toIntS.l0]) ?_
      simp only [if_neg (show ¬ (l.length : Int) < l.length by omega)]
      exact Ev.some (by simp))
    l.length 0 (by omega) (by omega)
  simpa using h

theorem eqIntS_ev (a b : List Int) (ha : a.length ≤ 9223372036854775806) : Ev (fun k => laws_eqIntS.f k a b) (decide (a = b)) := by
  unfold laws_eqIntS.f
  by_cases hl : (a.length : Int) = (b.length : Int)
  · simp only [if_pos hl]
    have h := Ev.count' (l := fun k i => laws_eqIntS.l0 k a b i) (n := a.length) (P := fun i => rd a i = rd b i) (a := true) (b := false) (by omega)
      (fun i h0 h1 hp r h => by
        refine Ev.step (fun k => by rw [laws_eqIntS.l0]) ?_
        simp only [if_pos h0, if_pos h1, if_pos (show i < (b.length : Int) by omega), if_pos hp, w64 (show -9223372036854775808 ≤ i + 1 by omega) (by omega)]
        exact h)
      (fun i h0 h1 hp => by
        refine Ev.step (fun k => by rw [laws_eqIntS.l0]) ?_
        simp only [if_pos h0, if_pos h1, if_pos (show i < (b.length : Int) by omega), if_neg hp]
        exact Ev.now _)
      (fun i h0 h1 => by
        refine Ev.step (fun k => by rw [laws_eqIntS.l0]) ?_
        simp only [if_neg (show ¬ i < (a.length : Int) by omega)]
        exact Ev.now _)
    refine Ev.as h ?_
    split
    · rename_i hc
      exact (decide_eq_true (rd_ext (by omega) fun i h0 h1 => hc i h0 h1)).symm
    · rename_i hc
      exact (decide_eq_false fun e => hc fun i h0 h1 => by rw [e]).symm
  · simp only [if_neg hl]
    exact Ev.some (decide_eq_false fun e => hl (by rw [e])).symm
theorem eqIntS_self (a : List Int) (ha : a.length ≤ 9223372036854775806) : Ev (fun k => laws_eqIntS.f k a a) true :=
  Ev.as (eqIntS_ev a a ha) (decide_eq_true rfl)

theorem markIntS_ev (l : List Int) (hl : l.length ≤ 1048576) (m : Int) (hm : 0 ≤ m) (hm2 : m ≤ 4611686018427387904) : Ev (fun k => laws_markIntS.f k l m) (m + l.length, marks m l.length) := by
  unfold laws_markIntS.f
  have h := Ev.fold (l := fun k (s : List Int × Int) i => laws_markIntS.l0 k s.1 s.2 i) (n := l.length) (fun i => (marks m i.toNat ++ l.drop i.toNat, m + i)) (a := (m + l.length, marks m l.length))
    (fun i h0 h1 r h => by
      refine Ev.step (fun k => by rw [laws_markIntS.l0]) ?_
      have hx : i < ((marks m i.toNat ++ l.drop i.toNat).length : Int) := by
        rw [List.length_append, marks_length, List.length_drop]; omega
      simp only [if_pos h0, if_pos hx, w64 (show -9223372036854775808 ≤ i + 1 by omega) (by omega), w64 (show -9223372036854775808 ≤ m + i + 1 by omega) (by omega)]
      rw [List.set_append_right _ _ (by rw [marks_length]; omega), marks_length, Nat.sub_self]
      have e : l.drop i.toNat = l[i.toNat]'(by omega) :: l.drop (i + 1).toNat := by
        rw [toNat_succ h0]; exact List.drop_eq_getElem_cons (by omega)
      rw [e, List.set_cons_zero]
      have e2 : marks m (i + 1).toNat = marks m i.toNat ++ [m + i] := by
        rw [toNat_succ h0]; unfold marks; rw [List.range_succ, List.map_append]; simp; omega
      simp only [e2, List.append_assoc, List.singleton_append, ← Int.add_assoc] at h
      exact h)
    (by
      refine Ev.step (fun k => by rw [laws_markIntS.l0]) ?_
      have hx : ¬ (l.length : Int) < ((marks m (l.length : Int).toNat ++ l.drop (l.length : Int).toNat).length : Int) := by
        rw [List.length_append, marks_length, List.length_drop]; omega
      simp only [if_neg hx]
      exact Ev.some (by simp))
    l.length 0 (by omega) (by omega)
  simpa [marks] using h
theorem heldIntS_ev (n : Nat) (hn : n ≤ 1048576) (m : Int) (hm : 0 ≤ m) (hm2 : m ≤ 4611686018427387904) : Ev (fun k => laws_heldIntS.f k (marks m n) m) (m + n) := by
  unfold laws_heldIntS.f
  have h := Ev.fold (l := fun k (s : Int) i => laws_heldIntS.l0 k (marks m n) s i) (n := n) (fun i => m + i) (a := m + n)
    (fun i h0 h1 r h => by
      refine Ev.step (fun k => by rw [laws_heldIntS.l0]) ?_
      simp only [if_pos h0, marks_length, if_pos h1, if_pos (rd_marks m n i h0 h1), w64 (show -9223372036854775808 ≤ i + 1 by omega) (by omega), w64 (show -9223372036854775808 ≤ m + i + 1 by omega) (by omega)]
      simp only [← Int.add_assoc] at h
      exact h)
    (by
      refine Ev.step (fun k => by rw [laws_heldIntS.l0]) ?_
      simp only [marks_length, if_neg (show ¬ (n : Int) < (n : Int) by omega)]
      exact Ev.now _)
    n 0 (by omega) (by omega)
  simpa using h

/-- The list's places are fine: each a weight, none less than the one before. -/
def KitAt (l : List Int) (i : Int) : Prop := (1 ≤ rd l i ∧ rd l i ≤ 99) ∧ (0 < i → rd l (i - 1) ≤ rd l i)
open Classical in
noncomputable def kitB (l : List Int) : Bool := if ∀ j, 0 ≤ j → j < (l.length : Int) → KitAt l j then decide (1 ≤ (l.length : Int) ∧ (l.length : Int) ≤ 6) else false

theorem l3Kit_ev (l : List Int) (hl : l.length ≤ 9223372036854775806) : Ev (fun k => spec_l3Kit.f k l) (kitB l) := by
  unfold spec_l3Kit.f kitB
  refine Ev.count' (l := fun k i => spec_l3Kit.l0 k l i) (n := l.length) (P := KitAt l) (by omega) ?_ ?_ ?_
  · intro i h0 h1 hp r h
    refine Ev.step (fun k => by rw [spec_l3Kit.l0]) ?_
    simp only [if_pos h0, if_pos h1, l1In_eq, Option.bind_some, decide_eq_true_eq, if_pos hp.1]
    by_cases hi : i > 0
    · simp only [if_pos hi, w64 (show -9223372036854775808 ≤ i - 1 by omega) (by omega), w64 (show -9223372036854775808 ≤ i + 1 by omega) (by omega), if_pos (show 0 ≤ i - 1 by omega), if_pos (show i - 1 < (l.length : Int) by omega), if_neg (show ¬ rd l (i - 1) > rd l i from by have := hp.2 hi; omega)]
      exact h
    · simp only [if_neg hi, w64 (show -9223372036854775808 ≤ i + 1 by omega) (by omega)]
      exact h
  · intro i h0 h1 hp
    refine Ev.step (fun k => by rw [spec_l3Kit.l0]) ?_
    simp only [if_pos h0, if_pos h1, l1In_eq, Option.bind_some, decide_eq_true_eq]
    by_cases hw : 1 ≤ rd l i ∧ rd l i ≤ 99
    · have hi : i > 0 := by
        by_cases hi : i > 0
        · exact hi
        · exact absurd ⟨hw, fun h => absurd h hi⟩ hp
      simp only [if_pos hw, if_pos hi, w64 (show -9223372036854775808 ≤ i - 1 by omega) (by omega), if_pos (show 0 ≤ i - 1 by omega), if_pos (show i - 1 < (l.length : Int) by omega), if_pos (show rd l (i - 1) > rd l i from by
        have : ¬ rd l (i - 1) ≤ rd l i := fun h => hp ⟨hw, fun _ => h⟩
        omega)]
      exact Ev.now _
    · simp only [if_neg hw]
      exact Ev.now _
  · intro i h0 h1
    refine Ev.step (fun k => by rw [spec_l3Kit.l0]) ?_
    simp only [if_neg (show ¬ i < (l.length : Int) by omega), l1In_eq, Option.bind_some]
    exact Ev.now _

theorem implIsKit_ev (l : List Int) (hl : l.length ≤ 9223372036854775806) : Ev (fun k => impl_IsKit.f k l) (kitB l) := by
  unfold impl_IsKit.f kitB
  refine Ev.count' (l := fun k i => impl_IsKit.l0 k l l l.length i) (n := l.length) (P := KitAt l) (by omega) ?_ ?_ ?_
  · intro i h0 h1 hp r h
    refine Ev.step (fun k => by rw [impl_IsKit.l0]) ?_
    simp only [if_pos h0, if_pos h1, isWeight_eq, Option.bind_some, decide_eq_true_eq, if_pos hp.1]
    by_cases hi : i > 0
    · simp only [if_pos hi, w64 (show -9223372036854775808 ≤ i - 1 by omega) (by omega), w64 (show -9223372036854775808 ≤ i + 1 by omega) (by omega), if_pos (show 0 ≤ i - 1 by omega), if_pos (show i - 1 < (l.length : Int) by omega), if_neg (show ¬ rd l i < rd l (i - 1) from by have := hp.2 hi; omega)]
      exact h
    · simp only [if_neg hi, w64 (show -9223372036854775808 ≤ i + 1 by omega) (by omega)]
      exact h
  · intro i h0 h1 hp
    refine Ev.step (fun k => by rw [impl_IsKit.l0]) ?_
    simp only [if_pos h0, if_pos h1, isWeight_eq, Option.bind_some, decide_eq_true_eq]
    by_cases hw : 1 ≤ rd l i ∧ rd l i ≤ 99
    · have hi : i > 0 := by
        by_cases hi : i > 0
        · exact hi
        · exact absurd ⟨hw, fun h => absurd h hi⟩ hp
      simp only [if_pos hw, if_pos hi, w64 (show -9223372036854775808 ≤ i - 1 by omega) (by omega), if_pos (show 0 ≤ i - 1 by omega), if_pos (show i - 1 < (l.length : Int) by omega), if_pos (show rd l i < rd l (i - 1) from by
        have : ¬ rd l (i - 1) ≤ rd l i := fun h => hp ⟨hw, fun _ => h⟩
        omega)]
      exact Ev.now _
    · simp only [if_neg hw]
      exact Ev.now _
  · intro i h0 h1
    refine Ev.step (fun k => by rw [impl_IsKit.l0]) ?_
    simp only [if_neg (show ¬ i < (l.length : Int) by omega), within_eq, Option.bind_some]
    exact Ev.now _

/-- All lists of signs from low on, in their order. -/
def allL (low : Int) : Nat → List (List Int)
  | 0 => [[]]
  | n + 1 => (impl_eachSigns.upto low).flatMap fun g => (allL low n).map (g :: ·)
def dotW : List Int → List Int → Int
  | x :: kit, g :: y => g * x + dotW kit y
  | _, _ => 0
theorem upto_mem {low g : Int} (h : g ∈ impl_eachSigns.upto low) : -1 ≤ g ∧ g ≤ 1 := by
  unfold impl_eachSigns.upto at h
  split at h
  · simp at h; omega
  · split at h
    · simp at h; omega
    · split at h
      · simp at h; omega
      · simp at h
theorem allL_mem {low : Int} : ∀ {n : Nat} {y : List Int}, y ∈ allL low n → y.length = n ∧ ∀ g ∈ y, -1 ≤ g ∧ g ≤ 1
  | 0, y, h => by
    simp [allL] at h
    subst h
    simp
  | n + 1, y, h => by
    simp only [allL, List.mem_flatMap, List.mem_map] at h
    obtain ⟨g, hg, y2, hy, rfl⟩ := h
    obtain ⟨h1, h2⟩ := allL_mem hy
    refine ⟨by simp [h1], fun z hz => ?_⟩
    rcases List.mem_cons.1 hz with rfl | hz
    · exact upto_mem hg
    · exact h2 z hz
theorem foldlM_flat {σ : Type} (tf : σ → List Int → Int → Option σ) (low : Int) (rest pre : List Int) (sum x : Int) (n : Nat)
    (hG : ∀ g, -1 ≤ g → g ≤ 1 → ∀ s, impl_eachSigns.eachG tf low rest (pre ++ [g]) (wrap64 (sum + wrap64 (g * x))) s = (allL low n).foldlM (fun s y => tf s (pre ++ g :: y) (sum + dotW (x :: rest) (g :: y))) s) :
    ∀ (L : List Int), (∀ g ∈ L, -1 ≤ g ∧ g ≤ 1) → ∀ s, L.foldlM (fun s g => impl_eachSigns.eachG tf low rest (pre ++ [g]) (wrap64 (sum + wrap64 (g * x))) s) s = (L.flatMap fun g => (allL low n).map (g :: ·)).foldlM (fun s y => tf s (pre ++ y) (sum + dotW (x :: rest) y)) s
  | [], _, s => rfl
  | g :: L, hL, s => by
    rw [List.foldlM_cons, List.flatMap_cons, List.foldlM_append, List.foldlM_map, hG g (hL g (List.mem_cons_self)).1 (hL g (List.mem_cons_self)).2 s]
    congr 1
    funext s2
    exact foldlM_flat tf low rest pre sum x n hG L (fun z hz => hL z (List.mem_cons_of_mem _ hz)) s2
theorem eachG_foldM {σ : Type} (tf : σ → List Int → Int → Option σ) (low : Int) (kit : List Int) : ∀ (pre : List Int) (sum : Int) (s : σ), (∀ x ∈ kit, 0 ≤ x ∧ x ≤ 99) → -1000000 + 99 * (kit.length : Int) ≤ sum → sum ≤ 1000000 - 99 * (kit.length : Int) →
    impl_eachSigns.eachG tf low kit pre sum s = (allL low kit.length).foldlM (fun s y => tf s (pre ++ y) (sum + dotW kit y)) s := by
  induction kit with
  | nil =>
    intro pre sum s _ _ _
    simp only [impl_eachSigns.eachG, allL, List.length_nil, List.foldlM_cons, List.foldlM_nil, List.append_nil, dotW, Int.add_zero]
    cases tf s pre sum <;> rfl
  | cons x kit ih =>
    intro pre sum s hk h0 h1
    rw [List.length_cons] at h0 h1
    have hx := hk x (List.mem_cons_self)
    have hk2 : ∀ z ∈ kit, 0 ≤ z ∧ z ≤ 99 := fun z hz => hk z (List.mem_cons_of_mem _ hz)
    rw [impl_eachSigns.eachG, List.length_cons, allL]
    refine foldlM_flat tf low kit pre sum x kit.length (fun g g0 g1 s => ?_) _ (fun g hg => upto_mem hg) s
    have hgx : -99 ≤ g * x ∧ g * x ≤ 99 := by
      rcases (show g = -1 ∨ g = 0 ∨ g = 1 by omega) with rfl | rfl | rfl <;> omega
    rw [w64 (show -9223372036854775808 ≤ g * x by omega) (by omega), w64 (show -9223372036854775808 ≤ sum + g * x by omega) (by omega)]
    rw [ih (pre ++ [g]) (sum + g * x) s hk2 (by omega) (by omega)]
    congr 1
    funext s2 y
    rw [List.append_assoc, List.singleton_append]
    congr 1
    show sum + g * x + dotW kit y = sum + (g * x + dotW kit y)
    omega

def sumK : List Int → Int
  | [] => 0
  | x :: l => x + sumK l
/-- A number that signs from low on weigh. -/
def Reach (low : Int) (kit : List Int) (s : Int) : Prop := ∃ y : List Int, y.length = kit.length ∧ (∀ g ∈ y, g ∈ impl_eachSigns.upto low) ∧ dotW kit y = s
theorem allL_iff (low : Int) : ∀ (n : Nat) (y : List Int), y ∈ allL low n ↔ y.length = n ∧ ∀ g ∈ y, g ∈ impl_eachSigns.upto low
  | 0, y => by
    rw [allL, List.mem_singleton]
    constructor
    · rintro rfl
      exact ⟨rfl, fun g hg => by cases hg⟩
    · rintro ⟨h, _⟩
      exact List.length_eq_zero_iff.1 h
  | n + 1, y => by
    rw [allL]
    simp only [List.mem_flatMap, List.mem_map]
    constructor
    · rintro ⟨g, hg, y2, hy, rfl⟩
      obtain ⟨h1, h2⟩ := (allL_iff low n y2).1 hy
      refine ⟨by rw [List.length_cons, h1], fun z hz => ?_⟩
      rcases List.mem_cons.1 hz with rfl | hz
      · exact hg
      · exact h2 z hz
    · rintro ⟨h1, h2⟩
      match y, h1, h2 with
      | g :: y2, h1, h2 => exact ⟨g, h2 g (List.mem_cons_self), y2, (allL_iff low n y2).2 ⟨by simpa using h1, fun z hz => h2 z (List.mem_cons_of_mem _ hz)⟩, rfl⟩
theorem dotW_snoc : ∀ (kit y : List Int) (x g : Int), y.length = kit.length → dotW (kit ++ [x]) (y ++ [g]) = dotW kit y + g * x
  | [], [], x, g, _ => by simp [dotW]
  | a :: kit, b :: y, x, g, h => by
    simp only [List.cons_append, dotW]
    rw [dotW_snoc kit y x g (by simpa using h)]
    omega
  | [], b :: y, x, g, h => by simp at h
  | a :: kit, [], x, g, h => by simp at h
theorem reach_nil (low s : Int) : Reach low [] s ↔ s = 0 := by
  constructor
  · rintro ⟨y, h, _, hd⟩
    have : y = [] := List.length_eq_zero_iff.1 h
    subst this
    exact hd.symm
  · rintro rfl
    exact ⟨[], rfl, fun g hg => (by cases hg), rfl⟩
theorem reach_snoc (low : Int) (kit : List Int) (x s : Int) : Reach low (kit ++ [x]) s ↔ ∃ g ∈ impl_eachSigns.upto low, Reach low kit (s - g * x) := by
  constructor
  · rintro ⟨y, h, hg, hd⟩
    have hne : y ≠ [] := by
      rintro rfl
      simp at h
    obtain ⟨y2, g, rfl⟩ : ∃ y2 g, y = y2 ++ [g] := ⟨y.dropLast, y.getLast hne, (List.dropLast_concat_getLast hne).symm⟩
    have h2 : y2.length = kit.length := by simpa using h
    rw [dotW_snoc kit y2 x g h2] at hd
    exact ⟨g, hg g (by simp), y2, h2, fun z hz => hg z (by simp [hz]), by omega⟩
  · rintro ⟨g, hg, y, h, hy, hd⟩
    refine ⟨y ++ [g], by simp [h], fun z hz => ?_, by rw [dotW_snoc kit y x g h]; omega⟩
    rcases List.mem_append.1 hz with hz | hz
    · exact hy z hz
    · rw [List.mem_singleton.1 hz]
      exact hg
theorem dot_bound : ∀ (kit y : List Int), (∀ x ∈ kit, 0 ≤ x) → (∀ g ∈ y, -1 ≤ g ∧ g ≤ 1) → -sumK kit ≤ dotW kit y ∧ dotW kit y ≤ sumK kit
  | [], y, _, _ => by simp [dotW, sumK]
  | x :: kit, [], hk, _ => by
    have h1 := dot_bound kit [] (fun z hz => hk z (List.mem_cons_of_mem _ hz)) (fun g hg => by cases hg)
    have hx := hk x (List.mem_cons_self)
    have e : dotW kit [] = 0 := by cases kit <;> rfl
    rw [e] at h1
    show -(x + sumK kit) ≤ 0 ∧ 0 ≤ x + sumK kit
    omega
  | x :: kit, g :: y, hk, hg => by
    have h1 := dot_bound kit y (fun z hz => hk z (List.mem_cons_of_mem _ hz)) (fun z hz => hg z (List.mem_cons_of_mem _ hz))
    have hx := hk x (List.mem_cons_self)
    have hgg := hg g (List.mem_cons_self)
    show -(x + sumK kit) ≤ g * x + dotW kit y ∧ g * x + dotW kit y ≤ x + sumK kit
    rcases (show g = -1 ∨ g = 0 ∨ g = 1 by omega) with rfl | rfl | rfl <;> omega
theorem reach_bound {low s : Int} {kit : List Int} (hk : ∀ x ∈ kit, 0 ≤ x) (h : Reach low kit s) : -sumK kit ≤ s ∧ s ≤ sumK kit := by
  obtain ⟨y, _, hg, rfl⟩ := h
  exact dot_bound kit y hk (fun g hz => upto_mem (hg g hz))
theorem sumK_snoc : ∀ (l : List Int) (x : Int), sumK (l ++ [x]) = sumK l + x
  | [], x => by simp [sumK]
  | a :: l, x => by
    show a + sumK (l ++ [x]) = a + sumK l + x
    rw [sumK_snoc l x]
    omega
theorem sumK_bound : ∀ (l : List Int), (∀ x ∈ l, 1 ≤ x ∧ x ≤ 99) → (l.length : Int) ≤ sumK l ∧ sumK l ≤ 99 * (l.length : Int)
  | [], _ => by simp [sumK]
  | a :: l, h => by
    have h1 := sumK_bound l (fun x hx => h x (List.mem_cons_of_mem _ hx))
    have h2 := h a (List.mem_cons_self)
    rw [List.length_cons]
    show _ ≤ a + sumK l ∧ a + sumK l ≤ _
    omega
theorem sumK_take : ∀ (l : List Int) (i : Nat), (∀ x ∈ l, 0 ≤ x) → 0 ≤ sumK (l.take i) ∧ sumK (l.take i) ≤ sumK l
  | [], i, _ => by simp [sumK]
  | a :: l, 0, h => by
    have h1 := sumK_take l 0 (fun x hx => h x (List.mem_cons_of_mem _ hx))
    have h2 := h a (List.mem_cons_self)
    rw [List.take_zero] at h1 ⊢
    show 0 ≤ (0 : Int) ∧ (0 : Int) ≤ a + sumK l
    have : (0 : Int) ≤ sumK l := h1.2
    omega
  | a :: l, i + 1, h => by
    have h1 := sumK_take l i (fun x hx => h x (List.mem_cons_of_mem _ hx))
    have h2 := h a (List.mem_cons_self)
    rw [List.take_succ_cons]
    show 0 ≤ a + sumK (l.take i) ∧ a + sumK (l.take i) ≤ a + sumK l
    omega
theorem kitB_at1 {l : List Int} (h : kitB l = true) : (1 ≤ l.length ∧ l.length ≤ 6) ∧ ∀ x ∈ l, 1 ≤ x ∧ x ≤ 99 := by
  unfold kitB at h
  split at h
  · rename_i hk
    have h2 := of_decide_eq_true h
    refine ⟨by omega, fun x hx => ?_⟩
    obtain ⟨j, hj, rfl⟩ := List.getElem_of_mem hx
    have := (hk (j : Int) (by omega) (by omega)).1
    have e : rd l (j : Int) = l[j] := by
      unfold rd
      rw [Int.toNat_natCast]
      exact getD_lt _ hj
    rw [e] at this
    omega
  · cases h
theorem rdB_set (l : List Bool) (a t : Int) (ha : 0 ≤ a) (ht : 0 ≤ t) (hl : a < (l.length : Int)) : rdOf false (l.set a.toNat true) t = true ↔ t = a ∨ rdOf false l t = true := by
  unfold rdOf
  rw [List.getD_eq_getElem?_getD, List.getElem?_set, List.getD_eq_getElem?_getD]
  by_cases h : a.toNat = t.toNat
  · rw [if_pos h, if_pos (by omega)]
    simp only [Option.getD_some, true_iff]
    exact .inl (by omega)
  · rw [if_neg h]
    constructor
    · exact .inr
    · rintro (e | e)
      · omega
      · exact e
theorem rdB_false (n : Nat) (t : Int) : rdOf false (List.replicate n false) t = false := by
  unfold rdOf
  rw [List.getD_eq_getElem?_getD]
  by_cases h : t.toNat < n
  · rw [List.getElem?_replicate, if_pos h]; rfl
  · rw [List.getElem?_replicate, if_neg h]; rfl
theorem l1Least_le {a b : Int} (h : a ≤ b) : spec_l1Least.f a b = some a := by
  unfold spec_l1Least.f
  split
  · rfl
  · rw [show b = a by omega]
theorem l1Most_ge {a b : Int} (h : b ≤ a) : spec_l1Most.f a b = some a := by
  unfold spec_l1Most.f
  split
  · rfl
  · rw [show b = a by omega]
/-- What a weight makes of what was reached, places below j alone. -/
def Next (now : List Bool) (two : Bool) (x j t : Int) : Prop := ∃ s, 0 ≤ s ∧ s < j ∧ rdOf false now s = true ∧ (t = s ∨ t = s + x ∨ (two = true ∧ t = s - x))
theorem next_succ (now : List Bool) (two : Bool) (x j t : Int) (hj : 0 ≤ j) : Next now two x (j + 1) t ↔ Next now two x j t ∨ (rdOf false now j = true ∧ (t = j ∨ t = j + x ∨ (two = true ∧ t = j - x))) := by
  constructor
  · rintro ⟨s, h0, h1, h2, h3⟩
    by_cases e : s = j
    · subst e
      exact .inr ⟨h2, h3⟩
    · exact .inl ⟨s, h0, by omega, h2, h3⟩
  · rintro (⟨s, h0, h1, h2, h3⟩ | ⟨h2, h3⟩)
    · exact ⟨s, h0, by omega, h2, h3⟩
    · exact ⟨j, hj, by omega, h2, h3⟩
theorem sums_row (kit : List Int) (two : Bool) (T i x : Int) (now : List Bool) (hT : 0 ≤ T) (hT2 : T ≤ 594) (hn : (now.length : Int) = 2 * T + 1) (hi : 0 ≤ i) (hi2 : i < (kit.length : Int)) (hk6 : kit.length ≤ 6) (hx : rd kit i = x) (hx0 : 1 ≤ x) (hx1 : x ≤ 99)
    (hb : ∀ s, 0 ≤ s → rdOf false now s = true → s + x ≤ 2 * T ∧ 0 ≤ s - x) : ∀ (d j : Nat) (nx : List Bool), j + d = now.length → nx.length = now.length → (∀ t, 0 ≤ t → (rdOf false nx t = true ↔ Next now two x j t)) →
    ∃ nx2 : List Bool, nx2.length = now.length ∧ (∀ t, 0 ≤ t → (rdOf false nx2 t = true ↔ Next now two x now.length t)) ∧ ∀ r, Ev (fun k => spec_l3Sums.l1 k kit two T nx2 (i + 1)) r → Ev (fun k => spec_l3Sums.l2 k kit two T now i nx (j : Int)) r := by
  intro d
  induction d with
  | zero =>
    intro j nx h hl hq
    refine ⟨nx, hl, fun t ht => ?_, fun r hr => ?_⟩
    · rw [hq t ht, show j = now.length by omega]
    · refine Ev.step (fun k => by rw [spec_l3Sums.l2]) ?_
      simp only [if_neg (show ¬ (j : Int) < (now.length : Int) by omega), w64 (show -9223372036854775808 ≤ i + 1 by omega) (by omega)]
      exact hr
  | succ d ih =>
    intro j nx h hl hq
    have c1 : (j : Int) < (now.length : Int) := by omega
    have c0 : 0 ≤ (j : Int) := Int.natCast_nonneg _
    have c2 : (j : Int) < (nx.length : Int) := by omega
    have e1 : (j : Int) + 1 = ((j + 1 : Nat) : Int) := (Int.natCast_add j 1).symm
    have ej : wrap64 ((j : Int) + 1) = ((j + 1 : Nat) : Int) := by rw [w64 (by omega) (by omega)]; exact e1
    have e2T : wrap64 (2 * T) = 2 * T := w64 (by omega) (by omega)
    by_cases hbj : rdOf false now (j : Int) = true
    · obtain ⟨b1, b2⟩ := hb j c0 hbj
      have ep : wrap64 ((j : Int) + x) = (j : Int) + x := w64 (by omega) (by omega)
      have em : wrap64 ((j : Int) - x) = (j : Int) - x := w64 (by omega) (by omega)
      have g1 : 0 ≤ (j : Int) + x := by omega
      have g2 : (j : Int) + x < (nx.length : Int) := by omega
      have g3 : 0 ≤ (j : Int) - x := by omega
      have g4 : (j : Int) - x < (nx.length : Int) := by omega
      have hset : ∀ t, 0 ≤ t → (rdOf false ((nx.set ((j : Int)).toNat true).set ((j : Int) + x).toNat true) t = true ↔ t = (j : Int) + x ∨ t = j ∨ Next now two x j t) := by
        intro t ht
        rw [rdB_set _ _ _ g1 ht (by rw [List.length_set]; exact g2), rdB_set _ _ _ c0 ht c2, hq t ht]
      cases two with
      | false =>
        obtain ⟨nx2, hl2, hq2, hr2⟩ := ih (j + 1) ((nx.set ((j : Int)).toNat true).set ((j : Int) + x).toNat true) (by omega) (by rw [List.length_set, List.length_set]; exact hl) (fun t ht => by
          rw [hset t ht, ← e1, next_succ now false x j t c0]
          constructor
          · rintro (e | e | e)
            · exact .inr ⟨hbj, .inr (.inl e)⟩
            · exact .inr ⟨hbj, .inl e⟩
            · exact .inl e
          · rintro (e | ⟨_, e | e | e⟩)
            · exact .inr (.inr e)
            · exact .inr (.inl e)
            · exact .inl e
            · cases e.1)
        refine ⟨nx2, hl2, hq2, fun r hr => ?_⟩
        refine Ev.step (fun k => by rw [spec_l3Sums.l2]) ?_
        simp only [if_pos c1, if_pos c0, hbj, if_true, if_pos c2, if_pos hi, if_pos hi2, hx, ep, e2T, l1Least_le b1, Option.bind_some, if_pos g1, if_pos g2, Bool.false_eq_true, if_false, ej]
        exact hr2 r hr
      | true =>
        obtain ⟨nx2, hl2, hq2, hr2⟩ := ih (j + 1) (((nx.set ((j : Int)).toNat true).set ((j : Int) + x).toNat true).set ((j : Int) - x).toNat true) (by omega) (by rw [List.length_set, List.length_set, List.length_set]; exact hl) (fun t ht => by
          rw [rdB_set _ _ _ g3 ht (by rw [List.length_set, List.length_set]; exact g4), hset t ht, ← e1, next_succ now true x j t c0]
          constructor
          · rintro (e | e | e | e)
            · exact .inr ⟨hbj, .inr (.inr ⟨rfl, e⟩)⟩
            · exact .inr ⟨hbj, .inr (.inl e)⟩
            · exact .inr ⟨hbj, .inl e⟩
            · exact .inl e
          · rintro (e | ⟨_, e | e | e⟩)
            · exact .inr (.inr (.inr e))
            · exact .inr (.inr (.inl e))
            · exact .inr (.inl e)
            · exact .inl e.2)
        refine ⟨nx2, hl2, hq2, fun r hr => ?_⟩
        refine Ev.step (fun k => by rw [spec_l3Sums.l2]) ?_
        simp only [if_pos c1, if_pos c0, hbj, if_true, if_pos c2, if_pos hi, if_pos hi2, hx, ep, em, e2T, l1Least_le b1, l1Most_ge b2, Option.bind_some, if_pos g1, if_pos g2, if_pos g3, if_pos g4, ej]
        exact hr2 r hr
    · obtain ⟨nx2, hl2, hq2, hr2⟩ := ih (j + 1) nx (by omega) hl (fun t ht => by
        rw [hq t ht, ← e1, next_succ now two x j t c0]
        constructor
        · exact .inl
        · rintro (e | e)
          · exact e
          · exact absurd e.1 hbj)
      refine ⟨nx2, hl2, hq2, fun r hr => ?_⟩
      refine Ev.step (fun k => by rw [spec_l3Sums.l2]) ?_
      simp only [if_pos c1, if_pos c0, if_neg hbj, ej]
      exact hr2 r hr
def lowOf (two : Bool) : Int := if two = true then -1 else 0
theorem upto_low (two : Bool) (g : Int) : g ∈ impl_eachSigns.upto (lowOf two) ↔ g = 0 ∨ g = 1 ∨ (two = true ∧ g = -1) := by
  cases two
  · rw [show impl_eachSigns.upto (lowOf false) = [0, 1] from rfl]
    simp
  · rw [show impl_eachSigns.upto (lowOf true) = [-1, 0, 1] from rfl]
    simp
    omega
theorem sums_all (kit : List Int) (two : Bool) (hk : ∀ x ∈ kit, 1 ≤ x ∧ x ≤ 99) (hk6 : kit.length ≤ 6) : ∀ (d i : Nat) (now : List Bool), i + d = kit.length → (now.length : Int) = 2 * sumK kit + 1 → (∀ t, 0 ≤ t → (rdOf false now t = true ↔ Reach (lowOf two) (kit.take i) (t - sumK kit))) →
    ∃ res : List Bool, Ev (fun k => spec_l3Sums.l1 k kit two (sumK kit) now (i : Int)) res ∧ (res.length : Int) = sumK kit + 1 ∧ ∀ n, 0 ≤ n → (rdOf false res n = true ↔ Reach (lowOf two) kit n) := by
  have hT := sumK_bound kit hk
  have hk0 : ∀ x ∈ kit, 0 ≤ x := fun x hx => by have := hk x hx; omega
  intro d
  induction d with
  | zero =>
    intro i now h hl hq
    have hi : kit.take i = kit := List.take_of_length_le (by omega)
    refine ⟨now.drop (sumK kit).toNat, ?_, by rw [List.length_drop]; omega, fun n hn => ?_⟩
    · refine Ev.step (fun k => by rw [spec_l3Sums.l1]) ?_
      simp only [if_neg (show ¬ (i : Int) < (kit.length : Int) by omega), if_pos (show 0 ≤ sumK kit by omega), if_pos (show sumK kit ≤ (now.length : Int) by omega)]
      exact Ev.now _
    · have e : rdOf false (now.drop (sumK kit).toNat) n = rdOf false now (n + sumK kit) := by
        unfold rdOf
        rw [List.getD_eq_getElem?_getD, List.getElem?_drop, List.getD_eq_getElem?_getD, show (sumK kit).toNat + n.toNat = (n + sumK kit).toNat by omega]
      rw [e, hq _ (by omega), hi, show n + sumK kit - sumK kit = n by omega]
  | succ d ih =>
    intro i now h hl hq
    have hik : i < kit.length := by omega
    have hxk := hk _ (List.getElem_mem hik)
    have hx : rd kit (i : Int) = kit[i] := by
      unfold rd
      rw [Int.toNat_natCast]
      exact getD_lt _ hik
    have htk : kit.take (i + 1) = kit.take i ++ [kit[i]] := by
      rw [List.take_add_one, List.getElem?_eq_getElem hik]
      rfl
    have hs1 : sumK (kit.take (i + 1)) = sumK (kit.take i) + kit[i] := by rw [htk, sumK_snoc]
    have hs2 := sumK_take kit (i + 1) hk0
    have hb : ∀ s, 0 ≤ s → rdOf false now s = true → s + kit[i] ≤ 2 * sumK kit ∧ 0 ≤ s - kit[i] := by
      intro s h0 h1
      have h2 := reach_bound (fun x hx => hk0 x (List.mem_of_mem_take hx)) ((hq s h0).1 h1)
      omega
    obtain ⟨nx2, hl2, hq2, hr2⟩ := sums_row kit two (sumK kit) i kit[i] now (by omega) (by omega) hl (by omega) (by omega) hk6 hx hxk.1 hxk.2 hb now.length 0 (List.replicate now.length false) (by omega) (List.length_replicate) (fun t ht => by
      rw [rdB_false]
      constructor
      · intro e; cases e
      · rintro ⟨s, h0, h1, _⟩
        omega)
    obtain ⟨res, hr, hlr, hqr⟩ := ih (i + 1) nx2 (by omega) (by rw [hl2]; exact hl) (fun t ht => by
      rw [hq2 t ht, htk, reach_snoc]
      constructor
      · rintro ⟨s, h0, h1, h2, h3⟩
        have h4 := (hq s h0).1 h2
        rcases h3 with e | e | e
        · exact ⟨0, (upto_low two 0).2 (.inl rfl), by rw [show t - sumK kit - 0 * kit[i] = s - sumK kit by omega]; exact h4⟩
        · exact ⟨1, (upto_low two 1).2 (.inr (.inl rfl)), by rw [show t - sumK kit - 1 * kit[i] = s - sumK kit by omega]; exact h4⟩
        · exact ⟨-1, (upto_low two (-1)).2 (.inr (.inr ⟨e.1, rfl⟩)), by rw [show t - sumK kit - -1 * kit[i] = s - sumK kit by omega]; exact h4⟩
      · rintro ⟨g, hg, h4⟩
        have h5 := reach_bound (fun x hx => hk0 x (List.mem_of_mem_take hx)) h4
        rcases (upto_low two g).1 hg with rfl | rfl | ⟨h6, rfl⟩
        · refine ⟨t, ht, by omega, (hq t ht).2 ?_, .inl rfl⟩
          rw [show t - sumK kit = t - sumK kit - 0 * kit[i] by omega]
          exact h4
        · refine ⟨t - kit[i], by omega, by omega, (hq _ (by omega)).2 ?_, .inr (.inl (by omega))⟩
          rw [show t - kit[i] - sumK kit = t - sumK kit - 1 * kit[i] by omega]
          exact h4
        · refine ⟨t + kit[i], by omega, by omega, (hq _ (by omega)).2 ?_, .inr (.inr ⟨h6, by omega⟩)⟩
          rw [show t + kit[i] - sumK kit = t - sumK kit - -1 * kit[i] by omega]
          exact h4)
    refine ⟨res, ?_, hlr, hqr⟩
    refine Ev.step (fun k => by rw [spec_l3Sums.l1]) ?_
    simp only [if_pos (show (i : Int) < (kit.length : Int) by omega), if_pos (show 0 ≤ (now.length : Int) by omega), Int.toNat_natCast, if_pos (show now.length ≤ 281474976710656 by omega)]
    refine hr2 res ?_
    rw [show (i : Int) + 1 = ((i + 1 : Nat) : Int) from (Int.natCast_add i 1).symm]
    exact hr
theorem sums_l0 (kit : List Int) (two : Bool) (hk : ∀ x ∈ kit, 1 ≤ x ∧ x ≤ 99) (hk6 : kit.length ≤ 6) {r : List Bool}
    (h : Ev (fun k => spec_l3Sums.l1 k kit two (sumK kit) ((List.replicate (2 * sumK kit + 1).toNat false).set (sumK kit).toNat true) 0) r) : ∀ (d j : Nat) (a : Int), j + d = kit.length → a + sumK (kit.drop j) = sumK kit → 0 ≤ a → a ≤ 99 * (j : Int) → Ev (fun k => spec_l3Sums.l0 k kit two a (j : Int)) r := by
  have hT := sumK_bound kit hk
  intro d
  induction d with
  | zero =>
    intro j a hj ha h0 h1
    rw [List.drop_eq_nil_of_le (by omega)] at ha
    have : a = sumK kit := by rw [← ha]; exact (Int.add_zero a).symm
    subst this
    have e2 : wrap64 (2 * sumK kit) = 2 * sumK kit := w64 (by omega) (by omega)
    have e3 : wrap64 (2 * sumK kit + 1) = 2 * sumK kit + 1 := w64 (by omega) (by omega)
    refine Ev.step (fun k => by rw [spec_l3Sums.l0]) ?_
    simp only [if_neg (show ¬ (j : Int) < (kit.length : Int) by omega), e2, e3, if_pos (show 0 ≤ 2 * sumK kit + 1 by omega), if_pos (show (2 * sumK kit + 1).toNat ≤ 281474976710656 by omega), Option.bind_some, if_pos (show 0 ≤ sumK kit by omega), List.length_replicate, if_pos (show sumK kit < ((2 * sumK kit + 1).toNat : Int) by omega)]
    exact h
  | succ d ih =>
    intro j a hj ha h0 h1
    have hjk : j < kit.length := by omega
    have hxk := hk _ (List.getElem_mem hjk)
    have hx : rd kit (j : Int) = kit[j] := by
      unfold rd
      rw [Int.toNat_natCast]
      exact getD_lt _ hjk
    rw [List.drop_eq_getElem_cons hjk] at ha
    have ha2 : a + kit[j] + sumK (kit.drop (j + 1)) = sumK kit := by rw [← ha, Int.add_assoc]; rfl
    have key := ih (j + 1) (a + kit[j]) (by omega) ha2 (by omega) (by omega)
    have b1 : -9223372036854775808 ≤ a + kit[j] ∧ a + kit[j] ≤ 9223372036854775807 := by omega
    have b2 : -9223372036854775808 ≤ (j : Int) + 1 ∧ (j : Int) + 1 ≤ 9223372036854775807 := by omega
    have c1 : (j : Int) < (kit.length : Int) := by omega
    have c0 : 0 ≤ (j : Int) := Int.natCast_nonneg _
    have ea : wrap64 (a + kit[j]) = a + kit[j] := w64 b1.1 b1.2
    have ej : wrap64 ((j : Int) + 1) = ((j + 1 : Nat) : Int) := (w64 b2.1 b2.2).trans (Int.natCast_add j 1).symm
    refine Ev.step (fun k => by rw [spec_l3Sums.l0]) ?_
    simp only [if_pos c1, if_pos c0, hx, ea, ej]
    exact key
theorem l3Sums_ev (kit : List Int) (two : Bool) (hk : ∀ x ∈ kit, 1 ≤ x ∧ x ≤ 99) (hk6 : kit.length ≤ 6) : ∃ res : List Bool, Ev (fun k => spec_l3Sums.f k kit two) res ∧ (res.length : Int) = sumK kit + 1 ∧ ∀ n, 0 ≤ n → (rdOf false res n = true ↔ Reach (lowOf two) kit n) := by
  have hT := sumK_bound kit hk
  obtain ⟨res, hr, hl, hq⟩ := sums_all kit two hk hk6 kit.length 0 ((List.replicate (2 * sumK kit + 1).toNat false).set (sumK kit).toNat true) (by omega) (by rw [List.length_set, List.length_replicate]; omega) (fun t ht => by
    rw [rdB_set _ _ _ (by omega) ht (by rw [List.length_replicate]; omega), rdB_false, List.take_zero, reach_nil]
    constructor
    · rintro (e | e)
      · omega
      · cases e
    · intro e; exact .inl (by omega))
  refine ⟨res, ?_, hl, hq⟩
  unfold spec_l3Sums.f
  exact sums_l0 kit two hk hk6 hr kit.length 0 0 (by omega) (by rw [List.drop_zero]; omega) (by omega) (by omega)

theorem mem_imp {α : Type} [Inhabited α] (d : Array α) (i : Nat) (h : i < d.size) : d[i]! ∈ d.toList := by
  rw [getElem!_pos d i h]
  simp
/-- A sorted list, told once each. -/
theorem compact_mem (l : List Int) (x : Int) : x ∈ Lib.compact l ↔ x ∈ l := by
  unfold Lib.compact Lib.compactUpTo
  rw [List.mem_map]
  constructor
  · rintro ⟨j, hj, rfl⟩
    rw [List.mem_filter, List.mem_range] at hj
    have := mem_imp l.toArray j (by simpa using hj.1)
    simpa using this
  · intro hx
    obtain ⟨i, hi, hxi⟩ := List.getElem_of_mem hx
    have key : ∀ (n i : Nat), i ≤ n → i < l.length → l.toArray[i]! = x → ∃ j, j ∈ (List.range l.length).filter (Lib.keeps l.toArray) ∧ l.toArray[j]! = x := by
      intro n
      induction n with
      | zero =>
        intro i h0 h1 h2
        refine ⟨i, List.mem_filter.2 ⟨List.mem_range.2 h1, ?_⟩, h2⟩
        rw [show i = 0 by omega]
        simp [Lib.keeps]
      | succ n ih =>
        intro i h0 h1 h2
        by_cases hk : Lib.keeps l.toArray i = true
        · exact ⟨i, List.mem_filter.2 ⟨List.mem_range.2 h1, hk⟩, h2⟩
        · unfold Lib.keeps at hk
          rw [decide_eq_true_eq] at hk
          have hi0 : i ≠ 0 := fun e => hk (.inl e)
          have he : l.toArray[i]! = l.toArray[i - 1]! := Classical.byContradiction fun e => hk (.inr e)
          exact ih (i - 1) (by omega) (by omega) (he ▸ h2)
    exact key i i (Nat.le_refl _) hi (by rw [getElem!_pos _ _ (by simpa using hi)]; simpa using hxi)
theorem compact_lt (l : List Int) (hs : l.Pairwise (· ≤ ·)) : (Lib.compact l).Pairwise (· < ·) := by
  unfold Lib.compact Lib.compactUpTo
  rw [List.pairwise_map]
  have hle : ∀ i j, i ≤ j → j < l.length → l.toArray[i]! ≤ l.toArray[j]! := by
    intro i j hij hj
    rw [getElem!_pos _ _ (by simpa using (show i < l.length by omega)), getElem!_pos _ _ (by simpa using hj)]
    rcases Nat.lt_or_ge i j with h | h
    · exact List.pairwise_iff_getElem.1 hs i j (by omega) hj h
    · obtain rfl : i = j := by omega
      exact Int.le_refl _
  refine List.Pairwise.imp_of_mem ?_ ((List.pairwise_lt_range (n := l.length)).filter _)
  intro i j hi hj hij
  rw [List.mem_filter, List.mem_range] at hi hj
  have hk := hj.2
  unfold Lib.keeps at hk
  rw [decide_eq_true_eq] at hk
  have h1 := hk.resolve_left (by omega)
  have h2 := hle i (j - 1) (by omega) (by omega)
  have h3 := hle (j - 1) j (by omega) hj.1
  omega
theorem lt_unique : ∀ (a b : List Int), a.Pairwise (· < ·) → b.Pairwise (· < ·) → (∀ x, x ∈ a ↔ x ∈ b) → a = b
  | [], [], _, _, _ => rfl
  | [], y :: b, _, _, h => by have := (h y).2 (List.mem_cons_self); cases this
  | x :: a, [], _, _, h => by have := (h x).1 (List.mem_cons_self); cases this
  | x :: a, y :: b, ha, hb, h => by
    rw [List.pairwise_cons] at ha hb
    have hxy : x = y := by
      rcases List.mem_cons.1 ((h x).1 (List.mem_cons_self)) with e | e
      · exact e
      · rcases List.mem_cons.1 ((h y).2 (List.mem_cons_self)) with e2 | e2
        · exact e2.symm
        · have h1 := hb.1 x e
          have h2 := ha.1 y e2
          omega
    subst hxy
    congr 1
    refine lt_unique a b ha.2 hb.2 (fun z => ?_)
    constructor
    · intro hz
      have h1 := ha.1 z hz
      rcases List.mem_cons.1 ((h z).1 (List.mem_cons_of_mem _ hz)) with e | e
      · omega
      · exact e
    · intro hz
      have h1 := hb.1 z hz
      rcases List.mem_cons.1 ((h z).2 (List.mem_cons_of_mem _ hz)) with e | e
      · omega
      · exact e
/-- The numbers in i + 1 .. i + d that are told. -/
def told (P : Int → Bool) : Nat → Int → List Int
  | 0, _ => []
  | d + 1, i => if P (i + 1) = true then (i + 1) :: told P d (i + 1) else told P d (i + 1)
theorem told_mem (P : Int → Bool) : ∀ (d : Nat) (i n : Int), n ∈ told P d i ↔ i < n ∧ n ≤ i + d ∧ P n = true
  | 0, i, n => by
    simp only [told, List.not_mem_nil, false_iff]
    omega
  | d + 1, i, n => by
    rw [told]
    split
    · rename_i h
      rw [List.mem_cons, told_mem P d (i + 1) n]
      constructor
      · rintro (rfl | ⟨h1, h2, h3⟩)
        · exact ⟨by omega, by omega, h⟩
        · exact ⟨by omega, by omega, h3⟩
      · rintro ⟨h1, h2, h3⟩
        by_cases e : n = i + 1
        · exact .inl e
        · exact .inr ⟨by omega, by omega, h3⟩
    · rename_i h
      rw [told_mem P d (i + 1) n]
      constructor
      · rintro ⟨h1, h2, h3⟩
        exact ⟨by omega, by omega, h3⟩
      · rintro ⟨h1, h2, h3⟩
        refine ⟨?_, by omega, h3⟩
        rcases (show n = i + 1 ∨ i + 1 < n by omega) with e | e
        · subst e
          exact absurd h3 h
        · exact e
theorem told_lt (P : Int → Bool) : ∀ (d : Nat) (i : Int), (told P d i).Pairwise (· < ·)
  | 0, i => List.Pairwise.nil
  | d + 1, i => by
    rw [told]
    split
    · rw [List.pairwise_cons]
      exact ⟨fun n hn => ((told_mem P d (i + 1) n).1 hn).1, told_lt P d (i + 1)⟩
    · exact told_lt P d (i + 1)
theorem told_len (P : Int → Bool) : ∀ (d : Nat) (i : Int), (told P d i).length ≤ d
  | 0, i => Nat.le_refl _
  | d + 1, i => by
    have := told_len P d (i + 1)
    rw [told]
    split
    · rw [List.length_cons]; omega
    · omega
/-- What weighing makes of all sums, in order and once each. -/
theorem moreM : ∀ (L : List (List Int)) (kit pre : List Int) (b : List Int), b.length + L.length < 17592186044416 → L.foldlM (fun s y => impl_weighed.more s (0 + dotW kit y)) b = some (b ++ ((L.map (dotW kit)).filter fun z => decide (z > 0)))
  | [], kit, pre, b, _ => by simp
  | y :: L, kit, pre, b, h => by
    rw [List.length_cons] at h
    rw [List.foldlM_cons, Int.zero_add, List.map_cons]
    unfold impl_weighed.more
    by_cases hp : dotW kit y > 0
    · rw [if_pos hp, if_pos (by omega), List.filter_cons_of_pos (by simpa using hp)]
      show L.foldlM _ (b ++ [dotW kit y]) = _
      have ih := moreM L kit pre (b ++ [dotW kit y]) (by rw [List.length_append, List.length_singleton]; omega)
      unfold impl_weighed.more at ih
      rw [ih, List.append_assoc]
      rfl
    · rw [if_neg hp, List.filter_cons_of_neg (by simpa using hp)]
      have ih := moreM L kit pre b (by omega)
      unfold impl_weighed.more at ih
      exact ih
theorem allL_len (two : Bool) : ∀ n, (allL (lowOf two) n).length ≤ 3 ^ n
  | 0 => Nat.le_refl _
  | n + 1 => by
    have ih := allL_len two n
    have hu : (impl_eachSigns.upto (lowOf two)).length ≤ 3 := by cases two <;> decide
    have : ∀ l : List Int, (l.flatMap fun g => (allL (lowOf two) n).map (g :: ·)).length = l.length * (allL (lowOf two) n).length := by
      intro l
      induction l with
      | nil => simp
      | cons a l ih => rw [List.flatMap_cons, List.length_append, ih, List.length_map, List.length_cons, Nat.succ_mul, Nat.add_comm]
    rw [allL, this, Nat.pow_succ, Nat.mul_comm]
    exact Nat.mul_le_mul ih hu
theorem weighed_eq (kit : List Int) (two : Bool) (res : List Bool) (hk : ∀ x ∈ kit, 1 ≤ x ∧ x ≤ 99) (hk1 : 1 ≤ kit.length) (hk6 : kit.length ≤ 6) (hq : ∀ n, 0 ≤ n → (rdOf false res n = true ↔ Reach (lowOf two) kit n)) :
    impl_weighed.f kit (lowOf two) = some (told (rdOf false res) (sumK kit).toNat 0) := by
  have hT := sumK_bound kit hk
  have hk0 : ∀ x ∈ kit, 0 ≤ x := fun x hx => by have := hk x hx; omega
  have hl : -1 ≤ lowOf two ∧ lowOf two ≤ 2 := by cases two <;> decide
  have h729 : (allL (lowOf two) kit.length).length ≤ 729 := Nat.le_trans (allL_len two kit.length) (Nat.pow_le_pow_right (by omega) hk6)
  unfold impl_weighed.f
  rw [if_pos ⟨hl.1, hl.2, by omega⟩, eachG_foldM _ _ kit [] 0 [] (fun x hx => by have := hk x hx; omega) (by omega) (by omega)]
  show ((allL (lowOf two) kit.length).foldlM (fun s y => impl_weighed.more s (0 + dotW kit y)) []).bind _ = _
  rw [moreM _ kit [] [] (by rw [List.length_nil]; omega), Option.bind_some, List.nil_append]
  generalize hL : ((allL (lowOf two) kit.length).map (dotW kit)).filter (fun z => decide (z > 0)) = L
  have hmem : ∀ n, n ∈ L ↔ 0 < n ∧ Reach (lowOf two) kit n := by
    intro n
    rw [← hL, List.mem_filter, List.mem_map, decide_eq_true_eq]
    constructor
    · rintro ⟨⟨y, hy, rfl⟩, h⟩
      exact ⟨h, y, ((allL_iff _ _ y).1 hy).1, ((allL_iff _ _ y).1 hy).2, rfl⟩
    · rintro ⟨h, y, h1, h2, rfl⟩
      exact ⟨⟨y, (allL_iff _ _ y).2 ⟨h1, h2⟩, rfl⟩, h⟩
  have hlen : L.length ≤ 729 := by
    rw [← hL]
    refine Nat.le_trans (List.length_filter_le _ _) ?_
    rw [List.length_map]
    exact h729
  have hones : ∀ l : List Int, dotW l (List.replicate l.length 1) = sumK l := by
    intro l
    induction l with
    | nil => rfl
    | cons a l ih =>
      rw [List.length_cons, List.replicate_succ]
      show 1 * a + dotW l (List.replicate l.length 1) = a + sumK l
      rw [ih, Int.one_mul]
  have hne : 0 < L.length := by
    have : sumK kit ∈ L := (hmem _).2 ⟨by omega, List.replicate kit.length 1, List.length_replicate, fun g hg => by rw [List.eq_of_mem_replicate hg]; exact (upto_low two 1).2 (.inr (.inl rfl)), hones kit⟩
    exact List.length_pos_of_mem this
  rw [if_pos ⟨hne, by omega⟩]
  congr 1
  refine lt_unique _ _ (compact_lt _ ?_) (told_lt _ _ _) (fun n => ?_)
  · have := List.pairwise_mergeSort (le := fun x y : Int => decide (x ≤ y)) (fun a b c h1 h2 => by simp only [decide_eq_true_eq] at *; omega) (fun a b => by simp only [Bool.or_eq_true, decide_eq_true_eq]; omega) L
    exact this.imp (fun h => by simpa using h)
  · rw [compact_mem, List.mem_mergeSort, hmem, told_mem]
    constructor
    · rintro ⟨h1, h2⟩
      have := reach_bound hk0 h2
      exact ⟨h1, by omega, (hq n (by omega)).2 h2⟩
    · rintro ⟨h1, _, h3⟩
      exact ⟨h1, (hq n (by omega)).1 h3⟩

theorem l3Told_l0 (res : List Bool) (hl : res.length ≤ 1000) : ∀ (d : Nat) (i : Int) (o : List Int), 0 ≤ i → i + 1 + d = res.length → (o.length : Int) ≤ i → Ev (fun k => spec_l3Told.l0 k res o (i + 1)) (o ++ told (rdOf false res) d i) := by
  intro d
  induction d with
  | zero =>
    intro i o h0 h1 h2
    refine Ev.step (fun k => by rw [spec_l3Told.l0]) ?_
    simp only [if_neg (show ¬ i + 1 < (res.length : Int) by omega)]
    exact Ev.some (by simp [told])
  | succ d ih =>
    intro i o h0 h1 h2
    refine Ev.step (fun k => by rw [spec_l3Told.l0]) ?_
    simp only [if_pos (show i + 1 < (res.length : Int) by omega), if_pos (show 0 ≤ i + 1 by omega), w64 (show -9223372036854775808 ≤ i + 1 + 1 by omega) (by omega), told]
    by_cases hp : rdOf false res (i + 1) = true
    · simp only [if_pos hp, if_pos (show o.length < 17592186044416 by omega)]
      refine Ev.as (ih (i + 1) (o ++ [i + 1]) (by omega) (by omega) (by rw [List.length_append, List.length_singleton]; omega)) ?_
      rw [List.append_assoc, List.singleton_append]
    · simp only [if_neg hp]
      exact ih (i + 1) o (by omega) (by omega) (by omega)
theorem l3Told_ev (res : List Bool) (T : Int) (h0 : 0 ≤ T) (hT : T ≤ 594) (hl : (res.length : Int) = T + 1) : Ev (fun k => spec_l3Told.f k res) (told (rdOf false res) T.toNat 0) := by
  unfold spec_l3Told.f
  have h := l3Told_l0 res (by omega) T.toNat 0 [] (by omega) (by omega) (by simp)
  rw [List.nil_append] at h
  exact h

theorem weigh_both (kit : List Int) (two : Bool) (h : kitB kit = true) : ∃ o : List Int, o.length ≤ 594 ∧ impl_weighed.f kit (lowOf two) = some o ∧ ∃ res, Ev (fun k => spec_l3Sums.f k kit two) res ∧ Ev (fun k => spec_l3Told.f k res) o := by
  obtain ⟨h6, hk⟩ := kitB_at1 h
  have hT := sumK_bound kit hk
  obtain ⟨res, hr, hl, hq⟩ := l3Sums_ev kit two hk h6.2
  refine ⟨told (rdOf false res) (sumK kit).toNat 0, ?_, weighed_eq kit two res hk h6.1 h6.2 hq, res, hr, l3Told_ev res (sumK kit) (by omega) (by omega) hl⟩
  have := told_len (rdOf false res) (sumK kit).toNat 0
  omega
theorem weigh_same (kit : List Int) (hl : kit.length ≤ 1048576) : ∃ R : List Int × Bool, R.1.length ≤ 594 ∧ Ev (fun k => spec_WeighTwo.f k kit) R ∧ Ev (fun k => impl_WeighTwo.f k kit) R := by
  by_cases h : kitB kit = true
  · obtain ⟨o, ho, h1, res, h2, h3⟩ := weigh_both kit true h
    refine ⟨(o, true), ho, ?_, ?_⟩
    · unfold spec_WeighTwo.f
      refine Ev.bind (l3Kit_ev kit (by omega)) ?_
      simp only [h, if_true]
      exact Ev.bind h2 (Ev.bind h3 (Ev.now _))
    · unfold impl_WeighTwo.f
      refine Ev.bind (implIsKit_ev kit (by omega)) ?_
      rw [show (lowOf true) = (-1) from rfl] at h1
      simp only [h, if_true, h1, Option.bind_some]
      exact Ev.now _
  · refine ⟨([], false), by simp, ?_, ?_⟩
    · unfold spec_WeighTwo.f
      refine Ev.bind (l3Kit_ev kit (by omega)) ?_
      simp only [h, if_false, Bool.false_eq_true]
      exact Ev.now _
    · unfold impl_WeighTwo.f
      refine Ev.bind (implIsKit_ev kit (by omega)) ?_
      simp only [h, if_false, Bool.false_eq_true]
      exact Ev.now _
theorem FnExactWeighTwo : laws_FnExactWeighTwo.Pure := by
  intro l hl _ _
  refine Ev.rounds ?_
  unfold laws_FnExactWeighTwo.f
  by_cases h : (l.length : Int) > 1048576
  · simp only [if_pos h]; exact Ev.now _
  · simp only [if_neg h]
    have hl : l.length ≤ 1048576 := by omega
    have ht := toIntS_ev l hl
    obtain ⟨R, hlen, hs, hi⟩ := weigh_same l hl
    have hes := eqIntS_self R.1 (by omega)
    refine Ev.bind ht (Ev.bind hs (Ev.bind ht (Ev.bind hi (Ev.bind hes ?_))))
    simp only [if_true, bne_self_eq_false]
    refine Ev.step (fun k => by rw [laws_FnExactWeighTwo.j0]) ?_
    simp only [Bool.false_eq_true, if_false]
    refine Ev.bind ht (Ev.bind (eqIntS_self l (by omega)) ?_)
    simp only [if_true]
    refine Ev.bind (markIntS_ev l hl 1 (by omega) (by omega)) ?_
    simp only [if_neg (show ¬ (1 : Int) + (l.length : Int) < 0 by omega)]
    refine Ev.bind hes ?_
    simp only [if_true, bne_self_eq_false]
    refine Ev.step (fun k => by rw [laws_FnExactWeighTwo.j1]) ?_
    simp only [Bool.false_eq_true, if_false]
    have hheld := heldIntS_ev R.1.length (by omega) 1 (by omega) (by omega)
    refine Ev.bind (markIntS_ev _ (by omega) 1 (by omega) (by omega)) (Ev.bind hheld ?_)
    simp only [if_neg (show ¬ (1 : Int) + (R.1.length : Int) < 0 by omega), if_true]
    refine Ev.bind ht (Ev.bind hi (Ev.bind hes ?_))
    simp only [if_true, bne_self_eq_false]
    refine Ev.step (fun k => by rw [laws_FnExactWeighTwo.j2]) ?_
    simp only [Bool.false_eq_true, if_false]
    refine Ev.bind hheld ?_
    simp only [if_neg (show ¬ (1 : Int) + (R.1.length : Int) < 0 by omega), if_true]
    exact Ev.now _


end Go.Proofs.Ytjhoejdjhboadaa.Pure

