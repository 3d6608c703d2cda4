/- Kits: what one pan weighs two do, signs weigh what they tell, kits of threes and twos reach as far as told, and a row of scales has the moment 0 exactly if its signs weigh its load. -/
import Derived.Test.YtgnmomdgfamhnaaPFnKitsx11
import Derived.Test.YtgnmomdgfamhnaaLib
set_option linter.unusedVariables false
set_option linter.unusedSimpArgs false
namespace Go.Proofs.Ytgnmomdgfamhnaa.Pure
open Go.RowKit Go.Proofs.Ytgnmomdgfamhnaa.PFnKits Go.Proofs.YtgnmomdgfamhnaaW.PrintWords Go.Proofs.YtgnmomdgfamhnaaW.PrintLast Go.Proofs.Ytgnmomdgfamhnaa.Lib

theorem l1In_eq (a b c : Int) : spec_l1In.f a b c = some (decide (b ≤ a ∧ a ≤ c)) := by
  unfold spec_l1In.f
  by_cases h : a ≥ b
  · rw [if_pos h]
    congr 1
    simp only [decide_eq_decide]
    omega
  · rw [if_neg h]
    congr 1
    simp only [Bool.false_eq, decide_eq_false_iff_not]
    omega

theorem within_eq (a b c : Int) : impl_within.f a b c = some (decide (b ≤ a ∧ a ≤ c)) := by
  unfold impl_within.f
  by_cases h : a ≥ b
  · rw [if_pos h]
    congr 1
    simp only [decide_eq_decide]
    omega
  · rw [if_neg h]
    congr 1
    simp only [Bool.false_eq, decide_eq_false_iff_not]
    omega

theorem isWeight_eq (a : Int) : impl_isWeight.f a = some (decide (1 ≤ a ∧ a ≤ 99)) := by
  unfold impl_isWeight.f
  simp only [within_eq, Option.bind_some]

/-- Loads that are a row. -/
def rowB (l : List (S96)) : Bool := decide (l.length ≤ 12) && l.all rowItem
theorem rowItem_iff (x : S96) : rowItem x = true ↔ (0 ≤ x.f0 ∧ x.f0 ≤ 60) ∧ (1 ≤ x.f1 ∧ x.f1 ≤ 99) := by
  unfold rowItem; simp
theorem rowB_iff (l : List (S96)) : rowB l = true ↔ l.length ≤ 12 ∧ ∀ x ∈ l, (0 ≤ x.f0 ∧ x.f0 ≤ 60) ∧ (1 ≤ x.f1 ∧ x.f1 ≤ 99) := by
  unfold rowB
  rw [Bool.and_eq_true, decide_eq_true_eq, List.all_eq_true]
  simp only [rowItem_iff]
theorem implIsRow_eq (l : List (S96)) : impl_IsRow.f l = some (rowB l) := rfl

theorem rdL_mem {l : List (S96)} {i : Int} (h0 : 0 ≤ i) (h1 : i < l.length) : rd_T96 l i ∈ l := by
  unfold rd_T96
  rw [getD_lt _ (by omega)]
  exact List.getElem_mem _
theorem all_rd {l : List (S96)} {p : S96 → Bool} : l.all p = true ↔ ∀ i : Int, 0 ≤ i → i < l.length → p (rd_T96 l i) = true := by
  rw [List.all_eq_true]
  refine ⟨fun h i h0 h1 => h _ (rdL_mem h0 h1), fun h x hx => ?_⟩
  obtain ⟨j, hj, rfl⟩ := List.getElem_of_mem hx
  have := h j (by omega) (by omega)
  unfold rd_T96 at this
  rwa [Int.toNat_natCast, getD_lt _ hj] at this
def momStep (p : Int) (s : Int) (x : S96) : Int := wrap64 (s + wrap64 (x.f1 * wrap64 (x.f0 - p)))
def momW (l : List (S96)) (p : Int) : Int := l.foldl (momStep p) 0
theorem take_succ_rd (l : List (S96)) (i : Int) (h0 : 0 ≤ i) (h1 : i < l.length) : l.take (i + 1).toNat = l.take i.toNat ++ [rd_T96 l i] := by
  rw [toNat_succ h0, List.take_add_one, List.getElem?_eq_getElem (by omega)]
  unfold rd_T96
  rw [getD_lt _ (by omega)]
  rfl

theorem implMoment_ev (l : List (S96)) (p : Int) (hl : l.length ≤ 9223372036854775806) : Ev (fun k => impl_momentAbout.f k l p) (momW l p) := by
  unfold impl_momentAbout.f
  have h := Ev.fold (l := fun k s i => impl_momentAbout.l0 k p s l l.length i) (n := l.length) (fun i => (l.take i.toNat).foldl (momStep p) 0) (a := momW l p)
    (fun i h0 h1 r h => by
      refine Ev.step (fun k => by rw [impl_momentAbout.l0]) ?_
      simp only [if_pos h1, if_pos h0, w64 (show -9223372036854775808 ≤ i + 1 by omega) (by omega)]
      rw [take_succ_rd l i h0 h1, List.foldl_append] at h
      exact h)
    (by
      refine Ev.step (fun k => by rw [impl_momentAbout.l0]) ?_
      simp only [if_neg (show ¬ (l.length : Int) < l.length by omega)]
      exact Ev.some (by simp [momW]))
    l.length 0 (by omega) (by omega)
  simpa using h

theorem isPlace_eq (a : Int) : impl_isPlace.f a = some (decide (0 ≤ a ∧ a ≤ 60)) := by
  unfold impl_isPlace.f
  simp only [within_eq, Option.bind_some]
/-- Two places that are a base. -/
def baseB (a b : Int) : Bool := decide ((0 ≤ a ∧ a ≤ 60) ∧ (0 ≤ b ∧ b ≤ 60) ∧ a ≤ b)
theorem prod_bound {a d : Int} (h1 : 1 ≤ a) (h2 : a ≤ 99) (h3 : -60 ≤ d) (h4 : d ≤ 60) : -5940 ≤ a * d ∧ a * d ≤ 5940 := by
  by_cases h : 0 ≤ d
  · have e1 := Int.mul_le_mul_of_nonneg_right h2 h
    have e2 := Int.mul_nonneg (show 0 ≤ a by omega) h
    omega
  · have e1 := Int.mul_le_mul_of_nonneg_right h2 (show 0 ≤ -d by omega)
    have e2 := Int.mul_nonneg (show 0 ≤ a by omega) (show 0 ≤ -d by omega)
    rw [Int.mul_neg] at e1 e2
    omega
/-- The weight, and the moment about p. -/
def wt : List (S96) → Int
  | [] => 0
  | x :: l => x.f1 + wt l
def mom (p : Int) : List (S96) → Int
  | [] => 0
  | x :: l => x.f1 * (x.f0 - p) + mom p l
def okL (l : List (S96)) : Prop := ∀ x ∈ l, (0 ≤ x.f0 ∧ x.f0 ≤ 60) ∧ (1 ≤ x.f1 ∧ x.f1 ≤ 99)
theorem okL_cons {x : S96} {l : List (S96)} (h : okL (x :: l)) : ((0 ≤ x.f0 ∧ x.f0 ≤ 60) ∧ (1 ≤ x.f1 ∧ x.f1 ≤ 99)) ∧ okL l :=
  ⟨h x (List.mem_cons_self ..), fun y hy => h y (List.mem_cons_of_mem _ hy)⟩
theorem wt_bounds : ∀ l : List (S96), okL l → (l.length : Int) ≤ wt l ∧ wt l ≤ 99 * l.length
  | [], _ => by simp [wt]
  | x :: l, h => by
    have h' := okL_cons h
    have ih := wt_bounds l h'.2
    simp only [wt, List.length_cons]
    omega
theorem mom_bounds (p : Int) (hp : 0 ≤ p ∧ p ≤ 60) : ∀ l : List (S96), okL l → -(5940 * l.length) ≤ mom p l ∧ mom p l ≤ 5940 * l.length
  | [], _ => by simp [mom]
  | x :: l, h => by
    have h' := okL_cons h
    have ih := mom_bounds p hp l h'.2
    have hb := prod_bound (d := x.f0 - p) h'.1.2.1 h'.1.2.2 (by omega) (by omega)
    simp only [mom, List.length_cons]
    omega
theorem mom0_nonneg : ∀ l : List (S96), okL l → 0 ≤ mom 0 l
  | [], _ => by simp [mom]
  | x :: l, h => by
    have h' := okL_cons h
    have ih := mom0_nonneg l h'.2
    have hb := Int.mul_nonneg (show 0 ≤ x.f1 by omega) (show 0 ≤ x.f0 - 0 by omega)
    simp only [mom]
    omega
theorem foldl_mom (p : Int) (hp : 0 ≤ p ∧ p ≤ 60) (l : List (S96)) : ∀ s : Int, okL l → -1000000 + 5940 * (l.length : Int) ≤ s → s + 5940 * (l.length : Int) ≤ 1000000 → l.foldl (momStep p) s = s + mom p l := by
  induction l with
  | nil => intro s _ _ _; rw [List.foldl_nil, mom, Int.add_zero]
  | cons x l ih =>
    intro s h h0 h1
    have h' := okL_cons h
    have hb := prod_bound (d := x.f0 - p) h'.1.2.1 h'.1.2.2 (by omega) (by omega)
    simp only [List.length_cons] at h0 h1
    have e1 : wrap64 (x.f0 - p) = x.f0 - p := w64 (by omega) (by omega)
    have e2 : wrap64 (x.f1 * (x.f0 - p)) = x.f1 * (x.f0 - p) := w64 (by omega) (by omega)
    have e3 : wrap64 (s + x.f1 * (x.f0 - p)) = s + x.f1 * (x.f0 - p) := w64 (by omega) (by omega)
    rw [List.foldl_cons, momStep, e1, e2, e3, ih _ h'.2 (by omega) (by omega), mom, Int.add_assoc]
theorem okL_of {l : List (S96)} (h : rowB l = true) : okL l := ((rowB_iff l).1 h).2
theorem momW_eq {l : List (S96)} {p : Int} (h : okL l) (hl : l.length ≤ 13) (hp : 0 ≤ p ∧ p ≤ 60) : momW l p = mom p l := by
  unfold momW
  rw [foldl_mom p hp l 0 h (by omega) (by omega), Int.zero_add]

theorem mom_append (p : Int) : ∀ (l m : List (S96)), mom p (l ++ m) = mom p l + mom p m
  | [], m => by simp [mom]
  | x :: l, m => by
    rw [List.cons_append, mom, mom, mom_append p l m, Int.add_assoc]
theorem okL_append {l : List (S96)} {x : S96} (h : okL l) (hx : (0 ≤ x.f0 ∧ x.f0 ≤ 60) ∧ (1 ≤ x.f1 ∧ x.f1 ≤ 99)) : okL (l ++ [x]) := by
  intro y hy
  rcases List.mem_append.1 hy with h' | h'
  · exact h y h'
  · rw [List.mem_singleton.1 h']; exact hx
theorem baseB_iff (a b : Int) : baseB a b = true ↔ (0 ≤ a ∧ a ≤ 60) ∧ (0 ≤ b ∧ b ≤ 60) ∧ a ≤ b := by
  unfold baseB; simp

def MomentAboutR (l : List (S96)) (p : Int) : Int × Bool := if rowB l = true ∧ 0 ≤ p ∧ p ≤ 60 then (momW l p, true) else (0, false)
theorem implMomentAbout_ev (l : List (S96)) (p : Int) (hl : l.length ≤ 9223372036854775806) : Ev (fun k => impl_MomentAbout.f k l p) (MomentAboutR l p) := by
  unfold impl_MomentAbout.f MomentAboutR
  simp only [implIsRow_eq, Option.bind_some]
  by_cases h : rowB l = true
  · by_cases h2 : 0 ≤ p ∧ p ≤ 60
    · simp only [isPlace_eq, Option.bind_some, h, h2, and_self, decide_true, if_true]
      exact Ev.bind (implMoment_ev l p hl) (Ev.now _)
    · simp only [isPlace_eq, Option.bind_some, h, h2, and_false, decide_false, if_true, Bool.false_eq_true, if_false]
      exact Ev.now _
  · simp only [h, false_and, if_false, Bool.false_eq_true]
    exact Ev.now _
/-- The list's places are fine: each a weight, none less than the one before. -/
def KitAt (l : List Int) (i : Int) : Prop := (1 ≤ rd l i ∧ rd l i ≤ 99) ∧ (0 < i → rd l (i - 1) ≤ rd l i)
open Classical in
noncomputable def kitB (l : List Int) : Bool := if ∀ j, 0 ≤ j → j < (l.length : Int) → KitAt l j then decide (1 ≤ (l.length : Int) ∧ (l.length : Int) ≤ 6) else false

theorem l3Kit_ev (l : List Int) (hl : l.length ≤ 9223372036854775806) : Ev (fun k => spec_l3Kit.f k l) (kitB l) := by
  unfold spec_l3Kit.f kitB
  refine Ev.count' (l := fun k i => spec_l3Kit.l0 k l i) (n := l.length) (P := KitAt l) (by omega) ?_ ?_ ?_
  · intro i h0 h1 hp r h
    refine Ev.step (fun k => by rw [spec_l3Kit.l0]) ?_
    simp only [if_pos h0, if_pos h1, l1In_eq, Option.bind_some, decide_eq_true_eq, if_pos hp.1]
    by_cases hi : i > 0
    · simp only [if_pos hi, w64 (show -9223372036854775808 ≤ i - 1 by omega) (by omega), w64 (show -9223372036854775808 ≤ i + 1 by omega) (by omega), if_pos (show 0 ≤ i - 1 by omega), if_pos (show i - 1 < (l.length : Int) by omega), if_neg (show ¬ rd l (i - 1) > rd l i from by have := hp.2 hi; omega)]
      exact h
    · simp only [if_neg hi, w64 (show -9223372036854775808 ≤ i + 1 by omega) (by omega)]
      exact h
  · intro i h0 h1 hp
    refine Ev.step (fun k => by rw [spec_l3Kit.l0]) ?_
    simp only [if_pos h0, if_pos h1, l1In_eq, Option.bind_some, decide_eq_true_eq]
    by_cases hw : 1 ≤ rd l i ∧ rd l i ≤ 99
    · have hi : i > 0 := by
        by_cases hi : i > 0
        · exact hi
        · exact absurd ⟨hw, fun h => absurd h hi⟩ hp
      simp only [if_pos hw, if_pos hi, w64 (show -9223372036854775808 ≤ i - 1 by omega) (by omega), if_pos (show 0 ≤ i - 1 by omega), if_pos (show i - 1 < (l.length : Int) by omega), if_pos (show rd l (i - 1) > rd l i from by
        have : ¬ rd l (i - 1) ≤ rd l i := fun h => hp ⟨hw, fun _ => h⟩
        omega)]
      exact Ev.now _
    · simp only [if_neg hw]
      exact Ev.now _
  · intro i h0 h1
    refine Ev.step (fun k => by rw [spec_l3Kit.l0]) ?_
    simp only [if_neg (show ¬ i < (l.length : Int) by omega), l1In_eq, Option.bind_some]
    exact Ev.now _

theorem implIsKit_ev (l : List Int) (hl : l.length ≤ 9223372036854775806) : Ev (fun k => impl_IsKit.f k l) (kitB l) := by
  unfold impl_IsKit.f kitB
  refine Ev.count' (l := fun k i => impl_IsKit.l0 k l l l.length i) (n := l.length) (P := KitAt l) (by omega) ?_ ?_ ?_
  · intro i h0 h1 hp r h
    refine Ev.step (fun k => by rw [impl_IsKit.l0]) ?_
    simp only [if_pos h0, if_pos h1, isWeight_eq, Option.bind_some, decide_eq_true_eq, if_pos hp.1]
    by_cases hi : i > 0
    · simp only [if_pos hi, w64 (show -9223372036854775808 ≤ i - 1 by omega) (by omega), w64 (show -9223372036854775808 ≤ i + 1 by omega) (by omega), if_pos (show 0 ≤ i - 1 by omega), if_pos (show i - 1 < (l.length : Int) by omega), if_neg (show ¬ rd l i < rd l (i - 1) from by have := hp.2 hi; omega)]
      exact h
    · simp only [if_neg hi, w64 (show -9223372036854775808 ≤ i + 1 by omega) (by omega)]
      exact h
  · intro i h0 h1 hp
    refine Ev.step (fun k => by rw [impl_IsKit.l0]) ?_
    simp only [if_pos h0, if_pos h1, isWeight_eq, Option.bind_some, decide_eq_true_eq]
    by_cases hw : 1 ≤ rd l i ∧ rd l i ≤ 99
    · have hi : i > 0 := by
        by_cases hi : i > 0
        · exact hi
        · exact absurd ⟨hw, fun h => absurd h hi⟩ hp
      simp only [if_pos hw, if_pos hi, w64 (show -9223372036854775808 ≤ i - 1 by omega) (by omega), if_pos (show 0 ≤ i - 1 by omega), if_pos (show i - 1 < (l.length : Int) by omega), if_pos (show rd l i < rd l (i - 1) from by
        have : ¬ rd l (i - 1) ≤ rd l i := fun h => hp ⟨hw, fun _ => h⟩
        omega)]
      exact Ev.now _
    · simp only [if_neg hw]
      exact Ev.now _
  · intro i h0 h1
    refine Ev.step (fun k => by rw [impl_IsKit.l0]) ?_
    simp only [if_neg (show ¬ i < (l.length : Int) by omega), within_eq, Option.bind_some]
    exact Ev.now _

theorem specIsKit_ev (l : List Int) (hl : l.length ≤ 9223372036854775806) : Ev (fun k => spec_IsKit.f k l) (kitB l) := by
  unfold spec_IsKit.f
  exact Ev.bind (l3Kit_ev l hl) (Ev.now _)

/-- All lists of signs from low on, in their order. -/
def allL (low : Int) : Nat → List (List Int)
  | 0 => [[]]
  | n + 1 => (impl_eachSigns.upto low).flatMap fun g => (allL low n).map (g :: ·)
def dotW : List Int → List Int → Int
  | x :: kit, g :: y => g * x + dotW kit y
  | _, _ => 0
theorem upto_mem {low g : Int} (h : g ∈ impl_eachSigns.upto low) : -1 ≤ g ∧ g ≤ 1 := by
  unfold impl_eachSigns.upto at h
  split at h
  · simp at h; omega
  · split at h
    · simp at h; omega
    · split at h
      · simp at h; omega
      · simp at h
theorem allL_mem {low : Int} : ∀ {n : Nat} {y : List Int}, y ∈ allL low n → y.length = n ∧ ∀ g ∈ y, -1 ≤ g ∧ g ≤ 1
  | 0, y, h => by
    simp [allL] at h
    subst h
    simp
  | n + 1, y, h => by
    simp only [allL, List.mem_flatMap, List.mem_map] at h
    obtain ⟨g, hg, y2, hy, rfl⟩ := h
    obtain ⟨h1, h2⟩ := allL_mem hy
    refine ⟨by simp [h1], fun z hz => ?_⟩
    rcases List.mem_cons.1 hz with rfl | hz
    · exact upto_mem hg
    · exact h2 z hz
theorem foldlM_flat {σ : Type} (tf : σ → List Int → Int → Option σ) (low : Int) (rest pre : List Int) (sum x : Int) (n : Nat)
    (hG : ∀ g, -1 ≤ g → g ≤ 1 → ∀ s, impl_eachSigns.eachG tf low rest (pre ++ [g]) (wrap64 (sum + wrap64 (g * x))) s = (allL low n).foldlM (fun s y => tf s (pre ++ g :: y) (sum + dotW (x :: rest) (g :: y))) s) :
    ∀ (L : List Int), (∀ g ∈ L, -1 ≤ g ∧ g ≤ 1) → ∀ s, L.foldlM (fun s g => impl_eachSigns.eachG tf low rest (pre ++ [g]) (wrap64 (sum + wrap64 (g * x))) s) s = (L.flatMap fun g => (allL low n).map (g :: ·)).foldlM (fun s y => tf s (pre ++ y) (sum + dotW (x :: rest) y)) s
  | [], _, s => rfl
  | g :: L, hL, s => by
    rw [List.foldlM_cons, List.flatMap_cons, List.foldlM_append, List.foldlM_map, hG g (hL g (List.mem_cons_self)).1 (hL g (List.mem_cons_self)).2 s]
    congr 1
    funext s2
    exact foldlM_flat tf low rest pre sum x n hG L (fun z hz => hL z (List.mem_cons_of_mem _ hz)) s2
theorem eachG_foldM {σ : Type} (tf : σ → List Int → Int → Option σ) (low : Int) (kit : List Int) : ∀ (pre : List Int) (sum : Int) (s : σ), (∀ x ∈ kit, 0 ≤ x ∧ x ≤ 99) → -1000000 + 99 * (kit.length : Int) ≤ sum → sum ≤ 1000000 - 99 * (kit.length : Int) →
    impl_eachSigns.eachG tf low kit pre sum s = (allL low kit.length).foldlM (fun s y => tf s (pre ++ y) (sum + dotW kit y)) s := by
  induction kit with
  | nil =>
    intro pre sum s _ _ _
    simp only [impl_eachSigns.eachG, allL, List.length_nil, List.foldlM_cons, List.foldlM_nil, List.append_nil, dotW, Int.add_zero]
    cases tf s pre sum <;> rfl
  | cons x kit ih =>
    intro pre sum s hk h0 h1
    rw [List.length_cons] at h0 h1
    have hx := hk x (List.mem_cons_self)
    have hk2 : ∀ z ∈ kit, 0 ≤ z ∧ z ≤ 99 := fun z hz => hk z (List.mem_cons_of_mem _ hz)
    rw [impl_eachSigns.eachG, List.length_cons, allL]
    refine foldlM_flat tf low kit pre sum x kit.length (fun g g0 g1 s => ?_) _ (fun g hg => upto_mem hg) s
    have hgx : -99 ≤ g * x ∧ g * x ≤ 99 := by
      rcases (show g = -1 ∨ g = 0 ∨ g = 1 by omega) with rfl | rfl | rfl <;> omega
    rw [w64 (show -9223372036854775808 ≤ g * x by omega) (by omega), w64 (show -9223372036854775808 ≤ sum + g * x by omega) (by omega)]
    rw [ih (pre ++ [g]) (sum + g * x) s hk2 (by omega) (by omega)]
    congr 1
    funext s2 y
    rw [List.append_assoc, List.singleton_append]
    congr 1
    show sum + g * x + dotW kit y = sum + (g * x + dotW kit y)
    omega

def ext3 (x : List Int) : List (List Int) := [x ++ [-1], x ++ [0], x ++ [1]]
def allS : Nat → List (List Int)
  | 0 => [[]]
  | n + 1 => (allS n).flatMap ext3
theorem allL_ext : ∀ n, allL (-1) (n + 1) = (allL (-1) n).flatMap ext3
  | 0 => rfl
  | n + 1 => by
    have ih := allL_ext n
    show ((impl_eachSigns.upto (-1)).flatMap fun g => (allL (-1) (n + 1)).map (g :: ·)) = ((impl_eachSigns.upto (-1)).flatMap fun g => (allL (-1) n).map (g :: ·)).flatMap ext3
    rw [List.flatMap_assoc]
    congr 1
    funext g
    rw [ih, List.map_flatMap, List.flatMap_map]
    rfl
theorem allS_eq : ∀ n, allS n = allL (-1) n
  | 0 => rfl
  | n + 1 => by rw [allS, allS_eq n, allL_ext]
theorem allS_len : ∀ n, (allS n).length = 3 ^ n
  | 0 => rfl
  | n + 1 => by
    have : ∀ l : List (List Int), (l.flatMap ext3).length = 3 * l.length := by
      intro l
      induction l with
      | nil => rfl
      | cons a l ih => rw [List.flatMap_cons, List.length_append, ih, List.length_cons, ext3]; simp; omega
    rw [allS, this, allS_len n, Nat.pow_succ, Nat.mul_comm]
theorem allS_row {n : Nat} {y : List Int} (h : y ∈ allS n) : y.length = n ∧ ∀ g ∈ y, -1 ≤ g ∧ g ≤ 1 := allL_mem (allS_eq n ▸ h)
theorem l1Own_eq (l : List Int) (h : l.length < 17592186044416) : spec_l1Own.f l = some l := by
  unfold spec_l1Own.f
  simp only [Option.bind_some, List.length_nil, Nat.zero_add, if_pos h, List.nil_append]
theorem l3All_row (n i : Int) (X : List (List Int)) (hX : X.length ≤ 729) (hr : ∀ x ∈ X, x.length ≤ 6) (hn : n ≤ 6) (hi : 0 ≤ i) (hi2 : i < n) {r : List (List Int)} : ∀ (d j : Nat) (o : List (List Int)), j + d = X.length → o.length = 3 * j →
    Ev (fun k => spec_l3All.l0 k n (o ++ (X.drop j).flatMap ext3) (i + 1)) r → Ev (fun k => spec_l3All.l1 k n X i o (j : Int)) r := by
  intro d
  induction d with
  | zero =>
    intro j o h ho h2
    refine Ev.step (fun k => by rw [spec_l3All.l1]) ?_
    simp only [if_neg (show ¬ (j : Int) < (X.length : Int) by omega), w64 (show -9223372036854775808 ≤ i + 1 by omega) (by omega)]
    rw [List.drop_eq_nil_of_le (by omega), List.flatMap_nil, List.append_nil] at h2
    exact h2
  | succ d ih =>
    intro j o h ho h2
    have hj : j < X.length := by omega
    have hrow : (X[j]).length ≤ 6 := hr _ (List.getElem_mem hj)
    have er : rd_L3 X (j : Int) = X[j] := by
      unfold rd_L3
      rw [Int.toNat_natCast]
      exact getD_lt _ hj
    have c1 : (j : Int) < (X.length : Int) := by omega
    have ew : wrap64 ((j : Int) + 1) = ((j + 1 : Nat) : Int) := by rw [w64 (by omega) (by omega)]; omega
    refine Ev.step (fun k => by rw [spec_l3All.l1]) ?_
    simp only [if_pos c1]
    have one : ∀ (g : Int) (o2 : List (List Int)), -1 ≤ g → g ≤ 1 → o2.length ≤ 3000 → Ev (fun k => spec_l3All.l2 k n X i (o2 ++ [X[j] ++ [g]]) (j : Int) (g + 1)) r → Ev (fun k => spec_l3All.l2 k n X i o2 (j : Int) g) r := by
      intro g o2 g0 g1 h2 h3
      refine Ev.step (fun k => by rw [spec_l3All.l2]) ?_
      simp only [if_pos g1, if_pos (show 0 ≤ (j : Int) by omega), if_pos c1, er, l1Own_eq (X[j]) (by omega), Option.bind_some, if_pos (show (X[j]).length < 17592186044416 by omega), if_pos (show o2.length < 5864062014805 by omega), w64 (show -9223372036854775808 ≤ g + 1 by omega) (by omega)]
      exact h3
    refine one (-1) o (by omega) (by omega) (by omega) ?_
    refine one 0 _ (by omega) (by omega) (by rw [List.length_append, List.length_singleton]; omega) ?_
    refine one 1 _ (by omega) (by omega) (by simp only [List.length_append, List.length_singleton]; omega) ?_
    refine Ev.step (fun k => by rw [spec_l3All.l2]) ?_
    simp only [if_neg (show ¬ ((1 : Int) + 1) ≤ 1 by omega), ew]
    refine ih (j + 1) _ (by omega) (by simp only [List.length_append, List.length_singleton]; omega) ?_
    rw [List.drop_eq_getElem_cons hj, List.flatMap_cons] at h2
    have e : o ++ [X[j] ++ [-1]] ++ [X[j] ++ [0]] ++ [X[j] ++ [1]] ++ (X.drop (j + 1)).flatMap ext3 = o ++ (ext3 X[j] ++ (X.drop (j + 1)).flatMap ext3) := by
      unfold ext3
      simp only [List.append_assoc, List.singleton_append, List.cons_append, List.nil_append]
    rw [e]
    exact h2
theorem l3All_ev (n : Nat) (hn : n ≤ 6) : Ev (fun k => spec_l3All.f k (n : Int)) (allS n) := by
  unfold spec_l3All.f
  have hp : ∀ m : Nat, m ≤ 6 → (3 : Nat) ^ m ≤ 729 := by
    intro m hm
    exact Nat.pow_le_pow_right (by omega) hm
  exact Ev.fold (l := fun k o i => spec_l3All.l0 k (n : Int) o i) (n := (n : Int)) (fun i => allS i.toNat) (a := allS n)
    (fun i h0 h1 r h => by
      refine Ev.step (fun k => by rw [spec_l3All.l0]) ?_
      simp only [if_pos h1]
      refine l3All_row (n : Int) i _ (by rw [allS_len]; exact hp i.toNat (by omega)) (fun x hx => by rw [(allS_row (n := i.toNat) hx).1]; omega) (by omega) h0 h1 (allS i.toNat).length 0 [] (by omega) rfl ?_
      rw [List.drop_zero, List.nil_append]
      rw [toNat_succ h0, allS] at h
      exact h)
    (by
      refine Ev.step (fun k => by rw [spec_l3All.l0]) ?_
      simp only [if_neg (show ¬ (n : Int) < (n : Int) by omega)]
      exact Ev.some (by simp))
    n 0 (by omega) (by omega)

def usedW : List Int → Int := impl_HowToWeigh.usedN
theorem usedW_cons (g : Int) (y : List Int) (h : -1 ≤ g ∧ g ≤ 1) : usedW (g :: y) = g * g + usedW y := by
  unfold usedW impl_HowToWeigh.usedN
  rcases (show g = -1 ∨ g = 0 ∨ g = 1 by omega) with rfl | rfl | rfl
  · simp; omega
  · simp
  · simp; omega
theorem usedW_le : ∀ y : List Int, 0 ≤ usedW y ∧ usedW y ≤ y.length := by
  intro y
  unfold usedW impl_HowToWeigh.usedN
  have := List.length_filter_le (fun x => decide (x ≠ 0)) y
  omega
theorem kitB_at {l : List Int} (h : kitB l = true) : (1 ≤ l.length ∧ l.length ≤ 6) ∧ ∀ x ∈ l, 0 ≤ x ∧ x ≤ 99 := by
  unfold kitB at h
  split at h
  · rename_i hk
    have h2 := of_decide_eq_true h
    refine ⟨by omega, fun x hx => ?_⟩
    obtain ⟨j, hj, rfl⟩ := List.getElem_of_mem hx
    have := (hk (j : Int) (by omega) (by omega)).1
    have e : rd l (j : Int) = l[j] := by
      unfold rd
      rw [Int.toNat_natCast]
      exact getD_lt _ hj
    rw [e] at this
    omega
  · cases h
theorem wrap_add (a p : Int) (h0 : -99999 ≤ a) (h1 : a ≤ 99999) (h2 : -99 ≤ p) (h3 : p ≤ 99) : wrap64 (a + wrap64 p) = a + p := by
  rw [w64 (show -9223372036854775808 ≤ p by omega) (by omega), w64 (show -9223372036854775808 ≤ a + p by omega) (by omega)]
theorem l3Weigh_l0 (kit y : List Int) (hy : y.length = kit.length) (hk : ∀ x ∈ kit, 0 ≤ x ∧ x ≤ 99) (hg : ∀ g ∈ y, -1 ≤ g ∧ g ≤ 1) (hl : kit.length ≤ 6) : ∀ (d j : Nat) (a b : Int), j + d = kit.length → -99 * (j : Int) ≤ a → a ≤ 99 * (j : Int) → 0 ≤ b → b ≤ j →
    Ev (fun k => spec_l3Weigh.l0 k kit y a b (j : Int)) (a + dotW (kit.drop j) (y.drop j), b + usedW (y.drop j)) := by
  intro d
  induction d with
  | zero =>
    intro j a b h h0 h1 h2 h3
    refine Ev.step (fun k => by rw [spec_l3Weigh.l0]) ?_
    simp only [if_neg (show ¬ (j : Int) < (kit.length : Int) by omega)]
    rw [List.drop_eq_nil_of_le (by omega), List.drop_eq_nil_of_le (by omega)]
    exact Ev.some (by simp [dotW, usedW, impl_HowToWeigh.usedN])
  | succ d ih =>
    intro j a b h h0 h1 h2 h3
    have hj : j < kit.length := by omega
    have hj2 : j < y.length := by omega
    have hx := hk _ (List.getElem_mem hj)
    have hz := hg _ (List.getElem_mem hj2)
    have e1 : rd kit (j : Int) = kit[j] := by
      unfold rd
      rw [Int.toNat_natCast]
      exact getD_lt _ hj
    have e2 : rd y (j : Int) = y[j] := by
      unfold rd
      rw [Int.toNat_natCast]
      exact getD_lt _ hj2
    have hp : -99 ≤ y[j] * kit[j] ∧ y[j] * kit[j] ≤ 99 := by
      rcases (show y[j] = -1 ∨ y[j] = 0 ∨ y[j] = 1 by omega) with e | e | e <;> rw [e] <;> omega
    have hq : 0 ≤ y[j] * y[j] ∧ y[j] * y[j] ≤ 1 := by
      rcases (show y[j] = -1 ∨ y[j] = 0 ∨ y[j] = 1 by omega) with e | e | e <;> rw [e] <;> omega
    have c1 : (j : Int) < (kit.length : Int) := by omega
    have c2 : 0 ≤ (j : Int) := Int.natCast_nonneg _
    have c3 : (j : Int) < (y.length : Int) := by omega
    have key := ih (j + 1) (a + y[j] * kit[j]) (b + y[j] * y[j]) (by omega) (by omega) (by omega) (by omega) (by omega)
    have b1 : -99999 ≤ a ∧ a ≤ 99999 := by omega
    have b2 : -99999 ≤ b ∧ b ≤ 99999 := by omega
    have b3 : -99 ≤ y[j] * y[j] ∧ y[j] * y[j] ≤ 99 := by omega
    have b4 : -9223372036854775808 ≤ (j : Int) + 1 ∧ (j : Int) + 1 ≤ 9223372036854775807 := by omega
    have w1 := wrap_add a (y[j] * kit[j]) b1.1 b1.2 hp.1 hp.2
    have w2 := wrap_add b (y[j] * y[j]) b2.1 b2.2 b3.1 b3.2
    have ew : wrap64 ((j : Int) + 1) = ((j + 1 : Nat) : Int) := (w64 b4.1 b4.2).trans (Int.natCast_add j 1).symm
    refine Ev.step (fun k => by rw [spec_l3Weigh.l0]) ?_
    simp only [if_pos c1, if_pos c2, if_pos c3, e1, e2, ew, Int.mul_comm kit[j] y[j], w1, w2]
    refine Ev.as key ?_
    rw [List.drop_eq_getElem_cons hj, List.drop_eq_getElem_cons hj2, usedW_cons _ _ hz, dotW, Int.add_assoc, Int.add_assoc]
theorem l3Weigh_ev (kit y : List Int) (hy : y.length = kit.length) (hk : ∀ x ∈ kit, 0 ≤ x ∧ x ≤ 99) (hg : ∀ g ∈ y, -1 ≤ g ∧ g ≤ 1) (hl : kit.length ≤ 6) : Ev (fun k => spec_l3Weigh.f k kit y) (dotW kit y, usedW y) := by
  unfold spec_l3Weigh.f
  refine Ev.as (l3Weigh_l0 kit y hy hk hg hl kit.length 0 0 0 (by omega) (by omega) (by omega) (by omega) (by omega)) ?_
  rw [List.drop_zero, List.drop_zero, Int.zero_add, Int.zero_add]
/-- The best of some. -/
def bestW (n : Int) (kit : List Int) (L : List (List Int)) : List Int := L.foldl (fun b y => impl_HowToWeigh.pick n b y (dotW kit y)) []
noncomputable def HowR (kit : List Int) (n : Int) : List Int × Bool := if kitB kit = true ∧ 1 ≤ n then (bestW n kit (allS kit.length), decide (((bestW n kit (allS kit.length)).length : Int) > 0)) else ([], false)
theorem best_len (n : Int) (kit : List Int) : ∀ (L : List (List Int)) (b : List Int), (∀ y ∈ L, y.length = kit.length) → (b.length = 0 ∨ b.length = kit.length) → (L.foldl (fun b y => impl_HowToWeigh.pick n b y (dotW kit y)) b).length = 0 ∨ (L.foldl (fun b y => impl_HowToWeigh.pick n b y (dotW kit y)) b).length = kit.length
  | [], b, _, h => h
  | y :: L, b, hL, h => by
    rw [List.foldl_cons]
    refine best_len n kit L _ (fun z hz => hL z (List.mem_cons_of_mem _ hz)) ?_
    unfold impl_HowToWeigh.pick
    split
    · exact .inr (hL y (List.mem_cons_self))
    · exact h
theorem HowR_len (kit : List Int) (n : Int) : (HowR kit n).1.length ≤ 6 := by
  unfold HowR
  split
  · rename_i h
    have h6 := (kitB_at h.1).1
    rcases best_len n kit (allS kit.length) [] (fun y hy => (allS_row hy).1) (.inl rfl) with e | e
    · show (bestW n kit (allS kit.length)).length ≤ 6
      unfold bestW; omega
    · show (bestW n kit (allS kit.length)).length ≤ 6
      unfold bestW; omega
  · simp
theorem implHow_ev (kit : List Int) (n : Int) (hl : kit.length ≤ 1048576) : Ev (fun k => impl_HowToWeigh.f k kit n) (HowR kit n) := by
  unfold impl_HowToWeigh.f HowR
  refine Ev.bind (implIsKit_ev kit (by omega)) ?_
  by_cases h : kitB kit = true
  · obtain ⟨h6, hk⟩ := kitB_at h
    simp only [h, if_true, true_and]
    by_cases hn : n < 1
    · simp only [if_pos hn, if_neg (show ¬ 1 ≤ n by omega)]
      exact Ev.now _
    · simp only [if_neg hn, if_pos (show 1 ≤ n by omega), if_pos (show kit.length < 8796093022208 by omega)]
      rw [eachG_foldM _ _ kit [] 0 [] hk (by omega) (by omega)]
      have : ∀ (L : List (List Int)) (b : List Int), L.foldlM (fun s y => some (impl_HowToWeigh.pick n s ([] ++ y) (0 + dotW kit y))) b = some (L.foldl (fun b y => impl_HowToWeigh.pick n b y (dotW kit y)) b) := by
        intro L
        induction L with
        | nil => intro b; rfl
        | cons y L ih =>
          intro b
          rw [List.foldlM_cons, List.foldl_cons, List.nil_append, Int.zero_add]
          exact ih _
      rw [this, Option.bind_some, ← allS_eq]
      exact Ev.now _
  · simp only [h, false_and, if_false, Bool.false_eq_true]
    exact Ev.now _
def fewW (m : Nat) (b : List Int) : Int := if b.length = 0 then (m : Int) + 1 else usedW b
theorem specHow_l0 (kit : List Int) (n : Int) (hk : ∀ x ∈ kit, 0 ≤ x ∧ x ≤ 99) (h1 : 1 ≤ kit.length) (hl : kit.length ≤ 6) (L : List (List Int)) (hL : L.length ≤ 729) (hr : ∀ y ∈ L, y.length = kit.length ∧ ∀ g ∈ y, -1 ≤ g ∧ g ≤ 1) : ∀ (d j : Nat) (b : List Int), j + d = L.length →
    Ev (fun k => spec_HowToWeigh.l0 k kit n L b (fewW kit.length b) (j : Int)) ((L.drop j).foldl (fun b y => impl_HowToWeigh.pick n b y (dotW kit y)) b, decide ((((L.drop j).foldl (fun b y => impl_HowToWeigh.pick n b y (dotW kit y)) b).length : Int) > 0)) := by
  intro d
  induction d with
  | zero =>
    intro j b h
    refine Ev.step (fun k => by rw [spec_HowToWeigh.l0]) ?_
    simp only [if_neg (show ¬ (j : Int) < (L.length : Int) by omega)]
    rw [List.drop_eq_nil_of_le (by omega), List.foldl_nil]
    exact Ev.now _
  | succ d ih =>
    intro j b h
    have hj : j < L.length := by omega
    obtain ⟨hy, hg⟩ := hr _ (List.getElem_mem hj)
    have e1 : rd_L3 L (j : Int) = L[j] := by
      unfold rd_L3
      rw [Int.toNat_natCast]
      exact getD_lt _ hj
    have ew : wrap64 ((j : Int) + 1) = ((j + 1 : Nat) : Int) := by rw [w64 (by omega) (by omega)]; omega
    refine Ev.step (fun k => by rw [spec_HowToWeigh.l0]) ?_
    simp only [if_pos (show (j : Int) < (L.length : Int) by omega), if_pos (show 0 ≤ (j : Int) by omega), e1, ew]
    refine Ev.bind (l3Weigh_ev kit L[j] hy hk hg hl) ?_
    rw [List.drop_eq_getElem_cons hj, List.foldl_cons]
    have hu := usedW_le L[j]
    have hiff : usedW L[j] < fewW kit.length b ↔ (b.length = 0 ∨ usedW L[j] < usedW b) := by
      unfold fewW
      split
      · rename_i e; constructor
        · intro _; exact .inl e
        · intro _; omega
      · rename_i e; constructor
        · intro h; exact .inr h
        · intro h; exact h.resolve_left e
    by_cases c1 : dotW kit L[j] = n
    · simp only [if_pos c1]
      by_cases c2 : usedW L[j] < fewW kit.length b
      · simp only [if_pos c2]
        have ep : impl_HowToWeigh.pick n b L[j] (dotW kit L[j]) = L[j] := by
          unfold impl_HowToWeigh.pick
          rw [if_pos ⟨c1, hiff.1 c2⟩]
        have ef : usedW L[j] = fewW kit.length L[j] := by
          unfold fewW
          rw [if_neg (by omega)]
        rw [ep, ef]
        exact ih (j + 1) L[j] (by omega)
      · simp only [if_neg c2]
        have ep : impl_HowToWeigh.pick n b L[j] (dotW kit L[j]) = b := by
          unfold impl_HowToWeigh.pick
          rw [if_neg (fun e => c2 (hiff.2 e.2))]
        rw [ep]
        exact ih (j + 1) b (by omega)
    · simp only [if_neg c1]
      have ep : impl_HowToWeigh.pick n b L[j] (dotW kit L[j]) = b := by
        unfold impl_HowToWeigh.pick
        rw [if_neg (fun e => c1 e.1)]
      rw [ep]
      exact ih (j + 1) b (by omega)
theorem specHow_ev (kit : List Int) (n : Int) (hl : kit.length ≤ 1048576) : Ev (fun k => spec_HowToWeigh.f k kit n) (HowR kit n) := by
  unfold spec_HowToWeigh.f HowR
  refine Ev.bind (l3Kit_ev kit (by omega)) ?_
  by_cases h : kitB kit = true
  · obtain ⟨h6, hk⟩ := kitB_at h
    simp only [h, if_true, true_and]
    refine Ev.step (fun k => by rw [spec_HowToWeigh.j0]) ?_
    by_cases hn : n < 1
    · simp only [hn, decide_true, if_true, if_neg (show ¬ 1 ≤ n by omega)]
      exact Ev.now _
    · simp only [hn, decide_false, Bool.false_eq_true, if_false, if_pos (show 1 ≤ n by omega)]
      refine Ev.bind (l3All_ev kit.length h6.2) ?_
      rw [w64 (show -9223372036854775808 ≤ (kit.length : Int) + 1 by omega) (by omega)]
      exact specHow_l0 kit n hk h6.1 h6.2 (allS kit.length) (by rw [allS_len]; exact Nat.pow_le_pow_right (by omega) h6.2) (fun y hy => allS_row hy) (allS kit.length).length 0 [] (by omega)
  · simp only [h, false_and, if_false, Bool.false_eq_true]
    refine Ev.step (fun k => by rw [spec_HowToWeigh.j0]) ?_
    simp only [if_true]
    exact Ev.now _
def sumK : List Int → Int
  | [] => 0
  | x :: l => x + sumK l
/-- A number that signs from low on weigh. -/
def Reach (low : Int) (kit : List Int) (s : Int) : Prop := ∃ y : List Int, y.length = kit.length ∧ (∀ g ∈ y, g ∈ impl_eachSigns.upto low) ∧ dotW kit y = s
theorem allL_iff (low : Int) : ∀ (n : Nat) (y : List Int), y ∈ allL low n ↔ y.length = n ∧ ∀ g ∈ y, g ∈ impl_eachSigns.upto low
  | 0, y => by
    rw [allL, List.mem_singleton]
    constructor
    · rintro rfl
      exact ⟨rfl, fun g hg => by cases hg⟩
    · rintro ⟨h, _⟩
      exact List.length_eq_zero_iff.1 h
  | n + 1, y => by
    rw [allL]
    simp only [List.mem_flatMap, List.mem_map]
    constructor
    · rintro ⟨g, hg, y2, hy, rfl⟩
      obtain ⟨h1, h2⟩ := (allL_iff low n y2).1 hy
      refine ⟨by rw [List.length_cons, h1], fun z hz => ?_⟩
      rcases List.mem_cons.1 hz with rfl | hz
      · exact hg
      · exact h2 z hz
    · rintro ⟨h1, h2⟩
      match y, h1, h2 with
      | g :: y2, h1, h2 => exact ⟨g, h2 g (List.mem_cons_self), y2, (allL_iff low n y2).2 ⟨by simpa using h1, fun z hz => h2 z (List.mem_cons_of_mem _ hz)⟩, rfl⟩
theorem dotW_snoc : ∀ (kit y : List Int) (x g : Int), y.length = kit.length → dotW (kit ++ [x]) (y ++ [g]) = dotW kit y + g * x
  | [], [], x, g, _ => by simp [dotW]
  | a :: kit, b :: y, x, g, h => by
    simp only [List.cons_append, dotW]
    rw [dotW_snoc kit y x g (by simpa using h)]
    omega
  | [], b :: y, x, g, h => by simp at h
  | a :: kit, [], x, g, h => by simp at h
theorem reach_nil (low s : Int) : Reach low [] s ↔ s = 0 := by
  constructor
  · rintro ⟨y, h, _, hd⟩
    have : y = [] := List.length_eq_zero_iff.1 h
    subst this
    exact hd.symm
  · rintro rfl
    exact ⟨[], rfl, fun g hg => (by cases hg), rfl⟩
theorem reach_snoc (low : Int) (kit : List Int) (x s : Int) : Reach low (kit ++ [x]) s ↔ ∃ g ∈ impl_eachSigns.upto low, Reach low kit (s - g * x) := by
  constructor
  · rintro ⟨y, h, hg, hd⟩
    have hne : y ≠ [] := by
      rintro rfl
      simp at h
    obtain ⟨y2, g, rfl⟩ : ∃ y2 g, y = y2 ++ [g] := ⟨y.dropLast, y.getLast hne, (List.dropLast_concat_getLast hne).symm⟩
    have h2 : y2.length = kit.length := by simpa using h
    rw [dotW_snoc kit y2 x g h2] at hd
    exact ⟨g, hg g (by simp), y2, h2, fun z hz => hg z (by simp [hz]), by omega⟩
  · rintro ⟨g, hg, y, h, hy, hd⟩
    refine ⟨y ++ [g], by simp [h], fun z hz => ?_, by rw [dotW_snoc kit y x g h]; omega⟩
    rcases List.mem_append.1 hz with hz | hz
    · exact hy z hz
    · rw [List.mem_singleton.1 hz]
      exact hg
theorem dot_bound : ∀ (kit y : List Int), (∀ x ∈ kit, 0 ≤ x) → (∀ g ∈ y, -1 ≤ g ∧ g ≤ 1) → -sumK kit ≤ dotW kit y ∧ dotW kit y ≤ sumK kit
  | [], y, _, _ => by simp [dotW, sumK]
  | x :: kit, [], hk, _ => by
    have h1 := dot_bound kit [] (fun z hz => hk z (List.mem_cons_of_mem _ hz)) (fun g hg => by cases hg)
    have hx := hk x (List.mem_cons_self)
    have e : dotW kit [] = 0 := by cases kit <;> rfl
    rw [e] at h1
    show -(x + sumK kit) ≤ 0 ∧ 0 ≤ x + sumK kit
    omega
  | x :: kit, g :: y, hk, hg => by
    have h1 := dot_bound kit y (fun z hz => hk z (List.mem_cons_of_mem _ hz)) (fun z hz => hg z (List.mem_cons_of_mem _ hz))
    have hx := hk x (List.mem_cons_self)
    have hgg := hg g (List.mem_cons_self)
    show -(x + sumK kit) ≤ g * x + dotW kit y ∧ g * x + dotW kit y ≤ x + sumK kit
    rcases (show g = -1 ∨ g = 0 ∨ g = 1 by omega) with rfl | rfl | rfl <;> omega
theorem reach_bound {low s : Int} {kit : List Int} (hk : ∀ x ∈ kit, 0 ≤ x) (h : Reach low kit s) : -sumK kit ≤ s ∧ s ≤ sumK kit := by
  obtain ⟨y, _, hg, rfl⟩ := h
  exact dot_bound kit y hk (fun g hz => upto_mem (hg g hz))
theorem sumK_snoc : ∀ (l : List Int) (x : Int), sumK (l ++ [x]) = sumK l + x
  | [], x => by simp [sumK]
  | a :: l, x => by
    show a + sumK (l ++ [x]) = a + sumK l + x
    rw [sumK_snoc l x]
    omega
theorem sumK_bound : ∀ (l : List Int), (∀ x ∈ l, 1 ≤ x ∧ x ≤ 99) → (l.length : Int) ≤ sumK l ∧ sumK l ≤ 99 * (l.length : Int)
  | [], _ => by simp [sumK]
  | a :: l, h => by
    have h1 := sumK_bound l (fun x hx => h x (List.mem_cons_of_mem _ hx))
    have h2 := h a (List.mem_cons_self)
    rw [List.length_cons]
    show _ ≤ a + sumK l ∧ a + sumK l ≤ _
    omega
theorem sumK_take : ∀ (l : List Int) (i : Nat), (∀ x ∈ l, 0 ≤ x) → 0 ≤ sumK (l.take i) ∧ sumK (l.take i) ≤ sumK l
  | [], i, _ => by simp [sumK]
  | a :: l, 0, h => by
    have h1 := sumK_take l 0 (fun x hx => h x (List.mem_cons_of_mem _ hx))
    have h2 := h a (List.mem_cons_self)
    rw [List.take_zero] at h1 ⊢
    show 0 ≤ (0 : Int) ∧ (0 : Int) ≤ a + sumK l
    have : (0 : Int) ≤ sumK l := h1.2
    omega
  | a :: l, i + 1, h => by
    have h1 := sumK_take l i (fun x hx => h x (List.mem_cons_of_mem _ hx))
    have h2 := h a (List.mem_cons_self)
    rw [List.take_succ_cons]
    show 0 ≤ a + sumK (l.take i) ∧ a + sumK (l.take i) ≤ a + sumK l
    omega
theorem kitB_at1 {l : List Int} (h : kitB l = true) : (1 ≤ l.length ∧ l.length ≤ 6) ∧ ∀ x ∈ l, 1 ≤ x ∧ x ≤ 99 := by
  unfold kitB at h
  split at h
  · rename_i hk
    have h2 := of_decide_eq_true h
    refine ⟨by omega, fun x hx => ?_⟩
    obtain ⟨j, hj, rfl⟩ := List.getElem_of_mem hx
    have := (hk (j : Int) (by omega) (by omega)).1
    have e : rd l (j : Int) = l[j] := by
      unfold rd
      rw [Int.toNat_natCast]
      exact getD_lt _ hj
    rw [e] at this
    omega
  · cases h
theorem rdB_set (l : List Bool) (a t : Int) (ha : 0 ≤ a) (ht : 0 ≤ t) (hl : a < (l.length : Int)) : rdOf false (l.set a.toNat true) t = true ↔ t = a ∨ rdOf false l t = true := by
  unfold rdOf
  rw [List.getD_eq_getElem?_getD, List.getElem?_set, List.getD_eq_getElem?_getD]
  by_cases h : a.toNat = t.toNat
  · rw [if_pos h, if_pos (by omega)]
    simp only [Option.getD_some, true_iff]
    exact .inl (by omega)
  · rw [if_neg h]
    constructor
    · exact .inr
    · rintro (e | e)
      · omega
      · exact e
theorem rdB_false (n : Nat) (t : Int) : rdOf false (List.replicate n false) t = false := by
  unfold rdOf
  rw [List.getD_eq_getElem?_getD]
  by_cases h : t.toNat < n
  · rw [List.getElem?_replicate, if_pos h]; rfl
  · rw [List.getElem?_replicate, if_neg h]; rfl
theorem l1Least_le {a b : Int} (h : a ≤ b) : spec_l1Least.f a b = some a := by
  unfold spec_l1Least.f
  split
  · rfl
  · rw [show b = a by omega]
theorem l1Most_ge {a b : Int} (h : b ≤ a) : spec_l1Most.f a b = some a := by
  unfold spec_l1Most.f
  split
  · rfl
  · rw [show b = a by omega]
/-- What a weight makes of what was reached, places below j alone. -/
def Next (now : List Bool) (two : Bool) (x j t : Int) : Prop := ∃ s, 0 ≤ s ∧ s < j ∧ rdOf false now s = true ∧ (t = s ∨ t = s + x ∨ (two = true ∧ t = s - x))
theorem next_succ (now : List Bool) (two : Bool) (x j t : Int) (hj : 0 ≤ j) : Next now two x (j + 1) t ↔ Next now two x j t ∨ (rdOf false now j = true ∧ (t = j ∨ t = j + x ∨ (two = true ∧ t = j - x))) := by
  constructor
  · rintro ⟨s, h0, h1, h2, h3⟩
    by_cases e : s = j
    · subst e
      exact .inr ⟨h2, h3⟩
    · exact .inl ⟨s, h0, by omega, h2, h3⟩
  · rintro (⟨s, h0, h1, h2, h3⟩ | ⟨h2, h3⟩)
    · exact ⟨s, h0, by omega, h2, h3⟩
    · exact ⟨j, hj, by omega, h2, h3⟩
theorem sums_row (kit : List Int) (two : Bool) (T i x : Int) (now : List Bool) (hT : 0 ≤ T) (hT2 : T ≤ 594) (hn : (now.length : Int) = 2 * T + 1) (hi : 0 ≤ i) (hi2 : i < (kit.length : Int)) (hk6 : kit.length ≤ 6) (hx : rd kit i = x) (hx0 : 1 ≤ x) (hx1 : x ≤ 99)
    (hb : ∀ s, 0 ≤ s → rdOf false now s = true → s + x ≤ 2 * T ∧ 0 ≤ s - x) : ∀ (d j : Nat) (nx : List Bool), j + d = now.length → nx.length = now.length → (∀ t, 0 ≤ t → (rdOf false nx t = true ↔ Next now two x j t)) →
    ∃ nx2 : List Bool, nx2.length = now.length ∧ (∀ t, 0 ≤ t → (rdOf false nx2 t = true ↔ Next now two x now.length t)) ∧ ∀ r, Ev (fun k => spec_l3Sums.l1 k kit two T nx2 (i + 1)) r → Ev (fun k => spec_l3Sums.l2 k kit two T now i nx (j : Int)) r := by
  intro d
  induction d with
  | zero =>
    intro j nx h hl hq
    refine ⟨nx, hl, fun t ht => ?_, fun r hr => ?_⟩
    · rw [hq t ht, show j = now.length by omega]
    · refine Ev.step (fun k => by rw [spec_l3Sums.l2]) ?_
      simp only [if_neg (show ¬ (j : Int) < (now.length : Int) by omega), w64 (show -9223372036854775808 ≤ i + 1 by omega) (by omega)]
      exact hr
  | succ d ih =>
    intro j nx h hl hq
    have c1 : (j : Int) < (now.length : Int) := by omega
    have c0 : 0 ≤ (j : Int) := Int.natCast_nonneg _
    have c2 : (j : Int) < (nx.length : Int) := by omega
    have e1 : (j : Int) + 1 = ((j + 1 : Nat) : Int) := (Int.natCast_add j 1).symm
    have ej : wrap64 ((j : Int) + 1) = ((j + 1 : Nat) : Int) := by rw [w64 (by omega) (by omega)]; exact e1
    have e2T : wrap64 (2 * T) = 2 * T := w64 (by omega) (by omega)
    by_cases hbj : rdOf false now (j : Int) = true
    · obtain ⟨b1, b2⟩ := hb j c0 hbj
      have ep : wrap64 ((j : Int) + x) = (j : Int) + x := w64 (by omega) (by omega)
      have em : wrap64 ((j : Int) - x) = (j : Int) - x := w64 (by omega) (by omega)
      have g1 : 0 ≤ (j : Int) + x := by omega
      have g2 : (j : Int) + x < (nx.length : Int) := by omega
      have g3 : 0 ≤ (j : Int) - x := by omega
      have g4 : (j : Int) - x < (nx.length : Int) := by omega
      have hset : ∀ t, 0 ≤ t → (rdOf false ((nx.set ((j : Int)).toNat true).set ((j : Int) + x).toNat true) t = true ↔ t = (j : Int) + x ∨ t = j ∨ Next now two x j t) := by
        intro t ht
        rw [rdB_set _ _ _ g1 ht (by rw [List.length_set]; exact g2), rdB_set _ _ _ c0 ht c2, hq t ht]
      cases two with
      | false =>
        obtain ⟨nx2, hl2, hq2, hr2⟩ := ih (j + 1) ((nx.set ((j : Int)).toNat true).set ((j : Int) + x).toNat true) (by omega) (by rw [List.length_set, List.length_set]; exact hl) (fun t ht => by
          rw [hset t ht, ← e1, next_succ now false x j t c0]
          constructor
          · rintro (e | e | e)
            · exact .inr ⟨hbj, .inr (.inl e)⟩
            · exact .inr ⟨hbj, .inl e⟩
            · exact .inl e
          · rintro (e | ⟨_, e | e | e⟩)
            · exact .inr (.inr e)
            · exact .inr (.inl e)
            · exact .inl e
            · cases e.1)
        refine ⟨nx2, hl2, hq2, fun r hr => ?_⟩
        refine Ev.step (fun k => by rw [spec_l3Sums.l2]) ?_
        simp only [if_pos c1, if_pos c0, hbj, if_true, if_pos c2, if_pos hi, if_pos hi2, hx, ep, e2T, l1Least_le b1, Option.bind_some, if_pos g1, if_pos g2, Bool.false_eq_true, if_false, ej]
        exact hr2 r hr
      | true =>
        obtain ⟨nx2, hl2, hq2, hr2⟩ := ih (j + 1) (((nx.set ((j : Int)).toNat true).set ((j : Int) + x).toNat true).set ((j : Int) - x).toNat true) (by omega) (by rw [List.length_set, List.length_set, List.length_set]; exact hl) (fun t ht => by
          rw [rdB_set _ _ _ g3 ht (by rw [List.length_set, List.length_set]; exact g4), hset t ht, ← e1, next_succ now true x j t c0]
          constructor
          · rintro (e | e | e | e)
            · exact .inr ⟨hbj, .inr (.inr ⟨rfl, e⟩)⟩
            · exact .inr ⟨hbj, .inr (.inl e)⟩
            · exact .inr ⟨hbj, .inl e⟩
            · exact .inl e
          · rintro (e | ⟨_, e | e | e⟩)
            · exact .inr (.inr (.inr e))
            · exact .inr (.inr (.inl e))
            · exact .inr (.inl e)
            · exact .inl e.2)
        refine ⟨nx2, hl2, hq2, fun r hr => ?_⟩
        refine Ev.step (fun k => by rw [spec_l3Sums.l2]) ?_
        simp only [if_pos c1, if_pos c0, hbj, if_true, if_pos c2, if_pos hi, if_pos hi2, hx, ep, em, e2T, l1Least_le b1, l1Most_ge b2, Option.bind_some, if_pos g1, if_pos g2, if_pos g3, if_pos g4, ej]
        exact hr2 r hr
    · obtain ⟨nx2, hl2, hq2, hr2⟩ := ih (j + 1) nx (by omega) hl (fun t ht => by
        rw [hq t ht, ← e1, next_succ now two x j t c0]
        constructor
        · exact .inl
        · rintro (e | e)
          · exact e
          · exact absurd e.1 hbj)
      refine ⟨nx2, hl2, hq2, fun r hr => ?_⟩
      refine Ev.step (fun k => by rw [spec_l3Sums.l2]) ?_
      simp only [if_pos c1, if_pos c0, if_neg hbj, ej]
      exact hr2 r hr
def lowOf (two : Bool) : Int := if two = true then -1 else 0
theorem upto_low (two : Bool) (g : Int) : g ∈ impl_eachSigns.upto (lowOf two) ↔ g = 0 ∨ g = 1 ∨ (two = true ∧ g = -1) := by
  cases two
  · rw [show impl_eachSigns.upto (lowOf false) = [0, 1] from rfl]
    simp
  · rw [show impl_eachSigns.upto (lowOf true) = [-1, 0, 1] from rfl]
    simp
    omega
theorem sums_all (kit : List Int) (two : Bool) (hk : ∀ x ∈ kit, 1 ≤ x ∧ x ≤ 99) (hk6 : kit.length ≤ 6) : ∀ (d i : Nat) (now : List Bool), i + d = kit.length → (now.length : Int) = 2 * sumK kit + 1 → (∀ t, 0 ≤ t → (rdOf false now t = true ↔ Reach (lowOf two) (kit.take i) (t - sumK kit))) →
    ∃ res : List Bool, Ev (fun k => spec_l3Sums.l1 k kit two (sumK kit) now (i : Int)) res ∧ (res.length : Int) = sumK kit + 1 ∧ ∀ n, 0 ≤ n → (rdOf false res n = true ↔ Reach (lowOf two) kit n) := by
  have hT := sumK_bound kit hk
  have hk0 : ∀ x ∈ kit, 0 ≤ x := fun x hx => by have := hk x hx; omega
  intro d
  induction d with
  | zero =>
    intro i now h hl hq
    have hi : kit.take i = kit := List.take_of_length_le (by omega)
    refine ⟨now.drop (sumK kit).toNat, ?_, by rw [List.length_drop]; omega, fun n hn => ?_⟩
    · refine Ev.step (fun k => by rw [spec_l3Sums.l1]) ?_
      simp only [if_neg (show ¬ (i : Int) < (kit.length : Int) by omega), if_pos (show 0 ≤ sumK kit by omega), if_pos (show sumK kit ≤ (now.length : Int) by omega)]
      exact Ev.now _
    · have e : rdOf false (now.drop (sumK kit).toNat) n = rdOf false now (n + sumK kit) := by
        unfold rdOf
        rw [List.getD_eq_getElem?_getD, List.getElem?_drop, List.getD_eq_getElem?_getD, show (sumK kit).toNat + n.toNat = (n + sumK kit).toNat by omega]
      rw [e, hq _ (by omega), hi, show n + sumK kit - sumK kit = n by omega]
  | succ d ih =>
    intro i now h hl hq
    have hik : i < kit.length := by omega
    have hxk := hk _ (List.getElem_mem hik)
    have hx : rd kit (i : Int) = kit[i] := by
      unfold rd
      rw [Int.toNat_natCast]
      exact getD_lt _ hik
    have htk : kit.take (i + 1) = kit.take i ++ [kit[i]] := by
      rw [List.take_add_one, List.getElem?_eq_getElem hik]
      rfl
    have hs1 : sumK (kit.take (i + 1)) = sumK (kit.take i) + kit[i] := by rw [htk, sumK_snoc]
    have hs2 := sumK_take kit (i + 1) hk0
    have hb : ∀ s, 0 ≤ s → rdOf false now s = true → s + kit[i] ≤ 2 * sumK kit ∧ 0 ≤ s - kit[i] := by
      intro s h0 h1
      have h2 := reach_bound (fun x hx => hk0 x (List.mem_of_mem_take hx)) ((hq s h0).1 h1)
      omega
    obtain ⟨nx2, hl2, hq2, hr2⟩ := sums_row kit two (sumK kit) i kit[i] now (by omega) (by omega) hl (by omega) (by omega) hk6 hx hxk.1 hxk.2 hb now.length 0 (List.replicate now.length false) (by omega) (List.length_replicate) (fun t ht => by
      rw [rdB_false]
      constructor
      · intro e; cases e
      · rintro ⟨s, h0, h1, _⟩
        omega)
    obtain ⟨res, hr, hlr, hqr⟩ := ih (i + 1) nx2 (by omega) (by rw [hl2]; exact hl) (fun t ht => by
      rw [hq2 t ht, htk, reach_snoc]
      constructor
      · rintro ⟨s, h0, h1, h2, h3⟩
        have h4 := (hq s h0).1 h2
        rcases h3 with e | e | e
        · exact ⟨0, (upto_low two 0).2 (.inl rfl), by rw [show t - sumK kit - 0 * kit[i] = s - sumK kit by omega]; exact h4⟩
        · exact ⟨1, (upto_low two 1).2 (.inr (.inl rfl)), by rw [show t - sumK kit - 1 * kit[i] = s - sumK kit by omega]; exact h4⟩
        · exact ⟨-1, (upto_low two (-1)).2 (.inr (.inr ⟨e.1, rfl⟩)), by rw [show t - sumK kit - -1 * kit[i] = s - sumK kit by omega]; exact h4⟩
      · rintro ⟨g, hg, h4⟩
        have h5 := reach_bound (fun x hx => hk0 x (List.mem_of_mem_take hx)) h4
        rcases (upto_low two g).1 hg with rfl | rfl | ⟨h6, rfl⟩
        · refine ⟨t, ht, by omega, (hq t ht).2 ?_, .inl rfl⟩
          rw [show t - sumK kit = t - sumK kit - 0 * kit[i] by omega]
          exact h4
        · refine ⟨t - kit[i], by omega, by omega, (hq _ (by omega)).2 ?_, .inr (.inl (by omega))⟩
          rw [show t - kit[i] - sumK kit = t - sumK kit - 1 * kit[i] by omega]
          exact h4
        · refine ⟨t + kit[i], by omega, by omega, (hq _ (by omega)).2 ?_, .inr (.inr ⟨h6, by omega⟩)⟩
          rw [show t + kit[i] - sumK kit = t - sumK kit - -1 * kit[i] by omega]
          exact h4)
    refine ⟨res, ?_, hlr, hqr⟩
    refine Ev.step (fun k => by rw [spec_l3Sums.l1]) ?_
    simp only [if_pos (show (i : Int) < (kit.length : Int) by omega), if_pos (show 0 ≤ (now.length : Int) by omega), Int.toNat_natCast, if_pos (show now.length ≤ 281474976710656 by omega)]
    refine hr2 res ?_
    rw [show (i : Int) + 1 = ((i + 1 : Nat) : Int) from (Int.natCast_add i 1).symm]
    exact hr
theorem sums_l0 (kit : List Int) (two : Bool) (hk : ∀ x ∈ kit, 1 ≤ x ∧ x ≤ 99) (hk6 : kit.length ≤ 6) {r : List Bool}
    (h : Ev (fun k => spec_l3Sums.l1 k kit two (sumK kit) ((List.replicate (2 * sumK kit + 1).toNat false).set (sumK kit).toNat true) 0) r) : ∀ (d j : Nat) (a : Int), j + d = kit.length → a + sumK (kit.drop j) = sumK kit → 0 ≤ a → a ≤ 99 * (j : Int) → Ev (fun k => spec_l3Sums.l0 k kit two a (j : Int)) r := by
  have hT := sumK_bound kit hk
  intro d
  induction d with
  | zero =>
    intro j a hj ha h0 h1
    rw [List.drop_eq_nil_of_le (by omega)] at ha
    have : a = sumK kit := by rw [← ha]; exact (Int.add_zero a).symm
    subst this
    have e2 : wrap64 (2 * sumK kit) = 2 * sumK kit := w64 (by omega) (by omega)
    have e3 : wrap64 (2 * sumK kit + 1) = 2 * sumK kit + 1 := w64 (by omega) (by omega)
    refine Ev.step (fun k => by rw [spec_l3Sums.l0]) ?_
    simp only [if_neg (show ¬ (j : Int) < (kit.length : Int) by omega), e2, e3, if_pos (show 0 ≤ 2 * sumK kit + 1 by omega), if_pos (show (2 * sumK kit + 1).toNat ≤ 281474976710656 by omega), Option.bind_some, if_pos (show 0 ≤ sumK kit by omega), List.length_replicate, if_pos (show sumK kit < ((2 * sumK kit + 1).toNat : Int) by omega)]
    exact h
  | succ d ih =>
    intro j a hj ha h0 h1
    have hjk : j < kit.length := by omega
    have hxk := hk _ (List.getElem_mem hjk)
    have hx : rd kit (j : Int) = kit[j] := by
      unfold rd
      rw [Int.toNat_natCast]
      exact getD_lt _ hjk
    rw [List.drop_eq_getElem_cons hjk] at ha
    have ha2 : a + kit[j] + sumK (kit.drop (j + 1)) = sumK kit := by rw [← ha, Int.add_assoc]; rfl
    have key := ih (j + 1) (a + kit[j]) (by omega) ha2 (by omega) (by omega)
    have b1 : -9223372036854775808 ≤ a + kit[j] ∧ a + kit[j] ≤ 9223372036854775807 := by omega
    have b2 : -9223372036854775808 ≤ (j : Int) + 1 ∧ (j : Int) + 1 ≤ 9223372036854775807 := by omega
    have c1 : (j : Int) < (kit.length : Int) := by omega
    have c0 : 0 ≤ (j : Int) := Int.natCast_nonneg _
    have ea : wrap64 (a + kit[j]) = a + kit[j] := w64 b1.1 b1.2
    have ej : wrap64 ((j : Int) + 1) = ((j + 1 : Nat) : Int) := (w64 b2.1 b2.2).trans (Int.natCast_add j 1).symm
    refine Ev.step (fun k => by rw [spec_l3Sums.l0]) ?_
    simp only [if_pos c1, if_pos c0, hx, ea, ej]
    exact key
theorem l3Sums_ev (kit : List Int) (two : Bool) (hk : ∀ x ∈ kit, 1 ≤ x ∧ x ≤ 99) (hk6 : kit.length ≤ 6) : ∃ res : List Bool, Ev (fun k => spec_l3Sums.f k kit two) res ∧ (res.length : Int) = sumK kit + 1 ∧ ∀ n, 0 ≤ n → (rdOf false res n = true ↔ Reach (lowOf two) kit n) := by
  have hT := sumK_bound kit hk
  obtain ⟨res, hr, hl, hq⟩ := sums_all kit two hk hk6 kit.length 0 ((List.replicate (2 * sumK kit + 1).toNat false).set (sumK kit).toNat true) (by omega) (by rw [List.length_set, List.length_replicate]; omega) (fun t ht => by
    rw [rdB_set _ _ _ (by omega) ht (by rw [List.length_replicate]; omega), rdB_false, List.take_zero, reach_nil]
    constructor
    · rintro (e | e)
      · omega
      · cases e
    · intro e; exact .inl (by omega))
  refine ⟨res, ?_, hl, hq⟩
  unfold spec_l3Sums.f
  exact sums_l0 kit two hk hk6 hr kit.length 0 0 (by omega) (by rw [List.drop_zero]; omega) (by omega) (by omega)

theorem mem_imp {α : Type} [Inhabited α] (d : Array α) (i : Nat) (h : i < d.size) : d[i]! ∈ d.toList := by
  rw [getElem!_pos d i h]
  simp
/-- A sorted list, told once each. -/
theorem compact_mem (l : List Int) (x : Int) : x ∈ Lib.compact l ↔ x ∈ l := by
  unfold Lib.compact Lib.compactUpTo
  rw [List.mem_map]
  constructor
  · rintro ⟨j, hj, rfl⟩
    rw [List.mem_filter, List.mem_range] at hj
    have := mem_imp l.toArray j (by simpa using hj.1)
    simpa using this
  · intro hx
    obtain ⟨i, hi, hxi⟩ := List.getElem_of_mem hx
    have key : ∀ (n i : Nat), i ≤ n → i < l.length → l.toArray[i]! = x → ∃ j, j ∈ (List.range l.length).filter (Lib.keeps l.toArray) ∧ l.toArray[j]! = x := by
      intro n
      induction n with
      | zero =>
        intro i h0 h1 h2
        refine ⟨i, List.mem_filter.2 ⟨List.mem_range.2 h1, ?_⟩, h2⟩
        rw [show i = 0 by omega]
        simp [Lib.keeps]
      | succ n ih =>
        intro i h0 h1 h2
        by_cases hk : Lib.keeps l.toArray i = true
        · exact ⟨i, List.mem_filter.2 ⟨List.mem_range.2 h1, hk⟩, h2⟩
        · unfold Lib.keeps at hk
          rw [decide_eq_true_eq] at hk
          have hi0 : i ≠ 0 := fun e => hk (.inl e)
          have he : l.toArray[i]! = l.toArray[i - 1]! := Classical.byContradiction fun e => hk (.inr e)
          exact ih (i - 1) (by omega) (by omega) (he ▸ h2)
    exact key i i (Nat.le_refl _) hi (by rw [getElem!_pos _ _ (by simpa using hi)]; simpa using hxi)
theorem compact_lt (l : List Int) (hs : l.Pairwise (· ≤ ·)) : (Lib.compact l).Pairwise (· < ·) := by
  unfold Lib.compact Lib.compactUpTo
  rw [List.pairwise_map]
  have hle : ∀ i j, i ≤ j → j < l.length → l.toArray[i]! ≤ l.toArray[j]! := by
    intro i j hij hj
    rw [getElem!_pos _ _ (by simpa using (show i < l.length by omega)), getElem!_pos _ _ (by simpa using hj)]
    rcases Nat.lt_or_ge i j with h | h
    · exact List.pairwise_iff_getElem.1 hs i j (by omega) hj h
    · obtain rfl : i = j := by omega
      exact Int.le_refl _
  refine List.Pairwise.imp_of_mem ?_ ((List.pairwise_lt_range (n := l.length)).filter _)
  intro i j hi hj hij
  rw [List.mem_filter, List.mem_range] at hi hj
  have hk := hj.2
  unfold Lib.keeps at hk
  rw [decide_eq_true_eq] at hk
  have h1 := hk.resolve_left (by omega)
  have h2 := hle i (j - 1) (by omega) (by omega)
  have h3 := hle (j - 1) j (by omega) hj.1
  omega
theorem lt_unique : ∀ (a b : List Int), a.Pairwise (· < ·) → b.Pairwise (· < ·) → (∀ x, x ∈ a ↔ x ∈ b) → a = b
  | [], [], _, _, _ => rfl
  | [], y :: b, _, _, h => by have := (h y).2 (List.mem_cons_self); cases this
  | x :: a, [], _, _, h => by have := (h x).1 (List.mem_cons_self); cases this
  | x :: a, y :: b, ha, hb, h => by
    rw [List.pairwise_cons] at ha hb
    have hxy : x = y := by
      rcases List.mem_cons.1 ((h x).1 (List.mem_cons_self)) with e | e
      · exact e
      · rcases List.mem_cons.1 ((h y).2 (List.mem_cons_self)) with e2 | e2
        · exact e2.symm
        · have h1 := hb.1 x e
          have h2 := ha.1 y e2
          omega
    subst hxy
    congr 1
    refine lt_unique a b ha.2 hb.2 (fun z => ?_)
    constructor
    · intro hz
      have h1 := ha.1 z hz
      rcases List.mem_cons.1 ((h z).1 (List.mem_cons_of_mem _ hz)) with e | e
      · omega
      · exact e
    · intro hz
      have h1 := hb.1 z hz
      rcases List.mem_cons.1 ((h z).2 (List.mem_cons_of_mem _ hz)) with e | e
      · omega
      · exact e
/-- The numbers in i + 1 .. i + d that are told. -/
def told (P : Int → Bool) : Nat → Int → List Int
  | 0, _ => []
  | d + 1, i => if P (i + 1) = true then (i + 1) :: told P d (i + 1) else told P d (i + 1)
theorem told_mem (P : Int → Bool) : ∀ (d : Nat) (i n : Int), n ∈ told P d i ↔ i < n ∧ n ≤ i + d ∧ P n = true
  | 0, i, n => by
    simp only [told, List.not_mem_nil, false_iff]
    omega
  | d + 1, i, n => by
    rw [told]
    split
    · rename_i h
      rw [List.mem_cons, told_mem P d (i + 1) n]
      constructor
      · rintro (rfl | ⟨h1, h2, h3⟩)
        · exact ⟨by omega, by omega, h⟩
        · exact ⟨by omega, by omega, h3⟩
      · rintro ⟨h1, h2, h3⟩
        by_cases e : n = i + 1
        · exact .inl e
        · exact .inr ⟨by omega, by omega, h3⟩
    · rename_i h
      rw [told_mem P d (i + 1) n]
      constructor
      · rintro ⟨h1, h2, h3⟩
        exact ⟨by omega, by omega, h3⟩
      · rintro ⟨h1, h2, h3⟩
        refine ⟨?_, by omega, h3⟩
        rcases (show n = i + 1 ∨ i + 1 < n by omega) with e | e
        · subst e
          exact absurd h3 h
        · exact e
theorem told_lt (P : Int → Bool) : ∀ (d : Nat) (i : Int), (told P d i).Pairwise (· < ·)
  | 0, i => List.Pairwise.nil
  | d + 1, i => by
    rw [told]
    split
    · rw [List.pairwise_cons]
      exact ⟨fun n hn => ((told_mem P d (i + 1) n).1 hn).1, told_lt P d (i + 1)⟩
    · exact told_lt P d (i + 1)
theorem told_len (P : Int → Bool) : ∀ (d : Nat) (i : Int), (told P d i).length ≤ d
  | 0, i => Nat.le_refl _
  | d + 1, i => by
    have := told_len P d (i + 1)
    rw [told]
    split
    · rw [List.length_cons]; omega
    · omega
/-- What weighing makes of all sums, in order and once each. -/
theorem moreM : ∀ (L : List (List Int)) (kit pre : List Int) (b : List Int), b.length + L.length < 17592186044416 → L.foldlM (fun s y => impl_weighed.more s (0 + dotW kit y)) b = some (b ++ ((L.map (dotW kit)).filter fun z => decide (z > 0)))
  | [], kit, pre, b, _ => by simp
  | y :: L, kit, pre, b, h => by
    rw [List.length_cons] at h
    rw [List.foldlM_cons, Int.zero_add, List.map_cons]
    unfold impl_weighed.more
    by_cases hp : dotW kit y > 0
    · rw [if_pos hp, if_pos (by omega), List.filter_cons_of_pos (by simpa using hp)]
      show L.foldlM _ (b ++ [dotW kit y]) = _
      have ih := moreM L kit pre (b ++ [dotW kit y]) (by rw [List.length_append, List.length_singleton]; omega)
      unfold impl_weighed.more at ih
      rw [ih, List.append_assoc]
      rfl
    · rw [if_neg hp, List.filter_cons_of_neg (by simpa using hp)]
      have ih := moreM L kit pre b (by omega)
      unfold impl_weighed.more at ih
      exact ih
theorem allL_len (two : Bool) : ∀ n, (allL (lowOf two) n).length ≤ 3 ^ n
  | 0 => Nat.le_refl _
  | n + 1 => by
    have ih := allL_len two n
    have hu : (impl_eachSigns.upto (lowOf two)).length ≤ 3 := by cases two <;> decide
    have : ∀ l : List Int, (l.flatMap fun g => (allL (lowOf two) n).map (g :: ·)).length = l.length * (allL (lowOf two) n).length := by
      intro l
      induction l with
      | nil => simp
      | cons a l ih => rw [List.flatMap_cons, List.length_append, ih, List.length_map, List.length_cons, Nat.succ_mul, Nat.add_comm]
    rw [allL, this, Nat.pow_succ, Nat.mul_comm]
    exact Nat.mul_le_mul ih hu
theorem weighed_eq (kit : List Int) (two : Bool) (res : List Bool) (hk : ∀ x ∈ kit, 1 ≤ x ∧ x ≤ 99) (hk1 : 1 ≤ kit.length) (hk6 : kit.length ≤ 6) (hq : ∀ n, 0 ≤ n → (rdOf false res n = true ↔ Reach (lowOf two) kit n)) :
    impl_weighed.f kit (lowOf two) = some (told (rdOf false res) (sumK kit).toNat 0) := by
  have hT := sumK_bound kit hk
  have hk0 : ∀ x ∈ kit, 0 ≤ x := fun x hx => by have := hk x hx; omega
  have hl : -1 ≤ lowOf two ∧ lowOf two ≤ 2 := by cases two <;> decide
  have h729 : (allL (lowOf two) kit.length).length ≤ 729 := Nat.le_trans (allL_len two kit.length) (Nat.pow_le_pow_right (by omega) hk6)
  unfold impl_weighed.f
  rw [if_pos ⟨hl.1, hl.2, by omega⟩, eachG_foldM _ _ kit [] 0 [] (fun x hx => by have := hk x hx; omega) (by omega) (by omega)]
  show ((allL (lowOf two) kit.length).foldlM (fun s y => impl_weighed.more s (0 + dotW kit y)) []).bind _ = _
  rw [moreM _ kit [] [] (by rw [List.length_nil]; omega), Option.bind_some, List.nil_append]
  generalize hL : ((allL (lowOf two) kit.length).map (dotW kit)).filter (fun z => decide (z > 0)) = L
  have hmem : ∀ n, n ∈ L ↔ 0 < n ∧ Reach (lowOf two) kit n := by
    intro n
    rw [← hL, List.mem_filter, List.mem_map, decide_eq_true_eq]
    constructor
    · rintro ⟨⟨y, hy, rfl⟩, h⟩
      exact ⟨h, y, ((allL_iff _ _ y).1 hy).1, ((allL_iff _ _ y).1 hy).2, rfl⟩
    · rintro ⟨h, y, h1, h2, rfl⟩
      exact ⟨⟨y, (allL_iff _ _ y).2 ⟨h1, h2⟩, rfl⟩, h⟩
  have hlen : L.length ≤ 729 := by
    rw [← hL]
    refine Nat.le_trans (List.length_filter_le _ _) ?_
    rw [List.length_map]
    exact h729
  have hones : ∀ l : List Int, dotW l (List.replicate l.length 1) = sumK l := by
    intro l
    induction l with
    | nil => rfl
    | cons a l ih =>
      rw [List.length_cons, List.replicate_succ]
      show 1 * a + dotW l (List.replicate l.length 1) = a + sumK l
      rw [ih, Int.one_mul]
  have hne : 0 < L.length := by
    have : sumK kit ∈ L := (hmem _).2 ⟨by omega, List.replicate kit.length 1, List.length_replicate, fun g hg => by rw [List.eq_of_mem_replicate hg]; exact (upto_low two 1).2 (.inr (.inl rfl)), hones kit⟩
    exact List.length_pos_of_mem this
  rw [if_pos ⟨hne, by omega⟩]
  congr 1
  refine lt_unique _ _ (compact_lt _ ?_) (told_lt _ _ _) (fun n => ?_)
  · have := List.pairwise_mergeSort (le := fun x y : Int => decide (x ≤ y)) (fun a b c h1 h2 => by simp only [decide_eq_true_eq] at *; omega) (fun a b => by simp only [Bool.or_eq_true, decide_eq_true_eq]; omega) L
    exact this.imp (fun h => by simpa using h)
  · rw [compact_mem, List.mem_mergeSort, hmem, told_mem]
    constructor
    · rintro ⟨h1, h2⟩
      have := reach_bound hk0 h2
      exact ⟨h1, by omega, (hq n (by omega)).2 h2⟩
    · rintro ⟨h1, _, h3⟩
      exact ⟨h1, (hq n (by omega)).1 h3⟩

theorem l3Told_l0 (res : List Bool) (hl : res.length ≤ 1000) : ∀ (d : Nat) (i : Int) (o : List Int), 0 ≤ i → i + 1 + d = res.length → (o.length : Int) ≤ i → Ev (fun k => spec_l3Told.l0 k res o (i + 1)) (o ++ told (rdOf false res) d i) := by
  intro d
  induction d with
  | zero =>
    intro i o h0 h1 h2
    refine Ev.step (fun k => by rw [spec_l3Told.l0]) ?_
    simp only [if_neg (show ¬ i + 1 < (res.length : Int) by omega)]
    exact Ev.some (by simp [told])
  | succ d ih =>
    intro i o h0 h1 h2
    refine Ev.step (fun k => by rw [spec_l3Told.l0]) ?_
    simp only [if_pos (show i + 1 < (res.length : Int) by omega), if_pos (show 0 ≤ i + 1 by omega), w64 (show -9223372036854775808 ≤ i + 1 + 1 by omega) (by omega), told]
    by_cases hp : rdOf false res (i + 1) = true
    · simp only [if_pos hp, if_pos (show o.length < 17592186044416 by omega)]
      refine Ev.as (ih (i + 1) (o ++ [i + 1]) (by omega) (by omega) (by rw [List.length_append, List.length_singleton]; omega)) ?_
      rw [List.append_assoc, List.singleton_append]
    · simp only [if_neg hp]
      exact ih (i + 1) o (by omega) (by omega) (by omega)
theorem l3Told_ev (res : List Bool) (T : Int) (h0 : 0 ≤ T) (hT : T ≤ 594) (hl : (res.length : Int) = T + 1) : Ev (fun k => spec_l3Told.f k res) (told (rdOf false res) T.toNat 0) := by
  unfold spec_l3Told.f
  have h := l3Told_l0 res (by omega) T.toNat 0 [] (by omega) (by omega) (by simp)
  rw [List.nil_append] at h
  exact h

theorem rangeQ_l0 (L : List Int) (res : List Bool) (T : Nat) (hT : T ≤ 594) (hL : L.length ≤ 594) (hres : res.length = T + 1) : ∀ d j : Nat, j + d = T → L.drop j = told (rdOf false res) d (j : Int) →
    ∃ R : Int, Ev (fun k => impl_KitRange.l0 k (j : Int) L (L.length : Int) (j : Int)) (R, true) ∧ Ev (fun k => spec_KitRange.l0 k res (j : Int)) (R, true) ∧ (j : Int) ≤ R ∧ (∀ m, (j : Int) < m → m ≤ R → rdOf false res m = true) ∧ ¬ rdOf false res (R + 1) = true := by
  intro d
  induction d with
  | zero =>
    intro j hj h
    have hl : L.length ≤ j := List.drop_eq_nil_iff.1 h
    refine ⟨j, Ev.step (fun k => by rw [impl_KitRange.l0]) ?_, Ev.step (fun k => by rw [spec_KitRange.l0]) ?_, Int.le_refl _, fun m a b => absurd a (by omega), ?_⟩
    · simp only [if_neg (show ¬ (j : Int) < (L.length : Int) by omega)]
      exact Ev.now _
    · simp only [w64 (show -9223372036854775808 ≤ (j : Int) + 1 by omega) (by omega), if_neg (show ¬ (j : Int) + 1 < (res.length : Int) by omega)]
      exact Ev.now _
    · unfold rdOf
      rw [List.getD_eq_getElem?_getD, List.getElem?_eq_none (by omega)]
      simp
  | succ d ih =>
    intro j hj h
    have ew : wrap64 ((j : Int) + 1) = (j : Int) + 1 := w64 (by omega) (by omega)
    have e1 : (j : Int) + 1 = ((j + 1 : Nat) : Int) := (Int.natCast_add j 1).symm
    rw [told] at h
    by_cases hp : rdOf false res ((j : Int) + 1) = true
    · rw [if_pos hp] at h
      have hlt : j < L.length := by
        rcases Nat.lt_or_ge j L.length with h' | h'
        · exact h'
        · rw [List.drop_eq_nil_of_le h'] at h; cases h
      rw [List.drop_eq_getElem_cons hlt] at h
      injection h with h1 h2
      have er : rd L (j : Int) = (j : Int) + 1 := by
        unfold rd
        rw [Int.toNat_natCast, getD_lt _ hlt]
        exact h1
      obtain ⟨R, hi, hs, g1, g2, g3⟩ := ih (j + 1) (by omega) (by rw [← e1]; exact h2)
      refine ⟨R, Ev.step (fun k => by rw [impl_KitRange.l0]) ?_, Ev.step (fun k => by rw [spec_KitRange.l0]) ?_, by omega, fun m a b => ?_, g3⟩
      · simp only [if_pos (show (j : Int) < (L.length : Int) by omega), if_pos (show 0 ≤ (j : Int) by omega), er, ew, if_true]
        rw [e1]
        exact hi
      · simp only [ew, if_pos (show (j : Int) + 1 < (res.length : Int) by omega), if_pos (show 0 ≤ (j : Int) + 1 by omega), if_pos hp]
        rw [e1]
        exact hs
      · by_cases hm : m = (j : Int) + 1
        · rw [hm]; exact hp
        · exact g2 m (by omega) b
    · rw [if_neg hp] at h
      refine ⟨j, Ev.step (fun k => by rw [impl_KitRange.l0]) ?_, Ev.step (fun k => by rw [spec_KitRange.l0]) ?_, Int.le_refl _, fun m a b => absurd a (by omega), hp⟩
      · by_cases hlt : j < L.length
        · have hm : L[j] ∈ told (rdOf false res) d ((j : Int) + 1) := by
            rw [← h, List.drop_eq_getElem_cons hlt]
            exact List.mem_cons_self
          have hgt := ((told_mem _ _ _ _).1 hm).1
          have er : rd L (j : Int) = L[j] := by
            unfold rd
            rw [Int.toNat_natCast]
            exact getD_lt _ hlt
          simp only [if_pos (show (j : Int) < (L.length : Int) by omega), if_pos (show 0 ≤ (j : Int) by omega), er, ew, if_neg (show ¬ L[j] = (j : Int) + 1 by omega)]
          exact Ev.now _
        · simp only [if_neg (show ¬ (j : Int) < (L.length : Int) by omega)]
          exact Ev.now _
      · simp only [ew, if_pos (show (j : Int) + 1 < (res.length : Int) by omega), if_pos (show 0 ≤ (j : Int) + 1 by omega), if_neg hp]
        exact Ev.now _
theorem rangeQ (kit : List Int) (two : Bool) (hl : kit.length ≤ 1048576) (h : kitB kit = true) : ∃ R : Int, Ev (fun k => spec_KitRange.f k kit two) (R, true) ∧ Ev (fun k => impl_KitRange.f k kit two) (R, true) ∧ 0 ≤ R ∧ (∀ m, 0 < m → m ≤ R → Reach (lowOf two) kit m) ∧ ¬ Reach (lowOf two) kit (R + 1) := by
  obtain ⟨h6, hk⟩ := kitB_at1 h
  have hT := sumK_bound kit hk
  obtain ⟨res, hr, hlr, hq⟩ := l3Sums_ev kit two hk h6.2
  have hw := weighed_eq kit two res hk h6.1 h6.2 hq
  have hlen := told_len (rdOf false res) (sumK kit).toNat 0
  obtain ⟨R, h1, h2, g0, g1, g2⟩ := rangeQ_l0 (told (rdOf false res) (sumK kit).toNat 0) res (sumK kit).toNat (by omega) (by omega) (by omega) (sumK kit).toNat 0 (by omega) (by rw [List.drop_zero]; rfl)
  refine ⟨R, ?_, ?_, g0, fun m a b => (hq m (by omega)).1 (g1 m a b), fun e => g2 ((hq (R + 1) (by have : (0 : Int) ≤ R := g0; omega)).2 e)⟩
  · unfold spec_KitRange.f
    refine Ev.bind (l3Kit_ev kit (by omega)) ?_
    simp only [h, if_true]
    exact Ev.bind hr h2
  · unfold impl_KitRange.f
    refine Ev.bind (implIsKit_ev kit (by omega)) ?_
    cases two
    · rw [show lowOf false = 0 from rfl] at hw
      simp only [h, if_true, Bool.false_eq_true, if_false]
      refine Ev.step (fun k => by rw [impl_KitRange.j0]) ?_
      rw [hw]
      exact h1
    · rw [show lowOf true = -1 from rfl] at hw
      simp only [h, if_true]
      refine Ev.step (fun k => by rw [impl_KitRange.j0]) ?_
      rw [hw]
      exact h1
theorem rangeQ_no (kit : List Int) (two : Bool) (hl : kit.length ≤ 1048576) (h : ¬ kitB kit = true) : Ev (fun k => spec_KitRange.f k kit two) (0, false) ∧ Ev (fun k => impl_KitRange.f k kit two) (0, false) := by
  refine ⟨?_, ?_⟩
  · unfold spec_KitRange.f
    refine Ev.bind (l3Kit_ev kit (by omega)) ?_
    simp only [h, if_false, Bool.false_eq_true]
    exact Ev.now _
  · unfold impl_KitRange.f
    refine Ev.bind (implIsKit_ev kit (by omega)) ?_
    simp only [h, if_false, Bool.false_eq_true]
    exact Ev.now _
theorem weighQ (kit : List Int) (hl : kit.length ≤ 1048576) (h : kitB kit = true) : ∃ one two : List Int, one.length ≤ 594 ∧ two.length ≤ 594 ∧ Ev (fun k => spec_WeighOne.f k kit) (one, true) ∧ Ev (fun k => impl_WeighOne.f k kit) (one, true) ∧ Ev (fun k => spec_WeighTwo.f k kit) (two, true) ∧ Ev (fun k => impl_WeighTwo.f k kit) (two, true) ∧ (∀ n, n ∈ one ↔ 0 < n ∧ Reach 0 kit n) ∧ (∀ n, n ∈ two ↔ 0 < n ∧ Reach (-1) kit n) := by
  obtain ⟨h6, hk⟩ := kitB_at1 h
  have hT := sumK_bound kit hk
  have mem : ∀ (b : Bool) (res : List Bool), (∀ n, 0 ≤ n → (rdOf false res n = true ↔ Reach (lowOf b) kit n)) → ∀ n, n ∈ told (rdOf false res) (sumK kit).toNat 0 ↔ 0 < n ∧ Reach (lowOf b) kit n := by
    intro b res hq n
    rw [told_mem]
    constructor
    · rintro ⟨a, _, c⟩
      exact ⟨a, (hq n (by omega)).1 c⟩
    · rintro ⟨a, c⟩
      have := reach_bound (fun x hx => by have := hk x hx; omega) c
      exact ⟨a, by omega, (hq n (by omega)).2 c⟩
  obtain ⟨r1, s1, l1, q1⟩ := l3Sums_ev kit false hk h6.2
  obtain ⟨r2, s2, l2, q2⟩ := l3Sums_ev kit true hk h6.2
  have w1 := weighed_eq kit false r1 hk h6.1 h6.2 q1
  have w2 := weighed_eq kit true r2 hk h6.1 h6.2 q2
  have t1 := l3Told_ev r1 (sumK kit) (by omega) (by omega) l1
  have t2 := l3Told_ev r2 (sumK kit) (by omega) (by omega) l2
  have z1 := told_len (rdOf false r1) (sumK kit).toNat 0
  have z2 := told_len (rdOf false r2) (sumK kit).toNat 0
  rw [show lowOf false = 0 from rfl] at w1
  rw [show lowOf true = -1 from rfl] at w2
  refine ⟨_, _, by omega, by omega, ?_, ?_, ?_, ?_, mem false r1 q1, mem true r2 q2⟩
  · unfold spec_WeighOne.f
    refine Ev.bind (l3Kit_ev kit (by omega)) ?_
    simp only [h, if_true]
    exact Ev.bind s1 (Ev.bind t1 (Ev.now _))
  · unfold impl_WeighOne.f
    refine Ev.bind (implIsKit_ev kit (by omega)) ?_
    simp only [h, if_true, w1, Option.bind_some]
    exact Ev.now _
  · unfold spec_WeighTwo.f
    refine Ev.bind (l3Kit_ev kit (by omega)) ?_
    simp only [h, if_true]
    exact Ev.bind s2 (Ev.bind t2 (Ev.now _))
  · unfold impl_WeighTwo.f
    refine Ev.bind (implIsKit_ev kit (by omega)) ?_
    simp only [h, if_true, w2, Option.bind_some]
    exact Ev.now _
theorem weighQ_no (kit : List Int) (hl : kit.length ≤ 1048576) (h : ¬ kitB kit = true) : Ev (fun k => spec_WeighOne.f k kit) ([], false) ∧ Ev (fun k => impl_WeighOne.f k kit) ([], false) ∧ Ev (fun k => spec_WeighTwo.f k kit) ([], false) ∧ Ev (fun k => impl_WeighTwo.f k kit) ([], false) := by
  refine ⟨?_, ?_, ?_, ?_⟩
  · unfold spec_WeighOne.f
    refine Ev.bind (l3Kit_ev kit (by omega)) ?_
    simp only [h, if_false, Bool.false_eq_true]
    exact Ev.now _
  · unfold impl_WeighOne.f
    refine Ev.bind (implIsKit_ev kit (by omega)) ?_
    simp only [h, if_false, Bool.false_eq_true]
    exact Ev.now _
  · unfold spec_WeighTwo.f
    refine Ev.bind (l3Kit_ev kit (by omega)) ?_
    simp only [h, if_false, Bool.false_eq_true]
    exact Ev.now _
  · unfold impl_WeighTwo.f
    refine Ev.bind (implIsKit_ev kit (by omega)) ?_
    simp only [h, if_false, Bool.false_eq_true]
    exact Ev.now _
/-- What one pan weighs, two do. -/
theorem reach_two {kit : List Int} {s : Int} (h : Reach 0 kit s) : Reach (-1) kit s := by
  obtain ⟨y, h1, h2, h3⟩ := h
  refine ⟨y, h1, fun g hg => ?_, h3⟩
  have h4 := (upto_low false g).1 (h2 g hg)
  refine (upto_low true g).2 ?_
  rcases h4 with h4 | h4 | h4
  · exact .inl h4
  · exact .inr (.inl h4)
  · exact absurd h4.1 (by simp)
/-- A sign row that weighs n is found exactly if there is one. -/
theorem best_some (n : Int) (kit : List Int) (h1 : 1 ≤ kit.length) : ∀ (L : List (List Int)) (b : List Int), (∀ y ∈ L, y.length = kit.length) → (b.length = 0 ∨ (b.length = kit.length ∧ dotW kit b = n ∧ ∀ g ∈ b, -1 ≤ g ∧ g ≤ 1)) → (∀ y ∈ L, ∀ g ∈ y, -1 ≤ g ∧ g ≤ 1) →
    ((L.foldl (fun b y => impl_HowToWeigh.pick n b y (dotW kit y)) b).length = 0 ∧ b.length = 0 ∧ ∀ y ∈ L, dotW kit y ≠ n) ∨ ((L.foldl (fun b y => impl_HowToWeigh.pick n b y (dotW kit y)) b).length = kit.length ∧ dotW kit (L.foldl (fun b y => impl_HowToWeigh.pick n b y (dotW kit y)) b) = n ∧ ∀ g ∈ L.foldl (fun b y => impl_HowToWeigh.pick n b y (dotW kit y)) b, -1 ≤ g ∧ g ≤ 1)
  | [], b, _, hb, _ => by
    rcases hb with hb | hb
    · exact .inl ⟨hb, hb, fun y hy => by cases hy⟩
    · exact .inr hb
  | y :: L, b, hl, hb, hg => by
    rw [List.foldl_cons]
    have hy := hl y List.mem_cons_self
    have hgy := hg y List.mem_cons_self
    have hl2 : ∀ z ∈ L, z.length = kit.length := fun z hz => hl z (List.mem_cons_of_mem _ hz)
    have hg2 : ∀ z ∈ L, ∀ g ∈ z, -1 ≤ g ∧ g ≤ 1 := fun z hz => hg z (List.mem_cons_of_mem _ hz)
    by_cases hc : dotW kit y = n ∧ (b.length = 0 ∨ impl_HowToWeigh.usedN y < impl_HowToWeigh.usedN b)
    · have e : impl_HowToWeigh.pick n b y (dotW kit y) = y := by unfold impl_HowToWeigh.pick; rw [if_pos hc]
      rw [e]
      rcases best_some n kit h1 L y hl2 (.inr ⟨hy, hc.1, hgy⟩) hg2 with h | h
      · exact absurd h.2.1 (by omega)
      · exact .inr h
    · have e : impl_HowToWeigh.pick n b y (dotW kit y) = b := by unfold impl_HowToWeigh.pick; rw [if_neg hc]
      rw [e]
      rcases best_some n kit h1 L b hl2 hb hg2 with h | h
      · refine .inl ⟨h.1, h.2.1, fun z hz => ?_⟩
        rcases List.mem_cons.1 hz with rfl | hz
        · exact fun e2 => hc ⟨e2, .inl h.2.1⟩
        · exact h.2.2 z hz
      · exact .inr h
theorem dotW_cons (x g : Int) (kit y : List Int) : dotW (x :: kit) (g :: y) = g * x + dotW kit y := rfl
/-- What HowToWeigh has given. -/
theorem HowR_facts (kit : List Int) (n : Int) (h : kitB kit = true) (hn : 1 ≤ n) : ((HowR kit n).2 = true ∧ Reach (-1) kit n ∧ (HowR kit n).1.length = kit.length ∧ dotW kit (HowR kit n).1 = n ∧ ∀ g ∈ (HowR kit n).1, -1 ≤ g ∧ g ≤ 1) ∨ ((HowR kit n).2 = false ∧ ¬ Reach (-1) kit n) := by
  obtain ⟨h6, hk⟩ := kitB_at1 h
  have e : HowR kit n = (bestW n kit (allS kit.length), decide (((bestW n kit (allS kit.length)).length : Int) > 0)) := by unfold HowR; rw [if_pos ⟨h, hn⟩]
  rw [e]
  have hb := best_some n kit h6.1 (allS kit.length) [] (fun y hy => (allS_row hy).1) (.inl rfl) (fun y hy => (allS_row hy).2)
  rcases hb with hb | hb
  · right
    refine ⟨decide_eq_false (by show ¬ ((bestW n kit (allS kit.length)).length : Int) > 0; unfold bestW; omega), ?_⟩
    rintro ⟨y, a, b, c⟩
    refine hb.2.2 y ?_ c
    rw [allS_eq]
    exact (allL_iff (-1) kit.length y).2 ⟨a, b⟩
  · left
    refine ⟨decide_eq_true (by show ((bestW n kit (allS kit.length)).length : Int) > 0; unfold bestW; omega), ⟨bestW n kit (allS kit.length), hb.1, fun g hg => ?_, hb.2.1⟩, hb.1, hb.2.1, hb.2.2⟩
    have := hb.2.2 g hg
    refine (upto_low true g).2 ?_
    rcases (show g = 0 ∨ g = 1 ∨ g = -1 by omega) with h | h | h
    · exact .inl h
    · exact .inr (.inl h)
    · exact .inr (.inr ⟨rfl, h⟩)
theorem HowR_no (kit : List Int) (n : Int) (h : ¬ (kitB kit = true ∧ 1 ≤ n)) : HowR kit n = ([], false) := by unfold HowR; rw [if_neg h]

/-- The first n powers of b. -/
def pows (b : Int) (n : Nat) : List Int := (List.range n).map fun (j : Nat) => b ^ j
theorem pows_succ (b : Int) (n : Nat) : pows b (n + 1) = pows b n ++ [b ^ n] := by
  unfold pows; rw [List.range_succ, List.map_append]; rfl
theorem pows_length (b : Int) (n : Nat) : (pows b n).length = n := by simp [pows]
theorem rd_pows (b : Int) (n : Nat) (i : Int) (h0 : 0 ≤ i) (h1 : i < n) : rd (pows b n) i = b ^ i.toNat := by
  unfold rd pows
  rw [getD_lt _ (by simp; omega)]
  simp
theorem pow_fits (b : Int) (hb : b = 2 ∨ b = 3) : ∀ n : Nat, n ≤ 8 → 1 ≤ b ^ n ∧ b ^ n ≤ 6561 := by
  intro n hn
  have : n = 0 ∨ n = 1 ∨ n = 2 ∨ n = 3 ∨ n = 4 ∨ n = 5 ∨ n = 6 ∨ n = 7 ∨ n = 8 := by omega
  rcases hb with rfl | rfl <;> rcases this with rfl | rfl | rfl | rfl | rfl | rfl | rfl | rfl | rfl <;> decide
theorem l3Powers_ev (b : Int) (hb : b = 2 ∨ b = 3) (n : Int) (h1 : 1 ≤ n) (h6 : n ≤ 6) : Ev (fun k => spec_l3Powers.f k b n) (pows b n.toNat) := by
  unfold spec_l3Powers.f
  have key : ∀ (d : Nat) (i : Nat), 1 ≤ i → (i : Int) + d = n → Ev (fun k => spec_l3Powers.l0 k b n (pows b i)) (pows b n.toNat) := by
    intro d
    induction d with
    | zero =>
      intro i hi hd
      refine Ev.step (fun k => by rw [spec_l3Powers.l0]) ?_
      simp only [pows_length, if_neg (show ¬ (i : Int) < n by omega)]
      exact Ev.some (by congr 1; omega)
    | succ d ih =>
      intro i hi hd
      have hp := pow_fits b hb (i - 1) (by omega)
      refine Ev.step (fun k => by rw [spec_l3Powers.l0]) ?_
      have e : b * b ^ (i - 1) = b ^ i := by
        obtain ⟨j, rfl⟩ : ∃ j, i = j + 1 := ⟨i - 1, by omega⟩
        rw [Nat.add_sub_cancel, Int.pow_succ, Int.mul_comm]
      have hp' := pow_fits b hb i (by omega)
      simp only [pows_length, if_pos (show (i : Int) < n by omega), w64 (show -9223372036854775808 ≤ (i : Int) - 1 by omega) (by omega), if_pos (show 0 ≤ (i : Int) - 1 by omega), if_pos (show (i : Int) - 1 < (i : Int) by omega), if_pos (show i < 17592186044416 by omega), rd_pows b i ((i : Int) - 1) (by omega) (by omega), show ((i : Int) - 1).toNat = i - 1 by omega, e, w64 (show -9223372036854775808 ≤ b ^ i by omega) (by omega)]
      rw [← pows_succ]
      exact ih (i + 1) (by omega) (by omega)
  have h := key (n.toNat - 1) 1 (by omega) (by omega)
  simpa [pows] using h
theorem powers_ev (b : Int) (hb : b = 2 ∨ b = 3) (n : Int) (h1 : 1 ≤ n) (h6 : n ≤ 6) : Ev (fun k => impl_powers.f k b n) (pows b n.toNat) := by
  unfold impl_powers.f
  have h := Ev.fold (l := fun k (s : List Int × Int) i => impl_powers.l0 k b s.1 s.2 n i) (n := n) (fun i => (pows b i.toNat, b ^ i.toNat)) (a := pows b n.toNat)
    (fun i h0 h1 r h => by
      have hp := pow_fits b hb (i.toNat + 1) (by omega)
      rw [Int.pow_succ] at hp
      refine Ev.step (fun k => by rw [impl_powers.l0]) ?_
      simp only [if_pos h1, pows_length, if_pos (show i.toNat < 17592186044416 by omega), w64 (show -9223372036854775808 ≤ i + 1 by omega) (by omega), w64 (show -9223372036854775808 ≤ b ^ i.toNat * b by omega) (by omega)]
      simp only [toNat_succ h0, pows_succ, Int.pow_succ] at h
      exact h)
    (by
      refine Ev.step (fun k => by rw [impl_powers.l0]) ?_
      simp only [if_neg (show ¬ n < n by omega)]
      exact Ev.now _)
    n.toNat 0 (by omega) (by omega)
  simpa [pows] using h

theorem specThreesKit_ev (n : Int) : Ev (fun k => spec_ThreesKit.f k n) (if 1 ≤ n ∧ n ≤ 5 then (pows 3 n.toNat, true) else ([], false)) := by
  unfold spec_ThreesKit.f
  simp only [l1In_eq, Option.bind_some, decide_eq_true_eq]
  by_cases h : 1 ≤ n ∧ n ≤ 5
  · simp only [if_pos h]
    exact Ev.bind (l3Powers_ev 3 (by decide) n (by omega) (by omega)) (Ev.now _)
  · simp only [if_neg h]
    exact Ev.now _
theorem implThreesKit_ev (n : Int) : Ev (fun k => impl_ThreesKit.f k n) (if 1 ≤ n ∧ n ≤ 5 then (pows 3 n.toNat, true) else ([], false)) := by
  unfold impl_ThreesKit.f
  simp only [within_eq, Option.bind_some, decide_eq_true_eq]
  by_cases h : 1 ≤ n ∧ n ≤ 5
  · simp only [if_pos h]
    exact Ev.bind (powers_ev 3 (by decide) n (by omega) (by omega)) (Ev.now _)
  · simp only [if_neg h]
    exact Ev.now _

theorem specTwosKit_ev (n : Int) : Ev (fun k => spec_TwosKit.f k n) (if 1 ≤ n ∧ n ≤ 6 then (pows 2 n.toNat, true) else ([], false)) := by
  unfold spec_TwosKit.f
  simp only [l1In_eq, Option.bind_some, decide_eq_true_eq]
  by_cases h : 1 ≤ n ∧ n ≤ 6
  · simp only [if_pos h]
    exact Ev.bind (l3Powers_ev 2 (by decide) n (by omega) (by omega)) (Ev.now _)
  · simp only [if_neg h]
    exact Ev.now _
theorem implTwosKit_ev (n : Int) : Ev (fun k => impl_TwosKit.f k n) (if 1 ≤ n ∧ n ≤ 6 then (pows 2 n.toNat, true) else ([], false)) := by
  unfold impl_TwosKit.f
  simp only [within_eq, Option.bind_some, decide_eq_true_eq]
  by_cases h : 1 ≤ n ∧ n ≤ 6
  · simp only [if_pos h]
    exact Ev.bind (powers_ev 2 (by decide) n (by omega) (by omega)) (Ev.now _)
  · simp only [if_neg h]
    exact Ev.now _

theorem isSign_eq (a : Int) : impl_isSign.f a = some (decide (-1 ≤ a ∧ a ≤ 1)) := by
  unfold impl_isSign.f
  simp only [within_eq, Option.bind_some]

/-- Signs alone. -/
def SignAt (l : List Int) (i : Int) : Prop := -1 ≤ rd l i ∧ rd l i ≤ 1
open Classical in
theorem l3Signs_ev (l : List Int) (n : Int) (hl : l.length ≤ 9223372036854775806) : Ev (fun k => spec_l3Signs.f k l n) (if ∀ j, 0 ≤ j → j < (l.length : Int) → SignAt l j then ((l.length : Int) == n) else false) := by
  unfold spec_l3Signs.f
  refine Ev.count' (l := fun k i => spec_l3Signs.l0 k l n i) (n := l.length) (P := SignAt l) (by omega) ?_ ?_ ?_
  · intro i h0 h1 hp r h
    refine Ev.step (fun k => by rw [spec_l3Signs.l0]) ?_
    simp only [if_pos h0, if_pos h1, l1In_eq, Option.bind_some, decide_eq_true_eq, if_pos (show -1 ≤ rd l i ∧ rd l i ≤ 1 from hp), w64 (show -9223372036854775808 ≤ i + 1 by omega) (by omega)]
    exact h
  · intro i h0 h1 hp
    refine Ev.step (fun k => by rw [spec_l3Signs.l0]) ?_
    simp only [if_pos h0, if_pos h1, l1In_eq, Option.bind_some, decide_eq_true_eq, if_neg (show ¬ (-1 ≤ rd l i ∧ rd l i ≤ 1) from hp)]
    exact Ev.now _
  · intro i h0 h1
    refine Ev.step (fun k => by rw [spec_l3Signs.l0]) ?_
    simp only [if_neg (show ¬ i < (l.length : Int) by omega)]
    exact Ev.now _

theorem first_nat {P : Nat → Prop} (n : Nat) : P n → ∃ i, i ≤ n ∧ P i ∧ ∀ j, j < i → ¬ P j := by
  induction n using Nat.strongRecOn with
  | _ n ih =>
    intro h
    by_cases hc : ∃ j, j < n ∧ P j
    · obtain ⟨j, hj, hp⟩ := hc
      obtain ⟨i, hi, hpi, hf⟩ := ih j hj hp
      exact ⟨i, by omega, hpi, hf⟩
    · exact ⟨n, Nat.le_refl _, h, fun j hj hp => hc ⟨j, hj, hp⟩⟩
/-- The first place at which something holds. -/
theorem first_of {P : Int → Prop} {n : Int} (h : ∃ i, 0 ≤ i ∧ i < n ∧ P i) : ∃ i, 0 ≤ i ∧ i < n ∧ P i ∧ ∀ j, 0 ≤ j → j < i → ¬ P j := by
  obtain ⟨i, h0, h1, hp⟩ := h
  obtain ⟨m, hm, hpm, hf⟩ := first_nat (P := fun m => P (m : Int)) i.toNat (by rw [Int.toNat_of_nonneg h0]; exact hp)
  refine ⟨m, by omega, by omega, hpm, fun j hj0 hj => ?_⟩
  have := hf j.toNat (by omega)
  rwa [Int.toNat_of_nonneg hj0] at this
/-- `Ev.fold` up to a place n. -/
theorem Ev.upto {α σ : Type} {l : Nat → σ → Int → Option α} {n : Int} (st : Int → σ) {a : α} (hn : 0 ≤ n)
    (hstep : ∀ i, 0 ≤ i → i < n → ∀ r, Ev (fun k => l k (st (i + 1)) (i + 1)) r → Ev (fun k => l k (st i) i) r)
    (hend : Ev (fun k => l k (st n) n) a) : Ev (fun k => l k (st 0) 0) a :=
  Ev.fold st hstep hend n.toNat 0 (by omega) (by omega)

/-- The loads of the scales, up to sign i. -/
def panAt (kit signs : List Int) (n : Int) : Nat → List (S96)
  | 0 => [⟨29, n⟩]
  | i + 1 => if rd signs i = 0 then panAt kit signs n i else panAt kit signs n i ++ [⟨wrap64 (30 + rd signs i), rd kit i⟩]
theorem panAt_len (kit signs : List Int) (n : Int) : ∀ i, (panAt kit signs n i).length ≤ i + 1
  | 0 => Nat.le_refl _
  | i + 1 => by
    have := panAt_len kit signs n i
    unfold panAt
    split
    · omega
    · rw [List.length_append, List.length_singleton]; omega
theorem panAt_succ (kit signs : List Int) (n : Int) {i : Int} (h0 : 0 ≤ i) : panAt kit signs n (i + 1).toNat = if rd signs i = 0 then panAt kit signs n i.toNat else panAt kit signs n i.toNat ++ [⟨wrap64 (30 + rd signs i), rd kit i⟩] := by
  rw [toNat_succ h0, panAt, Int.toNat_of_nonneg h0]
open Classical in
noncomputable def PanRowR (kit signs : List Int) (n : Int) : List (S96) × Bool :=
  if kitB kit = true ∧ (signs.length : Int) = (kit.length : Int) ∧ (1 ≤ n ∧ n ≤ 99) ∧ (∀ j, 0 ≤ j → j < (signs.length : Int) → SignAt signs j) then (panAt kit signs n signs.length, true) else ([], false)
theorem PanRowR_pos {kit signs : List Int} {n : Int} (h : kitB kit = true) (h3 : (signs.length : Int) = (kit.length : Int)) (h4 : 1 ≤ n ∧ n ≤ 99) (h2 : ∀ j, 0 ≤ j → j < (signs.length : Int) → SignAt signs j) : (panAt kit signs n signs.length, true) = PanRowR kit signs n := by
  unfold PanRowR
  rw [if_pos ⟨h, h3, h4, h2⟩]
theorem PanRowR_neg {kit signs : List Int} {n : Int} (h : ¬ (kitB kit = true ∧ (signs.length : Int) = (kit.length : Int) ∧ (1 ≤ n ∧ n ≤ 99) ∧ (∀ j, 0 ≤ j → j < (signs.length : Int) → SignAt signs j))) : (([], false) : List (S96) × Bool) = PanRowR kit signs n := by
  unfold PanRowR
  rw [if_neg h]
theorem kitB_len {l : List Int} (h : kitB l = true) : l.length ≤ 6 := by
  unfold kitB at h
  split at h
  · have := of_decide_eq_true h; omega
  · cases h
theorem specPanRow_ev (kit signs : List Int) (n : Int) (hk : kit.length ≤ 1048576) (hs : signs.length ≤ 1048576) : Ev (fun k => spec_PanRow.f k kit signs n) (PanRowR kit signs n) := by
  unfold spec_PanRow.f
  have done : Ev (fun k => spec_PanRow.j0 k kit signs n [] true) ([], false) := by
    refine Ev.step (fun k => by rw [spec_PanRow.j0]) ?_
    simp only [if_true]
    exact Ev.now _
  simp only [Option.bind_some]
  refine Ev.bind (l3Kit_ev kit (by omega)) ?_
  by_cases h1 : kitB kit = true
  · have hk6 := kitB_len h1
    simp only [h1, if_true]
    refine Ev.bind (l3Signs_ev signs kit.length (by omega)) ?_
    by_cases h2 : ∀ j, 0 ≤ j → j < (signs.length : Int) → SignAt signs j
    · simp only [if_pos h2]
      by_cases h3 : (signs.length : Int) = (kit.length : Int)
      · simp only [beq_iff_eq.2 h3, if_true, l1In_eq, Option.bind_some]
        by_cases h4 : 1 ≤ n ∧ n ≤ 99
        · refine Ev.as (r := (panAt kit signs n signs.length, true)) ?_ (PanRowR_pos h1 h3 h4 h2)
          simp only [h4, and_self, decide_true, Bool.not_true]
          refine Ev.step (fun k => by rw [spec_PanRow.j0]) ?_
          simp only [Bool.false_eq_true, if_false, List.length_nil, show 0 < 8796093022208 by decide, if_true, List.nil_append]
          refine Ev.upto (l := fun k o i => spec_PanRow.l0 k kit signs o i) (n := signs.length) (fun i => panAt kit signs n i.toNat) (by omega) (fun i h0 hi r h => ?_) ?_
          · rw [panAt_succ kit signs n h0] at h
            refine Ev.step (fun k => by rw [spec_PanRow.l0]) ?_
            have hx := panAt_len kit signs n i.toNat
            simp only [if_pos (show i < (kit.length : Int) by omega), if_pos h0, if_pos hi, w64 (show -9223372036854775808 ≤ i + 1 by omega) (by omega), if_pos (show (panAt kit signs n i.toNat).length < 8796093022208 by omega)]
            by_cases hz : rd signs i = 0
            · simp only [if_pos hz] at h ⊢; exact h
            · simp only [if_neg hz] at h ⊢; exact h
          · refine Ev.step (fun k => by rw [spec_PanRow.l0]) ?_
            simp only [if_neg (show ¬ (signs.length : Int) < (kit.length : Int) by omega)]
            exact Ev.some (by simp)
        · simp only [h4, decide_false, Bool.not_false]
          exact Ev.as done (PanRowR_neg fun h => h4 h.2.2.1)
      · simp only [beq_eq_false_iff_ne.2 h3, Bool.false_eq_true, if_false]
        exact Ev.as done (PanRowR_neg fun h => h3 h.2.1)
    · simp only [if_neg h2, Bool.false_eq_true, if_false]
      exact Ev.as done (PanRowR_neg fun h => h2 h.2.2.2)
  · simp only [h1, if_false]
    exact Ev.as done (PanRowR_neg fun h => h1 h.1)
theorem implPanRow_ev (kit signs : List Int) (n : Int) (hk : kit.length ≤ 1048576) (hs : signs.length ≤ 1048576) : Ev (fun k => impl_PanRow.f k kit signs n) (PanRowR kit signs n) := by
  unfold impl_PanRow.f
  have done : Ev (fun k => impl_PanRow.j0 k kit signs n true) ([], false) := by
    refine Ev.step (fun k => by rw [impl_PanRow.j0]) ?_
    simp only [if_true]
    exact Ev.now _
  refine Ev.bind (implIsKit_ev kit (by omega)) ?_
  by_cases h1 : kitB kit = true
  · have hk6 := kitB_len h1
    simp only [h1, if_true]
    by_cases h3 : (signs.length : Int) = (kit.length : Int)
    · simp only [if_pos h3, isWeight_eq, Option.bind_some]
      by_cases h4 : 1 ≤ n ∧ n ≤ 99
      · simp only [h4, and_self, decide_true, Bool.not_true]
        refine Ev.step (fun k => by rw [impl_PanRow.j0]) ?_
        simp only [Bool.false_eq_true, if_false]
        have step : ∀ i, 0 ≤ i → i < (signs.length : Int) → SignAt signs i → ∀ r, Ev (fun k => impl_PanRow.l0 k kit (panAt kit signs n (i + 1).toNat) signs signs.length (i + 1)) r → Ev (fun k => impl_PanRow.l0 k kit (panAt kit signs n i.toNat) signs signs.length i) r := by
          intro i h0 hi hp r h
          rw [panAt_succ kit signs n h0] at h
          refine Ev.step (fun k => by rw [impl_PanRow.l0]) ?_
          have hx := panAt_len kit signs n i.toNat
          simp only [if_pos hi, if_pos h0, isSign_eq, Option.bind_some, decide_eq_true_eq, if_pos (show -1 ≤ rd signs i ∧ rd signs i ≤ 1 from hp), if_pos (show i < (kit.length : Int) by omega), w64 (show -9223372036854775808 ≤ i + 1 by omega) (by omega), if_pos (show (panAt kit signs n i.toNat).length < 8796093022208 by omega)]
          by_cases hz : rd signs i = 0
          · simp only [if_pos hz] at h ⊢; exact h
          · simp only [if_neg hz] at h ⊢; exact h
        by_cases h2 : ∀ j, 0 ≤ j → j < (signs.length : Int) → SignAt signs j
        · refine Ev.as (r := (panAt kit signs n signs.length, true)) ?_ (PanRowR_pos h1 h3 h4 h2)
          refine Ev.upto (l := fun k o i => impl_PanRow.l0 k kit o signs signs.length i) (n := signs.length) (fun i => panAt kit signs n i.toNat) (by omega) (fun i h0 hi r h => step i h0 hi (h2 i h0 hi) r h) ?_
          refine Ev.step (fun k => by rw [impl_PanRow.l0]) ?_
          simp only [if_neg (show ¬ (signs.length : Int) < (signs.length : Int) by omega)]
          exact Ev.some (by simp)
        · refine Ev.as (r := ([], false)) ?_ (PanRowR_neg fun h => h2 h.2.2.2)
          simp only [Classical.not_forall] at h2
          obtain ⟨j, hj0, hj1, hj2⟩ := h2
          obtain ⟨m, hm0, hm1, hm2, hm3⟩ := first_of (P := fun j => ¬ SignAt signs j) ⟨j, hj0, hj1, hj2⟩
          refine Ev.upto (l := fun k o i => impl_PanRow.l0 k kit o signs signs.length i) (n := m) (fun i => panAt kit signs n i.toNat) hm0 (fun i h0 hi r h => step i h0 (by omega) (Classical.not_not.1 (hm3 i h0 hi)) r h) ?_
          refine Ev.step (fun k => by rw [impl_PanRow.l0]) ?_
          simp only [if_pos hm1, if_pos hm0, isSign_eq, Option.bind_some, decide_eq_true_eq, if_neg (show ¬ (-1 ≤ rd signs m ∧ rd signs m ≤ 1) from hm2)]
          exact Ev.now _
      · simp only [h4, decide_false, Bool.not_false]
        exact Ev.as done (PanRowR_neg fun h => h4 h.2.2.1)
    · simp only [if_neg h3]
      exact Ev.as done (PanRowR_neg fun h => h3 h.2.1)
  · simp only [h1, if_false]
    exact Ev.as done (PanRowR_neg fun h => h1 h.1)
theorem PanRowR_len (kit signs : List Int) (n : Int) (hs : signs.length ≤ 1048576) : (PanRowR kit signs n).1.length ≤ 1048576 := by
  unfold PanRowR
  split
  · rename_i h
    have := panAt_len kit signs n signs.length
    have := kitB_len h.1
    simp only
    omega
  · simp

/-- How far the kits of threes and twos reach: looked at one by one. -/
def far (low : Int) (kit : List Int) (m : Int) : Bool := (allL low kit.length).any fun y => dotW kit y == m
theorem far_reach {low : Int} {kit : List Int} {m : Int} (h : far low kit m = true) : Reach low kit m := by
  unfold far at h
  rw [List.any_eq_true] at h
  obtain ⟨y, hy, e⟩ := h
  obtain ⟨h1, h2⟩ := (allL_iff low kit.length y).1 hy
  exact ⟨y, h1, h2, beq_iff_eq.1 e⟩
theorem far_all (low : Int) (kit : List Int) (h : ((List.range (sumK kit).toNat).all fun i => far low kit ((i : Int) + 1)) = true) (m : Int) (h0 : 0 < m) (h1 : m ≤ sumK kit) : Reach low kit m := by
  rw [List.all_eq_true] at h
  have := h (m - 1).toNat (List.mem_range.2 (by omega))
  rw [show (((m - 1).toNat : Nat) : Int) + 1 = m by omega] at this
  exact far_reach this
/-- A kit whose numbers all are weighed reaches to the sum of its weights. -/
theorem range_sum {two : Bool} {kit : List Int} {R : Int} (hk : ∀ x ∈ kit, 0 ≤ x) (hs : 0 ≤ sumK kit) (hf : ∀ m, 0 < m → m ≤ sumK kit → Reach (lowOf two) kit m) (h0 : 0 ≤ R) (h1 : ∀ m, 0 < m → m ≤ R → Reach (lowOf two) kit m) (h2 : ¬ Reach (lowOf two) kit (R + 1)) : R = sumK kit := by
  by_cases hlt : R < sumK kit
  · exact absurd (hf (R + 1) (by omega) (by omega)) h2
  · by_cases hgt : sumK kit < R
    · have := (reach_bound hk (h1 R (by omega) (Int.le_refl _))).2
      omega
    · omega
theorem range_mono {kit : List Int} {R S : Int} (h0 : 0 ≤ S) (h1 : ∀ m, 0 < m → m ≤ R → Reach 0 kit m) (h2 : ¬ Reach (-1) kit (S + 1)) : R ≤ S := by
  by_cases h : R ≤ S
  · exact h
  · exact absurd (reach_two (h1 (S + 1) (by omega) (by omega))) h2
theorem threes_far : ∀ k : Fin 5, ((List.range (sumK (pows 3 (k.val + 1))).toNat).all fun i => far (-1) (pows 3 (k.val + 1)) ((i : Int) + 1)) = true := by decide +kernel
theorem twos_far : ∀ k : Fin 6, ((List.range (sumK (pows 2 (k.val + 1))).toNat).all fun i => far 0 (pows 2 (k.val + 1)) ((i : Int) + 1)) = true := by decide +kernel
theorem kits_ok : (∀ k : Fin 5, kitB (pows 3 (k.val + 1)) = true) ∧ (∀ k : Fin 6, kitB (pows 2 (k.val + 1)) = true) := by
  have key : ∀ (b : Int) (n : Nat), (b = 2 ∨ b = 3) → 1 ≤ n → n ≤ 6 → (∀ i : Nat, i < n → b ^ i ≤ 99) → kitB (pows b n) = true := by
    intro b n hb h1 h6 hx
    unfold kitB
    have hl := pows_length b n
    rw [if_pos]
    · rw [hl]
      exact decide_eq_true (by omega)
    · intro i h0 h2
      rw [hl] at h2
      refine ⟨?_, fun hi => ?_⟩
      · rw [rd_pows b n i h0 h2]
        have := hx i.toNat (by omega)
        have := (pow_fits b hb i.toNat (by omega)).1
        omega
      · rw [rd_pows b n i h0 h2, rd_pows b n (i - 1) (by omega) (by omega), show i.toNat = (i - 1).toNat + 1 by omega, Int.pow_succ]
        have := (pow_fits b hb (i - 1).toNat (by omega)).1
        rcases hb with rfl | rfl <;> omega
  refine ⟨fun k => key 3 _ (.inr rfl) (by omega) (by omega) ?_, fun k => key 2 _ (.inl rfl) (by omega) (by omega) ?_⟩
  · have : ∀ i : Fin 5, (3 : Int) ^ i.val ≤ 99 := by decide
    intro i hi
    exact this ⟨i, by omega⟩
  · have : ∀ i : Fin 6, (2 : Int) ^ i.val ≤ 99 := by decide
    intro i hi
    exact this ⟨i, by omega⟩
theorem kit_sums : (∀ k : Fin 5, 2 * sumK (pows 3 (k.val + 1)) + 1 = 3 ^ (k.val + 1)) ∧ (∀ k : Fin 6, sumK (pows 2 (k.val + 1)) + 1 = 2 ^ (k.val + 1)) := by decide +kernel

/-- The bytes that a reader of draws reads. -/
def Code8 (c : List Int) : Prop := (∀ x ∈ c, 0 ≤ x ∧ x ≤ 255) ∧ c.length ≤ 140737488351232
theorem code8 {c : List Int} (h1 : c.length * 1 ≤ 140737488351232) (h2 : ∀ x ∈ c, (Lit.int .u8 x).wf = true) : Code8 c := by
  refine ⟨fun x hx => ?_, by omega⟩
  have h := h2 x hx
  simp [Lit.wf, IntKind.min, IntKind.max, IntKind.signed, IntKind.bits] at h
  omega
theorem and255 (x : Int) (h0 : 0 ≤ x) (h1 : x < 18446744073709551616) : 0 ≤ Go.bits .and .u64 x 255 ∧ Go.bits .and .u64 x 255 ≤ 255 := by
  have := Go.bits_mask .u64 64 (by decide) (fun n g0 g1 => by rw [IntKind.wrap_u64]; omega) 8 (by decide) x h0 h1
  rw [show ((2 : Int) ^ 8 - 1) = 255 by decide, show ((2 : Int) ^ 8) = 256 by decide] at this
  rw [this]
  omega
theorem u64_range (x : Int) : 0 ≤ IntKind.u64.wrap x ∧ IntKind.u64.wrap x < 18446744073709551616 := by
  rw [IntKind.wrap_u64]
  omega
theorem seedByte (x : Int) : 0 ≤ wrap64 (Go.bits .and .u64 (IntKind.u64.wrap x / 1099511627776) 255) ∧ wrap64 (Go.bits .and .u64 (IntKind.u64.wrap x / 1099511627776) 255) ≤ 255 := by
  have h := u64_range x
  have h2 := and255 (IntKind.u64.wrap x / 1099511627776) (by omega) (by omega)
  rw [w64 (by omega) (by omega)]
  exact h2
theorem next_ok {c : List Int} (hc : Code8 c) {p : Int} (s : Int) (h0 : 0 ≤ p) (h1 : p ≤ 4611686018427387904) : ∃ b s', spec_l1Cur_next.f c p s = some (b, p + 1, s') ∧ 0 ≤ b ∧ b ≤ 255 := by
  unfold spec_l1Cur_next.f
  rw [w64 (show -9223372036854775808 ≤ p + 1 by omega) (by omega)]
  by_cases h : p < (c.length : Int)
  · have hb := hc.1 _ (rd_mem h0 h)
    have e : wrap64 (rd c p) = rd c p := w64 (by omega) (by omega)
    simp only [if_pos h, if_pos h0, e]
    split
    · exact ⟨_, _, rfl, hb⟩
    · exact ⟨_, _, rfl, seedByte _⟩
  · simp only [if_neg h]
    split
    · exact ⟨_, _, rfl, by omega, by omega⟩
    · exact ⟨_, _, rfl, seedByte _⟩
theorem tmod_in {x n : Int} (h0 : 0 ≤ x) (h1 : 1 ≤ n) : 0 ≤ Int.tmod x n ∧ Int.tmod x n < n := by
  rw [Int.tmod_eq_emod_of_nonneg h0]
  exact ⟨Int.emod_nonneg _ (by omega), Int.emod_lt_of_pos _ (by omega)⟩
theorem pick_ok {c : List Int} (hc : Code8 c) {p : Int} (s n : Int) (h0 : 0 ≤ p) (h1 : p ≤ 4611686018427387000) : ∃ x p' s', spec_l1Cur_pick.f c p s n = some (x, p', s') ∧ (p ≤ p' ∧ p' ≤ p + 2) ∧ 0 ≤ x ∧ (1 ≤ n → x < n) := by
  unfold spec_l1Cur_pick.f
  by_cases hn : n ≤ 1
  · rw [if_pos hn]
    exact ⟨_, _, _, rfl, by omega, by omega, by omega⟩
  · rw [if_neg hn]
    obtain ⟨b, s1, e1, b0, b1⟩ := next_ok hc s h0 (by omega)
    rw [e1, Option.bind_some]
    by_cases h2 : n > 200
    · obtain ⟨d, s2, e2, d0, d1⟩ := next_ok hc s1 (show 0 ≤ p + 1 by omega) (by omega)
      simp only [if_pos h2, e2, Option.bind_some, if_neg (show ¬ n = 0 by omega)]
      rw [w64 (show -9223372036854775808 ≤ b * 256 by omega) (by omega), w64 (show -9223372036854775808 ≤ b * 256 + d by omega) (by omega)]
      have := tmod_in (show 0 ≤ b * 256 + d by omega) (show 1 ≤ n by omega)
      exact ⟨_, _, _, rfl, by omega, this.1, fun _ => this.2⟩
    · simp only [if_neg h2, if_neg (show ¬ n = 0 by omega)]
      have := tmod_in b0 (show 1 ≤ n by omega)
      exact ⟨_, _, _, rfl, by omega, this.1, fun _ => this.2⟩

theorem among_ok {c : List Int} (hc : Code8 c) {p : Int} (s : Int) (l : List Int) (h0 : 0 ≤ p) (h1 : p ≤ 4611686018427387000) (hl : 1 ≤ l.length) : ∃ x p' s', spec_l1Cur_among.f c p s l = some (x, p', s') ∧ (p ≤ p' ∧ p' ≤ p + 2) ∧ x ∈ l := by
  unfold spec_l1Cur_among.f
  obtain ⟨x, p', s', e, hp, x0, x1⟩ := pick_ok hc s (l.length : Int) h0 h1
  have x1' := x1 (by omega)
  simp only [e, Option.bind_some, if_pos x0, if_pos x1']
  exact ⟨_, _, _, rfl, hp, rd_mem x0 x1'⟩
theorem one_ok {c : List Int} (hc : Code8 c) {p : Int} (s n : Int) (h0 : 0 ≤ p) (h1 : p ≤ 4611686018427387000) : ∃ x p' s', spec_l1Cur_one.f c p s n = some (x, p', s') ∧ (p ≤ p' ∧ p' ≤ p + 2) := by
  unfold spec_l1Cur_one.f
  obtain ⟨x, p', s', e, hp, x0, x1⟩ := pick_ok hc s n h0 h1
  simp only [e, Option.bind_some]
  exact ⟨_, _, _, rfl, hp⟩

theorem vRow_self (l : List (S96)) (hl : l.length ≤ 1000) : Ev (fun k => laws_vRow.f k l l) true := by
  unfold laws_vRow.f
  simp only [if_true]
  have key : ∀ (d : Nat) (i : Int), 0 ≤ i → (l.length : Int) - i = d → Ev (fun k => laws_vRow.l0 k l l i) true := by
    intro d
    induction d with
    | zero =>
      intro i h0 h
      refine Ev.step (fun k => by rw [laws_vRow.l0]) ?_
      simp only [if_neg (show ¬ i < (l.length : Int) by omega)]
      exact Ev.now _
    | succ d ih =>
      intro i h0 h
      refine Ev.step (fun k => by rw [laws_vRow.l0]) ?_
      simp only [if_pos (show i < (l.length : Int) by omega), if_pos h0, beq_self_eq_true, Bool.not_true, Bool.or_self, Bool.false_eq_true, if_false, w64 (show -9223372036854775808 ≤ i + 1 by omega) (by omega)]
      exact ih (i + 1) (by omega) (by omega)
  exact key l.length 0 (by omega) (by omega)

theorem vInts_self (l : List Int) (hl : l.length ≤ 2000000) : Ev (fun k => laws_vInts.f k l l) true := by
  unfold laws_vInts.f
  simp only [if_true]
  have key : ∀ (d : Nat) (i : Int), 0 ≤ i → (l.length : Int) - i = d → Ev (fun k => laws_vInts.l0 k l l i) true := by
    intro d
    induction d with
    | zero =>
      intro i h0 h
      refine Ev.step (fun k => by rw [laws_vInts.l0]) ?_
      simp only [if_neg (show ¬ i < (l.length : Int) by omega)]
      exact Ev.now _
    | succ d ih =>
      intro i h0 h
      refine Ev.step (fun k => by rw [laws_vInts.l0]) ?_
      simp only [if_pos (show i < (l.length : Int) by omega), if_pos h0, if_true, w64 (show -9223372036854775808 ≤ i + 1 by omega) (by omega)]
      exact ih (i + 1) (by omega) (by omega)
  exact key l.length 0 (by omega) (by omega)
theorem vHas_ev (l : List Int) (x : Int) (hl : l.length ≤ 2000000) : Ev (fun k => laws_vHas.f k l x) (decide (x ∈ l)) := by
  unfold laws_vHas.f
  have key : ∀ (d i : Nat), i + d = l.length → Ev (fun k => laws_vHas.l0 k l x (i : Int)) (decide (x ∈ l.drop i)) := by
    intro d
    induction d with
    | zero =>
      intro i h
      refine Ev.step (fun k => by rw [laws_vHas.l0]) ?_
      simp only [if_neg (show ¬ (i : Int) < (l.length : Int) by omega)]
      refine Ev.some ?_
      rw [List.drop_eq_nil_of_le (by omega)]
      exact (decide_eq_false (by simp)).symm
    | succ d ih =>
      intro i h
      have hi : i < l.length := by omega
      have er : rd l (i : Int) = l[i] := by
        unfold rd
        rw [Int.toNat_natCast]
        exact getD_lt _ hi
      have ew : wrap64 ((i : Int) + 1) = ((i + 1 : Nat) : Int) := by rw [w64 (by omega) (by omega)]; omega
      refine Ev.step (fun k => by rw [laws_vHas.l0]) ?_
      simp only [if_pos (show (i : Int) < (l.length : Int) by omega), if_pos (show 0 ≤ (i : Int) by omega), er, ew]
      rw [List.drop_eq_getElem_cons hi]
      by_cases e : l[i] = x
      · simp only [if_pos e]
        refine Ev.some ?_
        exact (decide_eq_true (by rw [e]; exact List.mem_cons_self)).symm
      · simp only [if_neg e]
        refine Ev.as (ih (i + 1) (by omega)) ?_
        rw [decide_eq_decide, List.mem_cons]
        constructor
        · exact .inr
        · rintro (h2 | h2)
          · exact absurd h2.symm e
          · exact h2
  have := key l.length 0 (by omega)
  rw [List.drop_zero] at this
  exact this
theorem vCut_ok {c : List Int} (hc : Code8 c) (hl : c.length ≤ 65536) (n : Int) (hn : 0 ≤ n) : ∃ t, laws_vCut.f c n = some t ∧ Code8 t := by
  have g : ∀ x : Int, 0 ≤ x → x ≤ (c.length : Int) → ∃ t, laws_vCut.g c x = some t ∧ Code8 t := by
    intro x h0 h1
    have hd : (c.drop x.toNat).length ≤ 65536 := by rw [List.length_drop]; omega
    refine ⟨c.drop x.toNat ++ [x % 256], ?_, ?_, ?_⟩
    · unfold laws_vCut.g
      simp only [Option.bind_some, if_pos h0, if_pos h1, List.nil_append, List.length_nil, Nat.zero_add, if_pos (show (c.drop x.toNat).length < 140737488355328 by omega)]
    · intro y hy
      rcases List.mem_append.1 hy with hy | hy
      · exact hc.1 y (List.mem_of_mem_drop hy)
      · rw [List.mem_singleton.1 hy]; omega
    · rw [List.length_append, List.length_singleton]
      omega
  unfold laws_vCut.f
  split
  · exact g _ (by omega) (Int.le_refl _)
  · exact g n hn (by omega)
theorem kit3_fill (c : List Int) (p s : Int) : ∀ (d : Nat) (r : List Int), 1 ≤ r.length → r.length ≤ 7 → 7 - r.length = d → ∃ r', Ev (fun k => spec_l1Cur_kit3.l1 k r c p s) (r', p, s) ∧ r'.length ≤ 7 := by
  intro d
  induction d with
  | zero =>
    intro r h1 h7 hd
    refine ⟨r, Ev.step (fun k => by rw [spec_l1Cur_kit3.l1]) ?_, h7⟩
    simp only [if_neg (show ¬ (r.length : Int) < 7 by omega)]
    exact Ev.now _
  | succ d ih =>
    intro r h1 h7 hd
    have ew : wrap64 ((r.length : Int) - 1) = (r.length : Int) - 1 := w64 (by omega) (by omega)
    obtain ⟨r', hr, hl⟩ := ih (r ++ [rd r ((r.length : Int) - 1)]) (by rw [List.length_append, List.length_singleton]; omega) (by rw [List.length_append, List.length_singleton]; omega) (by rw [List.length_append, List.length_singleton]; omega)
    refine ⟨r', Ev.step (fun k => by rw [spec_l1Cur_kit3.l1]) ?_, hl⟩
    simp only [if_pos (show (r.length : Int) < 7 by omega), ew, if_pos (show 0 ≤ (r.length : Int) - 1 by omega), if_pos (show (r.length : Int) - 1 < (r.length : Int) by omega), if_pos (show r.length < 17592186044416 by omega)]
    exact hr
theorem l1Most_eq (a b : Int) : ∃ m, spec_l1Most.f a b = some m := by
  unfold spec_l1Most.f
  split
  · exact ⟨_, rfl⟩
  · exact ⟨_, rfl⟩
theorem kit3_l0 {c : List Int} (hc : Code8 c) : ∀ (d : Nat) (n last : Int) (r : List Int) (p s : Int), n ≤ d → (1 ≤ n ∨ 1 ≤ r.length) → r.length + d ≤ 5 → 0 ≤ p → p ≤ 4611686018427380000 - 8 * (d : Int) →
    ∃ r' p' s', Ev (fun k => spec_l1Cur_kit3.l0 k r last n c p s) (r', p', s') ∧ r'.length ≤ 7 ∧ (p ≤ p' ∧ p' ≤ p + 8 * d + 6) := by
  intro d
  have last_ : ∀ (d : Nat) (n last : Int) (r : List Int) (p s : Int), ¬ n > 0 → 1 ≤ r.length → r.length + d ≤ 5 → 0 ≤ p → p ≤ 4611686018427380000 - 8 * (d : Int) →
    ∃ r' p' s', Ev (fun k => spec_l1Cur_kit3.l0 k r last n c p s) (r', p', s') ∧ r'.length ≤ 7 ∧ (p ≤ p' ∧ p' ≤ p + 8 * d + 6) := by
    intro d n last r p s nn hz hr h0 h1
    obtain ⟨x, p1, s1, e1, hp1, x0, x1⟩ := pick_ok hc s 40 h0 (by omega)
    by_cases g0 : x = 0
    · obtain ⟨z, p2, s2, e2, hp2, _⟩ := among_ok hc s1 [0, (-1), 99, 100] (show 0 ≤ p1 by omega) (by omega) (by decide)
      refine ⟨r.set (0 : Int).toNat z, p2, s2, Ev.step (fun k => by rw [spec_l1Cur_kit3.l0]) ?_, by rw [List.length_set]; omega, by omega⟩
      simp only [if_neg nn, e1, e2, Option.bind_some, if_pos g0, if_pos (show 0 < (r.length : Int) by omega)]
      exact Ev.now _
    · by_cases g1 : x = 1
      · refine ⟨[], p1, s1, Ev.step (fun k => by rw [spec_l1Cur_kit3.l0]) ?_, by simp, by omega⟩
        simp only [if_neg nn, e1, Option.bind_some, if_neg g0, if_pos g1]
        exact Ev.now _
      · by_cases g2 : x = 2
        · obtain ⟨r', hr', hl'⟩ := kit3_fill c p1 s1 _ r hz (by omega) rfl
          refine ⟨r', p1, s1, Ev.step (fun k => by rw [spec_l1Cur_kit3.l0]) ?_, hl', by omega⟩
          simp only [if_neg nn, e1, Option.bind_some, if_neg g0, if_neg g1, if_pos g2]
          exact hr'
        · refine ⟨r, p1, s1, Ev.step (fun k => by rw [spec_l1Cur_kit3.l0]) ?_, by omega, by omega⟩
          simp only [if_neg nn, e1, Option.bind_some, if_neg g0, if_neg g1, if_neg g2]
          exact Ev.now _
  induction d with
  | zero =>
    intro n last r p s hn hz hr h0 h1
    exact last_ 0 n last r p s (by omega) (by omega) hr h0 h1
  | succ d ih =>
    intro n last r p s hn hz hr h0 h1
    by_cases hd : n > 0
    · obtain ⟨a, p1, s1, e1, hp1, _⟩ := among_ok hc s [1, 2, 1, 3, 0, 6, 9] h0 (by omega) (by decide)
      obtain ⟨m, em⟩ := l1Most_eq 1 (wrap64 (last + a))
      obtain ⟨r', p', s', h, hl, hp⟩ := ih (n - 1) (wrap64 (last + a)) (r ++ [m]) p1 s1 (by omega) (by rw [List.length_append, List.length_singleton]; omega) (by rw [List.length_append, List.length_singleton]; omega) (by omega) (by omega)
      refine ⟨r', p', s', Ev.step (fun k => by rw [spec_l1Cur_kit3.l0]) ?_, hl, by omega⟩
      simp only [if_pos hd, e1, em, Option.bind_some, if_pos (show r.length < 17592186044416 by omega), w64 (show -9223372036854775808 ≤ n - 1 by omega) (by omega)]
      exact h
    · exact last_ (d + 1) n last r p s hd (by omega) hr h0 h1
theorem kit3_ok {c : List Int} (hc : Code8 c) (p s : Int) (h0 : 0 ≤ p) (h1 : p ≤ 4611686018427370000) : ∃ r' p' s', Ev (fun k => spec_l1Cur_kit3.f k c p s) (r', p', s') ∧ r'.length ≤ 7 ∧ (p ≤ p' ∧ p' ≤ p + 100) := by
  obtain ⟨n, p1, s1, e1, hp1, hn⟩ := among_ok hc s [3, 2, 4, 1, 5] h0 (by omega) (by decide)
  have hn2 : 1 ≤ n ∧ n ≤ 5 := by simp at hn; omega
  obtain ⟨r', p', s', h, hl, hp⟩ := kit3_l0 hc 5 n 0 [] p1 s1 (by omega) (.inl hn2.1) (by decide) (by omega) (by omega)
  refine ⟨r', p', s', ?_, hl, by omega⟩
  unfold spec_l1Cur_kit3.f
  simp only [e1, Option.bind_some]
  exact h
theorem drawHow_ok {c : List Int} (hc : Code8 c) : ∃ kit n, Ev (fun k => spec_DrawHowToWeigh.f k c) (kit, n) ∧ kit.length ≤ 7 := by
  obtain ⟨kit, p1, s1, h, hl, hp⟩ := kit3_ok hc 0 0 (by omega) (by omega)
  obtain ⟨n, p2, s2, e2, hp2, _⟩ := among_ok hc s1 [1, 2, 3, 4, 5, 7, 10, 20, 0, (-1)] (show 0 ≤ p1 by omega) (by omega) (by decide)
  refine ⟨kit, n, ?_, hl⟩
  unfold spec_DrawHowToWeigh.f
  refine Ev.bind h ?_
  simp only [e2, Option.bind_some]
  exact Ev.now _
theorem drawRange_ok {c : List Int} (hc : Code8 c) : ∃ kit b, Ev (fun k => spec_DrawKitRange.f k c) (kit, b) ∧ kit.length ≤ 7 := by
  obtain ⟨kit, p1, s1, h, hl, hp⟩ := kit3_ok hc 0 0 (by omega) (by omega)
  obtain ⟨b, p2, s2, e2, hp2⟩ := one_ok hc s1 2 (show 0 ≤ p1 by omega) (by omega)
  refine ⟨kit, b, ?_, hl⟩
  unfold spec_DrawKitRange.f
  refine Ev.bind h ?_
  simp only [e2, Option.bind_some]
  exact Ev.now _
theorem drawThrees_ok {c : List Int} (hc : Code8 c) : ∃ n, spec_DrawThreesKit.f c = some n ∧ 0 ≤ n ∧ n ≤ 6 := by
  obtain ⟨n, p2, s2, e2, hp2, hn⟩ := among_ok hc 0 [3, 2, 1, 4, 5, 6, 0] (show (0 : Int) ≤ 0 by decide) (by omega) (by decide)
  have hn2 : 0 ≤ n ∧ n ≤ 6 := by simp at hn; omega
  refine ⟨n, ?_, hn2⟩
  unfold spec_DrawThreesKit.f
  simp only [e2, Option.bind_some]
theorem drawPan_ok {c : List Int} (hc : Code8 c) : ∃ kit signs n, Ev (fun k => spec_DrawPanRow.f k c) (kit, signs, n) ∧ kit.length ≤ 7 ∧ signs.length ≤ 8 := by
  obtain ⟨kit, p1, s1, h, hl, hp⟩ := kit3_ok hc 0 0 (by omega) (by omega)
  obtain ⟨m, p2, s2, e2, hp2, _⟩ := pick_ok hc s1 12 (show 0 ≤ p1 by omega) (by omega)
  have j2 : ∀ (M : Int) (signs : List Int) (p s : Int), signs.length ≤ 7 → 0 ≤ p → p ≤ 1000 → ∃ sg n, Ev (fun k => spec_DrawPanRow.j2 k kit M signs c p s) (kit, sg, n) ∧ sg.length ≤ 8 := by
    intro M signs p s hs h0 h1
    obtain ⟨x, q1, t1, f1, hq1, _⟩ := pick_ok hc s 24 h0 (by omega)
    by_cases g0 : x = 0
    · obtain ⟨z, q2, t2, f2, hq2, _⟩ := among_ok hc t1 [0, 2] (show 0 ≤ q1 by omega) (by omega) (by decide)
      refine ⟨signs ++ [z], M, Ev.step (fun k => by rw [spec_DrawPanRow.j2]) ?_, by rw [List.length_append, List.length_singleton]; omega⟩
      simp only [f1, f2, Option.bind_some, if_pos g0, if_pos (show signs.length < 17592186044416 by omega)]
      exact Ev.now _
    · by_cases g1 : x = 1
      · obtain ⟨z, q2, t2, f2, hq2, _⟩ := among_ok hc t1 [0, 99, 100] (show 0 ≤ q1 by omega) (by omega) (by decide)
        refine ⟨signs, z, Ev.step (fun k => by rw [spec_DrawPanRow.j2]) ?_, by omega⟩
        simp only [f1, f2, Option.bind_some, if_neg g0, if_pos g1]
        exact Ev.now _
      · refine ⟨signs, M, Ev.step (fun k => by rw [spec_DrawPanRow.j2]) ?_, by omega⟩
        simp only [f1, Option.bind_some, if_neg g0, if_neg g1]
        exact Ev.now _
  have l0 : ∀ (M : Int) (d i : Nat) (signs : List Int) (p s : Int), i + d = kit.length → signs.length = i → 0 ≤ p → p ≤ 1000 - 3 * (d : Int) → ∃ sg n, Ev (fun k => spec_DrawPanRow.l0 k kit M signs (i : Int) c p s) (kit, sg, n) ∧ sg.length ≤ 8 := by
    intro M d
    induction d with
    | zero =>
      intro i signs p s hi hs h0 h1
      obtain ⟨sg, n, hj, hsl⟩ := j2 M signs p s (by omega) h0 (by omega)
      refine ⟨sg, n, Ev.step (fun k => by rw [spec_DrawPanRow.l0]) ?_, hsl⟩
      simp only [if_neg (show ¬ (i : Int) < (kit.length : Int) by omega)]
      exact hj
    | succ d ih =>
      intro i signs p s hi hs h0 h1
      obtain ⟨x, q1, t1, f1, hq1, _⟩ := pick_ok hc s 3 h0 (by omega)
      have z1 : signs.length < 17592186044416 := by omega
      have z2 : (i : Int) < (kit.length : Int) := by omega
      have ew : wrap64 ((i : Int) + 1) = ((i + 1 : Nat) : Int) := by rw [w64 (by omega) (by omega)]; omega
      obtain ⟨sg, n, hj, hsl⟩ := ih (i + 1) (signs ++ [wrap64 (x - 1)]) q1 t1 (by omega) (by rw [List.length_append, List.length_singleton]; omega) (by omega) (by omega)
      refine ⟨sg, n, Ev.step (fun k => by rw [spec_DrawPanRow.l0]) ?_, hsl⟩
      simp only [if_pos z2, f1, Option.bind_some, if_pos z1]
      rw [ew]
      exact hj
  have j0 : ∀ (M : Int) (signs : List Int) (b : Bool) (p s : Int), signs.length ≤ 7 → 0 ≤ p → p ≤ 500 → ∃ sg n, Ev (fun k => spec_DrawPanRow.j0 k kit M signs b c p s) (kit, sg, n) ∧ sg.length ≤ 8 := by
    intro M signs b p s hs h0 h1
    cases b with
    | false =>
      obtain ⟨sg, n, hj, hsl⟩ := j2 M signs p s hs h0 (by omega)
      refine ⟨sg, n, Ev.step (fun k => by rw [spec_DrawPanRow.j0]) ?_, hsl⟩
      simp only [Bool.false_eq_true, if_false]
      exact hj
    | true =>
      obtain ⟨sg, n, hj, hsl⟩ := l0 M kit.length 0 [] p s (by omega) rfl h0 (by omega)
      refine ⟨sg, n, Ev.step (fun k => by rw [spec_DrawPanRow.j0]) ?_, hsl⟩
      simp only [if_true]
      exact hj
  have hH := specHow_ev kit (wrap64 (1 + m)) (by omega)
  have hL := HowR_len kit (wrap64 (1 + m))
  unfold spec_DrawPanRow.f
  cases hb : (HowR kit (wrap64 (1 + m))).2 with
  | true =>
    obtain ⟨b, p3, s3, e3, hp3⟩ := one_ok hc s2 3 (show 0 ≤ p2 by omega) (by omega)
    obtain ⟨sg, n, hj, hsl⟩ := j0 (wrap64 (1 + m)) (HowR kit (wrap64 (1 + m))).1 b p3 s3 (by omega) (by omega) (by omega)
    refine ⟨kit, sg, n, Ev.bind h ?_, hl, hsl⟩
    simp only [e2, Option.bind_some]
    refine Ev.bind hH ?_
    simp only [hb, if_true, e3, Option.bind_some]
    exact hj
  | false =>
    obtain ⟨sg, n, hj, hsl⟩ := j0 (wrap64 (1 + m)) (HowR kit (wrap64 (1 + m))).1 true p2 s2 (by omega) (by omega) (by omega)
    refine ⟨kit, sg, n, Ev.bind h ?_, hl, hsl⟩
    simp only [e2, Option.bind_some]
    refine Ev.bind hH ?_
    simp only [hb, Bool.false_eq_true, if_false]
    exact hj

/-- The sum that signs weigh, up to a place. -/
def wsum (kit signs : List Int) : Nat → Int
  | 0 => 0
  | i + 1 => wsum kit signs i + rd kit i * rd signs i
theorem sign_of {signs : List Int} (h : ∀ j, 0 ≤ j → j < (signs.length : Int) → SignAt signs j) {i : Nat} (hi : i < signs.length) : -1 ≤ rd signs i ∧ rd signs i ≤ 1 := h i (by omega) (by omega)
theorem rd_mem {l : List Int} {i : Nat} (h : i < l.length) : rd l i ∈ l := by
  unfold rd
  rw [Int.toNat_natCast, getD_lt _ h]
  exact List.getElem_mem h
theorem wsum_bound {kit signs : List Int} (hk : ∀ x ∈ kit, 1 ≤ x ∧ x ≤ 99) (hs : ∀ i : Nat, i < kit.length → -1 ≤ rd signs i ∧ rd signs i ≤ 1) : ∀ i : Nat, i ≤ kit.length → -(99 * (i : Int)) ≤ wsum kit signs i ∧ wsum kit signs i ≤ 99 * (i : Int)
  | 0, _ => by simp [wsum]
  | i + 1, h => by
    have ih := wsum_bound hk hs i (by omega)
    have h1 := hk _ (rd_mem (show i < kit.length by omega))
    have h2 := hs i (by omega)
    rw [wsum]
    rcases (show rd signs i = -1 ∨ rd signs i = 0 ∨ rd signs i = 1 by omega) with e | e | e <;> rw [e] <;> omega
theorem pan_mom {kit signs : List Int} {n : Int} (hs : ∀ i : Nat, i < kit.length → -1 ≤ rd signs i ∧ rd signs i ≤ 1) : ∀ i : Nat, i ≤ kit.length → mom 30 (panAt kit signs n i) = wsum kit signs i - n
  | 0, _ => by simp only [panAt, mom, wsum]; omega
  | i + 1, h => by
    have ih := pan_mom (n := n) hs i (by omega)
    have h2 := hs i (by omega)
    rw [panAt, wsum]
    by_cases e : rd signs i = 0
    · rw [if_pos e, ih, e]; omega
    · rw [if_neg e, mom_append, ih]
      simp only [mom, Int.add_zero]
      rw [w64 (by omega) (by omega)]
      rcases (show rd signs i = -1 ∨ rd signs i = 1 by omega) with e | e <;> rw [e] <;> omega
theorem pan_ok {kit signs : List Int} {n : Int} (hn : 1 ≤ n ∧ n ≤ 99) (hk : ∀ x ∈ kit, 1 ≤ x ∧ x ≤ 99) (hs : ∀ i : Nat, i < kit.length → -1 ≤ rd signs i ∧ rd signs i ≤ 1) : ∀ i : Nat, i ≤ kit.length → okL (panAt kit signs n i)
  | 0, _ => by
    intro x hx
    rw [panAt, List.mem_singleton] at hx
    rw [hx]
    exact ⟨⟨by show (0 : Int) ≤ 29; decide, by show (29 : Int) ≤ 60; decide⟩, hn⟩
  | i + 1, h => by
    have ih := pan_ok hn hk hs i (by omega)
    have h1 := hk _ (rd_mem (show i < kit.length by omega))
    have h2 := hs i (by omega)
    rw [panAt]
    split
    · exact ih
    · refine okL_append ih ⟨?_, h1⟩
      show 0 ≤ wrap64 (30 + rd signs i) ∧ wrap64 (30 + rd signs i) ≤ 60
      rw [w64 (by omega) (by omega)]
      omega
theorem dot_take (kit y : List Int) (hl : y.length = kit.length) : ∀ i : Nat, i ≤ kit.length → dotW (kit.take i) (y.take i) = wsum kit y i
  | 0, _ => by simp [wsum, dotW]
  | i + 1, h => by
    have ih := dot_take kit y hl i (by omega)
    have h1 : i < kit.length := by omega
    have h2 : i < y.length := by omega
    rw [List.take_add_one, List.take_add_one, List.getElem?_eq_getElem h1, List.getElem?_eq_getElem h2]
    show dotW (kit.take i ++ [kit[i]]) (y.take i ++ [y[i]]) = _
    rw [dotW_snoc _ _ _ _ (by rw [List.length_take, List.length_take]; omega), ih, wsum]
    unfold rd
    rw [Int.toNat_natCast, getD_lt _ h1, getD_lt _ h2, Int.mul_comm]
theorem dot_all (kit y : List Int) (hl : y.length = kit.length) : dotW kit y = wsum kit y kit.length := by
  have := dot_take kit y hl kit.length (Nat.le_refl _)
  rwa [List.take_length, ← hl, List.take_length, hl] at this
theorem kits_l3 (kit y one two : List Int) (n : Int) (hk : ∀ x ∈ kit, 1 ≤ x ∧ x ≤ 99) (h6 : kit.length ≤ 6) (hl : y.length = kit.length) (hg : ∀ g ∈ y, -1 ≤ g ∧ g ≤ 1) (hd : dotW kit y = n) : ∀ (d i : Nat), i + d = kit.length → Ev (fun k => laws_FnKits.l3 k kit n y (wsum kit y i) (i : Int)) true := by
  have hs : ∀ i : Nat, i < kit.length → -1 ≤ rd y i ∧ rd y i ≤ 1 := fun i hi => hg _ (rd_mem (by omega))
  intro d
  induction d with
  | zero =>
    intro i h
    refine Ev.step (fun k => by rw [laws_FnKits.l3]) ?_
    simp only [if_neg (show ¬ (i : Int) < (kit.length : Int) by omega)]
    refine Ev.some ?_
    rw [show i = kit.length by omega, ← dot_all kit y hl, hd]
    exact beq_self_eq_true n
  | succ d ih =>
    intro i h
    have z0 : (i : Int) < (kit.length : Int) := by omega
    have z1 : (i : Int) < (y.length : Int) := by omega
    have b0 := wsum_bound hk hs i (by omega)
    have b1 := wsum_bound hk hs (i + 1) (by omega)
    rw [wsum] at b1
    have h1 := hk _ (rd_mem (show i < kit.length by omega))
    have h2 := hs i (by omega)
    have e1 : wrap64 (rd kit (i : Int) * rd y (i : Int)) = rd kit (i : Int) * rd y (i : Int) := w64 (by omega) (by omega)
    have e2 : wrap64 (wsum kit y i + rd kit (i : Int) * rd y (i : Int)) = wsum kit y (i + 1) := by
      rw [wsum]
      exact w64 (by omega) (by omega)
    have ew : wrap64 ((i : Int) + 1) = ((i + 1 : Nat) : Int) := by rw [w64 (by omega) (by omega)]; exact (Int.natCast_add i 1).symm
    refine Ev.step (fun k => by rw [laws_FnKits.l3]) ?_
    simp only [if_pos z0, if_pos z1, if_pos (Int.natCast_nonneg i)]
    rw [e1, e2, ew]
    exact ih (i + 1) (by omega)
/-- The last part. -/
theorem kits_j8 (kit one two : List Int) (n : Int) (hl : kit.length ≤ 7) (h1 : one.length ≤ 594) (h2 : two.length ≤ 594) (hm : kitB kit = true → (∀ x, x ∈ one ↔ 0 < x ∧ Reach 0 kit x) ∧ (∀ x, x ∈ two ↔ 0 < x ∧ Reach (-1) kit x)) :
    Ev (fun k => laws_FnKits.j8 k kit n (HowR kit n).1 (HowR kit n).2 one (kitB kit) two) true := by
  refine Ev.step (fun k => by rw [laws_FnKits.j8]) ?_
  cases hb : kitB kit with
  | false =>
    have e := HowR_no kit n (by rw [hb]; simp)
    simp only [e, Bool.false_eq_true, if_false, Bool.not_false]
    exact Ev.now _
  | true =>
    simp only [if_true]
    obtain ⟨m1, m2⟩ := hm hb
    obtain ⟨h6, hk⟩ := kitB_at1 hb
    have j10 : Ev (fun k => laws_FnKits.j10 k kit n (HowR kit n).1 (HowR kit n).2 false) true := by
      refine Ev.step (fun k => by rw [laws_FnKits.j10]) ?_
      simp only [Bool.false_eq_true, if_false]
      by_cases hn : 1 ≤ n
      · rcases HowR_facts kit n hb hn with ⟨f1, f2, f3, f4, f5⟩ | ⟨f1, f2⟩
        · simp only [f1, if_true]
          exact kits_l3 kit (HowR kit n).1 one two n hk h6.2 f3 f5 f4 kit.length 0 (by omega)
        · simp only [f1, Bool.false_eq_true, if_false]
          exact Ev.now _
      · have e := HowR_no kit n (fun e => hn e.2)
        simp only [e, Bool.false_eq_true, if_false]
        exact Ev.now _
    have l2 : ∀ (d i : Nat), i + d = one.length → Ev (fun k => laws_FnKits.l2 k kit n (HowR kit n).1 (HowR kit n).2 one two (i : Int)) true := by
      intro d
      induction d with
      | zero =>
        intro i h
        refine Ev.step (fun k => by rw [laws_FnKits.l2]) ?_
        simp only [if_neg (show ¬ (i : Int) < (one.length : Int) by omega)]
        by_cases hn : n ≥ 1
        · simp only [if_pos hn]
          refine Ev.bind (vHas_ev two n (by omega)) ?_
          have e : ((HowR kit n).2 != decide (n ∈ two)) = false := by
            rcases HowR_facts kit n hb hn with ⟨f1, f2, _⟩ | ⟨f1, f2⟩
            · rw [f1, decide_eq_true ((m2 n).2 ⟨by omega, f2⟩)]; rfl
            · rw [f1, decide_eq_false (fun e => f2 ((m2 n).1 e).2)]; rfl
          rw [e]
          exact j10
        · simp only [if_neg hn]
          exact j10
      | succ d ih =>
        intro i h
        have hi : i < one.length := by omega
        have z0 : (i : Int) < (one.length : Int) := by omega
        have hmem : rd one (i : Int) ∈ two := by
          have := (m1 _).1 (rd_mem hi)
          exact (m2 _).2 ⟨this.1, reach_two this.2⟩
        have ew : wrap64 ((i : Int) + 1) = ((i + 1 : Nat) : Int) := by rw [w64 (by omega) (by omega)]; exact (Int.natCast_add i 1).symm
        refine Ev.step (fun k => by rw [laws_FnKits.l2]) ?_
        simp only [if_pos z0, if_pos (Int.natCast_nonneg i)]
        refine Ev.bind (vHas_ev two _ (by omega)) ?_
        simp only [decide_eq_true hmem, if_true]
        rw [ew]
        exact ih (i + 1) (by omega)
    exact l2 one.length 0 (by omega)
theorem FnKits : laws_FnKits.Pure := by
  intro c hc1 hc2 hc3
  have hc := code8 hc2 hc3
  refine Ev.rounds ?_
  unfold laws_FnKits.f laws_vBig.f
  simp only [Option.bind_some]
  by_cases hbig : (c.length : Int) > 65536
  · simp only [hbig, decide_true, if_true]; exact Ev.now _
  simp only [hbig, decide_false, Bool.false_eq_true, if_false]
  obtain ⟨t1, v1, hc1'⟩ := vCut_ok hc (by omega) 1 (by omega)
  obtain ⟨t2, v2, hc2'⟩ := vCut_ok hc (by omega) 2 (by omega)
  obtain ⟨kit, n, q1, lk⟩ := drawHow_ok hc
  obtain ⟨u, pans, q2, lu⟩ := drawRange_ok hc1'
  obtain ⟨K, q3, K0, K6⟩ := drawThrees_ok hc2'
  obtain ⟨v, list, load, q4, lv, ll⟩ := drawPan_ok hc
  have W : ∃ one two : List Int, one.length ≤ 594 ∧ two.length ≤ 594 ∧ Ev (fun k => spec_WeighOne.f k kit) (one, kitB kit) ∧ Ev (fun k => impl_WeighOne.f k kit) (one, kitB kit) ∧ Ev (fun k => spec_WeighTwo.f k kit) (two, kitB kit) ∧ Ev (fun k => impl_WeighTwo.f k kit) (two, kitB kit) ∧ (kitB kit = true → (∀ x, x ∈ one ↔ 0 < x ∧ Reach 0 kit x) ∧ (∀ x, x ∈ two ↔ 0 < x ∧ Reach (-1) kit x)) := by
    cases h : kitB kit with
    | true =>
      obtain ⟨one, two, a, b, c1, c2, c3, c4, c5, c6⟩ := weighQ kit (by omega) h
      exact ⟨one, two, a, b, c1, c2, c3, c4, fun _ => ⟨c5, c6⟩⟩
    | false =>
      obtain ⟨c1, c2, c3, c4⟩ := weighQ_no kit (by omega) (by rw [h]; simp)
      exact ⟨[], [], by simp, by simp, c1, c2, c3, c4, fun e => by cases e⟩
  obtain ⟨one, two, lo, lt, w1, w2, w3, w4, wm⟩ := W
  have R : ∃ r : Int × Bool, Ev (fun k => spec_KitRange.f k u pans) r ∧ Ev (fun k => impl_KitRange.f k u pans) r ∧ (r.2 = true → kitB u = true ∧ 0 ≤ r.1 ∧ ¬ Reach (lowOf pans) u (r.1 + 1)) := by
    cases h : kitB u with
    | true =>
      obtain ⟨r, a, b, c1, c2, c3⟩ := rangeQ u pans (by omega) h
      exact ⟨(r, true), a, b, fun _ => ⟨rfl, c1, c3⟩⟩
    | false =>
      obtain ⟨a, b⟩ := rangeQ_no u pans (by omega) (by rw [h]; simp)
      exact ⟨(0, false), a, b, fun e => by cases e⟩
  obtain ⟨r, r1, r2, r3⟩ := R
  have j8 := kits_j8 kit one two n lk lo lt wm
  have hP := PanRowR_len v list load (by omega)
  -- the row of scales
  have j6 : Ev (fun k => laws_FnKits.j6 k kit n (HowR kit n).1 (HowR kit n).2 one (kitB kit) two v list load (PanRowR v list load).1 (PanRowR v list load).2) true := by
    refine Ev.step (fun k => by rw [laws_FnKits.j6]) ?_
    by_cases hp : kitB v = true ∧ (list.length : Int) = (v.length : Int) ∧ (1 ≤ load ∧ load ≤ 99) ∧ (∀ j, 0 ≤ j → j < (list.length : Int) → SignAt list j)
    · obtain ⟨p1, p2, p3, p4⟩ := hp
      rw [← PanRowR_pos p1 p2 p3 p4]
      obtain ⟨h6, hk⟩ := kitB_at1 p1
      have hs : ∀ i : Nat, i < v.length → -1 ≤ rd list i ∧ rd list i ≤ 1 := fun i hi => sign_of p4 (by omega)
      have hl0 : list.length = v.length := by omega
      have okp := pan_ok p3 hk hs v.length (Nat.le_refl _)
      have hpl := panAt_len v list load v.length
      have hrow : rowB (panAt v list load list.length) = true := by
        rw [hl0]
        exact (rowB_iff _).2 ⟨by omega, okp⟩
      have hmom : MomentAboutR (panAt v list load list.length) 30 = (wsum v list v.length - load, true) := by
        unfold MomentAboutR
        rw [if_pos ⟨hrow, by decide, by decide⟩, hl0, momW_eq okp (by omega) (by decide), pan_mom hs v.length (Nat.le_refl _)]
      simp only [if_true]
      refine Ev.bind (implMomentAbout_ev _ 30 (by rw [hl0]; omega)) ?_
      rw [hmom]
      have l1 : ∀ (d i : Nat), i + d = v.length → Ev (fun k => laws_FnKits.l1 k kit n (HowR kit n).1 (HowR kit n).2 one (kitB kit) two v list load (wsum v list v.length - load) true (wsum v list i) (i : Int)) true := by
        intro d
        induction d with
        | zero =>
          intro i h
          refine Ev.step (fun k => by rw [laws_FnKits.l1]) ?_
          have e : ((wsum v list v.length - load == 0) != (wsum v list i == load)) = false := by
            rw [show i = v.length by omega]
            by_cases e : wsum v list v.length = load
            · rw [beq_iff_eq.2 (show wsum v list v.length - load = 0 by omega), beq_iff_eq.2 e]; rfl
            · rw [beq_eq_false_iff_ne.2 (show wsum v list v.length - load ≠ 0 by omega), beq_eq_false_iff_ne.2 e]; rfl
          simp only [if_neg (show ¬ (i : Int) < (v.length : Int) by omega), if_true, e, Bool.false_eq_true, if_false]
          exact j8
        | succ d ih =>
          intro i h
          have z0 : (i : Int) < (v.length : Int) := by omega
          have z1 : (i : Int) < (list.length : Int) := by omega
          have b0 := wsum_bound hk hs i (by omega)
          have b1 := wsum_bound hk hs (i + 1) (by omega)
          rw [wsum] at b1
          have e1 : wrap64 (rd v (i : Int) * rd list (i : Int)) = rd v (i : Int) * rd list (i : Int) := w64 (by omega) (by omega)
          have e2 : wrap64 (wsum v list i + rd v (i : Int) * rd list (i : Int)) = wsum v list (i + 1) := by
            rw [wsum]
            exact w64 (by omega) (by omega)
          have ew : wrap64 ((i : Int) + 1) = ((i + 1 : Nat) : Int) := by rw [w64 (by omega) (by omega)]; exact (Int.natCast_add i 1).symm
          refine Ev.step (fun k => by rw [laws_FnKits.l1]) ?_
          simp only [if_pos z0, if_pos z1, if_pos (Int.natCast_nonneg i)]
          rw [e1, e2, ew]
          exact ih (i + 1) (by omega)
      exact l1 v.length 0 (by omega)
    · rw [← PanRowR_neg hp]
      simp only [Bool.false_eq_true, if_false]
      exact j8
  -- the kit of twos
  have j5 : Ev (fun k => laws_FnKits.j5 k kit n (HowR kit n).1 (HowR kit n).2 one (kitB kit) two (if 1 ≤ K ∧ K ≤ 6 then (pows 2 K.toNat, true) else ([], false)).1 (if 1 ≤ K ∧ K ≤ 6 then (pows 2 K.toNat, true) else ([], false)).2 v list load (PanRowR v list load).1 (PanRowR v list load).2 ((2 : Int) ^ K.toNat)) true := by
    refine Ev.step (fun k => by rw [laws_FnKits.j5]) ?_
    by_cases hK : 1 ≤ K ∧ K ≤ 6
    · have e : K.toNat = (⟨K.toNat - 1, by omega⟩ : Fin 6).val + 1 := by show K.toNat = K.toNat - 1 + 1; omega
      have hok := kits_ok.2 ⟨K.toNat - 1, by omega⟩
      have hfar := twos_far ⟨K.toNat - 1, by omega⟩
      have hsum := kit_sums.2 ⟨K.toNat - 1, by omega⟩
      rw [← e] at hok hfar hsum
      obtain ⟨h6, hk⟩ := kitB_at1 hok
      have hz := sumK_bound _ hk
      obtain ⟨x, _, a2, a3, a4, a5⟩ := rangeQ (pows 2 K.toNat) false (by rw [pows_length]; omega) hok
      have hx : x = sumK (pows 2 K.toNat) := range_sum (two := false) (fun y hy => by have := hk y hy; omega) (by omega) (fun m g0 g1 => far_all 0 _ hfar m g0 g1) a3 a4 a5
      simp only [if_pos hK, if_true]
      refine Ev.bind a2 ?_
      simp only [if_true]
      have hw : x = wrap64 ((2 : Int) ^ K.toNat - 1) := by rw [w64 (by omega) (by omega)]; omega
      simp only [if_pos hw]
      exact j6
    · simp only [if_neg hK, Bool.false_eq_true, if_false]
      exact j6
  have j4 : Ev (fun k => laws_FnKits.j4 k kit n (HowR kit n).1 (HowR kit n).2 one (kitB kit) two (if 1 ≤ K ∧ K ≤ 5 then (pows 3 K.toNat, true) else ([], false)).1 (if 1 ≤ K ∧ K ≤ 5 then (pows 3 K.toNat, true) else ([], false)).2 (if 1 ≤ K ∧ K ≤ 6 then (pows 2 K.toNat, true) else ([], false)).1 (if 1 ≤ K ∧ K ≤ 6 then (pows 2 K.toNat, true) else ([], false)).2 v list load (PanRowR v list load).1 (PanRowR v list load).2 ((3 : Int) ^ K.toNat) ((2 : Int) ^ K.toNat)) true := by
    refine Ev.step (fun k => by rw [laws_FnKits.j4]) ?_
    by_cases hK : 1 ≤ K ∧ K ≤ 5
    · have e : K.toNat = (⟨K.toNat - 1, by omega⟩ : Fin 5).val + 1 := by show K.toNat = K.toNat - 1 + 1; omega
      have hok := kits_ok.1 ⟨K.toNat - 1, by omega⟩
      have hfar := threes_far ⟨K.toNat - 1, by omega⟩
      have hsum := kit_sums.1 ⟨K.toNat - 1, by omega⟩
      rw [← e] at hok hfar hsum
      obtain ⟨h6, hk⟩ := kitB_at1 hok
      have hz := sumK_bound _ hk
      obtain ⟨x, _, a2, a3, a4, a5⟩ := rangeQ (pows 3 K.toNat) true (by rw [pows_length]; omega) hok
      have hx : x = sumK (pows 3 K.toNat) := range_sum (two := true) (fun y hy => by have := hk y hy; omega) (by omega) (fun m g0 g1 => far_all (-1) _ hfar m g0 g1) a3 a4 a5
      simp only [if_pos hK, if_true]
      refine Ev.bind a2 ?_
      simp only [if_true]
      have hw : x = wrap64 (Int.tdiv (wrap64 ((3 : Int) ^ K.toNat - 1)) 2) := by
        rw [w64 (x := (3 : Int) ^ K.toNat - 1) (by omega) (by omega), show (3 : Int) ^ K.toNat - 1 = sumK (pows 3 K.toNat) * 2 by omega, Int.mul_tdiv_cancel _ (by decide), w64 (by omega) (by omega)]
        exact hx
      simp only [if_pos hw]
      exact j5
    · simp only [if_neg hK, Bool.false_eq_true, if_false]
      exact j5
  have l0 : ∀ (d i : Nat), i + d = K.toNat → Ev (fun k => laws_FnKits.l0 k kit n (HowR kit n).1 (HowR kit n).2 one (kitB kit) two K (if 1 ≤ K ∧ K ≤ 5 then (pows 3 K.toNat, true) else ([], false)).1 (if 1 ≤ K ∧ K ≤ 5 then (pows 3 K.toNat, true) else ([], false)).2 (if 1 ≤ K ∧ K ≤ 6 then (pows 2 K.toNat, true) else ([], false)).1 (if 1 ≤ K ∧ K ≤ 6 then (pows 2 K.toNat, true) else ([], false)).2 v list load (PanRowR v list load).1 (PanRowR v list load).2 ((3 : Int) ^ i) ((2 : Int) ^ i) (i : Int)) true := by
    intro d
    induction d with
    | zero =>
      intro i h
      refine Ev.step (fun k => by rw [laws_FnKits.l0]) ?_
      simp only [if_neg (show ¬ (i : Int) < K by omega)]
      rw [show i = K.toNat by omega]
      exact j4
    | succ d ih =>
      intro i h
      have z0 : (i : Int) < K := by omega
      have z1 : (i : Int) < 7 := by omega
      have p3 := pow_fits 3 (.inr rfl) i (by omega)
      have p2 := pow_fits 2 (.inl rfl) i (by omega)
      have e3 : wrap64 (3 * (3 : Int) ^ i) = (3 : Int) ^ (i + 1) := by rw [w64 (by omega) (by omega), Int.pow_succ, Int.mul_comm]
      have e2 : wrap64 (2 * (2 : Int) ^ i) = (2 : Int) ^ (i + 1) := by rw [w64 (by omega) (by omega), Int.pow_succ, Int.mul_comm]
      have ew : wrap64 ((i : Int) + 1) = ((i + 1 : Nat) : Int) := by rw [w64 (by omega) (by omega)]; exact (Int.natCast_add i 1).symm
      refine Ev.step (fun k => by rw [laws_FnKits.l0]) ?_
      simp only [if_pos z0, if_pos z1]
      rw [e3, e2, ew]
      exact ih (i + 1) (by omega)
  have j2 : Ev (fun k => laws_FnKits.j2 k kit n (HowR kit n).1 (HowR kit n).2 one (kitB kit) two K (if 1 ≤ K ∧ K ≤ 5 then (pows 3 K.toNat, true) else ([], false)).1 (if 1 ≤ K ∧ K ≤ 5 then (pows 3 K.toNat, true) else ([], false)).2 (if 1 ≤ K ∧ K ≤ 6 then (pows 2 K.toNat, true) else ([], false)).1 (if 1 ≤ K ∧ K ≤ 6 then (pows 2 K.toNat, true) else ([], false)).2 v list load (PanRowR v list load).1 (PanRowR v list load).2) true := by
    refine Ev.step (fun k => by rw [laws_FnKits.j2]) ?_
    exact l0 K.toNat 0 (by omega)
  have j1 : ∀ b : Bool, (b = true → pans = true ∧ r.2 = true) → Ev (fun k => laws_FnKits.j1 k kit n (HowR kit n).1 (HowR kit n).2 one (kitB kit) two u r.1 K (if 1 ≤ K ∧ K ≤ 5 then (pows 3 K.toNat, true) else ([], false)).1 (if 1 ≤ K ∧ K ≤ 5 then (pows 3 K.toNat, true) else ([], false)).2 (if 1 ≤ K ∧ K ≤ 6 then (pows 2 K.toNat, true) else ([], false)).1 (if 1 ≤ K ∧ K ≤ 6 then (pows 2 K.toNat, true) else ([], false)).2 v list load (PanRowR v list load).1 (PanRowR v list load).2 b) true := by
    intro b hb
    refine Ev.step (fun k => by rw [laws_FnKits.j1]) ?_
    cases b with
    | false => simp only [Bool.false_eq_true, if_false]; exact j2
    | true =>
      obtain ⟨hp, hr⟩ := hb rfl
      obtain ⟨hu, g0, g1⟩ := r3 hr
      rw [hp] at g1
      obtain ⟨x, _, a2, a3, a4, a5⟩ := rangeQ u false (by omega) hu
      have hle := range_mono g0 (fun m z0 z1 => a4 m z0 z1) g1
      simp only [if_true]
      refine Ev.bind a2 ?_
      simp only [if_true, if_neg (show ¬ x > r.1 by omega)]
      exact j2
  have j0 : Ev (fun k => laws_FnKits.j0 k kit n (HowR kit n).1 (HowR kit n).2 one (kitB kit) two u pans r.1 r.2 K (if 1 ≤ K ∧ K ≤ 5 then (pows 3 K.toNat, true) else ([], false)).1 (if 1 ≤ K ∧ K ≤ 5 then (pows 3 K.toNat, true) else ([], false)).2 (if 1 ≤ K ∧ K ≤ 6 then (pows 2 K.toNat, true) else ([], false)).1 (if 1 ≤ K ∧ K ≤ 6 then (pows 2 K.toNat, true) else ([], false)).2 v list load (PanRowR v list load).1 (PanRowR v list load).2 false) true := by
    refine Ev.step (fun k => by rw [laws_FnKits.j0]) ?_
    simp only [Bool.false_eq_true, if_false]
    cases hr : r.2 with
    | true =>
      simp only [if_true]
      exact j1 pans (fun e => ⟨e, hr⟩)
    | false =>
      simp only [Bool.false_eq_true, if_false]
      exact j1 false (fun e => by cases e)
  have t3 : (if 1 ≤ K ∧ K ≤ 5 then (pows 3 K.toNat, true) else (([], false) : List Int × Bool)).1.length ≤ 10 := by
    split
    · show (pows 3 K.toNat).length ≤ 10; rw [pows_length]; omega
    · simp
  have t2' : (if 1 ≤ K ∧ K ≤ 6 then (pows 2 K.toNat, true) else (([], false) : List Int × Bool)).1.length ≤ 10 := by
    split
    · show (pows 2 K.toNat).length ≤ 10; rw [pows_length]; omega
    · simp
  have hH := HowR_len kit n
  have hPl : (PanRowR v list load).1.length ≤ 9 := by
    unfold PanRowR
    split
    · have := panAt_len v list load list.length
      show (panAt v list load list.length).length ≤ 9
      omega
    · simp
  refine Ev.bind q1 (Ev.bind (implHow_ev kit n (by omega)) (Ev.bind (specHow_ev kit n (by omega)) (Ev.bind w2 (Ev.bind w1 (Ev.bind w4 (Ev.bind w3 ?_))))))
  simp only [v1, Option.bind_some]
  refine Ev.bind q2 (Ev.bind r2 (Ev.bind r1 ?_))
  simp only [v2, q3, Option.bind_some]
  refine Ev.bind (implThreesKit_ev K) (Ev.bind (specThreesKit_ev K) (Ev.bind (implTwosKit_ev K) (Ev.bind (specTwosKit_ev K) (Ev.bind q4 (Ev.bind (implPanRow_ev v list load (by omega) (by omega)) (Ev.bind (specPanRow_ev v list load (by omega) (by omega)) ?_))))))
  simp only [bne_self_eq_false, Bool.false_eq_true, if_false]
  refine Ev.bind (vInts_self _ (by omega)) ?_
  simp only [if_true]
  refine Ev.bind (vInts_self _ (by omega)) ?_
  simp only [if_true]
  refine Ev.bind (vInts_self _ (by omega)) ?_
  simp only [if_true]
  refine Ev.bind (vInts_self _ (by omega)) ?_
  simp only [if_true]
  refine Ev.bind (vInts_self _ (by omega)) ?_
  simp only [if_true]
  refine Ev.bind (vRow_self _ (by omega)) ?_
  simp only [if_true]
  refine Ev.bind (implIsKit_ev kit (by omega)) (Ev.bind (specIsKit_ev kit (by omega)) ?_)
  simp only [bne_self_eq_false, Bool.false_eq_true, if_false]
  refine Ev.bind (implIsKit_ev kit (by omega)) ?_
  simp only [bne_self_eq_false, Bool.false_eq_true, if_false]
  exact j0


end Go.Proofs.Ytgnmomdgfamhnaa.Pure

