/- For every kit and number the plain function of the law FnExactHowToWeigh answers true. -/
import Derived.Test.YtjhoejdjhboadaaPFnExactHowToWeighx5
import Derived.Test.YtjhoejdjhboadaaLib
set_option linter.unusedVariables false
set_option linter.unusedSimpArgs false
namespace Go.Proofs.Ytjhoejdjhboadaa.Pure
open Go.RowKit Go.Proofs.Ytjhoejdjhboadaa.PFnExactHowToWeigh Go.Proofs.YtjhoejdjhboadaaW.PrintWords Go.Proofs.YtjhoejdjhboadaaW.PrintLast Go.Proofs.Ytjhoejdjhboadaa.Lib

theorem l1In_eq (a b c : Int) : spec_l1In.f a b c = some (decide (b ≤ a ∧ a ≤ c)) := by
  unfold spec_l1In.f
  by_cases h : a ≥ b
  · rw [if_pos h]
    congr 1
    simp only [decide_eq_decide]
    omega
  · rw [if_neg h]
    congr 1
    simp only [Bool.false_eq, decide_eq_false_iff_not]
    omega

theorem within_eq (a b c : Int) : impl_within.f a b c = some (decide (b ≤ a ∧ a ≤ c)) := by
  unfold impl_within.f
  by_cases h : a ≥ b
  · rw [if_pos h]
    congr 1
    simp only [decide_eq_decide]
    omega
  · rw [if_neg h]
    congr 1
    simp only [Bool.false_eq, decide_eq_false_iff_not]
    omega

theorem isWeight_eq (a : Int) : impl_isWeight.f a = some (decide (1 ≤ a ∧ a ≤ 99)) := by
  unfold impl_isWeight.f
  simp only [within_eq, Option.bind_some]

theorem toIntS_ev (l : List Int) (hl : l.length ≤ 1048576) : Ev (fun k => laws_toIntS.f k l) l := by
  unfold laws_toIntS.f
  simp only [if_pos (show 0 ≤ (l.length : Int) by omega), if_pos (show ((l.length : Int) : Int).toNat ≤ 35184372088832 by omega)]
  have h := Ev.fold (l := fun k x i => laws_toIntS.l0 k l x i) (n := l.length) (fun i => l.take i.toNat ++ List.replicate (l.length - i.toNat) 0) (a := l)
    (fun i h0 h1 r h => by
      refine Ev.step (fun k => by rw [laws_toIntS.l0]) ?_
      have hx : i < ((l.take i.toNat ++ List.replicate (l.length - i.toNat) (0 : Int)).length : Int) := by
        rw [List.length_append, List.length_take, List.length_replicate]; omega
      simp only [if_pos h1, if_pos h0, if_pos hx, w64 (show -9223372036854775808 ≤ i + 1 by omega) (by omega)]
      unfold rd
      rw [set_fill l 0 0 i.toNat (by omega), ← toNat_succ h0]
      exact h)
    (by
      refine Ev.step (fun k => by rw [laws_toIntS.l0]) ?_
      simp only [if_neg (show ¬ (l.length : Int) < l.length by omega)]
      exact Ev.some (by simp))
    l.length 0 (by omega) (by omega)
  simpa using h

theorem eqIntS_ev (a b : List Int) (ha : a.length ≤ 9223372036854775806) : Ev (fun k => laws_eqIntS.f k a b) (decide (a = b)) := by
  unfold laws_eqIntS.f
  by_cases hl : (a.length : Int) = (b.length : Int)
  · simp only [if_pos hl]
    have h := Ev.count' (l := fun k i => laws_eqIntS.l0 k a b i) (n := a.length) (P := fun i => rd a i = rd b i) (a := true) (b := false) (by omega)
      (fun i h0 h1 hp r h => by
        refine Ev.step (fun k => by rw [laws_eqIntS.l0]) ?_
        simp only [if_pos h0, if_pos h1, if_pos (show i < (b.length : Int) by omega), if_pos hp, w64 (show -9223372036854775808 ≤ i + 1 by omega) (by omega)]
        exact h)
      (fun i h0 h1 hp => by
        refine Ev.step (fun k => by rw [laws_eqIntS.l0]) ?_
        simp only [if_pos h0, if_pos h1, if_pos (show i < (b.length : Int) by omega), if_neg hp]
        exact Ev.now _)
      (fun i h0 h1 => by
        refine Ev.step (fun k => by rw [laws_eqIntS.l0]) ?_
        simp only [if_neg (show ¬ i < (a.length : Int) by omega)]
        exact Ev.now _)
    refine Ev.as h ?_
    split
    · rename_i hc
      exact (decide_eq_true (rd_ext (by omega) fun i h0 h1 => hc i h0 h1)).symm
    · rename_i hc
      exact (decide_eq_false fun e => hc fun i h0 h1 => by rw [e]).symm
  · simp only [if_neg hl]
    exact Ev.some (decide_eq_false fun e => hl (by rw [e])).symm
theorem eqIntS_self (a : List Int) (ha : a.length ≤ 9223372036854775806) : Ev (fun k => laws_eqIntS.f k a a) true :=
  Ev.as (eqIntS_ev a a ha) (decide_eq_true rfl)

theorem markIntS_ev (l : List Int) (hl : l.length ≤ 1048576) (m : Int) (hm : 0 ≤ m) (hm2 : m ≤ 4611686018427387904) : Ev (fun k => laws_markIntS.f k l m) (m + l.length, marks m l.length) := by
  unfold laws_markIntS.f
  have h := Ev.fold (l := fun k (s : List Int × Int) i => laws_markIntS.l0 k s.1 s.2 i) (n := l.length) (fun i => (marks m i.toNat ++ l.drop i.toNat, m + i)) (a := (m + l.length, marks m l.length))
    (fun i h0 h1 r h => by
      refine Ev.step (fun k => by rw [laws_markIntS.l0]) ?_
      have hx : i < ((marks m i.toNat ++ l.drop i.toNat).length : Int) := by
        rw [List.length_append, marks_length, List.length_drop]; omega
      simp only [if_pos h0, if_pos hx, w64 (show -9223372036854775808 ≤ i + 1 by omega) (by omega), w64 (show -9223372036854775808 ≤ m + i + 1 by omega) (by omega)]
      rw [List.set_append_right _ _ (by rw [marks_length]; omega), marks_length, Nat.sub_self]
      have e : l.drop i.toNat = l[i.toNat]'(by omega) :: l.drop (i + 1).toNat := by
        rw [toNat_succ h0]; exact List.drop_eq_getElem_cons (by omega)
      rw [e, List.set_cons_zero]
      have e2 : marks m (i + 1).toNat = marks m i.toNat ++ [m + i] := by
        rw [toNat_succ h0]; unfold marks; rw [List.range_succ, List.map_append]; simp; omega
      simp only [e2, List.append_assoc, List.singleton_append, ← Int.add_assoc] at h
      exact h)
    (by
      refine Ev.step (fun k => by rw [laws_markIntS.l0]) ?_
      have hx : ¬ (l.length : Int) < ((marks m (l.length : Int).toNat ++ l.drop (l.length : Int).toNat).length : Int) := by
        rw [List.length_append, marks_length, List.length_drop]; omega
      simp only [if_neg hx]
      exact Ev.some (by simp))
    l.length 0 (by omega) (by omega)
  simpa [marks] using h
theorem heldIntS_ev (n : Nat) (hn : n ≤ 1048576) (m : Int) (hm : 0 ≤ m) (hm2 : m ≤ 4611686018427387904) : Ev (fun k => laws_heldIntS.f k (marks m n) m) (m + n) := by
  unfold laws_heldIntS.f
  have h := Ev.fold (l := fun k (s : Int) i => laws_heldIntS.l0 k (marks m n) s i) (n := n) (fun i => m + i) (a := m + n)
    (fun i h0 h1 r h => by
      refine Ev.step (fun k => by rw [laws_heldIntS.l0]) ?_
      simp only [if_pos h0, marks_length, if_pos h1, if_pos (rd_marks m n i h0 h1), w64 (show -9223372036854775808 ≤ i + 1 by omega) (by omega), w64 (show -9223372036854775808 ≤ m + i + 1 by omega) (by omega)]
      simp only [← Int.add_assoc] at h
      exact h)
    (by
      refine Ev.step (fun k => by rw [laws_heldIntS.l0]) ?_
      simp only [marks_length, if_neg (show ¬ (n : Int) < (n : Int) by omega)]
      exact Ev.now _)
    n 0 (by omega) (by omega)
  simpa using h

/-- The list's places are fine: each a weight, none less than the one before. -/
def KitAt (l : List Int) (i : Int) : Prop := (1 ≤ rd l i ∧ rd l i ≤ 99) ∧ (0 < i → rd l (i - 1) ≤ rd l i)
open Classical in
noncomputable def kitB (l : List Int) : Bool := if ∀ j, 0 ≤ j → j < (l.length : Int) → KitAt l j then decide (1 ≤ (l.length : Int) ∧ (l.length : Int) ≤ 6) else false

theorem l3Kit_ev (l : List Int) (hl : l.length ≤ 9223372036854775806) : Ev (fun k => spec_l3Kit.f k l) (kitB l) := by
  unfold spec_l3Kit.f kitB
  refine Ev.count' (l := fun k i => spec_l3Kit.l0 k l i) (n := l.length) (P := KitAt l) (by omega) ?_ ?_ ?_
  · intro i h0 h1 hp r h
    refine Ev.step (fun k => by rw [spec_l3Kit.l0]) ?_
    simp only [if_pos h0, if_pos h1, l1In_eq, Option.bind_some, decide_eq_true_eq, if_pos hp.1]
    by_cases hi : i > 0
    · simp only [if_pos hi, w64 (show -9223372036854775808 ≤ i - 1 by omega) (by omega), w64 (show -9223372036854775808 ≤ i + 1 by omega) (by omega), if_pos (show 0 ≤ i - 1 by omega), if_pos (show i - 1 < (l.length : Int) by omega), if_neg (show ¬ rd l (i - 1) > rd l i from by have := hp.2 hi; omega)]
      exact h
    · simp only [if_neg hi, w64 (show -9223372036854775808 ≤ i + 1 by omega) (by omega)]
      exact h
  · intro i h0 h1 hp
    refine Ev.step (fun k => by rw [spec_l3Kit.l0]) ?_
    simp only [if_pos h0, if_pos h1, l1In_eq, Option.bind_some, decide_eq_true_eq]
    by_cases hw : 1 ≤ rd l i ∧ rd l i ≤ 99
    · have hi : i > 0 := by
        by_cases hi : i > 0
        · exact hi
        · exact absurd ⟨hw, fun h => absurd h hi⟩ hp
      simp only [if_pos hw, if_pos hi, w64 (show -9223372036854775808 ≤ i - 1 by omega) (by omega), if_pos (show 0 ≤ i - 1 by omega), if_pos (show i - 1 < (l.length : Int) by omega), if_pos (show rd l (i - 1) > rd l i from by
        have : ¬ rd l (i - 1) ≤ rd l i := fun h => hp ⟨hw, fun _ => h⟩
        omega)]
      exact Ev.now _
    · simp only [if_neg hw]
      exact Ev.now _
  · intro i h0 h1
    refine Ev.step (fun k => by rw [spec_l3Kit.l0]) ?_
    simp only [if_neg (show ¬ i < (l.length : Int) by omega), l1In_eq, Option.bind_some]
    exact Ev.now _

theorem implIsKit_ev (l : List Int) (hl : l.length ≤ 9223372036854775806) : Ev (fun k => impl_IsKit.f k l) (kitB l) := by
  unfold impl_IsKit.f kitB
  refine Ev.count' (l := fun k i => impl_IsKit.l0 k l l l.length i) (n := l.length) (P := KitAt l) (by omega) ?_ ?_ ?_
  · intro i h0 h1 hp r h
    refine Ev.step (fun k => by rw [impl_IsKit.l0]) ?_
    simp only [if_pos h0, if_pos h1, isWeight_eq, Option.bind_some, decide_eq_true_eq, if_pos hp.1]
    by_cases hi : i > 0
    · simp only [if_pos hi, w64 (show -9223372036854775808 ≤ i - 1 by omega) (by omega), w64 (show -9223372036854775808 ≤ i + 1 by omega) (by omega), if_pos (show 0 ≤ i - 1 by omega), if_pos (show i - 1 < (l.length : Int) by omega), if_neg (show ¬ rd l i < rd l (i - 1) from by have := hp.2 hi; omega)]
      exact h
    · simp only [if_neg hi, w64 (show -9223372036854775808 ≤ i + 1 by omega) (by omega)]
      exact h
  · intro i h0 h1 hp
    refine Ev.step (fun k => by rw [impl_IsKit.l0]) ?_
    simp only [if_pos h0, if_pos h1, isWeight_eq, Option.bind_some, decide_eq_true_eq]
    by_cases hw : 1 ≤ rd l i ∧ rd l i ≤ 99
    · have hi : i > 0 := by
        by_cases hi : i > 0
        · exact hi
        · exact absurd ⟨hw, fun h => absurd h hi⟩ hp
      simp only [if_pos hw, if_pos hi, w64 (show -9223372036854775808 ≤ i - 1 by omega) (by omega), if_pos (show 0 ≤ i - 1 by omega), if_pos (show i - 1 < (l.length : Int) by omega), if_pos (show rd l i < rd l (i - 1) from by
        have : ¬ rd l (i - 1) ≤ rd l i := fun h => hp ⟨hw, fun _ => h⟩
        omega)]
      exact Ev.now _
    · simp only [if_neg hw]
      exact Ev.now _
  · intro i h0 h1
    refine Ev.step (fun k => by rw [impl_IsKit.l0]) ?_
    simp only [if_neg (show ¬ i < (l.length : Int) by omega), within_eq, Option.bind_some]
    exact Ev.now _

/-- All lists of signs from low on, in their order. -/
def allL (low : Int) : Nat → List (List Int)
  | 0 => [[]]
  | n + 1 => (impl_eachSigns.upto low).flatMap fun g => (allL low n).map (g :: ·)
def dotW : List Int → List Int → Int
  | x :: kit, g :: y => g * x + dotW kit y
  | _, _ => 0
theorem upto_mem {low g : Int} (h : g ∈ impl_eachSigns.upto low) : -1 ≤ g ∧ g ≤ 1 := by
  unfold impl_eachSigns.upto at h
  split at h
  · simp at h; omega
  · split at h
    · simp at h; omega
    · split at h
      · simp at h; omega
      · simp at h
theorem allL_mem {low : Int} : ∀ {n : Nat} {y : List Int}, y ∈ allL low n → y.length = n ∧ ∀ g ∈ y, -1 ≤ g ∧ g ≤ 1
  | 0, y, h => by
    simp [allL] at h
    subst h
    simp
  | n + 1, y, h => by
    simp only [allL, List.mem_flatMap, List.mem_map] at h
    obtain ⟨g, hg, y2, hy, rfl⟩ := h
    obtain ⟨h1, h2⟩ := allL_mem hy
    refine ⟨by simp [h1], fun z hz => ?_⟩
    rcases List.mem_cons.1 hz with rfl | hz
    · exact upto_mem hg
    · exact h2 z hz
theorem foldlM_flat {σ : Type} (tf : σ → List Int → Int → Option σ) (low : Int) (rest pre : List Int) (sum x : Int) (n : Nat)
    (hG : ∀ g, -1 ≤ g → g ≤ 1 → ∀ s, impl_eachSigns.eachG tf low rest (pre ++ [g]) (wrap64 (sum + wrap64 (g * x))) s = (allL low n).foldlM (fun s y => tf s (pre ++ g :: y) (sum + dotW (x :: rest) (g :: y))) s) :
    ∀ (L : List Int), (∀ g ∈ L, -1 ≤ g ∧ g ≤ 1) → ∀ s, L.foldlM (fun s g => impl_eachSigns.eachG tf low rest (pre ++ [g]) (wrap64 (sum + wrap64 (g * x))) s) s = (L.flatMap fun g => (allL low n).map (g :: ·)).foldlM (fun s y => tf s (pre ++ y) (sum + dotW (x :: rest) y)) s
  | [], _, s => rfl
  | g :: L, hL, s => by
    rw [List.foldlM_cons, List.flatMap_cons, List.foldlM_append, List.foldlM_map, hG g (hL g (List.mem_cons_self)).1 (hL g (List.mem_cons_self)).2 s]
    congr 1
    funext s2
    exact foldlM_flat tf low rest pre sum x n hG L (fun z hz => hL z (List.mem_cons_of_mem _ hz)) s2
theorem eachG_foldM {σ : Type} (tf : σ → List Int → Int → Option σ) (low : Int) (kit : List Int) : ∀ (pre : List Int) (sum : Int) (s : σ), (∀ x ∈ kit, 0 ≤ x ∧ x ≤ 99) → -1000000 + 99 * (kit.length : Int) ≤ sum → sum ≤ 1000000 - 99 * (kit.length : Int) →
    impl_eachSigns.eachG tf low kit pre sum s = (allL low kit.length).foldlM (fun s y => tf s (pre ++ y) (sum + dotW kit y)) s := by
  induction kit with
  | nil =>
    intro pre sum s _ _ _
    simp only [impl_eachSigns.eachG, allL, List.length_nil, List.foldlM_cons, List.foldlM_nil, List.append_nil, dotW, Int.add_zero]
    cases tf s pre sum <;> rfl
  | cons x kit ih =>
    intro pre sum s hk h0 h1
    rw [List.length_cons] at h0 h1
    have hx := hk x (List.mem_cons_self)
    have hk2 : ∀ z ∈ kit, 0 ≤ z ∧ z ≤ 99 := fun z hz => hk z (List.mem_cons_of_mem _ hz)
    rw [impl_eachSigns.eachG, List.length_cons, allL]
    refine foldlM_flat tf low kit pre sum x kit.length (fun g g0 g1 s => ?_) _ (fun g hg => upto_mem hg) s
    have hgx : -99 ≤ g * x ∧ g * x ≤ 99 := by
      rcases (show g = -1 ∨ g = 0 ∨ g = 1 by omega) with rfl | rfl | rfl <;> omega
    rw [w64 (show -9223372036854775808 ≤ g * x by omega) (by omega), w64 (show -9223372036854775808 ≤ sum + g * x by omega) (by omega)]
    rw [ih (pre ++ [g]) (sum + g * x) s hk2 (by omega) (by omega)]
    congr 1
    funext s2 y
    rw [List.append_assoc, List.singleton_append]
    congr 1
    show sum + g * x + dotW kit y = sum + (g * x + dotW kit y)
    omega

def ext3 (x : List Int) : List (List Int) := [x ++ [-1], x ++ [0], x ++ [1]]
def allS : Nat → List (List Int)
  | 0 => [[]]
  | n + 1 => (allS n).flatMap ext3
theorem allL_ext : ∀ n, allL (-1) (n + 1) = (allL (-1) n).flatMap ext3
  | 0 => rfl
  | n + 1 => by
    have ih := allL_ext n
    show ((impl_eachSigns.upto (-1)).flatMap fun g => (allL (-1) (n + 1)).map (g :: ·)) = ((impl_eachSigns.upto (-1)).flatMap fun g => (allL (-1) n).map (g :: ·)).flatMap ext3
    rw [List.flatMap_assoc]
    congr 1
    funext g
    rw [ih, List.map_flatMap, List.flatMap_map]
    rfl
theorem allS_eq : ∀ n, allS n = allL (-1) n
  | 0 => rfl
  | n + 1 => by rw [allS, allS_eq n, allL_ext]
theorem allS_len : ∀ n, (allS n).length = 3 ^ n
  | 0 => rfl
  | n + 1 => by
    have : ∀ l : List (List Int), (l.flatMap ext3).length = 3 * l.length := by
      intro l
      induction l with
      | nil => rfl
      | cons a l ih => rw [List.flatMap_cons, List.length_append, ih, List.length_cons, ext3]; simp; omega
    rw [allS, this, allS_len n, Nat.pow_succ, Nat.mul_comm]
theorem allS_row {n : Nat} {y : List Int} (h : y ∈ allS n) : y.length = n ∧ ∀ g ∈ y, -1 ≤ g ∧ g ≤ 1 := allL_mem (allS_eq n ▸ h)
theorem l1Own_eq (l : List Int) (h : l.length < 17592186044416) : spec_l1Own.f l = some l := by
  unfold spec_l1Own.f
  simp only [Option.bind_some, List.length_nil, Nat.zero_add, if_pos h, List.nil_append]
theorem l3All_row (n i : Int) (X : List (List Int)) (hX : X.length ≤ 729) (hr : ∀ x ∈ X, x.length ≤ 6) (hn : n ≤ 6) (hi : 0 ≤ i) (hi2 : i < n) {r : List (List Int)} : ∀ (d j : Nat) (o : List (List Int)), j + d = X.length → o.length = 3 * j →
    Ev (fun k => spec_l3All.l0 k n (o ++ (X.drop j).flatMap ext3) (i + 1)) r → Ev (fun k => spec_l3All.l1 k n X i o (j : Int)) r := by
  intro d
  induction d with
  | zero =>
    intro j o h ho h2
    refine Ev.step (fun k => by rw [spec_l3All.l1]) ?_
    simp only [if_neg (show ¬ (j : Int) < (X.length : Int) by omega), w64 (show -9223372036854775808 ≤ i + 1 by omega) (by omega)]
    rw [List.drop_eq_nil_of_le (by omega), List.flatMap_nil, List.append_nil] at h2
    exact h2
  | succ d ih =>
    intro j o h ho h2
    have hj : j < X.length := by omega
    have hrow : (X[j]).length ≤ 6 := hr _ (List.getElem_mem hj)
    have er : rd_L1 X (j : Int) = X[j] := by
      unfold rd_L1
      rw [Int.toNat_natCast]
      exact getD_lt _ hj
    have c1 : (j : Int) < (X.length : Int) := by omega
    have ew : wrap64 ((j : Int) + 1) = ((j + 1 : Nat) : Int) := by rw [w64 (by omega) (by omega)]; omega
    refine Ev.step (fun k => by rw [spec_l3All.l1]) ?_
    simp only [if_pos c1]
    have one : ∀ (g : Int) (o2 : List (List Int)), -1 ≤ g → g ≤ 1 → o2.length ≤ 3000 → Ev (fun k => spec_l3All.l2 k n X i (o2 ++ [X[j] ++ [g]]) (j : Int) (g + 1)) r → Ev (fun k => spec_l3All.l2 k n X i o2 (j : Int) g) r := by
      intro g o2 g0 g1 h2 h3
      refine Ev.step (fun k => by rw [spec_l3All.l2]) ?_
      simp only [if_pos g1, if_pos (show 0 ≤ (j : Int) by omega), if_pos c1, er, l1Own_eq (X[j]) (by omega), Option.bind_some, if_pos (show (X[j]).length < 17592186044416 by omega), if_pos (show o2.length < 5864062014805 by omega), w64 (show -9223372036854775808 ≤ g + 1 by omega) (by omega)]
      exact h3
    refine one (-1) o (by omega) (by omega) (by omega) ?_
    refine one 0 _ (by omega) (by omega) (by rw [List.length_append, List.length_singleton]; omega) ?_
    refine one 1 _ (by omega) (by omega) (by simp only [List.length_append, List.length_singleton]; omega) ?_
    refine Ev.step (fun k => by rw [spec_l3All.l2]) ?_
    simp only [if_neg (show ¬ ((1 : Int) + 1) ≤ 1 by omega), ew]
    refine ih (j + 1) _ (by omega) (by simp only [List.length_append, List.length_singleton]; omega) ?_
    rw [List.drop_eq_getElem_cons hj, List.flatMap_cons] at h2
    have e : o ++ [X[j] ++ [-1]] ++ [X[j] ++ [0]] ++ [X[j] ++ [1]] ++ (X.drop (j + 1)).flatMap ext3 = o ++ (ext3 X[j] ++ (X.drop (j + 1)).flatMap ext3) := by
      unfold ext3
      simp only [List.append_assoc, List.singleton_append, List.cons_append, List.nil_append]
    rw [e]
    exact h2
theorem l3All_ev (n : Nat) (hn : n ≤ 6) : Ev (fun k => spec_l3All.f k (n : Int)) (allS n) := by
  unfold spec_l3All.f
  have hp : ∀ m : Nat, m ≤ 6 → (3 : Nat) ^ m ≤ 729 := by
    intro m hm
    exact Nat.pow_le_pow_right (by omega) hm
  exact Ev.fold (l := fun k o i => spec_l3All.l0 k (n : Int) o i) (n := (n : Int)) (fun i => allS i.toNat) (a := allS n)
    (fun i h0 h1 r h => by
      refine Ev.step (fun k => by rw [spec_l3All.l0]) ?_
      simp only [if_pos h1]
      refine l3All_row (n : Int) i _ (by rw [allS_len]; exact hp i.toNat (by omega)) (fun x hx => by rw [(allS_row (n := i.toNat) hx).1]; omega) (by omega) h0 h1 (allS i.toNat).length 0 [] (by omega) rfl ?_
      rw [List.drop_zero, List.nil_append]
      rw [toNat_succ h0, allS] at h
      exact h)
    (by
      refine Ev.step (fun k => by rw [spec_l3All.l0]) ?_
      simp only [if_neg (show ¬ (n : Int) < (n : Int) by omega)]
      exact Ev.some (by simp))
    n 0 (by omega) (by omega)

def usedW : List Int → Int := impl_HowToWeigh.usedN
theorem usedW_cons (g : Int) (y : List Int) (h : -1 ≤ g ∧ g ≤ 1) : usedW (g :: y) = g * g + usedW y := by
  unfold usedW impl_HowToWeigh.usedN
  rcases (show g = -1 ∨ g = 0 ∨ g = 1 by omega) with rfl | rfl | rfl
  · simp; omega
  · simp
  · simp; omega
theorem usedW_le : ∀ y : List Int, 0 ≤ usedW y ∧ usedW y ≤ y.length := by
  intro y
  unfold usedW impl_HowToWeigh.usedN
  have := List.length_filter_le (fun x => decide (x ≠ 0)) y
  omega
theorem kitB_at {l : List Int} (h : kitB l = true) : (1 ≤ l.length ∧ l.length ≤ 6) ∧ ∀ x ∈ l, 0 ≤ x ∧ x ≤ 99 := by
  unfold kitB at h
  split at h
  · rename_i hk
    have h2 := of_decide_eq_true h
    refine ⟨by omega, fun x hx => ?_⟩
    obtain ⟨j, hj, rfl⟩ := List.getElem_of_mem hx
    have := (hk (j : Int) (by omega) (by omega)).1
    have e : rd l (j : Int) = l[j] := by
      unfold rd
      rw [Int.toNat_natCast]
      exact getD_lt _ hj
    rw [e] at this
    omega
  · cases h
theorem wrap_add (a p : Int) (h0 : -99999 ≤ a) (h1 : a ≤ 99999) (h2 : -99 ≤ p) (h3 : p ≤ 99) : wrap64 (a + wrap64 p) = a + p := by
  rw [w64 (show -9223372036854775808 ≤ p by omega) (by omega), w64 (show -9223372036854775808 ≤ a + p by omega) (by omega)]
theorem l3Weigh_l0 (kit y : List Int) (hy : y.length = kit.length) (hk : ∀ x ∈ kit, 0 ≤ x ∧ x ≤ 99) (hg : ∀ g ∈ y, -1 ≤ g ∧ g ≤ 1) (hl : kit.length ≤ 6) : ∀ (d j : Nat) (a b : Int), j + d = kit.length → -99 * (j : Int) ≤ a → a ≤ 99 * (j : Int) → 0 ≤ b → b ≤ j →
    Ev (fun k => spec_l3Weigh.l0 k kit y a b (j : Int)) (a + dotW (kit.drop j) (y.drop j), b + usedW (y.drop j)) := by
  intro d
  induction d with
  | zero =>
    intro j a b h h0 h1 h2 h3
    refine Ev.step (fun k => by rw [spec_l3Weigh.l0]) ?_
    simp only [if_neg (show ¬ (j : Int) < (kit.length : Int) by omega)]
    rw [List.drop_eq_nil_of_le (by omega), List.drop_eq_nil_of_le (by omega)]
    exact Ev.some (by simp [dotW, usedW, impl_HowToWeigh.usedN])
  | succ d ih =>
    intro j a b h h0 h1 h2 h3
    have hj : j < kit.length := by omega
    have hj2 : j < y.length := by omega
    have hx := hk _ (List.getElem_mem hj)
    have hz := hg _ (List.getElem_mem hj2)
    have e1 : rd kit (j : Int) = kit[j] := by
      unfold rd
      rw [Int.toNat_natCast]
      exact getD_lt _ hj
    have e2 : rd y (j : Int) = y[j] := by
      unfold rd
      rw [Int.toNat_natCast]
      exact getD_lt _ hj2
    have hp : -99 ≤ y[j] * kit[j] ∧ y[j] * kit[j] ≤ 99 := by
      rcases (show y[j] = -1 ∨ y[j] = 0 ∨ y[j] = 1 by omega) with e | e | e <;> rw [e] <;> omega
    have hq : 0 ≤ y[j] * y[j] ∧ y[j] * y[j] ≤ 1 := by
      rcases (show y[j] = -1 ∨ y[j] = 0 ∨ y[j] = 1 by omega) with e | e | e <;> rw [e] <;> omega
    have c1 : (j : Int) < (kit.length : Int) := by omega
    have c2 : 0 ≤ (j : Int) := Int.natCast_nonneg _
    have c3 : (j : Int) < (y.length : Int) := by omega
    have key := ih (j + 1) (a + y[j] * kit[j]) (b + y[j] * y[j]) (by omega) (by omega) (by omega) (by omega) (by omega)
    have b1 : -99999 ≤ a ∧ a ≤ 99999 := by omega
    have b2 : -99999 ≤ b ∧ b ≤ 99999 := by omega
    have b3 : -99 ≤ y[j] * y[j] ∧ y[j] * y[j] ≤ 99 := by omega
    have b4 : -9223372036854775808 ≤ (j : Int) + 1 ∧ (j : Int) + 1 ≤ 9223372036854775807 := by omega
    have w1 := wrap_add a (y[j] * kit[j]) b1.1 b1.2 hp.1 hp.2
    have w2 := wrap_add b (y[j] * y[j]) b2.1 b2.2 b3.1 b3.2
    have ew : wrap64 ((j : Int) + 1) = ((j + 1 : Nat) : Int) := (w64 b4.1 b4.2).trans (Int.natCast_add j 1).symm
    refine Ev.step (fun k => by rw [spec_l3Weigh.l0]) ?_
    simp only [if_pos c1, if_pos c2, if_pos c3, e1, e2, ew, Int.mul_comm kit[j] y[j], w1, w2]
    refine Ev.as key ?_
    rw [List.drop_eq_getElem_cons hj, List.drop_eq_getElem_cons hj2, usedW_cons _ _ hz, dotW, Int.add_assoc, Int.add_assoc]
theorem l3Weigh_ev (kit y : List Int) (hy : y.length = kit.length) (hk : ∀ x ∈ kit, 0 ≤ x ∧ x ≤ 99) (hg : ∀ g ∈ y, -1 ≤ g ∧ g ≤ 1) (hl : kit.length ≤ 6) : Ev (fun k => spec_l3Weigh.f k kit y) (dotW kit y, usedW y) := by
  unfold spec_l3Weigh.f
  refine Ev.as (l3Weigh_l0 kit y hy hk hg hl kit.length 0 0 0 (by omega) (by omega) (by omega) (by omega) (by omega)) ?_
  rw [List.drop_zero, List.drop_zero, Int.zero_add, Int.zero_add]
/-- The best of some. -/
def bestW (n : Int) (kit : List Int) (L : List (List Int)) : List Int := L.foldl (fun b y => impl_HowToWeigh.pick n b y (dotW kit y)) []
noncomputable def HowR (kit : List Int) (n : Int) : List Int × Bool := if kitB kit = true ∧ 1 ≤ n then (bestW n kit (allS kit.length), decide (((bestW n kit (allS kit.length)).length : Int) > 0)) else ([], false)
theorem best_len (n : Int) (kit : List Int) : ∀ (L : List (List Int)) (b : List Int), (∀ y ∈ L, y.length = kit.length) → (b.length = 0 ∨ b.length = kit.length) → (L.foldl (fun b y => impl_HowToWeigh.pick n b y (dotW kit y)) b).length = 0 ∨ (L.foldl (fun b y => impl_HowToWeigh.pick n b y (dotW kit y)) b).length = kit.length
  | [], b, _, h => h
  | y :: L, b, hL, h => by
    rw [List.foldl_cons]
    refine best_len n kit L _ (fun z hz => hL z (List.mem_cons_of_mem _ hz)) ?_
    unfold impl_HowToWeigh.pick
    split
    · exact .inr (hL y (List.mem_cons_self))
    · exact h
theorem HowR_len (kit : List Int) (n : Int) : (HowR kit n).1.length ≤ 6 := by
  unfold HowR
  split
  · rename_i h
    have h6 := (kitB_at h.1).1
    rcases best_len n kit (allS kit.length) [] (fun y hy => (allS_row hy).1) (.inl rfl) with e | e
    · show (bestW n kit (allS kit.length)).length ≤ 6
      unfold bestW; omega
    · show (bestW n kit (allS kit.length)).length ≤ 6
      unfold bestW; omega
  · simp
theorem implHow_ev (kit : List Int) (n : Int) (hl : kit.length ≤ 1048576) : Ev (fun k => impl_HowToWeigh.f k kit n) (HowR kit n) := by
  unfold impl_HowToWeigh.f HowR
  refine Ev.bind (implIsKit_ev kit (by omega)) ?_
  by_cases h : kitB kit = true
  · obtain ⟨h6, hk⟩ := kitB_at h
    simp only [h, if_true, true_and]
    by_cases hn : n < 1
    · simp only [if_pos hn, if_neg (show ¬ 1 ≤ n by omega)]
      exact Ev.now _
    · simp only [if_neg hn, if_pos (show 1 ≤ n by omega), if_pos (show kit.length < 8796093022208 by omega)]
      rw [eachG_foldM _ _ kit [] 0 [] hk (by omega) (by omega)]
      have : ∀ (L : List (List Int)) (b : List Int), L.foldlM (fun s y => some (impl_HowToWeigh.pick n s ([] ++ y) (0 + dotW kit y))) b = some (L.foldl (fun b y => impl_HowToWeigh.pick n b y (dotW kit y)) b) := by
        intro L
        induction L with
        | nil => intro b; rfl
        | cons y L ih =>
          intro b
          rw [List.foldlM_cons, List.foldl_cons, List.nil_append, Int.zero_add]
          exact ih _
      rw [this, Option.bind_some, ← allS_eq]
      exact Ev.now _
  · simp only [h, false_and, if_false, Bool.false_eq_true]
    exact Ev.now _
def fewW (m : Nat) (b : List Int) : Int := if b.length = 0 then (m : Int) + 1 else usedW b
theorem specHow_l0 (kit : List Int) (n : Int) (hk : ∀ x ∈ kit, 0 ≤ x ∧ x ≤ 99) (h1 : 1 ≤ kit.length) (hl : kit.length ≤ 6) (L : List (List Int)) (hL : L.length ≤ 729) (hr : ∀ y ∈ L, y.length = kit.length ∧ ∀ g ∈ y, -1 ≤ g ∧ g ≤ 1) : ∀ (d j : Nat) (b : List Int), j + d = L.length →
    Ev (fun k => spec_HowToWeigh.l0 k kit n L b (fewW kit.length b) (j : Int)) ((L.drop j).foldl (fun b y => impl_HowToWeigh.pick n b y (dotW kit y)) b, decide ((((L.drop j).foldl (fun b y => impl_HowToWeigh.pick n b y (dotW kit y)) b).length : Int) > 0)) := by
  intro d
  induction d with
  | zero =>
    intro j b h
    refine Ev.step (fun k => by rw [spec_HowToWeigh.l0]) ?_
    simp only [if_neg (show ¬ (j : Int) < (L.length : Int) by omega)]
    rw [List.drop_eq_nil_of_le (by omega), List.foldl_nil]
    exact Ev.now _
  | succ d ih =>
    intro j b h
    have hj : j < L.length := by omega
    obtain ⟨hy, hg⟩ := hr _ (List.getElem_mem hj)
    have e1 : rd_L1 L (j : Int) = L[j] := by
      unfold rd_L1
      rw [Int.toNat_natCast]
      exact getD_lt _ hj
    have ew : wrap64 ((j : Int) + 1) = ((j + 1 : Nat) : Int) := by rw [w64 (by omega) (by omega)]; omega
    refine Ev.step (fun k => by rw [spec_HowToWeigh.l0]) ?_
    simp only [if_pos (show (j : Int) < (L.length : Int) by omega), if_pos (show 0 ≤ (j : Int) by omega), e1, ew]
    refine Ev.bind (l3Weigh_ev kit L[j] hy hk hg hl) ?_
    rw [List.drop_eq_getElem_cons hj, List.foldl_cons]
    have hu := usedW_le L[j]
    have hiff : usedW L[j] < fewW kit.length b ↔ (b.length = 0 ∨ usedW L[j] < usedW b) := by
      unfold fewW
      split
      · rename_i e; constructor
        · intro _; exact .inl e
        · intro _; omega
      · rename_i e; constructor
        · intro h; exact .inr h
        · intro h; exact h.resolve_left e
    by_cases c1 : dotW kit L[j] = n
    · simp only [if_pos c1]
      by_cases c2 : usedW L[j] < fewW kit.length b
      · simp only [if_pos c2]
        have ep : impl_HowToWeigh.pick n b L[j] (dotW kit L[j]) = L[j] := by
          unfold impl_HowToWeigh.pick
          rw [if_pos ⟨c1, hiff.1 c2⟩]
        have ef : usedW L[j] = fewW kit.length L[j] := by
          unfold fewW
          rw [if_neg (by omega)]
        rw [ep, ef]
        exact ih (j + 1) L[j] (by omega)
      · simp only [if_neg c2]
        have ep : impl_HowToWeigh.pick n b L[j] (dotW kit L[j]) = b := by
          unfold impl_HowToWeigh.pick
          rw [if_neg (fun e => c2 (hiff.2 e.2))]
        rw [ep]
        exact ih (j + 1) b (by omega)
    · simp only [if_neg c1]
      have ep : impl_HowToWeigh.pick n b L[j] (dotW kit L[j]) = b := by
        unfold impl_HowToWeigh.pick
        rw [if_neg (fun e => c1 e.1)]
      rw [ep]
      exact ih (j + 1) b (by omega)
theorem specHow_ev (kit : List Int) (n : Int) (hl : kit.length ≤ 1048576) : Ev (fun k => spec_HowToWeigh.f k kit n) (HowR kit n) := by
  unfold spec_HowToWeigh.f HowR
  refine Ev.bind (l3Kit_ev kit (by omega)) ?_
  by_cases h : kitB kit = true
  · obtain ⟨h6, hk⟩ := kitB_at h
    simp only [h, if_true, true_and]
    refine Ev.step (fun k => by rw [spec_HowToWeigh.j0]) ?_
    by_cases hn : n < 1
    · simp only [hn, decide_true, if_true, if_neg (show ¬ 1 ≤ n by omega)]
      exact Ev.now _
    · simp only [hn, decide_false, Bool.false_eq_true, if_false, if_pos (show 1 ≤ n by omega)]
      refine Ev.bind (l3All_ev kit.length h6.2) ?_
      rw [w64 (show -9223372036854775808 ≤ (kit.length : Int) + 1 by omega) (by omega)]
      exact specHow_l0 kit n hk h6.1 h6.2 (allS kit.length) (by rw [allS_len]; exact Nat.pow_le_pow_right (by omega) h6.2) (fun y hy => allS_row hy) (allS kit.length).length 0 [] (by omega)
  · simp only [h, false_and, if_false, Bool.false_eq_true]
    refine Ev.step (fun k => by rw [spec_HowToWeigh.j0]) ?_
    simp only [if_true]
    exact Ev.now _
theorem FnExactHowToWeigh : laws_FnExactHowToWeigh.Pure := by
  intro l n hl _ _ _
  refine Ev.rounds ?_
  unfold laws_FnExactHowToWeigh.f
  by_cases h : (l.length : Int) > 1048576
  · simp only [if_pos h]; exact Ev.now _
  · simp only [if_neg h]
    have hl : l.length ≤ 1048576 := by omega
    have ht := toIntS_ev l hl
    have hi := implHow_ev l n hl
    have hlen := HowR_len l n
    have hes := eqIntS_self (HowR l n).1 (by omega)
    refine Ev.bind ht (Ev.bind (specHow_ev l n hl) (Ev.bind ht (Ev.bind hi (Ev.bind hes ?_))))
    simp only [if_true, bne_self_eq_false]
    refine Ev.step (fun k => by rw [laws_FnExactHowToWeigh.j0]) ?_
    simp only [Bool.false_eq_true, if_false]
    refine Ev.bind ht (Ev.bind (eqIntS_self l (by omega)) ?_)
    simp only [if_true]
    refine Ev.bind (markIntS_ev l hl 1 (by omega) (by omega)) ?_
    simp only [if_neg (show ¬ (1 : Int) + (l.length : Int) < 0 by omega)]
    refine Ev.bind hes ?_
    simp only [if_true, bne_self_eq_false]
    refine Ev.step (fun k => by rw [laws_FnExactHowToWeigh.j1]) ?_
    simp only [Bool.false_eq_true, if_false]
    have hheld := heldIntS_ev (HowR l n).1.length (by omega) 1 (by omega) (by omega)
    refine Ev.bind (markIntS_ev _ (by omega) 1 (by omega) (by omega)) (Ev.bind hheld ?_)
    simp only [if_neg (show ¬ (1 : Int) + ((HowR l n).1.length : Int) < 0 by omega), if_true]
    refine Ev.bind ht (Ev.bind hi (Ev.bind hes ?_))
    simp only [if_true, bne_self_eq_false]
    refine Ev.step (fun k => by rw [laws_FnExactHowToWeigh.j2]) ?_
    simp only [Bool.false_eq_true, if_false]
    refine Ev.bind hheld ?_
    simp only [if_neg (show ¬ (1 : Int) + ((HowR l n).1.length : Int) < 0 by omega), if_true]
    exact Ev.now _


end Go.Proofs.Ytjhoejdjhboadaa.Pure

