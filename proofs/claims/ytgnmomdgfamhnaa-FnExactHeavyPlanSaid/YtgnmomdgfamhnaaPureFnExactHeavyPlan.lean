/- The plain law: HeavyPlan answers as the model does, and its rows are its own. -/
import Derived.Test.YtgnmomdgfamhnaaPFnExactHeavyPlanx6
import Derived.Test.YtgnmomdgfamhnaaLib
set_option linter.unusedVariables false
set_option linter.unusedSimpArgs false
namespace Go.Proofs.Ytgnmomdgfamhnaa.Pure
open Go.RowKit Go.Proofs.Ytgnmomdgfamhnaa.PFnExactHeavyPlan Go.Proofs.YtgnmomdgfamhnaaW.PrintWords Go.Proofs.YtgnmomdgfamhnaaW.PrintLast Go.Proofs.Ytgnmomdgfamhnaa.Lib

theorem l1In_eq (a b c : Int) : spec_l1In.f a b c = some (decide (b ≤ a ∧ a ≤ c)) := by
  unfold spec_l1In.f
  by_cases h : a ≥ b
  · rw [if_pos h]
    congr 1
    simp only [decide_eq_decide]
    omega
  · rw [if_neg h]
    congr 1
    simp only [Bool.false_eq, decide_eq_false_iff_not]
    omega

theorem within_eq (a b c : Int) : impl_within.f a b c = some (decide (b ≤ a ∧ a ≤ c)) := by
  unfold impl_within.f
  by_cases h : a ≥ b
  · rw [if_pos h]
    congr 1
    simp only [decide_eq_decide]
    omega
  · rw [if_neg h]
    congr 1
    simp only [Bool.false_eq, decide_eq_false_iff_not]
    omega

theorem eqIntS_ev (a b : List Int) (ha : a.length ≤ 9223372036854775806) : Ev (fun k => laws_eqIntS.f k a b) (decide (a = b)) := by
  unfold laws_eqIntS.f
  by_cases hl : (a.length : Int) = (b.length : Int)
  · simp only [if_pos hl]
    have h := Ev.count' (l := fun k i => laws_eqIntS.l0 k a b i) (n := a.length) (P := fun i => rd a i = rd b i) (a := true) (b := false) (by omega)
      (fun i h0 h1 hp r h => by
        refine Ev.step (fun k => by rw [laws_eqIntS.l0]) ?_
        simp only [if_pos h0, if_pos h1, if_pos (show i < (b.length : Int) by omega), if_pos hp, w64 (show -9223372036854775808 ≤ i + 1 by omega) (by omega)]
        exact h)
      (fun i h0 h1 hp => by
        refine Ev.step (fun k => by rw [laws_eqIntS.l0]) ?_
        simp only [if_pos h0, if_pos h1, if_pos (show i < (b.length : Int) by omega), if_neg hp]
        exact Ev.now _)
      (fun i h0 h1 => by
        refine Ev.step (fun k => by rw [laws_eqIntS.l0]) ?_
        simp only [if_neg (show ¬ i < (a.length : Int) by omega)]
        exact Ev.now _)
    refine Ev.as h ?_
    split
    · rename_i hc
      exact (decide_eq_true (rd_ext (by omega) fun i h0 h1 => hc i h0 h1)).symm
    · rename_i hc
      exact (decide_eq_false fun e => hc fun i h0 h1 => by rw [e]).symm
  · simp only [if_neg hl]
    exact Ev.some (decide_eq_false fun e => hl (by rw [e])).symm
theorem eqIntS_self (a : List Int) (ha : a.length ≤ 9223372036854775806) : Ev (fun k => laws_eqIntS.f k a a) true :=
  Ev.as (eqIntS_ev a a ha) (decide_eq_true rfl)

theorem eqIntSS_ev (a b : List (List Int)) (ha : a.length ≤ 9223372036854775806) (hw : ∀ x ∈ a, x.length ≤ 9223372036854775806) : Ev (fun k => laws_eqIntSS.f k a b) (decide (a = b)) := by
  unfold laws_eqIntSS.f
  by_cases hl : (a.length : Int) = (b.length : Int)
  · simp only [if_pos hl]
    have mem : ∀ i : Int, 0 ≤ i → i < (a.length : Int) → (rd_L1 a i).length ≤ 9223372036854775806 := fun i h0 h1 => hw _ (by
      unfold rd_L1
      rw [getD_lt _ (by omega)]
      exact List.getElem_mem _)
    have h := Ev.count' (l := fun k i => laws_eqIntSS.l0 k a b i) (n := a.length) (P := fun i => rd_L1 a i = rd_L1 b i) (a := true) (b := false) (by omega)
      (fun i h0 h1 hp r h => by
        refine Ev.step (fun k => by rw [laws_eqIntSS.l0]) ?_
        simp only [if_pos h0, if_pos h1, if_pos (show i < (b.length : Int) by omega)]
        refine Ev.bind (eqIntS_ev _ _ (mem i h0 h1)) ?_
        simp only [decide_eq_true hp, if_true, w64 (show -9223372036854775808 ≤ i + 1 by omega) (by omega)]
        exact h)
      (fun i h0 h1 hp => by
        refine Ev.step (fun k => by rw [laws_eqIntSS.l0]) ?_
        simp only [if_pos h0, if_pos h1, if_pos (show i < (b.length : Int) by omega)]
        refine Ev.bind (eqIntS_ev _ _ (mem i h0 h1)) ?_
        simp only [decide_eq_false hp, Bool.false_eq_true, if_false]
        exact Ev.now _)
      (fun i h0 h1 => by
        refine Ev.step (fun k => by rw [laws_eqIntSS.l0]) ?_
        simp only [if_neg (show ¬ i < (a.length : Int) by omega)]
        exact Ev.now _)
    refine Ev.as h ?_
    split
    · rename_i hc
      exact (decide_eq_true (getD_ext [] (by omega) fun i hi => by
        have := hc i (by omega) (by omega)
        unfold rd_L1 at this
        rwa [Int.toNat_natCast] at this)).symm
    · rename_i hc
      exact (decide_eq_false fun e => hc fun i h0 h1 => by rw [e]).symm
  · simp only [if_neg hl]
    exact Ev.some (decide_eq_false fun e => hl (by rw [e])).symm
theorem eqIntSS_self (a : List (List Int)) (ha : a.length ≤ 9223372036854775806) (hw : ∀ x ∈ a, x.length ≤ 9223372036854775806) : Ev (fun k => laws_eqIntSS.f k a a) true :=
  Ev.as (eqIntSS_ev a a ha hw) (decide_eq_true rfl)

theorem markIntS_ev (l : List Int) (hl : l.length ≤ 1048576) (m : Int) (hm : 0 ≤ m) (hm2 : m ≤ 4611686018427387904) : Ev (fun k => laws_markIntS.f k l m) (m + l.length, marks m l.length) := by
  unfold laws_markIntS.f
  have h := Ev.fold (l := fun k (s : List Int × Int) i => laws_markIntS.l0 k s.1 s.2 i) (n := l.length) (fun i => (marks m i.toNat ++ l.drop i.toNat, m + i)) (a := (m + l.length, marks m l.length))
    (fun i h0 h1 r h => by
      refine Ev.step (fun k => by rw [laws_markIntS.l0]) ?_
      have hx : i < ((marks m i.toNat ++ l.drop i.toNat).length : Int) := by
        rw [List.length_append, marks_length, List.length_drop]; omega
      simp only [if_pos h0, if_pos hx, w64 (show -9223372036854775808 ≤ i + 1 by omega) (by omega), w64 (show -9223372036854775808 ≤ m + i + 1 by omega) (by omega)]
      rw [List.set_append_right _ _ (by rw [marks_length]; omega), marks_length, Nat.sub_self]
      have e : l.drop i.toNat = l[i.toNat]'(by omega) :: l.drop (i + 1).toNat := by
        rw [toNat_succ h0]; exact List.drop_eq_getElem_cons (by omega)
      rw [e, List.set_cons_zero]
      have e2 : marks m (i + 1).toNat = marks m i.toNat ++ [m + i] := by
        rw [toNat_succ h0]; unfold marks; rw [List.range_succ, List.map_append]; simp; omega
      simp only [e2, List.append_assoc, List.singleton_append, ← Int.add_assoc] at h
      exact h)
    (by
      refine Ev.step (fun k => by rw [laws_markIntS.l0]) ?_
      have hx : ¬ (l.length : Int) < ((marks m (l.length : Int).toNat ++ l.drop (l.length : Int).toNat).length : Int) := by
        rw [List.length_append, marks_length, List.length_drop]; omega
      simp only [if_neg hx]
      exact Ev.some (by simp))
    l.length 0 (by omega) (by omega)
  simpa [marks] using h
theorem heldIntS_ev (n : Nat) (hn : n ≤ 1048576) (m : Int) (hm : 0 ≤ m) (hm2 : m ≤ 4611686018427387904) : Ev (fun k => laws_heldIntS.f k (marks m n) m) (m + n) := by
  unfold laws_heldIntS.f
  have h := Ev.fold (l := fun k (s : Int) i => laws_heldIntS.l0 k (marks m n) s i) (n := n) (fun i => m + i) (a := m + n)
    (fun i h0 h1 r h => by
      refine Ev.step (fun k => by rw [laws_heldIntS.l0]) ?_
      simp only [if_pos h0, marks_length, if_pos h1, if_pos (rd_marks m n i h0 h1), w64 (show -9223372036854775808 ≤ i + 1 by omega) (by omega), w64 (show -9223372036854775808 ≤ m + i + 1 by omega) (by omega)]
      simp only [← Int.add_assoc] at h
      exact h)
    (by
      refine Ev.step (fun k => by rw [laws_heldIntS.l0]) ?_
      simp only [marks_length, if_neg (show ¬ (n : Int) < (n : Int) by omega)]
      exact Ev.now _)
    n 0 (by omega) (by omega)
  simpa using h

/-- All lists of signs from low on, in their order. -/
def allL (low : Int) : Nat → List (List Int)
  | 0 => [[]]
  | n + 1 => (impl_eachSigns.upto low).flatMap fun g => (allL low n).map (g :: ·)
def dotW : List Int → List Int → Int
  | x :: kit, g :: y => g * x + dotW kit y
  | _, _ => 0
theorem upto_mem {low g : Int} (h : g ∈ impl_eachSigns.upto low) : -1 ≤ g ∧ g ≤ 1 := by
  unfold impl_eachSigns.upto at h
  split at h
  · simp at h; omega
  · split at h
    · simp at h; omega
    · split at h
      · simp at h; omega
      · simp at h
theorem allL_mem {low : Int} : ∀ {n : Nat} {y : List Int}, y ∈ allL low n → y.length = n ∧ ∀ g ∈ y, -1 ≤ g ∧ g ≤ 1
  | 0, y, h => by
    simp [allL] at h
    subst h
    simp
  | n + 1, y, h => by
    simp only [allL, List.mem_flatMap, List.mem_map] at h
    obtain ⟨g, hg, y2, hy, rfl⟩ := h
    obtain ⟨h1, h2⟩ := allL_mem hy
    refine ⟨by simp [h1], fun z hz => ?_⟩
    rcases List.mem_cons.1 hz with rfl | hz
    · exact upto_mem hg
    · exact h2 z hz
theorem foldlM_flat {σ : Type} (tf : σ → List Int → Int → Option σ) (low : Int) (rest pre : List Int) (sum x : Int) (n : Nat)
    (hG : ∀ g, -1 ≤ g → g ≤ 1 → ∀ s, impl_eachSigns.eachG tf low rest (pre ++ [g]) (wrap64 (sum + wrap64 (g * x))) s = (allL low n).foldlM (fun s y => tf s (pre ++ g :: y) (sum + dotW (x :: rest) (g :: y))) s) :
    ∀ (L : List Int), (∀ g ∈ L, -1 ≤ g ∧ g ≤ 1) → ∀ s, L.foldlM (fun s g => impl_eachSigns.eachG tf low rest (pre ++ [g]) (wrap64 (sum + wrap64 (g * x))) s) s = (L.flatMap fun g => (allL low n).map (g :: ·)).foldlM (fun s y => tf s (pre ++ y) (sum + dotW (x :: rest) y)) s
  | [], _, s => rfl
  | g :: L, hL, s => by
    rw [List.foldlM_cons, List.flatMap_cons, List.foldlM_append, List.foldlM_map, hG g (hL g (List.mem_cons_self)).1 (hL g (List.mem_cons_self)).2 s]
    congr 1
    funext s2
    exact foldlM_flat tf low rest pre sum x n hG L (fun z hz => hL z (List.mem_cons_of_mem _ hz)) s2
theorem eachG_foldM {σ : Type} (tf : σ → List Int → Int → Option σ) (low : Int) (kit : List Int) : ∀ (pre : List Int) (sum : Int) (s : σ), (∀ x ∈ kit, 0 ≤ x ∧ x ≤ 99) → -1000000 + 99 * (kit.length : Int) ≤ sum → sum ≤ 1000000 - 99 * (kit.length : Int) →
    impl_eachSigns.eachG tf low kit pre sum s = (allL low kit.length).foldlM (fun s y => tf s (pre ++ y) (sum + dotW kit y)) s := by
  induction kit with
  | nil =>
    intro pre sum s _ _ _
    simp only [impl_eachSigns.eachG, allL, List.length_nil, List.foldlM_cons, List.foldlM_nil, List.append_nil, dotW, Int.add_zero]
    cases tf s pre sum <;> rfl
  | cons x kit ih =>
    intro pre sum s hk h0 h1
    rw [List.length_cons] at h0 h1
    have hx := hk x (List.mem_cons_self)
    have hk2 : ∀ z ∈ kit, 0 ≤ z ∧ z ≤ 99 := fun z hz => hk z (List.mem_cons_of_mem _ hz)
    rw [impl_eachSigns.eachG, List.length_cons, allL]
    refine foldlM_flat tf low kit pre sum x kit.length (fun g g0 g1 s => ?_) _ (fun g hg => upto_mem hg) s
    have hgx : -99 ≤ g * x ∧ g * x ≤ 99 := by
      rcases (show g = -1 ∨ g = 0 ∨ g = 1 by omega) with rfl | rfl | rfl <;> omega
    rw [w64 (show -9223372036854775808 ≤ g * x by omega) (by omega), w64 (show -9223372036854775808 ≤ sum + g * x by omega) (by omega)]
    rw [ih (pre ++ [g]) (sum + g * x) s hk2 (by omega) (by omega)]
    congr 1
    funext s2 y
    rw [List.append_assoc, List.singleton_append]
    congr 1
    show sum + g * x + dotW kit y = sum + (g * x + dotW kit y)
    omega

def ext3 (x : List Int) : List (List Int) := [x ++ [-1], x ++ [0], x ++ [1]]
def allS : Nat → List (List Int)
  | 0 => [[]]
  | n + 1 => (allS n).flatMap ext3
theorem allL_ext : ∀ n, allL (-1) (n + 1) = (allL (-1) n).flatMap ext3
  | 0 => rfl
  | n + 1 => by
    have ih := allL_ext n
    show ((impl_eachSigns.upto (-1)).flatMap fun g => (allL (-1) (n + 1)).map (g :: ·)) = ((impl_eachSigns.upto (-1)).flatMap fun g => (allL (-1) n).map (g :: ·)).flatMap ext3
    rw [List.flatMap_assoc]
    congr 1
    funext g
    rw [ih, List.map_flatMap, List.flatMap_map]
    rfl
theorem allS_eq : ∀ n, allS n = allL (-1) n
  | 0 => rfl
  | n + 1 => by rw [allS, allS_eq n, allL_ext]
theorem allS_len : ∀ n, (allS n).length = 3 ^ n
  | 0 => rfl
  | n + 1 => by
    have : ∀ l : List (List Int), (l.flatMap ext3).length = 3 * l.length := by
      intro l
      induction l with
      | nil => rfl
      | cons a l ih => rw [List.flatMap_cons, List.length_append, ih, List.length_cons, ext3]; simp; omega
    rw [allS, this, allS_len n, Nat.pow_succ, Nat.mul_comm]
theorem allS_row {n : Nat} {y : List Int} (h : y ∈ allS n) : y.length = n ∧ ∀ g ∈ y, -1 ≤ g ∧ g ≤ 1 := allL_mem (allS_eq n ▸ h)
theorem l1Own_eq (l : List Int) (h : l.length < 17592186044416) : spec_l1Own.f l = some l := by
  unfold spec_l1Own.f
  simp only [Option.bind_some, List.length_nil, Nat.zero_add, if_pos h, List.nil_append]
theorem l3All_row (n i : Int) (X : List (List Int)) (hX : X.length ≤ 729) (hr : ∀ x ∈ X, x.length ≤ 6) (hn : n ≤ 6) (hi : 0 ≤ i) (hi2 : i < n) {r : List (List Int)} : ∀ (d j : Nat) (o : List (List Int)), j + d = X.length → o.length = 3 * j →
    Ev (fun k => spec_l3All.l0 k n (o ++ (X.drop j).flatMap ext3) (i + 1)) r → Ev (fun k => spec_l3All.l1 k n X i o (j : Int)) r := by
  intro d
  induction d with
  | zero =>
    intro j o h ho h2
    refine Ev.step (fun k => by rw [spec_l3All.l1]) ?_
    simp only [if_neg (show ¬ (j : Int) < (X.length : Int) by omega), w64 (show -9223372036854775808 ≤ i + 1 by omega) (by omega)]
    rw [List.drop_eq_nil_of_le (by omega), List.flatMap_nil, List.append_nil] at h2
    exact h2
  | succ d ih =>
    intro j o h ho h2
    have hj : j < X.length := by omega
    have hrow : (X[j]).length ≤ 6 := hr _ (List.getElem_mem hj)
    have er : rd_L1 X (j : Int) = X[j] := by
      unfold rd_L1
      rw [Int.toNat_natCast]
      exact getD_lt _ hj
    have c1 : (j : Int) < (X.length : Int) := by omega
    have ew : wrap64 ((j : Int) + 1) = ((j + 1 : Nat) : Int) := by rw [w64 (by omega) (by omega)]; omega
    refine Ev.step (fun k => by rw [spec_l3All.l1]) ?_
    simp only [if_pos c1]
    have one : ∀ (g : Int) (o2 : List (List Int)), -1 ≤ g → g ≤ 1 → o2.length ≤ 3000 → Ev (fun k => spec_l3All.l2 k n X i (o2 ++ [X[j] ++ [g]]) (j : Int) (g + 1)) r → Ev (fun k => spec_l3All.l2 k n X i o2 (j : Int) g) r := by
      intro g o2 g0 g1 h2 h3
      refine Ev.step (fun k => by rw [spec_l3All.l2]) ?_
      simp only [if_pos g1, if_pos (show 0 ≤ (j : Int) by omega), if_pos c1, er, l1Own_eq (X[j]) (by omega), Option.bind_some, if_pos (show (X[j]).length < 17592186044416 by omega), if_pos (show o2.length < 5864062014805 by omega), w64 (show -9223372036854775808 ≤ g + 1 by omega) (by omega)]
      exact h3
    refine one (-1) o (by omega) (by omega) (by omega) ?_
    refine one 0 _ (by omega) (by omega) (by rw [List.length_append, List.length_singleton]; omega) ?_
    refine one 1 _ (by omega) (by omega) (by simp only [List.length_append, List.length_singleton]; omega) ?_
    refine Ev.step (fun k => by rw [spec_l3All.l2]) ?_
    simp only [if_neg (show ¬ ((1 : Int) + 1) ≤ 1 by omega), ew]
    refine ih (j + 1) _ (by omega) (by simp only [List.length_append, List.length_singleton]; omega) ?_
    rw [List.drop_eq_getElem_cons hj, List.flatMap_cons] at h2
    have e : o ++ [X[j] ++ [-1]] ++ [X[j] ++ [0]] ++ [X[j] ++ [1]] ++ (X.drop (j + 1)).flatMap ext3 = o ++ (ext3 X[j] ++ (X.drop (j + 1)).flatMap ext3) := by
      unfold ext3
      simp only [List.append_assoc, List.singleton_append, List.cons_append, List.nil_append]
    rw [e]
    exact h2
theorem l3All_ev (n : Nat) (hn : n ≤ 6) : Ev (fun k => spec_l3All.f k (n : Int)) (allS n) := by
  unfold spec_l3All.f
  have hp : ∀ m : Nat, m ≤ 6 → (3 : Nat) ^ m ≤ 729 := by
    intro m hm
    exact Nat.pow_le_pow_right (by omega) hm
  exact Ev.fold (l := fun k o i => spec_l3All.l0 k (n : Int) o i) (n := (n : Int)) (fun i => allS i.toNat) (a := allS n)
    (fun i h0 h1 r h => by
      refine Ev.step (fun k => by rw [spec_l3All.l0]) ?_
      simp only [if_pos h1]
      refine l3All_row (n : Int) i _ (by rw [allS_len]; exact hp i.toNat (by omega)) (fun x hx => by rw [(allS_row (n := i.toNat) hx).1]; omega) (by omega) h0 h1 (allS i.toNat).length 0 [] (by omega) rfl ?_
      rw [List.drop_zero, List.nil_append]
      rw [toNat_succ h0, allS] at h
      exact h)
    (by
      refine Ev.step (fun k => by rw [spec_l3All.l0]) ?_
      simp only [if_neg (show ¬ (n : Int) < (n : Int) by omega)]
      exact Ev.some (by simp))
    n 0 (by omega) (by omega)

/-- The signs turned over. -/
def turnW (x : List Int) : List Int := x.map fun s => wrap64 (-s)
def addC (codes : List (List Int)) (x : List Int) : List (List Int) := if impl_HeavyPlan.lead x > 0 then codes ++ [x, turnW x] else codes
def allC (n : Int) (m : Nat) : List (List Int) := (allS m).foldl addC (impl_HeavyPlan.start n m)
def need : Nat → Int → Int → Int → Int
  | 0, _, x, _ => x
  | d + 1, n, x, p => if p < n then need d n (x + 1) (p * 3) else x
def needN (n : Int) : Nat := (need 40 n 0 1).toNat
/-- The plan itself. -/
def planH (n : Int) : List (List Int) := impl_HeavyPlan.lines (allC n (needN n)) n.toNat (needN n)
def HeavyR (n : Int) : List (List Int) × Bool := if 2 ≤ n ∧ n ≤ 40 then (planH n, true) else ([], false)
set_option maxRecDepth 100000 in
theorem need_closed0 : ∀ N : Fin 41, 2 ≤ N.val → (0 ≤ need 40 (N.val : Int) 0 1 ∧ 1 ≤ needN (N.val : Int) ∧ needN (N.val : Int) ≤ 4 ∧ N.val ≤ (allC (N.val : Int) (needN (N.val : Int))).length) := by decide +kernel
theorem need_closed {n : Int} (h : 2 ≤ n ∧ n ≤ 40) : need 40 n 0 1 = (needN n : Int) ∧ 1 ≤ needN n ∧ needN n ≤ 4 ∧ n.toNat ≤ (allC n (needN n)).length := by
  obtain ⟨N, rfl⟩ := Int.eq_ofNat_of_zero_le (show 0 ≤ n by omega)
  have z := need_closed0 ⟨N, by omega⟩ (by simp only; omega)
  simp only at z
  refine ⟨?_, z.2.1, z.2.2.1, z.2.2.2⟩
  unfold needN
  omega
theorem needH_ev : ∀ (d : Nat) (n x p : Int), 1 ≤ p → n ≤ 40 → 0 ≤ x → x + d ≤ 100 → n ≤ p + d → Ev (fun k => spec_l3Needed.l0 k n x p) (need d n x p) ∧ Ev (fun k => impl_WeighingsNeeded.l0 k n x p) (need d n x p, true)
  | 0, n, x, p, hp, hn, hx, hx2, hd => by
    refine ⟨Ev.step (fun k => by rw [spec_l3Needed.l0]) ?_, Ev.step (fun k => by rw [impl_WeighingsNeeded.l0]) ?_⟩
    · simp only [if_neg (show ¬ p < n by omega)]; exact Ev.now _
    · simp only [if_neg (show ¬ p < n by omega)]; exact Ev.now _
  | d + 1, n, x, p, hp, hn, hx, hx2, hd => by
    by_cases h : p < n
    · obtain ⟨h1, h2⟩ := needH_ev d n (x + 1) (p * 3) (by omega) hn (by omega) (by omega) (by omega)
      rw [need, if_pos h]
      refine ⟨Ev.step (fun k => by rw [spec_l3Needed.l0]) ?_, Ev.step (fun k => by rw [impl_WeighingsNeeded.l0]) ?_⟩
      · simp only [if_pos h, w64 (show -9223372036854775808 ≤ x + 1 by omega) (by omega), w64 (show -9223372036854775808 ≤ 3 * p by omega) (by omega)]
        rw [Int.mul_comm 3 p]
        exact h1
      · simp only [if_pos h, w64 (show -9223372036854775808 ≤ x + 1 by omega) (by omega), w64 (show -9223372036854775808 ≤ p * 3 by omega) (by omega)]
        exact h2
    · rw [need, if_neg h]
      refine ⟨Ev.step (fun k => by rw [spec_l3Needed.l0]) ?_, Ev.step (fun k => by rw [impl_WeighingsNeeded.l0]) ?_⟩
      · simp only [if_neg h]; exact Ev.now _
      · simp only [if_neg h]; exact Ev.now _
theorem fold_rows {m : Nat} : ∀ (L c : List (List Int)), (∀ y ∈ L, y.length = m) → (∀ y ∈ c, y.length = m) → ∀ y ∈ L.foldl addC c, y.length = m
  | [], c, _, hc => hc
  | x :: L, c, hL, hc => by
    rw [List.foldl_cons]
    refine fold_rows L _ (fun z hz => hL z (List.mem_cons_of_mem _ hz)) ?_
    have hx := hL x (List.mem_cons_self)
    unfold addC
    split
    · intro y hy
      rcases List.mem_append.1 hy with h | h
      · exact hc y h
      · rcases List.mem_cons.1 h with rfl | h
        · exact hx
        · rw [List.mem_singleton.1 h]
          unfold turnW
          rw [List.length_map]
          exact hx
    · exact hc
theorem fold_len : ∀ (L c : List (List Int)), (L.foldl addC c).length ≤ c.length + 2 * L.length
  | [], c => by rw [List.foldl_nil, List.length_nil]; omega
  | x :: L, c => by
    rw [List.foldl_cons, List.length_cons]
    have h := fold_len L (addC c x)
    have h2 : (addC c x).length ≤ c.length + 2 := by
      unfold addC
      split
      · rw [List.length_append]; simp
      · omega
    omega
theorem fold_more : ∀ (L c : List (List Int)), c.length + 2 * L.length < 1000000 → L.foldlM (fun s y => impl_HeavyPlan.more s y) c = some (L.foldl addC c)
  | [], c, _ => rfl
  | x :: L, c, h => by
    rw [List.length_cons] at h
    rw [List.foldlM_cons, List.foldl_cons]
    have e : impl_HeavyPlan.more c x = some (addC c x) := by
      unfold impl_HeavyPlan.more addC turnW
      split
      · rw [if_pos (by omega)]
      · rfl
    have h2 : (addC c x).length ≤ c.length + 2 := by
      unfold addC
      split
      · rw [List.length_append]; simp
      · omega
    rw [e]
    exact fold_more L _ (by omega)
theorem fold_ext : ∀ (L c : List (List Int)), ∃ t, L.foldl addC c = c ++ t
  | [], c => ⟨[], by rw [List.foldl_nil, List.append_nil]⟩
  | x :: L, c => by
    rw [List.foldl_cons]
    obtain ⟨t, ht⟩ := fold_ext L (addC c x)
    rw [ht]
    unfold addC
    split
    · exact ⟨[x, turnW x] ++ t, by rw [List.append_assoc]⟩
    · exact ⟨t, rfl⟩
theorem start_rows (n : Int) (m : Nat) : (impl_HeavyPlan.start n m).length ≤ 1 ∧ ∀ y ∈ impl_HeavyPlan.start n m, y.length = m := by
  unfold impl_HeavyPlan.start
  split
  · refine ⟨by simp, fun y hy => ?_⟩
    rw [List.mem_singleton.1 hy, List.length_replicate]
  · exact ⟨by simp, fun y hy => by cases hy⟩
theorem allC_at {n : Int} (h : 2 ≤ n ∧ n ≤ 40) : (allC n (needN n)).length ≤ 163 ∧ ∀ y ∈ allC n (needN n), y.length = needN n := by
  obtain ⟨_, h1, h2, _⟩ := need_closed h
  obtain ⟨s1, s2⟩ := start_rows n (needN n)
  refine ⟨?_, fold_rows _ _ (fun y hy => (allS_row hy).1) s2⟩
  have h3 := fold_len (allS (needN n)) (impl_HeavyPlan.start n (needN n))
  rw [allS_len] at h3
  have h4 : (3 : Nat) ^ needN n ≤ 3 ^ 4 := Nat.pow_le_pow_right (by omega) h2
  unfold allC
  omega
theorem implHeavy_ev (n : Int) : Ev (fun k => impl_HeavyPlan.f k n) (HeavyR n) := by
  unfold impl_HeavyPlan.f impl_WeighingsNeeded.f impl_areCoins.f HeavyR
  simp only [within_eq, Option.bind_some]
  by_cases h : 2 ≤ n ∧ n ≤ 40
  · obtain ⟨h0, h1, h2, h3⟩ := need_closed h
    obtain ⟨l1, l2⟩ := allC_at h
    simp only [h, decide_true, and_self, if_true]
    refine Ev.bind (needH_ev 40 n 0 1 (by omega) (by omega) (by omega) (by omega) (by omega)).2 ?_
    simp only [if_true, h0, if_pos (Int.natCast_nonneg (needN n)), Int.toNat_natCast]
    have e : impl_HeavyPlan.g n (needN n) = some (planH n, true) := by
      unfold impl_HeavyPlan.g planH
      rw [if_pos (by omega), eachG_foldM _ _ _ [] 0 _ (fun x hx => by rw [List.eq_of_mem_replicate hx]; omega) (by rw [List.length_replicate]; omega) (by rw [List.length_replicate]; omega), List.length_replicate, ← allS_eq]
      simp only [List.nil_append]
      rw [fold_more _ _ (by
        have s1 := (start_rows n (needN n)).1
        have h4 : (3 : Nat) ^ needN n ≤ 3 ^ 4 := Nat.pow_le_pow_right (by omega) h2
        rw [allS_len]; omega)]
      rw [Option.bind_some]
      refine if_pos ⟨by omega, ?_, ?_, ?_⟩
      · show n ≤ ((allC n (needN n)).length : Int)
        omega
      · show (allC n (needN n)).length ≤ 1000002
        omega
      · show (((allC n (needN n)).take n.toNat).all fun c => decide (needN n ≤ c.length)) = true
        rw [List.all_eq_true]
        intro c hc
        exact decide_eq_true (Nat.le_of_eq (l2 c (List.mem_of_mem_take hc)).symm)
    rw [e]
    exact Ev.now _
  · simp only [h, decide_false, Bool.false_eq_true, if_false]
    exact Ev.now _
theorem leads_l0 (row : List Int) (hl : row.length ≤ 100) (hs : ∀ g ∈ row, -1 ≤ g ∧ g ≤ 1) : ∀ (d j : Nat), j + d = row.length → Ev (fun k => spec_l3Leads.l0 k row (j : Int)) (decide (impl_HeavyPlan.lead (row.drop j) > 0)) := by
  intro d
  induction d with
  | zero =>
    intro j h
    refine Ev.step (fun k => by rw [spec_l3Leads.l0]) ?_
    simp only [if_neg (show ¬ (j : Int) < (row.length : Int) by omega)]
    rw [List.drop_eq_nil_of_le (by omega)]
    exact Ev.some rfl
  | succ d ih =>
    intro j h
    have hj : j < row.length := by omega
    have hz := hs _ (List.getElem_mem hj)
    have e1 : rd row (j : Int) = row[j] := by
      unfold rd
      rw [Int.toNat_natCast]
      exact getD_lt _ hj
    have ew : wrap64 ((j : Int) + 1) = ((j + 1 : Nat) : Int) := by rw [w64 (by omega) (by omega)]; omega
    refine Ev.step (fun k => by rw [spec_l3Leads.l0]) ?_
    simp only [if_pos (show (j : Int) < (row.length : Int) by omega), if_pos (show 0 ≤ (j : Int) by omega), e1, ew]
    rw [List.drop_eq_getElem_cons hj, impl_HeavyPlan.lead]
    by_cases c : row[j] = 0
    · simp only [if_pos c]
      exact ih (j + 1) (by omega)
    · simp only [if_neg c]
      refine Ev.some ?_
      rcases (show row[j] = -1 ∨ row[j] = 1 by omega) with e | e <;> rw [e] <;> decide
theorem leads_ev (row : List Int) (hl : row.length ≤ 100) (hs : ∀ g ∈ row, -1 ≤ g ∧ g ≤ 1) : Ev (fun k => spec_l3Leads.f k row) (decide (impl_HeavyPlan.lead row > 0)) := by
  unfold spec_l3Leads.f
  exact leads_l0 row hl hs row.length 0 (by omega)
theorem turned_ev (row : List Int) (hl : row.length ≤ 100) : Ev (fun k => spec_l3Turned.f k row) (turnW row) := by
  unfold spec_l3Turned.f turnW
  have key : ∀ (d j : Nat), j + d = row.length → Ev (fun k => spec_l3Turned.l0 k row ((row.take j).map fun s => wrap64 (-s)) (j : Int)) (row.map fun s => wrap64 (-s)) := by
    intro d
    induction d with
    | zero =>
      intro j h
      refine Ev.step (fun k => by rw [spec_l3Turned.l0]) ?_
      simp only [if_neg (show ¬ (j : Int) < (row.length : Int) by omega)]
      rw [List.take_of_length_le (by omega)]
      exact Ev.now _
    | succ d ih =>
      intro j h
      have hj : j < row.length := by omega
      have e1 : rd row (j : Int) = row[j] := by
        unfold rd
        rw [Int.toNat_natCast]
        exact getD_lt _ hj
      have ew : wrap64 ((j : Int) + 1) = ((j + 1 : Nat) : Int) := by rw [w64 (by omega) (by omega)]; omega
      have hlen : ((row.take j).map fun s => wrap64 (-s)).length < 17592186044416 := by
        rw [List.length_map, List.length_take]; omega
      have hk := ih (j + 1) (by omega)
      rw [List.take_add_one, List.getElem?_eq_getElem hj, List.map_append] at hk
      refine Ev.step (fun k => by rw [spec_l3Turned.l0]) ?_
      simp only [if_pos (show (j : Int) < (row.length : Int) by omega), if_pos (show 0 ≤ (j : Int) by omega), e1, ew, if_pos hlen]
      exact hk
  exact key row.length 0 (by omega)
theorem linesH_len (codes : List (List Int)) (n : Nat) : ∀ j, (impl_HeavyPlan.lines codes n j).length = j
  | 0 => rfl
  | j + 1 => by rw [impl_HeavyPlan.lines, List.length_append, linesH_len codes n j]; rfl
theorem lines_l2 {cf : List (List Int)} {m : Nat} (N : Nat) (hN : N ≤ 40) (hc : N ≤ cf.length) (hr : ∀ y ∈ cf, y.length = m) (hm : m ≤ 4) (j : Nat) (hj : j < m) {o : List (List Int)} (ho : o.length ≤ 100) {r : List (List Int) × Bool} : ∀ (d i : Nat), i + d = N →
    Ev (fun k => spec_HeavyPlan.l1 k (N : Int) (m : Int) cf (o ++ [impl_HeavyPlan.line cf N (j : Int)]) ((j + 1 : Nat) : Int)) r → Ev (fun k => spec_HeavyPlan.l2 k (N : Int) (m : Int) cf o (j : Int) (impl_HeavyPlan.line cf i (j : Int)) (i : Int)) r := by
  intro d
  induction d with
  | zero =>
    intro i h h2
    have ew : wrap64 ((j : Int) + 1) = ((j + 1 : Nat) : Int) := by rw [w64 (by omega) (by omega)]; omega
    refine Ev.step (fun k => by rw [spec_HeavyPlan.l2]) ?_
    simp only [if_neg (show ¬ (i : Int) < (N : Int) by omega), if_pos (show o.length < 5864062014805 by omega), ew]
    rw [show i = N by omega]
    exact h2
  | succ d ih =>
    intro i h h2
    have hi : i < cf.length := by omega
    have er : rd_L1 cf (i : Int) = cf[i] := by
      unfold rd_L1
      rw [Int.toNat_natCast]
      exact getD_lt _ hi
    have el := hr _ (List.getElem_mem hi)
    have ew : wrap64 ((i : Int) + 1) = ((i + 1 : Nat) : Int) := by rw [w64 (by omega) (by omega)]; omega
    have hlen : (impl_HeavyPlan.line cf i (j : Int)).length < 17592186044416 := by
      unfold impl_HeavyPlan.line
      rw [List.length_map, List.length_take]; omega
    have hn : impl_HeavyPlan.line cf (i + 1) (j : Int) = impl_HeavyPlan.line cf i (j : Int) ++ [rd cf[i] (j : Int)] := by
      unfold impl_HeavyPlan.line
      rw [List.take_add_one, List.getElem?_eq_getElem hi, List.map_append]
      rfl
    have hk := ih (i + 1) (by omega) h2
    rw [hn] at hk
    refine Ev.step (fun k => by rw [spec_HeavyPlan.l2]) ?_
    simp only [if_pos (show (i : Int) < (N : Int) by omega), if_pos (show 0 ≤ (i : Int) by omega), if_pos (show (i : Int) < (cf.length : Int) by omega), if_pos (show 0 ≤ (j : Int) by omega), er, if_pos (show (j : Int) < ((cf[i]).length : Int) by omega), if_pos hlen, ew]
    exact hk
theorem lines_l1 {cf : List (List Int)} {m : Nat} (N : Nat) (hN : N ≤ 40) (hc : N ≤ cf.length) (hr : ∀ y ∈ cf, y.length = m) (hm : m ≤ 4) : ∀ (d j : Nat), j + d = m →
    Ev (fun k => spec_HeavyPlan.l1 k (N : Int) (m : Int) cf (impl_HeavyPlan.lines cf N j) (j : Int)) (impl_HeavyPlan.lines cf N m, true) := by
  intro d
  induction d with
  | zero =>
    intro j h
    refine Ev.step (fun k => by rw [spec_HeavyPlan.l1]) ?_
    simp only [if_neg (show ¬ (j : Int) < (m : Int) by omega)]
    rw [show j = m by omega]
    exact Ev.now _
  | succ d ih =>
    intro j h
    refine Ev.step (fun k => by rw [spec_HeavyPlan.l1]) ?_
    simp only [if_pos (show (j : Int) < (m : Int) by omega)]
    exact lines_l2 N hN hc hr hm j (by omega) (by rw [linesH_len]; omega) N 0 (by omega) (ih (j + 1) (by omega))
theorem lines_cut (c t : List (List Int)) (N : Nat) (h : N ≤ c.length) : ∀ j, impl_HeavyPlan.lines (c ++ t) N j = impl_HeavyPlan.lines c N j
  | 0 => rfl
  | j + 1 => by
    rw [impl_HeavyPlan.lines, impl_HeavyPlan.lines, lines_cut c t N h j]
    unfold impl_HeavyPlan.line
    rw [List.take_append_of_le_length h]
theorem specHeavy_l0 (N m : Nat) (hN : N ≤ 40) (hm : m ≤ 4) (L : List (List Int)) (hL : L.length ≤ 729) (hs : ∀ y ∈ L, y.length = m ∧ ∀ g ∈ y, -1 ≤ g ∧ g ≤ 1) : ∀ (d j : Nat) (c : List (List Int)), j + d = L.length → c.length ≤ 1 + 2 * j → (∀ y ∈ c, y.length = m) → N ≤ ((L.drop j).foldl addC c).length →
    Ev (fun k => spec_HeavyPlan.l0 k (N : Int) (m : Int) c L (j : Int)) (impl_HeavyPlan.lines ((L.drop j).foldl addC c) N m, true) := by
  intro d
  induction d with
  | zero =>
    intro j c h hc hr hf
    rw [List.drop_eq_nil_of_le (by omega), List.foldl_nil] at hf ⊢
    refine Ev.step (fun k => by rw [spec_HeavyPlan.l0]) ?_
    simp only [if_neg (show ¬ (j : Int) < (L.length : Int) by omega)]
    refine Ev.step (fun k => by rw [spec_HeavyPlan.j2]) ?_
    simp only [Bool.false_eq_true, if_false]
    exact lines_l1 N hN hf hr hm m 0 (by omega)
  | succ d ih =>
    intro j c h hc hr hf
    have hj : j < L.length := by omega
    have er : rd_L1 L (j : Int) = L[j] := by
      unfold rd_L1
      rw [Int.toNat_natCast]
      exact getD_lt _ hj
    obtain ⟨hy, hg⟩ := hs _ (List.getElem_mem hj)
    have ew : wrap64 ((j : Int) + 1) = ((j + 1 : Nat) : Int) := by rw [w64 (by omega) (by omega)]; omega
    refine Ev.step (fun k => by rw [spec_HeavyPlan.l0]) ?_
    simp only [if_pos (show (j : Int) < (L.length : Int) by omega)]
    refine Ev.step (fun k => by rw [spec_HeavyPlan.j2]) ?_
    by_cases hlt : c.length < N
    · simp only [decide_eq_true (show (c.length : Int) < (N : Int) by omega), if_true, if_pos (show (j : Int) < (L.length : Int) by omega), if_pos (show 0 ≤ (j : Int) by omega), er, ew]
      refine Ev.bind (leads_ev L[j] (by omega) hg) ?_
      rw [List.drop_eq_getElem_cons hj, List.foldl_cons] at hf ⊢
      by_cases hl : impl_HeavyPlan.lead L[j] > 0
      · simp only [decide_eq_true hl, if_true]
        refine Ev.bind (turned_ev L[j] (by omega)) ?_
        have ea : addC c L[j] = c ++ [L[j], turnW L[j]] := by unfold addC; rw [if_pos hl]
        rw [ea] at hf ⊢
        simp only [Option.bind_some, List.length_cons, List.length_nil, if_pos (show c.length + (0 + 1 + 1) < 5864062014805 by omega)]
        refine ih (j + 1) _ (by omega) (by rw [List.length_append]; simp only [List.length_cons, List.length_nil]; omega) (fun y hy2 => ?_) hf
        rcases List.mem_append.1 hy2 with h3 | h3
        · exact hr y h3
        · rcases List.mem_cons.1 h3 with rfl | h3
          · exact hy
          · rw [List.mem_singleton.1 h3]
            unfold turnW
            rw [List.length_map]
            exact hy
      · simp only [decide_eq_false hl, Bool.false_eq_true, if_false]
        have ea : addC c L[j] = c := by unfold addC; rw [if_neg hl]
        rw [ea] at hf ⊢
        exact ih (j + 1) _ (by omega) (by omega) hr hf
    · simp only [decide_eq_false (show ¬ (c.length : Int) < (N : Int) by omega), Bool.false_eq_true, if_false]
      obtain ⟨t, ht⟩ := fold_ext (L.drop j) c
      rw [ht, lines_cut c t N (by omega)]
      exact lines_l1 N hN (by omega) hr hm m 0 (by omega)
theorem specHeavy_ev (n : Int) : Ev (fun k => spec_HeavyPlan.f k n) (HeavyR n) := by
  unfold spec_HeavyPlan.f spec_l3Coins.f HeavyR
  simp only [l1In_eq, Option.bind_some]
  by_cases h : 2 ≤ n ∧ n ≤ 40
  · obtain ⟨h0, h1, h2, h3⟩ := need_closed h
    obtain ⟨s1, s2⟩ := start_rows n (needN n)
    simp only [h, decide_true, and_self, if_true]
    have hn : Ev (fun k => spec_l3Needed.f k n) ((needN n : Nat) : Int) := by
      unfold spec_l3Needed.f
      rw [← h0]
      exact (needH_ev 40 n 0 1 (by omega) (by omega) (by omega) (by omega) (by omega)).1
    refine Ev.bind hn ?_
    have fin : Ev (fun k => spec_HeavyPlan.j0 k n ((needN n : Nat) : Int) (impl_HeavyPlan.start n (needN n))) (planH n, true) := by
      refine Ev.step (fun k => by rw [spec_HeavyPlan.j0]) ?_
      refine Ev.bind (l3All_ev (needN n) (by omega)) ?_
      have h4 : (3 : Nat) ^ needN n ≤ 3 ^ 4 := Nat.pow_le_pow_right (by omega) h2
      have z := specHeavy_l0 n.toNat (needN n) (by omega) h2 (allS (needN n)) (by rw [allS_len]; omega) (fun y hy => allS_row hy) (allS (needN n)).length 0 (impl_HeavyPlan.start n (needN n)) (by omega) (by omega) s2 (by rw [List.drop_zero]; exact h3)
      rw [List.drop_zero, show ((n.toNat : Nat) : Int) = n by omega] at z
      exact z
    unfold impl_HeavyPlan.start at fin
    by_cases c : Int.tmod n 2 = 1
    · rw [if_pos c] at fin
      simp only [if_pos c, if_pos (Int.natCast_nonneg (needN n)), Int.toNat_natCast, if_pos (show needN n ≤ 35184372088832 by omega), Option.bind_some, List.length_nil, List.nil_append, if_pos (show 0 < 5864062014805 by omega)]
      exact fin
    · rw [if_neg c] at fin
      simp only [if_neg c, Option.bind_some]
      exact fin
  · simp only [h, decide_false, Bool.false_eq_true, if_false]
    exact Ev.now _
theorem lines_rows (c : List (List Int)) (N : Nat) : ∀ j, ∀ y ∈ impl_HeavyPlan.lines c N j, y.length ≤ N
  | 0, y, hy => by cases hy
  | j + 1, y, hy => by
    rw [impl_HeavyPlan.lines] at hy
    rcases List.mem_append.1 hy with h | h
    · exact lines_rows c N j y h
    · rw [List.mem_singleton.1 h]
      unfold impl_HeavyPlan.line
      rw [List.length_map, List.length_take]
      omega
theorem HeavyR_at (n : Int) : (HeavyR n).1.length ≤ 4 ∧ ∀ y ∈ (HeavyR n).1, y.length ≤ 40 := by
  unfold HeavyR
  by_cases h : 2 ≤ n ∧ n ≤ 40
  · rw [if_pos h]
    obtain ⟨h0, h1, h2, h3⟩ := need_closed h
    refine ⟨?_, fun y hy => ?_⟩
    · show (planH n).length ≤ 4
      unfold planH
      rw [linesH_len]
      exact h2
    · have := lines_rows _ _ _ y hy
      omega
  · rw [if_neg h]
    exact ⟨by simp, fun y hy => by cases hy⟩

theorem getD_set_self {α : Type} (l : List α) (i : Nat) (x d : α) (h : i < l.length) : (l.set i x).getD i d = x := by
  rw [getD_lt d (by rw [List.length_set]; exact h), List.getElem_set_self]
theorem getD_set_off {α : Type} (l : List α) (i j : Nat) (x d : α) (h : i ≠ j) : (l.set i x).getD j d = l.getD j d := by
  rw [List.getD_eq_getElem?_getD, List.getD_eq_getElem?_getD, List.getElem?_set_ne h]
theorem markIntSS_held (l : List (List Int)) (hl : l.length ≤ 1048576) (hw : ∀ x ∈ l, x.length ≤ 1048576) : ∃ (m : Int) (X : List (List Int)), Ev (fun k => laws_markIntSS.f k l 1) (m, X) ∧ 0 ≤ m ∧ Ev (fun k => laws_heldIntSS.f k X 1) m := by
  have key : ∀ (d : Nat) (i : Nat) (X : List (List Int)) (m : Int), X.length ≤ 1048576 → (∀ x ∈ X, x.length ≤ 1048576) → i + d = X.length → 1 ≤ m → m ≤ 1 + 1048576 * (i : Int) → ∃ (m' : Int) (X' : List (List Int)), Ev (fun k => laws_markIntSS.l0 k X m (i : Int)) (m', X') ∧ 0 ≤ m' ∧ X'.length = X.length ∧ (∀ j, j < i → X'.getD j [] = X.getD j []) ∧ Ev (fun k => laws_heldIntSS.l0 k X' m (i : Int)) m' := by
    intro d
    induction d with
    | zero =>
      intro i X m h1 h2 h3 h4 h5
      refine ⟨m, X, Ev.step (fun k => by rw [laws_markIntSS.l0]) ?_, by omega, rfl, fun j _ => rfl, Ev.step (fun k => by rw [laws_heldIntSS.l0]) ?_⟩
      · simp only [if_neg (show ¬ (i : Int) < (X.length : Int) by omega)]
        exact Ev.now _
      · simp only [if_neg (show ¬ (i : Int) < (X.length : Int) by omega)]
        exact Ev.now _
    | succ d ih =>
      intro i X m h1 h2 h3 h4 h5
      have hi : i < X.length := by omega
      have hrow : (X.getD i []).length ≤ 1048576 := by rw [getD_lt _ hi]; exact h2 _ (List.getElem_mem _)
      obtain ⟨m', X', he, hm, hlen, hat, hh⟩ := ih (i + 1) (X.set i (marks m (X.getD i []).length)) (m + (X.getD i []).length) (by rw [List.length_set]; exact h1) (fun x hx => by
        rcases List.mem_or_eq_of_mem_set hx with h | h
        · exact h2 x h
        · rw [h, marks_length]; exact hrow) (by rw [List.length_set]; omega) (by omega) (by omega)
      rw [List.length_set] at hlen
      have ei : X'.getD i [] = marks m (X.getD i []).length := by
        rw [hat i (by omega), getD_set_self _ _ _ _ hi]
      refine ⟨m', X', Ev.step (fun k => by rw [laws_markIntSS.l0]) ?_, hm, hlen, fun j hj => ?_, Ev.step (fun k => by rw [laws_heldIntSS.l0]) ?_⟩
      · simp only [if_pos (show (i : Int) < (X.length : Int) by omega), if_pos (show 0 ≤ (i : Int) by omega), Int.toNat_natCast]
        refine Ev.bind (markIntS_ev _ hrow m (by omega) (by omega)) ?_
        rw [w64 (show -9223372036854775808 ≤ (i : Int) + 1 by omega) (by omega), show (i : Int) + 1 = ((i + 1 : Nat) : Int) by omega]
        exact he
      · rw [hat j (by omega), getD_set_off _ _ _ _ _ (by omega)]
      · have er : rd_L1 X' (i : Int) = marks m (X.getD i []).length := by
          unfold rd_L1
          rw [Int.toNat_natCast]
          exact ei
        simp only [if_pos (show (i : Int) < (X'.length : Int) by omega), if_pos (show 0 ≤ (i : Int) by omega), er]
        refine Ev.bind (heldIntS_ev _ hrow m (by omega) (by omega)) ?_
        simp only [if_neg (show ¬ m + ((X.getD i []).length : Int) < 0 by omega)]
        rw [w64 (show -9223372036854775808 ≤ (i : Int) + 1 by omega) (by omega), show (i : Int) + 1 = ((i + 1 : Nat) : Int) by omega]
        exact hh
  unfold laws_markIntSS.f laws_heldIntSS.f
  obtain ⟨m, X, h1, h2, _, _, h3⟩ := key l.length 0 l 1 hl hw (by omega) (by omega) (by omega)
  exact ⟨m, X, h1, h2, h3⟩

theorem FnExactHeavyPlan : laws_FnExactHeavyPlan.Pure := by
  intro n _
  refine Ev.rounds ?_
  unfold laws_FnExactHeavyPlan.f
  obtain ⟨h1, h2⟩ := HeavyR_at n
  have hs := specHeavy_ev n
  have hi := implHeavy_ev n
  have he := eqIntSS_self (HeavyR n).1 (by omega) (fun x hx => by have := h2 x hx; omega)
  obtain ⟨m, X, hm, hm0, hh⟩ := markIntSS_held (HeavyR n).1 (by omega) (fun x hx => by have := h2 x hx; omega)
  refine Ev.bind hs (Ev.bind hi (Ev.bind he ?_))
  simp only [if_true, bne_self_eq_false]
  refine Ev.step (fun k => by rw [laws_FnExactHeavyPlan.j0]) ?_
  simp only [Bool.false_eq_true, if_false]
  refine Ev.bind hm (Ev.bind hh ?_)
  simp only [if_neg (show ¬ m < 0 by omega), if_true]
  refine Ev.bind hi (Ev.bind he ?_)
  simp only [if_true, bne_self_eq_false]
  refine Ev.step (fun k => by rw [laws_FnExactHeavyPlan.j1]) ?_
  simp only [Bool.false_eq_true, if_false]
  refine Ev.bind hh ?_
  simp only [if_neg (show ¬ m < 0 by omega), if_true]
  exact Ev.now _


end Go.Proofs.Ytgnmomdgfamhnaa.Pure

