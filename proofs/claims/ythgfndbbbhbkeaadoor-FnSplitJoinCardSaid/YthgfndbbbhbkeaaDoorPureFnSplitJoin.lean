/- For every code the plain function of the law FnSplitJoin answers true. -/
import Derived.Test.YthgfndbbbhbkeaaDoorPFnSplitJoinx3
import Derived.Test.YthgfndbbbhbkeaaDoorLib
set_option linter.unusedVariables false
set_option linter.unusedSimpArgs false
namespace Go.Proofs.YthgfndbbbhbkeaaDoor.Pure
open Go.RowKit Go.Proofs.YthgfndbbbhbkeaaDoor.PFnSplitJoin Go.Proofs.YthgfndbbbhbkeaaDoorW.PrintWords Go.Proofs.YthgfndbbbhbkeaaDoorW.PrintLast Go.Proofs.YthgfndbbbhbkeaaDoor.Lib

theorem ba_ext {a b : ByteArray} (h : a.data.toList = b.data.toList) : a = b := by
  cases a; cases b
  simp only [ByteArray.mk.injEq]
  exact Array.toList_inj.1 h
theorem ba_app (a b : ByteArray) : (a ++ b).data.toList = a.data.toList ++ b.data.toList := by
  simp [ByteArray.data_append]
theorem ba_size (a : ByteArray) : a.size = a.data.toList.length := by
  cases a
  simp [ByteArray.size]
theorem bt_at (s : ByteArray) (i : Nat) (h : i < s.size) : bt s (i : Int) = ((s.data.toList[i]'(by rw [← ba_size]; exact h)).toNat : Int) := by
  unfold bt
  rw [Int.toNat_natCast, dif_pos h]
  congr 1
theorem index_mem (l : List UInt8) (c : UInt8) : 0 ≤ Lib.indexByte l c ↔ c ∈ l := by
  induction l with
  | nil => simp [Lib.indexByte]
  | cons b l ih =>
    rw [Lib.indexByte]
    by_cases h : b = c
    · subst h
      simp
    · have hb : (b == c) = false := beq_eq_false_iff_ne.2 h
      rw [hb, if_neg (by simp), List.mem_cons]
      by_cases h2 : Lib.indexByte l c = -1
      · rw [h2]
        simp only [beq_self_eq_true, if_true]
        constructor
        · intro e; omega
        · rintro (e | e)
          · exact absurd e.symm h
          · have := ih.2 e
            omega
      · have hb2 : (Lib.indexByte l c == -1) = false := beq_eq_false_iff_ne.2 h2
        rw [hb2, if_neg (by simp)]
        have hge : -1 ≤ Lib.indexByte l c := by
          clear ih h2 hb2
          induction l with
          | nil => simp [Lib.indexByte]
          | cons a l ih2 =>
            rw [Lib.indexByte]
            split
            · omega
            · split
              · omega
              · omega
        constructor
        · intro e
          exact .inr (ih.1 (by omega))
        · rintro (e | e)
          · exact absurd e.symm h
          · have := ih.2 e
            omega
theorem l1Stands_ev (s : ByteArray) (c : UInt8) (hs : s.size ≤ 4611686018427387904) : Ev (fun k => spec_l1Stands.f k s (c.toNat : Int)) (decide (c ∈ s.data.toList)) := by
  unfold spec_l1Stands.f
  have key : ∀ (d i : Nat), i + d = s.size → Ev (fun k => spec_l1Stands.l0 k s (c.toNat : Int) (i : Int)) (decide (c ∈ s.data.toList.drop i)) := by
    intro d
    induction d with
    | zero =>
      intro i h
      refine Ev.step (fun k => by rw [spec_l1Stands.l0]) ?_
      simp only [if_neg (show ¬ (i : Int) < (s.size : Int) by omega)]
      rw [List.drop_eq_nil_of_le (by rw [← ba_size]; omega)]
      exact Ev.some (by simp)
    | succ d ih =>
      intro i h
      have hi : i < s.size := by omega
      have hi2 : i < s.data.toList.length := by rw [← ba_size]; exact hi
      have ei : wrap64 ((i : Int) + 1) = ((i + 1 : Nat) : Int) := by rw [w64 (by omega) (by omega)]; exact (Int.natCast_add i 1).symm
      refine Ev.step (fun k => by rw [spec_l1Stands.l0]) ?_
      simp only [if_pos (show (i : Int) < (s.size : Int) by omega), if_pos (show 0 ≤ (i : Int) by omega), bt_at s i hi, ei]
      rw [List.drop_eq_getElem_cons hi2]
      by_cases hc : s.data.toList[i] = c
      · simp only [if_pos (show (s.data.toList[i].toNat : Int) = (c.toNat : Int) by rw [hc])]
        exact Ev.some (by simp [hc])
      · simp only [if_neg (show ¬ (s.data.toList[i].toNat : Int) = (c.toNat : Int) from fun e => hc (UInt8.toNat_inj.1 (by omega)))]
        refine Ev.as (ih (i + 1) (by omega)) ?_
        rw [decide_eq_decide, List.mem_cons]
        constructor
        · exact .inr
        · rintro (e | e)
          · exact absurd e.symm hc
          · exact e
  have h := key s.size 0 (by omega)
  rw [List.drop_zero] at h
  exact h

theorem rdStr (l : List ByteArray) (i : Nat) (h : i < l.length) : rdOf ByteArray.empty l (i : Int) = l[i] := by
  unfold rdOf
  rw [Int.toNat_natCast]
  exact getD_lt _ h
theorem rdStr' (l : List ByteArray) (i : Int) (h0 : 0 ≤ i) (h : i < l.length) : rdOf ByteArray.empty l i = l[i.toNat]'(by omega) := by
  unfold rdOf
  exact getD_lt _ (show i.toNat < l.length by omega)

def spl (c : UInt8) : List UInt8 → List UInt8 → List (List UInt8)
  | p, [] => [p]
  | p, b :: r => if b = c then p :: spl c [] r else spl c (p ++ [b]) r
theorem spl_len (c : UInt8) : ∀ (l p : List UInt8), (spl c p l).length ≤ l.length + 1
  | [], p => by simp [spl]
  | b :: r, p => by
    rw [spl]
    split
    · have := spl_len c r []
      simp only [List.length_cons]; omega
    · have := spl_len c r (p ++ [b])
      simp only [List.length_cons]; omega
theorem ext_data (s : ByteArray) (a b : Nat) : (s.extract a b).data.toList = (s.data.toList.take b).drop a := by
  rw [ByteArray.data_extract, Array.toList_extract, List.extract_eq_take_drop, List.drop_take]

theorem spl_pre (c : UInt8) : ∀ (l p : List UInt8), c ∉ l → spl c p l = [p ++ l]
  | [], p, _ => by simp [spl]
  | b :: r, p, h => by
    rw [spl, if_neg (fun e => h (by rw [e]; exact List.mem_cons_self)), spl_pre c r (p ++ [b]) (fun e => h (List.mem_cons_of_mem _ e))]
    simp
theorem spl_hit (c : UInt8) : ∀ (l p r : List UInt8), c ∉ l → spl c p (l ++ c :: r) = (p ++ l) :: spl c [] r
  | [], p, r, _ => by simp [spl]
  | b :: l, p, r, h => by
    rw [List.cons_append, spl, if_neg (fun e => h (by rw [e]; exact List.mem_cons_self)), spl_hit c l (p ++ [b]) r (fun e => h (List.mem_cons_of_mem _ e))]
    simp
theorem index_one (c : UInt8) : ∀ l : List UInt8, (Lib.index l [c] = -1 ∧ c ∉ l) ∨ ∃ i : Nat, Lib.index l [c] = i ∧ ∃ a r, l = a ++ c :: r ∧ c ∉ a ∧ a.length = i
  | [] => .inl ⟨by simp [Lib.index], by simp⟩
  | b :: l => by
    rw [Lib.index]
    by_cases h : b = c
    · subst h
      refine .inr ⟨0, by simp [List.isPrefixOf], [], l, rfl, by simp, rfl⟩
    · have hp : ([c] : List UInt8).isPrefixOf (b :: l) = false := by simp [List.isPrefixOf, Ne.symm h]
      rw [hp]
      rcases index_one c l with ⟨h1, h2⟩ | ⟨i, h1, a, r, rfl, h3, h4⟩
      · refine .inl ⟨by rw [h1]; rfl, ?_⟩
        intro e
        rcases List.mem_cons.1 e with e | e
        · exact h e.symm
        · exact h2 e
      · refine .inr ⟨i + 1, ?_, b :: a, r, rfl, ?_, by simp [h4]⟩
        · have hne : (Lib.index (a ++ c :: r) [c] == -1) = false := beq_eq_false_iff_ne.2 (by omega)
          rw [hne, h1]
          simp
        · intro e
          rcases List.mem_cons.1 e with e | e
          · exact h e.symm
          · exact h3 e
theorem splitK_spl (c : UInt8) : ∀ (k : Nat) (l : List UInt8), l.count c ≤ k → Lib.splitK [c] 0 k l = spl c [] l
  | 0, l, h => by
    have hn : c ∉ l := fun e => by have := List.count_pos_iff.2 e; omega
    rw [Lib.splitK, spl_pre c l [] hn, List.nil_append]
  | k + 1, l, h => by
    rw [Lib.splitK]
    rcases index_one c l with ⟨h1, h2⟩ | ⟨i, h1, a, r, rfl, h3, h4⟩
    · rw [if_pos (beq_iff_eq.2 h1), spl_pre c l [] h2, List.nil_append]
    · have hne : ¬ (Lib.index (a ++ c :: r) [c] == -1) = true := fun e => by have := beq_iff_eq.1 e; omega
      rw [if_neg hne, spl_hit c a [] r h3, List.nil_append]
      have e1 : (Lib.index (a ++ c :: r) [c]).toNat = a.length := by omega
      rw [e1, Nat.add_zero, List.take_left']
      · have e2 : (a ++ c :: r).drop (a.length + ([c] : List UInt8).length) = r := by
          rw [← List.drop_drop, List.drop_left']
          · rfl
          · rfl
        rw [e2, splitK_spl c k r (by
          rw [List.count_append, List.count_cons_self] at h
          omega)]
      · rfl
theorem splitB_spl (s : ByteArray) (c : UInt8) : Lib.splitB ⟨#[c]⟩ 0 (Lib.countB s ⟨#[c]⟩) s = (spl c [] s.data.toList).map fun x => (⟨x.toArray⟩ : ByteArray) := by
  have h := Lib.splitB_data ⟨#[c]⟩ 0 (Lib.countB s ⟨#[c]⟩) s
  have hc : Lib.countB s ⟨#[c]⟩ = s.data.toList.count c := Lib.count_one c _
  have h2 : (Lib.splitB ⟨#[c]⟩ 0 (Lib.countB s ⟨#[c]⟩) s).map (·.data.toList) = spl c [] s.data.toList := by
    rw [h]
    exact splitK_spl c _ _ (by rw [hc]; exact Nat.le_refl _)
  rw [← h2, List.map_map]
  exact (List.map_id' _).symm

def tl (sep : List UInt8) : Bool → List ByteArray → List UInt8
  | _, [] => []
  | first, x :: r => (if first = true then [] else sep) ++ x.data.toList ++ tl sep false r
theorem tl_join (sep : List UInt8) (x : ByteArray) (r : List ByteArray) : Lib.join ((x :: r).map (·.data.toList)) sep = tl sep true (x :: r) := by
  have h : ∀ r : List ByteArray, Lib.joinTail sep (r.map (·.data.toList)) = tl sep false r := by
    intro r
    induction r with
    | nil => rfl
    | cons y r ih =>
      rw [List.map_cons, tl, ← ih]
      simp [Lib.joinTail]
  rw [List.map_cons, Lib.join_cons, h, tl]
  simp
def sizes : List ByteArray → Nat
  | [] => 0
  | x :: r => x.size + sizes r
theorem tl_len (sep : List UInt8) (hs : sep.length = 1) : ∀ (l : List ByteArray), (tl sep false l).length = sizes l + l.length
  | [] => rfl
  | x :: r => by
    rw [tl, List.length_append, tl_len sep hs r, if_neg (by simp), List.length_append, hs, ← ba_size, sizes, List.length_cons]
    omega
open Classical in
noncomputable def JoinR (l : List ByteArray) (c : UInt8) : ByteArray × Bool := if (∀ x ∈ l, c ∉ x.data.toList) ∧ sizes l + (l.length - 1) ≤ 4000 then (⟨(tl [c] true l).toArray⟩, true) else (⟨#[]⟩, false)
open Classical in
theorem specJoin_l0 (l : List ByteArray) (c : UInt8) (hl : l.length ≤ 1048576) (hs : ∀ x ∈ l, x.size ≤ 1048576) : ∀ (d i : Nat) (o : ByteArray), i + d = l.length → o.size ≤ 4000 →
    Ev (fun k => spec_JoinStrings.l0 k l ⟨#[c]⟩ o (i : Int)) (if (∀ x ∈ l.drop i, c ∉ x.data.toList) ∧ o.size + (tl [c] (decide (i = 0)) (l.drop i)).length ≤ 4000 then (⟨(o.data.toList ++ tl [c] (decide (i = 0)) (l.drop i)).toArray⟩, true) else ((⟨#[]⟩ : ByteArray), false)) := by
  intro d
  induction d with
  | zero =>
    intro i o h ho
    refine Ev.step (fun k => by rw [spec_JoinStrings.l0]) ?_
    simp only [if_neg (show ¬ (i : Int) < (l.length : Int) by omega)]
    rw [List.drop_eq_nil_of_le (by omega), if_pos ⟨fun x hx => (by cases hx), (by simp [tl]; exact ho)⟩]
    refine Ev.some ?_
    congr 1
    exact ba_ext (by simp [tl])
  | succ d ih =>
    intro i o h ho
    have hi : i < l.length := by omega
    have hx := hs _ (List.getElem_mem hi)
    have ei : wrap64 ((i : Int) + 1) = ((i + 1 : Nat) : Int) := by rw [w64 (by omega) (by omega)]; exact (Int.natCast_add i 1).symm
    have hsep : (⟨#[c]⟩ : ByteArray).size = 1 := rfl
    have hb : bt ⟨#[c]⟩ 0 = (c.toNat : Int) := bt_at ⟨#[c]⟩ 0 (by rw [hsep]; omega)
    have ht : decide (i + 1 = 0) = false := by simp
    refine Ev.step (fun k => by rw [spec_JoinStrings.l0]) ?_
    simp only [if_pos (show (i : Int) < (l.length : Int) by omega), if_pos (show 0 ≤ (i : Int) by omega), hsep, if_pos (show (0 : Int) < ((1 : Nat) : Int) by omega), rdStr l i hi, hb, ei]
    refine Ev.bind (l1Stands_ev l[i] c (by omega)) ?_
    rw [List.drop_eq_getElem_cons hi]
    by_cases hc : c ∈ l[i].data.toList
    · simp only [hc, decide_true, if_true]
      rw [if_neg (fun e => e.1 l[i] (List.mem_cons_self) hc)]
      exact Ev.now _
    · simp only [hc, decide_false, Bool.false_eq_true, if_false]
      have hall : (∀ x ∈ l[i] :: l.drop (i + 1), c ∉ x.data.toList) ↔ ∀ x ∈ l.drop (i + 1), c ∉ x.data.toList := by
        constructor
        · exact fun e x hx => e x (List.mem_cons_of_mem _ hx)
        · intro e x hx
          rcases List.mem_cons.1 hx with rfl | hx
          · exact hc
          · exact e x hx
      by_cases h0 : (i : Int) > 0
      · have hd : decide (i = 0) = false := decide_eq_false (by omega)
        simp only [if_pos h0, if_pos (show o.size + 1 ≤ 9223372036854775807 by omega), ByteArray.size_append, hsep, if_pos (show o.size + 1 + l[i].size ≤ 9223372036854775807 by omega)]
        have e1 : (o ++ (⟨#[c]⟩ : ByteArray) ++ l[i]).data.toList = o.data.toList ++ ([c] ++ l[i].data.toList) := by rw [ba_app, ba_app, List.append_assoc]
        have e2 : (o ++ (⟨#[c]⟩ : ByteArray) ++ l[i]).size = o.size + 1 + l[i].size := by rw [ByteArray.size_append, ByteArray.size_append, hsep]
        have e3 : (tl [c] false (l[i] :: l.drop (i + 1))).length = 1 + l[i].size + (tl [c] false (l.drop (i + 1))).length := by
          rw [tl, if_neg (by simp), List.length_append, List.length_append, ← ba_size]; rfl
        by_cases h4 : ((o.size + 1 + l[i].size : Nat) : Int) > 4000
        · simp only [if_pos h4]
          rw [hd, if_neg (fun e => by have := e.2; rw [e3] at this; omega)]
          exact Ev.now _
        · simp only [if_neg h4]
          refine Ev.as (ih (i + 1) (o ++ (⟨#[c]⟩ : ByteArray) ++ l[i]) (by omega) (by rw [e2]; omega)) ?_
          rw [ht, hd, e1, e2, e3]
          have e4 : o.data.toList ++ ([c] ++ l[i].data.toList) ++ tl [c] false (l.drop (i + 1)) = o.data.toList ++ tl [c] false (l[i] :: l.drop (i + 1)) := by
            rw [tl, if_neg (by simp), List.append_assoc]
          rw [e4]
          by_cases hg : (∀ x ∈ l.drop (i + 1), c ∉ x.data.toList) ∧ o.size + 1 + l[i].size + (tl [c] false (l.drop (i + 1))).length ≤ 4000
          · rw [if_pos hg, if_pos ⟨hall.2 hg.1, by have := hg.2; omega⟩]
          · rw [if_neg hg, if_neg (fun e => hg ⟨hall.1 e.1, by have := e.2; omega⟩)]
      · have hi0 : i = 0 := by omega
        have hd : decide (i = 0) = true := decide_eq_true hi0
        simp only [if_neg h0, if_pos (show o.size + l[i].size ≤ 9223372036854775807 by omega), ByteArray.size_append]
        have e1 : (o ++ l[i]).data.toList = o.data.toList ++ l[i].data.toList := ba_app _ _
        have e3 : (tl [c] true (l[i] :: l.drop (i + 1))).length = l[i].size + (tl [c] false (l.drop (i + 1))).length := by
          rw [tl, if_pos rfl, List.length_append, List.length_append, ← ba_size]; simp
        by_cases h4 : ((o.size + l[i].size : Nat) : Int) > 4000
        · simp only [if_pos h4]
          rw [hd, if_neg (fun e => by have := e.2; rw [e3] at this; omega)]
          exact Ev.now _
        · simp only [if_neg h4]
          refine Ev.as (ih (i + 1) (o ++ l[i]) (by omega) (by rw [ByteArray.size_append]; omega)) ?_
          rw [ht, hd, e1, ByteArray.size_append, e3]
          have e4 : o.data.toList ++ l[i].data.toList ++ tl [c] false (l.drop (i + 1)) = o.data.toList ++ tl [c] true (l[i] :: l.drop (i + 1)) := by
            rw [tl, if_pos rfl, List.nil_append, List.append_assoc]
          rw [e4]
          by_cases hg : (∀ x ∈ l.drop (i + 1), c ∉ x.data.toList) ∧ o.size + l[i].size + (tl [c] false (l.drop (i + 1))).length ≤ 4000
          · rw [if_pos hg, if_pos ⟨hall.2 hg.1, by have := hg.2; omega⟩]
          · rw [if_neg hg, if_neg (fun e => hg ⟨hall.1 e.1, by have := e.2; omega⟩)]
theorem one_ba (s : ByteArray) (h : s.size = 1) : ∃ c : UInt8, s = ⟨#[c]⟩ := Lib.one_byte s h
theorem tl_len1 (c : UInt8) (l : List ByteArray) (h : 0 < l.length) : (tl [c] true l).length = sizes l + (l.length - 1) := by
  cases l with
  | nil => simp at h
  | cons x r =>
    rw [tl, if_pos rfl, List.length_append, List.length_append, tl_len [c] rfl, ← ba_size, sizes, List.length_cons]
    simp
    omega
theorem specJoin_ev (l : List ByteArray) (s : ByteArray) (hl : l.length ≤ 1048576) (hs : ∀ x ∈ l, x.size ≤ 1048576) : ∃ R, Ev (fun k => spec_JoinStrings.f k l s) R ∧ ((0 < l.length ∧ ∃ c, s = ⟨#[c]⟩ ∧ R = JoinR l c) ∨ (¬ (0 < l.length ∧ s.size = 1) ∧ R = (⟨#[]⟩, false))) := by
  unfold spec_JoinStrings.f
  by_cases h1 : s.size = 1
  · obtain ⟨c, rfl⟩ := one_ba s h1
    by_cases h0 : 0 < l.length
    · refine ⟨JoinR l c, ?_, .inl ⟨h0, c, rfl, rfl⟩⟩
      simp only [h1, if_pos (show ((1 : Nat) : Int) = 1 from rfl)]
      have hb : ((l.length : Int) == 0) = false := beq_eq_false_iff_ne.2 (by omega)
      refine Ev.step (fun k => by rw [spec_JoinStrings.j0]) ?_
      simp only [hb, Bool.false_eq_true, if_false]
      refine Ev.as (specJoin_l0 l c hl hs l.length 0 ⟨#[]⟩ (by omega) (by decide)) ?_
      unfold JoinR
      rw [List.drop_zero, show decide (0 = 0) = true from rfl, tl_len1 c l h0]
      have e : (⟨#[]⟩ : ByteArray).size = 0 := rfl
      rw [e, Nat.zero_add]
      rfl
    · refine ⟨(⟨#[]⟩, false), ?_, .inr ⟨fun e => h0 e.1, rfl⟩⟩
      simp only [h1, if_pos (show ((1 : Nat) : Int) = 1 from rfl)]
      have hb : ((l.length : Int) == 0) = true := beq_iff_eq.2 (by omega)
      refine Ev.step (fun k => by rw [spec_JoinStrings.j0]) ?_
      simp only [hb, if_true]
      exact Ev.now _
  · refine ⟨(⟨#[]⟩, false), ?_, .inr ⟨fun e => h1 e.2, rfl⟩⟩
    simp only [if_neg (show ¬ (s.size : Int) = 1 by omega)]
    refine Ev.step (fun k => by rw [spec_JoinStrings.j0]) ?_
    simp only [if_true]
    exact Ev.now _
open Classical in
theorem implJoin_l0 (l : List ByteArray) (c : UInt8) (h0 : 0 < l.length) (hl : l.length ≤ 1048576) (hs : ∀ x ∈ l, x.size ≤ 1048576) : ∀ (d i m : Nat), i + d = l.length → m ≤ 1048576 → (∀ x ∈ l.take i, c ∉ x.data.toList) → (m = sizes (l.take i) + (l.length - 1)) → (d = 0 → m ≤ 4000) →
    Ev (fun k => impl_JoinStrings.l0 k l ⟨#[c]⟩ (m : Int) l (l.length : Int) (i : Int)) (if (∀ x ∈ l.drop i, c ∉ x.data.toList) ∧ m + sizes (l.drop i) ≤ 4000 then (⟨(tl [c] true l).toArray⟩, true) else ((⟨#[]⟩ : ByteArray), false)) := by
  intro d
  induction d with
  | zero =>
    intro i m h hm hp hq hr
    refine Ev.step (fun k => by rw [impl_JoinStrings.l0]) ?_
    simp only [if_neg (show ¬ (i : Int) < (l.length : Int) by omega)]
    rw [List.drop_eq_nil_of_le (by omega), if_pos ⟨fun x hx => (by cases hx), (by simp [sizes]; exact hr rfl)⟩]
    have hti : l.take i = l := List.take_of_length_le (by omega)
    rw [hti] at hq
    have htl : (tl [c] true l).length ≤ 4000 := by rw [tl_len1 c l h0, ← hq]; exact hr rfl
    have hj : Lib.join (l.map (·.data.toList)) [c] = tl [c] true l := by
      cases l with
      | nil => simp at h0
      | cons x r => exact tl_join [c] x r
    unfold strings_Join.f
    rw [if_pos ⟨h0, by omega, by
      show (Lib.join (l.map (·.data.toList)) [c]).length ≤ _
      rw [hj]; omega⟩, Option.bind_some]
    refine Ev.some ?_
    show ((⟨(Lib.join (l.map (·.data.toList)) [c]).toArray⟩ : ByteArray), true) = _
    rw [hj]
  | succ d ih =>
    intro i m h hm hp hq hr
    have hi : i < l.length := by omega
    have hx := hs _ (List.getElem_mem hi)
    have ei : wrap64 ((i : Int) + 1) = ((i + 1 : Nat) : Int) := by rw [w64 (by omega) (by omega)]; exact (Int.natCast_add i 1).symm
    have em : wrap64 ((m : Int) + (l[i].size : Int)) = ((m + l[i].size : Nat) : Int) := by rw [w64 (by omega) (by omega)]; exact (Int.natCast_add m l[i].size).symm
    refine Ev.step (fun k => by rw [impl_JoinStrings.l0]) ?_
    simp only [if_pos (show (i : Int) < (l.length : Int) by omega), if_pos (show 0 ≤ (i : Int) by omega), rdStr l i hi, em, ei]
    unfold strings_Contains.f
    simp only [if_pos (show (⟨#[c]⟩ : ByteArray).size = 1 from rfl), Option.bind_some]
    have hcc : decide (0 ≤ Lib.indexByte l[i].data.toList ((⟨#[c]⟩ : ByteArray).data.toList.getD 0 0)) = decide (c ∈ l[i].data.toList) := by
      rw [decide_eq_decide]
      exact index_mem _ c
    simp only [hcc]
    rw [List.drop_eq_getElem_cons hi]
    by_cases hc : c ∈ l[i].data.toList
    · simp only [hc, decide_true, if_true]
      rw [if_neg (fun e => e.1 l[i] (List.mem_cons_self) hc)]
      exact Ev.now _
    · simp only [hc, decide_false, Bool.false_eq_true, if_false]
      by_cases h4 : ((m + l[i].size : Nat) : Int) > 4000
      · simp only [if_pos h4]
        rw [if_neg (fun e => by have := e.2; rw [sizes] at this; omega)]
        exact Ev.now _
      · simp only [if_neg h4]
        have htk : l.take (i + 1) = l.take i ++ [l[i]] := by
          rw [List.take_add_one, List.getElem?_eq_getElem hi]
          rfl
        have hsz : ∀ (a : List ByteArray) (x : ByteArray), sizes (a ++ [x]) = sizes a + x.size := by
          intro a x
          induction a with
          | nil => simp [sizes]
          | cons y a iha =>
            rw [List.cons_append, sizes, iha, sizes]
            omega
        refine Ev.as (ih (i + 1) (m + l[i].size) (by omega) (by omega) (fun x hx => by
          rw [htk] at hx
          rcases List.mem_append.1 hx with hx | hx
          · exact hp x hx
          · rw [List.mem_singleton.1 hx]; exact hc) (by rw [htk, hsz]; omega) (fun _ => by omega)) ?_
        by_cases hg : (∀ x ∈ l.drop (i + 1), c ∉ x.data.toList) ∧ m + l[i].size + sizes (l.drop (i + 1)) ≤ 4000
        · rw [if_pos hg, if_pos ⟨fun x hx => by
            rcases List.mem_cons.1 hx with rfl | hx
            · exact hc
            · exact hg.1 x hx, by have := hg.2; rw [sizes]; omega⟩]
        · rw [if_neg hg, if_neg (fun e => hg ⟨fun x hx => e.1 x (List.mem_cons_of_mem _ hx), by have := e.2; rw [sizes] at this; omega⟩)]
theorem implJoin_ev (l : List ByteArray) (s : ByteArray) (hl : l.length ≤ 1048576) (hs : ∀ x ∈ l, x.size ≤ 1048576) : (∀ c, 0 < l.length → s = ⟨#[c]⟩ → Ev (fun k => impl_JoinStrings.f k l s) (JoinR l c)) ∧ (¬ (0 < l.length ∧ s.size = 1) → Ev (fun k => impl_JoinStrings.f k l s) (⟨#[]⟩, false)) := by
  unfold impl_JoinStrings.f
  refine ⟨fun c h0 e => ?_, fun hn => ?_⟩
  · subst e
    simp only [if_neg (show ¬ (l.length : Int) = 0 by omega)]
    refine Ev.step (fun k => by rw [impl_JoinStrings.j0]) ?_
    have hb : (((⟨#[c]⟩ : ByteArray).size : Int) != 1) = false := rfl
    simp only [hb, Bool.false_eq_true, if_false]
    have e1 : wrap64 ((l.length : Int) - 1) = ((l.length - 1 : Nat) : Int) := by rw [w64 (by omega) (by omega)]; omega
    rw [e1]
    refine Ev.as (implJoin_l0 l c h0 hl hs l.length 0 (l.length - 1) (by omega) (by omega) (fun x hx => by simp at hx) (by rw [List.take_zero]; simp [sizes]) (by omega)) ?_
    unfold JoinR
    rw [List.drop_zero, Nat.add_comm]
  · by_cases h0 : (l.length : Int) = 0
    · simp only [if_pos h0]
      refine Ev.step (fun k => by rw [impl_JoinStrings.j0]) ?_
      simp only [if_true]
      exact Ev.now _
    · simp only [if_neg h0]
      have hb : ((s.size : Int) != 1) = true := bne_iff_ne.2 (fun e => hn ⟨by omega, by omega⟩)
      refine Ev.step (fun k => by rw [impl_JoinStrings.j0]) ?_
      simp only [hb, if_true]
      exact Ev.now _
theorem joinBoth (l : List ByteArray) (s : ByteArray) (hl : l.length ≤ 1048576) (hs : ∀ x ∈ l, x.size ≤ 1048576) : ∃ R, Ev (fun k => spec_JoinStrings.f k l s) R ∧ Ev (fun k => impl_JoinStrings.f k l s) R := by
  obtain ⟨R, h1, h2⟩ := specJoin_ev l s hl hs
  obtain ⟨i1, i2⟩ := implJoin_ev l s hl hs
  refine ⟨R, h1, ?_⟩
  rcases h2 with ⟨h0, c, e, rfl⟩ | ⟨hn, rfl⟩
  · exact i1 c h0 e
  · exact i2 hn

theorem spl_sizes (c : UInt8) : ∀ (l p x : List UInt8), x ∈ spl c p l → x.length ≤ p.length + l.length
  | [], p, x, h => by
    rw [spl, List.mem_singleton] at h
    subst h
    simp
  | b :: l, p, x, h => by
    rw [spl] at h
    split at h
    · rcases List.mem_cons.1 h with rfl | h
      · simp
      · have := spl_sizes c l [] x h
        simp only [List.length_nil, List.length_cons] at this ⊢
        omega
    · have := spl_sizes c l _ x h
      simp only [List.length_append, List.length_cons, List.length_nil] at this ⊢
      omega
theorem tl_false (sep : List UInt8) (X : List ByteArray) (h : X ≠ []) : tl sep false X = sep ++ tl sep true X := by
  cases X with
  | nil => exact absurd rfl h
  | cons x r => rw [tl, tl]; simp
theorem spl_ne (c : UInt8) : ∀ (l p : List UInt8), spl c p l ≠ []
  | [], p => by rw [spl]; simp
  | b :: l, p => by
    rw [spl]
    split
    · simp
    · exact spl_ne c l _
theorem spl_join (c : UInt8) : ∀ (l p : List UInt8), tl [c] true ((spl c p l).map fun x => (⟨x.toArray⟩ : ByteArray)) = p ++ l
  | [], p => by
    rw [spl, List.map_cons, List.map_nil, tl, tl]
    simp
  | b :: l, p => by
    rw [spl]
    split
    · rename_i hb
      rw [List.map_cons, tl, tl_false _ _ (by rw [Ne, List.map_eq_nil_iff]; exact spl_ne c l []), spl_join c l [], hb]
      simp
    · rw [spl_join c l (p ++ [b])]
      simp

/-- The bytes that a reader of draws reads. -/
def Code8 (c : List Int) : Prop := (∀ x ∈ c, 0 ≤ x ∧ x ≤ 255) ∧ c.length ≤ 140737488351232
theorem code8 {c : List Int} (h1 : c.length * 1 ≤ 140737488351232) (h2 : ∀ x ∈ c, (Lit.int .u8 x).wf = true) : Code8 c := by
  refine ⟨fun x hx => ?_, by omega⟩
  have h := h2 x hx
  simp [Lit.wf, IntKind.min, IntKind.max, IntKind.signed, IntKind.bits] at h
  omega
theorem and255 (x : Int) (h0 : 0 ≤ x) (h1 : x < 18446744073709551616) : 0 ≤ Go.bits .and .u64 x 255 ∧ Go.bits .and .u64 x 255 ≤ 255 := by
  have := Go.bits_mask .u64 64 (by decide) (fun n g0 g1 => by rw [IntKind.wrap_u64]; omega) 8 (by decide) x h0 h1
  rw [show ((2 : Int) ^ 8 - 1) = 255 by decide, show ((2 : Int) ^ 8) = 256 by decide] at this
  rw [this]
  omega
theorem u64_range (x : Int) : 0 ≤ IntKind.u64.wrap x ∧ IntKind.u64.wrap x < 18446744073709551616 := by
  rw [IntKind.wrap_u64]
  omega
theorem seedByte (x : Int) : 0 ≤ wrap64 (Go.bits .and .u64 (IntKind.u64.wrap x / 1099511627776) 255) ∧ wrap64 (Go.bits .and .u64 (IntKind.u64.wrap x / 1099511627776) 255) ≤ 255 := by
  have h := u64_range x
  have h2 := and255 (IntKind.u64.wrap x / 1099511627776) (by omega) (by omega)
  rw [w64 (by omega) (by omega)]
  exact h2
theorem next_ok {c : List Int} (hc : Code8 c) {p : Int} (s : Int) (h0 : 0 ≤ p) (h1 : p ≤ 4611686018427387904) : ∃ b s', spec_l1Cur_next.f c p s = some (b, p + 1, s') ∧ 0 ≤ b ∧ b ≤ 255 := by
  unfold spec_l1Cur_next.f
  rw [w64 (show -9223372036854775808 ≤ p + 1 by omega) (by omega)]
  by_cases h : p < (c.length : Int)
  · have hb := hc.1 _ (rd_mem h0 h)
    have e : wrap64 (rd c p) = rd c p := w64 (by omega) (by omega)
    simp only [if_pos h, if_pos h0, e]
    split
    · exact ⟨_, _, rfl, hb⟩
    · exact ⟨_, _, rfl, seedByte _⟩
  · simp only [if_neg h]
    split
    · exact ⟨_, _, rfl, by omega, by omega⟩
    · exact ⟨_, _, rfl, seedByte _⟩
theorem tmod_in {x n : Int} (h0 : 0 ≤ x) (h1 : 1 ≤ n) : 0 ≤ Int.tmod x n ∧ Int.tmod x n < n := by
  rw [Int.tmod_eq_emod_of_nonneg h0]
  exact ⟨Int.emod_nonneg _ (by omega), Int.emod_lt_of_pos _ (by omega)⟩
theorem pick_ok {c : List Int} (hc : Code8 c) {p : Int} (s n : Int) (h0 : 0 ≤ p) (h1 : p ≤ 4611686018427387000) : ∃ x p' s', spec_l1Cur_pick.f c p s n = some (x, p', s') ∧ (p ≤ p' ∧ p' ≤ p + 2) ∧ 0 ≤ x ∧ (1 ≤ n → x < n) := by
  unfold spec_l1Cur_pick.f
  by_cases hn : n ≤ 1
  · rw [if_pos hn]
    exact ⟨_, _, _, rfl, by omega, by omega, by omega⟩
  · rw [if_neg hn]
    obtain ⟨b, s1, e1, b0, b1⟩ := next_ok hc s h0 (by omega)
    rw [e1, Option.bind_some]
    by_cases h2 : n > 200
    · obtain ⟨d, s2, e2, d0, d1⟩ := next_ok hc s1 (show 0 ≤ p + 1 by omega) (by omega)
      simp only [if_pos h2, e2, Option.bind_some, if_neg (show ¬ n = 0 by omega)]
      rw [w64 (show -9223372036854775808 ≤ b * 256 by omega) (by omega), w64 (show -9223372036854775808 ≤ b * 256 + d by omega) (by omega)]
      have := tmod_in (show 0 ≤ b * 256 + d by omega) (show 1 ≤ n by omega)
      exact ⟨_, _, _, rfl, by omega, this.1, fun _ => this.2⟩
    · simp only [if_neg h2, if_neg (show ¬ n = 0 by omega)]
      have := tmod_in b0 (show 1 ≤ n by omega)
      exact ⟨_, _, _, rfl, by omega, this.1, fun _ => this.2⟩

theorem of_ok {c : List Int} (hc : Code8 c) {p : Int} (s : Int) (l : List ByteArray) (h0 : 0 ≤ p) (h1 : p ≤ 4611686018427387000) (hl : 1 ≤ l.length) : ∃ x p' s', spec_l1Cur_of.f c p s l = some (x, p', s') ∧ (p ≤ p' ∧ p' ≤ p + 2) ∧ x ∈ l := by
  unfold spec_l1Cur_of.f
  obtain ⟨x, p', s', e, hp, x0, x1⟩ := pick_ok hc s (l.length : Int) h0 h1
  have x1' := x1 (by omega)
  simp only [e, Option.bind_some, if_pos x0, if_pos x1', rdStr' l x x0 x1']
  exact ⟨_, _, _, rfl, hp, List.getElem_mem _⟩
theorem any1_ok {c : List Int} (hc : Code8 c) {p : Int} (s : Int) (h0 : 0 ≤ p) (h1 : p ≤ 4611686018427387000) : ∃ x p' s', spec_l1Cur_any1.f c p s = some (x, p', s') ∧ (p ≤ p' ∧ p' ≤ p + 2) ∧ x.size ≤ 10 := by
  unfold spec_l1Cur_any1.f
  obtain ⟨x, p', s', e, hp, hx⟩ := of_ok hc s [(⟨#[]⟩ : ByteArray), (⟨#[97]⟩ : ByteArray), (⟨#[97, 44, 98]⟩ : ByteArray), (⟨#[115, 111, 109, 101, 32, 119, 111, 114, 100, 115]⟩ : ByteArray), (⟨#[120, 35, 121]⟩ : ByteArray), (⟨#[45, 49, 50]⟩ : ByteArray), (⟨#[0, 255]⟩ : ByteArray), (⟨#[44, 44]⟩ : ByteArray), (⟨#[48]⟩ : ByteArray)] h0 h1 (by simp)
  refine ⟨x, p', s', by simp only [e, Option.bind_some], hp, ?_⟩
  simp only [List.mem_cons, List.not_mem_nil, or_false] at hx
  rcases hx with rfl | rfl | rfl | rfl | rfl | rfl | rfl | rfl | rfl <;> decide

theorem drawSplit_ok {c : List Int} (hc : Code8 c) : ∃ s sep, spec_DrawSplitString.f c = some (s, sep) ∧ s.size ≤ 10 := by
  unfold spec_DrawSplitString.f
  obtain ⟨s, p1, s1, e1, hp1, hs⟩ := any1_ok hc (p := 0) 0 (by omega) (by omega)
  obtain ⟨sep, p2, s2, e2, hp2, _⟩ := of_ok hc s1 [(⟨#[44]⟩ : ByteArray), (⟨#[44]⟩ : ByteArray), (⟨#[32]⟩ : ByteArray), (⟨#[]⟩ : ByteArray), (⟨#[44, 44]⟩ : ByteArray)] (show 0 ≤ p1 by omega) (by omega) (by simp)
  exact ⟨s, sep, by simp only [e1, e2, Option.bind_some], hs⟩
theorem drawLess_ok {c : List Int} (hc : Code8 c) : ∃ s t, spec_DrawLessString.f c = some (s, t) := by
  unfold spec_DrawLessString.f
  obtain ⟨s, p1, s1, e1, hp1, hs⟩ := any1_ok hc (p := 0) 0 (by omega) (by omega)
  obtain ⟨t, p2, s2, e2, hp2, ht⟩ := any1_ok hc s1 (show 0 ≤ p1 by omega) (by omega)
  exact ⟨s, t, by simp only [e1, e2, Option.bind_some]⟩
theorem drawJoin_l0 {c : List Int} (hc : Code8 c) : ∀ (d i : Nat) (l : List ByteArray) (p s : Int), i + d = 3 → l.length = i → (∀ x ∈ l, x.size ≤ 4010) → 0 ≤ p → p ≤ 2 + 2 * i → ∀ n : Int, 0 ≤ n → n ≤ 3 →
    ∃ L m, Ev (fun k => spec_DrawJoinStrings.l0 k l n (i : Int) c p s) (L, m) ∧ L.length ≤ 4 ∧ ∀ x ∈ L, x.size ≤ 4010 := by
  have last : ∀ (i : Nat) (l : List ByteArray) (p s n : Int), l.length ≤ 3 → (∀ x ∈ l, x.size ≤ 4010) → 0 ≤ p → p ≤ 100 → ¬ (i : Int) < n → ∃ L m, Ev (fun k => spec_DrawJoinStrings.l0 k l n (i : Int) c p s) (L, m) ∧ L.length ≤ 4 ∧ ∀ x ∈ L, x.size ≤ 4010 := by
    intro i l p s n hl hx h0 h1 hin
    obtain ⟨b, p1, s1, e1, hp1, _⟩ := pick_ok hc s 20 h0 (by omega)
    have eo : spec_l1Cur_one.f c p s 20 = some ((b == 0), p1, s1) := by unfold spec_l1Cur_one.f; simp only [e1, Option.bind_some]
    cases hb : (b == 0) with
    | false =>
      obtain ⟨m, p2, s2, e2, hp2, _⟩ := of_ok hc s1 [(⟨#[44]⟩ : ByteArray), (⟨#[59]⟩ : ByteArray), (⟨#[59]⟩ : ByteArray), (⟨#[]⟩ : ByteArray), (⟨#[97, 98]⟩ : ByteArray)] (show 0 ≤ p1 by omega) (by omega) (by simp)
      refine ⟨l, m, Ev.step (fun k => by rw [spec_DrawJoinStrings.l0]) ?_, by omega, hx⟩
      simp only [if_neg hin, eo, hb, Option.bind_some, Bool.false_eq_true, if_false, e2]
      exact Ev.now _
    | true =>
      obtain ⟨z, p2, s2, e2, hp2, z0, z1⟩ := pick_ok hc s1 20 (show 0 ≤ p1 by omega) (by omega)
      have z1 := z1 (by omega)
      obtain ⟨m, p3, s3, e3, hp3, _⟩ := of_ok hc s2 [(⟨#[44]⟩ : ByteArray), (⟨#[59]⟩ : ByteArray), (⟨#[59]⟩ : ByteArray), (⟨#[]⟩ : ByteArray), (⟨#[97, 98]⟩ : ByteArray)] (show 0 ≤ p2 by omega) (by omega) (by simp)
      have ew : wrap64 (3990 + z) = 3990 + z := w64 (by omega) (by omega)
      refine ⟨l ++ [strOfNums (List.replicate (3990 + z).toNat 0)], m, Ev.step (fun k => by rw [spec_DrawJoinStrings.l0]) ?_, by rw [List.length_append, List.length_singleton]; omega, ?_⟩
      · simp only [if_neg hin, eo, hb, Option.bind_some, if_true, e2, ew, if_pos (show 0 ≤ 3990 + z by omega), if_pos (show (3990 + z : Int).toNat ≤ 281474976710656 by omega), if_pos (show l.length < 8796093022208 by omega), e3]
        exact Ev.now _
      · intro x h
        rcases List.mem_append.1 h with h | h
        · exact hx x h
        · rw [List.mem_singleton.1 h, strOfNums_size, List.length_replicate]
          omega
  intro d
  induction d with
  | zero =>
    intro i l p s h hl hx h0 h1 n n0 n1
    exact last i l p s n (by omega) hx h0 (by omega) (by omega)
  | succ d ih =>
    intro i l p s h hl hx h0 h1 n n0 n1
    by_cases hin : (i : Int) < n
    · obtain ⟨x, p1, s1, e1, hp1, hsz⟩ := any1_ok hc s h0 (by omega)
      have ei : wrap64 ((i : Int) + 1) = ((i + 1 : Nat) : Int) := by rw [w64 (by omega) (by omega)]; exact (Int.natCast_add i 1).symm
      obtain ⟨L, m, hL, h2, h3⟩ := ih (i + 1) (l ++ [x]) p1 s1 (by omega) (by rw [List.length_append, List.length_singleton]; omega) (by
        intro y hy
        rcases List.mem_append.1 hy with hy | hy
        · exact hx y hy
        · rw [List.mem_singleton.1 hy]; omega) (by omega) (by omega) n n0 n1
      refine ⟨L, m, Ev.step (fun k => by rw [spec_DrawJoinStrings.l0]) ?_, h2, h3⟩
      simp only [if_pos hin, e1, Option.bind_some, if_pos (show l.length < 8796093022208 by omega), ei]
      exact hL
    · exact last i l p s n (by omega) hx h0 (by omega) hin
theorem drawJoin_ok {c : List Int} (hc : Code8 c) : ∃ L m, Ev (fun k => spec_DrawJoinStrings.f k c) (L, m) ∧ L.length ≤ 4 ∧ ∀ x ∈ L, x.size ≤ 4010 := by
  unfold spec_DrawJoinStrings.f
  obtain ⟨n, p1, s1, e1, hp1, n0, n1⟩ := pick_ok hc (p := 0) 0 4 (by omega) (by omega)
  have n1 := n1 (by omega)
  simp only [e1, Option.bind_some]
  exact drawJoin_l0 hc 3 0 [] p1 s1 rfl rfl (fun x hx => by cases hx) (by omega) (by omega) n n0 (by omega)
theorem less_anti (a b : ByteArray) (h : Op.bytesLess a.toList b.toList = true) : Op.bytesLess b.toList a.toList = false := by
  generalize a.toList = x at h ⊢
  generalize b.toList = y at h ⊢
  induction x generalizing y with
  | nil =>
    cases y with
    | nil => simp [Op.bytesLess] at h
    | cons d y => simp [Op.bytesLess]
  | cons e x ih =>
    cases y with
    | nil => simp [Op.bytesLess] at h
    | cons d y =>
      simp only [Op.bytesLess] at h ⊢
      by_cases hed : e = d
      · subst hed
        simp only [UInt8.lt_irrefl, decide_false, Bool.false_or, beq_self_eq_true, Bool.true_and] at h ⊢
        exact ih y h
      · have h1 : e < d := by simpa [hed] using h
        have h2 : ¬ d < e := fun h2 => absurd (UInt8.lt_trans h1 h2) (UInt8.lt_irrefl _)
        simp [h2, Ne.symm hed]
theorem spl_no (c : UInt8) : ∀ (l p x : List UInt8), c ∉ p → x ∈ spl c p l → c ∉ x
  | [], p, x, hp, h => by
    rw [spl, List.mem_singleton] at h
    subst h
    exact hp
  | b :: l, p, x, hp, h => by
    rw [spl] at h
    split at h
    · rcases List.mem_cons.1 h with rfl | h
      · exact hp
      · exact spl_no c l [] x (by simp) h
    · rename_i hb
      exact spl_no c l _ x (fun e => by
        rcases List.mem_append.1 e with e | e
        · exact hp e
        · exact hb (List.mem_singleton.1 e).symm) h
theorem backJoin (s : ByteArray) (c : UInt8) (hs : s.size ≤ 10) : Ev (fun k => impl_JoinStrings.f k ((spl c [] s.data.toList).map fun x => (⟨x.toArray⟩ : ByteArray)) ⟨#[c]⟩) (s, true) := by
  have hz := ba_size s
  have h1 := spl_len c s.data.toList []
  have hj := spl_join c s.data.toList []
  have hne : 0 < ((spl c [] s.data.toList).map fun x => (⟨x.toArray⟩ : ByteArray)).length := by
    rw [List.length_map]
    exact List.length_pos_iff.2 (spl_ne c _ _)
  have ht := tl_len1 c _ hne
  rw [hj, List.nil_append] at ht
  have hsz : ∀ x ∈ ((spl c [] s.data.toList).map fun x => (⟨x.toArray⟩ : ByteArray)), x.size ≤ 1048576 := by
    intro x hx
    obtain ⟨y, hy, rfl⟩ := List.mem_map.1 hx
    rw [ba_size]
    have := spl_sizes c s.data.toList [] y hy
    show y.length ≤ _
    simp only [List.length_nil] at this
    omega
  refine Ev.as ((implJoin_ev _ _ (by rw [List.length_map]; omega) hsz).1 c hne rfl) ?_
  unfold JoinR
  rw [if_pos ⟨fun x hx => by
    obtain ⟨y, hy, rfl⟩ := List.mem_map.1 hx
    exact spl_no c _ [] y (by simp) hy, by omega⟩, hj]
  rfl

theorem FnSplitJoin : laws_FnSplitJoin.Pure := by
  intro c hw
  refine Ev.rounds ?_
  unfold laws_FnSplitJoin.f laws_vBig.f
  simp only [Option.bind_some]
  by_cases hb : decide ((c.length : Int) > 65536) = true
  · simp only [if_pos hb]; exact Ev.now _
  · simp only [if_neg hb]
    have hlen : ¬ (c.length : Int) > 65536 := fun e => hb (decide_eq_true e)
    have hc : Code8 c := code8 (by omega) hw.2
    obtain ⟨s, sep, e1, hs⟩ := drawSplit_ok hc
    obtain ⟨L, m, hL, hl, hx⟩ := drawJoin_ok hc
    obtain ⟨a, b, e3⟩ := drawLess_ok hc
    obtain ⟨R, hS, hI⟩ := joinBoth L m (by omega) (fun x h => by have := hx x h; omega)
    have fin : ∀ t : Bool, t = false → Ev (fun k => laws_FnSplitJoin.j0 k s sep (if sep.size = 1 then (spl (sep.data.toList.getD 0 0) [] s.data.toList).map (fun x => (⟨x.toArray⟩ : ByteArray)) else []) (decide (sep.size = 1)) t) true := by
      intro t ht
      subst ht
      refine Ev.step (fun k => by rw [laws_FnSplitJoin.j0]) ?_
      simp only [Bool.false_eq_true, if_false]
      by_cases h1 : sep.size = 1
      · obtain ⟨z, rfl⟩ := Lib.one_byte sep h1
        have hz : (⟨#[z]⟩ : ByteArray).size = 1 := rfl
        have hg : (⟨#[z]⟩ : ByteArray).data.toList.getD 0 0 = z := rfl
        simp only [hz, if_true, decide_true, hg, show ((1 : Nat) : Int) = 1 from rfl]
        refine Ev.bind (backJoin s z hs) ?_
        simp only [if_true, beq_self_eq_true]
        exact Ev.now _
      · simp only [if_neg (show ¬ (sep.size : Int) = 1 by omega), decide_eq_false h1, Bool.false_eq_true, if_false, if_neg h1]
        exact Ev.now _
    have e2 : impl_SplitString.f s sep = some ((if sep.size = 1 then (spl (sep.data.toList.getD 0 0) [] s.data.toList).map (fun x => (⟨x.toArray⟩ : ByteArray)) else []), decide (sep.size = 1)) := by
      unfold impl_SplitString.f
      rw [if_neg (show ¬ (s.size : Int) > 4000 by omega)]
      by_cases h1 : sep.size = 1
      · obtain ⟨z, rfl⟩ := Lib.one_byte sep h1
        have hz : (⟨#[z]⟩ : ByteArray).size = 1 := rfl
        unfold strings_Split.f
        rw [if_pos (show ((⟨#[z]⟩ : ByteArray).size : Int) = 1 from rfl), if_pos ⟨by omega, by rw [hz]; omega⟩, Option.bind_some, splitB_spl, if_pos hz, decide_eq_true hz]
        rfl
      · rw [if_neg (show ¬ (sep.size : Int) = 1 by omega), if_neg h1, decide_eq_false h1]
    simp only [e1, e2, e3, Option.bind_some]
    refine Ev.bind hL (Ev.bind hI (Ev.bind hS ?_))
    unfold impl_LessString.f spec_LessString.f
    simp only [if_true, bne_self_eq_false, Bool.false_eq_true, if_false, Option.bind_some]
    by_cases ht : Op.bytesLess a.toList b.toList = true
    · simp only [if_pos ht]
      exact fin _ (less_anti a b ht)
    · simp only [if_neg ht]
      exact fin _ rfl


end Go.Proofs.YthgfndbbbhbkeaaDoor.Pure

