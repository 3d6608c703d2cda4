/- For any two texts the plain function of the law FnExactSplitString answers true. -/
import Derived.Test.YtonialldgodbiaaDoorPFnExactSplitStringx2
import Derived.Test.YtonialldgodbiaaDoorLib
set_option linter.unusedVariables false
set_option linter.unusedSimpArgs false
namespace Go.Proofs.YtonialldgodbiaaDoor.Pure
open Go.RowKit Go.Proofs.YtonialldgodbiaaDoor.PFnExactSplitString Go.Proofs.YtonialldgodbiaaDoorW.PrintWords Go.Proofs.YtonialldgodbiaaDoorW.PrintLast Go.Proofs.YtonialldgodbiaaDoor.Lib

theorem ba_ext {a b : ByteArray} (h : a.data.toList = b.data.toList) : a = b := by
  cases a; cases b
  simp only [ByteArray.mk.injEq]
  exact Array.toList_inj.1 h
theorem ba_app (a b : ByteArray) : (a ++ b).data.toList = a.data.toList ++ b.data.toList := by
  simp [ByteArray.data_append]
theorem ba_size (a : ByteArray) : a.size = a.data.toList.length := by
  cases a
  simp [ByteArray.size]
theorem bt_at (s : ByteArray) (i : Nat) (h : i < s.size) : bt s (i : Int) = ((s.data.toList[i]'(by rw [← ba_size]; exact h)).toNat : Int) := by
  unfold bt
  rw [Int.toNat_natCast, dif_pos h]
  congr 1

def spl (c : UInt8) : List UInt8 → List UInt8 → List (List UInt8)
  | p, [] => [p]
  | p, b :: r => if b = c then p :: spl c [] r else spl c (p ++ [b]) r
theorem spl_len (c : UInt8) : ∀ (l p : List UInt8), (spl c p l).length ≤ l.length + 1
  | [], p => by simp [spl]
  | b :: r, p => by
    rw [spl]
    split
    · have := spl_len c r []
      simp only [List.length_cons]; omega
    · have := spl_len c r (p ++ [b])
      simp only [List.length_cons]; omega
theorem ext_data (s : ByteArray) (a b : Nat) : (s.extract a b).data.toList = (s.data.toList.take b).drop a := by
  rw [ByteArray.data_extract, Array.toList_extract, List.extract_eq_take_drop, List.drop_take]
theorem l1Split_ev (s : ByteArray) (c : UInt8) (hs : s.size ≤ 1048576) : Ev (fun k => spec_l1Split.f k s (c.toNat : Int)) ((spl c [] s.data.toList).map fun x => (⟨x.toArray⟩ : ByteArray)) := by
  unfold spec_l1Split.f
  have key : ∀ (d i f : Nat) (o : List ByteArray), i + d = s.size → f ≤ i → o.length ≤ i → Ev (fun k => spec_l1Split.l0 k s (c.toNat : Int) o (f : Int) (i : Int)) (o ++ (spl c ((s.data.toList.take i).drop f) (s.data.toList.drop i)).map fun x => (⟨x.toArray⟩ : ByteArray)) := by
    intro d
    induction d with
    | zero =>
      intro i f o h hf ho
      refine Ev.step (fun k => by rw [spec_l1Split.l0]) ?_
      simp only [if_neg (show ¬ (i : Int) < (s.size : Int) by omega), if_pos (show 0 ≤ (f : Int) by omega), if_pos (show (f : Int) ≤ (s.size : Int) by omega), if_pos (show o.length < 8796093022208 by omega), Int.toNat_natCast]
      refine Ev.some ?_
      have hi : i = s.size := by omega
      have hd : s.data.toList.drop i = [] := List.drop_eq_nil_of_le (by rw [← ba_size]; omega)
      have hx : s.extract f s.size = ⟨((s.data.toList.take i).drop f).toArray⟩ := ba_ext (by rw [ext_data, hi])
      rw [hd, spl, List.map_cons, List.map_nil, hx]
    | succ d ih =>
      intro i f o h hf ho
      have hi : i < s.size := by omega
      have hi2 : i < s.data.toList.length := by rw [← ba_size]; exact hi
      have ei : wrap64 ((i : Int) + 1) = ((i + 1 : Nat) : Int) := by rw [w64 (by omega) (by omega)]; exact (Int.natCast_add i 1).symm
      refine Ev.step (fun k => by rw [spec_l1Split.l0]) ?_
      simp only [if_pos (show (i : Int) < (s.size : Int) by omega), if_pos (show 0 ≤ (i : Int) by omega), bt_at s i hi, ei, if_pos (show 0 ≤ (f : Int) by omega), if_pos (show (f : Int) ≤ (i : Int) by omega), if_pos (show (i : Int) ≤ (s.size : Int) by omega), if_pos (show o.length < 8796093022208 by omega), Int.toNat_natCast]
      rw [List.drop_eq_getElem_cons hi2]
      by_cases hc : s.data.toList[i] = c
      · simp only [if_pos (show (s.data.toList[i].toNat : Int) = (c.toNat : Int) by rw [hc])]
        refine Ev.as (ih (i + 1) (i + 1) (o ++ [s.extract f i]) (by omega) (by omega) (by rw [List.length_append]; simp; omega)) ?_
        have hd : (s.data.toList.take (i + 1)).drop (i + 1) = [] := List.drop_eq_nil_of_le (by rw [List.length_take]; omega)
        have hx : s.extract f i = ⟨((s.data.toList.take i).drop f).toArray⟩ := ba_ext (by rw [ext_data])
        rw [spl, if_pos hc, hd, List.append_assoc, List.map_cons, hx]
        rfl
      · simp only [if_neg (show ¬ (s.data.toList[i].toNat : Int) = (c.toNat : Int) from fun e => hc (UInt8.toNat_inj.1 (by omega)))]
        refine Ev.as (ih (i + 1) f o (by omega) (by omega) (by omega)) ?_
        have hd : (s.data.toList.take (i + 1)).drop f = (s.data.toList.take i).drop f ++ [s.data.toList[i]] := by
          rw [List.take_add_one, List.getElem?_eq_getElem hi2, List.drop_append_of_le_length (by rw [List.length_take]; omega)]
          rfl
        rw [spl, if_neg hc, hd]
  have h := key s.size 0 0 [] (by omega) (by omega) (by simp)
  rw [List.drop_zero, List.nil_append] at h
  exact h

theorem spl_pre (c : UInt8) : ∀ (l p : List UInt8), c ∉ l → spl c p l = [p ++ l]
  | [], p, _ => by simp [spl]
  | b :: r, p, h => by
    rw [spl, if_neg (fun e => h (by rw [e]; exact List.mem_cons_self)), spl_pre c r (p ++ [b]) (fun e => h (List.mem_cons_of_mem _ e))]
    simp
theorem spl_hit (c : UInt8) : ∀ (l p r : List UInt8), c ∉ l → spl c p (l ++ c :: r) = (p ++ l) :: spl c [] r
  | [], p, r, _ => by simp [spl]
  | b :: l, p, r, h => by
    rw [List.cons_append, spl, if_neg (fun e => h (by rw [e]; exact List.mem_cons_self)), spl_hit c l (p ++ [b]) r (fun e => h (List.mem_cons_of_mem _ e))]
    simp
theorem index_one (c : UInt8) : ∀ l : List UInt8, (Lib.index l [c] = -1 ∧ c ∉ l) ∨ ∃ i : Nat, Lib.index l [c] = i ∧ ∃ a r, l = a ++ c :: r ∧ c ∉ a ∧ a.length = i
  | [] => .inl ⟨by simp [Lib.index], by simp⟩
  | b :: l => by
    rw [Lib.index]
    by_cases h : b = c
    · subst h
      refine .inr ⟨0, by simp [List.isPrefixOf], [], l, rfl, by simp, rfl⟩
    · have hp : ([c] : List UInt8).isPrefixOf (b :: l) = false := by simp [List.isPrefixOf, Ne.symm h]
      rw [hp]
      rcases index_one c l with ⟨h1, h2⟩ | ⟨i, h1, a, r, rfl, h3, h4⟩
      · refine .inl ⟨by rw [h1]; rfl, ?_⟩
        intro e
        rcases List.mem_cons.1 e with e | e
        · exact h e.symm
        · exact h2 e
      · refine .inr ⟨i + 1, ?_, b :: a, r, rfl, ?_, by simp [h4]⟩
        · have hne : (Lib.index (a ++ c :: r) [c] == -1) = false := beq_eq_false_iff_ne.2 (by omega)
          rw [hne, h1]
          simp
        · intro e
          rcases List.mem_cons.1 e with e | e
          · exact h e.symm
          · exact h3 e
theorem splitK_spl (c : UInt8) : ∀ (k : Nat) (l : List UInt8), l.count c ≤ k → Lib.splitK [c] 0 k l = spl c [] l
  | 0, l, h => by
    have hn : c ∉ l := fun e => by have := List.count_pos_iff.2 e; omega
    rw [Lib.splitK, spl_pre c l [] hn, List.nil_append]
  | k + 1, l, h => by
    rw [Lib.splitK]
    rcases index_one c l with ⟨h1, h2⟩ | ⟨i, h1, a, r, rfl, h3, h4⟩
    · rw [if_pos (beq_iff_eq.2 h1), spl_pre c l [] h2, List.nil_append]
    · have hne : ¬ (Lib.index (a ++ c :: r) [c] == -1) = true := fun e => by have := beq_iff_eq.1 e; omega
      rw [if_neg hne, spl_hit c a [] r h3, List.nil_append]
      have e1 : (Lib.index (a ++ c :: r) [c]).toNat = a.length := by omega
      rw [e1, Nat.add_zero, List.take_left']
      · have e2 : (a ++ c :: r).drop (a.length + ([c] : List UInt8).length) = r := by
          rw [← List.drop_drop, List.drop_left']
          · rfl
          · rfl
        rw [e2, splitK_spl c k r (by
          rw [List.count_append, List.count_cons_self] at h
          omega)]
      · rfl
theorem splitB_spl (s : ByteArray) (c : UInt8) : Lib.splitB ⟨#[c]⟩ 0 (Lib.countB s ⟨#[c]⟩) s = (spl c [] s.data.toList).map fun x => (⟨x.toArray⟩ : ByteArray) := by
  have h := Lib.splitB_data ⟨#[c]⟩ 0 (Lib.countB s ⟨#[c]⟩) s
  have hc : Lib.countB s ⟨#[c]⟩ = s.data.toList.count c := Lib.count_one c _
  have h2 : (Lib.splitB ⟨#[c]⟩ 0 (Lib.countB s ⟨#[c]⟩) s).map (·.data.toList) = spl c [] s.data.toList := by
    rw [h]
    exact splitK_spl c _ _ (by rw [hc]; exact Nat.le_refl _)
  rw [← h2, List.map_map]
  exact (List.map_id' _).symm

theorem rdStr (l : List ByteArray) (i : Nat) (h : i < l.length) : rdOf ByteArray.empty l (i : Int) = l[i] := by
  unfold rdOf
  rw [Int.toNat_natCast]
  exact getD_lt _ h
theorem rdStr' (l : List ByteArray) (i : Int) (h0 : 0 ≤ i) (h : i < l.length) : rdOf ByteArray.empty l i = l[i.toNat]'(by omega) := by
  unfold rdOf
  exact getD_lt _ (show i.toNat < l.length by omega)

theorem eqStringS_self (l : List ByteArray) (hl : l.length ≤ 1048576) : Ev (fun k => laws_eqStringS.f k l l) true := by
  unfold laws_eqStringS.f
  simp only [if_true]
  exact Ev.fold (l := fun k (_ : Unit) i => laws_eqStringS.l0 k l l i) (n := l.length) (fun _ => ()) (a := true)
    (fun i h0 h1 r h => by
      refine Ev.step (fun k => by rw [laws_eqStringS.l0]) ?_
      simp only [if_pos h1, if_pos h0, if_true, w64 (show -9223372036854775808 ≤ i + 1 by omega) (by omega)]
      exact h)
    (by
      refine Ev.step (fun k => by rw [laws_eqStringS.l0]) ?_
      simp only [if_neg (show ¬ (l.length : Int) < (l.length : Int) by omega)]
      exact Ev.now _)
    l.length 0 (by omega) (by omega)

theorem markText_l0 : ∀ (d u : Nat) (t : ByteArray), u ≤ d → u ≤ 4611686018427387904 → t.size + d ≤ 4611686018427387904 → ∃ r, Ev (fun k => laws_markText.l0 k (u : Int) t) r
  | d, 0, t, _, _, ht => by
    refine ⟨(⟨#[109]⟩ : ByteArray) ++ t, Ev.step (fun k => by rw [laws_markText.l0]) ?_⟩
    simp only [if_neg (show ¬ ((0 : Nat) : Int) > 0 by omega), if_pos (show 1 + t.size ≤ 9223372036854775807 by omega)]
    exact Ev.now _
  | 0, u + 1, t, h, _, _ => absurd h (by omega)
  | d + 1, u + 1, t, h, h2, ht => by
    have hz : ∀ y : Int, (strOfNums [y]).size = 1 := fun y => strOfNums_size [y]
    have e2 : Int.tdiv ((u + 1 : Nat) : Int) 10 = (((u + 1) / 10 : Nat) : Int) := by
      rw [show (10 : Int) = ((10 : Nat) : Int) from rfl, ← Int.ofNat_tdiv]
    have e4 : wrap64 (((u + 1) / 10 : Nat) : Int) = (((u + 1) / 10 : Nat) : Int) := w64 (by omega) (by omega)
    obtain ⟨r, hr⟩ := markText_l0 d ((u + 1) / 10) (strOfNums [wrap64 (48 + (Int.tmod ((u + 1 : Nat) : Int) 10)) % 256] ++ t) (by omega) (by omega) (by rw [ByteArray.size_append, hz]; omega)
    refine ⟨r, Ev.step (fun k => by rw [laws_markText.l0]) ?_⟩
    simp only [if_pos (show ((u + 1 : Nat) : Int) > 0 by omega), Option.bind_some, hz, if_pos (show 1 + t.size ≤ 9223372036854775807 by omega), e2, e4]
    exact hr
theorem markText_ex (m : Int) (h : m ≤ 4611686018427387904) : ∃ r, Ev (fun k => laws_markText.f k m) r := by
  unfold laws_markText.f
  by_cases h0 : m ≤ 0
  · exact ⟨_, by simp only [if_pos h0]; exact Ev.now _⟩
  · obtain ⟨u, hu⟩ : ∃ u : Nat, m = (u : Int) := ⟨m.toNat, by omega⟩
    subst hu
    have hz : (⟨#[]⟩ : ByteArray).size = 0 := rfl
    obtain ⟨r, hr⟩ := markText_l0 u u ⟨#[]⟩ (Nat.le_refl _) (by omega) (by rw [hz]; omega)
    exact ⟨r, by simp only [if_neg h0]; exact hr⟩
open Classical in
noncomputable def mt (m : Int) : ByteArray := if h : m ≤ 4611686018427387904 then (markText_ex m h).choose else ⟨#[]⟩
theorem mt_ev (m : Int) (h : m ≤ 4611686018427387904) : Ev (fun k => laws_markText.f k m) (mt m) := by
  unfold mt
  rw [dif_pos h]
  exact (markText_ex m h).choose_spec
noncomputable def marksT (m : Int) (n : Nat) : List ByteArray := (List.range n).map fun (i : Nat) => mt (m + i)
theorem marksT_length (m : Int) (n : Nat) : (marksT m n).length = n := by
  unfold marksT
  rw [List.length_map, List.length_range]
theorem rd_marksT (m : Int) (n : Nat) (i : Int) (h0 : 0 ≤ i) (h1 : i < n) : rdOf ByteArray.empty (marksT m n) i = mt (m + i) := by
  have hi : i < ((marksT m n).length : Int) := by rw [marksT_length]; exact h1
  rw [rdStr' _ i h0 hi]
  unfold marksT
  rw [List.getElem_map, List.getElem_range, Int.toNat_of_nonneg h0]
theorem markStringS_ev (l : List ByteArray) (hl : l.length ≤ 1073741824) (m : Int) (hm : 0 ≤ m) (hm2 : m ≤ 2305843009213693952) : Ev (fun k => laws_markStringS.f k l m) (m + l.length, marksT m l.length) := by
  unfold laws_markStringS.f
  have h := Ev.fold (l := fun k (s : List ByteArray × Int) i => laws_markStringS.l0 k s.1 s.2 i) (n := l.length) (fun i => (marksT m i.toNat ++ l.drop i.toNat, m + i)) (a := (m + l.length, marksT m l.length))
    (fun i h0 h1 r h => by
      refine Ev.step (fun k => by rw [laws_markStringS.l0]) ?_
      have hx : i < ((marksT m i.toNat ++ l.drop i.toNat).length : Int) := by
        rw [List.length_append, marksT_length, List.length_drop]; omega
      have e : l.drop i.toNat = l[i.toNat]'(by omega) :: l.drop (i + 1).toNat := by
        rw [toNat_succ h0]; exact List.drop_eq_getElem_cons (by omega)
      have e2 : marksT m (i + 1).toNat = marksT m i.toNat ++ [mt (m + i)] := by
        rw [toNat_succ h0]; unfold marksT; rw [List.range_succ, List.map_append]; simp; rw [show max i 0 = i by omega]
      have e3 : (marksT m i.toNat ++ l.drop i.toNat).set i.toNat (mt (m + i)) = marksT m (i + 1).toNat ++ l.drop (i + 1).toNat := by
        rw [List.set_append_right _ _ (by rw [marksT_length]; omega), marksT_length, Nat.sub_self, e, List.set_cons_zero, e2, List.append_assoc]
        rfl
      simp only [if_pos hx]
      refine Ev.bind (mt_ev (m + i) (by omega)) ?_
      simp only [if_pos h0, w64 (show -9223372036854775808 ≤ i + 1 by omega) (by omega), w64 (show -9223372036854775808 ≤ m + i + 1 by omega) (by omega), e3]
      simp only [← Int.add_assoc] at h
      exact h)
    (by
      refine Ev.step (fun k => by rw [laws_markStringS.l0]) ?_
      have hx : ¬ (l.length : Int) < ((marksT m (l.length : Int).toNat ++ l.drop (l.length : Int).toNat).length : Int) := by
        rw [List.length_append, marksT_length, List.length_drop]; omega
      simp only [if_neg hx]
      exact Ev.some (by simp))
    l.length 0 (by omega) (by omega)
  simpa [marksT] using h
theorem heldStringS_ev (n : Nat) (hn : n ≤ 1073741824) (m : Int) (hm : 0 ≤ m) (hm2 : m ≤ 2305843009213693952) : Ev (fun k => laws_heldStringS.f k (marksT m n) m) (m + n) := by
  unfold laws_heldStringS.f
  have h := Ev.fold (l := fun k (s : Int) i => laws_heldStringS.l0 k (marksT m n) s i) (n := n) (fun i => m + i) (a := m + n)
    (fun i h0 h1 r h => by
      refine Ev.step (fun k => by rw [laws_heldStringS.l0]) ?_
      simp only [marksT_length, if_pos h1, if_pos h0]
      refine Ev.bind (mt_ev (m + i) (by omega)) ?_
      simp only [rd_marksT m n i h0 h1, if_true, w64 (show -9223372036854775808 ≤ i + 1 by omega) (by omega), w64 (show -9223372036854775808 ≤ m + i + 1 by omega) (by omega)]
      simp only [← Int.add_assoc] at h
      exact h)
    (by
      refine Ev.step (fun k => by rw [laws_heldStringS.l0]) ?_
      simp only [marksT_length, if_neg (show ¬ (n : Int) < (n : Int) by omega)]
      exact Ev.now _)
    n 0 (by omega) (by omega)
  simpa using h

theorem specSplit_ev (s sep : ByteArray) : ∃ R : List ByteArray × Bool, Ev (fun k => spec_SplitString.f k s sep) R ∧ impl_SplitString.f s sep = some R ∧ R.1.length ≤ 4001 := by
  unfold spec_SplitString.f impl_SplitString.f
  by_cases h1 : sep.size = 1
  · obtain ⟨c, rfl⟩ := Lib.one_byte sep h1
    have hz : (⟨#[c]⟩ : ByteArray).size = 1 := rfl
    have hb : bt ⟨#[c]⟩ 0 = (c.toNat : Int) := bt_at ⟨#[c]⟩ 0 (by rw [hz]; omega)
    by_cases h4 : (s.size : Int) > 4000
    · refine ⟨([], false), ?_, ?_, by simp⟩
      · simp only [hz, if_pos (show ((1 : Nat) : Int) = 1 from rfl), if_pos h4]; exact Ev.now _
      · simp only [if_pos h4]
    · refine ⟨((spl c [] s.data.toList).map fun x => (⟨x.toArray⟩ : ByteArray), true), ?_, ?_, ?_⟩
      · simp only [hz, if_pos (show ((1 : Nat) : Int) = 1 from rfl), if_neg h4, if_pos (show (0 : Int) < ((1 : Nat) : Int) by omega), hb]
        exact Ev.bind (l1Split_ev s c (by omega)) (Ev.now _)
      · simp only [hz, if_pos (show ((1 : Nat) : Int) = 1 from rfl), if_neg h4]
        unfold strings_Split.f
        rw [if_pos ⟨by omega, by rw [hz]; omega⟩, Option.bind_some, splitB_spl]
      · have := spl_len c s.data.toList []
        rw [← ba_size] at this
        rw [List.length_map]
        omega
  · have hn : ¬ (sep.size : Int) = 1 := by omega
    refine ⟨([], false), ?_, ?_, by simp⟩
    · simp only [if_neg hn]; exact Ev.now _
    · by_cases h4 : (s.size : Int) > 4000
      · simp only [if_pos h4]
      · simp only [if_neg h4, if_neg hn]

theorem FnExactSplitString : laws_FnExactSplitString.Pure := by
  intro s sep _ _
  refine Ev.rounds ?_
  unfold laws_FnExactSplitString.f
  by_cases h : (s.size : Int) > 1048576
  · simp only [if_pos h]; exact Ev.now _
  · by_cases h2 : (sep.size : Int) > 1048576
    · simp only [if_neg h, if_pos h2]; exact Ev.now _
    · simp only [if_neg h, if_neg h2]
      obtain ⟨R, hS, hI, hl⟩ := specSplit_ev s sep
      have hq := eqStringS_self R.1 (by omega)
      have hh := heldStringS_ev R.1.length (by omega) 1 (by omega) (by omega)
      have hm := markStringS_ev R.1 (by omega) 1 (by omega) (by omega)
      refine Ev.bind hS ?_
      simp only [hI, Option.bind_some]
      refine Ev.bind hq ?_
      simp only [if_true, bne_self_eq_false]
      refine Ev.step (fun k => by rw [laws_FnExactSplitString.j0]) ?_
      simp only [Bool.false_eq_true, if_false, hI, Option.bind_some]
      refine Ev.bind hm (Ev.bind hh ?_)
      simp only [if_neg (show ¬ (1 + (R.1.length : Int) < 0) by omega), if_true]
      refine Ev.bind hq ?_
      simp only [if_true, bne_self_eq_false]
      refine Ev.step (fun k => by rw [laws_FnExactSplitString.j1]) ?_
      simp only [Bool.false_eq_true, if_false]
      refine Ev.bind hh ?_
      simp only [if_neg (show ¬ (1 + (R.1.length : Int) < 0) by omega), if_true]
      exact Ev.now _


end Go.Proofs.YtonialldgodbiaaDoor.Pure

