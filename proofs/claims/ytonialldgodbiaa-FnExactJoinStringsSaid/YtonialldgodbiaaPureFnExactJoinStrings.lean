/- For every list and separator the plain function of the law FnExactJoinStrings answers true. -/
import Derived.Test.YtonialldgodbiaaPFnExactJoinStringsx2
import Derived.Test.YtonialldgodbiaaLib
set_option linter.unusedVariables false
set_option linter.unusedSimpArgs false
namespace Go.Proofs.Ytonialldgodbiaa.Pure
open Go.RowKit Go.Proofs.Ytonialldgodbiaa.PFnExactJoinStrings Go.Proofs.YtonialldgodbiaaW.PrintWords Go.Proofs.YtonialldgodbiaaW.PrintLast Go.Proofs.Ytonialldgodbiaa.Lib

theorem ba_ext {a b : ByteArray} (h : a.data.toList = b.data.toList) : a = b := by
  cases a; cases b
  simp only [ByteArray.mk.injEq]
  exact Array.toList_inj.1 h
theorem ba_app (a b : ByteArray) : (a ++ b).data.toList = a.data.toList ++ b.data.toList := by
  simp [ByteArray.data_append]
theorem ba_size (a : ByteArray) : a.size = a.data.toList.length := by
  cases a
  simp [ByteArray.size]
theorem bt_at (s : ByteArray) (i : Nat) (h : i < s.size) : bt s (i : Int) = ((s.data.toList[i]'(by rw [← ba_size]; exact h)).toNat : Int) := by
  unfold bt
  rw [Int.toNat_natCast, dif_pos h]
  congr 1
theorem index_mem (l : List UInt8) (c : UInt8) : 0 ≤ Lib.indexByte l c ↔ c ∈ l := by
  induction l with
  | nil => simp [Lib.indexByte]
  | cons b l ih =>
    rw [Lib.indexByte]
    by_cases h : b = c
    · subst h
      simp
    · have hb : (b == c) = false := beq_eq_false_iff_ne.2 h
      rw [hb, if_neg (by simp), List.mem_cons]
      by_cases h2 : Lib.indexByte l c = -1
      · rw [h2]
        simp only [beq_self_eq_true, if_true]
        constructor
        · intro e; omega
        · rintro (e | e)
          · exact absurd e.symm h
          · have := ih.2 e
            omega
      · have hb2 : (Lib.indexByte l c == -1) = false := beq_eq_false_iff_ne.2 h2
        rw [hb2, if_neg (by simp)]
        have hge : -1 ≤ Lib.indexByte l c := by
          clear ih h2 hb2
          induction l with
          | nil => simp [Lib.indexByte]
          | cons a l ih2 =>
            rw [Lib.indexByte]
            split
            · omega
            · split
              · omega
              · omega
        constructor
        · intro e
          exact .inr (ih.1 (by omega))
        · rintro (e | e)
          · exact absurd e.symm h
          · have := ih.2 e
            omega
theorem l1Stands_ev (s : ByteArray) (c : UInt8) (hs : s.size ≤ 4611686018427387904) : Ev (fun k => spec_l1Stands.f k s (c.toNat : Int)) (decide (c ∈ s.data.toList)) := by
  unfold spec_l1Stands.f
  have key : ∀ (d i : Nat), i + d = s.size → Ev (fun k => spec_l1Stands.l0 k s (c.toNat : Int) (i : Int)) (decide (c ∈ s.data.toList.drop i)) := by
    intro d
    induction d with
    | zero =>
      intro i h
      refine Ev.step (fun k => by rw [spec_l1Stands.l0]) ?_
      simp only [if_neg (show ¬ (i : Int) < (s.size : Int) by omega)]
      rw [List.drop_eq_nil_of_le (by rw [← ba_size]; omega)]
      exact Ev.some (by simp)
    | succ d ih =>
      intro i h
      have hi : i < s.size := by omega
      have hi2 : i < s.data.toList.length := by rw [← ba_size]; exact hi
      have ei : wrap64 ((i : Int) + 1) = ((i + 1 : Nat) : Int) := by rw [w64 (by omega) (by omega)]; exact (Int.natCast_add i 1).symm
      refine Ev.step (fun k => by rw [spec_l1Stands.l0]) ?_
      simp only [if_pos (show (i : Int) < (s.size : Int) by omega), if_pos (show 0 ≤ (i : Int) by omega), bt_at s i hi, ei]
      rw [List.drop_eq_getElem_cons hi2]
      by_cases hc : s.data.toList[i] = c
      · simp only [if_pos (show (s.data.toList[i].toNat : Int) = (c.toNat : Int) by rw [hc])]
        exact Ev.some (by simp [hc])
      · simp only [if_neg (show ¬ (s.data.toList[i].toNat : Int) = (c.toNat : Int) from fun e => hc (UInt8.toNat_inj.1 (by omega)))]
        refine Ev.as (ih (i + 1) (by omega)) ?_
        rw [decide_eq_decide, List.mem_cons]
        constructor
        · exact .inr
        · rintro (e | e)
          · exact absurd e.symm hc
          · exact e
  have h := key s.size 0 (by omega)
  rw [List.drop_zero] at h
  exact h

theorem rdStr (l : List ByteArray) (i : Nat) (h : i < l.length) : rdOf ByteArray.empty l (i : Int) = l[i] := by
  unfold rdOf
  rw [Int.toNat_natCast]
  exact getD_lt _ h
theorem rdStr' (l : List ByteArray) (i : Int) (h0 : 0 ≤ i) (h : i < l.length) : rdOf ByteArray.empty l i = l[i.toNat]'(by omega) := by
  unfold rdOf
  exact getD_lt _ (show i.toNat < l.length by omega)
theorem szStringS_ev (l : List ByteArray) (hl : l.length ≤ maxLen) (hs : ∀ x ∈ l, x.size ≤ maxLen) : ∃ r, Ev (fun k => laws_szStringS.f k l 1048576) r ∧ (r < 0 ∨ (l.length ≤ 1048576 ∧ ∀ x ∈ l, x.size ≤ 1048576)) := by
  have key : ∀ (d i : Nat) (m : Int), i + d = l.length → 0 ≤ m → m ≤ 1048576 → (∀ x ∈ l.take i, x.size ≤ 1048576) → l.length ≤ 1048576 → ∃ r, Ev (fun k => laws_szStringS.l0 k l m (i : Int)) r ∧ (r < 0 ∨ (l.length ≤ 1048576 ∧ ∀ x ∈ l, x.size ≤ 1048576)) := by
    intro d
    induction d with
    | zero =>
      intro i m h h0 h1 ht hl2
      refine ⟨m, Ev.step (fun k => by rw [laws_szStringS.l0]) ?_, .inr ⟨hl2, fun x hx => ht x (by rw [List.take_of_length_le (by omega)]; exact hx)⟩⟩
      simp only [if_neg (show ¬ (i : Int) < (l.length : Int) by omega)]
      exact Ev.now _
    | succ d ih =>
      intro i m h h0 h1 ht hl2
      have hi : i < l.length := by omega
      have hsz := hs _ (List.getElem_mem hi)
      have hmx : (maxLen : Int) ≤ 9223372036854775807 := by decide
      have ew : wrap64 (m - ((l[i]).size : Int)) = m - ((l[i]).size : Int) := w64 (by omega) (by omega)
      have ei : wrap64 ((i : Int) + 1) = ((i + 1 : Nat) : Int) := by rw [w64 (by omega) (by omega)]; exact (Int.natCast_add i 1).symm
      by_cases hneg : m - ((l[i]).size : Int) < 0
      · refine ⟨-1, Ev.step (fun k => by rw [laws_szStringS.l0]) ?_, .inl (by omega)⟩
        simp only [if_pos (show (i : Int) < (l.length : Int) by omega), if_pos (show 0 ≤ (i : Int) by omega), rdStr l i hi, ew, if_pos hneg]
        exact Ev.now _
      · obtain ⟨r, hr, hp⟩ := ih (i + 1) (m - ((l[i]).size : Int)) (by omega) (by omega) (by omega) (fun x hx => by
          rw [List.take_add_one, List.getElem?_eq_getElem hi] at hx
          rcases List.mem_append.1 hx with hx | hx
          · exact ht x hx
          · have : x = l[i] := by simpa using hx
            rw [this]; omega) hl2
        refine ⟨r, Ev.step (fun k => by rw [laws_szStringS.l0]) ?_, hp⟩
        simp only [if_pos (show (i : Int) < (l.length : Int) by omega), if_pos (show 0 ≤ (i : Int) by omega), rdStr l i hi, ew, if_neg hneg, ei]
        exact hr
  have hmx : (maxLen : Int) ≤ 9223372036854775807 := by decide
  have ew : wrap64 (1048576 - (l.length : Int)) = 1048576 - (l.length : Int) := w64 (by omega) (by omega)
  unfold laws_szStringS.f
  by_cases hneg : 1048576 - (l.length : Int) < 0
  · refine ⟨-1, ?_, .inl (by omega)⟩
    simp only [ew, if_pos hneg]
    exact Ev.now _
  · obtain ⟨r, hr, hp⟩ := key l.length 0 (1048576 - (l.length : Int)) (by omega) (by omega) (by omega) (fun x hx => by simp at hx) (by omega)
    refine ⟨r, ?_, hp⟩
    simp only [ew, if_neg hneg]
    exact hr
theorem toStringS_ev (l : List ByteArray) (hl : l.length ≤ 1048576) : Ev (fun k => laws_toStringS.f k l) l := by
  unfold laws_toStringS.f
  simp only [if_pos (show 0 ≤ (l.length : Int) by omega), Int.toNat_natCast, if_pos (show l.length ≤ 17592186044416 by omega)]
  have h := Ev.fold (l := fun k (o : List ByteArray) i => laws_toStringS.l0 k l o i) (n := l.length) (fun i => l.take i.toNat ++ List.replicate (l.length - i.toNat) (⟨#[]⟩ : ByteArray)) (a := l)
    (fun i h0 h1 r h => by
      refine Ev.step (fun k => by rw [laws_toStringS.l0]) ?_
      have hi : i.toNat < l.length := by omega
      have hx : i < ((l.take i.toNat ++ List.replicate (l.length - i.toNat) (⟨#[]⟩ : ByteArray)).length : Int) := by
        rw [List.length_append, List.length_take, List.length_replicate]; omega
      simp only [if_pos h1, if_pos h0, if_pos hx, rdStr' l i h0 h1, w64 (show -9223372036854775808 ≤ i + 1 by omega) (by omega)]
      have e : (l.take i.toNat ++ List.replicate (l.length - i.toNat) (⟨#[]⟩ : ByteArray)).set i.toNat l[i.toNat] = l.take (i + 1).toNat ++ List.replicate (l.length - (i + 1).toNat) (⟨#[]⟩ : ByteArray) := by
        rw [List.set_append_right _ _ (by rw [List.length_take]; omega), List.length_take, Nat.min_eq_left (by omega), Nat.sub_self, show l.length - i.toNat = (l.length - (i + 1).toNat) + 1 by omega, List.replicate_succ, List.set_cons_zero, toNat_succ h0, List.take_add_one, List.getElem?_eq_getElem hi, List.append_assoc]
        rfl
      rw [e]
      exact h)
    (by
      refine Ev.step (fun k => by rw [laws_toStringS.l0]) ?_
      simp only [if_neg (show ¬ (l.length : Int) < (l.length : Int) by omega)]
      exact Ev.some (by simp))
    l.length 0 (by omega) (by omega)
  simpa using h
theorem eqStringS_self (l : List ByteArray) (hl : l.length ≤ 1048576) : Ev (fun k => laws_eqStringS.f k l l) true := by
  unfold laws_eqStringS.f
  simp only [if_true]
  exact Ev.fold (l := fun k (_ : Unit) i => laws_eqStringS.l0 k l l i) (n := l.length) (fun _ => ()) (a := true)
    (fun i h0 h1 r h => by
      refine Ev.step (fun k => by rw [laws_eqStringS.l0]) ?_
      simp only [if_pos h1, if_pos h0, if_true, w64 (show -9223372036854775808 ≤ i + 1 by omega) (by omega)]
      exact h)
    (by
      refine Ev.step (fun k => by rw [laws_eqStringS.l0]) ?_
      simp only [if_neg (show ¬ (l.length : Int) < (l.length : Int) by omega)]
      exact Ev.now _)
    l.length 0 (by omega) (by omega)

def tl (sep : List UInt8) : Bool → List ByteArray → List UInt8
  | _, [] => []
  | first, x :: r => (if first = true then [] else sep) ++ x.data.toList ++ tl sep false r
theorem tl_join (sep : List UInt8) (x : ByteArray) (r : List ByteArray) : Lib.join ((x :: r).map (·.data.toList)) sep = tl sep true (x :: r) := by
  have h : ∀ r : List ByteArray, Lib.joinTail sep (r.map (·.data.toList)) = tl sep false r := by
    intro r
    induction r with
    | nil => rfl
    | cons y r ih =>
      rw [List.map_cons, tl, ← ih]
      simp [Lib.joinTail]
  rw [List.map_cons, Lib.join_cons, h, tl]
  simp
def sizes : List ByteArray → Nat
  | [] => 0
  | x :: r => x.size + sizes r
theorem tl_len (sep : List UInt8) (hs : sep.length = 1) : ∀ (l : List ByteArray), (tl sep false l).length = sizes l + l.length
  | [] => rfl
  | x :: r => by
    rw [tl, List.length_append, tl_len sep hs r, if_neg (by simp), List.length_append, hs, ← ba_size, sizes, List.length_cons]
    omega
open Classical in
noncomputable def JoinR (l : List ByteArray) (c : UInt8) : ByteArray × Bool := if (∀ x ∈ l, c ∉ x.data.toList) ∧ sizes l + (l.length - 1) ≤ 4000 then (⟨(tl [c] true l).toArray⟩, true) else (⟨#[]⟩, false)
open Classical in
theorem specJoin_l0 (l : List ByteArray) (c : UInt8) (hl : l.length ≤ 1048576) (hs : ∀ x ∈ l, x.size ≤ 1048576) : ∀ (d i : Nat) (o : ByteArray), i + d = l.length → o.size ≤ 4000 →
    Ev (fun k => spec_JoinStrings.l0 k l ⟨#[c]⟩ o (i : Int)) (if (∀ x ∈ l.drop i, c ∉ x.data.toList) ∧ o.size + (tl [c] (decide (i = 0)) (l.drop i)).length ≤ 4000 then (⟨(o.data.toList ++ tl [c] (decide (i = 0)) (l.drop i)).toArray⟩, true) else ((⟨#[]⟩ : ByteArray), false)) := by
  intro d
  induction d with
  | zero =>
    intro i o h ho
    refine Ev.step (fun k => by rw [spec_JoinStrings.l0]) ?_
    simp only [if_neg (show ¬ (i : Int) < (l.length : Int) by omega)]
    rw [List.drop_eq_nil_of_le (by omega), if_pos ⟨fun x hx => (by cases hx), (by simp [tl]; exact ho)⟩]
    refine Ev.some ?_
    congr 1
    exact ba_ext (by simp [tl])
  | succ d ih =>
    intro i o h ho
    have hi : i < l.length := by omega
    have hx := hs _ (List.getElem_mem hi)
    have ei : wrap64 ((i : Int) + 1) = ((i + 1 : Nat) : Int) := by rw [w64 (by omega) (by omega)]; exact (Int.natCast_add i 1).symm
    have hsep : (⟨#[c]⟩ : ByteArray).size = 1 := rfl
    have hb : bt ⟨#[c]⟩ 0 = (c.toNat : Int) := bt_at ⟨#[c]⟩ 0 (by rw [hsep]; omega)
    have ht : decide (i + 1 = 0) = false := by simp
    refine Ev.step (fun k => by rw [spec_JoinStrings.l0]) ?_
    simp only [if_pos (show (i : Int) < (l.length : Int) by omega), if_pos (show 0 ≤ (i : Int) by omega), hsep, if_pos (show (0 : Int) < ((1 : Nat) : Int) by omega), rdStr l i hi, hb, ei]
    refine Ev.bind (l1Stands_ev l[i] c (by omega)) ?_
    rw [List.drop_eq_getElem_cons hi]
    by_cases hc : c ∈ l[i].data.toList
    · simp only [hc, decide_true, if_true]
      rw [if_neg (fun e => e.1 l[i] (List.mem_cons_self) hc)]
      exact Ev.now _
    · simp only [hc, decide_false, Bool.false_eq_true, if_false]
      have hall : (∀ x ∈ l[i] :: l.drop (i + 1), c ∉ x.data.toList) ↔ ∀ x ∈ l.drop (i + 1), c ∉ x.data.toList := by
        constructor
        · exact fun e x hx => e x (List.mem_cons_of_mem _ hx)
        · intro e x hx
          rcases List.mem_cons.1 hx with rfl | hx
          · exact hc
          · exact e x hx
      by_cases h0 : (i : Int) > 0
      · have hd : decide (i = 0) = false := decide_eq_false (by omega)
        simp only [if_pos h0, if_pos (show o.size + 1 ≤ 9223372036854775807 by omega), ByteArray.size_append, hsep, if_pos (show o.size + 1 + l[i].size ≤ 9223372036854775807 by omega)]
        have e1 : (o ++ (⟨#[c]⟩ : ByteArray) ++ l[i]).data.toList = o.data.toList ++ ([c] ++ l[i].data.toList) := by rw [ba_app, ba_app, List.append_assoc]
        have e2 : (o ++ (⟨#[c]⟩ : ByteArray) ++ l[i]).size = o.size + 1 + l[i].size := by rw [ByteArray.size_append, ByteArray.size_append, hsep]
        have e3 : (tl [c] false (l[i] :: l.drop (i + 1))).length = 1 + l[i].size + (tl [c] false (l.drop (i + 1))).length := by
          rw [tl, if_neg (by simp), List.length_append, List.length_append, ← ba_size]; rfl
        by_cases h4 : ((o.size + 1 + l[i].size : Nat) : Int) > 4000
        · simp only [if_pos h4]
          rw [hd, if_neg (fun e => by have := e.2; rw [e3] at this; omega)]
          exact Ev.now _
        · simp only [if_neg h4]
          refine Ev.as (ih (i + 1) (o ++ (⟨#[c]⟩ : ByteArray) ++ l[i]) (by omega) (by rw [e2]; omega)) ?_
          rw [ht, hd, e1, e2, e3]
          have e4 : o.data.toList ++ ([c] ++ l[i].data.toList) ++ tl [c] false (l.drop (i + 1)) = o.data.toList ++ tl [c] false (l[i] :: l.drop (i + 1)) := by
            rw [tl, if_neg (by simp), List.append_assoc]
          rw [e4]
          by_cases hg : (∀ x ∈ l.drop (i + 1), c ∉ x.data.toList) ∧ o.size + 1 + l[i].size + (tl [c] false (l.drop (i + 1))).length ≤ 4000
          · rw [if_pos hg, if_pos ⟨hall.2 hg.1, by have := hg.2; omega⟩]
          · rw [if_neg hg, if_neg (fun e => hg ⟨hall.1 e.1, by have := e.2; omega⟩)]
      · have hi0 : i = 0 := by omega
        have hd : decide (i = 0) = true := decide_eq_true hi0
        simp only [if_neg h0, if_pos (show o.size + l[i].size ≤ 9223372036854775807 by omega), ByteArray.size_append]
        have e1 : (o ++ l[i]).data.toList = o.data.toList ++ l[i].data.toList := ba_app _ _
        have e3 : (tl [c] true (l[i] :: l.drop (i + 1))).length = l[i].size + (tl [c] false (l.drop (i + 1))).length := by
          rw [tl, if_pos rfl, List.length_append, List.length_append, ← ba_size]; simp
        by_cases h4 : ((o.size + l[i].size : Nat) : Int) > 4000
        · simp only [if_pos h4]
          rw [hd, if_neg (fun e => by have := e.2; rw [e3] at this; omega)]
          exact Ev.now _
        · simp only [if_neg h4]
          refine Ev.as (ih (i + 1) (o ++ l[i]) (by omega) (by rw [ByteArray.size_append]; omega)) ?_
          rw [ht, hd, e1, ByteArray.size_append, e3]
          have e4 : o.data.toList ++ l[i].data.toList ++ tl [c] false (l.drop (i + 1)) = o.data.toList ++ tl [c] true (l[i] :: l.drop (i + 1)) := by
            rw [tl, if_pos rfl, List.nil_append, List.append_assoc]
          rw [e4]
          by_cases hg : (∀ x ∈ l.drop (i + 1), c ∉ x.data.toList) ∧ o.size + l[i].size + (tl [c] false (l.drop (i + 1))).length ≤ 4000
          · rw [if_pos hg, if_pos ⟨hall.2 hg.1, by have := hg.2; omega⟩]
          · rw [if_neg hg, if_neg (fun e => hg ⟨hall.1 e.1, by have := e.2; omega⟩)]
theorem one_ba (s : ByteArray) (h : s.size = 1) : ∃ c : UInt8, s = ⟨#[c]⟩ := Lib.one_byte s h
theorem tl_len1 (c : UInt8) (l : List ByteArray) (h : 0 < l.length) : (tl [c] true l).length = sizes l + (l.length - 1) := by
  cases l with
  | nil => simp at h
  | cons x r =>
    rw [tl, if_pos rfl, List.length_append, List.length_append, tl_len [c] rfl, ← ba_size, sizes, List.length_cons]
    simp
    omega
theorem specJoin_ev (l : List ByteArray) (s : ByteArray) (hl : l.length ≤ 1048576) (hs : ∀ x ∈ l, x.size ≤ 1048576) : ∃ R, Ev (fun k => spec_JoinStrings.f k l s) R ∧ ((0 < l.length ∧ ∃ c, s = ⟨#[c]⟩ ∧ R = JoinR l c) ∨ (¬ (0 < l.length ∧ s.size = 1) ∧ R = (⟨#[]⟩, false))) := by
  unfold spec_JoinStrings.f
  by_cases h1 : s.size = 1
  · obtain ⟨c, rfl⟩ := one_ba s h1
    by_cases h0 : 0 < l.length
    · refine ⟨JoinR l c, ?_, .inl ⟨h0, c, rfl, rfl⟩⟩
      simp only [h1, if_pos (show ((1 : Nat) : Int) = 1 from rfl)]
      have hb : ((l.length : Int) == 0) = false := beq_eq_false_iff_ne.2 (by omega)
      refine Ev.step (fun k => by rw [spec_JoinStrings.j0]) ?_
      simp only [hb, Bool.false_eq_true, if_false]
      refine Ev.as (specJoin_l0 l c hl hs l.length 0 ⟨#[]⟩ (by omega) (by decide)) ?_
      unfold JoinR
      rw [List.drop_zero, show decide (0 = 0) = true from rfl, tl_len1 c l h0]
      have e : (⟨#[]⟩ : ByteArray).size = 0 := rfl
      rw [e, Nat.zero_add]
      rfl
    · refine ⟨(⟨#[]⟩, false), ?_, .inr ⟨fun e => h0 e.1, rfl⟩⟩
      simp only [h1, if_pos (show ((1 : Nat) : Int) = 1 from rfl)]
      have hb : ((l.length : Int) == 0) = true := beq_iff_eq.2 (by omega)
      refine Ev.step (fun k => by rw [spec_JoinStrings.j0]) ?_
      simp only [hb, if_true]
      exact Ev.now _
  · refine ⟨(⟨#[]⟩, false), ?_, .inr ⟨fun e => h1 e.2, rfl⟩⟩
    simp only [if_neg (show ¬ (s.size : Int) = 1 by omega)]
    refine Ev.step (fun k => by rw [spec_JoinStrings.j0]) ?_
    simp only [if_true]
    exact Ev.now _
open Classical in
theorem implJoin_l0 (l : List ByteArray) (c : UInt8) (h0 : 0 < l.length) (hl : l.length ≤ 1048576) (hs : ∀ x ∈ l, x.size ≤ 1048576) : ∀ (d i m : Nat), i + d = l.length → m ≤ 1048576 → (∀ x ∈ l.take i, c ∉ x.data.toList) → (m = sizes (l.take i) + (l.length - 1)) → (d = 0 → m ≤ 4000) →
    Ev (fun k => impl_JoinStrings.l0 k l ⟨#[c]⟩ (m : Int) l (l.length : Int) (i : Int)) (if (∀ x ∈ l.drop i, c ∉ x.data.toList) ∧ m + sizes (l.drop i) ≤ 4000 then (⟨(tl [c] true l).toArray⟩, true) else ((⟨#[]⟩ : ByteArray), false)) := by
  intro d
  induction d with
  | zero =>
    intro i m h hm hp hq hr
    refine Ev.step (fun k => by rw [impl_JoinStrings.l0]) ?_
    simp only [if_neg (show ¬ (i : Int) < (l.length : Int) by omega)]
    rw [List.drop_eq_nil_of_le (by omega), if_pos ⟨fun x hx => (by cases hx), (by simp [sizes]; exact hr rfl)⟩]
    have hti : l.take i = l := List.take_of_length_le (by omega)
    rw [hti] at hq
    have htl : (tl [c] true l).length ≤ 4000 := by rw [tl_len1 c l h0, ← hq]; exact hr rfl
    have hj : Lib.join (l.map (·.data.toList)) [c] = tl [c] true l := by
      cases l with
      | nil => simp at h0
      | cons x r => exact tl_join [c] x r
    unfold strings_Join.f
    rw [if_pos ⟨h0, by omega, by
      show (Lib.join (l.map (·.data.toList)) [c]).length ≤ _
      rw [hj]; omega⟩, Option.bind_some]
    refine Ev.some ?_
    show ((⟨(Lib.join (l.map (·.data.toList)) [c]).toArray⟩ : ByteArray), true) = _
    rw [hj]
  | succ d ih =>
    intro i m h hm hp hq hr
    have hi : i < l.length := by omega
    have hx := hs _ (List.getElem_mem hi)
    have ei : wrap64 ((i : Int) + 1) = ((i + 1 : Nat) : Int) := by rw [w64 (by omega) (by omega)]; exact (Int.natCast_add i 1).symm
    have em : wrap64 ((m : Int) + (l[i].size : Int)) = ((m + l[i].size : Nat) : Int) := by rw [w64 (by omega) (by omega)]; exact (Int.natCast_add m l[i].size).symm
    refine Ev.step (fun k => by rw [impl_JoinStrings.l0]) ?_
    simp only [if_pos (show (i : Int) < (l.length : Int) by omega), if_pos (show 0 ≤ (i : Int) by omega), rdStr l i hi, em, ei]
    unfold strings_Contains.f
    simp only [if_pos (show (⟨#[c]⟩ : ByteArray).size = 1 from rfl), Option.bind_some]
    have hcc : decide (0 ≤ Lib.indexByte l[i].data.toList ((⟨#[c]⟩ : ByteArray).data.toList.getD 0 0)) = decide (c ∈ l[i].data.toList) := by
      rw [decide_eq_decide]
      exact index_mem _ c
    simp only [hcc]
    rw [List.drop_eq_getElem_cons hi]
    by_cases hc : c ∈ l[i].data.toList
    · simp only [hc, decide_true, if_true]
      rw [if_neg (fun e => e.1 l[i] (List.mem_cons_self) hc)]
      exact Ev.now _
    · simp only [hc, decide_false, Bool.false_eq_true, if_false]
      by_cases h4 : ((m + l[i].size : Nat) : Int) > 4000
      · simp only [if_pos h4]
        rw [if_neg (fun e => by have := e.2; rw [sizes] at this; omega)]
        exact Ev.now _
      · simp only [if_neg h4]
        have htk : l.take (i + 1) = l.take i ++ [l[i]] := by
          rw [List.take_add_one, List.getElem?_eq_getElem hi]
          rfl
        have hsz : ∀ (a : List ByteArray) (x : ByteArray), sizes (a ++ [x]) = sizes a + x.size := by
          intro a x
          induction a with
          | nil => simp [sizes]
          | cons y a iha =>
            rw [List.cons_append, sizes, iha, sizes]
            omega
        refine Ev.as (ih (i + 1) (m + l[i].size) (by omega) (by omega) (fun x hx => by
          rw [htk] at hx
          rcases List.mem_append.1 hx with hx | hx
          · exact hp x hx
          · rw [List.mem_singleton.1 hx]; exact hc) (by rw [htk, hsz]; omega) (fun _ => by omega)) ?_
        by_cases hg : (∀ x ∈ l.drop (i + 1), c ∉ x.data.toList) ∧ m + l[i].size + sizes (l.drop (i + 1)) ≤ 4000
        · rw [if_pos hg, if_pos ⟨fun x hx => by
            rcases List.mem_cons.1 hx with rfl | hx
            · exact hc
            · exact hg.1 x hx, by have := hg.2; rw [sizes]; omega⟩]
        · rw [if_neg hg, if_neg (fun e => hg ⟨fun x hx => e.1 x (List.mem_cons_of_mem _ hx), by have := e.2; rw [sizes] at this; omega⟩)]
theorem implJoin_ev (l : List ByteArray) (s : ByteArray) (hl : l.length ≤ 1048576) (hs : ∀ x ∈ l, x.size ≤ 1048576) : (∀ c, 0 < l.length → s = ⟨#[c]⟩ → Ev (fun k => impl_JoinStrings.f k l s) (JoinR l c)) ∧ (¬ (0 < l.length ∧ s.size = 1) → Ev (fun k => impl_JoinStrings.f k l s) (⟨#[]⟩, false)) := by
  unfold impl_JoinStrings.f
  refine ⟨fun c h0 e => ?_, fun hn => ?_⟩
  · subst e
    simp only [if_neg (show ¬ (l.length : Int) = 0 by omega)]
    refine Ev.step (fun k => by rw [impl_JoinStrings.j0]) ?_
    have hb : (((⟨#[c]⟩ : ByteArray).size : Int) != 1) = false := rfl
    simp only [hb, Bool.false_eq_true, if_false]
    have e1 : wrap64 ((l.length : Int) - 1) = ((l.length - 1 : Nat) : Int) := by rw [w64 (by omega) (by omega)]; omega
    rw [e1]
    refine Ev.as (implJoin_l0 l c h0 hl hs l.length 0 (l.length - 1) (by omega) (by omega) (fun x hx => by simp at hx) (by rw [List.take_zero]; simp [sizes]) (by omega)) ?_
    unfold JoinR
    rw [List.drop_zero, Nat.add_comm]
  · by_cases h0 : (l.length : Int) = 0
    · simp only [if_pos h0]
      refine Ev.step (fun k => by rw [impl_JoinStrings.j0]) ?_
      simp only [if_true]
      exact Ev.now _
    · simp only [if_neg h0]
      have hb : ((s.size : Int) != 1) = true := bne_iff_ne.2 (fun e => hn ⟨by omega, by omega⟩)
      refine Ev.step (fun k => by rw [impl_JoinStrings.j0]) ?_
      simp only [hb, if_true]
      exact Ev.now _
theorem joinBoth (l : List ByteArray) (s : ByteArray) (hl : l.length ≤ 1048576) (hs : ∀ x ∈ l, x.size ≤ 1048576) : ∃ R, Ev (fun k => spec_JoinStrings.f k l s) R ∧ Ev (fun k => impl_JoinStrings.f k l s) R := by
  obtain ⟨R, h1, h2⟩ := specJoin_ev l s hl hs
  obtain ⟨i1, i2⟩ := implJoin_ev l s hl hs
  refine ⟨R, h1, ?_⟩
  rcases h2 with ⟨h0, c, e, rfl⟩ | ⟨hn, rfl⟩
  · exact i1 c h0 e
  · exact i2 hn

theorem FnExactJoinStrings : laws_FnExactJoinStrings.Pure := by
  intro l s hw _
  refine Ev.rounds ?_
  unfold laws_FnExactJoinStrings.f
  by_cases h : (s.size : Int) > 1048576
  · simp only [if_pos h]; exact Ev.now _
  · simp only [if_neg h]
    obtain ⟨q, hq, hp⟩ := szStringS_ev l hw.1 hw.2
    refine Ev.bind hq ?_
    by_cases hn : q < 0
    · simp only [if_pos hn]; exact Ev.now _
    · simp only [if_neg hn]
      obtain ⟨hl, hs⟩ := hp.resolve_left hn
      have ht := toStringS_ev l hl
      obtain ⟨R, hS, hI⟩ := joinBoth l s hl hs
      refine Ev.bind ht (Ev.bind hS (Ev.bind ht (Ev.bind hI ?_)))
      simp only [if_true, bne_self_eq_false]
      refine Ev.step (fun k => by rw [laws_FnExactJoinStrings.j0]) ?_
      simp only [Bool.false_eq_true, if_false]
      refine Ev.bind ht (Ev.bind (eqStringS_self l hl) ?_)
      simp only [if_true]
      exact Ev.now _


end Go.Proofs.Ytonialldgodbiaa.Pure

