/- For every code the plain function of the law FnStrings answers true. -/
import Derived.Test.YthgfndbbbhbkeaaDoorPFnStringsx4
import Derived.Lib.AtoiTie
import Derived.Lib.AtoiAllCases
import Derived.Test.YthgfndbbbhbkeaaDoorLib
set_option linter.unusedVariables false
set_option linter.unusedSimpArgs false
namespace Go.Proofs.YthgfndbbbhbkeaaDoor.Pure
open Go.RowKit Go.Proofs.YthgfndbbbhbkeaaDoor.PFnStrings Go.Proofs.YthgfndbbbhbkeaaDoorW.PrintWords Go.Proofs.YthgfndbbbhbkeaaDoorW.PrintLast Go.Proofs.YthgfndbbbhbkeaaDoor.Lib

theorem l1In_eq (a b c : Int) : spec_l1In.f a b c = some (decide (b ≤ a ∧ a ≤ c)) := by
  unfold spec_l1In.f
  by_cases h : a ≥ b
  · rw [if_pos h]
    congr 1
    simp only [decide_eq_decide]
    omega
  · rw [if_neg h]
    congr 1
    simp only [Bool.false_eq, decide_eq_false_iff_not]
    omega

theorem within_eq (a b c : Int) : impl_within.f a b c = some (decide (b ≤ a ∧ a ≤ c)) := by
  unfold impl_within.f
  by_cases h : a ≥ b
  · rw [if_pos h]
    congr 1
    simp only [decide_eq_decide]
    omega
  · rw [if_neg h]
    congr 1
    simp only [Bool.false_eq, decide_eq_false_iff_not]
    omega

theorem ba_ext {a b : ByteArray} (h : a.data.toList = b.data.toList) : a = b := by
  cases a; cases b
  simp only [ByteArray.mk.injEq]
  exact Array.toList_inj.1 h
theorem ba_app (a b : ByteArray) : (a ++ b).data.toList = a.data.toList ++ b.data.toList := by
  simp [ByteArray.data_append]
theorem ba_size (a : ByteArray) : a.size = a.data.toList.length := by
  cases a
  simp [ByteArray.size]
theorem bt_at (s : ByteArray) (i : Nat) (h : i < s.size) : bt s (i : Int) = ((s.data.toList[i]'(by rw [← ba_size]; exact h)).toNat : Int) := by
  unfold bt
  rw [Int.toNat_natCast, dif_pos h]
  congr 1
theorem index_mem (l : List UInt8) (c : UInt8) : 0 ≤ Lib.indexByte l c ↔ c ∈ l := by
  induction l with
  | nil => simp [Lib.indexByte]
  | cons b l ih =>
    rw [Lib.indexByte]
    by_cases h : b = c
    · subst h
      simp
    · have hb : (b == c) = false := beq_eq_false_iff_ne.2 h
      rw [hb, if_neg (by simp), List.mem_cons]
      by_cases h2 : Lib.indexByte l c = -1
      · rw [h2]
        simp only [beq_self_eq_true, if_true]
        constructor
        · intro e; omega
        · rintro (e | e)
          · exact absurd e.symm h
          · have := ih.2 e
            omega
      · have hb2 : (Lib.indexByte l c == -1) = false := beq_eq_false_iff_ne.2 h2
        rw [hb2, if_neg (by simp)]
        have hge : -1 ≤ Lib.indexByte l c := by
          clear ih h2 hb2
          induction l with
          | nil => simp [Lib.indexByte]
          | cons a l ih2 =>
            rw [Lib.indexByte]
            split
            · omega
            · split
              · omega
              · omega
        constructor
        · intro e
          exact .inr (ih.1 (by omega))
        · rintro (e | e)
          · exact absurd e.symm h
          · have := ih.2 e
            omega
theorem l1Stands_ev (s : ByteArray) (c : UInt8) (hs : s.size ≤ 4611686018427387904) : Ev (fun k => spec_l1Stands.f k s (c.toNat : Int)) (decide (c ∈ s.data.toList)) := by
  unfold spec_l1Stands.f
  have key : ∀ (d i : Nat), i + d = s.size → Ev (fun k => spec_l1Stands.l0 k s (c.toNat : Int) (i : Int)) (decide (c ∈ s.data.toList.drop i)) := by
    intro d
    induction d with
    | zero =>
      intro i h
      refine Ev.step (fun k => by rw [spec_l1Stands.l0]) ?_
      simp only [if_neg (show ¬ (i : Int) < (s.size : Int) by omega)]
      rw [List.drop_eq_nil_of_le (by rw [← ba_size]; omega)]
      exact Ev.some (by simp)
    | succ d ih =>
      intro i h
      have hi : i < s.size := by omega
      have hi2 : i < s.data.toList.length := by rw [← ba_size]; exact hi
      have ei : wrap64 ((i : Int) + 1) = ((i + 1 : Nat) : Int) := by rw [w64 (by omega) (by omega)]; exact (Int.natCast_add i 1).symm
      refine Ev.step (fun k => by rw [spec_l1Stands.l0]) ?_
      simp only [if_pos (show (i : Int) < (s.size : Int) by omega), if_pos (show 0 ≤ (i : Int) by omega), bt_at s i hi, ei]
      rw [List.drop_eq_getElem_cons hi2]
      by_cases hc : s.data.toList[i] = c
      · simp only [if_pos (show (s.data.toList[i].toNat : Int) = (c.toNat : Int) by rw [hc])]
        exact Ev.some (by simp [hc])
      · simp only [if_neg (show ¬ (s.data.toList[i].toNat : Int) = (c.toNat : Int) from fun e => hc (UInt8.toNat_inj.1 (by omega)))]
        refine Ev.as (ih (i + 1) (by omega)) ?_
        rw [decide_eq_decide, List.mem_cons]
        constructor
        · exact .inr
        · rintro (e | e)
          · exact absurd e.symm hc
          · exact e
  have h := key s.size 0 (by omega)
  rw [List.drop_zero] at h
  exact h

theorem digit_at : ∀ j : Fin 10, ((⟨#[48, 49, 50, 51, 52, 53, 54, 55, 56, 57]⟩ : ByteArray).extract j.val (j.val + 1)).data.toList = [UInt8.ofNat (48 + j.val)] := by
  decide
theorem digit_nat (j : Nat) (h : j < 10) : (⟨#[48, 49, 50, 51, 52, 53, 54, 55, 56, 57]⟩ : ByteArray).extract j (j + 1) = ⟨#[UInt8.ofNat (48 + j)]⟩ := ba_ext (digit_at ⟨j, h⟩)
theorem dec_len (u : Nat) (h : u ≤ 1000000000000) : (Lib.decDigits u).length ≤ 21 := by
  have := Lib.itoa_length_le (u : Int) (by omega) (by omega)
  rwa [Lib.itoa_nonneg] at this
theorem l1Num_small (u : Nat) (hu : u < 10) : Ev (fun k => spec_l1Num.f k (u : Int)) ⟨(Lib.decDigits u).toArray⟩ := by
  refine Ev.step (fun k => by rw [spec_l1Num.f]) ?_
  have e1 : wrap64 ((u : Int) + 1) = ((u + 1 : Nat) : Int) := by rw [w64 (by omega) (by omega)]; exact (Int.natCast_add u 1).symm
  simp only [if_neg (show ¬ (u : Int) < 0 by omega), if_pos (show (u : Int) < 10 by omega), if_pos (show 0 ≤ (u : Int) by omega), e1, if_pos (show (u : Int) ≤ ((u + 1 : Nat) : Int) by omega), if_pos (show ((u + 1 : Nat) : Int) ≤ 10 by omega), Int.toNat_natCast, digit_nat u hu]
  rw [Lib.decDigits_one hu]
  exact Ev.now _
theorem l1Num_nat : ∀ (m u : Nat), u ≤ m → u ≤ 1000000000000 → Ev (fun k => spec_l1Num.f k (u : Int)) ⟨(Lib.decDigits u).toArray⟩ := by
  intro m
  induction m with
  | zero =>
    intro u h0 h1
    exact l1Num_small u (by omega)
  | succ m ih =>
    intro u h0 h1
    by_cases hu : u < 10
    · exact l1Num_small u hu
    · have e2 : Int.tdiv (u : Int) 10 = ((u / 10 : Nat) : Int) := by
        rw [show (10 : Int) = ((10 : Nat) : Int) from rfl, ← Int.ofNat_tdiv]
      have e3 : Int.tmod (u : Int) 10 = ((u % 10 : Nat) : Int) := by
        rw [show (10 : Int) = ((10 : Nat) : Int) from rfl, ← Int.ofNat_tmod]
      have e4 : wrap64 ((u / 10 : Nat) : Int) = ((u / 10 : Nat) : Int) := w64 (by omega) (by omega)
      have e5 : wrap64 (((u % 10 : Nat) : Int) + 1) = ((u % 10 + 1 : Nat) : Int) := by rw [w64 (by omega) (by omega)]; exact (Int.natCast_add _ 1).symm
      have hd : Lib.decDigits u = Lib.decDigits (u / 10) ++ [UInt8.ofNat (48 + u % 10)] := by
        rw [Lib.decDigits, dif_neg hu]
      have hlen := dec_len (u / 10) (by omega)
      have hs1 : (⟨(Lib.decDigits (u / 10)).toArray⟩ : ByteArray).size ≤ 21 := by rw [ba_size]; exact hlen
      have hs2 : (⟨#[UInt8.ofNat (48 + u % 10)]⟩ : ByteArray).size = 1 := rfl
      refine Ev.step (fun k => by rw [spec_l1Num.f]) ?_
      simp only [if_neg (show ¬ (u : Int) < 0 by omega), if_neg (show ¬ (u : Int) < 10 by omega), e2, e3, e4]
      refine Ev.bind (ih (u / 10) (by omega) (by omega)) ?_
      simp only [if_pos (show 0 ≤ ((u % 10 : Nat) : Int) by omega), e5, if_pos (show ((u % 10 : Nat) : Int) ≤ ((u % 10 + 1 : Nat) : Int) by omega), if_pos (show ((u % 10 + 1 : Nat) : Int) ≤ 10 by omega), Int.toNat_natCast, digit_nat (u % 10) (by omega), hs2, if_pos (show (⟨(Lib.decDigits (u / 10)).toArray⟩ : ByteArray).size + 1 ≤ 9223372036854775807 by omega)]
      refine Ev.some (ba_ext ?_)
      rw [ba_app, hd]
theorem l1Num_ev (n : Int) (h0 : -1000000000 ≤ n) (h1 : n ≤ 1000000000) : Ev (fun k => spec_l1Num.f k n) ⟨(Lib.itoa n).toArray⟩ := by
  by_cases hn : n < 0
  · obtain ⟨u, hu⟩ : ∃ u : Nat, n = -(u : Int) := ⟨n.natAbs, by omega⟩
    subst hu
    refine Ev.step (fun k => by rw [spec_l1Num.f]) ?_
    have e : wrap64 (-(-(u : Int))) = (u : Int) := by rw [w64 (by omega) (by omega)]; omega
    simp only [if_pos hn, e]
    refine Ev.bind (l1Num_nat u u (Nat.le_refl _) (by omega)) ?_
    have hlen := dec_len u (by omega)
    have hs1 : (⟨(Lib.decDigits u).toArray⟩ : ByteArray).size ≤ 21 := by rw [ba_size]; exact hlen
    simp only [if_pos (show 1 + (⟨(Lib.decDigits u).toArray⟩ : ByteArray).size ≤ 9223372036854775807 by omega)]
    refine Ev.some (ba_ext ?_)
    rw [ba_app, Lib.itoa_neg u (by omega)]
    rfl
  · obtain ⟨u, hu⟩ : ∃ u : Nat, n = (u : Int) := ⟨n.toNat, by omega⟩
    subst hu
    rw [Lib.itoa_nonneg]
    exact l1Num_nat u u (Nat.le_refl _) (by omega)
theorem itoa_eq (n : Int) (h0 : -1000000000 ≤ n) (h1 : n ≤ 1000000000) : strconv_Itoa.f n = some ⟨(Lib.itoa n).toArray⟩ := by
  unfold strconv_Itoa.f
  rw [if_pos ⟨by omega, by omega⟩]

theorem rdStr (l : List ByteArray) (i : Nat) (h : i < l.length) : rdOf ByteArray.empty l (i : Int) = l[i] := by
  unfold rdOf
  rw [Int.toNat_natCast]
  exact getD_lt _ h
theorem rdStr' (l : List ByteArray) (i : Int) (h0 : 0 ≤ i) (h : i < l.length) : rdOf ByteArray.empty l i = l[i.toNat]'(by omega) := by
  unfold rdOf
  exact getD_lt _ (show i.toNat < l.length by omega)

def spl (c : UInt8) : List UInt8 → List UInt8 → List (List UInt8)
  | p, [] => [p]
  | p, b :: r => if b = c then p :: spl c [] r else spl c (p ++ [b]) r
theorem spl_len (c : UInt8) : ∀ (l p : List UInt8), (spl c p l).length ≤ l.length + 1
  | [], p => by simp [spl]
  | b :: r, p => by
    rw [spl]
    split
    · have := spl_len c r []
      simp only [List.length_cons]; omega
    · have := spl_len c r (p ++ [b])
      simp only [List.length_cons]; omega
theorem ext_data (s : ByteArray) (a b : Nat) : (s.extract a b).data.toList = (s.data.toList.take b).drop a := by
  rw [ByteArray.data_extract, Array.toList_extract, List.extract_eq_take_drop, List.drop_take]

theorem spl_pre (c : UInt8) : ∀ (l p : List UInt8), c ∉ l → spl c p l = [p ++ l]
  | [], p, _ => by simp [spl]
  | b :: r, p, h => by
    rw [spl, if_neg (fun e => h (by rw [e]; exact List.mem_cons_self)), spl_pre c r (p ++ [b]) (fun e => h (List.mem_cons_of_mem _ e))]
    simp
theorem spl_hit (c : UInt8) : ∀ (l p r : List UInt8), c ∉ l → spl c p (l ++ c :: r) = (p ++ l) :: spl c [] r
  | [], p, r, _ => by simp [spl]
  | b :: l, p, r, h => by
    rw [List.cons_append, spl, if_neg (fun e => h (by rw [e]; exact List.mem_cons_self)), spl_hit c l (p ++ [b]) r (fun e => h (List.mem_cons_of_mem _ e))]
    simp
theorem index_one (c : UInt8) : ∀ l : List UInt8, (Lib.index l [c] = -1 ∧ c ∉ l) ∨ ∃ i : Nat, Lib.index l [c] = i ∧ ∃ a r, l = a ++ c :: r ∧ c ∉ a ∧ a.length = i
  | [] => .inl ⟨by simp [Lib.index], by simp⟩
  | b :: l => by
    rw [Lib.index]
    by_cases h : b = c
    · subst h
      refine .inr ⟨0, by simp [List.isPrefixOf], [], l, rfl, by simp, rfl⟩
    · have hp : ([c] : List UInt8).isPrefixOf (b :: l) = false := by simp [List.isPrefixOf, Ne.symm h]
      rw [hp]
      rcases index_one c l with ⟨h1, h2⟩ | ⟨i, h1, a, r, rfl, h3, h4⟩
      · refine .inl ⟨by rw [h1]; rfl, ?_⟩
        intro e
        rcases List.mem_cons.1 e with e | e
        · exact h e.symm
        · exact h2 e
      · refine .inr ⟨i + 1, ?_, b :: a, r, rfl, ?_, by simp [h4]⟩
        · have hne : (Lib.index (a ++ c :: r) [c] == -1) = false := beq_eq_false_iff_ne.2 (by omega)
          rw [hne, h1]
          simp
        · intro e
          rcases List.mem_cons.1 e with e | e
          · exact h e.symm
          · exact h3 e
theorem splitK_spl (c : UInt8) : ∀ (k : Nat) (l : List UInt8), l.count c ≤ k → Lib.splitK [c] 0 k l = spl c [] l
  | 0, l, h => by
    have hn : c ∉ l := fun e => by have := List.count_pos_iff.2 e; omega
    rw [Lib.splitK, spl_pre c l [] hn, List.nil_append]
  | k + 1, l, h => by
    rw [Lib.splitK]
    rcases index_one c l with ⟨h1, h2⟩ | ⟨i, h1, a, r, rfl, h3, h4⟩
    · rw [if_pos (beq_iff_eq.2 h1), spl_pre c l [] h2, List.nil_append]
    · have hne : ¬ (Lib.index (a ++ c :: r) [c] == -1) = true := fun e => by have := beq_iff_eq.1 e; omega
      rw [if_neg hne, spl_hit c a [] r h3, List.nil_append]
      have e1 : (Lib.index (a ++ c :: r) [c]).toNat = a.length := by omega
      rw [e1, Nat.add_zero, List.take_left']
      · have e2 : (a ++ c :: r).drop (a.length + ([c] : List UInt8).length) = r := by
          rw [← List.drop_drop, List.drop_left']
          · rfl
          · rfl
        rw [e2, splitK_spl c k r (by
          rw [List.count_append, List.count_cons_self] at h
          omega)]
      · rfl
theorem splitB_spl (s : ByteArray) (c : UInt8) : Lib.splitB ⟨#[c]⟩ 0 (Lib.countB s ⟨#[c]⟩) s = (spl c [] s.data.toList).map fun x => (⟨x.toArray⟩ : ByteArray) := by
  have h := Lib.splitB_data ⟨#[c]⟩ 0 (Lib.countB s ⟨#[c]⟩) s
  have hc : Lib.countB s ⟨#[c]⟩ = s.data.toList.count c := Lib.count_one c _
  have h2 : (Lib.splitB ⟨#[c]⟩ 0 (Lib.countB s ⟨#[c]⟩) s).map (·.data.toList) = spl c [] s.data.toList := by
    rw [h]
    exact splitK_spl c _ _ (by rw [hc]; exact Nat.le_refl _)
  rw [← h2, List.map_map]
  exact (List.map_id' _).symm

theorem sum2_ev (s : ByteArray) (hs : s.size ≤ 1048576) : ∀ (d : Nat) (x i : Int), 0 ≤ i → i + d = s.size → -1000000 ≤ x → x ≤ 1000000 → ∃ r, Ev (fun k => spec_l1Sum.l0 k s x i) r ∧ Ev (fun k => impl_Checksum.l0 k s x (s.size : Int) i) (r, true) ∧ -1000000 ≤ r ∧ r ≤ 1000000
  | 0, x, i, h0, hd, hx, hy => by
    refine ⟨x, Ev.step (fun k => by rw [spec_l1Sum.l0]) ?_, Ev.step (fun k => by rw [impl_Checksum.l0]) ?_, hx, hy⟩
    · simp only [if_neg (show ¬ i < (s.size : Int) by omega)]; exact Ev.now _
    · simp only [if_neg (show ¬ i < (s.size : Int) by omega)]; exact Ev.now _
  | d + 1, x, i, h0, hd, hx, hy => by
    have e : wrap64 (i + 1) = i + 1 := w64 (by omega) (by omega)
    have b1 := Int.tmod_lt_of_pos (wrap64 ((wrap64 ((wrap64 (41 * x)) + (wrap64 (bt s i)))) + 1)) (show (0 : Int) < 999979 by decide)
    have b2 := Int.lt_tmod_of_pos (wrap64 ((wrap64 ((wrap64 (41 * x)) + (wrap64 (bt s i)))) + 1)) (show (0 : Int) < 999979 by decide)
    obtain ⟨r, h1, h2, h3, h4⟩ := sum2_ev s hs d (Int.tmod (wrap64 ((wrap64 ((wrap64 (41 * x)) + (wrap64 (bt s i)))) + 1)) 999979) (i + 1) (by omega) (by omega) (Int.le_of_lt (Int.lt_of_le_of_lt (by decide) b2)) (Int.le_of_lt (Int.lt_of_lt_of_le b1 (by decide)))
    refine ⟨r, Ev.step (fun k => by rw [spec_l1Sum.l0]) ?_, Ev.step (fun k => by rw [impl_Checksum.l0]) ?_, h3, h4⟩
    · simp only [if_pos (show i < (s.size : Int) by omega), if_pos h0, e]; exact h1
    · simp only [if_pos (show i < (s.size : Int) by omega), if_pos h0, e]; exact h2
theorem itoa_size (n : Int) (h0 : -1000000000 ≤ n) (h1 : n ≤ 1000000000) : (⟨(Lib.itoa n).toArray⟩ : ByteArray).size ≤ 21 := by
  rw [ba_size]
  have := Lib.itoa_length_le n (by omega) (by omega)
  exact this
open Classical in
noncomputable def sealed (s : ByteArray) (r : Int) : ByteArray × Bool := if (35 : UInt8) ∈ s.data.toList ∨ (((s ++ (⟨#[35]⟩ : ByteArray)) ++ ⟨(Lib.itoa r).toArray⟩).size : Int) > 4000 then (⟨#[]⟩, false) else ((s ++ (⟨#[35]⟩ : ByteArray)) ++ ⟨(Lib.itoa r).toArray⟩, true)
theorem lit35 : (⟨#[35]⟩ : ByteArray).size = 1 := rfl
theorem specSeal (s : ByteArray) (hs : s.size ≤ 1048576) (r : Int) (hr : Ev (fun k => spec_l1Sum.f k s) r) (h0 : -1000000 ≤ r) (h1 : r ≤ 1000000) : Ev (fun k => spec_l1Seal.f k s) ((s ++ (⟨#[35]⟩ : ByteArray)) ++ ⟨(Lib.itoa r).toArray⟩) := by
  unfold spec_l1Seal.f
  have hz := itoa_size r (by omega) (by omega)
  simp only [if_pos (show s.size + 1 ≤ 9223372036854775807 by omega)]
  refine Ev.bind hr (Ev.bind (l1Num_ev r (by omega) (by omega)) ?_)
  simp only [ByteArray.size_append, lit35, if_pos (show s.size + 1 + (⟨(Lib.itoa r).toArray⟩ : ByteArray).size ≤ 9223372036854775807 by omega)]
  exact Ev.now _
theorem implSealBig (s : ByteArray) (hs : s.size ≤ 1048576) (hb : (s.size : Int) > 4000) : Ev (fun k => impl_AppendChecksum.f k s) (⟨#[]⟩, false) := by
  unfold impl_AppendChecksum.f impl_Checksum.f
  have hz := itoa_size 0 (by omega) (by omega)
  simp only [if_pos hb, Option.bind_some, if_pos (show s.size + 1 ≤ 9223372036854775807 by omega), itoa_eq 0 (by omega) (by omega), ByteArray.size_append, lit35, if_pos (show s.size + 1 + (⟨(Lib.itoa 0).toArray⟩ : ByteArray).size ≤ 9223372036854775807 by omega), Bool.false_eq_true, if_false]
  exact Ev.now _
theorem implSeal (s : ByteArray) (hs : ¬ (s.size : Int) > 4000) (r : Int) (hr : Ev (fun k => impl_Checksum.l0 k s 7 (s.size : Int) 0) (r, true)) (h0 : -1000000 ≤ r) (h1 : r ≤ 1000000) : Ev (fun k => impl_AppendChecksum.f k s) (sealed s r) := by
  unfold impl_AppendChecksum.f impl_Checksum.f
  have hz := itoa_size r (by omega) (by omega)
  simp only [if_neg hs]
  refine Ev.bind hr ?_
  unfold strings_Contains.f
  have hcc : decide (0 ≤ Lib.indexByte s.data.toList ((⟨#[35]⟩ : ByteArray).data.toList.getD 0 0)) = decide ((35 : UInt8) ∈ s.data.toList) := by
    rw [decide_eq_decide]
    exact index_mem _ 35
  simp only [Option.bind_some, if_pos (show s.size + 1 ≤ 9223372036854775807 by omega), itoa_eq r (by omega) (by omega), ByteArray.size_append, lit35, if_pos (show s.size + 1 + (⟨(Lib.itoa r).toArray⟩ : ByteArray).size ≤ 9223372036854775807 by omega), if_true, hcc, decide_eq_true_eq]
  unfold sealed
  simp only [ByteArray.size_append, lit35]
  by_cases h : (35 : UInt8) ∈ s.data.toList
  · simp only [if_pos h]
    rw [if_pos (.inl h)]
    exact Ev.now _
  · simp only [if_neg h]
    by_cases h4 : ((s.size + 1 + (⟨(Lib.itoa r).toArray⟩ : ByteArray).size : Nat) : Int) > 4000
    · simp only [if_pos h4]
      rw [if_pos (.inr h4)]
      exact Ev.now _
    · simp only [if_neg h4]
      rw [if_neg (fun e => e.elim h h4)]
      exact Ev.now _
theorem sumOf (s : ByteArray) (hs : s.size ≤ 1048576) : ∃ r, Ev (fun k => spec_l1Sum.f k s) r ∧ Ev (fun k => impl_Checksum.l0 k s 7 (s.size : Int) 0) (r, true) ∧ -1000000 ≤ r ∧ r ≤ 1000000 := sum2_ev s hs s.size 7 0 (by omega) (by omega) (by omega) (by omega)

theorem specAppend (s : ByteArray) (hs : s.size ≤ 1048576) (r : Int) (hr : Ev (fun k => spec_l1Sum.f k s) r) (h0 : -1000000 ≤ r) (h1 : r ≤ 1000000) : Ev (fun k => spec_AppendChecksum.f k s) (if (s.size : Int) > 4000 then (⟨#[]⟩, false) else sealed s r) := by
  have hS := specSeal s hs r hr h0 h1
  unfold spec_AppendChecksum.f
  by_cases hb : (s.size : Int) > 4000
  · simp only [if_pos hb]; exact Ev.now _
  · simp only [if_neg hb]
    refine Ev.bind (l1Stands_ev s 35 (by omega)) ?_
    unfold sealed
    by_cases h : (35 : UInt8) ∈ s.data.toList
    · simp only [h, decide_true, if_true, true_or]
      exact Ev.now _
    · simp only [h, decide_false, Bool.false_eq_true, if_false, false_or]
      refine Ev.bind hS ?_
      by_cases h4 : (((s ++ (⟨#[35]⟩ : ByteArray)) ++ ⟨(Lib.itoa r).toArray⟩).size : Int) > 4000
      · simp only [if_pos h4]; exact Ev.now _
      · simp only [if_neg h4]; exact Ev.bind hS (Ev.now _)
theorem appendBoth (s : ByteArray) (hs : s.size ≤ 1048576) : ∃ R, Ev (fun k => spec_AppendChecksum.f k s) R ∧ Ev (fun k => impl_AppendChecksum.f k s) R := by
  obtain ⟨r, e1, e2, h0, h1⟩ := sumOf s hs
  have hS := specAppend s hs r e1 h0 h1
  by_cases hb : (s.size : Int) > 4000
  · rw [if_pos hb] at hS
    exact ⟨_, hS, implSealBig s hs hb⟩
  · rw [if_neg hb] at hS
    exact ⟨_, hS, implSeal s hb r e2 h0 h1⟩

def FormatR (n : Int) : ByteArray × Bool := if -999999 ≤ n ∧ n ≤ 999999 then (⟨(Lib.itoa n).toArray⟩, true) else (⟨#[]⟩, false)
theorem specFormat_ev (n : Int) : Ev (fun k => spec_FormatInt.f k n) (FormatR n) := by
  unfold spec_FormatInt.f FormatR
  simp only [l1In_eq, Option.bind_some, decide_eq_true_eq]
  by_cases h : -999999 ≤ n ∧ n ≤ 999999
  · simp only [if_pos h]
    exact Ev.bind (l1Num_ev n (by omega) (by omega)) (Ev.now _)
  · simp only [if_neg h]
    exact Ev.now _
theorem implFormat_eq (n : Int) : impl_FormatInt.f n = some (FormatR n) := by
  unfold impl_FormatInt.f FormatR
  simp only [within_eq, Option.bind_some, decide_eq_true_eq]
  by_cases h : -999999 ≤ n ∧ n ≤ 999999
  · simp only [if_pos h, itoa_eq n (by omega) (by omega), Option.bind_some]
  · simp only [if_neg h]

theorem decFrom_app : ∀ (l : List UInt8) (b : UInt8) (acc : Nat), Lib.decFrom acc (l ++ [b]) = (Lib.decFrom acc l).bind fun n => (Lib.digitVal b).map fun d => n * 10 + d
  | [], b, acc => by
    simp only [List.nil_append, Lib.decFrom, Option.bind_some]
    cases Lib.digitVal b <;> rfl
  | a :: l, b, acc => by
    simp only [List.cons_append, Lib.decFrom]
    cases Lib.digitVal a with
    | none => rfl
    | some d => exact decFrom_app l b _
theorem digit_dig (j : Nat) (h : j < 10) : Lib.digitVal (UInt8.ofNat (48 + j)) = some j := by
  have : ∀ i : Fin 10, Lib.digitVal (UInt8.ofNat (48 + i.val)) = some i.val := by decide
  exact this ⟨j, h⟩
theorem dec_read : ∀ (m u : Nat), u ≤ m → Lib.decFrom 0 (Lib.decDigits u) = some u := by
  intro m
  induction m with
  | zero =>
    intro u h
    rw [Lib.decDigits_one (by omega)]
    simp only [Lib.decFrom, digit_dig u (by omega)]
    simp
  | succ m ih =>
    intro u h
    by_cases hu : u < 10
    · rw [Lib.decDigits_one hu]
      simp only [Lib.decFrom, digit_dig u hu]
      simp
    · rw [Lib.decDigits, dif_neg hu, decFrom_app, ih (u / 10) (by omega), Option.bind_some, digit_dig _ (by omega)]
      show some (u / 10 * 10 + u % 10) = some u
      rw [show u / 10 * 10 + u % 10 = u by omega]
theorem dec_len6 : ∀ (k u : Nat), u < 10 ^ (k + 1) → (Lib.decDigits u).length ≤ k + 1 := by
  intro k
  induction k with
  | zero =>
    intro u h
    rw [Lib.decDigits_one (by omega)]
    simp
  | succ k ih =>
    intro u h
    by_cases hu : u < 10
    · rw [Lib.decDigits_one hu]
      simp
    · have := ih (u / 10) (by rw [Nat.pow_succ] at h; omega)
      rw [Lib.decDigits, dif_neg hu, List.length_append, List.length_singleton]
      omega
theorem dec_ne (u : Nat) : 1 ≤ (Lib.decDigits u).length := by
  rw [Lib.decDigits]
  split
  · simp
  · rw [List.length_append]; simp
theorem dec_digit (u : Nat) (b : UInt8) (k : Nat) (h : (Lib.decDigits u)[k]? = some b) : ∃ d, Lib.digitVal b = some d := Lib.digit_of_decFrom _ 0 u (dec_read u u (Nat.le_refl _)) k b h
theorem dec_cons (u : Nat) : ∃ c r, Lib.decDigits u = c :: r ∧ c ≠ 45 ∧ c ≠ 43 := by
  cases h : Lib.decDigits u with
  | nil => have := dec_ne u; rw [h] at this; simp at this
  | cons c r =>
    obtain ⟨d, hd⟩ := dec_digit u c 0 (by rw [h]; rfl)
    refine ⟨c, r, rfl, ?_, ?_⟩
    · rintro rfl; cases hd
    · rintro rfl; cases hd
/-- What is read ends so. -/
def readEnd (s : List UInt8) (neg : Bool) : Option Nat → Int × Bool
  | none => (0, false)
  | some m => if Lib.itoa (if neg = true then -(m : Int) else (m : Int)) = s then (if neg = true then -(m : Int) else (m : Int), true) else (0, false)
theorem digitVal_no (c : UInt8) (h : ¬ (48 ≤ c.toNat ∧ c.toNat ≤ 57)) : Lib.digitVal c = none := by
  unfold Lib.digitVal
  rw [if_neg h]
theorem digitVal_yes (c : UInt8) (h : 48 ≤ c.toNat ∧ c.toNat ≤ 57) : Lib.digitVal c = some (c.toNat - 48) := by
  unfold Lib.digitVal
  rw [if_pos h]
theorem toList_iff (l : List UInt8) (s : ByteArray) : (⟨l.toArray⟩ : ByteArray).toList = s.toList ↔ l = s.data.toList := by
  rw [ByteArray.toList_eq, ByteArray.toList_eq]
theorem l1Read_l0 (s t : ByteArray) (ht : t.size ≤ 6) (hs : s.size ≤ 1048576) : ∀ (d i acc : Nat), i + d = t.size → acc < 10 ^ i →
    Ev (fun k => spec_l1Read.l0 k s t (acc : Int) (i : Int)) (readEnd s.data.toList (decide (t.size < s.size)) (Lib.decFrom acc (t.data.toList.drop i))) := by
  intro d
  induction d with
  | zero =>
    intro i acc h ha
    have hp : 10 ^ i ≤ 10 ^ 6 := Nat.pow_le_pow_right (by decide) (by omega)
    have hm : acc ≤ 1000000 := by omega
    refine Ev.step (fun k => by rw [spec_l1Read.l0]) ?_
    simp only [if_neg (show ¬ (i : Int) < (t.size : Int) by omega)]
    rw [List.drop_eq_nil_of_le (by rw [← ba_size]; omega)]
    unfold Lib.decFrom readEnd
    have en : wrap64 (-(acc : Int)) = -(acc : Int) := w64 (by omega) (by omega)
    by_cases hn : t.size < s.size
    · simp only [if_pos (show (t.size : Int) < (s.size : Int) by omega), hn, decide_true, if_true, en]
      refine Ev.bind (l1Num_ev (-(acc : Int)) (by omega) (by omega)) ?_
      simp only [toList_iff]
      by_cases he : Lib.itoa (-(acc : Int)) = s.data.toList
      · simp only [if_pos he]; exact Ev.now _
      · simp only [if_neg he]; exact Ev.now _
    · simp only [if_neg (show ¬ (t.size : Int) < (s.size : Int) by omega), hn, decide_false, Bool.false_eq_true, if_false]
      refine Ev.bind (l1Num_ev (acc : Int) (by omega) (by omega)) ?_
      simp only [toList_iff]
      by_cases he : Lib.itoa (acc : Int) = s.data.toList
      · simp only [if_pos he]; exact Ev.now _
      · simp only [if_neg he]; exact Ev.now _
  | succ d ih =>
    intro i acc h ha
    have hi : i < t.size := by omega
    have hi2 : i < t.data.toList.length := by rw [← ba_size]; exact hi
    have hp : 10 ^ i ≤ 10 ^ 6 := Nat.pow_le_pow_right (by decide) (by omega)
    have hm : acc ≤ 1000000 := by omega
    refine Ev.step (fun k => by rw [spec_l1Read.l0]) ?_
    have ei : wrap64 ((i : Int) + 1) = ((i + 1 : Nat) : Int) := by rw [w64 (by omega) (by omega)]; exact (Int.natCast_add i 1).symm
    simp only [if_pos (show (i : Int) < (t.size : Int) by omega), if_pos (show 0 ≤ (i : Int) by omega), bt_at t i hi, ei]
    rw [List.drop_eq_getElem_cons hi2]
    unfold Lib.decFrom
    by_cases h1 : t.data.toList[i].toNat < 48
    · simp only [if_pos (show (t.data.toList[i].toNat : Int) < 48 by omega), digitVal_no _ (show ¬ (48 ≤ t.data.toList[i].toNat ∧ t.data.toList[i].toNat ≤ 57) by omega)]
      exact Ev.now _
    · by_cases h2 : t.data.toList[i].toNat > 57
      · simp only [if_neg (show ¬ (t.data.toList[i].toNat : Int) < 48 by omega), if_pos (show (t.data.toList[i].toNat : Int) > 57 by omega), digitVal_no _ (show ¬ (48 ≤ t.data.toList[i].toNat ∧ t.data.toList[i].toNat ≤ 57) by omega)]
        exact Ev.now _
      · have e1 : wrap64 (10 * (acc : Int)) = 10 * (acc : Int) := w64 (by omega) (by omega)
        have e2 : wrap64 (10 * (acc : Int) + ((t.data.toList[i].toNat : Int) - 48) % 256) = ((acc * 10 + (t.data.toList[i].toNat - 48) : Nat) : Int) := by
          rw [w64 (by omega) (by omega)]; omega
        simp only [if_neg (show ¬ (t.data.toList[i].toNat : Int) < 48 by omega), if_neg (show ¬ (t.data.toList[i].toNat : Int) > 57 by omega), e1, e2, digitVal_yes _ (show 48 ≤ t.data.toList[i].toNat ∧ t.data.toList[i].toNat ≤ 57 by omega)]
        exact ih (i + 1) _ (by omega) (by rw [Nat.pow_succ]; omega)
/-- What l1Read gives. -/
def readL (s : List UInt8) : Int × Bool :=
  if s.length > 1 ∧ s.head? = some 45 then (if s.length ≤ 7 then readEnd s true (Lib.decFrom 0 s.tail) else (0, false))
  else (if 1 ≤ s.length ∧ s.length ≤ 6 then readEnd s false (Lib.decFrom 0 s) else (0, false))
theorem l1Read_j1 (s t : ByteArray) (hs : s.size ≤ 1048576) (ht : t.size ≤ s.size) : Ev (fun k => spec_l1Read.j1 k s t) (if 1 ≤ t.size ∧ t.size ≤ 6 then readEnd s.data.toList (decide (t.size < s.size)) (Lib.decFrom 0 t.data.toList) else (0, false)) := by
  refine Ev.step (fun k => by rw [spec_l1Read.j1]) ?_
  simp only [l1In_eq, Option.bind_some, decide_eq_true_eq]
  by_cases h : 1 ≤ t.size ∧ t.size ≤ 6
  · simp only [if_pos (show 1 ≤ (t.size : Int) ∧ (t.size : Int) ≤ 6 by omega), if_pos h]
    exact l1Read_l0 s t h.2 hs t.size 0 0 (by omega) (by decide)
  · simp only [if_neg (show ¬ (1 ≤ (t.size : Int) ∧ (t.size : Int) ≤ 6) by omega), if_neg h]
    exact Ev.now _
theorem l1Read_ev (s : ByteArray) (hs : s.size ≤ 1048576) : Ev (fun k => spec_l1Read.f k s) (readL s.data.toList) := by
  unfold spec_l1Read.f readL
  have hz := ba_size s
  by_cases h1 : s.size > 1
  · have hl : 0 < s.data.toList.length := by omega
    have hh : s.data.toList.head? = some s.data.toList[0] := by
      rw [List.head?_eq_getElem?, List.getElem?_eq_getElem hl]
    have hb := bt_at s 0 (by omega)
    have hb : bt s 0 = (s.data.toList[0].toNat : Int) := hb
    simp only [if_pos (show (s.size : Int) > 1 by omega), if_pos (show 0 < (s.size : Int) by omega), hb]
    by_cases hc : s.data.toList[0] = 45
    · have hbe : ((s.data.toList[0].toNat : Int) == 45) = true := by rw [hc]; rfl
      have hex : (s.extract 1 s.size).data.toList = s.data.toList.tail := by
        rw [ByteArray.data_extract, Array.toList_extract, List.extract_eq_take_drop, List.take_of_length_le (by rw [List.length_drop]; omega), List.drop_one]
      have hes : (s.extract 1 s.size).size = s.size - 1 := by rw [ba_size, hex, List.length_tail, ← hz]
      refine Ev.step (fun k => by rw [spec_l1Read.j0]) ?_
      simp only [hbe, if_true, if_pos (show 1 ≤ (s.size : Int) by omega)]
      refine Ev.as (l1Read_j1 s (s.extract 1 s.size) hs (by omega)) ?_
      rw [hes, hex, decide_eq_true (show s.size - 1 < s.size by omega), if_pos (show s.data.toList.length > 1 ∧ s.data.toList.head? = some 45 from ⟨by omega, by rw [hh, hc]⟩)]
      by_cases h7 : s.data.toList.length ≤ 7
      · rw [if_pos h7, if_pos ⟨by omega, by omega⟩]
      · rw [if_neg h7, if_neg (by omega)]
    · have hbe : ((s.data.toList[0].toNat : Int) == 45) = false := beq_eq_false_iff_ne.2 (fun e => hc (UInt8.toNat_inj.1 (show s.data.toList[0].toNat = (45 : UInt8).toNat from by have : (45 : UInt8).toNat = 45 := rfl; omega)))
      refine Ev.step (fun k => by rw [spec_l1Read.j0]) ?_
      simp only [hbe, Bool.false_eq_true, if_false]
      refine Ev.as (l1Read_j1 s s hs (Nat.le_refl _)) ?_
      rw [decide_eq_false (Nat.lt_irrefl _), if_neg (show ¬ (s.data.toList.length > 1 ∧ s.data.toList.head? = some 45) from fun e => hc (by rw [hh] at e; exact Option.some.inj e.2)), hz]
  · simp only [if_neg (show ¬ (s.size : Int) > 1 by omega)]
    refine Ev.step (fun k => by rw [spec_l1Read.j0]) ?_
    simp only [Bool.false_eq_true, if_false]
    refine Ev.as (l1Read_j1 s s hs (Nat.le_refl _)) ?_
    rw [decide_eq_false (Nat.lt_irrefl _), if_neg (show ¬ (s.data.toList.length > 1 ∧ s.data.toList.head? = some 45) by omega), hz]
/-- The number of a text. -/
theorem readL_yes (n : Int) (h0 : -999999 ≤ n) (h1 : n ≤ 999999) : readL (Lib.itoa n) = (n, true) := by
  unfold readL
  by_cases hn : n < 0
  · obtain ⟨u, hu⟩ : ∃ u : Nat, n = -(u : Int) := ⟨n.natAbs, by omega⟩
    subst hu
    have he := Lib.itoa_neg u (by omega)
    have h6 := dec_len6 5 u (by omega)
    have h7 := dec_ne u
    rw [he, if_pos ⟨by rw [List.length_cons]; omega, rfl⟩, if_pos (by rw [List.length_cons]; omega), List.tail_cons, dec_read u u (Nat.le_refl _)]
    unfold readEnd
    simp only [if_true]
    rw [if_pos he]
  · obtain ⟨u, hu⟩ : ∃ u : Nat, n = (u : Int) := ⟨n.toNat, by omega⟩
    subst hu
    have he := Lib.itoa_nonneg u
    have h6 := dec_len6 5 u (by omega)
    have h7 := dec_ne u
    obtain ⟨c, r, hc, hc5, _⟩ := dec_cons u
    rw [he, if_neg (fun e => hc5 (by rw [hc] at e; exact Option.some.inj e.2)), if_pos ⟨h7, h6⟩, dec_read u u (Nat.le_refl _)]
    unfold readEnd
    simp only [Bool.false_eq_true, if_false]
    rw [if_pos he]
theorem readEnd_cases (s : List UInt8) (neg : Bool) (o : Option Nat) (ho : ∀ m, o = some m → m ≤ 999999) : readEnd s neg o = (0, false) ∨ ∃ n : Int, -999999 ≤ n ∧ n ≤ 999999 ∧ Lib.itoa n = s ∧ readEnd s neg o = (n, true) := by
  cases o with
  | none => exact .inl rfl
  | some m =>
    have hm := ho m rfl
    unfold readEnd
    by_cases he : Lib.itoa (if neg = true then -(m : Int) else (m : Int)) = s
    · right
      refine ⟨_, ?_, ?_, he, by simp only [if_pos he]⟩
      · cases neg <;> simp <;> omega
      · cases neg <;> simp <;> omega
    · left
      simp only [if_neg he]
theorem dec_small (l : List UInt8) (hl : l.length ≤ 6) (m : Nat) (h : Lib.decFrom 0 l = some m) : m ≤ 999999 := by
  have h1 := Lib.decFrom_lt l 0 m h
  have hp : 10 ^ l.length ≤ 10 ^ 6 := Nat.pow_le_pow_right (by decide) hl
  omega
theorem readL_cases (s : List UInt8) : readL s = (0, false) ∨ ∃ n : Int, -999999 ≤ n ∧ n ≤ 999999 ∧ Lib.itoa n = s ∧ readL s = (n, true) := by
  unfold readL
  split
  · rename_i h
    split
    · rename_i h7
      exact readEnd_cases s true _ (fun m hm => dec_small s.tail (by rw [List.length_tail]; omega) m hm)
    · exact .inl rfl
  · split
    · rename_i h6
      exact readEnd_cases s false _ (fun m hm => dec_small s h6.2 m hm)
    · exact .inl rfl
/-- A numeral is read as its number. -/
theorem atoi_itoa (n : Int) (h0 : -999999 ≤ n) (h1 : n ≤ 999999) : Lib.atoiAll (Lib.itoa n) = .ok n := by
  by_cases hn : n < 0
  · obtain ⟨u, hu⟩ : ∃ u : Nat, n = -(u : Int) := ⟨n.natAbs, by omega⟩
    subst hu
    have h6 := dec_len6 5 u (by omega)
    obtain ⟨c, r, hc, _, _⟩ := dec_cons u
    rw [Lib.itoa_neg u (by omega), Lib.atoiAll_short _ (by rw [List.length_cons]; omega)]
    have hd : Lib.decNat (Lib.decDigits u) = some u := by
      unfold Lib.decNat
      rw [if_neg (by rw [hc]; simp), dec_read u u (Nat.le_refl _)]
    simp only [Lib.atoi, beq_self_eq_true, if_true, hd, Option.map_some]
    rfl
  · obtain ⟨u, hu⟩ : ∃ u : Nat, n = (u : Int) := ⟨n.toNat, by omega⟩
    subst hu
    have h6 := dec_len6 5 u (by omega)
    obtain ⟨c, r, hc, h45, h43⟩ := dec_cons u
    rw [Lib.itoa_nonneg, Lib.atoiAll_short _ (by omega)]
    have hd : Lib.decNat (Lib.decDigits u) = some u := by
      unfold Lib.decNat
      rw [if_neg (by rw [hc]; simp), dec_read u u (Nat.le_refl _)]
    rw [hc] at hd ⊢
    simp only [Lib.atoi, beq_eq_false_iff_ne.2 h45, beq_eq_false_iff_ne.2 h43, Bool.false_eq_true, if_false, hd, Option.map_some]
    rfl
theorem itoa_eq64 (n : Int) (h0 : -9223372036854775808 ≤ n) (h1 : n ≤ 9223372036854775807) : strconv_Itoa.f n = some ⟨(Lib.itoa n).toArray⟩ := by
  unfold strconv_Itoa.f
  rw [if_pos ⟨h0, h1⟩]

theorem implParse_eq (s : ByteArray) (hs : s.size ≤ 1048576) : impl_ParseInt.f s = some (readL s.data.toList) := by
  have hw : ∀ v : Int, impl_within.f v (-999999) 999999 = some (decide (-999999 ≤ v ∧ v ≤ 999999)) := fun v => within_eq v _ _
  unfold impl_ParseInt.f strconv_Atoi.f
  rw [if_pos (by omega), Option.bind_some]
  have main : ∀ v : Int, Lib.itoa v = s.data.toList → -999999 ≤ v → v ≤ 999999 → Lib.atoiAll s.data.toList = .ok v := fun v h h0 h1 => by rw [← h]; exact atoi_itoa v h0 h1
  cases ha : Lib.atoiAll s.data.toList with
  | ok v =>
    have hb := Lib.atoiAll_bounds ha
    simp only [show (none : Option Int).isNone = true from rfl, if_true, itoa_eq64 v hb.1 hb.2, Option.bind_some, toList_iff, hw, decide_eq_true_eq]
    rcases readL_cases s.data.toList with hr | ⟨n, h0, h1, h2, hr⟩
    · rw [hr]
      by_cases he : Lib.itoa v = s.data.toList
      · by_cases hv : -999999 ≤ v ∧ v ≤ 999999
        · have := readL_yes v hv.1 hv.2
          rw [he, hr] at this
          cases this
        · simp only [if_pos he, if_neg hv]
      · simp only [if_neg he]
    · have e := main n h2 h0 h1
      rw [ha] at e
      injection e with e
      subst e
      rw [hr, if_pos h2, if_pos ⟨h0, h1⟩]
  | _ =>
    simp only [show (some (0 : Int)).isNone = false from rfl, Bool.false_eq_true, if_false]
    rcases readL_cases s.data.toList with hr | ⟨n, h0, h1, h2, hr⟩
    · rw [hr]
    · have e := main n h2 h0 h1
      rw [ha] at e
      cases e

/-- The bytes that a reader of draws reads. -/
def Code8 (c : List Int) : Prop := (∀ x ∈ c, 0 ≤ x ∧ x ≤ 255) ∧ c.length ≤ 140737488351232
theorem code8 {c : List Int} (h1 : c.length * 1 ≤ 140737488351232) (h2 : ∀ x ∈ c, (Lit.int .u8 x).wf = true) : Code8 c := by
  refine ⟨fun x hx => ?_, by omega⟩
  have h := h2 x hx
  simp [Lit.wf, IntKind.min, IntKind.max, IntKind.signed, IntKind.bits] at h
  omega
theorem and255 (x : Int) (h0 : 0 ≤ x) (h1 : x < 18446744073709551616) : 0 ≤ Go.bits .and .u64 x 255 ∧ Go.bits .and .u64 x 255 ≤ 255 := by
  have := Go.bits_mask .u64 64 (by decide) (fun n g0 g1 => by rw [IntKind.wrap_u64]; omega) 8 (by decide) x h0 h1
  rw [show ((2 : Int) ^ 8 - 1) = 255 by decide, show ((2 : Int) ^ 8) = 256 by decide] at this
  rw [this]
  omega
theorem u64_range (x : Int) : 0 ≤ IntKind.u64.wrap x ∧ IntKind.u64.wrap x < 18446744073709551616 := by
  rw [IntKind.wrap_u64]
  omega
theorem seedByte (x : Int) : 0 ≤ wrap64 (Go.bits .and .u64 (IntKind.u64.wrap x / 1099511627776) 255) ∧ wrap64 (Go.bits .and .u64 (IntKind.u64.wrap x / 1099511627776) 255) ≤ 255 := by
  have h := u64_range x
  have h2 := and255 (IntKind.u64.wrap x / 1099511627776) (by omega) (by omega)
  rw [w64 (by omega) (by omega)]
  exact h2
theorem next_ok {c : List Int} (hc : Code8 c) {p : Int} (s : Int) (h0 : 0 ≤ p) (h1 : p ≤ 4611686018427387904) : ∃ b s', spec_l1Cur_next.f c p s = some (b, p + 1, s') ∧ 0 ≤ b ∧ b ≤ 255 := by
  unfold spec_l1Cur_next.f
  rw [w64 (show -9223372036854775808 ≤ p + 1 by omega) (by omega)]
  by_cases h : p < (c.length : Int)
  · have hb := hc.1 _ (rd_mem h0 h)
    have e : wrap64 (rd c p) = rd c p := w64 (by omega) (by omega)
    simp only [if_pos h, if_pos h0, e]
    split
    · exact ⟨_, _, rfl, hb⟩
    · exact ⟨_, _, rfl, seedByte _⟩
  · simp only [if_neg h]
    split
    · exact ⟨_, _, rfl, by omega, by omega⟩
    · exact ⟨_, _, rfl, seedByte _⟩
theorem tmod_in {x n : Int} (h0 : 0 ≤ x) (h1 : 1 ≤ n) : 0 ≤ Int.tmod x n ∧ Int.tmod x n < n := by
  rw [Int.tmod_eq_emod_of_nonneg h0]
  exact ⟨Int.emod_nonneg _ (by omega), Int.emod_lt_of_pos _ (by omega)⟩
theorem pick_ok {c : List Int} (hc : Code8 c) {p : Int} (s n : Int) (h0 : 0 ≤ p) (h1 : p ≤ 4611686018427387000) : ∃ x p' s', spec_l1Cur_pick.f c p s n = some (x, p', s') ∧ (p ≤ p' ∧ p' ≤ p + 2) ∧ 0 ≤ x ∧ (1 ≤ n → x < n) := by
  unfold spec_l1Cur_pick.f
  by_cases hn : n ≤ 1
  · rw [if_pos hn]
    exact ⟨_, _, _, rfl, by omega, by omega, by omega⟩
  · rw [if_neg hn]
    obtain ⟨b, s1, e1, b0, b1⟩ := next_ok hc s h0 (by omega)
    rw [e1, Option.bind_some]
    by_cases h2 : n > 200
    · obtain ⟨d, s2, e2, d0, d1⟩ := next_ok hc s1 (show 0 ≤ p + 1 by omega) (by omega)
      simp only [if_pos h2, e2, Option.bind_some, if_neg (show ¬ n = 0 by omega)]
      rw [w64 (show -9223372036854775808 ≤ b * 256 by omega) (by omega), w64 (show -9223372036854775808 ≤ b * 256 + d by omega) (by omega)]
      have := tmod_in (show 0 ≤ b * 256 + d by omega) (show 1 ≤ n by omega)
      exact ⟨_, _, _, rfl, by omega, this.1, fun _ => this.2⟩
    · simp only [if_neg h2, if_neg (show ¬ n = 0 by omega)]
      have := tmod_in b0 (show 1 ≤ n by omega)
      exact ⟨_, _, _, rfl, by omega, this.1, fun _ => this.2⟩

theorem among_ok {c : List Int} (hc : Code8 c) {p : Int} (s : Int) (l : List Int) (h0 : 0 ≤ p) (h1 : p ≤ 4611686018427387000) (hl : 1 ≤ l.length) : ∃ x p' s', spec_l1Cur_among.f c p s l = some (x, p', s') ∧ (p ≤ p' ∧ p' ≤ p + 2) ∧ x ∈ l := by
  unfold spec_l1Cur_among.f
  obtain ⟨x, p', s', e, hp, x0, x1⟩ := pick_ok hc s (l.length : Int) h0 h1
  have x1' := x1 (by omega)
  simp only [e, Option.bind_some, if_pos x0, if_pos x1']
  exact ⟨_, _, _, rfl, hp, rd_mem x0 x1'⟩
theorem one_ok {c : List Int} (hc : Code8 c) {p : Int} (s n : Int) (h0 : 0 ≤ p) (h1 : p ≤ 4611686018427387000) : ∃ x p' s', spec_l1Cur_one.f c p s n = some (x, p', s') ∧ (p ≤ p' ∧ p' ≤ p + 2) := by
  unfold spec_l1Cur_one.f
  obtain ⟨x, p', s', e, hp, x0, x1⟩ := pick_ok hc s n h0 h1
  simp only [e, Option.bind_some]
  exact ⟨_, _, _, rfl, hp⟩

theorem of_ok {c : List Int} (hc : Code8 c) {p : Int} (s : Int) (l : List ByteArray) (h0 : 0 ≤ p) (h1 : p ≤ 4611686018427387000) (hl : 1 ≤ l.length) : ∃ x p' s', spec_l1Cur_of.f c p s l = some (x, p', s') ∧ (p ≤ p' ∧ p' ≤ p + 2) ∧ x ∈ l := by
  unfold spec_l1Cur_of.f
  obtain ⟨x, p', s', e, hp, x0, x1⟩ := pick_ok hc s (l.length : Int) h0 h1
  have x1' := x1 (by omega)
  simp only [e, Option.bind_some, if_pos x0, if_pos x1', rdStr' l x x0 x1']
  exact ⟨_, _, _, rfl, hp, List.getElem_mem _⟩
theorem any1_ok {c : List Int} (hc : Code8 c) {p : Int} (s : Int) (h0 : 0 ≤ p) (h1 : p ≤ 4611686018427387000) : ∃ x p' s', spec_l1Cur_any1.f c p s = some (x, p', s') ∧ (p ≤ p' ∧ p' ≤ p + 2) ∧ x.size ≤ 10 := by
  unfold spec_l1Cur_any1.f
  obtain ⟨x, p', s', e, hp, hx⟩ := of_ok hc s [(⟨#[]⟩ : ByteArray), (⟨#[97]⟩ : ByteArray), (⟨#[97, 44, 98]⟩ : ByteArray), (⟨#[115, 111, 109, 101, 32, 119, 111, 114, 100, 115]⟩ : ByteArray), (⟨#[120, 35, 121]⟩ : ByteArray), (⟨#[45, 49, 50]⟩ : ByteArray), (⟨#[0, 255]⟩ : ByteArray), (⟨#[44, 44]⟩ : ByteArray), (⟨#[48]⟩ : ByteArray)] h0 h1 (by simp)
  refine ⟨x, p', s', by simp only [e, Option.bind_some], hp, ?_⟩
  simp only [List.mem_cons, List.not_mem_nil, or_false] at hx
  rcases hx with rfl | rfl | rfl | rfl | rfl | rfl | rfl | rfl | rfl <;> decide

/-- The checksum's number. -/
def sumN (h : Nat) : List UInt8 → Nat
  | [] => h
  | b :: l => sumN ((41 * h + b.toNat + 1) % 999979) l
theorem sumN_ev (s : ByteArray) (hs : s.size ≤ 1048576) : ∀ (d i h : Nat), i + d = s.size → h < 999979 →
    Ev (fun k => spec_l1Sum.l0 k s (h : Int) (i : Int)) ((sumN h (s.data.toList.drop i) : Nat) : Int) ∧ Ev (fun k => impl_Checksum.l0 k s (h : Int) (s.size : Int) (i : Int)) (((sumN h (s.data.toList.drop i) : Nat) : Int), true) ∧ sumN h (s.data.toList.drop i) < 999979 := by
  intro d
  induction d with
  | zero =>
    intro i h e hh
    rw [List.drop_eq_nil_of_le (by rw [← ba_size]; omega), sumN]
    refine ⟨Ev.step (fun k => by rw [spec_l1Sum.l0]) ?_, Ev.step (fun k => by rw [impl_Checksum.l0]) ?_, hh⟩
    · simp only [if_neg (show ¬ (i : Int) < (s.size : Int) by omega)]; exact Ev.now _
    · simp only [if_neg (show ¬ (i : Int) < (s.size : Int) by omega)]; exact Ev.now _
  | succ d ih =>
    intro i h e hh
    have hi : i < s.size := by omega
    have hi2 : i < s.data.toList.length := by rw [← ba_size]; exact hi
    have ei : wrap64 ((i : Int) + 1) = ((i + 1 : Nat) : Int) := by rw [w64 (by omega) (by omega)]; exact (Int.natCast_add i 1).symm
    have hb := UInt8.toNat_lt (s.data.toList[i])
    have e1 : wrap64 (41 * (h : Int)) = 41 * (h : Int) := w64 (by omega) (by omega)
    have e2 : wrap64 (bt s (i : Int)) = ((s.data.toList[i]).toNat : Int) := by rw [bt_at s i hi]; exact w64 (by omega) (by omega)
    have e3 : wrap64 (41 * (h : Int) + ((s.data.toList[i]).toNat : Int)) = 41 * (h : Int) + ((s.data.toList[i]).toNat : Int) := w64 (by omega) (by omega)
    have e4 : wrap64 (41 * (h : Int) + ((s.data.toList[i]).toNat : Int) + 1) = ((41 * h + (s.data.toList[i]).toNat + 1 : Nat) : Int) := by rw [w64 (by omega) (by omega)]; omega
    have e5 : Int.tmod ((41 * h + (s.data.toList[i]).toNat + 1 : Nat) : Int) 999979 = (((41 * h + (s.data.toList[i]).toNat + 1) % 999979 : Nat) : Int) := by
      rw [show (999979 : Int) = ((999979 : Nat) : Int) from rfl, ← Int.ofNat_tmod]
    obtain ⟨h1, h2, h3⟩ := ih (i + 1) ((41 * h + (s.data.toList[i]).toNat + 1) % 999979) (by omega) (Nat.mod_lt _ (by decide))
    rw [List.drop_eq_getElem_cons hi2, sumN]
    refine ⟨Ev.step (fun k => by rw [spec_l1Sum.l0]) ?_, Ev.step (fun k => by rw [impl_Checksum.l0]) ?_, h3⟩
    · simp only [if_pos (show (i : Int) < (s.size : Int) by omega), if_pos (show 0 ≤ (i : Int) by omega), e1, e2, e3, e4, e5, ei]; exact h1
    · simp only [if_pos (show (i : Int) < (s.size : Int) by omega), if_pos (show 0 ≤ (i : Int) by omega), e1, e2, e3, e4, e5, ei]; exact h2
theorem sumN_of (s : ByteArray) (hs : s.size ≤ 1048576) : Ev (fun k => spec_l1Sum.f k s) ((sumN 7 s.data.toList : Nat) : Int) ∧ Ev (fun k => impl_Checksum.l0 k s 7 (s.size : Int) 0) (((sumN 7 s.data.toList : Nat) : Int), true) ∧ sumN 7 s.data.toList < 999979 := by
  have h := sumN_ev s hs s.size 0 7 (by omega) (by omega)
  rw [List.drop_zero] at h
  exact h
theorem sumN_inj : ∀ (l : List UInt8) (h h' : Nat), h < 999979 → h' < 999979 → sumN h l = sumN h' l → h = h'
  | [], h, h', _, _, e => e
  | b :: l, h, h', a, a', e => by
    have := sumN_inj l _ _ (Nat.mod_lt _ (by decide)) (Nat.mod_lt _ (by decide)) e
    omega
theorem sumN_app : ∀ (u w : List UInt8) (h : Nat), sumN h (u ++ w) = sumN (sumN h u) w
  | [], w, h => rfl
  | b :: u, w, h => sumN_app u w _
theorem sumN_lt : ∀ (u : List UInt8) (h : Nat), h < 999979 → sumN h u < 999979
  | [], h, a => a
  | b :: u, h, a => sumN_lt u _ (Nat.mod_lt _ (by decide))
theorem sumN_change (u w : List UInt8) (b b' : UInt8) (hb : b ≠ b') : sumN 7 (u ++ b :: w) ≠ sumN 7 (u ++ b' :: w) := by
  intro e
  rw [sumN_app, sumN_app, sumN, sumN] at e
  have hh := sumN_lt u 7 (by omega)
  have e := sumN_inj w _ _ (Nat.mod_lt _ (by decide)) (Nat.mod_lt _ (by decide)) e
  have h1 := UInt8.toNat_lt b
  have h2 := UInt8.toNat_lt b'
  exact hb (UInt8.toNat_inj.1 (by omega))

/-- A text with its sign and its checksum. -/
def sl (x : List UInt8) : List UInt8 := x ++ 35 :: Lib.itoa ((sumN 7 x : Nat) : Int)
theorem itoa_no35 (u : Nat) : (35 : UInt8) ∉ Lib.itoa (u : Int) := by
  rw [Lib.itoa_nonneg]
  intro h
  obtain ⟨k, hk⟩ := List.mem_iff_getElem?.1 h
  obtain ⟨d, hd⟩ := dec_digit u 35 k hk
  cases hd
theorem itoa_inj (u v : Nat) (h : Lib.itoa (u : Int) = Lib.itoa (v : Int)) : u = v := by
  rw [Lib.itoa_nonneg, Lib.itoa_nonneg] at h
  have h1 := dec_read u u (Nat.le_refl _)
  rw [h, dec_read v v (Nat.le_refl _)] at h1
  exact (Option.some.inj h1).symm
theorem first_one (c : UInt8) : ∀ (x a u v : List UInt8), c ∉ x → c ∉ a → x ++ c :: u = a ++ c :: v → x = a ∧ u = v
  | [], [], u, v, _, _, e => ⟨rfl, (List.cons.inj e).2⟩
  | [], d :: a, u, v, _, ha, e => absurd (by rw [(List.cons.inj e).1]; exact List.mem_cons_self) ha
  | d :: x, [], u, v, hx, _, e => absurd (by rw [← (List.cons.inj e).1]; exact List.mem_cons_self) hx
  | d :: x, f :: a, u, v, hx, ha, e => by
    obtain ⟨h1, h2⟩ := List.cons.inj e
    obtain ⟨h3, h4⟩ := first_one c x a u v (fun h => hx (List.mem_cons_of_mem _ h)) (fun h => ha (List.mem_cons_of_mem _ h)) h2
    exact ⟨by rw [h1, h3], h4⟩
theorem set_split (l : List UInt8) (k : Nat) (b : UInt8) (hk : k < l.length) : l.set k b = l.take k ++ b :: l.drop (k + 1) ∧ l = l.take k ++ l[k] :: l.drop (k + 1) := by
  refine ⟨List.set_eq_take_append_cons_drop.trans (if_pos hk), ?_⟩
  rw [← List.drop_eq_getElem_cons hk, List.take_append_drop]
theorem no_two (x a : List UInt8) (hx : (35 : UInt8) ∉ x) (ha : (35 : UInt8) ∉ a) (k : Nat) (b : UInt8) (hk : k < (sl x).length) (hb : b ≠ (sl x)[k]) : (sl x).set k b ≠ sl a := by
  intro e
  by_cases h1 : k < x.length
  · have hg : (sl x)[k] = x[k] := List.getElem_append_left h1
    rw [hg] at hb
    obtain ⟨s1, s2⟩ := set_split x k b h1
    unfold sl at e
    rw [List.set_append_left _ _ h1] at e
    by_cases hc : b = 35
    · rw [s1, hc, List.append_assoc, List.cons_append] at e
      obtain ⟨_, e2⟩ := first_one 35 _ _ _ _ (fun h => hx (List.mem_of_mem_take h)) ha e
      exact itoa_no35 _ (by rw [← e2]; exact List.mem_append_right _ List.mem_cons_self)
    · have hn : (35 : UInt8) ∉ x.set k b := fun h => by
        rcases List.mem_or_eq_of_mem_set h with h | h
        · exact hx h
        · exact hc h.symm
      obtain ⟨e1, e2⟩ := first_one 35 _ _ _ _ hn ha e
      have e3 := itoa_inj _ _ e2
      rw [← e1, s1] at e3
      rw [s2] at e3
      simp only [List.take_append_of_le_length (show k ≤ (x.take k).length by rw [List.length_take]; omega)] at e3
      refine sumN_change (x.take k) (x.drop (k + 1)) x[k] b (Ne.symm hb) ?_
      rw [← s2, ← s1, e1]
      exact itoa_inj _ _ e2
  · by_cases h2 : k = x.length
    · have hg : (sl x)[k] = 35 := (List.getElem_eq_iff hk).2 (by
        unfold sl
        rw [List.getElem?_append_right (by omega), h2, Nat.sub_self]
        rfl)
      rw [hg] at hb
      unfold sl at e
      rw [List.set_append_right _ _ (by omega), show k - x.length = 0 by omega, List.set_cons_zero] at e
      have : (35 : UInt8) ∈ x ++ b :: Lib.itoa ((sumN 7 x : Nat) : Int) := by
        rw [e]
        exact List.mem_append_right _ List.mem_cons_self
      rcases List.mem_append.1 this with h | h
      · exact hx h
      · rcases List.mem_cons.1 h with h | h
        · exact hb h.symm
        · exact itoa_no35 _ h
    · have hl : (sl x).length = x.length + (Lib.itoa ((sumN 7 x : Nat) : Int)).length + 1 := by
        unfold sl
        rw [List.length_append, List.length_cons]
        omega
      obtain ⟨j, hj⟩ : ∃ j, k = x.length + (j + 1) := ⟨k - x.length - 1, by omega⟩
      have hjl : j < (Lib.itoa ((sumN 7 x : Nat) : Int)).length := by omega
      have hg : (sl x)[k] = (Lib.itoa ((sumN 7 x : Nat) : Int))[j] := (List.getElem_eq_iff hk).2 (by
        unfold sl
        rw [List.getElem?_append_right (by omega), show k - x.length = j + 1 by omega, List.getElem?_cons_succ, List.getElem?_eq_getElem hjl])
      rw [hg] at hb
      unfold sl at e
      rw [List.set_append_right _ _ (by omega), show k - x.length = j + 1 by omega, List.set_cons_succ] at e
      obtain ⟨e1, e2⟩ := first_one 35 _ _ _ _ hx ha e
      rw [← e1] at e2
      have h3 : ((Lib.itoa ((sumN 7 x : Nat) : Int)).set j b)[j]'(by rw [List.length_set]; exact hjl) = b := List.getElem_set_self _
      have h4 : ((Lib.itoa ((sumN 7 x : Nat) : Int)).set j b)[j]'(by rw [List.length_set]; exact hjl) = (Lib.itoa ((sumN 7 x : Nat) : Int))[j] := by
        congr 1
      exact hb (h3.symm.trans h4)

theorem sl_size (x : ByteArray) : ((x ++ (⟨#[35]⟩ : ByteArray)) ++ ⟨(Lib.itoa ((sumN 7 x.data.toList : Nat) : Int)).toArray⟩).data.toList = sl x.data.toList := by
  rw [ba_app, ba_app]
  unfold sl
  rw [List.append_assoc]
  rfl
theorem cut_first (l : List UInt8) : ∃ a, (Lib.cut l [35]).1 = a ∧ (35 : UInt8) ∉ a ∧ a.length ≤ l.length ∧ (l = a ∨ ∃ r, l = a ++ 35 :: r) := by
  rcases index_one 35 l with ⟨h1, h2⟩ | ⟨i, h1, a, r, rfl, h3, h4⟩
  · refine ⟨l, ?_, h2, Nat.le_refl _, .inl rfl⟩
    unfold Lib.cut
    rw [h1, if_neg (by omega)]
  · refine ⟨a, ?_, h3, by simp, .inr ⟨r, rfl⟩⟩
    unfold Lib.cut
    rw [h1, if_pos (by omega), Int.toNat_natCast, ← h4, List.take_left']
    rfl
open Classical in
/-- What VerifyChecksum gives. -/
theorem verify_ev (s : ByteArray) (hs : s.size ≤ 1048576) : ∃ a : List UInt8, (35 : UInt8) ∉ a ∧ (s.data.toList = a ∨ ∃ r, s.data.toList = a ++ 35 :: r) ∧ Ev (fun k => impl_VerifyChecksum.f k s) (if s.data.toList = sl a ∧ s.size ≤ 4000 then (⟨a.toArray⟩, true) else (⟨#[]⟩, false)) := by
  obtain ⟨a, e4, e2, e3, e5⟩ := cut_first s.data.toList
  refine ⟨a, e2, e5, ?_⟩
  have hsz : (⟨a.toArray⟩ : ByteArray).size = a.length := by rw [ba_size]
  have hal : (⟨a.toArray⟩ : ByteArray).size ≤ s.size := by rw [hsz, ba_size s]; exact e3
  obtain ⟨q1, q2, q3⟩ := sumN_of ⟨a.toArray⟩ (by omega)
  have hcut : strings_Cut.f s ⟨#[35]⟩ = some (⟨a.toArray⟩, ⟨(Lib.cut s.data.toList [35]).2.1.toArray⟩, (Lib.cut s.data.toList [35]).2.2) := by
    unfold strings_Cut.f
    rw [if_pos (by omega)]
    show some ((⟨(Lib.cut s.data.toList [35]).1.toArray⟩ : ByteArray), _, _) = _
    rw [e4]
  have hda : (⟨a.toArray⟩ : ByteArray).data.toList = a := rfl
  rw [hda] at q1 q2 q3
  have hsl : ((((⟨a.toArray⟩ : ByteArray) ++ (⟨#[35]⟩ : ByteArray)) ++ ⟨(Lib.itoa ((sumN 7 a : Nat) : Int)).toArray⟩)).data.toList = sl a := sl_size ⟨a.toArray⟩
  have hss : s.data.toList = sl a → s.size = ((((⟨a.toArray⟩ : ByteArray) ++ (⟨#[35]⟩ : ByteArray)) ++ ⟨(Lib.itoa ((sumN 7 a : Nat) : Int)).toArray⟩)).size := fun h => by rw [ba_size, ba_size, hsl, h]
  unfold impl_VerifyChecksum.f
  simp only [hcut, Option.bind_some]
  have hno : ¬ (s.data.toList = sl a ∧ s.size ≤ 4000) → (if s.data.toList = sl a ∧ s.size ≤ 4000 then ((⟨a.toArray⟩ : ByteArray), true) else (⟨#[]⟩, false)) = (⟨#[]⟩, false) := fun h => if_neg h
  have hyes : (s.data.toList = sl a ∧ s.size ≤ 4000) → (if s.data.toList = sl a ∧ s.size ≤ 4000 then ((⟨a.toArray⟩ : ByteArray), true) else (⟨#[]⟩, false)) = (⟨a.toArray⟩, true) := fun h => if_pos h
  by_cases h4 : ((⟨a.toArray⟩ : ByteArray).size : Int) > 4000
  · rw [hno (fun e => by omega)]
    refine Ev.bind (implSealBig ⟨a.toArray⟩ (by omega) h4) ?_
    simp only [Bool.false_eq_true, if_false]
    exact Ev.now _
  · refine Ev.bind (implSeal ⟨a.toArray⟩ h4 _ q2 (by omega) (by omega)) ?_
    by_cases h5 : ((((⟨a.toArray⟩ : ByteArray) ++ (⟨#[35]⟩ : ByteArray)) ++ ⟨(Lib.itoa ((sumN 7 a : Nat) : Int)).toArray⟩).size : Int) > 4000
    · have hse : sealed ⟨a.toArray⟩ ((sumN 7 a : Nat) : Int) = (⟨#[]⟩, false) := by
        unfold sealed
        rw [if_pos (.inr h5)]
      rw [hno (fun e => by have := hss e.1; omega)]
      simp only [hse, Bool.false_eq_true, if_false]
      exact Ev.now _
    · have hse : sealed ⟨a.toArray⟩ ((sumN 7 a : Nat) : Int) = (((⟨a.toArray⟩ : ByteArray) ++ (⟨#[35]⟩ : ByteArray)) ++ ⟨(Lib.itoa ((sumN 7 a : Nat) : Int)).toArray⟩, true) := by
        unfold sealed
        rw [if_neg (fun x => x.elim e2 h5)]
      simp only [hse, if_true]
      by_cases he : s.data.toList = sl a
      · rw [hyes ⟨he, by have := hss he; omega⟩]
        have : (((⟨a.toArray⟩ : ByteArray) ++ (⟨#[35]⟩ : ByteArray)) ++ ⟨(Lib.itoa ((sumN 7 a : Nat) : Int)).toArray⟩).toList = s.toList := by
          rw [ByteArray.toList_eq, ByteArray.toList_eq, hsl, he]
        simp only [if_pos this]
        exact Ev.now _
      · rw [hno (fun e => he e.1)]
        have : ¬ (((⟨a.toArray⟩ : ByteArray) ++ (⟨#[35]⟩ : ByteArray)) ++ ⟨(Lib.itoa ((sumN 7 a : Nat) : Int)).toArray⟩).toList = s.toList := by
          rw [ByteArray.toList_eq, ByteArray.toList_eq, hsl]
          exact fun e => he e.symm
        simp only [if_neg this]
        exact Ev.now _
theorem verify_yes (x y : ByteArray) (hx : (35 : UInt8) ∉ x.data.toList) (hy : y.data.toList = sl x.data.toList) (hs : y.size ≤ 4000) : Ev (fun k => impl_VerifyChecksum.f k y) (x, true) := by
  obtain ⟨a, ha, h, hv⟩ := verify_ev y (by omega)
  have e : a = x.data.toList := by
    rw [hy] at h
    rcases h with h | ⟨r, h⟩
    · exact absurd (by rw [← h]; unfold sl; exact List.mem_append_right _ List.mem_cons_self) ha
    · exact (first_one 35 _ _ _ _ hx ha h).1.symm
  subst e
  rw [if_pos ⟨hy, hs⟩] at hv
  exact hv
theorem verify_no (x y : ByteArray) (hx : (35 : UInt8) ∉ x.data.toList) (k : Nat) (b : UInt8) (hk : k < (sl x.data.toList).length) (hb : b ≠ (sl x.data.toList)[k]) (hy : y.data.toList = (sl x.data.toList).set k b) (hs : y.size ≤ 1048576) : Ev (fun k => impl_VerifyChecksum.f k y) (⟨#[]⟩, false) := by
  obtain ⟨a, ha, _, hv⟩ := verify_ev y hs
  rw [if_neg (fun e => no_two _ a hx ha k b hk hb (by rw [← hy]; exact e.1))] at hv
  exact hv
theorem xor_ne (a m : Int) (ha : 0 ≤ a) (ha2 : a ≤ 255) (hm : 1 ≤ m) (hm2 : m ≤ 255) : Go.bits .xor .u8 a m ≠ a ∧ 0 ≤ Go.bits .xor .u8 a m ∧ Go.bits .xor .u8 a m ≤ 255 := by
  obtain ⟨x, rfl⟩ : ∃ x : Nat, a = (x : Int) := ⟨a.toNat, by omega⟩
  obtain ⟨y, rfl⟩ : ∃ y : Nat, m = (y : Int) := ⟨m.toNat, by omega⟩
  have hz : (BitVec.ofNat 8 x ^^^ BitVec.ofNat 8 y).toNat < 256 := BitVec.isLt _
  have hw : Go.bits .xor .u8 (x : Int) (y : Int) = ((BitVec.ofNat 8 x ^^^ BitVec.ofNat 8 y).toNat : Int) := by
    show IntKind.u8.wrap (((BitVec.ofInt 8 (x : Int)) ^^^ (BitVec.ofInt 8 (y : Int))).toNat : Int) = _
    rw [BitVec.ofInt_natCast, BitVec.ofInt_natCast, IntKind.wrap_u8]
    omega
  rw [hw]
  refine ⟨fun e => ?_, by omega, by omega⟩
  have e1 : (BitVec.ofNat 8 x ^^^ BitVec.ofNat 8 y).toNat = (BitVec.ofNat 8 x).toNat := by
    rw [BitVec.toNat_ofNat, Nat.mod_eq_of_lt (by omega)]
    omega
  have e2 : BitVec.ofNat 8 x ^^^ BitVec.ofNat 8 y = BitVec.ofNat 8 x := BitVec.eq_of_toNat_eq e1
  have e3 : BitVec.ofNat 8 y = 0#8 := by
    have : BitVec.ofNat 8 x ^^^ (BitVec.ofNat 8 x ^^^ BitVec.ofNat 8 y) = BitVec.ofNat 8 x ^^^ BitVec.ofNat 8 x := by rw [e2]
    rw [← BitVec.xor_assoc, BitVec.xor_self, BitVec.zero_xor] at this
    exact this
  have e4 := congrArg BitVec.toNat e3
  rw [BitVec.toNat_ofNat, Nat.mod_eq_of_lt (by omega)] at e4
  simp at e4
  omega
theorem vAt_ok {c : List Int} (hc : Code8 c) (i : Int) (h0 : 0 ≤ i) (h1 : i ≤ 1000) : ∃ v, laws_vAt.f c i = some v ∧ 0 ≤ v := by
  unfold laws_vAt.f
  have hl := hc.2
  by_cases h : i < (c.length : Int)
  · have hb := hc.1 _ (rd_mem h0 h)
    rw [if_pos h, if_pos h0, w64 (by omega) (by omega)]
    exact ⟨_, rfl, hb.1⟩
  · rw [if_neg h, w64 (show -9223372036854775808 ≤ i * 7 by omega) (by omega), w64 (by omega) (by omega)]
    exact ⟨_, rfl, (tmod_in (show 0 ≤ i * 7 + (c.length : Int) by omega) (by omega)).1⟩
theorem drawFormat_ok {c : List Int} (hc : Code8 c) : ∃ n, spec_DrawFormatInt.f c = some n := by
  unfold spec_DrawFormatInt.f
  obtain ⟨x, p1, s1, e1, hp1, _⟩ := pick_ok hc (p := 0) 0 1000 (by omega) (by omega)
  obtain ⟨n, p2, s2, e2, hp2, _⟩ := among_ok hc s1 ([0, 1, (-1), 10, 999999, (-999999), 1000000, (-1000000), wrap64 (x - 500)] : List Int) (show 0 ≤ p1 by omega) (by omega) (by simp)
  exact ⟨n, by simp only [e1, e2, Option.bind_some]⟩
theorem drawParse_ok {c : List Int} (hc : Code8 c) : ∃ t, Ev (fun k => spec_DrawParseInt.f k c) t ∧ t.size ≤ 1000 := by
  unfold spec_DrawParseInt.f
  obtain ⟨b, p1, s1, e1, hp1⟩ := one_ok hc (p := 0) 0 2 (by omega) (by omega)
  simp only [e1, Option.bind_some]
  cases b with
  | true =>
    obtain ⟨t, p2, s2, e2, hp2, ht⟩ := of_ok hc s1 [(⟨#[]⟩ : ByteArray), (⟨#[45]⟩ : ByteArray), (⟨#[45, 48]⟩ : ByteArray), (⟨#[48, 48]⟩ : ByteArray), (⟨#[48, 49]⟩ : ByteArray), (⟨#[45, 45, 49]⟩ : ByteArray), (⟨#[49, 120]⟩ : ByteArray), (⟨#[57, 57, 57, 57, 57, 57]⟩ : ByteArray), (⟨#[49, 48, 48, 48, 48, 48, 48]⟩ : ByteArray), (⟨#[45, 57, 57, 57, 57, 57, 57]⟩ : ByteArray), (⟨#[49, 56, 52, 52, 54, 55, 52, 52, 48, 55, 51, 55, 48, 57, 53, 53, 49, 54, 49, 55]⟩ : ByteArray)] (show 0 ≤ p1 by omega) (by omega) (by simp)
    refine ⟨t, ?_, ?_⟩
    · simp only [if_true, e2, Option.bind_some]
      exact Ev.now _
    · simp only [List.mem_cons, List.not_mem_nil, or_false] at ht
      rcases ht with rfl | rfl | rfl | rfl | rfl | rfl | rfl | rfl | rfl | rfl | rfl <;> decide
  | false =>
    obtain ⟨z, p2, s2, e2, hp2, z0, z1⟩ := pick_ok hc s1 2000 (show 0 ≤ p1 by omega) (by omega)
    have z1 := z1 (by omega)
    have ew : wrap64 (z - 1000) = z - 1000 := w64 (by omega) (by omega)
    refine ⟨⟨(Lib.itoa (z - 1000)).toArray⟩, ?_, ?_⟩
    · simp only [Bool.false_eq_true, if_false, e2, Option.bind_some, ew]
      exact Ev.bind (l1Num_ev (z - 1000) (by omega) (by omega)) (Ev.now _)
    · have := itoa_size (z - 1000) (by omega) (by omega)
      omega
theorem drawAppend_ok {c : List Int} (hc : Code8 c) : ∃ x, spec_DrawAppendChecksum.f c = some x ∧ x.size ≤ 4000 := by
  unfold spec_DrawAppendChecksum.f
  obtain ⟨b, p1, s1, e1, hp1⟩ := one_ok hc (p := 0) 0 20 (by omega) (by omega)
  simp only [e1, Option.bind_some]
  cases b with
  | true =>
    obtain ⟨z, p2, s2, e2, hp2, z0, z1⟩ := pick_ok hc s1 10 (show 0 ≤ p1 by omega) (by omega)
    have z1 := z1 (by omega)
    have ew : wrap64 (3990 + z) = 3990 + z := w64 (by omega) (by omega)
    refine ⟨strOfNums (List.replicate (3990 + z).toNat 0), ?_, ?_⟩
    · simp only [if_true, e2, Option.bind_some, ew, if_pos (show 0 ≤ 3990 + z by omega), if_pos (show (3990 + z : Int).toNat ≤ 281474976710656 by omega)]
    · rw [strOfNums_size, List.length_replicate]
      omega
  | false =>
    obtain ⟨t, p2, s2, e2, hp2, ht⟩ := any1_ok hc s1 (show 0 ≤ p1 by omega) (by omega)
    exact ⟨t, by simp only [Bool.false_eq_true, if_false, e2, Option.bind_some], by omega⟩
theorem bytes_back (l : List Int) (s : ByteArray) (h : l = bytesOf s) : (strOfNums l).data.toList = s.data.toList := by
  rw [h, strOfNums_data]
  unfold bytesOf
  rw [List.map_map]
  refine (List.map_congr_left fun b _ => ?_).trans (List.map_id' _)
  show UInt8.ofNat ((b.toNat : Int)).toNat = b
  rw [Int.toNat_natCast]
  exact UInt8.ofNat_toNat
theorem flipped (s : ByteArray) (q : Nat) (v : Int) : (strOfNums ((bytesOf s).set q v)).data.toList = s.data.toList.set q (UInt8.ofNat v.toNat) := by
  have h := bytes_back _ s rfl
  rw [strOfNums_data] at h ⊢
  rw [List.map_set, h]
theorem rd_bytes (s : ByteArray) (q : Nat) (h : q < s.size) : rd (bytesOf s) (q : Int) = ((s.data.toList[q]'(by rw [← ba_size]; exact h)).toNat : Int) := by
  unfold rd bytesOf
  rw [Int.toNat_natCast, List.getD_eq_getElem?_getD, List.getElem?_map, List.getElem?_eq_getElem (by rw [← ba_size]; exact h)]
  rfl
theorem strings_j1 {c : List Int} (hc : Code8 c) (x : ByteArray) (hx : x.size ≤ 4000) : Ev (fun k => laws_FnStrings.j1 k c x (sealed x ((sumN 7 x.data.toList : Nat) : Int)).1 (sealed x ((sumN 7 x.data.toList : Nat) : Int)).2 false) true := by
  refine Ev.step (fun k => by rw [laws_FnStrings.j1]) ?_
  simp only [Bool.false_eq_true, if_false]
  by_cases hs : (35 : UInt8) ∈ x.data.toList ∨ (((x ++ (⟨#[35]⟩ : ByteArray)) ++ ⟨(Lib.itoa ((sumN 7 x.data.toList : Nat) : Int)).toArray⟩).size : Int) > 4000
  · have hse : sealed x ((sumN 7 x.data.toList : Nat) : Int) = (⟨#[]⟩, false) := by
      unfold sealed
      rw [if_pos hs]
    have he : ((⟨#[]⟩ : ByteArray).toList == ([] : List UInt8)) = true := by
      rw [ByteArray.toList_eq]
      rfl
    rw [hse]
    simp only [Bool.false_eq_true, if_false, he]
    exact Ev.now _
  · obtain ⟨T, hT⟩ : ∃ T, T = ((x ++ (⟨#[35]⟩ : ByteArray)) ++ ⟨(Lib.itoa ((sumN 7 x.data.toList : Nat) : Int)).toArray⟩) := ⟨_, rfl⟩
    have hse : sealed x ((sumN 7 x.data.toList : Nat) : Int) = (T, true) := by
      unfold sealed
      rw [if_neg hs, hT]
    have hTd : T.data.toList = sl x.data.toList := by rw [hT]; exact sl_size x
    have hn : (35 : UInt8) ∉ x.data.toList := fun h => hs (.inl h)
    have hTs : T.size ≤ 4000 := by
      have : ¬ (T.size : Int) > 4000 := by rw [hT]; exact fun h => hs (.inr h)
      omega
    rw [hse]
    have hlen : (bytesOf T).length = T.size := bytesOf_length T
    have hpos : 1 ≤ T.size := by
      rw [ba_size, hTd]
      unfold sl
      rw [List.length_append, List.length_cons]
      omega
    obtain ⟨v, ev, v0⟩ := vAt_ok hc 9 (by omega) (by omega)
    obtain ⟨v2, ev2, v20⟩ := vAt_ok hc 10 (by omega) (by omega)
    obtain ⟨q0, q1⟩ := tmod_in v0 (show 1 ≤ (((bytesOf T).length : Nat) : Int) by omega)
    obtain ⟨m0, m1⟩ := tmod_in v20 (show (1 : Int) ≤ 255 by omega)
    have hm : wrap64 (1 + Int.tmod v2 255) % 256 = 1 + Int.tmod v2 255 := by
      rw [w64 (by omega) (by omega)]
      omega
    obtain ⟨q, hq⟩ : ∃ q : Nat, Int.tmod v ((bytesOf T).length : Int) = (q : Int) := ⟨(Int.tmod v ((bytesOf T).length : Int)).toNat, by omega⟩
    have hqT : q < T.size := by omega
    have hcb : conv_bytes.f T = some (bytesOf T) := by
      unfold conv_bytes.f
      rw [if_pos (by omega)]
    simp only [if_true]
    refine Ev.bind (verify_yes x T hn hTd hTs) ?_
    simp only [hcb, ev, ev2, Option.bind_some, if_neg (show ¬ ((bytesOf T).length : Int) = 0 by omega), hq, if_pos (show (0 : Int) ≤ (q : Int) by omega), if_pos (show (q : Int) < ((bytesOf T).length : Int) by omega), Int.toNat_natCast, hm, rd_bytes T q hqT]
    have hql : q < T.data.toList.length := by rw [← ba_size]; exact hqT
    have hb := UInt8.toNat_lt (T.data.toList[q]'hql)
    obtain ⟨x1, x2, x3⟩ := xor_ne ((T.data.toList[q]'hql).toNat : Int) (1 + Int.tmod v2 255) (by omega) (by omega) (by omega) (by omega)
    generalize Go.bits .xor .u8 ((T.data.toList[q]'hql).toNat : Int) (1 + Int.tmod v2 255) = z at x1 x2 x3 ⊢
    have hfl := flipped T q z
    have hsz : (strOfNums ((bytesOf T).set q z)).size ≤ 1048576 := by
      rw [strOfNums_size, List.length_set]
      omega
    have hne : UInt8.ofNat z.toNat ≠ (sl x.data.toList)[q]'(by rw [← hTd]; exact hql) := by
      intro e
      have e2 : (sl x.data.toList)[q]'(by rw [← hTd]; exact hql) = T.data.toList[q]'hql := by simp only [hTd]
      rw [e2] at e
      have e3 := congrArg UInt8.toNat e
      have e4 : (UInt8.ofNat z.toNat).toNat = z.toNat := UInt8.toNat_ofNat_of_lt' (show z.toNat < 256 by omega)
      rw [e4] at e3
      exact x1 (by omega)
    refine Ev.bind (verify_no x _ hn q (UInt8.ofNat z.toNat) (by rw [← hTd]; exact hql) hne (by rw [hfl, hTd]) hsz) ?_
    simp only [Bool.not_false, if_true]
    exact Ev.now _
theorem FnStrings : laws_FnStrings.Pure := by
  intro c hw
  refine Ev.rounds ?_
  unfold laws_FnStrings.f laws_vBig.f
  simp only [Option.bind_some]
  by_cases hb : decide ((c.length : Int) > 65536) = true
  · simp only [if_pos hb]; exact Ev.now _
  · simp only [if_neg hb]
    have hlen : ¬ (c.length : Int) > 65536 := fun e => hb (decide_eq_true e)
    have hc : Code8 c := code8 (by omega) hw.2
    obtain ⟨n, e1⟩ := drawFormat_ok hc
    obtain ⟨t, e2, ht⟩ := drawParse_ok hc
    obtain ⟨x, e3, hx⟩ := drawAppend_ok hc
    obtain ⟨q1, q2, q3⟩ := sumN_of x (by omega)
    have hA := implSeal x (by omega) _ q2 (by omega) (by omega)
    have hB := specAppend x (by omega) _ q1 (by omega) (by omega)
    rw [if_neg (show ¬ (x.size : Int) > 4000 by omega)] at hB
    have hj := strings_j1 hc x hx
    simp only [e1, implFormat_eq, Option.bind_some]
    refine Ev.bind (specFormat_ev n) (Ev.bind e2 ?_)
    simp only [implParse_eq t (by omega), Option.bind_some]
    refine Ev.bind (show Ev (fun k => spec_ParseInt.f k t) (readL t.data.toList) from by
      unfold spec_ParseInt.f
      exact Ev.bind (l1Read_ev t (by omega)) (Ev.now _)) ?_
    simp only [e3, Option.bind_some]
    refine Ev.bind hA (Ev.bind hB ?_)
    simp only [if_true, bne_self_eq_false, Bool.false_eq_true, if_false]
    refine Ev.step (fun k => by rw [laws_FnStrings.j0]) ?_
    simp only [Bool.false_eq_true, if_false]
    unfold FormatR
    by_cases hn : -999999 ≤ n ∧ n ≤ 999999
    · have hz := itoa_size n (by omega) (by omega)
      have hp := implParse_eq ⟨(Lib.itoa n).toArray⟩ (by omega)
      have hd : (⟨(Lib.itoa n).toArray⟩ : ByteArray).data.toList = Lib.itoa n := rfl
      rw [hd, readL_yes n hn.1 hn.2] at hp
      simp only [if_pos hn, hp, Option.bind_some, if_true, bne_self_eq_false]
      exact hj
    · have hp := implParse_eq ⟨#[]⟩ (by decide)
      simp only [if_neg hn, hp, Option.bind_some, Bool.false_eq_true, if_false]
      exact hj


end Go.Proofs.YthgfndbbbhbkeaaDoor.Pure

