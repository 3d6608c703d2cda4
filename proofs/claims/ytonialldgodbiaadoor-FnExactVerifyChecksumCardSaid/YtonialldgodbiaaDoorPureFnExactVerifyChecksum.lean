/- For every text the plain function of the law FnExactVerifyChecksum answers true. -/
import Derived.Test.YtonialldgodbiaaDoorPFnExactVerifyChecksumx2
import Derived.Test.YtonialldgodbiaaDoorLib
set_option linter.unusedVariables false
set_option linter.unusedSimpArgs false
namespace Go.Proofs.YtonialldgodbiaaDoor.Pure
open Go.RowKit Go.Proofs.YtonialldgodbiaaDoor.PFnExactVerifyChecksum Go.Proofs.YtonialldgodbiaaDoorW.PrintWords Go.Proofs.YtonialldgodbiaaDoorW.PrintLast Go.Proofs.YtonialldgodbiaaDoor.Lib

theorem ba_ext {a b : ByteArray} (h : a.data.toList = b.data.toList) : a = b := by
  cases a; cases b
  simp only [ByteArray.mk.injEq]
  exact Array.toList_inj.1 h
theorem ba_app (a b : ByteArray) : (a ++ b).data.toList = a.data.toList ++ b.data.toList := by
  simp [ByteArray.data_append]
theorem ba_size (a : ByteArray) : a.size = a.data.toList.length := by
  cases a
  simp [ByteArray.size]
theorem bt_at (s : ByteArray) (i : Nat) (h : i < s.size) : bt s (i : Int) = ((s.data.toList[i]'(by rw [← ba_size]; exact h)).toNat : Int) := by
  unfold bt
  rw [Int.toNat_natCast, dif_pos h]
  congr 1

theorem index_mem (l : List UInt8) (c : UInt8) : 0 ≤ Lib.indexByte l c ↔ c ∈ l := by
  induction l with
  | nil => simp [Lib.indexByte]
  | cons b l ih =>
    rw [Lib.indexByte]
    by_cases h : b = c
    · subst h
      simp
    · have hb : (b == c) = false := beq_eq_false_iff_ne.2 h
      rw [hb, if_neg (by simp), List.mem_cons]
      by_cases h2 : Lib.indexByte l c = -1
      · rw [h2]
        simp only [beq_self_eq_true, if_true]
        constructor
        · intro e; omega
        · rintro (e | e)
          · exact absurd e.symm h
          · have := ih.2 e
            omega
      · have hb2 : (Lib.indexByte l c == -1) = false := beq_eq_false_iff_ne.2 h2
        rw [hb2, if_neg (by simp)]
        have hge : -1 ≤ Lib.indexByte l c := by
          clear ih h2 hb2
          induction l with
          | nil => simp [Lib.indexByte]
          | cons a l ih2 =>
            rw [Lib.indexByte]
            split
            · omega
            · split
              · omega
              · omega
        constructor
        · intro e
          exact .inr (ih.1 (by omega))
        · rintro (e | e)
          · exact absurd e.symm h
          · have := ih.2 e
            omega

theorem digit_at : ∀ j : Fin 10, ((⟨#[48, 49, 50, 51, 52, 53, 54, 55, 56, 57]⟩ : ByteArray).extract j.val (j.val + 1)).data.toList = [UInt8.ofNat (48 + j.val)] := by
  decide
theorem digit_nat (j : Nat) (h : j < 10) : (⟨#[48, 49, 50, 51, 52, 53, 54, 55, 56, 57]⟩ : ByteArray).extract j (j + 1) = ⟨#[UInt8.ofNat (48 + j)]⟩ := ba_ext (digit_at ⟨j, h⟩)
theorem dec_len (u : Nat) (h : u ≤ 1000000000000) : (Lib.decDigits u).length ≤ 21 := by
  have := Lib.itoa_length_le (u : Int) (by omega) (by omega)
  rwa [Lib.itoa_nonneg] at this
theorem l1Num_small (u : Nat) (hu : u < 10) : Ev (fun k => spec_l1Num.f k (u : Int)) ⟨(Lib.decDigits u).toArray⟩ := by
  refine Ev.step (fun k => by rw [spec_l1Num.f]) ?_
  have e1 : wrap64 ((u : Int) + 1) = ((u + 1 : Nat) : Int) := by rw [w64 (by omega) (by omega)]; exact (Int.natCast_add u 1).symm
  simp only [if_neg (show ¬ (u : Int) < 0 by omega), if_pos (show (u : Int) < 10 by omega), if_pos (show 0 ≤ (u : Int) by omega), e1, if_pos (show (u : Int) ≤ ((u + 1 : Nat) : Int) by omega), if_pos (show ((u + 1 : Nat) : Int) ≤ 10 by omega), Int.toNat_natCast, digit_nat u hu]
  rw [Lib.decDigits_one hu]
  exact Ev.now _
theorem l1Num_nat : ∀ (m u : Nat), u ≤ m → u ≤ 1000000000000 → Ev (fun k => spec_l1Num.f k (u : Int)) ⟨(Lib.decDigits u).toArray⟩ := by
  intro m
  induction m with
  | zero =>
    intro u h0 h1
    exact l1Num_small u (by omega)
  | succ m ih =>
    intro u h0 h1
    by_cases hu : u < 10
    · exact l1Num_small u hu
    · have e2 : Int.tdiv (u : Int) 10 = ((u / 10 : Nat) : Int) := by
        rw [show (10 : Int) = ((10 : Nat) : Int) from rfl, ← Int.ofNat_tdiv]
      have e3 : Int.tmod (u : Int) 10 = ((u % 10 : Nat) : Int) := by
        rw [show (10 : Int) = ((10 : Nat) : Int) from rfl, ← Int.ofNat_tmod]
      have e4 : wrap64 ((u / 10 : Nat) : Int) = ((u / 10 : Nat) : Int) := w64 (by omega) (by omega)
      have e5 : wrap64 (((u % 10 : Nat) : Int) + 1) = ((u % 10 + 1 : Nat) : Int) := by rw [w64 (by omega) (by omega)]; exact (Int.natCast_add _ 1).symm
      have hd : Lib.decDigits u = Lib.decDigits (u / 10) ++ [UInt8.ofNat (48 + u % 10)] := by
        rw [Lib.decDigits, dif_neg hu]
      have hlen := dec_len (u / 10) (by omega)
      have hs1 : (⟨(Lib.decDigits (u / 10)).toArray⟩ : ByteArray).size ≤ 21 := by rw [ba_size]; exact hlen
      have hs2 : (⟨#[UInt8.ofNat (48 + u % 10)]⟩ : ByteArray).size = 1 := rfl
      refine Ev.step (fun k => by rw [spec_l1Num.f]) ?_
      simp only [if_neg (show ¬ (u : Int) < 0 by omega), if_neg (show ¬ (u : Int) < 10 by omega), e2, e3, e4]
      refine Ev.bind (ih (u / 10) (by omega) (by omega)) ?_
      simp only [if_pos (show 0 ≤ ((u % 10 : Nat) : Int) by omega), e5, if_pos (show ((u % 10 : Nat) : Int) ≤ ((u % 10 + 1 : Nat) : Int) by omega), if_pos (show ((u % 10 + 1 : Nat) : Int) ≤ 10 by omega), Int.toNat_natCast, digit_nat (u % 10) (by omega), hs2, if_pos (show (⟨(Lib.decDigits (u / 10)).toArray⟩ : ByteArray).size + 1 ≤ 9223372036854775807 by omega)]
      refine Ev.some (ba_ext ?_)
      rw [ba_app, hd]
theorem l1Num_ev (n : Int) (h0 : -1000000000 ≤ n) (h1 : n ≤ 1000000000) : Ev (fun k => spec_l1Num.f k n) ⟨(Lib.itoa n).toArray⟩ := by
  by_cases hn : n < 0
  · obtain ⟨u, hu⟩ : ∃ u : Nat, n = -(u : Int) := ⟨n.natAbs, by omega⟩
    subst hu
    refine Ev.step (fun k => by rw [spec_l1Num.f]) ?_
    have e : wrap64 (-(-(u : Int))) = (u : Int) := by rw [w64 (by omega) (by omega)]; omega
    simp only [if_pos hn, e]
    refine Ev.bind (l1Num_nat u u (Nat.le_refl _) (by omega)) ?_
    have hlen := dec_len u (by omega)
    have hs1 : (⟨(Lib.decDigits u).toArray⟩ : ByteArray).size ≤ 21 := by rw [ba_size]; exact hlen
    simp only [if_pos (show 1 + (⟨(Lib.decDigits u).toArray⟩ : ByteArray).size ≤ 9223372036854775807 by omega)]
    refine Ev.some (ba_ext ?_)
    rw [ba_app, Lib.itoa_neg u (by omega)]
    rfl
  · obtain ⟨u, hu⟩ : ∃ u : Nat, n = (u : Int) := ⟨n.toNat, by omega⟩
    subst hu
    rw [Lib.itoa_nonneg]
    exact l1Num_nat u u (Nat.le_refl _) (by omega)
theorem itoa_eq (n : Int) (h0 : -1000000000 ≤ n) (h1 : n ≤ 1000000000) : strconv_Itoa.f n = some ⟨(Lib.itoa n).toArray⟩ := by
  unfold strconv_Itoa.f
  rw [if_pos ⟨by omega, by omega⟩]

theorem sum2_ev (s : ByteArray) (hs : s.size ≤ 1048576) : ∀ (d : Nat) (x i : Int), 0 ≤ i → i + d = s.size → -1000000 ≤ x → x ≤ 1000000 → ∃ r, Ev (fun k => spec_l1Sum.l0 k s x i) r ∧ Ev (fun k => impl_Checksum.l0 k s x (s.size : Int) i) (r, true) ∧ -1000000 ≤ r ∧ r ≤ 1000000
  | 0, x, i, h0, hd, hx, hy => by
    refine ⟨x, Ev.step (fun k => by rw [spec_l1Sum.l0]) ?_, Ev.step (fun k => by rw [impl_Checksum.l0]) ?_, hx, hy⟩
    · simp only [if_neg (show ¬ i < (s.size : Int) by omega)]; exact Ev.now _
    · simp only [if_neg (show ¬ i < (s.size : Int) by omega)]; exact Ev.now _
  | d + 1, x, i, h0, hd, hx, hy => by
    have e : wrap64 (i + 1) = i + 1 := w64 (by omega) (by omega)
    have b1 := Int.tmod_lt_of_pos (wrap64 ((wrap64 ((wrap64 (41 * x)) + (wrap64 (bt s i)))) + 1)) (show (0 : Int) < 999979 by decide)
    have b2 := Int.lt_tmod_of_pos (wrap64 ((wrap64 ((wrap64 (41 * x)) + (wrap64 (bt s i)))) + 1)) (show (0 : Int) < 999979 by decide)
    obtain ⟨r, h1, h2, h3, h4⟩ := sum2_ev s hs d (Int.tmod (wrap64 ((wrap64 ((wrap64 (41 * x)) + (wrap64 (bt s i)))) + 1)) 999979) (i + 1) (by omega) (by omega) (Int.le_of_lt (Int.lt_of_le_of_lt (by decide) b2)) (Int.le_of_lt (Int.lt_of_lt_of_le b1 (by decide)))
    refine ⟨r, Ev.step (fun k => by rw [spec_l1Sum.l0]) ?_, Ev.step (fun k => by rw [impl_Checksum.l0]) ?_, h3, h4⟩
    · simp only [if_pos (show i < (s.size : Int) by omega), if_pos h0, e]; exact h1
    · simp only [if_pos (show i < (s.size : Int) by omega), if_pos h0, e]; exact h2
theorem itoa_size (n : Int) (h0 : -1000000000 ≤ n) (h1 : n ≤ 1000000000) : (⟨(Lib.itoa n).toArray⟩ : ByteArray).size ≤ 21 := by
  rw [ba_size]
  have := Lib.itoa_length_le n (by omega) (by omega)
  exact this
open Classical in
noncomputable def sealed (s : ByteArray) (r : Int) : ByteArray × Bool := if (35 : UInt8) ∈ s.data.toList ∨ (((s ++ (⟨#[35]⟩ : ByteArray)) ++ ⟨(Lib.itoa r).toArray⟩).size : Int) > 4000 then (⟨#[]⟩, false) else ((s ++ (⟨#[35]⟩ : ByteArray)) ++ ⟨(Lib.itoa r).toArray⟩, true)
theorem lit35 : (⟨#[35]⟩ : ByteArray).size = 1 := rfl
theorem specSeal (s : ByteArray) (hs : s.size ≤ 1048576) (r : Int) (hr : Ev (fun k => spec_l1Sum.f k s) r) (h0 : -1000000 ≤ r) (h1 : r ≤ 1000000) : Ev (fun k => spec_l1Seal.f k s) ((s ++ (⟨#[35]⟩ : ByteArray)) ++ ⟨(Lib.itoa r).toArray⟩) := by
  unfold spec_l1Seal.f
  have hz := itoa_size r (by omega) (by omega)
  simp only [if_pos (show s.size + 1 ≤ 9223372036854775807 by omega)]
  refine Ev.bind hr (Ev.bind (l1Num_ev r (by omega) (by omega)) ?_)
  simp only [ByteArray.size_append, lit35, if_pos (show s.size + 1 + (⟨(Lib.itoa r).toArray⟩ : ByteArray).size ≤ 9223372036854775807 by omega)]
  exact Ev.now _
theorem implSealBig (s : ByteArray) (hs : s.size ≤ 1048576) (hb : (s.size : Int) > 4000) : Ev (fun k => impl_AppendChecksum.f k s) (⟨#[]⟩, false) := by
  unfold impl_AppendChecksum.f impl_Checksum.f
  have hz := itoa_size 0 (by omega) (by omega)
  simp only [if_pos hb, Option.bind_some, if_pos (show s.size + 1 ≤ 9223372036854775807 by omega), itoa_eq 0 (by omega) (by omega), ByteArray.size_append, lit35, if_pos (show s.size + 1 + (⟨(Lib.itoa 0).toArray⟩ : ByteArray).size ≤ 9223372036854775807 by omega), Bool.false_eq_true, if_false]
  exact Ev.now _
theorem implSeal (s : ByteArray) (hs : ¬ (s.size : Int) > 4000) (r : Int) (hr : Ev (fun k => impl_Checksum.l0 k s 7 (s.size : Int) 0) (r, true)) (h0 : -1000000 ≤ r) (h1 : r ≤ 1000000) : Ev (fun k => impl_AppendChecksum.f k s) (sealed s r) := by
  unfold impl_AppendChecksum.f impl_Checksum.f
  have hz := itoa_size r (by omega) (by omega)
  simp only [if_neg hs]
  refine Ev.bind hr ?_
  unfold strings_Contains.f
  have hcc : decide (0 ≤ Lib.indexByte s.data.toList ((⟨#[35]⟩ : ByteArray).data.toList.getD 0 0)) = decide ((35 : UInt8) ∈ s.data.toList) := by
    rw [decide_eq_decide]
    exact index_mem _ 35
  simp only [Option.bind_some, if_pos (show s.size + 1 ≤ 9223372036854775807 by omega), itoa_eq r (by omega) (by omega), ByteArray.size_append, lit35, if_pos (show s.size + 1 + (⟨(Lib.itoa r).toArray⟩ : ByteArray).size ≤ 9223372036854775807 by omega), if_true, hcc, decide_eq_true_eq]
  unfold sealed
  simp only [ByteArray.size_append, lit35]
  by_cases h : (35 : UInt8) ∈ s.data.toList
  · simp only [if_pos h]
    rw [if_pos (.inl h)]
    exact Ev.now _
  · simp only [if_neg h]
    by_cases h4 : ((s.size + 1 + (⟨(Lib.itoa r).toArray⟩ : ByteArray).size : Nat) : Int) > 4000
    · simp only [if_pos h4]
      rw [if_pos (.inr h4)]
      exact Ev.now _
    · simp only [if_neg h4]
      rw [if_neg (fun e => e.elim h h4)]
      exact Ev.now _
theorem sumOf (s : ByteArray) (hs : s.size ≤ 1048576) : ∃ r, Ev (fun k => spec_l1Sum.f k s) r ∧ Ev (fun k => impl_Checksum.l0 k s 7 (s.size : Int) 0) (r, true) ∧ -1000000 ≤ r ∧ r ≤ 1000000 := sum2_ev s hs s.size 7 0 (by omega) (by omega) (by omega) (by omega)

def spl (c : UInt8) : List UInt8 → List UInt8 → List (List UInt8)
  | p, [] => [p]
  | p, b :: r => if b = c then p :: spl c [] r else spl c (p ++ [b]) r
theorem spl_len (c : UInt8) : ∀ (l p : List UInt8), (spl c p l).length ≤ l.length + 1
  | [], p => by simp [spl]
  | b :: r, p => by
    rw [spl]
    split
    · have := spl_len c r []
      simp only [List.length_cons]; omega
    · have := spl_len c r (p ++ [b])
      simp only [List.length_cons]; omega
theorem ext_data (s : ByteArray) (a b : Nat) : (s.extract a b).data.toList = (s.data.toList.take b).drop a := by
  rw [ByteArray.data_extract, Array.toList_extract, List.extract_eq_take_drop, List.drop_take]
theorem l1Split_ev (s : ByteArray) (c : UInt8) (hs : s.size ≤ 1048576) : Ev (fun k => spec_l1Split.f k s (c.toNat : Int)) ((spl c [] s.data.toList).map fun x => (⟨x.toArray⟩ : ByteArray)) := by
  unfold spec_l1Split.f
  have key : ∀ (d i f : Nat) (o : List ByteArray), i + d = s.size → f ≤ i → o.length ≤ i → Ev (fun k => spec_l1Split.l0 k s (c.toNat : Int) o (f : Int) (i : Int)) (o ++ (spl c ((s.data.toList.take i).drop f) (s.data.toList.drop i)).map fun x => (⟨x.toArray⟩ : ByteArray)) := by
    intro d
    induction d with
    | zero =>
      intro i f o h hf ho
      refine Ev.step (fun k => by rw [spec_l1Split.l0]) ?_
      simp only [if_neg (show ¬ (i : Int) < (s.size : Int) by omega), if_pos (show 0 ≤ (f : Int) by omega), if_pos (show (f : Int) ≤ (s.size : Int) by omega), if_pos (show o.length < 8796093022208 by omega), Int.toNat_natCast]
      refine Ev.some ?_
      have hi : i = s.size := by omega
      have hd : s.data.toList.drop i = [] := List.drop_eq_nil_of_le (by rw [← ba_size]; omega)
      have hx : s.extract f s.size = ⟨((s.data.toList.take i).drop f).toArray⟩ := ba_ext (by rw [ext_data, hi])
      rw [hd, spl, List.map_cons, List.map_nil, hx]
    | succ d ih =>
      intro i f o h hf ho
      have hi : i < s.size := by omega
      have hi2 : i < s.data.toList.length := by rw [← ba_size]; exact hi
      have ei : wrap64 ((i : Int) + 1) = ((i + 1 : Nat) : Int) := by rw [w64 (by omega) (by omega)]; exact (Int.natCast_add i 1).symm
      refine Ev.step (fun k => by rw [spec_l1Split.l0]) ?_
      simp only [if_pos (show (i : Int) < (s.size : Int) by omega), if_pos (show 0 ≤ (i : Int) by omega), bt_at s i hi, ei, if_pos (show 0 ≤ (f : Int) by omega), if_pos (show (f : Int) ≤ (i : Int) by omega), if_pos (show (i : Int) ≤ (s.size : Int) by omega), if_pos (show o.length < 8796093022208 by omega), Int.toNat_natCast]
      rw [List.drop_eq_getElem_cons hi2]
      by_cases hc : s.data.toList[i] = c
      · simp only [if_pos (show (s.data.toList[i].toNat : Int) = (c.toNat : Int) by rw [hc])]
        refine Ev.as (ih (i + 1) (i + 1) (o ++ [s.extract f i]) (by omega) (by omega) (by rw [List.length_append]; simp; omega)) ?_
        have hd : (s.data.toList.take (i + 1)).drop (i + 1) = [] := List.drop_eq_nil_of_le (by rw [List.length_take]; omega)
        have hx : s.extract f i = ⟨((s.data.toList.take i).drop f).toArray⟩ := ba_ext (by rw [ext_data])
        rw [spl, if_pos hc, hd, List.append_assoc, List.map_cons, hx]
        rfl
      · simp only [if_neg (show ¬ (s.data.toList[i].toNat : Int) = (c.toNat : Int) from fun e => hc (UInt8.toNat_inj.1 (by omega)))]
        refine Ev.as (ih (i + 1) f o (by omega) (by omega) (by omega)) ?_
        have hd : (s.data.toList.take (i + 1)).drop f = (s.data.toList.take i).drop f ++ [s.data.toList[i]] := by
          rw [List.take_add_one, List.getElem?_eq_getElem hi2, List.drop_append_of_le_length (by rw [List.length_take]; omega)]
          rfl
        rw [spl, if_neg hc, hd]
  have h := key s.size 0 0 [] (by omega) (by omega) (by simp)
  rw [List.drop_zero, List.nil_append] at h
  exact h

theorem spl_pre (c : UInt8) : ∀ (l p : List UInt8), c ∉ l → spl c p l = [p ++ l]
  | [], p, _ => by simp [spl]
  | b :: r, p, h => by
    rw [spl, if_neg (fun e => h (by rw [e]; exact List.mem_cons_self)), spl_pre c r (p ++ [b]) (fun e => h (List.mem_cons_of_mem _ e))]
    simp
theorem spl_hit (c : UInt8) : ∀ (l p r : List UInt8), c ∉ l → spl c p (l ++ c :: r) = (p ++ l) :: spl c [] r
  | [], p, r, _ => by simp [spl]
  | b :: l, p, r, h => by
    rw [List.cons_append, spl, if_neg (fun e => h (by rw [e]; exact List.mem_cons_self)), spl_hit c l (p ++ [b]) r (fun e => h (List.mem_cons_of_mem _ e))]
    simp
theorem index_one (c : UInt8) : ∀ l : List UInt8, (Lib.index l [c] = -1 ∧ c ∉ l) ∨ ∃ i : Nat, Lib.index l [c] = i ∧ ∃ a r, l = a ++ c :: r ∧ c ∉ a ∧ a.length = i
  | [] => .inl ⟨by simp [Lib.index], by simp⟩
  | b :: l => by
    rw [Lib.index]
    by_cases h : b = c
    · subst h
      refine .inr ⟨0, by simp [List.isPrefixOf], [], l, rfl, by simp, rfl⟩
    · have hp : ([c] : List UInt8).isPrefixOf (b :: l) = false := by simp [List.isPrefixOf, Ne.symm h]
      rw [hp]
      rcases index_one c l with ⟨h1, h2⟩ | ⟨i, h1, a, r, rfl, h3, h4⟩
      · refine .inl ⟨by rw [h1]; rfl, ?_⟩
        intro e
        rcases List.mem_cons.1 e with e | e
        · exact h e.symm
        · exact h2 e
      · refine .inr ⟨i + 1, ?_, b :: a, r, rfl, ?_, by simp [h4]⟩
        · have hne : (Lib.index (a ++ c :: r) [c] == -1) = false := beq_eq_false_iff_ne.2 (by omega)
          rw [hne, h1]
          simp
        · intro e
          rcases List.mem_cons.1 e with e | e
          · exact h e.symm
          · exact h3 e
theorem splitK_spl (c : UInt8) : ∀ (k : Nat) (l : List UInt8), l.count c ≤ k → Lib.splitK [c] 0 k l = spl c [] l
  | 0, l, h => by
    have hn : c ∉ l := fun e => by have := List.count_pos_iff.2 e; omega
    rw [Lib.splitK, spl_pre c l [] hn, List.nil_append]
  | k + 1, l, h => by
    rw [Lib.splitK]
    rcases index_one c l with ⟨h1, h2⟩ | ⟨i, h1, a, r, rfl, h3, h4⟩
    · rw [if_pos (beq_iff_eq.2 h1), spl_pre c l [] h2, List.nil_append]
    · have hne : ¬ (Lib.index (a ++ c :: r) [c] == -1) = true := fun e => by have := beq_iff_eq.1 e; omega
      rw [if_neg hne, spl_hit c a [] r h3, List.nil_append]
      have e1 : (Lib.index (a ++ c :: r) [c]).toNat = a.length := by omega
      rw [e1, Nat.add_zero, List.take_left']
      · have e2 : (a ++ c :: r).drop (a.length + ([c] : List UInt8).length) = r := by
          rw [← List.drop_drop, List.drop_left']
          · rfl
          · rfl
        rw [e2, splitK_spl c k r (by
          rw [List.count_append, List.count_cons_self] at h
          omega)]
      · rfl
theorem splitB_spl (s : ByteArray) (c : UInt8) : Lib.splitB ⟨#[c]⟩ 0 (Lib.countB s ⟨#[c]⟩) s = (spl c [] s.data.toList).map fun x => (⟨x.toArray⟩ : ByteArray) := by
  have h := Lib.splitB_data ⟨#[c]⟩ 0 (Lib.countB s ⟨#[c]⟩) s
  have hc : Lib.countB s ⟨#[c]⟩ = s.data.toList.count c := Lib.count_one c _
  have h2 : (Lib.splitB ⟨#[c]⟩ 0 (Lib.countB s ⟨#[c]⟩) s).map (·.data.toList) = spl c [] s.data.toList := by
    rw [h]
    exact splitK_spl c _ _ (by rw [hc]; exact Nat.le_refl _)
  rw [← h2, List.map_map]
  exact (List.map_id' _).symm

theorem spl_head (c : UInt8) : ∀ (l p : List UInt8), ∃ a r, spl c p l = (p ++ a) :: r ∧ c ∉ a ∧ a.length ≤ l.length ∧ ((Lib.cut l [c]).1 = a)
  | l, p => by
    rcases index_one c l with ⟨h1, h2⟩ | ⟨i, h1, a, r, rfl, h3, h4⟩
    · refine ⟨l, [], spl_pre c l p h2, h2, Nat.le_refl _, ?_⟩
      unfold Lib.cut
      rw [h1, if_neg (by omega)]
    · refine ⟨a, spl c [] r, spl_hit c a p r h3, h3, by simp, ?_⟩
      unfold Lib.cut
      rw [h1, if_pos (by omega), Int.toNat_natCast, ← h4, List.take_left']
      rfl
theorem verifyBoth (s : ByteArray) (hs : s.size ≤ 1048576) : ∃ R, Ev (fun k => spec_VerifyChecksum.f k s) R ∧ Ev (fun k => impl_VerifyChecksum.f k s) R := by
  obtain ⟨a, r, e1, e2, e3, e4⟩ := spl_head 35 s.data.toList []
  rw [List.nil_append] at e1
  have hsz : (⟨a.toArray⟩ : ByteArray).size = a.length := by rw [ba_size]
  have hal : (⟨a.toArray⟩ : ByteArray).size ≤ s.size := by rw [hsz, ba_size s]; exact e3
  obtain ⟨q, q1, q2, q3, q4⟩ := sumOf ⟨a.toArray⟩ (by omega)
  have hS := specSeal ⟨a.toArray⟩ (by omega) q q1 q3 q4
  have hcut : strings_Cut.f s ⟨#[35]⟩ = some (⟨a.toArray⟩, ⟨(Lib.cut s.data.toList [35]).2.1.toArray⟩, (Lib.cut s.data.toList [35]).2.2) := by
    unfold strings_Cut.f
    rw [if_pos (by omega)]
    show some ((⟨(Lib.cut s.data.toList [35]).1.toArray⟩ : ByteArray), _, _) = _
    rw [e4]
  unfold spec_VerifyChecksum.f impl_VerifyChecksum.f
  simp only [hcut, Option.bind_some]
  by_cases hb : (s.size : Int) > 4000
  · refine ⟨(⟨#[]⟩, false), by simp only [if_pos hb]; exact Ev.now _, ?_⟩
    by_cases h4 : ((⟨a.toArray⟩ : ByteArray).size : Int) > 4000
    · refine Ev.bind (implSealBig ⟨a.toArray⟩ (by omega) h4) ?_
      simp only [Bool.false_eq_true, if_false]
      exact Ev.now _
    · refine Ev.bind (implSeal ⟨a.toArray⟩ h4 q q2 q3 q4) ?_
      unfold sealed
      by_cases h5 : (35 : UInt8) ∈ (⟨a.toArray⟩ : ByteArray).data.toList ∨ ((((⟨a.toArray⟩ : ByteArray) ++ (⟨#[35]⟩ : ByteArray)) ++ ⟨(Lib.itoa q).toArray⟩).size : Int) > 4000
      · simp only [if_pos h5, Bool.false_eq_true, if_false]
        exact Ev.now _
      · simp only [if_neg h5, if_true]
        have hne : ¬ ((((⟨a.toArray⟩ : ByteArray) ++ (⟨#[35]⟩ : ByteArray)) ++ ⟨(Lib.itoa q).toArray⟩).toList = s.toList) := by
          intro e
          rw [ByteArray.toList_eq, ByteArray.toList_eq] at e
          have e := ba_ext e
          exact h5 (.inr (by rw [e]; exact hb))
        simp only [if_neg hne]
        exact Ev.now _
  · simp only [if_neg hb]
    have hnot : ¬ ((35 : UInt8) ∈ (⟨a.toArray⟩ : ByteArray).data.toList) := e2
    have hsp := l1Split_ev s 35 hs
    rw [e1, List.map_cons] at hsp
    have hrd : ∀ r' : List ByteArray, rdOf ByteArray.empty ((⟨a.toArray⟩ : ByteArray) :: r') 0 = ⟨a.toArray⟩ := fun _ => rfl
    have hlen : ∀ r' : List ByteArray, (0 : Int) < ((((⟨a.toArray⟩ : ByteArray) :: r').length : Nat) : Int) := fun r' => by rw [List.length_cons]; omega
    by_cases he : (((⟨a.toArray⟩ : ByteArray) ++ (⟨#[35]⟩ : ByteArray)) ++ ⟨(Lib.itoa q).toArray⟩).toList = s.toList
    · refine ⟨(⟨a.toArray⟩, true), Ev.bind hsp ?_, ?_⟩
      · simp only [if_pos (hlen _), hrd]
        refine Ev.bind hS ?_
        simp only [if_pos he]
        exact Ev.now _
      · refine Ev.bind (implSeal ⟨a.toArray⟩ (by omega) q q2 q3 q4) ?_
        have e := he
        rw [ByteArray.toList_eq, ByteArray.toList_eq] at e
        have e := ba_ext e
        have hse : sealed ⟨a.toArray⟩ q = (((⟨a.toArray⟩ : ByteArray) ++ (⟨#[35]⟩ : ByteArray)) ++ ⟨(Lib.itoa q).toArray⟩, true) := by
          unfold sealed
          rw [if_neg (fun x => x.elim hnot (fun y => hb (by rw [e] at y; exact y)))]
        simp only [hse, if_true, if_pos he]
        exact Ev.now _
    · refine ⟨(⟨#[]⟩, false), Ev.bind hsp ?_, ?_⟩
      · simp only [if_pos (hlen _), hrd]
        refine Ev.bind hS ?_
        simp only [if_neg he]
        exact Ev.now _
      · refine Ev.bind (implSeal ⟨a.toArray⟩ (by omega) q q2 q3 q4) ?_
        unfold sealed
        by_cases h5 : (35 : UInt8) ∈ (⟨a.toArray⟩ : ByteArray).data.toList ∨ ((((⟨a.toArray⟩ : ByteArray) ++ (⟨#[35]⟩ : ByteArray)) ++ ⟨(Lib.itoa q).toArray⟩).size : Int) > 4000
        · simp only [if_pos h5, Bool.false_eq_true, if_false]
          exact Ev.now _
        · simp only [if_neg h5, if_true, if_neg he]
          exact Ev.now _

theorem FnExactVerifyChecksum : laws_FnExactVerifyChecksum.Pure := by
  intro s _
  refine Ev.rounds ?_
  unfold laws_FnExactVerifyChecksum.f
  by_cases h : (s.size : Int) > 1048576
  · simp only [if_pos h]; exact Ev.now _
  · simp only [if_neg h]
    obtain ⟨R, hS, hI⟩ := verifyBoth s (by omega)
    refine Ev.bind hS (Ev.bind hI ?_)
    simp only [bne_self_eq_false, Bool.false_eq_true, if_false, if_true]
    exact Ev.now _


end Go.Proofs.YtonialldgodbiaaDoor.Pure

