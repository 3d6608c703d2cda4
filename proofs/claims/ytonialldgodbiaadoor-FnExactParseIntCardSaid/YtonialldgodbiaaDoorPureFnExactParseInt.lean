/- For every text the plain function of the law FnExactParseInt answers true. -/
import Derived.Test.YtonialldgodbiaaDoorPFnExactParseIntx2
import Derived.Lib.AtoiTie
import Derived.Lib.AtoiAllCases
import Derived.Test.YtonialldgodbiaaDoorLib
set_option linter.unusedVariables false
set_option linter.unusedSimpArgs false
namespace Go.Proofs.YtonialldgodbiaaDoor.Pure
open Go.RowKit Go.Proofs.YtonialldgodbiaaDoor.PFnExactParseInt Go.Proofs.YtonialldgodbiaaDoorW.PrintWords Go.Proofs.YtonialldgodbiaaDoorW.PrintLast Go.Proofs.YtonialldgodbiaaDoor.Lib

theorem l1In_eq (a b c : Int) : spec_l1In.f a b c = some (decide (b ≤ a ∧ a ≤ c)) := by
  unfold spec_l1In.f
  by_cases h : a ≥ b
  · rw [if_pos h]
    congr 1
    simp only [decide_eq_decide]
    omega
  · rw [if_neg h]
    congr 1
    simp only [Bool.false_eq, decide_eq_false_iff_not]
    omega

theorem within_eq (a b c : Int) : impl_within.f a b c = some (decide (b ≤ a ∧ a ≤ c)) := by
  unfold impl_within.f
  by_cases h : a ≥ b
  · rw [if_pos h]
    congr 1
    simp only [decide_eq_decide]
    omega
  · rw [if_neg h]
    congr 1
    simp only [Bool.false_eq, decide_eq_false_iff_not]
    omega

theorem ba_ext {a b : ByteArray} (h : a.data.toList = b.data.toList) : a = b := by
  cases a; cases b
  simp only [ByteArray.mk.injEq]
  exact Array.toList_inj.1 h
theorem ba_app (a b : ByteArray) : (a ++ b).data.toList = a.data.toList ++ b.data.toList := by
  simp [ByteArray.data_append]
theorem ba_size (a : ByteArray) : a.size = a.data.toList.length := by
  cases a
  simp [ByteArray.size]
theorem bt_at (s : ByteArray) (i : Nat) (h : i < s.size) : bt s (i : Int) = ((s.data.toList[i]'(by rw [← ba_size]; exact h)).toNat : Int) := by
  unfold bt
  rw [Int.toNat_natCast, dif_pos h]
  congr 1

theorem digit_at : ∀ j : Fin 10, ((⟨#[48, 49, 50, 51, 52, 53, 54, 55, 56, 57]⟩ : ByteArray).extract j.val (j.val + 1)).data.toList = [UInt8.ofNat (48 + j.val)] := by
  decide
theorem digit_nat (j : Nat) (h : j < 10) : (⟨#[48, 49, 50, 51, 52, 53, 54, 55, 56, 57]⟩ : ByteArray).extract j (j + 1) = ⟨#[UInt8.ofNat (48 + j)]⟩ := ba_ext (digit_at ⟨j, h⟩)
theorem dec_len (u : Nat) (h : u ≤ 1000000000000) : (Lib.decDigits u).length ≤ 21 := by
  have := Lib.itoa_length_le (u : Int) (by omega) (by omega)
  rwa [Lib.itoa_nonneg] at this
theorem l1Num_small (u : Nat) (hu : u < 10) : Ev (fun k => spec_l1Num.f k (u : Int)) ⟨(Lib.decDigits u).toArray⟩ := by
  refine Ev.step (fun k => by rw [spec_l1Num.f]) ?_
  have e1 : wrap64 ((u : Int) + 1) = ((u + 1 : Nat) : Int) := by rw [w64 (by omega) (by omega)]; exact (Int.natCast_add u 1).symm
  simp only [if_neg (show ¬ (u : Int) < 0 by omega), if_pos (show (u : Int) < 10 by omega), if_pos (show 0 ≤ (u : Int) by omega), e1, if_pos (show (u : Int) ≤ ((u + 1 : Nat) : Int) by omega), if_pos (show ((u + 1 : Nat) : Int) ≤ 10 by omega), Int.toNat_natCast, digit_nat u hu]
  rw [Lib.decDigits_one hu]
  exact Ev.now _
theorem l1Num_nat : ∀ (m u : Nat), u ≤ m → u ≤ 1000000000000 → Ev (fun k => spec_l1Num.f k (u : Int)) ⟨(Lib.decDigits u).toArray⟩ := by
  intro m
  induction m with
  | zero =>
    intro u h0 h1
    exact l1Num_small u (by omega)
  | succ m ih =>
    intro u h0 h1
    by_cases hu : u < 10
    · exact l1Num_small u hu
    · have e2 : Int.tdiv (u : Int) 10 = ((u / 10 : Nat) : Int) := by
        rw [show (10 : Int) = ((10 : Nat) : Int) from rfl, ← Int.ofNat_tdiv]
      have e3 : Int.tmod (u : Int) 10 = ((u % 10 : Nat) : Int) := by
        rw [show (10 : Int) = ((10 : Nat) : Int) from rfl, ← Int.ofNat_tmod]
      have e4 : wrap64 ((u / 10 : Nat) : Int) = ((u / 10 : Nat) : Int) := w64 (by omega) (by omega)
      have e5 : wrap64 (((u % 10 : Nat) : Int) + 1) = ((u % 10 + 1 : Nat) : Int) := by rw [w64 (by omega) (by omega)]; exact (Int.natCast_add _ 1).symm
      have hd : Lib.decDigits u = Lib.decDigits (u / 10) ++ [UInt8.ofNat (48 + u % 10)] := by
        rw [Lib.decDigits, dif_neg hu]
      have hlen := dec_len (u / 10) (by omega)
      have hs1 : (⟨(Lib.decDigits (u / 10)).toArray⟩ : ByteArray).size ≤ 21 := by rw [ba_size]; exact hlen
      have hs2 : (⟨#[UInt8.ofNat (48 + u % 10)]⟩ : ByteArray).size = 1 := rfl
      refine Ev.step (fun k => by rw [spec_l1Num.f]) ?_
      simp only [if_neg (show ¬ (u : Int) < 0 by omega), if_neg (show ¬ (u : Int) < 10 by omega), e2, e3, e4]
      refine Ev.bind (ih (u / 10) (by omega) (by omega)) ?_
      simp only [if_pos (show 0 ≤ ((u % 10 : Nat) : Int) by omega), e5, if_pos (show ((u % 10 : Nat) : Int) ≤ ((u % 10 + 1 : Nat) : Int) by omega), if_pos (show ((u % 10 + 1 : Nat) : Int) ≤ 10 by omega), Int.toNat_natCast, digit_nat (u % 10) (by omega), hs2, if_pos (show (⟨(Lib.decDigits (u / 10)).toArray⟩ : ByteArray).size + 1 ≤ 9223372036854775807 by omega)]
      refine Ev.some (ba_ext ?_)
      rw [ba_app, hd]
theorem l1Num_ev (n : Int) (h0 : -1000000000 ≤ n) (h1 : n ≤ 1000000000) : Ev (fun k => spec_l1Num.f k n) ⟨(Lib.itoa n).toArray⟩ := by
  by_cases hn : n < 0
  · obtain ⟨u, hu⟩ : ∃ u : Nat, n = -(u : Int) := ⟨n.natAbs, by omega⟩
    subst hu
    refine Ev.step (fun k => by rw [spec_l1Num.f]) ?_
    have e : wrap64 (-(-(u : Int))) = (u : Int) := by rw [w64 (by omega) (by omega)]; omega
    simp only [if_pos hn, e]
    refine Ev.bind (l1Num_nat u u (Nat.le_refl _) (by omega)) ?_
    have hlen := dec_len u (by omega)
    have hs1 : (⟨(Lib.decDigits u).toArray⟩ : ByteArray).size ≤ 21 := by rw [ba_size]; exact hlen
    simp only [if_pos (show 1 + (⟨(Lib.decDigits u).toArray⟩ : ByteArray).size ≤ 9223372036854775807 by omega)]
    refine Ev.some (ba_ext ?_)
    rw [ba_app, Lib.itoa_neg u (by omega)]
    rfl
  · obtain ⟨u, hu⟩ : ∃ u : Nat, n = (u : Int) := ⟨n.toNat, by omega⟩
    subst hu
    rw [Lib.itoa_nonneg]
    exact l1Num_nat u u (Nat.le_refl _) (by omega)
theorem itoa_eq (n : Int) (h0 : -1000000000 ≤ n) (h1 : n ≤ 1000000000) : strconv_Itoa.f n = some ⟨(Lib.itoa n).toArray⟩ := by
  unfold strconv_Itoa.f
  rw [if_pos ⟨by omega, by omega⟩]

theorem decFrom_app : ∀ (l : List UInt8) (b : UInt8) (acc : Nat), Lib.decFrom acc (l ++ [b]) = (Lib.decFrom acc l).bind fun n => (Lib.digitVal b).map fun d => n * 10 + d
  | [], b, acc => by
    simp only [List.nil_append, Lib.decFrom, Option.bind_some]
    cases Lib.digitVal b <;> rfl
  | a :: l, b, acc => by
    simp only [List.cons_append, Lib.decFrom]
    cases Lib.digitVal a with
    | none => rfl
    | some d => exact decFrom_app l b _
theorem digit_dig (j : Nat) (h : j < 10) : Lib.digitVal (UInt8.ofNat (48 + j)) = some j := by
  have : ∀ i : Fin 10, Lib.digitVal (UInt8.ofNat (48 + i.val)) = some i.val := by decide
  exact this ⟨j, h⟩
theorem dec_read : ∀ (m u : Nat), u ≤ m → Lib.decFrom 0 (Lib.decDigits u) = some u := by
  intro m
  induction m with
  | zero =>
    intro u h
    rw [Lib.decDigits_one (by omega)]
    simp only [Lib.decFrom, digit_dig u (by omega)]
    simp
  | succ m ih =>
    intro u h
    by_cases hu : u < 10
    · rw [Lib.decDigits_one hu]
      simp only [Lib.decFrom, digit_dig u hu]
      simp
    · rw [Lib.decDigits, dif_neg hu, decFrom_app, ih (u / 10) (by omega), Option.bind_some, digit_dig _ (by omega)]
      show some (u / 10 * 10 + u % 10) = some u
      rw [show u / 10 * 10 + u % 10 = u by omega]
theorem dec_len6 : ∀ (k u : Nat), u < 10 ^ (k + 1) → (Lib.decDigits u).length ≤ k + 1 := by
  intro k
  induction k with
  | zero =>
    intro u h
    rw [Lib.decDigits_one (by omega)]
    simp
  | succ k ih =>
    intro u h
    by_cases hu : u < 10
    · rw [Lib.decDigits_one hu]
      simp
    · have := ih (u / 10) (by rw [Nat.pow_succ] at h; omega)
      rw [Lib.decDigits, dif_neg hu, List.length_append, List.length_singleton]
      omega
theorem dec_ne (u : Nat) : 1 ≤ (Lib.decDigits u).length := by
  rw [Lib.decDigits]
  split
  · simp
  · rw [List.length_append]; simp
theorem dec_digit (u : Nat) (b : UInt8) (k : Nat) (h : (Lib.decDigits u)[k]? = some b) : ∃ d, Lib.digitVal b = some d := Lib.digit_of_decFrom _ 0 u (dec_read u u (Nat.le_refl _)) k b h
theorem dec_cons (u : Nat) : ∃ c r, Lib.decDigits u = c :: r ∧ c ≠ 45 ∧ c ≠ 43 := by
  cases h : Lib.decDigits u with
  | nil => have := dec_ne u; rw [h] at this; simp at this
  | cons c r =>
    obtain ⟨d, hd⟩ := dec_digit u c 0 (by rw [h]; rfl)
    refine ⟨c, r, rfl, ?_, ?_⟩
    · rintro rfl; cases hd
    · rintro rfl; cases hd
/-- What is read ends so. -/
def readEnd (s : List UInt8) (neg : Bool) : Option Nat → Int × Bool
  | none => (0, false)
  | some m => if Lib.itoa (if neg = true then -(m : Int) else (m : Int)) = s then (if neg = true then -(m : Int) else (m : Int), true) else (0, false)
theorem digitVal_no (c : UInt8) (h : ¬ (48 ≤ c.toNat ∧ c.toNat ≤ 57)) : Lib.digitVal c = none := by
  unfold Lib.digitVal
  rw [if_neg h]
theorem digitVal_yes (c : UInt8) (h : 48 ≤ c.toNat ∧ c.toNat ≤ 57) : Lib.digitVal c = some (c.toNat - 48) := by
  unfold Lib.digitVal
  rw [if_pos h]
theorem toList_iff (l : List UInt8) (s : ByteArray) : (⟨l.toArray⟩ : ByteArray).toList = s.toList ↔ l = s.data.toList := by
  rw [ByteArray.toList_eq, ByteArray.toList_eq]
theorem l1Read_l0 (s t : ByteArray) (ht : t.size ≤ 6) (hs : s.size ≤ 1048576) : ∀ (d i acc : Nat), i + d = t.size → acc < 10 ^ i →
    Ev (fun k => spec_l1Read.l0 k s t (acc : Int) (i : Int)) (readEnd s.data.toList (decide (t.size < s.size)) (Lib.decFrom acc (t.data.toList.drop i))) := by
  intro d
  induction d with
  | zero =>
    intro i acc h ha
    have hp : 10 ^ i ≤ 10 ^ 6 := Nat.pow_le_pow_right (by decide) (by omega)
    have hm : acc ≤ 1000000 := by omega
    refine Ev.step (fun k => by rw [spec_l1Read.l0]) ?_
    simp only [if_neg (show ¬ (i : Int) < (t.size : Int) by omega)]
    rw [List.drop_eq_nil_of_le (by rw [← ba_size]; omega)]
    unfold Lib.decFrom readEnd
    have en : wrap64 (-(acc : Int)) = -(acc : Int) := w64 (by omega) (by omega)
    by_cases hn : t.size < s.size
    · simp only [if_pos (show (t.size : Int) < (s.size : Int) by omega), hn, decide_true, if_true, en]
      refine Ev.bind (l1Num_ev (-(acc : Int)) (by omega) (by omega)) ?_
      simp only [toList_iff]
      by_cases he : Lib.itoa (-(acc : Int)) = s.data.toList
      · simp only [if_pos he]; exact Ev.now _
      · simp only [if_neg he]; exact Ev.now _
    · simp only [if_neg (show ¬ (t.size : Int) < (s.size : Int) by omega), hn, decide_false, Bool.false_eq_true, if_false]
      refine Ev.bind (l1Num_ev (acc : Int) (by omega) (by omega)) ?_
      simp only [toList_iff]
      by_cases he : Lib.itoa (acc : Int) = s.data.toList
      · simp only [if_pos he]; exact Ev.now _
      · simp only [if_neg he]; exact Ev.now _
  | succ d ih =>
    intro i acc h ha
    have hi : i < t.size := by omega
    have hi2 : i < t.data.toList.length := by rw [← ba_size]; exact hi
    have hp : 10 ^ i ≤ 10 ^ 6 := Nat.pow_le_pow_right (by decide) (by omega)
    have hm : acc ≤ 1000000 := by omega
    refine Ev.step (fun k => by rw [spec_l1Read.l0]) ?_
    have ei : wrap64 ((i : Int) + 1) = ((i + 1 : Nat) : Int) := by rw [w64 (by omega) (by omega)]; exact (Int.natCast_add i 1).symm
    simp only [if_pos (show (i : Int) < (t.size : Int) by omega), if_pos (show 0 ≤ (i : Int) by omega), bt_at t i hi, ei]
    rw [List.drop_eq_getElem_cons hi2]
    unfold Lib.decFrom
    by_cases h1 : t.data.toList[i].toNat < 48
    · simp only [if_pos (show (t.data.toList[i].toNat : Int) < 48 by omega), digitVal_no _ (show ¬ (48 ≤ t.data.toList[i].toNat ∧ t.data.toList[i].toNat ≤ 57) by omega)]
      exact Ev.now _
    · by_cases h2 : t.data.toList[i].toNat > 57
      · simp only [if_neg (show ¬ (t.data.toList[i].toNat : Int) < 48 by omega), if_pos (show (t.data.toList[i].toNat : Int) > 57 by omega), digitVal_no _ (show ¬ (48 ≤ t.data.toList[i].toNat ∧ t.data.toList[i].toNat ≤ 57) by omega)]
        exact Ev.now _
      · have e1 : wrap64 (10 * (acc : Int)) = 10 * (acc : Int) := w64 (by omega) (by omega)
        have e2 : wrap64 (10 * (acc : Int) + ((t.data.toList[i].toNat : Int) - 48) % 256) = ((acc * 10 + (t.data.toList[i].toNat - 48) : Nat) : Int) := by
          rw [w64 (by omega) (by omega)]; omega
        simp only [if_neg (show ¬ (t.data.toList[i].toNat : Int) < 48 by omega), if_neg (show ¬ (t.data.toList[i].toNat : Int) > 57 by omega), e1, e2, digitVal_yes _ (show 48 ≤ t.data.toList[i].toNat ∧ t.data.toList[i].toNat ≤ 57 by omega)]
        exact ih (i + 1) _ (by omega) (by rw [Nat.pow_succ]; omega)
/-- What l1Read gives. -/
def readL (s : List UInt8) : Int × Bool :=
  if s.length > 1 ∧ s.head? = some 45 then (if s.length ≤ 7 then readEnd s true (Lib.decFrom 0 s.tail) else (0, false))
  else (if 1 ≤ s.length ∧ s.length ≤ 6 then readEnd s false (Lib.decFrom 0 s) else (0, false))
theorem l1Read_j1 (s t : ByteArray) (hs : s.size ≤ 1048576) (ht : t.size ≤ s.size) : Ev (fun k => spec_l1Read.j1 k s t) (if 1 ≤ t.size ∧ t.size ≤ 6 then readEnd s.data.toList (decide (t.size < s.size)) (Lib.decFrom 0 t.data.toList) else (0, false)) := by
  refine Ev.step (fun k => by rw [spec_l1Read.j1]) ?_
  simp only [l1In_eq, Option.bind_some, decide_eq_true_eq]
  by_cases h : 1 ≤ t.size ∧ t.size ≤ 6
  · simp only [if_pos (show 1 ≤ (t.size : Int) ∧ (t.size : Int) ≤ 6 by omega), if_pos h]
    exact l1Read_l0 s t h.2 hs t.size 0 0 (by omega) (by decide)
  · simp only [if_neg (show ¬ (1 ≤ (t.size : Int) ∧ (t.size : Int) ≤ 6) by omega), if_neg h]
    exact Ev.now _
theorem l1Read_ev (s : ByteArray) (hs : s.size ≤ 1048576) : Ev (fun k => spec_l1Read.f k s) (readL s.data.toList) := by
  unfold spec_l1Read.f readL
  have hz := ba_size s
  by_cases h1 : s.size > 1
  · have hl : 0 < s.data.toList.length := by omega
    have hh : s.data.toList.head? = some s.data.toList[0] := by
      rw [List.head?_eq_getElem?, List.getElem?_eq_getElem hl]
    have hb := bt_at s 0 (by omega)
    have hb : bt s 0 = (s.data.toList[0].toNat : Int) := hb
    simp only [if_pos (show (s.size : Int) > 1 by omega), if_pos (show 0 < (s.size : Int) by omega), hb]
    by_cases hc : s.data.toList[0] = 45
    · have hbe : ((s.data.toList[0].toNat : Int) == 45) = true := by rw [hc]; rfl
      have hex : (s.extract 1 s.size).data.toList = s.data.toList.tail := by
        rw [ByteArray.data_extract, Array.toList_extract, List.extract_eq_take_drop, List.take_of_length_le (by rw [List.length_drop]; omega), List.drop_one]
      have hes : (s.extract 1 s.size).size = s.size - 1 := by rw [ba_size, hex, List.length_tail, ← hz]
      refine Ev.step (fun k => by rw [spec_l1Read.j0]) ?_
      simp only [hbe, if_true, if_pos (show 1 ≤ (s.size : Int) by omega)]
      refine Ev.as (l1Read_j1 s (s.extract 1 s.size) hs (by omega)) ?_
      rw [hes, hex, decide_eq_true (show s.size - 1 < s.size by omega), if_pos (show s.data.toList.length > 1 ∧ s.data.toList.head? = some 45 from ⟨by omega, by rw [hh, hc]⟩)]
      by_cases h7 : s.data.toList.length ≤ 7
      · rw [if_pos h7, if_pos ⟨by omega, by omega⟩]
      · rw [if_neg h7, if_neg (by omega)]
    · have hbe : ((s.data.toList[0].toNat : Int) == 45) = false := beq_eq_false_iff_ne.2 (fun e => hc (UInt8.toNat_inj.1 (show s.data.toList[0].toNat = (45 : UInt8).toNat from by have : (45 : UInt8).toNat = 45 := rfl; omega)))
      refine Ev.step (fun k => by rw [spec_l1Read.j0]) ?_
      simp only [hbe, Bool.false_eq_true, if_false]
      refine Ev.as (l1Read_j1 s s hs (Nat.le_refl _)) ?_
      rw [decide_eq_false (Nat.lt_irrefl _), if_neg (show ¬ (s.data.toList.length > 1 ∧ s.data.toList.head? = some 45) from fun e => hc (by rw [hh] at e; exact Option.some.inj e.2)), hz]
  · simp only [if_neg (show ¬ (s.size : Int) > 1 by omega)]
    refine Ev.step (fun k => by rw [spec_l1Read.j0]) ?_
    simp only [Bool.false_eq_true, if_false]
    refine Ev.as (l1Read_j1 s s hs (Nat.le_refl _)) ?_
    rw [decide_eq_false (Nat.lt_irrefl _), if_neg (show ¬ (s.data.toList.length > 1 ∧ s.data.toList.head? = some 45) by omega), hz]
/-- The number of a text. -/
theorem readL_yes (n : Int) (h0 : -999999 ≤ n) (h1 : n ≤ 999999) : readL (Lib.itoa n) = (n, true) := by
  unfold readL
  by_cases hn : n < 0
  · obtain ⟨u, hu⟩ : ∃ u : Nat, n = -(u : Int) := ⟨n.natAbs, by omega⟩
    subst hu
    have he := Lib.itoa_neg u (by omega)
    have h6 := dec_len6 5 u (by omega)
    have h7 := dec_ne u
    rw [he, if_pos ⟨by rw [List.length_cons]; omega, rfl⟩, if_pos (by rw [List.length_cons]; omega), List.tail_cons, dec_read u u (Nat.le_refl _)]
    unfold readEnd
    simp only [if_true]
    rw [if_pos he]
  · obtain ⟨u, hu⟩ : ∃ u : Nat, n = (u : Int) := ⟨n.toNat, by omega⟩
    subst hu
    have he := Lib.itoa_nonneg u
    have h6 := dec_len6 5 u (by omega)
    have h7 := dec_ne u
    obtain ⟨c, r, hc, hc5, _⟩ := dec_cons u
    rw [he, if_neg (fun e => hc5 (by rw [hc] at e; exact Option.some.inj e.2)), if_pos ⟨h7, h6⟩, dec_read u u (Nat.le_refl _)]
    unfold readEnd
    simp only [Bool.false_eq_true, if_false]
    rw [if_pos he]
theorem readEnd_cases (s : List UInt8) (neg : Bool) (o : Option Nat) (ho : ∀ m, o = some m → m ≤ 999999) : readEnd s neg o = (0, false) ∨ ∃ n : Int, -999999 ≤ n ∧ n ≤ 999999 ∧ Lib.itoa n = s ∧ readEnd s neg o = (n, true) := by
  cases o with
  | none => exact .inl rfl
  | some m =>
    have hm := ho m rfl
    unfold readEnd
    by_cases he : Lib.itoa (if neg = true then -(m : Int) else (m : Int)) = s
    · right
      refine ⟨_, ?_, ?_, he, by simp only [if_pos he]⟩
      · cases neg <;> simp <;> omega
      · cases neg <;> simp <;> omega
    · left
      simp only [if_neg he]
theorem dec_small (l : List UInt8) (hl : l.length ≤ 6) (m : Nat) (h : Lib.decFrom 0 l = some m) : m ≤ 999999 := by
  have h1 := Lib.decFrom_lt l 0 m h
  have hp : 10 ^ l.length ≤ 10 ^ 6 := Nat.pow_le_pow_right (by decide) hl
  omega
theorem readL_cases (s : List UInt8) : readL s = (0, false) ∨ ∃ n : Int, -999999 ≤ n ∧ n ≤ 999999 ∧ Lib.itoa n = s ∧ readL s = (n, true) := by
  unfold readL
  split
  · rename_i h
    split
    · rename_i h7
      exact readEnd_cases s true _ (fun m hm => dec_small s.tail (by rw [List.length_tail]; omega) m hm)
    · exact .inl rfl
  · split
    · rename_i h6
      exact readEnd_cases s false _ (fun m hm => dec_small s h6.2 m hm)
    · exact .inl rfl
/-- A numeral is read as its number. -/
theorem atoi_itoa (n : Int) (h0 : -999999 ≤ n) (h1 : n ≤ 999999) : Lib.atoiAll (Lib.itoa n) = .ok n := by
  by_cases hn : n < 0
  · obtain ⟨u, hu⟩ : ∃ u : Nat, n = -(u : Int) := ⟨n.natAbs, by omega⟩
    subst hu
    have h6 := dec_len6 5 u (by omega)
    obtain ⟨c, r, hc, _, _⟩ := dec_cons u
    rw [Lib.itoa_neg u (by omega), Lib.atoiAll_short _ (by rw [List.length_cons]; omega)]
    have hd : Lib.decNat (Lib.decDigits u) = some u := by
      unfold Lib.decNat
      rw [if_neg (by rw [hc]; simp), dec_read u u (Nat.le_refl _)]
    simp only [Lib.atoi, beq_self_eq_true, if_true, hd, Option.map_some]
    rfl
  · obtain ⟨u, hu⟩ : ∃ u : Nat, n = (u : Int) := ⟨n.toNat, by omega⟩
    subst hu
    have h6 := dec_len6 5 u (by omega)
    obtain ⟨c, r, hc, h45, h43⟩ := dec_cons u
    rw [Lib.itoa_nonneg, Lib.atoiAll_short _ (by omega)]
    have hd : Lib.decNat (Lib.decDigits u) = some u := by
      unfold Lib.decNat
      rw [if_neg (by rw [hc]; simp), dec_read u u (Nat.le_refl _)]
    rw [hc] at hd ⊢
    simp only [Lib.atoi, beq_eq_false_iff_ne.2 h45, beq_eq_false_iff_ne.2 h43, Bool.false_eq_true, if_false, hd, Option.map_some]
    rfl
theorem itoa_eq64 (n : Int) (h0 : -9223372036854775808 ≤ n) (h1 : n ≤ 9223372036854775807) : strconv_Itoa.f n = some ⟨(Lib.itoa n).toArray⟩ := by
  unfold strconv_Itoa.f
  rw [if_pos ⟨h0, h1⟩]

theorem implParse_eq (s : ByteArray) (hs : s.size ≤ 1048576) : impl_ParseInt.f s = some (readL s.data.toList) := by
  have hw : ∀ v : Int, impl_within.f v (-999999) 999999 = some (decide (-999999 ≤ v ∧ v ≤ 999999)) := fun v => within_eq v _ _
  unfold impl_ParseInt.f strconv_Atoi.f
  rw [if_pos (by omega), Option.bind_some]
  have main : ∀ v : Int, Lib.itoa v = s.data.toList → -999999 ≤ v → v ≤ 999999 → Lib.atoiAll s.data.toList = .ok v := fun v h h0 h1 => by rw [← h]; exact atoi_itoa v h0 h1
  cases ha : Lib.atoiAll s.data.toList with
  | ok v =>
    have hb := Lib.atoiAll_bounds ha
    simp only [show (none : Option Int).isNone = true from rfl, if_true, itoa_eq64 v hb.1 hb.2, Option.bind_some, toList_iff, hw, decide_eq_true_eq]
    rcases readL_cases s.data.toList with hr | ⟨n, h0, h1, h2, hr⟩
    · rw [hr]
      by_cases he : Lib.itoa v = s.data.toList
      · by_cases hv : -999999 ≤ v ∧ v ≤ 999999
        · have := readL_yes v hv.1 hv.2
          rw [he, hr] at this
          cases this
        · simp only [if_pos he, if_neg hv]
      · simp only [if_neg he]
    · have e := main n h2 h0 h1
      rw [ha] at e
      injection e with e
      subst e
      rw [hr, if_pos h2, if_pos ⟨h0, h1⟩]
  | _ =>
    simp only [show (some (0 : Int)).isNone = false from rfl, Bool.false_eq_true, if_false]
    rcases readL_cases s.data.toList with hr | ⟨n, h0, h1, h2, hr⟩
    · rw [hr]
    · have e := main n h2 h0 h1
      rw [ha] at e
      cases e

theorem FnExactParseInt : laws_FnExactParseInt.Pure := by
  intro s _
  refine Ev.rounds ?_
  unfold laws_FnExactParseInt.f
  by_cases h : (s.size : Int) > 1048576
  · simp only [if_pos h]; exact Ev.now _
  · simp only [if_neg h, implParse_eq s (by omega), Option.bind_some]
    unfold spec_ParseInt.f
    refine Ev.bind (Ev.bind (l1Read_ev s (by omega)) (Ev.now _)) ?_
    simp only [bne_self_eq_false, Bool.false_eq_true, if_false, if_true]
    exact Ev.now _


end Go.Proofs.YtonialldgodbiaaDoor.Pure

