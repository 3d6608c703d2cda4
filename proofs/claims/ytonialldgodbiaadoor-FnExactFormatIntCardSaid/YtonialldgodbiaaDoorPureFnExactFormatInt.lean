/- For every number the plain function of the law FnExactFormatInt answers true. -/
import Derived.Test.YtonialldgodbiaaDoorPFnExactFormatIntx1
import Derived.Test.YtonialldgodbiaaDoorLib
set_option linter.unusedVariables false
set_option linter.unusedSimpArgs false
namespace Go.Proofs.YtonialldgodbiaaDoor.Pure
open Go.RowKit Go.Proofs.YtonialldgodbiaaDoor.PFnExactFormatInt Go.Proofs.YtonialldgodbiaaDoorW.PrintWords Go.Proofs.YtonialldgodbiaaDoorW.PrintLast Go.Proofs.YtonialldgodbiaaDoor.Lib

theorem l1In_eq (a b c : Int) : spec_l1In.f a b c = some (decide (b ≤ a ∧ a ≤ c)) := by
  unfold spec_l1In.f
  by_cases h : a ≥ b
  · rw [if_pos h]
    congr 1
    simp only [decide_eq_decide]
    omega
  · rw [if_neg h]
    congr 1
    simp only [Bool.false_eq, decide_eq_false_iff_not]
    omega

theorem within_eq (a b c : Int) : impl_within.f a b c = some (decide (b ≤ a ∧ a ≤ c)) := by
  unfold impl_within.f
  by_cases h : a ≥ b
  · rw [if_pos h]
    congr 1
    simp only [decide_eq_decide]
    omega
  · rw [if_neg h]
    congr 1
    simp only [Bool.false_eq, decide_eq_false_iff_not]
    omega

theorem ba_ext {a b : ByteArray} (h : a.data.toList = b.data.toList) : a = b := by
  cases a; cases b
  simp only [ByteArray.mk.injEq]
  exact Array.toList_inj.1 h
theorem ba_app (a b : ByteArray) : (a ++ b).data.toList = a.data.toList ++ b.data.toList := by
  simp [ByteArray.data_append]
theorem ba_size (a : ByteArray) : a.size = a.data.toList.length := by
  cases a
  simp [ByteArray.size]
theorem bt_at (s : ByteArray) (i : Nat) (h : i < s.size) : bt s (i : Int) = ((s.data.toList[i]'(by rw [← ba_size]; exact h)).toNat : Int) := by
  unfold bt
  rw [Int.toNat_natCast, dif_pos h]
  congr 1

theorem digit_at : ∀ j : Fin 10, ((⟨#[48, 49, 50, 51, 52, 53, 54, 55, 56, 57]⟩ : ByteArray).extract j.val (j.val + 1)).data.toList = [UInt8.ofNat (48 + j.val)] := by
  decide
theorem digit_nat (j : Nat) (h : j < 10) : (⟨#[48, 49, 50, 51, 52, 53, 54, 55, 56, 57]⟩ : ByteArray).extract j (j + 1) = ⟨#[UInt8.ofNat (48 + j)]⟩ := ba_ext (digit_at ⟨j, h⟩)
theorem dec_len (u : Nat) (h : u ≤ 1000000000000) : (Lib.decDigits u).length ≤ 21 := by
  have := Lib.itoa_length_le (u : Int) (by omega) (by omega)
  rwa [Lib.itoa_nonneg] at this
theorem l1Num_small (u : Nat) (hu : u < 10) : Ev (fun k => spec_l1Num.f k (u : Int)) ⟨(Lib.decDigits u).toArray⟩ := by
  refine Ev.step (fun k => by rw [spec_l1Num.f]) ?_
  have e1 : wrap64 ((u : Int) + 1) = ((u + 1 : Nat) : Int) := by rw [w64 (by omega) (by omega)]; exact (Int.natCast_add u 1).symm
  simp only [if_neg (show ¬ (u : Int) < 0 by omega), if_pos (show (u : Int) < 10 by omega), if_pos (show 0 ≤ (u : Int) by omega), e1, if_pos (show (u : Int) ≤ ((u + 1 : Nat) : Int) by omega), if_pos (show ((u + 1 : Nat) : Int) ≤ 10 by omega), Int.toNat_natCast, digit_nat u hu]
  rw [Lib.decDigits_one hu]
  exact Ev.now _
theorem l1Num_nat : ∀ (m u : Nat), u ≤ m → u ≤ 1000000000000 → Ev (fun k => spec_l1Num.f k (u : Int)) ⟨(Lib.decDigits u).toArray⟩ := by
  intro m
  induction m with
  | zero =>
    intro u h0 h1
    exact l1Num_small u (by omega)
  | succ m ih =>
    intro u h0 h1
    by_cases hu : u < 10
    · exact l1Num_small u hu
    · have e2 : Int.tdiv (u : Int) 10 = ((u / 10 : Nat) : Int) := by
        rw [show (10 : Int) = ((10 : Nat) : Int) from rfl, ← Int.ofNat_tdiv]
      have e3 : Int.tmod (u : Int) 10 = ((u % 10 : Nat) : Int) := by
        rw [show (10 : Int) = ((10 : Nat) : Int) from rfl, ← Int.ofNat_tmod]
      have e4 : wrap64 ((u / 10 : Nat) : Int) = ((u / 10 : Nat) : Int) := w64 (by omega) (by omega)
      have e5 : wrap64 (((u % 10 : Nat) : Int) + 1) = ((u % 10 + 1 : Nat) : Int) := by rw [w64 (by omega) (by omega)]; exact (Int.natCast_add _ 1).symm
      have hd : Lib.decDigits u = Lib.decDigits (u / 10) ++ [UInt8.ofNat (48 + u % 10)] := by
        rw [Lib.decDigits, dif_neg hu]
      have hlen := dec_len (u / 10) (by omega)
      have hs1 : (⟨(Lib.decDigits (u / 10)).toArray⟩ : ByteArray).size ≤ 21 := by rw [ba_size]; exact hlen
      have hs2 : (⟨#[UInt8.ofNat (48 + u % 10)]⟩ : ByteArray).size = 1 := rfl
      refine Ev.step (fun k => by rw [spec_l1Num.f]) ?_
      simp only [if_neg (show ¬ (u : Int) < 0 by omega), if_neg (show ¬ (u : Int) < 10 by omega), e2, e3, e4]
      refine Ev.bind (ih (u / 10) (by omega) (by omega)) ?_
      simp only [if_pos (show 0 ≤ ((u % 10 : Nat) : Int) by omega), e5, if_pos (show ((u % 10 : Nat) : Int) ≤ ((u % 10 + 1 : Nat) : Int) by omega), if_pos (show ((u % 10 + 1 : Nat) : Int) ≤ 10 by omega), Int.toNat_natCast, digit_nat (u % 10) (by omega), hs2, if_pos (show (⟨(Lib.decDigits (u / 10)).toArray⟩ : ByteArray).size + 1 ≤ 9223372036854775807 by omega)]
      refine Ev.some (ba_ext ?_)
      rw [ba_app, hd]
theorem l1Num_ev (n : Int) (h0 : -1000000000 ≤ n) (h1 : n ≤ 1000000000) : Ev (fun k => spec_l1Num.f k n) ⟨(Lib.itoa n).toArray⟩ := by
  by_cases hn : n < 0
  · obtain ⟨u, hu⟩ : ∃ u : Nat, n = -(u : Int) := ⟨n.natAbs, by omega⟩
    subst hu
    refine Ev.step (fun k => by rw [spec_l1Num.f]) ?_
    have e : wrap64 (-(-(u : Int))) = (u : Int) := by rw [w64 (by omega) (by omega)]; omega
    simp only [if_pos hn, e]
    refine Ev.bind (l1Num_nat u u (Nat.le_refl _) (by omega)) ?_
    have hlen := dec_len u (by omega)
    have hs1 : (⟨(Lib.decDigits u).toArray⟩ : ByteArray).size ≤ 21 := by rw [ba_size]; exact hlen
    simp only [if_pos (show 1 + (⟨(Lib.decDigits u).toArray⟩ : ByteArray).size ≤ 9223372036854775807 by omega)]
    refine Ev.some (ba_ext ?_)
    rw [ba_app, Lib.itoa_neg u (by omega)]
    rfl
  · obtain ⟨u, hu⟩ : ∃ u : Nat, n = (u : Int) := ⟨n.toNat, by omega⟩
    subst hu
    rw [Lib.itoa_nonneg]
    exact l1Num_nat u u (Nat.le_refl _) (by omega)
theorem itoa_eq (n : Int) (h0 : -1000000000 ≤ n) (h1 : n ≤ 1000000000) : strconv_Itoa.f n = some ⟨(Lib.itoa n).toArray⟩ := by
  unfold strconv_Itoa.f
  rw [if_pos ⟨by omega, by omega⟩]

def FormatR (n : Int) : ByteArray × Bool := if -999999 ≤ n ∧ n ≤ 999999 then (⟨(Lib.itoa n).toArray⟩, true) else (⟨#[]⟩, false)
theorem specFormat_ev (n : Int) : Ev (fun k => spec_FormatInt.f k n) (FormatR n) := by
  unfold spec_FormatInt.f FormatR
  simp only [l1In_eq, Option.bind_some, decide_eq_true_eq]
  by_cases h : -999999 ≤ n ∧ n ≤ 999999
  · simp only [if_pos h]
    exact Ev.bind (l1Num_ev n (by omega) (by omega)) (Ev.now _)
  · simp only [if_neg h]
    exact Ev.now _
theorem implFormat_eq (n : Int) : impl_FormatInt.f n = some (FormatR n) := by
  unfold impl_FormatInt.f FormatR
  simp only [within_eq, Option.bind_some, decide_eq_true_eq]
  by_cases h : -999999 ≤ n ∧ n ≤ 999999
  · simp only [if_pos h, itoa_eq n (by omega) (by omega), Option.bind_some]
  · simp only [if_neg h]

theorem FnExactFormatInt : laws_FnExactFormatInt.Pure := by
  intro n _
  refine Ev.rounds ?_
  unfold laws_FnExactFormatInt.f
  refine Ev.bind (specFormat_ev n) ?_
  simp only [implFormat_eq, Option.bind_some, if_true, bne_self_eq_false, Bool.false_eq_true, if_false]
  exact Ev.now _


end Go.Proofs.YtonialldgodbiaaDoor.Pure

