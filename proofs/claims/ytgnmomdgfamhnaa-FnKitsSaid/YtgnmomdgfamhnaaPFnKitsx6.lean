-- Made by wip/pr.py of this repo over the kit's print (some contracts by hand).
import Derived.Test.YtgnmomdgfamhnaaSq
import Derived.Test.YtgnmomdgfamhnaaPFnKitsx0
import Derived.Test.YtgnmomdgfamhnaaPFnKitsx2
import Derived.Test.YtgnmomdgfamhnaaPFnKitsx3
import Derived.Test.YtgnmomdgfamhnaaPFnKitsx4
import Derived.Test.YtgnmomdgfamhnaaPFnKitsx5
namespace Go.Proofs.Ytgnmomdgfamhnaa.PFnKits
open Go.RowKit Go.Proofs.YtgnmomdgfamhnaaW.PrintWords Go.Proofs.YtgnmomdgfamhnaaW.PrintLast Go.Proofs.YtgnmomdgfamhnaaW.PrintMore
attribute [local go_sem] max2_int min2_int max_two min_two max_three min_three max_four min_four   -- for this text's walks alone
set_option linter.unusedVariables false
set_option linter.unusedSimpArgs false

/-! ### spec_l3Sums: function 94 -/
mutual
def spec_l3Sums.l0 : Nat → List Int → Bool → Int → Int → Option (List Bool)
  | 0, _, _, _, _ => none
  | k + 1, x0, x1, x5, x6 => if x6 < (x0.length : Int) then (if 0 ≤ x6 then (spec_l3Sums.l0 k x0 x1 (wrap64 (x5 + (rd x0 x6))) (wrap64 (x6 + 1))) else (none)) else (if 0 ≤ (wrap64 ((wrap64 (2 * x5)) + 1)) then (if (wrap64 ((wrap64 (2 * x5)) + 1) : Int).toNat ≤ 281474976710656 then ((some (List.replicate (wrap64 ((wrap64 (2 * x5)) + 1) : Int).toNat false : List Bool)).bind fun y209 => (if 0 ≤ x5 then (if x5 < (y209.length : Int) then (spec_l3Sums.l1 k x0 x1 x5 (y209.set (x5 : Int).toNat true) 0) else (none)) else (none))) else (none)) else (none))
def spec_l3Sums.l1 : Nat → List Int → Bool → Int → List Bool → Int → Option (List Bool)
  | 0, _, _, _, _, _ => none
  | k + 1, x0, x1, x5, x7, x8 => if x8 < (x0.length : Int) then (if 0 ≤ (x7.length : Int) then (if ((x7.length : Int) : Int).toNat ≤ 281474976710656 then (spec_l3Sums.l2 k x0 x1 x5 x7 x8 (List.replicate ((x7.length : Int) : Int).toNat false) 0) else (none)) else (none)) else (if 0 ≤ x5 then (if x5 ≤ (x7.length : Int) then (some (x7.drop (x5 : Int).toNat)) else (none)) else (none))
def spec_l3Sums.l2 : Nat → List Int → Bool → Int → List Bool → Int → List Bool → Int → Option (List Bool)
  | 0, _, _, _, _, _, _, _ => none
  | k + 1, x0, x1, x5, x7, x8, x9, x10 => if x10 < (x7.length : Int) then (if 0 ≤ x10 then (if rdOf false x7 x10 = true then (if x10 < (x9.length : Int) then (if 0 ≤ x8 then (if x8 < (x0.length : Int) then ((spec_l1Least.f (wrap64 (x10 + (rd x0 x8))) (wrap64 (2 * x5))).bind fun t222 => (if 0 ≤ t222 then (if t222 < (x9.length : Int) then ((some ((x9.set (x10 : Int).toNat true).set (t222 : Int).toNat true : List Bool)).bind fun y223 => (if x1 = true then ((spec_l1Most.f (wrap64 (x10 - (rd x0 x8))) 0).bind fun t225 => (if 0 ≤ t225 then (if t225 < (x9.length : Int) then (spec_l3Sums.l2 k x0 x1 x5 x7 x8 (y223.set (t225 : Int).toNat true) (wrap64 (x10 + 1))) else (none)) else (none))) else (spec_l3Sums.l2 k x0 x1 x5 x7 x8 y223 (wrap64 (x10 + 1))))) else (none)) else (none))) else (none)) else (none)) else (none)) else (spec_l3Sums.l2 k x0 x1 x5 x7 x8 x9 (wrap64 (x10 + 1)))) else (none)) else (spec_l3Sums.l1 k x0 x1 x5 x9 (wrap64 (x8 + 1)))
end
def spec_l3Sums.f (k : Nat) (l0 : List Int) (a1 : Bool) : Option (List Bool) := spec_l3Sums.l0 k l0 a1 0 0
theorem spec_l3Sums.mono_l : ∀ k, (∀ y0 y1 y2 y3, LeO (spec_l3Sums.l0 k y0 y1 y2 y3) (spec_l3Sums.l0 (k + 1) y0 y1 y2 y3)) ∧ (∀ y0 y1 y2 y3 y4, LeO (spec_l3Sums.l1 k y0 y1 y2 y3 y4) (spec_l3Sums.l1 (k + 1) y0 y1 y2 y3 y4)) ∧ (∀ y0 y1 y2 y3 y4 y5 y6, LeO (spec_l3Sums.l2 k y0 y1 y2 y3 y4 y5 y6) (spec_l3Sums.l2 (k + 1) y0 y1 y2 y3 y4 y5 y6))
  | 0 => ⟨fun _ _ _ _ r h => by simp [spec_l3Sums.l0] at h, fun _ _ _ _ _ r h => by simp [spec_l3Sums.l1] at h, fun _ _ _ _ _ _ _ r h => by simp [spec_l3Sums.l2] at h⟩
  | k + 1 => by
    obtain ⟨ih0, ih1, ih2⟩ := spec_l3Sums.mono_l k
    refine ⟨?_, ?_, ?_⟩
    · intro y0 y1 y2 y3
      unfold spec_l3Sums.l0
      repeat' first
      | (with_reducible exact ih0 _ _ _ _)
      | (with_reducible exact ih1 _ _ _ _ _)
      | (with_reducible exact ih2 _ _ _ _ _ _ _)
      | (with_reducible exact LeO.refl _)
      | (with_reducible exact LeO.none _)
      | (with_reducible refine LeO.ite ?_ ?_)
      | (with_reducible refine LeO.bind ?_ (fun _ => ?_))
      | exact ih0 _ _ _ _
      | exact ih1 _ _ _ _ _
      | exact ih2 _ _ _ _ _ _ _
      | exact LeO.none _
      | refine LeO.ite ?_ ?_
      | refine LeO.bind ?_ (fun _ => ?_)
    · intro y0 y1 y2 y3 y4
      unfold spec_l3Sums.l1
      repeat' first
      | (with_reducible exact ih0 _ _ _ _)
      | (with_reducible exact ih1 _ _ _ _ _)
      | (with_reducible exact ih2 _ _ _ _ _ _ _)
      | (with_reducible exact LeO.refl _)
      | (with_reducible exact LeO.none _)
      | (with_reducible refine LeO.ite ?_ ?_)
      | (with_reducible refine LeO.bind ?_ (fun _ => ?_))
      | exact ih0 _ _ _ _
      | exact ih1 _ _ _ _ _
      | exact ih2 _ _ _ _ _ _ _
      | exact LeO.none _
      | refine LeO.ite ?_ ?_
      | refine LeO.bind ?_ (fun _ => ?_)
    · intro y0 y1 y2 y3 y4 y5 y6
      unfold spec_l3Sums.l2
      repeat' first
      | (with_reducible exact ih0 _ _ _ _)
      | (with_reducible exact ih1 _ _ _ _ _)
      | (with_reducible exact ih2 _ _ _ _ _ _ _)
      | (with_reducible exact LeO.refl _)
      | (with_reducible exact LeO.none _)
      | (with_reducible refine LeO.ite ?_ ?_)
      | (with_reducible refine LeO.bind ?_ (fun _ => ?_))
      | exact ih0 _ _ _ _
      | exact ih1 _ _ _ _ _
      | exact ih2 _ _ _ _ _ _ _
      | exact LeO.none _
      | refine LeO.ite ?_ ?_
      | refine LeO.bind ?_ (fun _ => ?_)
theorem spec_l3Sums.mono : ∀ a0 a1 k, LeO (spec_l3Sums.f k a0 a1) (spec_l3Sums.f (k + 1) a0 a1) := by
  intro a0 a1 k
  obtain ⟨ih0, ih1, ih2⟩ := spec_l3Sums.mono_l k
  unfold spec_l3Sums.f
  repeat' first
      | (with_reducible exact ih0 _ _ _ _)
      | (with_reducible exact ih1 _ _ _ _ _)
      | (with_reducible exact ih2 _ _ _ _ _ _ _)
      | (with_reducible exact LeO.refl _)
      | (with_reducible exact LeO.none _)
      | (with_reducible refine LeO.ite ?_ ?_)
      | (with_reducible refine LeO.bind ?_ (fun _ => ?_))
      | exact ih0 _ _ _ _
      | exact ih1 _ _ _ _ _
      | exact ih2 _ _ _ _ _ _ _
      | exact LeO.none _
      | refine LeO.ite ?_ ?_
      | refine LeO.bind ?_ (fun _ => ?_)
set_option maxHeartbeats 8000000 in
set_option maxRecDepth 100000 in
theorem spec_l3Sums.calls (k : Nat) (A0 : Option Addr) (c0 : Nat) (l0 : List Int) (a1 : Bool) (r : List Bool) (w : World) (hr0 : Kd.C (Kd.int .i64) w A0 l0.length l0) (hc0 : l0.length ≤ c0) (h : spec_l3Sums.f k l0 a1 = some r) :
    Calls Try.prog 94 #[.slice A0 l0.length c0, .bool a1] w fun e w' => ∃ v0_ : Value, e = .returned (v0_) ∧ Kd.Q Kd.bool 4 w' w.heap.size (fun _ => True) v0_ r ∧ Below w.heap.size w w' := by
  have HR0 := Aside0.mk hr0
  have HC0 := Aside0.mk hc0
  clear hr0 hc0
  have HB := Aside0.mk (Below.refl w.heap.size w)
  have H : (spec_l3Sums.l0 k l0 a1 0 0) = some r := h
  clear h
  have H' := Aside0.mk H
  clear H
  go_enter Try.func94, Try.ntmps94
  go_wp2
  go_loopg [5, 6] k (fun kq v5 v6 w' => ∃ (x5_1 : Int) (x6_1 : Int), v5 = .int .i64 x5_1 ∧ v6 = .int .i64 x6_1 ∧ Aside0 (spec_l3Sums.l0 kq l0 a1 x5_1 x6_1 = some r) ∧ Aside0 (kq ≤ k) ∧ Aside0 (Below w.heap.size w w'))
  case atStart => exact ⟨(0), (0), (by first | rfl | (simp; done) | (simp [*]; done)), (by first | rfl | (simp; done) | (simp [*]; done)), H', ⟨Nat.le_refl _⟩, ⟨Sq.B HB⟩⟩
  case round =>
    clear H'
    try clear p2
    obtain ⟨x5_1, x6_1, rfl, rfl, HA, HK1, HB⟩ := hrel
    cases gk with
    | zero => exact absurd HA.out (by simp [spec_l3Sums.l0])
    | succ k1 =>
      have H := HA.out
      clear HA
      simp only [spec_l3Sums.l0] at H
      by_cases c3 : x6_1 < (l0.length : Int)
      · rw [if_pos c3] at H
        have c3b0 : decide (x6_1 < (l0.length : Int)) = true := decide_eq_true c3
        clear c3
        by_cases c4 : 0 ≤ x6_1
        · rw [if_pos c4] at H
          have c4b0 : decide (0 ≤ x6_1) = true := decide_eq_true c4
          clear c4
          have H' := Aside0.mk H
          clear H
          have p208 : 0 ≤ (x6_1 : Int) := of_decide_eq_true (by first | (with_reducible assumption) | assumption)
          have q208 : x6_1 < (l0.length : Int) := of_decide_eq_true (by first | (with_reducible assumption) | assumption)
          obtain ⟨ad208, e208, hx208_0⟩ := Kd.at_int HR0.out x6_1 p208 q208
          cases e208
          replace hx208_0 := (HB.out.cell (World.block_lt_of_cell? w _ hx208_0)).trans hx208_0
          replace p208 := eq_true p208
          replace q208 := eq_true q208
          go_wp2
          go_roundg k1
          case measure => have := HK1.out; omega
          case rel => exact ⟨(wrap64 (x5_1 + (rd l0 x6_1))), (wrap64 (x6_1 + 1)), (by first | rfl | (simp; done) | (simp [*]; done)), (by first | rfl | (simp; done) | (simp [*]; done)), H', ⟨by have := HK1.out; omega⟩, ⟨Sq.B HB⟩⟩
        · rw [if_neg c4] at H
          exact absurd H (by simp)
      · rw [if_neg c3] at H
        have c3b0 : decide (x6_1 < (l0.length : Int)) = false := decide_eq_false c3
        clear c3
        obtain ⟨ji5, hji5⟩ : ∃ j_ : Int, (wrap64 ((wrap64 (2 * x5_1)) + 1)) = j_ := ⟨_, rfl⟩
        replace H : (if 0 ≤ (ji5) then (if (ji5 : Int).toNat ≤ 281474976710656 then ((some (List.replicate (ji5 : Int).toNat false : List Bool)).bind fun y209 => (if 0 ≤ x5_1 then (if x5_1 < (y209.length : Int) then (spec_l3Sums.l1 k1 l0 a1 x5_1 (y209.set (x5_1 : Int).toNat true) 0) else (none)) else (none))) else (none)) else (none)) = some r := by first | (rw [hji5] at H; exact H) | (simp only [hji5] at H ⊢; exact H)
        have hji5w : (IntKind.i64.wrap ((wrap64 (2 * x5_1)) + 1)) = ji5 := (i64_w _).trans hji5
        by_cases c6 : 0 ≤ (ji5)
        · rw [if_pos c6] at H
          have c6b0 := eq_true c6
          have c6b1 : decide (0 ≤ (ji5)) = true := decide_eq_true c6
          clear c6
          by_cases c7 : (ji5 : Int).toNat ≤ 281474976710656
          · rw [if_pos c7] at H
            have c7b0 := eq_true c7
            have c7b1 : decide ((ji5 : Int).toNat ≤ 281474976710656) = true := decide_eq_true c7
            clear c7
            obtain ⟨y209, hy209⟩ : ∃ y_ : List Bool, y_ = (List.replicate (ji5 : Int).toNat false) := ⟨_, rfl⟩
            replace H : (if 0 ≤ x5_1 then (if x5_1 < (y209.length : Int) then (spec_l3Sums.l1 k1 l0 a1 x5_1 (y209.set (x5_1 : Int).toNat true) 0) else (none)) else (none)) = some r := by first | (rw [hy209]; with_reducible exact H) | (have H2_ := (Option.bind_some _ _).symm.trans H; rw [hy209]; with_reducible exact H2_) | (have H2_ := (Option.bind_some _ _).symm.trans H; with_reducible exact H2_) | with_reducible exact H | (rw [hy209]; exact H) | exact H
            have Ny209 := Aside0.mk hy209
            clear hy209
            by_cases c8 : 0 ≤ x5_1
            · rw [if_pos c8] at H
              have c8b0 : decide (0 ≤ x5_1) = true := decide_eq_true c8
              clear c8
              by_cases c9 : x5_1 < (y209.length : Int)
              · rw [if_pos c9] at H
                have c9b0 : decide (x5_1 < (y209.length : Int)) = true := decide_eq_true c9
                clear c9
                obtain ⟨y212, hy212⟩ : ∃ y_ : List Bool, y_ = (y209.set (x5_1 : Int).toNat true) := ⟨_, rfl⟩
                replace H : (spec_l3Sums.l1 k1 l0 a1 x5_1 y212 0) = some r := by first | (rw [hy212]; with_reducible exact H) | (have H2_ := (Option.bind_some _ _).symm.trans H; rw [hy212]; with_reducible exact H2_) | (have H2_ := (Option.bind_some _ _).symm.trans H; with_reducible exact H2_) | with_reducible exact H | (rw [hy212]; exact H) | exact H
                have Ny212 := Aside0.mk hy212
                clear hy212
                have H' := Aside0.mk H
                clear H
                go_wp2_with (first | ((with_reducible refine gate_dst (N := 26) rfl ?_); refine Kd.R_make Kd.bool _ 4 rfl (N := 26) rfl 92 _ _ rfl ji5 rfl rfl Try.underlying92 (.bool false) 1 info4 rfl (by decide) (by omega) false (ok := fun _ => True) (okp := fun _ => True) rfl (fun _ hk => hk) trivial (of_decide_eq_true (by first | (with_reducible assumption) | assumption)) (Nat.le_trans (Nat.mul_le_mul_right _ (of_decide_eq_true (by first | (with_reducible assumption) | assumption) : ji5.toNat ≤ 281474976710656)) (by omega)) (Below.refl _ _) (Nat.le_refl _) ?_; intro v210 w11 ho12 hb hg_ hnew_; clear hg_ hnew_; (first | rw [← Ny209.out] at ho12 | (simp only [Int.reduceToNat] at ho12; rw [← Ny209.out] at ho12)); have n0_ := Sq.L ho12 HB; have n1_ := Sq.S HB hb; have HO211 := n0_; replace HB := n1_; clear n0_ n1_; clear hb ho12; have p10 : 0 ≤ (x5_1 : Int) := of_decide_eq_true (by first | (with_reducible assumption) | assumption); have q10 : (x5_1 : Int) < ((y209.length : Int) : Int) := of_decide_eq_true (by first | (with_reducible assumption) | assumption); obtain ⟨go10, co10, eo10, gb10, gl10, cl10, HG10⟩ := Kd.R_form HO211.out (by omega); (first | cases eo10 | (injection eo10 with ea_ en_ ec_; (first | subst ea_ | (injection ea_ with ea_; subst ea_)); subst ec_; clear en_)); have GB10 := Aside0.mk gb10; have GG10 := Aside0.mk HG10; clear gb10 gl10 HG10; obtain ⟨hx10_0, hf10_0⟩ := Kd.R_celln false HO211.out (x5_1 : Int) p10 q10; replace p10 := eq_true p10; replace q10 := eq_true q10; obtain ⟨hy13_, hz13_⟩ := Kd.R_celln false HO211.out (x5_1 : Int) (of_decide_eq_true (by first | (with_reducible assumption) | assumption)) (of_decide_eq_true (by first | (with_reducible assumption) | assumption)); have HP13 := Kd.R_putg HO211.out (x5_1 : Int) true) | ((with_reducible refine gate_store (t := 4) (p := 29) rfl ?_); refine store_event (t := 4) (p := 29) (v := ?vo_w14) (w1 := (w11.setCell ⟨go10, (x5_1 : Int).toNat, none⟩ (.bool true))) ?hg ?ho ?hn ?hr ?_; (case ho => rfl); (case hg => rfl); (case hn => rfl); (case hr => first | (go_simp; done) | (go_simp; rfl)); intro w14 hw; have hg : w11.grownBy w14 (some go10) := (by rw [hw]; exact HP13.2); have hp_ : Kd.R Kd.bool 4 w14 w.heap.size (fun _ => True) (.slice (some ⟨go10, 0, none⟩) y209.length co10) y212 := (by rw [hw, Ny212.out]; exact HP13.1); clear HP13; have n0_ := Aside0.mk (hp_); have n1_ := Aside0.mk ((by rw [hw]; exact below_set (HB.out) GB10.out : Below w.heap.size w w14)); replace HO211 := n0_; replace HB := n1_; clear n0_ n1_; clear hg hw hp_))
                go_loopg [7, 8] k1 (fun kq v7 v8 w' => ∃ (x7_2 : List Bool) (x8_2 : Int), v8 = .int .i64 x8_2 ∧ Aside0 (spec_l3Sums.l1 kq l0 a1 x5_1 x7_2 x8_2 = some r) ∧ Aside0 (kq ≤ k1) ∧ Aside0 (Kd.R Kd.bool 4 w' w.heap.size (fun _ => True) v7 x7_2) ∧ Aside0 (Below w.heap.size w w'))
                case atStart => exact ⟨(y212), (0), (by first | rfl | (simp; done) | (simp [*]; done)), H', ⟨Nat.le_refl _⟩, ⟨by (with_reducible repeat (first | apply Kd.R_alloc | apply Kd.R_drewN | apply Kd.R_drew)); exact HO211.out⟩, ⟨Sq.B HB⟩⟩
                case round =>
                  clear H'
                  try clear p1
                  try clear q1
                  try clear hx1
                  try clear p2
                  try clear q2
                  try clear hx2
                  try clear c3
                  try clear c3b0
                  try clear c4
                  try clear c4b0
                  try clear c6
                  try clear c6b0
                  try clear c6b1
                  try clear p6
                  try clear c7
                  try clear c7b0
                  try clear c7b1
                  try clear c8
                  try clear c8b0
                  try clear c9
                  try clear c9b0
                  try clear p10
                  try clear q10
                  try clear hx10
                  try clear hf10
                  try clear hx10_0
                  try clear hx208_0
                  try clear p10
                  try clear p2
                  try clear p208
                  try clear q10
                  try clear q208
                  obtain ⟨x7_2, x8_2, rfl, HA, HK2, HO_7, HB⟩ := hrel
                  cases gk with
                  | zero => exact absurd HA.out (by simp [spec_l3Sums.l1])
                  | succ k2 =>
                    have H := HA.out
                    clear HA
                    simp only [spec_l3Sums.l1] at H
                    by_cases c15 : x8_2 < (l0.length : Int)
                    · rw [if_pos c15] at H
                      have c15b0 : decide (x8_2 < (l0.length : Int)) = true := decide_eq_true c15
                      clear c15
                      by_cases c16 : 0 ≤ (x7_2.length : Int)
                      · rw [if_pos c16] at H
                        have c16b0 := eq_true c16
                        have c16b1 : decide (0 ≤ (x7_2.length : Int)) = true := decide_eq_true c16
                        clear c16
                        by_cases c17 : ((x7_2.length : Int) : Int).toNat ≤ 281474976710656
                        · rw [if_pos c17] at H
                          have c17b0 := eq_true c17
                          have c17b1 : decide (((x7_2.length : Int) : Int).toNat ≤ 281474976710656) = true := decide_eq_true c17
                          clear c17
                          obtain ⟨y216, hy216⟩ : ∃ y_ : List Bool, y_ = (List.replicate ((x7_2.length : Int) : Int).toNat false) := ⟨_, rfl⟩
                          replace H : (spec_l3Sums.l2 k2 l0 a1 x5_1 x7_2 x8_2 y216 0) = some r := by first | (rw [hy216]; with_reducible exact H) | (have H2_ := (Option.bind_some _ _).symm.trans H; rw [hy216]; with_reducible exact H2_) | (have H2_ := (Option.bind_some _ _).symm.trans H; with_reducible exact H2_) | with_reducible exact H | (rw [hy216]; exact H) | exact H
                          have Ny216 := Aside0.mk hy216
                          clear hy216
                          have H' := Aside0.mk H
                          clear H
                          obtain ⟨Ao18, co18, rfl⟩ := Kd.R_slice HO_7.out
                          go_wp2_with (first | ((with_reducible refine gate_dst (N := 38) rfl ?_); refine Kd.R_make Kd.bool _ 4 rfl (N := 38) rfl 92 _ _ rfl (x7_2.length : Int) rfl rfl Try.underlying92 (.bool false) 1 info4 rfl (by decide) (by omega) false (ok := fun _ => True) (okp := fun _ => True) rfl (fun _ hk => hk) trivial (of_decide_eq_true (by first | (with_reducible assumption) | assumption)) (Nat.le_trans (Nat.mul_le_mul_right _ (of_decide_eq_true (by first | (with_reducible assumption) | assumption) : (x7_2.length : Int).toNat ≤ 281474976710656)) (by omega)) (Below.refl _ _) (Nat.le_refl _) ?_; intro v217 w19 ho20 hb hg_ hnew_; clear hg_ hnew_; (first | rw [← Ny216.out] at ho20 | (simp only [Int.reduceToNat] at ho20; rw [← Ny216.out] at ho20)); have n0_ := Sq.E HO_7 ho20 hb; have n1_ := Sq.L (Sq.N ho20 HO_7) HB; have n2_ := Sq.S HB hb; replace HO_7 := n0_; have HO218 := n1_; replace HB := n2_; clear n0_ n1_ n2_; clear hb ho20))
                          go_loopg [10] k2 (fun kq v10 w' => ∃ (x9_3 : List Bool) (x10_3 : Int), v10 = .int .i64 x10_3 ∧ Aside0 (spec_l3Sums.l2 kq l0 a1 x5_1 x7_2 x8_2 x9_3 x10_3 = some r) ∧ Aside0 (kq ≤ k2) ∧ Aside0 (Kd.R Kd.bool 4 w' w.heap.size (fun k_ => some k_ ≠ (v217 : Value).ownBlock) (.slice Ao18 x7_2.length co18) x7_2) ∧ Aside0 (Kd.R Kd.bool 4 w' w.heap.size (fun k_ => some k_ ≠ ((.slice Ao18 x7_2.length co18) : Value).ownBlock) v217 x9_3) ∧ Aside0 (Below w.heap.size w w'))
                          case atStart => exact ⟨(y216), (0), (by first | rfl | (simp; done) | (simp [*]; done)), H', ⟨Nat.le_refl _⟩, ⟨Kd.R_mono (Sq.R HO_7) (fun _ hk => hk.2)⟩, ⟨Kd.R_mono (Sq.R HO218) (fun _ hk => hk.2)⟩, ⟨Sq.B HB⟩⟩
                          case round =>
                            clear H'
                            try clear c1
                            try clear p1
                            try clear q1
                            try clear hx1
                            try clear p2
                            try clear q2
                            try clear hx2
                            try clear c3
                            try clear c3b0
                            try clear c4
                            try clear c4b0
                            try clear c6
                            try clear c6b0
                            try clear c6b1
                            try clear p6
                            try clear c7
                            try clear c7b0
                            try clear c7b1
                            try clear c8
                            try clear c8b0
                            try clear c9
                            try clear c9b0
                            try clear p10
                            try clear q10
                            try clear hx10
                            try clear hf10
                            try clear c15
                            try clear c15b0
                            try clear c16
                            try clear c16b0
                            try clear c16b1
                            try clear c17
                            try clear c17b0
                            try clear c17b1
                            try clear p20
                            try clear q20
                            try clear hx20
                            try clear hx10_0
                            try clear hx208_0
                            try clear p1
                            try clear p10
                            try clear p2
                            try clear p208
                            try clear p6
                            try clear q1
                            try clear q10
                            try clear q2
                            try clear q208
                            obtain ⟨x9_3, x10_3, rfl, HA, HK3, HO_7, HO_9, HB⟩ := hrel
                            cases gk with
                            | zero => exact absurd HA.out (by simp [spec_l3Sums.l2])
                            | succ k3 =>
                              have H := HA.out
                              clear HA
                              simp only [spec_l3Sums.l2] at H
                              by_cases c21 : x10_3 < (x7_2.length : Int)
                              · rw [if_pos c21] at H
                                have c21b0 : decide (x10_3 < (x7_2.length : Int)) = true := decide_eq_true c21
                                clear c21
                                by_cases c22 : 0 ≤ x10_3
                                · rw [if_pos c22] at H
                                  have c22b0 : decide (0 ≤ x10_3) = true := decide_eq_true c22
                                  clear c22
                                  obtain ⟨bq23, hbq23⟩ : ∃ b_ : Bool, b_ = (rdOf false x7_2 x10_3) := ⟨_, rfl⟩
                                  replace H : (if bq23 = true then (if x10_3 < (x9_3.length : Int) then (if 0 ≤ x8_2 then (if x8_2 < (l0.length : Int) then ((spec_l1Least.f (wrap64 (x10_3 + (rd l0 x8_2))) (wrap64 (2 * x5_1))).bind fun t222 => (if 0 ≤ t222 then (if t222 < (x9_3.length : Int) then ((some ((x9_3.set (x10_3 : Int).toNat true).set (t222 : Int).toNat true : List Bool)).bind fun y223 => (if a1 = true then ((spec_l1Most.f (wrap64 (x10_3 - (rd l0 x8_2))) 0).bind fun t225 => (if 0 ≤ t225 then (if t225 < (x9_3.length : Int) then (spec_l3Sums.l2 k3 l0 a1 x5_1 x7_2 x8_2 (y223.set (t225 : Int).toNat true) (wrap64 (x10_3 + 1))) else (none)) else (none))) else (spec_l3Sums.l2 k3 l0 a1 x5_1 x7_2 x8_2 y223 (wrap64 (x10_3 + 1))))) else (none)) else (none))) else (none)) else (none)) else (none)) else (spec_l3Sums.l2 k3 l0 a1 x5_1 x7_2 x8_2 x9_3 (wrap64 (x10_3 + 1)))) = some r := by rw [← hbq23] at H; exact H
                                  have Nbq23 := Aside0.mk hbq23
                                  clear hbq23
                                  by_cases c24 : bq23 = true
                                  · subst c24
                                    rw [if_pos rfl] at H
                                    by_cases c25 : x10_3 < (x9_3.length : Int)
                                    · rw [if_pos c25] at H
                                      have c25b0 : decide (x10_3 < (x9_3.length : Int)) = true := decide_eq_true c25
                                      clear c25
                                      obtain ⟨y220, hy220⟩ : ∃ y_ : List Bool, y_ = (x9_3.set (x10_3 : Int).toNat true) := ⟨_, rfl⟩
                                      replace H : (if 0 ≤ x8_2 then (if x8_2 < (l0.length : Int) then ((spec_l1Least.f (wrap64 (x10_3 + (rd l0 x8_2))) (wrap64 (2 * x5_1))).bind fun t222 => (if 0 ≤ t222 then (if t222 < (x9_3.length : Int) then ((some (y220.set (t222 : Int).toNat true : List Bool)).bind fun y223 => (if a1 = true then ((spec_l1Most.f (wrap64 (x10_3 - (rd l0 x8_2))) 0).bind fun t225 => (if 0 ≤ t225 then (if t225 < (x9_3.length : Int) then (spec_l3Sums.l2 k3 l0 a1 x5_1 x7_2 x8_2 (y223.set (t225 : Int).toNat true) (wrap64 (x10_3 + 1))) else (none)) else (none))) else (spec_l3Sums.l2 k3 l0 a1 x5_1 x7_2 x8_2 y223 (wrap64 (x10_3 + 1))))) else (none)) else (none))) else (none)) else (none)) = some r := by first | (rw [hy220]; with_reducible exact H) | (have H2_ := (Option.bind_some _ _).symm.trans H; rw [hy220]; with_reducible exact H2_) | (have H2_ := (Option.bind_some _ _).symm.trans H; with_reducible exact H2_) | with_reducible exact H | (rw [hy220]; exact H) | exact H
                                      have Ny220 := Aside0.mk hy220
                                      clear hy220
                                      by_cases c27 : 0 ≤ x8_2
                                      · rw [if_pos c27] at H
                                        have c27b0 : decide (0 ≤ x8_2) = true := decide_eq_true c27
                                        clear c27
                                        by_cases c28 : x8_2 < (l0.length : Int)
                                        · rw [if_pos c28] at H
                                          have c28b0 : decide (x8_2 < (l0.length : Int)) = true := decide_eq_true c28
                                          clear c28
                                          replace H := Option.bind_eq_some_iff.mp H
                                          obtain ⟨t222, A290, H⟩ := H
                                          try dsimp only at H
                                          have A29 := Aside0.mk A290
                                          clear A290
                                          by_cases c30 : 0 ≤ t222
                                          · rw [if_pos c30] at H
                                            have c30b0 : decide (0 ≤ t222) = true := decide_eq_true c30
                                            clear c30
                                            by_cases c31 : t222 < (x9_3.length : Int)
                                            · rw [if_pos c31] at H
                                              have c31b0 : decide (t222 < (x9_3.length : Int)) = true := decide_eq_true c31
                                              clear c31
                                              obtain ⟨y223, hy223⟩ : ∃ y_ : List Bool, y_ = (y220.set (t222 : Int).toNat true) := ⟨_, rfl⟩
                                              replace H : (if a1 = true then ((spec_l1Most.f (wrap64 (x10_3 - (rd l0 x8_2))) 0).bind fun t225 => (if 0 ≤ t225 then (if t225 < (x9_3.length : Int) then (spec_l3Sums.l2 k3 l0 a1 x5_1 x7_2 x8_2 (y223.set (t225 : Int).toNat true) (wrap64 (x10_3 + 1))) else (none)) else (none))) else (spec_l3Sums.l2 k3 l0 a1 x5_1 x7_2 x8_2 y223 (wrap64 (x10_3 + 1)))) = some r := by first | (rw [hy223]; with_reducible exact H) | (have H2_ := (Option.bind_some _ _).symm.trans H; rw [hy223]; with_reducible exact H2_) | (have H2_ := (Option.bind_some _ _).symm.trans H; with_reducible exact H2_) | with_reducible exact H | (rw [hy223]; exact H) | exact H
                                              have Ny223 := Aside0.mk hy223
                                              clear hy223
                                              by_cases c33 : a1 = true
                                              · subst c33
                                                rw [if_pos rfl] at H
                                                replace H := Option.bind_eq_some_iff.mp H
                                                obtain ⟨t225, A340, H⟩ := H
                                                try dsimp only at H
                                                have A34 := Aside0.mk A340
                                                clear A340
                                                by_cases c35 : 0 ≤ t225
                                                · rw [if_pos c35] at H
                                                  have c35b0 : decide (0 ≤ t225) = true := decide_eq_true c35
                                                  clear c35
                                                  by_cases c36 : t225 < (x9_3.length : Int)
                                                  · rw [if_pos c36] at H
                                                    have c36b0 : decide (t225 < (x9_3.length : Int)) = true := decide_eq_true c36
                                                    clear c36
                                                    obtain ⟨y226, hy226⟩ : ∃ y_ : List Bool, y_ = (y223.set (t225 : Int).toNat true) := ⟨_, rfl⟩
                                                    replace H : (spec_l3Sums.l2 k3 l0 true x5_1 x7_2 x8_2 y226 (wrap64 (x10_3 + 1))) = some r := by first | (rw [hy226]; with_reducible exact H) | (have H2_ := (Option.bind_some _ _).symm.trans H; rw [hy226]; with_reducible exact H2_) | (have H2_ := (Option.bind_some _ _).symm.trans H; with_reducible exact H2_) | with_reducible exact H | (rw [hy226]; exact H) | exact H
                                                    have Ny226 := Aside0.mk hy226
                                                    clear hy226
                                                    have H' := Aside0.mk H
                                                    clear H
                                                    have p219 : 0 ≤ (x10_3 : Int) := of_decide_eq_true (by first | (with_reducible assumption) | assumption)
                                                    have q219 : x10_3 < (x7_2.length : Int) := of_decide_eq_true (by first | (with_reducible assumption) | assumption)
                                                    obtain ⟨ad219, e219, hx219_0⟩ := Kd.at_bool (Kd.R_reads' HO_7.out).2.2 x10_3 p219 q219
                                                    (try rw [← Nbq23.out] at hx219_0)
                                                    cases e219
                                                    replace p219 := eq_true p219
                                                    replace q219 := eq_true q219
                                                    have p26 : 0 ≤ (x10_3 : Int) := of_decide_eq_true (by first | (with_reducible assumption) | assumption)
                                                    have q26 : (x10_3 : Int) < ((x9_3.length : Int) : Int) := of_decide_eq_true (by first | (with_reducible assumption) | assumption)
                                                    obtain ⟨go26, co26, eo26, gb26, gl26, cl26, HG26⟩ := Kd.R_form HO_9.out (by omega)
                                                    (first | cases eo26 | (injection eo26 with ea_ en_ ec_; (first | subst ea_ | (injection ea_ with ea_; subst ea_)); subst ec_; clear en_))
                                                    have GB26 := Aside0.mk gb26
                                                    have GG26 := Aside0.mk HG26
                                                    clear gb26 gl26 HG26
                                                    obtain ⟨hx26_0, hf26_0⟩ := Kd.R_celln false HO_9.out (x10_3 : Int) p26 q26
                                                    replace p26 := eq_true p26
                                                    replace q26 := eq_true q26
                                                    have HP38 := Kd.R_putg HO_9.out (x10_3 : Int) true
                                                    go_wp2_with (first | ((with_reducible refine gate_store (t := 4) (p := 51) rfl ?_); refine store_event (t := 4) (p := 51) (v := ?vo_w39) (w1 := (wr.setCell ⟨go26, (x10_3 : Int).toNat, none⟩ (.bool true))) ?hg ?ho ?hn ?hr ?_; (case ho => rfl); (case hg => rfl); (case hn => rfl); (case hr => first | (go_simp; done) | (go_simp; rfl)); intro w39 hw; have hg : wr.grownBy w39 (some go26) := (by rw [hw]; exact HP38.2); have hp_ : Kd.R Kd.bool 4 w39 w.heap.size (fun k_ => some k_ ≠ (.slice (some ad219) x7_2.length co18 : Value).ownBlock) (.slice (some ⟨go26, 0, none⟩) x9_3.length co26) y220 := (by rw [hw, Ny220.out]; exact HP38.1); clear HP38; have n0_ := Aside0.mk (Kd.R_after (v := (.slice (some ⟨go26, 0, none⟩) x9_3.length co26)) (v1 := (.slice (some ⟨go26, 0, none⟩) x9_3.length co26)) (ok := (fun _ => True)) (by (with_reducible repeat (first | apply Kd.R_alloc | apply Kd.R_drewN | apply Kd.R_drew)); exact Kd.R_mono HO_7.out (fun _ hk => ⟨trivial, hk⟩)) hg (.inl rfl)); have n1_ := Aside0.mk (hp_); have n2_ := Aside0.mk ((by rw [hw]; exact below_set (HB.out) GB26.out : Below w.heap.size w w39)); replace HO_7 := n0_; replace HO_9 := n1_; replace HB := n2_; clear n0_ n1_ n2_; clear hg hw hp_; have p221 : 0 ≤ (x8_2 : Int) := of_decide_eq_true (by first | (with_reducible assumption) | assumption); have q221 : x8_2 < (l0.length : Int) := of_decide_eq_true (by first | (with_reducible assumption) | assumption); obtain ⟨ad221, e221, hx221_0⟩ := Kd.at_int HR0.out x8_2 p221 q221; cases e221; replace hx221_0 := (HB.out.cell (World.block_lt_of_cell? w _ hx221_0)).trans hx221_0; replace p221 := eq_true p221; replace q221 := eq_true q221) | ((with_reducible refine gate_callee (f := 113) rfl ?_); refine goesL_ (some 61) rfl rfl Try.func113 (by kernel_rfl) rfl #[.int .i64 (wrap64 (x10_3 + (rd l0 x8_2))), .int .i64 (wrap64 (2 * x5_1))] rfl (by (try simp only [List.map_toArray, List.map_cons, List.map_nil]); first | done | rfl | (simp only [List.length_drop, List.length_take]; rfl)) ?_; (with_reducible refine (spec_l1Least.calls (wrap64 (x10_3 + (rd l0 x8_2))) (wrap64 (2 * x5_1)) t222 _ A29.out).mono ?_); rintro e w' ⟨rfl, ⟨nd, rfl⟩⟩; refine ⟨_, rfl, ?_⟩; (try (rw [drewN_self w39]; generalize hq_ : World.drewN w39 _ = w39; have n0_ : Aside0 (Kd.R Kd.bool 4 w39 w.heap.size (fun k_ => some k_ ≠ (.slice (some ⟨go26, 0, none⟩) x9_3.length co26 : Value).ownBlock) (.slice (some ad219) x7_2.length co18) x7_2) := ⟨by rw [← hq_]; exact (by (with_reducible repeat (first | apply Kd.R_alloc | apply Kd.R_drewN | apply Kd.R_drew)); exact Kd.R_mono HO_7.out (fun _ hk => hk.2))⟩; have n1_ : Aside0 (Kd.R Kd.bool 4 w39 w.heap.size (fun k_ => some k_ ≠ (.slice (some ad219) x7_2.length co18 : Value).ownBlock) (.slice (some ⟨go26, 0, none⟩) x9_3.length co26) y220) := ⟨by rw [← hq_]; exact (Sq.R HO_9)⟩; have n2_ : Aside0 (Below w.heap.size w w39) := ⟨by rw [← hq_]; exact (Sq.B HB)⟩; clear HO_7 HO_9 HB hq_; have HO_7 := n0_; have HO_9 := n1_; have HB := n2_; clear n0_ n1_ n2_)); have p32 : 0 ≤ (t222 : Int) := of_decide_eq_true (by first | (with_reducible assumption) | assumption); have q32 : (t222 : Int) < ((x9_3.length : Int) : Int) := of_decide_eq_true (by first | (with_reducible assumption) | assumption); obtain ⟨hx32_0, hf32_0⟩ := Kd.R_celln false HO_9.out (t222 : Int) p32 q32; replace p32 := eq_true p32; replace q32 := eq_true q32; obtain ⟨hy40_, hz40_⟩ := Kd.R_celln false HO_9.out (t222 : Int) (of_decide_eq_true (by first | (with_reducible assumption) | assumption)) (of_decide_eq_true (by first | (with_reducible assumption) | assumption)); have HP40 := Kd.R_putg HO_9.out (t222 : Int) true) | ((with_reducible refine gate_store (t := 4) (p := 62) rfl ?_); refine store_event (t := 4) (p := 62) (v := ?vo_w41) (w1 := (w39.setCell ⟨go26, (t222 : Int).toNat, none⟩ (.bool true))) ?hg ?ho ?hn ?hr ?_; (case ho => rfl); (case hg => rfl); (case hn => rfl); (case hr => first | (go_simp; done) | (go_simp; rfl)); intro w41 hw; have hg : w39.grownBy w41 (some go26) := (by rw [hw]; exact HP40.2); have hp_ : Kd.R Kd.bool 4 w41 w.heap.size (fun k_ => some k_ ≠ (.slice (some ad219) x7_2.length co18 : Value).ownBlock) (.slice (some ⟨go26, 0, none⟩) x9_3.length co26) y223 := (by rw [hw, Ny223.out]; exact HP40.1); clear HP40; have n0_ := Aside0.mk (Kd.R_after (v := (.slice (some ⟨go26, 0, none⟩) x9_3.length co26)) (v1 := (.slice (some ⟨go26, 0, none⟩) x9_3.length co26)) (ok := (fun _ => True)) (by (with_reducible repeat (first | apply Kd.R_alloc | apply Kd.R_drewN | apply Kd.R_drew)); first | exact HO_7.out | exact Kd.R_mono HO_7.out (fun _ hk => ⟨trivial, hk⟩)) hg (.inl rfl)); have n1_ := Aside0.mk (hp_); have n2_ := Aside0.mk ((by rw [hw]; exact below_set (HB.out) GB26.out : Below w.heap.size w w41)); replace HO_7 := n0_; replace HO_9 := n1_; replace HB := n2_; clear n0_ n1_ n2_; clear hg hw hp_; have p224 : 0 ≤ (x8_2 : Int) := of_decide_eq_true (by first | (with_reducible assumption) | assumption); have q224 : x8_2 < (l0.length : Int) := of_decide_eq_true (by first | (with_reducible assumption) | assumption); obtain ⟨ad224, e224, hx224_0⟩ := Kd.at_int HR0.out x8_2 p224 q224; obtain rfl : ad221 = ad224 := (by injection e224); replace hx224_0 := (HB.out.cell (World.block_lt_of_cell? w _ hx224_0)).trans hx224_0; replace p224 := eq_true p224; replace q224 := eq_true q224) | ((with_reducible refine gate_callee (f := 75) rfl ?_); refine goesL_ (some 71) rfl rfl Try.func75 (by kernel_rfl) rfl #[.int .i64 (wrap64 (x10_3 - (rd l0 x8_2))), .int .i64 0] rfl (by (try simp only [List.map_toArray, List.map_cons, List.map_nil]); first | done | rfl | (simp only [List.length_drop, List.length_take]; rfl)) ?_; (with_reducible refine (spec_l1Most.calls (wrap64 (x10_3 - (rd l0 x8_2))) 0 t225 _ A34.out).mono ?_); rintro e w' ⟨rfl, ⟨nd, rfl⟩⟩; refine ⟨_, rfl, ?_⟩; (try (rw [drewN_self w41]; generalize hq_ : World.drewN w41 _ = w41; have n0_ : Aside0 (Kd.R Kd.bool 4 w41 w.heap.size (fun k_ => some k_ ≠ (.slice (some ⟨go26, 0, none⟩) x9_3.length co26 : Value).ownBlock) (.slice (some ad219) x7_2.length co18) x7_2) := ⟨by rw [← hq_]; exact (by (with_reducible repeat (first | apply Kd.R_alloc | apply Kd.R_drewN | apply Kd.R_drew)); exact Kd.R_mono HO_7.out (fun _ hk => hk.2))⟩; have n1_ : Aside0 (Kd.R Kd.bool 4 w41 w.heap.size (fun k_ => some k_ ≠ (.slice (some ad219) x7_2.length co18 : Value).ownBlock) (.slice (some ⟨go26, 0, none⟩) x9_3.length co26) y223) := ⟨by rw [← hq_]; exact (Sq.R HO_9)⟩; have n2_ : Aside0 (Below w.heap.size w w41) := ⟨by rw [← hq_]; exact (Sq.B HB)⟩; clear HO_7 HO_9 HB hq_; have HO_7 := n0_; have HO_9 := n1_; have HB := n2_; clear n0_ n1_ n2_)); have p37 : 0 ≤ (t225 : Int) := of_decide_eq_true (by first | (with_reducible assumption) | assumption); have q37 : (t225 : Int) < ((x9_3.length : Int) : Int) := of_decide_eq_true (by first | (with_reducible assumption) | assumption); obtain ⟨hx37_0, hf37_0⟩ := Kd.R_celln false HO_9.out (t225 : Int) p37 q37; replace p37 := eq_true p37; replace q37 := eq_true q37; obtain ⟨hy42_, hz42_⟩ := Kd.R_celln false HO_9.out (t225 : Int) (of_decide_eq_true (by first | (with_reducible assumption) | assumption)) (of_decide_eq_true (by first | (with_reducible assumption) | assumption)); have HP42 := Kd.R_putg HO_9.out (t225 : Int) true) | ((with_reducible refine gate_store (t := 4) (p := 72) rfl ?_); refine store_event (t := 4) (p := 72) (v := ?vo_w43) (w1 := (w41.setCell ⟨go26, (t225 : Int).toNat, none⟩ (.bool true))) ?hg ?ho ?hn ?hr ?_; (case ho => rfl); (case hg => rfl); (case hn => rfl); (case hr => first | (go_simp; done) | (go_simp; rfl)); intro w43 hw; have hg : w41.grownBy w43 (some go26) := (by rw [hw]; exact HP42.2); have hp_ : Kd.R Kd.bool 4 w43 w.heap.size (fun k_ => some k_ ≠ (.slice (some ad219) x7_2.length co18 : Value).ownBlock) (.slice (some ⟨go26, 0, none⟩) x9_3.length co26) y226 := (by rw [hw, Ny226.out]; exact HP42.1); clear HP42; have n0_ := Aside0.mk (Kd.R_after (v := (.slice (some ⟨go26, 0, none⟩) x9_3.length co26)) (v1 := (.slice (some ⟨go26, 0, none⟩) x9_3.length co26)) (ok := (fun _ => True)) (by (with_reducible repeat (first | apply Kd.R_alloc | apply Kd.R_drewN | apply Kd.R_drew)); first | exact HO_7.out | exact Kd.R_mono HO_7.out (fun _ hk => ⟨trivial, hk⟩)) hg (.inl rfl)); have n1_ := Aside0.mk (hp_); have n2_ := Aside0.mk ((by rw [hw]; exact below_set (HB.out) GB26.out : Below w.heap.size w w43)); replace HO_7 := n0_; replace HO_9 := n1_; replace HB := n2_; clear n0_ n1_ n2_; clear hg hw hp_))
                                                    go_roundg k3
                                                    case measure => have := HK1.out; have := HK2.out; have := HK3.out; omega
                                                    case rel => exact ⟨(y226), (wrap64 (x10_3 + 1)), (by first | rfl | (simp; done) | (simp [*]; done)), H', ⟨by have := HK1.out; have := HK2.out; have := HK3.out; omega⟩, ⟨Kd.R_mono (Sq.R HO_7) (fun _ hk => hk.2)⟩, ⟨by (with_reducible repeat (first | apply Kd.R_alloc | apply Kd.R_drewN | apply Kd.R_drew)); exact HO_9.out⟩, ⟨Sq.B HB⟩⟩
                                                  · rw [if_neg c36] at H
                                                    exact absurd H (by simp)
                                                · rw [if_neg c35] at H
                                                  exact absurd H (by simp)
                                              · replace c33 := Bool.eq_false_iff.mpr c33
                                                subst c33
                                                rw [if_neg (show ¬ (false = true) by decide)] at H
                                                have H' := Aside0.mk H
                                                clear H
                                                have p219 : 0 ≤ (x10_3 : Int) := of_decide_eq_true (by first | (with_reducible assumption) | assumption)
                                                have q219 : x10_3 < (x7_2.length : Int) := of_decide_eq_true (by first | (with_reducible assumption) | assumption)
                                                obtain ⟨ad219, e219, hx219_0⟩ := Kd.at_bool (Kd.R_reads' HO_7.out).2.2 x10_3 p219 q219
                                                (try rw [← Nbq23.out] at hx219_0)
                                                cases e219
                                                replace p219 := eq_true p219
                                                replace q219 := eq_true q219
                                                have p26 : 0 ≤ (x10_3 : Int) := of_decide_eq_true (by first | (with_reducible assumption) | assumption)
                                                have q26 : (x10_3 : Int) < ((x9_3.length : Int) : Int) := of_decide_eq_true (by first | (with_reducible assumption) | assumption)
                                                obtain ⟨go26, co26, eo26, gb26, gl26, cl26, HG26⟩ := Kd.R_form HO_9.out (by omega)
                                                (first | cases eo26 | (injection eo26 with ea_ en_ ec_; (first | subst ea_ | (injection ea_ with ea_; subst ea_)); subst ec_; clear en_))
                                                have GB26 := Aside0.mk gb26
                                                have GG26 := Aside0.mk HG26
                                                clear gb26 gl26 HG26
                                                obtain ⟨hx26_0, hf26_0⟩ := Kd.R_celln false HO_9.out (x10_3 : Int) p26 q26
                                                replace p26 := eq_true p26
                                                replace q26 := eq_true q26
                                                have HP44 := Kd.R_putg HO_9.out (x10_3 : Int) true
                                                go_wp2_with (first | ((with_reducible refine gate_store (t := 4) (p := 51) rfl ?_); refine store_event (t := 4) (p := 51) (v := ?vo_w45) (w1 := (wr.setCell ⟨go26, (x10_3 : Int).toNat, none⟩ (.bool true))) ?hg ?ho ?hn ?hr ?_; (case ho => rfl); (case hg => rfl); (case hn => rfl); (case hr => first | (go_simp; done) | (go_simp; rfl)); intro w45 hw; have hg : wr.grownBy w45 (some go26) := (by rw [hw]; exact HP44.2); have hp_ : Kd.R Kd.bool 4 w45 w.heap.size (fun k_ => some k_ ≠ (.slice (some ad219) x7_2.length co18 : Value).ownBlock) (.slice (some ⟨go26, 0, none⟩) x9_3.length co26) y220 := (by rw [hw, Ny220.out]; exact HP44.1); clear HP44; have n0_ := Aside0.mk (Kd.R_after (v := (.slice (some ⟨go26, 0, none⟩) x9_3.length co26)) (v1 := (.slice (some ⟨go26, 0, none⟩) x9_3.length co26)) (ok := (fun _ => True)) (by (with_reducible repeat (first | apply Kd.R_alloc | apply Kd.R_drewN | apply Kd.R_drew)); exact Kd.R_mono HO_7.out (fun _ hk => ⟨trivial, hk⟩)) hg (.inl rfl)); have n1_ := Aside0.mk (hp_); have n2_ := Aside0.mk ((by rw [hw]; exact below_set (HB.out) GB26.out : Below w.heap.size w w45)); replace HO_7 := n0_; replace HO_9 := n1_; replace HB := n2_; clear n0_ n1_ n2_; clear hg hw hp_; have p221 : 0 ≤ (x8_2 : Int) := of_decide_eq_true (by first | (with_reducible assumption) | assumption); have q221 : x8_2 < (l0.length : Int) := of_decide_eq_true (by first | (with_reducible assumption) | assumption); obtain ⟨ad221, e221, hx221_0⟩ := Kd.at_int HR0.out x8_2 p221 q221; cases e221; replace hx221_0 := (HB.out.cell (World.block_lt_of_cell? w _ hx221_0)).trans hx221_0; replace p221 := eq_true p221; replace q221 := eq_true q221) | ((with_reducible refine gate_callee (f := 113) rfl ?_); refine goesL_ (some 61) rfl rfl Try.func113 (by kernel_rfl) rfl #[.int .i64 (wrap64 (x10_3 + (rd l0 x8_2))), .int .i64 (wrap64 (2 * x5_1))] rfl (by (try simp only [List.map_toArray, List.map_cons, List.map_nil]); first | done | rfl | (simp only [List.length_drop, List.length_take]; rfl)) ?_; (with_reducible refine (spec_l1Least.calls (wrap64 (x10_3 + (rd l0 x8_2))) (wrap64 (2 * x5_1)) t222 _ A29.out).mono ?_); rintro e w' ⟨rfl, ⟨nd, rfl⟩⟩; refine ⟨_, rfl, ?_⟩; (try (rw [drewN_self w45]; generalize hq_ : World.drewN w45 _ = w45; have n0_ : Aside0 (Kd.R Kd.bool 4 w45 w.heap.size (fun k_ => some k_ ≠ (.slice (some ⟨go26, 0, none⟩) x9_3.length co26 : Value).ownBlock) (.slice (some ad219) x7_2.length co18) x7_2) := ⟨by rw [← hq_]; exact (by (with_reducible repeat (first | apply Kd.R_alloc | apply Kd.R_drewN | apply Kd.R_drew)); exact Kd.R_mono HO_7.out (fun _ hk => hk.2))⟩; have n1_ : Aside0 (Kd.R Kd.bool 4 w45 w.heap.size (fun k_ => some k_ ≠ (.slice (some ad219) x7_2.length co18 : Value).ownBlock) (.slice (some ⟨go26, 0, none⟩) x9_3.length co26) y220) := ⟨by rw [← hq_]; exact (Sq.R HO_9)⟩; have n2_ : Aside0 (Below w.heap.size w w45) := ⟨by rw [← hq_]; exact (Sq.B HB)⟩; clear HO_7 HO_9 HB hq_; have HO_7 := n0_; have HO_9 := n1_; have HB := n2_; clear n0_ n1_ n2_)); have p32 : 0 ≤ (t222 : Int) := of_decide_eq_true (by first | (with_reducible assumption) | assumption); have q32 : (t222 : Int) < ((x9_3.length : Int) : Int) := of_decide_eq_true (by first | (with_reducible assumption) | assumption); obtain ⟨hx32_0, hf32_0⟩ := Kd.R_celln false HO_9.out (t222 : Int) p32 q32; replace p32 := eq_true p32; replace q32 := eq_true q32; obtain ⟨hy46_, hz46_⟩ := Kd.R_celln false HO_9.out (t222 : Int) (of_decide_eq_true (by first | (with_reducible assumption) | assumption)) (of_decide_eq_true (by first | (with_reducible assumption) | assumption)); have HP46 := Kd.R_putg HO_9.out (t222 : Int) true) | ((with_reducible refine gate_store (t := 4) (p := 62) rfl ?_); refine store_event (t := 4) (p := 62) (v := ?vo_w47) (w1 := (w45.setCell ⟨go26, (t222 : Int).toNat, none⟩ (.bool true))) ?hg ?ho ?hn ?hr ?_; (case ho => rfl); (case hg => rfl); (case hn => rfl); (case hr => first | (go_simp; done) | (go_simp; rfl)); intro w47 hw; have hg : w45.grownBy w47 (some go26) := (by rw [hw]; exact HP46.2); have hp_ : Kd.R Kd.bool 4 w47 w.heap.size (fun k_ => some k_ ≠ (.slice (some ad219) x7_2.length co18 : Value).ownBlock) (.slice (some ⟨go26, 0, none⟩) x9_3.length co26) y223 := (by rw [hw, Ny223.out]; exact HP46.1); clear HP46; have n0_ := Aside0.mk (Kd.R_after (v := (.slice (some ⟨go26, 0, none⟩) x9_3.length co26)) (v1 := (.slice (some ⟨go26, 0, none⟩) x9_3.length co26)) (ok := (fun _ => True)) (by (with_reducible repeat (first | apply Kd.R_alloc | apply Kd.R_drewN | apply Kd.R_drew)); first | exact HO_7.out | exact Kd.R_mono HO_7.out (fun _ hk => ⟨trivial, hk⟩)) hg (.inl rfl)); have n1_ := Aside0.mk (hp_); have n2_ := Aside0.mk ((by rw [hw]; exact below_set (HB.out) GB26.out : Below w.heap.size w w47)); replace HO_7 := n0_; replace HO_9 := n1_; replace HB := n2_; clear n0_ n1_ n2_; clear hg hw hp_))
                                                go_roundg k3
                                                case measure => have := HK1.out; have := HK2.out; have := HK3.out; omega
                                                case rel => exact ⟨(y223), (wrap64 (x10_3 + 1)), (by first | rfl | (simp; done) | (simp [*]; done)), H', ⟨by have := HK1.out; have := HK2.out; have := HK3.out; omega⟩, ⟨Kd.R_mono (Sq.R HO_7) (fun _ hk => hk.2)⟩, ⟨by (with_reducible repeat (first | apply Kd.R_alloc | apply Kd.R_drewN | apply Kd.R_drew)); exact HO_9.out⟩, ⟨Sq.B HB⟩⟩
                                            · rw [if_neg c31] at H
                                              exact absurd H (by simp)
                                          · rw [if_neg c30] at H
                                            exact absurd H (by simp)
                                        · rw [if_neg c28] at H
                                          exact absurd H (by simp)
                                      · rw [if_neg c27] at H
                                        exact absurd H (by simp)
                                    · rw [if_neg c25] at H
                                      exact absurd H (by simp)
                                  · replace c24 := Bool.eq_false_iff.mpr c24
                                    subst c24
                                    rw [if_neg (show ¬ (false = true) by decide)] at H
                                    have H' := Aside0.mk H
                                    clear H
                                    have p219 : 0 ≤ (x10_3 : Int) := of_decide_eq_true (by first | (with_reducible assumption) | assumption)
                                    have q219 : x10_3 < (x7_2.length : Int) := of_decide_eq_true (by first | (with_reducible assumption) | assumption)
                                    obtain ⟨ad219, e219, hx219_0⟩ := Kd.at_bool (Kd.R_reads' HO_7.out).2.2 x10_3 p219 q219
                                    (try rw [← Nbq23.out] at hx219_0)
                                    cases e219
                                    replace p219 := eq_true p219
                                    replace q219 := eq_true q219
                                    go_wp2
                                    go_roundg k3
                                    case measure => have := HK1.out; have := HK2.out; have := HK3.out; omega
                                    case rel => exact ⟨(x9_3), (wrap64 (x10_3 + 1)), (by first | rfl | (simp; done) | (simp [*]; done)), H', ⟨by have := HK1.out; have := HK2.out; have := HK3.out; omega⟩, ⟨by (with_reducible repeat (first | apply Kd.R_alloc | apply Kd.R_drewN | apply Kd.R_drew)); exact HO_7.out⟩, ⟨by (with_reducible repeat (first | apply Kd.R_alloc | apply Kd.R_drewN | apply Kd.R_drew)); exact HO_9.out⟩, ⟨Sq.B HB⟩⟩
                                · rw [if_neg c22] at H
                                  exact absurd H (by simp)
                              · rw [if_neg c21] at H
                                have c21b0 : decide (x10_3 < (x7_2.length : Int)) = false := decide_eq_false c21
                                clear c21
                                have H' := Aside0.mk H
                                clear H
                                go_wp2
                                go_roundg k3
                                case measure => have := HK1.out; have := HK2.out; have := HK3.out; omega
                                case rel => exact ⟨(x9_3), (wrap64 (x8_2 + 1)), (by first | rfl | (simp; done) | (simp [*]; done)), H', ⟨by have := HK1.out; have := HK2.out; have := HK3.out; omega⟩, ⟨Kd.R_mono (Sq.R HO_9) (fun _ hk => trivial)⟩, ⟨Sq.B HB⟩⟩
                        · rw [if_neg c17] at H
                          exact absurd H (by simp)
                      · rw [if_neg c16] at H
                        exact absurd H (by simp)
                    · rw [if_neg c15] at H
                      have c15b0 : decide (x8_2 < (l0.length : Int)) = false := decide_eq_false c15
                      clear c15
                      by_cases c48 : 0 ≤ x5_1
                      · rw [if_pos c48] at H
                        have c48b0 := eq_true c48
                        have c48b1 : decide (0 ≤ x5_1) = true := decide_eq_true c48
                        clear c48
                        by_cases c49 : x5_1 ≤ (x7_2.length : Int)
                        · rw [if_pos c49] at H
                          have c49b0 := eq_true c49
                          have c49b1 : decide (x5_1 ≤ (x7_2.length : Int)) = true := decide_eq_true c49
                          clear c49
                          obtain ⟨y213, hy213⟩ : ∃ y_ : List Bool, y_ = (x7_2.drop (x5_1 : Int).toNat) := ⟨_, rfl⟩
                          replace H : (some y213) = some r := by first | (rw [hy213]; with_reducible exact H) | (have H2_ := (Option.bind_some _ _).symm.trans H; rw [hy213]; with_reducible exact H2_) | (have H2_ := (Option.bind_some _ _).symm.trans H; with_reducible exact H2_) | with_reducible exact H | (rw [hy213]; exact H) | exact H
                          have Ny213 := Aside0.mk hy213
                          clear hy213
                          obtain rfl := Option.some.inj H
                          obtain ⟨Ao50, co50, rfl⟩ := Kd.R_slice HO_7.out
                          have q51 : (x5_1 : Int) ≤ ((x7_2.length : Int) : Int) := of_decide_eq_true (by first | (with_reducible assumption) | assumption)
                          obtain ⟨i051, hi051, _, hsz51, _⟩ := info_parts info4
                          have hcut51 := cut_from (P := Try.prog) 92 4 .i64 Try.underlying92 hi051 1 hsz51 Ao50 x7_2.length co50 x5_1 (of_decide_eq_true (by first | (with_reducible assumption) | assumption)) q51
                          have hr51 := Kd.Q_drop (k := (x5_1 : Int).toNat) (Kd.Q_of_R HO_7.out) (by omega)
                          obtain ⟨A51, hA51⟩ : ∃ A1, A1 = (if co50 = (x5_1 : Int).toNat then Ao50 else (Ao50 : Option Addr).map (·.add ((x5_1 : Int).toNat * 1))) := ⟨_, rfl⟩
                          obtain ⟨c51, hc51⟩ : ∃ c1, c1 = co50 - (x5_1 : Int).toNat := ⟨_, rfl⟩
                          have hy51 : y213.length = x7_2.length - (x5_1 : Int).toNat := (by rw [Ny213.out, List.length_drop])
                          rw [← Ny213.out] at hr51
                          rw [← hy51, ← hA51, ← hc51] at hcut51
                          replace hr51 : Kd.Q Kd.bool 4 wr w.heap.size (fun _ => True) (.slice A51 y213.length c51) y213 := (by rw [hA51, hc51, hy51]; exact hr51)
                          have HE51 : Aside0 ((Value.slice A51 y213.length c51).ownBlock = (.slice Ao50 x7_2.length co50 : Value).ownBlock) := ⟨by rw [hA51]; split <;> (cases (Ao50 : Option Addr) <;> first | rfl | simp [Value.ownBlock, add_block])⟩
                          clear hy51 hi051 hsz51 HO_7 hA51 hc51
                          have HO215 := Aside0.mk hr51
                          clear hr51
                          replace q51 := eq_true q51
                          go_wp2
                          go_ret
                          exact ⟨_, by first | rfl | (simp [errW_none, errW_some] <;> rfl) | (simp only [← hji5]; first | rfl | (simp [errW_none, errW_some] <;> rfl)) | (simp [*, errW_none, errW_some] <;> rfl), by (with_reducible repeat (first | apply Kd.Q_alloc | apply Kd.Q_drewN | apply Kd.Q_drew)); exact HO215.out, Sq.B HB⟩
                        · rw [if_neg c49] at H
                          exact absurd H (by simp)
                      · rw [if_neg c48] at H
                        exact absurd H (by simp)
              · rw [if_neg c9] at H
                exact absurd H (by simp)
            · rw [if_neg c8] at H
              exact absurd H (by simp)
          · rw [if_neg c7] at H
            exact absurd H (by simp)
        · rw [if_neg c6] at H
          exact absurd H (by simp)

/-! ### spec_WeighOne: function 32 -/
def spec_WeighOne.f (k : Nat) (l0 : List Int) : Option (List Int × Bool) := (spec_l3Kit.f k l0).bind fun t227 => (if t227 = true then ((spec_l3Sums.f k l0 false).bind fun t228 => ((spec_l3Told.f k t228).bind fun t231 => (some (t231, true)))) else (some ((([] : List Int)), false)))
theorem spec_WeighOne.mono : ∀ a0 k, LeO (spec_WeighOne.f k a0) (spec_WeighOne.f (k + 1) a0) := by
  intro a0 k
  unfold spec_WeighOne.f
  repeat' first
      | (with_reducible exact spec_l3Kit.mono _ _)
      | (with_reducible exact spec_l3Sums.mono _ _ _)
      | (with_reducible exact spec_l3Told.mono _ _)
      | (with_reducible exact LeO.refl _)
      | (with_reducible exact LeO.none _)
      | (with_reducible refine LeO.ite ?_ ?_)
      | (with_reducible refine LeO.bind ?_ (fun _ => ?_))
      | exact spec_l3Kit.mono _ _
      | exact spec_l3Sums.mono _ _ _
      | exact spec_l3Told.mono _ _
      | exact LeO.none _
      | refine LeO.ite ?_ ?_
      | refine LeO.bind ?_ (fun _ => ?_)
set_option maxHeartbeats 8000000 in
set_option maxRecDepth 100000 in
theorem spec_WeighOne.calls (k : Nat) (A0 : Option Addr) (c0 : Nat) (l0 : List Int) (r1 : List Int) (r2 : Bool) (w : World) (hr0 : Kd.C (Kd.int .i64) w A0 l0.length l0) (hc0 : l0.length ≤ c0) (h : spec_WeighOne.f k l0 = some (r1, r2)) :
    Calls Try.prog 32 #[.slice A0 l0.length c0] w fun e w' => ∃ v0_ : Value, e = .returned (.tuple #[v0_, .bool r2]) ∧ Kd.R (Kd.int .i64) 3 w' w.heap.size (fun _ => True) v0_ r1 ∧ Below w.heap.size w w' := by
  have HR0 := Aside0.mk hr0
  have HC0 := Aside0.mk hc0
  clear hr0 hc0
  have HB := Aside0.mk (Below.refl w.heap.size w)
  have H : ((spec_l3Kit.f k l0).bind fun t227 => (if t227 = true then ((spec_l3Sums.f k l0 false).bind fun t228 => ((spec_l3Told.f k t228).bind fun t231 => (some (t231, true)))) else (some ((([] : List Int)), false)))) = some (r1, r2) := h
  clear h
  replace H := Option.bind_eq_some_iff.mp H
  obtain ⟨t227, A20, H⟩ := H
  try dsimp only at H
  have A2 := Aside0.mk A20
  clear A20
  by_cases c3 : t227 = true
  · subst c3
    rw [if_pos rfl] at H
    replace H := Option.bind_eq_some_iff.mp H
    obtain ⟨t228, A40, H⟩ := H
    try dsimp only at H
    have A4 := Aside0.mk A40
    clear A40
    replace H := Option.bind_eq_some_iff.mp H
    obtain ⟨t231, A50, H⟩ := H
    try dsimp only at H
    have A5 := Aside0.mk A50
    clear A50
    simp only [Option.some.injEq, Prod.mk.injEq] at H
    obtain ⟨rfl, rfl⟩ := H
    go_enter Try.func32, Try.ntmps32
    go_wp2_with (first | ((with_reducible refine gate_callee (f := 90) rfl ?_); refine goesL_ (some 5) rfl rfl Try.func90 (by kernel_rfl) rfl #[.slice A0 l0.length c0] rfl (by (try simp only [List.map_toArray, List.map_cons, List.map_nil]); first | done | rfl | (simp only [List.length_drop, List.length_take]; rfl)) ?_; (with_reducible refine (spec_l3Kit.calls k _ _ l0 true _ (Sq.C (HR0.out)) HC0.out A2.out).mono ?_); rintro e w' ⟨rfl, ⟨nd, rfl⟩⟩; refine ⟨_, rfl, ?_⟩) | ((with_reducible refine gate_callee (f := 94) rfl ?_); refine goesL_ (some 9) rfl rfl Try.func94 (by kernel_rfl) rfl #[.slice A0 l0.length c0, .bool false] rfl (by (try simp only [List.map_toArray, List.map_cons, List.map_nil]); first | done | rfl | (simp only [List.length_drop, List.length_take]; rfl)) ?_; (with_reducible refine (spec_l3Sums.calls k _ _ l0 false t228 _ (Sq.C (HR0.out)) HC0.out A4.out).mono ?_); rintro e w6 ⟨v229, rfl, ho0, hb⟩; refine ⟨_, rfl, ?_⟩; have HO230 := Aside0.mk (Kd.Q_lower ho0 (below_size (Sq.B HB))); replace HB := Sq.S HB hb; clear hb ho0; obtain ⟨Ao7, co7, eo7, _⟩ := Kd.Q_slice HO230.out; subst eo7) | ((with_reducible refine gate_callee (f := 93) rfl ?_); refine goesL_ (some 10) rfl rfl Try.func93 (by kernel_rfl) rfl #[.slice Ao7 t228.length co7] rfl (by (try simp only [List.map_toArray, List.map_cons, List.map_nil]); first | done | rfl | (simp only [List.length_drop, List.length_take]; rfl)) ?_; (with_reducible refine (spec_l3Told.calls k _ _ t228 t231 _ (Sq.C ((Kd.Q_reads' HO230.out).2.2)) ((Kd.Q_reads' HO230.out).2.1) A5.out).mono ?_); rintro e w8 ⟨v232, rfl, ho0, hb⟩; refine ⟨_, rfl, ?_⟩; have HO233 := Sq.L ho0 HB; replace HO230 := Aside0.mk (Kd.Q_below (by (with_reducible repeat (first | apply Kd.Q_alloc | apply Kd.Q_drewN | apply Kd.Q_drew)); exact HO230.out) hb); replace HB := Sq.S HB hb; clear hb ho0))
    go_ret2
    exact ⟨_, by first | rfl | (simp [errW_none, errW_some] <;> rfl) | (simp [*, errW_none, errW_some] <;> rfl), by (with_reducible repeat (first | apply Kd.R_alloc | apply Kd.R_drewN | apply Kd.R_drew)); exact HO233.out, Sq.B HB⟩
  · replace c3 := Bool.eq_false_iff.mpr c3
    subst c3
    rw [if_neg (show ¬ (false = true) by decide)] at H
    obtain ⟨y234, hy234⟩ : ∃ y_ : List Int, y_ = (([] : List Int)) := ⟨_, rfl⟩
    replace H : (some (y234, false)) = some (r1, r2) := by first | (rw [hy234]; with_reducible exact H) | (have H2_ := (Option.bind_some _ _).symm.trans H; rw [hy234]; with_reducible exact H2_) | (have H2_ := (Option.bind_some _ _).symm.trans H; with_reducible exact H2_) | with_reducible exact H | (rw [hy234]; exact H) | exact H
    have Ny234 := Aside0.mk hy234
    clear hy234
    simp only [Option.some.injEq, Prod.mk.injEq] at H
    obtain ⟨rfl, rfl⟩ := H
    go_enter Try.func32, Try.ntmps32
    go_wp2_with (first | ((with_reducible refine gate_callee (f := 90) rfl ?_); refine goesL_ (some 5) rfl rfl Try.func90 (by kernel_rfl) rfl #[.slice A0 l0.length c0] rfl (by (try simp only [List.map_toArray, List.map_cons, List.map_nil]); first | done | rfl | (simp only [List.length_drop, List.length_take]; rfl)) ?_; (with_reducible refine (spec_l3Kit.calls k _ _ l0 false _ (Sq.C (HR0.out)) HC0.out A2.out).mono ?_); rintro e w' ⟨rfl, ⟨nd, rfl⟩⟩; refine ⟨_, rfl, ?_⟩) | ((with_reducible refine gate_dst (N := 7) rfl ?_); refine Kd.R_lit (Kd.int .i64) _ 3 ?hg (N := 7) ?hd (xs := ([] : List Int)) (inner := []) (ok := fun _ => True) (okp := fun _ => True) ?hr ?hp (fun _ hk => hk) trivial (Below.refl _ _) (Nat.le_refl _) (by simp) ?_; (case hd => rfl); (case hg => rfl); (case hr => first | (go_simp; done) | (go_simp; rfl)); (case hp => exact (Reps.none _ _)); intro v235 w9 ho10 hb hg_ hnew_; clear hg_ hnew_; (first | rw [← Ny234.out] at ho10 | (simp only [Int.reduceToNat] at ho10; rw [← Ny234.out] at ho10)); have n0_ := Sq.L ho10 HB; have n1_ := Sq.S HB hb; have HO236 := n0_; replace HB := n1_; clear n0_ n1_; clear hb ho10))
    go_ret2
    exact ⟨_, by first | rfl | (simp [errW_none, errW_some] <;> rfl) | (simp [*, errW_none, errW_some] <;> rfl), by (with_reducible repeat (first | apply Kd.R_alloc | apply Kd.R_drewN | apply Kd.R_drew)); exact HO236.out, Sq.B HB⟩

/-! ### impl_WeighTwo: function 33 -/
def impl_WeighTwo.f (k : Nat) (l0 : List Int) : Option (List Int × Bool) := (impl_IsKit.f k l0).bind fun t237 => (if t237 = true then ((impl_weighed.f l0 (-1)).bind fun t238 => (some (t238, true))) else (some (([] : List Int), false)))
theorem impl_WeighTwo.mono : ∀ a0 k, LeO (impl_WeighTwo.f k a0) (impl_WeighTwo.f (k + 1) a0) := by
  intro a0 k
  unfold impl_WeighTwo.f
  repeat' first
      | (with_reducible exact impl_IsKit.mono _ _)
      | (with_reducible exact LeO.refl _)
      | (with_reducible exact LeO.none _)
      | (with_reducible refine LeO.ite ?_ ?_)
      | (with_reducible refine LeO.bind ?_ (fun _ => ?_))
      | exact impl_IsKit.mono _ _
      | exact LeO.none _
      | refine LeO.ite ?_ ?_
      | refine LeO.bind ?_ (fun _ => ?_)
set_option maxHeartbeats 8000000 in
set_option maxRecDepth 100000 in
theorem impl_WeighTwo.calls (k : Nat) (A0 : Option Addr) (c0 : Nat) (l0 : List Int) (r1 : List Int) (r2 : Bool) (w : World) (hr0 : Kd.C (Kd.int .i64) w A0 l0.length l0) (hc0 : l0.length ≤ c0) (h : impl_WeighTwo.f k l0 = some (r1, r2)) :
    Calls Try.prog 33 #[.slice A0 l0.length c0] w fun e w' => ∃ v0_ : Value, e = .returned (.tuple #[v0_, .bool r2]) ∧ Kd.R (Kd.int .i64) 3 w' w.heap.size (fun _ => True) v0_ r1 ∧ Below w.heap.size w w' := by
  have HR0 := Aside0.mk hr0
  have HC0 := Aside0.mk hc0
  clear hr0 hc0
  have HB := Aside0.mk (Below.refl w.heap.size w)
  have H : ((impl_IsKit.f k l0).bind fun t237 => (if t237 = true then ((impl_weighed.f l0 (-1)).bind fun t238 => (some (t238, true))) else (some (([] : List Int), false)))) = some (r1, r2) := h
  clear h
  replace H := Option.bind_eq_some_iff.mp H
  obtain ⟨t237, A20, H⟩ := H
  try dsimp only at H
  have A2 := Aside0.mk A20
  clear A20
  by_cases c3 : t237 = true
  · subst c3
    rw [if_pos rfl] at H
    replace H := Option.bind_eq_some_iff.mp H
    obtain ⟨t238, A40, H⟩ := H
    try dsimp only at H
    have A4 := Aside0.mk A40
    clear A40
    simp only [Option.some.injEq, Prod.mk.injEq] at H
    obtain ⟨rfl, rfl⟩ := H
    go_enter Try.func33, Try.ntmps33
    go_wp2_with (first | ((with_reducible refine gate_callee (f := 47) rfl ?_); refine goesL_ (some 5) rfl rfl Try.func47 (by kernel_rfl) rfl #[.slice A0 l0.length c0] rfl (by (try simp only [List.map_toArray, List.map_cons, List.map_nil]); first | done | rfl | (simp only [List.length_drop, List.length_take]; rfl)) ?_; (with_reducible refine (impl_IsKit.calls k _ _ l0 true _ (Sq.C (HR0.out)) HC0.out A2.out).mono ?_); rintro e w' ⟨rfl, ⟨nd, rfl⟩⟩; refine ⟨_, rfl, ?_⟩) | ((with_reducible refine gate_callee (f := 92) rfl ?_); refine goesL_ (some 8) rfl rfl Try.func92 (by kernel_rfl) rfl #[.slice A0 l0.length c0, .int .i64 (-1)] rfl (by (try simp only [List.map_toArray, List.map_cons, List.map_nil]); first | done | rfl | (simp only [List.length_drop, List.length_take]; rfl)) ?_; (with_reducible refine (impl_weighed.calls _ _ l0 (-1) t238 _ (Sq.C (HR0.out)) HC0.out A4.out).mono ?_); rintro e w5 ⟨v239, rfl, ho0, hb⟩; refine ⟨_, rfl, ?_⟩; have HO240 := Sq.L ho0 HB; replace HB := Sq.S HB hb; clear hb ho0))
    go_ret2
    exact ⟨_, by first | rfl | (simp [errW_none, errW_some] <;> rfl) | (simp [*, errW_none, errW_some] <;> rfl), by (with_reducible repeat (first | apply Kd.R_alloc | apply Kd.R_drewN | apply Kd.R_drew)); exact HO240.out, Sq.B HB⟩
  · replace c3 := Bool.eq_false_iff.mpr c3
    subst c3
    rw [if_neg (show ¬ (false = true) by decide)] at H
    simp only [Option.some.injEq, Prod.mk.injEq] at H
    obtain ⟨rfl, rfl⟩ := H
    go_enter Try.func33, Try.ntmps33
    go_wp2_with (first | ((with_reducible refine gate_callee (f := 47) rfl ?_); refine goesL_ (some 5) rfl rfl Try.func47 (by kernel_rfl) rfl #[.slice A0 l0.length c0] rfl (by (try simp only [List.map_toArray, List.map_cons, List.map_nil]); first | done | rfl | (simp only [List.length_drop, List.length_take]; rfl)) ?_; (with_reducible refine (impl_IsKit.calls k _ _ l0 false _ (Sq.C (HR0.out)) HC0.out A2.out).mono ?_); rintro e w' ⟨rfl, ⟨nd, rfl⟩⟩; refine ⟨_, rfl, ?_⟩))
    go_ret2
    exact ⟨_, by first | rfl | (simp [errW_none, errW_some] <;> rfl) | (simp [*, errW_none, errW_some] <;> rfl), by first | exact Kd.R_nil _ _ _ _ _ | exact Kd.N_nil _ _ _ _ _ | exact Kd.V_nil _ _ _ _ _ | exact Kd.Q_nil _ _ _ _ _ | exact Kd.S_nil _ _ _ _ _, Sq.B HB⟩

/-! ### spec_WeighTwo: function 34 -/
def spec_WeighTwo.f (k : Nat) (l0 : List Int) : Option (List Int × Bool) := (spec_l3Kit.f k l0).bind fun t241 => (if t241 = true then ((spec_l3Sums.f k l0 true).bind fun t242 => ((spec_l3Told.f k t242).bind fun t245 => (some (t245, true)))) else (some ((([] : List Int)), false)))
theorem spec_WeighTwo.mono : ∀ a0 k, LeO (spec_WeighTwo.f k a0) (spec_WeighTwo.f (k + 1) a0) := by
  intro a0 k
  unfold spec_WeighTwo.f
  repeat' first
      | (with_reducible exact spec_l3Kit.mono _ _)
      | (with_reducible exact spec_l3Sums.mono _ _ _)
      | (with_reducible exact spec_l3Told.mono _ _)
      | (with_reducible exact LeO.refl _)
      | (with_reducible exact LeO.none _)
      | (with_reducible refine LeO.ite ?_ ?_)
      | (with_reducible refine LeO.bind ?_ (fun _ => ?_))
      | exact spec_l3Kit.mono _ _
      | exact spec_l3Sums.mono _ _ _
      | exact spec_l3Told.mono _ _
      | exact LeO.none _
      | refine LeO.ite ?_ ?_
      | refine LeO.bind ?_ (fun _ => ?_)
set_option maxHeartbeats 8000000 in
set_option maxRecDepth 100000 in
theorem spec_WeighTwo.calls (k : Nat) (A0 : Option Addr) (c0 : Nat) (l0 : List Int) (r1 : List Int) (r2 : Bool) (w : World) (hr0 : Kd.C (Kd.int .i64) w A0 l0.length l0) (hc0 : l0.length ≤ c0) (h : spec_WeighTwo.f k l0 = some (r1, r2)) :
    Calls Try.prog 34 #[.slice A0 l0.length c0] w fun e w' => ∃ v0_ : Value, e = .returned (.tuple #[v0_, .bool r2]) ∧ Kd.R (Kd.int .i64) 3 w' w.heap.size (fun _ => True) v0_ r1 ∧ Below w.heap.size w w' := by
  have HR0 := Aside0.mk hr0
  have HC0 := Aside0.mk hc0
  clear hr0 hc0
  have HB := Aside0.mk (Below.refl w.heap.size w)
  have H : ((spec_l3Kit.f k l0).bind fun t241 => (if t241 = true then ((spec_l3Sums.f k l0 true).bind fun t242 => ((spec_l3Told.f k t242).bind fun t245 => (some (t245, true)))) else (some ((([] : List Int)), false)))) = some (r1, r2) := h
  clear h
  replace H := Option.bind_eq_some_iff.mp H
  obtain ⟨t241, A20, H⟩ := H
  try dsimp only at H
  have A2 := Aside0.mk A20
  clear A20
  by_cases c3 : t241 = true
  · subst c3
    rw [if_pos rfl] at H
    replace H := Option.bind_eq_some_iff.mp H
    obtain ⟨t242, A40, H⟩ := H
    try dsimp only at H
    have A4 := Aside0.mk A40
    clear A40
    replace H := Option.bind_eq_some_iff.mp H
    obtain ⟨t245, A50, H⟩ := H
    try dsimp only at H
    have A5 := Aside0.mk A50
    clear A50
    simp only [Option.some.injEq, Prod.mk.injEq] at H
    obtain ⟨rfl, rfl⟩ := H
    go_enter Try.func34, Try.ntmps34
    go_wp2_with (first | ((with_reducible refine gate_callee (f := 90) rfl ?_); refine goesL_ (some 5) rfl rfl Try.func90 (by kernel_rfl) rfl #[.slice A0 l0.length c0] rfl (by (try simp only [List.map_toArray, List.map_cons, List.map_nil]); first | done | rfl | (simp only [List.length_drop, List.length_take]; rfl)) ?_; (with_reducible refine (spec_l3Kit.calls k _ _ l0 true _ (Sq.C (HR0.out)) HC0.out A2.out).mono ?_); rintro e w' ⟨rfl, ⟨nd, rfl⟩⟩; refine ⟨_, rfl, ?_⟩) | ((with_reducible refine gate_callee (f := 94) rfl ?_); refine goesL_ (some 9) rfl rfl Try.func94 (by kernel_rfl) rfl #[.slice A0 l0.length c0, .bool true] rfl (by (try simp only [List.map_toArray, List.map_cons, List.map_nil]); first | done | rfl | (simp only [List.length_drop, List.length_take]; rfl)) ?_; (with_reducible refine (spec_l3Sums.calls k _ _ l0 true t242 _ (Sq.C (HR0.out)) HC0.out A4.out).mono ?_); rintro e w6 ⟨v243, rfl, ho0, hb⟩; refine ⟨_, rfl, ?_⟩; have HO244 := Aside0.mk (Kd.Q_lower ho0 (below_size (Sq.B HB))); replace HB := Sq.S HB hb; clear hb ho0; obtain ⟨Ao7, co7, eo7, _⟩ := Kd.Q_slice HO244.out; subst eo7) | ((with_reducible refine gate_callee (f := 93) rfl ?_); refine goesL_ (some 10) rfl rfl Try.func93 (by kernel_rfl) rfl #[.slice Ao7 t242.length co7] rfl (by (try simp only [List.map_toArray, List.map_cons, List.map_nil]); first | done | rfl | (simp only [List.length_drop, List.length_take]; rfl)) ?_; (with_reducible refine (spec_l3Told.calls k _ _ t242 t245 _ (Sq.C ((Kd.Q_reads' HO244.out).2.2)) ((Kd.Q_reads' HO244.out).2.1) A5.out).mono ?_); rintro e w8 ⟨v246, rfl, ho0, hb⟩; refine ⟨_, rfl, ?_⟩; have HO247 := Sq.L ho0 HB; replace HO244 := Aside0.mk (Kd.Q_below (by (with_reducible repeat (first | apply Kd.Q_alloc | apply Kd.Q_drewN | apply Kd.Q_drew)); exact HO244.out) hb); replace HB := Sq.S HB hb; clear hb ho0))
    go_ret2
    exact ⟨_, by first | rfl | (simp [errW_none, errW_some] <;> rfl) | (simp [*, errW_none, errW_some] <;> rfl), by (with_reducible repeat (first | apply Kd.R_alloc | apply Kd.R_drewN | apply Kd.R_drew)); exact HO247.out, Sq.B HB⟩
  · replace c3 := Bool.eq_false_iff.mpr c3
    subst c3
    rw [if_neg (show ¬ (false = true) by decide)] at H
    obtain ⟨y248, hy248⟩ : ∃ y_ : List Int, y_ = (([] : List Int)) := ⟨_, rfl⟩
    replace H : (some (y248, false)) = some (r1, r2) := by first | (rw [hy248]; with_reducible exact H) | (have H2_ := (Option.bind_some _ _).symm.trans H; rw [hy248]; with_reducible exact H2_) | (have H2_ := (Option.bind_some _ _).symm.trans H; with_reducible exact H2_) | with_reducible exact H | (rw [hy248]; exact H) | exact H
    have Ny248 := Aside0.mk hy248
    clear hy248
    simp only [Option.some.injEq, Prod.mk.injEq] at H
    obtain ⟨rfl, rfl⟩ := H
    go_enter Try.func34, Try.ntmps34
    go_wp2_with (first | ((with_reducible refine gate_callee (f := 90) rfl ?_); refine goesL_ (some 5) rfl rfl Try.func90 (by kernel_rfl) rfl #[.slice A0 l0.length c0] rfl (by (try simp only [List.map_toArray, List.map_cons, List.map_nil]); first | done | rfl | (simp only [List.length_drop, List.length_take]; rfl)) ?_; (with_reducible refine (spec_l3Kit.calls k _ _ l0 false _ (Sq.C (HR0.out)) HC0.out A2.out).mono ?_); rintro e w' ⟨rfl, ⟨nd, rfl⟩⟩; refine ⟨_, rfl, ?_⟩) | ((with_reducible refine gate_dst (N := 7) rfl ?_); refine Kd.R_lit (Kd.int .i64) _ 3 ?hg (N := 7) ?hd (xs := ([] : List Int)) (inner := []) (ok := fun _ => True) (okp := fun _ => True) ?hr ?hp (fun _ hk => hk) trivial (Below.refl _ _) (Nat.le_refl _) (by simp) ?_; (case hd => rfl); (case hg => rfl); (case hr => first | (go_simp; done) | (go_simp; rfl)); (case hp => exact (Reps.none _ _)); intro v249 w9 ho10 hb hg_ hnew_; clear hg_ hnew_; (first | rw [← Ny248.out] at ho10 | (simp only [Int.reduceToNat] at ho10; rw [← Ny248.out] at ho10)); have n0_ := Sq.L ho10 HB; have n1_ := Sq.S HB hb; have HO250 := n0_; replace HB := n1_; clear n0_ n1_; clear hb ho10))
    go_ret2
    exact ⟨_, by first | rfl | (simp [errW_none, errW_some] <;> rfl) | (simp [*, errW_none, errW_some] <;> rfl), by (with_reducible repeat (first | apply Kd.R_alloc | apply Kd.R_drewN | apply Kd.R_drew)); exact HO250.out, Sq.B HB⟩

/-! ### spec_l1Cur_one: function 57 -/
def spec_l1Cur_one.f (s0_0 : List Int) (s0_1 : Int) (s0_2 : Int) (a1 : Int) : Option (Bool × Int × Int) := (spec_l1Cur_pick.f s0_0 s0_1 s0_2 a1).bind fun bt251 => (some ((bt251.1 == 0), bt251.2.1, bt251.2.2))
set_option maxHeartbeats 8000000 in
set_option maxRecDepth 100000 in
theorem spec_l1Cur_one.calls (g : Nat) (s0_0 : List Int) (s0_1 : Int) (s0_2 : Int) (a1 : Int) (r1 : Bool) (r2 : Int) (r3 : Int) (w0 w : World) (hI : IsS70 w0 w g s0_0 s0_1 s0_2) (hB : Below w0.heap.size w0 w) (h : spec_l1Cur_one.f s0_0 s0_1 s0_2 a1 = some (r1, r2, r3)) :
    Calls Try.prog 57 #[.pointer (some ⟨g, 0, none⟩), .int .i64 a1] w fun e w' => e = .returned (.bool r1) ∧ IsS70 w0 w' g s0_0 r2 r3 ∧ Below w0.heap.size w0 w' ∧ KeepBut w w' g none := by
  have HI0 := Aside0.mk hI
  have HK := Aside0.mk (KeepBut.refl w g none)
  have HL := Aside0.mk hB.size
  clear hI
  have HW0 := Aside0.mk hB.size
  have HB := Aside0.mk hB
  clear hB
  have H : ((spec_l1Cur_pick.f s0_0 s0_1 s0_2 a1).bind fun bt251 => (some ((bt251.1 == 0), bt251.2.1, bt251.2.2))) = some (r1, r2, r3) := h
  clear h
  replace H := Option.bind_eq_some_iff.mp H
  obtain ⟨⟨t251, t252, t253⟩, A30, H⟩ := H
  try dsimp only at H
  have A3 := Aside0.mk A30
  clear A30
  simp only [Option.some.injEq, Prod.mk.injEq] at H
  obtain ⟨rfl, rfl, rfl⟩ := H
  go_enter Try.func57, Try.ntmps57
  go_wp2_with (first | ((with_reducible refine gate_callee (f := 56) rfl ?_); refine goesL_ (some 7) rfl rfl Try.func56 (by kernel_rfl) rfl #[.pointer (some ⟨g, 0, none⟩), .int .i64 a1] rfl (by (try simp only [List.map_toArray, List.map_cons, List.map_nil]); first | done | rfl | (simp only [List.length_drop, List.length_take]; rfl)) ?_; (with_reducible refine (spec_l1Cur_pick.calls g s0_0 s0_1 s0_2 a1 t251 t252 t253 w0 _ ?side1 ?side2 A3.out).mono ?_); (case side1 => repeat (first | (with_reducible first | exact HI0.out | apply IsS70.alloc | apply IsS70.drewN | apply IsS70.drew | apply IsS70.set_1 | apply IsS70.set_2) | exact HI0.out)); (case side2 => repeat (first | (with_reducible first | exact HB.out | apply below_alloc | apply pw_below_drewN | apply below_drew1 | refine below_set ?_ (IsS70.ge HI0.out)) | exact HB.out)); rintro e w4 ⟨rfl, hi, hb, hk⟩; refine ⟨_, rfl, ?_⟩; have n0_ := Aside0.mk (KeepBut.trans (by repeat (first | (with_reducible first | exact HK.out | apply KeepBut.set_ | apply keep_drewN | apply keep_drew | apply keep_alloc) | exact HK.out)) hk (.inl rfl)); have n1_ := Aside0.mk (hb); have n2_ := Aside0.mk (hi); replace HK := n0_; replace HB := n1_; replace HI0 := n2_; clear n0_ n1_ n2_; (try clear hb); (try clear hb2); (try clear hk); (try clear hi)))
  go_ret
  exact ⟨by first | rfl | (simp [errW_none, errW_some] <;> rfl) | (simp [*, errW_none, errW_some] <;> rfl), by repeat (first | (with_reducible first | exact HI0.out | apply IsS70.alloc | apply IsS70.drewN | apply IsS70.drew | apply IsS70.set_1 | apply IsS70.set_2) | exact HI0.out), by repeat (first | (with_reducible first | exact HB.out | apply below_alloc | apply pw_below_drewN | apply below_drew1 | refine below_set ?_ (IsS70.ge HI0.out)) | exact HB.out), by repeat (first | (with_reducible first | exact HK.out | apply KeepBut.set_ | apply keep_drewN | apply keep_drew | apply keep_alloc) | exact HK.out)⟩

/-! ### spec_DrawKitRange: function 35 -/
def spec_DrawKitRange.f (k : Nat) (l0 : List Int) : Option (List Int × Bool) := (spec_l1Cur_kit3.f k l0 0 0).bind fun bt255 => ((spec_l1Cur_one.f l0 bt255.2.1 bt255.2.2 2).bind fun bt260 => (some (bt255.1, bt260.1)))
theorem spec_DrawKitRange.mono : ∀ a0 k, LeO (spec_DrawKitRange.f k a0) (spec_DrawKitRange.f (k + 1) a0) := by
  intro a0 k
  unfold spec_DrawKitRange.f
  repeat' first
      | (with_reducible exact spec_l1Cur_kit3.mono _ _ _ _)
      | (with_reducible exact LeO.refl _)
      | (with_reducible exact LeO.none _)
      | (with_reducible refine LeO.ite ?_ ?_)
      | (with_reducible refine LeO.bind ?_ (fun _ => ?_))
      | exact spec_l1Cur_kit3.mono _ _ _ _
      | exact LeO.none _
      | refine LeO.ite ?_ ?_
      | refine LeO.bind ?_ (fun _ => ?_)
set_option maxHeartbeats 8000000 in
set_option maxRecDepth 100000 in
theorem spec_DrawKitRange.calls (k : Nat) (A0 : Option Addr) (c0 : Nat) (l0 : List Int) (r1 : List Int) (r2 : Bool) (w : World) (hr0 : Kd.C (Kd.int .u8) w A0 l0.length l0) (hc0 : l0.length ≤ c0) (h : spec_DrawKitRange.f k l0 = some (r1, r2)) :
    Calls Try.prog 35 #[.slice A0 l0.length c0] w fun e w' => ∃ v0_ : Value, e = .returned (.tuple #[v0_, .bool r2]) ∧ Kd.R (Kd.int .i64) 3 w' w.heap.size (fun _ => True) v0_ r1 ∧ Below w.heap.size w w' := by
  have hu70 := Try.underlying70
  have HR0 := Aside0.mk hr0
  have HC0 := Aside0.mk hc0
  clear hr0 hc0
  have HB := Aside0.mk (Below.refl w.heap.size w)
  have H : ((spec_l1Cur_kit3.f k l0 0 0).bind fun bt255 => ((spec_l1Cur_one.f l0 bt255.2.1 bt255.2.2 2).bind fun bt260 => (some (bt255.1, bt260.1)))) = some (r1, r2) := h
  clear h
  replace H := Option.bind_eq_some_iff.mp H
  obtain ⟨⟨t255, t258, t259⟩, A20, H⟩ := H
  try dsimp only at H
  have A2 := Aside0.mk A20
  clear A20
  replace H := Option.bind_eq_some_iff.mp H
  obtain ⟨⟨t260, t261, t262⟩, A30, H⟩ := H
  try dsimp only at H
  have A3 := Aside0.mk A30
  clear A30
  simp only [Option.some.injEq, Prod.mk.injEq] at H
  obtain ⟨rfl, rfl⟩ := H
  go_enter Try.func35, Try.ntmps35
  go_wp2_with (first | ((with_reducible refine gate_dst (N := 7) rfl ?_); refine box_event ?hg (N := 7) ?hd (cs := #[.slice A0 l0.length c0, .int .i64 0, .int .u64 0]) (t := 70) ?hr ?_; (case hd => rfl); (case hg => rfl); (case hr => first | (go_simp; done) | (go_simp; rfl)); intro gb254 hg w4 hbox hb; have n0_ := Sq.S HB hb; have n1_ := Aside0.mk ((⟨_, _, hbox, (by rw [hg]; exact (below_size (Sq.B HB))), HR0.out⟩ : IsS70 w w4 gb254 l0 0 0)); have n2_ := Aside0.mk ((by rw [hg]; exact (below_size (Sq.B HB)) : w.heap.size ≤ gb254)); have n3_ := Aside0.mk ((by rw [hg]; exact (below_size (Sq.B HB)) : w.heap.size ≤ gb254)); replace HB := n0_; have HI254 := n1_; have GW254 := n2_; have GE254 := n3_; clear n0_ n1_ n2_ n3_; clear hb hbox hg) | ((with_reducible refine gate_callee (f := 87) rfl ?_); refine goesL_ (some 9) rfl rfl Try.func87 (by kernel_rfl) rfl #[.pointer (some ⟨gb254, 0, none⟩)] rfl (by (try simp only [List.map_toArray, List.map_cons, List.map_nil]); first | done | rfl | (simp only [List.length_drop, List.length_take]; rfl)) ?_; (with_reducible refine (spec_l1Cur_kit3.calls k gb254 l0 0 0 t255 t258 t259 w _ ?side1 ?side2 A2.out).mono ?_); (case side1 => repeat (first | (with_reducible first | exact HI254.out | apply IsS70.alloc | apply IsS70.drewN | apply IsS70.drew | apply IsS70.set_1 | apply IsS70.set_2) | exact HI254.out)); (case side2 => repeat (first | (with_reducible first | exact HB.out | apply below_alloc | apply pw_below_drewN | apply below_drew1 | refine below_set ?_ (IsS70.ge HI254.out)) | exact HB.out)); rintro e w5 ⟨v256, rfl, ho0, hi, hb, hk⟩; refine ⟨_, rfl, ?_⟩; have n0_ := Aside0.mk (Kd.R_lower ho0 (below_size (by repeat (first | (with_reducible first | exact HB.out | apply below_alloc | apply pw_below_drewN | apply below_drew1 | refine below_set ?_ (IsS70.ge HI254.out)) | exact HB.out)))); have n1_ := Aside0.mk (hb); have n2_ := Aside0.mk (hi); have HO257 := n0_; replace HB := n1_; replace HI254 := n2_; clear n0_ n1_ n2_; (try clear hb); (try clear hb2); (try clear hk); (try clear hi); (try clear ho0)) | ((with_reducible refine gate_callee (f := 57) rfl ?_); refine goesL_ (some 11) rfl rfl Try.func57 (by kernel_rfl) rfl #[.pointer (some ⟨gb254, 0, none⟩), .int .i64 2] rfl (by (try simp only [List.map_toArray, List.map_cons, List.map_nil]); first | done | rfl | (simp only [List.length_drop, List.length_take]; rfl)) ?_; (with_reducible refine (spec_l1Cur_one.calls gb254 l0 t258 t259 2 t260 t261 t262 w _ ?side1 ?side2 A3.out).mono ?_); (case side1 => repeat (first | (with_reducible first | exact HI254.out | apply IsS70.alloc | apply IsS70.drewN | apply IsS70.drew | apply IsS70.set_1 | apply IsS70.set_2) | exact HI254.out)); (case side2 => repeat (first | (with_reducible first | exact HB.out | apply below_alloc | apply pw_below_drewN | apply below_drew1 | refine below_set ?_ (IsS70.ge HI254.out)) | exact HB.out)); rintro e w6 ⟨rfl, hi, hb, hk⟩; refine ⟨_, rfl, ?_⟩; have n0_ := Aside0.mk (Kd.R_mono (Kd.R_keep (IsS70.apart (show IsS70 w _ gb254 l0 t258 t259 from by repeat (first | (with_reducible first | exact HI254.out | apply IsS70.alloc | apply IsS70.drewN | apply IsS70.drew | apply IsS70.set_1 | apply IsS70.set_2) | exact HI254.out)) (Sq.R HO257) (by decide)) hk (fun _ h => h.2)) (fun _ h => h.1)); have n1_ := Aside0.mk (hb); have n2_ := Aside0.mk (hi); replace HO257 := n0_; replace HB := n1_; replace HI254 := n2_; clear n0_ n1_ n2_; (try clear hb); (try clear hb2); (try clear hk); (try clear hi)))
  go_ret2
  exact ⟨_, by first | rfl | (simp [errW_none, errW_some] <;> rfl) | (simp [*, errW_none, errW_some] <;> rfl), by (with_reducible repeat (first | apply Kd.R_alloc | apply Kd.R_drewN | apply Kd.R_drew)); exact HO257.out, by repeat (first | (with_reducible first | exact HB.out | apply below_alloc | apply pw_below_drewN | apply below_drew1 | refine below_set ?_ (IsS70.ge HI254.out)) | exact HB.out)⟩

end Go.Proofs.Ytgnmomdgfamhnaa.PFnKits
