-- Made by wip/pr.py of this repo over the kit's print (some contracts by hand).
import Derived.Test.YtfjcnpoigndfjaaPFnCountersx0
import Derived.Test.YtfjcnpoigndfjaaPFnCountersx1
import Derived.Test.YtfjcnpoigndfjaaPFnCountersx2
import Derived.Test.YtfjcnpoigndfjaaPFnCountersx3
import Derived.Test.YtfjcnpoigndfjaaPFnCountersx4
import Derived.Test.YtfjcnpoigndfjaaPFnCountersx5
import Derived.Test.YtfjcnpoigndfjaaPFnCountersx6
namespace Go.Proofs.Ytfjcnpoigndfjaa.PFnCounters
open Go.RowKit Go.Proofs.YtfjcnpoigndfjaaW.PrintWords Go.Proofs.YtfjcnpoigndfjaaW.PrintLast Go.Proofs.YtfjcnpoigndfjaaW.PrintMore
attribute [local go_sem] max2_int min2_int max_two min_two max_three min_three max_four min_four   -- for this text's walks alone
set_option linter.unusedVariables false
set_option linter.unusedSimpArgs false

/-! ### laws_FnCounters: function 3 -/
mutual
def laws_FnCounters.j0 : Nat → List Int → List (S33) → Int → Int → Int → Int → Int → Bool → Bool → Option (Bool)
  | 0, _, _, _, _, _, _, _, _, _ => none
  | k + 1, x0, x3, x4, x5, x6, x7, x8, x9, x74 => if x74 = true then (some false) else ((spec_DrawLeastCounter.f k x0).bind fun bt323 => ((impl_LeastCounter.f k bt323.1 bt323.2.1 bt323.2.2.1 bt323.2.2.2).bind fun bt329 => ((spec_LeastCounter.f k bt323.1 bt323.2.1 bt323.2.2.1 bt323.2.2.2).bind fun bt331 => (if bt329.1 = bt331.1 then (laws_FnCounters.j1 k x3 x4 x5 x6 x7 x8 x9 bt323.1 bt323.2.1 bt323.2.2.1 bt323.2.2.2 bt329.1 bt329.2 (bt329.2 != bt331.2)) else (laws_FnCounters.j1 k x3 x4 x5 x6 x7 x8 x9 bt323.1 bt323.2.1 bt323.2.2.1 bt323.2.2.2 bt329.1 bt329.2 true)))))
def laws_FnCounters.j1 : Nat → List (S33) → Int → Int → Int → Int → Int → Bool → List (S33) → Int → Int → Int → Int → Bool → Bool → Option (Bool)
  | 0, _, _, _, _, _, _, _, _, _, _, _, _, _, _ => none
  | k + 1, x3, x4, x5, x6, x7, x8, x9, x13, x14, x15, x16, x17, x18, x105 => if x105 = true then (some false) else ((impl_MostExtra.f k x13 x14 x15 x16).bind fun bt333 => ((spec_MostExtra.f k x13 x14 x15 x16).bind fun bt335 => (if bt333.1 = bt335.1 then (laws_FnCounters.j2 k x3 x4 x5 x6 x7 x8 x9 x13 x14 x15 x16 x17 x18 bt333.1 bt333.2 (bt333.2 != bt335.2)) else (laws_FnCounters.j2 k x3 x4 x5 x6 x7 x8 x9 x13 x14 x15 x16 x17 x18 bt333.1 bt333.2 true))))
def laws_FnCounters.j2 : Nat → List (S33) → Int → Int → Int → Int → Int → Bool → List (S33) → Int → Int → Int → Int → Bool → Int → Bool → Bool → Option (Bool)
  | 0, _, _, _, _, _, _, _, _, _, _, _, _, _, _, _, _ => none
  | k + 1, x3, x4, x5, x6, x7, x8, x9, x13, x14, x15, x16, x17, x18, x21, x22, x129 => if x129 = true then (some false) else (if x9 = true then (laws_FnCounters.l0 k x3 x4 x5 x6 x7 x8 x13 x14 x15 x16 x17 x18 x21 x22 0) else (laws_FnCounters.j4 k x13 x14 x15 x16 x17 x18 x21 x22))
def laws_FnCounters.j4 : Nat → List (S33) → Int → Int → Int → Int → Bool → Int → Bool → Option (Bool)
  | 0, _, _, _, _, _, _, _, _ => none
  | k + 1, x13, x14, x15, x16, x17, x18, x21, x22 => if x18 = true then ((impl_TipSide.f k x13 x14 x15).bind fun bt348 => (if bt348.2 = true then (laws_FnCounters.j5 k x13 x14 x15 x16 x17 x21 x22 ((bt348.1 == 0) != (x17 == 0))) else (laws_FnCounters.j5 k x13 x14 x15 x16 x17 x21 x22 true))) else (if x22 = true then (if x21 < 99 then ((some (([] : List (S33)) : List (S33))).bind fun y372 => (if y372.length + x13.length < 8796093022208 then ((some (y372 ++ x13 : List (S33))).bind fun y375 => (if y375.length < 8796093022208 then ((impl_TipSide.f k (y375 ++ [(⟨x16, wrap64 (x21 + 1)⟩ : S33)]) x14 x15).bind fun bt381 => (if bt381.2 = true then (some (bt381.1 != 0)) else (some false))) else (none))) else (none))) else (some true)) else (some true))
def laws_FnCounters.j5 : Nat → List (S33) → Int → Int → Int → Int → Int → Bool → Bool → Option (Bool)
  | 0, _, _, _, _, _, _, _, _ => none
  | k + 1, x13, x14, x15, x16, x17, x21, x22, x180 => if x180 = true then (some false) else (laws_FnCounters.l1 k x13 x14 x15 x16 x17 x21 x22 (wrap64 (x17 - 1)))
def laws_FnCounters.l1 : Nat → List (S33) → Int → Int → Int → Int → Int → Bool → Int → Option (Bool)
  | 0, _, _, _, _, _, _, _, _ => none
  | k + 1, x13, x14, x15, x16, x17, x21, x22, x30 => if x30 ≤ x17 then (laws_FnCounters.j7 k x13 x14 x15 x16 x17 x21 x22 x30 (decide (x17 > 0))) else (laws_FnCounters.j7 k x13 x14 x15 x16 x17 x21 x22 x30 false)
def laws_FnCounters.j7 : Nat → List (S33) → Int → Int → Int → Int → Int → Bool → Int → Bool → Option (Bool)
  | 0, _, _, _, _, _, _, _, _, _ => none
  | k + 1, x13, x14, x15, x16, x17, x21, x22, x30, x189 => if x189 = true then (if x30 = 0 then (laws_FnCounters.l1 k x13 x14 x15 x16 x17 x21 x22 (wrap64 (x30 + 1))) else ((some (([] : List (S33)) : List (S33))).bind fun y361 => (if y361.length + x13.length < 8796093022208 then ((some (y361 ++ x13 : List (S33))).bind fun y364 => (if y364.length < 8796093022208 then ((impl_TipSide.f k (y364 ++ [(⟨x16, x30⟩ : S33)]) x14 x15).bind fun bt370 => (if bt370.2 = true then (if ((bt370.1 == 0) != (x30 == x17)) = true then (some false) else (laws_FnCounters.l1 k x13 x14 x15 x16 x17 x21 x22 (wrap64 (x30 + 1)))) else (some false))) else (none))) else (none)))) else (if x22 = true then (if x21 < 99 then ((some (([] : List (S33)) : List (S33))).bind fun y350 => (if y350.length + x13.length < 8796093022208 then ((some (y350 ++ x13 : List (S33))).bind fun y353 => (if y353.length < 8796093022208 then ((impl_TipSide.f k (y353 ++ [(⟨x16, wrap64 (x21 + 1)⟩ : S33)]) x14 x15).bind fun bt359 => (if bt359.2 = true then (some (bt359.1 != 0)) else (some false))) else (none))) else (none))) else (some true)) else (some true))
def laws_FnCounters.l0 : Nat → List (S33) → Int → Int → Int → Int → Int → List (S33) → Int → Int → Int → Int → Bool → Int → Bool → Int → Option (Bool)
  | 0, _, _, _, _, _, _, _, _, _, _, _, _, _, _, _ => none
  | k + 1, x3, x4, x5, x6, x7, x8, x13, x14, x15, x16, x17, x18, x21, x22, x25 => if x25 ≤ 60 then ((some (([] : List (S33)) : List (S33))).bind fun y337 => (if y337.length + x3.length < 8796093022208 then ((some (y337 ++ x3 : List (S33))).bind fun y340 => (if y340.length < 8796093022208 then ((impl_TipSide.f k (y340 ++ [(⟨x25, x6⟩ : S33)]) x4 x5).bind fun bt346 => (if bt346.2 = true then (if x25 ≥ x7 then (if ((bt346.1 == 0) != (decide (x25 ≤ x8))) = true then (some false) else (laws_FnCounters.l0 k x3 x4 x5 x6 x7 x8 x13 x14 x15 x16 x17 x18 x21 x22 (wrap64 (x25 + 1)))) else (if ((bt346.1 == 0) != false) = true then (some false) else (laws_FnCounters.l0 k x3 x4 x5 x6 x7 x8 x13 x14 x15 x16 x17 x18 x21 x22 (wrap64 (x25 + 1))))) else (some false))) else (none))) else (none))) else (laws_FnCounters.j4 k x13 x14 x15 x16 x17 x18 x21 x22)
end
def laws_FnCounters.f (k : Nat) (l0 : List Int) : Option (Bool) := (laws_rBig.f l0).bind fun t310 => (if t310 = true then (some true) else ((spec_DrawStandPlaces.f k l0).bind fun bt311 => ((impl_StandPlaces.f k bt311.1 bt311.2.1 bt311.2.2.1 bt311.2.2.2).bind fun bt317 => ((spec_StandPlaces.f k bt311.1 bt311.2.1 bt311.2.2.1 bt311.2.2.2).bind fun bt320 => (if bt317.1 = bt320.1 then (if bt317.2.1 = bt320.2.1 then (laws_FnCounters.j0 k l0 bt311.1 bt311.2.1 bt311.2.2.1 bt311.2.2.2 bt317.1 bt317.2.1 bt317.2.2 (bt317.2.2 != bt320.2.2)) else (laws_FnCounters.j0 k l0 bt311.1 bt311.2.1 bt311.2.2.1 bt311.2.2.2 bt317.1 bt317.2.1 bt317.2.2 true)) else (laws_FnCounters.j0 k l0 bt311.1 bt311.2.1 bt311.2.2.1 bt311.2.2.2 bt317.1 bt317.2.1 bt317.2.2 true))))))
theorem laws_FnCounters.mono_l : ∀ k, (∀ y0 y1 y2 y3 y4 y5 y6 y7 y8, LeO (laws_FnCounters.j0 k y0 y1 y2 y3 y4 y5 y6 y7 y8) (laws_FnCounters.j0 (k + 1) y0 y1 y2 y3 y4 y5 y6 y7 y8)) ∧ (∀ y0 y1 y2 y3 y4 y5 y6 y7 y8 y9 y10 y11 y12 y13, LeO (laws_FnCounters.j1 k y0 y1 y2 y3 y4 y5 y6 y7 y8 y9 y10 y11 y12 y13) (laws_FnCounters.j1 (k + 1) y0 y1 y2 y3 y4 y5 y6 y7 y8 y9 y10 y11 y12 y13)) ∧ (∀ y0 y1 y2 y3 y4 y5 y6 y7 y8 y9 y10 y11 y12 y13 y14 y15, LeO (laws_FnCounters.j2 k y0 y1 y2 y3 y4 y5 y6 y7 y8 y9 y10 y11 y12 y13 y14 y15) (laws_FnCounters.j2 (k + 1) y0 y1 y2 y3 y4 y5 y6 y7 y8 y9 y10 y11 y12 y13 y14 y15)) ∧ (∀ y0 y1 y2 y3 y4 y5 y6 y7, LeO (laws_FnCounters.j4 k y0 y1 y2 y3 y4 y5 y6 y7) (laws_FnCounters.j4 (k + 1) y0 y1 y2 y3 y4 y5 y6 y7)) ∧ (∀ y0 y1 y2 y3 y4 y5 y6 y7, LeO (laws_FnCounters.j5 k y0 y1 y2 y3 y4 y5 y6 y7) (laws_FnCounters.j5 (k + 1) y0 y1 y2 y3 y4 y5 y6 y7)) ∧ (∀ y0 y1 y2 y3 y4 y5 y6 y7, LeO (laws_FnCounters.l1 k y0 y1 y2 y3 y4 y5 y6 y7) (laws_FnCounters.l1 (k + 1) y0 y1 y2 y3 y4 y5 y6 y7)) ∧ (∀ y0 y1 y2 y3 y4 y5 y6 y7 y8, LeO (laws_FnCounters.j7 k y0 y1 y2 y3 y4 y5 y6 y7 y8) (laws_FnCounters.j7 (k + 1) y0 y1 y2 y3 y4 y5 y6 y7 y8)) ∧ (∀ y0 y1 y2 y3 y4 y5 y6 y7 y8 y9 y10 y11 y12 y13 y14, LeO (laws_FnCounters.l0 k y0 y1 y2 y3 y4 y5 y6 y7 y8 y9 y10 y11 y12 y13 y14) (laws_FnCounters.l0 (k + 1) y0 y1 y2 y3 y4 y5 y6 y7 y8 y9 y10 y11 y12 y13 y14))
  | 0 => ⟨fun _ _ _ _ _ _ _ _ _ r h => by simp [laws_FnCounters.j0] at h, fun _ _ _ _ _ _ _ _ _ _ _ _ _ _ r h => by simp [laws_FnCounters.j1] at h, fun _ _ _ _ _ _ _ _ _ _ _ _ _ _ _ _ r h => by simp [laws_FnCounters.j2] at h, fun _ _ _ _ _ _ _ _ r h => by simp [laws_FnCounters.j4] at h, fun _ _ _ _ _ _ _ _ r h => by simp [laws_FnCounters.j5] at h, fun _ _ _ _ _ _ _ _ r h => by simp [laws_FnCounters.l1] at h, fun _ _ _ _ _ _ _ _ _ r h => by simp [laws_FnCounters.j7] at h, fun _ _ _ _ _ _ _ _ _ _ _ _ _ _ _ r h => by simp [laws_FnCounters.l0] at h⟩
  | k + 1 => by
    obtain ⟨ih0, ih1, ih2, ih3, ih4, ih5, ih6, ih7⟩ := laws_FnCounters.mono_l k
    refine ⟨?_, ?_, ?_, ?_, ?_, ?_, ?_, ?_⟩
    · intro y0 y1 y2 y3 y4 y5 y6 y7 y8
      unfold laws_FnCounters.j0
      repeat' first
      | (with_reducible exact ih0 _ _ _ _ _ _ _ _ _)
      | (with_reducible exact ih1 _ _ _ _ _ _ _ _ _ _ _ _ _ _)
      | (with_reducible exact ih2 _ _ _ _ _ _ _ _ _ _ _ _ _ _ _ _)
      | (with_reducible exact ih3 _ _ _ _ _ _ _ _)
      | (with_reducible exact ih4 _ _ _ _ _ _ _ _)
      | (with_reducible exact ih5 _ _ _ _ _ _ _ _)
      | (with_reducible exact ih6 _ _ _ _ _ _ _ _ _)
      | (with_reducible exact ih7 _ _ _ _ _ _ _ _ _ _ _ _ _ _ _)
      | (with_reducible exact impl_LeastCounter.mono _ _ _ _ _)
      | (with_reducible exact impl_MostExtra.mono _ _ _ _ _)
      | (with_reducible exact impl_StandPlaces.mono _ _ _ _ _)
      | (with_reducible exact impl_TipSide.mono _ _ _ _)
      | (with_reducible exact spec_DrawLeastCounter.mono _ _)
      | (with_reducible exact spec_DrawStandPlaces.mono _ _)
      | (with_reducible exact spec_LeastCounter.mono _ _ _ _ _)
      | (with_reducible exact spec_MostExtra.mono _ _ _ _ _)
      | (with_reducible exact spec_StandPlaces.mono _ _ _ _ _)
      | (with_reducible exact LeO.refl _)
      | (with_reducible exact LeO.none _)
      | (with_reducible refine LeO.ite ?_ ?_)
      | (with_reducible refine LeO.bind ?_ (fun _ => ?_))
      | exact ih0 _ _ _ _ _ _ _ _ _
      | exact ih1 _ _ _ _ _ _ _ _ _ _ _ _ _ _
      | exact ih2 _ _ _ _ _ _ _ _ _ _ _ _ _ _ _ _
      | exact ih3 _ _ _ _ _ _ _ _
      | exact ih4 _ _ _ _ _ _ _ _
      | exact ih5 _ _ _ _ _ _ _ _
      | exact ih6 _ _ _ _ _ _ _ _ _
      | exact ih7 _ _ _ _ _ _ _ _ _ _ _ _ _ _ _
      | exact impl_LeastCounter.mono _ _ _ _ _
      | exact impl_MostExtra.mono _ _ _ _ _
      | exact impl_StandPlaces.mono _ _ _ _ _
      | exact impl_TipSide.mono _ _ _ _
      | exact spec_DrawLeastCounter.mono _ _
      | exact spec_DrawStandPlaces.mono _ _
      | exact spec_LeastCounter.mono _ _ _ _ _
      | exact spec_MostExtra.mono _ _ _ _ _
      | exact spec_StandPlaces.mono _ _ _ _ _
      | exact LeO.none _
      | refine LeO.ite ?_ ?_
      | refine LeO.bind ?_ (fun _ => ?_)
    · intro y0 y1 y2 y3 y4 y5 y6 y7 y8 y9 y10 y11 y12 y13
      unfold laws_FnCounters.j1
      repeat' first
      | (with_reducible exact ih0 _ _ _ _ _ _ _ _ _)
      | (with_reducible exact ih1 _ _ _ _ _ _ _ _ _ _ _ _ _ _)
      | (with_reducible exact ih2 _ _ _ _ _ _ _ _ _ _ _ _ _ _ _ _)
      | (with_reducible exact ih3 _ _ _ _ _ _ _ _)
      | (with_reducible exact ih4 _ _ _ _ _ _ _ _)
      | (with_reducible exact ih5 _ _ _ _ _ _ _ _)
      | (with_reducible exact ih6 _ _ _ _ _ _ _ _ _)
      | (with_reducible exact ih7 _ _ _ _ _ _ _ _ _ _ _ _ _ _ _)
      | (with_reducible exact impl_LeastCounter.mono _ _ _ _ _)
      | (with_reducible exact impl_MostExtra.mono _ _ _ _ _)
      | (with_reducible exact impl_StandPlaces.mono _ _ _ _ _)
      | (with_reducible exact impl_TipSide.mono _ _ _ _)
      | (with_reducible exact spec_DrawLeastCounter.mono _ _)
      | (with_reducible exact spec_DrawStandPlaces.mono _ _)
      | (with_reducible exact spec_LeastCounter.mono _ _ _ _ _)
      | (with_reducible exact spec_MostExtra.mono _ _ _ _ _)
      | (with_reducible exact spec_StandPlaces.mono _ _ _ _ _)
      | (with_reducible exact LeO.refl _)
      | (with_reducible exact LeO.none _)
      | (with_reducible refine LeO.ite ?_ ?_)
      | (with_reducible refine LeO.bind ?_ (fun _ => ?_))
      | exact ih0 _ _ _ _ _ _ _ _ _
      | exact ih1 _ _ _ _ _ _ _ _ _ _ _ _ _ _
      | exact ih2 _ _ _ _ _ _ _ _ _ _ _ _ _ _ _ _
      | exact ih3 _ _ _ _ _ _ _ _
      | exact ih4 _ _ _ _ _ _ _ _
      | exact ih5 _ _ _ _ _ _ _ _
      | exact ih6 _ _ _ _ _ _ _ _ _
      | exact ih7 _ _ _ _ _ _ _ _ _ _ _ _ _ _ _
      | exact impl_LeastCounter.mono _ _ _ _ _
      | exact impl_MostExtra.mono _ _ _ _ _
      | exact impl_StandPlaces.mono _ _ _ _ _
      | exact impl_TipSide.mono _ _ _ _
      | exact spec_DrawLeastCounter.mono _ _
      | exact spec_DrawStandPlaces.mono _ _
      | exact spec_LeastCounter.mono _ _ _ _ _
      | exact spec_MostExtra.mono _ _ _ _ _
      | exact spec_StandPlaces.mono _ _ _ _ _
      | exact LeO.none _
      | refine LeO.ite ?_ ?_
      | refine LeO.bind ?_ (fun _ => ?_)
    · intro y0 y1 y2 y3 y4 y5 y6 y7 y8 y9 y10 y11 y12 y13 y14 y15
      unfold laws_FnCounters.j2
      repeat' first
      | (with_reducible exact ih0 _ _ _ _ _ _ _ _ _)
      | (with_reducible exact ih1 _ _ _ _ _ _ _ _ _ _ _ _ _ _)
      | (with_reducible exact ih2 _ _ _ _ _ _ _ _ _ _ _ _ _ _ _ _)
      | (with_reducible exact ih3 _ _ _ _ _ _ _ _)
      | (with_reducible exact ih4 _ _ _ _ _ _ _ _)
      | (with_reducible exact ih5 _ _ _ _ _ _ _ _)
      | (with_reducible exact ih6 _ _ _ _ _ _ _ _ _)
      | (with_reducible exact ih7 _ _ _ _ _ _ _ _ _ _ _ _ _ _ _)
      | (with_reducible exact impl_LeastCounter.mono _ _ _ _ _)
      | (with_reducible exact impl_MostExtra.mono _ _ _ _ _)
      | (with_reducible exact impl_StandPlaces.mono _ _ _ _ _)
      | (with_reducible exact impl_TipSide.mono _ _ _ _)
      | (with_reducible exact spec_DrawLeastCounter.mono _ _)
      | (with_reducible exact spec_DrawStandPlaces.mono _ _)
      | (with_reducible exact spec_LeastCounter.mono _ _ _ _ _)
      | (with_reducible exact spec_MostExtra.mono _ _ _ _ _)
      | (with_reducible exact spec_StandPlaces.mono _ _ _ _ _)
      | (with_reducible exact LeO.refl _)
      | (with_reducible exact LeO.none _)
      | (with_reducible refine LeO.ite ?_ ?_)
      | (with_reducible refine LeO.bind ?_ (fun _ => ?_))
      | exact ih0 _ _ _ _ _ _ _ _ _
      | exact ih1 _ _ _ _ _ _ _ _ _ _ _ _ _ _
      | exact ih2 _ _ _ _ _ _ _ _ _ _ _ _ _ _ _ _
      | exact ih3 _ _ _ _ _ _ _ _
      | exact ih4 _ _ _ _ _ _ _ _
      | exact ih5 _ _ _ _ _ _ _ _
      | exact ih6 _ _ _ _ _ _ _ _ _
      | exact ih7 _ _ _ _ _ _ _ _ _ _ _ _ _ _ _
      | exact impl_LeastCounter.mono _ _ _ _ _
      | exact impl_MostExtra.mono _ _ _ _ _
      | exact impl_StandPlaces.mono _ _ _ _ _
      | exact impl_TipSide.mono _ _ _ _
      | exact spec_DrawLeastCounter.mono _ _
      | exact spec_DrawStandPlaces.mono _ _
      | exact spec_LeastCounter.mono _ _ _ _ _
      | exact spec_MostExtra.mono _ _ _ _ _
      | exact spec_StandPlaces.mono _ _ _ _ _
      | exact LeO.none _
      | refine LeO.ite ?_ ?_
      | refine LeO.bind ?_ (fun _ => ?_)
    · intro y0 y1 y2 y3 y4 y5 y6 y7
      unfold laws_FnCounters.j4
      repeat' first
      | (with_reducible exact ih0 _ _ _ _ _ _ _ _ _)
      | (with_reducible exact ih1 _ _ _ _ _ _ _ _ _ _ _ _ _ _)
      | (with_reducible exact ih2 _ _ _ _ _ _ _ _ _ _ _ _ _ _ _ _)
      | (with_reducible exact ih3 _ _ _ _ _ _ _ _)
      | (with_reducible exact ih4 _ _ _ _ _ _ _ _)
      | (with_reducible exact ih5 _ _ _ _ _ _ _ _)
      | (with_reducible exact ih6 _ _ _ _ _ _ _ _ _)
      | (with_reducible exact ih7 _ _ _ _ _ _ _ _ _ _ _ _ _ _ _)
      | (with_reducible exact impl_LeastCounter.mono _ _ _ _ _)
      | (with_reducible exact impl_MostExtra.mono _ _ _ _ _)
      | (with_reducible exact impl_StandPlaces.mono _ _ _ _ _)
      | (with_reducible exact impl_TipSide.mono _ _ _ _)
      | (with_reducible exact spec_DrawLeastCounter.mono _ _)
      | (with_reducible exact spec_DrawStandPlaces.mono _ _)
      | (with_reducible exact spec_LeastCounter.mono _ _ _ _ _)
      | (with_reducible exact spec_MostExtra.mono _ _ _ _ _)
      | (with_reducible exact spec_StandPlaces.mono _ _ _ _ _)
      | (with_reducible exact LeO.refl _)
      | (with_reducible exact LeO.none _)
      | (with_reducible refine LeO.ite ?_ ?_)
      | (with_reducible refine LeO.bind ?_ (fun _ => ?_))
      | exact ih0 _ _ _ _ _ _ _ _ _
      | exact ih1 _ _ _ _ _ _ _ _ _ _ _ _ _ _
      | exact ih2 _ _ _ _ _ _ _ _ _ _ _ _ _ _ _ _
      | exact ih3 _ _ _ _ _ _ _ _
      | exact ih4 _ _ _ _ _ _ _ _
      | exact ih5 _ _ _ _ _ _ _ _
      | exact ih6 _ _ _ _ _ _ _ _ _
      | exact ih7 _ _ _ _ _ _ _ _ _ _ _ _ _ _ _
      | exact impl_LeastCounter.mono _ _ _ _ _
      | exact impl_MostExtra.mono _ _ _ _ _
      | exact impl_StandPlaces.mono _ _ _ _ _
      | exact impl_TipSide.mono _ _ _ _
      | exact spec_DrawLeastCounter.mono _ _
      | exact spec_DrawStandPlaces.mono _ _
      | exact spec_LeastCounter.mono _ _ _ _ _
      | exact spec_MostExtra.mono _ _ _ _ _
      | exact spec_StandPlaces.mono _ _ _ _ _
      | exact LeO.none _
      | refine LeO.ite ?_ ?_
      | refine LeO.bind ?_ (fun _ => ?_)
    · intro y0 y1 y2 y3 y4 y5 y6 y7
      unfold laws_FnCounters.j5
      repeat' first
      | (with_reducible exact ih0 _ _ _ _ _ _ _ _ _)
      | (with_reducible exact ih1 _ _ _ _ _ _ _ _ _ _ _ _ _ _)
      | (with_reducible exact ih2 _ _ _ _ _ _ _ _ _ _ _ _ _ _ _ _)
      | (with_reducible exact ih3 _ _ _ _ _ _ _ _)
      | (with_reducible exact ih4 _ _ _ _ _ _ _ _)
      | (with_reducible exact ih5 _ _ _ _ _ _ _ _)
      | (with_reducible exact ih6 _ _ _ _ _ _ _ _ _)
      | (with_reducible exact ih7 _ _ _ _ _ _ _ _ _ _ _ _ _ _ _)
      | (with_reducible exact impl_LeastCounter.mono _ _ _ _ _)
      | (with_reducible exact impl_MostExtra.mono _ _ _ _ _)
      | (with_reducible exact impl_StandPlaces.mono _ _ _ _ _)
      | (with_reducible exact impl_TipSide.mono _ _ _ _)
      | (with_reducible exact spec_DrawLeastCounter.mono _ _)
      | (with_reducible exact spec_DrawStandPlaces.mono _ _)
      | (with_reducible exact spec_LeastCounter.mono _ _ _ _ _)
      | (with_reducible exact spec_MostExtra.mono _ _ _ _ _)
      | (with_reducible exact spec_StandPlaces.mono _ _ _ _ _)
      | (with_reducible exact LeO.refl _)
      | (with_reducible exact LeO.none _)
      | (with_reducible refine LeO.ite ?_ ?_)
      | (with_reducible refine LeO.bind ?_ (fun _ => ?_))
      | exact ih0 _ _ _ _ _ _ _ _ _
      | exact ih1 _ _ _ _ _ _ _ _ _ _ _ _ _ _
      | exact ih2 _ _ _ _ _ _ _ _ _ _ _ _ _ _ _ _
      | exact ih3 _ _ _ _ _ _ _ _
      | exact ih4 _ _ _ _ _ _ _ _
      | exact ih5 _ _ _ _ _ _ _ _
      | exact ih6 _ _ _ _ _ _ _ _ _
      | exact ih7 _ _ _ _ _ _ _ _ _ _ _ _ _ _ _
      | exact impl_LeastCounter.mono _ _ _ _ _
      | exact impl_MostExtra.mono _ _ _ _ _
      | exact impl_StandPlaces.mono _ _ _ _ _
      | exact impl_TipSide.mono _ _ _ _
      | exact spec_DrawLeastCounter.mono _ _
      | exact spec_DrawStandPlaces.mono _ _
      | exact spec_LeastCounter.mono _ _ _ _ _
      | exact spec_MostExtra.mono _ _ _ _ _
      | exact spec_StandPlaces.mono _ _ _ _ _
      | exact LeO.none _
      | refine LeO.ite ?_ ?_
      | refine LeO.bind ?_ (fun _ => ?_)
    · intro y0 y1 y2 y3 y4 y5 y6 y7
      unfold laws_FnCounters.l1
      repeat' first
      | (with_reducible exact ih0 _ _ _ _ _ _ _ _ _)
      | (with_reducible exact ih1 _ _ _ _ _ _ _ _ _ _ _ _ _ _)
      | (with_reducible exact ih2 _ _ _ _ _ _ _ _ _ _ _ _ _ _ _ _)
      | (with_reducible exact ih3 _ _ _ _ _ _ _ _)
      | (with_reducible exact ih4 _ _ _ _ _ _ _ _)
      | (with_reducible exact ih5 _ _ _ _ _ _ _ _)
      | (with_reducible exact ih6 _ _ _ _ _ _ _ _ _)
      | (with_reducible exact ih7 _ _ _ _ _ _ _ _ _ _ _ _ _ _ _)
      | (with_reducible exact impl_LeastCounter.mono _ _ _ _ _)
      | (with_reducible exact impl_MostExtra.mono _ _ _ _ _)
      | (with_reducible exact impl_StandPlaces.mono _ _ _ _ _)
      | (with_reducible exact impl_TipSide.mono _ _ _ _)
      | (with_reducible exact spec_DrawLeastCounter.mono _ _)
      | (with_reducible exact spec_DrawStandPlaces.mono _ _)
      | (with_reducible exact spec_LeastCounter.mono _ _ _ _ _)
      | (with_reducible exact spec_MostExtra.mono _ _ _ _ _)
      | (with_reducible exact spec_StandPlaces.mono _ _ _ _ _)
      | (with_reducible exact LeO.refl _)
      | (with_reducible exact LeO.none _)
      | (with_reducible refine LeO.ite ?_ ?_)
      | (with_reducible refine LeO.bind ?_ (fun _ => ?_))
      | exact ih0 _ _ _ _ _ _ _ _ _
      | exact ih1 _ _ _ _ _ _ _ _ _ _ _ _ _ _
      | exact ih2 _ _ _ _ _ _ _ _ _ _ _ _ _ _ _ _
      | exact ih3 _ _ _ _ _ _ _ _
      | exact ih4 _ _ _ _ _ _ _ _
      | exact ih5 _ _ _ _ _ _ _ _
      | exact ih6 _ _ _ _ _ _ _ _ _
      | exact ih7 _ _ _ _ _ _ _ _ _ _ _ _ _ _ _
      | exact impl_LeastCounter.mono _ _ _ _ _
      | exact impl_MostExtra.mono _ _ _ _ _
      | exact impl_StandPlaces.mono _ _ _ _ _
      | exact impl_TipSide.mono _ _ _ _
      | exact spec_DrawLeastCounter.mono _ _
      | exact spec_DrawStandPlaces.mono _ _
      | exact spec_LeastCounter.mono _ _ _ _ _
      | exact spec_MostExtra.mono _ _ _ _ _
      | exact spec_StandPlaces.mono _ _ _ _ _
      | exact LeO.none _
      | refine LeO.ite ?_ ?_
      | refine LeO.bind ?_ (fun _ => ?_)
    · intro y0 y1 y2 y3 y4 y5 y6 y7 y8
      unfold laws_FnCounters.j7
      repeat' first
      | (with_reducible exact ih0 _ _ _ _ _ _ _ _ _)
      | (with_reducible exact ih1 _ _ _ _ _ _ _ _ _ _ _ _ _ _)
      | (with_reducible exact ih2 _ _ _ _ _ _ _ _ _ _ _ _ _ _ _ _)
      | (with_reducible exact ih3 _ _ _ _ _ _ _ _)
      | (with_reducible exact ih4 _ _ _ _ _ _ _ _)
      | (with_reducible exact ih5 _ _ _ _ _ _ _ _)
      | (with_reducible exact ih6 _ _ _ _ _ _ _ _ _)
      | (with_reducible exact ih7 _ _ _ _ _ _ _ _ _ _ _ _ _ _ _)
      | (with_reducible exact impl_LeastCounter.mono _ _ _ _ _)
      | (with_reducible exact impl_MostExtra.mono _ _ _ _ _)
      | (with_reducible exact impl_StandPlaces.mono _ _ _ _ _)
      | (with_reducible exact impl_TipSide.mono _ _ _ _)
      | (with_reducible exact spec_DrawLeastCounter.mono _ _)
      | (with_reducible exact spec_DrawStandPlaces.mono _ _)
      | (with_reducible exact spec_LeastCounter.mono _ _ _ _ _)
      | (with_reducible exact spec_MostExtra.mono _ _ _ _ _)
      | (with_reducible exact spec_StandPlaces.mono _ _ _ _ _)
      | (with_reducible exact LeO.refl _)
      | (with_reducible exact LeO.none _)
      | (with_reducible refine LeO.ite ?_ ?_)
      | (with_reducible refine LeO.bind ?_ (fun _ => ?_))
      | exact ih0 _ _ _ _ _ _ _ _ _
      | exact ih1 _ _ _ _ _ _ _ _ _ _ _ _ _ _
      | exact ih2 _ _ _ _ _ _ _ _ _ _ _ _ _ _ _ _
      | exact ih3 _ _ _ _ _ _ _ _
      | exact ih4 _ _ _ _ _ _ _ _
      | exact ih5 _ _ _ _ _ _ _ _
      | exact ih6 _ _ _ _ _ _ _ _ _
      | exact ih7 _ _ _ _ _ _ _ _ _ _ _ _ _ _ _
      | exact impl_LeastCounter.mono _ _ _ _ _
      | exact impl_MostExtra.mono _ _ _ _ _
      | exact impl_StandPlaces.mono _ _ _ _ _
      | exact impl_TipSide.mono _ _ _ _
      | exact spec_DrawLeastCounter.mono _ _
      | exact spec_DrawStandPlaces.mono _ _
      | exact spec_LeastCounter.mono _ _ _ _ _
      | exact spec_MostExtra.mono _ _ _ _ _
      | exact spec_StandPlaces.mono _ _ _ _ _
      | exact LeO.none _
      | refine LeO.ite ?_ ?_
      | refine LeO.bind ?_ (fun _ => ?_)
    · intro y0 y1 y2 y3 y4 y5 y6 y7 y8 y9 y10 y11 y12 y13 y14
      unfold laws_FnCounters.l0
      repeat' first
      | (with_reducible exact ih0 _ _ _ _ _ _ _ _ _)
      | (with_reducible exact ih1 _ _ _ _ _ _ _ _ _ _ _ _ _ _)
      | (with_reducible exact ih2 _ _ _ _ _ _ _ _ _ _ _ _ _ _ _ _)
      | (with_reducible exact ih3 _ _ _ _ _ _ _ _)
      | (with_reducible exact ih4 _ _ _ _ _ _ _ _)
      | (with_reducible exact ih5 _ _ _ _ _ _ _ _)
      | (with_reducible exact ih6 _ _ _ _ _ _ _ _ _)
      | (with_reducible exact ih7 _ _ _ _ _ _ _ _ _ _ _ _ _ _ _)
      | (with_reducible exact impl_LeastCounter.mono _ _ _ _ _)
      | (with_reducible exact impl_MostExtra.mono _ _ _ _ _)
      | (with_reducible exact impl_StandPlaces.mono _ _ _ _ _)
      | (with_reducible exact impl_TipSide.mono _ _ _ _)
      | (with_reducible exact spec_DrawLeastCounter.mono _ _)
      | (with_reducible exact spec_DrawStandPlaces.mono _ _)
      | (with_reducible exact spec_LeastCounter.mono _ _ _ _ _)
      | (with_reducible exact spec_MostExtra.mono _ _ _ _ _)
      | (with_reducible exact spec_StandPlaces.mono _ _ _ _ _)
      | (with_reducible exact LeO.refl _)
      | (with_reducible exact LeO.none _)
      | (with_reducible refine LeO.ite ?_ ?_)
      | (with_reducible refine LeO.bind ?_ (fun _ => ?_))
      | exact ih0 _ _ _ _ _ _ _ _ _
      | exact ih1 _ _ _ _ _ _ _ _ _ _ _ _ _ _
      | exact ih2 _ _ _ _ _ _ _ _ _ _ _ _ _ _ _ _
      | exact ih3 _ _ _ _ _ _ _ _
      | exact ih4 _ _ _ _ _ _ _ _
      | exact ih5 _ _ _ _ _ _ _ _
      | exact ih6 _ _ _ _ _ _ _ _ _
      | exact ih7 _ _ _ _ _ _ _ _ _ _ _ _ _ _ _
      | exact impl_LeastCounter.mono _ _ _ _ _
      | exact impl_MostExtra.mono _ _ _ _ _
      | exact impl_StandPlaces.mono _ _ _ _ _
      | exact impl_TipSide.mono _ _ _ _
      | exact spec_DrawLeastCounter.mono _ _
      | exact spec_DrawStandPlaces.mono _ _
      | exact spec_LeastCounter.mono _ _ _ _ _
      | exact spec_MostExtra.mono _ _ _ _ _
      | exact spec_StandPlaces.mono _ _ _ _ _
      | exact LeO.none _
      | refine LeO.ite ?_ ?_
      | refine LeO.bind ?_ (fun _ => ?_)
theorem laws_FnCounters.mono : ∀ a0 k, LeO (laws_FnCounters.f k a0) (laws_FnCounters.f (k + 1) a0) := by
  intro a0 k
  obtain ⟨ih0, ih1, ih2, ih3, ih4, ih5, ih6, ih7⟩ := laws_FnCounters.mono_l k
  unfold laws_FnCounters.f
  repeat' first
      | (with_reducible exact ih0 _ _ _ _ _ _ _ _ _)
      | (with_reducible exact ih1 _ _ _ _ _ _ _ _ _ _ _ _ _ _)
      | (with_reducible exact ih2 _ _ _ _ _ _ _ _ _ _ _ _ _ _ _ _)
      | (with_reducible exact ih3 _ _ _ _ _ _ _ _)
      | (with_reducible exact ih4 _ _ _ _ _ _ _ _)
      | (with_reducible exact ih5 _ _ _ _ _ _ _ _)
      | (with_reducible exact ih6 _ _ _ _ _ _ _ _ _)
      | (with_reducible exact ih7 _ _ _ _ _ _ _ _ _ _ _ _ _ _ _)
      | (with_reducible exact impl_LeastCounter.mono _ _ _ _ _)
      | (with_reducible exact impl_MostExtra.mono _ _ _ _ _)
      | (with_reducible exact impl_StandPlaces.mono _ _ _ _ _)
      | (with_reducible exact impl_TipSide.mono _ _ _ _)
      | (with_reducible exact spec_DrawLeastCounter.mono _ _)
      | (with_reducible exact spec_DrawStandPlaces.mono _ _)
      | (with_reducible exact spec_LeastCounter.mono _ _ _ _ _)
      | (with_reducible exact spec_MostExtra.mono _ _ _ _ _)
      | (with_reducible exact spec_StandPlaces.mono _ _ _ _ _)
      | (with_reducible exact LeO.refl _)
      | (with_reducible exact LeO.none _)
      | (with_reducible refine LeO.ite ?_ ?_)
      | (with_reducible refine LeO.bind ?_ (fun _ => ?_))
      | exact ih0 _ _ _ _ _ _ _ _ _
      | exact ih1 _ _ _ _ _ _ _ _ _ _ _ _ _ _
      | exact ih2 _ _ _ _ _ _ _ _ _ _ _ _ _ _ _ _
      | exact ih3 _ _ _ _ _ _ _ _
      | exact ih4 _ _ _ _ _ _ _ _
      | exact ih5 _ _ _ _ _ _ _ _
      | exact ih6 _ _ _ _ _ _ _ _ _
      | exact ih7 _ _ _ _ _ _ _ _ _ _ _ _ _ _ _
      | exact impl_LeastCounter.mono _ _ _ _ _
      | exact impl_MostExtra.mono _ _ _ _ _
      | exact impl_StandPlaces.mono _ _ _ _ _
      | exact impl_TipSide.mono _ _ _ _
      | exact spec_DrawLeastCounter.mono _ _
      | exact spec_DrawStandPlaces.mono _ _
      | exact spec_LeastCounter.mono _ _ _ _ _
      | exact spec_MostExtra.mono _ _ _ _ _
      | exact spec_StandPlaces.mono _ _ _ _ _
      | exact LeO.none _
      | refine LeO.ite ?_ ?_
      | refine LeO.bind ?_ (fun _ => ?_)
def laws_FnCounters.Pure : Prop := ∀ (l0 : List Int), l0.length ≤ maxLen → l0.length * 1 ≤ 140737488351232 → (∀ x ∈ l0, (Lit.int .u8 x).wf = true) → ∃ k, laws_FnCounters.f k l0 = some true
end Go.Proofs.Ytfjcnpoigndfjaa.PFnCounters
