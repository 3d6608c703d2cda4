-- Made by wip/pr.py of this repo over the kit's print (some contracts by hand).
import Derived.Test.YtgnmomdgfamhnaaPFnKitsx0
import Derived.Test.YtgnmomdgfamhnaaPFnKitsx2
import Derived.Test.YtgnmomdgfamhnaaPFnKitsx3
import Derived.Test.YtgnmomdgfamhnaaPFnKitsx4
import Derived.Test.YtgnmomdgfamhnaaPFnKitsx5
import Derived.Test.YtgnmomdgfamhnaaPFnKitsx6
import Derived.Test.YtgnmomdgfamhnaaPFnKitsx7
import Derived.Test.YtgnmomdgfamhnaaPFnKitsx8
import Derived.Test.YtgnmomdgfamhnaaPFnKitsx9
import Derived.Test.YtgnmomdgfamhnaaPFnKitsx10
namespace Go.Proofs.Ytgnmomdgfamhnaa.PFnKits
open Go.RowKit Go.Proofs.YtgnmomdgfamhnaaW.PrintWords Go.Proofs.YtgnmomdgfamhnaaW.PrintLast Go.Proofs.YtgnmomdgfamhnaaW.PrintMore
attribute [local go_sem] max2_int min2_int max_two min_two max_three min_three max_four min_four   -- for this text's walks alone
set_option linter.unusedVariables false
set_option linter.unusedSimpArgs false

/-! ### laws_FnKits: function 4 -/
mutual
def laws_FnKits.j0 : Nat → List Int → Int → List Int → Bool → List Int → Bool → List Int → List Int → Bool → Int → Bool → Int → List Int → Bool → List Int → Bool → List Int → List Int → Int → List (S96) → Bool → Bool → Option (Bool)
  | 0, _, _, _, _, _, _, _, _, _, _, _, _, _, _, _, _, _, _, _, _, _, _ => none
  | k + 1, x3, x4, x5, x6, x9, x10, x13, x17, x18, x19, x20, x23, x24, x25, x28, x29, x32, x33, x34, x35, x36, x246 => if x246 = true then (some false) else (if x20 = true then (laws_FnKits.j1 k x3 x4 x5 x6 x9 x10 x13 x17 x19 x23 x24 x25 x28 x29 x32 x33 x34 x35 x36 x18) else (laws_FnKits.j1 k x3 x4 x5 x6 x9 x10 x13 x17 x19 x23 x24 x25 x28 x29 x32 x33 x34 x35 x36 false))
def laws_FnKits.j1 : Nat → List Int → Int → List Int → Bool → List Int → Bool → List Int → List Int → Int → Int → List Int → Bool → List Int → Bool → List Int → List Int → Int → List (S96) → Bool → Bool → Option (Bool)
  | 0, _, _, _, _, _, _, _, _, _, _, _, _, _, _, _, _, _, _, _, _ => none
  | k + 1, x3, x4, x5, x6, x9, x10, x13, x17, x19, x23, x24, x25, x28, x29, x32, x33, x34, x35, x36, x250 => if x250 = true then ((impl_KitRange.f k x17 false).bind fun bt484 => (if bt484.2 = true then (if bt484.1 > x19 then (some false) else (laws_FnKits.j2 k x3 x4 x5 x6 x9 x10 x13 x23 x24 x25 x28 x29 x32 x33 x34 x35 x36)) else (some false))) else (laws_FnKits.j2 k x3 x4 x5 x6 x9 x10 x13 x23 x24 x25 x28 x29 x32 x33 x34 x35 x36)
def laws_FnKits.j2 : Nat → List Int → Int → List Int → Bool → List Int → Bool → List Int → Int → List Int → Bool → List Int → Bool → List Int → List Int → Int → List (S96) → Bool → Option (Bool)
  | 0, _, _, _, _, _, _, _, _, _, _, _, _, _, _, _, _, _ => none
  | k + 1, x3, x4, x5, x6, x9, x10, x13, x23, x24, x25, x28, x29, x32, x33, x34, x35, x36 => laws_FnKits.l0 k x3 x4 x5 x6 x9 x10 x13 x23 x24 x25 x28 x29 x32 x33 x34 x35 x36 1 1 0
def laws_FnKits.j4 : Nat → List Int → Int → List Int → Bool → List Int → Bool → List Int → List Int → Bool → List Int → Bool → List Int → List Int → Int → List (S96) → Bool → Int → Int → Option (Bool)
  | 0, _, _, _, _, _, _, _, _, _, _, _, _, _, _, _, _, _, _ => none
  | k + 1, x3, x4, x5, x6, x9, x10, x13, x24, x25, x28, x29, x32, x33, x34, x35, x36, x41, x42 => if x25 = true then ((impl_KitRange.f k x24 true).bind fun bt486 => (if bt486.2 = true then (if bt486.1 = (wrap64 (Int.tdiv (wrap64 (x41 - 1)) 2)) then (laws_FnKits.j5 k x3 x4 x5 x6 x9 x10 x13 x28 x29 x32 x33 x34 x35 x36 x42) else (some false)) else (some false))) else (laws_FnKits.j5 k x3 x4 x5 x6 x9 x10 x13 x28 x29 x32 x33 x34 x35 x36 x42)
def laws_FnKits.j5 : Nat → List Int → Int → List Int → Bool → List Int → Bool → List Int → List Int → Bool → List Int → List Int → Int → List (S96) → Bool → Int → Option (Bool)
  | 0, _, _, _, _, _, _, _, _, _, _, _, _, _, _, _ => none
  | k + 1, x3, x4, x5, x6, x9, x10, x13, x28, x29, x32, x33, x34, x35, x36, x42 => if x29 = true then ((impl_KitRange.f k x28 false).bind fun bt488 => (if bt488.2 = true then (if bt488.1 = (wrap64 (x42 - 1)) then (laws_FnKits.j6 k x3 x4 x5 x6 x9 x10 x13 x32 x33 x34 x35 x36) else (some false)) else (some false))) else (laws_FnKits.j6 k x3 x4 x5 x6 x9 x10 x13 x32 x33 x34 x35 x36)
def laws_FnKits.j6 : Nat → List Int → Int → List Int → Bool → List Int → Bool → List Int → List Int → List Int → Int → List (S96) → Bool → Option (Bool)
  | 0, _, _, _, _, _, _, _, _, _, _, _, _ => none
  | k + 1, x3, x4, x5, x6, x9, x10, x13, x32, x33, x34, x35, x36 => if x36 = true then ((impl_MomentAbout.f k x35 30).bind fun bt490 => (laws_FnKits.l1 k x3 x4 x5 x6 x9 x10 x13 x32 x33 x34 bt490.1 bt490.2 0 0)) else (laws_FnKits.j8 k x3 x4 x5 x6 x9 x10 x13)
def laws_FnKits.j8 : Nat → List Int → Int → List Int → Bool → List Int → Bool → List Int → Option (Bool)
  | 0, _, _, _, _, _, _, _ => none
  | k + 1, x3, x4, x5, x6, x9, x10, x13 => if x10 = true then (laws_FnKits.l2 k x3 x4 x5 x6 x9 x13 0) else (some (!x6))
def laws_FnKits.l2 : Nat → List Int → Int → List Int → Bool → List Int → List Int → Int → Option (Bool)
  | 0, _, _, _, _, _, _, _ => none
  | k + 1, x3, x4, x5, x6, x9, x13, x52 => if x52 < (x9.length : Int) then (if 0 ≤ x52 then ((laws_vHas.f k x13 (rd x9 x52)).bind fun t495 => (if t495 = true then (laws_FnKits.l2 k x3 x4 x5 x6 x9 x13 (wrap64 (x52 + 1))) else (some false))) else (none)) else (if x4 ≥ 1 then ((laws_vHas.f k x13 x4).bind fun t496 => (laws_FnKits.j10 k x3 x4 x5 x6 (x6 != t496))) else (laws_FnKits.j10 k x3 x4 x5 x6 false))
def laws_FnKits.j10 : Nat → List Int → Int → List Int → Bool → Bool → Option (Bool)
  | 0, _, _, _, _, _ => none
  | k + 1, x3, x4, x5, x6, x363 => if x363 = true then (some false) else (if x6 = true then (laws_FnKits.l3 k x3 x4 x5 0 0) else (some true))
def laws_FnKits.l3 : Nat → List Int → Int → List Int → Int → Int → Option (Bool)
  | 0, _, _, _, _, _ => none
  | k + 1, x3, x4, x5, x53, x54 => if x54 < (x3.length : Int) then (if 0 ≤ x54 then (if x54 < (x5.length : Int) then (laws_FnKits.l3 k x3 x4 x5 (wrap64 (x53 + (wrap64 ((rd x3 x54) * (rd x5 x54))))) (wrap64 (x54 + 1))) else (none)) else (none)) else (some (x53 == x4))
def laws_FnKits.l1 : Nat → List Int → Int → List Int → Bool → List Int → Bool → List Int → List Int → List Int → Int → Int → Bool → Int → Int → Option (Bool)
  | 0, _, _, _, _, _, _, _, _, _, _, _, _, _, _ => none
  | k + 1, x3, x4, x5, x6, x9, x10, x13, x32, x33, x34, x48, x49, x50, x51 => if x51 < (x32.length : Int) then (if 0 ≤ x51 then (if x51 < (x33.length : Int) then (laws_FnKits.l1 k x3 x4 x5 x6 x9 x10 x13 x32 x33 x34 x48 x49 (wrap64 (x50 + (wrap64 ((rd x32 x51) * (rd x33 x51))))) (wrap64 (x51 + 1))) else (none)) else (none)) else (if x49 = true then (if ((x48 == 0) != (x50 == x34)) = true then (some false) else (laws_FnKits.j8 k x3 x4 x5 x6 x9 x10 x13)) else (some false))
def laws_FnKits.l0 : Nat → List Int → Int → List Int → Bool → List Int → Bool → List Int → Int → List Int → Bool → List Int → Bool → List Int → List Int → Int → List (S96) → Bool → Int → Int → Int → Option (Bool)
  | 0, _, _, _, _, _, _, _, _, _, _, _, _, _, _, _, _, _, _, _, _ => none
  | k + 1, x3, x4, x5, x6, x9, x10, x13, x23, x24, x25, x28, x29, x32, x33, x34, x35, x36, x41, x42, x43 => if x43 < x23 then (if x43 < 7 then (laws_FnKits.l0 k x3 x4 x5 x6 x9 x10 x13 x23 x24 x25 x28 x29 x32 x33 x34 x35 x36 (wrap64 (3 * x41)) (wrap64 (2 * x42)) (wrap64 (x43 + 1))) else (laws_FnKits.j4 k x3 x4 x5 x6 x9 x10 x13 x24 x25 x28 x29 x32 x33 x34 x35 x36 x41 x42)) else (laws_FnKits.j4 k x3 x4 x5 x6 x9 x10 x13 x24 x25 x28 x29 x32 x33 x34 x35 x36 x41 x42)
end
def laws_FnKits.f (k : Nat) (l0 : List Int) : Option (Bool) := (laws_vBig.f l0).bind fun t400 => (if t400 = true then (some true) else ((spec_DrawHowToWeigh.f k l0).bind fun bt401 => ((impl_HowToWeigh.f k bt401.1 bt401.2).bind fun bt405 => ((spec_HowToWeigh.f k bt401.1 bt401.2).bind fun bt409 => ((impl_WeighOne.f k bt401.1).bind fun bt413 => ((spec_WeighOne.f k bt401.1).bind fun bt417 => ((impl_WeighTwo.f k bt401.1).bind fun bt421 => ((spec_WeighTwo.f k bt401.1).bind fun bt425 => ((laws_vCut.f l0 1).bind fun t429 => ((spec_DrawKitRange.f k t429).bind fun bt432 => ((impl_KitRange.f k bt432.1 bt432.2).bind fun bt436 => ((spec_KitRange.f k bt432.1 bt432.2).bind fun bt438 => ((laws_vCut.f l0 2).bind fun t440 => ((spec_DrawThreesKit.f t440).bind fun t443 => ((impl_ThreesKit.f k t443).bind fun bt444 => ((spec_ThreesKit.f k t443).bind fun bt448 => ((impl_TwosKit.f k t443).bind fun bt452 => ((spec_TwosKit.f k t443).bind fun bt456 => ((spec_DrawPanRow.f k l0).bind fun bt460 => ((impl_PanRow.f k bt460.1 bt460.2.1 bt460.2.2).bind fun bt467 => ((spec_PanRow.f k bt460.1 bt460.2.1 bt460.2.2).bind fun bt471 => (if (bt405.2 != bt409.2) = true then (laws_FnKits.j0 k bt401.1 bt401.2 bt405.1 bt405.2 bt413.1 bt413.2 bt421.1 bt432.1 bt432.2 bt436.1 bt436.2 t443 bt444.1 bt444.2 bt452.1 bt452.2 bt460.1 bt460.2.1 bt460.2.2 bt467.1 bt467.2 true) else ((laws_vInts.f k bt405.1 bt409.1).bind fun t475 => (if t475 = true then (if (bt413.2 != bt417.2) = true then (laws_FnKits.j0 k bt401.1 bt401.2 bt405.1 bt405.2 bt413.1 bt413.2 bt421.1 bt432.1 bt432.2 bt436.1 bt436.2 t443 bt444.1 bt444.2 bt452.1 bt452.2 bt460.1 bt460.2.1 bt460.2.2 bt467.1 bt467.2 true) else ((laws_vInts.f k bt413.1 bt417.1).bind fun t476 => (if t476 = true then (if (bt421.2 != bt425.2) = true then (laws_FnKits.j0 k bt401.1 bt401.2 bt405.1 bt405.2 bt413.1 bt413.2 bt421.1 bt432.1 bt432.2 bt436.1 bt436.2 t443 bt444.1 bt444.2 bt452.1 bt452.2 bt460.1 bt460.2.1 bt460.2.2 bt467.1 bt467.2 true) else ((laws_vInts.f k bt421.1 bt425.1).bind fun t477 => (if t477 = true then (if bt436.1 = bt438.1 then (if (bt436.2 != bt438.2) = true then (laws_FnKits.j0 k bt401.1 bt401.2 bt405.1 bt405.2 bt413.1 bt413.2 bt421.1 bt432.1 bt432.2 bt436.1 bt436.2 t443 bt444.1 bt444.2 bt452.1 bt452.2 bt460.1 bt460.2.1 bt460.2.2 bt467.1 bt467.2 true) else (if (bt444.2 != bt448.2) = true then (laws_FnKits.j0 k bt401.1 bt401.2 bt405.1 bt405.2 bt413.1 bt413.2 bt421.1 bt432.1 bt432.2 bt436.1 bt436.2 t443 bt444.1 bt444.2 bt452.1 bt452.2 bt460.1 bt460.2.1 bt460.2.2 bt467.1 bt467.2 true) else ((laws_vInts.f k bt444.1 bt448.1).bind fun t478 => (if t478 = true then (if (bt452.2 != bt456.2) = true then (laws_FnKits.j0 k bt401.1 bt401.2 bt405.1 bt405.2 bt413.1 bt413.2 bt421.1 bt432.1 bt432.2 bt436.1 bt436.2 t443 bt444.1 bt444.2 bt452.1 bt452.2 bt460.1 bt460.2.1 bt460.2.2 bt467.1 bt467.2 true) else ((laws_vInts.f k bt452.1 bt456.1).bind fun t479 => (if t479 = true then (if (bt467.2 != bt471.2) = true then (laws_FnKits.j0 k bt401.1 bt401.2 bt405.1 bt405.2 bt413.1 bt413.2 bt421.1 bt432.1 bt432.2 bt436.1 bt436.2 t443 bt444.1 bt444.2 bt452.1 bt452.2 bt460.1 bt460.2.1 bt460.2.2 bt467.1 bt467.2 true) else ((laws_vRow.f k bt467.1 bt471.1).bind fun t480 => (if t480 = true then ((impl_IsKit.f k bt401.1).bind fun t481 => ((spec_IsKit.f k bt401.1).bind fun t482 => (if (t481 != t482) = true then (laws_FnKits.j0 k bt401.1 bt401.2 bt405.1 bt405.2 bt413.1 bt413.2 bt421.1 bt432.1 bt432.2 bt436.1 bt436.2 t443 bt444.1 bt444.2 bt452.1 bt452.2 bt460.1 bt460.2.1 bt460.2.2 bt467.1 bt467.2 true) else ((impl_IsKit.f k bt401.1).bind fun t483 => (if (bt413.2 != t483) = true then (laws_FnKits.j0 k bt401.1 bt401.2 bt405.1 bt405.2 bt413.1 bt413.2 bt421.1 bt432.1 bt432.2 bt436.1 bt436.2 t443 bt444.1 bt444.2 bt452.1 bt452.2 bt460.1 bt460.2.1 bt460.2.2 bt467.1 bt467.2 true) else (laws_FnKits.j0 k bt401.1 bt401.2 bt405.1 bt405.2 bt413.1 bt413.2 bt421.1 bt432.1 bt432.2 bt436.1 bt436.2 t443 bt444.1 bt444.2 bt452.1 bt452.2 bt460.1 bt460.2.1 bt460.2.2 bt467.1 bt467.2 (bt413.2 != bt421.2))))))) else (laws_FnKits.j0 k bt401.1 bt401.2 bt405.1 bt405.2 bt413.1 bt413.2 bt421.1 bt432.1 bt432.2 bt436.1 bt436.2 t443 bt444.1 bt444.2 bt452.1 bt452.2 bt460.1 bt460.2.1 bt460.2.2 bt467.1 bt467.2 true)))) else (laws_FnKits.j0 k bt401.1 bt401.2 bt405.1 bt405.2 bt413.1 bt413.2 bt421.1 bt432.1 bt432.2 bt436.1 bt436.2 t443 bt444.1 bt444.2 bt452.1 bt452.2 bt460.1 bt460.2.1 bt460.2.2 bt467.1 bt467.2 true)))) else (laws_FnKits.j0 k bt401.1 bt401.2 bt405.1 bt405.2 bt413.1 bt413.2 bt421.1 bt432.1 bt432.2 bt436.1 bt436.2 t443 bt444.1 bt444.2 bt452.1 bt452.2 bt460.1 bt460.2.1 bt460.2.2 bt467.1 bt467.2 true))))) else (laws_FnKits.j0 k bt401.1 bt401.2 bt405.1 bt405.2 bt413.1 bt413.2 bt421.1 bt432.1 bt432.2 bt436.1 bt436.2 t443 bt444.1 bt444.2 bt452.1 bt452.2 bt460.1 bt460.2.1 bt460.2.2 bt467.1 bt467.2 true)) else (laws_FnKits.j0 k bt401.1 bt401.2 bt405.1 bt405.2 bt413.1 bt413.2 bt421.1 bt432.1 bt432.2 bt436.1 bt436.2 t443 bt444.1 bt444.2 bt452.1 bt452.2 bt460.1 bt460.2.1 bt460.2.2 bt467.1 bt467.2 true)))) else (laws_FnKits.j0 k bt401.1 bt401.2 bt405.1 bt405.2 bt413.1 bt413.2 bt421.1 bt432.1 bt432.2 bt436.1 bt436.2 t443 bt444.1 bt444.2 bt452.1 bt452.2 bt460.1 bt460.2.1 bt460.2.2 bt467.1 bt467.2 true)))) else (laws_FnKits.j0 k bt401.1 bt401.2 bt405.1 bt405.2 bt413.1 bt413.2 bt421.1 bt432.1 bt432.2 bt436.1 bt436.2 t443 bt444.1 bt444.2 bt452.1 bt452.2 bt460.1 bt460.2.1 bt460.2.2 bt467.1 bt467.2 true)))))))))))))))))))))))))
theorem laws_FnKits.mono_l : ∀ k, (∀ y0 y1 y2 y3 y4 y5 y6 y7 y8 y9 y10 y11 y12 y13 y14 y15 y16 y17 y18 y19 y20 y21, LeO (laws_FnKits.j0 k y0 y1 y2 y3 y4 y5 y6 y7 y8 y9 y10 y11 y12 y13 y14 y15 y16 y17 y18 y19 y20 y21) (laws_FnKits.j0 (k + 1) y0 y1 y2 y3 y4 y5 y6 y7 y8 y9 y10 y11 y12 y13 y14 y15 y16 y17 y18 y19 y20 y21)) ∧ (∀ y0 y1 y2 y3 y4 y5 y6 y7 y8 y9 y10 y11 y12 y13 y14 y15 y16 y17 y18 y19, LeO (laws_FnKits.j1 k y0 y1 y2 y3 y4 y5 y6 y7 y8 y9 y10 y11 y12 y13 y14 y15 y16 y17 y18 y19) (laws_FnKits.j1 (k + 1) y0 y1 y2 y3 y4 y5 y6 y7 y8 y9 y10 y11 y12 y13 y14 y15 y16 y17 y18 y19)) ∧ (∀ y0 y1 y2 y3 y4 y5 y6 y7 y8 y9 y10 y11 y12 y13 y14 y15 y16, LeO (laws_FnKits.j2 k y0 y1 y2 y3 y4 y5 y6 y7 y8 y9 y10 y11 y12 y13 y14 y15 y16) (laws_FnKits.j2 (k + 1) y0 y1 y2 y3 y4 y5 y6 y7 y8 y9 y10 y11 y12 y13 y14 y15 y16)) ∧ (∀ y0 y1 y2 y3 y4 y5 y6 y7 y8 y9 y10 y11 y12 y13 y14 y15 y16 y17, LeO (laws_FnKits.j4 k y0 y1 y2 y3 y4 y5 y6 y7 y8 y9 y10 y11 y12 y13 y14 y15 y16 y17) (laws_FnKits.j4 (k + 1) y0 y1 y2 y3 y4 y5 y6 y7 y8 y9 y10 y11 y12 y13 y14 y15 y16 y17)) ∧ (∀ y0 y1 y2 y3 y4 y5 y6 y7 y8 y9 y10 y11 y12 y13 y14, LeO (laws_FnKits.j5 k y0 y1 y2 y3 y4 y5 y6 y7 y8 y9 y10 y11 y12 y13 y14) (laws_FnKits.j5 (k + 1) y0 y1 y2 y3 y4 y5 y6 y7 y8 y9 y10 y11 y12 y13 y14)) ∧ (∀ y0 y1 y2 y3 y4 y5 y6 y7 y8 y9 y10 y11, LeO (laws_FnKits.j6 k y0 y1 y2 y3 y4 y5 y6 y7 y8 y9 y10 y11) (laws_FnKits.j6 (k + 1) y0 y1 y2 y3 y4 y5 y6 y7 y8 y9 y10 y11)) ∧ (∀ y0 y1 y2 y3 y4 y5 y6, LeO (laws_FnKits.j8 k y0 y1 y2 y3 y4 y5 y6) (laws_FnKits.j8 (k + 1) y0 y1 y2 y3 y4 y5 y6)) ∧ (∀ y0 y1 y2 y3 y4 y5 y6, LeO (laws_FnKits.l2 k y0 y1 y2 y3 y4 y5 y6) (laws_FnKits.l2 (k + 1) y0 y1 y2 y3 y4 y5 y6)) ∧ (∀ y0 y1 y2 y3 y4, LeO (laws_FnKits.j10 k y0 y1 y2 y3 y4) (laws_FnKits.j10 (k + 1) y0 y1 y2 y3 y4)) ∧ (∀ y0 y1 y2 y3 y4, LeO (laws_FnKits.l3 k y0 y1 y2 y3 y4) (laws_FnKits.l3 (k + 1) y0 y1 y2 y3 y4)) ∧ (∀ y0 y1 y2 y3 y4 y5 y6 y7 y8 y9 y10 y11 y12 y13, LeO (laws_FnKits.l1 k y0 y1 y2 y3 y4 y5 y6 y7 y8 y9 y10 y11 y12 y13) (laws_FnKits.l1 (k + 1) y0 y1 y2 y3 y4 y5 y6 y7 y8 y9 y10 y11 y12 y13)) ∧ (∀ y0 y1 y2 y3 y4 y5 y6 y7 y8 y9 y10 y11 y12 y13 y14 y15 y16 y17 y18 y19, LeO (laws_FnKits.l0 k y0 y1 y2 y3 y4 y5 y6 y7 y8 y9 y10 y11 y12 y13 y14 y15 y16 y17 y18 y19) (laws_FnKits.l0 (k + 1) y0 y1 y2 y3 y4 y5 y6 y7 y8 y9 y10 y11 y12 y13 y14 y15 y16 y17 y18 y19))
  | 0 => ⟨fun _ _ _ _ _ _ _ _ _ _ _ _ _ _ _ _ _ _ _ _ _ _ r h => by simp [laws_FnKits.j0] at h, fun _ _ _ _ _ _ _ _ _ _ _ _ _ _ _ _ _ _ _ _ r h => by simp [laws_FnKits.j1] at h, fun _ _ _ _ _ _ _ _ _ _ _ _ _ _ _ _ _ r h => by simp [laws_FnKits.j2] at h, fun _ _ _ _ _ _ _ _ _ _ _ _ _ _ _ _ _ _ r h => by simp [laws_FnKits.j4] at h, fun _ _ _ _ _ _ _ _ _ _ _ _ _ _ _ r h => by simp [laws_FnKits.j5] at h, fun _ _ _ _ _ _ _ _ _ _ _ _ r h => by simp [laws_FnKits.j6] at h, fun _ _ _ _ _ _ _ r h => by simp [laws_FnKits.j8] at h, fun _ _ _ _ _ _ _ r h => by simp [laws_FnKits.l2] at h, fun _ _ _ _ _ r h => by simp [laws_FnKits.j10] at h, fun _ _ _ _ _ r h => by simp [laws_FnKits.l3] at h, fun _ _ _ _ _ _ _ _ _ _ _ _ _ _ r h => by simp [laws_FnKits.l1] at h, fun _ _ _ _ _ _ _ _ _ _ _ _ _ _ _ _ _ _ _ _ r h => by simp [laws_FnKits.l0] at h⟩
  | k + 1 => by
    obtain ⟨ih0, ih1, ih2, ih3, ih4, ih5, ih6, ih7, ih8, ih9, ih10, ih11⟩ := laws_FnKits.mono_l k
    refine ⟨?_, ?_, ?_, ?_, ?_, ?_, ?_, ?_, ?_, ?_, ?_, ?_⟩
    · intro y0 y1 y2 y3 y4 y5 y6 y7 y8 y9 y10 y11 y12 y13 y14 y15 y16 y17 y18 y19 y20 y21
      unfold laws_FnKits.j0
      repeat' first
      | (with_reducible exact ih0 _ _ _ _ _ _ _ _ _ _ _ _ _ _ _ _ _ _ _ _ _ _)
      | (with_reducible exact ih1 _ _ _ _ _ _ _ _ _ _ _ _ _ _ _ _ _ _ _ _)
      | (with_reducible exact ih2 _ _ _ _ _ _ _ _ _ _ _ _ _ _ _ _ _)
      | (with_reducible exact ih3 _ _ _ _ _ _ _ _ _ _ _ _ _ _ _ _ _ _)
      | (with_reducible exact ih4 _ _ _ _ _ _ _ _ _ _ _ _ _ _ _)
      | (with_reducible exact ih5 _ _ _ _ _ _ _ _ _ _ _ _)
      | (with_reducible exact ih6 _ _ _ _ _ _ _)
      | (with_reducible exact ih7 _ _ _ _ _ _ _)
      | (with_reducible exact ih8 _ _ _ _ _)
      | (with_reducible exact ih9 _ _ _ _ _)
      | (with_reducible exact ih10 _ _ _ _ _ _ _ _ _ _ _ _ _ _)
      | (with_reducible exact ih11 _ _ _ _ _ _ _ _ _ _ _ _ _ _ _ _ _ _ _ _)
      | (with_reducible exact impl_HowToWeigh.mono _ _ _)
      | (with_reducible exact impl_IsKit.mono _ _)
      | (with_reducible exact impl_KitRange.mono _ _ _)
      | (with_reducible exact impl_MomentAbout.mono _ _ _)
      | (with_reducible exact impl_PanRow.mono _ _ _ _)
      | (with_reducible exact impl_ThreesKit.mono _ _)
      | (with_reducible exact impl_TwosKit.mono _ _)
      | (with_reducible exact impl_WeighOne.mono _ _)
      | (with_reducible exact impl_WeighTwo.mono _ _)
      | (with_reducible exact laws_vHas.mono _ _ _)
      | (with_reducible exact laws_vInts.mono _ _ _)
      | (with_reducible exact laws_vRow.mono _ _ _)
      | (with_reducible exact spec_DrawHowToWeigh.mono _ _)
      | (with_reducible exact spec_DrawKitRange.mono _ _)
      | (with_reducible exact spec_DrawPanRow.mono _ _)
      | (with_reducible exact spec_HowToWeigh.mono _ _ _)
      | (with_reducible exact spec_IsKit.mono _ _)
      | (with_reducible exact spec_KitRange.mono _ _ _)
      | (with_reducible exact spec_PanRow.mono _ _ _ _)
      | (with_reducible exact spec_ThreesKit.mono _ _)
      | (with_reducible exact spec_TwosKit.mono _ _)
      | (with_reducible exact spec_WeighOne.mono _ _)
      | (with_reducible exact spec_WeighTwo.mono _ _)
      | (with_reducible exact LeO.refl _)
      | (with_reducible exact LeO.none _)
      | (with_reducible refine LeO.ite ?_ ?_)
      | (with_reducible refine LeO.bind ?_ (fun _ => ?_))
      | exact ih0 _ _ _ _ _ _ _ _ _ _ _ _ _ _ _ _ _ _ _ _ _ _
      | exact ih1 _ _ _ _ _ _ _ _ _ _ _ _ _ _ _ _ _ _ _ _
      | exact ih2 _ _ _ _ _ _ _ _ _ _ _ _ _ _ _ _ _
      | exact ih3 _ _ _ _ _ _ _ _ _ _ _ _ _ _ _ _ _ _
      | exact ih4 _ _ _ _ _ _ _ _ _ _ _ _ _ _ _
      | exact ih5 _ _ _ _ _ _ _ _ _ _ _ _
      | exact ih6 _ _ _ _ _ _ _
      | exact ih7 _ _ _ _ _ _ _
      | exact ih8 _ _ _ _ _
      | exact ih9 _ _ _ _ _
      | exact ih10 _ _ _ _ _ _ _ _ _ _ _ _ _ _
      | exact ih11 _ _ _ _ _ _ _ _ _ _ _ _ _ _ _ _ _ _ _ _
      | exact impl_HowToWeigh.mono _ _ _
      | exact impl_IsKit.mono _ _
      | exact impl_KitRange.mono _ _ _
      | exact impl_MomentAbout.mono _ _ _
      | exact impl_PanRow.mono _ _ _ _
      | exact impl_ThreesKit.mono _ _
      | exact impl_TwosKit.mono _ _
      | exact impl_WeighOne.mono _ _
      | exact impl_WeighTwo.mono _ _
      | exact laws_vHas.mono _ _ _
      | exact laws_vInts.mono _ _ _
      | exact laws_vRow.mono _ _ _
      | exact spec_DrawHowToWeigh.mono _ _
      | exact spec_DrawKitRange.mono _ _
      | exact spec_DrawPanRow.mono _ _
      | exact spec_HowToWeigh.mono _ _ _
      | exact spec_IsKit.mono _ _
      | exact spec_KitRange.mono _ _ _
      | exact spec_PanRow.mono _ _ _ _
      | exact spec_ThreesKit.mono _ _
      | exact spec_TwosKit.mono _ _
      | exact spec_WeighOne.mono _ _
      | exact spec_WeighTwo.mono _ _
      | exact LeO.none _
      | refine LeO.ite ?_ ?_
      | refine LeO.bind ?_ (fun _ => ?_)
    · intro y0 y1 y2 y3 y4 y5 y6 y7 y8 y9 y10 y11 y12 y13 y14 y15 y16 y17 y18 y19
      unfold laws_FnKits.j1
      repeat' first
      | (with_reducible exact ih0 _ _ _ _ _ _ _ _ _ _ _ _ _ _ _ _ _ _ _ _ _ _)
      | (with_reducible exact ih1 _ _ _ _ _ _ _ _ _ _ _ _ _ _ _ _ _ _ _ _)
      | (with_reducible exact ih2 _ _ _ _ _ _ _ _ _ _ _ _ _ _ _ _ _)
      | (with_reducible exact ih3 _ _ _ _ _ _ _ _ _ _ _ _ _ _ _ _ _ _)
      | (with_reducible exact ih4 _ _ _ _ _ _ _ _ _ _ _ _ _ _ _)
      | (with_reducible exact ih5 _ _ _ _ _ _ _ _ _ _ _ _)
      | (with_reducible exact ih6 _ _ _ _ _ _ _)
      | (with_reducible exact ih7 _ _ _ _ _ _ _)
      | (with_reducible exact ih8 _ _ _ _ _)
      | (with_reducible exact ih9 _ _ _ _ _)
      | (with_reducible exact ih10 _ _ _ _ _ _ _ _ _ _ _ _ _ _)
      | (with_reducible exact ih11 _ _ _ _ _ _ _ _ _ _ _ _ _ _ _ _ _ _ _ _)
      | (with_reducible exact impl_HowToWeigh.mono _ _ _)
      | (with_reducible exact impl_IsKit.mono _ _)
      | (with_reducible exact impl_KitRange.mono _ _ _)
      | (with_reducible exact impl_MomentAbout.mono _ _ _)
      | (with_reducible exact impl_PanRow.mono _ _ _ _)
      | (with_reducible exact impl_ThreesKit.mono _ _)
      | (with_reducible exact impl_TwosKit.mono _ _)
      | (with_reducible exact impl_WeighOne.mono _ _)
      | (with_reducible exact impl_WeighTwo.mono _ _)
      | (with_reducible exact laws_vHas.mono _ _ _)
      | (with_reducible exact laws_vInts.mono _ _ _)
      | (with_reducible exact laws_vRow.mono _ _ _)
      | (with_reducible exact spec_DrawHowToWeigh.mono _ _)
      | (with_reducible exact spec_DrawKitRange.mono _ _)
      | (with_reducible exact spec_DrawPanRow.mono _ _)
      | (with_reducible exact spec_HowToWeigh.mono _ _ _)
      | (with_reducible exact spec_IsKit.mono _ _)
      | (with_reducible exact spec_KitRange.mono _ _ _)
      | (with_reducible exact spec_PanRow.mono _ _ _ _)
      | (with_reducible exact spec_ThreesKit.mono _ _)
      | (with_reducible exact spec_TwosKit.mono _ _)
      | (with_reducible exact spec_WeighOne.mono _ _)
      | (with_reducible exact spec_WeighTwo.mono _ _)
      | (with_reducible exact LeO.refl _)
      | (with_reducible exact LeO.none _)
      | (with_reducible refine LeO.ite ?_ ?_)
      | (with_reducible refine LeO.bind ?_ (fun _ => ?_))
      | exact ih0 _ _ _ _ _ _ _ _ _ _ _ _ _ _ _ _ _ _ _ _ _ _
      | exact ih1 _ _ _ _ _ _ _ _ _ _ _ _ _ _ _ _ _ _ _ _
      | exact ih2 _ _ _ _ _ _ _ _ _ _ _ _ _ _ _ _ _
      | exact ih3 _ _ _ _ _ _ _ _ _ _ _ _ _ _ _ _ _ _
      | exact ih4 _ _ _ _ _ _ _ _ _ _ _ _ _ _ _
      | exact ih5 _ _ _ _ _ _ _ _ _ _ _ _
      | exact ih6 _ _ _ _ _ _ _
      | exact ih7 _ _ _ _ _ _ _
      | exact ih8 _ _ _ _ _
      | exact ih9 _ _ _ _ _
      | exact ih10 _ _ _ _ _ _ _ _ _ _ _ _ _ _
      | exact ih11 _ _ _ _ _ _ _ _ _ _ _ _ _ _ _ _ _ _ _ _
      | exact impl_HowToWeigh.mono _ _ _
      | exact impl_IsKit.mono _ _
      | exact impl_KitRange.mono _ _ _
      | exact impl_MomentAbout.mono _ _ _
      | exact impl_PanRow.mono _ _ _ _
      | exact impl_ThreesKit.mono _ _
      | exact impl_TwosKit.mono _ _
      | exact impl_WeighOne.mono _ _
      | exact impl_WeighTwo.mono _ _
      | exact laws_vHas.mono _ _ _
      | exact laws_vInts.mono _ _ _
      | exact laws_vRow.mono _ _ _
      | exact spec_DrawHowToWeigh.mono _ _
      | exact spec_DrawKitRange.mono _ _
      | exact spec_DrawPanRow.mono _ _
      | exact spec_HowToWeigh.mono _ _ _
      | exact spec_IsKit.mono _ _
      | exact spec_KitRange.mono _ _ _
      | exact spec_PanRow.mono _ _ _ _
      | exact spec_ThreesKit.mono _ _
      | exact spec_TwosKit.mono _ _
      | exact spec_WeighOne.mono _ _
      | exact spec_WeighTwo.mono _ _
      | exact LeO.none _
      | refine LeO.ite ?_ ?_
      | refine LeO.bind ?_ (fun _ => ?_)
    · intro y0 y1 y2 y3 y4 y5 y6 y7 y8 y9 y10 y11 y12 y13 y14 y15 y16
      unfold laws_FnKits.j2
      repeat' first
      | (with_reducible exact ih0 _ _ _ _ _ _ _ _ _ _ _ _ _ _ _ _ _ _ _ _ _ _)
      | (with_reducible exact ih1 _ _ _ _ _ _ _ _ _ _ _ _ _ _ _ _ _ _ _ _)
      | (with_reducible exact ih2 _ _ _ _ _ _ _ _ _ _ _ _ _ _ _ _ _)
      | (with_reducible exact ih3 _ _ _ _ _ _ _ _ _ _ _ _ _ _ _ _ _ _)
      | (with_reducible exact ih4 _ _ _ _ _ _ _ _ _ _ _ _ _ _ _)
      | (with_reducible exact ih5 _ _ _ _ _ _ _ _ _ _ _ _)
      | (with_reducible exact ih6 _ _ _ _ _ _ _)
      | (with_reducible exact ih7 _ _ _ _ _ _ _)
      | (with_reducible exact ih8 _ _ _ _ _)
      | (with_reducible exact ih9 _ _ _ _ _)
      | (with_reducible exact ih10 _ _ _ _ _ _ _ _ _ _ _ _ _ _)
      | (with_reducible exact ih11 _ _ _ _ _ _ _ _ _ _ _ _ _ _ _ _ _ _ _ _)
      | (with_reducible exact impl_HowToWeigh.mono _ _ _)
      | (with_reducible exact impl_IsKit.mono _ _)
      | (with_reducible exact impl_KitRange.mono _ _ _)
      | (with_reducible exact impl_MomentAbout.mono _ _ _)
      | (with_reducible exact impl_PanRow.mono _ _ _ _)
      | (with_reducible exact impl_ThreesKit.mono _ _)
      | (with_reducible exact impl_TwosKit.mono _ _)
      | (with_reducible exact impl_WeighOne.mono _ _)
      | (with_reducible exact impl_WeighTwo.mono _ _)
      | (with_reducible exact laws_vHas.mono _ _ _)
      | (with_reducible exact laws_vInts.mono _ _ _)
      | (with_reducible exact laws_vRow.mono _ _ _)
      | (with_reducible exact spec_DrawHowToWeigh.mono _ _)
      | (with_reducible exact spec_DrawKitRange.mono _ _)
      | (with_reducible exact spec_DrawPanRow.mono _ _)
      | (with_reducible exact spec_HowToWeigh.mono _ _ _)
      | (with_reducible exact spec_IsKit.mono _ _)
      | (with_reducible exact spec_KitRange.mono _ _ _)
      | (with_reducible exact spec_PanRow.mono _ _ _ _)
      | (with_reducible exact spec_ThreesKit.mono _ _)
      | (with_reducible exact spec_TwosKit.mono _ _)
      | (with_reducible exact spec_WeighOne.mono _ _)
      | (with_reducible exact spec_WeighTwo.mono _ _)
      | (with_reducible exact LeO.refl _)
      | (with_reducible exact LeO.none _)
      | (with_reducible refine LeO.ite ?_ ?_)
      | (with_reducible refine LeO.bind ?_ (fun _ => ?_))
      | exact ih0 _ _ _ _ _ _ _ _ _ _ _ _ _ _ _ _ _ _ _ _ _ _
      | exact ih1 _ _ _ _ _ _ _ _ _ _ _ _ _ _ _ _ _ _ _ _
      | exact ih2 _ _ _ _ _ _ _ _ _ _ _ _ _ _ _ _ _
      | exact ih3 _ _ _ _ _ _ _ _ _ _ _ _ _ _ _ _ _ _
      | exact ih4 _ _ _ _ _ _ _ _ _ _ _ _ _ _ _
      | exact ih5 _ _ _ _ _ _ _ _ _ _ _ _
      | exact ih6 _ _ _ _ _ _ _
      | exact ih7 _ _ _ _ _ _ _
      | exact ih8 _ _ _ _ _
      | exact ih9 _ _ _ _ _
      | exact ih10 _ _ _ _ _ _ _ _ _ _ _ _ _ _
      | exact ih11 _ _ _ _ _ _ _ _ _ _ _ _ _ _ _ _ _ _ _ _
      | exact impl_HowToWeigh.mono _ _ _
      | exact impl_IsKit.mono _ _
      | exact impl_KitRange.mono _ _ _
      | exact impl_MomentAbout.mono _ _ _
      | exact impl_PanRow.mono _ _ _ _
      | exact impl_ThreesKit.mono _ _
      | exact impl_TwosKit.mono _ _
      | exact impl_WeighOne.mono _ _
      | exact impl_WeighTwo.mono _ _
      | exact laws_vHas.mono _ _ _
      | exact laws_vInts.mono _ _ _
      | exact laws_vRow.mono _ _ _
      | exact spec_DrawHowToWeigh.mono _ _
      | exact spec_DrawKitRange.mono _ _
      | exact spec_DrawPanRow.mono _ _
      | exact spec_HowToWeigh.mono _ _ _
      | exact spec_IsKit.mono _ _
      | exact spec_KitRange.mono _ _ _
      | exact spec_PanRow.mono _ _ _ _
      | exact spec_ThreesKit.mono _ _
      | exact spec_TwosKit.mono _ _
      | exact spec_WeighOne.mono _ _
      | exact spec_WeighTwo.mono _ _
      | exact LeO.none _
      | refine LeO.ite ?_ ?_
      | refine LeO.bind ?_ (fun _ => ?_)
    · intro y0 y1 y2 y3 y4 y5 y6 y7 y8 y9 y10 y11 y12 y13 y14 y15 y16 y17
      unfold laws_FnKits.j4
      repeat' first
      | (with_reducible exact ih0 _ _ _ _ _ _ _ _ _ _ _ _ _ _ _ _ _ _ _ _ _ _)
      | (with_reducible exact ih1 _ _ _ _ _ _ _ _ _ _ _ _ _ _ _ _ _ _ _ _)
      | (with_reducible exact ih2 _ _ _ _ _ _ _ _ _ _ _ _ _ _ _ _ _)
      | (with_reducible exact ih3 _ _ _ _ _ _ _ _ _ _ _ _ _ _ _ _ _ _)
      | (with_reducible exact ih4 _ _ _ _ _ _ _ _ _ _ _ _ _ _ _)
      | (with_reducible exact ih5 _ _ _ _ _ _ _ _ _ _ _ _)
      | (with_reducible exact ih6 _ _ _ _ _ _ _)
      | (with_reducible exact ih7 _ _ _ _ _ _ _)
      | (with_reducible exact ih8 _ _ _ _ _)
      | (with_reducible exact ih9 _ _ _ _ _)
      | (with_reducible exact ih10 _ _ _ _ _ _ _ _ _ _ _ _ _ _)
      | (with_reducible exact ih11 _ _ _ _ _ _ _ _ _ _ _ _ _ _ _ _ _ _ _ _)
      | (with_reducible exact impl_HowToWeigh.mono _ _ _)
      | (with_reducible exact impl_IsKit.mono _ _)
      | (with_reducible exact impl_KitRange.mono _ _ _)
      | (with_reducible exact impl_MomentAbout.mono _ _ _)
      | (with_reducible exact impl_PanRow.mono _ _ _ _)
      | (with_reducible exact impl_ThreesKit.mono _ _)
      | (with_reducible exact impl_TwosKit.mono _ _)
      | (with_reducible exact impl_WeighOne.mono _ _)
      | (with_reducible exact impl_WeighTwo.mono _ _)
      | (with_reducible exact laws_vHas.mono _ _ _)
      | (with_reducible exact laws_vInts.mono _ _ _)
      | (with_reducible exact laws_vRow.mono _ _ _)
      | (with_reducible exact spec_DrawHowToWeigh.mono _ _)
      | (with_reducible exact spec_DrawKitRange.mono _ _)
      | (with_reducible exact spec_DrawPanRow.mono _ _)
      | (with_reducible exact spec_HowToWeigh.mono _ _ _)
      | (with_reducible exact spec_IsKit.mono _ _)
      | (with_reducible exact spec_KitRange.mono _ _ _)
      | (with_reducible exact spec_PanRow.mono _ _ _ _)
      | (with_reducible exact spec_ThreesKit.mono _ _)
      | (with_reducible exact spec_TwosKit.mono _ _)
      | (with_reducible exact spec_WeighOne.mono _ _)
      | (with_reducible exact spec_WeighTwo.mono _ _)
      | (with_reducible exact LeO.refl _)
      | (with_reducible exact LeO.none _)
      | (with_reducible refine LeO.ite ?_ ?_)
      | (with_reducible refine LeO.bind ?_ (fun _ => ?_))
      | exact ih0 _ _ _ _ _ _ _ _ _ _ _ _ _ _ _ _ _ _ _ _ _ _
      | exact ih1 _ _ _ _ _ _ _ _ _ _ _ _ _ _ _ _ _ _ _ _
      | exact ih2 _ _ _ _ _ _ _ _ _ _ _ _ _ _ _ _ _
      | exact ih3 _ _ _ _ _ _ _ _ _ _ _ _ _ _ _ _ _ _
      | exact ih4 _ _ _ _ _ _ _ _ _ _ _ _ _ _ _
      | exact ih5 _ _ _ _ _ _ _ _ _ _ _ _
      | exact ih6 _ _ _ _ _ _ _
      | exact ih7 _ _ _ _ _ _ _
      | exact ih8 _ _ _ _ _
      | exact ih9 _ _ _ _ _
      | exact ih10 _ _ _ _ _ _ _ _ _ _ _ _ _ _
      | exact ih11 _ _ _ _ _ _ _ _ _ _ _ _ _ _ _ _ _ _ _ _
      | exact impl_HowToWeigh.mono _ _ _
      | exact impl_IsKit.mono _ _
      | exact impl_KitRange.mono _ _ _
      | exact impl_MomentAbout.mono _ _ _
      | exact impl_PanRow.mono _ _ _ _
      | exact impl_ThreesKit.mono _ _
      | exact impl_TwosKit.mono _ _
      | exact impl_WeighOne.mono _ _
      | exact impl_WeighTwo.mono _ _
      | exact laws_vHas.mono _ _ _
      | exact laws_vInts.mono _ _ _
      | exact laws_vRow.mono _ _ _
      | exact spec_DrawHowToWeigh.mono _ _
      | exact spec_DrawKitRange.mono _ _
      | exact spec_DrawPanRow.mono _ _
      | exact spec_HowToWeigh.mono _ _ _
      | exact spec_IsKit.mono _ _
      | exact spec_KitRange.mono _ _ _
      | exact spec_PanRow.mono _ _ _ _
      | exact spec_ThreesKit.mono _ _
      | exact spec_TwosKit.mono _ _
      | exact spec_WeighOne.mono _ _
      | exact spec_WeighTwo.mono _ _
      | exact LeO.none _
      | refine LeO.ite ?_ ?_
      | refine LeO.bind ?_ (fun _ => ?_)
    · intro y0 y1 y2 y3 y4 y5 y6 y7 y8 y9 y10 y11 y12 y13 y14
      unfold laws_FnKits.j5
      repeat' first
      | (with_reducible exact ih0 _ _ _ _ _ _ _ _ _ _ _ _ _ _ _ _ _ _ _ _ _ _)
      | (with_reducible exact ih1 _ _ _ _ _ _ _ _ _ _ _ _ _ _ _ _ _ _ _ _)
      | (with_reducible exact ih2 _ _ _ _ _ _ _ _ _ _ _ _ _ _ _ _ _)
      | (with_reducible exact ih3 _ _ _ _ _ _ _ _ _ _ _ _ _ _ _ _ _ _)
      | (with_reducible exact ih4 _ _ _ _ _ _ _ _ _ _ _ _ _ _ _)
      | (with_reducible exact ih5 _ _ _ _ _ _ _ _ _ _ _ _)
      | (with_reducible exact ih6 _ _ _ _ _ _ _)
      | (with_reducible exact ih7 _ _ _ _ _ _ _)
      | (with_reducible exact ih8 _ _ _ _ _)
      | (with_reducible exact ih9 _ _ _ _ _)
      | (with_reducible exact ih10 _ _ _ _ _ _ _ _ _ _ _ _ _ _)
      | (with_reducible exact ih11 _ _ _ _ _ _ _ _ _ _ _ _ _ _ _ _ _ _ _ _)
      | (with_reducible exact impl_HowToWeigh.mono _ _ _)
      | (with_reducible exact impl_IsKit.mono _ _)
      | (with_reducible exact impl_KitRange.mono _ _ _)
      | (with_reducible exact impl_MomentAbout.mono _ _ _)
      | (with_reducible exact impl_PanRow.mono _ _ _ _)
      | (with_reducible exact impl_ThreesKit.mono _ _)
      | (with_reducible exact impl_TwosKit.mono _ _)
      | (with_reducible exact impl_WeighOne.mono _ _)
      | (with_reducible exact impl_WeighTwo.mono _ _)
      | (with_reducible exact laws_vHas.mono _ _ _)
      | (with_reducible exact laws_vInts.mono _ _ _)
      | (with_reducible exact laws_vRow.mono _ _ _)
      | (with_reducible exact spec_DrawHowToWeigh.mono _ _)
      | (with_reducible exact spec_DrawKitRange.mono _ _)
      | (with_reducible exact spec_DrawPanRow.mono _ _)
      | (with_reducible exact spec_HowToWeigh.mono _ _ _)
      | (with_reducible exact spec_IsKit.mono _ _)
      | (with_reducible exact spec_KitRange.mono _ _ _)
      | (with_reducible exact spec_PanRow.mono _ _ _ _)
      | (with_reducible exact spec_ThreesKit.mono _ _)
      | (with_reducible exact spec_TwosKit.mono _ _)
      | (with_reducible exact spec_WeighOne.mono _ _)
      | (with_reducible exact spec_WeighTwo.mono _ _)
      | (with_reducible exact LeO.refl _)
      | (with_reducible exact LeO.none _)
      | (with_reducible refine LeO.ite ?_ ?_)
      | (with_reducible refine LeO.bind ?_ (fun _ => ?_))
      | exact ih0 _ _ _ _ _ _ _ _ _ _ _ _ _ _ _ _ _ _ _ _ _ _
      | exact ih1 _ _ _ _ _ _ _ _ _ _ _ _ _ _ _ _ _ _ _ _
      | exact ih2 _ _ _ _ _ _ _ _ _ _ _ _ _ _ _ _ _
      | exact ih3 _ _ _ _ _ _ _ _ _ _ _ _ _ _ _ _ _ _
      | exact ih4 _ _ _ _ _ _ _ _ _ _ _ _ _ _ _
      | exact ih5 _ _ _ _ _ _ _ _ _ _ _ _
      | exact ih6 _ _ _ _ _ _ _
      | exact ih7 _ _ _ _ _ _ _
      | exact ih8 _ _ _ _ _
      | exact ih9 _ _ _ _ _
      | exact ih10 _ _ _ _ _ _ _ _ _ _ _ _ _ _
      | exact ih11 _ _ _ _ _ _ _ _ _ _ _ _ _ _ _ _ _ _ _ _
      | exact impl_HowToWeigh.mono _ _ _
      | exact impl_IsKit.mono _ _
      | exact impl_KitRange.mono _ _ _
      | exact impl_MomentAbout.mono _ _ _
      | exact impl_PanRow.mono _ _ _ _
      | exact impl_ThreesKit.mono _ _
      | exact impl_TwosKit.mono _ _
      | exact impl_WeighOne.mono _ _
      | exact impl_WeighTwo.mono _ _
      | exact laws_vHas.mono _ _ _
      | exact laws_vInts.mono _ _ _
      | exact laws_vRow.mono _ _ _
      | exact spec_DrawHowToWeigh.mono _ _
      | exact spec_DrawKitRange.mono _ _
      | exact spec_DrawPanRow.mono _ _
      | exact spec_HowToWeigh.mono _ _ _
      | exact spec_IsKit.mono _ _
      | exact spec_KitRange.mono _ _ _
      | exact spec_PanRow.mono _ _ _ _
      | exact spec_ThreesKit.mono _ _
      | exact spec_TwosKit.mono _ _
      | exact spec_WeighOne.mono _ _
      | exact spec_WeighTwo.mono _ _
      | exact LeO.none _
      | refine LeO.ite ?_ ?_
      | refine LeO.bind ?_ (fun _ => ?_)
    · intro y0 y1 y2 y3 y4 y5 y6 y7 y8 y9 y10 y11
      unfold laws_FnKits.j6
      repeat' first
      | (with_reducible exact ih0 _ _ _ _ _ _ _ _ _ _ _ _ _ _ _ _ _ _ _ _ _ _)
      | (with_reducible exact ih1 _ _ _ _ _ _ _ _ _ _ _ _ _ _ _ _ _ _ _ _)
      | (with_reducible exact ih2 _ _ _ _ _ _ _ _ _ _ _ _ _ _ _ _ _)
      | (with_reducible exact ih3 _ _ _ _ _ _ _ _ _ _ _ _ _ _ _ _ _ _)
      | (with_reducible exact ih4 _ _ _ _ _ _ _ _ _ _ _ _ _ _ _)
      | (with_reducible exact ih5 _ _ _ _ _ _ _ _ _ _ _ _)
      | (with_reducible exact ih6 _ _ _ _ _ _ _)
      | (with_reducible exact ih7 _ _ _ _ _ _ _)
      | (with_reducible exact ih8 _ _ _ _ _)
      | (with_reducible exact ih9 _ _ _ _ _)
      | (with_reducible exact ih10 _ _ _ _ _ _ _ _ _ _ _ _ _ _)
      | (with_reducible exact ih11 _ _ _ _ _ _ _ _ _ _ _ _ _ _ _ _ _ _ _ _)
      | (with_reducible exact impl_HowToWeigh.mono _ _ _)
      | (with_reducible exact impl_IsKit.mono _ _)
      | (with_reducible exact impl_KitRange.mono _ _ _)
      | (with_reducible exact impl_MomentAbout.mono _ _ _)
      | (with_reducible exact impl_PanRow.mono _ _ _ _)
      | (with_reducible exact impl_ThreesKit.mono _ _)
      | (with_reducible exact impl_TwosKit.mono _ _)
      | (with_reducible exact impl_WeighOne.mono _ _)
      | (with_reducible exact impl_WeighTwo.mono _ _)
      | (with_reducible exact laws_vHas.mono _ _ _)
      | (with_reducible exact laws_vInts.mono _ _ _)
      | (with_reducible exact laws_vRow.mono _ _ _)
      | (with_reducible exact spec_DrawHowToWeigh.mono _ _)
      | (with_reducible exact spec_DrawKitRange.mono _ _)
      | (with_reducible exact spec_DrawPanRow.mono _ _)
      | (with_reducible exact spec_HowToWeigh.mono _ _ _)
      | (with_reducible exact spec_IsKit.mono _ _)
      | (with_reducible exact spec_KitRange.mono _ _ _)
      | (with_reducible exact spec_PanRow.mono _ _ _ _)
      | (with_reducible exact spec_ThreesKit.mono _ _)
      | (with_reducible exact spec_TwosKit.mono _ _)
      | (with_reducible exact spec_WeighOne.mono _ _)
      | (with_reducible exact spec_WeighTwo.mono _ _)
      | (with_reducible exact LeO.refl _)
      | (with_reducible exact LeO.none _)
      | (with_reducible refine LeO.ite ?_ ?_)
      | (with_reducible refine LeO.bind ?_ (fun _ => ?_))
      | exact ih0 _ _ _ _ _ _ _ _ _ _ _ _ _ _ _ _ _ _ _ _ _ _
      | exact ih1 _ _ _ _ _ _ _ _ _ _ _ _ _ _ _ _ _ _ _ _
      | exact ih2 _ _ _ _ _ _ _ _ _ _ _ _ _ _ _ _ _
      | exact ih3 _ _ _ _ _ _ _ _ _ _ _ _ _ _ _ _ _ _
      | exact ih4 _ _ _ _ _ _ _ _ _ _ _ _ _ _ _
      | exact ih5 _ _ _ _ _ _ _ _ _ _ _ _
      | exact ih6 _ _ _ _ _ _ _
      | exact ih7 _ _ _ _ _ _ _
      | exact ih8 _ _ _ _ _
      | exact ih9 _ _ _ _ _
      | exact ih10 _ _ _ _ _ _ _ _ _ _ _ _ _ _
      | exact ih11 _ _ _ _ _ _ _ _ _ _ _ _ _ _ _ _ _ _ _ _
      | exact impl_HowToWeigh.mono _ _ _
      | exact impl_IsKit.mono _ _
      | exact impl_KitRange.mono _ _ _
      | exact impl_MomentAbout.mono _ _ _
      | exact impl_PanRow.mono _ _ _ _
      | exact impl_ThreesKit.mono _ _
      | exact impl_TwosKit.mono _ _
      | exact impl_WeighOne.mono _ _
      | exact impl_WeighTwo.mono _ _
      | exact laws_vHas.mono _ _ _
      | exact laws_vInts.mono _ _ _
      | exact laws_vRow.mono _ _ _
      | exact spec_DrawHowToWeigh.mono _ _
      | exact spec_DrawKitRange.mono _ _
      | exact spec_DrawPanRow.mono _ _
      | exact spec_HowToWeigh.mono _ _ _
      | exact spec_IsKit.mono _ _
      | exact spec_KitRange.mono _ _ _
      | exact spec_PanRow.mono _ _ _ _
      | exact spec_ThreesKit.mono _ _
      | exact spec_TwosKit.mono _ _
      | exact spec_WeighOne.mono _ _
      | exact spec_WeighTwo.mono _ _
      | exact LeO.none _
      | refine LeO.ite ?_ ?_
      | refine LeO.bind ?_ (fun _ => ?_)
    · intro y0 y1 y2 y3 y4 y5 y6
      unfold laws_FnKits.j8
      repeat' first
      | (with_reducible exact ih0 _ _ _ _ _ _ _ _ _ _ _ _ _ _ _ _ _ _ _ _ _ _)
      | (with_reducible exact ih1 _ _ _ _ _ _ _ _ _ _ _ _ _ _ _ _ _ _ _ _)
      | (with_reducible exact ih2 _ _ _ _ _ _ _ _ _ _ _ _ _ _ _ _ _)
      | (with_reducible exact ih3 _ _ _ _ _ _ _ _ _ _ _ _ _ _ _ _ _ _)
      | (with_reducible exact ih4 _ _ _ _ _ _ _ _ _ _ _ _ _ _ _)
      | (with_reducible exact ih5 _ _ _ _ _ _ _ _ _ _ _ _)
      | (with_reducible exact ih6 _ _ _ _ _ _ _)
      | (with_reducible exact ih7 _ _ _ _ _ _ _)
      | (with_reducible exact ih8 _ _ _ _ _)
      | (with_reducible exact ih9 _ _ _ _ _)
      | (with_reducible exact ih10 _ _ _ _ _ _ _ _ _ _ _ _ _ _)
      | (with_reducible exact ih11 _ _ _ _ _ _ _ _ _ _ _ _ _ _ _ _ _ _ _ _)
      | (with_reducible exact impl_HowToWeigh.mono _ _ _)
      | (with_reducible exact impl_IsKit.mono _ _)
      | (with_reducible exact impl_KitRange.mono _ _ _)
      | (with_reducible exact impl_MomentAbout.mono _ _ _)
      | (with_reducible exact impl_PanRow.mono _ _ _ _)
      | (with_reducible exact impl_ThreesKit.mono _ _)
      | (with_reducible exact impl_TwosKit.mono _ _)
      | (with_reducible exact impl_WeighOne.mono _ _)
      | (with_reducible exact impl_WeighTwo.mono _ _)
      | (with_reducible exact laws_vHas.mono _ _ _)
      | (with_reducible exact laws_vInts.mono _ _ _)
      | (with_reducible exact laws_vRow.mono _ _ _)
      | (with_reducible exact spec_DrawHowToWeigh.mono _ _)
      | (with_reducible exact spec_DrawKitRange.mono _ _)
      | (with_reducible exact spec_DrawPanRow.mono _ _)
      | (with_reducible exact spec_HowToWeigh.mono _ _ _)
      | (with_reducible exact spec_IsKit.mono _ _)
      | (with_reducible exact spec_KitRange.mono _ _ _)
      | (with_reducible exact spec_PanRow.mono _ _ _ _)
      | (with_reducible exact spec_ThreesKit.mono _ _)
      | (with_reducible exact spec_TwosKit.mono _ _)
      | (with_reducible exact spec_WeighOne.mono _ _)
      | (with_reducible exact spec_WeighTwo.mono _ _)
      | (with_reducible exact LeO.refl _)
      | (with_reducible exact LeO.none _)
      | (with_reducible refine LeO.ite ?_ ?_)
      | (with_reducible refine LeO.bind ?_ (fun _ => ?_))
      | exact ih0 _ _ _ _ _ _ _ _ _ _ _ _ _ _ _ _ _ _ _ _ _ _
      | exact ih1 _ _ _ _ _ _ _ _ _ _ _ _ _ _ _ _ _ _ _ _
      | exact ih2 _ _ _ _ _ _ _ _ _ _ _ _ _ _ _ _ _
      | exact ih3 _ _ _ _ _ _ _ _ _ _ _ _ _ _ _ _ _ _
      | exact ih4 _ _ _ _ _ _ _ _ _ _ _ _ _ _ _
      | exact ih5 _ _ _ _ _ _ _ _ _ _ _ _
      | exact ih6 _ _ _ _ _ _ _
      | exact ih7 _ _ _ _ _ _ _
      | exact ih8 _ _ _ _ _
      | exact ih9 _ _ _ _ _
      | exact ih10 _ _ _ _ _ _ _ _ _ _ _ _ _ _
      | exact ih11 _ _ _ _ _ _ _ _ _ _ _ _ _ _ _ _ _ _ _ _
      | exact impl_HowToWeigh.mono _ _ _
      | exact impl_IsKit.mono _ _
      | exact impl_KitRange.mono _ _ _
      | exact impl_MomentAbout.mono _ _ _
      | exact impl_PanRow.mono _ _ _ _
      | exact impl_ThreesKit.mono _ _
      | exact impl_TwosKit.mono _ _
      | exact impl_WeighOne.mono _ _
      | exact impl_WeighTwo.mono _ _
      | exact laws_vHas.mono _ _ _
      | exact laws_vInts.mono _ _ _
      | exact laws_vRow.mono _ _ _
      | exact spec_DrawHowToWeigh.mono _ _
      | exact spec_DrawKitRange.mono _ _
      | exact spec_DrawPanRow.mono _ _
      | exact spec_HowToWeigh.mono _ _ _
      | exact spec_IsKit.mono _ _
      | exact spec_KitRange.mono _ _ _
      | exact spec_PanRow.mono _ _ _ _
      | exact spec_ThreesKit.mono _ _
      | exact spec_TwosKit.mono _ _
      | exact spec_WeighOne.mono _ _
      | exact spec_WeighTwo.mono _ _
      | exact LeO.none _
      | refine LeO.ite ?_ ?_
      | refine LeO.bind ?_ (fun _ => ?_)
    · intro y0 y1 y2 y3 y4 y5 y6
      unfold laws_FnKits.l2
      repeat' first
      | (with_reducible exact ih0 _ _ _ _ _ _ _ _ _ _ _ _ _ _ _ _ _ _ _ _ _ _)
      | (with_reducible exact ih1 _ _ _ _ _ _ _ _ _ _ _ _ _ _ _ _ _ _ _ _)
      | (with_reducible exact ih2 _ _ _ _ _ _ _ _ _ _ _ _ _ _ _ _ _)
      | (with_reducible exact ih3 _ _ _ _ _ _ _ _ _ _ _ _ _ _ _ _ _ _)
      | (with_reducible exact ih4 _ _ _ _ _ _ _ _ _ _ _ _ _ _ _)
      | (with_reducible exact ih5 _ _ _ _ _ _ _ _ _ _ _ _)
      | (with_reducible exact ih6 _ _ _ _ _ _ _)
      | (with_reducible exact ih7 _ _ _ _ _ _ _)
      | (with_reducible exact ih8 _ _ _ _ _)
      | (with_reducible exact ih9 _ _ _ _ _)
      | (with_reducible exact ih10 _ _ _ _ _ _ _ _ _ _ _ _ _ _)
      | (with_reducible exact ih11 _ _ _ _ _ _ _ _ _ _ _ _ _ _ _ _ _ _ _ _)
      | (with_reducible exact impl_HowToWeigh.mono _ _ _)
      | (with_reducible exact impl_IsKit.mono _ _)
      | (with_reducible exact impl_KitRange.mono _ _ _)
      | (with_reducible exact impl_MomentAbout.mono _ _ _)
      | (with_reducible exact impl_PanRow.mono _ _ _ _)
      | (with_reducible exact impl_ThreesKit.mono _ _)
      | (with_reducible exact impl_TwosKit.mono _ _)
      | (with_reducible exact impl_WeighOne.mono _ _)
      | (with_reducible exact impl_WeighTwo.mono _ _)
      | (with_reducible exact laws_vHas.mono _ _ _)
      | (with_reducible exact laws_vInts.mono _ _ _)
      | (with_reducible exact laws_vRow.mono _ _ _)
      | (with_reducible exact spec_DrawHowToWeigh.mono _ _)
      | (with_reducible exact spec_DrawKitRange.mono _ _)
      | (with_reducible exact spec_DrawPanRow.mono _ _)
      | (with_reducible exact spec_HowToWeigh.mono _ _ _)
      | (with_reducible exact spec_IsKit.mono _ _)
      | (with_reducible exact spec_KitRange.mono _ _ _)
      | (with_reducible exact spec_PanRow.mono _ _ _ _)
      | (with_reducible exact spec_ThreesKit.mono _ _)
      | (with_reducible exact spec_TwosKit.mono _ _)
      | (with_reducible exact spec_WeighOne.mono _ _)
      | (with_reducible exact spec_WeighTwo.mono _ _)
      | (with_reducible exact LeO.refl _)
      | (with_reducible exact LeO.none _)
      | (with_reducible refine LeO.ite ?_ ?_)
      | (with_reducible refine LeO.bind ?_ (fun _ => ?_))
      | exact ih0 _ _ _ _ _ _ _ _ _ _ _ _ _ _ _ _ _ _ _ _ _ _
      | exact ih1 _ _ _ _ _ _ _ _ _ _ _ _ _ _ _ _ _ _ _ _
      | exact ih2 _ _ _ _ _ _ _ _ _ _ _ _ _ _ _ _ _
      | exact ih3 _ _ _ _ _ _ _ _ _ _ _ _ _ _ _ _ _ _
      | exact ih4 _ _ _ _ _ _ _ _ _ _ _ _ _ _ _
      | exact ih5 _ _ _ _ _ _ _ _ _ _ _ _
      | exact ih6 _ _ _ _ _ _ _
      | exact ih7 _ _ _ _ _ _ _
      | exact ih8 _ _ _ _ _
      | exact ih9 _ _ _ _ _
      | exact ih10 _ _ _ _ _ _ _ _ _ _ _ _ _ _
      | exact ih11 _ _ _ _ _ _ _ _ _ _ _ _ _ _ _ _ _ _ _ _
      | exact impl_HowToWeigh.mono _ _ _
      | exact impl_IsKit.mono _ _
      | exact impl_KitRange.mono _ _ _
      | exact impl_MomentAbout.mono _ _ _
      | exact impl_PanRow.mono _ _ _ _
      | exact impl_ThreesKit.mono _ _
      | exact impl_TwosKit.mono _ _
      | exact impl_WeighOne.mono _ _
      | exact impl_WeighTwo.mono _ _
      | exact laws_vHas.mono _ _ _
      | exact laws_vInts.mono _ _ _
      | exact laws_vRow.mono _ _ _
      | exact spec_DrawHowToWeigh.mono _ _
      | exact spec_DrawKitRange.mono _ _
      | exact spec_DrawPanRow.mono _ _
      | exact spec_HowToWeigh.mono _ _ _
      | exact spec_IsKit.mono _ _
      | exact spec_KitRange.mono _ _ _
      | exact spec_PanRow.mono _ _ _ _
      | exact spec_ThreesKit.mono _ _
      | exact spec_TwosKit.mono _ _
      | exact spec_WeighOne.mono _ _
      | exact spec_WeighTwo.mono _ _
      | exact LeO.none _
      | refine LeO.ite ?_ ?_
      | refine LeO.bind ?_ (fun _ => ?_)
    · intro y0 y1 y2 y3 y4
      unfold laws_FnKits.j10
      repeat' first
      | (with_reducible exact ih0 _ _ _ _ _ _ _ _ _ _ _ _ _ _ _ _ _ _ _ _ _ _)
      | (with_reducible exact ih1 _ _ _ _ _ _ _ _ _ _ _ _ _ _ _ _ _ _ _ _)
      | (with_reducible exact ih2 _ _ _ _ _ _ _ _ _ _ _ _ _ _ _ _ _)
      | (with_reducible exact ih3 _ _ _ _ _ _ _ _ _ _ _ _ _ _ _ _ _ _)
      | (with_reducible exact ih4 _ _ _ _ _ _ _ _ _ _ _ _ _ _ _)
      | (with_reducible exact ih5 _ _ _ _ _ _ _ _ _ _ _ _)
      | (with_reducible exact ih6 _ _ _ _ _ _ _)
      | (with_reducible exact ih7 _ _ _ _ _ _ _)
      | (with_reducible exact ih8 _ _ _ _ _)
      | (with_reducible exact ih9 _ _ _ _ _)
      | (with_reducible exact ih10 _ _ _ _ _ _ _ _ _ _ _ _ _ _)
      | (with_reducible exact ih11 _ _ _ _ _ _ _ _ _ _ _ _ _ _ _ _ _ _ _ _)
      | (with_reducible exact impl_HowToWeigh.mono _ _ _)
      | (with_reducible exact impl_IsKit.mono _ _)
      | (with_reducible exact impl_KitRange.mono _ _ _)
      | (with_reducible exact impl_MomentAbout.mono _ _ _)
      | (with_reducible exact impl_PanRow.mono _ _ _ _)
      | (with_reducible exact impl_ThreesKit.mono _ _)
      | (with_reducible exact impl_TwosKit.mono _ _)
      | (with_reducible exact impl_WeighOne.mono _ _)
      | (with_reducible exact impl_WeighTwo.mono _ _)
      | (with_reducible exact laws_vHas.mono _ _ _)
      | (with_reducible exact laws_vInts.mono _ _ _)
      | (with_reducible exact laws_vRow.mono _ _ _)
      | (with_reducible exact spec_DrawHowToWeigh.mono _ _)
      | (with_reducible exact spec_DrawKitRange.mono _ _)
      | (with_reducible exact spec_DrawPanRow.mono _ _)
      | (with_reducible exact spec_HowToWeigh.mono _ _ _)
      | (with_reducible exact spec_IsKit.mono _ _)
      | (with_reducible exact spec_KitRange.mono _ _ _)
      | (with_reducible exact spec_PanRow.mono _ _ _ _)
      | (with_reducible exact spec_ThreesKit.mono _ _)
      | (with_reducible exact spec_TwosKit.mono _ _)
      | (with_reducible exact spec_WeighOne.mono _ _)
      | (with_reducible exact spec_WeighTwo.mono _ _)
      | (with_reducible exact LeO.refl _)
      | (with_reducible exact LeO.none _)
      | (with_reducible refine LeO.ite ?_ ?_)
      | (with_reducible refine LeO.bind ?_ (fun _ => ?_))
      | exact ih0 _ _ _ _ _ _ _ _ _ _ _ _ _ _ _ _ _ _ _ _ _ _
      | exact ih1 _ _ _ _ _ _ _ _ _ _ _ _ _ _ _ _ _ _ _ _
      | exact ih2 _ _ _ _ _ _ _ _ _ _ _ _ _ _ _ _ _
      | exact ih3 _ _ _ _ _ _ _ _ _ _ _ _ _ _ _ _ _ _
      | exact ih4 _ _ _ _ _ _ _ _ _ _ _ _ _ _ _
      | exact ih5 _ _ _ _ _ _ _ _ _ _ _ _
      | exact ih6 _ _ _ _ _ _ _
      | exact ih7 _ _ _ _ _ _ _
      | exact ih8 _ _ _ _ _
      | exact ih9 _ _ _ _ _
      | exact ih10 _ _ _ _ _ _ _ _ _ _ _ _ _ _
      | exact ih11 _ _ _ _ _ _ _ _ _ _ _ _ _ _ _ _ _ _ _ _
      | exact impl_HowToWeigh.mono _ _ _
      | exact impl_IsKit.mono _ _
      | exact impl_KitRange.mono _ _ _
      | exact impl_MomentAbout.mono _ _ _
      | exact impl_PanRow.mono _ _ _ _
      | exact impl_ThreesKit.mono _ _
      | exact impl_TwosKit.mono _ _
      | exact impl_WeighOne.mono _ _
      | exact impl_WeighTwo.mono _ _
      | exact laws_vHas.mono _ _ _
      | exact laws_vInts.mono _ _ _
      | exact laws_vRow.mono _ _ _
      | exact spec_DrawHowToWeigh.mono _ _
      | exact spec_DrawKitRange.mono _ _
      | exact spec_DrawPanRow.mono _ _
      | exact spec_HowToWeigh.mono _ _ _
      | exact spec_IsKit.mono _ _
      | exact spec_KitRange.mono _ _ _
      | exact spec_PanRow.mono _ _ _ _
      | exact spec_ThreesKit.mono _ _
      | exact spec_TwosKit.mono _ _
      | exact spec_WeighOne.mono _ _
      | exact spec_WeighTwo.mono _ _
      | exact LeO.none _
      | refine LeO.ite ?_ ?_
      | refine LeO.bind ?_ (fun _ => ?_)
    · intro y0 y1 y2 y3 y4
      unfold laws_FnKits.l3
      repeat' first
      | (with_reducible exact ih0 _ _ _ _ _ _ _ _ _ _ _ _ _ _ _ _ _ _ _ _ _ _)
      | (with_reducible exact ih1 _ _ _ _ _ _ _ _ _ _ _ _ _ _ _ _ _ _ _ _)
      | (with_reducible exact ih2 _ _ _ _ _ _ _ _ _ _ _ _ _ _ _ _ _)
      | (with_reducible exact ih3 _ _ _ _ _ _ _ _ _ _ _ _ _ _ _ _ _ _)
      | (with_reducible exact ih4 _ _ _ _ _ _ _ _ _ _ _ _ _ _ _)
      | (with_reducible exact ih5 _ _ _ _ _ _ _ _ _ _ _ _)
      | (with_reducible exact ih6 _ _ _ _ _ _ _)
      | (with_reducible exact ih7 _ _ _ _ _ _ _)
      | (with_reducible exact ih8 _ _ _ _ _)
      | (with_reducible exact ih9 _ _ _ _ _)
      | (with_reducible exact ih10 _ _ _ _ _ _ _ _ _ _ _ _ _ _)
      | (with_reducible exact ih11 _ _ _ _ _ _ _ _ _ _ _ _ _ _ _ _ _ _ _ _)
      | (with_reducible exact impl_HowToWeigh.mono _ _ _)
      | (with_reducible exact impl_IsKit.mono _ _)
      | (with_reducible exact impl_KitRange.mono _ _ _)
      | (with_reducible exact impl_MomentAbout.mono _ _ _)
      | (with_reducible exact impl_PanRow.mono _ _ _ _)
      | (with_reducible exact impl_ThreesKit.mono _ _)
      | (with_reducible exact impl_TwosKit.mono _ _)
      | (with_reducible exact impl_WeighOne.mono _ _)
      | (with_reducible exact impl_WeighTwo.mono _ _)
      | (with_reducible exact laws_vHas.mono _ _ _)
      | (with_reducible exact laws_vInts.mono _ _ _)
      | (with_reducible exact laws_vRow.mono _ _ _)
      | (with_reducible exact spec_DrawHowToWeigh.mono _ _)
      | (with_reducible exact spec_DrawKitRange.mono _ _)
      | (with_reducible exact spec_DrawPanRow.mono _ _)
      | (with_reducible exact spec_HowToWeigh.mono _ _ _)
      | (with_reducible exact spec_IsKit.mono _ _)
      | (with_reducible exact spec_KitRange.mono _ _ _)
      | (with_reducible exact spec_PanRow.mono _ _ _ _)
      | (with_reducible exact spec_ThreesKit.mono _ _)
      | (with_reducible exact spec_TwosKit.mono _ _)
      | (with_reducible exact spec_WeighOne.mono _ _)
      | (with_reducible exact spec_WeighTwo.mono _ _)
      | (with_reducible exact LeO.refl _)
      | (with_reducible exact LeO.none _)
      | (with_reducible refine LeO.ite ?_ ?_)
      | (with_reducible refine LeO.bind ?_ (fun _ => ?_))
      | exact ih0 _ _ _ _ _ _ _ _ _ _ _ _ _ _ _ _ _ _ _ _ _ _
      | exact ih1 _ _ _ _ _ _ _ _ _ _ _ _ _ _ _ _ _ _ _ _
      | exact ih2 _ _ _ _ _ _ _ _ _ _ _ _ _ _ _ _ _
      | exact ih3 _ _ _ _ _ _ _ _ _ _ _ _ _ _ _ _ _ _
      | exact ih4 _ _ _ _ _ _ _ _ _ _ _ _ _ _ _
      | exact ih5 _ _ _ _ _ _ _ _ _ _ _ _
      | exact ih6 _ _ _ _ _ _ _
      | exact ih7 _ _ _ _ _ _ _
      | exact ih8 _ _ _ _ _
      | exact ih9 _ _ _ _ _
      | exact ih10 _ _ _ _ _ _ _ _ _ _ _ _ _ _
      | exact ih11 _ _ _ _ _ _ _ _ _ _ _ _ _ _ _ _ _ _ _ _
      | exact impl_HowToWeigh.mono _ _ _
      | exact impl_IsKit.mono _ _
      | exact impl_KitRange.mono _ _ _
      | exact impl_MomentAbout.mono _ _ _
      | exact impl_PanRow.mono _ _ _ _
      | exact impl_ThreesKit.mono _ _
      | exact impl_TwosKit.mono _ _
      | exact impl_WeighOne.mono _ _
      | exact impl_WeighTwo.mono _ _
      | exact laws_vHas.mono _ _ _
      | exact laws_vInts.mono _ _ _
      | exact laws_vRow.mono _ _ _
      | exact spec_DrawHowToWeigh.mono _ _
      | exact spec_DrawKitRange.mono _ _
      | exact spec_DrawPanRow.mono _ _
      | exact spec_HowToWeigh.mono _ _ _
      | exact spec_IsKit.mono _ _
      | exact spec_KitRange.mono _ _ _
      | exact spec_PanRow.mono _ _ _ _
      | exact spec_ThreesKit.mono _ _
      | exact spec_TwosKit.mono _ _
      | exact spec_WeighOne.mono _ _
      | exact spec_WeighTwo.mono _ _
      | exact LeO.none _
      | refine LeO.ite ?_ ?_
      | refine LeO.bind ?_ (fun _ => ?_)
    · intro y0 y1 y2 y3 y4 y5 y6 y7 y8 y9 y10 y11 y12 y13
      unfold laws_FnKits.l1
      repeat' first
      | (with_reducible exact ih0 _ _ _ _ _ _ _ _ _ _ _ _ _ _ _ _ _ _ _ _ _ _)
      | (with_reducible exact ih1 _ _ _ _ _ _ _ _ _ _ _ _ _ _ _ _ _ _ _ _)
      | (with_reducible exact ih2 _ _ _ _ _ _ _ _ _ _ _ _ _ _ _ _ _)
      | (with_reducible exact ih3 _ _ _ _ _ _ _ _ _ _ _ _ _ _ _ _ _ _)
      | (with_reducible exact ih4 _ _ _ _ _ _ _ _ _ _ _ _ _ _ _)
      | (with_reducible exact ih5 _ _ _ _ _ _ _ _ _ _ _ _)
      | (with_reducible exact ih6 _ _ _ _ _ _ _)
      | (with_reducible exact ih7 _ _ _ _ _ _ _)
      | (with_reducible exact ih8 _ _ _ _ _)
      | (with_reducible exact ih9 _ _ _ _ _)
      | (with_reducible exact ih10 _ _ _ _ _ _ _ _ _ _ _ _ _ _)
      | (with_reducible exact ih11 _ _ _ _ _ _ _ _ _ _ _ _ _ _ _ _ _ _ _ _)
      | (with_reducible exact impl_HowToWeigh.mono _ _ _)
      | (with_reducible exact impl_IsKit.mono _ _)
      | (with_reducible exact impl_KitRange.mono _ _ _)
      | (with_reducible exact impl_MomentAbout.mono _ _ _)
      | (with_reducible exact impl_PanRow.mono _ _ _ _)
      | (with_reducible exact impl_ThreesKit.mono _ _)
      | (with_reducible exact impl_TwosKit.mono _ _)
      | (with_reducible exact impl_WeighOne.mono _ _)
      | (with_reducible exact impl_WeighTwo.mono _ _)
      | (with_reducible exact laws_vHas.mono _ _ _)
      | (with_reducible exact laws_vInts.mono _ _ _)
      | (with_reducible exact laws_vRow.mono _ _ _)
      | (with_reducible exact spec_DrawHowToWeigh.mono _ _)
      | (with_reducible exact spec_DrawKitRange.mono _ _)
      | (with_reducible exact spec_DrawPanRow.mono _ _)
      | (with_reducible exact spec_HowToWeigh.mono _ _ _)
      | (with_reducible exact spec_IsKit.mono _ _)
      | (with_reducible exact spec_KitRange.mono _ _ _)
      | (with_reducible exact spec_PanRow.mono _ _ _ _)
      | (with_reducible exact spec_ThreesKit.mono _ _)
      | (with_reducible exact spec_TwosKit.mono _ _)
      | (with_reducible exact spec_WeighOne.mono _ _)
      | (with_reducible exact spec_WeighTwo.mono _ _)
      | (with_reducible exact LeO.refl _)
      | (with_reducible exact LeO.none _)
      | (with_reducible refine LeO.ite ?_ ?_)
      | (with_reducible refine LeO.bind ?_ (fun _ => ?_))
      | exact ih0 _ _ _ _ _ _ _ _ _ _ _ _ _ _ _ _ _ _ _ _ _ _
      | exact ih1 _ _ _ _ _ _ _ _ _ _ _ _ _ _ _ _ _ _ _ _
      | exact ih2 _ _ _ _ _ _ _ _ _ _ _ _ _ _ _ _ _
      | exact ih3 _ _ _ _ _ _ _ _ _ _ _ _ _ _ _ _ _ _
      | exact ih4 _ _ _ _ _ _ _ _ _ _ _ _ _ _ _
      | exact ih5 _ _ _ _ _ _ _ _ _ _ _ _
      | exact ih6 _ _ _ _ _ _ _
      | exact ih7 _ _ _ _ _ _ _
      | exact ih8 _ _ _ _ _
      | exact ih9 _ _ _ _ _
      | exact ih10 _ _ _ _ _ _ _ _ _ _ _ _ _ _
      | exact ih11 _ _ _ _ _ _ _ _ _ _ _ _ _ _ _ _ _ _ _ _
      | exact impl_HowToWeigh.mono _ _ _
      | exact impl_IsKit.mono _ _
      | exact impl_KitRange.mono _ _ _
      | exact impl_MomentAbout.mono _ _ _
      | exact impl_PanRow.mono _ _ _ _
      | exact impl_ThreesKit.mono _ _
      | exact impl_TwosKit.mono _ _
      | exact impl_WeighOne.mono _ _
      | exact impl_WeighTwo.mono _ _
      | exact laws_vHas.mono _ _ _
      | exact laws_vInts.mono _ _ _
      | exact laws_vRow.mono _ _ _
      | exact spec_DrawHowToWeigh.mono _ _
      | exact spec_DrawKitRange.mono _ _
      | exact spec_DrawPanRow.mono _ _
      | exact spec_HowToWeigh.mono _ _ _
      | exact spec_IsKit.mono _ _
      | exact spec_KitRange.mono _ _ _
      | exact spec_PanRow.mono _ _ _ _
      | exact spec_ThreesKit.mono _ _
      | exact spec_TwosKit.mono _ _
      | exact spec_WeighOne.mono _ _
      | exact spec_WeighTwo.mono _ _
      | exact LeO.none _
      | refine LeO.ite ?_ ?_
      | refine LeO.bind ?_ (fun _ => ?_)
    · intro y0 y1 y2 y3 y4 y5 y6 y7 y8 y9 y10 y11 y12 y13 y14 y15 y16 y17 y18 y19
      unfold laws_FnKits.l0
      repeat' first
      | (with_reducible exact ih0 _ _ _ _ _ _ _ _ _ _ _ _ _ _ _ _ _ _ _ _ _ _)
      | (with_reducible exact ih1 _ _ _ _ _ _ _ _ _ _ _ _ _ _ _ _ _ _ _ _)
      | (with_reducible exact ih2 _ _ _ _ _ _ _ _ _ _ _ _ _ _ _ _ _)
      | (with_reducible exact ih3 _ _ _ _ _ _ _ _ _ _ _ _ _ _ _ _ _ _)
      | (with_reducible exact ih4 _ _ _ _ _ _ _ _ _ _ _ _ _ _ _)
      | (with_reducible exact ih5 _ _ _ _ _ _ _ _ _ _ _ _)
      | (with_reducible exact ih6 _ _ _ _ _ _ _)
      | (with_reducible exact ih7 _ _ _ _ _ _ _)
      | (with_reducible exact ih8 _ _ _ _ _)
      | (with_reducible exact ih9 _ _ _ _ _)
      | (with_reducible exact ih10 _ _ _ _ _ _ _ _ _ _ _ _ _ _)
      | (with_reducible exact ih11 _ _ _ _ _ _ _ _ _ _ _ _ _ _ _ _ _ _ _ _)
      | (with_reducible exact impl_HowToWeigh.mono _ _ _)
      | (with_reducible exact impl_IsKit.mono _ _)
      | (with_reducible exact impl_KitRange.mono _ _ _)
      | (with_reducible exact impl_MomentAbout.mono _ _ _)
      | (with_reducible exact impl_PanRow.mono _ _ _ _)
      | (with_reducible exact impl_ThreesKit.mono _ _)
      | (with_reducible exact impl_TwosKit.mono _ _)
      | (with_reducible exact impl_WeighOne.mono _ _)
      | (with_reducible exact impl_WeighTwo.mono _ _)
      | (with_reducible exact laws_vHas.mono _ _ _)
      | (with_reducible exact laws_vInts.mono _ _ _)
      | (with_reducible exact laws_vRow.mono _ _ _)
      | (with_reducible exact spec_DrawHowToWeigh.mono _ _)
      | (with_reducible exact spec_DrawKitRange.mono _ _)
      | (with_reducible exact spec_DrawPanRow.mono _ _)
      | (with_reducible exact spec_HowToWeigh.mono _ _ _)
      | (with_reducible exact spec_IsKit.mono _ _)
      | (with_reducible exact spec_KitRange.mono _ _ _)
      | (with_reducible exact spec_PanRow.mono _ _ _ _)
      | (with_reducible exact spec_ThreesKit.mono _ _)
      | (with_reducible exact spec_TwosKit.mono _ _)
      | (with_reducible exact spec_WeighOne.mono _ _)
      | (with_reducible exact spec_WeighTwo.mono _ _)
      | (with_reducible exact LeO.refl _)
      | (with_reducible exact LeO.none _)
      | (with_reducible refine LeO.ite ?_ ?_)
      | (with_reducible refine LeO.bind ?_ (fun _ => ?_))
      | exact ih0 _ _ _ _ _ _ _ _ _ _ _ _ _ _ _ _ _ _ _ _ _ _
      | exact ih1 _ _ _ _ _ _ _ _ _ _ _ _ _ _ _ _ _ _ _ _
      | exact ih2 _ _ _ _ _ _ _ _ _ _ _ _ _ _ _ _ _
      | exact ih3 _ _ _ _ _ _ _ _ _ _ _ _ _ _ _ _ _ _
      | exact ih4 _ _ _ _ _ _ _ _ _ _ _ _ _ _ _
      | exact ih5 _ _ _ _ _ _ _ _ _ _ _ _
      | exact ih6 _ _ _ _ _ _ _
      | exact ih7 _ _ _ _ _ _ _
      | exact ih8 _ _ _ _ _
      | exact ih9 _ _ _ _ _
      | exact ih10 _ _ _ _ _ _ _ _ _ _ _ _ _ _
      | exact ih11 _ _ _ _ _ _ _ _ _ _ _ _ _ _ _ _ _ _ _ _
      | exact impl_HowToWeigh.mono _ _ _
      | exact impl_IsKit.mono _ _
      | exact impl_KitRange.mono _ _ _
      | exact impl_MomentAbout.mono _ _ _
      | exact impl_PanRow.mono _ _ _ _
      | exact impl_ThreesKit.mono _ _
      | exact impl_TwosKit.mono _ _
      | exact impl_WeighOne.mono _ _
      | exact impl_WeighTwo.mono _ _
      | exact laws_vHas.mono _ _ _
      | exact laws_vInts.mono _ _ _
      | exact laws_vRow.mono _ _ _
      | exact spec_DrawHowToWeigh.mono _ _
      | exact spec_DrawKitRange.mono _ _
      | exact spec_DrawPanRow.mono _ _
      | exact spec_HowToWeigh.mono _ _ _
      | exact spec_IsKit.mono _ _
      | exact spec_KitRange.mono _ _ _
      | exact spec_PanRow.mono _ _ _ _
      | exact spec_ThreesKit.mono _ _
      | exact spec_TwosKit.mono _ _
      | exact spec_WeighOne.mono _ _
      | exact spec_WeighTwo.mono _ _
      | exact LeO.none _
      | refine LeO.ite ?_ ?_
      | refine LeO.bind ?_ (fun _ => ?_)
theorem laws_FnKits.mono : ∀ a0 k, LeO (laws_FnKits.f k a0) (laws_FnKits.f (k + 1) a0) := by
  intro a0 k
  obtain ⟨ih0, ih1, ih2, ih3, ih4, ih5, ih6, ih7, ih8, ih9, ih10, ih11⟩ := laws_FnKits.mono_l k
  unfold laws_FnKits.f
  repeat' first
      | (with_reducible exact ih0 _ _ _ _ _ _ _ _ _ _ _ _ _ _ _ _ _ _ _ _ _ _)
      | (with_reducible exact ih1 _ _ _ _ _ _ _ _ _ _ _ _ _ _ _ _ _ _ _ _)
      | (with_reducible exact ih2 _ _ _ _ _ _ _ _ _ _ _ _ _ _ _ _ _)
      | (with_reducible exact ih3 _ _ _ _ _ _ _ _ _ _ _ _ _ _ _ _ _ _)
      | (with_reducible exact ih4 _ _ _ _ _ _ _ _ _ _ _ _ _ _ _)
      | (with_reducible exact ih5 _ _ _ _ _ _ _ _ _ _ _ _)
      | (with_reducible exact ih6 _ _ _ _ _ _ _)
      | (with_reducible exact ih7 _ _ _ _ _ _ _)
      | (with_reducible exact ih8 _ _ _ _ _)
      | (with_reducible exact ih9 _ _ _ _ _)
      | (with_reducible exact ih10 _ _ _ _ _ _ _ _ _ _ _ _ _ _)
      | (with_reducible exact ih11 _ _ _ _ _ _ _ _ _ _ _ _ _ _ _ _ _ _ _ _)
      | (with_reducible exact impl_HowToWeigh.mono _ _ _)
      | (with_reducible exact impl_IsKit.mono _ _)
      | (with_reducible exact impl_KitRange.mono _ _ _)
      | (with_reducible exact impl_MomentAbout.mono _ _ _)
      | (with_reducible exact impl_PanRow.mono _ _ _ _)
      | (with_reducible exact impl_ThreesKit.mono _ _)
      | (with_reducible exact impl_TwosKit.mono _ _)
      | (with_reducible exact impl_WeighOne.mono _ _)
      | (with_reducible exact impl_WeighTwo.mono _ _)
      | (with_reducible exact laws_vHas.mono _ _ _)
      | (with_reducible exact laws_vInts.mono _ _ _)
      | (with_reducible exact laws_vRow.mono _ _ _)
      | (with_reducible exact spec_DrawHowToWeigh.mono _ _)
      | (with_reducible exact spec_DrawKitRange.mono _ _)
      | (with_reducible exact spec_DrawPanRow.mono _ _)
      | (with_reducible exact spec_HowToWeigh.mono _ _ _)
      | (with_reducible exact spec_IsKit.mono _ _)
      | (with_reducible exact spec_KitRange.mono _ _ _)
      | (with_reducible exact spec_PanRow.mono _ _ _ _)
      | (with_reducible exact spec_ThreesKit.mono _ _)
      | (with_reducible exact spec_TwosKit.mono _ _)
      | (with_reducible exact spec_WeighOne.mono _ _)
      | (with_reducible exact spec_WeighTwo.mono _ _)
      | (with_reducible exact LeO.refl _)
      | (with_reducible exact LeO.none _)
      | (with_reducible refine LeO.ite ?_ ?_)
      | (with_reducible refine LeO.bind ?_ (fun _ => ?_))
      | exact ih0 _ _ _ _ _ _ _ _ _ _ _ _ _ _ _ _ _ _ _ _ _ _
      | exact ih1 _ _ _ _ _ _ _ _ _ _ _ _ _ _ _ _ _ _ _ _
      | exact ih2 _ _ _ _ _ _ _ _ _ _ _ _ _ _ _ _ _
      | exact ih3 _ _ _ _ _ _ _ _ _ _ _ _ _ _ _ _ _ _
      | exact ih4 _ _ _ _ _ _ _ _ _ _ _ _ _ _ _
      | exact ih5 _ _ _ _ _ _ _ _ _ _ _ _
      | exact ih6 _ _ _ _ _ _ _
      | exact ih7 _ _ _ _ _ _ _
      | exact ih8 _ _ _ _ _
      | exact ih9 _ _ _ _ _
      | exact ih10 _ _ _ _ _ _ _ _ _ _ _ _ _ _
      | exact ih11 _ _ _ _ _ _ _ _ _ _ _ _ _ _ _ _ _ _ _ _
      | exact impl_HowToWeigh.mono _ _ _
      | exact impl_IsKit.mono _ _
      | exact impl_KitRange.mono _ _ _
      | exact impl_MomentAbout.mono _ _ _
      | exact impl_PanRow.mono _ _ _ _
      | exact impl_ThreesKit.mono _ _
      | exact impl_TwosKit.mono _ _
      | exact impl_WeighOne.mono _ _
      | exact impl_WeighTwo.mono _ _
      | exact laws_vHas.mono _ _ _
      | exact laws_vInts.mono _ _ _
      | exact laws_vRow.mono _ _ _
      | exact spec_DrawHowToWeigh.mono _ _
      | exact spec_DrawKitRange.mono _ _
      | exact spec_DrawPanRow.mono _ _
      | exact spec_HowToWeigh.mono _ _ _
      | exact spec_IsKit.mono _ _
      | exact spec_KitRange.mono _ _ _
      | exact spec_PanRow.mono _ _ _ _
      | exact spec_ThreesKit.mono _ _
      | exact spec_TwosKit.mono _ _
      | exact spec_WeighOne.mono _ _
      | exact spec_WeighTwo.mono _ _
      | exact LeO.none _
      | refine LeO.ite ?_ ?_
      | refine LeO.bind ?_ (fun _ => ?_)
theorem laws_FnKits.j0_bad {r : Bool} : ∀ (k : Nat) {y0 y1 y2 y3 y4 y5 y6 y7 y8 y9 y10 y11 y12 y13 y14 y15 y16 y17 y18 y19 y20}, laws_FnKits.j0 k y0 y1 y2 y3 y4 y5 y6 y7 y8 y9 y10 y11 y12 y13 y14 y15 y16 y17 y18 y19 y20 true = some r → r = true → False := by
  intro k y0 y1 y2 y3 y4 y5 y6 y7 y8 y9 y10 y11 y12 y13 y14 y15 y16 y17 y18 y19 y20 h hr
  subst hr
  cases k with
  | zero => simp [laws_FnKits.j0] at h
  | succ k => simp [laws_FnKits.j0] at h
def laws_FnKits.Pure : Prop := ∀ (l0 : List Int), l0.length ≤ maxLen → l0.length * 1 ≤ 140737488351232 → (∀ x ∈ l0, (Lit.int .u8 x).wf = true) → ∃ k, laws_FnKits.f k l0 = some true
end Go.Proofs.Ytgnmomdgfamhnaa.PFnKits
