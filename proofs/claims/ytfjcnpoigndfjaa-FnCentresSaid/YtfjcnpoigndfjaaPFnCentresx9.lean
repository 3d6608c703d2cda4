-- Made by wip/pr.py of this repo over the kit's print (some contracts by hand).
import Derived.Test.YtfjcnpoigndfjaaPFnCentresx0
import Derived.Test.YtfjcnpoigndfjaaPFnCentresx2
import Derived.Test.YtfjcnpoigndfjaaPFnCentresx3
import Derived.Test.YtfjcnpoigndfjaaPFnCentresx4
import Derived.Test.YtfjcnpoigndfjaaPFnCentresx5
import Derived.Test.YtfjcnpoigndfjaaPFnCentresx6
import Derived.Test.YtfjcnpoigndfjaaPFnCentresx7
import Derived.Test.YtfjcnpoigndfjaaPFnCentresx8
namespace Go.Proofs.Ytfjcnpoigndfjaa.PFnCentres
open Go.RowKit Go.Proofs.YtfjcnpoigndfjaaW.PrintWords Go.Proofs.YtfjcnpoigndfjaaW.PrintLast Go.Proofs.YtfjcnpoigndfjaaW.PrintMore
attribute [local go_sem] max2_int min2_int max_two min_two max_three min_three max_four min_four   -- for this text's walks alone
set_option linter.unusedVariables false
set_option linter.unusedSimpArgs false

/-! ### laws_FnCentres: function 4 -/
theorem laws_FnCentres.eqA (W : World) (a b c d : Int) : (Op.equalIn 10000 36 (.agg #[.int .i64 a, .int .i64 b]) (.agg #[.int .i64 c, .int .i64 d])).run Try.prog W = .ok (a == c && b == d) W := by
  obtain ⟨i, hi⟩ := Option.isSome_iff_exists.1 (show (Try.prog.info? 3).isSome = true by kernel_rfl)
  rw [run_equalIn_array W 9999 (e := 3) (n := 2) _ _ Try.underlying36 hi]
  have hc : Try.prog.cellsOf 3 = 1 := by kernel_rfl
  have he : ∀ x y : Int, (Op.equalIn 9999 3 (.int .i64 x) (.int .i64 y)).run Try.prog W = .ok (x == y) W := fun x y => by
    go_simp
  rw [hc]
  have p1 : ∀ (x y : Int), (part 3 #[.int .i64 x, .int .i64 y] (0 * 1)).run Try.prog W = .ok (.int .i64 x) W := fun x y => by
    go_simp
  have p2 : ∀ (x y : Int), (part 3 #[.int .i64 x, .int .i64 y] 1).run Try.prog W = .ok (.int .i64 y) W := fun x y => by
    go_simp
  rw [show List.range 2 = [0, 1] from rfl]
  cases h1 : (a == c)
  · simp [Op.eqItems, p1, he, h1]
  · cases h2 : (b == d) <;> simp [Op.eqItems, p1, p2, he, h1, h2]
mutual
def laws_FnCentres.j0 : Nat → List Int → List (S33) → Int → Int → Int → Bool → Bool → Option (Bool)
  | 0, _, _, _, _, _, _, _ => none
  | k + 1, x0, x3, x4, x5, x6, x7, x75 => if x75 = true then (some false) else ((impl_ReactionsOf.f k x3 x4 x5).bind fun bt351 => ((spec_ReactionsOf.f k x3 x4 x5).bind fun bt358 => (if bt351.1 = bt358.1 then (if bt351.2.1 = bt358.2.1 then (if bt351.2.2.1 = bt358.2.2.1 then (if bt351.2.2.2.1 = bt358.2.2.2.1 then (laws_FnCentres.j1 k x0 x3 x4 x5 x6 x7 bt351.2.2.2.2 (bt351.2.2.2.2 != bt358.2.2.2.2) bt351.1 bt351.2.1 bt351.2.2.1 bt351.2.2.2.1) else (laws_FnCentres.j1 k x0 x3 x4 x5 x6 x7 bt351.2.2.2.2 true bt351.1 bt351.2.1 bt351.2.2.1 bt351.2.2.2.1)) else (laws_FnCentres.j1 k x0 x3 x4 x5 x6 x7 bt351.2.2.2.2 true bt351.1 bt351.2.1 bt351.2.2.1 bt351.2.2.2.1)) else (laws_FnCentres.j1 k x0 x3 x4 x5 x6 x7 bt351.2.2.2.2 true bt351.1 bt351.2.1 bt351.2.2.1 bt351.2.2.2.1)) else (laws_FnCentres.j1 k x0 x3 x4 x5 x6 x7 bt351.2.2.2.2 true bt351.1 bt351.2.1 bt351.2.2.1 bt351.2.2.2.1))))
def laws_FnCentres.j1 : Nat → List Int → List (S33) → Int → Int → Int → Bool → Bool → Bool → Int → Int → Int → Int → Option (Bool)
  | 0, _, _, _, _, _, _, _, _, _, _, _, _ => none
  | k + 1, x0, x3, x4, x5, x6, x7, x12, x104, x357000, x357001, x358000, x358001 => if x104 = true then (some false) else ((impl_WeightOf.f k x3).bind fun bt365 => ((spec_WeightOf.f k x3).bind fun bt367 => (if bt365.1 = bt367.1 then (if (bt365.2 != bt367.2) = true then (laws_FnCentres.j2 k x0 x3 x4 x5 x6 x7 x12 bt365.1 bt365.2 true x357000 x357001 x358000 x358001) else ((impl_IsRow.f x3).bind fun t369 => (laws_FnCentres.j2 k x0 x3 x4 x5 x6 x7 x12 bt365.1 bt365.2 (bt365.2 != t369) x357000 x357001 x358000 x358001))) else (laws_FnCentres.j2 k x0 x3 x4 x5 x6 x7 x12 bt365.1 bt365.2 true x357000 x357001 x358000 x358001))))
def laws_FnCentres.j2 : Nat → List Int → List (S33) → Int → Int → Int → Bool → Bool → Int → Bool → Bool → Int → Int → Int → Int → Option (Bool)
  | 0, _, _, _, _, _, _, _, _, _, _, _, _, _, _ => none
  | k + 1, x0, x3, x4, x5, x6, x7, x12, x16, x17, x128, x357000, x357001, x358000, x358001 => if x128 = true then (some false) else ((impl_CentreOf.f k x3).bind fun bt370 => ((spec_CentreOf.f k x3).bind fun bt374 => (if bt370.1 = bt374.1 then (if bt370.2.1 = bt374.2.1 then (if (bt370.2.2 != bt374.2.2) = true then (laws_FnCentres.j3 k x0 x3 x4 x5 x6 x7 x12 x16 x17 bt370.2.2 true x357000 x357001 x358000 x358001 bt370.1 bt370.2.1) else (if x17 = true then (laws_FnCentres.j3 k x0 x3 x4 x5 x6 x7 x12 x16 x17 bt370.2.2 (bt370.2.2 != (decide ((x3.length : Int) > 0))) x357000 x357001 x358000 x358001 bt370.1 bt370.2.1) else (laws_FnCentres.j3 k x0 x3 x4 x5 x6 x7 x12 x16 x17 bt370.2.2 (bt370.2.2 != false) x357000 x357001 x358000 x358001 bt370.1 bt370.2.1))) else (laws_FnCentres.j3 k x0 x3 x4 x5 x6 x7 x12 x16 x17 bt370.2.2 true x357000 x357001 x358000 x358001 bt370.1 bt370.2.1)) else (laws_FnCentres.j3 k x0 x3 x4 x5 x6 x7 x12 x16 x17 bt370.2.2 true x357000 x357001 x358000 x358001 bt370.1 bt370.2.1))))
def laws_FnCentres.j3 : Nat → List Int → List (S33) → Int → Int → Int → Bool → Bool → Int → Bool → Bool → Bool → Int → Int → Int → Int → Int → Int → Option (Bool)
  | 0, _, _, _, _, _, _, _, _, _, _, _, _, _, _, _, _, _ => none
  | k + 1, x0, x3, x4, x5, x6, x7, x12, x16, x17, x21, x156, x357000, x357001, x358000, x358001, x374000, x374001 => if x156 = true then (some false) else ((impl_MirrorRow.f k x3).bind fun bt378 => ((spec_MirrorRow.f k x3).bind fun bt382 => (if (bt378.2 != bt382.2) = true then (laws_FnCentres.j4 k x0 x3 x4 x5 x6 x7 x12 x16 x21 bt378.1 true x357000 x357001 x358000 x358001 x374000 x374001) else (if (bt378.2 != x17) = true then (laws_FnCentres.j4 k x0 x3 x4 x5 x6 x7 x12 x16 x21 bt378.1 true x357000 x357001 x358000 x358001 x374000 x374001) else ((laws_rRow.f k bt378.1 bt382.1).bind fun t386 => (laws_FnCentres.j4 k x0 x3 x4 x5 x6 x7 x12 x16 x21 bt378.1 (!t386) x357000 x357001 x358000 x358001 x374000 x374001))))))
def laws_FnCentres.j4 : Nat → List Int → List (S33) → Int → Int → Int → Bool → Bool → Int → Bool → List (S33) → Bool → Int → Int → Int → Int → Int → Int → Option (Bool)
  | 0, _, _, _, _, _, _, _, _, _, _, _, _, _, _, _, _, _ => none
  | k + 1, x0, x3, x4, x5, x6, x7, x12, x16, x21, x24, x180, x357000, x357001, x358000, x358001, x374000, x374001 => if x180 = true then (some false) else ((spec_DrawMomentAbout.f k x0).bind fun bt387 => ((impl_MomentAbout.f k bt387.1 bt387.2).bind fun bt391 => ((spec_MomentAbout.f k bt387.1 bt387.2).bind fun bt393 => (if bt391.1 = bt393.1 then (laws_FnCentres.j5 k x3 x4 x5 x6 x7 x12 x16 x21 x24 (bt391.2 != bt393.2) x357000 x357001 x358000 x358001 x374000 x374001) else (laws_FnCentres.j5 k x3 x4 x5 x6 x7 x12 x16 x21 x24 true x357000 x357001 x358000 x358001 x374000 x374001)))))
def laws_FnCentres.j5 : Nat → List (S33) → Int → Int → Int → Bool → Bool → Int → Bool → List (S33) → Bool → Int → Int → Int → Int → Int → Int → Option (Bool)
  | 0, _, _, _, _, _, _, _, _, _, _, _, _, _, _, _, _ => none
  | k + 1, x3, x4, x5, x6, x7, x12, x16, x21, x24, x205, x357000, x357001, x358000, x358001, x374000, x374001 => if x205 = true then (some false) else ((impl_NarrowBase.f k x3).bind fun bt395 => ((spec_NarrowBase.f k x3).bind fun bt398 => (if bt395.1 = bt398.1 then (if bt395.2.1 = bt398.2.1 then (if (bt395.2.2 != bt398.2.2) = true then (laws_FnCentres.j6 k x3 x4 x5 x6 x7 x12 x16 x21 x24 bt395.1 bt395.2.1 true x357000 x357001 x358000 x358001 x374000 x374001) else (laws_FnCentres.j6 k x3 x4 x5 x6 x7 x12 x16 x21 x24 bt395.1 bt395.2.1 (bt395.2.2 != x21) x357000 x357001 x358000 x358001 x374000 x374001)) else (laws_FnCentres.j6 k x3 x4 x5 x6 x7 x12 x16 x21 x24 bt395.1 bt395.2.1 true x357000 x357001 x358000 x358001 x374000 x374001)) else (laws_FnCentres.j6 k x3 x4 x5 x6 x7 x12 x16 x21 x24 bt395.1 bt395.2.1 true x357000 x357001 x358000 x358001 x374000 x374001))))
def laws_FnCentres.j6 : Nat → List (S33) → Int → Int → Int → Bool → Bool → Int → Bool → List (S33) → Int → Int → Bool → Int → Int → Int → Int → Int → Int → Option (Bool)
  | 0, _, _, _, _, _, _, _, _, _, _, _, _, _, _, _, _, _, _ => none
  | k + 1, x3, x4, x5, x6, x7, x12, x16, x21, x24, x34, x35, x235, x357000, x357001, x358000, x358001, x374000, x374001 => if x235 = true then (some false) else (if x12 = true then (if x357001 < 1 then (laws_FnCentres.j7 k x3 x4 x5 x6 x7 x21 x24 x34 x35 true x374000 x374001) else (if x358001 < 1 then (laws_FnCentres.j7 k x3 x4 x5 x6 x7 x21 x24 x34 x35 true x374000 x374001) else (if x357000 ≥ 0 then (if ((decide (x358000 ≥ 0)) != (x6 == 0)) = true then (laws_FnCentres.j7 k x3 x4 x5 x6 x7 x21 x24 x34 x35 true x374000 x374001) else (laws_FnCentres.j7 k x3 x4 x5 x6 x7 x21 x24 x34 x35 ((wrap64 ((wrap64 (x357000 * x358001)) + (wrap64 (x358000 * x357001)))) != (wrap64 ((wrap64 (x16 * x357001)) * x358001))) x374000 x374001)) else (if (false != (x6 == 0)) = true then (laws_FnCentres.j7 k x3 x4 x5 x6 x7 x21 x24 x34 x35 true x374000 x374001) else (laws_FnCentres.j7 k x3 x4 x5 x6 x7 x21 x24 x34 x35 ((wrap64 ((wrap64 (x357000 * x358001)) + (wrap64 (x358000 * x357001)))) != (wrap64 ((wrap64 (x16 * x357001)) * x358001))) x374000 x374001))))) else (laws_FnCentres.j7 k x3 x4 x5 x6 x7 x21 x24 x34 x35 false x374000 x374001))
def laws_FnCentres.j7 : Nat → List (S33) → Int → Int → Int → Bool → Bool → List (S33) → Int → Int → Bool → Int → Int → Option (Bool)
  | 0, _, _, _, _, _, _, _, _, _, _, _, _ => none
  | k + 1, x3, x4, x5, x6, x7, x21, x24, x34, x35, x280, x374000, x374001 => if x280 = true then (some false) else (if x21 = true then ((impl_TipSide.f k x3 x34 x35).bind fun bt401 => (if bt401.2 = true then (if bt401.1 = 0 then (if (wrap64 (x35 - x34)) > 1 then (laws_FnCentres.j8 k x3 x4 x5 x6 x7 x24 true x374000 x374001) else (laws_FnCentres.j8 k x3 x4 x5 x6 x7 x24 ((x374001 == 1) != (x34 == x35)) x374000 x374001)) else (laws_FnCentres.j8 k x3 x4 x5 x6 x7 x24 true x374000 x374001)) else (laws_FnCentres.j8 k x3 x4 x5 x6 x7 x24 true x374000 x374001))) else (if x7 = true then ((impl_TipSide.f k x24 (wrap64 (60 - x5)) (wrap64 (60 - x4))).bind fun bt409 => (if bt409.2 = true then (some (bt409.1 == (wrap64 (-x6)))) else (some false))) else (some true)))
def laws_FnCentres.j8 : Nat → List (S33) → Int → Int → Int → Bool → List (S33) → Bool → Int → Int → Option (Bool)
  | 0, _, _, _, _, _, _, _, _, _ => none
  | k + 1, x3, x4, x5, x6, x7, x24, x309, x374000, x374001 => if x309 = true then (some false) else (if x374001 = 1 then ((impl_MomentAbout.f k x3 x374000).bind fun bt403 => (if bt403.2 = true then (laws_FnCentres.j9 k x4 x5 x6 x7 x24 (bt403.1 != 0)) else (laws_FnCentres.j9 k x4 x5 x6 x7 x24 true))) else (if x7 = true then ((impl_TipSide.f k x24 (wrap64 (60 - x5)) (wrap64 (60 - x4))).bind fun bt407 => (if bt407.2 = true then (some (bt407.1 == (wrap64 (-x6)))) else (some false))) else (some true)))
def laws_FnCentres.j9 : Nat → Int → Int → Int → Bool → List (S33) → Bool → Option (Bool)
  | 0, _, _, _, _, _, _ => none
  | k + 1, x4, x5, x6, x7, x24, x325 => if x325 = true then (some false) else (if x7 = true then ((impl_TipSide.f k x24 (wrap64 (60 - x5)) (wrap64 (60 - x4))).bind fun bt405 => (if bt405.2 = true then (some (bt405.1 == (wrap64 (-x6)))) else (some false))) else (some true))
end
def laws_FnCentres.f (k : Nat) (l0 : List Int) : Option (Bool) := (laws_rBig.f l0).bind fun t341 => (if t341 = true then (some true) else ((spec_DrawTipSide.f k l0).bind fun bt342 => ((impl_TipSide.f k bt342.1 bt342.2.1 bt342.2.2).bind fun bt347 => ((spec_TipSide.f k bt342.1 bt342.2.1 bt342.2.2).bind fun bt349 => (if bt347.1 = bt349.1 then (laws_FnCentres.j0 k l0 bt342.1 bt342.2.1 bt342.2.2 bt347.1 bt347.2 (bt347.2 != bt349.2)) else (laws_FnCentres.j0 k l0 bt342.1 bt342.2.1 bt342.2.2 bt347.1 bt347.2 true))))))
theorem laws_FnCentres.mono_l : ∀ k, (∀ y0 y1 y2 y3 y4 y5 y6, LeO (laws_FnCentres.j0 k y0 y1 y2 y3 y4 y5 y6) (laws_FnCentres.j0 (k + 1) y0 y1 y2 y3 y4 y5 y6)) ∧ (∀ y0 y1 y2 y3 y4 y5 y6 y7 y8 y9 y10 y11, LeO (laws_FnCentres.j1 k y0 y1 y2 y3 y4 y5 y6 y7 y8 y9 y10 y11) (laws_FnCentres.j1 (k + 1) y0 y1 y2 y3 y4 y5 y6 y7 y8 y9 y10 y11)) ∧ (∀ y0 y1 y2 y3 y4 y5 y6 y7 y8 y9 y10 y11 y12 y13, LeO (laws_FnCentres.j2 k y0 y1 y2 y3 y4 y5 y6 y7 y8 y9 y10 y11 y12 y13) (laws_FnCentres.j2 (k + 1) y0 y1 y2 y3 y4 y5 y6 y7 y8 y9 y10 y11 y12 y13)) ∧ (∀ y0 y1 y2 y3 y4 y5 y6 y7 y8 y9 y10 y11 y12 y13 y14 y15 y16, LeO (laws_FnCentres.j3 k y0 y1 y2 y3 y4 y5 y6 y7 y8 y9 y10 y11 y12 y13 y14 y15 y16) (laws_FnCentres.j3 (k + 1) y0 y1 y2 y3 y4 y5 y6 y7 y8 y9 y10 y11 y12 y13 y14 y15 y16)) ∧ (∀ y0 y1 y2 y3 y4 y5 y6 y7 y8 y9 y10 y11 y12 y13 y14 y15 y16, LeO (laws_FnCentres.j4 k y0 y1 y2 y3 y4 y5 y6 y7 y8 y9 y10 y11 y12 y13 y14 y15 y16) (laws_FnCentres.j4 (k + 1) y0 y1 y2 y3 y4 y5 y6 y7 y8 y9 y10 y11 y12 y13 y14 y15 y16)) ∧ (∀ y0 y1 y2 y3 y4 y5 y6 y7 y8 y9 y10 y11 y12 y13 y14 y15, LeO (laws_FnCentres.j5 k y0 y1 y2 y3 y4 y5 y6 y7 y8 y9 y10 y11 y12 y13 y14 y15) (laws_FnCentres.j5 (k + 1) y0 y1 y2 y3 y4 y5 y6 y7 y8 y9 y10 y11 y12 y13 y14 y15)) ∧ (∀ y0 y1 y2 y3 y4 y5 y6 y7 y8 y9 y10 y11 y12 y13 y14 y15 y16 y17, LeO (laws_FnCentres.j6 k y0 y1 y2 y3 y4 y5 y6 y7 y8 y9 y10 y11 y12 y13 y14 y15 y16 y17) (laws_FnCentres.j6 (k + 1) y0 y1 y2 y3 y4 y5 y6 y7 y8 y9 y10 y11 y12 y13 y14 y15 y16 y17)) ∧ (∀ y0 y1 y2 y3 y4 y5 y6 y7 y8 y9 y10 y11, LeO (laws_FnCentres.j7 k y0 y1 y2 y3 y4 y5 y6 y7 y8 y9 y10 y11) (laws_FnCentres.j7 (k + 1) y0 y1 y2 y3 y4 y5 y6 y7 y8 y9 y10 y11)) ∧ (∀ y0 y1 y2 y3 y4 y5 y6 y7 y8, LeO (laws_FnCentres.j8 k y0 y1 y2 y3 y4 y5 y6 y7 y8) (laws_FnCentres.j8 (k + 1) y0 y1 y2 y3 y4 y5 y6 y7 y8)) ∧ (∀ y0 y1 y2 y3 y4 y5, LeO (laws_FnCentres.j9 k y0 y1 y2 y3 y4 y5) (laws_FnCentres.j9 (k + 1) y0 y1 y2 y3 y4 y5))
  | 0 => ⟨fun _ _ _ _ _ _ _ r h => by simp [laws_FnCentres.j0] at h, fun _ _ _ _ _ _ _ _ _ _ _ _ r h => by simp [laws_FnCentres.j1] at h, fun _ _ _ _ _ _ _ _ _ _ _ _ _ _ r h => by simp [laws_FnCentres.j2] at h, fun _ _ _ _ _ _ _ _ _ _ _ _ _ _ _ _ _ r h => by simp [laws_FnCentres.j3] at h, fun _ _ _ _ _ _ _ _ _ _ _ _ _ _ _ _ _ r h => by simp [laws_FnCentres.j4] at h, fun _ _ _ _ _ _ _ _ _ _ _ _ _ _ _ _ r h => by simp [laws_FnCentres.j5] at h, fun _ _ _ _ _ _ _ _ _ _ _ _ _ _ _ _ _ _ r h => by simp [laws_FnCentres.j6] at h, fun _ _ _ _ _ _ _ _ _ _ _ _ r h => by simp [laws_FnCentres.j7] at h, fun _ _ _ _ _ _ _ _ _ r h => by simp [laws_FnCentres.j8] at h, fun _ _ _ _ _ _ r h => by simp [laws_FnCentres.j9] at h⟩
  | k + 1 => by
    obtain ⟨ih0, ih1, ih2, ih3, ih4, ih5, ih6, ih7, ih8, ih9⟩ := laws_FnCentres.mono_l k
    refine ⟨?_, ?_, ?_, ?_, ?_, ?_, ?_, ?_, ?_, ?_⟩
    · intro y0 y1 y2 y3 y4 y5 y6
      unfold laws_FnCentres.j0
      repeat' first
      | (with_reducible exact ih0 _ _ _ _ _ _ _)
      | (with_reducible exact ih1 _ _ _ _ _ _ _ _ _ _ _ _)
      | (with_reducible exact ih2 _ _ _ _ _ _ _ _ _ _ _ _ _ _)
      | (with_reducible exact ih3 _ _ _ _ _ _ _ _ _ _ _ _ _ _ _ _ _)
      | (with_reducible exact ih4 _ _ _ _ _ _ _ _ _ _ _ _ _ _ _ _ _)
      | (with_reducible exact ih5 _ _ _ _ _ _ _ _ _ _ _ _ _ _ _ _)
      | (with_reducible exact ih6 _ _ _ _ _ _ _ _ _ _ _ _ _ _ _ _ _ _)
      | (with_reducible exact ih7 _ _ _ _ _ _ _ _ _ _ _ _)
      | (with_reducible exact ih8 _ _ _ _ _ _ _ _ _)
      | (with_reducible exact ih9 _ _ _ _ _ _)
      | (with_reducible exact impl_CentreOf.mono _ _)
      | (with_reducible exact impl_MirrorRow.mono _ _)
      | (with_reducible exact impl_MomentAbout.mono _ _ _)
      | (with_reducible exact impl_NarrowBase.mono _ _)
      | (with_reducible exact impl_ReactionsOf.mono _ _ _ _)
      | (with_reducible exact impl_TipSide.mono _ _ _ _)
      | (with_reducible exact impl_WeightOf.mono _ _)
      | (with_reducible exact laws_rRow.mono _ _ _)
      | (with_reducible exact spec_CentreOf.mono _ _)
      | (with_reducible exact spec_DrawMomentAbout.mono _ _)
      | (with_reducible exact spec_DrawTipSide.mono _ _)
      | (with_reducible exact spec_MirrorRow.mono _ _)
      | (with_reducible exact spec_MomentAbout.mono _ _ _)
      | (with_reducible exact spec_NarrowBase.mono _ _)
      | (with_reducible exact spec_ReactionsOf.mono _ _ _ _)
      | (with_reducible exact spec_TipSide.mono _ _ _ _)
      | (with_reducible exact spec_WeightOf.mono _ _)
      | (with_reducible exact LeO.refl _)
      | (with_reducible exact LeO.none _)
      | (with_reducible refine LeO.ite ?_ ?_)
      | (with_reducible refine LeO.bind ?_ (fun _ => ?_))
      | exact ih0 _ _ _ _ _ _ _
      | exact ih1 _ _ _ _ _ _ _ _ _ _ _ _
      | exact ih2 _ _ _ _ _ _ _ _ _ _ _ _ _ _
      | exact ih3 _ _ _ _ _ _ _ _ _ _ _ _ _ _ _ _ _
      | exact ih4 _ _ _ _ _ _ _ _ _ _ _ _ _ _ _ _ _
      | exact ih5 _ _ _ _ _ _ _ _ _ _ _ _ _ _ _ _
      | exact ih6 _ _ _ _ _ _ _ _ _ _ _ _ _ _ _ _ _ _
      | exact ih7 _ _ _ _ _ _ _ _ _ _ _ _
      | exact ih8 _ _ _ _ _ _ _ _ _
      | exact ih9 _ _ _ _ _ _
      | exact impl_CentreOf.mono _ _
      | exact impl_MirrorRow.mono _ _
      | exact impl_MomentAbout.mono _ _ _
      | exact impl_NarrowBase.mono _ _
      | exact impl_ReactionsOf.mono _ _ _ _
      | exact impl_TipSide.mono _ _ _ _
      | exact impl_WeightOf.mono _ _
      | exact laws_rRow.mono _ _ _
      | exact spec_CentreOf.mono _ _
      | exact spec_DrawMomentAbout.mono _ _
      | exact spec_DrawTipSide.mono _ _
      | exact spec_MirrorRow.mono _ _
      | exact spec_MomentAbout.mono _ _ _
      | exact spec_NarrowBase.mono _ _
      | exact spec_ReactionsOf.mono _ _ _ _
      | exact spec_TipSide.mono _ _ _ _
      | exact spec_WeightOf.mono _ _
      | exact LeO.none _
      | refine LeO.ite ?_ ?_
      | refine LeO.bind ?_ (fun _ => ?_)
    · intro y0 y1 y2 y3 y4 y5 y6 y7 y8 y9 y10 y11
      unfold laws_FnCentres.j1
      repeat' first
      | (with_reducible exact ih0 _ _ _ _ _ _ _)
      | (with_reducible exact ih1 _ _ _ _ _ _ _ _ _ _ _ _)
      | (with_reducible exact ih2 _ _ _ _ _ _ _ _ _ _ _ _ _ _)
      | (with_reducible exact ih3 _ _ _ _ _ _ _ _ _ _ _ _ _ _ _ _ _)
      | (with_reducible exact ih4 _ _ _ _ _ _ _ _ _ _ _ _ _ _ _ _ _)
      | (with_reducible exact ih5 _ _ _ _ _ _ _ _ _ _ _ _ _ _ _ _)
      | (with_reducible exact ih6 _ _ _ _ _ _ _ _ _ _ _ _ _ _ _ _ _ _)
      | (with_reducible exact ih7 _ _ _ _ _ _ _ _ _ _ _ _)
      | (with_reducible exact ih8 _ _ _ _ _ _ _ _ _)
      | (with_reducible exact ih9 _ _ _ _ _ _)
      | (with_reducible exact impl_CentreOf.mono _ _)
      | (with_reducible exact impl_MirrorRow.mono _ _)
      | (with_reducible exact impl_MomentAbout.mono _ _ _)
      | (with_reducible exact impl_NarrowBase.mono _ _)
      | (with_reducible exact impl_ReactionsOf.mono _ _ _ _)
      | (with_reducible exact impl_TipSide.mono _ _ _ _)
      | (with_reducible exact impl_WeightOf.mono _ _)
      | (with_reducible exact laws_rRow.mono _ _ _)
      | (with_reducible exact spec_CentreOf.mono _ _)
      | (with_reducible exact spec_DrawMomentAbout.mono _ _)
      | (with_reducible exact spec_DrawTipSide.mono _ _)
      | (with_reducible exact spec_MirrorRow.mono _ _)
      | (with_reducible exact spec_MomentAbout.mono _ _ _)
      | (with_reducible exact spec_NarrowBase.mono _ _)
      | (with_reducible exact spec_ReactionsOf.mono _ _ _ _)
      | (with_reducible exact spec_TipSide.mono _ _ _ _)
      | (with_reducible exact spec_WeightOf.mono _ _)
      | (with_reducible exact LeO.refl _)
      | (with_reducible exact LeO.none _)
      | (with_reducible refine LeO.ite ?_ ?_)
      | (with_reducible refine LeO.bind ?_ (fun _ => ?_))
      | exact ih0 _ _ _ _ _ _ _
      | exact ih1 _ _ _ _ _ _ _ _ _ _ _ _
      | exact ih2 _ _ _ _ _ _ _ _ _ _ _ _ _ _
      | exact ih3 _ _ _ _ _ _ _ _ _ _ _ _ _ _ _ _ _
      | exact ih4 _ _ _ _ _ _ _ _ _ _ _ _ _ _ _ _ _
      | exact ih5 _ _ _ _ _ _ _ _ _ _ _ _ _ _ _ _
      | exact ih6 _ _ _ _ _ _ _ _ _ _ _ _ _ _ _ _ _ _
      | exact ih7 _ _ _ _ _ _ _ _ _ _ _ _
      | exact ih8 _ _ _ _ _ _ _ _ _
      | exact ih9 _ _ _ _ _ _
      | exact impl_CentreOf.mono _ _
      | exact impl_MirrorRow.mono _ _
      | exact impl_MomentAbout.mono _ _ _
      | exact impl_NarrowBase.mono _ _
      | exact impl_ReactionsOf.mono _ _ _ _
      | exact impl_TipSide.mono _ _ _ _
      | exact impl_WeightOf.mono _ _
      | exact laws_rRow.mono _ _ _
      | exact spec_CentreOf.mono _ _
      | exact spec_DrawMomentAbout.mono _ _
      | exact spec_DrawTipSide.mono _ _
      | exact spec_MirrorRow.mono _ _
      | exact spec_MomentAbout.mono _ _ _
      | exact spec_NarrowBase.mono _ _
      | exact spec_ReactionsOf.mono _ _ _ _
      | exact spec_TipSide.mono _ _ _ _
      | exact spec_WeightOf.mono _ _
      | exact LeO.none _
      | refine LeO.ite ?_ ?_
      | refine LeO.bind ?_ (fun _ => ?_)
    · intro y0 y1 y2 y3 y4 y5 y6 y7 y8 y9 y10 y11 y12 y13
      unfold laws_FnCentres.j2
      repeat' first
      | (with_reducible exact ih0 _ _ _ _ _ _ _)
      | (with_reducible exact ih1 _ _ _ _ _ _ _ _ _ _ _ _)
      | (with_reducible exact ih2 _ _ _ _ _ _ _ _ _ _ _ _ _ _)
      | (with_reducible exact ih3 _ _ _ _ _ _ _ _ _ _ _ _ _ _ _ _ _)
      | (with_reducible exact ih4 _ _ _ _ _ _ _ _ _ _ _ _ _ _ _ _ _)
      | (with_reducible exact ih5 _ _ _ _ _ _ _ _ _ _ _ _ _ _ _ _)
      | (with_reducible exact ih6 _ _ _ _ _ _ _ _ _ _ _ _ _ _ _ _ _ _)
      | (with_reducible exact ih7 _ _ _ _ _ _ _ _ _ _ _ _)
      | (with_reducible exact ih8 _ _ _ _ _ _ _ _ _)
      | (with_reducible exact ih9 _ _ _ _ _ _)
      | (with_reducible exact impl_CentreOf.mono _ _)
      | (with_reducible exact impl_MirrorRow.mono _ _)
      | (with_reducible exact impl_MomentAbout.mono _ _ _)
      | (with_reducible exact impl_NarrowBase.mono _ _)
      | (with_reducible exact impl_ReactionsOf.mono _ _ _ _)
      | (with_reducible exact impl_TipSide.mono _ _ _ _)
      | (with_reducible exact impl_WeightOf.mono _ _)
      | (with_reducible exact laws_rRow.mono _ _ _)
      | (with_reducible exact spec_CentreOf.mono _ _)
      | (with_reducible exact spec_DrawMomentAbout.mono _ _)
      | (with_reducible exact spec_DrawTipSide.mono _ _)
      | (with_reducible exact spec_MirrorRow.mono _ _)
      | (with_reducible exact spec_MomentAbout.mono _ _ _)
      | (with_reducible exact spec_NarrowBase.mono _ _)
      | (with_reducible exact spec_ReactionsOf.mono _ _ _ _)
      | (with_reducible exact spec_TipSide.mono _ _ _ _)
      | (with_reducible exact spec_WeightOf.mono _ _)
      | (with_reducible exact LeO.refl _)
      | (with_reducible exact LeO.none _)
      | (with_reducible refine LeO.ite ?_ ?_)
      | (with_reducible refine LeO.bind ?_ (fun _ => ?_))
      | exact ih0 _ _ _ _ _ _ _
      | exact ih1 _ _ _ _ _ _ _ _ _ _ _ _
      | exact ih2 _ _ _ _ _ _ _ _ _ _ _ _ _ _
      | exact ih3 _ _ _ _ _ _ _ _ _ _ _ _ _ _ _ _ _
      | exact ih4 _ _ _ _ _ _ _ _ _ _ _ _ _ _ _ _ _
      | exact ih5 _ _ _ _ _ _ _ _ _ _ _ _ _ _ _ _
      | exact ih6 _ _ _ _ _ _ _ _ _ _ _ _ _ _ _ _ _ _
      | exact ih7 _ _ _ _ _ _ _ _ _ _ _ _
      | exact ih8 _ _ _ _ _ _ _ _ _
      | exact ih9 _ _ _ _ _ _
      | exact impl_CentreOf.mono _ _
      | exact impl_MirrorRow.mono _ _
      | exact impl_MomentAbout.mono _ _ _
      | exact impl_NarrowBase.mono _ _
      | exact impl_ReactionsOf.mono _ _ _ _
      | exact impl_TipSide.mono _ _ _ _
      | exact impl_WeightOf.mono _ _
      | exact laws_rRow.mono _ _ _
      | exact spec_CentreOf.mono _ _
      | exact spec_DrawMomentAbout.mono _ _
      | exact spec_DrawTipSide.mono _ _
      | exact spec_MirrorRow.mono _ _
      | exact spec_MomentAbout.mono _ _ _
      | exact spec_NarrowBase.mono _ _
      | exact spec_ReactionsOf.mono _ _ _ _
      | exact spec_TipSide.mono _ _ _ _
      | exact spec_WeightOf.mono _ _
      | exact LeO.none _
      | refine LeO.ite ?_ ?_
      | refine LeO.bind ?_ (fun _ => ?_)
    · intro y0 y1 y2 y3 y4 y5 y6 y7 y8 y9 y10 y11 y12 y13 y14 y15 y16
      unfold laws_FnCentres.j3
      repeat' first
      | (with_reducible exact ih0 _ _ _ _ _ _ _)
      | (with_reducible exact ih1 _ _ _ _ _ _ _ _ _ _ _ _)
      | (with_reducible exact ih2 _ _ _ _ _ _ _ _ _ _ _ _ _ _)
      | (with_reducible exact ih3 _ _ _ _ _ _ _ _ _ _ _ _ _ _ _ _ _)
      | (with_reducible exact ih4 _ _ _ _ _ _ _ _ _ _ _ _ _ _ _ _ _)
      | (with_reducible exact ih5 _ _ _ _ _ _ _ _ _ _ _ _ _ _ _ _)
      | (with_reducible exact ih6 _ _ _ _ _ _ _ _ _ _ _ _ _ _ _ _ _ _)
      | (with_reducible exact ih7 _ _ _ _ _ _ _ _ _ _ _ _)
      | (with_reducible exact ih8 _ _ _ _ _ _ _ _ _)
      | (with_reducible exact ih9 _ _ _ _ _ _)
      | (with_reducible exact impl_CentreOf.mono _ _)
      | (with_reducible exact impl_MirrorRow.mono _ _)
      | (with_reducible exact impl_MomentAbout.mono _ _ _)
      | (with_reducible exact impl_NarrowBase.mono _ _)
      | (with_reducible exact impl_ReactionsOf.mono _ _ _ _)
      | (with_reducible exact impl_TipSide.mono _ _ _ _)
      | (with_reducible exact impl_WeightOf.mono _ _)
      | (with_reducible exact laws_rRow.mono _ _ _)
      | (with_reducible exact spec_CentreOf.mono _ _)
      | (with_reducible exact spec_DrawMomentAbout.mono _ _)
      | (with_reducible exact spec_DrawTipSide.mono _ _)
      | (with_reducible exact spec_MirrorRow.mono _ _)
      | (with_reducible exact spec_MomentAbout.mono _ _ _)
      | (with_reducible exact spec_NarrowBase.mono _ _)
      | (with_reducible exact spec_ReactionsOf.mono _ _ _ _)
      | (with_reducible exact spec_TipSide.mono _ _ _ _)
      | (with_reducible exact spec_WeightOf.mono _ _)
      | (with_reducible exact LeO.refl _)
      | (with_reducible exact LeO.none _)
      | (with_reducible refine LeO.ite ?_ ?_)
      | (with_reducible refine LeO.bind ?_ (fun _ => ?_))
      | exact ih0 _ _ _ _ _ _ _
      | exact ih1 _ _ _ _ _ _ _ _ _ _ _ _
      | exact ih2 _ _ _ _ _ _ _ _ _ _ _ _ _ _
      | exact ih3 _ _ _ _ _ _ _ _ _ _ _ _ _ _ _ _ _
      | exact ih4 _ _ _ _ _ _ _ _ _ _ _ _ _ _ _ _ _
      | exact ih5 _ _ _ _ _ _ _ _ _ _ _ _ _ _ _ _
      | exact ih6 _ _ _ _ _ _ _ _ _ _ _ _ _ _ _ _ _ _
      | exact ih7 _ _ _ _ _ _ _ _ _ _ _ _
      | exact ih8 _ _ _ _ _ _ _ _ _
      | exact ih9 _ _ _ _ _ _
      | exact impl_CentreOf.mono _ _
      | exact impl_MirrorRow.mono _ _
      | exact impl_MomentAbout.mono _ _ _
      | exact impl_NarrowBase.mono _ _
      | exact impl_ReactionsOf.mono _ _ _ _
      | exact impl_TipSide.mono _ _ _ _
      | exact impl_WeightOf.mono _ _
      | exact laws_rRow.mono _ _ _
      | exact spec_CentreOf.mono _ _
      | exact spec_DrawMomentAbout.mono _ _
      | exact spec_DrawTipSide.mono _ _
      | exact spec_MirrorRow.mono _ _
      | exact spec_MomentAbout.mono _ _ _
      | exact spec_NarrowBase.mono _ _
      | exact spec_ReactionsOf.mono _ _ _ _
      | exact spec_TipSide.mono _ _ _ _
      | exact spec_WeightOf.mono _ _
      | exact LeO.none _
      | refine LeO.ite ?_ ?_
      | refine LeO.bind ?_ (fun _ => ?_)
    · intro y0 y1 y2 y3 y4 y5 y6 y7 y8 y9 y10 y11 y12 y13 y14 y15 y16
      unfold laws_FnCentres.j4
      repeat' first
      | (with_reducible exact ih0 _ _ _ _ _ _ _)
      | (with_reducible exact ih1 _ _ _ _ _ _ _ _ _ _ _ _)
      | (with_reducible exact ih2 _ _ _ _ _ _ _ _ _ _ _ _ _ _)
      | (with_reducible exact ih3 _ _ _ _ _ _ _ _ _ _ _ _ _ _ _ _ _)
      | (with_reducible exact ih4 _ _ _ _ _ _ _ _ _ _ _ _ _ _ _ _ _)
      | (with_reducible exact ih5 _ _ _ _ _ _ _ _ _ _ _ _ _ _ _ _)
      | (with_reducible exact ih6 _ _ _ _ _ _ _ _ _ _ _ _ _ _ _ _ _ _)
      | (with_reducible exact ih7 _ _ _ _ _ _ _ _ _ _ _ _)
      | (with_reducible exact ih8 _ _ _ _ _ _ _ _ _)
      | (with_reducible exact ih9 _ _ _ _ _ _)
      | (with_reducible exact impl_CentreOf.mono _ _)
      | (with_reducible exact impl_MirrorRow.mono _ _)
      | (with_reducible exact impl_MomentAbout.mono _ _ _)
      | (with_reducible exact impl_NarrowBase.mono _ _)
      | (with_reducible exact impl_ReactionsOf.mono _ _ _ _)
      | (with_reducible exact impl_TipSide.mono _ _ _ _)
      | (with_reducible exact impl_WeightOf.mono _ _)
      | (with_reducible exact laws_rRow.mono _ _ _)
      | (with_reducible exact spec_CentreOf.mono _ _)
      | (with_reducible exact spec_DrawMomentAbout.mono _ _)
      | (with_reducible exact spec_DrawTipSide.mono _ _)
      | (with_reducible exact spec_MirrorRow.mono _ _)
      | (with_reducible exact spec_MomentAbout.mono _ _ _)
      | (with_reducible exact spec_NarrowBase.mono _ _)
      | (with_reducible exact spec_ReactionsOf.mono _ _ _ _)
      | (with_reducible exact spec_TipSide.mono _ _ _ _)
      | (with_reducible exact spec_WeightOf.mono _ _)
      | (with_reducible exact LeO.refl _)
      | (with_reducible exact LeO.none _)
      | (with_reducible refine LeO.ite ?_ ?_)
      | (with_reducible refine LeO.bind ?_ (fun _ => ?_))
      | exact ih0 _ _ _ _ _ _ _
      | exact ih1 _ _ _ _ _ _ _ _ _ _ _ _
      | exact ih2 _ _ _ _ _ _ _ _ _ _ _ _ _ _
      | exact ih3 _ _ _ _ _ _ _ _ _ _ _ _ _ _ _ _ _
      | exact ih4 _ _ _ _ _ _ _ _ _ _ _ _ _ _ _ _ _
      | exact ih5 _ _ _ _ _ _ _ _ _ _ _ _ _ _ _ _
      | exact ih6 _ _ _ _ _ _ _ _ _ _ _ _ _ _ _ _ _ _
      | exact ih7 _ _ _ _ _ _ _ _ _ _ _ _
      | exact ih8 _ _ _ _ _ _ _ _ _
      | exact ih9 _ _ _ _ _ _
      | exact impl_CentreOf.mono _ _
      | exact impl_MirrorRow.mono _ _
      | exact impl_MomentAbout.mono _ _ _
      | exact impl_NarrowBase.mono _ _
      | exact impl_ReactionsOf.mono _ _ _ _
      | exact impl_TipSide.mono _ _ _ _
      | exact impl_WeightOf.mono _ _
      | exact laws_rRow.mono _ _ _
      | exact spec_CentreOf.mono _ _
      | exact spec_DrawMomentAbout.mono _ _
      | exact spec_DrawTipSide.mono _ _
      | exact spec_MirrorRow.mono _ _
      | exact spec_MomentAbout.mono _ _ _
      | exact spec_NarrowBase.mono _ _
      | exact spec_ReactionsOf.mono _ _ _ _
      | exact spec_TipSide.mono _ _ _ _
      | exact spec_WeightOf.mono _ _
      | exact LeO.none _
      | refine LeO.ite ?_ ?_
      | refine LeO.bind ?_ (fun _ => ?_)
    · intro y0 y1 y2 y3 y4 y5 y6 y7 y8 y9 y10 y11 y12 y13 y14 y15
      unfold laws_FnCentres.j5
      repeat' first
      | (with_reducible exact ih0 _ _ _ _ _ _ _)
      | (with_reducible exact ih1 _ _ _ _ _ _ _ _ _ _ _ _)
      | (with_reducible exact ih2 _ _ _ _ _ _ _ _ _ _ _ _ _ _)
      | (with_reducible exact ih3 _ _ _ _ _ _ _ _ _ _ _ _ _ _ _ _ _)
      | (with_reducible exact ih4 _ _ _ _ _ _ _ _ _ _ _ _ _ _ _ _ _)
      | (with_reducible exact ih5 _ _ _ _ _ _ _ _ _ _ _ _ _ _ _ _)
      | (with_reducible exact ih6 _ _ _ _ _ _ _ _ _ _ _ _ _ _ _ _ _ _)
      | (with_reducible exact ih7 _ _ _ _ _ _ _ _ _ _ _ _)
      | (with_reducible exact ih8 _ _ _ _ _ _ _ _ _)
      | (with_reducible exact ih9 _ _ _ _ _ _)
      | (with_reducible exact impl_CentreOf.mono _ _)
      | (with_reducible exact impl_MirrorRow.mono _ _)
      | (with_reducible exact impl_MomentAbout.mono _ _ _)
      | (with_reducible exact impl_NarrowBase.mono _ _)
      | (with_reducible exact impl_ReactionsOf.mono _ _ _ _)
      | (with_reducible exact impl_TipSide.mono _ _ _ _)
      | (with_reducible exact impl_WeightOf.mono _ _)
      | (with_reducible exact laws_rRow.mono _ _ _)
      | (with_reducible exact spec_CentreOf.mono _ _)
      | (with_reducible exact spec_DrawMomentAbout.mono _ _)
      | (with_reducible exact spec_DrawTipSide.mono _ _)
      | (with_reducible exact spec_MirrorRow.mono _ _)
      | (with_reducible exact spec_MomentAbout.mono _ _ _)
      | (with_reducible exact spec_NarrowBase.mono _ _)
      | (with_reducible exact spec_ReactionsOf.mono _ _ _ _)
      | (with_reducible exact spec_TipSide.mono _ _ _ _)
      | (with_reducible exact spec_WeightOf.mono _ _)
      | (with_reducible exact LeO.refl _)
      | (with_reducible exact LeO.none _)
      | (with_reducible refine LeO.ite ?_ ?_)
      | (with_reducible refine LeO.bind ?_ (fun _ => ?_))
      | exact ih0 _ _ _ _ _ _ _
      | exact ih1 _ _ _ _ _ _ _ _ _ _ _ _
      | exact ih2 _ _ _ _ _ _ _ _ _ _ _ _ _ _
      | exact ih3 _ _ _ _ _ _ _ _ _ _ _ _ _ _ _ _ _
      | exact ih4 _ _ _ _ _ _ _ _ _ _ _ _ _ _ _ _ _
      | exact ih5 _ _ _ _ _ _ _ _ _ _ _ _ _ _ _ _
      | exact ih6 _ _ _ _ _ _ _ _ _ _ _ _ _ _ _ _ _ _
      | exact ih7 _ _ _ _ _ _ _ _ _ _ _ _
      | exact ih8 _ _ _ _ _ _ _ _ _
      | exact ih9 _ _ _ _ _ _
      | exact impl_CentreOf.mono _ _
      | exact impl_MirrorRow.mono _ _
      | exact impl_MomentAbout.mono _ _ _
      | exact impl_NarrowBase.mono _ _
      | exact impl_ReactionsOf.mono _ _ _ _
      | exact impl_TipSide.mono _ _ _ _
      | exact impl_WeightOf.mono _ _
      | exact laws_rRow.mono _ _ _
      | exact spec_CentreOf.mono _ _
      | exact spec_DrawMomentAbout.mono _ _
      | exact spec_DrawTipSide.mono _ _
      | exact spec_MirrorRow.mono _ _
      | exact spec_MomentAbout.mono _ _ _
      | exact spec_NarrowBase.mono _ _
      | exact spec_ReactionsOf.mono _ _ _ _
      | exact spec_TipSide.mono _ _ _ _
      | exact spec_WeightOf.mono _ _
      | exact LeO.none _
      | refine LeO.ite ?_ ?_
      | refine LeO.bind ?_ (fun _ => ?_)
    · intro y0 y1 y2 y3 y4 y5 y6 y7 y8 y9 y10 y11 y12 y13 y14 y15 y16 y17
      unfold laws_FnCentres.j6
      repeat' first
      | (with_reducible exact ih0 _ _ _ _ _ _ _)
      | (with_reducible exact ih1 _ _ _ _ _ _ _ _ _ _ _ _)
      | (with_reducible exact ih2 _ _ _ _ _ _ _ _ _ _ _ _ _ _)
      | (with_reducible exact ih3 _ _ _ _ _ _ _ _ _ _ _ _ _ _ _ _ _)
      | (with_reducible exact ih4 _ _ _ _ _ _ _ _ _ _ _ _ _ _ _ _ _)
      | (with_reducible exact ih5 _ _ _ _ _ _ _ _ _ _ _ _ _ _ _ _)
      | (with_reducible exact ih6 _ _ _ _ _ _ _ _ _ _ _ _ _ _ _ _ _ _)
      | (with_reducible exact ih7 _ _ _ _ _ _ _ _ _ _ _ _)
      | (with_reducible exact ih8 _ _ _ _ _ _ _ _ _)
      | (with_reducible exact ih9 _ _ _ _ _ _)
      | (with_reducible exact impl_CentreOf.mono _ _)
      | (with_reducible exact impl_MirrorRow.mono _ _)
      | (with_reducible exact impl_MomentAbout.mono _ _ _)
      | (with_reducible exact impl_NarrowBase.mono _ _)
      | (with_reducible exact impl_ReactionsOf.mono _ _ _ _)
      | (with_reducible exact impl_TipSide.mono _ _ _ _)
      | (with_reducible exact impl_WeightOf.mono _ _)
      | (with_reducible exact laws_rRow.mono _ _ _)
      | (with_reducible exact spec_CentreOf.mono _ _)
      | (with_reducible exact spec_DrawMomentAbout.mono _ _)
      | (with_reducible exact spec_DrawTipSide.mono _ _)
      | (with_reducible exact spec_MirrorRow.mono _ _)
      | (with_reducible exact spec_MomentAbout.mono _ _ _)
      | (with_reducible exact spec_NarrowBase.mono _ _)
      | (with_reducible exact spec_ReactionsOf.mono _ _ _ _)
      | (with_reducible exact spec_TipSide.mono _ _ _ _)
      | (with_reducible exact spec_WeightOf.mono _ _)
      | (with_reducible exact LeO.refl _)
      | (with_reducible exact LeO.none _)
      | (with_reducible refine LeO.ite ?_ ?_)
      | (with_reducible refine LeO.bind ?_ (fun _ => ?_))
      | exact ih0 _ _ _ _ _ _ _
      | exact ih1 _ _ _ _ _ _ _ _ _ _ _ _
      | exact ih2 _ _ _ _ _ _ _ _ _ _ _ _ _ _
      | exact ih3 _ _ _ _ _ _ _ _ _ _ _ _ _ _ _ _ _
      | exact ih4 _ _ _ _ _ _ _ _ _ _ _ _ _ _ _ _ _
      | exact ih5 _ _ _ _ _ _ _ _ _ _ _ _ _ _ _ _
      | exact ih6 _ _ _ _ _ _ _ _ _ _ _ _ _ _ _ _ _ _
      | exact ih7 _ _ _ _ _ _ _ _ _ _ _ _
      | exact ih8 _ _ _ _ _ _ _ _ _
      | exact ih9 _ _ _ _ _ _
      | exact impl_CentreOf.mono _ _
      | exact impl_MirrorRow.mono _ _
      | exact impl_MomentAbout.mono _ _ _
      | exact impl_NarrowBase.mono _ _
      | exact impl_ReactionsOf.mono _ _ _ _
      | exact impl_TipSide.mono _ _ _ _
      | exact impl_WeightOf.mono _ _
      | exact laws_rRow.mono _ _ _
      | exact spec_CentreOf.mono _ _
      | exact spec_DrawMomentAbout.mono _ _
      | exact spec_DrawTipSide.mono _ _
      | exact spec_MirrorRow.mono _ _
      | exact spec_MomentAbout.mono _ _ _
      | exact spec_NarrowBase.mono _ _
      | exact spec_ReactionsOf.mono _ _ _ _
      | exact spec_TipSide.mono _ _ _ _
      | exact spec_WeightOf.mono _ _
      | exact LeO.none _
      | refine LeO.ite ?_ ?_
      | refine LeO.bind ?_ (fun _ => ?_)
    · intro y0 y1 y2 y3 y4 y5 y6 y7 y8 y9 y10 y11
      unfold laws_FnCentres.j7
      repeat' first
      | (with_reducible exact ih0 _ _ _ _ _ _ _)
      | (with_reducible exact ih1 _ _ _ _ _ _ _ _ _ _ _ _)
      | (with_reducible exact ih2 _ _ _ _ _ _ _ _ _ _ _ _ _ _)
      | (with_reducible exact ih3 _ _ _ _ _ _ _ _ _ _ _ _ _ _ _ _ _)
      | (with_reducible exact ih4 _ _ _ _ _ _ _ _ _ _ _ _ _ _ _ _ _)
      | (with_reducible exact ih5 _ _ _ _ _ _ _ _ _ _ _ _ _ _ _ _)
      | (with_reducible exact ih6 _ _ _ _ _ _ _ _ _ _ _ _ _ _ _ _ _ _)
      | (with_reducible exact ih7 _ _ _ _ _ _ _ _ _ _ _ _)
      | (with_reducible exact ih8 _ _ _ _ _ _ _ _ _)
      | (with_reducible exact ih9 _ _ _ _ _ _)
      | (with_reducible exact impl_CentreOf.mono _ _)
      | (with_reducible exact impl_MirrorRow.mono _ _)
      | (with_reducible exact impl_MomentAbout.mono _ _ _)
      | (with_reducible exact impl_NarrowBase.mono _ _)
      | (with_reducible exact impl_ReactionsOf.mono _ _ _ _)
      | (with_reducible exact impl_TipSide.mono _ _ _ _)
      | (with_reducible exact impl_WeightOf.mono _ _)
      | (with_reducible exact laws_rRow.mono _ _ _)
      | (with_reducible exact spec_CentreOf.mono _ _)
      | (with_reducible exact spec_DrawMomentAbout.mono _ _)
      | (with_reducible exact spec_DrawTipSide.mono _ _)
      | (with_reducible exact spec_MirrorRow.mono _ _)
      | (with_reducible exact spec_MomentAbout.mono _ _ _)
      | (with_reducible exact spec_NarrowBase.mono _ _)
      | (with_reducible exact spec_ReactionsOf.mono _ _ _ _)
      | (with_reducible exact spec_TipSide.mono _ _ _ _)
      | (with_reducible exact spec_WeightOf.mono _ _)
      | (with_reducible exact LeO.refl _)
      | (with_reducible exact LeO.none _)
      | (with_reducible refine LeO.ite ?_ ?_)
      | (with_reducible refine LeO.bind ?_ (fun _ => ?_))
      | exact ih0 _ _ _ _ _ _ _
      | exact ih1 _ _ _ _ _ _ _ _ _ _ _ _
      | exact ih2 _ _ _ _ _ _ _ _ _ _ _ _ _ _
      | exact ih3 _ _ _ _ _ _ _ _ _ _ _ _ _ _ _ _ _
      | exact ih4 _ _ _ _ _ _ _ _ _ _ _ _ _ _ _ _ _
      | exact ih5 _ _ _ _ _ _ _ _ _ _ _ _ _ _ _ _
      | exact ih6 _ _ _ _ _ _ _ _ _ _ _ _ _ _ _ _ _ _
      | exact ih7 _ _ _ _ _ _ _ _ _ _ _ _
      | exact ih8 _ _ _ _ _ _ _ _ _
      | exact ih9 _ _ _ _ _ _
      | exact impl_CentreOf.mono _ _
      | exact impl_MirrorRow.mono _ _
      | exact impl_MomentAbout.mono _ _ _
      | exact impl_NarrowBase.mono _ _
      | exact impl_ReactionsOf.mono _ _ _ _
      | exact impl_TipSide.mono _ _ _ _
      | exact impl_WeightOf.mono _ _
      | exact laws_rRow.mono _ _ _
      | exact spec_CentreOf.mono _ _
      | exact spec_DrawMomentAbout.mono _ _
      | exact spec_DrawTipSide.mono _ _
      | exact spec_MirrorRow.mono _ _
      | exact spec_MomentAbout.mono _ _ _
      | exact spec_NarrowBase.mono _ _
      | exact spec_ReactionsOf.mono _ _ _ _
      | exact spec_TipSide.mono _ _ _ _
      | exact spec_WeightOf.mono _ _
      | exact LeO.none _
      | refine LeO.ite ?_ ?_
      | refine LeO.bind ?_ (fun _ => ?_)
    · intro y0 y1 y2 y3 y4 y5 y6 y7 y8
      unfold laws_FnCentres.j8
      repeat' first
      | (with_reducible exact ih0 _ _ _ _ _ _ _)
      | (with_reducible exact ih1 _ _ _ _ _ _ _ _ _ _ _ _)
      | (with_reducible exact ih2 _ _ _ _ _ _ _ _ _ _ _ _ _ _)
      | (with_reducible exact ih3 _ _ _ _ _ _ _ _ _ _ _ _ _ _ _ _ _)
      | (with_reducible exact ih4 _ _ _ _ _ _ _ _ _ _ _ _ _ _ _ _ _)
      | (with_reducible exact ih5 _ _ _ _ _ _ _ _ _ _ _ _ _ _ _ _)
      | (with_reducible exact ih6 _ _ _ _ _ _ _ _ _ _ _ _ _ _ _ _ _ _)
      | (with_reducible exact ih7 _ _ _ _ _ _ _ _ _ _ _ _)
      | (with_reducible exact ih8 _ _ _ _ _ _ _ _ _)
      | (with_reducible exact ih9 _ _ _ _ _ _)
      | (with_reducible exact impl_CentreOf.mono _ _)
      | (with_reducible exact impl_MirrorRow.mono _ _)
      | (with_reducible exact impl_MomentAbout.mono _ _ _)
      | (with_reducible exact impl_NarrowBase.mono _ _)
      | (with_reducible exact impl_ReactionsOf.mono _ _ _ _)
      | (with_reducible exact impl_TipSide.mono _ _ _ _)
      | (with_reducible exact impl_WeightOf.mono _ _)
      | (with_reducible exact laws_rRow.mono _ _ _)
      | (with_reducible exact spec_CentreOf.mono _ _)
      | (with_reducible exact spec_DrawMomentAbout.mono _ _)
      | (with_reducible exact spec_DrawTipSide.mono _ _)
      | (with_reducible exact spec_MirrorRow.mono _ _)
      | (with_reducible exact spec_MomentAbout.mono _ _ _)
      | (with_reducible exact spec_NarrowBase.mono _ _)
      | (with_reducible exact spec_ReactionsOf.mono _ _ _ _)
      | (with_reducible exact spec_TipSide.mono _ _ _ _)
      | (with_reducible exact spec_WeightOf.mono _ _)
      | (with_reducible exact LeO.refl _)
      | (with_reducible exact LeO.none _)
      | (with_reducible refine LeO.ite ?_ ?_)
      | (with_reducible refine LeO.bind ?_ (fun _ => ?_))
      | exact ih0 _ _ _ _ _ _ _
      | exact ih1 _ _ _ _ _ _ _ _ _ _ _ _
      | exact ih2 _ _ _ _ _ _ _ _ _ _ _ _ _ _
      | exact ih3 _ _ _ _ _ _ _ _ _ _ _ _ _ _ _ _ _
      | exact ih4 _ _ _ _ _ _ _ _ _ _ _ _ _ _ _ _ _
      | exact ih5 _ _ _ _ _ _ _ _ _ _ _ _ _ _ _ _
      | exact ih6 _ _ _ _ _ _ _ _ _ _ _ _ _ _ _ _ _ _
      | exact ih7 _ _ _ _ _ _ _ _ _ _ _ _
      | exact ih8 _ _ _ _ _ _ _ _ _
      | exact ih9 _ _ _ _ _ _
      | exact impl_CentreOf.mono _ _
      | exact impl_MirrorRow.mono _ _
      | exact impl_MomentAbout.mono _ _ _
      | exact impl_NarrowBase.mono _ _
      | exact impl_ReactionsOf.mono _ _ _ _
      | exact impl_TipSide.mono _ _ _ _
      | exact impl_WeightOf.mono _ _
      | exact laws_rRow.mono _ _ _
      | exact spec_CentreOf.mono _ _
      | exact spec_DrawMomentAbout.mono _ _
      | exact spec_DrawTipSide.mono _ _
      | exact spec_MirrorRow.mono _ _
      | exact spec_MomentAbout.mono _ _ _
      | exact spec_NarrowBase.mono _ _
      | exact spec_ReactionsOf.mono _ _ _ _
      | exact spec_TipSide.mono _ _ _ _
      | exact spec_WeightOf.mono _ _
      | exact LeO.none _
      | refine LeO.ite ?_ ?_
      | refine LeO.bind ?_ (fun _ => ?_)
    · intro y0 y1 y2 y3 y4 y5
      unfold laws_FnCentres.j9
      repeat' first
      | (with_reducible exact ih0 _ _ _ _ _ _ _)
      | (with_reducible exact ih1 _ _ _ _ _ _ _ _ _ _ _ _)
      | (with_reducible exact ih2 _ _ _ _ _ _ _ _ _ _ _ _ _ _)
      | (with_reducible exact ih3 _ _ _ _ _ _ _ _ _ _ _ _ _ _ _ _ _)
      | (with_reducible exact ih4 _ _ _ _ _ _ _ _ _ _ _ _ _ _ _ _ _)
      | (with_reducible exact ih5 _ _ _ _ _ _ _ _ _ _ _ _ _ _ _ _)
      | (with_reducible exact ih6 _ _ _ _ _ _ _ _ _ _ _ _ _ _ _ _ _ _)
      | (with_reducible exact ih7 _ _ _ _ _ _ _ _ _ _ _ _)
      | (with_reducible exact ih8 _ _ _ _ _ _ _ _ _)
      | (with_reducible exact ih9 _ _ _ _ _ _)
      | (with_reducible exact impl_CentreOf.mono _ _)
      | (with_reducible exact impl_MirrorRow.mono _ _)
      | (with_reducible exact impl_MomentAbout.mono _ _ _)
      | (with_reducible exact impl_NarrowBase.mono _ _)
      | (with_reducible exact impl_ReactionsOf.mono _ _ _ _)
      | (with_reducible exact impl_TipSide.mono _ _ _ _)
      | (with_reducible exact impl_WeightOf.mono _ _)
      | (with_reducible exact laws_rRow.mono _ _ _)
      | (with_reducible exact spec_CentreOf.mono _ _)
      | (with_reducible exact spec_DrawMomentAbout.mono _ _)
      | (with_reducible exact spec_DrawTipSide.mono _ _)
      | (with_reducible exact spec_MirrorRow.mono _ _)
      | (with_reducible exact spec_MomentAbout.mono _ _ _)
      | (with_reducible exact spec_NarrowBase.mono _ _)
      | (with_reducible exact spec_ReactionsOf.mono _ _ _ _)
      | (with_reducible exact spec_TipSide.mono _ _ _ _)
      | (with_reducible exact spec_WeightOf.mono _ _)
      | (with_reducible exact LeO.refl _)
      | (with_reducible exact LeO.none _)
      | (with_reducible refine LeO.ite ?_ ?_)
      | (with_reducible refine LeO.bind ?_ (fun _ => ?_))
      | exact ih0 _ _ _ _ _ _ _
      | exact ih1 _ _ _ _ _ _ _ _ _ _ _ _
      | exact ih2 _ _ _ _ _ _ _ _ _ _ _ _ _ _
      | exact ih3 _ _ _ _ _ _ _ _ _ _ _ _ _ _ _ _ _
      | exact ih4 _ _ _ _ _ _ _ _ _ _ _ _ _ _ _ _ _
      | exact ih5 _ _ _ _ _ _ _ _ _ _ _ _ _ _ _ _
      | exact ih6 _ _ _ _ _ _ _ _ _ _ _ _ _ _ _ _ _ _
      | exact ih7 _ _ _ _ _ _ _ _ _ _ _ _
      | exact ih8 _ _ _ _ _ _ _ _ _
      | exact ih9 _ _ _ _ _ _
      | exact impl_CentreOf.mono _ _
      | exact impl_MirrorRow.mono _ _
      | exact impl_MomentAbout.mono _ _ _
      | exact impl_NarrowBase.mono _ _
      | exact impl_ReactionsOf.mono _ _ _ _
      | exact impl_TipSide.mono _ _ _ _
      | exact impl_WeightOf.mono _ _
      | exact laws_rRow.mono _ _ _
      | exact spec_CentreOf.mono _ _
      | exact spec_DrawMomentAbout.mono _ _
      | exact spec_DrawTipSide.mono _ _
      | exact spec_MirrorRow.mono _ _
      | exact spec_MomentAbout.mono _ _ _
      | exact spec_NarrowBase.mono _ _
      | exact spec_ReactionsOf.mono _ _ _ _
      | exact spec_TipSide.mono _ _ _ _
      | exact spec_WeightOf.mono _ _
      | exact LeO.none _
      | refine LeO.ite ?_ ?_
      | refine LeO.bind ?_ (fun _ => ?_)
theorem laws_FnCentres.mono : ∀ a0 k, LeO (laws_FnCentres.f k a0) (laws_FnCentres.f (k + 1) a0) := by
  intro a0 k
  obtain ⟨ih0, ih1, ih2, ih3, ih4, ih5, ih6, ih7, ih8, ih9⟩ := laws_FnCentres.mono_l k
  unfold laws_FnCentres.f
  repeat' first
      | (with_reducible exact ih0 _ _ _ _ _ _ _)
      | (with_reducible exact ih1 _ _ _ _ _ _ _ _ _ _ _ _)
      | (with_reducible exact ih2 _ _ _ _ _ _ _ _ _ _ _ _ _ _)
      | (with_reducible exact ih3 _ _ _ _ _ _ _ _ _ _ _ _ _ _ _ _ _)
      | (with_reducible exact ih4 _ _ _ _ _ _ _ _ _ _ _ _ _ _ _ _ _)
      | (with_reducible exact ih5 _ _ _ _ _ _ _ _ _ _ _ _ _ _ _ _)
      | (with_reducible exact ih6 _ _ _ _ _ _ _ _ _ _ _ _ _ _ _ _ _ _)
      | (with_reducible exact ih7 _ _ _ _ _ _ _ _ _ _ _ _)
      | (with_reducible exact ih8 _ _ _ _ _ _ _ _ _)
      | (with_reducible exact ih9 _ _ _ _ _ _)
      | (with_reducible exact impl_CentreOf.mono _ _)
      | (with_reducible exact impl_MirrorRow.mono _ _)
      | (with_reducible exact impl_MomentAbout.mono _ _ _)
      | (with_reducible exact impl_NarrowBase.mono _ _)
      | (with_reducible exact impl_ReactionsOf.mono _ _ _ _)
      | (with_reducible exact impl_TipSide.mono _ _ _ _)
      | (with_reducible exact impl_WeightOf.mono _ _)
      | (with_reducible exact laws_rRow.mono _ _ _)
      | (with_reducible exact spec_CentreOf.mono _ _)
      | (with_reducible exact spec_DrawMomentAbout.mono _ _)
      | (with_reducible exact spec_DrawTipSide.mono _ _)
      | (with_reducible exact spec_MirrorRow.mono _ _)
      | (with_reducible exact spec_MomentAbout.mono _ _ _)
      | (with_reducible exact spec_NarrowBase.mono _ _)
      | (with_reducible exact spec_ReactionsOf.mono _ _ _ _)
      | (with_reducible exact spec_TipSide.mono _ _ _ _)
      | (with_reducible exact spec_WeightOf.mono _ _)
      | (with_reducible exact LeO.refl _)
      | (with_reducible exact LeO.none _)
      | (with_reducible refine LeO.ite ?_ ?_)
      | (with_reducible refine LeO.bind ?_ (fun _ => ?_))
      | exact ih0 _ _ _ _ _ _ _
      | exact ih1 _ _ _ _ _ _ _ _ _ _ _ _
      | exact ih2 _ _ _ _ _ _ _ _ _ _ _ _ _ _
      | exact ih3 _ _ _ _ _ _ _ _ _ _ _ _ _ _ _ _ _
      | exact ih4 _ _ _ _ _ _ _ _ _ _ _ _ _ _ _ _ _
      | exact ih5 _ _ _ _ _ _ _ _ _ _ _ _ _ _ _ _
      | exact ih6 _ _ _ _ _ _ _ _ _ _ _ _ _ _ _ _ _ _
      | exact ih7 _ _ _ _ _ _ _ _ _ _ _ _
      | exact ih8 _ _ _ _ _ _ _ _ _
      | exact ih9 _ _ _ _ _ _
      | exact impl_CentreOf.mono _ _
      | exact impl_MirrorRow.mono _ _
      | exact impl_MomentAbout.mono _ _ _
      | exact impl_NarrowBase.mono _ _
      | exact impl_ReactionsOf.mono _ _ _ _
      | exact impl_TipSide.mono _ _ _ _
      | exact impl_WeightOf.mono _ _
      | exact laws_rRow.mono _ _ _
      | exact spec_CentreOf.mono _ _
      | exact spec_DrawMomentAbout.mono _ _
      | exact spec_DrawTipSide.mono _ _
      | exact spec_MirrorRow.mono _ _
      | exact spec_MomentAbout.mono _ _ _
      | exact spec_NarrowBase.mono _ _
      | exact spec_ReactionsOf.mono _ _ _ _
      | exact spec_TipSide.mono _ _ _ _
      | exact spec_WeightOf.mono _ _
      | exact LeO.none _
      | refine LeO.ite ?_ ?_
      | refine LeO.bind ?_ (fun _ => ?_)
theorem laws_FnCentres.j0_bad {r : Bool} : ∀ (k : Nat) {y0 y1 y2 y3 y4 y5}, laws_FnCentres.j0 k y0 y1 y2 y3 y4 y5 true = some r → r = true → False := by
  intro k y0 y1 y2 y3 y4 y5 h hr
  subst hr
  cases k with
  | zero => simp [laws_FnCentres.j0] at h
  | succ k => simp [laws_FnCentres.j0] at h
theorem laws_FnCentres.j1_bad {r : Bool} : ∀ (k : Nat) {y0 y1 y2 y3 y4 y5 y6 y8 y9 y10 y11}, laws_FnCentres.j1 k y0 y1 y2 y3 y4 y5 y6 true y8 y9 y10 y11 = some r → r = true → False := by
  intro k y0 y1 y2 y3 y4 y5 y6 y8 y9 y10 y11 h hr
  subst hr
  cases k with
  | zero => simp [laws_FnCentres.j1] at h
  | succ k => simp [laws_FnCentres.j1] at h
theorem laws_FnCentres.j2_bad {r : Bool} : ∀ (k : Nat) {y0 y1 y2 y3 y4 y5 y6 y7 y8 y10 y11 y12 y13}, laws_FnCentres.j2 k y0 y1 y2 y3 y4 y5 y6 y7 y8 true y10 y11 y12 y13 = some r → r = true → False := by
  intro k y0 y1 y2 y3 y4 y5 y6 y7 y8 y10 y11 y12 y13 h hr
  subst hr
  cases k with
  | zero => simp [laws_FnCentres.j2] at h
  | succ k => simp [laws_FnCentres.j2] at h
theorem laws_FnCentres.j3_bad {r : Bool} : ∀ (k : Nat) {y0 y1 y2 y3 y4 y5 y6 y7 y8 y9 y11 y12 y13 y14 y15 y16}, laws_FnCentres.j3 k y0 y1 y2 y3 y4 y5 y6 y7 y8 y9 true y11 y12 y13 y14 y15 y16 = some r → r = true → False := by
  intro k y0 y1 y2 y3 y4 y5 y6 y7 y8 y9 y11 y12 y13 y14 y15 y16 h hr
  subst hr
  cases k with
  | zero => simp [laws_FnCentres.j3] at h
  | succ k => simp [laws_FnCentres.j3] at h
theorem laws_FnCentres.j4_bad {r : Bool} : ∀ (k : Nat) {y0 y1 y2 y3 y4 y5 y6 y7 y8 y9 y11 y12 y13 y14 y15 y16}, laws_FnCentres.j4 k y0 y1 y2 y3 y4 y5 y6 y7 y8 y9 true y11 y12 y13 y14 y15 y16 = some r → r = true → False := by
  intro k y0 y1 y2 y3 y4 y5 y6 y7 y8 y9 y11 y12 y13 y14 y15 y16 h hr
  subst hr
  cases k with
  | zero => simp [laws_FnCentres.j4] at h
  | succ k => simp [laws_FnCentres.j4] at h
theorem laws_FnCentres.j5_bad {r : Bool} : ∀ (k : Nat) {y0 y1 y2 y3 y4 y5 y6 y7 y8 y10 y11 y12 y13 y14 y15}, laws_FnCentres.j5 k y0 y1 y2 y3 y4 y5 y6 y7 y8 true y10 y11 y12 y13 y14 y15 = some r → r = true → False := by
  intro k y0 y1 y2 y3 y4 y5 y6 y7 y8 y10 y11 y12 y13 y14 y15 h hr
  subst hr
  cases k with
  | zero => simp [laws_FnCentres.j5] at h
  | succ k => simp [laws_FnCentres.j5] at h
theorem laws_FnCentres.j6_bad {r : Bool} : ∀ (k : Nat) {y0 y1 y2 y3 y4 y5 y6 y7 y8 y9 y10 y12 y13 y14 y15 y16 y17}, laws_FnCentres.j6 k y0 y1 y2 y3 y4 y5 y6 y7 y8 y9 y10 true y12 y13 y14 y15 y16 y17 = some r → r = true → False := by
  intro k y0 y1 y2 y3 y4 y5 y6 y7 y8 y9 y10 y12 y13 y14 y15 y16 y17 h hr
  subst hr
  cases k with
  | zero => simp [laws_FnCentres.j6] at h
  | succ k => simp [laws_FnCentres.j6] at h
theorem laws_FnCentres.j7_bad {r : Bool} : ∀ (k : Nat) {y0 y1 y2 y3 y4 y5 y6 y7 y8 y10 y11}, laws_FnCentres.j7 k y0 y1 y2 y3 y4 y5 y6 y7 y8 true y10 y11 = some r → r = true → False := by
  intro k y0 y1 y2 y3 y4 y5 y6 y7 y8 y10 y11 h hr
  subst hr
  cases k with
  | zero => simp [laws_FnCentres.j7] at h
  | succ k => simp [laws_FnCentres.j7] at h
theorem laws_FnCentres.j8_bad {r : Bool} : ∀ (k : Nat) {y0 y1 y2 y3 y4 y5 y7 y8}, laws_FnCentres.j8 k y0 y1 y2 y3 y4 y5 true y7 y8 = some r → r = true → False := by
  intro k y0 y1 y2 y3 y4 y5 y7 y8 h hr
  subst hr
  cases k with
  | zero => simp [laws_FnCentres.j8] at h
  | succ k => simp [laws_FnCentres.j8] at h
theorem laws_FnCentres.j9_bad {r : Bool} : ∀ (k : Nat) {y0 y1 y2 y3 y4}, laws_FnCentres.j9 k y0 y1 y2 y3 y4 true = some r → r = true → False := by
  intro k y0 y1 y2 y3 y4 h hr
  subst hr
  cases k with
  | zero => simp [laws_FnCentres.j9] at h
  | succ k => simp [laws_FnCentres.j9] at h
def laws_FnCentres.Pure : Prop := ∀ (l0 : List Int), l0.length ≤ maxLen → l0.length * 1 ≤ 140737488351232 → (∀ x ∈ l0, (Lit.int .u8 x).wf = true) → ∃ k, laws_FnCentres.f k l0 = some true
end Go.Proofs.Ytfjcnpoigndfjaa.PFnCentres
