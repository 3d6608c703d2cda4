-- Made by wip/pr.py of this repo over the kit's print (some contracts by hand).
import Derived.Test.YtgnmomdgfamhnaaPFnCoinsx0
import Derived.Test.YtgnmomdgfamhnaaPFnCoinsx1
import Derived.Test.YtgnmomdgfamhnaaPFnCoinsx3
import Derived.Test.YtgnmomdgfamhnaaPFnCoinsx6
import Derived.Test.YtgnmomdgfamhnaaPFnCoinsx7
import Derived.Test.YtgnmomdgfamhnaaPFnCoinsx8
import Derived.Test.YtgnmomdgfamhnaaPFnCoinsx9
import Derived.Test.YtgnmomdgfamhnaaPFnCoinsx10
import Derived.Test.YtgnmomdgfamhnaaPFnCoinsx12
import Derived.Test.YtgnmomdgfamhnaaPFnCoinsx13
namespace Go.Proofs.Ytgnmomdgfamhnaa.PFnCoins
open Go.RowKit Go.Proofs.YtgnmomdgfamhnaaW.PrintWords Go.Proofs.YtgnmomdgfamhnaaW.PrintLast Go.Proofs.YtgnmomdgfamhnaaW.PrintMore
attribute [local go_sem] max2_int min2_int max_two min_two max_three min_three max_four min_four   -- for this text's walks alone
set_option linter.unusedVariables false
set_option linter.unusedSimpArgs false

/-! ### laws_FnCoins: function 3 -/
theorem laws_FnCoins.eqA (W : World) (a b c d : Int) : (Op.equalIn 10000 47 (.agg #[.int .i64 a, .int .i64 b]) (.agg #[.int .i64 c, .int .i64 d])).run Try.prog W = .ok (a == c && b == d) W := by
  obtain ⟨i, hi⟩ := Option.isSome_iff_exists.1 (show (Try.prog.info? 3).isSome = true by kernel_rfl)
  rw [run_equalIn_array W 9999 (e := 3) (n := 2) _ _ Try.underlying47 hi]
  have hc : Try.prog.cellsOf 3 = 1 := by kernel_rfl
  have he : ∀ x y : Int, (Op.equalIn 9999 3 (.int .i64 x) (.int .i64 y)).run Try.prog W = .ok (x == y) W := fun x y => by
    go_simp
  rw [hc]
  have p1 : ∀ (x y : Int), (part 3 #[.int .i64 x, .int .i64 y] (0 * 1)).run Try.prog W = .ok (.int .i64 x) W := fun x y => by
    go_simp
  have p2 : ∀ (x y : Int), (part 3 #[.int .i64 x, .int .i64 y] 1).run Try.prog W = .ok (.int .i64 y) W := fun x y => by
    go_simp
  rw [show List.range 2 = [0, 1] from rfl]
  cases h1 : (a == c)
  · simp [Op.eqItems, p1, he, h1]
  · cases h2 : (b == d) <;> simp [Op.eqItems, p1, p2, he, h1, h2]
mutual
def laws_FnCoins.j0 : Nat → Int → List (List Int) → List Int → List (S47) → Bool → Int → List (List Int) → Bool → Bool → Bool → Int → List (List Int) → Int → Bool → List Int → Bool → List (List Int) → Bool → Int → Bool → Bool → Option (Bool)
  | 0, _, _, _, _, _, _, _, _, _, _, _, _, _, _, _, _, _, _, _, _, _ => none
  | k + 1, x3, x4, x5, x6, x7, x10, x11, x12, x13, x16, x24, x25, x26, x27, x28, x29, x32, x33, x36, x37, x247 => if x247 = true then (some false) else (if x33 = true then ((impl_IsCoinPlan.f k x3 x32).bind fun bt416 => ((impl_TellsHeavy.f k x3 x32).bind fun bt418 => (if bt416.2 = true then (if bt418.2 = true then (if bt416.1 = true then (if bt418.1 = true then (if x37 = true then (if (x32.length : Int) = x36 then (laws_FnCoins.j1 k x3 x4 x5 x6 x7 x10 x11 x12 x13 x16 x24 x25 x26 x27 x28 x29) else (some false)) else (some false)) else (some false)) else (some false)) else (some false)) else (some false)))) else (laws_FnCoins.j1 k x3 x4 x5 x6 x7 x10 x11 x12 x13 x16 x24 x25 x26 x27 x28 x29))
def laws_FnCoins.j1 : Nat → Int → List (List Int) → List Int → List (S47) → Bool → Int → List (List Int) → Bool → Bool → Bool → Int → List (List Int) → Int → Bool → List Int → Bool → Option (Bool)
  | 0, _, _, _, _, _, _, _, _, _, _, _, _, _, _, _, _ => none
  | k + 1, x3, x4, x5, x6, x7, x10, x11, x12, x13, x16, x24, x25, x26, x27, x28, x29 => if x13 = true then ((impl_WeighingsNeeded.f k x10).bind fun bt420 => (if bt420.2 = true then (if x16 = true then (if x12 = true then (if (x11.length : Int) < bt420.1 then (some false) else (laws_FnCoins.j2 k x3 x4 x5 x6 x7 x24 x25 x26 x27 x28 x29)) else (some false)) else (if x12 = true then (if (x11.length : Int) < bt420.1 then (some false) else (laws_FnCoins.j2 k x3 x4 x5 x6 x7 x24 x25 x26 x27 x28 x29)) else (laws_FnCoins.j2 k x3 x4 x5 x6 x7 x24 x25 x26 x27 x28 x29))) else (some false))) else (laws_FnCoins.j2 k x3 x4 x5 x6 x7 x24 x25 x26 x27 x28 x29)
def laws_FnCoins.j2 : Nat → Int → List (List Int) → List Int → List (S47) → Bool → Int → List (List Int) → Int → Bool → List Int → Bool → Option (Bool)
  | 0, _, _, _, _, _, _, _, _, _, _, _ => none
  | k + 1, x3, x4, x5, x6, x7, x24, x25, x26, x27, x28, x29 => if x29 = true then ((impl_CoinsWith.f k x24 x25 x28).bind fun bt422 => (if x27 = true then (laws_FnCoins.j3 k x3 x4 x5 x6 x7 x24 x25 x26 bt422.1 bt422.2 1) else (laws_FnCoins.j3 k x3 x4 x5 x6 x7 x24 x25 x26 bt422.1 bt422.2 (-1)))) else (laws_FnCoins.j5 k x3 x4 x5 x6 x7)
def laws_FnCoins.j5 : Nat → Int → List (List Int) → List Int → List (S47) → Bool → Option (Bool)
  | 0, _, _, _, _, _ => none
  | k + 1, x3, x4, x5, x6, x7 => laws_FnCoins.l1 k x3 x4 x5 x6 x7 0
def laws_FnCoins.l1 : Nat → Int → List (List Int) → List Int → List (S47) → Bool → Int → Option (Bool)
  | 0, _, _, _, _, _, _ => none
  | k + 1, x3, x4, x5, x6, x7, x53 => if x7 = true then (laws_FnCoins.j7 k x3 x4 x5 x6 x7 x53 (decide (x53 < (x6.length : Int)))) else (laws_FnCoins.j7 k x3 x4 x5 x6 x7 x53 false)
def laws_FnCoins.j7 : Nat → Int → List (List Int) → List Int → List (S47) → Bool → Int → Bool → Option (Bool)
  | 0, _, _, _, _, _, _, _ => none
  | k + 1, x3, x4, x5, x6, x7, x53, x361 => if x361 = true then (if 0 ≤ x53 then (if x53 < (x6.length : Int) then ((impl_CoinOutcome.f k x3 x4 ((rd_T47 x6 x53).f0) (((rd_T47 x6 x53).f1) == 1)).bind fun bt431 => (if bt431.2 = true then ((laws_vInts.f k bt431.1 x5).bind fun t435 => (if t435 = true then (laws_FnCoins.l1 k x3 x4 x5 x6 x7 (wrap64 (x53 + 1))) else (some false))) else (some false))) else (none)) else (none)) else (some true)
def laws_FnCoins.j3 : Nat → Int → List (List Int) → List Int → List (S47) → Bool → Int → List (List Int) → Int → List (S47) → Bool → Int → Option (Bool)
  | 0, _, _, _, _, _, _, _, _, _, _, _ => none
  | k + 1, x3, x4, x5, x6, x7, x24, x25, x26, x46, x47, x48 => laws_FnCoins.l0 k x3 x4 x5 x6 x7 x24 x25 x26 x46 x47 x48 false 0
def laws_FnCoins.l0 : Nat → Int → List (List Int) → List Int → List (S47) → Bool → Int → List (List Int) → Int → List (S47) → Bool → Int → Bool → Int → Option (Bool)
  | 0, _, _, _, _, _, _, _, _, _, _, _, _, _ => none
  | k + 1, x3, x4, x5, x6, x7, x24, x25, x26, x46, x47, x48, x49, x50 => if x50 < (x46.length : Int) then (if x49 = true then (laws_FnCoins.l0 k x3 x4 x5 x6 x7 x24 x25 x26 x46 x47 x48 true (wrap64 (x50 + 1))) else (if 0 ≤ x50 then (if ((rd_T47 x46 x50).f0) = x26 then (if ((rd_T47 x46 x50).f1) = x48 then (laws_FnCoins.l0 k x3 x4 x5 x6 x7 x24 x25 x26 x46 x47 x48 true (wrap64 (x50 + 1))) else (laws_FnCoins.l0 k x3 x4 x5 x6 x7 x24 x25 x26 x46 x47 x48 false (wrap64 (x50 + 1)))) else (laws_FnCoins.l0 k x3 x4 x5 x6 x7 x24 x25 x26 x46 x47 x48 false (wrap64 (x50 + 1)))) else (none))) else ((impl_TellsBoth.f k x24 x25).bind fun bt427 => (if x47 = true then (if x49 = true then (if bt427.1 = true then (if (x46.length : Int) = 1 then (laws_FnCoins.j5 k x3 x4 x5 x6 x7) else (some false)) else (laws_FnCoins.j5 k x3 x4 x5 x6 x7)) else (some false)) else (some false)))
end
def laws_FnCoins.f (k : Nat) (l0 : List Int) : Option (Bool) := (laws_vBig.f l0).bind fun t349 => (if t349 = true then (some true) else ((spec_DrawCoinsWith.f k l0).bind fun bt350 => ((impl_CoinsWith.f k bt350.1 bt350.2.1 bt350.2.2).bind fun bt357 => ((spec_CoinsWith.f k bt350.1 bt350.2.1 bt350.2.2).bind fun bt361 => ((laws_vCut.f l0 1).bind fun t365 => ((spec_DrawTellsHeavy.f k t365).bind fun bt368 => ((impl_TellsHeavy.f k bt368.1 bt368.2).bind fun bt372 => ((spec_TellsHeavy.f k bt368.1 bt368.2).bind fun bt374 => ((impl_TellsBoth.f k bt368.1 bt368.2).bind fun bt376 => ((spec_TellsBoth.f k bt368.1 bt368.2).bind fun bt378 => ((impl_IsCoinPlan.f k bt368.1 bt368.2).bind fun bt380 => ((spec_IsCoinPlan.f k bt368.1 bt368.2).bind fun bt382 => ((laws_vCut.f l0 2).bind fun t384 => ((spec_DrawCoinOutcome.f k t384).bind fun bt387 => ((impl_CoinOutcome.f k bt387.1 bt387.2.1 bt387.2.2.1 bt387.2.2.2).bind fun bt393 => ((spec_CoinOutcome.f k bt387.1 bt387.2.1 bt387.2.2.1 bt387.2.2.2).bind fun bt397 => ((impl_HeavyPlan.f k bt350.1).bind fun bt401 => ((spec_HeavyPlan.f k bt350.1).bind fun bt405 => ((impl_WeighingsNeeded.f k bt350.1).bind fun bt409 => ((spec_WeighingsNeeded.f k bt350.1).bind fun bt411 => (if (bt357.2 != bt361.2) = true then (laws_FnCoins.j0 k bt350.1 bt350.2.1 bt350.2.2 bt357.1 bt357.2 bt368.1 bt368.2 bt372.1 bt372.2 bt376.1 bt387.1 bt387.2.1 bt387.2.2.1 bt387.2.2.2 bt393.1 bt393.2 bt401.1 bt401.2 bt409.1 bt409.2 true) else ((laws_vPairs.f k bt357.1 bt361.1).bind fun t413 => (if t413 = true then (if (bt372.1 != bt374.1) = true then (laws_FnCoins.j0 k bt350.1 bt350.2.1 bt350.2.2 bt357.1 bt357.2 bt368.1 bt368.2 bt372.1 bt372.2 bt376.1 bt387.1 bt387.2.1 bt387.2.2.1 bt387.2.2.2 bt393.1 bt393.2 bt401.1 bt401.2 bt409.1 bt409.2 true) else (if (bt372.2 != bt374.2) = true then (laws_FnCoins.j0 k bt350.1 bt350.2.1 bt350.2.2 bt357.1 bt357.2 bt368.1 bt368.2 bt372.1 bt372.2 bt376.1 bt387.1 bt387.2.1 bt387.2.2.1 bt387.2.2.2 bt393.1 bt393.2 bt401.1 bt401.2 bt409.1 bt409.2 true) else (if (bt376.1 != bt378.1) = true then (laws_FnCoins.j0 k bt350.1 bt350.2.1 bt350.2.2 bt357.1 bt357.2 bt368.1 bt368.2 bt372.1 bt372.2 bt376.1 bt387.1 bt387.2.1 bt387.2.2.1 bt387.2.2.2 bt393.1 bt393.2 bt401.1 bt401.2 bt409.1 bt409.2 true) else (if (bt376.2 != bt378.2) = true then (laws_FnCoins.j0 k bt350.1 bt350.2.1 bt350.2.2 bt357.1 bt357.2 bt368.1 bt368.2 bt372.1 bt372.2 bt376.1 bt387.1 bt387.2.1 bt387.2.2.1 bt387.2.2.2 bt393.1 bt393.2 bt401.1 bt401.2 bt409.1 bt409.2 true) else (if (bt380.1 != bt382.1) = true then (laws_FnCoins.j0 k bt350.1 bt350.2.1 bt350.2.2 bt357.1 bt357.2 bt368.1 bt368.2 bt372.1 bt372.2 bt376.1 bt387.1 bt387.2.1 bt387.2.2.1 bt387.2.2.2 bt393.1 bt393.2 bt401.1 bt401.2 bt409.1 bt409.2 true) else (if (bt380.2 != bt382.2) = true then (laws_FnCoins.j0 k bt350.1 bt350.2.1 bt350.2.2 bt357.1 bt357.2 bt368.1 bt368.2 bt372.1 bt372.2 bt376.1 bt387.1 bt387.2.1 bt387.2.2.1 bt387.2.2.2 bt393.1 bt393.2 bt401.1 bt401.2 bt409.1 bt409.2 true) else (if (bt393.2 != bt397.2) = true then (laws_FnCoins.j0 k bt350.1 bt350.2.1 bt350.2.2 bt357.1 bt357.2 bt368.1 bt368.2 bt372.1 bt372.2 bt376.1 bt387.1 bt387.2.1 bt387.2.2.1 bt387.2.2.2 bt393.1 bt393.2 bt401.1 bt401.2 bt409.1 bt409.2 true) else ((laws_vInts.f k bt393.1 bt397.1).bind fun t414 => (if t414 = true then (if (bt401.2 != bt405.2) = true then (laws_FnCoins.j0 k bt350.1 bt350.2.1 bt350.2.2 bt357.1 bt357.2 bt368.1 bt368.2 bt372.1 bt372.2 bt376.1 bt387.1 bt387.2.1 bt387.2.2.1 bt387.2.2.2 bt393.1 bt393.2 bt401.1 bt401.2 bt409.1 bt409.2 true) else ((laws_vTable.f k bt401.1 bt405.1).bind fun t415 => (if t415 = true then (if bt409.1 = bt411.1 then (if (bt409.2 != bt411.2) = true then (laws_FnCoins.j0 k bt350.1 bt350.2.1 bt350.2.2 bt357.1 bt357.2 bt368.1 bt368.2 bt372.1 bt372.2 bt376.1 bt387.1 bt387.2.1 bt387.2.2.1 bt387.2.2.2 bt393.1 bt393.2 bt401.1 bt401.2 bt409.1 bt409.2 true) else (if bt380.2 = true then (if (bt372.2 != bt380.1) = true then (laws_FnCoins.j0 k bt350.1 bt350.2.1 bt350.2.2 bt357.1 bt357.2 bt368.1 bt368.2 bt372.1 bt372.2 bt376.1 bt387.1 bt387.2.1 bt387.2.2.1 bt387.2.2.2 bt393.1 bt393.2 bt401.1 bt401.2 bt409.1 bt409.2 true) else (laws_FnCoins.j0 k bt350.1 bt350.2.1 bt350.2.2 bt357.1 bt357.2 bt368.1 bt368.2 bt372.1 bt372.2 bt376.1 bt387.1 bt387.2.1 bt387.2.2.1 bt387.2.2.2 bt393.1 bt393.2 bt401.1 bt401.2 bt409.1 bt409.2 (bt372.2 != bt376.2))) else (if (bt372.2 != false) = true then (laws_FnCoins.j0 k bt350.1 bt350.2.1 bt350.2.2 bt357.1 bt357.2 bt368.1 bt368.2 bt372.1 bt372.2 bt376.1 bt387.1 bt387.2.1 bt387.2.2.1 bt387.2.2.2 bt393.1 bt393.2 bt401.1 bt401.2 bt409.1 bt409.2 true) else (laws_FnCoins.j0 k bt350.1 bt350.2.1 bt350.2.2 bt357.1 bt357.2 bt368.1 bt368.2 bt372.1 bt372.2 bt376.1 bt387.1 bt387.2.1 bt387.2.2.1 bt387.2.2.2 bt393.1 bt393.2 bt401.1 bt401.2 bt409.1 bt409.2 (bt372.2 != bt376.2))))) else (laws_FnCoins.j0 k bt350.1 bt350.2.1 bt350.2.2 bt357.1 bt357.2 bt368.1 bt368.2 bt372.1 bt372.2 bt376.1 bt387.1 bt387.2.1 bt387.2.2.1 bt387.2.2.2 bt393.1 bt393.2 bt401.1 bt401.2 bt409.1 bt409.2 true)) else (laws_FnCoins.j0 k bt350.1 bt350.2.1 bt350.2.2 bt357.1 bt357.2 bt368.1 bt368.2 bt372.1 bt372.2 bt376.1 bt387.1 bt387.2.1 bt387.2.2.1 bt387.2.2.2 bt393.1 bt393.2 bt401.1 bt401.2 bt409.1 bt409.2 true)))) else (laws_FnCoins.j0 k bt350.1 bt350.2.1 bt350.2.2 bt357.1 bt357.2 bt368.1 bt368.2 bt372.1 bt372.2 bt376.1 bt387.1 bt387.2.1 bt387.2.2.1 bt387.2.2.2 bt393.1 bt393.2 bt401.1 bt401.2 bt409.1 bt409.2 true)))))))))) else (laws_FnCoins.j0 k bt350.1 bt350.2.1 bt350.2.2 bt357.1 bt357.2 bt368.1 bt368.2 bt372.1 bt372.2 bt376.1 bt387.1 bt387.2.1 bt387.2.2.1 bt387.2.2.2 bt393.1 bt393.2 bt401.1 bt401.2 bt409.1 bt409.2 true))))))))))))))))))))))))
theorem laws_FnCoins.mono_l : ∀ k, (∀ y0 y1 y2 y3 y4 y5 y6 y7 y8 y9 y10 y11 y12 y13 y14 y15 y16 y17 y18 y19 y20, LeO (laws_FnCoins.j0 k y0 y1 y2 y3 y4 y5 y6 y7 y8 y9 y10 y11 y12 y13 y14 y15 y16 y17 y18 y19 y20) (laws_FnCoins.j0 (k + 1) y0 y1 y2 y3 y4 y5 y6 y7 y8 y9 y10 y11 y12 y13 y14 y15 y16 y17 y18 y19 y20)) ∧ (∀ y0 y1 y2 y3 y4 y5 y6 y7 y8 y9 y10 y11 y12 y13 y14 y15, LeO (laws_FnCoins.j1 k y0 y1 y2 y3 y4 y5 y6 y7 y8 y9 y10 y11 y12 y13 y14 y15) (laws_FnCoins.j1 (k + 1) y0 y1 y2 y3 y4 y5 y6 y7 y8 y9 y10 y11 y12 y13 y14 y15)) ∧ (∀ y0 y1 y2 y3 y4 y5 y6 y7 y8 y9 y10, LeO (laws_FnCoins.j2 k y0 y1 y2 y3 y4 y5 y6 y7 y8 y9 y10) (laws_FnCoins.j2 (k + 1) y0 y1 y2 y3 y4 y5 y6 y7 y8 y9 y10)) ∧ (∀ y0 y1 y2 y3 y4, LeO (laws_FnCoins.j5 k y0 y1 y2 y3 y4) (laws_FnCoins.j5 (k + 1) y0 y1 y2 y3 y4)) ∧ (∀ y0 y1 y2 y3 y4 y5, LeO (laws_FnCoins.l1 k y0 y1 y2 y3 y4 y5) (laws_FnCoins.l1 (k + 1) y0 y1 y2 y3 y4 y5)) ∧ (∀ y0 y1 y2 y3 y4 y5 y6, LeO (laws_FnCoins.j7 k y0 y1 y2 y3 y4 y5 y6) (laws_FnCoins.j7 (k + 1) y0 y1 y2 y3 y4 y5 y6)) ∧ (∀ y0 y1 y2 y3 y4 y5 y6 y7 y8 y9 y10, LeO (laws_FnCoins.j3 k y0 y1 y2 y3 y4 y5 y6 y7 y8 y9 y10) (laws_FnCoins.j3 (k + 1) y0 y1 y2 y3 y4 y5 y6 y7 y8 y9 y10)) ∧ (∀ y0 y1 y2 y3 y4 y5 y6 y7 y8 y9 y10 y11 y12, LeO (laws_FnCoins.l0 k y0 y1 y2 y3 y4 y5 y6 y7 y8 y9 y10 y11 y12) (laws_FnCoins.l0 (k + 1) y0 y1 y2 y3 y4 y5 y6 y7 y8 y9 y10 y11 y12))
  | 0 => ⟨fun _ _ _ _ _ _ _ _ _ _ _ _ _ _ _ _ _ _ _ _ _ r h => by simp [laws_FnCoins.j0] at h, fun _ _ _ _ _ _ _ _ _ _ _ _ _ _ _ _ r h => by simp [laws_FnCoins.j1] at h, fun _ _ _ _ _ _ _ _ _ _ _ r h => by simp [laws_FnCoins.j2] at h, fun _ _ _ _ _ r h => by simp [laws_FnCoins.j5] at h, fun _ _ _ _ _ _ r h => by simp [laws_FnCoins.l1] at h, fun _ _ _ _ _ _ _ r h => by simp [laws_FnCoins.j7] at h, fun _ _ _ _ _ _ _ _ _ _ _ r h => by simp [laws_FnCoins.j3] at h, fun _ _ _ _ _ _ _ _ _ _ _ _ _ r h => by simp [laws_FnCoins.l0] at h⟩
  | k + 1 => by
    obtain ⟨ih0, ih1, ih2, ih3, ih4, ih5, ih6, ih7⟩ := laws_FnCoins.mono_l k
    refine ⟨?_, ?_, ?_, ?_, ?_, ?_, ?_, ?_⟩
    · intro y0 y1 y2 y3 y4 y5 y6 y7 y8 y9 y10 y11 y12 y13 y14 y15 y16 y17 y18 y19 y20
      unfold laws_FnCoins.j0
      repeat' first
      | (with_reducible exact ih0 _ _ _ _ _ _ _ _ _ _ _ _ _ _ _ _ _ _ _ _ _)
      | (with_reducible exact ih1 _ _ _ _ _ _ _ _ _ _ _ _ _ _ _ _)
      | (with_reducible exact ih2 _ _ _ _ _ _ _ _ _ _ _)
      | (with_reducible exact ih3 _ _ _ _ _)
      | (with_reducible exact ih4 _ _ _ _ _ _)
      | (with_reducible exact ih5 _ _ _ _ _ _ _)
      | (with_reducible exact ih6 _ _ _ _ _ _ _ _ _ _ _)
      | (with_reducible exact ih7 _ _ _ _ _ _ _ _ _ _ _ _ _)
      | (with_reducible exact impl_CoinOutcome.mono _ _ _ _ _)
      | (with_reducible exact impl_CoinsWith.mono _ _ _ _)
      | (with_reducible exact impl_HeavyPlan.mono _ _)
      | (with_reducible exact impl_IsCoinPlan.mono _ _ _)
      | (with_reducible exact impl_TellsBoth.mono _ _ _)
      | (with_reducible exact impl_TellsHeavy.mono _ _ _)
      | (with_reducible exact impl_WeighingsNeeded.mono _ _)
      | (with_reducible exact laws_vInts.mono _ _ _)
      | (with_reducible exact laws_vPairs.mono _ _ _)
      | (with_reducible exact laws_vTable.mono _ _ _)
      | (with_reducible exact spec_CoinOutcome.mono _ _ _ _ _)
      | (with_reducible exact spec_CoinsWith.mono _ _ _ _)
      | (with_reducible exact spec_DrawCoinOutcome.mono _ _)
      | (with_reducible exact spec_DrawCoinsWith.mono _ _)
      | (with_reducible exact spec_DrawTellsHeavy.mono _ _)
      | (with_reducible exact spec_HeavyPlan.mono _ _)
      | (with_reducible exact spec_IsCoinPlan.mono _ _ _)
      | (with_reducible exact spec_TellsBoth.mono _ _ _)
      | (with_reducible exact spec_TellsHeavy.mono _ _ _)
      | (with_reducible exact spec_WeighingsNeeded.mono _ _)
      | (with_reducible exact LeO.refl _)
      | (with_reducible exact LeO.none _)
      | (with_reducible refine LeO.ite ?_ ?_)
      | (with_reducible refine LeO.bind ?_ (fun _ => ?_))
      | exact ih0 _ _ _ _ _ _ _ _ _ _ _ _ _ _ _ _ _ _ _ _ _
      | exact ih1 _ _ _ _ _ _ _ _ _ _ _ _ _ _ _ _
      | exact ih2 _ _ _ _ _ _ _ _ _ _ _
      | exact ih3 _ _ _ _ _
      | exact ih4 _ _ _ _ _ _
      | exact ih5 _ _ _ _ _ _ _
      | exact ih6 _ _ _ _ _ _ _ _ _ _ _
      | exact ih7 _ _ _ _ _ _ _ _ _ _ _ _ _
      | exact impl_CoinOutcome.mono _ _ _ _ _
      | exact impl_CoinsWith.mono _ _ _ _
      | exact impl_HeavyPlan.mono _ _
      | exact impl_IsCoinPlan.mono _ _ _
      | exact impl_TellsBoth.mono _ _ _
      | exact impl_TellsHeavy.mono _ _ _
      | exact impl_WeighingsNeeded.mono _ _
      | exact laws_vInts.mono _ _ _
      | exact laws_vPairs.mono _ _ _
      | exact laws_vTable.mono _ _ _
      | exact spec_CoinOutcome.mono _ _ _ _ _
      | exact spec_CoinsWith.mono _ _ _ _
      | exact spec_DrawCoinOutcome.mono _ _
      | exact spec_DrawCoinsWith.mono _ _
      | exact spec_DrawTellsHeavy.mono _ _
      | exact spec_HeavyPlan.mono _ _
      | exact spec_IsCoinPlan.mono _ _ _
      | exact spec_TellsBoth.mono _ _ _
      | exact spec_TellsHeavy.mono _ _ _
      | exact spec_WeighingsNeeded.mono _ _
      | exact LeO.none _
      | refine LeO.ite ?_ ?_
      | refine LeO.bind ?_ (fun _ => ?_)
    · intro y0 y1 y2 y3 y4 y5 y6 y7 y8 y9 y10 y11 y12 y13 y14 y15
      unfold laws_FnCoins.j1
      repeat' first
      | (with_reducible exact ih0 _ _ _ _ _ _ _ _ _ _ _ _ _ _ _ _ _ _ _ _ _)
      | (with_reducible exact ih1 _ _ _ _ _ _ _ _ _ _ _ _ _ _ _ _)
      | (with_reducible exact ih2 _ _ _ _ _ _ _ _ _ _ _)
      | (with_reducible exact ih3 _ _ _ _ _)
      | (with_reducible exact ih4 _ _ _ _ _ _)
      | (with_reducible exact ih5 _ _ _ _ _ _ _)
      | (with_reducible exact ih6 _ _ _ _ _ _ _ _ _ _ _)
      | (with_reducible exact ih7 _ _ _ _ _ _ _ _ _ _ _ _ _)
      | (with_reducible exact impl_CoinOutcome.mono _ _ _ _ _)
      | (with_reducible exact impl_CoinsWith.mono _ _ _ _)
      | (with_reducible exact impl_HeavyPlan.mono _ _)
      | (with_reducible exact impl_IsCoinPlan.mono _ _ _)
      | (with_reducible exact impl_TellsBoth.mono _ _ _)
      | (with_reducible exact impl_TellsHeavy.mono _ _ _)
      | (with_reducible exact impl_WeighingsNeeded.mono _ _)
      | (with_reducible exact laws_vInts.mono _ _ _)
      | (with_reducible exact laws_vPairs.mono _ _ _)
      | (with_reducible exact laws_vTable.mono _ _ _)
      | (with_reducible exact spec_CoinOutcome.mono _ _ _ _ _)
      | (with_reducible exact spec_CoinsWith.mono _ _ _ _)
      | (with_reducible exact spec_DrawCoinOutcome.mono _ _)
      | (with_reducible exact spec_DrawCoinsWith.mono _ _)
      | (with_reducible exact spec_DrawTellsHeavy.mono _ _)
      | (with_reducible exact spec_HeavyPlan.mono _ _)
      | (with_reducible exact spec_IsCoinPlan.mono _ _ _)
      | (with_reducible exact spec_TellsBoth.mono _ _ _)
      | (with_reducible exact spec_TellsHeavy.mono _ _ _)
      | (with_reducible exact spec_WeighingsNeeded.mono _ _)
      | (with_reducible exact LeO.refl _)
      | (with_reducible exact LeO.none _)
      | (with_reducible refine LeO.ite ?_ ?_)
      | (with_reducible refine LeO.bind ?_ (fun _ => ?_))
      | exact ih0 _ _ _ _ _ _ _ _ _ _ _ _ _ _ _ _ _ _ _ _ _
      | exact ih1 _ _ _ _ _ _ _ _ _ _ _ _ _ _ _ _
      | exact ih2 _ _ _ _ _ _ _ _ _ _ _
      | exact ih3 _ _ _ _ _
      | exact ih4 _ _ _ _ _ _
      | exact ih5 _ _ _ _ _ _ _
      | exact ih6 _ _ _ _ _ _ _ _ _ _ _
      | exact ih7 _ _ _ _ _ _ _ _ _ _ _ _ _
      | exact impl_CoinOutcome.mono _ _ _ _ _
      | exact impl_CoinsWith.mono _ _ _ _
      | exact impl_HeavyPlan.mono _ _
      | exact impl_IsCoinPlan.mono _ _ _
      | exact impl_TellsBoth.mono _ _ _
      | exact impl_TellsHeavy.mono _ _ _
      | exact impl_WeighingsNeeded.mono _ _
      | exact laws_vInts.mono _ _ _
      | exact laws_vPairs.mono _ _ _
      | exact laws_vTable.mono _ _ _
      | exact spec_CoinOutcome.mono _ _ _ _ _
      | exact spec_CoinsWith.mono _ _ _ _
      | exact spec_DrawCoinOutcome.mono _ _
      | exact spec_DrawCoinsWith.mono _ _
      | exact spec_DrawTellsHeavy.mono _ _
      | exact spec_HeavyPlan.mono _ _
      | exact spec_IsCoinPlan.mono _ _ _
      | exact spec_TellsBoth.mono _ _ _
      | exact spec_TellsHeavy.mono _ _ _
      | exact spec_WeighingsNeeded.mono _ _
      | exact LeO.none _
      | refine LeO.ite ?_ ?_
      | refine LeO.bind ?_ (fun _ => ?_)
    · intro y0 y1 y2 y3 y4 y5 y6 y7 y8 y9 y10
      unfold laws_FnCoins.j2
      repeat' first
      | (with_reducible exact ih0 _ _ _ _ _ _ _ _ _ _ _ _ _ _ _ _ _ _ _ _ _)
      | (with_reducible exact ih1 _ _ _ _ _ _ _ _ _ _ _ _ _ _ _ _)
      | (with_reducible exact ih2 _ _ _ _ _ _ _ _ _ _ _)
      | (with_reducible exact ih3 _ _ _ _ _)
      | (with_reducible exact ih4 _ _ _ _ _ _)
      | (with_reducible exact ih5 _ _ _ _ _ _ _)
      | (with_reducible exact ih6 _ _ _ _ _ _ _ _ _ _ _)
      | (with_reducible exact ih7 _ _ _ _ _ _ _ _ _ _ _ _ _)
      | (with_reducible exact impl_CoinOutcome.mono _ _ _ _ _)
      | (with_reducible exact impl_CoinsWith.mono _ _ _ _)
      | (with_reducible exact impl_HeavyPlan.mono _ _)
      | (with_reducible exact impl_IsCoinPlan.mono _ _ _)
      | (with_reducible exact impl_TellsBoth.mono _ _ _)
      | (with_reducible exact impl_TellsHeavy.mono _ _ _)
      | (with_reducible exact impl_WeighingsNeeded.mono _ _)
      | (with_reducible exact laws_vInts.mono _ _ _)
      | (with_reducible exact laws_vPairs.mono _ _ _)
      | (with_reducible exact laws_vTable.mono _ _ _)
      | (with_reducible exact spec_CoinOutcome.mono _ _ _ _ _)
      | (with_reducible exact spec_CoinsWith.mono _ _ _ _)
      | (with_reducible exact spec_DrawCoinOutcome.mono _ _)
      | (with_reducible exact spec_DrawCoinsWith.mono _ _)
      | (with_reducible exact spec_DrawTellsHeavy.mono _ _)
      | (with_reducible exact spec_HeavyPlan.mono _ _)
      | (with_reducible exact spec_IsCoinPlan.mono _ _ _)
      | (with_reducible exact spec_TellsBoth.mono _ _ _)
      | (with_reducible exact spec_TellsHeavy.mono _ _ _)
      | (with_reducible exact spec_WeighingsNeeded.mono _ _)
      | (with_reducible exact LeO.refl _)
      | (with_reducible exact LeO.none _)
      | (with_reducible refine LeO.ite ?_ ?_)
      | (with_reducible refine LeO.bind ?_ (fun _ => ?_))
      | exact ih0 _ _ _ _ _ _ _ _ _ _ _ _ _ _ _ _ _ _ _ _ _
      | exact ih1 _ _ _ _ _ _ _ _ _ _ _ _ _ _ _ _
      | exact ih2 _ _ _ _ _ _ _ _ _ _ _
      | exact ih3 _ _ _ _ _
      | exact ih4 _ _ _ _ _ _
      | exact ih5 _ _ _ _ _ _ _
      | exact ih6 _ _ _ _ _ _ _ _ _ _ _
      | exact ih7 _ _ _ _ _ _ _ _ _ _ _ _ _
      | exact impl_CoinOutcome.mono _ _ _ _ _
      | exact impl_CoinsWith.mono _ _ _ _
      | exact impl_HeavyPlan.mono _ _
      | exact impl_IsCoinPlan.mono _ _ _
      | exact impl_TellsBoth.mono _ _ _
      | exact impl_TellsHeavy.mono _ _ _
      | exact impl_WeighingsNeeded.mono _ _
      | exact laws_vInts.mono _ _ _
      | exact laws_vPairs.mono _ _ _
      | exact laws_vTable.mono _ _ _
      | exact spec_CoinOutcome.mono _ _ _ _ _
      | exact spec_CoinsWith.mono _ _ _ _
      | exact spec_DrawCoinOutcome.mono _ _
      | exact spec_DrawCoinsWith.mono _ _
      | exact spec_DrawTellsHeavy.mono _ _
      | exact spec_HeavyPlan.mono _ _
      | exact spec_IsCoinPlan.mono _ _ _
      | exact spec_TellsBoth.mono _ _ _
      | exact spec_TellsHeavy.mono _ _ _
      | exact spec_WeighingsNeeded.mono _ _
      | exact LeO.none _
      | refine LeO.ite ?_ ?_
      | refine LeO.bind ?_ (fun _ => ?_)
    · intro y0 y1 y2 y3 y4
      unfold laws_FnCoins.j5
      repeat' first
      | (with_reducible exact ih0 _ _ _ _ _ _ _ _ _ _ _ _ _ _ _ _ _ _ _ _ _)
      | (with_reducible exact ih1 _ _ _ _ _ _ _ _ _ _ _ _ _ _ _ _)
      | (with_reducible exact ih2 _ _ _ _ _ _ _ _ _ _ _)
      | (with_reducible exact ih3 _ _ _ _ _)
      | (with_reducible exact ih4 _ _ _ _ _ _)
      | (with_reducible exact ih5 _ _ _ _ _ _ _)
      | (with_reducible exact ih6 _ _ _ _ _ _ _ _ _ _ _)
      | (with_reducible exact ih7 _ _ _ _ _ _ _ _ _ _ _ _ _)
      | (with_reducible exact impl_CoinOutcome.mono _ _ _ _ _)
      | (with_reducible exact impl_CoinsWith.mono _ _ _ _)
      | (with_reducible exact impl_HeavyPlan.mono _ _)
      | (with_reducible exact impl_IsCoinPlan.mono _ _ _)
      | (with_reducible exact impl_TellsBoth.mono _ _ _)
      | (with_reducible exact impl_TellsHeavy.mono _ _ _)
      | (with_reducible exact impl_WeighingsNeeded.mono _ _)
      | (with_reducible exact laws_vInts.mono _ _ _)
      | (with_reducible exact laws_vPairs.mono _ _ _)
      | (with_reducible exact laws_vTable.mono _ _ _)
      | (with_reducible exact spec_CoinOutcome.mono _ _ _ _ _)
      | (with_reducible exact spec_CoinsWith.mono _ _ _ _)
      | (with_reducible exact spec_DrawCoinOutcome.mono _ _)
      | (with_reducible exact spec_DrawCoinsWith.mono _ _)
      | (with_reducible exact spec_DrawTellsHeavy.mono _ _)
      | (with_reducible exact spec_HeavyPlan.mono _ _)
      | (with_reducible exact spec_IsCoinPlan.mono _ _ _)
      | (with_reducible exact spec_TellsBoth.mono _ _ _)
      | (with_reducible exact spec_TellsHeavy.mono _ _ _)
      | (with_reducible exact spec_WeighingsNeeded.mono _ _)
      | (with_reducible exact LeO.refl _)
      | (with_reducible exact LeO.none _)
      | (with_reducible refine LeO.ite ?_ ?_)
      | (with_reducible refine LeO.bind ?_ (fun _ => ?_))
      | exact ih0 _ _ _ _ _ _ _ _ _ _ _ _ _ _ _ _ _ _ _ _ _
      | exact ih1 _ _ _ _ _ _ _ _ _ _ _ _ _ _ _ _
      | exact ih2 _ _ _ _ _ _ _ _ _ _ _
      | exact ih3 _ _ _ _ _
      | exact ih4 _ _ _ _ _ _
      | exact ih5 _ _ _ _ _ _ _
      | exact ih6 _ _ _ _ _ _ _ _ _ _ _
      | exact ih7 _ _ _ _ _ _ _ _ _ _ _ _ _
      | exact impl_CoinOutcome.mono _ _ _ _ _
      | exact impl_CoinsWith.mono _ _ _ _
      | exact impl_HeavyPlan.mono _ _
      | exact impl_IsCoinPlan.mono _ _ _
      | exact impl_TellsBoth.mono _ _ _
      | exact impl_TellsHeavy.mono _ _ _
      | exact impl_WeighingsNeeded.mono _ _
      | exact laws_vInts.mono _ _ _
      | exact laws_vPairs.mono _ _ _
      | exact laws_vTable.mono _ _ _
      | exact spec_CoinOutcome.mono _ _ _ _ _
      | exact spec_CoinsWith.mono _ _ _ _
      | exact spec_DrawCoinOutcome.mono _ _
      | exact spec_DrawCoinsWith.mono _ _
      | exact spec_DrawTellsHeavy.mono _ _
      | exact spec_HeavyPlan.mono _ _
      | exact spec_IsCoinPlan.mono _ _ _
      | exact spec_TellsBoth.mono _ _ _
      | exact spec_TellsHeavy.mono _ _ _
      | exact spec_WeighingsNeeded.mono _ _
      | exact LeO.none _
      | refine LeO.ite ?_ ?_
      | refine LeO.bind ?_ (fun _ => ?_)
    · intro y0 y1 y2 y3 y4 y5
      unfold laws_FnCoins.l1
      repeat' first
      | (with_reducible exact ih0 _ _ _ _ _ _ _ _ _ _ _ _ _ _ _ _ _ _ _ _ _)
      | (with_reducible exact ih1 _ _ _ _ _ _ _ _ _ _ _ _ _ _ _ _)
      | (with_reducible exact ih2 _ _ _ _ _ _ _ _ _ _ _)
      | (with_reducible exact ih3 _ _ _ _ _)
      | (with_reducible exact ih4 _ _ _ _ _ _)
      | (with_reducible exact ih5 _ _ _ _ _ _ _)
      | (with_reducible exact ih6 _ _ _ _ _ _ _ _ _ _ _)
      | (with_reducible exact ih7 _ _ _ _ _ _ _ _ _ _ _ _ _)
      | (with_reducible exact impl_CoinOutcome.mono _ _ _ _ _)
      | (with_reducible exact impl_CoinsWith.mono _ _ _ _)
      | (with_reducible exact impl_HeavyPlan.mono _ _)
      | (with_reducible exact impl_IsCoinPlan.mono _ _ _)
      | (with_reducible exact impl_TellsBoth.mono _ _ _)
      | (with_reducible exact impl_TellsHeavy.mono _ _ _)
      | (with_reducible exact impl_WeighingsNeeded.mono _ _)
      | (with_reducible exact laws_vInts.mono _ _ _)
      | (with_reducible exact laws_vPairs.mono _ _ _)
      | (with_reducible exact laws_vTable.mono _ _ _)
      | (with_reducible exact spec_CoinOutcome.mono _ _ _ _ _)
      | (with_reducible exact spec_CoinsWith.mono _ _ _ _)
      | (with_reducible exact spec_DrawCoinOutcome.mono _ _)
      | (with_reducible exact spec_DrawCoinsWith.mono _ _)
      | (with_reducible exact spec_DrawTellsHeavy.mono _ _)
      | (with_reducible exact spec_HeavyPlan.mono _ _)
      | (with_reducible exact spec_IsCoinPlan.mono _ _ _)
      | (with_reducible exact spec_TellsBoth.mono _ _ _)
      | (with_reducible exact spec_TellsHeavy.mono _ _ _)
      | (with_reducible exact spec_WeighingsNeeded.mono _ _)
      | (with_reducible exact LeO.refl _)
      | (with_reducible exact LeO.none _)
      | (with_reducible refine LeO.ite ?_ ?_)
      | (with_reducible refine LeO.bind ?_ (fun _ => ?_))
      | exact ih0 _ _ _ _ _ _ _ _ _ _ _ _ _ _ _ _ _ _ _ _ _
      | exact ih1 _ _ _ _ _ _ _ _ _ _ _ _ _ _ _ _
      | exact ih2 _ _ _ _ _ _ _ _ _ _ _
      | exact ih3 _ _ _ _ _
      | exact ih4 _ _ _ _ _ _
      | exact ih5 _ _ _ _ _ _ _
      | exact ih6 _ _ _ _ _ _ _ _ _ _ _
      | exact ih7 _ _ _ _ _ _ _ _ _ _ _ _ _
      | exact impl_CoinOutcome.mono _ _ _ _ _
      | exact impl_CoinsWith.mono _ _ _ _
      | exact impl_HeavyPlan.mono _ _
      | exact impl_IsCoinPlan.mono _ _ _
      | exact impl_TellsBoth.mono _ _ _
      | exact impl_TellsHeavy.mono _ _ _
      | exact impl_WeighingsNeeded.mono _ _
      | exact laws_vInts.mono _ _ _
      | exact laws_vPairs.mono _ _ _
      | exact laws_vTable.mono _ _ _
      | exact spec_CoinOutcome.mono _ _ _ _ _
      | exact spec_CoinsWith.mono _ _ _ _
      | exact spec_DrawCoinOutcome.mono _ _
      | exact spec_DrawCoinsWith.mono _ _
      | exact spec_DrawTellsHeavy.mono _ _
      | exact spec_HeavyPlan.mono _ _
      | exact spec_IsCoinPlan.mono _ _ _
      | exact spec_TellsBoth.mono _ _ _
      | exact spec_TellsHeavy.mono _ _ _
      | exact spec_WeighingsNeeded.mono _ _
      | exact LeO.none _
      | refine LeO.ite ?_ ?_
      | refine LeO.bind ?_ (fun _ => ?_)
    · intro y0 y1 y2 y3 y4 y5 y6
      unfold laws_FnCoins.j7
      repeat' first
      | (with_reducible exact ih0 _ _ _ _ _ _ _ _ _ _ _ _ _ _ _ _ _ _ _ _ _)
      | (with_reducible exact ih1 _ _ _ _ _ _ _ _ _ _ _ _ _ _ _ _)
      | (with_reducible exact ih2 _ _ _ _ _ _ _ _ _ _ _)
      | (with_reducible exact ih3 _ _ _ _ _)
      | (with_reducible exact ih4 _ _ _ _ _ _)
      | (with_reducible exact ih5 _ _ _ _ _ _ _)
      | (with_reducible exact ih6 _ _ _ _ _ _ _ _ _ _ _)
      | (with_reducible exact ih7 _ _ _ _ _ _ _ _ _ _ _ _ _)
      | (with_reducible exact impl_CoinOutcome.mono _ _ _ _ _)
      | (with_reducible exact impl_CoinsWith.mono _ _ _ _)
      | (with_reducible exact impl_HeavyPlan.mono _ _)
      | (with_reducible exact impl_IsCoinPlan.mono _ _ _)
      | (with_reducible exact impl_TellsBoth.mono _ _ _)
      | (with_reducible exact impl_TellsHeavy.mono _ _ _)
      | (with_reducible exact impl_WeighingsNeeded.mono _ _)
      | (with_reducible exact laws_vInts.mono _ _ _)
      | (with_reducible exact laws_vPairs.mono _ _ _)
      | (with_reducible exact laws_vTable.mono _ _ _)
      | (with_reducible exact spec_CoinOutcome.mono _ _ _ _ _)
      | (with_reducible exact spec_CoinsWith.mono _ _ _ _)
      | (with_reducible exact spec_DrawCoinOutcome.mono _ _)
      | (with_reducible exact spec_DrawCoinsWith.mono _ _)
      | (with_reducible exact spec_DrawTellsHeavy.mono _ _)
      | (with_reducible exact spec_HeavyPlan.mono _ _)
      | (with_reducible exact spec_IsCoinPlan.mono _ _ _)
      | (with_reducible exact spec_TellsBoth.mono _ _ _)
      | (with_reducible exact spec_TellsHeavy.mono _ _ _)
      | (with_reducible exact spec_WeighingsNeeded.mono _ _)
      | (with_reducible exact LeO.refl _)
      | (with_reducible exact LeO.none _)
      | (with_reducible refine LeO.ite ?_ ?_)
      | (with_reducible refine LeO.bind ?_ (fun _ => ?_))
      | exact ih0 _ _ _ _ _ _ _ _ _ _ _ _ _ _ _ _ _ _ _ _ _
      | exact ih1 _ _ _ _ _ _ _ _ _ _ _ _ _ _ _ _
      | exact ih2 _ _ _ _ _ _ _ _ _ _ _
      | exact ih3 _ _ _ _ _
      | exact ih4 _ _ _ _ _ _
      | exact ih5 _ _ _ _ _ _ _
      | exact ih6 _ _ _ _ _ _ _ _ _ _ _
      | exact ih7 _ _ _ _ _ _ _ _ _ _ _ _ _
      | exact impl_CoinOutcome.mono _ _ _ _ _
      | exact impl_CoinsWith.mono _ _ _ _
      | exact impl_HeavyPlan.mono _ _
      | exact impl_IsCoinPlan.mono _ _ _
      | exact impl_TellsBoth.mono _ _ _
      | exact impl_TellsHeavy.mono _ _ _
      | exact impl_WeighingsNeeded.mono _ _
      | exact laws_vInts.mono _ _ _
      | exact laws_vPairs.mono _ _ _
      | exact laws_vTable.mono _ _ _
      | exact spec_CoinOutcome.mono _ _ _ _ _
      | exact spec_CoinsWith.mono _ _ _ _
      | exact spec_DrawCoinOutcome.mono _ _
      | exact spec_DrawCoinsWith.mono _ _
      | exact spec_DrawTellsHeavy.mono _ _
      | exact spec_HeavyPlan.mono _ _
      | exact spec_IsCoinPlan.mono _ _ _
      | exact spec_TellsBoth.mono _ _ _
      | exact spec_TellsHeavy.mono _ _ _
      | exact spec_WeighingsNeeded.mono _ _
      | exact LeO.none _
      | refine LeO.ite ?_ ?_
      | refine LeO.bind ?_ (fun _ => ?_)
    · intro y0 y1 y2 y3 y4 y5 y6 y7 y8 y9 y10
      unfold laws_FnCoins.j3
      repeat' first
      | (with_reducible exact ih0 _ _ _ _ _ _ _ _ _ _ _ _ _ _ _ _ _ _ _ _ _)
      | (with_reducible exact ih1 _ _ _ _ _ _ _ _ _ _ _ _ _ _ _ _)
      | (with_reducible exact ih2 _ _ _ _ _ _ _ _ _ _ _)
      | (with_reducible exact ih3 _ _ _ _ _)
      | (with_reducible exact ih4 _ _ _ _ _ _)
      | (with_reducible exact ih5 _ _ _ _ _ _ _)
      | (with_reducible exact ih6 _ _ _ _ _ _ _ _ _ _ _)
      | (with_reducible exact ih7 _ _ _ _ _ _ _ _ _ _ _ _ _)
      | (with_reducible exact impl_CoinOutcome.mono _ _ _ _ _)
      | (with_reducible exact impl_CoinsWith.mono _ _ _ _)
      | (with_reducible exact impl_HeavyPlan.mono _ _)
      | (with_reducible exact impl_IsCoinPlan.mono _ _ _)
      | (with_reducible exact impl_TellsBoth.mono _ _ _)
      | (with_reducible exact impl_TellsHeavy.mono _ _ _)
      | (with_reducible exact impl_WeighingsNeeded.mono _ _)
      | (with_reducible exact laws_vInts.mono _ _ _)
      | (with_reducible exact laws_vPairs.mono _ _ _)
      | (with_reducible exact laws_vTable.mono _ _ _)
      | (with_reducible exact spec_CoinOutcome.mono _ _ _ _ _)
      | (with_reducible exact spec_CoinsWith.mono _ _ _ _)
      | (with_reducible exact spec_DrawCoinOutcome.mono _ _)
      | (with_reducible exact spec_DrawCoinsWith.mono _ _)
      | (with_reducible exact spec_DrawTellsHeavy.mono _ _)
      | (with_reducible exact spec_HeavyPlan.mono _ _)
      | (with_reducible exact spec_IsCoinPlan.mono _ _ _)
      | (with_reducible exact spec_TellsBoth.mono _ _ _)
      | (with_reducible exact spec_TellsHeavy.mono _ _ _)
      | (with_reducible exact spec_WeighingsNeeded.mono _ _)
      | (with_reducible exact LeO.refl _)
      | (with_reducible exact LeO.none _)
      | (with_reducible refine LeO.ite ?_ ?_)
      | (with_reducible refine LeO.bind ?_ (fun _ => ?_))
      | exact ih0 _ _ _ _ _ _ _ _ _ _ _ _ _ _ _ _ _ _ _ _ _
      | exact ih1 _ _ _ _ _ _ _ _ _ _ _ _ _ _ _ _
      | exact ih2 _ _ _ _ _ _ _ _ _ _ _
      | exact ih3 _ _ _ _ _
      | exact ih4 _ _ _ _ _ _
      | exact ih5 _ _ _ _ _ _ _
      | exact ih6 _ _ _ _ _ _ _ _ _ _ _
      | exact ih7 _ _ _ _ _ _ _ _ _ _ _ _ _
      | exact impl_CoinOutcome.mono _ _ _ _ _
      | exact impl_CoinsWith.mono _ _ _ _
      | exact impl_HeavyPlan.mono _ _
      | exact impl_IsCoinPlan.mono _ _ _
      | exact impl_TellsBoth.mono _ _ _
      | exact impl_TellsHeavy.mono _ _ _
      | exact impl_WeighingsNeeded.mono _ _
      | exact laws_vInts.mono _ _ _
      | exact laws_vPairs.mono _ _ _
      | exact laws_vTable.mono _ _ _
      | exact spec_CoinOutcome.mono _ _ _ _ _
      | exact spec_CoinsWith.mono _ _ _ _
      | exact spec_DrawCoinOutcome.mono _ _
      | exact spec_DrawCoinsWith.mono _ _
      | exact spec_DrawTellsHeavy.mono _ _
      | exact spec_HeavyPlan.mono _ _
      | exact spec_IsCoinPlan.mono _ _ _
      | exact spec_TellsBoth.mono _ _ _
      | exact spec_TellsHeavy.mono _ _ _
      | exact spec_WeighingsNeeded.mono _ _
      | exact LeO.none _
      | refine LeO.ite ?_ ?_
      | refine LeO.bind ?_ (fun _ => ?_)
    · intro y0 y1 y2 y3 y4 y5 y6 y7 y8 y9 y10 y11 y12
      unfold laws_FnCoins.l0
      repeat' first
      | (with_reducible exact ih0 _ _ _ _ _ _ _ _ _ _ _ _ _ _ _ _ _ _ _ _ _)
      | (with_reducible exact ih1 _ _ _ _ _ _ _ _ _ _ _ _ _ _ _ _)
      | (with_reducible exact ih2 _ _ _ _ _ _ _ _ _ _ _)
      | (with_reducible exact ih3 _ _ _ _ _)
      | (with_reducible exact ih4 _ _ _ _ _ _)
      | (with_reducible exact ih5 _ _ _ _ _ _ _)
      | (with_reducible exact ih6 _ _ _ _ _ _ _ _ _ _ _)
      | (with_reducible exact ih7 _ _ _ _ _ _ _ _ _ _ _ _ _)
      | (with_reducible exact impl_CoinOutcome.mono _ _ _ _ _)
      | (with_reducible exact impl_CoinsWith.mono _ _ _ _)
      | (with_reducible exact impl_HeavyPlan.mono _ _)
      | (with_reducible exact impl_IsCoinPlan.mono _ _ _)
      | (with_reducible exact impl_TellsBoth.mono _ _ _)
      | (with_reducible exact impl_TellsHeavy.mono _ _ _)
      | (with_reducible exact impl_WeighingsNeeded.mono _ _)
      | (with_reducible exact laws_vInts.mono _ _ _)
      | (with_reducible exact laws_vPairs.mono _ _ _)
      | (with_reducible exact laws_vTable.mono _ _ _)
      | (with_reducible exact spec_CoinOutcome.mono _ _ _ _ _)
      | (with_reducible exact spec_CoinsWith.mono _ _ _ _)
      | (with_reducible exact spec_DrawCoinOutcome.mono _ _)
      | (with_reducible exact spec_DrawCoinsWith.mono _ _)
      | (with_reducible exact spec_DrawTellsHeavy.mono _ _)
      | (with_reducible exact spec_HeavyPlan.mono _ _)
      | (with_reducible exact spec_IsCoinPlan.mono _ _ _)
      | (with_reducible exact spec_TellsBoth.mono _ _ _)
      | (with_reducible exact spec_TellsHeavy.mono _ _ _)
      | (with_reducible exact spec_WeighingsNeeded.mono _ _)
      | (with_reducible exact LeO.refl _)
      | (with_reducible exact LeO.none _)
      | (with_reducible refine LeO.ite ?_ ?_)
      | (with_reducible refine LeO.bind ?_ (fun _ => ?_))
      | exact ih0 _ _ _ _ _ _ _ _ _ _ _ _ _ _ _ _ _ _ _ _ _
      | exact ih1 _ _ _ _ _ _ _ _ _ _ _ _ _ _ _ _
      | exact ih2 _ _ _ _ _ _ _ _ _ _ _
      | exact ih3 _ _ _ _ _
      | exact ih4 _ _ _ _ _ _
      | exact ih5 _ _ _ _ _ _ _
      | exact ih6 _ _ _ _ _ _ _ _ _ _ _
      | exact ih7 _ _ _ _ _ _ _ _ _ _ _ _ _
      | exact impl_CoinOutcome.mono _ _ _ _ _
      | exact impl_CoinsWith.mono _ _ _ _
      | exact impl_HeavyPlan.mono _ _
      | exact impl_IsCoinPlan.mono _ _ _
      | exact impl_TellsBoth.mono _ _ _
      | exact impl_TellsHeavy.mono _ _ _
      | exact impl_WeighingsNeeded.mono _ _
      | exact laws_vInts.mono _ _ _
      | exact laws_vPairs.mono _ _ _
      | exact laws_vTable.mono _ _ _
      | exact spec_CoinOutcome.mono _ _ _ _ _
      | exact spec_CoinsWith.mono _ _ _ _
      | exact spec_DrawCoinOutcome.mono _ _
      | exact spec_DrawCoinsWith.mono _ _
      | exact spec_DrawTellsHeavy.mono _ _
      | exact spec_HeavyPlan.mono _ _
      | exact spec_IsCoinPlan.mono _ _ _
      | exact spec_TellsBoth.mono _ _ _
      | exact spec_TellsHeavy.mono _ _ _
      | exact spec_WeighingsNeeded.mono _ _
      | exact LeO.none _
      | refine LeO.ite ?_ ?_
      | refine LeO.bind ?_ (fun _ => ?_)
theorem laws_FnCoins.mono : ∀ a0 k, LeO (laws_FnCoins.f k a0) (laws_FnCoins.f (k + 1) a0) := by
  intro a0 k
  obtain ⟨ih0, ih1, ih2, ih3, ih4, ih5, ih6, ih7⟩ := laws_FnCoins.mono_l k
  unfold laws_FnCoins.f
  repeat' first
      | (with_reducible exact ih0 _ _ _ _ _ _ _ _ _ _ _ _ _ _ _ _ _ _ _ _ _)
      | (with_reducible exact ih1 _ _ _ _ _ _ _ _ _ _ _ _ _ _ _ _)
      | (with_reducible exact ih2 _ _ _ _ _ _ _ _ _ _ _)
      | (with_reducible exact ih3 _ _ _ _ _)
      | (with_reducible exact ih4 _ _ _ _ _ _)
      | (with_reducible exact ih5 _ _ _ _ _ _ _)
      | (with_reducible exact ih6 _ _ _ _ _ _ _ _ _ _ _)
      | (with_reducible exact ih7 _ _ _ _ _ _ _ _ _ _ _ _ _)
      | (with_reducible exact impl_CoinOutcome.mono _ _ _ _ _)
      | (with_reducible exact impl_CoinsWith.mono _ _ _ _)
      | (with_reducible exact impl_HeavyPlan.mono _ _)
      | (with_reducible exact impl_IsCoinPlan.mono _ _ _)
      | (with_reducible exact impl_TellsBoth.mono _ _ _)
      | (with_reducible exact impl_TellsHeavy.mono _ _ _)
      | (with_reducible exact impl_WeighingsNeeded.mono _ _)
      | (with_reducible exact laws_vInts.mono _ _ _)
      | (with_reducible exact laws_vPairs.mono _ _ _)
      | (with_reducible exact laws_vTable.mono _ _ _)
      | (with_reducible exact spec_CoinOutcome.mono _ _ _ _ _)
      | (with_reducible exact spec_CoinsWith.mono _ _ _ _)
      | (with_reducible exact spec_DrawCoinOutcome.mono _ _)
      | (with_reducible exact spec_DrawCoinsWith.mono _ _)
      | (with_reducible exact spec_DrawTellsHeavy.mono _ _)
      | (with_reducible exact spec_HeavyPlan.mono _ _)
      | (with_reducible exact spec_IsCoinPlan.mono _ _ _)
      | (with_reducible exact spec_TellsBoth.mono _ _ _)
      | (with_reducible exact spec_TellsHeavy.mono _ _ _)
      | (with_reducible exact spec_WeighingsNeeded.mono _ _)
      | (with_reducible exact LeO.refl _)
      | (with_reducible exact LeO.none _)
      | (with_reducible refine LeO.ite ?_ ?_)
      | (with_reducible refine LeO.bind ?_ (fun _ => ?_))
      | exact ih0 _ _ _ _ _ _ _ _ _ _ _ _ _ _ _ _ _ _ _ _ _
      | exact ih1 _ _ _ _ _ _ _ _ _ _ _ _ _ _ _ _
      | exact ih2 _ _ _ _ _ _ _ _ _ _ _
      | exact ih3 _ _ _ _ _
      | exact ih4 _ _ _ _ _ _
      | exact ih5 _ _ _ _ _ _ _
      | exact ih6 _ _ _ _ _ _ _ _ _ _ _
      | exact ih7 _ _ _ _ _ _ _ _ _ _ _ _ _
      | exact impl_CoinOutcome.mono _ _ _ _ _
      | exact impl_CoinsWith.mono _ _ _ _
      | exact impl_HeavyPlan.mono _ _
      | exact impl_IsCoinPlan.mono _ _ _
      | exact impl_TellsBoth.mono _ _ _
      | exact impl_TellsHeavy.mono _ _ _
      | exact impl_WeighingsNeeded.mono _ _
      | exact laws_vInts.mono _ _ _
      | exact laws_vPairs.mono _ _ _
      | exact laws_vTable.mono _ _ _
      | exact spec_CoinOutcome.mono _ _ _ _ _
      | exact spec_CoinsWith.mono _ _ _ _
      | exact spec_DrawCoinOutcome.mono _ _
      | exact spec_DrawCoinsWith.mono _ _
      | exact spec_DrawTellsHeavy.mono _ _
      | exact spec_HeavyPlan.mono _ _
      | exact spec_IsCoinPlan.mono _ _ _
      | exact spec_TellsBoth.mono _ _ _
      | exact spec_TellsHeavy.mono _ _ _
      | exact spec_WeighingsNeeded.mono _ _
      | exact LeO.none _
      | refine LeO.ite ?_ ?_
      | refine LeO.bind ?_ (fun _ => ?_)
def laws_FnCoins.T47 : Bool × List (List Nat × List Nat) := (true, [([], []), ([], []), ([], []), ([], []), ([2, 3], [2, 3]), ([4], [4]), ([5], [5]), ([], []), ([], []), ([7, 8], [7, 8]), ([9], [9]), ([10], [10]), ([11], [11]), ([0, 1, 6, 12], [0, 1, 6, 12]), ([13], [13]), ([14], [14]), ([14], [14]), ([15, 13, 0, 1, 2, 3, 4, 5, 6, 7, 8, 9, 10, 11, 12, 13, 14, 15], [15]), ([16, 17, 0, 1, 2, 3, 4, 5, 6, 7, 8, 9, 10, 11, 12, 13, 14, 15, 16, 17], [16])])
def laws_FnCoins.B47 : List Nat := [0, 0, 0, 0, 12, 28, 60, 0, 0, 384, 896, 1920, 3968, 8191, 16383, 32767, 32767, 65535, 262143]
theorem laws_FnCoins.tab47 : rtab .any (opsOf Try.f3 47) = laws_FnCoins.T47 := by kernel_rfl
theorem laws_FnCoins.bits47 : waitsOk laws_FnCoins.T47.2 laws_FnCoins.B47 = true := by kernel_rfl
theorem laws_FnCoins.j0_bad {r : Bool} : ∀ (k : Nat) {y0 y1 y2 y3 y4 y5 y6 y7 y8 y9 y10 y11 y12 y13 y14 y15 y16 y17 y18 y19}, laws_FnCoins.j0 k y0 y1 y2 y3 y4 y5 y6 y7 y8 y9 y10 y11 y12 y13 y14 y15 y16 y17 y18 y19 true = some r → r = true → False := by
  intro k y0 y1 y2 y3 y4 y5 y6 y7 y8 y9 y10 y11 y12 y13 y14 y15 y16 y17 y18 y19 h hr
  subst hr
  cases k with
  | zero => simp [laws_FnCoins.j0] at h
  | succ k => simp [laws_FnCoins.j0] at h
def laws_FnCoins.Pure : Prop := ∀ (l0 : List Int), l0.length ≤ maxLen → l0.length * 1 ≤ 140737488351232 → (∀ x ∈ l0, (Lit.int .u8 x).wf = true) → ∃ k, laws_FnCoins.f k l0 = some true
end Go.Proofs.Ytgnmomdgfamhnaa.PFnCoins
