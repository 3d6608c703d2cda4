-- Made by wip/pr.py of this repo over the kit's print (some contracts by hand).
import Derived.Test.YthgfndbbbhbkeaaGreatDoorPFnRowsx0
import Derived.Test.YthgfndbbbhbkeaaGreatDoorPFnRowsx2
import Derived.Test.YthgfndbbbhbkeaaGreatDoorPFnRowsx3
import Derived.Test.YthgfndbbbhbkeaaGreatDoorPFnRowsx4
import Derived.Test.YthgfndbbbhbkeaaGreatDoorPFnRowsx5
import Derived.Test.YthgfndbbbhbkeaaGreatDoorPFnRowsx6
import Derived.Test.YthgfndbbbhbkeaaGreatDoorPFnRowsx7
import Derived.Test.YthgfndbbbhbkeaaGreatDoorPFnRowsx8
import Derived.Test.YthgfndbbbhbkeaaGreatDoorPFnRowsx9
import Derived.Test.YthgfndbbbhbkeaaGreatDoorPFnRowsx10
import Derived.Test.YthgfndbbbhbkeaaGreatDoorPFnRowsx11
namespace Go.Proofs.YthgfndbbbhbkeaaGreatDoor.PFnRows
open Go.RowKit Go.Proofs.YthgfndbbbhbkeaaGreatDoorW.PrintWords Go.Proofs.YthgfndbbbhbkeaaGreatDoorW.PrintLast Go.Proofs.YthgfndbbbhbkeaaGreatDoorW.PrintMore
attribute [local go_sem] max2_int min2_int max_two min_two max_three min_three max_four min_four   -- for this text's walks alone
set_option linter.unusedVariables false
set_option linter.unusedSimpArgs false

/-! ### laws_FnRows: function 3 -/
mutual
def laws_FnRows.j0 : Nat → List Int → List (S42) → List (S42) → List (S42) → Bool → Bool → Option (Bool)
  | 0, _, _, _, _, _, _ => none
  | k + 1, x0, x3, x4, x5, x6, x83 => if x83 = true then (some false) else ((spec_DrawMergeRow.f k x0).bind fun t522 => ((impl_MergeRow.f k t522).bind fun bt525 => ((spec_MergeRow.f k t522).bind fun bt529 => (if (bt525.2 != bt529.2) = true then (laws_FnRows.j1 k x0 x3 x4 x5 x6 t522 bt525.1 bt525.2 true) else ((laws_rRow.f k bt525.1 bt529.1).bind fun t533 => (laws_FnRows.j1 k x0 x3 x4 x5 x6 t522 bt525.1 bt525.2 (!t533)))))))
def laws_FnRows.j1 : Nat → List Int → List (S42) → List (S42) → List (S42) → Bool → List (S42) → List (S42) → Bool → Bool → Option (Bool)
  | 0, _, _, _, _, _, _, _, _, _ => none
  | k + 1, x0, x3, x4, x5, x6, x9, x10, x11, x104 => if x104 = true then (some false) else ((spec_DrawShiftRow.f k x0).bind fun bt534 => ((impl_ShiftRow.f k bt534.1 bt534.2).bind fun bt538 => ((spec_ShiftRow.f k bt534.1 bt534.2).bind fun bt542 => (if (bt538.2 != bt542.2) = true then (laws_FnRows.j2 k x0 x3 x4 x5 x6 x9 x10 x11 bt534.1 bt534.2 bt538.1 bt538.2 true) else ((laws_rRow.f k bt538.1 bt542.1).bind fun t546 => (laws_FnRows.j2 k x0 x3 x4 x5 x6 x9 x10 x11 bt534.1 bt534.2 bt538.1 bt538.2 (!t546)))))))
def laws_FnRows.j2 : Nat → List Int → List (S42) → List (S42) → List (S42) → Bool → List (S42) → List (S42) → Bool → List (S42) → Int → List (S42) → Bool → Bool → Option (Bool)
  | 0, _, _, _, _, _, _, _, _, _, _, _, _, _ => none
  | k + 1, x0, x3, x4, x5, x6, x9, x10, x11, x14, x15, x16, x17, x130 => if x130 = true then (some false) else ((spec_DrawRowText.f k x0).bind fun t547 => ((impl_RowText.f k t547).bind fun bt550 => ((spec_RowText.f k t547).bind fun bt552 => (if bt550.1.toList = bt552.1.toList then (laws_FnRows.j3 k x0 x3 x4 x5 x6 x9 x10 x11 x14 x15 x16 x17 t547 bt550.1 bt550.2 (bt550.2 != bt552.2)) else (laws_FnRows.j3 k x0 x3 x4 x5 x6 x9 x10 x11 x14 x15 x16 x17 t547 bt550.1 bt550.2 true)))))
def laws_FnRows.j3 : Nat → List Int → List (S42) → List (S42) → List (S42) → Bool → List (S42) → List (S42) → Bool → List (S42) → Int → List (S42) → Bool → List (S42) → ByteArray → Bool → Bool → Option (Bool)
  | 0, _, _, _, _, _, _, _, _, _, _, _, _, _, _, _, _ => none
  | k + 1, x0, x3, x4, x5, x6, x9, x10, x11, x14, x15, x16, x17, x20, x21, x22, x150 => if x150 = true then (some false) else (if x22 = true then ((impl_ParseRow.f k x21).bind fun bt554 => (if bt554.2 = true then ((laws_rRow.f k bt554.1 x20).bind fun t558 => (if t558 = true then (laws_FnRows.j4 k x0 x3 x4 x5 x6 x9 x10 x11 x14 x15 x16 x17) else (some false))) else (some false))) else (laws_FnRows.j4 k x0 x3 x4 x5 x6 x9 x10 x11 x14 x15 x16 x17))
def laws_FnRows.j4 : Nat → List Int → List (S42) → List (S42) → List (S42) → Bool → List (S42) → List (S42) → Bool → List (S42) → Int → List (S42) → Bool → Option (Bool)
  | 0, _, _, _, _, _, _, _, _, _, _, _, _ => none
  | k + 1, x0, x3, x4, x5, x6, x9, x10, x11, x14, x15, x16, x17 => (spec_DrawParseRow.f k x0).bind fun t559 => ((impl_ParseRow.f k t559).bind fun bt560 => ((spec_ParseRow.f k t559).bind fun bt564 => (if (bt560.2 != bt564.2) = true then (laws_FnRows.j5 k x3 x4 x5 x6 x9 x10 x11 x14 x15 x16 x17 true) else ((laws_rRow.f k bt560.1 bt564.1).bind fun t568 => (laws_FnRows.j5 k x3 x4 x5 x6 x9 x10 x11 x14 x15 x16 x17 (!t568))))))
def laws_FnRows.j5 : Nat → List (S42) → List (S42) → List (S42) → Bool → List (S42) → List (S42) → Bool → List (S42) → Int → List (S42) → Bool → Bool → Option (Bool)
  | 0, _, _, _, _, _, _, _, _, _, _, _, _ => none
  | k + 1, x3, x4, x5, x6, x9, x10, x11, x14, x15, x16, x17, x185 => if x185 = true then (some false) else (if x11 = true then ((impl_MomentAbout.f k x9 7).bind fun bt569 => ((impl_MomentAbout.f k x10 7).bind fun bt571 => (if bt569.2 = true then (if bt571.2 = true then (laws_FnRows.j6 k x3 x4 x5 x6 x10 x14 x15 x16 x17 (bt569.1 != bt571.1)) else (laws_FnRows.j6 k x3 x4 x5 x6 x10 x14 x15 x16 x17 true)) else (laws_FnRows.j6 k x3 x4 x5 x6 x10 x14 x15 x16 x17 true)))) else (laws_FnRows.j8 k x3 x4 x5 x6 x14 x15 x16 x17))
def laws_FnRows.j8 : Nat → List (S42) → List (S42) → List (S42) → Bool → List (S42) → Int → List (S42) → Bool → Option (Bool)
  | 0, _, _, _, _, _, _, _, _ => none
  | k + 1, x3, x4, x5, x6, x14, x15, x16, x17 => if x17 = true then ((impl_MomentAbout.f k x14 0).bind fun bt575 => ((impl_MomentAbout.f k x16 0).bind fun bt577 => ((impl_WeightOf.f k x14).bind fun bt579 => (if bt575.2 = true then (if bt577.2 = true then (if bt579.2 = true then (if bt577.1 = (wrap64 (bt575.1 + (wrap64 (bt579.1 * x15)))) then (laws_FnRows.j9 k x3 x4 x5 x6) else (some false)) else (some false)) else (some false)) else (some false))))) else (laws_FnRows.j9 k x3 x4 x5 x6)
def laws_FnRows.j9 : Nat → List (S42) → List (S42) → List (S42) → Bool → Option (Bool)
  | 0, _, _, _, _ => none
  | k + 1, x3, x4, x5, x6 => if x6 = true then (laws_FnRows.l1 k x3 x4 x5 0) else (some true)
def laws_FnRows.l1 : Nat → List (S42) → List (S42) → List (S42) → Int → Option (Bool)
  | 0, _, _, _, _ => none
  | k + 1, x3, x4, x5, x43 => if x43 < 20 then ((impl_MomentAbout.f k x3 x43).bind fun bt581 => ((impl_MomentAbout.f k x4 x43).bind fun bt583 => ((impl_MomentAbout.f k x5 x43).bind fun bt585 => ((impl_TipSide.f k x3 x43 (wrap64 (x43 + 4))).bind fun bt587 => ((impl_TipSide.f k x4 x43 (wrap64 (x43 + 4))).bind fun bt589 => ((impl_TipSide.f k x5 x43 (wrap64 (x43 + 4))).bind fun bt591 => (if bt581.2 = true then (if bt583.2 = true then (if bt585.2 = true then (if bt587.2 = true then (if bt589.2 = true then (if bt591.2 = true then (if (wrap64 (bt581.1 + bt583.1)) = bt585.1 then (if bt587.1 = 0 then (if bt589.1 = 0 then (if bt591.1 = 0 then (laws_FnRows.l1 k x3 x4 x5 (wrap64 (x43 + 3))) else (some false)) else (laws_FnRows.l1 k x3 x4 x5 (wrap64 (x43 + 3)))) else (laws_FnRows.l1 k x3 x4 x5 (wrap64 (x43 + 3)))) else (some false)) else (some false)) else (some false)) else (some false)) else (some false)) else (some false)) else (some false)))))))) else (some true)
def laws_FnRows.j6 : Nat → List (S42) → List (S42) → List (S42) → Bool → List (S42) → List (S42) → Int → List (S42) → Bool → Bool → Option (Bool)
  | 0, _, _, _, _, _, _, _, _, _, _ => none
  | k + 1, x3, x4, x5, x6, x10, x14, x15, x16, x17, x207 => if x207 = true then (some false) else (laws_FnRows.l0 k x3 x4 x5 x6 x10 x14 x15 x16 x17 1)
def laws_FnRows.l0 : Nat → List (S42) → List (S42) → List (S42) → Bool → List (S42) → List (S42) → Int → List (S42) → Bool → Int → Option (Bool)
  | 0, _, _, _, _, _, _, _, _, _, _ => none
  | k + 1, x3, x4, x5, x6, x10, x14, x15, x16, x17, x36 => if x36 < (x10.length : Int) then (if 0 ≤ x36 then (if 0 ≤ (wrap64 (x36 - 1)) then (if (wrap64 (x36 - 1)) < (x10.length : Int) then (if ((rd_T42 x10 x36).f0) ≤ ((rd_T42 x10 (wrap64 (x36 - 1))).f0) then (some false) else (laws_FnRows.l0 k x3 x4 x5 x6 x10 x14 x15 x16 x17 (wrap64 (x36 + 1)))) else (none)) else (none)) else (none)) else (laws_FnRows.j8 k x3 x4 x5 x6 x14 x15 x16 x17)
end
def laws_FnRows.f (k : Nat) (l0 : List Int) : Option (Bool) := (laws_rBig.f l0).bind fun t506 => (if t506 = true then (some true) else ((spec_DrawJoinRows.f k l0).bind fun bt507 => ((impl_JoinRows.f k bt507.1 bt507.2).bind fun bt513 => ((spec_JoinRows.f k bt507.1 bt507.2).bind fun bt517 => (if (bt513.2 != bt517.2) = true then (laws_FnRows.j0 k l0 bt507.1 bt507.2 bt513.1 bt513.2 true) else ((laws_rRow.f k bt513.1 bt517.1).bind fun t521 => (laws_FnRows.j0 k l0 bt507.1 bt507.2 bt513.1 bt513.2 (!t521))))))))
theorem laws_FnRows.mono_l : ∀ k, (∀ y0 y1 y2 y3 y4 y5, LeO (laws_FnRows.j0 k y0 y1 y2 y3 y4 y5) (laws_FnRows.j0 (k + 1) y0 y1 y2 y3 y4 y5)) ∧ (∀ y0 y1 y2 y3 y4 y5 y6 y7 y8, LeO (laws_FnRows.j1 k y0 y1 y2 y3 y4 y5 y6 y7 y8) (laws_FnRows.j1 (k + 1) y0 y1 y2 y3 y4 y5 y6 y7 y8)) ∧ (∀ y0 y1 y2 y3 y4 y5 y6 y7 y8 y9 y10 y11 y12, LeO (laws_FnRows.j2 k y0 y1 y2 y3 y4 y5 y6 y7 y8 y9 y10 y11 y12) (laws_FnRows.j2 (k + 1) y0 y1 y2 y3 y4 y5 y6 y7 y8 y9 y10 y11 y12)) ∧ (∀ y0 y1 y2 y3 y4 y5 y6 y7 y8 y9 y10 y11 y12 y13 y14 y15, LeO (laws_FnRows.j3 k y0 y1 y2 y3 y4 y5 y6 y7 y8 y9 y10 y11 y12 y13 y14 y15) (laws_FnRows.j3 (k + 1) y0 y1 y2 y3 y4 y5 y6 y7 y8 y9 y10 y11 y12 y13 y14 y15)) ∧ (∀ y0 y1 y2 y3 y4 y5 y6 y7 y8 y9 y10 y11, LeO (laws_FnRows.j4 k y0 y1 y2 y3 y4 y5 y6 y7 y8 y9 y10 y11) (laws_FnRows.j4 (k + 1) y0 y1 y2 y3 y4 y5 y6 y7 y8 y9 y10 y11)) ∧ (∀ y0 y1 y2 y3 y4 y5 y6 y7 y8 y9 y10 y11, LeO (laws_FnRows.j5 k y0 y1 y2 y3 y4 y5 y6 y7 y8 y9 y10 y11) (laws_FnRows.j5 (k + 1) y0 y1 y2 y3 y4 y5 y6 y7 y8 y9 y10 y11)) ∧ (∀ y0 y1 y2 y3 y4 y5 y6 y7, LeO (laws_FnRows.j8 k y0 y1 y2 y3 y4 y5 y6 y7) (laws_FnRows.j8 (k + 1) y0 y1 y2 y3 y4 y5 y6 y7)) ∧ (∀ y0 y1 y2 y3, LeO (laws_FnRows.j9 k y0 y1 y2 y3) (laws_FnRows.j9 (k + 1) y0 y1 y2 y3)) ∧ (∀ y0 y1 y2 y3, LeO (laws_FnRows.l1 k y0 y1 y2 y3) (laws_FnRows.l1 (k + 1) y0 y1 y2 y3)) ∧ (∀ y0 y1 y2 y3 y4 y5 y6 y7 y8 y9, LeO (laws_FnRows.j6 k y0 y1 y2 y3 y4 y5 y6 y7 y8 y9) (laws_FnRows.j6 (k + 1) y0 y1 y2 y3 y4 y5 y6 y7 y8 y9)) ∧ (∀ y0 y1 y2 y3 y4 y5 y6 y7 y8 y9, LeO (laws_FnRows.l0 k y0 y1 y2 y3 y4 y5 y6 y7 y8 y9) (laws_FnRows.l0 (k + 1) y0 y1 y2 y3 y4 y5 y6 y7 y8 y9))
  | 0 => ⟨fun _ _ _ _ _ _ r h => by simp [laws_FnRows.j0] at h, fun _ _ _ _ _ _ _ _ _ r h => by simp [laws_FnRows.j1] at h, fun _ _ _ _ _ _ _ _ _ _ _ _ _ r h => by simp [laws_FnRows.j2] at h, fun _ _ _ _ _ _ _ _ _ _ _ _ _ _ _ _ r h => by simp [laws_FnRows.j3] at h, fun _ _ _ _ _ _ _ _ _ _ _ _ r h => by simp [laws_FnRows.j4] at h, fun _ _ _ _ _ _ _ _ _ _ _ _ r h => by simp [laws_FnRows.j5] at h, fun _ _ _ _ _ _ _ _ r h => by simp [laws_FnRows.j8] at h, fun _ _ _ _ r h => by simp [laws_FnRows.j9] at h, fun _ _ _ _ r h => by simp [laws_FnRows.l1] at h, fun _ _ _ _ _ _ _ _ _ _ r h => by simp [laws_FnRows.j6] at h, fun _ _ _ _ _ _ _ _ _ _ r h => by simp [laws_FnRows.l0] at h⟩
  | k + 1 => by
    obtain ⟨ih0, ih1, ih2, ih3, ih4, ih5, ih6, ih7, ih8, ih9, ih10⟩ := laws_FnRows.mono_l k
    refine ⟨?_, ?_, ?_, ?_, ?_, ?_, ?_, ?_, ?_, ?_, ?_⟩
    · intro y0 y1 y2 y3 y4 y5
      unfold laws_FnRows.j0
      repeat' first
      | (with_reducible exact ih0 _ _ _ _ _ _)
      | (with_reducible exact ih1 _ _ _ _ _ _ _ _ _)
      | (with_reducible exact ih2 _ _ _ _ _ _ _ _ _ _ _ _ _)
      | (with_reducible exact ih3 _ _ _ _ _ _ _ _ _ _ _ _ _ _ _ _)
      | (with_reducible exact ih4 _ _ _ _ _ _ _ _ _ _ _ _)
      | (with_reducible exact ih5 _ _ _ _ _ _ _ _ _ _ _ _)
      | (with_reducible exact ih6 _ _ _ _ _ _ _ _)
      | (with_reducible exact ih7 _ _ _ _)
      | (with_reducible exact ih8 _ _ _ _)
      | (with_reducible exact ih9 _ _ _ _ _ _ _ _ _ _)
      | (with_reducible exact ih10 _ _ _ _ _ _ _ _ _ _)
      | (with_reducible exact impl_JoinRows.mono _ _ _)
      | (with_reducible exact impl_MergeRow.mono _ _)
      | (with_reducible exact impl_MomentAbout.mono _ _ _)
      | (with_reducible exact impl_ParseRow.mono _ _)
      | (with_reducible exact impl_RowText.mono _ _)
      | (with_reducible exact impl_ShiftRow.mono _ _ _)
      | (with_reducible exact impl_TipSide.mono _ _ _ _)
      | (with_reducible exact impl_WeightOf.mono _ _)
      | (with_reducible exact laws_rRow.mono _ _ _)
      | (with_reducible exact spec_DrawJoinRows.mono _ _)
      | (with_reducible exact spec_DrawMergeRow.mono _ _)
      | (with_reducible exact spec_DrawParseRow.mono _ _)
      | (with_reducible exact spec_DrawRowText.mono _ _)
      | (with_reducible exact spec_DrawShiftRow.mono _ _)
      | (with_reducible exact spec_JoinRows.mono _ _ _)
      | (with_reducible exact spec_MergeRow.mono _ _)
      | (with_reducible exact spec_ParseRow.mono _ _)
      | (with_reducible exact spec_RowText.mono _ _)
      | (with_reducible exact spec_ShiftRow.mono _ _ _)
      | (with_reducible exact LeO.refl _)
      | (with_reducible exact LeO.none _)
      | (with_reducible refine LeO.ite ?_ ?_)
      | (with_reducible refine LeO.bind ?_ (fun _ => ?_))
      | exact ih0 _ _ _ _ _ _
      | exact ih1 _ _ _ _ _ _ _ _ _
      | exact ih2 _ _ _ _ _ _ _ _ _ _ _ _ _
      | exact ih3 _ _ _ _ _ _ _ _ _ _ _ _ _ _ _ _
      | exact ih4 _ _ _ _ _ _ _ _ _ _ _ _
      | exact ih5 _ _ _ _ _ _ _ _ _ _ _ _
      | exact ih6 _ _ _ _ _ _ _ _
      | exact ih7 _ _ _ _
      | exact ih8 _ _ _ _
      | exact ih9 _ _ _ _ _ _ _ _ _ _
      | exact ih10 _ _ _ _ _ _ _ _ _ _
      | exact impl_JoinRows.mono _ _ _
      | exact impl_MergeRow.mono _ _
      | exact impl_MomentAbout.mono _ _ _
      | exact impl_ParseRow.mono _ _
      | exact impl_RowText.mono _ _
      | exact impl_ShiftRow.mono _ _ _
      | exact impl_TipSide.mono _ _ _ _
      | exact impl_WeightOf.mono _ _
      | exact laws_rRow.mono _ _ _
      | exact spec_DrawJoinRows.mono _ _
      | exact spec_DrawMergeRow.mono _ _
      | exact spec_DrawParseRow.mono _ _
      | exact spec_DrawRowText.mono _ _
      | exact spec_DrawShiftRow.mono _ _
      | exact spec_JoinRows.mono _ _ _
      | exact spec_MergeRow.mono _ _
      | exact spec_ParseRow.mono _ _
      | exact spec_RowText.mono _ _
      | exact spec_ShiftRow.mono _ _ _
      | exact LeO.none _
      | refine LeO.ite ?_ ?_
      | refine LeO.bind ?_ (fun _ => ?_)
    · intro y0 y1 y2 y3 y4 y5 y6 y7 y8
      unfold laws_FnRows.j1
      repeat' first
      | (with_reducible exact ih0 _ _ _ _ _ _)
      | (with_reducible exact ih1 _ _ _ _ _ _ _ _ _)
      | (with_reducible exact ih2 _ _ _ _ _ _ _ _ _ _ _ _ _)
      | (with_reducible exact ih3 _ _ _ _ _ _ _ _ _ _ _ _ _ _ _ _)
      | (with_reducible exact ih4 _ _ _ _ _ _ _ _ _ _ _ _)
      | (with_reducible exact ih5 _ _ _ _ _ _ _ _ _ _ _ _)
      | (with_reducible exact ih6 _ _ _ _ _ _ _ _)
      | (with_reducible exact ih7 _ _ _ _)
      | (with_reducible exact ih8 _ _ _ _)
      | (with_reducible exact ih9 _ _ _ _ _ _ _ _ _ _)
      | (with_reducible exact ih10 _ _ _ _ _ _ _ _ _ _)
      | (with_reducible exact impl_JoinRows.mono _ _ _)
      | (with_reducible exact impl_MergeRow.mono _ _)
      | (with_reducible exact impl_MomentAbout.mono _ _ _)
      | (with_reducible exact impl_ParseRow.mono _ _)
      | (with_reducible exact impl_RowText.mono _ _)
      | (with_reducible exact impl_ShiftRow.mono _ _ _)
      | (with_reducible exact impl_TipSide.mono _ _ _ _)
      | (with_reducible exact impl_WeightOf.mono _ _)
      | (with_reducible exact laws_rRow.mono _ _ _)
      | (with_reducible exact spec_DrawJoinRows.mono _ _)
      | (with_reducible exact spec_DrawMergeRow.mono _ _)
      | (with_reducible exact spec_DrawParseRow.mono _ _)
      | (with_reducible exact spec_DrawRowText.mono _ _)
      | (with_reducible exact spec_DrawShiftRow.mono _ _)
      | (with_reducible exact spec_JoinRows.mono _ _ _)
      | (with_reducible exact spec_MergeRow.mono _ _)
      | (with_reducible exact spec_ParseRow.mono _ _)
      | (with_reducible exact spec_RowText.mono _ _)
      | (with_reducible exact spec_ShiftRow.mono _ _ _)
      | (with_reducible exact LeO.refl _)
      | (with_reducible exact LeO.none _)
      | (with_reducible refine LeO.ite ?_ ?_)
      | (with_reducible refine LeO.bind ?_ (fun _ => ?_))
      | exact ih0 _ _ _ _ _ _
      | exact ih1 _ _ _ _ _ _ _ _ _
      | exact ih2 _ _ _ _ _ _ _ _ _ _ _ _ _
      | exact ih3 _ _ _ _ _ _ _ _ _ _ _ _ _ _ _ _
      | exact ih4 _ _ _ _ _ _ _ _ _ _ _ _
      | exact ih5 _ _ _ _ _ _ _ _ _ _ _ _
      | exact ih6 _ _ _ _ _ _ _ _
      | exact ih7 _ _ _ _
      | exact ih8 _ _ _ _
      | exact ih9 _ _ _ _ _ _ _ _ _ _
      | exact ih10 _ _ _ _ _ _ _ _ _ _
      | exact impl_JoinRows.mono _ _ _
      | exact impl_MergeRow.mono _ _
      | exact impl_MomentAbout.mono _ _ _
      | exact impl_ParseRow.mono _ _
      | exact impl_RowText.mono _ _
      | exact impl_ShiftRow.mono _ _ _
      | exact impl_TipSide.mono _ _ _ _
      | exact impl_WeightOf.mono _ _
      | exact laws_rRow.mono _ _ _
      | exact spec_DrawJoinRows.mono _ _
      | exact spec_DrawMergeRow.mono _ _
      | exact spec_DrawParseRow.mono _ _
      | exact spec_DrawRowText.mono _ _
      | exact spec_DrawShiftRow.mono _ _
      | exact spec_JoinRows.mono _ _ _
      | exact spec_MergeRow.mono _ _
      | exact spec_ParseRow.mono _ _
      | exact spec_RowText.mono _ _
      | exact spec_ShiftRow.mono _ _ _
      | exact LeO.none _
      | refine LeO.ite ?_ ?_
      | refine LeO.bind ?_ (fun _ => ?_)
    · intro y0 y1 y2 y3 y4 y5 y6 y7 y8 y9 y10 y11 y12
      unfold laws_FnRows.j2
      repeat' first
      | (with_reducible exact ih0 _ _ _ _ _ _)
      | (with_reducible exact ih1 _ _ _ _ _ _ _ _ _)
      | (with_reducible exact ih2 _ _ _ _ _ _ _ _ _ _ _ _ _)
      | (with_reducible exact ih3 _ _ _ _ _ _ _ _ _ _ _ _ _ _ _ _)
      | (with_reducible exact ih4 _ _ _ _ _ _ _ _ _ _ _ _)
      | (with_reducible exact ih5 _ _ _ _ _ _ _ _ _ _ _ _)
      | (with_reducible exact ih6 _ _ _ _ _ _ _ _)
      | (with_reducible exact ih7 _ _ _ _)
      | (with_reducible exact ih8 _ _ _ _)
      | (with_reducible exact ih9 _ _ _ _ _ _ _ _ _ _)
      | (with_reducible exact ih10 _ _ _ _ _ _ _ _ _ _)
      | (with_reducible exact impl_JoinRows.mono _ _ _)
      | (with_reducible exact impl_MergeRow.mono _ _)
      | (with_reducible exact impl_MomentAbout.mono _ _ _)
      | (with_reducible exact impl_ParseRow.mono _ _)
      | (with_reducible exact impl_RowText.mono _ _)
      | (with_reducible exact impl_ShiftRow.mono _ _ _)
      | (with_reducible exact impl_TipSide.mono _ _ _ _)
      | (with_reducible exact impl_WeightOf.mono _ _)
      | (with_reducible exact laws_rRow.mono _ _ _)
      | (with_reducible exact spec_DrawJoinRows.mono _ _)
      | (with_reducible exact spec_DrawMergeRow.mono _ _)
      | (with_reducible exact spec_DrawParseRow.mono _ _)
      | (with_reducible exact spec_DrawRowText.mono _ _)
      | (with_reducible exact spec_DrawShiftRow.mono _ _)
      | (with_reducible exact spec_JoinRows.mono _ _ _)
      | (with_reducible exact spec_MergeRow.mono _ _)
      | (with_reducible exact spec_ParseRow.mono _ _)
      | (with_reducible exact spec_RowText.mono _ _)
      | (with_reducible exact spec_ShiftRow.mono _ _ _)
      | (with_reducible exact LeO.refl _)
      | (with_reducible exact LeO.none _)
      | (with_reducible refine LeO.ite ?_ ?_)
      | (with_reducible refine LeO.bind ?_ (fun _ => ?_))
      | exact ih0 _ _ _ _ _ _
      | exact ih1 _ _ _ _ _ _ _ _ _
      | exact ih2 _ _ _ _ _ _ _ _ _ _ _ _ _
      | exact ih3 _ _ _ _ _ _ _ _ _ _ _ _ _ _ _ _
      | exact ih4 _ _ _ _ _ _ _ _ _ _ _ _
      | exact ih5 _ _ _ _ _ _ _ _ _ _ _ _
      | exact ih6 _ _ _ _ _ _ _ _
      | exact ih7 _ _ _ _
      | exact ih8 _ _ _ _
      | exact ih9 _ _ _ _ _ _ _ _ _ _
      | exact ih10 _ _ _ _ _ _ _ _ _ _
      | exact impl_JoinRows.mono _ _ _
      | exact impl_MergeRow.mono _ _
      | exact impl_MomentAbout.mono _ _ _
      | exact impl_ParseRow.mono _ _
      | exact impl_RowText.mono _ _
      | exact impl_ShiftRow.mono _ _ _
      | exact impl_TipSide.mono _ _ _ _
      | exact impl_WeightOf.mono _ _
      | exact laws_rRow.mono _ _ _
      | exact spec_DrawJoinRows.mono _ _
      | exact spec_DrawMergeRow.mono _ _
      | exact spec_DrawParseRow.mono _ _
      | exact spec_DrawRowText.mono _ _
      | exact spec_DrawShiftRow.mono _ _
      | exact spec_JoinRows.mono _ _ _
      | exact spec_MergeRow.mono _ _
      | exact spec_ParseRow.mono _ _
      | exact spec_RowText.mono _ _
      | exact spec_ShiftRow.mono _ _ _
      | exact LeO.none _
      | refine LeO.ite ?_ ?_
      | refine LeO.bind ?_ (fun _ => ?_)
    · intro y0 y1 y2 y3 y4 y5 y6 y7 y8 y9 y10 y11 y12 y13 y14 y15
      unfold laws_FnRows.j3
      repeat' first
      | (with_reducible exact ih0 _ _ _ _ _ _)
      | (with_reducible exact ih1 _ _ _ _ _ _ _ _ _)
      | (with_reducible exact ih2 _ _ _ _ _ _ _ _ _ _ _ _ _)
      | (with_reducible exact ih3 _ _ _ _ _ _ _ _ _ _ _ _ _ _ _ _)
      | (with_reducible exact ih4 _ _ _ _ _ _ _ _ _ _ _ _)
      | (with_reducible exact ih5 _ _ _ _ _ _ _ _ _ _ _ _)
      | (with_reducible exact ih6 _ _ _ _ _ _ _ _)
      | (with_reducible exact ih7 _ _ _ _)
      | (with_reducible exact ih8 _ _ _ _)
      | (with_reducible exact ih9 _ _ _ _ _ _ _ _ _ _)
      | (with_reducible exact ih10 _ _ _ _ _ _ _ _ _ _)
      | (with_reducible exact impl_JoinRows.mono _ _ _)
      | (with_reducible exact impl_MergeRow.mono _ _)
      | (with_reducible exact impl_MomentAbout.mono _ _ _)
      | (with_reducible exact impl_ParseRow.mono _ _)
      | (with_reducible exact impl_RowText.mono _ _)
      | (with_reducible exact impl_ShiftRow.mono _ _ _)
      | (with_reducible exact impl_TipSide.mono _ _ _ _)
      | (with_reducible exact impl_WeightOf.mono _ _)
      | (with_reducible exact laws_rRow.mono _ _ _)
      | (with_reducible exact spec_DrawJoinRows.mono _ _)
      | (with_reducible exact spec_DrawMergeRow.mono _ _)
      | (with_reducible exact spec_DrawParseRow.mono _ _)
      | (with_reducible exact spec_DrawRowText.mono _ _)
      | (with_reducible exact spec_DrawShiftRow.mono _ _)
      | (with_reducible exact spec_JoinRows.mono _ _ _)
      | (with_reducible exact spec_MergeRow.mono _ _)
      | (with_reducible exact spec_ParseRow.mono _ _)
      | (with_reducible exact spec_RowText.mono _ _)
      | (with_reducible exact spec_ShiftRow.mono _ _ _)
      | (with_reducible exact LeO.refl _)
      | (with_reducible exact LeO.none _)
      | (with_reducible refine LeO.ite ?_ ?_)
      | (with_reducible refine LeO.bind ?_ (fun _ => ?_))
      | exact ih0 _ _ _ _ _ _
      | exact ih1 _ _ _ _ _ _ _ _ _
      | exact ih2 _ _ _ _ _ _ _ _ _ _ _ _ _
      | exact ih3 _ _ _ _ _ _ _ _ _ _ _ _ _ _ _ _
      | exact ih4 _ _ _ _ _ _ _ _ _ _ _ _
      | exact ih5 _ _ _ _ _ _ _ _ _ _ _ _
      | exact ih6 _ _ _ _ _ _ _ _
      | exact ih7 _ _ _ _
      | exact ih8 _ _ _ _
      | exact ih9 _ _ _ _ _ _ _ _ _ _
      | exact ih10 _ _ _ _ _ _ _ _ _ _
      | exact impl_JoinRows.mono _ _ _
      | exact impl_MergeRow.mono _ _
      | exact impl_MomentAbout.mono _ _ _
      | exact impl_ParseRow.mono _ _
      | exact impl_RowText.mono _ _
      | exact impl_ShiftRow.mono _ _ _
      | exact impl_TipSide.mono _ _ _ _
      | exact impl_WeightOf.mono _ _
      | exact laws_rRow.mono _ _ _
      | exact spec_DrawJoinRows.mono _ _
      | exact spec_DrawMergeRow.mono _ _
      | exact spec_DrawParseRow.mono _ _
      | exact spec_DrawRowText.mono _ _
      | exact spec_DrawShiftRow.mono _ _
      | exact spec_JoinRows.mono _ _ _
      | exact spec_MergeRow.mono _ _
      | exact spec_ParseRow.mono _ _
      | exact spec_RowText.mono _ _
      | exact spec_ShiftRow.mono _ _ _
      | exact LeO.none _
      | refine LeO.ite ?_ ?_
      | refine LeO.bind ?_ (fun _ => ?_)
    · intro y0 y1 y2 y3 y4 y5 y6 y7 y8 y9 y10 y11
      unfold laws_FnRows.j4
      repeat' first
      | (with_reducible exact ih0 _ _ _ _ _ _)
      | (with_reducible exact ih1 _ _ _ _ _ _ _ _ _)
      | (with_reducible exact ih2 _ _ _ _ _ _ _ _ _ _ _ _ _)
      | (with_reducible exact ih3 _ _ _ _ _ _ _ _ _ _ _ _ _ _ _ _)
      | (with_reducible exact ih4 _ _ _ _ _ _ _ _ _ _ _ _)
      | (with_reducible exact ih5 _ _ _ _ _ _ _ _ _ _ _ _)
      | (with_reducible exact ih6 _ _ _ _ _ _ _ _)
      | (with_reducible exact ih7 _ _ _ _)
      | (with_reducible exact ih8 _ _ _ _)
      | (with_reducible exact ih9 _ _ _ _ _ _ _ _ _ _)
      | (with_reducible exact ih10 _ _ _ _ _ _ _ _ _ _)
      | (with_reducible exact impl_JoinRows.mono _ _ _)
      | (with_reducible exact impl_MergeRow.mono _ _)
      | (with_reducible exact impl_MomentAbout.mono _ _ _)
      | (with_reducible exact impl_ParseRow.mono _ _)
      | (with_reducible exact impl_RowText.mono _ _)
      | (with_reducible exact impl_ShiftRow.mono _ _ _)
      | (with_reducible exact impl_TipSide.mono _ _ _ _)
      | (with_reducible exact impl_WeightOf.mono _ _)
      | (with_reducible exact laws_rRow.mono _ _ _)
      | (with_reducible exact spec_DrawJoinRows.mono _ _)
      | (with_reducible exact spec_DrawMergeRow.mono _ _)
      | (with_reducible exact spec_DrawParseRow.mono _ _)
      | (with_reducible exact spec_DrawRowText.mono _ _)
      | (with_reducible exact spec_DrawShiftRow.mono _ _)
      | (with_reducible exact spec_JoinRows.mono _ _ _)
      | (with_reducible exact spec_MergeRow.mono _ _)
      | (with_reducible exact spec_ParseRow.mono _ _)
      | (with_reducible exact spec_RowText.mono _ _)
      | (with_reducible exact spec_ShiftRow.mono _ _ _)
      | (with_reducible exact LeO.refl _)
      | (with_reducible exact LeO.none _)
      | (with_reducible refine LeO.ite ?_ ?_)
      | (with_reducible refine LeO.bind ?_ (fun _ => ?_))
      | exact ih0 _ _ _ _ _ _
      | exact ih1 _ _ _ _ _ _ _ _ _
      | exact ih2 _ _ _ _ _ _ _ _ _ _ _ _ _
      | exact ih3 _ _ _ _ _ _ _ _ _ _ _ _ _ _ _ _
      | exact ih4 _ _ _ _ _ _ _ _ _ _ _ _
      | exact ih5 _ _ _ _ _ _ _ _ _ _ _ _
      | exact ih6 _ _ _ _ _ _ _ _
      | exact ih7 _ _ _ _
      | exact ih8 _ _ _ _
      | exact ih9 _ _ _ _ _ _ _ _ _ _
      | exact ih10 _ _ _ _ _ _ _ _ _ _
      | exact impl_JoinRows.mono _ _ _
      | exact impl_MergeRow.mono _ _
      | exact impl_MomentAbout.mono _ _ _
      | exact impl_ParseRow.mono _ _
      | exact impl_RowText.mono _ _
      | exact impl_ShiftRow.mono _ _ _
      | exact impl_TipSide.mono _ _ _ _
      | exact impl_WeightOf.mono _ _
      | exact laws_rRow.mono _ _ _
      | exact spec_DrawJoinRows.mono _ _
      | exact spec_DrawMergeRow.mono _ _
      | exact spec_DrawParseRow.mono _ _
      | exact spec_DrawRowText.mono _ _
      | exact spec_DrawShiftRow.mono _ _
      | exact spec_JoinRows.mono _ _ _
      | exact spec_MergeRow.mono _ _
      | exact spec_ParseRow.mono _ _
      | exact spec_RowText.mono _ _
      | exact spec_ShiftRow.mono _ _ _
      | exact LeO.none _
      | refine LeO.ite ?_ ?_
      | refine LeO.bind ?_ (fun _ => ?_)
    · intro y0 y1 y2 y3 y4 y5 y6 y7 y8 y9 y10 y11
      unfold laws_FnRows.j5
      repeat' first
      | (with_reducible exact ih0 _ _ _ _ _ _)
      | (with_reducible exact ih1 _ _ _ _ _ _ _ _ _)
      | (with_reducible exact ih2 _ _ _ _ _ _ _ _ _ _ _ _ _)
      | (with_reducible exact ih3 _ _ _ _ _ _ _ _ _ _ _ _ _ _ _ _)
      | (with_reducible exact ih4 _ _ _ _ _ _ _ _ _ _ _ _)
      | (with_reducible exact ih5 _ _ _ _ _ _ _ _ _ _ _ _)
      | (with_reducible exact ih6 _ _ _ _ _ _ _ _)
      | (with_reducible exact ih7 _ _ _ _)
      | (with_reducible exact ih8 _ _ _ _)
      | (with_reducible exact ih9 _ _ _ _ _ _ _ _ _ _)
      | (with_reducible exact ih10 _ _ _ _ _ _ _ _ _ _)
      | (with_reducible exact impl_JoinRows.mono _ _ _)
      | (with_reducible exact impl_MergeRow.mono _ _)
      | (with_reducible exact impl_MomentAbout.mono _ _ _)
      | (with_reducible exact impl_ParseRow.mono _ _)
      | (with_reducible exact impl_RowText.mono _ _)
      | (with_reducible exact impl_ShiftRow.mono _ _ _)
      | (with_reducible exact impl_TipSide.mono _ _ _ _)
      | (with_reducible exact impl_WeightOf.mono _ _)
      | (with_reducible exact laws_rRow.mono _ _ _)
      | (with_reducible exact spec_DrawJoinRows.mono _ _)
      | (with_reducible exact spec_DrawMergeRow.mono _ _)
      | (with_reducible exact spec_DrawParseRow.mono _ _)
      | (with_reducible exact spec_DrawRowText.mono _ _)
      | (with_reducible exact spec_DrawShiftRow.mono _ _)
      | (with_reducible exact spec_JoinRows.mono _ _ _)
      | (with_reducible exact spec_MergeRow.mono _ _)
      | (with_reducible exact spec_ParseRow.mono _ _)
      | (with_reducible exact spec_RowText.mono _ _)
      | (with_reducible exact spec_ShiftRow.mono _ _ _)
      | (with_reducible exact LeO.refl _)
      | (with_reducible exact LeO.none _)
      | (with_reducible refine LeO.ite ?_ ?_)
      | (with_reducible refine LeO.bind ?_ (fun _ => ?_))
      | exact ih0 _ _ _ _ _ _
      | exact ih1 _ _ _ _ _ _ _ _ _
      | exact ih2 _ _ _ _ _ _ _ _ _ _ _ _ _
      | exact ih3 _ _ _ _ _ _ _ _ _ _ _ _ _ _ _ _
      | exact ih4 _ _ _ _ _ _ _ _ _ _ _ _
      | exact ih5 _ _ _ _ _ _ _ _ _ _ _ _
      | exact ih6 _ _ _ _ _ _ _ _
      | exact ih7 _ _ _ _
      | exact ih8 _ _ _ _
      | exact ih9 _ _ _ _ _ _ _ _ _ _
      | exact ih10 _ _ _ _ _ _ _ _ _ _
      | exact impl_JoinRows.mono _ _ _
      | exact impl_MergeRow.mono _ _
      | exact impl_MomentAbout.mono _ _ _
      | exact impl_ParseRow.mono _ _
      | exact impl_RowText.mono _ _
      | exact impl_ShiftRow.mono _ _ _
      | exact impl_TipSide.mono _ _ _ _
      | exact impl_WeightOf.mono _ _
      | exact laws_rRow.mono _ _ _
      | exact spec_DrawJoinRows.mono _ _
      | exact spec_DrawMergeRow.mono _ _
      | exact spec_DrawParseRow.mono _ _
      | exact spec_DrawRowText.mono _ _
      | exact spec_DrawShiftRow.mono _ _
      | exact spec_JoinRows.mono _ _ _
      | exact spec_MergeRow.mono _ _
      | exact spec_ParseRow.mono _ _
      | exact spec_RowText.mono _ _
      | exact spec_ShiftRow.mono _ _ _
      | exact LeO.none _
      | refine LeO.ite ?_ ?_
      | refine LeO.bind ?_ (fun _ => ?_)
    · intro y0 y1 y2 y3 y4 y5 y6 y7
      unfold laws_FnRows.j8
      repeat' first
      | (with_reducible exact ih0 _ _ _ _ _ _)
      | (with_reducible exact ih1 _ _ _ _ _ _ _ _ _)
      | (with_reducible exact ih2 _ _ _ _ _ _ _ _ _ _ _ _ _)
      | (with_reducible exact ih3 _ _ _ _ _ _ _ _ _ _ _ _ _ _ _ _)
      | (with_reducible exact ih4 _ _ _ _ _ _ _ _ _ _ _ _)
      | (with_reducible exact ih5 _ _ _ _ _ _ _ _ _ _ _ _)
      | (with_reducible exact ih6 _ _ _ _ _ _ _ _)
      | (with_reducible exact ih7 _ _ _ _)
      | (with_reducible exact ih8 _ _ _ _)
      | (with_reducible exact ih9 _ _ _ _ _ _ _ _ _ _)
      | (with_reducible exact ih10 _ _ _ _ _ _ _ _ _ _)
      | (with_reducible exact impl_JoinRows.mono _ _ _)
      | (with_reducible exact impl_MergeRow.mono _ _)
      | (with_reducible exact impl_MomentAbout.mono _ _ _)
      | (with_reducible exact impl_ParseRow.mono _ _)
      | (with_reducible exact impl_RowText.mono _ _)
      | (with_reducible exact impl_ShiftRow.mono _ _ _)
      | (with_reducible exact impl_TipSide.mono _ _ _ _)
      | (with_reducible exact impl_WeightOf.mono _ _)
      | (with_reducible exact laws_rRow.mono _ _ _)
      | (with_reducible exact spec_DrawJoinRows.mono _ _)
      | (with_reducible exact spec_DrawMergeRow.mono _ _)
      | (with_reducible exact spec_DrawParseRow.mono _ _)
      | (with_reducible exact spec_DrawRowText.mono _ _)
      | (with_reducible exact spec_DrawShiftRow.mono _ _)
      | (with_reducible exact spec_JoinRows.mono _ _ _)
      | (with_reducible exact spec_MergeRow.mono _ _)
      | (with_reducible exact spec_ParseRow.mono _ _)
      | (with_reducible exact spec_RowText.mono _ _)
      | (with_reducible exact spec_ShiftRow.mono _ _ _)
      | (with_reducible exact LeO.refl _)
      | (with_reducible exact LeO.none _)
      | (with_reducible refine LeO.ite ?_ ?_)
      | (with_reducible refine LeO.bind ?_ (fun _ => ?_))
      | exact ih0 _ _ _ _ _ _
      | exact ih1 _ _ _ _ _ _ _ _ _
      | exact ih2 _ _ _ _ _ _ _ _ _ _ _ _ _
      | exact ih3 _ _ _ _ _ _ _ _ _ _ _ _ _ _ _ _
      | exact ih4 _ _ _ _ _ _ _ _ _ _ _ _
      | exact ih5 _ _ _ _ _ _ _ _ _ _ _ _
      | exact ih6 _ _ _ _ _ _ _ _
      | exact ih7 _ _ _ _
      | exact ih8 _ _ _ _
      | exact ih9 _ _ _ _ _ _ _ _ _ _
      | exact ih10 _ _ _ _ _ _ _ _ _ _
      | exact impl_JoinRows.mono _ _ _
      | exact impl_MergeRow.mono _ _
      | exact impl_MomentAbout.mono _ _ _
      | exact impl_ParseRow.mono _ _
      | exact impl_RowText.mono _ _
      | exact impl_ShiftRow.mono _ _ _
      | exact impl_TipSide.mono _ _ _ _
      | exact impl_WeightOf.mono _ _
      | exact laws_rRow.mono _ _ _
      | exact spec_DrawJoinRows.mono _ _
      | exact spec_DrawMergeRow.mono _ _
      | exact spec_DrawParseRow.mono _ _
      | exact spec_DrawRowText.mono _ _
      | exact spec_DrawShiftRow.mono _ _
      | exact spec_JoinRows.mono _ _ _
      | exact spec_MergeRow.mono _ _
      | exact spec_ParseRow.mono _ _
      | exact spec_RowText.mono _ _
      | exact spec_ShiftRow.mono _ _ _
      | exact LeO.none _
      | refine LeO.ite ?_ ?_
      | refine LeO.bind ?_ (fun _ => ?_)
    · intro y0 y1 y2 y3
      unfold laws_FnRows.j9
      repeat' first
      | (with_reducible exact ih0 _ _ _ _ _ _)
      | (with_reducible exact ih1 _ _ _ _ _ _ _ _ _)
      | (with_reducible exact ih2 _ _ _ _ _ _ _ _ _ _ _ _ _)
      | (with_reducible exact ih3 _ _ _ _ _ _ _ _ _ _ _ _ _ _ _ _)
      | (with_reducible exact ih4 _ _ _ _ _ _ _ _ _ _ _ _)
      | (with_reducible exact ih5 _ _ _ _ _ _ _ _ _ _ _ _)
      | (with_reducible exact ih6 _ _ _ _ _ _ _ _)
      | (with_reducible exact ih7 _ _ _ _)
      | (with_reducible exact ih8 _ _ _ _)
      | (with_reducible exact ih9 _ _ _ _ _ _ _ _ _ _)
      | (with_reducible exact ih10 _ _ _ _ _ _ _ _ _ _)
      | (with_reducible exact impl_JoinRows.mono _ _ _)
      | (with_reducible exact impl_MergeRow.mono _ _)
      | (with_reducible exact impl_MomentAbout.mono _ _ _)
      | (with_reducible exact impl_ParseRow.mono _ _)
      | (with_reducible exact impl_RowText.mono _ _)
      | (with_reducible exact impl_ShiftRow.mono _ _ _)
      | (with_reducible exact impl_TipSide.mono _ _ _ _)
      | (with_reducible exact impl_WeightOf.mono _ _)
      | (with_reducible exact laws_rRow.mono _ _ _)
      | (with_reducible exact spec_DrawJoinRows.mono _ _)
      | (with_reducible exact spec_DrawMergeRow.mono _ _)
      | (with_reducible exact spec_DrawParseRow.mono _ _)
      | (with_reducible exact spec_DrawRowText.mono _ _)
      | (with_reducible exact spec_DrawShiftRow.mono _ _)
      | (with_reducible exact spec_JoinRows.mono _ _ _)
      | (with_reducible exact spec_MergeRow.mono _ _)
      | (with_reducible exact spec_ParseRow.mono _ _)
      | (with_reducible exact spec_RowText.mono _ _)
      | (with_reducible exact spec_ShiftRow.mono _ _ _)
      | (with_reducible exact LeO.refl _)
      | (with_reducible exact LeO.none _)
      | (with_reducible refine LeO.ite ?_ ?_)
      | (with_reducible refine LeO.bind ?_ (fun _ => ?_))
      | exact ih0 _ _ _ _ _ _
      | exact ih1 _ _ _ _ _ _ _ _ _
      | exact ih2 _ _ _ _ _ _ _ _ _ _ _ _ _
      | exact ih3 _ _ _ _ _ _ _ _ _ _ _ _ _ _ _ _
      | exact ih4 _ _ _ _ _ _ _ _ _ _ _ _
      | exact ih5 _ _ _ _ _ _ _ _ _ _ _ _
      | exact ih6 _ _ _ _ _ _ _ _
      | exact ih7 _ _ _ _
      | exact ih8 _ _ _ _
      | exact ih9 _ _ _ _ _ _ _ _ _ _
      | exact ih10 _ _ _ _ _ _ _ _ _ _
      | exact impl_JoinRows.mono _ _ _
      | exact impl_MergeRow.mono _ _
      | exact impl_MomentAbout.mono _ _ _
      | exact impl_ParseRow.mono _ _
      | exact impl_RowText.mono _ _
      | exact impl_ShiftRow.mono _ _ _
      | exact impl_TipSide.mono _ _ _ _
      | exact impl_WeightOf.mono _ _
      | exact laws_rRow.mono _ _ _
      | exact spec_DrawJoinRows.mono _ _
      | exact spec_DrawMergeRow.mono _ _
      | exact spec_DrawParseRow.mono _ _
      | exact spec_DrawRowText.mono _ _
      | exact spec_DrawShiftRow.mono _ _
      | exact spec_JoinRows.mono _ _ _
      | exact spec_MergeRow.mono _ _
      | exact spec_ParseRow.mono _ _
      | exact spec_RowText.mono _ _
      | exact spec_ShiftRow.mono _ _ _
      | exact LeO.none _
      | refine LeO.ite ?_ ?_
      | refine LeO.bind ?_ (fun _ => ?_)
    · intro y0 y1 y2 y3
      unfold laws_FnRows.l1
      repeat' first
      | (with_reducible exact ih0 _ _ _ _ _ _)
      | (with_reducible exact ih1 _ _ _ _ _ _ _ _ _)
      | (with_reducible exact ih2 _ _ _ _ _ _ _ _ _ _ _ _ _)
      | (with_reducible exact ih3 _ _ _ _ _ _ _ _ _ _ _ _ _ _ _ _)
      | (with_reducible exact ih4 _ _ _ _ _ _ _ _ _ _ _ _)
      | (with_reducible exact ih5 _ _ _ _ _ _ _ _ _ _ _ _)
      | (with_reducible exact ih6 _ _ _ _ _ _ _ _)
      | (with_reducible exact ih7 _ _ _ _)
      | (with_reducible exact ih8 _ _ _ _)
      | (with_reducible exact ih9 _ _ _ _ _ _ _ _ _ _)
      | (with_reducible exact ih10 _ _ _ _ _ _ _ _ _ _)
      | (with_reducible exact impl_JoinRows.mono _ _ _)
      | (with_reducible exact impl_MergeRow.mono _ _)
      | (with_reducible exact impl_MomentAbout.mono _ _ _)
      | (with_reducible exact impl_ParseRow.mono _ _)
      | (with_reducible exact impl_RowText.mono _ _)
      | (with_reducible exact impl_ShiftRow.mono _ _ _)
      | (with_reducible exact impl_TipSide.mono _ _ _ _)
      | (with_reducible exact impl_WeightOf.mono _ _)
      | (with_reducible exact laws_rRow.mono _ _ _)
      | (with_reducible exact spec_DrawJoinRows.mono _ _)
      | (with_reducible exact spec_DrawMergeRow.mono _ _)
      | (with_reducible exact spec_DrawParseRow.mono _ _)
      | (with_reducible exact spec_DrawRowText.mono _ _)
      | (with_reducible exact spec_DrawShiftRow.mono _ _)
      | (with_reducible exact spec_JoinRows.mono _ _ _)
      | (with_reducible exact spec_MergeRow.mono _ _)
      | (with_reducible exact spec_ParseRow.mono _ _)
      | (with_reducible exact spec_RowText.mono _ _)
      | (with_reducible exact spec_ShiftRow.mono _ _ _)
      | (with_reducible exact LeO.refl _)
      | (with_reducible exact LeO.none _)
      | (with_reducible refine LeO.ite ?_ ?_)
      | (with_reducible refine LeO.bind ?_ (fun _ => ?_))
      | exact ih0 _ _ _ _ _ _
      | exact ih1 _ _ _ _ _ _ _ _ _
      | exact ih2 _ _ _ _ _ _ _ _ _ _ _ _ _
      | exact ih3 _ _ _ _ _ _ _ _ _ _ _ _ _ _ _ _
      | exact ih4 _ _ _ _ _ _ _ _ _ _ _ _
      | exact ih5 _ _ _ _ _ _ _ _ _ _ _ _
      | exact ih6 _ _ _ _ _ _ _ _
      | exact ih7 _ _ _ _
      | exact ih8 _ _ _ _
      | exact ih9 _ _ _ _ _ _ _ _ _ _
      | exact ih10 _ _ _ _ _ _ _ _ _ _
      | exact impl_JoinRows.mono _ _ _
      | exact impl_MergeRow.mono _ _
      | exact impl_MomentAbout.mono _ _ _
      | exact impl_ParseRow.mono _ _
      | exact impl_RowText.mono _ _
      | exact impl_ShiftRow.mono _ _ _
      | exact impl_TipSide.mono _ _ _ _
      | exact impl_WeightOf.mono _ _
      | exact laws_rRow.mono _ _ _
      | exact spec_DrawJoinRows.mono _ _
      | exact spec_DrawMergeRow.mono _ _
      | exact spec_DrawParseRow.mono _ _
      | exact spec_DrawRowText.mono _ _
      | exact spec_DrawShiftRow.mono _ _
      | exact spec_JoinRows.mono _ _ _
      | exact spec_MergeRow.mono _ _
      | exact spec_ParseRow.mono _ _
      | exact spec_RowText.mono _ _
      | exact spec_ShiftRow.mono _ _ _
      | exact LeO.none _
      | refine LeO.ite ?_ ?_
      | refine LeO.bind ?_ (fun _ => ?_)
    · intro y0 y1 y2 y3 y4 y5 y6 y7 y8 y9
      unfold laws_FnRows.j6
      repeat' first
      | (with_reducible exact ih0 _ _ _ _ _ _)
      | (with_reducible exact ih1 _ _ _ _ _ _ _ _ _)
      | (with_reducible exact ih2 _ _ _ _ _ _ _ _ _ _ _ _ _)
      | (with_reducible exact ih3 _ _ _ _ _ _ _ _ _ _ _ _ _ _ _ _)
      | (with_reducible exact ih4 _ _ _ _ _ _ _ _ _ _ _ _)
      | (with_reducible exact ih5 _ _ _ _ _ _ _ _ _ _ _ _)
      | (with_reducible exact ih6 _ _ _ _ _ _ _ _)
      | (with_reducible exact ih7 _ _ _ _)
      | (with_reducible exact ih8 _ _ _ _)
      | (with_reducible exact ih9 _ _ _ _ _ _ _ _ _ _)
      | (with_reducible exact ih10 _ _ _ _ _ _ _ _ _ _)
      | (with_reducible exact impl_JoinRows.mono _ _ _)
      | (with_reducible exact impl_MergeRow.mono _ _)
      | (with_reducible exact impl_MomentAbout.mono _ _ _)
      | (with_reducible exact impl_ParseRow.mono _ _)
      | (with_reducible exact impl_RowText.mono _ _)
      | (with_reducible exact impl_ShiftRow.mono _ _ _)
      | (with_reducible exact impl_TipSide.mono _ _ _ _)
      | (with_reducible exact impl_WeightOf.mono _ _)
      | (with_reducible exact laws_rRow.mono _ _ _)
      | (with_reducible exact spec_DrawJoinRows.mono _ _)
      | (with_reducible exact spec_DrawMergeRow.mono _ _)
      | (with_reducible exact spec_DrawParseRow.mono _ _)
      | (with_reducible exact spec_DrawRowText.mono _ _)
      | (with_reducible exact spec_DrawShiftRow.mono _ _)
      | (with_reducible exact spec_JoinRows.mono _ _ _)
      | (with_reducible exact spec_MergeRow.mono _ _)
      | (with_reducible exact spec_ParseRow.mono _ _)
      | (with_reducible exact spec_RowText.mono _ _)
      | (with_reducible exact spec_ShiftRow.mono _ _ _)
      | (with_reducible exact LeO.refl _)
      | (with_reducible exact LeO.none _)
      | (with_reducible refine LeO.ite ?_ ?_)
      | (with_reducible refine LeO.bind ?_ (fun _ => ?_))
      | exact ih0 _ _ _ _ _ _
      | exact ih1 _ _ _ _ _ _ _ _ _
      | exact ih2 _ _ _ _ _ _ _ _ _ _ _ _ _
      | exact ih3 _ _ _ _ _ _ _ _ _ _ _ _ _ _ _ _
      | exact ih4 _ _ _ _ _ _ _ _ _ _ _ _
      | exact ih5 _ _ _ _ _ _ _ _ _ _ _ _
      | exact ih6 _ _ _ _ _ _ _ _
      | exact ih7 _ _ _ _
      | exact ih8 _ _ _ _
      | exact ih9 _ _ _ _ _ _ _ _ _ _
      | exact ih10 _ _ _ _ _ _ _ _ _ _
      | exact impl_JoinRows.mono _ _ _
      | exact impl_MergeRow.mono _ _
      | exact impl_MomentAbout.mono _ _ _
      | exact impl_ParseRow.mono _ _
      | exact impl_RowText.mono _ _
      | exact impl_ShiftRow.mono _ _ _
      | exact impl_TipSide.mono _ _ _ _
      | exact impl_WeightOf.mono _ _
      | exact laws_rRow.mono _ _ _
      | exact spec_DrawJoinRows.mono _ _
      | exact spec_DrawMergeRow.mono _ _
      | exact spec_DrawParseRow.mono _ _
      | exact spec_DrawRowText.mono _ _
      | exact spec_DrawShiftRow.mono _ _
      | exact spec_JoinRows.mono _ _ _
      | exact spec_MergeRow.mono _ _
      | exact spec_ParseRow.mono _ _
      | exact spec_RowText.mono _ _
      | exact spec_ShiftRow.mono _ _ _
      | exact LeO.none _
      | refine LeO.ite ?_ ?_
      | refine LeO.bind ?_ (fun _ => ?_)
    · intro y0 y1 y2 y3 y4 y5 y6 y7 y8 y9
      unfold laws_FnRows.l0
      repeat' first
      | (with_reducible exact ih0 _ _ _ _ _ _)
      | (with_reducible exact ih1 _ _ _ _ _ _ _ _ _)
      | (with_reducible exact ih2 _ _ _ _ _ _ _ _ _ _ _ _ _)
      | (with_reducible exact ih3 _ _ _ _ _ _ _ _ _ _ _ _ _ _ _ _)
      | (with_reducible exact ih4 _ _ _ _ _ _ _ _ _ _ _ _)
      | (with_reducible exact ih5 _ _ _ _ _ _ _ _ _ _ _ _)
      | (with_reducible exact ih6 _ _ _ _ _ _ _ _)
      | (with_reducible exact ih7 _ _ _ _)
      | (with_reducible exact ih8 _ _ _ _)
      | (with_reducible exact ih9 _ _ _ _ _ _ _ _ _ _)
      | (with_reducible exact ih10 _ _ _ _ _ _ _ _ _ _)
      | (with_reducible exact impl_JoinRows.mono _ _ _)
      | (with_reducible exact impl_MergeRow.mono _ _)
      | (with_reducible exact impl_MomentAbout.mono _ _ _)
      | (with_reducible exact impl_ParseRow.mono _ _)
      | (with_reducible exact impl_RowText.mono _ _)
      | (with_reducible exact impl_ShiftRow.mono _ _ _)
      | (with_reducible exact impl_TipSide.mono _ _ _ _)
      | (with_reducible exact impl_WeightOf.mono _ _)
      | (with_reducible exact laws_rRow.mono _ _ _)
      | (with_reducible exact spec_DrawJoinRows.mono _ _)
      | (with_reducible exact spec_DrawMergeRow.mono _ _)
      | (with_reducible exact spec_DrawParseRow.mono _ _)
      | (with_reducible exact spec_DrawRowText.mono _ _)
      | (with_reducible exact spec_DrawShiftRow.mono _ _)
      | (with_reducible exact spec_JoinRows.mono _ _ _)
      | (with_reducible exact spec_MergeRow.mono _ _)
      | (with_reducible exact spec_ParseRow.mono _ _)
      | (with_reducible exact spec_RowText.mono _ _)
      | (with_reducible exact spec_ShiftRow.mono _ _ _)
      | (with_reducible exact LeO.refl _)
      | (with_reducible exact LeO.none _)
      | (with_reducible refine LeO.ite ?_ ?_)
      | (with_reducible refine LeO.bind ?_ (fun _ => ?_))
      | exact ih0 _ _ _ _ _ _
      | exact ih1 _ _ _ _ _ _ _ _ _
      | exact ih2 _ _ _ _ _ _ _ _ _ _ _ _ _
      | exact ih3 _ _ _ _ _ _ _ _ _ _ _ _ _ _ _ _
      | exact ih4 _ _ _ _ _ _ _ _ _ _ _ _
      | exact ih5 _ _ _ _ _ _ _ _ _ _ _ _
      | exact ih6 _ _ _ _ _ _ _ _
      | exact ih7 _ _ _ _
      | exact ih8 _ _ _ _
      | exact ih9 _ _ _ _ _ _ _ _ _ _
      | exact ih10 _ _ _ _ _ _ _ _ _ _
      | exact impl_JoinRows.mono _ _ _
      | exact impl_MergeRow.mono _ _
      | exact impl_MomentAbout.mono _ _ _
      | exact impl_ParseRow.mono _ _
      | exact impl_RowText.mono _ _
      | exact impl_ShiftRow.mono _ _ _
      | exact impl_TipSide.mono _ _ _ _
      | exact impl_WeightOf.mono _ _
      | exact laws_rRow.mono _ _ _
      | exact spec_DrawJoinRows.mono _ _
      | exact spec_DrawMergeRow.mono _ _
      | exact spec_DrawParseRow.mono _ _
      | exact spec_DrawRowText.mono _ _
      | exact spec_DrawShiftRow.mono _ _
      | exact spec_JoinRows.mono _ _ _
      | exact spec_MergeRow.mono _ _
      | exact spec_ParseRow.mono _ _
      | exact spec_RowText.mono _ _
      | exact spec_ShiftRow.mono _ _ _
      | exact LeO.none _
      | refine LeO.ite ?_ ?_
      | refine LeO.bind ?_ (fun _ => ?_)
theorem laws_FnRows.mono : ∀ a0 k, LeO (laws_FnRows.f k a0) (laws_FnRows.f (k + 1) a0) := by
  intro a0 k
  obtain ⟨ih0, ih1, ih2, ih3, ih4, ih5, ih6, ih7, ih8, ih9, ih10⟩ := laws_FnRows.mono_l k
  unfold laws_FnRows.f
  repeat' first
      | (with_reducible exact ih0 _ _ _ _ _ _)
      | (with_reducible exact ih1 _ _ _ _ _ _ _ _ _)
      | (with_reducible exact ih2 _ _ _ _ _ _ _ _ _ _ _ _ _)
      | (with_reducible exact ih3 _ _ _ _ _ _ _ _ _ _ _ _ _ _ _ _)
      | (with_reducible exact ih4 _ _ _ _ _ _ _ _ _ _ _ _)
      | (with_reducible exact ih5 _ _ _ _ _ _ _ _ _ _ _ _)
      | (with_reducible exact ih6 _ _ _ _ _ _ _ _)
      | (with_reducible exact ih7 _ _ _ _)
      | (with_reducible exact ih8 _ _ _ _)
      | (with_reducible exact ih9 _ _ _ _ _ _ _ _ _ _)
      | (with_reducible exact ih10 _ _ _ _ _ _ _ _ _ _)
      | (with_reducible exact impl_JoinRows.mono _ _ _)
      | (with_reducible exact impl_MergeRow.mono _ _)
      | (with_reducible exact impl_MomentAbout.mono _ _ _)
      | (with_reducible exact impl_ParseRow.mono _ _)
      | (with_reducible exact impl_RowText.mono _ _)
      | (with_reducible exact impl_ShiftRow.mono _ _ _)
      | (with_reducible exact impl_TipSide.mono _ _ _ _)
      | (with_reducible exact impl_WeightOf.mono _ _)
      | (with_reducible exact laws_rRow.mono _ _ _)
      | (with_reducible exact spec_DrawJoinRows.mono _ _)
      | (with_reducible exact spec_DrawMergeRow.mono _ _)
      | (with_reducible exact spec_DrawParseRow.mono _ _)
      | (with_reducible exact spec_DrawRowText.mono _ _)
      | (with_reducible exact spec_DrawShiftRow.mono _ _)
      | (with_reducible exact spec_JoinRows.mono _ _ _)
      | (with_reducible exact spec_MergeRow.mono _ _)
      | (with_reducible exact spec_ParseRow.mono _ _)
      | (with_reducible exact spec_RowText.mono _ _)
      | (with_reducible exact spec_ShiftRow.mono _ _ _)
      | (with_reducible exact LeO.refl _)
      | (with_reducible exact LeO.none _)
      | (with_reducible refine LeO.ite ?_ ?_)
      | (with_reducible refine LeO.bind ?_ (fun _ => ?_))
      | exact ih0 _ _ _ _ _ _
      | exact ih1 _ _ _ _ _ _ _ _ _
      | exact ih2 _ _ _ _ _ _ _ _ _ _ _ _ _
      | exact ih3 _ _ _ _ _ _ _ _ _ _ _ _ _ _ _ _
      | exact ih4 _ _ _ _ _ _ _ _ _ _ _ _
      | exact ih5 _ _ _ _ _ _ _ _ _ _ _ _
      | exact ih6 _ _ _ _ _ _ _ _
      | exact ih7 _ _ _ _
      | exact ih8 _ _ _ _
      | exact ih9 _ _ _ _ _ _ _ _ _ _
      | exact ih10 _ _ _ _ _ _ _ _ _ _
      | exact impl_JoinRows.mono _ _ _
      | exact impl_MergeRow.mono _ _
      | exact impl_MomentAbout.mono _ _ _
      | exact impl_ParseRow.mono _ _
      | exact impl_RowText.mono _ _
      | exact impl_ShiftRow.mono _ _ _
      | exact impl_TipSide.mono _ _ _ _
      | exact impl_WeightOf.mono _ _
      | exact laws_rRow.mono _ _ _
      | exact spec_DrawJoinRows.mono _ _
      | exact spec_DrawMergeRow.mono _ _
      | exact spec_DrawParseRow.mono _ _
      | exact spec_DrawRowText.mono _ _
      | exact spec_DrawShiftRow.mono _ _
      | exact spec_JoinRows.mono _ _ _
      | exact spec_MergeRow.mono _ _
      | exact spec_ParseRow.mono _ _
      | exact spec_RowText.mono _ _
      | exact spec_ShiftRow.mono _ _ _
      | exact LeO.none _
      | refine LeO.ite ?_ ?_
      | refine LeO.bind ?_ (fun _ => ?_)
theorem laws_FnRows.j0_bad {r : Bool} : ∀ (k : Nat) {y0 y1 y2 y3 y4}, laws_FnRows.j0 k y0 y1 y2 y3 y4 true = some r → r = true → False := by
  intro k y0 y1 y2 y3 y4 h hr
  subst hr
  cases k with
  | zero => simp [laws_FnRows.j0] at h
  | succ k => simp [laws_FnRows.j0] at h
theorem laws_FnRows.j1_bad {r : Bool} : ∀ (k : Nat) {y0 y1 y2 y3 y4 y5 y6 y7}, laws_FnRows.j1 k y0 y1 y2 y3 y4 y5 y6 y7 true = some r → r = true → False := by
  intro k y0 y1 y2 y3 y4 y5 y6 y7 h hr
  subst hr
  cases k with
  | zero => simp [laws_FnRows.j1] at h
  | succ k => simp [laws_FnRows.j1] at h
theorem laws_FnRows.j2_bad {r : Bool} : ∀ (k : Nat) {y0 y1 y2 y3 y4 y5 y6 y7 y8 y9 y10 y11}, laws_FnRows.j2 k y0 y1 y2 y3 y4 y5 y6 y7 y8 y9 y10 y11 true = some r → r = true → False := by
  intro k y0 y1 y2 y3 y4 y5 y6 y7 y8 y9 y10 y11 h hr
  subst hr
  cases k with
  | zero => simp [laws_FnRows.j2] at h
  | succ k => simp [laws_FnRows.j2] at h
theorem laws_FnRows.j3_bad {r : Bool} : ∀ (k : Nat) {y0 y1 y2 y3 y4 y5 y6 y7 y8 y9 y10 y11 y12 y13 y14}, laws_FnRows.j3 k y0 y1 y2 y3 y4 y5 y6 y7 y8 y9 y10 y11 y12 y13 y14 true = some r → r = true → False := by
  intro k y0 y1 y2 y3 y4 y5 y6 y7 y8 y9 y10 y11 y12 y13 y14 h hr
  subst hr
  cases k with
  | zero => simp [laws_FnRows.j3] at h
  | succ k => simp [laws_FnRows.j3] at h
theorem laws_FnRows.j5_bad {r : Bool} : ∀ (k : Nat) {y0 y1 y2 y3 y4 y5 y6 y7 y8 y9 y10}, laws_FnRows.j5 k y0 y1 y2 y3 y4 y5 y6 y7 y8 y9 y10 true = some r → r = true → False := by
  intro k y0 y1 y2 y3 y4 y5 y6 y7 y8 y9 y10 h hr
  subst hr
  cases k with
  | zero => simp [laws_FnRows.j5] at h
  | succ k => simp [laws_FnRows.j5] at h
theorem laws_FnRows.j6_bad {r : Bool} : ∀ (k : Nat) {y0 y1 y2 y3 y4 y5 y6 y7 y8}, laws_FnRows.j6 k y0 y1 y2 y3 y4 y5 y6 y7 y8 true = some r → r = true → False := by
  intro k y0 y1 y2 y3 y4 y5 y6 y7 y8 h hr
  subst hr
  cases k with
  | zero => simp [laws_FnRows.j6] at h
  | succ k => simp [laws_FnRows.j6] at h
def laws_FnRows.Pure : Prop := ∀ (l0 : List Int), (l0.length ≤ maxLen ∧ ∀ y0 ∈ l0, (Lit.int .u8 y0).wf = true) → ∃ k, laws_FnRows.f k l0 = some true
end Go.Proofs.YthgfndbbbhbkeaaGreatDoor.PFnRows
