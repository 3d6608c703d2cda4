-- Made by wip/pr.py of this repo over the kit's print (some contracts by hand).
import Derived.Test.YthgfndbbbhbkeaaDoorPFnSplitJoinx0
import Derived.Test.YthgfndbbbhbkeaaDoorPFnSplitJoinx1
import Derived.Test.YthgfndbbbhbkeaaDoorPFnSplitJoinx2
namespace Go.Proofs.YthgfndbbbhbkeaaDoor.PFnSplitJoin
open Go.RowKit Go.Proofs.YthgfndbbbhbkeaaDoorW.PrintWords Go.Proofs.YthgfndbbbhbkeaaDoorW.PrintLast Go.Proofs.YthgfndbbbhbkeaaDoorW.PrintMore
attribute [local go_sem] max2_int min2_int max_two min_two max_three min_three max_four min_four   -- for this text's walks alone
set_option linter.unusedVariables false
set_option linter.unusedSimpArgs false

/-! ### laws_FnSplitJoin: function 3 -/
def laws_FnSplitJoin.j0 : Nat → ByteArray → ByteArray → List ByteArray → Bool → Bool → Option (Bool)
  | 0, _, _, _, _, _ => none
  | k + 1, x3, x4, x5, x6, x78 => if x78 = true then (some false) else (if (x4.size : Int) = 1 then ((impl_JoinStrings.f k x5 x4).bind fun bt206 => (if x6 = true then (if bt206.2 = true then (some (bt206.1.toList == x3.toList)) else (some false)) else (some false))) else (if x6 = true then (some false) else (some ((x5.length : Int) == 0))))
def laws_FnSplitJoin.f (k : Nat) (l0 : List Int) : Option (Bool) := (laws_vBig.f l0).bind fun t185 => (if t185 = true then (some true) else ((spec_DrawSplitString.f l0).bind fun bt186 => ((impl_SplitString.f bt186.1 bt186.2).bind fun bt188 => ((spec_DrawJoinStrings.f k l0).bind fun bt192 => ((impl_JoinStrings.f k bt192.1 bt192.2).bind fun bt196 => ((spec_JoinStrings.f k bt192.1 bt192.2).bind fun bt198 => ((spec_DrawLessString.f l0).bind fun bt200 => (if bt196.1.toList = bt198.1.toList then (if (bt196.2 != bt198.2) = true then (laws_FnSplitJoin.j0 k bt186.1 bt186.2 bt188.1 bt188.2 true) else ((impl_LessString.f bt200.1 bt200.2).bind fun t202 => ((spec_LessString.f bt200.1 bt200.2).bind fun t203 => (if (t202 != t203) = true then (laws_FnSplitJoin.j0 k bt186.1 bt186.2 bt188.1 bt188.2 true) else ((impl_LessString.f bt200.1 bt200.2).bind fun t204 => (if t204 = true then ((impl_LessString.f bt200.2 bt200.1).bind fun t205 => (laws_FnSplitJoin.j0 k bt186.1 bt186.2 bt188.1 bt188.2 t205)) else (laws_FnSplitJoin.j0 k bt186.1 bt186.2 bt188.1 bt188.2 false))))))) else (laws_FnSplitJoin.j0 k bt186.1 bt186.2 bt188.1 bt188.2 true)))))))))
theorem laws_FnSplitJoin.mono_l : ∀ k, (∀ y0 y1 y2 y3 y4, LeO (laws_FnSplitJoin.j0 k y0 y1 y2 y3 y4) (laws_FnSplitJoin.j0 (k + 1) y0 y1 y2 y3 y4))
  | 0 => fun _ _ _ _ _ r h => by simp [laws_FnSplitJoin.j0] at h
  | k + 1 => by
    have ih0 := laws_FnSplitJoin.mono_l k
    · intro y0 y1 y2 y3 y4
      unfold laws_FnSplitJoin.j0
      repeat' first
      | (with_reducible exact ih0 _ _ _ _ _)
      | (with_reducible exact impl_JoinStrings.mono _ _ _)
      | (with_reducible exact spec_DrawJoinStrings.mono _ _)
      | (with_reducible exact spec_JoinStrings.mono _ _ _)
      | (with_reducible exact LeO.refl _)
      | (with_reducible exact LeO.none _)
      | (with_reducible refine LeO.ite ?_ ?_)
      | (with_reducible refine LeO.bind ?_ (fun _ => ?_))
      | exact ih0 _ _ _ _ _
      | exact impl_JoinStrings.mono _ _ _
      | exact spec_DrawJoinStrings.mono _ _
      | exact spec_JoinStrings.mono _ _ _
      | exact LeO.none _
      | refine LeO.ite ?_ ?_
      | refine LeO.bind ?_ (fun _ => ?_)
theorem laws_FnSplitJoin.mono : ∀ a0 k, LeO (laws_FnSplitJoin.f k a0) (laws_FnSplitJoin.f (k + 1) a0) := by
  intro a0 k
  have ih0 := laws_FnSplitJoin.mono_l k
  unfold laws_FnSplitJoin.f
  repeat' first
      | (with_reducible exact ih0 _ _ _ _ _)
      | (with_reducible exact impl_JoinStrings.mono _ _ _)
      | (with_reducible exact spec_DrawJoinStrings.mono _ _)
      | (with_reducible exact spec_JoinStrings.mono _ _ _)
      | (with_reducible exact LeO.refl _)
      | (with_reducible exact LeO.none _)
      | (with_reducible refine LeO.ite ?_ ?_)
      | (with_reducible refine LeO.bind ?_ (fun _ => ?_))
      | exact ih0 _ _ _ _ _
      | exact impl_JoinStrings.mono _ _ _
      | exact spec_DrawJoinStrings.mono _ _
      | exact spec_JoinStrings.mono _ _ _
      | exact LeO.none _
      | refine LeO.ite ?_ ?_
      | refine LeO.bind ?_ (fun _ => ?_)
def laws_FnSplitJoin.Pure : Prop := ∀ (l0 : List Int), (l0.length ≤ maxLen ∧ ∀ y0 ∈ l0, (Lit.int .u8 y0).wf = true) → ∃ k, laws_FnSplitJoin.f k l0 = some true
end Go.Proofs.YthgfndbbbhbkeaaDoor.PFnSplitJoin
