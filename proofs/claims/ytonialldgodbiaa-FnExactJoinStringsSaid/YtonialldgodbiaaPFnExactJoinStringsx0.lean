-- Made by wip/pr.py of this repo over the kit's print (some contracts by hand).
import Derived.Test.YtonialldgodbiaaProg
import Derived.Below
import Derived.Deep.Draws
import Derived.Deep.AppendLies
import Derived.Maps.AppendAt
import Derived.OwnWalk
import Derived.Laws.BytesArg
import Derived.Laws.MakeOwn
import Derived.Laws.OwnMore
import Derived.Deep.OwnRows
import Derived.Tactics
import Derived.Lib.ConvBytes
import Derived.Laws.Slices
import Derived.WalkKit
import Derived.KernelRfl
import Derived.RowKit3
import Derived.Deep.LoopGhost
import Derived.Deep.QuietTactic
import Derived.BigQuiet
import Derived.WideLaws
import Derived.Deep.DeepCutAuto
import Derived.Deep.CutBlock
import Derived.Deep.RegionHeld3
import Derived.Laws.Rows
import Derived.Lib.AppendStr
import Derived.ArgAppend
import Derived.Laws.IdiomCopy
import Derived.OrdersHeld
import Derived.Laws.BitsLemmas
import Derived.RowKit
import Derived.Lib.Join
import Derived.Lib.SplitLaws
import Derived.Test.YtonialldgodbiaaShelf
import Derived.ChangeKeysEq
import Derived.Test.YtonialldgodbiaaFnv
import Derived.Test.YtonialldgodbiaaWWords
import Derived.Test.YtonialldgodbiaaWLast
import Derived.Test.YtonialldgodbiaaWTab
import Derived.Test.YtonialldgodbiaaWFour
import Derived.Test.YtonialldgodbiaaWQPut
import Derived.Test.YtonialldgodbiaaWApart
import Derived.Test.YtonialldgodbiaaWArr
import Derived.Test.YtonialldgodbiaaWZeros
import Derived.Test.YtonialldgodbiaaWFoot
import Derived.Test.YtonialldgodbiaaWKept
import Derived.Test.YtonialldgodbiaaWShare
import Derived.Test.YtonialldgodbiaaWN
import Derived.Test.YtonialldgodbiaaWFootNe
import Derived.Test.YtonialldgodbiaaWAt
import Derived.Test.YtonialldgodbiaaWEqStruct
import Derived.Test.YtonialldgodbiaaWRepsOne
import Derived.Test.YtonialldgodbiaaWInv
import Derived.Test.YtonialldgodbiaaWInvWords
import Derived.Test.YtonialldgodbiaaWGuard
import Derived.Test.YtonialldgodbiaaWNEv
import Derived.Test.YtonialldgodbiaaWMore
namespace Go.Proofs.Ytonialldgodbiaa.PFnExactJoinStrings
open Go.RowKit Go.Proofs.YtonialldgodbiaaW.PrintWords Go.Proofs.YtonialldgodbiaaW.PrintLast Go.Proofs.YtonialldgodbiaaW.PrintMore
attribute [local go_sem] max2_int min2_int max_two min_two max_three min_three max_four min_four   -- for this text's walks alone
set_option linter.unusedVariables false
set_option linter.unusedSimpArgs false



def errW : Option Int → Value
  | none => .nilIface
  | some c => .iface 0 (.int .i64 c)
theorem errW_none : errW none = .nilIface := rfl
theorem errW_some (c : Int) : errW (some c) = .iface 0 (.int .i64 c) := rfl

theorem info9 : (Try.prog.info? 9).map (fun i => (i.zero, i.size, i.bytes)) = some (some (.string ⟨#[]⟩), 1, 16) := by kernel_rfl
-- the values' own types

end Go.Proofs.Ytonialldgodbiaa.PFnExactJoinStrings
