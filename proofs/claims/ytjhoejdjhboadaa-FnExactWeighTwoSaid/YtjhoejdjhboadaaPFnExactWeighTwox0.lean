-- Made by wip/pr.py of this repo over the kit's print (some contracts by hand).
import Derived.Test.YtjhoejdjhboadaaProg
import Derived.Below
import Derived.Deep.Draws
import Derived.Deep.AppendLies
import Derived.Maps.AppendAt
import Derived.OwnWalk
import Derived.Laws.BytesArg
import Derived.Laws.MakeOwn
import Derived.Laws.OwnMore
import Derived.Deep.OwnRows
import Derived.Tactics
import Derived.Lib.ConvBytes
import Derived.Laws.Slices
import Derived.WalkKit
import Derived.KernelRfl
import Derived.RowKit3
import Derived.Deep.LoopGhost
import Derived.Deep.QuietTactic
import Derived.BigQuiet
import Derived.WideLaws
import Derived.Deep.DeepCutAuto
import Derived.Deep.CutBlock
import Derived.Deep.RegionHeld3
import Derived.Laws.Rows
import Derived.Lib.AppendStr
import Derived.ArgAppend
import Derived.Laws.IdiomCopy
import Derived.OrdersHeld
import Derived.Laws.BitsLemmas
import Derived.RowKit
import Derived.Lib.SlicesCompact
import Derived.Shelf.Abstract
import Derived.Sort.Grow
import Derived.Test.YtjhoejdjhboadaaShelf
import Derived.ChangeKeysEq
import Derived.Test.YtjhoejdjhboadaaFnv
import Derived.Test.YtjhoejdjhboadaaWWords
import Derived.Test.YtjhoejdjhboadaaWLast
import Derived.Test.YtjhoejdjhboadaaWTab
import Derived.Test.YtjhoejdjhboadaaWFour
import Derived.Test.YtjhoejdjhboadaaWQPut
import Derived.Test.YtjhoejdjhboadaaWApart
import Derived.Test.YtjhoejdjhboadaaWArr
import Derived.Test.YtjhoejdjhboadaaWZeros
import Derived.Test.YtjhoejdjhboadaaWFoot
import Derived.Test.YtjhoejdjhboadaaWKept
import Derived.Test.YtjhoejdjhboadaaWShare
import Derived.Test.YtjhoejdjhboadaaWN
import Derived.Test.YtjhoejdjhboadaaWFootNe
import Derived.Test.YtjhoejdjhboadaaWAt
import Derived.Test.YtjhoejdjhboadaaWEqStruct
import Derived.Test.YtjhoejdjhboadaaWRepsOne
import Derived.Test.YtjhoejdjhboadaaWInv
import Derived.Test.YtjhoejdjhboadaaWInvWords
import Derived.Test.YtjhoejdjhboadaaWGuard
import Derived.Test.YtjhoejdjhboadaaWNEv
import Derived.Test.YtjhoejdjhboadaaWMore
namespace Go.Proofs.Ytjhoejdjhboadaa.PFnExactWeighTwo
open Go.RowKit Go.Proofs.YtjhoejdjhboadaaW.PrintWords Go.Proofs.YtjhoejdjhboadaaW.PrintLast Go.Proofs.YtjhoejdjhboadaaW.PrintMore
attribute [local go_sem] max2_int min2_int max_two min_two max_three min_three max_four min_four   -- for this text's walks alone
set_option linter.unusedVariables false
set_option linter.unusedSimpArgs false



def errW : Option Int → Value
  | none => .nilIface
  | some c => .iface 0 (.int .i64 c)
theorem errW_none : errW none = .nilIface := rfl
theorem errW_some (c : Int) : errW (some c) = .iface 0 (.int .i64 c) := rfl

theorem info3 : (Try.prog.info? 3).map (fun i => (i.zero, i.size, i.bytes)) = some (some (.int .i64 0), 1, 8) := by kernel_rfl
theorem info4 : (Try.prog.info? 4).map (fun i => (i.zero, i.size, i.bytes)) = some (some (.bool false), 1, 1) := by kernel_rfl
theorem info22 : (Try.prog.info? 22).map (fun i => (i.zero, i.size, i.bytes)) = some (some (.slice none 0 0), 1, 24) := by kernel_rfl
-- the values' own types

end Go.Proofs.Ytjhoejdjhboadaa.PFnExactWeighTwo
