-- Made by wip/pr.py of this repo over the kit's print (some contracts by hand).
import Derived.Test.YthgfndbbbhbkeaaDoorProg
import Derived.Below
import Derived.Deep.Draws
import Derived.Deep.AppendLies
import Derived.Maps.AppendAt
import Derived.OwnWalk
import Derived.Laws.BytesArg
import Derived.Laws.MakeOwn
import Derived.Laws.OwnMore
import Derived.Deep.OwnRows
import Derived.Tactics
import Derived.Lib.ConvBytes
import Derived.Laws.Slices
import Derived.WalkKit
import Derived.KernelRfl
import Derived.RowKit3
import Derived.Deep.LoopGhost
import Derived.Deep.QuietTactic
import Derived.BigQuiet
import Derived.WideLaws
import Derived.Deep.DeepCutAuto
import Derived.Deep.CutBlock
import Derived.Deep.RegionHeld3
import Derived.Laws.Rows
import Derived.Lib.AppendStr
import Derived.ArgAppend
import Derived.Laws.IdiomCopy
import Derived.OrdersHeld
import Derived.Laws.BitsLemmas
import Derived.RowKit
import Derived.Lib.AppendIntMem
import Derived.Lib.AtoiAll
import Derived.Lib.AtoiErrMem
import Derived.Lib.ItoaLen
import Derived.Lib.LaidTab
import Derived.Lib.SplitLaws
import Derived.Sort.Grow
import Derived.Test.YthgfndbbbhbkeaaDoorShelf
import Derived.ChangeKeysEq
import Derived.Test.YthgfndbbbhbkeaaDoorFnv
import Derived.Test.YthgfndbbbhbkeaaDoorMrk
import Derived.Test.YthgfndbbbhbkeaaDoorWWords
import Derived.Test.YthgfndbbbhbkeaaDoorWLast
import Derived.Test.YthgfndbbbhbkeaaDoorWTab
import Derived.Test.YthgfndbbbhbkeaaDoorWFour
import Derived.Test.YthgfndbbbhbkeaaDoorWQPut
import Derived.Test.YthgfndbbbhbkeaaDoorWApart
import Derived.Test.YthgfndbbbhbkeaaDoorWArr
import Derived.Test.YthgfndbbbhbkeaaDoorWZeros
import Derived.Test.YthgfndbbbhbkeaaDoorWFoot
import Derived.Test.YthgfndbbbhbkeaaDoorWKept
import Derived.Test.YthgfndbbbhbkeaaDoorWShare
import Derived.Test.YthgfndbbbhbkeaaDoorWN
import Derived.Test.YthgfndbbbhbkeaaDoorWFootNe
import Derived.Test.YthgfndbbbhbkeaaDoorWAt
import Derived.Test.YthgfndbbbhbkeaaDoorWEqStruct
import Derived.Test.YthgfndbbbhbkeaaDoorWRepsOne
import Derived.Test.YthgfndbbbhbkeaaDoorWInv
import Derived.Test.YthgfndbbbhbkeaaDoorWInvWords
import Derived.Test.YthgfndbbbhbkeaaDoorWGuard
import Derived.Test.YthgfndbbbhbkeaaDoorWNEv
import Derived.Test.YthgfndbbbhbkeaaDoorWMore
namespace Go.Proofs.YthgfndbbbhbkeaaDoor.PFnStrings
open Go.RowKit Go.Proofs.YthgfndbbbhbkeaaDoorW.PrintWords Go.Proofs.YthgfndbbbhbkeaaDoorW.PrintLast Go.Proofs.YthgfndbbbhbkeaaDoorW.PrintMore
attribute [local go_sem] max2_int min2_int max_two min_two max_three min_three max_four min_four   -- for this text's walks alone
set_option linter.unusedVariables false
set_option linter.unusedSimpArgs false



def errW : Option Int → Value
  | none => .nilIface
  | some c => .iface 0 (.int .i64 c)
theorem errW_none : errW none = .nilIface := rfl
theorem errW_some (c : Int) : errW (some c) = .iface 0 (.int .i64 c) := rfl

theorem info3 : (Tryd.prog.info? 3).map (fun i => (i.zero, i.size, i.bytes)) = some (some (.int .i64 0), 1, 8) := by kernel_rfl
theorem info5 : (Tryd.prog.info? 5).map (fun i => (i.zero, i.size, i.bytes)) = some (some (.int .u8 0), 1, 1) := by kernel_rfl
theorem info9 : (Tryd.prog.info? 9).map (fun i => (i.zero, i.size, i.bytes)) = some (some (.string ⟨#[]⟩), 1, 16) := by kernel_rfl
-- the values' own types

theorem tabs_var {P : Program} {w W : World} {name : String} {cs : Array Value} (h : w.var? P name = some cs) (hb : Below w.heap.size w W) : W.var? P name = some cs := by
  unfold World.var? at h ⊢
  obtain ⟨g, hg, h⟩ := Option.bind_eq_some_iff.1 h
  rw [hg]
  show (match W.heap[g]? with | some (.cells cs _ _) => some cs | _ => none) = some cs
  have hlt : g < w.heap.size := by
    rcases Nat.lt_or_ge g w.heap.size with h' | h'
    · exact h'
    · rw [Array.getElem?_eq_none h'] at h
      cases h
  rw [hb.block g hlt]
  exact h
/-- What the library's functions want of the world. -/
structure Tabs (w : World) : Prop where
  pow : Lib.TabIs Tryd.prog w "internal/strconv.uint64pow10" .u64 Lib.pow10Tab
  max : ∃ m : Int, w.cell? ⟨0, 0, none⟩ = some (.int .i64 m)
  syn : ∃ (tp : TypeId) (p : Value), w.var? Tryd.prog "strconv.ErrSyntax" = some #[.iface tp p]
  rng : ∃ (tp : TypeId) (p : Value), w.var? Tryd.prog "strconv.ErrRange" = some #[.iface tp p]
theorem Tabs.below {w W : World} (h : Tabs w) (hb : Below w.heap.size w W) : Tabs W := ⟨Lib.tabBelow_of_tabIs h.pow _ hb, let ⟨m, hm⟩ := h.max; ⟨m, (hb.cell (World.block_lt_of_cell? w _ hm)).trans hm⟩, let ⟨tp, p, hv⟩ := h.syn; ⟨tp, p, tabs_var hv hb⟩, let ⟨tp, p, hv⟩ := h.rng; ⟨tp, p, tabs_var hv hb⟩⟩
theorem Tabs.drewN {w : World} (h : Tabs w) (n : Nat) : Tabs (w.drewN n) := h.below (pw_below_drewN (Below.refl _ _) n)
theorem Tabs.drew {w : World} (h : Tabs w) : Tabs w.drew := h.below (below_drew (Below.refl _ _))
theorem Tabs.alloc {w : World} (h : Tabs w) (o : Obj) : Tabs (w.alloc o) := h.below (below_alloc (Below.refl _ _) o)

end Go.Proofs.YthgfndbbbhbkeaaDoor.PFnStrings
