-- Words of the kit's print, cut down by wip/cutwords.py of this repo to what this seat's claims name.
import Derived.Test.YtgnmomdgfamhnaaWTab
/-! ### 56. Four, five, six operations that may come up next, in any order -/
namespace Go.Proofs.YtgnmomdgfamhnaaW.PrintLast
section
variable {P : Program} {ops : Array Oper} {Q : Exit → Act → World → Prop} {md : Region.Mode} {S : World → Prop} {ds : List Nat} {T : Bool × List (List Nat × List Nat)}
end
end Go.Proofs.YtgnmomdgfamhnaaW.PrintLast
