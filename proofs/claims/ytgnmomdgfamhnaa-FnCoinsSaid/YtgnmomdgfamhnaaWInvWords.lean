-- Words of the kit's print, cut down by wip/cutwords.py of this repo to what this seat's claims name.
import Derived.Test.YtgnmomdgfamhnaaWInv
import Derived.Test.YtgnmomdgfamhnaaWFootNe
namespace Go.Proofs.YtgnmomdgfamhnaaW.PrintWords
open Go.RowKit
end Go.Proofs.YtgnmomdgfamhnaaW.PrintWords
namespace Go.Proofs.YtgnmomdgfamhnaaW.PrintLast
section
variable {ops : Array Oper} {a : Act} {o og : Oper} {g : Nat} {t : Tmp} {u : Bool}
end
end Go.Proofs.YtgnmomdgfamhnaaW.PrintLast
