-- Words of the kit's print, cut down by wip/cutwords.py of this repo to what this seat's claims name.
import Derived.Test.YthgfndbbbhbkeaaGreatDoorWInv
import Derived.Test.YthgfndbbbhbkeaaGreatDoorWFootNe
namespace Go.Proofs.YthgfndbbbhbkeaaGreatDoorW.PrintWords
open Go.RowKit
end Go.Proofs.YthgfndbbbhbkeaaGreatDoorW.PrintWords
namespace Go.Proofs.YthgfndbbbhbkeaaGreatDoorW.PrintLast
section
variable {ops : Array Oper} {a : Act} {o og : Oper} {g : Nat} {t : Tmp} {u : Bool}
end
end Go.Proofs.YthgfndbbbhbkeaaGreatDoorW.PrintLast
