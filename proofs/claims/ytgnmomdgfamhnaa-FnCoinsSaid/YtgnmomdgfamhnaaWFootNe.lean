-- Words of the kit's print, cut down by wip/cutwords.py of this repo to what this seat's claims name.
import Derived.Test.YtgnmomdgfamhnaaWN
/-! ### 52. A row that stays read whatever happens to a block (a set of blocks) doesn't lie there -/
namespace Go.Proofs.YtgnmomdgfamhnaaW.PrintWords
open Go.RowKit
namespace Kd
section
variable {α : Type} {d : Kd α} {W : World} {g n : Nat} {S ok : Nat → Prop} {A : Option Addr} {ad : Addr} {xs : List α}
end
end Kd
end Go.Proofs.YtgnmomdgfamhnaaW.PrintWords
