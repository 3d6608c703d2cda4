/- A call through a function value that lies in a slot, as one step of a region that draws. -/
import Derived.Test.YtgnmomdgfamhnaaWWords
import Derived.Test.YtgnmomdgfamhnaaWLast
import Derived.Test.YtgnmomdgfamhnaaWMore
import Derived.Shelf.Abstract
namespace Go.Proofs.Ytgnmomdgfamhnaa.Fnv
open Go.RowKit Go.Proofs.YtgnmomdgfamhnaaW.PrintWords Go.Proofs.YtgnmomdgfamhnaaW.PrintLast
section
variable {P : Program} {ops : Array Oper} {Q : Exit → Act → World → Prop}
theorem goesF_ {oi : Oper} {N : Option Tmp} {a : Act} {w : World} {K : Act → World → Prop} {f : FuncId} {x : Operand} {lb : Array Value} {az : Array Operand} {ts : Array TypeId} (he : Enters P f) (args : Array Value)
    (hw : Region.wanted oi (yielded ops a.tmps) = true) (hN : oi.dst = N) (hop : oi.op = .call { callee := .value x, args := az, argTypes := ts }) (hx : a.eval x = .func (.func f) #[] lb) (hargs : az.map a.eval = args)
    (h : Calls P f (args ++ lb) w fun e w' => ∃ v, e = .returned v ∧ K (a.put N v) w') : if Region.wanted oi (yielded ops a.tmps) = true then Oper.wp P oi a w K Q else K (a.put N undef) w := by
  refine call_ f (args ++ lb) hw hN ?_ h
  have he' := he (args ++ lb) w
  unfold execOp
  simp [hop, resolve, Deferred.ofValue, invoke, hx, hargs, he']
end
end Go.Proofs.Ytgnmomdgfamhnaa.Fnv
