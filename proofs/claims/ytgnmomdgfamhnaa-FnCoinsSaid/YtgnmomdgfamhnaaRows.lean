/-
  No cell of these rows narrows 'for every input' (looked for: loops, veiled, ifaces, maps, wideKeys, modest, calm, conditions, laid).
  DERIVED. THE GIVEN ROWS OF THIS SEAT. 3 by the template 'for every input the law returns true; each argument reads behind the call as it read before'; 0 by the template 'total and deterministic' (their statements: YtgnmomdgfamhnaaTotals.lean).
  GIVEN WITH THE SEED: the statements are not yours to turn. If you find one false, say at which input.
  Laid BY PROGRAM, IN A SANDBOX (cutbox-rows.mjs): the forced cells as the released guide's own fill.sh prints them over the translation 96ec5879fac4e624… (all of the seat's roots in one cut). By AI agents, Wed Nov 11 2026. No macro, syntax, notation, axiom, sorry.
-/
import Derived.Test.YtgnmomdgfamhnaaChecked
import GoSem.Claim
import GoSem.ClaimJoined
import GoSem.ClaimMapViews
import Derived.JoinedTies
import Derived.KernelRfl
namespace Go.Proofs.Ytgnmomdgfamhnaa
/- THE CELL 'sum', in the pinned program and in every row, IS THE sha256 OF THE DUMP (.gsa) THAT YtgnmomdgfamhnaaProg.lean LOADS. Nothing in Lean hashes anything: it is a label: what it is worth is what the hold of that sum in a sandbox is worth. -/
noncomputable def Try.pinned : Pinned := { name := "ytgnmomdgfamhnaa", sum := "96ec5879fac4e624f086f4f4ee005e94b64a176265ca934de49b378cb36a8702", checked := Try.checked }
namespace Rows
def none {H : Type} : Left H := { results := [], args := [] }

/-- 'laws.FnCoins': WHATEVER THE INPUT: true; the input reads as it did. -/
def fnCoinsSpec : ChangeSpec := { name := "fnCoins", fn := fun _ => fun
  | [d] => { results := [.lit (.bool true)], args := [d] }
  | _ => none }
def fnCoinsRow : OpenClaim := { program := "ytgnmomdgfamhnaa", sum := "96ec5879fac4e624f086f4f4ee005e94b64a176265ca934de49b378cb36a8702", func := "loop.example/g01159/laws.FnCoins", spec := "fnCoins", unfollowed := true, recurses := true, apart := false }
def FnCoinsSaid : Prop := fnCoinsRow.holds Try.pinned (OpenSpec.ofChange fnCoinsSpec)

/-- ITS FALSE NEIGHBOUR: 'it returns false'. Refute it at one input. -/
def fnCoinsWrong : ChangeSpec := { name := "fnCoins", fn := fun _ => fun
  | [d] => { results := [.lit (.bool false)], args := [d] }
  | _ => none }
def FnCoinsWrongFalsely : Prop := fnCoinsRow.holds Try.pinned (OpenSpec.ofChange fnCoinsWrong)

/-- 'laws.FnKits': WHATEVER THE INPUT: true; the input reads as it did. -/
def fnKitsSpec : ChangeSpec := { name := "fnKits", fn := fun _ => fun
  | [d] => { results := [.lit (.bool true)], args := [d] }
  | _ => none }
def fnKitsRow : OpenClaim := { program := "ytgnmomdgfamhnaa", sum := "96ec5879fac4e624f086f4f4ee005e94b64a176265ca934de49b378cb36a8702", func := "loop.example/g01159/laws.FnKits", spec := "fnKits", unfollowed := true, recurses := true, apart := false }
def FnKitsSaid : Prop := fnKitsRow.holds Try.pinned (OpenSpec.ofChange fnKitsSpec)

/-- ITS FALSE NEIGHBOUR: 'it returns false'. Refute it at one input. -/
def fnKitsWrong : ChangeSpec := { name := "fnKits", fn := fun _ => fun
  | [d] => { results := [.lit (.bool false)], args := [d] }
  | _ => none }
def FnKitsWrongFalsely : Prop := fnKitsRow.holds Try.pinned (OpenSpec.ofChange fnKitsWrong)

/-- 'laws.FnExactHeavyPlan': WHATEVER THE INPUT: true; the input reads as it did. -/
def fnExactHeavyPlanSpec : ChangeSpec := { name := "fnExactHeavyPlan", fn := fun _ => fun
  | [d] => { results := [.lit (.bool true)], args := [d] }
  | _ => none }
def fnExactHeavyPlanRow : OpenClaim := { program := "ytgnmomdgfamhnaa", sum := "96ec5879fac4e624f086f4f4ee005e94b64a176265ca934de49b378cb36a8702", func := "loop.example/g01159/laws.FnExactHeavyPlan", spec := "fnExactHeavyPlan", unfollowed := true, recurses := true, apart := false }
def FnExactHeavyPlanSaid : Prop := fnExactHeavyPlanRow.holds Try.pinned (OpenSpec.ofChange fnExactHeavyPlanSpec)

/-- ITS FALSE NEIGHBOUR: 'it returns false'. Refute it at one input. -/
def fnExactHeavyPlanWrong : ChangeSpec := { name := "fnExactHeavyPlan", fn := fun _ => fun
  | [d] => { results := [.lit (.bool false)], args := [d] }
  | _ => none }
def FnExactHeavyPlanWrongFalsely : Prop := fnExactHeavyPlanRow.holds Try.pinned (OpenSpec.ofChange fnExactHeavyPlanWrong)

/- THE SECOND FORM. 'bulk': how many values and letters a reading holds, each counted each time it is reached (what is shared counts as often as it is met; a slice's spare places count too). A statement '..UptoSaid' is the law's where the arguments, and the package variables that the reading takes, are together of bulk at most 1048576: NARROWER than '..Said'. Prove '..Said' where nothing that the law and all that it calls make is longer than what came in: it says more and counts as full. Else prove '..UptoSaid'. A law counts once. -/
mutual
def uptoBulk {H : Type} : DataW H → Nat
  | .lit (.string bytes) => bytes.length + 1
  | .lit _ => 1
  | .nil => 1
  | .ptr d => uptoBulk d + 1
  | .slice elems spare => uptoBulkAll elems + uptoBulkAll spare + 1
  | .agg parts => uptoBulkAll parts + 1
  | .iface _ d => uptoBulk d + 1
  | .map entries => uptoBulkEntries entries + 1
  | .held _ => 1
def uptoBulkAll {H : Type} : List (DataW H) → Nat
  | [] => 0
  | d :: r => uptoBulk d + uptoBulkAll r
def uptoBulkEntries {H : Type} : List (Lit × DataW H) → Nat
  | [] => 0
  | x :: r => uptoBulkEntry x + uptoBulkEntries r
def uptoBulkEntry {H : Type} : Lit × DataW H → Nat
  | (.string bytes, d) => bytes.length + uptoBulk d + 1
  | (_, d) => uptoBulk d + 1
 end
def uptoSmall : (H : Type) → List (DataW H) → Bool := fun _ ds => decide (uptoBulkAll ds ≤ 1048576)
def OpenSpec.upto (s : _root_.Go.ChangeSpec) : _root_.Go.OpenSpec := { _root_.Go.OpenSpec.ofChange s with cond := some uptoSmall }

/-- 'laws.FnCoins', WHERE WHAT IT READS IS OF BULK AT MOST 1048576: true; the input reads as it did. -/
def fnCoinsUptoRow : OpenClaim := { program := "ytgnmomdgfamhnaa", sum := "96ec5879fac4e624f086f4f4ee005e94b64a176265ca934de49b378cb36a8702", func := "loop.example/g01159/laws.FnCoins", spec := "fnCoins", unfollowed := true, recurses := true, apart := false, narrowed := true }
def FnCoinsUptoSaid : Prop := fnCoinsUptoRow.holds Try.pinned (OpenSpec.upto fnCoinsSpec)

/-- 'laws.FnKits', WHERE WHAT IT READS IS OF BULK AT MOST 1048576: true; the input reads as it did. -/
def fnKitsUptoRow : OpenClaim := { program := "ytgnmomdgfamhnaa", sum := "96ec5879fac4e624f086f4f4ee005e94b64a176265ca934de49b378cb36a8702", func := "loop.example/g01159/laws.FnKits", spec := "fnKits", unfollowed := true, recurses := true, apart := false, narrowed := true }
def FnKitsUptoSaid : Prop := fnKitsUptoRow.holds Try.pinned (OpenSpec.upto fnKitsSpec)

/-- 'laws.FnExactHeavyPlan', WHERE WHAT IT READS IS OF BULK AT MOST 1048576: true; the input reads as it did. -/
def fnExactHeavyPlanUptoRow : OpenClaim := { program := "ytgnmomdgfamhnaa", sum := "96ec5879fac4e624f086f4f4ee005e94b64a176265ca934de49b378cb36a8702", func := "loop.example/g01159/laws.FnExactHeavyPlan", spec := "fnExactHeavyPlan", unfollowed := true, recurses := true, apart := false, narrowed := true }
def FnExactHeavyPlanUptoSaid : Prop := fnExactHeavyPlanUptoRow.holds Try.pinned (OpenSpec.upto fnExactHeavyPlanSpec)

end Rows
end Go.Proofs.Ytgnmomdgfamhnaa
