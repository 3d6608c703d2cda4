/-
  No cell of these rows narrows 'for every input' (looked for: loops, veiled, ifaces, maps, wideKeys, modest, calm, conditions, laid).
  DERIVED. THE GIVEN ROWS OF THIS SEAT. 2 by the template 'for every input the law returns true; each argument reads behind the call as it read before'; 0 by the template 'total and deterministic' (their statements: YtfjcnpoigndfjaaTotals.lean).
  GIVEN WITH THE SEED: the statements are not yours to turn. If you find one false, say at which input.
  Laid BY PROGRAM, IN A SANDBOX (cutbox-rows.mjs): the forced cells as the released guide's own fill.sh prints them over the translation c589cfe2f35c492c… (all of the seat's roots in one cut). By AI agents, Wed Nov 11 2026. No macro, syntax, notation, axiom, sorry.
-/
import Derived.Test.YtfjcnpoigndfjaaChecked
import GoSem.Claim
import GoSem.ClaimJoined
import GoSem.ClaimMapViews
import Derived.JoinedTies
import Derived.KernelRfl
namespace Go.Proofs.Ytfjcnpoigndfjaa
/- THE CELL 'sum', in the pinned program and in every row, IS THE sha256 OF THE DUMP (.gsa) THAT YtfjcnpoigndfjaaProg.lean LOADS. Nothing in Lean hashes anything: it is a label: what it is worth is what the hold of that sum in a sandbox is worth. -/
noncomputable def Try.pinned : Pinned := { name := "ytfjcnpoigndfjaa", sum := "c589cfe2f35c492c29757c75c18197ec03c8b57f4c91ed50f2fceb51d1741bb1", checked := Try.checked }
namespace Rows
def none {H : Type} : Left H := { results := [], args := [] }

/-- 'laws.FnCounters': WHATEVER THE INPUT: true; the input reads as it did. -/
def fnCountersSpec : ChangeSpec := { name := "fnCounters", fn := fun _ => fun
  | [d] => { results := [.lit (.bool true)], args := [d] }
  | _ => none }
def fnCountersRow : OpenClaim := { program := "ytfjcnpoigndfjaa", sum := "c589cfe2f35c492c29757c75c18197ec03c8b57f4c91ed50f2fceb51d1741bb1", func := "loop.example/g01159/laws.FnCounters", spec := "fnCounters", unfollowed := true, recurses := true, apart := false }
def FnCountersSaid : Prop := fnCountersRow.holds Try.pinned (OpenSpec.ofChange fnCountersSpec)

/-- ITS FALSE NEIGHBOUR: 'it returns false'. Refute it at one input. -/
def fnCountersWrong : ChangeSpec := { name := "fnCounters", fn := fun _ => fun
  | [d] => { results := [.lit (.bool false)], args := [d] }
  | _ => none }
def FnCountersWrongFalsely : Prop := fnCountersRow.holds Try.pinned (OpenSpec.ofChange fnCountersWrong)

/-- 'laws.FnCentres': WHATEVER THE INPUT: true; the input reads as it did. -/
def fnCentresSpec : ChangeSpec := { name := "fnCentres", fn := fun _ => fun
  | [d] => { results := [.lit (.bool true)], args := [d] }
  | _ => none }
def fnCentresRow : OpenClaim := { program := "ytfjcnpoigndfjaa", sum := "c589cfe2f35c492c29757c75c18197ec03c8b57f4c91ed50f2fceb51d1741bb1", func := "loop.example/g01159/laws.FnCentres", spec := "fnCentres", unfollowed := true, recurses := true, apart := false }
def FnCentresSaid : Prop := fnCentresRow.holds Try.pinned (OpenSpec.ofChange fnCentresSpec)

/-- ITS FALSE NEIGHBOUR: 'it returns false'. Refute it at one input. -/
def fnCentresWrong : ChangeSpec := { name := "fnCentres", fn := fun _ => fun
  | [d] => { results := [.lit (.bool false)], args := [d] }
  | _ => none }
def FnCentresWrongFalsely : Prop := fnCentresRow.holds Try.pinned (OpenSpec.ofChange fnCentresWrong)

/- THE SECOND FORM. 'bulk': how many values and letters a reading holds, each counted each time it is reached (what is shared counts as often as it is met; a slice's spare places count too). A statement '..UptoSaid' is the law's where the arguments, and the package variables that the reading takes, are together of bulk at most 1048576: NARROWER than '..Said'. Prove '..Said' where nothing that the law and all that it calls make is longer than what came in: it says more and counts as full. Else prove '..UptoSaid'. A law counts once. -/
mutual
def uptoBulk {H : Type} : DataW H → Nat
  | .lit (.string bytes) => bytes.length + 1
  | .lit _ => 1
  | .nil => 1
  | .ptr d => uptoBulk d + 1
  | .slice elems spare => uptoBulkAll elems + uptoBulkAll spare + 1
  | .agg parts => uptoBulkAll parts + 1
  | .iface _ d => uptoBulk d + 1
  | .map entries => uptoBulkEntries entries + 1
  | .held _ => 1
def uptoBulkAll {H : Type} : List (DataW H) → Nat
  | [] => 0
  | d :: r => uptoBulk d + uptoBulkAll r
def uptoBulkEntries {H : Type} : List (Lit × DataW H) → Nat
  | [] => 0
  | x :: r => uptoBulkEntry x + uptoBulkEntries r
def uptoBulkEntry {H : Type} : Lit × DataW H → Nat
  | (.string bytes, d) => bytes.length + uptoBulk d + 1
  | (_, d) => uptoBulk d + 1
 end
def uptoSmall : (H : Type) → List (DataW H) → Bool := fun _ ds => decide (uptoBulkAll ds ≤ 1048576)
def OpenSpec.upto (s : _root_.Go.ChangeSpec) : _root_.Go.OpenSpec := { _root_.Go.OpenSpec.ofChange s with cond := some uptoSmall }

/-- 'laws.FnCounters', WHERE WHAT IT READS IS OF BULK AT MOST 1048576: true; the input reads as it did. -/
def fnCountersUptoRow : OpenClaim := { program := "ytfjcnpoigndfjaa", sum := "c589cfe2f35c492c29757c75c18197ec03c8b57f4c91ed50f2fceb51d1741bb1", func := "loop.example/g01159/laws.FnCounters", spec := "fnCounters", unfollowed := true, recurses := true, apart := false, narrowed := true }
def FnCountersUptoSaid : Prop := fnCountersUptoRow.holds Try.pinned (OpenSpec.upto fnCountersSpec)

/-- 'laws.FnCentres', WHERE WHAT IT READS IS OF BULK AT MOST 1048576: true; the input reads as it did. -/
def fnCentresUptoRow : OpenClaim := { program := "ytfjcnpoigndfjaa", sum := "c589cfe2f35c492c29757c75c18197ec03c8b57f4c91ed50f2fceb51d1741bb1", func := "loop.example/g01159/laws.FnCentres", spec := "fnCentres", unfollowed := true, recurses := true, apart := false, narrowed := true }
def FnCentresUptoSaid : Prop := fnCentresUptoRow.holds Try.pinned (OpenSpec.upto fnCentresSpec)

end Rows
end Go.Proofs.Ytfjcnpoigndfjaa
