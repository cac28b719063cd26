/-
  No cell of these rows narrows 'for every input' (looked for: loops, veiled, ifaces, maps, wideKeys, modest, calm, conditions, laid).
  DERIVED. THE GIVEN ROWS OF THIS SEAT. 7 by the template 'for every input the law returns true; each argument reads behind the call as it read before'; 0 by the template 'total and deterministic' (their statements: YtgllggmaiapeoaaTotals.lean).
  GIVEN WITH THE SEED: the statements are not yours to turn. If you find one false, say at which input.
  Laid BY PROGRAM, IN A SANDBOX (cutbox-rows.mjs): the forced cells as the released guide's own fill.sh prints them over the translation 3e77ab0cd6fdc6e7… (all of the seat's roots in one cut). By AI agents, Wed Nov 11 2026. No macro, syntax, notation, axiom, sorry.
-/
import Derived.Test.YtgllggmaiapeoaaChecked
import GoSem.Claim
import GoSem.ClaimJoined
import GoSem.ClaimMapViews
import Derived.JoinedTies
import Derived.KernelRfl
namespace Go.Proofs.Ytgllggmaiapeoaa
/- THE CELL 'sum', in the pinned program and in every row, IS THE sha256 OF THE DUMP (.gsa) THAT YtgllggmaiapeoaaProg.lean LOADS. Nothing in Lean hashes anything: it is a label: what it is worth is what the hold of that sum in a sandbox is worth. -/
noncomputable def Try.pinned : Pinned := { name := "ytgllggmaiapeoaa", sum := "3e77ab0cd6fdc6e7158e5d4a9274264903c0099d376468c80d9d50b6c8a952e8", checked := Try.checked }
namespace Rows
def none {H : Type} : Left H := { results := [], args := [] }

/-- 'laws.FnExactAllEvents': WHATEVER THE INPUT: true; the input reads as it did. -/
def fnExactAllEventsSpec : ChangeSpec := { name := "fnExactAllEvents", fn := fun _ => fun
  | [d] => { results := [.lit (.bool true)], args := [d] }
  | _ => none }
def fnExactAllEventsRow : OpenClaim := { program := "ytgllggmaiapeoaa", sum := "3e77ab0cd6fdc6e7158e5d4a9274264903c0099d376468c80d9d50b6c8a952e8", func := "loop.example/g03407/laws.FnExactAllEvents", spec := "fnExactAllEvents", apart := false }
def FnExactAllEventsSaid : Prop := fnExactAllEventsRow.holds Try.pinned (OpenSpec.ofChange fnExactAllEventsSpec)

/-- ITS FALSE NEIGHBOUR: 'it returns false'. Refute it at one input. -/
def fnExactAllEventsWrong : ChangeSpec := { name := "fnExactAllEvents", fn := fun _ => fun
  | [d] => { results := [.lit (.bool false)], args := [d] }
  | _ => none }
def FnExactAllEventsWrongFalsely : Prop := fnExactAllEventsRow.holds Try.pinned (OpenSpec.ofChange fnExactAllEventsWrong)

/-- 'laws.FnExactIsOffice': WHATEVER THE INPUT: true; the input reads as it did. -/
def fnExactIsOfficeSpec : ChangeSpec := { name := "fnExactIsOffice", fn := fun _ => fun
  | [d] => { results := [.lit (.bool true)], args := [d] }
  | _ => none }
def fnExactIsOfficeRow : OpenClaim := { program := "ytgllggmaiapeoaa", sum := "3e77ab0cd6fdc6e7158e5d4a9274264903c0099d376468c80d9d50b6c8a952e8", func := "loop.example/g03407/laws.FnExactIsOffice", spec := "fnExactIsOffice", apart := false }
def FnExactIsOfficeSaid : Prop := fnExactIsOfficeRow.holds Try.pinned (OpenSpec.ofChange fnExactIsOfficeSpec)

/-- ITS FALSE NEIGHBOUR: 'it returns false'. Refute it at one input. -/
def fnExactIsOfficeWrong : ChangeSpec := { name := "fnExactIsOffice", fn := fun _ => fun
  | [d] => { results := [.lit (.bool false)], args := [d] }
  | _ => none }
def FnExactIsOfficeWrongFalsely : Prop := fnExactIsOfficeRow.holds Try.pinned (OpenSpec.ofChange fnExactIsOfficeWrong)

/-- 'laws.FnClerkSteps': WHATEVER THE INPUT: true; the input reads as it did. -/
def fnClerkStepsSpec : ChangeSpec := { name := "fnClerkSteps", fn := fun _ => fun
  | [d] => { results := [.lit (.bool true)], args := [d] }
  | _ => none }
def fnClerkStepsRow : OpenClaim := { program := "ytgllggmaiapeoaa", sum := "3e77ab0cd6fdc6e7158e5d4a9274264903c0099d376468c80d9d50b6c8a952e8", func := "loop.example/g03407/laws.FnClerkSteps", spec := "fnClerkSteps", apart := false }
def FnClerkStepsSaid : Prop := fnClerkStepsRow.holds Try.pinned (OpenSpec.ofChange fnClerkStepsSpec)

/-- ITS FALSE NEIGHBOUR: 'it returns false'. Refute it at one input. -/
def fnClerkStepsWrong : ChangeSpec := { name := "fnClerkSteps", fn := fun _ => fun
  | [d] => { results := [.lit (.bool false)], args := [d] }
  | _ => none }
def FnClerkStepsWrongFalsely : Prop := fnClerkStepsRow.holds Try.pinned (OpenSpec.ofChange fnClerkStepsWrong)

/-- 'laws.FnExactStepClerk': WHATEVER THE INPUT: true; the input reads as it did. -/
def fnExactStepClerkSpec : ChangeSpec := { name := "fnExactStepClerk", fn := fun _ => fun
  | [d1, d2, d3] => { results := [.lit (.bool true)], args := [d1, d2, d3] }
  | _ => none }
def fnExactStepClerkRow : OpenClaim := { program := "ytgllggmaiapeoaa", sum := "3e77ab0cd6fdc6e7158e5d4a9274264903c0099d376468c80d9d50b6c8a952e8", func := "loop.example/g03407/laws.FnExactStepClerk", spec := "fnExactStepClerk", apart := false }
def FnExactStepClerkSaid : Prop := fnExactStepClerkRow.holds Try.pinned (OpenSpec.ofChange fnExactStepClerkSpec)

/-- ITS FALSE NEIGHBOUR: 'it returns false'. Refute it at one input. -/
def fnExactStepClerkWrong : ChangeSpec := { name := "fnExactStepClerk", fn := fun _ => fun
  | [d1, d2, d3] => { results := [.lit (.bool false)], args := [d1, d2, d3] }
  | _ => none }
def FnExactStepClerkWrongFalsely : Prop := fnExactStepClerkRow.holds Try.pinned (OpenSpec.ofChange fnExactStepClerkWrong)

/-- 'laws.FnExactSortEvents': WHATEVER THE INPUT: true; the input reads as it did. -/
def fnExactSortEventsSpec : ChangeSpec := { name := "fnExactSortEvents", fn := fun _ => fun
  | [d] => { results := [.lit (.bool true)], args := [d] }
  | _ => none }
def fnExactSortEventsRow : OpenClaim := { program := "ytgllggmaiapeoaa", sum := "3e77ab0cd6fdc6e7158e5d4a9274264903c0099d376468c80d9d50b6c8a952e8", func := "loop.example/g03407/laws.FnExactSortEvents", spec := "fnExactSortEvents", unfollowed := true, recurses := true, apart := false }
def FnExactSortEventsSaid : Prop := fnExactSortEventsRow.holds Try.pinned (OpenSpec.ofChange fnExactSortEventsSpec)

/-- ITS FALSE NEIGHBOUR: 'it returns false'. Refute it at one input. -/
def fnExactSortEventsWrong : ChangeSpec := { name := "fnExactSortEvents", fn := fun _ => fun
  | [d] => { results := [.lit (.bool false)], args := [d] }
  | _ => none }
def FnExactSortEventsWrongFalsely : Prop := fnExactSortEventsRow.holds Try.pinned (OpenSpec.ofChange fnExactSortEventsWrong)

/-- 'laws.FnExactDrainOffice': WHATEVER THE INPUT: true; the input reads as it did. -/
def fnExactDrainOfficeSpec : ChangeSpec := { name := "fnExactDrainOffice", fn := fun _ => fun
  | [d] => { results := [.lit (.bool true)], args := [d] }
  | _ => none }
def fnExactDrainOfficeRow : OpenClaim := { program := "ytgllggmaiapeoaa", sum := "3e77ab0cd6fdc6e7158e5d4a9274264903c0099d376468c80d9d50b6c8a952e8", func := "loop.example/g03407/laws.FnExactDrainOffice", spec := "fnExactDrainOffice", apart := false }
def FnExactDrainOfficeSaid : Prop := fnExactDrainOfficeRow.holds Try.pinned (OpenSpec.ofChange fnExactDrainOfficeSpec)

/-- ITS FALSE NEIGHBOUR: 'it returns false'. Refute it at one input. -/
def fnExactDrainOfficeWrong : ChangeSpec := { name := "fnExactDrainOffice", fn := fun _ => fun
  | [d] => { results := [.lit (.bool false)], args := [d] }
  | _ => none }
def FnExactDrainOfficeWrongFalsely : Prop := fnExactDrainOfficeRow.holds Try.pinned (OpenSpec.ofChange fnExactDrainOfficeWrong)

/-- 'laws.FnExactRunClerks': WHATEVER THE INPUT: true; the input reads as it did. -/
def fnExactRunClerksSpec : ChangeSpec := { name := "fnExactRunClerks", fn := fun _ => fun
  | [d1, d2] => { results := [.lit (.bool true)], args := [d1, d2] }
  | _ => none }
def fnExactRunClerksRow : OpenClaim := { program := "ytgllggmaiapeoaa", sum := "3e77ab0cd6fdc6e7158e5d4a9274264903c0099d376468c80d9d50b6c8a952e8", func := "loop.example/g03407/laws.FnExactRunClerks", spec := "fnExactRunClerks", apart := false }
def FnExactRunClerksSaid : Prop := fnExactRunClerksRow.holds Try.pinned (OpenSpec.ofChange fnExactRunClerksSpec)

/-- ITS FALSE NEIGHBOUR: 'it returns false'. Refute it at one input. -/
def fnExactRunClerksWrong : ChangeSpec := { name := "fnExactRunClerks", fn := fun _ => fun
  | [d1, d2] => { results := [.lit (.bool false)], args := [d1, d2] }
  | _ => none }
def FnExactRunClerksWrongFalsely : Prop := fnExactRunClerksRow.holds Try.pinned (OpenSpec.ofChange fnExactRunClerksWrong)

/- THE SECOND FORM. 'bulk': how many values and letters a reading holds, each counted each time it is reached (what is shared counts as often as it is met; a slice's spare places count too). A statement '..UptoSaid' is the law's where the arguments, and the package variables that the reading takes, are together of bulk at most 1048576: NARROWER than '..Said'. Prove '..Said' where nothing that the law and all that it calls make is longer than what came in: it says more and counts as full. Else prove '..UptoSaid'. A law counts once. -/
mutual
def uptoBulk {H : Type} : DataW H → Nat
  | .lit (.string bytes) => bytes.length + 1
  | .lit _ => 1
  | .nil => 1
  | .ptr d => uptoBulk d + 1
  | .slice elems spare => uptoBulkAll elems + uptoBulkAll spare + 1
  | .agg parts => uptoBulkAll parts + 1
  | .iface _ d => uptoBulk d + 1
  | .map entries => uptoBulkEntries entries + 1
  | .held _ => 1
def uptoBulkAll {H : Type} : List (DataW H) → Nat
  | [] => 0
  | d :: r => uptoBulk d + uptoBulkAll r
def uptoBulkEntries {H : Type} : List (Lit × DataW H) → Nat
  | [] => 0
  | x :: r => uptoBulkEntry x + uptoBulkEntries r
def uptoBulkEntry {H : Type} : Lit × DataW H → Nat
  | (.string bytes, d) => bytes.length + uptoBulk d + 1
  | (_, d) => uptoBulk d + 1
 end
def uptoSmall : (H : Type) → List (DataW H) → Bool := fun _ ds => decide (uptoBulkAll ds ≤ 1048576)
def OpenSpec.upto (s : _root_.Go.ChangeSpec) : _root_.Go.OpenSpec := { _root_.Go.OpenSpec.ofChange s with cond := some uptoSmall }

/-- 'laws.FnExactAllEvents', WHERE WHAT IT READS IS OF BULK AT MOST 1048576: true; the input reads as it did. -/
def fnExactAllEventsUptoRow : OpenClaim := { program := "ytgllggmaiapeoaa", sum := "3e77ab0cd6fdc6e7158e5d4a9274264903c0099d376468c80d9d50b6c8a952e8", func := "loop.example/g03407/laws.FnExactAllEvents", spec := "fnExactAllEvents", apart := false, narrowed := true }
def FnExactAllEventsUptoSaid : Prop := fnExactAllEventsUptoRow.holds Try.pinned (OpenSpec.upto fnExactAllEventsSpec)

/-- 'laws.FnExactIsOffice', WHERE WHAT IT READS IS OF BULK AT MOST 1048576: true; the input reads as it did. -/
def fnExactIsOfficeUptoRow : OpenClaim := { program := "ytgllggmaiapeoaa", sum := "3e77ab0cd6fdc6e7158e5d4a9274264903c0099d376468c80d9d50b6c8a952e8", func := "loop.example/g03407/laws.FnExactIsOffice", spec := "fnExactIsOffice", apart := false, narrowed := true }
def FnExactIsOfficeUptoSaid : Prop := fnExactIsOfficeUptoRow.holds Try.pinned (OpenSpec.upto fnExactIsOfficeSpec)

/-- 'laws.FnClerkSteps', WHERE WHAT IT READS IS OF BULK AT MOST 1048576: true; the input reads as it did. -/
def fnClerkStepsUptoRow : OpenClaim := { program := "ytgllggmaiapeoaa", sum := "3e77ab0cd6fdc6e7158e5d4a9274264903c0099d376468c80d9d50b6c8a952e8", func := "loop.example/g03407/laws.FnClerkSteps", spec := "fnClerkSteps", apart := false, narrowed := true }
def FnClerkStepsUptoSaid : Prop := fnClerkStepsUptoRow.holds Try.pinned (OpenSpec.upto fnClerkStepsSpec)

/-- 'laws.FnExactStepClerk', WHERE WHAT IT READS IS OF BULK AT MOST 1048576: true; the input reads as it did. -/
def fnExactStepClerkUptoRow : OpenClaim := { program := "ytgllggmaiapeoaa", sum := "3e77ab0cd6fdc6e7158e5d4a9274264903c0099d376468c80d9d50b6c8a952e8", func := "loop.example/g03407/laws.FnExactStepClerk", spec := "fnExactStepClerk", apart := false, narrowed := true }
def FnExactStepClerkUptoSaid : Prop := fnExactStepClerkUptoRow.holds Try.pinned (OpenSpec.upto fnExactStepClerkSpec)

/-- 'laws.FnExactSortEvents', WHERE WHAT IT READS IS OF BULK AT MOST 1048576: true; the input reads as it did. -/
def fnExactSortEventsUptoRow : OpenClaim := { program := "ytgllggmaiapeoaa", sum := "3e77ab0cd6fdc6e7158e5d4a9274264903c0099d376468c80d9d50b6c8a952e8", func := "loop.example/g03407/laws.FnExactSortEvents", spec := "fnExactSortEvents", unfollowed := true, recurses := true, apart := false, narrowed := true }
def FnExactSortEventsUptoSaid : Prop := fnExactSortEventsUptoRow.holds Try.pinned (OpenSpec.upto fnExactSortEventsSpec)

/-- 'laws.FnExactDrainOffice', WHERE WHAT IT READS IS OF BULK AT MOST 1048576: true; the input reads as it did. -/
def fnExactDrainOfficeUptoRow : OpenClaim := { program := "ytgllggmaiapeoaa", sum := "3e77ab0cd6fdc6e7158e5d4a9274264903c0099d376468c80d9d50b6c8a952e8", func := "loop.example/g03407/laws.FnExactDrainOffice", spec := "fnExactDrainOffice", apart := false, narrowed := true }
def FnExactDrainOfficeUptoSaid : Prop := fnExactDrainOfficeUptoRow.holds Try.pinned (OpenSpec.upto fnExactDrainOfficeSpec)

/-- 'laws.FnExactRunClerks', WHERE WHAT IT READS IS OF BULK AT MOST 1048576: true; the input reads as it did. -/
def fnExactRunClerksUptoRow : OpenClaim := { program := "ytgllggmaiapeoaa", sum := "3e77ab0cd6fdc6e7158e5d4a9274264903c0099d376468c80d9d50b6c8a952e8", func := "loop.example/g03407/laws.FnExactRunClerks", spec := "fnExactRunClerks", apart := false, narrowed := true }
def FnExactRunClerksUptoSaid : Prop := fnExactRunClerksUptoRow.holds Try.pinned (OpenSpec.upto fnExactRunClerksSpec)

end Rows
end Go.Proofs.Ytgllggmaiapeoaa
