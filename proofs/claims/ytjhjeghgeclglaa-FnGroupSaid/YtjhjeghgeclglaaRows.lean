/-
  No cell of these rows narrows 'for every input' (looked for: loops, veiled, ifaces, maps, wideKeys, modest, calm, conditions, laid).
  DERIVED. THE GIVEN ROWS OF THIS SEAT. 7 by the template 'for every input the law returns true; each argument reads behind the call as it read before'; 0 by the template 'total and deterministic' (their statements: YtjhjeghgeclglaaTotals.lean).
  GIVEN WITH THE SEED: the statements are not yours to turn. If you find one false, say at which input.
  Laid BY PROGRAM, IN A SANDBOX (cutbox-rows.mjs): the forced cells as the released guide's own fill.sh prints them over the translation 7bec71edc1a90fb2… (all of the seat's roots in one cut). By AI agents, Wed Nov 11 2026. No macro, syntax, notation, axiom, sorry.
-/
import Derived.Test.YtjhjeghgeclglaaChecked
import GoSem.Claim
import GoSem.ClaimJoined
import GoSem.ClaimMapViews
import Derived.JoinedTies
import Derived.KernelRfl
namespace Go.Proofs.Ytjhjeghgeclglaa
/- THE CELL 'sum', in the pinned program and in every row, IS THE sha256 OF THE DUMP (.gsa) THAT YtjhjeghgeclglaaProg.lean LOADS. Nothing in Lean hashes anything: it is a label: what it is worth is what the hold of that sum in a sandbox is worth. -/
noncomputable def Try.pinned : Pinned := { name := "ytjhjeghgeclglaa", sum := "7bec71edc1a90fb2af419eac73da052402bba579e80d5c3f1d9dfec034131ad9", checked := Try.checked }
namespace Rows
def none {H : Type} : Left H := { results := [], args := [] }

/-- 'laws.FnExactIsClosedOn': WHATEVER THE INPUT: true; the input reads as it did. -/
def fnExactIsClosedOnSpec : ChangeSpec := { name := "fnExactIsClosedOn", fn := fun _ => fun
  | [d1, d2] => { results := [.lit (.bool true)], args := [d1, d2] }
  | _ => none }
def fnExactIsClosedOnRow : OpenClaim := { program := "ytjhjeghgeclglaa", sum := "7bec71edc1a90fb2af419eac73da052402bba579e80d5c3f1d9dfec034131ad9", func := "loop.example/g03407/laws.FnExactIsClosedOn", spec := "fnExactIsClosedOn", apart := false }
def FnExactIsClosedOnSaid : Prop := fnExactIsClosedOnRow.holds Try.pinned (OpenSpec.ofChange fnExactIsClosedOnSpec)

/-- ITS FALSE NEIGHBOUR: 'it returns false'. Refute it at one input. -/
def fnExactIsClosedOnWrong : ChangeSpec := { name := "fnExactIsClosedOn", fn := fun _ => fun
  | [d1, d2] => { results := [.lit (.bool false)], args := [d1, d2] }
  | _ => none }
def FnExactIsClosedOnWrongFalsely : Prop := fnExactIsClosedOnRow.holds Try.pinned (OpenSpec.ofChange fnExactIsClosedOnWrong)

/-- 'laws.FnExactProfitOn': WHATEVER THE INPUT: true; the input reads as it did. -/
def fnExactProfitOnSpec : ChangeSpec := { name := "fnExactProfitOn", fn := fun _ => fun
  | [d1, d2] => { results := [.lit (.bool true)], args := [d1, d2] }
  | _ => none }
def fnExactProfitOnRow : OpenClaim := { program := "ytjhjeghgeclglaa", sum := "7bec71edc1a90fb2af419eac73da052402bba579e80d5c3f1d9dfec034131ad9", func := "loop.example/g03407/laws.FnExactProfitOn", spec := "fnExactProfitOn", apart := false }
def FnExactProfitOnSaid : Prop := fnExactProfitOnRow.holds Try.pinned (OpenSpec.ofChange fnExactProfitOnSpec)

/-- ITS FALSE NEIGHBOUR: 'it returns false'. Refute it at one input. -/
def fnExactProfitOnWrong : ChangeSpec := { name := "fnExactProfitOn", fn := fun _ => fun
  | [d1, d2] => { results := [.lit (.bool false)], args := [d1, d2] }
  | _ => none }
def FnExactProfitOnWrongFalsely : Prop := fnExactProfitOnRow.holds Try.pinned (OpenSpec.ofChange fnExactProfitOnWrong)

/-- 'laws.FnExactReopenPeriod': WHATEVER THE INPUT: true; the input reads as it did. -/
def fnExactReopenPeriodSpec : ChangeSpec := { name := "fnExactReopenPeriod", fn := fun _ => fun
  | [d] => { results := [.lit (.bool true)], args := [d] }
  | _ => none }
def fnExactReopenPeriodRow : OpenClaim := { program := "ytjhjeghgeclglaa", sum := "7bec71edc1a90fb2af419eac73da052402bba579e80d5c3f1d9dfec034131ad9", func := "loop.example/g03407/laws.FnExactReopenPeriod", spec := "fnExactReopenPeriod", apart := false }
def FnExactReopenPeriodSaid : Prop := fnExactReopenPeriodRow.holds Try.pinned (OpenSpec.ofChange fnExactReopenPeriodSpec)

/-- ITS FALSE NEIGHBOUR: 'it returns false'. Refute it at one input. -/
def fnExactReopenPeriodWrong : ChangeSpec := { name := "fnExactReopenPeriod", fn := fun _ => fun
  | [d] => { results := [.lit (.bool false)], args := [d] }
  | _ => none }
def FnExactReopenPeriodWrongFalsely : Prop := fnExactReopenPeriodRow.holds Try.pinned (OpenSpec.ofChange fnExactReopenPeriodWrong)

/-- 'laws.FnClosed': WHATEVER THE INPUT: true; the input reads as it did. -/
def fnClosedSpec : ChangeSpec := { name := "fnClosed", fn := fun _ => fun
  | [d] => { results := [.lit (.bool true)], args := [d] }
  | _ => none }
def fnClosedRow : OpenClaim := { program := "ytjhjeghgeclglaa", sum := "7bec71edc1a90fb2af419eac73da052402bba579e80d5c3f1d9dfec034131ad9", func := "loop.example/g03407/laws.FnClosed", spec := "fnClosed", unfollowed := true, recurses := true, apart := false }
def FnClosedSaid : Prop := fnClosedRow.holds Try.pinned (OpenSpec.ofChange fnClosedSpec)

/-- ITS FALSE NEIGHBOUR: 'it returns false'. Refute it at one input. -/
def fnClosedWrong : ChangeSpec := { name := "fnClosed", fn := fun _ => fun
  | [d] => { results := [.lit (.bool false)], args := [d] }
  | _ => none }
def FnClosedWrongFalsely : Prop := fnClosedRow.holds Try.pinned (OpenSpec.ofChange fnClosedWrong)

/-- 'laws.FnExactClosePeriod': WHATEVER THE INPUT: true; the input reads as it did. -/
def fnExactClosePeriodSpec : ChangeSpec := { name := "fnExactClosePeriod", fn := fun _ => fun
  | [d1, d2] => { results := [.lit (.bool true)], args := [d1, d2] }
  | _ => none }
def fnExactClosePeriodRow : OpenClaim := { program := "ytjhjeghgeclglaa", sum := "7bec71edc1a90fb2af419eac73da052402bba579e80d5c3f1d9dfec034131ad9", func := "loop.example/g03407/laws.FnExactClosePeriod", spec := "fnExactClosePeriod", unfollowed := true, recurses := true, apart := false }
def FnExactClosePeriodSaid : Prop := fnExactClosePeriodRow.holds Try.pinned (OpenSpec.ofChange fnExactClosePeriodSpec)

/-- ITS FALSE NEIGHBOUR: 'it returns false'. Refute it at one input. -/
def fnExactClosePeriodWrong : ChangeSpec := { name := "fnExactClosePeriod", fn := fun _ => fun
  | [d1, d2] => { results := [.lit (.bool false)], args := [d1, d2] }
  | _ => none }
def FnExactClosePeriodWrongFalsely : Prop := fnExactClosePeriodRow.holds Try.pinned (OpenSpec.ofChange fnExactClosePeriodWrong)

/-- 'laws.FnGroup': WHATEVER THE INPUT: true; the input reads as it did. -/
def fnGroupSpec : ChangeSpec := { name := "fnGroup", fn := fun _ => fun
  | [d] => { results := [.lit (.bool true)], args := [d] }
  | _ => none }
def fnGroupRow : OpenClaim := { program := "ytjhjeghgeclglaa", sum := "7bec71edc1a90fb2af419eac73da052402bba579e80d5c3f1d9dfec034131ad9", func := "loop.example/g03407/laws.FnGroup", spec := "fnGroup", recurses := true, apart := false }
def FnGroupSaid : Prop := fnGroupRow.holds Try.pinned (OpenSpec.ofChange fnGroupSpec)

/-- ITS FALSE NEIGHBOUR: 'it returns false'. Refute it at one input. -/
def fnGroupWrong : ChangeSpec := { name := "fnGroup", fn := fun _ => fun
  | [d] => { results := [.lit (.bool false)], args := [d] }
  | _ => none }
def FnGroupWrongFalsely : Prop := fnGroupRow.holds Try.pinned (OpenSpec.ofChange fnGroupWrong)

/-- 'laws.FnExactEliminationOf': WHATEVER THE INPUT: true; the input reads as it did. -/
def fnExactEliminationOfSpec : ChangeSpec := { name := "fnExactEliminationOf", fn := fun _ => fun
  | [d1, d2] => { results := [.lit (.bool true)], args := [d1, d2] }
  | _ => none }
def fnExactEliminationOfRow : OpenClaim := { program := "ytjhjeghgeclglaa", sum := "7bec71edc1a90fb2af419eac73da052402bba579e80d5c3f1d9dfec034131ad9", func := "loop.example/g03407/laws.FnExactEliminationOf", spec := "fnExactEliminationOf", recurses := true, apart := false }
def FnExactEliminationOfSaid : Prop := fnExactEliminationOfRow.holds Try.pinned (OpenSpec.ofChange fnExactEliminationOfSpec)

/-- ITS FALSE NEIGHBOUR: 'it returns false'. Refute it at one input. -/
def fnExactEliminationOfWrong : ChangeSpec := { name := "fnExactEliminationOf", fn := fun _ => fun
  | [d1, d2] => { results := [.lit (.bool false)], args := [d1, d2] }
  | _ => none }
def FnExactEliminationOfWrongFalsely : Prop := fnExactEliminationOfRow.holds Try.pinned (OpenSpec.ofChange fnExactEliminationOfWrong)

/- THE SECOND FORM. 'bulk': how many values and letters a reading holds, each counted each time it is reached (what is shared counts as often as it is met; a slice's spare places count too). A statement '..UptoSaid' is the law's where the arguments, and the package variables that the reading takes, are together of bulk at most 1048576: NARROWER than '..Said'. Prove '..Said' where nothing that the law and all that it calls make is longer than what came in: it says more and counts as full. Else prove '..UptoSaid'. A law counts once. -/
mutual
def uptoBulk {H : Type} : DataW H → Nat
  | .lit (.string bytes) => bytes.length + 1
  | .lit _ => 1
  | .nil => 1
  | .ptr d => uptoBulk d + 1
  | .slice elems spare => uptoBulkAll elems + uptoBulkAll spare + 1
  | .agg parts => uptoBulkAll parts + 1
  | .iface _ d => uptoBulk d + 1
  | .map entries => uptoBulkEntries entries + 1
  | .held _ => 1
def uptoBulkAll {H : Type} : List (DataW H) → Nat
  | [] => 0
  | d :: r => uptoBulk d + uptoBulkAll r
def uptoBulkEntries {H : Type} : List (Lit × DataW H) → Nat
  | [] => 0
  | x :: r => uptoBulkEntry x + uptoBulkEntries r
def uptoBulkEntry {H : Type} : Lit × DataW H → Nat
  | (.string bytes, d) => bytes.length + uptoBulk d + 1
  | (_, d) => uptoBulk d + 1
 end
def uptoSmall : (H : Type) → List (DataW H) → Bool := fun _ ds => decide (uptoBulkAll ds ≤ 1048576)
def OpenSpec.upto (s : _root_.Go.ChangeSpec) : _root_.Go.OpenSpec := { _root_.Go.OpenSpec.ofChange s with cond := some uptoSmall }

/-- 'laws.FnExactIsClosedOn', WHERE WHAT IT READS IS OF BULK AT MOST 1048576: true; the input reads as it did. -/
def fnExactIsClosedOnUptoRow : OpenClaim := { program := "ytjhjeghgeclglaa", sum := "7bec71edc1a90fb2af419eac73da052402bba579e80d5c3f1d9dfec034131ad9", func := "loop.example/g03407/laws.FnExactIsClosedOn", spec := "fnExactIsClosedOn", apart := false, narrowed := true }
def FnExactIsClosedOnUptoSaid : Prop := fnExactIsClosedOnUptoRow.holds Try.pinned (OpenSpec.upto fnExactIsClosedOnSpec)

/-- 'laws.FnExactProfitOn', WHERE WHAT IT READS IS OF BULK AT MOST 1048576: true; the input reads as it did. -/
def fnExactProfitOnUptoRow : OpenClaim := { program := "ytjhjeghgeclglaa", sum := "7bec71edc1a90fb2af419eac73da052402bba579e80d5c3f1d9dfec034131ad9", func := "loop.example/g03407/laws.FnExactProfitOn", spec := "fnExactProfitOn", apart := false, narrowed := true }
def FnExactProfitOnUptoSaid : Prop := fnExactProfitOnUptoRow.holds Try.pinned (OpenSpec.upto fnExactProfitOnSpec)

/-- 'laws.FnExactReopenPeriod', WHERE WHAT IT READS IS OF BULK AT MOST 1048576: true; the input reads as it did. -/
def fnExactReopenPeriodUptoRow : OpenClaim := { program := "ytjhjeghgeclglaa", sum := "7bec71edc1a90fb2af419eac73da052402bba579e80d5c3f1d9dfec034131ad9", func := "loop.example/g03407/laws.FnExactReopenPeriod", spec := "fnExactReopenPeriod", apart := false, narrowed := true }
def FnExactReopenPeriodUptoSaid : Prop := fnExactReopenPeriodUptoRow.holds Try.pinned (OpenSpec.upto fnExactReopenPeriodSpec)

/-- 'laws.FnClosed', WHERE WHAT IT READS IS OF BULK AT MOST 1048576: true; the input reads as it did. -/
def fnClosedUptoRow : OpenClaim := { program := "ytjhjeghgeclglaa", sum := "7bec71edc1a90fb2af419eac73da052402bba579e80d5c3f1d9dfec034131ad9", func := "loop.example/g03407/laws.FnClosed", spec := "fnClosed", unfollowed := true, recurses := true, apart := false, narrowed := true }
def FnClosedUptoSaid : Prop := fnClosedUptoRow.holds Try.pinned (OpenSpec.upto fnClosedSpec)

/-- 'laws.FnExactClosePeriod', WHERE WHAT IT READS IS OF BULK AT MOST 1048576: true; the input reads as it did. -/
def fnExactClosePeriodUptoRow : OpenClaim := { program := "ytjhjeghgeclglaa", sum := "7bec71edc1a90fb2af419eac73da052402bba579e80d5c3f1d9dfec034131ad9", func := "loop.example/g03407/laws.FnExactClosePeriod", spec := "fnExactClosePeriod", unfollowed := true, recurses := true, apart := false, narrowed := true }
def FnExactClosePeriodUptoSaid : Prop := fnExactClosePeriodUptoRow.holds Try.pinned (OpenSpec.upto fnExactClosePeriodSpec)

/-- 'laws.FnGroup', WHERE WHAT IT READS IS OF BULK AT MOST 1048576: true; the input reads as it did. -/
def fnGroupUptoRow : OpenClaim := { program := "ytjhjeghgeclglaa", sum := "7bec71edc1a90fb2af419eac73da052402bba579e80d5c3f1d9dfec034131ad9", func := "loop.example/g03407/laws.FnGroup", spec := "fnGroup", recurses := true, apart := false, narrowed := true }
def FnGroupUptoSaid : Prop := fnGroupUptoRow.holds Try.pinned (OpenSpec.upto fnGroupSpec)

/-- 'laws.FnExactEliminationOf', WHERE WHAT IT READS IS OF BULK AT MOST 1048576: true; the input reads as it did. -/
def fnExactEliminationOfUptoRow : OpenClaim := { program := "ytjhjeghgeclglaa", sum := "7bec71edc1a90fb2af419eac73da052402bba579e80d5c3f1d9dfec034131ad9", func := "loop.example/g03407/laws.FnExactEliminationOf", spec := "fnExactEliminationOf", recurses := true, apart := false, narrowed := true }
def FnExactEliminationOfUptoSaid : Prop := fnExactEliminationOfUptoRow.holds Try.pinned (OpenSpec.upto fnExactEliminationOfSpec)

end Rows
end Go.Proofs.Ytjhjeghgeclglaa
