/-
  No cell of these rows narrows 'for every input' (looked for: loops, veiled, ifaces, maps, wideKeys, modest, calm, conditions, laid).
  DERIVED. THE GIVEN ROWS OF THIS SEAT. 8 by the template 'for every input the law returns true; each argument reads behind the call as it read before'; 0 by the template 'total and deterministic' (their statements: YtbjhjdkgegilcaaTotals.lean).
  GIVEN WITH THE SEED: the statements are not yours to turn. If you find one false, say at which input.
  Laid BY PROGRAM, IN A SANDBOX (cutbox-rows.mjs): the forced cells as the released guide's own fill.sh prints them over the translation a79655be761f7c17… (all of the seat's roots in one cut). By AI agents, Wed Nov 11 2026. No macro, syntax, notation, axiom, sorry.
-/
import Derived.Test.YtbjhjdkgegilcaaChecked
import GoSem.Claim
import GoSem.ClaimJoined
import GoSem.ClaimMapViews
import Derived.JoinedTies
import Derived.KernelRfl
namespace Go.Proofs.Ytbjhjdkgegilcaa
/- THE CELL 'sum', in the pinned program and in every row, IS THE sha256 OF THE DUMP (.gsa) THAT YtbjhjdkgegilcaaProg.lean LOADS. Nothing in Lean hashes anything: it is a label: what it is worth is what the hold of that sum in a sandbox is worth. -/
noncomputable def Try.pinned : Pinned := { name := "ytbjhjdkgegilcaa", sum := "a79655be761f7c17c44be123706fa1f501297b0ec0ef2adeb1562ec14e240ef0", checked := Try.checked }
namespace Rows
def none {H : Type} : Left H := { results := [], args := [] }

/-- 'laws.FnExactIsTrial': WHATEVER THE INPUT: true; the input reads as it did. -/
def fnExactIsTrialSpec : ChangeSpec := { name := "fnExactIsTrial", fn := fun _ => fun
  | [d] => { results := [.lit (.bool true)], args := [d] }
  | _ => none }
def fnExactIsTrialRow : OpenClaim := { program := "ytbjhjdkgegilcaa", sum := "a79655be761f7c17c44be123706fa1f501297b0ec0ef2adeb1562ec14e240ef0", func := "loop.example/g03407/laws.FnExactIsTrial", spec := "fnExactIsTrial", apart := false }
def FnExactIsTrialSaid : Prop := fnExactIsTrialRow.holds Try.pinned (OpenSpec.ofChange fnExactIsTrialSpec)

/-- ITS FALSE NEIGHBOUR: 'it returns false'. Refute it at one input. -/
def fnExactIsTrialWrong : ChangeSpec := { name := "fnExactIsTrial", fn := fun _ => fun
  | [d] => { results := [.lit (.bool false)], args := [d] }
  | _ => none }
def FnExactIsTrialWrongFalsely : Prop := fnExactIsTrialRow.holds Try.pinned (OpenSpec.ofChange fnExactIsTrialWrong)

/-- 'laws.FnExactOpenValue': WHATEVER THE INPUT: true; the input reads as it did. -/
def fnExactOpenValueSpec : ChangeSpec := { name := "fnExactOpenValue", fn := fun _ => fun
  | [d] => { results := [.lit (.bool true)], args := [d] }
  | _ => none }
def fnExactOpenValueRow : OpenClaim := { program := "ytbjhjdkgegilcaa", sum := "a79655be761f7c17c44be123706fa1f501297b0ec0ef2adeb1562ec14e240ef0", func := "loop.example/g03407/laws.FnExactOpenValue", spec := "fnExactOpenValue", apart := false }
def FnExactOpenValueSaid : Prop := fnExactOpenValueRow.holds Try.pinned (OpenSpec.ofChange fnExactOpenValueSpec)

/-- ITS FALSE NEIGHBOUR: 'it returns false'. Refute it at one input. -/
def fnExactOpenValueWrong : ChangeSpec := { name := "fnExactOpenValue", fn := fun _ => fun
  | [d] => { results := [.lit (.bool false)], args := [d] }
  | _ => none }
def FnExactOpenValueWrongFalsely : Prop := fnExactOpenValueRow.holds Try.pinned (OpenSpec.ofChange fnExactOpenValueWrong)

/-- 'laws.FnExactCrossRate': WHATEVER THE INPUT: true; the input reads as it did. -/
def fnExactCrossRateSpec : ChangeSpec := { name := "fnExactCrossRate", fn := fun _ => fun
  | [d1, d2] => { results := [.lit (.bool true)], args := [d1, d2] }
  | _ => none }
def fnExactCrossRateRow : OpenClaim := { program := "ytbjhjdkgegilcaa", sum := "a79655be761f7c17c44be123706fa1f501297b0ec0ef2adeb1562ec14e240ef0", func := "loop.example/g03407/laws.FnExactCrossRate", spec := "fnExactCrossRate", apart := false }
def FnExactCrossRateSaid : Prop := fnExactCrossRateRow.holds Try.pinned (OpenSpec.ofChange fnExactCrossRateSpec)

/-- ITS FALSE NEIGHBOUR: 'it returns false'. Refute it at one input. -/
def fnExactCrossRateWrong : ChangeSpec := { name := "fnExactCrossRate", fn := fun _ => fun
  | [d1, d2] => { results := [.lit (.bool false)], args := [d1, d2] }
  | _ => none }
def FnExactCrossRateWrongFalsely : Prop := fnExactCrossRateRow.holds Try.pinned (OpenSpec.ofChange fnExactCrossRateWrong)

/-- 'laws.FnExactPayClaim': WHATEVER THE INPUT: true; the input reads as it did. -/
def fnExactPayClaimSpec : ChangeSpec := { name := "fnExactPayClaim", fn := fun _ => fun
  | [d1, d2, d3] => { results := [.lit (.bool true)], args := [d1, d2, d3] }
  | _ => none }
def fnExactPayClaimRow : OpenClaim := { program := "ytbjhjdkgegilcaa", sum := "a79655be761f7c17c44be123706fa1f501297b0ec0ef2adeb1562ec14e240ef0", func := "loop.example/g03407/laws.FnExactPayClaim", spec := "fnExactPayClaim", apart := false }
def FnExactPayClaimSaid : Prop := fnExactPayClaimRow.holds Try.pinned (OpenSpec.ofChange fnExactPayClaimSpec)

/-- ITS FALSE NEIGHBOUR: 'it returns false'. Refute it at one input. -/
def fnExactPayClaimWrong : ChangeSpec := { name := "fnExactPayClaim", fn := fun _ => fun
  | [d1, d2, d3] => { results := [.lit (.bool false)], args := [d1, d2, d3] }
  | _ => none }
def FnExactPayClaimWrongFalsely : Prop := fnExactPayClaimRow.holds Try.pinned (OpenSpec.ofChange fnExactPayClaimWrong)

/-- 'laws.FnCross': WHATEVER THE INPUT: true; the input reads as it did. -/
def fnCrossSpec : ChangeSpec := { name := "fnCross", fn := fun _ => fun
  | [d] => { results := [.lit (.bool true)], args := [d] }
  | _ => none }
def fnCrossRow : OpenClaim := { program := "ytbjhjdkgegilcaa", sum := "a79655be761f7c17c44be123706fa1f501297b0ec0ef2adeb1562ec14e240ef0", func := "loop.example/g03407/laws.FnCross", spec := "fnCross", apart := false }
def FnCrossSaid : Prop := fnCrossRow.holds Try.pinned (OpenSpec.ofChange fnCrossSpec)

/-- ITS FALSE NEIGHBOUR: 'it returns false'. Refute it at one input. -/
def fnCrossWrong : ChangeSpec := { name := "fnCross", fn := fun _ => fun
  | [d] => { results := [.lit (.bool false)], args := [d] }
  | _ => none }
def FnCrossWrongFalsely : Prop := fnCrossRow.holds Try.pinned (OpenSpec.ofChange fnCrossWrong)

/-- 'laws.FnExactGainsOf': WHATEVER THE INPUT: true; the input reads as it did. -/
def fnExactGainsOfSpec : ChangeSpec := { name := "fnExactGainsOf", fn := fun _ => fun
  | [d1, d2] => { results := [.lit (.bool true)], args := [d1, d2] }
  | _ => none }
def fnExactGainsOfRow : OpenClaim := { program := "ytbjhjdkgegilcaa", sum := "a79655be761f7c17c44be123706fa1f501297b0ec0ef2adeb1562ec14e240ef0", func := "loop.example/g03407/laws.FnExactGainsOf", spec := "fnExactGainsOf", apart := false }
def FnExactGainsOfSaid : Prop := fnExactGainsOfRow.holds Try.pinned (OpenSpec.ofChange fnExactGainsOfSpec)

/-- ITS FALSE NEIGHBOUR: 'it returns false'. Refute it at one input. -/
def fnExactGainsOfWrong : ChangeSpec := { name := "fnExactGainsOf", fn := fun _ => fun
  | [d1, d2] => { results := [.lit (.bool false)], args := [d1, d2] }
  | _ => none }
def FnExactGainsOfWrongFalsely : Prop := fnExactGainsOfRow.holds Try.pinned (OpenSpec.ofChange fnExactGainsOfWrong)

/-- 'laws.FnGains': WHATEVER THE INPUT: true; the input reads as it did. -/
def fnGainsSpec : ChangeSpec := { name := "fnGains", fn := fun _ => fun
  | [d] => { results := [.lit (.bool true)], args := [d] }
  | _ => none }
def fnGainsRow : OpenClaim := { program := "ytbjhjdkgegilcaa", sum := "a79655be761f7c17c44be123706fa1f501297b0ec0ef2adeb1562ec14e240ef0", func := "loop.example/g03407/laws.FnGains", spec := "fnGains", apart := false }
def FnGainsSaid : Prop := fnGainsRow.holds Try.pinned (OpenSpec.ofChange fnGainsSpec)

/-- ITS FALSE NEIGHBOUR: 'it returns false'. Refute it at one input. -/
def fnGainsWrong : ChangeSpec := { name := "fnGains", fn := fun _ => fun
  | [d] => { results := [.lit (.bool false)], args := [d] }
  | _ => none }
def FnGainsWrongFalsely : Prop := fnGainsRow.holds Try.pinned (OpenSpec.ofChange fnGainsWrong)

/-- 'laws.FnClaims': WHATEVER THE INPUT: true; the input reads as it did. -/
def fnClaimsSpec : ChangeSpec := { name := "fnClaims", fn := fun _ => fun
  | [d] => { results := [.lit (.bool true)], args := [d] }
  | _ => none }
def fnClaimsRow : OpenClaim := { program := "ytbjhjdkgegilcaa", sum := "a79655be761f7c17c44be123706fa1f501297b0ec0ef2adeb1562ec14e240ef0", func := "loop.example/g03407/laws.FnClaims", spec := "fnClaims", apart := false }
def FnClaimsSaid : Prop := fnClaimsRow.holds Try.pinned (OpenSpec.ofChange fnClaimsSpec)

/-- ITS FALSE NEIGHBOUR: 'it returns false'. Refute it at one input. -/
def fnClaimsWrong : ChangeSpec := { name := "fnClaims", fn := fun _ => fun
  | [d] => { results := [.lit (.bool false)], args := [d] }
  | _ => none }
def FnClaimsWrongFalsely : Prop := fnClaimsRow.holds Try.pinned (OpenSpec.ofChange fnClaimsWrong)

/- THE SECOND FORM. 'bulk': how many values and letters a reading holds, each counted each time it is reached (what is shared counts as often as it is met; a slice's spare places count too). A statement '..UptoSaid' is the law's where the arguments, and the package variables that the reading takes, are together of bulk at most 1048576: NARROWER than '..Said'. Prove '..Said' where nothing that the law and all that it calls make is longer than what came in: it says more and counts as full. Else prove '..UptoSaid'. A law counts once. -/
mutual
def uptoBulk {H : Type} : DataW H → Nat
  | .lit (.string bytes) => bytes.length + 1
  | .lit _ => 1
  | .nil => 1
  | .ptr d => uptoBulk d + 1
  | .slice elems spare => uptoBulkAll elems + uptoBulkAll spare + 1
  | .agg parts => uptoBulkAll parts + 1
  | .iface _ d => uptoBulk d + 1
  | .map entries => uptoBulkEntries entries + 1
  | .held _ => 1
def uptoBulkAll {H : Type} : List (DataW H) → Nat
  | [] => 0
  | d :: r => uptoBulk d + uptoBulkAll r
def uptoBulkEntries {H : Type} : List (Lit × DataW H) → Nat
  | [] => 0
  | x :: r => uptoBulkEntry x + uptoBulkEntries r
def uptoBulkEntry {H : Type} : Lit × DataW H → Nat
  | (.string bytes, d) => bytes.length + uptoBulk d + 1
  | (_, d) => uptoBulk d + 1
 end
def uptoSmall : (H : Type) → List (DataW H) → Bool := fun _ ds => decide (uptoBulkAll ds ≤ 1048576)
def OpenSpec.upto (s : _root_.Go.ChangeSpec) : _root_.Go.OpenSpec := { _root_.Go.OpenSpec.ofChange s with cond := some uptoSmall }

/-- 'laws.FnExactIsTrial', WHERE WHAT IT READS IS OF BULK AT MOST 1048576: true; the input reads as it did. -/
def fnExactIsTrialUptoRow : OpenClaim := { program := "ytbjhjdkgegilcaa", sum := "a79655be761f7c17c44be123706fa1f501297b0ec0ef2adeb1562ec14e240ef0", func := "loop.example/g03407/laws.FnExactIsTrial", spec := "fnExactIsTrial", apart := false, narrowed := true }
def FnExactIsTrialUptoSaid : Prop := fnExactIsTrialUptoRow.holds Try.pinned (OpenSpec.upto fnExactIsTrialSpec)

/-- 'laws.FnExactOpenValue', WHERE WHAT IT READS IS OF BULK AT MOST 1048576: true; the input reads as it did. -/
def fnExactOpenValueUptoRow : OpenClaim := { program := "ytbjhjdkgegilcaa", sum := "a79655be761f7c17c44be123706fa1f501297b0ec0ef2adeb1562ec14e240ef0", func := "loop.example/g03407/laws.FnExactOpenValue", spec := "fnExactOpenValue", apart := false, narrowed := true }
def FnExactOpenValueUptoSaid : Prop := fnExactOpenValueUptoRow.holds Try.pinned (OpenSpec.upto fnExactOpenValueSpec)

/-- 'laws.FnExactCrossRate', WHERE WHAT IT READS IS OF BULK AT MOST 1048576: true; the input reads as it did. -/
def fnExactCrossRateUptoRow : OpenClaim := { program := "ytbjhjdkgegilcaa", sum := "a79655be761f7c17c44be123706fa1f501297b0ec0ef2adeb1562ec14e240ef0", func := "loop.example/g03407/laws.FnExactCrossRate", spec := "fnExactCrossRate", apart := false, narrowed := true }
def FnExactCrossRateUptoSaid : Prop := fnExactCrossRateUptoRow.holds Try.pinned (OpenSpec.upto fnExactCrossRateSpec)

/-- 'laws.FnExactPayClaim', WHERE WHAT IT READS IS OF BULK AT MOST 1048576: true; the input reads as it did. -/
def fnExactPayClaimUptoRow : OpenClaim := { program := "ytbjhjdkgegilcaa", sum := "a79655be761f7c17c44be123706fa1f501297b0ec0ef2adeb1562ec14e240ef0", func := "loop.example/g03407/laws.FnExactPayClaim", spec := "fnExactPayClaim", apart := false, narrowed := true }
def FnExactPayClaimUptoSaid : Prop := fnExactPayClaimUptoRow.holds Try.pinned (OpenSpec.upto fnExactPayClaimSpec)

/-- 'laws.FnCross', WHERE WHAT IT READS IS OF BULK AT MOST 1048576: true; the input reads as it did. -/
def fnCrossUptoRow : OpenClaim := { program := "ytbjhjdkgegilcaa", sum := "a79655be761f7c17c44be123706fa1f501297b0ec0ef2adeb1562ec14e240ef0", func := "loop.example/g03407/laws.FnCross", spec := "fnCross", apart := false, narrowed := true }
def FnCrossUptoSaid : Prop := fnCrossUptoRow.holds Try.pinned (OpenSpec.upto fnCrossSpec)

/-- 'laws.FnExactGainsOf', WHERE WHAT IT READS IS OF BULK AT MOST 1048576: true; the input reads as it did. -/
def fnExactGainsOfUptoRow : OpenClaim := { program := "ytbjhjdkgegilcaa", sum := "a79655be761f7c17c44be123706fa1f501297b0ec0ef2adeb1562ec14e240ef0", func := "loop.example/g03407/laws.FnExactGainsOf", spec := "fnExactGainsOf", apart := false, narrowed := true }
def FnExactGainsOfUptoSaid : Prop := fnExactGainsOfUptoRow.holds Try.pinned (OpenSpec.upto fnExactGainsOfSpec)

/-- 'laws.FnGains', WHERE WHAT IT READS IS OF BULK AT MOST 1048576: true; the input reads as it did. -/
def fnGainsUptoRow : OpenClaim := { program := "ytbjhjdkgegilcaa", sum := "a79655be761f7c17c44be123706fa1f501297b0ec0ef2adeb1562ec14e240ef0", func := "loop.example/g03407/laws.FnGains", spec := "fnGains", apart := false, narrowed := true }
def FnGainsUptoSaid : Prop := fnGainsUptoRow.holds Try.pinned (OpenSpec.upto fnGainsSpec)

/-- 'laws.FnClaims', WHERE WHAT IT READS IS OF BULK AT MOST 1048576: true; the input reads as it did. -/
def fnClaimsUptoRow : OpenClaim := { program := "ytbjhjdkgegilcaa", sum := "a79655be761f7c17c44be123706fa1f501297b0ec0ef2adeb1562ec14e240ef0", func := "loop.example/g03407/laws.FnClaims", spec := "fnClaims", apart := false, narrowed := true }
def FnClaimsUptoSaid : Prop := fnClaimsUptoRow.holds Try.pinned (OpenSpec.upto fnClaimsSpec)

end Rows
end Go.Proofs.Ytbjhjdkgegilcaa
