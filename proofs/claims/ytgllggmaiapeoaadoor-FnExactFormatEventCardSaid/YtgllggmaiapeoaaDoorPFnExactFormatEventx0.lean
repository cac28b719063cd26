-- STUBBED: by the kit's print over a stand-in, then mended by programs of this session
import Derived.Test.YtgllggmaiapeoaaDoorProg
import Derived.Below
import Derived.Deep.Draws
import Derived.Deep.AppendLies
import Derived.Maps.AppendAt
import Derived.OwnWalk
import Derived.Laws.BytesArg
import Derived.Laws.MakeOwn
import Derived.Laws.OwnMore
import Derived.Deep.OwnRows
import Derived.Tactics
import Derived.Lib.ConvBytes
import Derived.Laws.Slices
import Derived.WalkKit
import Derived.KernelRfl
import Derived.RowKit3
import Derived.Deep.LoopGhost
import Derived.Deep.QuietTactic
import Derived.BigQuiet
import Derived.WideLaws
import Derived.Deep.DeepCutAuto
import Derived.Deep.CutBlock
import Derived.Deep.RegionHeld3
import Derived.Laws.Rows
import Derived.Lib.AppendStr
import Derived.ArgAppend
import Derived.Laws.IdiomCopy
import Derived.OrdersHeld
import Derived.Laws.BitsLemmas
import Derived.RowKit
import Derived.Test.YtgllggmaiapeoaaDoorWWords
import Derived.Test.YtgllggmaiapeoaaDoorWLast
import Derived.Test.YtgllggmaiapeoaaDoorWTab
import Derived.Test.YtgllggmaiapeoaaDoorWFour
import Derived.Test.YtgllggmaiapeoaaDoorWQPut
import Derived.Test.YtgllggmaiapeoaaDoorWApart
import Derived.Test.YtgllggmaiapeoaaDoorWArr
import Derived.Test.YtgllggmaiapeoaaDoorWZeros
import Derived.Test.YtgllggmaiapeoaaDoorWFoot
import Derived.Test.YtgllggmaiapeoaaDoorWKept
import Derived.Test.YtgllggmaiapeoaaDoorWShare
import Derived.Test.YtgllggmaiapeoaaDoorWN
import Derived.Test.YtgllggmaiapeoaaDoorWFootNe
import Derived.Test.YtgllggmaiapeoaaDoorWAt
import Derived.Test.YtgllggmaiapeoaaDoorWEqStruct
import Derived.Test.YtgllggmaiapeoaaDoorWRepsOne
import Derived.Test.YtgllggmaiapeoaaDoorWInv
import Derived.Test.YtgllggmaiapeoaaDoorWInvWords
import Derived.Test.YtgllggmaiapeoaaDoorWGuard
import Derived.Test.YtgllggmaiapeoaaDoorWNEv
import Derived.Test.YtgllggmaiapeoaaDoorWMore
namespace Go.Proofs.YtgllggmaiapeoaaDoor.PFnExactFormatEvent
open Go.RowKit Go.Proofs.YtgllggmaiapeoaaDoorW.PrintWords Go.Proofs.YtgllggmaiapeoaaDoorW.PrintLast Go.Proofs.YtgllggmaiapeoaaDoorW.PrintMore
attribute [local go_sem] max2_int min2_int max_two min_two max_three min_three max_four min_four   -- for this text's walks alone
set_option linter.unusedVariables false
set_option linter.unusedSimpArgs false



def errW : Option Int → Value
  | none => .nilIface
  | some c => .iface 0 (.int .i64 c)
theorem errW_none : errW none = .nilIface := rfl
theorem errW_some (c : Int) : errW (some c) = .iface 0 (.int .i64 c) := rfl

theorem info9 : (Tryd.prog.info? 9).map (fun i => (i.zero, i.size, i.bytes)) = some (some (.string ⟨#[]⟩), 1, 16) := by kernel_rfl
-- the values' own types

end Go.Proofs.YtgllggmaiapeoaaDoor.PFnExactFormatEvent
