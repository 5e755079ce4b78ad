-- Printed by a program of this session (drv.py), by means of the kit's print.py.
import Derived.Test.YteaabcjkpjhjkaaProg
import Derived.Below
import Derived.Deep.Draws
import Derived.Deep.AppendLies
import Derived.Maps.AppendAt
import Derived.OwnWalk
import Derived.Laws.BytesArg
import Derived.Laws.MakeOwn
import Derived.Laws.OwnMore
import Derived.Deep.OwnRows
import Derived.Tactics
import Derived.Lib.ConvBytes
import Derived.Laws.Slices
import Derived.WalkKit
import Derived.KernelRfl
import Derived.RowKit3
import Derived.Deep.LoopGhost
import Derived.Deep.QuietTactic
import Derived.BigQuiet
import Derived.WideLaws
import Derived.Deep.DeepCutAuto
import Derived.Deep.CutBlock
import Derived.Deep.RegionHeld3
import Derived.Laws.Rows
import Derived.Lib.AppendStr
import Derived.ArgAppend
import Derived.Laws.IdiomCopy
import Derived.OrdersHeld
import Derived.Laws.BitsLemmas
import Derived.RowKit
import Derived.Test.YteaabcjkpjhjkaaWWords
import Derived.Test.YteaabcjkpjhjkaaWLast
import Derived.Test.YteaabcjkpjhjkaaWTab
import Derived.Test.YteaabcjkpjhjkaaWFour
import Derived.Test.YteaabcjkpjhjkaaWQPut
import Derived.Test.YteaabcjkpjhjkaaWApart
import Derived.Test.YteaabcjkpjhjkaaWArr
import Derived.Test.YteaabcjkpjhjkaaWZeros
import Derived.Test.YteaabcjkpjhjkaaWFoot
import Derived.Test.YteaabcjkpjhjkaaWKept
import Derived.Test.YteaabcjkpjhjkaaWShare
import Derived.Test.YteaabcjkpjhjkaaWN
import Derived.Test.YteaabcjkpjhjkaaWFootNe
import Derived.Test.YteaabcjkpjhjkaaWAt
import Derived.Test.YteaabcjkpjhjkaaWEqStruct
import Derived.Test.YteaabcjkpjhjkaaWRepsOne
import Derived.Test.YteaabcjkpjhjkaaWInv
import Derived.Test.YteaabcjkpjhjkaaWInvWords
import Derived.Test.YteaabcjkpjhjkaaWGuard
import Derived.Test.YteaabcjkpjhjkaaWNEv
import Derived.Test.YteaabcjkpjhjkaaWMore
namespace Go.Proofs.Yteaabcjkpjhjkaa.P
open Go.RowKit Go.Proofs.YteaabcjkpjhjkaaW.PrintWords Go.Proofs.YteaabcjkpjhjkaaW.PrintLast Go.Proofs.YteaabcjkpjhjkaaW.PrintMore
attribute [local go_sem] max2_int min2_int max_two min_two max_three min_three max_four min_four   -- for this text's walks alone
set_option linter.unusedVariables false
set_option linter.unusedSimpArgs false



def errW : Option Int → Value
  | none => .nilIface
  | some c => .iface 0 (.int .i64 c)
theorem errW_none : errW none = .nilIface := rfl
theorem errW_some (c : Int) : errW (some c) = .iface 0 (.int .i64 c) := rfl

theorem info2 : (Try.prog.info? 2).map (fun i => (i.zero, i.size, i.bytes)) = some (some (.int .i64 0), 1, 8) := by kernel_rfl
-- the values' own types

end Go.Proofs.Yteaabcjkpjhjkaa.P
