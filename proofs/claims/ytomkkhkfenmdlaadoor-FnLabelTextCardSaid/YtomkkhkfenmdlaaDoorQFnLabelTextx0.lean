/- Contracts of the Go functions that this law reaches: each does what its plain Lean function says. No condition. -/
import Derived.Test.YtomkkhkfenmdlaaDoorProg
import Derived.Below
import Derived.Deep.Draws
import Derived.Deep.AppendLies
import Derived.Maps.AppendAt
import Derived.OwnWalk
import Derived.Laws.BytesArg
import Derived.Laws.MakeOwn
import Derived.Laws.OwnMore
import Derived.Deep.OwnRows
import Derived.Tactics
import Derived.Lib.ConvBytes
import Derived.Laws.Slices
import Derived.WalkKit
import Derived.KernelRfl
import Derived.RowKit3
import Derived.Deep.LoopGhost
import Derived.Deep.QuietTactic
import Derived.BigQuiet
import Derived.WideLaws
import Derived.Deep.DeepCutAuto
import Derived.Deep.CutBlock
import Derived.Deep.RegionHeld3
import Derived.Laws.Rows
import Derived.Lib.AppendStr
import Derived.ArgAppend
import Derived.Laws.IdiomCopy
import Derived.OrdersHeld
import Derived.Laws.BitsLemmas
import Derived.RowKit
import Derived.Test.YtomkkhkfenmdlaaDoorWWords
import Derived.Test.YtomkkhkfenmdlaaDoorWLast
import Derived.Test.YtomkkhkfenmdlaaDoorWTab
import Derived.Test.YtomkkhkfenmdlaaDoorWFour
import Derived.Test.YtomkkhkfenmdlaaDoorWQPut
import Derived.Test.YtomkkhkfenmdlaaDoorWApart
import Derived.Test.YtomkkhkfenmdlaaDoorWArr
import Derived.Test.YtomkkhkfenmdlaaDoorWZeros
import Derived.Test.YtomkkhkfenmdlaaDoorWFoot
import Derived.Test.YtomkkhkfenmdlaaDoorWKept
import Derived.Test.YtomkkhkfenmdlaaDoorWShare
import Derived.Test.YtomkkhkfenmdlaaDoorWN
import Derived.Test.YtomkkhkfenmdlaaDoorWFootNe
import Derived.Test.YtomkkhkfenmdlaaDoorWAt
import Derived.Test.YtomkkhkfenmdlaaDoorWEqStruct
import Derived.Test.YtomkkhkfenmdlaaDoorWRepsOne
import Derived.Test.YtomkkhkfenmdlaaDoorWInv
import Derived.Test.YtomkkhkfenmdlaaDoorWInvWords
import Derived.Test.YtomkkhkfenmdlaaDoorWGuard
import Derived.Test.YtomkkhkfenmdlaaDoorWNEv
import Derived.Test.YtomkkhkfenmdlaaDoorWMore
namespace Go.Proofs.YtomkkhkfenmdlaaDoor.QFnLabelText
open Go.RowKit Go.Proofs.YtomkkhkfenmdlaaDoorW.PrintWords Go.Proofs.YtomkkhkfenmdlaaDoorW.PrintLast Go.Proofs.YtomkkhkfenmdlaaDoorW.PrintMore
attribute [local go_sem] max2_int min2_int max_two min_two max_three min_three max_four min_four   -- for this text's walks alone
set_option linter.unusedVariables false
set_option linter.unusedSimpArgs false



def errW : Option Int → Value
  | none => .nilIface
  | some c => .iface 0 (.int .i64 c)
theorem errW_none : errW none = .nilIface := rfl
theorem errW_some (c : Int) : errW (some c) = .iface 0 (.int .i64 c) := rfl

theorem info3 : (Tryd.prog.info? 3).map (fun i => (i.zero, i.size, i.bytes)) = some (some (.int .i64 0), 1, 8) := by kernel_rfl
theorem info5 : (Tryd.prog.info? 5).map (fun i => (i.zero, i.size, i.bytes)) = some (some (.int .u8 0), 1, 1) := by kernel_rfl
theorem info9 : (Tryd.prog.info? 9).map (fun i => (i.zero, i.size, i.bytes)) = some (some (.string ⟨#[]⟩), 1, 16) := by kernel_rfl
-- the values' own types

end Go.Proofs.YtomkkhkfenmdlaaDoor.QFnLabelText
