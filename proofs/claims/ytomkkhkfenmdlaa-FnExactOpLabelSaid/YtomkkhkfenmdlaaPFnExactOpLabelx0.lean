-- PRINTED BY print.sh 35421559b90ae4d0a3588c463048766b98c2df88dd9212a6774a882060cdf62d: not written by this session
import Derived.Test.YtomkkhkfenmdlaaProg
import Derived.Below
import Derived.Deep.Draws
import Derived.Deep.AppendLies
import Derived.Maps.AppendAt
import Derived.OwnWalk
import Derived.Laws.BytesArg
import Derived.Laws.MakeOwn
import Derived.Laws.OwnMore
import Derived.Deep.OwnRows
import Derived.Tactics
import Derived.Lib.ConvBytes
import Derived.Laws.Slices
import Derived.WalkKit
import Derived.KernelRfl
import Derived.RowKit3
import Derived.Deep.LoopGhost
import Derived.Deep.QuietTactic
import Derived.BigQuiet
import Derived.WideLaws
import Derived.Deep.DeepCutAuto
import Derived.Deep.CutBlock
import Derived.Deep.RegionHeld3
import Derived.Laws.Rows
import Derived.Lib.AppendStr
import Derived.ArgAppend
import Derived.Laws.IdiomCopy
import Derived.OrdersHeld
import Derived.Laws.BitsLemmas
import Derived.RowKit
import Derived.Test.YtomkkhkfenmdlaaWWords
import Derived.Test.YtomkkhkfenmdlaaWLast
import Derived.Test.YtomkkhkfenmdlaaWTab
import Derived.Test.YtomkkhkfenmdlaaWFour
import Derived.Test.YtomkkhkfenmdlaaWQPut
import Derived.Test.YtomkkhkfenmdlaaWApart
import Derived.Test.YtomkkhkfenmdlaaWArr
import Derived.Test.YtomkkhkfenmdlaaWZeros
import Derived.Test.YtomkkhkfenmdlaaWFoot
import Derived.Test.YtomkkhkfenmdlaaWKept
import Derived.Test.YtomkkhkfenmdlaaWShare
import Derived.Test.YtomkkhkfenmdlaaWN
import Derived.Test.YtomkkhkfenmdlaaWFootNe
import Derived.Test.YtomkkhkfenmdlaaWAt
import Derived.Test.YtomkkhkfenmdlaaWEqStruct
import Derived.Test.YtomkkhkfenmdlaaWRepsOne
import Derived.Test.YtomkkhkfenmdlaaWInv
import Derived.Test.YtomkkhkfenmdlaaWInvWords
import Derived.Test.YtomkkhkfenmdlaaWGuard
import Derived.Test.YtomkkhkfenmdlaaWNEv
import Derived.Test.YtomkkhkfenmdlaaWMore
namespace Go.Proofs.Ytomkkhkfenmdlaa.PFnExactOpLabel
open Go.RowKit Go.Proofs.YtomkkhkfenmdlaaW.PrintWords Go.Proofs.YtomkkhkfenmdlaaW.PrintLast Go.Proofs.YtomkkhkfenmdlaaW.PrintMore
attribute [local go_sem] max2_int min2_int max_two min_two max_three min_three max_four min_four   -- for this text's walks alone
set_option linter.unusedVariables false
set_option linter.unusedSimpArgs false



def errW : Option Int → Value
  | none => .nilIface
  | some c => .iface 0 (.int .i64 c)
theorem errW_none : errW none = .nilIface := rfl
theorem errW_some (c : Int) : errW (some c) = .iface 0 (.int .i64 c) := rfl

-- the values' own types

end Go.Proofs.Ytomkkhkfenmdlaa.PFnExactOpLabel
