-- Written by xprint.py (a program of this repo) for seat Ythimfdojpgbmbaa.
import Derived.Test.YthimfdojpgbmbaaProg
import Derived.Below
import Derived.Deep.Draws
import Derived.Deep.AppendLies
import Derived.Maps.AppendAt
import Derived.OwnWalk
import Derived.Laws.BytesArg
import Derived.Laws.MakeOwn
import Derived.Laws.OwnMore
import Derived.Deep.OwnRows
import Derived.Tactics
import Derived.Lib.ConvBytes
import Derived.Laws.Slices
import Derived.WalkKit
import Derived.KernelRfl
import Derived.RowKit3
import Derived.Deep.LoopGhost
import Derived.Deep.QuietTactic
import Derived.BigQuiet
import Derived.WideLaws
import Derived.Deep.DeepCutAuto
import Derived.Deep.CutBlock
import Derived.Deep.RegionHeld3
import Derived.Laws.Rows
import Derived.Lib.AppendStr
import Derived.ArgAppend
import Derived.Laws.IdiomCopy
import Derived.OrdersHeld
import Derived.Laws.BitsLemmas
import Derived.RowKit
import Derived.Lib.OthersKept
import Derived.WalkSpells
import Derived.Test.YthimfdojpgbmbaaWWords
import Derived.Test.YthimfdojpgbmbaaWLast
import Derived.Test.YthimfdojpgbmbaaWTab
import Derived.Test.YthimfdojpgbmbaaWFour
import Derived.Test.YthimfdojpgbmbaaWQPut
import Derived.Test.YthimfdojpgbmbaaWApart
import Derived.Test.YthimfdojpgbmbaaWArr
import Derived.Test.YthimfdojpgbmbaaWZeros
import Derived.Test.YthimfdojpgbmbaaWFoot
import Derived.Test.YthimfdojpgbmbaaWKept
import Derived.Test.YthimfdojpgbmbaaWShare
import Derived.Test.YthimfdojpgbmbaaWN
import Derived.Test.YthimfdojpgbmbaaWFootNe
import Derived.Test.YthimfdojpgbmbaaWAt
import Derived.Test.YthimfdojpgbmbaaWEqStruct
import Derived.Test.YthimfdojpgbmbaaWRepsOne
import Derived.Test.YthimfdojpgbmbaaWInv
import Derived.Test.YthimfdojpgbmbaaWInvWords
import Derived.Test.YthimfdojpgbmbaaWGuard
import Derived.Test.YthimfdojpgbmbaaWNEv
import Derived.Test.YthimfdojpgbmbaaWMore
namespace Go.Proofs.Ythimfdojpgbmbaa.X
open Go.RowKit Go.Proofs.YthimfdojpgbmbaaW.PrintWords Go.Proofs.YthimfdojpgbmbaaW.PrintLast Go.Proofs.YthimfdojpgbmbaaW.PrintMore
attribute [local go_sem] max2_int min2_int max_two min_two max_three min_three max_four min_four   -- for this text's walks alone
set_option linter.unusedVariables false
set_option linter.unusedSimpArgs false



def errW : Option Int → Value
  | none => .nilIface
  | some c => .iface 0 (.int .i64 c)
theorem errW_none : errW none = .nilIface := rfl
theorem errW_some (c : Int) : errW (some c) = .iface 0 (.int .i64 c) := rfl

-- the values' own types

end Go.Proofs.Ythimfdojpgbmbaa.X
