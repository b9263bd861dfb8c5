-- Lines written for this claim by a program of this session (wip/print). Lean checks them.
import Derived.Test.YthaoaaboempajaaProg
import Derived.Below
import Derived.Deep.Draws
import Derived.Deep.AppendLies
import Derived.Maps.AppendAt
import Derived.OwnWalk
import Derived.Laws.BytesArg
import Derived.Laws.MakeOwn
import Derived.Laws.OwnMore
import Derived.Deep.OwnRows
import Derived.Tactics
import Derived.Lib.ConvBytes
import Derived.Laws.Slices
import Derived.WalkKit
import Derived.KernelRfl
import Derived.RowKit3
import Derived.Deep.LoopGhost
import Derived.Deep.QuietTactic
import Derived.BigQuiet
import Derived.WideLaws
import Derived.Deep.DeepCutAuto
import Derived.Deep.CutBlock
import Derived.Deep.RegionHeld3
import Derived.Laws.Rows
import Derived.Lib.AppendStr
import Derived.ArgAppend
import Derived.Laws.IdiomCopy
import Derived.OrdersHeld
import Derived.Laws.BitsLemmas
import Derived.RowKit
import Derived.Test.YthaoaaboempajaaShelf
import Derived.Test.YthaoaaboempajaaX
import Derived.Laws.CopyOwn
import Derived.Lib.BufferWrite
import Derived.OpenShut
import Derived.Test.YthaoaaboempajaaWWords
import Derived.Test.YthaoaaboempajaaWLast
import Derived.Test.YthaoaaboempajaaWTab
import Derived.Test.YthaoaaboempajaaWFour
import Derived.Test.YthaoaaboempajaaWQPut
import Derived.Test.YthaoaaboempajaaWApart
import Derived.Test.YthaoaaboempajaaWArr
import Derived.Test.YthaoaaboempajaaWZeros
import Derived.Test.YthaoaaboempajaaWFoot
import Derived.Test.YthaoaaboempajaaWKept
import Derived.Test.YthaoaaboempajaaWShare
import Derived.Test.YthaoaaboempajaaWN
import Derived.Test.YthaoaaboempajaaWFootNe
import Derived.Test.YthaoaaboempajaaWAt
import Derived.Test.YthaoaaboempajaaWEqStruct
import Derived.Test.YthaoaaboempajaaWRepsOne
import Derived.Test.YthaoaaboempajaaWInv
import Derived.Test.YthaoaaboempajaaWInvWords
import Derived.Test.YthaoaaboempajaaWGuard
import Derived.Test.YthaoaaboempajaaWNEv
import Derived.Test.YthaoaaboempajaaWMore
namespace Go.Proofs.Ythaoaaboempajaa.QValueLaws
open Go.RowKit Go.Proofs.YthaoaaboempajaaW.PrintWords Go.Proofs.YthaoaaboempajaaW.PrintLast Go.Proofs.YthaoaaboempajaaW.PrintMore Go.Proofs.YthaoaaboempajaaX
attribute [local go_sem] max2_int min2_int max_two min_two max_three min_three max_four min_four   -- for this text's walks alone
set_option linter.unusedVariables false
set_option linter.unusedSimpArgs false



def errW : Option Int → Value
  | none => .nilIface
  | some c => .iface 0 (.int .i64 c)
theorem errW_none : errW none = .nilIface := rfl
theorem errW_some (c : Int) : errW (some c) = .iface 0 (.int .i64 c) := rfl

-- the values' own types

end Go.Proofs.Ythaoaaboempajaa.QValueLaws
