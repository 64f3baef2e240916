-- Written by wip/gen/lay.py, a program of this session, with the kit's print as its base. Lean checks every line.
import Derived.Test.YtpkeckfckfhdaaaProg
import Derived.Below
import Derived.Deep.Draws
import Derived.Deep.AppendLies
import Derived.Maps.AppendAt
import Derived.OwnWalk
import Derived.Laws.BytesArg
import Derived.Laws.MakeOwn
import Derived.Laws.OwnMore
import Derived.Deep.OwnRows
import Derived.Tactics
import Derived.Lib.ConvBytes
import Derived.Laws.Slices
import Derived.WalkKit
import Derived.KernelRfl
import Derived.RowKit3
import Derived.Deep.LoopGhost
import Derived.Deep.QuietTactic
import Derived.BigQuiet
import Derived.WideLaws
import Derived.Deep.DeepCutAuto
import Derived.Deep.CutBlock
import Derived.Deep.RegionHeld3
import Derived.Laws.Rows
import Derived.Lib.AppendStr
import Derived.ArgAppend
import Derived.Laws.IdiomCopy
import Derived.OrdersHeld
import Derived.Laws.BitsLemmas
import Derived.RowKit
import Derived.Shelf.Abstract
import Derived.Test.YtpkeckfckfhdaaaHPlain
import Derived.Test.YtpkeckfckfhdaaaHRel
import Derived.Test.YtpkeckfckfhdaaaWWords
import Derived.Test.YtpkeckfckfhdaaaWLast
import Derived.Test.YtpkeckfckfhdaaaWTab
import Derived.Test.YtpkeckfckfhdaaaWFour
import Derived.Test.YtpkeckfckfhdaaaWQPut
import Derived.Test.YtpkeckfckfhdaaaWApart
import Derived.Test.YtpkeckfckfhdaaaWArr
import Derived.Test.YtpkeckfckfhdaaaWZeros
import Derived.Test.YtpkeckfckfhdaaaWFoot
import Derived.Test.YtpkeckfckfhdaaaWKept
import Derived.Test.YtpkeckfckfhdaaaWShare
import Derived.Test.YtpkeckfckfhdaaaWN
import Derived.Test.YtpkeckfckfhdaaaWFootNe
import Derived.Test.YtpkeckfckfhdaaaWAt
import Derived.Test.YtpkeckfckfhdaaaWEqStruct
import Derived.Test.YtpkeckfckfhdaaaWRepsOne
import Derived.Test.YtpkeckfckfhdaaaWInv
import Derived.Test.YtpkeckfckfhdaaaWInvWords
import Derived.Test.YtpkeckfckfhdaaaWGuard
import Derived.Test.YtpkeckfckfhdaaaWNEv
import Derived.Test.YtpkeckfckfhdaaaWMore
namespace Go.Proofs.Ytpkeckfckfhdaaa.P
open Go.RowKit Go.Proofs.YtpkeckfckfhdaaaW.PrintWords Go.Proofs.YtpkeckfckfhdaaaW.PrintLast Go.Proofs.YtpkeckfckfhdaaaW.PrintMore
attribute [local go_sem] max2_int min2_int max_two min_two max_three min_three max_four min_four   -- for this text's walks alone
set_option linter.unusedVariables false
set_option linter.unusedSimpArgs false



def errW : Option Int → Value
  | none => .nilIface
  | some c => .iface 0 (.int .i64 c)
theorem errW_none : errW none = .nilIface := rfl
theorem errW_some (c : Int) : errW (some c) = .iface 0 (.int .i64 c) := rfl

theorem info3 : (Try.prog.info? 3).map (fun i => (i.zero, i.size, i.bytes)) = some (some (.int .i64 0), 1, 8) := by kernel_rfl
theorem info5 : (Try.prog.info? 5).map (fun i => (i.zero, i.size, i.bytes)) = some (some (.int .u8 0), 1, 1) := by kernel_rfl
-- the values' own types

end Go.Proofs.Ytpkeckfckfhdaaa.P
