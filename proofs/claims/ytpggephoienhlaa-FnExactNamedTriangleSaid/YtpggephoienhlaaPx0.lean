-- Written by wip/gen/lay.py, a program of this session, with the kit's print as its base. Lean checks every line.
import Derived.Test.YtpggephoienhlaaProg
import Derived.Below
import Derived.Deep.Draws
import Derived.Deep.AppendLies
import Derived.Maps.AppendAt
import Derived.OwnWalk
import Derived.Laws.BytesArg
import Derived.Laws.MakeOwn
import Derived.Laws.OwnMore
import Derived.Deep.OwnRows
import Derived.Tactics
import Derived.Lib.ConvBytes
import Derived.Laws.Slices
import Derived.WalkKit
import Derived.KernelRfl
import Derived.RowKit3
import Derived.Deep.LoopGhost
import Derived.Deep.QuietTactic
import Derived.BigQuiet
import Derived.WideLaws
import Derived.Deep.DeepCutAuto
import Derived.Deep.CutBlock
import Derived.Deep.RegionHeld3
import Derived.Laws.Rows
import Derived.Lib.AppendStr
import Derived.ArgAppend
import Derived.Laws.IdiomCopy
import Derived.OrdersHeld
import Derived.Laws.BitsLemmas
import Derived.RowKit
import Derived.Shelf.Abstract
import Derived.Test.YtpggephoienhlaaHPlain
import Derived.Test.YtpggephoienhlaaHRel
import Derived.Test.YtpggephoienhlaaWWords
import Derived.Test.YtpggephoienhlaaWLast
import Derived.Test.YtpggephoienhlaaWTab
import Derived.Test.YtpggephoienhlaaWFour
import Derived.Test.YtpggephoienhlaaWQPut
import Derived.Test.YtpggephoienhlaaWApart
import Derived.Test.YtpggephoienhlaaWArr
import Derived.Test.YtpggephoienhlaaWZeros
import Derived.Test.YtpggephoienhlaaWFoot
import Derived.Test.YtpggephoienhlaaWKept
import Derived.Test.YtpggephoienhlaaWShare
import Derived.Test.YtpggephoienhlaaWN
import Derived.Test.YtpggephoienhlaaWFootNe
import Derived.Test.YtpggephoienhlaaWAt
import Derived.Test.YtpggephoienhlaaWEqStruct
import Derived.Test.YtpggephoienhlaaWRepsOne
import Derived.Test.YtpggephoienhlaaWInv
import Derived.Test.YtpggephoienhlaaWInvWords
import Derived.Test.YtpggephoienhlaaWGuard
import Derived.Test.YtpggephoienhlaaWNEv
import Derived.Test.YtpggephoienhlaaWMore
namespace Go.Proofs.Ytpggephoienhlaa.P
open Go.RowKit Go.Proofs.YtpggephoienhlaaW.PrintWords Go.Proofs.YtpggephoienhlaaW.PrintLast Go.Proofs.YtpggephoienhlaaW.PrintMore
attribute [local go_sem] max2_int min2_int max_two min_two max_three min_three max_four min_four   -- for this text's walks alone
set_option linter.unusedVariables false
set_option linter.unusedSimpArgs false



def errW : Option Int → Value
  | none => .nilIface
  | some c => .iface 0 (.int .i64 c)
theorem errW_none : errW none = .nilIface := rfl
theorem errW_some (c : Int) : errW (some c) = .iface 0 (.int .i64 c) := rfl

theorem info3 : (Try.prog.info? 3).map (fun i => (i.zero, i.size, i.bytes)) = some (some (.int .i64 0), 1, 8) := by kernel_rfl
theorem info5 : (Try.prog.info? 5).map (fun i => (i.zero, i.size, i.bytes)) = some (some (.int .u8 0), 1, 1) := by kernel_rfl
theorem info9 : (Try.prog.info? 9).map (fun i => (i.zero, i.size, i.bytes)) = some (some (.string ⟨#[]⟩), 1, 16) := by kernel_rfl
-- the values' own types

end Go.Proofs.Ytpggephoienhlaa.P
