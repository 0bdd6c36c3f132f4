import Derived.Test.YtepdnjjfhbjcjaaGreatDoorProg
import Derived.Below
import Derived.Deep.Draws
import Derived.Deep.AppendLies
import Derived.Maps.AppendAt
import Derived.OwnWalk
import Derived.Laws.BytesArg
import Derived.Laws.MakeOwn
import Derived.Laws.OwnMore
import Derived.Deep.OwnRows
import Derived.Tactics
import Derived.Lib.ConvBytes
import Derived.Laws.Slices
import Derived.WalkKit
import Derived.KernelRfl
import Derived.RowKit3
import Derived.Deep.LoopGhost
import Derived.Deep.QuietTactic
import Derived.BigQuiet
import Derived.WideLaws
import Derived.Deep.DeepCutAuto
import Derived.Deep.CutBlock
import Derived.Deep.RegionHeld3
import Derived.Laws.Rows
import Derived.Lib.AppendStr
import Derived.ArgAppend
import Derived.Laws.IdiomCopy
import Derived.OrdersHeld
import Derived.Laws.BitsLemmas
import Derived.RowKit
import Derived.Test.YtepdnjjfhbjcjaaGreatDoorC11
import Derived.Test.YtepdnjjfhbjcjaaGreatDoorC13
import Derived.Test.YtepdnjjfhbjcjaaGreatDoorC14
import Derived.Test.YtepdnjjfhbjcjaaGreatDoorC15
import Derived.Test.YtepdnjjfhbjcjaaGreatDoorC16
import Derived.Test.YtepdnjjfhbjcjaaGreatDoorC17
set_option linter.all false
section
namespace Go.Proofs.YtepdnjjfhbjcjaaGreatDoorPA
open Go.RowKit Go.Proofs.YtepdnjjfhbjcjaaGreatDoor.Inj Go.Proofs.YtepdnjjfhbjcjaaGreatDoorW.PrintWords Go.Proofs.YtepdnjjfhbjcjaaGreatDoorW.PrintLast Go.Proofs.YtepdnjjfhbjcjaaGreatDoorW.PrintMore
attribute [local go_sem] max2_int min2_int max_two min_two max_three min_three max_four min_four
set_option linter.unusedVariables false
set_option linter.unusedSimpArgs false
def errW : Option Int → Value
  | none => .nilIface
  | some c => .iface 0 (.int .i64 c)
theorem errW_none : errW none = .nilIface := rfl
theorem errW_some (c : Int) : errW (some c) = .iface 0 (.int .i64 c) := rfl
end Go.Proofs.YtepdnjjfhbjcjaaGreatDoorPA
end
section
namespace Go.Proofs.YtepdnjjfhbjcjaaGreatDoorPA
open Go.RowKit Go.Proofs.YtepdnjjfhbjcjaaGreatDoor.Inj Go.Proofs.YtepdnjjfhbjcjaaGreatDoorW.PrintWords Go.Proofs.YtepdnjjfhbjcjaaGreatDoorW.PrintLast Go.Proofs.YtepdnjjfhbjcjaaGreatDoorW.PrintMore
attribute [local go_sem] max2_int min2_int max_two min_two max_three min_three max_four min_four
set_option linter.unusedVariables false
set_option linter.unusedSimpArgs false
theorem eqA23 (d : Nat) (w : World) (x0 y0 : Int) (x1 y1 : Int) (x2 y2 : Int) (x3 y3 : Int) (x4 y4 : Int) :
    (Op.equalIn (d + 2) 23 (.agg #[.int .i64 x0, .int .i64 x1, .int .i64 x2, .int .i64 x3, .int .i64 x4]) (.agg #[.int .i64 y0, .int .i64 y1, .int .i64 y2, .int .i64 y3, .int .i64 y4])).run Tryz.prog w = .ok (x0 == y0 && (x1 == y1 && (x2 == y2 && (x3 == y3 && (x4 == y4))))) w := by
  refine eqA_of Tryz.underlying23 (by kernel_rfl) ?_
  refine eqf_cons (by rfl) (by go_simp; rfl) (by go_simp; rfl) (by go_simp) ?_
  refine eqf_cons (by rfl) (by go_simp; rfl) (by go_simp; rfl) (by go_simp) ?_
  refine eqf_cons (by rfl) (by go_simp; rfl) (by go_simp; rfl) (by go_simp) ?_
  refine eqf_cons (by rfl) (by go_simp; rfl) (by go_simp; rfl) (by go_simp) ?_
  exact eqf_last (by rfl) (by go_simp; rfl) (by go_simp; rfl) (by go_simp)
end Go.Proofs.YtepdnjjfhbjcjaaGreatDoorPA
end
