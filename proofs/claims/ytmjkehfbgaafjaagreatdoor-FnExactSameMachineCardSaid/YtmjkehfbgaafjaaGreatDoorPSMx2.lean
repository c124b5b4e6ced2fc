-- laid by a program of this session out of the translation's own print: Lean checks it
import Derived.Test.YtmjkehfbgaafjaaGreatDoorPSMx0
namespace Go.Proofs.YtmjkehfbgaafjaaGreatDoor.PSM
open Go.RowKit Go.Proofs.YtmjkehfbgaafjaaGreatDoorW.PrintWords Go.Proofs.YtmjkehfbgaafjaaGreatDoorW.PrintLast Go.Proofs.YtmjkehfbgaafjaaGreatDoorW.PrintMore
attribute [local go_sem] max2_int min2_int max_two min_two max_three min_three max_four min_four -- for this text's walks alone
set_option linter.unusedVariables false
set_option linter.unusedSimpArgs false

theorem eqA75 (d:Nat) (w:World) (x0 y0:ByteArray) (x1 y1 x2 y2:Int):
  (Op.equalIn (d+2) 75 (.agg #[.string x0,.int .i64 x1,.int .i64 x2]) (.agg #[.string y0,.int .i64 y1,.int .i64 y2])).run Tryz.prog w= .ok (x0.toList==y0.toList&&(x1==y1&&(x2==y2))) w:=by
 refine eqA_of Tryz.underlying75 (by kernel_rfl) ?_;refine eqf_cons (by rfl) (by go_simp;rfl) (by go_simp;rfl) (by go_simp) ?_;refine eqf_cons (by rfl) (by go_simp;rfl) (by go_simp;rfl) (by go_simp) ?_;exact eqf_last (by rfl) (by go_simp;rfl) (by go_simp;rfl) (by go_simp)
end Go.Proofs.YtmjkehfbgaafjaaGreatDoor.PSM
