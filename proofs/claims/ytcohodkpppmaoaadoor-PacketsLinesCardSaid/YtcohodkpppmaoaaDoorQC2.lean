-- Written by a program of this session (wip/qprint.py) out of the translation; Lean checks it.
import Derived.Test.YtcohodkpppmaoaaDoorQT0
namespace Go.Proofs.YtcohodkpppmaoaaDoor.Q
open Go.RowKit Go.Proofs.YtcohodkpppmaoaaDoorW.PrintWords Go.Proofs.YtcohodkpppmaoaaDoorW.PrintLast Go.Proofs.YtcohodkpppmaoaaDoorW.PrintMore
attribute [local go_sem] max2_int min2_int max_two min_two max_three min_three max_four min_four   -- for this text's walks alone
set_option linter.unusedVariables false
set_option linter.unusedSimpArgs false

theorem eqA93 (d : Nat) (w : World) (x0 y0 : ByteArray) (x1 y1 : Int) :
    (Op.equalIn (d + 2) 93 (.agg #[.string x0, .int .u32 x1]) (.agg #[.string y0, .int .u32 y1])).run Tryd.prog w = .ok (x0.toList == y0.toList && (x1 == y1)) w := by
  refine eqA_of Tryd.underlying93 (by kernel_rfl) ?_
  refine eqf_cons (by rfl) (by go_simp; rfl) (by go_simp; rfl) (by go_simp) ?_
  exact eqf_last (by rfl) (by go_simp; rfl) (by go_simp; rfl) (by go_simp)
end Go.Proofs.YtcohodkpppmaoaaDoor.Q
