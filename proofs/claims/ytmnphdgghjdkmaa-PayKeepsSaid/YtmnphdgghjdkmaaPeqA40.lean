/- A function of the program as a Lean function, and the proof that the code comes to its answers; written by a program of this session, a changed copy of the print of the kit. -/
import Derived.Test.YtmnphdgghjdkmaaP0
import Derived.Test.YtmnphdgghjdkmaaPeqA24
namespace Go.Proofs.Ytmnphdgghjdkmaa.P
open Go.RowKit Go.Proofs.YtmnphdgghjdkmaaW.PrintWords Go.Proofs.YtmnphdgghjdkmaaW.PrintLast Go.Proofs.YtmnphdgghjdkmaaW.PrintMore
attribute [local go_sem] max2_int min2_int max_two min_two max_three min_three max_four min_four   -- for this text's walks alone
set_option linter.unusedVariables false
set_option linter.unusedSimpArgs false

theorem eqA40 (d : Nat) (w : World) (x0 y0 : ByteArray) (x1 y1 : Int) (x2 y2 : Int) (x3 y3 : Int) (x4 y4 : Int) (x5 y5 : Int) (x6 y6 : ByteArray) (x7 y7 : ByteArray) :
    (Op.equalIn (d + 3) 40 (.agg #[.string x0, .int .u64 x1, .int .u64 x2, .int .u64 x3, .int .u64 x4, .int .i64 x5, .string x6, .string x7]) (.agg #[.string y0, .int .u64 y1, .int .u64 y2, .int .u64 y3, .int .u64 y4, .int .i64 y5, .string y6, .string y7])).run Try.prog w = .ok (x0.toList == y0.toList && ((x1 == y1 && (x2 == y2 && (x3 == y3 && (x4 == y4)))) && (x5 == y5 && (x6.toList == y6.toList && (x7.toList == y7.toList))))) w := by
  refine eqA_of Try.underlying40 (by kernel_rfl) ?_
  refine eqf_cons (by rfl) (by go_simp; rfl) (by go_simp; rfl) (by go_simp) ?_
  refine eqf_cons (by rfl) (by go_simp) (by go_simp) (eqA24 (d + 0) w _ _ _ _ _ _ _ _) ?_
  refine eqf_cons (by rfl) (by go_simp; rfl) (by go_simp; rfl) (by go_simp) ?_
  refine eqf_cons (by rfl) (by go_simp; rfl) (by go_simp; rfl) (by go_simp) ?_
  exact eqf_last (by rfl) (by go_simp; rfl) (by go_simp; rfl) (by go_simp)
end Go.Proofs.Ytmnphdgghjdkmaa.P
