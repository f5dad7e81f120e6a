-- Out of texts of this seat by a program of this session: what the claim does not reach is struck
import Derived.Test.YtcgpfclmcajekaaZPEventBackx0
namespace Go.Proofs.Ytcgpfclmcajekaa.PEventBack
open Go.RowKit Go.Proofs.YtcgpfclmcajekaaW.PrintWords Go.Proofs.YtcgpfclmcajekaaW.PrintLast Go.Proofs.YtcgpfclmcajekaaW.PrintMore
attribute [local go_sem] max2_int min2_int max_two min_two max_three min_three max_four min_four
set_option linter.unusedVariables false
set_option linter.unusedSimpArgs false
theorem eqA37 (d : Nat) (w : World) (x0 y0 : Int) (x1 y1 : Bool) (x2 y2 : Int) (x3 y3 : ByteArray) :
    (Op.equalIn (d + 2) 37 (.agg #[.int .i64 x0, .bool x1, .int .u64 x2, .string x3]) (.agg #[.int .i64 y0, .bool y1, .int .u64 y2, .string y3])).run Try.prog w = .ok (x0 == y0 && (x1 == y1 && (x2 == y2 && (x3.toList == y3.toList)))) w := by
  refine eqA_of Try.underlying37 (by kernel_rfl) ?_
  refine eqf_cons (by rfl) (by go_simp; rfl) (by go_simp; rfl) (by go_simp) ?_
  refine eqf_cons (by rfl) (by go_simp; rfl) (by go_simp; rfl) (by go_simp) ?_
  refine eqf_cons (by rfl) (by go_simp; rfl) (by go_simp; rfl) (by go_simp) ?_
  exact eqf_last (by rfl) (by go_simp; rfl) (by go_simp; rfl) (by go_simp)
end Go.Proofs.Ytcgpfclmcajekaa.PEventBack
