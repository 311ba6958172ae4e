-- Written by a program of this session's (an extension of the kit's print)
import Derived.Test.YtlafaiacbebfnaaPKvReadsx0
namespace Go.Proofs.Ytlafaiacbebfnaa.PKvReads
open Go.RowKit Go.Proofs.YtlafaiacbebfnaaW.PrintWords Go.Proofs.YtlafaiacbebfnaaW.PrintLast Go.Proofs.YtlafaiacbebfnaaW.PrintMore
attribute [local go_sem] max2_int min2_int max_two min_two max_three min_three max_four min_four   -- for this text's walks alone
set_option linter.unusedVariables false
set_option linter.unusedSimpArgs false

theorem eqA68 (d : Nat) (w : World) (x0 y0 x1 y1 x2 y2 x3 y3 x4 y4 : Int) :
    (Op.equalIn (d + 2) 68 (.agg #[.int .i64 x0, .int .i64 x1, .int .i64 x2, .int .i64 x3, .int .i64 x4]) (.agg #[.int .i64 y0, .int .i64 y1, .int .i64 y2, .int .i64 y3, .int .i64 y4])).run Try.prog w = .ok (x0 == y0 && (x1 == y1 && (x2 == y2 && (x3 == y3 && (x4 == y4))))) w := by
  obtain ⟨i0, hi0, _, _, _⟩ := info_parts (show (Try.prog.info? 44).map (fun i => (i.zero, i.size, i.bytes)) = some (some (.int .i64 0), 1, 8) from by kernel_rfl)
  rw [run_equalIn_array w (d + 1) _ _ Try.underlying68 hi0, show Try.prog.cellsOf 44 = 1 from by kernel_rfl]
  show (Op.eqItems (d + 1) 44 1 _ _ [0, 1, 2, 3, 4]).run Try.prog w = _
  refine eqi_cons (by go_simp; rfl) (by go_simp; rfl) (by go_simp) ?_
  refine eqi_cons (by go_simp; rfl) (by go_simp; rfl) (by go_simp) ?_
  refine eqi_cons (by go_simp; rfl) (by go_simp; rfl) (by go_simp) ?_
  refine eqi_cons (by go_simp; rfl) (by go_simp; rfl) (by go_simp) ?_
  exact eqi_last (by go_simp; rfl) (by go_simp; rfl) (by go_simp)
end Go.Proofs.Ytlafaiacbebfnaa.PKvReads
