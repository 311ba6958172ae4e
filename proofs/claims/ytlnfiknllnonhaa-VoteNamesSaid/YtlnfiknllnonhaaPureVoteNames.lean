import Derived.Test.YtlnfiknllnonhaaPVoteNamesx3
import Derived.KernelRfl
namespace Go.Proofs.Ytlnfiknllnonhaa.Pure
open Go.RowKit Go.Proofs.Ytlnfiknllnonhaa.PVoteNames Go.Proofs.YtlnfiknllnonhaaW.PrintWords Go.Proofs.YtlnfiknllnonhaaW.PrintLast Go.Proofs.YtlnfiknllnonhaaW.PrintMore

/-- YOURS: ∃ k, catenarylaw06_VoteNames.f k  = some true -/
theorem VoteNames : catenarylaw06_VoteNames.Pure := by
  refine ⟨60, ?_⟩
  kernel_rfl
end Go.Proofs.Ytlnfiknllnonhaa.Pure
