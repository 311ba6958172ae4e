/- The kinds, errors and limits have their names: the pure statement, a closed one. -/
import Derived.Test.YtkomibcmpckflaaPLeaseNamesx7
namespace Go.Proofs.Ytkomibcmpckflaa.Pure
open Go.RowKit Go.Proofs.Ytkomibcmpckflaa.PLeaseNames Go.Proofs.YtkomibcmpckflaaW.PrintWords Go.Proofs.YtkomibcmpckflaaW.PrintLast Go.Proofs.YtkomibcmpckflaaW.PrintMore
theorem LeaseNames : catenarylaw08_LeaseNames.Pure := by
  refine ⟨60, ?_⟩
  kernel_rfl
end Go.Proofs.Ytkomibcmpckflaa.Pure
