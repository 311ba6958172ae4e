/- The error, limits, kinds and codes have their numbers: the pure statement. -/
import Derived.Test.YtlafaiacbebfnaaPKvNamesx7
namespace Go.Proofs.Ytlafaiacbebfnaa.Pure
open Go.RowKit Go.Proofs.Ytlafaiacbebfnaa.PKvNames Go.Proofs.YtlafaiacbebfnaaW.PrintWords Go.Proofs.YtlafaiacbebfnaaW.PrintLast Go.Proofs.YtlafaiacbebfnaaW.PrintMore
theorem alive : catenarylaw07_kvAlive.f 60 = some true := by kernel_rfl
theorem KvNames : catenarylaw07_KvNames.Pure := by
  refine ⟨60, ?_⟩
  unfold catenarylaw07_KvNames.f
  rw [alive]
  rfl
end Go.Proofs.Ytlafaiacbebfnaa.Pure
