import Derived.Test.YtahdahfafmpanaaHFnExactNewRegsx
namespace Go.Proofs.Ytahdahfafmpanaa.Pure
/-- FnExactNewRegs, the plain law: the walk is closed, the law answers true. -/
theorem FnExactNewRegs : HFnExactNewRegs.laws_FnExactNewRegs.Pure := rfl
end Go.Proofs.Ytahdahfafmpanaa.Pure
