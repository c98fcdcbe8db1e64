import Derived.Test.YtahdahfafmpanaaHFnExactNewDevicex
namespace Go.Proofs.Ytahdahfafmpanaa.Pure
/-- FnExactNewDevice, the plain law: the walk is closed, the law answers true. -/
theorem FnExactNewDevice : HFnExactNewDevice.laws_FnExactNewDevice.Pure := rfl
end Go.Proofs.Ytahdahfafmpanaa.Pure
