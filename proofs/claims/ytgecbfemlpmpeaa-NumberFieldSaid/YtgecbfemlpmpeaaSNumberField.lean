/- All that NumberField reaches. -/
import Derived.Test.YtgecbfemlpmpeaaSNumberField0
import Derived.Test.YtgecbfemlpmpeaaSNumberField1
import Derived.Test.YtgecbfemlpmpeaaSNumberField2
import Derived.Test.YtgecbfemlpmpeaaSNumberField3
import Derived.Test.YtgecbfemlpmpeaaSNumberField4
import Derived.Test.YtgecbfemlpmpeaaSNumberField6
namespace Go.Proofs.Ytgecbfemlpmpeaa.SNumberField
end Go.Proofs.Ytgecbfemlpmpeaa.SNumberField
