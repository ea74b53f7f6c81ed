/- All that NumberRounds reaches. -/
import Derived.Test.YtgecbfemlpmpeaaSNumberRounds0
import Derived.Test.YtgecbfemlpmpeaaSNumberRounds1
import Derived.Test.YtgecbfemlpmpeaaSNumberRounds2
import Derived.Test.YtgecbfemlpmpeaaSNumberRounds3
import Derived.Test.YtgecbfemlpmpeaaSNumberRounds4
import Derived.Test.YtgecbfemlpmpeaaSNumberRounds6
namespace Go.Proofs.Ytgecbfemlpmpeaa.SNumberRounds
end Go.Proofs.Ytgecbfemlpmpeaa.SNumberRounds
