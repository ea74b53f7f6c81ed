-- PRINTED BY print.sh 35421559b90ae4d0a3588c463048766b98c2df88dd9212a6774a882060cdf62d: not written by this session
import Derived.Test.YtgecbfemlpmpeaaPNumberTestsx0
import Derived.Test.YtgecbfemlpmpeaaPNumberTestsx1
import Derived.Test.YtgecbfemlpmpeaaPNumberTestsx2
import Derived.Test.YtgecbfemlpmpeaaPNumberTestsx3
import Derived.Test.YtgecbfemlpmpeaaPNumberTestsx4
import Derived.Test.YtgecbfemlpmpeaaPNumberTestsx5
import Derived.Test.YtgecbfemlpmpeaaPNumberTestsx6
import Derived.Test.YtgecbfemlpmpeaaPNumberTestsx7
import Derived.Test.YtgecbfemlpmpeaaPNumberTestsx8
import Derived.Test.YtgecbfemlpmpeaaPNumberTestsx9
namespace Go.Proofs.Ytgecbfemlpmpeaa.PNumberTests
open Go.RowKit Go.Proofs.YtgecbfemlpmpeaaW.PrintWords Go.Proofs.YtgecbfemlpmpeaaW.PrintLast Go.Proofs.YtgecbfemlpmpeaaW.PrintMore
attribute [local go_sem] max2_int min2_int max_two min_two max_three min_three max_four min_four   -- for this text's walks alone
set_option linter.unusedVariables false
set_option linter.unusedSimpArgs false

end Go.Proofs.Ytgecbfemlpmpeaa.PNumberTests
