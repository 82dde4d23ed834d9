import Derived.Test.YtcdnkecgnfdfnaaProg
import Derived.Tactics
import Derived.Tactics2
import Derived.StillTactics
import Derived.Laws.Shifts
import Derived.Laws.Pointers
import Derived.Lib.Strings
import Derived.Lib.Slices
import Derived.Lib.Small
import Derived.Lib.Walk
import Derived.Lib.BitFns
/- math/bits.Len64. -/
namespace Go.Proofs.Ytcdnkecgnfdfnaa

end Go.Proofs.Ytcdnkecgnfdfnaa
