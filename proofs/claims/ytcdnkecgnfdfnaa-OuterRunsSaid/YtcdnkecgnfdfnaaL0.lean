import Derived.Test.YtcdnkecgnfdfnaaW2
import Derived.Test.YtcdnkecgnfdfnaaLong
import Derived.Test.YtcdnkecgnfdfnaaDiv
import Derived.Deep.QuietTactic
import Derived.BigQuiet
import Derived.RegionTactic
import Derived.BigRegion
import Derived.LoopN
import Derived.Deep.RegionHeld3
/- Long numbers: the smallest methods. -/
namespace Go.Proofs.Ytcdnkecgnfdfnaa
open Go.RowKit
attribute [local go_sem ↓] Go.wp_at_zero Go.wp_at_succ

end Go.Proofs.Ytcdnkecgnfdfnaa
