import Derived.Test.YtcdnkecgnfdfnaaL0
/- Long numbers: sums. -/
namespace Go.Proofs.Ytcdnkecgnfdfnaa
open Go.RowKit
attribute [local go_sem ↓] Go.wp_at_zero Go.wp_at_succ

end Go.Proofs.Ytcdnkecgnfdfnaa
