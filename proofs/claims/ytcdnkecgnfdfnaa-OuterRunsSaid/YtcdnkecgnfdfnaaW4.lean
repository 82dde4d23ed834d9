import Derived.Test.YtcdnkecgnfdfnaaW3
import Derived.Test.YtcdnkecgnfdfnaaDiv
import Derived.Deep.QuietTactic
import Derived.BigQuiet
import Derived.RegionTactic
import Derived.LoopTactic
/- math/bits.Div64: two words by one. -/
namespace Go.Proofs.Ytcdnkecgnfdfnaa
open Go.RowKit

theorem ret2 {a a' b b' : Int} (h1 : a = a') (h2 : b = b') : Ending.returned (.tuple #[.int .u64 a, .int .u64 b]) = .returned (.tuple #[.int .u64 a', .int .u64 b']) := by rw [h1, h2]

end Go.Proofs.Ytcdnkecgnfdfnaa
