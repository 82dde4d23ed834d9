import Derived.Test.YtjhepjmggenadaaMD
import Derived.Test.YtjhepjmggenadaaHS
/- An answer is the document's. -/
namespace Go.Proofs.Ytjhepjmggenadaa
open Go.RowKit
attribute [local go_sem ↓] Go.wp_at_zero Go.wp_at_succ

theorem like2_any (a : Int) (f : Bool) (w : World) :
    Calls Try.prog 20 #[.int .i64 a, .bool f, .int .i64 a, .bool f] w fun e w' => e = .returned (.bool true) ∧ Below w.heap.size w w' := by
  have hB := Below.refl w.heap.size w
  go_enter Try.func20, Try.ntmps20
  cases f
  · go_wp2
    go_ret
    exact ⟨rfl, hB⟩
  · go_wp2
    go_ret
    exact ⟨rfl, hB⟩
end Go.Proofs.Ytjhepjmggenadaa
