import Derived.Test.YtfpeekdjdapcdaaF1
/- Numbers of package fix: none, Div, By, Ratio, Sqrt. -/
namespace Go.Proofs.Ytfpeekdjdapcdaa
open Go.RowKit
attribute [local go_sem ↓] Go.wp_at_zero Go.wp_at_succ

def noneI (a : Int) : Int := if 0 < a then 9223372036854775807 else if a < 0 then -9223372036854775808 else 0
theorem quo_in (n d : Int) (hd : d ≠ 0) (h0 : -39614081257132168796771975168 ≤ n) (h1 : n ≤ 39614081257132168796771975168) : w128 (quoI n d) = quoI n d := by
  obtain ⟨_, _, a, b⟩ := quo_near n d hd
  have : absI n ≤ 39614081257132168796771975168 := by unfold absI; split <;> omega
  exact w128_id (by unfold In128; omega)
/-- What Div, By and Ratio answer. -/
def divI (n d a : Int) : Int := if d = 0 then noneI a else clampI (quoI n d)
def divO (n d : Int) : Bool := if d = 0 then true else overI (quoI n d)
end Go.Proofs.Ytfpeekdjdapcdaa
