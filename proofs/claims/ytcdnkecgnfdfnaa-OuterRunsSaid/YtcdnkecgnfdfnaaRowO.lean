import Derived.Test.YtcdnkecgnfdfnaaRowF
/- What comes in, opened: a rule, an outer. -/
namespace Go.Proofs.Ytcdnkecgnfdfnaa
open Go.ChangeShapes Go.WideShapes Go.ChangeAt Go.RowKit Go.Joins

theorem cellsRule : Try.prog.cellsOf 24 = 2 := by kernel_rfl
theorem cellsOuter : Try.prog.cellsOf 28 = 2 := by kernel_rfl
section
variable {H : Type} {enc : TypeId × Value → H} {W : World} {base b : Nat} {spare : Nat → Bool} {held : Bool} {v : Value} {d : DataW H} {p : List MemPlace}
set_option maxRecDepth 100000 in
theorem open_rule (hv : Value.okWide Try.prog W .any b 24 v) (h : DataW.Trod enc Try.prog W base spare held 24 v d p) :
    ∃ r m : Int, v = .agg #[.int .i64 r, .int .i64 m] ∧ (In64 r ∧ In64 m) := by
  obtain ⟨c0, c1, y0, y1, m, rfl, _, _, hy0, hy1⟩ := open_agg2 Try.underlying24 (by kernel_rfl) cellsRule hv h
  obtain ⟨x, e0, _, wx⟩ := DataW.trod_int Try.underlying22 hy0
  obtain ⟨y, e1, _, wy⟩ := DataW.trod_int Try.underlying22 hy1
  simp at e0 e1
  subst e0 e1
  exact ⟨x, y, rfl, wf_i64 wx, wf_i64 wy⟩
set_option maxRecDepth 100000 in
theorem open_outer (hv : Value.okWide Try.prog W .any b 28 v) (h : DataW.Trod enc Try.prog W base spare held 28 v d p) :
    ∃ (A : Option Addr) (n cp : Nat) (ps : List Int) (B : Option Addr) (m cq : Nat) (bs : List Int), v = .agg #[.slice A n cp, .slice B m cq] ∧ (Row64 W A n ps ∧ Row64 W B m bs) := by
  obtain ⟨c0, c1, y0, y1, m, rfl, _, _, hy0, hy1⟩ := open_agg2 Try.underlying28 (by kernel_rfl) cellsOuter hv h
  obtain ⟨A, n, cp, ps, e0, _, h0⟩ := fixes_of hy0
  obtain ⟨B, m', cq, bs, e1, _, h1⟩ := fixes_of hy1
  simp at e0 e1
  subst e0 e1
  exact ⟨A, n, cp, ps, B, m', cq, bs, rfl, h0, h1⟩
end
end Go.Proofs.Ytcdnkecgnfdfnaa
