import Derived.Test.YtikjomekhnkgcaaRows
import Derived.ProofKit
import Derived.OpenShut
import Derived.Lib.SmallJoins
import Derived.Test.YtikjomekhnkgcaaMA
/- What comes in, opened: a wide number, a long one. -/
namespace Go.Proofs.Ytikjomekhnkgcaa
open Go.ChangeShapes Go.WideShapes Go.ChangeAt Go.RowKit Go.Joins

theorem rowOwn : ownKnob Try.prog.godebug = none := by kernel_rfl
theorem rowLaid : laidOutB Try.prog = true := by kernel_rfl
theorem wf_i64 {n : Int} (h : (Lit.int .i64 n).wf = true) : In64 n := by
  have := bounds_i64 h; unfold In64; omega
theorem wf_u64 {n : Int} (h : (Lit.int .u64 n).wf = true) : U64 n := by
  have := bounds_u64 h; unfold U64; omega
theorem cellsWide : Try.prog.cellsOf 95 = 2 := by kernel_rfl
theorem cellsLong : Try.prog.cellsOf 83 = 3 := by kernel_rfl
section
variable {H : Type} {enc : TypeId × Value → H} {W : World} {base b : Nat} {spare : Nat → Bool} {held : Bool} {v : Value} {d : DataW H} {p : List MemPlace}
set_option maxRecDepth 100000 in
theorem open_wide (hv : Value.okWide Try.prog W .any b 95 v) (h : DataW.Trod enc Try.prog W base spare held 95 v d p) :
    ∃ n : Int, v = .agg #[.int .i64 (hi n), .int .u64 (lo n)] ∧ In128 n := by
  obtain ⟨c0, c1, y0, y1, m, rfl, _, _, hy0, hy1⟩ := open_agg2 Try.underlying95 (by kernel_rfl) cellsWide hv h
  obtain ⟨x, e0, _, wx⟩ := DataW.trod_int Try.underlying2 hy0
  obtain ⟨y, e1, _, wy⟩ := DataW.trod_int Try.underlying81 hy1
  simp at e0 e1
  subst e0 e1
  refine ⟨x * 18446744073709551616 + y, ?_, mk_in (wf_i64 wx) (wf_u64 wy)⟩
  rw [mk_hi (wf_u64 wy), mk_lo (wf_u64 wy)]
set_option maxRecDepth 100000 in
theorem open_long (hv : Value.okWide Try.prog W .any b 83 v) (h : DataW.Trod enc Try.prog W base spare held 83 v d p) :
    ∃ n : Int, v = .agg #[.int .i64 (tp n), .int .u64 (q1 n), .int .u64 (q0 n)] ∧ In192 n := by
  obtain ⟨c0, c1, c2, y0, y1, y2, m, rfl, _, _, hy0, hy1, hy2⟩ := open_agg3 Try.underlying83 (by kernel_rfl) cellsLong hv h
  obtain ⟨x, e0, _, wx⟩ := DataW.trod_int Try.underlying2 hy0
  obtain ⟨y, e1, _, wy⟩ := DataW.trod_int Try.underlying81 hy1
  obtain ⟨z, e2, _, wz⟩ := DataW.trod_int Try.underlying81 hy2
  simp at e0 e1 e2
  subst e0 e1 e2
  obtain ⟨f1, f2, f3⟩ := mk_q (t := x) (wf_u64 wy) (wf_u64 wz)
  refine ⟨x * 340282366920938463463374607431768211456 + y * 18446744073709551616 + z, ?_, mk_in192 (wf_i64 wx) (wf_u64 wy) (wf_u64 wz)⟩
  rw [f1, f2, f3]
end
end Go.Proofs.Ytikjomekhnkgcaa
