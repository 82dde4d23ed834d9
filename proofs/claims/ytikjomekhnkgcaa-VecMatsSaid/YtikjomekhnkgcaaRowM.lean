import Derived.Test.YtikjomekhnkgcaaRowF
import Derived.Test.YtikjomekhnkgcaaS
/- What comes in, opened: a matrix. -/
namespace Go.Proofs.Ytikjomekhnkgcaa
open Go.ChangeShapes Go.WideShapes Go.ChangeAt Go.RowKit Go.Joins

theorem cellsMat : Try.prog.cellsOf 24 = 3 := by kernel_rfl
section
variable {H : Type} {enc : TypeId × Value → H} {W : World} {base b : Nat} {spare : Nat → Bool} {held : Bool} {v : Value} {d : DataW H} {p : List MemPlace}
theorem fixes_cap {fuel : Nat} {cs : List Value} {x : DataW H × List MemPlace} (h : DataW.trod enc Try.prog W base spare held fuel 22 cs = some x) :
    ∃ (A : Option Addr) (n c : Nat) (xs : List Int), cs = [.slice A n c] ∧ (n ≤ c ∧ c ≤ 9223372036854775807) ∧ Row64 W A n xs := by
  obtain ⟨A, n, c, xs, e, h1, h2⟩ := fixes_of h
  refine ⟨A, n, c, xs, e, ⟨h1, ?_⟩, h2⟩
  rcases open_ints Try.underlying22 Try.underlying28 cellsFix h with ⟨hcs, _⟩ | ⟨a, len', cap', zs, hcs, _, _, hm, _⟩
  · rw [hcs] at e
    simp at e
    omega
  · rw [hcs] at e
    simp at e
    unfold maxLen at hm
    omega
set_option maxRecDepth 100000 in
theorem open_mat (hv : Value.okWide Try.prog W .any b 24 v) (h : DataW.Trod enc Try.prog W base spare held 24 v d p) :
    ∃ (r c : Int) (A : Option Addr) (n cp : Nat) (az : List Int), v = .agg #[.int .i64 r, .int .i64 c, .slice A n cp] ∧ (In64 r ∧ In64 c ∧ (n ≤ cp ∧ cp ≤ 9223372036854775807) ∧ Row64 W A n az) := by
  obtain ⟨c0, c1, c2, y0, y1, y2, m, rfl, _, _, hy0, hy1, hy2⟩ := open_agg3 Try.underlying24 (by kernel_rfl) cellsMat hv h
  obtain ⟨x, e0, _, wx⟩ := DataW.trod_int Try.underlying3 hy0
  obtain ⟨y, e1, _, wy⟩ := DataW.trod_int Try.underlying3 hy1
  obtain ⟨A, n, cp, az, e2, hc, hr⟩ := fixes_cap hy2
  simp at e0 e1 e2
  subst e0 e1 e2
  exact ⟨x, y, A, n, cp, az, rfl, wf_i64 wx, wf_i64 wy, hc, hr⟩
set_option maxRecDepth 100000 in
theorem open_fixcap (hv : Value.okWide Try.prog W .any b 22 v) (h : DataW.Trod enc Try.prog W base spare held 22 v d p) :
    ∃ (A : Option Addr) (n c : Nat) (xs : List Int), v = .slice A n c ∧ ((n ≤ c ∧ c ≤ 9223372036854775807) ∧ Row64 W A n xs) := by
  obtain ⟨a0, len, cap, rfl⟩ := okWide_slice Try.underlying22 hv
  obtain ⟨fuel, hf⟩ := h
  obtain ⟨A, n, c, xs, hcs, hc, hr⟩ := fixes_cap hf
  simp [Value.cells] at hcs
  obtain ⟨rfl, rfl, rfl⟩ := hcs
  exact ⟨_, _, _, xs, rfl, hc, hr⟩
end
end Go.Proofs.Ytikjomekhnkgcaa
