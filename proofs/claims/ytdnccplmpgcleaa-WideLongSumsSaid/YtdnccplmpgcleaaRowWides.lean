import Derived.Test.YtdnccplmpgcleaaRowBase
import Derived.Deep.SlicePairs
import Derived.Test.YtdnccplmpgcleaaWLSums
/- A list of wide numbers that comes in, opened. -/
namespace Go.Proofs.Ytdnccplmpgcleaa
open Go.ChangeShapes Go.WideShapes Go.ChangeAt Go.RowKit Go.Joins

theorem Ws_of {w : World} {A : Option Addr} {n b off : Nat} (hA : A = some ⟨b, off, none⟩)
    (h : ∀ j, j < n → ∃ x, In128 x ∧ w.cell? ⟨b, off + j * 2, none⟩ = some (.int .i64 (hi x)) ∧ w.cell? ⟨b, off + j * 2 + 1, none⟩ = some (.int .u64 (lo x))) : Ws w A n := fun hn => by
  obtain ⟨x0, _, e0, _⟩ := h 0 hn
  refine ⟨b, off, fun j => if hj : j < n then Classical.choose (h j hj) else 0, hA, World.block_lt_of_cell? w _ e0, fun j hj => ?_⟩
  simp only [hj, dif_pos]
  exact Classical.choose_spec (h j hj)
section
variable {H : Type} {enc : TypeId × Value → H} {W : World} {base b : Nat} {spare : Nat → Bool} {held : Bool} {v : Value} {d : DataW H} {p : List MemPlace}
theorem open_wides (hv : Value.okWide Try.prog W .any b 63 v) (h : DataW.Trod enc Try.prog W base spare held 63 v d p) :
    ∃ A len cap, v = .slice A len cap ∧ Ws W A len := by
  obtain ⟨a0, len, cap, rfl⟩ := okWide_slice Try.underlying63 hv
  obtain ⟨fuel, hf⟩ := h
  refine ⟨a0, len, cap, rfl, ?_⟩
  rcases Go.Deep.open_slice_pairs Try.underlying63 Try.underlying24 cellsWide rfl rfl (by kernel_rfl) (by kernel_rfl) hf with ⟨hcs, _⟩ | ⟨a, len', cap', m, nn, V0, V1, D0, D1, P0, P1, hcs, _, hl, _, hmm, _, hc⟩
  · simp [Value.cells] at hcs
    obtain ⟨_, rfl, _⟩ := hcs
    intro hn; omega
  · simp [Value.cells] at hcs
    obtain ⟨rfl, rfl, rfl⟩ := hcs
    by_cases h0 : len = 0
    · intro hn; omega
    have hm : len ≤ m := by rw [hmm]; split <;> omega
    obtain ⟨bb, off, spot⟩ := a
    have hspot : spot = none := by simpa [Addr.add] using World.cell?_spot (hc 0 (by omega)).1
    subst hspot
    refine Ws_of rfl fun j hj => ?_
    obtain ⟨e0, e1, t0, t1⟩ := hc j (by omega)
    obtain ⟨x, f0, _, wx⟩ := DataW.trod_int Try.underlying2 t0
    obtain ⟨y, f1, _, wy⟩ := DataW.trod_int Try.underlying22 t1
    simp at f0 f1
    rw [f0] at e0
    rw [f1] at e1
    rw [add_plain] at e0 e1
    refine ⟨x * 18446744073709551616 + y, mk_in (wf_i64 wx) (wf_u64 wy), ?_, ?_⟩
    · rw [mk_hi (wf_u64 wy)]; exact e0
    · rw [mk_lo (wf_u64 wy), Nat.add_assoc]; exact e1
end
end Go.Proofs.Ytdnccplmpgcleaa
