import Derived.Test.YtikjomekhnkgcaaRowBase
import Derived.Test.YtikjomekhnkgcaaMC
/- What comes in, opened: a row of numbers. -/
namespace Go.Proofs.Ytikjomekhnkgcaa
open Go.ChangeShapes Go.WideShapes Go.ChangeAt Go.RowKit Go.Joins

theorem cellsFix : Try.prog.cellsOf 28 = 1 := by kernel_rfl
/-- A row of numbers that came in. -/
def Row64 (W : World) (A : Option Addr) (n : Nat) (xs : List Int) : Prop := Rd W none A n xs ∧ All64 xs
section
variable {H : Type} {enc : TypeId × Value → H} {W : World} {base b : Nat} {spare : Nat → Bool} {held : Bool} {v : Value} {d : DataW H} {p : List MemPlace}
theorem all_take {zs : List Int} {n : Nat} (h : ∀ x ∈ zs, (Lit.int .i64 x).wf = true) : All64 (zs.take n) := by
  intro j
  rw [List.getD_eq_getElem?_getD]
  cases hj : (zs.take n)[j]? with
  | none => show In64 0; unfold In64; omega
  | some x => exact wf_i64 (h x (List.mem_of_mem_take (List.mem_of_getElem? hj)))
theorem fixes_of {fuel : Nat} {cs : List Value} {x : DataW H × List MemPlace} (h : DataW.trod enc Try.prog W base spare held fuel 22 cs = some x) :
    ∃ (A : Option Addr) (n c : Nat) (xs : List Int), cs = [.slice A n c] ∧ n ≤ c ∧ Row64 W A n xs := by
  rcases open_ints Try.underlying22 Try.underlying28 cellsFix h with ⟨hcs, hx⟩ | ⟨a, len', cap', zs, hcs, _, hl, hm, hz, hx, hcell, hwz⟩
  · exact ⟨none, 0, 0, [], hcs, Nat.le_refl _, ⟨rfl, fun h => absurd h (by omega)⟩, fun j => by show In64 0; unfold In64; omega⟩
  · have hzl : len' ≤ zs.length := by rw [hz]; split <;> omega
    refine ⟨some a, len', cap', zs.take len', hcs, hl, ⟨by rw [List.length_take]; omega, fun hn => ?_⟩, all_take hwz⟩
    obtain ⟨b, off, rfl, hc⟩ := ints_at hcell (by omega)
    refine ⟨b, off, rfl, World.block_lt_of_cell? W _ (hc 0 (by omega)), by simp, fun j hj => ?_⟩
    rw [hc j (by omega), List.getD_eq_getElem?_getD, List.getD_eq_getElem?_getD, List.getElem?_take_of_lt hj]
set_option maxRecDepth 100000 in
theorem open_fixes (hv : Value.okWide Try.prog W .any b 22 v) (h : DataW.Trod enc Try.prog W base spare held 22 v d p) :
    ∃ (A : Option Addr) (n c : Nat) (xs : List Int), v = .slice A n c ∧ Row64 W A n xs := by
  obtain ⟨a0, len, cap, rfl⟩ := okWide_slice Try.underlying22 hv
  obtain ⟨fuel, hf⟩ := h
  obtain ⟨A, n, c, xs, hcs, _, hr⟩ := fixes_of hf
  simp [Value.cells] at hcs
  obtain ⟨rfl, rfl, rfl⟩ := hcs
  exact ⟨_, _, _, xs, rfl, hr⟩
end
end Go.Proofs.Ytikjomekhnkgcaa
