import Derived.Test.YtikjomekhnkgcaaRowF
import Derived.Test.YtikjomekhnkgcaaS
import Derived.Deep.Matrix
/- What comes in, opened: rows of rows of numbers. -/
namespace Go.Proofs.Ytikjomekhnkgcaa
open Go.ChangeShapes Go.WideShapes Go.ChangeAt Go.RowKit Go.Joins

/-- Rows, one after another in a block. -/
def RdL (w : World) (A : Option Addr) (L : Nat) (Ar : Nat → Option Addr) (Lr Cr : Nat → Nat) (Zr : Nat → List Int) : Prop :=
  (0 < L → ∃ b off, A = some ⟨b, off, none⟩ ∧ b < w.heap.size ∧ ∀ k, k < L → w.cell? ⟨b, off + k, none⟩ = some (.slice (Ar k) (Lr k) (Cr k))) ∧ ∀ k, k < L → Rd w none (Ar k) (Lr k) (Zr k) ∧ All64 (Zr k)
theorem RdL.call {w w' : World} {A : Option Addr} {L : Nat} {Ar : Nat → Option Addr} {Lr Cr : Nat → Nat} {Zr : Nat → List Int} (h : RdL w A L Ar Lr Cr Zr) (hb : Below w.heap.size w w') : RdL w' A L Ar Lr Cr Zr :=
  ⟨fun hL => by
    obtain ⟨b, off, e, hlt, hc⟩ := h.1 hL
    exact ⟨b, off, e, by have := hb.size; omega, fun k hk => (hb.cell (p := ⟨b, off + k, none⟩) hlt).trans (hc k hk)⟩,
   fun k hk => ⟨(h.2 k hk).1.call hb, (h.2 k hk).2⟩⟩
section
variable {H : Type} {enc : TypeId × Value → H} {W : World} {base b : Nat} {held : Bool} {v : Value} {d : DataW H} {p : List MemPlace}
theorem cellsFixRow : Try.prog.cellsOf 22 = 1 := by kernel_rfl
set_option maxRecDepth 100000 in
theorem open_fixrows (hv : Value.okWide Try.prog W .any b 70 v) (h : DataW.Trod enc Try.prog W base (fun _ => true) held 70 v d p) :
    ∃ (A : Option Addr) (n c : Nat) (Ar : Nat → Option Addr) (Lr Cr : Nat → Nat) (Zr : Nat → List Int), v = .slice A n c ∧ RdL W A n Ar Lr Cr Zr := by
  obtain ⟨a0, len, cap, rfl⟩ := okWide_slice Try.underlying70 hv
  obtain ⟨fuel, hf⟩ := h
  rcases Go.Deep.open_int_rows Try.underlying70 Try.underlying22 Try.underlying28 cellsFixRow cellsFix hf with ⟨hcs, _⟩ | ⟨a, len', cap', A, L, C, Z, hcs, _, hl, _, _, hr⟩
  · simp [Value.cells] at hcs
    obtain ⟨rfl, rfl, rfl⟩ := hcs
    exact ⟨none, 0, 0, fun _ => none, fun _ => 0, fun _ => 0, fun _ => [], rfl, fun h => absurd h (by omega), fun k hk => absurd hk (by omega)⟩
  · simp [Value.cells] at hcs
    obtain ⟨rfl, rfl, rfl⟩ := hcs
    refine ⟨some a, len, cap, A, L, C, fun k => (Z k).take (L k), rfl, fun h0 => ?_, fun k hk => ?_⟩
    · have hz := (hr 0 (by omega)).1
      obtain ⟨ab, ao, sp⟩ := a
      have has : sp = none := by simpa [Addr.add] using World.cell?_spot hz
      subst has
      have hlt := World.block_lt_of_cell? W _ hz
      refine ⟨ab, ao, rfl, by simpa [Addr.add] using hlt, fun k hk => ?_⟩
      have := (hr k (by omega)).1
      rwa [show (⟨ab, ao, none⟩ : Addr).add k = ⟨ab, ao + k, none⟩ by unfold Addr.add; split <;> simp_all] at this
    · obtain ⟨_, h1, _, h3, h4, h5, h6⟩ := hr k (by omega)
      refine ⟨⟨by rw [List.length_take]; omega, fun hn => ?_⟩, all_take h4⟩
      cases hA : A k with
      | none => have := h5 hA; omega
      | some a' =>
        obtain ⟨_, hc⟩ := h6 a' hA
        obtain ⟨b, off, rfl, hc'⟩ := ints_at (zs := Z k) (fun j hj => hc j (by omega)) (by omega)
        refine ⟨b, off, rfl, World.block_lt_of_cell? W _ (hc' 0 (by omega)), by simp, fun j hj => ?_⟩
        rw [hc' j (by omega), List.getD_eq_getElem?_getD, List.getD_eq_getElem?_getD, List.getElem?_take_of_lt hj]
end
end Go.Proofs.Ytikjomekhnkgcaa
