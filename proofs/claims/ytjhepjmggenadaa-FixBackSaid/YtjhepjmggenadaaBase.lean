import Derived.WalkKit
import Derived.Deep.DrawnRows
/- Small words for worlds: what a callee leaves as it was; a region that draws its order. -/
namespace Go.Proofs.Ytjhepjmggenadaa
open Go.RowKit

theorem bcell {W w1 : World} (hb : Below W.heap.size W w1) : (∀ b o, b < W.heap.size → w1.cell? ⟨b, o, none⟩ = W.cell? ⟨b, o, none⟩) ∧
    (∀ b o, b < W.heap.size → w1.frozen? ⟨b, o, none⟩ = W.frozen? ⟨b, o, none⟩) ∧ W.heap.size ≤ w1.heap.size :=
  ⟨fun b o h => hb.cell (p := ⟨b, o, none⟩) h, fun b o h => hb.frozen (p := ⟨b, o, none⟩) h, hb.size⟩

/-! ### a world that is as an elder one was, for a region that draws its order -/
theorem at_world {P : Program} {c : Code} {Q : Exit → Act → World → Prop} {a : Act} {w : World} (h : ∀ W0, W0 = w → Code.wp P c Q a W0) : Code.wp P c Q a w := h w rfl
section
variable {W0 w w1 : World}
theorem sb_of (h : Below W0.heap.size W0 w) : Below W0.heap.size W0 w ∧ ∀ b o, b < W0.heap.size → w.cell? ⟨b, o, none⟩ = W0.cell? ⟨b, o, none⟩ :=
  ⟨h, fun b o hb => h.cell (p := ⟨b, o, none⟩) hb⟩
theorem sb_drew (W0 : World) : Below W0.heap.size W0 W0.drew ∧ ∀ b o, b < W0.heap.size → W0.drew.cell? ⟨b, o, none⟩ = W0.cell? ⟨b, o, none⟩ := sb_of (Below.refl _ _).drew
theorem sb_below (h : Below W0.heap.size W0 w ∧ ∀ b o, b < W0.heap.size → w.cell? ⟨b, o, none⟩ = W0.cell? ⟨b, o, none⟩) (hb : Below w.heap.size w w1) : Below W0.heap.size W0 w1 := h.1.trans (hb.mono h.1.size)
theorem sb_call (h : Below W0.heap.size W0 w ∧ ∀ b o, b < W0.heap.size → w.cell? ⟨b, o, none⟩ = W0.cell? ⟨b, o, none⟩) (hb : Below w.heap.size w w1) :
    Below W0.heap.size W0 w1 ∧ ∀ b o, b < W0.heap.size → w1.cell? ⟨b, o, none⟩ = W0.cell? ⟨b, o, none⟩ := sb_of (sb_below h hb)
theorem sb_alloc (h : Below W0.heap.size W0 w ∧ ∀ b o, b < W0.heap.size → w.cell? ⟨b, o, none⟩ = W0.cell? ⟨b, o, none⟩) (o : Obj) :
    Below W0.heap.size W0 (w.alloc o) ∧ ∀ b i, b < W0.heap.size → (w.alloc o).cell? ⟨b, i, none⟩ = W0.cell? ⟨b, i, none⟩ := sb_of (h.1.alloc h.1.size o)
theorem sb_set (h : Below W0.heap.size W0 w ∧ ∀ b o, b < W0.heap.size → w.cell? ⟨b, o, none⟩ = W0.cell? ⟨b, o, none⟩) {p : Addr} (hp : W0.heap.size ≤ p.block) (u : Value) :
    Below W0.heap.size W0 (w.setCell p u) ∧ ∀ b i, b < W0.heap.size → (w.setCell p u).cell? ⟨b, i, none⟩ = W0.cell? ⟨b, i, none⟩ := sb_of (h.1.setCell hp u)
theorem sb_set2 (h : Below W0.heap.size W0 w ∧ ∀ b o, b < W0.heap.size → w.cell? ⟨b, o, none⟩ = W0.cell? ⟨b, o, none⟩) {p q : Addr} (hp : W0.heap.size ≤ p.block) (hq : W0.heap.size ≤ q.block) (u v : Value) :
    Below W0.heap.size W0 ((w.setCell p u).setCell q v) ∧ ∀ b i, b < W0.heap.size → ((w.setCell p u).setCell q v).cell? ⟨b, i, none⟩ = W0.cell? ⟨b, i, none⟩ := sb_of ((h.1.setCell hp u).setCell hq v)
end

theorem newest_at (w : World) (o : Obj) {g : Nat} (h : g = w.heap.size) : (w.alloc o).heap[g]? = some o := by subst h; exact heap_alloc_new w o

/-! ### the same, but for one block of n cells that is written -/
def cv (w : World) (x i : Nat) : Value := (w.cell? ⟨x, i, none⟩).getD undef
structure Bx (x n : Nat) (w w' : World) : Prop where
  os : w'.os = w.os
  tape : w'.tape = w.tape
  output : w'.output = w.output
  size : w.heap.size ≤ w'.heap.size
  block : ∀ k, k < w.heap.size → k ≠ x → w'.heap[k]? = w.heap[k]?
  here : ∃ cs t, w'.heap[x]? = some (.cells cs t (0, 0)) ∧ n ≤ cs.size

section
variable {x n : Nat} {W0 w w1 : World}
theorem Bx.lt (h : Bx x n W0 w) : x < w.heap.size := by
  obtain ⟨cs, t, e, _⟩ := h.here
  rcases Nat.lt_or_ge x w.heap.size with hlt | hge
  · exact hlt
  · rw [Array.getElem?_eq_none hge] at e; cases e
theorem Bx.refl {cs : Array Value} {t : TypeId} (h : w.heap[x]? = some (.cells cs t (0, 0))) (hn : n ≤ cs.size) : Bx x n w w := ⟨rfl, rfl, rfl, Nat.le_refl _, fun _ _ _ => rfl, cs, t, h, hn⟩
theorem Bx.drew (h : Bx x n W0 w) : Bx x n W0 w.drew := ⟨h.os, h.tape, h.output, h.size, h.block, h.here⟩
theorem Bx.call (h : Bx x n W0 w) (hb : Below w.heap.size w w1) : Bx x n W0 w1 := by
  obtain ⟨cs, t, e, hc⟩ := h.here
  exact ⟨hb.os.trans h.os, hb.tape.trans h.tape, hb.output.trans h.output, Nat.le_trans h.size hb.size,
    fun k hk hx => (hb.block k (Nat.lt_of_lt_of_le hk h.size)).trans (h.block k hk hx), cs, t, (hb.block x h.lt).trans e, hc⟩
theorem Bx.alloc (h : Bx x n W0 w) (o : Obj) : Bx x n W0 (w.alloc o) := h.call ((Below.refl _ _).alloc (Nat.le_refl _) o)
theorem Bx.set (h : Bx x n W0 w) {p : Addr} (hp : p.block = x ∨ W0.heap.size ≤ p.block) (u : Value) : Bx x n W0 (w.setCell p u) := by
  obtain ⟨cs, t, e, hc⟩ := h.here
  refine ⟨h.os, h.tape, h.output, by simpa [World.setCell] using h.size, fun k hk hx => ?_, ?_⟩
  · rw [Below.heap_setCell _ _ _ _ (by omega)]
    exact h.block k hk hx
  · by_cases hpx : p.block = x
    · refine ⟨if p.spot.isSome then cs else cs.setIfInBounds p.off u, t, ?_, by split <;> simpa using hc⟩
      simp [World.setCell, Array.getElem?_modify, hpx, e]
    · exact ⟨cs, t, by rw [Below.heap_setCell _ _ _ _ (by omega)]; exact e, hc⟩
theorem Bx.cell (h : Bx x n W0 w) (b o : Nat) (hb : b < W0.heap.size) (hx : b ≠ x) : w.cell? ⟨b, o, none⟩ = W0.cell? ⟨b, o, none⟩ := World.cell?_of_block (w := W0) (h.block b hb hx)
theorem Bx.own (h : Bx x n W0 w) (i : Nat) (hi : i < n) : w.cell? ⟨x, i, none⟩ = some (cv w x i) := by
  obtain ⟨cs, t, e, hc⟩ := h.here
  have : w.cell? ⟨x, i, none⟩ = cs[i]? := by simp [World.cell?, e]
  unfold cv
  rw [this, Array.getElem?_eq_getElem (by omega)]
  rfl
theorem Bx.free (h : Bx x n W0 w) (i : Nat) : w.frozen? ⟨x, i, none⟩ = false := by
  obtain ⟨cs, t, e, hc⟩ := h.here
  simp [World.frozen?, e]
theorem Bx.below (h : Bx x n W0 w) {B : Nat} (hB : B ≤ x) (hW : B ≤ W0.heap.size) : Below B W0 w := ⟨h.os, h.tape, h.output, h.size, fun k hk => h.block k (by omega) (by omega)⟩
theorem sx_of (h : Bx x n W0 w) : Bx x n W0 w ∧ (∀ b o, b < W0.heap.size → b ≠ x → w.cell? ⟨b, o, none⟩ = W0.cell? ⟨b, o, none⟩) ∧ (∀ i, i < n → w.cell? ⟨x, i, none⟩ = some (cv w x i)) ∧ (∀ i, w.frozen? ⟨x, i, none⟩ = false) :=
  ⟨h, h.cell, h.own, h.free⟩
end
end Go.Proofs.Ytjhepjmggenadaa
