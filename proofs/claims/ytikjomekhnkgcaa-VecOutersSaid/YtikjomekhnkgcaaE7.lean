import Derived.Test.YtikjomekhnkgcaaE6
/- What stands between the calls of the law VecMats. -/
namespace Go.Proofs.Ytikjomekhnkgcaa
open Go.RowKit

def MT (w W : World) (G N : Nat) (r c : Int) (A : Option Addr) (n cp : Nat) (az : List Int) (D : Option Addr) (d : Nat) (B : Option Addr) (m : Nat) (xs : List Int) (cu cv : Int) : Prop :=
  ST w W G cu cv A n az B m xs D B ∧ W.heap[w.heap.size]? = some (.cells #[.int .i64 r, .int .i64 c, .slice A n cp] 24 (0, 0)) ∧ W.heap[N]? = some (.cells #[.int .i64 r, .int .i64 c, .slice D n d] 46 (0, 0)) ∧ N ≠ G ∧ N ≠ G + 1 ∧ w.heap.size < G
section
variable {w W W' : World} {G N n m cp d : Nat} {r c cu cv c' : Int} {A B D : Option Addr} {az xs : List Int}
theorem MT.call (h : MT w W G N r c A n cp az D d B m xs cu cv) (hb : Below W.heap.size W W') : MT w W' G N r c A n cp az D d B m xs cu cv :=
  ⟨h.1.call hb, hp_call h.2.1 hb, hp_call h.2.2.1 hb, h.2.2.2⟩
theorem MT.left (h : MT w W G N r c A n cp az D d B m xs cu cv) (hg : W.grownBy W' (some G)) (hU : Unt W' (.pointer (some ⟨G, 0, none⟩)) (some G) c') : MT w W' G N r c A n cp az D d B m xs c' cv :=
  ⟨h.1.left hg hU (by have := h.2.2.2.2.2; omega), hp_grown h.2.1 hg (fun e => by injection e with e; have := h.2.2.2.2.2; omega), hp_grown h.2.2.1 hg (fun e => by injection e with e; exact h.2.2.2.1 e), h.2.2.2⟩
theorem MT.right (h : MT w W G N r c A n cp az D d B m xs cu cv) (hg : W.grownBy W' (some (G + 1))) (hU : Unr W' (G + 1) c') : MT w W' G N r c A n cp az D d B m xs cu c' :=
  ⟨h.1.right hg hU (by have := h.2.2.2.2.2; omega), hp_grown h.2.1 hg (fun e => by injection e with e; have := h.2.2.2.2.2; omega), hp_grown h.2.2.1 hg (fun e => by injection e with e; exact h.2.2.2.2.1 e), h.2.2.2⟩
theorem MT.nought (h : MT w W G N r c A n cp az D d B m xs cu cv) : MT w ((W.setCell ⟨G, 0, none⟩ (.int .i64 0)).setCell ⟨G + 1, 0, none⟩ (.int .i64 0)) G N r c A n cp az D d B m xs 0 0 := by
  have h6 := h.2.2.2.2.2
  exact ⟨h.1.nought (by omega), hp_set (hp_set h.2.1 (by show w.heap.size ≠ G; omega) _) (by show w.heap.size ≠ G + 1; omega) _, hp_set (hp_set h.2.2.1 h.2.2.2.1 _) h.2.2.2.2.1 _, h.2.2.2⟩
theorem MT.cells (h : MT w W G N r c A n cp az D d B m xs cu cv) :
    (W.cell? ⟨w.heap.size, 0, none⟩ = some (.int .i64 r) ∧ W.cell? ⟨w.heap.size, 1, none⟩ = some (.int .i64 c) ∧ W.cell? ⟨w.heap.size, 2, none⟩ = some (.slice A n cp) ∧ w.heap.size < W.heap.size) ∧
    (W.cell? ⟨N, 0, none⟩ = some (.int .i64 r) ∧ W.cell? ⟨N, 1, none⟩ = some (.int .i64 c) ∧ W.cell? ⟨N, 2, none⟩ = some (.slice D n d) ∧ N < W.heap.size) :=
  ⟨⟨cell_of_row W _ 0 _ _ _ h.2.1, cell_of_row W _ 1 _ _ _ h.2.1, cell_of_row W _ 2 _ _ _ h.2.1, lt_of_block h.2.1⟩, ⟨cell_of_row W _ 0 _ _ _ h.2.2.1, cell_of_row W _ 1 _ _ _ h.2.2.1, cell_of_row W _ 2 _ _ _ h.2.2.1, lt_of_block h.2.2.1⟩⟩
end
end Go.Proofs.Ytikjomekhnkgcaa
