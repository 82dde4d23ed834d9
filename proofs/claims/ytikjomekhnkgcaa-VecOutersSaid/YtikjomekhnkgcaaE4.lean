import Derived.Test.YtikjomekhnkgcaaE3
/- What stands between the calls of a law of vectors. -/
namespace Go.Proofs.Ytikjomekhnkgcaa
open Go.RowKit

def SG (G : Nat) : Nat → Prop := fun b => b = G ∨ b = G + 1
theorem sgL (G : Nat) : SG G G := .inl rfl
theorem sgR (G : Nat) : SG G (G + 1) := .inr rfl
/-- Both units, two rows that came in, the reference's own copies. -/
def ST (w W : World) (G : Nat) (cu cv : Int) (A : Option Addr) (n : Nat) (xs : List Int) (B : Option Addr) (m : Nat) (ys : List Int) (C D : Option Addr) : Prop :=
  (RdS W (SG G) A n xs ∧ RdS W (SG G) B m ys ∧ RdS W (SG G) C n xs ∧ RdS W (SG G) D m ys) ∧ Unt W (.pointer (some ⟨G, 0, none⟩)) (some G) cu ∧ Unr W (G + 1) cv ∧ Below w.heap.size w W
section
variable {w W W' : World} {G n m : Nat} {cu cv c' : Int} {A B C D : Option Addr} {xs ys : List Int}
theorem ST.call (h : ST w W G cu cv A n xs B m ys C D) (hb : Below W.heap.size W W') : ST w W' G cu cv A n xs B m ys C D :=
  ⟨⟨h.1.1.call hb, h.1.2.1.call hb, h.1.2.2.1.call hb, h.1.2.2.2.call hb⟩, h.2.1.call hb, h.2.2.1.call hb, h.2.2.2.trans (hb.mono h.2.2.2.size)⟩
theorem ST.left (h : ST w W G cu cv A n xs B m ys C D) (hg : W.grownBy W' (some G)) (hU : Unt W' (.pointer (some ⟨G, 0, none⟩)) (some G) c') (hG : w.heap.size ≤ G) : ST w W' G c' cv A n xs B m ys C D :=
  ⟨⟨h.1.1.grow hg (sgL G), h.1.2.1.grow hg (sgL G), h.1.2.2.1.grow hg (sgL G), h.1.2.2.2.grow hg (sgL G)⟩, hU, h.2.2.1.grown hg (by simp), h.2.2.2.trans (gr_new hg h.2.2.2.size hG)⟩
theorem ST.right (h : ST w W G cu cv A n xs B m ys C D) (hg : W.grownBy W' (some (G + 1))) (hU : Unr W' (G + 1) c') (hG : w.heap.size ≤ G) : ST w W' G cu c' A n xs B m ys C D :=
  ⟨⟨h.1.1.grow hg (sgR G), h.1.2.1.grow hg (sgR G), h.1.2.2.1.grow hg (sgR G), h.1.2.2.2.grow hg (sgR G)⟩, h.2.1.grown hg (by rintro _ ⟨⟩; simp), hU, h.2.2.2.trans (gr_new hg h.2.2.2.size (by omega))⟩
theorem ST.lt (h : ST w W G cu cv A n xs B m ys C D) : ∀ g, SG G g → g < W.heap.size := by
  rintro g (rfl | rfl)
  · exact h.2.1.lt g rfl
  · exact h.2.2.1.lt
/-- Both counts set back. -/
theorem ST.nought (h : ST w W G cu cv A n xs B m ys C D) (hG : w.heap.size ≤ G) : ST w ((W.setCell ⟨G, 0, none⟩ (.int .i64 0)).setCell ⟨G + 1, 0, none⟩ (.int .i64 0)) G 0 0 A n xs B m ys C D := by
  refine ⟨⟨(h.1.1.set (sgL G) _).set (sgR G) _, (h.1.2.1.set (sgL G) _).set (sgR G) _, (h.1.2.2.1.set (sgL G) _).set (sgR G) _, (h.1.2.2.2.set (sgL G) _).set (sgR G) _⟩, ?_, ?_, ?_⟩
  · exact Unt.at_ (hp_set (hp1_0 _ h.2.1.some_) (by simp) _)
  · exact hp1_0 _ (hp_set h.2.2.1 (by simp) _)
  · exact (h.2.2.2.setCell hG _).setCell (show w.heap.size ≤ G + 1 by omega) _
end
end Go.Proofs.Ytikjomekhnkgcaa
