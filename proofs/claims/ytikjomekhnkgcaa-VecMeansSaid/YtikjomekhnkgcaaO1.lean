import Derived.Test.YtikjomekhnkgcaaV3
/- The outer step. -/
namespace Go.Proofs.Ytikjomekhnkgcaa
open Go.RowKit
attribute [local go_sem ↓] Go.wp_at_zero Go.wp_at_succ

theorem own_rd {B : Nat} {w : World} {u : Option Nat} {v : Value} {f : Nat → Int} {n : Nat} (h : OwnF B w v (rowI f n)) (hB : ∀ g, u = some g → g < B) : ∃ A c, v = .slice A n c ∧ Rd w u A n (rowI f n) := by
  have := h.rd hB
  rwa [rowI_length] at this
theorem OwnF.setBelow {B : Nat} {w : World} {v : Value} {xs : List Int} (h : OwnF B w v xs) {p : Addr} (hp : p.block < B) (x : Value) : OwnF B (w.setCell p x) v xs :=
  ownsRow_setCell_other h (fun e => by have := (World.ownsRow.lt h _ e).1; omega) x
/-- The outer's three rows. -/
def obV (m : Int) (ob g : List Int) (n : Nat) : List Int := rowI (axV m ob g) n
def odV (m : Int) (ob g : List Int) (n : Nat) : List Int := rowI (axV m (obV m ob g n) g) n
def opV (r m : Int) (op ob g : List Int) (n : Nat) : List Int := rowI (axV (-r) (odV m ob g n) op) n
def ocN (r m : Int) (op ob g : List Int) (n : Nat) : Int := cntI (axV m ob g) n + cntI (axV m (obV m ob g n) g) n + cntI (axV (-r) (odV m ob g n) op) n
/-- An outer of the call's own. -/
def GotO (w : World) (U : Value) (u : Option Nat) (c : Int) (ps bs : List Int) (m : Int) (e : Ending) (w' : World) : Prop :=
  ∃ V V', e = .returned (.tuple #[.agg #[V, V'], .int .i64 0]) ∧ OwnF w.heap.size w' V ps ∧ OwnF w.heap.size w' V' bs ∧ w.grownBy w' u ∧ Unt w' U u (c + m)
end Go.Proofs.Ytikjomekhnkgcaa
