import Derived.Test.YtjhepjmggenadaaBase
import Derived.Deep.QuietTactic
import Derived.BigQuiet
/- A region that draws its order, whose calls leave what was there as it was: one walk of the text's order. -/
namespace Go.Proofs.Ytjhepjmggenadaa
open Go.RowKit

/-- A world in which what W0 held is as it was. -/
structure Pack (W0 : World) where
  w : World
  ok : Below W0.heap.size W0 w
instance (W0 : World) : Nonempty (Pack W0) := ⟨⟨W0, Below.refl _ _⟩⟩

theorem wp_region_pack {P : Program} {id : Nat} {Q : Exit → Act → World → Prop} {a : Act} {W0 : World} {l : List Oper} (hm : P.follows .mixedOrders = true) (hB : Region.lexB .any l.toArray = true)
    (h : wpQuiet P l.toArray (fun w' => ∃ n : Pack W0, w' = n.w) (fun a' => ∀ n : Pack W0, Q .normal a' n.w) l a) : (Code.region id l.toArray true).wp P Q a W0 := by
  refine wp_region_quiet (C := fun w' => ∃ n : Pack W0, w' = n.w) hm hB ⟨⟨{ W0 with drawn := W0.drawn + 1 }, (Below.refl _ _).drew⟩, rfl⟩ ?_
  have e : (fun a' => ∀ w', (∃ n : Pack W0, w' = n.w) → Q .normal a' w') = (fun a' => ∀ n : Pack W0, Q .normal a' n.w) := by
    funext a'
    exact propext ⟨fun h n => h _ ⟨n, rfl⟩, fun h w' ⟨n, e⟩ => e ▸ h n⟩
  rw [e]
  simpa using h
theorem pack_call {P : Program} {f : FuncId} {args : Array Value} {W0 : World} {n : Pack W0} {v : Value} (h : Calls P f args n.w fun e w' => e = .returned v ∧ Below n.w.heap.size n.w w') :
    Calls P f args n.w fun e w'' => e = .returned v ∧ ∃ m : Pack W0, w'' = m.w :=
  h.mono fun _ w' ⟨he, hb⟩ => ⟨he, ⟨w', n.ok.trans (hb.mono n.ok.size)⟩, rfl⟩
theorem pack_cell {W0 : World} {b o : Nat} {v : Value} (h : W0.cell? ⟨b, o, none⟩ = some v) (hb : b < W0.heap.size) (n : Pack W0) : n.w.cell? ⟨b, o, none⟩ = some v :=
  (n.ok.cell (p := ⟨b, o, none⟩) hb).trans h
end Go.Proofs.Ytjhepjmggenadaa
