import Derived.Test.YtikjomekhnkgcaaMA
import Derived.RegionTactic
/- The end of a region that draws its order, where nothing that was there is written any more: one walk of the text's order. -/
namespace Go.Proofs.Ytikjomekhnkgcaa
open Go.RowKit

theorem wpAny_pack {P : Program} {md : Region.Mode} {ops : Array Oper} {Q' : Exit → Act → World → Prop} {fuel : Nat} {listed : Array Bool} {a : Act} {W0 : World} (k : Nat) (l : List Oper) (hs : Region.noSelect ops = true)
    (hf : fuel = l.length) (hl : l = ops.toList.drop k) (hB : Region.lexFrom md ops l.length k listed = true)
    (h : wpQuiet P ops (fun w' => ∃ n : Pack W0, w' = n.w) (fun a' => ∀ n : Pack W0, wpAny P md ops Q' 0 (Array.replicate ops.size true) a' n.w) l a) : wpAny P md ops Q' fuel listed a W0 := by
  subst hf
  refine wpAny_of_quiet (C := fun w' => ∃ n : Pack W0, w' = n.w) (Q := fun a' => ∀ n : Pack W0, wpAny P md ops Q' 0 (Array.replicate ops.size true) a' n.w) ?_ _ _ _ _ ⟨⟨W0, Below.refl _ _⟩, rfl⟩ (wpAnyQ_lex hs l k listed a (fun j => ?_) hB h)
  · rintro a' w' ⟨n, rfl⟩ h'
    exact (h' n).2
  · rw [hl, List.getElem?_drop, Array.getElem?_toList]
end Go.Proofs.Ytikjomekhnkgcaa
