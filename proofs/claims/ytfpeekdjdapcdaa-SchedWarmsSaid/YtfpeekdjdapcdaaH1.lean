import Derived.Test.YtfpeekdjdapcdaaG7
import Derived.Test.YtfpeekdjdapcdaaV2
/- The reference's rows: Take, Same; a row of numbers turned into the reference's. -/
namespace Go.Proofs.Ytfpeekdjdapcdaa
open Go.RowKit
attribute [local go_sem ↓] Go.wp_at_zero Go.wp_at_succ

section
variable {w w' : World} {g B : Nat} {c : Int} {u : Option Nat}
end
/-- A row of the call's own, of the reference's numbers. -/
def OwnI (B : Nat) (w' : World) (v : Value) (xs : List Int) : Prop := w'.ownsRow B 2 1 v xs.length (xs.map iv)
section
variable {w w' : World} {u : Option Nat} {B : Nat} {v : Value} {xs : List Int}
theorem OwnI.rd (h : OwnI B w v xs) (hB : ∀ g, u = some g → g < B) : ∃ A c, v = .slice A xs.length c ∧ Rd w u A xs.length xs := by
  rcases Nat.eq_zero_or_pos xs.length with h0 | h0
  · have : xs = [] := List.eq_nil_of_length_eq_zero h0
    subst this
    rcases h.2 with ⟨rfl, _⟩ | ⟨g, cap, cur, rfl, _⟩
    · exact ⟨none, 0, rfl, rfl, fun h => absurd h (by simp)⟩
    · exact ⟨_, cap, rfl, rfl, fun h => absurd h (by simp)⟩
  · obtain ⟨g, cap, rfl, hg, hlt⟩ := h.form h0
    refine ⟨_, cap, rfl, rfl, fun _ => ⟨g, 0, rfl, hlt, fun e => by have := hB g e.symm; omega, fun j hj => ?_⟩⟩
    have hc := h.cells (g := g) rfl j (.int .i64 (xs.getD j 0)) (by rw [List.getElem?_map, List.getD_eq_getElem?_getD, List.getElem?_eq_getElem hj]; rfl)
    rwa [show (⟨g, 0, none⟩ : Addr).add j = ⟨g, 0 + j, none⟩ by unfold Addr.add; split <;> simp_all] at hc
theorem OwnI.rdAt {A : Option Addr} {n c : Nat} (h : OwnI B w (.slice A n c) xs) (hB : ∀ g, u = some g → g < B) : Rd w u A xs.length xs := by
  obtain ⟨A', c', e, hr⟩ := h.rd hB
  injection e with e
  rw [e]; exact hr
theorem OwnI.base {B' : Nat} (h : OwnI B' w v xs) (hB : B ≤ B') : OwnI B w v xs := by
  refine ⟨h.1, ?_⟩
  rcases h.2 with h | ⟨g, cap, cur, e, hb, r⟩
  · exact .inl h
  · exact .inr ⟨g, cap, cur, e, by omega, r⟩
theorem OwnI.low (h : OwnI B w v xs) (hb : Below w.heap.size w w') : OwnI B w' v xs :=
  World.ownsRow.kept (row := none) h ⟨hb.os, hb.tape, hb.output, hb.size, fun k hk _ => hb.block k hk⟩ (by cases hv : v.ownBlock <;> simp)
theorem OwnI.grown (h : OwnI B w v xs) (hg : w.grownBy w' u) (hB : ∀ g, u = some g → g < B) : OwnI B w' v xs :=
  World.ownsRow.kept (row := u) h hg (by
    cases hv : v.ownBlock with
    | none => exact .inl rfl
    | some g => exact .inr (fun e => by have := (World.ownsRow.lt h g hv).1; have := hB g e.symm; omega))
theorem OwnI.setBelow (h : OwnI B w v xs) {p : Addr} (hp : p.block < B) (x : Value) : OwnI B (w.setCell p x) v xs :=
  ownsRow_setCell_other h (fun e => by have := (World.ownsRow.lt h _ e).1; omega) x
theorem OwnI.of_row {n : Nat} (h : w.ownsRow B 2 1 v n (xs.map iv)) (hl : xs.length = n) : OwnI B w v xs := by unfold OwnI; rw [hl]; exact h
theorem OwnI.row {n : Nat} (h : OwnI B w v xs) (hl : xs.length = n) : w.ownsRow B 2 1 v n (xs.map iv) := by unfold OwnI at h; rwa [hl] at h
end
theorem infoI64 : (Try.prog.info? 2).map (fun i => (i.zero, i.size, i.bytes)) = some (some (.int .i64 0), 1, 8) := by kernel_rfl
theorem take_get (xs : List Int) (k : Nat) (h : k < xs.length) : xs.take k ++ [xs.getD k 0] = xs.take (k + 1) := by
  rw [List.take_succ_eq_append_getElem h, List.getD_eq_getElem?_getD, List.getElem?_eq_getElem h]; rfl
/-- What same says. -/
def sameB (xs ys : List Int) : Bool := decide (xs = ys)
theorem get_ne {xs ys : List Int} (hl : xs.length = ys.length) (h : ∀ j, j < xs.length → xs.getD j 0 = ys.getD j 0) : xs = ys := by
  refine List.ext_getElem hl fun j h1 h2 => ?_
  have := h j h1
  rw [List.getD_eq_getElem?_getD, List.getD_eq_getElem?_getD, List.getElem?_eq_getElem h1, List.getElem?_eq_getElem h2] at this
  exact this
def PreSame (xs ys : List Int) (k : Nat) : Prop := ∀ j, j < k → xs.getD j 0 = ys.getD j 0
end Go.Proofs.Ytfpeekdjdapcdaa
