import Derived.Test.YtfpeekdjdapcdaaS
/- Schedules and paces, plain. -/
namespace Go.Proofs.Ytfpeekdjdapcdaa
open Go.RowKit

/-! ### drops -/
def dlast (ta : Nat → Int) : Nat → Int
  | 0 => 0
  | i + 1 => ta i
def DropOk (ta fa : Nat → Int) (j : Nat) : Prop := dlast ta j < ta j ∧ ta j ≤ 1048576 ∧ 0 ≤ fa j ∧ fa j ≤ 4294967296
def DropsOk (ta fa : Nat → Int) (n : Nat) : Prop := ∀ j, j < n → DropOk ta fa j
def RatesOk (base warm : Int) (m : Nat) (ta fa : Nat → Int) : Prop := (0 ≤ base ∧ 0 ≤ warm ∧ warm ≤ 1048576 ∧ m ≤ 16) ∧ DropsOk ta fa m
theorem DropsOk.next {ta fa : Nat → Int} {k : Nat} (h : DropsOk ta fa k) (hk : DropOk ta fa k) : DropsOk ta fa (k + 1) := fun j hj => by
  rcases Nat.lt_or_ge j k with h1 | h1
  · exact h j h1
  · obtain rfl : j = k := by omega
    exact hk
/-- What stands before a drop is from 1 on. -/
theorem DropsOk.pos {ta fa : Nat → Int} {k : Nat} (h : DropsOk ta fa k) : 0 ≤ dlast ta k := by
  induction k with
  | zero => exact Int.le_refl _
  | succ i ih =>
    have h1 := h i (by omega)
    have h2 := ih fun j hj => h j (by omega)
    unfold DropOk at h1
    show 0 ≤ ta i
    omega
/-- The drops' cells. -/
def RdD (w : World) (A : Option Addr) (m : Nat) (ta fa : Nat → Int) : Prop :=
  (0 < m → ∃ b off, A = some ⟨b, off, none⟩ ∧ b < w.heap.size ∧ ∀ j, j < m → w.cell? ⟨b, off + j * 2, none⟩ = some (.int .i64 (ta j)) ∧ w.cell? ⟨b, off + j * 2 + 1, none⟩ = some (.int .i64 (fa j)))
theorem RdD.call {w w' : World} {A : Option Addr} {m : Nat} {ta fa : Nat → Int} (h : RdD w A m ta fa) (hb : Below w.heap.size w w') : RdD w' A m ta fa := fun hm => by
  obtain ⟨b, off, e, hlt, hc⟩ := h hm
  exact ⟨b, off, e, by have := hb.size; omega, fun j hj => ⟨(hb.cell (p := ⟨b, off + j * 2, none⟩) hlt).trans (hc j hj).1, (hb.cell (p := ⟨b, off + j * 2 + 1, none⟩) hlt).trans (hc j hj).2⟩⟩
def AllD (ta fa : Nat → Int) : Prop := ∀ j, In64 (ta j) ∧ In64 (fa j)

/-! ### rates -/
def rate0 (base warm t : Int) : Int := if t ≤ warm then clampI (quoI (base * t) warm) else base
def rateK (x0 : Int) (ta fa : Nat → Int) (t : Int) : Nat → Int
  | 0 => x0
  | k + 1 => if ta k ≤ t then clampI (rnd (rateK x0 ta fa t k * fa k) 4294967296) else rateK x0 ta fa t k
def rateI (base warm : Int) (m : Nat) (ta fa : Nat → Int) (t : Int) : Int := rateK (rate0 base warm t) ta fa t m
theorem clampI_in' (a : Int) : In64 (clampI a) := clampI_in a
theorem rateK_in {x0 : Int} (h : In64 x0) (ta fa : Nat → Int) (t : Int) (k : Nat) : In64 (rateK x0 ta fa t k) := by
  induction k with
  | zero => exact h
  | succ i ih =>
    unfold rateK
    split
    · exact clampI_in _
    · exact ih
theorem rate0_in {base warm t : Int} (h : In64 base) : In64 (rate0 base warm t) := by
  unfold rate0
  split
  · exact clampI_in _
  · exact h

/-! ### powers -/
def powI (beta : Int) : Nat → Int
  | 0 => 4294967296
  | k + 1 => clampI (rnd (powI beta k * beta) 4294967296)
theorem powI_in (beta : Int) (k : Nat) : In64 (powI beta k) := by
  cases k with
  | zero => unfold powI In64; omega
  | succ i => exact clampI_in _
theorem powI_still {beta : Int} {k : Nat} (h : clampI (rnd (powI beta k * beta) 4294967296) = powI beta k) : ∀ j, k ≤ j → powI beta j = powI beta k := by
  intro j hj
  obtain ⟨d, rfl⟩ : ∃ d, j = k + d := ⟨j - k, by omega⟩
  clear hj
  induction d with
  | zero => rfl
  | succ d ih =>
    show clampI (rnd (powI beta (k + d) * beta) 4294967296) = _
    rw [ih]; exact h

/-! ### paces -/
def PaceOk (l m f g : Int) : Prop := 1 ≤ l ∧ l ≤ f ∧ f ≤ m ∧ m ≤ 64 ∧ 0 ≤ g ∧ g ≤ 64
def nextI (l m g h mis : Int) : Int := if mis = 0 then min m (h + g) else max l (h / 2)
theorem nextI_in {l m f g h mis : Int} (hp : PaceOk l m f g) (h1 : l ≤ h) (h2 : h ≤ m) : l ≤ nextI l m g h mis ∧ nextI l m g h mis ≤ m := by
  unfold PaceOk at hp
  unfold nextI
  split <;> omega
def stepsI (l m g f : Int) (mis : Nat → Int) : Nat → Int
  | 0 => f
  | k + 1 => nextI l m g (stepsI l m g f mis k) (mis k)
theorem stepsI_in {l m f g : Int} (hp : PaceOk l m f g) (mis : Nat → Int) (k : Nat) : l ≤ stepsI l m g f mis k ∧ stepsI l m g f mis k ≤ m := by
  induction k with
  | zero => unfold PaceOk at hp; unfold stepsI; omega
  | succ i ih => exact nextI_in hp ih.1 ih.2
end Go.Proofs.Ytfpeekdjdapcdaa
