import Derived.Test.YtikjomekhnkgcaaH1
/- Rows that lie apart from a set of blocks. -/
namespace Go.Proofs.Ytikjomekhnkgcaa
open Go.RowKit

/-- The row xs is at A, in a block that is none of S. -/
def RdS (w : World) (S : Nat → Prop) (A : Option Addr) (n : Nat) (xs : List Int) : Prop :=
  xs.length = n ∧ (0 < n → ∃ b off, A = some ⟨b, off, none⟩ ∧ b < w.heap.size ∧ ¬ S b ∧ ∀ j, j < n → w.cell? ⟨b, off + j, none⟩ = some (.int .i64 (xs.getD j 0)))
section
variable {w w' : World} {S : Nat → Prop} {u : Option Nat} {A : Option Addr} {n : Nat} {xs : List Int}
theorem RdS.rd (h : RdS w S A n xs) (hu : ∀ g, u = some g → S g) : Rd w u A n xs :=
  ⟨h.1, fun hn => by
    obtain ⟨b, off, e, hb, hs, hc⟩ := h.2 hn
    exact ⟨b, off, e, hb, fun e => hs (hu b e.symm), hc⟩⟩
theorem RdS.none_ (h : RdS w S A n xs) : Rd w none A n xs := h.rd (by intro g e; cases e)
theorem RdS.at_ {g : Nat} (h : RdS w S A n xs) (hg : S g) : Rd w (some g) A n xs := h.rd (by rintro _ ⟨⟩; exact hg)
theorem RdS.grown (h : RdS w S A n xs) (hg : w.grownBy w' u) (hu : ∀ g, u = some g → S g) : RdS w' S A n xs :=
  ⟨h.1, fun hn => by
    obtain ⟨b, off, e, hb, hs, hc⟩ := h.2 hn
    exact ⟨b, off, e, Nat.lt_of_lt_of_le hb hg.size, hs, fun j hj => (gr_cell hg hb (fun e => hs (hu b e.symm))).trans (hc j hj)⟩⟩
theorem RdS.grow {g : Nat} (h : RdS w S A n xs) (hg : w.grownBy w' (some g)) (hs : S g) : RdS w' S A n xs := h.grown hg (by rintro _ ⟨⟩; exact hs)
theorem RdS.call (h : RdS w S A n xs) (hb : Below w.heap.size w w') : RdS w' S A n xs := h.grown (gr_below hb none) (by intro g e; cases e)
theorem RdS.drew (h : RdS w S A n xs) : RdS w.drew S A n xs := h
theorem RdS.alloc (h : RdS w S A n xs) (o : Obj) : RdS (w.alloc o) S A n xs := h.call ((Below.refl _ _).alloc (Nat.le_refl _) _)
theorem RdS.set (h : RdS w S A n xs) {p : Addr} (hp : S p.block) (v : Value) : RdS (w.setCell p v) S A n xs := by
  refine h.grow (g := p.block) ⟨rfl, rfl, rfl, by simp [World.setCell], fun k hk hne => Below.heap_setCell _ _ _ _ (by rintro rfl; exact hne rfl)⟩ hp
theorem RdS.weak {T : Nat → Prop} (h : RdS w S A n xs) (hT : ∀ b, T b → S b) : RdS w T A n xs :=
  ⟨h.1, fun hn => by
    obtain ⟨b, off, e, hb, hs, hc⟩ := h.2 hn
    exact ⟨b, off, e, hb, fun ht => hs (hT b ht), hc⟩⟩
/-- Nor is it in a block that is made later. -/
theorem RdS.up (h : RdS w S A n xs) : RdS w (fun b => S b ∨ w.heap.size ≤ b) A n xs :=
  ⟨h.1, fun hn => by
    obtain ⟨b, off, e, hb, hs, hc⟩ := h.2 hn
    exact ⟨b, off, e, hb, fun ht => by rcases ht with ht | ht; exact hs ht; omega, hc⟩⟩
theorem Rd.anyu (h : Rd w u A n xs) : Rd w none A n xs :=
  ⟨h.1, fun hn => by
    obtain ⟨b, off, e, hb, _, hc⟩ := h.2 hn
    exact ⟨b, off, e, hb, by simp, hc⟩⟩
theorem Rd.apart (h : Rd w none A n xs) (hS : ∀ g, S g → w.heap.size ≤ g) : RdS w S A n xs :=
  ⟨h.1, fun hn => by
    obtain ⟨b, off, e, hb, _, hc⟩ := h.2 hn
    exact ⟨b, off, e, hb, fun hs => by have := hS b hs; omega, hc⟩⟩
theorem own_apart {B : Nat} {E : TypeId} {v : Value} (h : w.ownsRow B E 1 v xs.length (xs.map iv)) (hS : ∀ g, v.ownBlock = some g → ¬ S g) : ∃ A c, v = .slice A xs.length c ∧ RdS w S A xs.length xs := by
  rcases Nat.eq_zero_or_pos xs.length with h0 | h0
  · have : xs = [] := List.eq_nil_of_length_eq_zero h0
    subst this
    rcases h.2 with ⟨rfl, _⟩ | ⟨g, cap, cur, rfl, _⟩
    · exact ⟨none, 0, rfl, rfl, fun h => absurd h (by simp)⟩
    · exact ⟨_, cap, rfl, rfl, fun h => absurd h (by simp)⟩
  · obtain ⟨g, cap, rfl, hg, hlt⟩ := h.form h0
    refine ⟨_, cap, rfl, rfl, fun _ => ⟨g, 0, rfl, hlt, hS g rfl, fun j hj => ?_⟩⟩
    have hc := h.cells (g := g) rfl j (.int .i64 (xs.getD j 0)) (by rw [List.getElem?_map, List.getD_eq_getElem?_getD, List.getElem?_eq_getElem hj]; rfl)
    rwa [show (⟨g, 0, none⟩ : Addr).add j = ⟨g, 0 + j, none⟩ by unfold Addr.add; split <;> simp_all] at hc
theorem OwnF.apart {B m : Nat} {v : Value} (h : OwnF B w v xs) (hl : xs.length = m) (hS : ∀ g, S g → g < B) : ∃ A c, v = .slice A m c ∧ RdS w S A m xs := by
  subst hl; exact own_apart h fun g hg hs => by have := (World.ownsRow.lt h g hg).1; have := hS g hs; omega
theorem OwnI.apart {B m : Nat} {v : Value} (h : OwnI B w v xs) (hl : xs.length = m) (hS : ∀ g, S g → g < B) : ∃ A c, v = .slice A m c ∧ RdS w S A m xs := by
  subst hl; exact own_apart h fun g hg hs => by have := (World.ownsRow.lt h g hg).1; have := hS g hs; omega
end
theorem all_zero0 (n : Nat) : All64 (List.replicate n 0) := by
  intro j
  rw [List.getD_eq_getElem?_getD, List.getElem?_replicate]
  split <;> (simp; unfold In64; omega)
/-- Noughts of the reference's, as many as asked for. -/
theorem own_zerosI (w : World) (n : Nat) (hn : n ≤ 1000000) : OwnI w.heap.size (w.alloc (.cells (madeCells #[.int .i64 0] n) 2)) (.slice (some ⟨w.heap.size, 0, none⟩) n n) (List.replicate n 0) := by
  refine ⟨by simp, .inr ⟨w.heap.size, n, _, by simp, Nat.le_refl _, heap_alloc_new _ _, by simp, by unfold maxLen; omega, by simp [size_madeCells], ?_⟩⟩
  simp only [List.length_replicate, Nat.mul_one, List.map_replicate]
  refine List.ext_getElem (by simp [size_madeCells]) fun j h1 h2 => ?_
  simp only [madeCells, iv, Array.toList_map, Array.toList_range, List.getElem_take, List.getElem_map, List.getElem_range, List.getElem_replicate]
  rw [show j % #[Value.int .i64 0].size = 0 from Nat.mod_one j]
  rfl
theorem run_zerosI (n : Nat) (hn : n ≤ 1000000) (w : World) : (Instr.makeSlice 44 (.int .i64 (n : Int)) (.int .i64 (n : Int))).run Try.prog w =
    .ok (.slice (some ⟨w.heap.size, 0, none⟩) n n) (w.alloc (.cells (madeCells #[.int .i64 0] n) 2)) := by
  obtain ⟨i0, hi, hz0, hz1, hz2⟩ := info_parts infoI64
  have h := run_make (P := Try.prog) w 44 2 i0 (.int .i64 0) Try.underlying44 hi hz0 .i64 .i64 (n : Int) (n : Int) (by omega) (by omega) (by rw [hz2]; omega) (by omega)
  simpa [hz1, Value.cells] using h
/-! ### what stands in a block, and rows, behind allocs, stores and calls -/
section
variable {w w' : World} {g : Nat} {o : Obj} {u : Option Nat} {A : Option Addr} {n : Nat} {xs : List Int} {T : TypeId}
theorem hp_alloc (h : w.heap[g]? = some o) (x : Obj) : (w.alloc x).heap[g]? = some o := (Below.heap_alloc w x g (lt_of_block h)).trans h
theorem hp_drew (h : w.heap[g]? = some o) : w.drew.heap[g]? = some o := h
theorem hp_call (h : w.heap[g]? = some o) (hb : Below w.heap.size w w') : w'.heap[g]? = some o := (hb.block g (lt_of_block h)).trans h
theorem hp_grown (h : w.heap[g]? = some o) (hg : w.grownBy w' u) (hne : some g ≠ u) : w'.heap[g]? = some o := (hg.block g (lt_of_block h) hne).trans h
theorem hp_set (h : w.heap[g]? = some o) {p : Addr} (hp : g ≠ p.block) (v : Value) : (w.setCell p v).heap[g]? = some o := (Below.heap_setCell w p v g hp).trans h
theorem hp2_1 {a b : Value} (v : Value) (h : w.heap[g]? = some (.cells #[a, b] T (0, 0))) : (w.setCell ⟨g, 1, none⟩ v).heap[g]? = some (.cells #[a, v] T (0, 0)) := by simp [World.setCell, Array.getElem?_modify, h]
theorem hp2_0 {a b : Value} (v : Value) (h : w.heap[g]? = some (.cells #[a, b] T (0, 0))) : (w.setCell ⟨g, 0, none⟩ v).heap[g]? = some (.cells #[v, b] T (0, 0)) := by simp [World.setCell, Array.getElem?_modify, h]
theorem hp1_0 {a : Value} (v : Value) (h : w.heap[g]? = some (.cells #[a] T (0, 0))) : (w.setCell ⟨g, 0, none⟩ v).heap[g]? = some (.cells #[v] T (0, 0)) := by simp [World.setCell, Array.getElem?_modify, h]
theorem hp3_0 {a b c : Value} (v : Value) (h : w.heap[g]? = some (.cells #[a, b, c] T (0, 0))) : (w.setCell ⟨g, 0, none⟩ v).heap[g]? = some (.cells #[v, b, c] T (0, 0)) := by simp [World.setCell, Array.getElem?_modify, h]
theorem hp3_1 {a b c : Value} (v : Value) (h : w.heap[g]? = some (.cells #[a, b, c] T (0, 0))) : (w.setCell ⟨g, 1, none⟩ v).heap[g]? = some (.cells #[a, v, c] T (0, 0)) := by simp [World.setCell, Array.getElem?_modify, h]
theorem hp3_2 {a b c : Value} (v : Value) (h : w.heap[g]? = some (.cells #[a, b, c] T (0, 0))) : (w.setCell ⟨g, 2, none⟩ v).heap[g]? = some (.cells #[a, b, v] T (0, 0)) := by simp [World.setCell, Array.getElem?_modify, h]
theorem Unt.setc {U : Value} {c : Int} (h : Unt w U u c) {p : Addr} (hp : ∀ g, u = some g → g ≠ p.block) (v : Value) : Unt (w.setCell p v) U u c := by
  rcases h with h | ⟨g, h1, h2, h3⟩
  · exact .inl h
  · exact .inr ⟨g, h1, h2, hp_set h3 (hp g h2) v⟩
theorem Unr.setc {c : Int} (h : Unr w g c) {p : Addr} (hp : g ≠ p.block) (v : Value) : Unr (w.setCell p v) g c := hp_set h hp v
theorem rd_alloc (h : Rd w u A n xs) (x : Obj) : Rd (w.alloc x) u A n xs := h.call ((Below.refl _ _).alloc (Nat.le_refl _) _)
theorem rd_setu (h : Rd w u A n xs) {p : Addr} (hp : some p.block = u) (v : Value) : Rd (w.setCell p v) u A n xs :=
  h.grown ⟨rfl, rfl, rfl, by simp [World.setCell], fun k _ hne => Below.heap_setCell _ _ _ _ (fun e => hne (e ▸ hp))⟩
/-- A row of the call's own is in no block that stood before, and in none that is made behind it. -/
theorem own_off {B : Nat} {E : TypeId} {v : Value} (h : w.ownsRow B E 1 v xs.length (xs.map iv)) (hg : g < B ∨ w.heap.size ≤ g) : ∃ A c, v = .slice A xs.length c ∧ Rd w (some g) A xs.length xs := by
  obtain ⟨A, c, e, hr⟩ := own_apart (S := fun x => x < B ∨ w.heap.size ≤ x) h fun g hg hs => by have := World.ownsRow.lt h g hg; omega
  exact ⟨A, c, e, hr.at_ hg⟩
theorem OwnI.off {B c : Nat} (h : OwnI B w (.slice A n c) xs) (hl : xs.length = n) (hg : g < B ∨ w.heap.size ≤ g) : Rd w (some g) A n xs := by
  subst hl
  obtain ⟨A', c', e, hr⟩ := own_off (g := g) h hg
  injection e with e
  rw [e]; exact hr
theorem OwnF.off {B c : Nat} (h : OwnF B w (.slice A n c) xs) (hl : xs.length = n) (hg : g < B ∨ w.heap.size ≤ g) : Rd w (some g) A n xs := by
  subst hl
  obtain ⟨A', c', e, hr⟩ := own_off (g := g) h hg
  injection e with e
  rw [e]; exact hr
theorem OwnI.offS {B c : Nat} (h : OwnI B w (.slice A n c) xs) (hl : xs.length = n) (S : Nat → Prop) (hS : ∀ g, S g → g < B ∨ w.heap.size ≤ g) : RdS w S A n xs := by
  subst hl
  obtain ⟨A', c', e, hr⟩ := own_apart (S := S) h fun g hg hs => by have := World.ownsRow.lt h g hg; have := hS g hs; omega
  injection e with e
  rw [e]; exact hr
theorem OwnF.offS {B c : Nat} (h : OwnF B w (.slice A n c) xs) (hl : xs.length = n) (S : Nat → Prop) (hS : ∀ g, S g → g < B ∨ w.heap.size ≤ g) : RdS w S A n xs := by
  subst hl
  obtain ⟨A', c', e, hr⟩ := own_apart (S := S) h fun g hg hs => by have := World.ownsRow.lt h g hg; have := hS g hs; omega
  injection e with e
  rw [e]; exact hr
theorem rdzI_S (g n : Nat) (S : Nat → Prop) (hn : n ≤ 1000000) (hg : g = w.heap.size) (hS : ¬ S g) : RdS (w.alloc (.cells (madeCells #[.int .i64 0] n) 2)) S (some ⟨g, 0, none⟩) n (List.replicate n 0) := by
  subst hg
  have h := own_zerosI w n hn
  obtain ⟨A, c, e, hr⟩ := own_apart (S := S) h fun q hq hs => hS (by injection hq with hq; subst hq; exact hs)
  simp only [List.length_replicate] at e hr
  injection e with e
  rw [e]
  exact hr
theorem rdzI_at (g n : Nat) (hn : n ≤ 1000000) (hg : g = w.heap.size) (hu : ∀ q, u = some q → q ≠ g) : Rd (w.alloc (.cells (madeCells #[.int .i64 0] n) 2)) u (some ⟨g, 0, none⟩) n (List.replicate n 0) := by
  subst hg
  have h := own_zerosI w n hn
  obtain ⟨A, c, e, hr⟩ := own_apart (S := fun x => x ≠ w.heap.size) h fun g hg hs => hs (by injection hg with hg; exact hg.symm)
  simp only [List.length_replicate] at e hr
  injection e with e
  rw [e]
  exact hr.rd hu
end
end Go.Proofs.Ytikjomekhnkgcaa
