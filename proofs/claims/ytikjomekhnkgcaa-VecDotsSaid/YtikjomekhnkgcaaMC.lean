import Derived.Test.YtikjomekhnkgcaaF2
import Derived.Maps.AppendAt
import Derived.Deep.RegionHeld3
import Derived.Deep.DeepCutAuto
import Derived.Deep.AppendLies
/- Units and rows of numbers: what a call with a unit leaves. -/
namespace Go.Proofs.Ytikjomekhnkgcaa
open Go.RowKit

/-! ### worlds that grow but for one block -/
section
variable {u : Option Nat} {a b c w w' : World}
theorem gr_trans (h : a.grownBy b u) (k : b.grownBy c u) : a.grownBy c u :=
  ⟨k.os.trans h.os, k.tape.trans h.tape, k.output.trans h.output, Nat.le_trans h.size k.size, fun i hi hne => (k.block i (Nat.lt_of_lt_of_le hi h.size) hne).trans (h.block i hi hne)⟩
theorem gr_below (h : Below a.heap.size a w) (u : Option Nat) : a.grownBy w u := ⟨h.os, h.tape, h.output, h.size, fun i hi _ => h.block i hi⟩
theorem gr_call (h : a.grownBy w u) (k : Below w.heap.size w w') : a.grownBy w' u := gr_trans h (gr_below k u)
/-- A store or append that leaves the first B blocks as they were. -/
theorem gr_low (h : a.grownBy w u) (k : Below a.heap.size w w') : a.grownBy w' u :=
  ⟨k.os.trans h.os, k.tape.trans h.tape, k.output.trans h.output, Nat.le_trans h.size k.size, fun i hi hne => (k.block i hi).trans (h.block i hi hne)⟩
theorem gr_drew (h : a.grownBy w u) : a.grownBy w.drew u := ⟨h.os, h.tape, h.output, h.size, h.block⟩
theorem gr_alloc (h : a.grownBy w u) (o : Obj) : a.grownBy (w.alloc o) u := gr_call h ((Below.refl _ _).alloc (Nat.le_refl _) _)
theorem gr_set (h : a.grownBy w u) {p : Addr} (hp : a.heap.size ≤ p.block) (v : Value) : a.grownBy (w.setCell p v) u := gr_low h ((Below.refl _ _).setCell hp v)
theorem gr_none (h : a.grownBy w none) : Below a.heap.size a w := ⟨h.os, h.tape, h.output, h.size, fun k hk => h.block k hk (by simp)⟩
/-- A unit made by the call itself does not count. -/
theorem gr_new {g B : Nat} (h : a.grownBy w (some g)) (hB : B ≤ a.heap.size) (hg : B ≤ g) : Below B a w :=
  ⟨h.os, h.tape, h.output, h.size, fun k hk => h.block k (by omega) (by simp; omega)⟩
theorem gr_cell (h : a.grownBy w u) {x o : Nat} (hx : x < a.heap.size) (hn : some x ≠ u) : w.cell? ⟨x, o, none⟩ = a.cell? ⟨x, o, none⟩ := h.cell_far ⟨x, o, none⟩ hx hn
end

/-! ### a unit -/
def ov (b : Bool) : Int := if b = true then 1 else 0
theorem ov_01 (b : Bool) : 0 ≤ ov b ∧ ov b ≤ 1 := by unfold ov; split <;> omega
/-- The unit U (nil, or block u) has counted c. -/
def Unt (w : World) (U : Value) (u : Option Nat) (c : Int) : Prop :=
  (U = .pointer none ∧ u = none) ∨ ∃ g, U = .pointer (some ⟨g, 0, none⟩) ∧ u = some g ∧ w.heap[g]? = some (.cells #[.int .i64 c] 40 (0, 0))
section
variable {w w' : World} {U : Value} {u : Option Nat} {c : Int} {B : Nat}
theorem Unt.lt (h : Unt w U u c) : ∀ g, u = some g → g < w.heap.size := by
  rintro g rfl
  rcases h with ⟨_, h⟩ | ⟨g', _, h, hb⟩
  · cases h
  · injection h with h; subst h; exact lt_of_block hb
theorem Unt.low (h : Unt w U u c) (hb : Below B w w') (hB : ∀ g, u = some g → g < B) : Unt w' U u c := by
  rcases h with h | ⟨g, h1, h2, h3⟩
  · exact .inl h
  · exact .inr ⟨g, h1, h2, (hb.block g (hB g h2)).trans h3⟩
theorem Unt.call (h : Unt w U u c) (hb : Below w.heap.size w w') : Unt w' U u c := h.low hb h.lt
theorem Unt.drew (h : Unt w U u c) : Unt w.drew U u c := h
theorem Unt.alloc (h : Unt w U u c) (o : Obj) : Unt (w.alloc o) U u c := h.call ((Below.refl _ _).alloc (Nat.le_refl _) _)
theorem Unt.nil (w : World) (c : Int) : Unt w (.pointer none) none c := .inl ⟨rfl, rfl⟩
theorem Unt.at_ {g : Nat} (h : w.heap[g]? = some (.cells #[.int .i64 c] 40 (0, 0))) : Unt w (.pointer (some ⟨g, 0, none⟩)) (some g) c := .inr ⟨g, rfl, rfl, h⟩
theorem Unt.some_ {g : Nat} (h : Unt w U (some g) c) : w.heap[g]? = some (.cells #[.int .i64 c] 40 (0, 0)) := by
  rcases h with ⟨_, h⟩ | ⟨g', _, h, hb⟩
  · cases h
  · injection h with h; subst h; exact hb
theorem Unt.one (h : Unt w U u c) : U.cells[0]? = some U := by
  rcases h with ⟨rfl, _⟩ | ⟨g, rfl, _⟩ <;> rfl
/-- What a fresh block is: never the unit's. -/
theorem Unt.ne (h : Unt w U u c) {x : Nat} (hx : w.heap.size ≤ x) : some x ≠ u := by
  intro e; have := h.lt x e.symm; omega
end

/-! ### rows of numbers that are read -/
def iv (x : Int) : Value := .int .i64 x
def Rd (w : World) (u : Option Nat) (A : Option Addr) (n : Nat) (xs : List Int) : Prop :=
  xs.length = n ∧ (0 < n → ∃ b off, A = some ⟨b, off, none⟩ ∧ b < w.heap.size ∧ some b ≠ u ∧ ∀ j, j < n → w.cell? ⟨b, off + j, none⟩ = some (.int .i64 (xs.getD j 0)))
def All64 (xs : List Int) : Prop := ∀ j, In64 (xs.getD j 0)
section
variable {w w' : World} {u : Option Nat} {A : Option Addr} {n : Nat} {xs : List Int}
theorem Rd.grown (h : Rd w u A n xs) (hg : w.grownBy w' u) : Rd w' u A n xs :=
  ⟨h.1, fun hn => by
    obtain ⟨b, off, e, hb, hne, hc⟩ := h.2 hn
    exact ⟨b, off, e, Nat.lt_of_lt_of_le hb hg.size, hne, fun j hj => (gr_cell hg hb hne).trans (hc j hj)⟩⟩
theorem Rd.call (h : Rd w u A n xs) (hb : Below w.heap.size w w') : Rd w' u A n xs := h.grown (gr_below hb u)
theorem Rd.drew (h : Rd w u A n xs) : Rd w.drew u A n xs := h
/-- Of another unit. -/
theorem Rd.unit {v : Option Nat} (h : Rd w u A n xs) (hv : ∀ g, v = some g → w.heap.size ≤ g) : Rd w v A n xs :=
  ⟨h.1, fun hn => by
    obtain ⟨b, off, e, hb, hne, hc⟩ := h.2 hn
    exact ⟨b, off, e, hb, fun e => by have := hv b e.symm; omega, hc⟩⟩
theorem Rd.noone (h : Rd w u A n xs) : Rd w none A n xs := h.unit (by intro g e; cases e)
/-- What a call gives back: a row of its own. -/
def OwnF (B : Nat) (w' : World) (v : Value) (xs : List Int) : Prop := w'.ownsRow B 28 1 v xs.length (xs.map iv)
theorem OwnF.rd {B : Nat} {v : Value} (h : OwnF B w v xs) (hB : ∀ g, u = some g → g < B) : ∃ A c, v = .slice A xs.length c ∧ Rd w u A xs.length xs := by
  rcases Nat.eq_zero_or_pos xs.length with h0 | h0
  · have : xs = [] := List.eq_nil_of_length_eq_zero h0
    subst this
    rcases h.2 with ⟨rfl, _⟩ | ⟨g, cap, cur, rfl, _⟩
    · exact ⟨none, 0, rfl, rfl, fun h => absurd h (by simp)⟩
    · exact ⟨_, cap, rfl, rfl, fun h => absurd h (by simp)⟩
  · obtain ⟨g, cap, rfl, hg, hlt⟩ := h.form h0
    refine ⟨_, cap, rfl, rfl, fun _ => ⟨g, 0, rfl, hlt, fun e => by have := hB g e.symm; omega, fun j hj => ?_⟩⟩
    have hc := h.cells (g := g) rfl j (.int .i64 (xs.getD j 0)) (by rw [List.getElem?_map, List.getD_eq_getElem?_getD, List.getElem?_eq_getElem hj]; rfl)
    rwa [show (⟨g, 0, none⟩ : Addr).add j = ⟨g, 0 + j, none⟩ by unfold Addr.add; split <;> simp_all] at hc
theorem OwnF.rdAt {B n c : Nat} (h : OwnF B w (.slice A n c) xs) (hB : ∀ g, u = some g → g < B) : Rd w u A xs.length xs := by
  obtain ⟨A', c', e, hr⟩ := h.rd hB
  injection e with e
  rw [e]; exact hr
theorem OwnF.base {B B' : Nat} {v : Value} (h : OwnF B' w v xs) (hB : B ≤ B') : OwnF B w v xs := by
  refine ⟨h.1, ?_⟩
  rcases h.2 with h | ⟨g, cap, cur, e, hb, r⟩
  · exact .inl h
  · exact .inr ⟨g, cap, cur, e, by omega, r⟩
theorem OwnF.low {B : Nat} {v : Value} (h : OwnF B w v xs) (hb : Below w.heap.size w w') : OwnF B w' v xs :=
  World.ownsRow.kept (row := none) h ⟨hb.os, hb.tape, hb.output, hb.size, fun k hk _ => hb.block k hk⟩ (by cases hv : v.ownBlock <;> simp)
theorem OwnF.grown {B : Nat} {v : Value} (h : OwnF B w v xs) (hg : w.grownBy w' u) (hB : ∀ g, u = some g → g < B) : OwnF B w' v xs :=
  World.ownsRow.kept (row := u) h hg (by
    cases hv : v.ownBlock with
    | none => exact .inl rfl
    | some g => exact .inr (fun e => by have := (World.ownsRow.lt h g hv).1; have := hB g e.symm; omega))
end

/-! ### append of one element -/
section
variable {P : Program}
theorem app_low {ops : Array Oper} {rest : List Oper} {o : Oper} {a : Act} {Q : Exit → Act → World → Prop} (hgd : o.guard = none) (s x : Operand) (t : TypeId)
    (ho : o.op = .call { callee := .builtin .append, args := #[s, x], argTypes := #[t, t] })
    (e : TypeId) (i : TypeInfo) (z : Value) (ht : P.underlying t = some (.slice e)) (hi : P.info? e = some i) (hz : i.zero = some z) (hsize : i.size = 1) (hby : i.bytes = 8) (hzs : z.cells.size = 1)
    {B : Nat} {wr : World} (hB : B ≤ wr.heap.size) (v : Value) (n : Nat) (xs : List Value) (hs : a.eval s = v) (hown : wr.ownsRow B e 1 v n xs)
    (u : Value) (hx : a.eval x = .slice (some ⟨wr.heap.size, 0, none⟩) 1 1) (h1 : u.oneCell' = true) (hn : n < 1000000) (E : TypeId)
    (h : ∀ v' w', w'.ownsRow B e 1 v' (n + 1) (xs ++ [u]) → Below B wr w' → wpList P ops Q rest (a.put o.dst v') w') :
    wpList P ops Q (o :: rest) a (wr.alloc (.cells #[u] E)) := by
  refine wpList_append_own _ hgd s x t ho B e i z 1 8 ht hi hz hsize hby hzs (by decide) v n xs hs (hown.alloc _) ⟨wr.heap.size, 0, none⟩ 1 1 [u] hx rfl ?_ ?_ (by unfold maxLen; omega) (by omega) (by simp; omega) ?_
  · intro j u' hj
    match j, hj with
    | 0, hj =>
      simp at hj; subst hj
      rw [show (⟨wr.heap.size, 0, none⟩ : Addr).add 0 = ⟨wr.heap.size, 0, none⟩ by simp [Addr.add]]
      rw [World.cell?_alloc_at _ _ _ _ rfl]; rfl
  · intro u' hu; simp at hu; subst hu; exact h1
  · intro v' w' hown' hgrow _
    exact h v' w' hown' (((Below.refl B wr).alloc (by omega) _).grown hgrow (by simp; omega) (fun j hj => (hown.lt j hj).1))
end
theorem infoFix : (Try.prog.info? 28).map (fun i => (i.zero, i.size, i.bytes)) = some (some (.int .i64 0), 1, 8) := by kernel_rfl
theorem app_fix {ops : Array Oper} {rest : List Oper} {o : Oper} {a : Act} {Q : Exit → Act → World → Prop} {s x : Operand}
    {B : Nat} {wr : World} (hB : B ≤ wr.heap.size) {v : Value} {n : Nat} {xs : List Value} (hown : wr.ownsRow B 28 1 v n xs) (hn : n < 1000000)
    (hgd : o.guard = none) (ho : o.op = .call { callee := .builtin .append, args := #[s, x], argTypes := #[22, 22] })
    (hs : a.eval s = v) (u : Value) (hx : a.eval x = .slice (some ⟨wr.heap.size, 0, none⟩) 1 1) (h1 : u.oneCell' = true) {E : TypeId}
    (h : ∀ v' w', w'.ownsRow B 28 1 v' (n + 1) (xs ++ [u]) → Below B wr w' → wpList Try.prog ops Q rest (a.put o.dst v') w') :
    wpList Try.prog ops Q (o :: rest) a (wr.alloc (.cells #[u] E)) := by
  obtain ⟨i0, hi, hz0, hz1, hz2⟩ := info_parts infoFix
  exact app_low hgd s x 22 ho 28 i0 (.int .i64 0) Try.underlying22 hi hz0 hz1 hz2 rfl hB v n xs hs hown u hx h1 hn E h

/-! ### what a loop of results comes to -/
def rowI (v : Nat → Int) (n : Nat) : List Int := (List.range n).map fun k => clampI (v k)
def cntI (v : Nat → Int) : Nat → Int
  | 0 => 0
  | n + 1 => cntI v n + ov (overI (v n))
theorem cntI_bound (v : Nat → Int) (n : Nat) : 0 ≤ cntI v n ∧ cntI v n ≤ n := by
  induction n with
  | zero => simp [cntI]
  | succ n ih => have := ov_01 (overI (v n)); simp only [cntI]; omega
theorem rowI_length (v : Nat → Int) (n : Nat) : (rowI v n).length = n := by simp [rowI]
theorem rowI_succ (v : Nat → Int) (n : Nat) : rowI v (n + 1) = rowI v n ++ [clampI (v n)] := by simp [rowI, List.range_succ]
theorem rowI_get (v : Nat → Int) {n j : Nat} (h : j < n) : (rowI v n).getD j 0 = clampI (v j) := by
  simp [rowI, List.getD_eq_getElem?_getD, List.getElem?_map, List.getElem?_range h]
theorem rowI_congr {v v' : Nat → Int} {n : Nat} (h : ∀ j, j < n → v j = v' j) : rowI v n = rowI v' n := by
  unfold rowI
  exact List.map_congr_left fun k hk => by rw [h k (by simpa using hk)]
theorem cntI_congr {v v' : Nat → Int} {n : Nat} (h : ∀ j, j < n → v j = v' j) : cntI v n = cntI v' n := by
  induction n with
  | zero => rfl
  | succ n ih => simp only [cntI]; rw [ih (fun j hj => h j (by omega)), h n (by omega)]
theorem clampI_in (a : Int) : In64 (clampI a) := by
  unfold clampI In64
  by_cases h1 : a < -9223372036854775808
  · rw [if_pos h1]; omega
  · rw [if_neg h1]
    by_cases h2 : 9223372036854775807 < a
    · rw [if_pos h2]; omega
    · rw [if_neg h2]; omega
theorem rowI_all (v : Nat → Int) (n : Nat) : All64 (rowI v n) := by
  intro j
  rcases Nat.lt_or_ge j n with h | h
  · rw [rowI_get v h]; exact clampI_in _
  · have e : (rowI v n).getD j 0 = 0 := by rw [List.getD_eq_getElem?_getD, List.getElem?_eq_none (by rw [rowI_length]; exact h)]; rfl
    rw [e]; unfold In64; omega
end Go.Proofs.Ytikjomekhnkgcaa
/- Units: Take, Count, take of vec, Sub of a unit. -/
namespace Go.Proofs.Ytikjomekhnkgcaa
open Go.RowKit
attribute [local go_sem ↓] Go.wp_at_zero Go.wp_at_succ

theorem utake_any (U : Value) (u : Option Nat) (c a : Int) (o : Bool) (w : World) (hU : Unt w U u c) (hc0 : 0 ≤ c) (hc : c < 1000000000) :
    Calls Try.prog 86 #[U, .int .i64 a, .bool o] w fun e w' => e = .returned (.int .i64 a) ∧ w.grownBy w' u ∧ Unt w' U u (c + ov o) := by
  rcases hU with ⟨rfl, rfl⟩ | ⟨g, rfl, rfl, hb⟩
  · cases o
    all_goals
      go_enter Try.func86, Try.ntmps86
      go_wp2
      go_ret
      exact ⟨rfl, World.grownBy.refl _ _, Unt.nil _ _⟩
  · have hc1 := cell_of_one hb
    have hf1 := free_of_one hb
    have hone := one_setCell (u := .int .i64 (c + 1)) hb
    have hun : Unt w (.pointer (some ⟨g, 0, none⟩)) (some g) c := Unt.at_ hb
    cases o
    · go_enter Try.func86, Try.ntmps86
      go_wp2
      go_ret
      exact ⟨rfl, World.grownBy.refl _ _, by simpa [ov] using hun⟩
    · have hG : w.grownBy (w.setCell ⟨g, 0, none⟩ (.int .i64 (c + 1))) (some g) :=
        ⟨rfl, rfl, rfl, by simp [World.setCell], fun k hk hne => Below.heap_setCell _ _ _ _ (by rintro rfl; exact hne rfl)⟩
      have hV : Unt (w.setCell ⟨g, 0, none⟩ (.int .i64 (c + 1))) (.pointer (some ⟨g, 0, none⟩)) (some g) (c + ov true) := by
        simpa [ov] using Unt.at_ hone
      clear hone hb hun
      go_enter Try.func86, Try.ntmps86
      go_wp2
      go_ret
      exact ⟨rfl, hG, hV⟩
theorem vtake_any (U : Value) (u : Option Nat) (c x : Int) (w : World) (hU : Unt w U u c) (hc0 : 0 ≤ c) (hc : c < 1000000000) :
    Calls Try.prog 70 #[U, .agg #[.int .i64 (hi x), .int .u64 (lo x)]] w fun e w' => e = .returned (.int .i64 (clampI x)) ∧ w.grownBy w' u ∧ Unt w' U u (c + ov (overI x)) := by
  go_enter Try.func70, Try.ntmps70
  go_wp2_with (first
    | (go_at_call 96; refine (clamp_any _ _).mono ?_; rintro e w1 ⟨rfl, hb1⟩; obtain ⟨hc1, hf1, hz1⟩ := bcell hb1; (try simp at hz1); (try have : w.heap.size < w1.heap.size := by omega); (try have : w.heap.size + 1 < w1.heap.size := by omega); (try have : w.heap.size + 1 + 1 < w1.heap.size := by omega); (try have : w.heap.size + 1 + 1 + 1 < w1.heap.size := by omega); (try have : g < w1.heap.size := by omega); (try have : ga < w1.heap.size := by omega); (try have : gb < w1.heap.size := by omega); (try have : gc < w1.heap.size := by omega); have hB : Below w.heap.size w w1 := (by repeat (first | (with_reducible exact Below.refl _ _) | (with_reducible assumption) | (with_reducible refine Below.drew ?_) | (with_reducible refine Below.alloc ?_ ?_ _) | (with_reducible refine Below.setCell ?_ ?_ _) | (with_reducible refine Below.trans ?_ (Below.mono hb ?_)) | (with_reducible refine Below.trans ?_ (Below.mono hb1 ?_)) | (with_reducible refine Below.trans ?_ (Below.mono hb2 ?_)) | (with_reducible refine Below.trans ?_ (Below.mono hb3 ?_)) | (with_reducible refine Below.trans ?_ (Below.mono hb4 ?_)) | (with_reducible refine Below.trans ?_ (Below.mono hb5 ?_)) | (with_reducible refine Below.trans ?_ (Below.mono hb6 ?_)) | (with_reducible refine Below.trans ?_ (Below.mono hb7 ?_)) | (with_reducible refine Below.trans ?_ (Below.mono hb8 ?_)) | (with_reducible refine Below.trans ?_ (Below.mono hb9 ?_)) | (focus (first | omega | (simp; done) | (simp; omega))) | exact hB)))
    | (go_at_call 86; refine (utake_any U u c _ _ _ (hU.call (by repeat (first | (with_reducible exact Below.refl _ _) | (with_reducible assumption) | (with_reducible refine Below.drew ?_) | (with_reducible refine Below.alloc ?_ ?_ _) | (with_reducible refine Below.setCell ?_ ?_ _) | (with_reducible refine Below.trans ?_ (Below.mono hb ?_)) | (with_reducible refine Below.trans ?_ (Below.mono hb1 ?_)) | (with_reducible refine Below.trans ?_ (Below.mono hb2 ?_)) | (with_reducible refine Below.trans ?_ (Below.mono hb3 ?_)) | (with_reducible refine Below.trans ?_ (Below.mono hb4 ?_)) | (with_reducible refine Below.trans ?_ (Below.mono hb5 ?_)) | (with_reducible refine Below.trans ?_ (Below.mono hb6 ?_)) | (with_reducible refine Below.trans ?_ (Below.mono hb7 ?_)) | (with_reducible refine Below.trans ?_ (Below.mono hb8 ?_)) | (with_reducible refine Below.trans ?_ (Below.mono hb9 ?_)) | (focus (first | omega | (simp; done) | (simp; omega))) | exact hB))) hc0 hc).mono ?_; rintro e w2 ⟨rfl, hg, hV⟩))
  go_ret
  exact ⟨rfl, gr_trans (gr_below hB u) hg, hV⟩
theorem ucount_any (U : Value) (u : Option Nat) (c : Int) (w : World) (hU : Unt w U u c) :
    Calls Try.prog 28 #[U] w fun e w' => e = .returned (.int .i64 (if u = none then 0 else c)) ∧ w = w' := by
  rcases hU with ⟨rfl, rfl⟩ | ⟨g, rfl, rfl, hb⟩
  · go_enter Try.func28, Try.ntmps28
    go_wp2
    go_ret
    exact ⟨rfl, rfl⟩
  · have hc1 := cell_of_one hb
    have hf1 := free_of_one hb
    clear hb
    go_enter Try.func28, Try.ntmps28
    go_wp2_with (go_at_call 57; go_in)
    go_ret
    exact ⟨by simp, rfl⟩
theorem usub_any (U : Value) (u : Option Nat) (c a b : Int) (ha : In64 a) (hb0 : In64 b) (w : World) (hU : Unt w U u c) (hc0 : 0 ≤ c) (hc : c < 1000000000) :
    Calls Try.prog 64 #[U, .int .i64 a, .int .i64 b] w fun e w' => e = .returned (.int .i64 (clampI (a - b))) ∧ w.grownBy w' u ∧ Unt w' U u (c + ov (overI (a - b))) := by
  have hmf : ∀ (fn : Fn) (first cap : Array Value) (w : World), (Instr.makeFunc fn first cap).run Try.prog w = .ok (.func fn first cap) w := fun _ _ _ _ => rfl
  go_enter Try.func64, Try.ntmps64
  go_wp2_with (first
    | (go_at_call 90; go_in)
    | (go_at_call 93; refine (fsub_any a b ha hb0 _).mono ?_; rintro e w1 ⟨rfl, hb1⟩; obtain ⟨hc1, hf1, hz1⟩ := bcell hb1; (try simp at hz1); (try have : w.heap.size < w1.heap.size := by omega); (try have : w.heap.size + 1 < w1.heap.size := by omega); (try have : w.heap.size + 1 + 1 < w1.heap.size := by omega); (try have : w.heap.size + 1 + 1 + 1 < w1.heap.size := by omega); (try have : g < w1.heap.size := by omega); (try have : ga < w1.heap.size := by omega); (try have : gb < w1.heap.size := by omega); (try have : gc < w1.heap.size := by omega); have hB : Below w.heap.size w w1 := (by repeat (first | (with_reducible exact Below.refl _ _) | (with_reducible assumption) | (with_reducible refine Below.drew ?_) | (with_reducible refine Below.alloc ?_ ?_ _) | (with_reducible refine Below.setCell ?_ ?_ _) | (with_reducible refine Below.trans ?_ (Below.mono hb ?_)) | (with_reducible refine Below.trans ?_ (Below.mono hb1 ?_)) | (with_reducible refine Below.trans ?_ (Below.mono hb2 ?_)) | (with_reducible refine Below.trans ?_ (Below.mono hb3 ?_)) | (with_reducible refine Below.trans ?_ (Below.mono hb4 ?_)) | (with_reducible refine Below.trans ?_ (Below.mono hb5 ?_)) | (with_reducible refine Below.trans ?_ (Below.mono hb6 ?_)) | (with_reducible refine Below.trans ?_ (Below.mono hb7 ?_)) | (with_reducible refine Below.trans ?_ (Below.mono hb8 ?_)) | (with_reducible refine Below.trans ?_ (Below.mono hb9 ?_)) | (focus (first | omega | (simp; done) | (simp; omega))) | exact hB)))
    | (go_at_call 86; refine (utake_any U u c _ _ _ (hU.call (by repeat (first | (with_reducible exact Below.refl _ _) | (with_reducible assumption) | (with_reducible refine Below.drew ?_) | (with_reducible refine Below.alloc ?_ ?_ _) | (with_reducible refine Below.setCell ?_ ?_ _) | (with_reducible refine Below.trans ?_ (Below.mono hb ?_)) | (with_reducible refine Below.trans ?_ (Below.mono hb1 ?_)) | (with_reducible refine Below.trans ?_ (Below.mono hb2 ?_)) | (with_reducible refine Below.trans ?_ (Below.mono hb3 ?_)) | (with_reducible refine Below.trans ?_ (Below.mono hb4 ?_)) | (with_reducible refine Below.trans ?_ (Below.mono hb5 ?_)) | (with_reducible refine Below.trans ?_ (Below.mono hb6 ?_)) | (with_reducible refine Below.trans ?_ (Below.mono hb7 ?_)) | (with_reducible refine Below.trans ?_ (Below.mono hb8 ?_)) | (with_reducible refine Below.trans ?_ (Below.mono hb9 ?_)) | (focus (first | omega | (simp; done) | (simp; omega))) | exact hB))) hc0 hc).mono ?_; rintro e w2 ⟨rfl, hg, hV⟩))
  go_ret
  exact ⟨rfl, gr_trans (gr_below hB u) hg, hV⟩
end Go.Proofs.Ytikjomekhnkgcaa
/- Units: Add, Mul, Div. -/
namespace Go.Proofs.Ytikjomekhnkgcaa
open Go.RowKit
attribute [local go_sem ↓] Go.wp_at_zero Go.wp_at_succ

/-- A number of the unit's. -/
def GotN (w : World) (U : Value) (u : Option Nat) (c : Int) (v : Value) (m : Int) (e : Ending) (w' : World) : Prop := e = .returned v ∧ w.grownBy w' u ∧ Unt w' U u (c + m)
theorem umul_any (U : Value) (u : Option Nat) (c a b : Int) (ha : In64 a) (hb0 : In64 b) (w : World) (hU : Unt w U u c) (hc0 : 0 ≤ c) (hc : c < 1000000000) :
    Calls Try.prog 56 #[U, .int .i64 a, .int .i64 b] w (GotN w U u c (.int .i64 (clampI (rnd (a * b) 4294967296))) (ov (overI (rnd (a * b) 4294967296)))) := by
  have hmf : ∀ (fn : Fn) (first cap : Array Value) (w : World), (Instr.makeFunc fn first cap).run Try.prog w = .ok (.func fn first cap) w := fun _ _ _ _ => rfl
  have FM := Lib.hid (fun W => fmul_any a b ha hb0 W)
  generalize rnd (a * b) 4294967296 = r at *
  go_enter Try.func56, Try.ntmps56
  go_wp2_with (first
    | (go_at_call 90; go_in)
    | (go_at_call 91; refine (FM.out _).mono ?_; rintro e w1 ⟨rfl, hb1⟩; obtain ⟨hc1, hf1, hz1⟩ := bcell hb1; (try simp at hz1); (try have : w.heap.size < w1.heap.size := by omega); (try have : w.heap.size + 1 < w1.heap.size := by omega); (try have : w.heap.size + 1 + 1 < w1.heap.size := by omega); (try have : w.heap.size + 1 + 1 + 1 < w1.heap.size := by omega); (try have : g < w1.heap.size := by omega); (try have : ga < w1.heap.size := by omega); (try have : gb < w1.heap.size := by omega); (try have : gc < w1.heap.size := by omega); have hB : Below w.heap.size w w1 := (by repeat (first | (with_reducible exact Below.refl _ _) | (with_reducible assumption) | (with_reducible refine Below.drew ?_) | (with_reducible refine Below.alloc ?_ ?_ _) | (with_reducible refine Below.setCell ?_ ?_ _) | (with_reducible refine Below.trans ?_ (Below.mono hb ?_)) | (with_reducible refine Below.trans ?_ (Below.mono hb1 ?_)) | (with_reducible refine Below.trans ?_ (Below.mono hb2 ?_)) | (with_reducible refine Below.trans ?_ (Below.mono hb3 ?_)) | (with_reducible refine Below.trans ?_ (Below.mono hb4 ?_)) | (with_reducible refine Below.trans ?_ (Below.mono hb5 ?_)) | (with_reducible refine Below.trans ?_ (Below.mono hb6 ?_)) | (with_reducible refine Below.trans ?_ (Below.mono hb7 ?_)) | (with_reducible refine Below.trans ?_ (Below.mono hb8 ?_)) | (with_reducible refine Below.trans ?_ (Below.mono hb9 ?_)) | (focus (first | omega | (simp; done) | (simp; omega))) | exact hB)))
    | (go_at_call 86; refine (utake_any U u c _ _ _ (hU.call (by repeat (first | (with_reducible exact Below.refl _ _) | (with_reducible assumption) | (with_reducible refine Below.drew ?_) | (with_reducible refine Below.alloc ?_ ?_ _) | (with_reducible refine Below.setCell ?_ ?_ _) | (with_reducible refine Below.trans ?_ (Below.mono hb ?_)) | (with_reducible refine Below.trans ?_ (Below.mono hb1 ?_)) | (with_reducible refine Below.trans ?_ (Below.mono hb2 ?_)) | (with_reducible refine Below.trans ?_ (Below.mono hb3 ?_)) | (with_reducible refine Below.trans ?_ (Below.mono hb4 ?_)) | (with_reducible refine Below.trans ?_ (Below.mono hb5 ?_)) | (with_reducible refine Below.trans ?_ (Below.mono hb6 ?_)) | (with_reducible refine Below.trans ?_ (Below.mono hb7 ?_)) | (with_reducible refine Below.trans ?_ (Below.mono hb8 ?_)) | (with_reducible refine Below.trans ?_ (Below.mono hb9 ?_)) | (focus (first | omega | (simp; done) | (simp; omega))) | exact hB))) hc0 hc).mono ?_; rintro e w2 ⟨rfl, hg, hV⟩))
  go_ret
  exact ⟨rfl, gr_trans (gr_below hB u) hg, hV⟩
theorem uadd_any (U : Value) (u : Option Nat) (c a b : Int) (ha : In64 a) (hb0 : In64 b) (w : World) (hU : Unt w U u c) (hc0 : 0 ≤ c) (hc : c < 1000000000) :
    Calls Try.prog 62 #[U, .int .i64 a, .int .i64 b] w (GotN w U u c (.int .i64 (clampI (a + b))) (ov (overI (a + b)))) := by
  have hmf : ∀ (fn : Fn) (first cap : Array Value) (w : World), (Instr.makeFunc fn first cap).run Try.prog w = .ok (.func fn first cap) w := fun _ _ _ _ => rfl
  have FM := Lib.hid (fun W => fadd_any a b ha hb0 W)
  generalize a + b = r at *
  go_enter Try.func62, Try.ntmps62
  go_wp2_with (first
    | (go_at_call 90; go_in)
    | (go_at_call 92; refine (FM.out _).mono ?_; rintro e w1 ⟨rfl, hb1⟩; obtain ⟨hc1, hf1, hz1⟩ := bcell hb1; (try simp at hz1); (try have : w.heap.size < w1.heap.size := by omega); (try have : w.heap.size + 1 < w1.heap.size := by omega); (try have : w.heap.size + 1 + 1 < w1.heap.size := by omega); (try have : w.heap.size + 1 + 1 + 1 < w1.heap.size := by omega); (try have : g < w1.heap.size := by omega); (try have : ga < w1.heap.size := by omega); (try have : gb < w1.heap.size := by omega); (try have : gc < w1.heap.size := by omega); have hB : Below w.heap.size w w1 := (by repeat (first | (with_reducible exact Below.refl _ _) | (with_reducible assumption) | (with_reducible refine Below.drew ?_) | (with_reducible refine Below.alloc ?_ ?_ _) | (with_reducible refine Below.setCell ?_ ?_ _) | (with_reducible refine Below.trans ?_ (Below.mono hb ?_)) | (with_reducible refine Below.trans ?_ (Below.mono hb1 ?_)) | (with_reducible refine Below.trans ?_ (Below.mono hb2 ?_)) | (with_reducible refine Below.trans ?_ (Below.mono hb3 ?_)) | (with_reducible refine Below.trans ?_ (Below.mono hb4 ?_)) | (with_reducible refine Below.trans ?_ (Below.mono hb5 ?_)) | (with_reducible refine Below.trans ?_ (Below.mono hb6 ?_)) | (with_reducible refine Below.trans ?_ (Below.mono hb7 ?_)) | (with_reducible refine Below.trans ?_ (Below.mono hb8 ?_)) | (with_reducible refine Below.trans ?_ (Below.mono hb9 ?_)) | (focus (first | omega | (simp; done) | (simp; omega))) | exact hB)))
    | (go_at_call 86; refine (utake_any U u c _ _ _ (hU.call (by repeat (first | (with_reducible exact Below.refl _ _) | (with_reducible assumption) | (with_reducible refine Below.drew ?_) | (with_reducible refine Below.alloc ?_ ?_ _) | (with_reducible refine Below.setCell ?_ ?_ _) | (with_reducible refine Below.trans ?_ (Below.mono hb ?_)) | (with_reducible refine Below.trans ?_ (Below.mono hb1 ?_)) | (with_reducible refine Below.trans ?_ (Below.mono hb2 ?_)) | (with_reducible refine Below.trans ?_ (Below.mono hb3 ?_)) | (with_reducible refine Below.trans ?_ (Below.mono hb4 ?_)) | (with_reducible refine Below.trans ?_ (Below.mono hb5 ?_)) | (with_reducible refine Below.trans ?_ (Below.mono hb6 ?_)) | (with_reducible refine Below.trans ?_ (Below.mono hb7 ?_)) | (with_reducible refine Below.trans ?_ (Below.mono hb8 ?_)) | (with_reducible refine Below.trans ?_ (Below.mono hb9 ?_)) | (focus (first | omega | (simp; done) | (simp; omega))) | exact hB))) hc0 hc).mono ?_; rintro e w2 ⟨rfl, hg, hV⟩))
  go_ret
  exact ⟨rfl, gr_trans (gr_below hB u) hg, hV⟩
theorem udiv_any (U : Value) (u : Option Nat) (c a b : Int) (ha : In64 a) (hb0 : In64 b) (w : World) (hU : Unt w U u c) (hc0 : 0 ≤ c) (hc : c < 1000000000) :
    Calls Try.prog 83 #[U, .int .i64 a, .int .i64 b] w (GotN w U u c (.int .i64 (divI (a * 4294967296) b a)) (ov (divO (a * 4294967296) b))) := by
  have hmf : ∀ (fn : Fn) (first cap : Array Value) (w : World), (Instr.makeFunc fn first cap).run Try.prog w = .ok (.func fn first cap) w := fun _ _ _ _ => rfl
  have FM := Lib.hid (fun W => fdiv_any a b ha hb0 W)
  generalize divI (a * 4294967296) b a = r at *
  generalize divO (a * 4294967296) b = o at *
  go_enter Try.func83, Try.ntmps83
  go_wp2_with (first
    | (go_at_call 90; go_in)
    | (go_at_call 110; refine (FM.out _).mono ?_; rintro e w1 ⟨rfl, hb1⟩; obtain ⟨hc1, hf1, hz1⟩ := bcell hb1; (try simp at hz1); (try have : w.heap.size < w1.heap.size := by omega); (try have : w.heap.size + 1 < w1.heap.size := by omega); (try have : w.heap.size + 1 + 1 < w1.heap.size := by omega); (try have : w.heap.size + 1 + 1 + 1 < w1.heap.size := by omega); (try have : g < w1.heap.size := by omega); (try have : ga < w1.heap.size := by omega); (try have : gb < w1.heap.size := by omega); (try have : gc < w1.heap.size := by omega); have hB : Below w.heap.size w w1 := (by repeat (first | (with_reducible exact Below.refl _ _) | (with_reducible assumption) | (with_reducible refine Below.drew ?_) | (with_reducible refine Below.alloc ?_ ?_ _) | (with_reducible refine Below.setCell ?_ ?_ _) | (with_reducible refine Below.trans ?_ (Below.mono hb ?_)) | (with_reducible refine Below.trans ?_ (Below.mono hb1 ?_)) | (with_reducible refine Below.trans ?_ (Below.mono hb2 ?_)) | (with_reducible refine Below.trans ?_ (Below.mono hb3 ?_)) | (with_reducible refine Below.trans ?_ (Below.mono hb4 ?_)) | (with_reducible refine Below.trans ?_ (Below.mono hb5 ?_)) | (with_reducible refine Below.trans ?_ (Below.mono hb6 ?_)) | (with_reducible refine Below.trans ?_ (Below.mono hb7 ?_)) | (with_reducible refine Below.trans ?_ (Below.mono hb8 ?_)) | (with_reducible refine Below.trans ?_ (Below.mono hb9 ?_)) | (focus (first | omega | (simp; done) | (simp; omega))) | exact hB)))
    | (go_at_call 86; refine (utake_any U u c _ _ _ (hU.call (by repeat (first | (with_reducible exact Below.refl _ _) | (with_reducible assumption) | (with_reducible refine Below.drew ?_) | (with_reducible refine Below.alloc ?_ ?_ _) | (with_reducible refine Below.setCell ?_ ?_ _) | (with_reducible refine Below.trans ?_ (Below.mono hb ?_)) | (with_reducible refine Below.trans ?_ (Below.mono hb1 ?_)) | (with_reducible refine Below.trans ?_ (Below.mono hb2 ?_)) | (with_reducible refine Below.trans ?_ (Below.mono hb3 ?_)) | (with_reducible refine Below.trans ?_ (Below.mono hb4 ?_)) | (with_reducible refine Below.trans ?_ (Below.mono hb5 ?_)) | (with_reducible refine Below.trans ?_ (Below.mono hb6 ?_)) | (with_reducible refine Below.trans ?_ (Below.mono hb7 ?_)) | (with_reducible refine Below.trans ?_ (Below.mono hb8 ?_)) | (with_reducible refine Below.trans ?_ (Below.mono hb9 ?_)) | (focus (first | omega | (simp; done) | (simp; omega))) | exact hB))) hc0 hc).mono ?_; rintro e w2 ⟨rfl, hg, hV⟩))
  go_ret
  exact ⟨rfl, gr_trans (gr_below hB u) hg, hV⟩

end Go.Proofs.Ytikjomekhnkgcaa
