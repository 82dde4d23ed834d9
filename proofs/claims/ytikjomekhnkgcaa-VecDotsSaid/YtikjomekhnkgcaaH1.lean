import Derived.Test.YtikjomekhnkgcaaG7
import Derived.Test.YtikjomekhnkgcaaV2
/- The reference's rows: Take, Same; a row of numbers turned into the reference's. -/
namespace Go.Proofs.Ytikjomekhnkgcaa
open Go.RowKit
attribute [local go_sem ↓] Go.wp_at_zero Go.wp_at_succ

/-- The reference's unit, a block g, has counted c. -/
def Unr (w : World) (g : Nat) (c : Int) : Prop := w.heap[g]? = some (.cells #[.int .i64 c] 43 (0, 0))
section
variable {w w' : World} {g B : Nat} {c : Int} {u : Option Nat}
theorem Unr.lt (h : Unr w g c) : g < w.heap.size := lt_of_block h
theorem Unr.low (h : Unr w g c) (hb : Below B w w') (hB : g < B) : Unr w' g c := (hb.block g hB).trans h
theorem Unr.call (h : Unr w g c) (hb : Below w.heap.size w w') : Unr w' g c := h.low hb h.lt
theorem Unr.drew (h : Unr w g c) : Unr w.drew g c := h
theorem Unr.grown (h : Unr w g c) (hg : w.grownBy w' u) (hn : some g ≠ u) : Unr w' g c := (hg.block g h.lt hn).trans h
theorem Unt.grown {U : Value} {v : Option Nat} (h : Unt w U v c) (hg : w.grownBy w' u) (hn : ∀ g, v = some g → some g ≠ u) : Unt w' U v c := by
  rcases h with h | ⟨g, h1, h2, h3⟩
  · exact .inl h
  · exact .inr ⟨g, h1, h2, (hg.block g (lt_of_block h3) (hn g h2)).trans h3⟩
end
theorem rtake_any (g : Nat) (c x : Int) (o : Bool) (w : World) (hU : Unr w g c) (hc0 : 0 ≤ c) (hc : c < 1000000000) :
    Calls Try.prog 60 #[.pointer (some ⟨g, 0, none⟩), .int .i64 x, .bool o] w fun e w' => e = .returned (.int .i64 x) ∧ w.grownBy w' (some g) ∧ Unr w' g (c + ov o) := by
  have hc1 := cell_of_one hU
  have hf1 := free_of_one hU
  have hone := one_setCell (u := .int .i64 (c + 1)) hU
  have hU0 := Lib.hid hU
  cases o
  · clear hone
    go_enter Try.func60, Try.ntmps60
    go_wp2
    go_ret
    exact ⟨rfl, World.grownBy.refl _ _, by simpa [ov] using hU0.out⟩
  · have hG : w.grownBy (w.setCell ⟨g, 0, none⟩ (.int .i64 (c + 1))) (some g) :=
      ⟨rfl, rfl, rfl, by simp [World.setCell], fun k hk hne => Below.heap_setCell _ _ _ _ (by rintro rfl; exact hne rfl)⟩
    have hV : Unr (w.setCell ⟨g, 0, none⟩ (.int .i64 (c + 1))) g (c + ov true) := by rw [show ov true = 1 from rfl]; exact hone
    clear hone hU hU0
    go_enter Try.func60, Try.ntmps60
    go_wp2
    go_ret
    exact ⟨rfl, hG, hV⟩
/-- A row of the call's own, of the reference's numbers. -/
def OwnI (B : Nat) (w' : World) (v : Value) (xs : List Int) : Prop := w'.ownsRow B 2 1 v xs.length (xs.map iv)
section
variable {w w' : World} {u : Option Nat} {B : Nat} {v : Value} {xs : List Int}
theorem OwnI.rd (h : OwnI B w v xs) (hB : ∀ g, u = some g → g < B) : ∃ A c, v = .slice A xs.length c ∧ Rd w u A xs.length xs := by
  rcases Nat.eq_zero_or_pos xs.length with h0 | h0
  · have : xs = [] := List.eq_nil_of_length_eq_zero h0
    subst this
    rcases h.2 with ⟨rfl, _⟩ | ⟨g, cap, cur, rfl, _⟩
    · exact ⟨none, 0, rfl, rfl, fun h => absurd h (by simp)⟩
    · exact ⟨_, cap, rfl, rfl, fun h => absurd h (by simp)⟩
  · obtain ⟨g, cap, rfl, hg, hlt⟩ := h.form h0
    refine ⟨_, cap, rfl, rfl, fun _ => ⟨g, 0, rfl, hlt, fun e => by have := hB g e.symm; omega, fun j hj => ?_⟩⟩
    have hc := h.cells (g := g) rfl j (.int .i64 (xs.getD j 0)) (by rw [List.getElem?_map, List.getD_eq_getElem?_getD, List.getElem?_eq_getElem hj]; rfl)
    rwa [show (⟨g, 0, none⟩ : Addr).add j = ⟨g, 0 + j, none⟩ by unfold Addr.add; split <;> simp_all] at hc
theorem OwnI.rdAt {A : Option Addr} {n c : Nat} (h : OwnI B w (.slice A n c) xs) (hB : ∀ g, u = some g → g < B) : Rd w u A xs.length xs := by
  obtain ⟨A', c', e, hr⟩ := h.rd hB
  injection e with e
  rw [e]; exact hr
theorem OwnI.base {B' : Nat} (h : OwnI B' w v xs) (hB : B ≤ B') : OwnI B w v xs := by
  refine ⟨h.1, ?_⟩
  rcases h.2 with h | ⟨g, cap, cur, e, hb, r⟩
  · exact .inl h
  · exact .inr ⟨g, cap, cur, e, by omega, r⟩
theorem OwnI.low (h : OwnI B w v xs) (hb : Below w.heap.size w w') : OwnI B w' v xs :=
  World.ownsRow.kept (row := none) h ⟨hb.os, hb.tape, hb.output, hb.size, fun k hk _ => hb.block k hk⟩ (by cases hv : v.ownBlock <;> simp)
theorem OwnI.grown (h : OwnI B w v xs) (hg : w.grownBy w' u) (hB : ∀ g, u = some g → g < B) : OwnI B w' v xs :=
  World.ownsRow.kept (row := u) h hg (by
    cases hv : v.ownBlock with
    | none => exact .inl rfl
    | some g => exact .inr (fun e => by have := (World.ownsRow.lt h g hv).1; have := hB g e.symm; omega))
theorem OwnI.setBelow (h : OwnI B w v xs) {p : Addr} (hp : p.block < B) (x : Value) : OwnI B (w.setCell p x) v xs :=
  ownsRow_setCell_other h (fun e => by have := (World.ownsRow.lt h _ e).1; omega) x
theorem OwnI.of_row {n : Nat} (h : w.ownsRow B 2 1 v n (xs.map iv)) (hl : xs.length = n) : OwnI B w v xs := by unfold OwnI; rw [hl]; exact h
theorem OwnI.row {n : Nat} (h : OwnI B w v xs) (hl : xs.length = n) : w.ownsRow B 2 1 v n (xs.map iv) := by unfold OwnI at h; rwa [hl] at h
end
theorem infoI64 : (Try.prog.info? 2).map (fun i => (i.zero, i.size, i.bytes)) = some (some (.int .i64 0), 1, 8) := by kernel_rfl
theorem app_i64 {ops : Array Oper} {rest : List Oper} {o : Oper} {a : Act} {Q : Exit → Act → World → Prop} {s x : Operand}
    {B : Nat} {wr : World} (hB : B ≤ wr.heap.size) {v : Value} {n : Nat} {xs : List Value} (hown : wr.ownsRow B 2 1 v n xs) (hn : n < 1000000)
    (hgd : o.guard = none) (ho : o.op = .call { callee := .builtin .append, args := #[s, x], argTypes := #[44, 44] })
    (hs : a.eval s = v) (u : Value) (hx : a.eval x = .slice (some ⟨wr.heap.size, 0, none⟩) 1 1) (h1 : u.oneCell' = true) {E : TypeId}
    (h : ∀ v' w', w'.ownsRow B 2 1 v' (n + 1) (xs ++ [u]) → Below B wr w' → wpList Try.prog ops Q rest (a.put o.dst v') w') :
    wpList Try.prog ops Q (o :: rest) a (wr.alloc (.cells #[u] E)) := by
  obtain ⟨i0, hi, hz0, hz1, hz2⟩ := info_parts infoI64
  exact app_low hgd s x 44 ho 2 i0 (.int .i64 0) Try.underlying44 hi hz0 hz1 hz2 rfl hB v n xs hs hown u hx h1 hn E h
theorem take_get (xs : List Int) (k : Nat) (h : k < xs.length) : xs.take k ++ [xs.getD k 0] = xs.take (k + 1) := by
  rw [List.take_succ_eq_append_getElem h, List.getD_eq_getElem?_getD, List.getElem?_eq_getElem h]; rfl
/-- What same says. -/
def sameB (xs ys : List Int) : Bool := decide (xs = ys)
theorem get_ne {xs ys : List Int} (hl : xs.length = ys.length) (h : ∀ j, j < xs.length → xs.getD j 0 = ys.getD j 0) : xs = ys := by
  refine List.ext_getElem hl fun j h1 h2 => ?_
  have := h j h1
  rw [List.getD_eq_getElem?_getD, List.getD_eq_getElem?_getD, List.getElem?_eq_getElem h1, List.getElem?_eq_getElem h2] at this
  exact this
def PreSame (xs ys : List Int) (k : Nat) : Prop := ∀ j, j < k → xs.getD j 0 = ys.getD j 0
set_option maxHeartbeats 1000000 in
theorem same_any (A C : Option Addr) (n cp cq : Nat) (xs ys : List Int) (w : World) (hn : n < 1000000) (hA : Rd w none A n xs) (hC : Rd w none C n ys) :
    Calls Try.prog 52 #[.slice A n cp, .slice C n cq] w fun e w' => e = .returned (.bool (sameB xs ys)) ∧ Below w.heap.size w w' := by
  have hmax : n ≤ 9223372036854775807 := by omega
  have HA := Lib.hid hA
  have HC := Lib.hid hC
  clear hA hC
  go_enter Try.func52, Try.ntmps52
  go_wp2
  go_loopw [5] (fun i wr => ∃ k : Nat, k ≤ n ∧ i = .int .i64 k ∧ PreSame xs ys k ∧ Below w.heap.size w wr) (fun i _ => n - (intOf i).toNat)
  case atStart => exact ⟨0, Nat.zero_le _, rfl, fun j hj => absurd hj (by omega), Below.refl _ _⟩
  case round =>
    obtain ⟨k, hk, rfl, hP, hB⟩ := hrel
    by_cases hlt : k < n
    · obtain ⟨b1, o1, rfl, g1, _, q1⟩ := (HA.out.call hB).2 (by omega)
      obtain ⟨b2, o2, rfl, g2, _, q2⟩ := (HC.out.call hB).2 (by omega)
      replace q1 := q1 k hlt
      replace q2 := q2 k hlt
      have ia : (0 : Int) ≤ (k : Int) := by omega
      have ib : (k : Int) < (n : Int) := by omega
      have rW : ∀ m, Below w.heap.size w (wr.drewN m) := fun m => ⟨hB.os, hB.tape, hB.output, hB.size, hB.block⟩
      by_cases he : xs.getD k 0 = ys.getD k 0
      · have hP2 : PreSame xs ys (k + 1) := fun j hj => by
          rcases Nat.lt_or_ge j k with h | h
          · exact hP j h
          · obtain rfl : j = k := by omega
            exact he
        have t : (xs.getD k 0 != ys.getD k 0) = false := by simpa using he
        generalize xs.getD k 0 = x at *
        generalize ys.getD k 0 = y at *
        clear he
        go_wp2
        go_quiet (fail)
        go_wp2
        go_roundw
        case rel => exact ⟨k + 1, by omega, by simp, hP2, rW _⟩
        case measure => simp [intOf]; omega
      · have hf : sameB xs ys = false := by
          unfold sameB; rw [decide_eq_false]; intro e; rw [e] at he; exact he rfl
        have HF := Lib.hid hf
        have t : (xs.getD k 0 != ys.getD k 0) = true := by simpa using he
        generalize xs.getD k 0 = x at *
        generalize ys.getD k 0 = y at *
        clear he hf
        go_wp2
        go_quiet (fail)
        go_wp2
        go_ret
        exact ⟨by rw [HF.out]; rfl, rW _⟩
    · obtain rfl : k = n := by omega
      have hf : sameB xs ys = true := by
        unfold sameB; rw [decide_eq_true]; exact get_ne (by rw [HA.out.1, HC.out.1]) (by rw [HA.out.1]; exact hP)
      have HF := Lib.hid hf
      clear hf
      go_wp2
      go_ret
      exact ⟨by rw [HF.out]; rfl, hB⟩
set_option maxHeartbeats 1000000 in
theorem same_no (A C : Option Addr) (n m cp cq : Nat) (w : World) (h : n ≠ m) :
    Calls Try.prog 52 #[.slice A n cp, .slice C m cq] w fun e w' => e = .returned (.bool false) ∧ Below w.heap.size w w' := by
  have hne : ¬ (n : Int) = m := by omega
  clear h
  go_enter Try.func52, Try.ntmps52
  go_wp2
  go_ret
  exact ⟨rfl, (by repeat (first | (with_reducible exact Below.refl _ _) | (with_reducible assumption) | (with_reducible refine Below.drew ?_) | (with_reducible refine Below.alloc ?_ ?_ _) | (with_reducible refine Below.setCell ?_ ?_ _) | (with_reducible refine Below.trans ?_ (Below.mono hb ?_)) | (with_reducible refine Below.trans ?_ (Below.mono hb1 ?_)) | (with_reducible refine Below.trans ?_ (Below.mono hb2 ?_)) | (with_reducible refine Below.trans ?_ (Below.mono hb3 ?_)) | (with_reducible refine Below.trans ?_ (Below.mono hb4 ?_)) | (with_reducible refine Below.trans ?_ (Below.mono hb5 ?_)) | (with_reducible refine Below.trans ?_ (Below.mono hb6 ?_)) | (with_reducible refine Below.trans ?_ (Below.mono hb7 ?_)) | (with_reducible refine Below.trans ?_ (Below.mono hb8 ?_)) | (with_reducible refine Below.trans ?_ (Below.mono hb9 ?_)) | (focus (first | omega | (simp; done) | (simp; omega))) | exact hB))⟩
set_option maxHeartbeats 1000000 in
theorem plain04_any (A : Option Addr) (n cp : Nat) (xs : List Int) (w : World) (hn : n < 1000000) (hA : Rd w none A n xs) :
    Calls Try.prog 24 #[.slice A n cp] w fun e w' => ∃ V, e = .returned V ∧ OwnI w.heap.size w' V xs ∧ Below w.heap.size w w' := by
  have hmax : n ≤ 9223372036854775807 := by omega
  obtain ⟨i0, hi, hz0, hz1, hz2⟩ := info_parts infoI64
  have HA := Lib.hid hA
  have hl := Lib.hid hA.1
  clear hA
  go_enter Try.func24, Try.ntmps24
  go_wp2_with (at_make; refine wpList_make_own _ rfl _ _ 44 rfl w.heap.size 2 i0 (.int .i64 0) 1 Try.underlying44 hi hz0 hz1 .i64 .i64 n n rfl rfl rfl (by rw [hz2]; omega) (by unfold maxLen; omega) (Nat.le_refl _) ?_; intro w1 hown hgrow)
  go_loopw [3, 11] (fun o i wr => ∃ k : Nat, k ≤ n ∧ i = .int .i64 k ∧ OwnI w.heap.size wr o (xs.take k) ∧ Below w.heap.size w wr) (fun _ i _ => n - (intOf i).toNat)
  case atStart =>
    have hb : Below w.heap.size w w1 := ⟨hgrow.os, hgrow.tape, hgrow.output, hgrow.size, fun k hk => hgrow.block k hk (by simp)⟩
    exact ⟨0, Nat.zero_le _, rfl, hown, hb⟩
  case round =>
    clear hown hgrow
    obtain ⟨k, hk, rfl, hownk, hB⟩ := hrel
    by_cases hlt : k < n
    · obtain ⟨b, off, rfl, hb, _, hcells⟩ := (HA.out.call hB).2 (by omega)
      have hcx := hcells k hlt
      have hlk : (xs.take k).length = k := by rw [List.length_take, hl.out]; omega
      have hrow := OwnI.row hownk hlk
      have HN := Lib.hid (take_get xs k (by rw [hl.out]; omega))
      have hz := hB.size
      clear hcells hownk hlk
      go_wp2_with (at_builtin; refine app_i64 hz hrow (by omega) rfl rfl rfl _ rfl rfl ?_; intro v' w3 hown3 hb3)
      go_roundw
      case rel => exact ⟨k + 1, by omega, by simp, OwnI.of_row (by rw [← HN.out, List.map_append]; exact hown3) (by rw [List.length_take, hl.out]; omega), hB.trans hb3⟩
      case measure => simp [intOf]; omega
    · obtain rfl : k = n := by omega
      rw [List.take_of_length_le (by rw [hl.out]; omega)] at hownk
      go_wp2
      go_ret
      exact ⟨_, rfl, hownk, hB⟩
end Go.Proofs.Ytikjomekhnkgcaa
