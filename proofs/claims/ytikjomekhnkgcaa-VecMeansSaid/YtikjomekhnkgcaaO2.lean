import Derived.Test.YtikjomekhnkgcaaO1
import Derived.Deep.RegionLaw
/- Begin. -/
namespace Go.Proofs.Ytikjomekhnkgcaa
open Go.RowKit
attribute [local go_sem ↓] Go.wp_at_zero Go.wp_at_succ

section
variable {P : Program}
/-- A row appended whole, nil or not. -/
theorem run_app_all (w : World) (B : Nat) (t ty e : TypeId) (i : TypeInfo) (z : Value) (ht : P.underlying t = some (.slice e)) (hi : P.info? e = some i) (hz : i.zero = some z) (hsize : i.size = 1) (hby : i.bytes = 8) (hzs : z.cells.size = 1)
    (v : Value) (n : Nat) (xs : List Value) (hown : w.ownsRow B e 1 v n xs) (u : Option Nat) (A : Option Addr) (m c : Nat) (ys : List Int) (hr : Rd w u A m ys) (hn : n + m ≤ 1000000) (hB : B ≤ w.heap.size) :
    ∃ v' w', (Builtin.append_ #[t, t] ty #[v, .slice A m c]).run P w = .ok v' w' ∧ w'.ownsRow B e 1 v' (n + m) (xs ++ ys.map iv) ∧ w.grownBy w' v.ownBlock ∧ (v'.ownBlock = v.ownBlock ∨ v'.ownBlock = some w.heap.size) := by
  have hl : ys.length = m := hr.1
  cases A with
  | none =>
    have hm : m = 0 := by
      rcases Nat.eq_zero_or_pos m with h0 | h0
      · exact h0
      · obtain ⟨b, off, h, _⟩ := hr.2 h0; cases h
    subst hm
    have hy : ys = [] := List.eq_nil_of_length_eq_zero hl
    subst hy
    refine ⟨v, w, ?_, by simpa using hown, World.grownBy.refl w _, .inl rfl⟩
    rcases hown.2 with ⟨rfl, rfl⟩ | ⟨g, cap, cur, rfl, _, _, hnc, _⟩
    · simp [Builtin.append_, run_underlying ht, sizeOf, typeInfo, hi, Builtin.lenOf, Builtin.firstCells]
    · simp [Builtin.append_, run_underlying ht, sizeOf, typeInfo, hi, Builtin.lenOf, Builtin.firstCells, hnc, storeCells]
  | some ad =>
    have hc : ∀ j x, (ys.map iv)[j]? = some x → w.cell? (ad.add j) = some x := by
      intro j x hj
      rcases Nat.eq_zero_or_pos m with h0 | h0
      · have hy : ys = [] := List.eq_nil_of_length_eq_zero (by omega)
        subst hy; simp at hj
      · obtain ⟨b, off, h, _, _, hcells⟩ := hr.2 h0
        injection h with h
        subst h
        have hjm : j < m := by
          rcases Nat.lt_or_ge j m with h | h
          · exact h
          · rw [List.getElem?_eq_none (by simp; omega)] at hj; cases hj
        rw [show (⟨b, off, none⟩ : Addr).add j = ⟨b, off + j, none⟩ by unfold Addr.add; split <;> simp_all, hcells j hjm]
        rw [List.getElem?_map, List.getElem?_eq_getElem (by omega)] at hj
        rw [List.getD_eq_getElem?_getD, List.getElem?_eq_getElem (by omega)]
        exact hj
    obtain ⟨v', w', h1, h2, h3, _, h5⟩ := run_append_own_at (P := P) w B t ty e i z 1 8 ht hi hz hsize hby hzs (by decide) v n xs hown ad m c (ys.map iv) (by simp [hl]) hc (by intro x hx; simp at hx; obtain ⟨a, _, rfl⟩ := hx; rfl) (by unfold maxLen; omega) (by omega) hB
    exact ⟨v', w', h1, h2, h3, h5⟩
theorem step_app_all {ops : Array Oper} {o : Oper} {a : Act} {w : World} {K : Act → World → Prop} {Q : Exit → Act → World → Prop} {E : Prop} (hgd : o.guard = none) (s x : Operand) (t : TypeId)
    (ho : o.op = .call { callee := .builtin .append, args := #[s, x], argTypes := #[t, t] })
    (B : Nat) (e : TypeId) (i : TypeInfo) (z : Value) (ht : P.underlying t = some (.slice e)) (hi : P.info? e = some i) (hz : i.zero = some z) (hsize : i.size = 1) (hby : i.bytes = 8) (hzs : z.cells.size = 1)
    (v : Value) (n : Nat) (xs : List Value) (hs : a.eval s = v) (hown : w.ownsRow B e 1 v n xs) (u : Option Nat) (A : Option Addr) (m c : Nat) (ys : List Int) (hx : a.eval x = .slice A m c) (hr : Rd w u A m ys) (hn : n + m ≤ 1000000) (hB : B ≤ w.heap.size)
    (h : ∀ v' w', w'.ownsRow B e 1 v' (n + m) (xs ++ ys.map iv) → w.grownBy w' v.ownBlock → (v'.ownBlock = v.ownBlock ∨ v'.ownBlock = some w.heap.size) → K (a.put o.dst v') w') :
    if Region.wanted o (yielded ops a.tmps) = true then Oper.wp P o a w K Q else E := by
  have hw : Region.wanted o (yielded ops a.tmps) = true := by simp [Region.wanted, hgd]
  rw [if_pos hw]
  obtain ⟨v', w', hrun, h2, h3, h4⟩ := run_app_all (P := P) w B t o.type e i z ht hi hz hsize hby hzs v n xs hown u A m c ys hr hn hB
  unfold Oper.wp execOp
  simp only [ho, resolve, invoke, builtin, Sem.run_bind, Sem.run_pure, Result.andThen_ok, List.map_toArray, List.map_cons, List.map_nil, hs, hx, hrun]
  exact h v' w' h2 h3 h4
end
/-- Noughts, as many as asked for. -/
theorem own_zeros (w : World) (n : Nat) (hn : n ≤ 1000000) : OwnF w.heap.size (w.alloc (.cells (madeCells #[.int .i64 0] n) 28)) (.slice (some ⟨w.heap.size, 0, none⟩) n n) (List.replicate n 0) := by
  refine ⟨by simp, .inr ⟨w.heap.size, n, _, by simp, Nat.le_refl _, heap_alloc_new _ _, by simp, by unfold maxLen; omega, by simp [size_madeCells], ?_⟩⟩
  simp only [List.length_replicate, Nat.mul_one, List.map_replicate]
  refine List.ext_getElem (by simp [size_madeCells]) fun j h1 h2 => ?_
  simp only [madeCells, iv, Array.toList_map, Array.toList_range, List.getElem_take, List.getElem_map, List.getElem_range, List.getElem_replicate]
  rw [show j % #[Value.int .i64 0].size = 0 from Nat.mod_one j]
  rfl
theorem run_zeros (n : Nat) (hn : n ≤ 1000000) (w : World) : (Instr.makeSlice 22 (.int .i64 (n : Int)) (.int .i64 (n : Int))).run Try.prog w =
    .ok (.slice (some ⟨w.heap.size, 0, none⟩) n n) (w.alloc (.cells (madeCells #[.int .i64 0] n) 28)) := by
  obtain ⟨i0, hi, hz0, hz1, hz2⟩ := info_parts infoFix
  have h := run_make (P := Try.prog) w 22 28 i0 (.int .i64 0) Try.underlying22 hi hz0 .i64 .i64 (n : Int) (n : Int) (by omega) (by omega) (by rw [hz2]; omega) (by omega)
  simpa [hz1, Value.cells] using h
theorem OwnF.drew {w : World} {B : Nat} {v : Value} {xs : List Int} (h : OwnF B w v xs) : OwnF B w.drew v xs := h
theorem own_e {w : World} {B : Nat} (g : Nat) (hg : g = w.heap.size) (hB : B ≤ g) : (w.alloc (.cells #[] 28)).ownsRow B 28 1 (.slice (some ⟨g, 0, none⟩) 0 0) 0 [] := by
  subst hg
  exact ⟨rfl, .inr ⟨_, 0, #[], rfl, hB, heap_alloc_new _ _, Nat.le_refl _, by unfold maxLen; omega, rfl, rfl⟩⟩
theorem own_ps {B : Nat} {w : World} {V : Value} {ps : List Int} {n : Nat} (h : w.ownsRow B 28 1 V (0 + n) ([] ++ ps.map iv)) (hl : ps.length = n) : OwnF B w V ps := by
  unfold OwnF; rw [hl]; simpa using h
theorem rv_block1 {w : World} {o o1 : Obj} : ((w.alloc o).alloc o1).drew.heap[w.heap.size]? = some o := (Below.heap_alloc (w.alloc o) o1 _ (by simp)).trans (heap_alloc_new w o)
theorem rv_block2 {w : World} {o o1 o2 : Obj} : (((w.alloc o).alloc o1).alloc o2).drew.heap[w.heap.size]? = some o := (Below.heap_alloc _ o2 _ (by simp; omega)).trans rv_block1
end Go.Proofs.Ytikjomekhnkgcaa
