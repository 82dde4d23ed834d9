import Derived.Test.YtdnccplmpgcleaaW2
import Derived.Test.YtdnccplmpgcleaaPack
import Derived.Test.YtdnccplmpgcleaaBNum
import Derived.Laws.OwnMore
import Derived.Deep.LoopGhost
/- Numbers as lists of bits: the words, plain. -/
namespace Go.Proofs.Ytdnccplmpgcleaa
open Go.RowKit

def bitL (n : Nat) (x : Int) : List Value := (List.range n).map fun k => .int .i64 (bitI k x)
theorem bitL_length (n : Nat) (x : Int) : (bitL n x).length = n := by simp [bitL]
theorem bitL_get {k n : Nat} (x : Int) (h : k < n) : (bitL n x)[k]? = some (.int .i64 (bitI k x)) := by
  simp [bitL, List.getElem?_map, List.getElem?_range h]
theorem bitL_succ (n : Nat) (x : Int) : bitL (n + 1) x = bitL n x ++ [.int .i64 (bitI n x)] := by simp [bitL, List.range_succ]
theorem bitL_zero (x : Int) : bitL 0 x = [] := rfl

/-- Block g holds the n lowest bits of x, from its head on. -/
def Bt (w : World) (g n : Nat) (x : Int) : Prop := g < w.heap.size ∧ ∀ j, j < n → w.cell? ⟨g, j, none⟩ = some (.int .i64 (bitI j x))
section
variable {w w' : World} {g n B : Nat} {x : Int}
theorem Bt.keep (h : Bt w g n x) (hs : w.heap.size ≤ w'.heap.size) (hk : ∀ p : Addr, p.block < w.heap.size → w'.cell? p = w.cell? p) : Bt w' g n x :=
  ⟨by have := h.1; omega, fun j hj => (hk ⟨g, j, none⟩ h.1).trans (h.2 j hj)⟩
theorem Bt.below (h : Bt w g n x) (hb : Below B w w') (hg : g < B) : Bt w' g n x :=
  ⟨by have := hb.size; have := h.1; omega, fun j hj => (hb.cell (p := ⟨g, j, none⟩) hg).trans (h.2 j hj)⟩
theorem Bt.call (h : Bt w g n x) (hb : Below w.heap.size w w') : Bt w' g n x := h.below hb h.1
theorem Bt.drew (h : Bt w g n x) : Bt w.drew g n x := h
theorem Bt.less {m : Nat} (h : Bt w g n x) (hm : m ≤ n) : Bt w g m x := ⟨h.1, fun j hj => h.2 j (by omega)⟩
theorem Bt.as {y : Int} (h : Bt w g n x) (e : ∀ j, j < n → bitI j x = bitI j y) : Bt w g n y := ⟨h.1, fun j hj => by rw [h.2 j hj, e j hj]⟩
theorem row_bt {base : Nat} {e : TypeId} {v : Value} (h : w.ownsRow base e 1 v n (bitL n x)) (hn : 0 < n) :
    ∃ g c, v = .slice (some ⟨g, 0, none⟩) n c ∧ n ≤ c ∧ base ≤ g ∧ Bt w g n x ∧ ∀ i, w.frozen? ⟨g, i, none⟩ = false := by
  rcases h.2 with ⟨rfl, h0⟩ | ⟨g, cap, cur, rfl, hb, hh, hnc, _⟩
  · omega
  · refine ⟨g, cap, rfl, hnc, hb, ⟨(h.lt g rfl).2, fun j hj => ?_⟩, fun i => by simp [World.frozen?, hh]⟩
    have := h.cells (g := g) rfl j _ (bitL_get x hj)
    rwa [show (⟨g, 0, none⟩ : Addr).add j = ⟨g, j, none⟩ by unfold Addr.add; split <;> simp_all] at this
end

theorem own_below {w w' : World} {B : Nat} {e : TypeId} {size n : Nat} {v : Value} {xs : List Value} (h : w.ownsRow B e size v n xs) (hb : Below w.heap.size w w') : w'.ownsRow B e size v n xs :=
  h.kept (row := none) ⟨hb.os, hb.tape, hb.output, hb.size, fun k hk _ => hb.block k hk⟩ (by cases hv : v.ownBlock <;> simp)

/-- What a call of the reference gives back: n bits in a row of its own. -/
def Own (w w' : World) (e : Ending) (n : Nat) (y : Int) : Prop :=
  ∃ g c, e = .returned (.slice (some ⟨g, 0, none⟩) n c) ∧ n ≤ c ∧ w.heap.size ≤ g ∧ Bt w' g n y ∧ (∀ i, w'.frozen? ⟨g, i, none⟩ = false) ∧ Below w.heap.size w w'

section
variable {P : Program}
theorem app_one {ops : Array Oper} {rest : List Oper} {o : Oper} {a : Act} {Q : Exit → Act → World → Prop} (hgd : o.guard = none) (s x : Operand) (t : TypeId)
    (ho : o.op = .call { callee := .builtin .append, args := #[s, x], argTypes := #[t, t] })
    (e : TypeId) (i : TypeInfo) (z : Value) (ht : P.underlying t = some (.slice e)) (hi : P.info? e = some i) (hz : i.zero = some z) (hsize : i.size = 1) (hby : i.bytes = 8) (hzs : z.cells.size = 1)
    {B : Nat} {w wr : World} (hbw : Below B w wr) (hB : B ≤ w.heap.size) (v : Value) (n : Nat) (xs : List Value) (hs : a.eval s = v) (hown : wr.ownsRow B e 1 v n xs)
    (u : Value) (hx : a.eval x = .slice (some ⟨wr.heap.size, 0, none⟩) 1 1) (h1 : u.oneCell' = true) (hn : n < 1000000) (E : TypeId)
    (h : ∀ v' w', w'.ownsRow B e 1 v' (n + 1) (xs ++ [u]) → Below B w w' → wpList P ops Q rest (a.put o.dst v') w') :
    wpList P ops Q (o :: rest) a (wr.alloc (.cells #[u] E)) := by
  have hsz := hbw.size
  refine wpList_append_own _ hgd s x t ho B e i z 1 8 ht hi hz hsize hby hzs (by decide) v n xs hs (hown.alloc _) ⟨wr.heap.size, 0, none⟩ 1 1 [u] hx rfl ?_ ?_ (by unfold maxLen; omega) (by omega) (by simp; omega) ?_
  · intro j u' hj
    match j, hj with
    | 0, hj =>
      simp at hj; subst hj
      rw [show (⟨wr.heap.size, 0, none⟩ : Addr).add 0 = ⟨wr.heap.size, 0, none⟩ by simp [Addr.add]]
      rw [World.cell?_alloc_at _ _ _ _ rfl]; rfl
  · intro u' hu; simp at hu; subst hu; exact h1
  · intro v' w' hown' hgrow _
    exact h v' w' hown' ((hbw.alloc (by omega) _).grown hgrow (by simp; omega) (fun j hj => (hown.lt j hj).1))
end

theorem infoInt : (Try.prog.info? 3).map (fun i => (i.zero, i.size, i.bytes)) = some (some (.int .i64 0), 1, 8) := by kernel_rfl
theorem infoU : (Try.prog.info? 22).map (fun i => (i.zero, i.size, i.bytes)) = some (some (.int .u64 0), 1, 8) := by kernel_rfl
theorem app_int {ops : Array Oper} {rest : List Oper} {o : Oper} {a : Act} {Q : Exit → Act → World → Prop} {s x : Operand}
    {B : Nat} {w wr : World} (hbw : Below B w wr) (hB : B ≤ w.heap.size) {v : Value} {n : Nat} {xs : List Value} (hown : wr.ownsRow B 3 1 v n xs) (hn : n < 1000000)
    (hgd : o.guard = none) (ho : o.op = .call { callee := .builtin .append, args := #[s, x], argTypes := #[26, 26] })
    (hs : a.eval s = v) (u : Value) (hx : a.eval x = .slice (some ⟨wr.heap.size, 0, none⟩) 1 1) (h1 : u.oneCell' = true) {E : TypeId}
    (h : ∀ v' w', w'.ownsRow B 3 1 v' (n + 1) (xs ++ [u]) → Below B w w' → wpList Try.prog ops Q rest (a.put o.dst v') w') :
    wpList Try.prog ops Q (o :: rest) a (wr.alloc (.cells #[u] E)) := by
  obtain ⟨i0, hi, hz0, hz1, hz2⟩ := info_parts infoInt
  exact app_one hgd s x 26 ho 3 i0 (.int .i64 0) Try.underlying26 hi hz0 hz1 hz2 rfl hbw hB v n xs hs hown u hx h1 hn E h
theorem app_u64 {ops : Array Oper} {rest : List Oper} {o : Oper} {a : Act} {Q : Exit → Act → World → Prop} {s x : Operand}
    {B : Nat} {w wr : World} (hbw : Below B w wr) (hB : B ≤ w.heap.size) {v : Value} {n : Nat} {xs : List Value} (hown : wr.ownsRow B 22 1 v n xs) (hn : n < 1000000)
    (hgd : o.guard = none) (ho : o.op = .call { callee := .builtin .append, args := #[s, x], argTypes := #[66, 66] })
    (hs : a.eval s = v) (u : Value) (hx : a.eval x = .slice (some ⟨wr.heap.size, 0, none⟩) 1 1) (h1 : u.oneCell' = true) {E : TypeId}
    (h : ∀ v' w', w'.ownsRow B 22 1 v' (n + 1) (xs ++ [u]) → Below B w w' → wpList Try.prog ops Q rest (a.put o.dst v') w') :
    wpList Try.prog ops Q (o :: rest) a (wr.alloc (.cells #[u] E)) := by
  obtain ⟨i0, hi, hz0, hz1, hz2⟩ := info_parts infoU
  exact app_one hgd s x 66 ho 22 i0 (.int .u64 0) Try.underlying66 hi hz0 hz1 hz2 rfl hbw hB v n xs hs hown u hx h1 hn E h
end Go.Proofs.Ytdnccplmpgcleaa
