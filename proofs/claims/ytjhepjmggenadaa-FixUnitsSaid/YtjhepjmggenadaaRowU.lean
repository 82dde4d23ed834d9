import Derived.Test.YtjhepjmggenadaaRowBase
import Derived.Test.YtjhepjmggenadaaWFUnits
import Derived.Deep.Slices
import Derived.Deep.Fields
import Derived.ChangeSame
/- What comes in, opened: ops of a unit. -/
namespace Go.Proofs.Ytjhepjmggenadaa
open Go.ChangeShapes Go.WideShapes Go.ChangeAt Go.RowKit Go.Joins Go.Deep

theorem cellsOp : Try.prog.cellsOf 68 = 3 := by kernel_rfl
section
variable {H : Type} {enc : TypeId × Value → H} {P : Program} {w : World} {base : Nat} {spare : Nat → Bool} {held : Bool}
theorem open_slice_fieldsU {t e : TypeId} {fs : Array Field} {fuel : Nat} {cs : List Value} {x : DataW H × List MemPlace} (ht : P.underlying t = some (.slice e)) (he : P.underlying e = some (.struct fs))
    (hone : oneCellFields P fs = true) (hC : P.cellsOf e = fs.size) (h : DataW.trod enc P w base spare held fuel t cs = some x) :
    (cs = [.slice none 0 0] ∧ x = (.nil, [])) ∨
    ∃ (a : Addr) (len cap m : Nat), cs = [.slice (some a) len cap] ∧ len ≤ cap ∧ cap ≤ maxLen ∧ m = (if spare a.block then cap else len) ∧
      ∀ i, i < m → ∃ (n : Nat), ∀ (j : Nat) (f : Field), fs[j]? = some f → ∃ (v : Value) (y : DataW H × List MemPlace), w.cell? (a.add (i * fs.size + j)) = some v ∧ DataW.trod enc P w base spare held n f.type [v] = some y := by
  rcases open_slice ht h with h0 | ⟨a, len, cap, m, n, D, Pl, hcs, hb, hl, hm, hmm, hx, hi⟩
  · exact .inl h0
  · refine .inr ⟨a, len, cap, m, hcs, hl, hm, hmm, fun i him => ?_⟩
    obtain ⟨cs', hc, ht'⟩ := hi i him
    rw [hC] at hc
    obtain ⟨ys, n', hn', hy, hlen, hyl, hf⟩ := DataW.trod_struct he ht'
    obtain ⟨_, hcl, hat⟩ := World.cells?_some hc
    refine ⟨n', fun j f hj => ?_⟩
    obtain ⟨ho, hk⟩ := hone_of hone j f hj
    have hjl : j < fs.size := (Array.getElem?_eq_some_iff.1 hj).1
    have hcell := hat j hjl
    have hv : cs'[j]? = some (cs'[j]'(by omega)) := List.getElem?_eq_getElem (by omega)
    have h1 := hf j f hj
    rw [ho, hk] at h1
    have hone' : (cs'.drop j).take 1 = [cs'[j]'(by omega)] := by
      rw [List.drop_eq_getElem_cons (by omega)]
      rfl
    rw [hone'] at h1
    have hys : ys[j]? = some (ys[j]'(by omega)) := List.getElem?_eq_getElem (by omega)
    refine ⟨_, _, ?_, h1.trans hys⟩
    rw [← Go.Deep.add_add, hcell, hv]
end
section
variable {H : Type} {enc : TypeId × Value → H} {W : World} {base b : Nat} {held : Bool} {v : Value} {d : DataW H} {p : List MemPlace}
theorem add_atU {b o i : Nat} : (⟨b, o, none⟩ : Addr).add i = ⟨b, o + i, none⟩ := by unfold Addr.add; split <;> simp_all
theorem ops_of {fuel : Nat} {cs : List Value} {x : DataW H × List MemPlace} (h : DataW.trod enc Try.prog W base (fun _ => true) held fuel 61 cs = some x) :
    ∃ (A : Option Addr) (n c : Nat) (ks as_ bs : Nat → Int), cs = [.slice A n c] ∧ RdO W A n ks as_ bs ∧ All3 ks as_ bs := by
  have z : In64 0 := by unfold In64; omega
  rcases open_slice_fieldsU Try.underlying61 Try.underlying68 (by kernel_rfl) cellsOp h with ⟨hcs, _⟩ | ⟨a, len, cap, m, hcs, hl, _, hm, hi⟩
  · exact ⟨none, 0, 0, fun _ => 0, fun _ => 0, fun _ => 0, hcs, fun h => absurd h (by omega), fun j => ⟨z, z, z⟩⟩
  · simp only [if_true] at hm
    have each : ∀ i, i < m → ∃ y : Int × Int × Int, (W.cell? (a.add (i * 3 + 0)) = some (.int .i64 y.1) ∧ W.cell? (a.add (i * 3 + 1)) = some (.int .i64 y.2.1) ∧ W.cell? (a.add (i * 3 + 2)) = some (.int .i64 y.2.2)) ∧ In64 y.1 ∧ In64 y.2.1 ∧ In64 y.2.2 := by
      intro i him
      obtain ⟨n, hf⟩ := hi i him
      obtain ⟨v0, y0, c0, t0⟩ := hf 0 _ rfl
      obtain ⟨v1, y1, c1, t1⟩ := hf 1 _ rfl
      obtain ⟨v2, y2, c2, t2⟩ := hf 2 _ rfl
      obtain ⟨x0, e0, _, w0⟩ := DataW.trod_int Try.underlying3 t0
      obtain ⟨x1, e1, _, w1⟩ := DataW.trod_int Try.underlying22 t1
      obtain ⟨x2, e2, _, w2⟩ := DataW.trod_int Try.underlying22 t2
      simp at e0 e1 e2
      subst e0 e1 e2
      exact ⟨(x0, x1, x2), ⟨c0, c1, c2⟩, wf_i64 w0, wf_i64 w1, wf_i64 w2⟩
    have pick : ∀ i, ∃ y : Int × Int × Int, (i < m → W.cell? (a.add (i * 3 + 0)) = some (.int .i64 y.1) ∧ W.cell? (a.add (i * 3 + 1)) = some (.int .i64 y.2.1) ∧ W.cell? (a.add (i * 3 + 2)) = some (.int .i64 y.2.2)) ∧ In64 y.1 ∧ In64 y.2.1 ∧ In64 y.2.2 := by
      intro i
      by_cases h : i < m
      · obtain ⟨y, a1, a2⟩ := each i h
        exact ⟨y, fun _ => a1, a2⟩
      · exact ⟨(0, 0, 0), fun h' => absurd h' h, z, z, z⟩
    obtain ⟨F, hF⟩ := Classical.skolem.1 pick
    refine ⟨some a, len, cap, fun j => (F j).1, fun j => (F j).2.1, fun j => (F j).2.2, hcs, fun h0 => ?_, fun j => (hF j).2⟩
    have hz := ((hF 0).1 (by omega)).1
    have hsp : a.spot = none := by simpa [Addr.add] using World.cell?_spot hz
    obtain ⟨ab, ao, sp⟩ := a
    simp only at hsp
    subst hsp
    rw [add_atU] at hz
    refine ⟨ab, ao, rfl, World.block_lt_of_cell? W _ hz, fun j hj => ?_⟩
    obtain ⟨c0, c1, c2⟩ := (hF j).1 (by omega)
    rw [add_atU, Nat.add_zero] at c0
    rw [add_atU, ← Nat.add_assoc] at c1 c2
    exact ⟨c0, c1, c2⟩
set_option maxRecDepth 100000 in
theorem open_ops (hv : Value.okWide Try.prog W .any b 61 v) (h : DataW.Trod enc Try.prog W base (fun _ => true) held 61 v d p) :
    ∃ (A : Option Addr) (n c : Nat) (ks as_ bs : Nat → Int), v = .slice A n c ∧ (RdO W A n ks as_ bs ∧ All3 ks as_ bs) := by
  obtain ⟨a0, len, cap, rfl⟩ := okWide_slice Try.underlying61 hv
  obtain ⟨fuel, hf⟩ := h
  obtain ⟨A, n, c, ks, as_, bs, hcs, h1, h2⟩ := ops_of hf
  simp [Value.cells] at hcs
  obtain ⟨rfl, rfl, rfl⟩ := hcs
  exact ⟨_, _, _, ks, as_, bs, rfl, h1, h2⟩
end
end Go.Proofs.Ytjhepjmggenadaa
