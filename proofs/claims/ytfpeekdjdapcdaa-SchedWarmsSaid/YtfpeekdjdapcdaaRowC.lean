import Derived.Test.YtfpeekdjdapcdaaRowBase
import Derived.Test.YtfpeekdjdapcdaaC3
import Derived.Deep.Slices
import Derived.Deep.Fields
import Derived.ChangeSame
/- What comes in, opened: a pace, rates, entries. -/
namespace Go.Proofs.Ytfpeekdjdapcdaa
open Go.ChangeShapes Go.WideShapes Go.ChangeAt Go.RowKit Go.Joins Go.Deep

theorem cellsPace : Try.prog.cellsOf 38 = 4 := by kernel_rfl
theorem cellsRates : Try.prog.cellsOf 25 = 3 := by kernel_rfl
theorem cellsDrop : Try.prog.cellsOf 59 = 2 := by kernel_rfl
theorem cellsEntry : Try.prog.cellsOf 46 = 5 := by kernel_rfl
section
variable {H : Type} {enc : TypeId × Value → H} {P : Program} {w : World} {base : Nat} {spare : Nat → Bool} {held : Bool}
theorem open_slice_fields {t e : TypeId} {fs : Array Field} {fuel : Nat} {cs : List Value} {x : DataW H × List MemPlace} (ht : P.underlying t = some (.slice e)) (he : P.underlying e = some (.struct fs))
    (hone : oneCellFields P fs = true) (hC : P.cellsOf e = fs.size) (h : DataW.trod enc P w base spare held fuel t cs = some x) :
    (cs = [.slice none 0 0] ∧ x = (.nil, [])) ∨
    ∃ (a : Addr) (len cap m : Nat), cs = [.slice (some a) len cap] ∧ len ≤ cap ∧ cap ≤ maxLen ∧ m = (if spare a.block then cap else len) ∧
      ∀ i, i < m → ∃ (n : Nat), ∀ (j : Nat) (f : Field), fs[j]? = some f → ∃ (v : Value) (y : DataW H × List MemPlace), w.cell? (a.add (i * fs.size + j)) = some v ∧ DataW.trod enc P w base spare held n f.type [v] = some y := by
  rcases open_slice ht h with h0 | ⟨a, len, cap, m, n, D, Pl, hcs, hb, hl, hm, hmm, hx, hi⟩
  · exact .inl h0
  · refine .inr ⟨a, len, cap, m, hcs, hl, hm, hmm, fun i him => ?_⟩
    obtain ⟨cs', hc, ht'⟩ := hi i him
    rw [hC] at hc
    obtain ⟨ys, n', hn', hy, hlen, hyl, hf⟩ := DataW.trod_struct he ht'
    obtain ⟨_, hcl, hat⟩ := World.cells?_some hc
    refine ⟨n', fun j f hj => ?_⟩
    obtain ⟨ho, hk⟩ := hone_of hone j f hj
    have hjl : j < fs.size := (Array.getElem?_eq_some_iff.1 hj).1
    have hcell := hat j hjl
    have hv : cs'[j]? = some (cs'[j]'(by omega)) := List.getElem?_eq_getElem (by omega)
    have h1 := hf j f hj
    rw [ho, hk] at h1
    have hone' : (cs'.drop j).take 1 = [cs'[j]'(by omega)] := by
      rw [List.drop_eq_getElem_cons (by omega)]
      rfl
    rw [hone'] at h1
    have hys : ys[j]? = some (ys[j]'(by omega)) := List.getElem?_eq_getElem (by omega)
    refine ⟨_, _, ?_, h1.trans hys⟩
    rw [← Go.Deep.add_add, hcell, hv]
end
section
variable {H : Type} {enc : TypeId × Value → H} {W : World} {base b : Nat} {held : Bool} {v : Value} {d : DataW H} {p : List MemPlace}
set_option maxRecDepth 100000 in
theorem open_pace {spare : Nat → Bool} (hv : Value.okWide Try.prog W .any b 38 v) (h : DataW.Trod enc Try.prog W base spare held 38 v d p) :
    ∃ l m f g : Int, v = .agg #[.int .i64 l, .int .i64 m, .int .i64 f, .int .i64 g] ∧ (In64 l ∧ In64 m ∧ In64 f ∧ In64 g) := by
  obtain ⟨c0, c1, c2, c3, y0, y1, y2, y3, m, rfl, _, _, hy0, hy1, hy2, hy3⟩ := open_agg4 Try.underlying38 (by kernel_rfl) cellsPace hv h
  obtain ⟨x0, e0, _, w0⟩ := DataW.trod_int Try.underlying3 hy0
  obtain ⟨x1, e1, _, w1⟩ := DataW.trod_int Try.underlying3 hy1
  obtain ⟨x2, e2, _, w2⟩ := DataW.trod_int Try.underlying3 hy2
  obtain ⟨x3, e3, _, w3⟩ := DataW.trod_int Try.underlying3 hy3
  simp at e0 e1 e2 e3
  subst e0 e1 e2 e3
  exact ⟨x0, x1, x2, x3, rfl, wf_i64 w0, wf_i64 w1, wf_i64 w2, wf_i64 w3⟩
theorem add_at {b o i : Nat} : (⟨b, o, none⟩ : Addr).add i = ⟨b, o + i, none⟩ := by unfold Addr.add; split <;> simp_all
theorem drops_of {fuel : Nat} {cs : List Value} {x : DataW H × List MemPlace} (h : DataW.trod enc Try.prog W base (fun _ => true) held fuel 23 cs = some x) :
    ∃ (A : Option Addr) (n c : Nat) (ta fa : Nat → Int), cs = [.slice A n c] ∧ RdD W A n ta fa ∧ AllD ta fa := by
  rcases open_slice_fields Try.underlying23 Try.underlying59 (by kernel_rfl) cellsDrop h with ⟨hcs, _⟩ | ⟨a, len, cap, m, hcs, hl, _, hm, hi⟩
  · exact ⟨none, 0, 0, fun _ => 0, fun _ => 0, hcs, fun h => absurd h (by omega), fun j => by show In64 0 ∧ In64 0; unfold In64; omega⟩
  · simp only [if_true] at hm
    have each : ∀ i, i < m → ∃ y : Int × Int, W.cell? (a.add (i * 2 + 0)) = some (.int .i64 y.1) ∧ W.cell? (a.add (i * 2 + 1)) = some (.int .i64 y.2) ∧ In64 y.1 ∧ In64 y.2 := by
      intro i him
      obtain ⟨n, hf⟩ := hi i him
      obtain ⟨v0, y0, c0, t0⟩ := hf 0 _ rfl
      obtain ⟨v1, y1, c1, t1⟩ := hf 1 _ rfl
      obtain ⟨x0, e0, _, w0⟩ := DataW.trod_int Try.underlying3 t0
      obtain ⟨x1, e1, _, w1⟩ := DataW.trod_int Try.underlying22 t1
      simp at e0 e1
      subst e0 e1
      exact ⟨(x0, x1), c0, c1, wf_i64 w0, wf_i64 w1⟩
    have pick : ∀ i, ∃ y : Int × Int, (i < m → W.cell? (a.add (i * 2 + 0)) = some (.int .i64 y.1) ∧ W.cell? (a.add (i * 2 + 1)) = some (.int .i64 y.2)) ∧ In64 y.1 ∧ In64 y.2 := by
      intro i
      by_cases h : i < m
      · obtain ⟨y, a1, a2, a3, a4⟩ := each i h
        exact ⟨y, fun _ => ⟨a1, a2⟩, a3, a4⟩
      · exact ⟨(0, 0), fun h' => absurd h' h, by unfold In64; omega, by unfold In64; omega⟩
    obtain ⟨F, hF⟩ := Classical.skolem.1 pick
    refine ⟨some a, len, cap, fun j => (F j).1, fun j => (F j).2, hcs, fun h0 => ?_, fun j => (hF j).2⟩
    have hz := ((hF 0).1 (by omega)).1
    have hsp : a.spot = none := by simpa [Addr.add] using World.cell?_spot hz
    obtain ⟨ab, ao, sp⟩ := a
    simp only at hsp
    subst hsp
    rw [add_at] at hz
    refine ⟨ab, ao, rfl, World.block_lt_of_cell? W _ hz, fun j hj => ?_⟩
    obtain ⟨c0, c1⟩ := (hF j).1 (by omega)
    rw [add_at, Nat.add_zero] at c0
    rw [add_at, ← Nat.add_assoc] at c1
    exact ⟨c0, c1⟩
set_option maxRecDepth 100000 in
theorem open_rates (hv : Value.okWide Try.prog W .any b 25 v) (h : DataW.Trod enc Try.prog W base (fun _ => true) held 25 v d p) :
    ∃ (bs wm : Int) (A : Option Addr) (n c : Nat) (ta fa : Nat → Int), v = .agg #[.int .i64 bs, .int .i64 wm, .slice A n c] ∧ (In64 bs ∧ In64 wm ∧ RdD W A n ta fa ∧ AllD ta fa) := by
  obtain ⟨c0, c1, c2, y0, y1, y2, m, rfl, _, _, hy0, hy1, hy2⟩ := open_agg3 Try.underlying25 (by kernel_rfl) cellsRates hv h
  obtain ⟨x0, e0, _, w0⟩ := DataW.trod_int Try.underlying22 hy0
  obtain ⟨x1, e1, _, w1⟩ := DataW.trod_int Try.underlying3 hy1
  obtain ⟨A, n, c, ta, fa, e2, h1, h2⟩ := drops_of hy2
  simp at e0 e1 e2
  subst e0 e1 e2
  exact ⟨x0, x1, A, n, c, ta, fa, rfl, wf_i64 w0, wf_i64 w1, h1, h2⟩
theorem entries_of {fuel : Nat} {cs : List Value} {x : DataW H × List MemPlace} (h : DataW.trod enc Try.prog W base (fun _ => true) held fuel 39 cs = some x) :
    ∃ (A : Option Addr) (n c : Nat) (ro hh mb sa : Nat → Int) (wa : Nat → Option Addr) (wl wc : Nat → Nat), cs = [.slice A n c] ∧ (n ≤ c ∧ c ≤ 9223372036854775807) ∧ RdE W A n ro hh mb sa wa wl wc ∧ EBd mb wl := by
  rcases open_slice_fields Try.underlying39 Try.underlying46 (by kernel_rfl) cellsEntry h with ⟨hcs, _⟩ | ⟨a, len, cap, m, hcs, hl, hcm, hm, hi⟩
  · exact ⟨none, 0, 0, fun _ => 0, fun _ => 0, fun _ => 0, fun _ => 0, fun _ => none, fun _ => 0, fun _ => 0, hcs, by omega, fun h => absurd h (by omega), fun j => by show In64 0 ∧ 0 ≤ 9223372036854775807; unfold In64; omega⟩
  · simp only [if_true] at hm
    have pick : ∀ i, ∃ y : (Int × Int × Int × Int) × Option Addr × Nat × Nat, (i < m → W.cell? (a.add (i * 5 + 0)) = some (.int .i64 y.1.1) ∧ W.cell? (a.add (i * 5 + 1)) = some (.int .i64 y.1.2.1) ∧ W.cell? (a.add (i * 5 + 2)) = some (.int .i64 y.1.2.2.1) ∧
        W.cell? (a.add (i * 5 + 3)) = some (.slice y.2.1 y.2.2.1 y.2.2.2) ∧ W.cell? (a.add (i * 5 + 4)) = some (.int .i64 y.1.2.2.2)) ∧ In64 y.1.2.2.1 ∧ y.2.2.1 ≤ 9223372036854775807 := by
      intro i
      by_cases him : i < m
      · obtain ⟨n, hf⟩ := hi i him
        obtain ⟨v0, y0, c0, t0⟩ := hf 0 _ rfl
        obtain ⟨v1, y1, c1, t1⟩ := hf 1 _ rfl
        obtain ⟨v2, y2, c2, t2⟩ := hf 2 _ rfl
        obtain ⟨v3, y3, c3, t3⟩ := hf 3 _ rfl
        obtain ⟨v4, y4, c4, t4⟩ := hf 4 _ rfl
        obtain ⟨x0, e0, _, w0⟩ := DataW.trod_int Try.underlying3 t0
        obtain ⟨x1, e1, _, w1⟩ := DataW.trod_int Try.underlying3 t1
        obtain ⟨x2, e2, _, w2⟩ := DataW.trod_int Try.underlying3 t2
        obtain ⟨x4, e4, _, w4⟩ := DataW.trod_int Try.underlying3 t4
        simp at e0 e1 e2 e4
        subst e0 e1 e2 e4
        rcases open_slice Try.underlying44 t3 with ⟨hcs3, _⟩ | ⟨a3, len3, cap3, _, _, _, _, hcs3, _, hl3, hm3, _⟩
        · simp at hcs3
          subst hcs3
          exact ⟨((x0, x1, x2, x4), none, 0, 0), fun _ => ⟨c0, c1, c2, c3, c4⟩, wf_i64 w2, by show 0 ≤ 9223372036854775807; omega⟩
        · simp at hcs3
          subst hcs3
          exact ⟨((x0, x1, x2, x4), some a3, len3, cap3), fun _ => ⟨c0, c1, c2, c3, c4⟩, wf_i64 w2, by unfold maxLen at hm3; show len3 ≤ 9223372036854775807; omega⟩
      · exact ⟨((0, 0, 0, 0), none, 0, 0), fun h' => absurd h' him, by show In64 0; unfold In64; omega, by show 0 ≤ 9223372036854775807; omega⟩
    obtain ⟨F, hF⟩ := Classical.skolem.1 pick
    refine ⟨some a, len, cap, fun j => (F j).1.1, fun j => (F j).1.2.1, fun j => (F j).1.2.2.1, fun j => (F j).1.2.2.2, fun j => (F j).2.1, fun j => (F j).2.2.1, fun j => (F j).2.2.2, hcs, ⟨hl, by unfold maxLen at hcm; omega⟩, fun h0 => ?_, fun j => (hF j).2⟩
    have hz := ((hF 0).1 (by omega)).1
    have hsp : a.spot = none := by simpa [Addr.add] using World.cell?_spot hz
    obtain ⟨ab, ao, sp⟩ := a
    simp only at hsp
    subst hsp
    rw [add_at] at hz
    refine ⟨ab, ao, rfl, World.block_lt_of_cell? W _ hz, fun j hj => ?_⟩
    obtain ⟨c0, c1, c2, c3, c4⟩ := (hF j).1 (by omega)
    rw [add_at, Nat.add_zero] at c0
    rw [add_at, ← Nat.add_assoc] at c1
    rw [add_at, ← Nat.add_assoc] at c2
    rw [add_at, ← Nat.add_assoc] at c3
    rw [add_at, ← Nat.add_assoc] at c4
    exact ⟨c0, c1, c2, c3, c4⟩
set_option maxRecDepth 100000 in
theorem open_entries (hv : Value.okWide Try.prog W .any b 39 v) (h : DataW.Trod enc Try.prog W base (fun _ => true) held 39 v d p) :
    ∃ (A : Option Addr) (n c : Nat) (ro hh mb sa : Nat → Int) (wa : Nat → Option Addr) (wl wc : Nat → Nat), v = .slice A n c ∧ ((n ≤ c ∧ c ≤ 9223372036854775807) ∧ RdE W A n ro hh mb sa wa wl wc ∧ EBd mb wl) := by
  obtain ⟨a0, len, cap, rfl⟩ := okWide_slice Try.underlying39 hv
  obtain ⟨fuel, hf⟩ := h
  obtain ⟨A, n, c, ro, hh, mb, sa, wa, wl, wc, hcs, h0, h1, h2⟩ := entries_of hf
  simp [Value.cells] at hcs
  obtain ⟨rfl, rfl, rfl⟩ := hcs
  exact ⟨_, _, _, ro, hh, mb, sa, wa, wl, wc, rfl, h0, h1, h2⟩
end
end Go.Proofs.Ytfpeekdjdapcdaa
