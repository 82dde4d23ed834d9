import Derived.Test.YtdnccplmpgcleaaB4
import Derived.Test.YtdnccplmpgcleaaL0
import Derived.Test.YtdnccplmpgcleaaPack
import Derived.StillTailTactics
import Derived.Deep.RegionHeld3
import Derived.Deep.DeepCutAuto
/- The words of the laws of chapter 01: bits, wides, long, times. -/
namespace Go.Proofs.Ytdnccplmpgcleaa
open Go.RowKit
attribute [local go_sem ↓] Go.wp_at_zero Go.wp_at_succ

/-- A cell that stands in an elder block. -/
def Cl (w : World) (b o : Nat) (v : Value) : Prop := b < w.heap.size ∧ w.cell? ⟨b, o, none⟩ = some v
theorem Cl.call {w w' : World} {b o : Nat} {v : Value} (h : Cl w b o v) (hb : Below w.heap.size w w') : Cl w' b o v :=
  ⟨by have := hb.size; have := h.1; omega, (hb.cell (p := ⟨b, o, none⟩) h.1).trans h.2⟩
theorem Cl.drew {w : World} {b o : Nat} {v : Value} (h : Cl w b o v) : Cl w.drew b o v := h
theorem wd_lo (x : Int) : wd 0 x = lo x := by unfold wd lo; simp
theorem wd_hi (x : Int) : wd 1 x = IntKind.u64.wrap (hi x) := by rw [u64w]; unfold wd hi; rfl
theorem w128_lo (x : Int) : lo (w128 x) = wd 0 x := by rw [wd_lo]; unfold lo w128; omega
theorem w128_hi (x : Int) : hi (w128 x) = wrap64 (wd 1 x) := by unfold wd hi w128 wrap64; simp only [show (2 : Int) ^ (64 * 1) = 18446744073709551616 by decide]; omega
theorem wd_q (x : Int) : wd 0 x = q0 x ∧ wd 1 x = q1 x ∧ wd 2 x = IntKind.u64.wrap (tp x) := by
  refine ⟨by unfold wd q0; simp, by unfold wd q1; rfl, ?_⟩
  rw [u64w]; unfold wd tp
  rw [show (2 : Int) ^ (64 * 2) = 18446744073709551616 * 18446744073709551616 by decide, ← Int.ediv_ediv_of_nonneg (by decide)]
theorem rword2 (g c : Nat) (x : Int) (w : World) (hb : Wd w g 2 x) :
    Calls Try.prog 49 #[.slice (some ⟨g, 0, none⟩) 2 c] w fun e w' => Own w w' e 128 x := rword_any g c x 2 (by omega) (by omega) w hb
theorem rword3 (g c : Nat) (x : Int) (w : World) (hb : Wd w g 3 x) :
    Calls Try.prog 49 #[.slice (some ⟨g, 0, none⟩) 3 c] w fun e w' => Own w w' e 192 x := rword_any g c x 3 (by omega) (by omega) w hb
theorem rwords2 (g c : Nat) (x : Int) (w : World) (hb : Bt w g 128 x) :
    Calls Try.prog 48 #[.slice (some ⟨g, 0, none⟩) 128 c] w fun e w' => OwnW w w' e 2 x := rwords_any g c x 2 (by omega) (by omega) w hb
theorem rwords3 (g c : Nat) (x : Int) (w : World) (hb : Bt w g 192 x) :
    Calls Try.prog 48 #[.slice (some ⟨g, 0, none⟩) 192 c] w fun e w' => OwnW w w' e 3 x := rwords_any g c x 3 (by omega) (by omega) w hb
theorem rwords1 (g c : Nat) (x : Int) (w : World) (hb : Bt w g 64 x) :
    Calls Try.prog 48 #[.slice (some ⟨g, 0, none⟩) 64 c] w fun e w' => OwnW w w' e 1 x := rwords_any g c x 1 (by omega) (by omega) w hb
theorem two_words {w : World} {g : Nat} {x : Int} (hl : g < w.heap.size) (h0 : w.cell? ⟨g, 0, none⟩ = some (.int .u64 (wd 0 x))) (h1 : w.cell? ⟨g, 1, none⟩ = some (.int .u64 (wd 1 x))) : Wd w g 2 x :=
  ⟨hl, fun j hj => match j, hj with | 0, _ => h0 | 1, _ => h1⟩
theorem three_words {w : World} {g : Nat} {x : Int} (hl : g < w.heap.size) (h0 : w.cell? ⟨g, 0, none⟩ = some (.int .u64 (wd 0 x))) (h1 : w.cell? ⟨g, 1, none⟩ = some (.int .u64 (wd 1 x))) (h2 : w.cell? ⟨g, 2, none⟩ = some (.int .u64 (wd 2 x))) : Wd w g 3 x :=
  ⟨hl, fun j hj => match j, hj with | 0, _ => h0 | 1, _ => h1 | 2, _ => h2⟩
theorem Own.up {w w0 w' : World} {e : Ending} {n : Nat} {y : Int} (h : Own w0 w' e n y) (hb : Below w.heap.size w w0) : Own w w' e n y := by
  obtain ⟨g, c, h1, h2, h3, h4, h5, h6⟩ := h
  have := hb.size
  exact ⟨g, c, h1, h2, by omega, h4, h5, hb.trans (h6.mono this)⟩

set_option maxHeartbeats 1000000 in
theorem bits_any (a : Int) (w : World) :
    Calls Try.prog 17 #[.agg #[.int .i64 (hi a), .int .u64 (lo a)]] w fun e w' => Own w w' e 128 a := by
  have e0 := wd_lo a
  have e1 := wd_hi a
  go_enter Try.func17, Try.ntmps17
  go_wp2_with (go_at_call 49; refine (rword2 _ _ a _ ?_).mono ?_)
  · exact two_words (by simp) (by simp [*, go_sem]) (by simp [*, go_sem])
  · rintro e w1 ⟨g, c, rfl, h2, h3, h4, h5, hb1⟩
    go_wp2
    go_ret
    exact Own.up ⟨g, c, rfl, h2, h3, h4, h5, hb1⟩ (by repeat (first | exact Below.refl _ _ | refine Below.drew ?_ | refine Below.alloc ?_ (by first | omega | (simp; done) | (simp; omega)) _ | refine Below.setCell ?_ (by first | omega | (simp; done) | (simp; omega)) _ | exact BC | exact BW | exact hB | refine Below.trans ?_ (Below.mono hb1 (by first | omega | (simp; done) | (simp; omega))) | refine Below.trans ?_ (Below.mono hb2 (by first | omega | (simp; done) | (simp; omega))) | refine Below.trans ?_ (Below.mono hb3 (by first | omega | (simp; done) | (simp; omega))) | refine Below.trans ?_ (Below.mono hb4 (by first | omega | (simp; done) | (simp; omega))) | refine Below.trans ?_ (Below.mono hb5 (by first | omega | (simp; done) | (simp; omega))) | refine Below.trans ?_ (Below.mono hb6 (by first | omega | (simp; done) | (simp; omega))) | refine Below.trans ?_ (Below.mono hb7 (by first | omega | (simp; done) | (simp; omega))) | refine Below.trans ?_ (Below.mono hb8 (by first | omega | (simp; done) | (simp; omega))) | refine Below.trans ?_ (Below.mono hb9 (by first | omega | (simp; done) | (simp; omega)))))
set_option maxHeartbeats 1000000 in
theorem long_any (a : Int) (w : World) :
    Calls Try.prog 41 #[.agg #[.int .i64 (tp a), .int .u64 (q1 a), .int .u64 (q0 a)]] w fun e w' => Own w w' e 192 a := by
  obtain ⟨e0, e1, e2⟩ := wd_q a
  go_enter Try.func41, Try.ntmps41
  go_wp2_with (go_at_call 49; refine (rword3 _ _ a _ ?_).mono ?_)
  · exact three_words (by simp) (by simp [*, go_sem]) (by simp [*, go_sem]) (by simp [*, go_sem])
  · rintro e w1 ⟨g, c, rfl, h2, h3, h4, h5, hb1⟩
    go_wp2
    go_ret
    exact Own.up ⟨g, c, rfl, h2, h3, h4, h5, hb1⟩ (by repeat (first | exact Below.refl _ _ | refine Below.drew ?_ | refine Below.alloc ?_ (by first | omega | (simp; done) | (simp; omega)) _ | refine Below.setCell ?_ (by first | omega | (simp; done) | (simp; omega)) _ | exact BC | exact BW | exact hB | refine Below.trans ?_ (Below.mono hb1 (by first | omega | (simp; done) | (simp; omega))) | refine Below.trans ?_ (Below.mono hb2 (by first | omega | (simp; done) | (simp; omega))) | refine Below.trans ?_ (Below.mono hb3 (by first | omega | (simp; done) | (simp; omega))) | refine Below.trans ?_ (Below.mono hb4 (by first | omega | (simp; done) | (simp; omega))) | refine Below.trans ?_ (Below.mono hb5 (by first | omega | (simp; done) | (simp; omega))) | refine Below.trans ?_ (Below.mono hb6 (by first | omega | (simp; done) | (simp; omega))) | refine Below.trans ?_ (Below.mono hb7 (by first | omega | (simp; done) | (simp; omega))) | refine Below.trans ?_ (Below.mono hb8 (by first | omega | (simp; done) | (simp; omega))) | refine Below.trans ?_ (Below.mono hb9 (by first | omega | (simp; done) | (simp; omega)))))
set_option maxHeartbeats 1000000 in
theorem wides_any (g c : Nat) (x : Int) (w : World) (hb : Bt w g 128 x) :
    Calls Try.prog 18 #[.slice (some ⟨g, 0, none⟩) 128 c] w fun e w' => e = .returned (.agg #[.int .i64 (hi (w128 x)), .int .u64 (lo (w128 x))]) ∧ Below w.heap.size w w' := by
  rw [w128_lo, w128_hi]
  have W := wd_u 0 x
  have W' := wd_u 1 x
  obtain ⟨x0, e0⟩ : ∃ x0, wd 0 x = x0 := ⟨_, rfl⟩
  obtain ⟨x1, e1⟩ : ∃ x1, wd 1 x = x1 := ⟨_, rfl⟩
  rw [e0] at W ⊢
  rw [e1] at W' ⊢
  have E0 := Lib.hid e0
  have E1 := Lib.hid e1
  clear e0 e1
  have hg := hb.1
  have hbA : Bt (w.alloc (.cells #[.int .i64 0, .int .u64 0] 24)) g 128 x := hb.call (by repeat (first | exact Below.refl _ _ | refine Below.drew ?_ | refine Below.alloc ?_ (by first | omega | (simp; done) | (simp; omega)) _ | refine Below.setCell ?_ (by first | omega | (simp; done) | (simp; omega)) _ | exact BC | exact BW | exact hB | refine Below.trans ?_ (Below.mono hb1 (by first | omega | (simp; done) | (simp; omega))) | refine Below.trans ?_ (Below.mono hb2 (by first | omega | (simp; done) | (simp; omega))) | refine Below.trans ?_ (Below.mono hb3 (by first | omega | (simp; done) | (simp; omega))) | refine Below.trans ?_ (Below.mono hb4 (by first | omega | (simp; done) | (simp; omega))) | refine Below.trans ?_ (Below.mono hb5 (by first | omega | (simp; done) | (simp; omega))) | refine Below.trans ?_ (Below.mono hb6 (by first | omega | (simp; done) | (simp; omega))) | refine Below.trans ?_ (Below.mono hb7 (by first | omega | (simp; done) | (simp; omega))) | refine Below.trans ?_ (Below.mono hb8 (by first | omega | (simp; done) | (simp; omega))) | refine Below.trans ?_ (Below.mono hb9 (by first | omega | (simp; done) | (simp; omega)))))
  go_enter Try.func18, Try.ntmps18
  go_wp2_with (go_at_call 48; refine (rwords2 _ _ x _ hbA).mono ?_; rintro e w1 ⟨g1, c1, rfl, h2, h3, h4, hb1⟩)
  have hlt : w.heap.size < g1 := by have := h3; simp at this; omega
  have bx0 : w1.heap[w.heap.size]? = some (.cells #[.int .i64 0, .int .u64 0] 24) := (hb1.block _ (by simp)).trans (heap_alloc_new w _)
  have BW : Below w.heap.size w w1 := (by repeat (first | exact Below.refl _ _ | refine Below.drew ?_ | refine Below.alloc ?_ (by first | omega | (simp; done) | (simp; omega)) _ | refine Below.setCell ?_ (by first | omega | (simp; done) | (simp; omega)) _ | exact BC | exact BW | exact hB | refine Below.trans ?_ (Below.mono hb1 (by first | omega | (simp; done) | (simp; omega))) | refine Below.trans ?_ (Below.mono hb2 (by first | omega | (simp; done) | (simp; omega))) | refine Below.trans ?_ (Below.mono hb3 (by first | omega | (simp; done) | (simp; omega))) | refine Below.trans ?_ (Below.mono hb4 (by first | omega | (simp; done) | (simp; omega))) | refine Below.trans ?_ (Below.mono hb5 (by first | omega | (simp; done) | (simp; omega))) | refine Below.trans ?_ (Below.mono hb6 (by first | omega | (simp; done) | (simp; omega))) | refine Below.trans ?_ (Below.mono hb7 (by first | omega | (simp; done) | (simp; omega))) | refine Below.trans ?_ (Below.mono hb8 (by first | omega | (simp; done) | (simp; omega))) | refine Below.trans ?_ (Below.mono hb9 (by first | omega | (simp; done) | (simp; omega)))))
  have c0 := h4.2 0 (by omega)
  have c1' := h4.2 1 (by omega)
  have k1 := h4.1
  have k2 : ¬ g1 = w.heap.size := by omega
  have BX0 : Bx w.heap.size 2 w1 w1 := Bx.refl bx0 (by simp)
  rw [E0.out] at c0
  rw [E1.out] at c1'
  clear hb hbA hb1 h3 h4 E0 E1
  obtain ⟨W0, rfl⟩ : ∃ W0, W0 = w1 := ⟨_, rfl⟩
  go_still_tail 8, (by kernel_rfl)
  change wpList _ _ _ _ _ W0.drew
  have bx2 : W0.drew.heap[w.heap.size]? = some (.cells #[.int .i64 0, .int .u64 0] 24) := bx0
  have B2 : Below w.heap.size w W0.drew := BW.drew
  clear bx0 BW BX0 c0 c1' k1
  generalize W0.drew = w2 at *
  have o0 : w2.cell? ⟨w.heap.size, 0, none⟩ = some (.int .i64 0) := by simp [World.cell?, bx2]
  have o1 : w2.cell? ⟨w.heap.size, 1, none⟩ = some (.int .u64 0) := by simp [World.cell?, bx2]
  have o2 : w2.frozen? ⟨w.heap.size, 0, none⟩ = false := by simp [World.frozen?, bx2]
  have o3 : w2.frozen? ⟨w.heap.size, 1, none⟩ = false := by simp [World.frozen?, bx2]
  have B3 := (B2.setCell (p := ⟨w.heap.size, 0, none⟩) (Nat.le_refl _) (.int .i64 (wrap64 x1))).setCell (p := ⟨w.heap.size, 1, none⟩) (Nat.le_refl _) (.int .u64 x0)
  clear bx2 B2
  go_wp2
  refine bodyPost_ret (v := _) ?_ rfl ⟨rfl, B3⟩
  simp [*, results, Try.results18, go_sem]
theorem times_any (n m : Int) (w : World) :
    Calls Try.prog 33 #[.int .i64 n, .int .i64 m] w fun e w' => e = .returned (.int .i64 (min (max n 0) m)) ∧ Below w.heap.size w w' := by
  go_enter Try.func33, Try.ntmps33
  go_wp2
  go_ret
  exact ⟨rfl, (by repeat (first | exact Below.refl _ _ | refine Below.drew ?_ | refine Below.alloc ?_ (by first | omega | (simp; done) | (simp; omega)) _ | refine Below.setCell ?_ (by first | omega | (simp; done) | (simp; omega)) _ | exact BC | exact BW | exact hB | refine Below.trans ?_ (Below.mono hb1 (by first | omega | (simp; done) | (simp; omega))) | refine Below.trans ?_ (Below.mono hb2 (by first | omega | (simp; done) | (simp; omega))) | refine Below.trans ?_ (Below.mono hb3 (by first | omega | (simp; done) | (simp; omega))) | refine Below.trans ?_ (Below.mono hb4 (by first | omega | (simp; done) | (simp; omega))) | refine Below.trans ?_ (Below.mono hb5 (by first | omega | (simp; done) | (simp; omega))) | refine Below.trans ?_ (Below.mono hb6 (by first | omega | (simp; done) | (simp; omega))) | refine Below.trans ?_ (Below.mono hb7 (by first | omega | (simp; done) | (simp; omega))) | refine Below.trans ?_ (Below.mono hb8 (by first | omega | (simp; done) | (simp; omega))) | refine Below.trans ?_ (Below.mono hb9 (by first | omega | (simp; done) | (simp; omega)))))⟩
end Go.Proofs.Ytdnccplmpgcleaa
