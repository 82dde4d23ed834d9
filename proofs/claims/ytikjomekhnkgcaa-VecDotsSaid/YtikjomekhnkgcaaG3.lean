import Derived.Test.YtikjomekhnkgcaaG2
import Derived.Deep.RegionWith
/- The reference's great numbers: Size, One64, Product. -/
namespace Go.Proofs.Ytikjomekhnkgcaa
open Go.RowKit
attribute [local go_sem ↓] Go.wp_at_zero Go.wp_at_succ

theorem size02_any (a : Int) (ha : In64 a) (w : World) : Calls Try.prog 101 #[.int .i64 a] w fun e w' => e = .returned (.int .u64 (absI a)) ∧ w = w' := by
  unfold In64 at ha
  by_cases h : a < 0
  · have e : (-(IntKind.u64.wrap a)) % 18446744073709551616 = absI a := by rw [u64w]; unfold absI; rw [if_pos h]; omega
    have e2 : IntKind.u64.wrap (-(IntKind.u64.wrap a)) = absI a := by rw [u64w]; exact e
    go_enter Try.func101, Try.ntmps101
    go_wp2
    go_ret
    exact ⟨rfl, rfl⟩
  · have e : IntKind.u64.wrap a = absI a := by rw [u64w]; unfold absI; rw [if_neg h]; omega
    go_enter Try.func101, Try.ntmps101
    go_wp2
    go_ret
    exact ⟨rfl, rfl⟩
theorem undrew {w w1 : World} (h : Below w.drew.heap.size w.drew w1) : Below w.heap.size w w1 := ⟨h.os, h.tape, h.output, h.size, h.block⟩
theorem u64_id {x : Int} (h : U64 x) : IntKind.u64.wrap x = x := by obtain ⟨h0, h1⟩ := h; rw [u64w]; omega
/-- A number, so many digits up. -/
def upB (p a : Int) : Int := if p = 0 then a else if p = 1 then a * 4294967296 else a * 18446744073709551616
theorem set6 {w : World} {g : Nat} {T : TypeId} {a0 a1 a2 a3 a4 a5 : Value} (v0 v1 v2 v3 v4 v5 : Value) (h : w.heap[g]? = some (.cells #[a0, a1, a2, a3, a4, a5] T (0, 0))) :
    ((((((w.setCell ⟨g, 0, none⟩ v0).setCell ⟨g, 1, none⟩ v1).setCell ⟨g, 2, none⟩ v2).setCell ⟨g, 3, none⟩ v3).setCell ⟨g, 4, none⟩ v4).setCell ⟨g, 5, none⟩ v5).heap[g]? = some (.cells #[v0, v1, v2, v3, v4, v5] T (0, 0)) := by
  simp [World.setCell, Array.getElem?_modify, h]
theorem set6_below {w : World} {B g : Nat} (v0 v1 v2 v3 v4 v5 : Value) (hB : B ≤ g) :
    Below B w ((((((w.setCell ⟨g, 0, none⟩ v0).setCell ⟨g, 1, none⟩ v1).setCell ⟨g, 2, none⟩ v2).setCell ⟨g, 3, none⟩ v3).setCell ⟨g, 4, none⟩ v4).setCell ⟨g, 5, none⟩ v5) :=
  (((((bel_d B w ⟨g, 0, none⟩ v0 hB).trans (bel_d B _ ⟨g, 1, none⟩ v1 hB)).trans (bel_d B _ ⟨g, 2, none⟩ v2 hB)).trans (bel_d B _ ⟨g, 3, none⟩ v3 hB)).trans (bel_d B _ ⟨g, 4, none⟩ v4 hB)).trans (bel_d B _ ⟨g, 5, none⟩ v5 hB)
set_option maxHeartbeats 1000000 in
theorem one64_any (a p : Int) (ha : U64 a) (hp : 0 ≤ p) (hp2 : p ≤ 2) (w : World) : Calls Try.prog 103 #[.int .u64 a, .int .i64 p] w fun e w' => e = .returned (.agg #[.int .u64 (dg 0 (upB p a)), .int .u64 (dg 1 (upB p a)), .int .u64 (dg 2 (upB p a)), .int .u64 (dg 3 (upB p a)), .int .u64 (dg 4 (upB p a)), .int .u64 (dg 5 (upB p a))]) ∧ Below w.heap.size w w' := by
  obtain ⟨a0, a1⟩ := ha
  have h3 : p = 0 ∨ p = 1 ∨ p = 2 := by omega
  rcases h3 with rfl | rfl | rfl
  · obtain ⟨e0, e1, e2, e3, e4, e5⟩ := dg_one a a0 a1
    have eu : upB 0 a = a := rfl
    rw [eu, e0, e1, e2, e3, e4, e5]
    clear e0 e1 e2 e3 e4 e5 eu hp hp2
    go_enter Try.func103, Try.ntmps103
    go_wp2
    exact bodyPost_ret (v := .agg #[.int .u64 (a % 4294967296), .int .u64 (a / 4294967296), .int .u64 0, .int .u64 0, .int .u64 0, .int .u64 0]) (by simp [*, results, Try.results103, go_sem]) rfl ⟨rfl, (by repeat (first | (with_reducible exact Below.refl _ _) | (with_reducible assumption) | (with_reducible refine Below.drew ?_) | (with_reducible refine Below.alloc ?_ ?_ _) | (with_reducible refine Below.setCell ?_ ?_ _) | (with_reducible refine Below.trans ?_ (Below.mono hb ?_)) | (with_reducible refine Below.trans ?_ (Below.mono hb1 ?_)) | (with_reducible refine Below.trans ?_ (Below.mono hb2 ?_)) | (with_reducible refine Below.trans ?_ (Below.mono hb3 ?_)) | (with_reducible refine Below.trans ?_ (Below.mono hb4 ?_)) | (with_reducible refine Below.trans ?_ (Below.mono hb5 ?_)) | (with_reducible refine Below.trans ?_ (Below.mono hb6 ?_)) | (with_reducible refine Below.trans ?_ (Below.mono hb7 ?_)) | (with_reducible refine Below.trans ?_ (Below.mono hb8 ?_)) | (with_reducible refine Below.trans ?_ (Below.mono hb9 ?_)) | (focus (first | omega | (simp; done) | (simp; omega))) | exact hB))⟩
  · obtain ⟨e0, e1, e2, e3, e4, e5⟩ := dg_one1 a a0 a1
    have eu : upB 1 a = a * 4294967296 := rfl
    rw [eu, e0, e1, e2, e3, e4, e5]
    clear e0 e1 e2 e3 e4 e5 eu hp hp2
    go_enter Try.func103, Try.ntmps103
    go_wp2
    exact bodyPost_ret (v := .agg #[.int .u64 0, .int .u64 (a % 4294967296), .int .u64 (a / 4294967296), .int .u64 0, .int .u64 0, .int .u64 0]) (by simp [*, results, Try.results103, go_sem]) rfl ⟨rfl, (by repeat (first | (with_reducible exact Below.refl _ _) | (with_reducible assumption) | (with_reducible refine Below.drew ?_) | (with_reducible refine Below.alloc ?_ ?_ _) | (with_reducible refine Below.setCell ?_ ?_ _) | (with_reducible refine Below.trans ?_ (Below.mono hb ?_)) | (with_reducible refine Below.trans ?_ (Below.mono hb1 ?_)) | (with_reducible refine Below.trans ?_ (Below.mono hb2 ?_)) | (with_reducible refine Below.trans ?_ (Below.mono hb3 ?_)) | (with_reducible refine Below.trans ?_ (Below.mono hb4 ?_)) | (with_reducible refine Below.trans ?_ (Below.mono hb5 ?_)) | (with_reducible refine Below.trans ?_ (Below.mono hb6 ?_)) | (with_reducible refine Below.trans ?_ (Below.mono hb7 ?_)) | (with_reducible refine Below.trans ?_ (Below.mono hb8 ?_)) | (with_reducible refine Below.trans ?_ (Below.mono hb9 ?_)) | (focus (first | omega | (simp; done) | (simp; omega))) | exact hB))⟩
  · obtain ⟨e0, e1, e2, e3, e4, e5⟩ := dg_one2 a a0 a1
    have eu : upB 2 a = a * 18446744073709551616 := rfl
    rw [eu, e0, e1, e2, e3, e4, e5]
    clear e0 e1 e2 e3 e4 e5 eu hp hp2
    go_enter Try.func103, Try.ntmps103
    go_wp2
    exact bodyPost_ret (v := .agg #[.int .u64 0, .int .u64 0, .int .u64 (a % 4294967296), .int .u64 (a / 4294967296), .int .u64 0, .int .u64 0]) (by simp [*, results, Try.results103, go_sem]) rfl ⟨rfl, (by repeat (first | (with_reducible exact Below.refl _ _) | (with_reducible assumption) | (with_reducible refine Below.drew ?_) | (with_reducible refine Below.alloc ?_ ?_ _) | (with_reducible refine Below.setCell ?_ ?_ _) | (with_reducible refine Below.trans ?_ (Below.mono hb ?_)) | (with_reducible refine Below.trans ?_ (Below.mono hb1 ?_)) | (with_reducible refine Below.trans ?_ (Below.mono hb2 ?_)) | (with_reducible refine Below.trans ?_ (Below.mono hb3 ?_)) | (with_reducible refine Below.trans ?_ (Below.mono hb4 ?_)) | (with_reducible refine Below.trans ?_ (Below.mono hb5 ?_)) | (with_reducible refine Below.trans ?_ (Below.mono hb6 ?_)) | (with_reducible refine Below.trans ?_ (Below.mono hb7 ?_)) | (with_reducible refine Below.trans ?_ (Below.mono hb8 ?_)) | (with_reducible refine Below.trans ?_ (Below.mono hb9 ?_)) | (focus (first | omega | (simp; done) | (simp; omega))) | exact hB))⟩
theorem prod_sum (a b : Int) : upB 0 (a % 4294967296 * (b % 4294967296)) + upB 1 (a / 4294967296 * (b % 4294967296)) + upB 1 (a % 4294967296 * (b / 4294967296)) + upB 2 (a / 4294967296 * (b / 4294967296)) = a * b := by
  rw [← prod_parts a b]; rfl
set_option maxHeartbeats 1000000 in
theorem product_any (a b : Int) (ha : U64 a) (hb0 : U64 b) (w : World) : Calls Try.prog 100 #[.int .u64 a, .int .u64 b] w fun e w' => e = .returned (.agg #[.int .u64 (dg 0 (a * b)), .int .u64 (dg 1 (a * b)), .int .u64 (dg 2 (a * b)), .int .u64 (dg 3 (a * b)), .int .u64 (dg 4 (a * b)), .int .u64 (dg 5 (a * b))]) ∧ Below w.heap.size w w' := by
  have hps := prod_sum a b
  obtain ⟨a0, a1⟩ := ha
  obtain ⟨b0, b1⟩ := hb0
  obtain ⟨l0, l1⟩ : 0 ≤ a % 4294967296 ∧ a % 4294967296 < 4294967296 := by omega
  obtain ⟨h0, h1⟩ : 0 ≤ a / 4294967296 ∧ a / 4294967296 < 4294967296 := by omega
  obtain ⟨m0, m1⟩ : 0 ≤ b % 4294967296 ∧ b % 4294967296 < 4294967296 := by omega
  obtain ⟨g0, g1⟩ : 0 ≤ b / 4294967296 ∧ b / 4294967296 < 4294967296 := by omega
  obtain ⟨p0, p1⟩ := mul32 l0 l1 m0 m1
  obtain ⟨q0, q1⟩ := mul32 h0 h1 m0 m1
  obtain ⟨r0, r1⟩ := mul32 l0 l1 g0 g1
  obtain ⟨s0, s1⟩ := mul32 h0 h1 g0 g1
  rw [← hps]
  clear hps
  generalize hA : upB 0 (a % 4294967296 * (b % 4294967296)) + upB 1 (a / 4294967296 * (b % 4294967296)) = A at *
  have HA := Lib.hid hA
  clear hA
  have tok1 : True := trivial
  go_enter Try.func100, Try.ntmps100
  go_wp2_with (first
    | (go_at_call 103; have _t := tok1; refine (one64_any _ _ ⟨by assumption, by assumption⟩ (by omega) (by omega) _).mono ?_; rintro e w1 ⟨rfl, hb1⟩; obtain ⟨hc1, hf1, hz1⟩ := bcell hb1; (try simp at hz1); (try have : w.heap.size < w1.heap.size := by omega); (try have : w.heap.size + 1 < w1.heap.size := by omega); (try have : w.heap.size + 1 + 1 < w1.heap.size := by omega); (try have : w.heap.size + 1 + 1 + 1 < w1.heap.size := by omega); (try have : g < w1.heap.size := by omega); (try have : ga < w1.heap.size := by omega); (try have : gb < w1.heap.size := by omega); (try have : gc < w1.heap.size := by omega); have hB : Below w.heap.size w w1 := (by repeat (first | (with_reducible exact Below.refl _ _) | (with_reducible assumption) | (with_reducible refine Below.drew ?_) | (with_reducible refine Below.alloc ?_ ?_ _) | (with_reducible refine Below.setCell ?_ ?_ _) | (with_reducible refine Below.trans ?_ (Below.mono hb ?_)) | (with_reducible refine Below.trans ?_ (Below.mono hb1 ?_)) | (with_reducible refine Below.trans ?_ (Below.mono hb2 ?_)) | (with_reducible refine Below.trans ?_ (Below.mono hb3 ?_)) | (with_reducible refine Below.trans ?_ (Below.mono hb4 ?_)) | (with_reducible refine Below.trans ?_ (Below.mono hb5 ?_)) | (with_reducible refine Below.trans ?_ (Below.mono hb6 ?_)) | (with_reducible refine Below.trans ?_ (Below.mono hb7 ?_)) | (with_reducible refine Below.trans ?_ (Below.mono hb8 ?_)) | (with_reducible refine Below.trans ?_ (Below.mono hb9 ?_)) | (focus (first | omega | (simp; done) | (simp; omega))) | exact hB)); clear tok1 _t)
    | (go_at_call 103; refine (one64_any _ _ ⟨by assumption, by assumption⟩ (by omega) (by omega) _).mono ?_; rintro e w3 ⟨rfl, hb3⟩; obtain ⟨hc3, hf3, hz3⟩ := bcell hb3; (try simp at hz3); (try have : w.heap.size < w3.heap.size := by omega); (try have : w.heap.size + 1 < w3.heap.size := by omega); (try have : w.heap.size + 1 + 1 < w3.heap.size := by omega); (try have : w.heap.size + 1 + 1 + 1 < w3.heap.size := by omega); (try have : w1.heap.size < w3.heap.size := by omega); (try have : w1.heap.size + 1 < w3.heap.size := by omega); (try have : w1.heap.size + 1 + 1 < w3.heap.size := by omega); (try have : w1.heap.size + 1 + 1 + 1 < w3.heap.size := by omega); (try have : w2.heap.size < w3.heap.size := by omega); (try have : w2.heap.size + 1 < w3.heap.size := by omega); (try have : w2.heap.size + 1 + 1 < w3.heap.size := by omega); (try have : w2.heap.size + 1 + 1 + 1 < w3.heap.size := by omega); (try have : g < w3.heap.size := by omega); (try have : ga < w3.heap.size := by omega); (try have : gb < w3.heap.size := by omega); (try have : gc < w3.heap.size := by omega); have hB : Below w.heap.size w w3 := (by repeat (first | (with_reducible exact Below.refl _ _) | (with_reducible assumption) | (with_reducible refine Below.drew ?_) | (with_reducible refine Below.alloc ?_ ?_ _) | (with_reducible refine Below.setCell ?_ ?_ _) | (with_reducible refine Below.trans ?_ (Below.mono hb ?_)) | (with_reducible refine Below.trans ?_ (Below.mono hb1 ?_)) | (with_reducible refine Below.trans ?_ (Below.mono hb2 ?_)) | (with_reducible refine Below.trans ?_ (Below.mono hb3 ?_)) | (with_reducible refine Below.trans ?_ (Below.mono hb4 ?_)) | (with_reducible refine Below.trans ?_ (Below.mono hb5 ?_)) | (with_reducible refine Below.trans ?_ (Below.mono hb6 ?_)) | (with_reducible refine Below.trans ?_ (Below.mono hb7 ?_)) | (with_reducible refine Below.trans ?_ (Below.mono hb8 ?_)) | (with_reducible refine Below.trans ?_ (Below.mono hb9 ?_)) | (focus (first | omega | (simp; done) | (simp; omega))) | exact hB)))
    | (go_at_call 102; refine (plus_any _ _ _).mono ?_; rw [HA.out]; rintro e w2 ⟨rfl, hb2⟩; obtain ⟨hc2, hf2, hz2⟩ := bcell hb2; (try simp at hz2); (try have : w.heap.size < w2.heap.size := by omega); (try have : w.heap.size + 1 < w2.heap.size := by omega); (try have : w.heap.size + 1 + 1 < w2.heap.size := by omega); (try have : w.heap.size + 1 + 1 + 1 < w2.heap.size := by omega); (try have : w1.heap.size < w2.heap.size := by omega); (try have : w1.heap.size + 1 < w2.heap.size := by omega); (try have : w1.heap.size + 1 + 1 < w2.heap.size := by omega); (try have : w1.heap.size + 1 + 1 + 1 < w2.heap.size := by omega); (try have : g < w2.heap.size := by omega); (try have : ga < w2.heap.size := by omega); (try have : gb < w2.heap.size := by omega); (try have : gc < w2.heap.size := by omega); have hB : Below w.heap.size w w2 := (by repeat (first | (with_reducible exact Below.refl _ _) | (with_reducible assumption) | (with_reducible refine Below.drew ?_) | (with_reducible refine Below.alloc ?_ ?_ _) | (with_reducible refine Below.setCell ?_ ?_ _) | (with_reducible refine Below.trans ?_ (Below.mono hb ?_)) | (with_reducible refine Below.trans ?_ (Below.mono hb1 ?_)) | (with_reducible refine Below.trans ?_ (Below.mono hb2 ?_)) | (with_reducible refine Below.trans ?_ (Below.mono hb3 ?_)) | (with_reducible refine Below.trans ?_ (Below.mono hb4 ?_)) | (with_reducible refine Below.trans ?_ (Below.mono hb5 ?_)) | (with_reducible refine Below.trans ?_ (Below.mono hb6 ?_)) | (with_reducible refine Below.trans ?_ (Below.mono hb7 ?_)) | (with_reducible refine Below.trans ?_ (Below.mono hb8 ?_)) | (with_reducible refine Below.trans ?_ (Below.mono hb9 ?_)) | (focus (first | omega | (simp; done) | (simp; omega))) | exact hB))))
  have rv : w2.heap[w.heap.size]? = some (.cells #[.int .u64 0, .int .u64 0, .int .u64 0, .int .u64 0, .int .u64 0, .int .u64 0] 102 (0, 0)) :=
    (hb2.block _ (by omega)).trans ((hb3.block _ (by omega)).trans ((hb1.block _ (by simp)).trans (heap_alloc_new w _)))
  have BW : Below w.heap.size w w2 := (by repeat (first | (with_reducible exact Below.refl _ _) | (with_reducible assumption) | (with_reducible refine Below.drew ?_) | (with_reducible refine Below.alloc ?_ ?_ _) | (with_reducible refine Below.setCell ?_ ?_ _) | (with_reducible refine Below.trans ?_ (Below.mono hb ?_)) | (with_reducible refine Below.trans ?_ (Below.mono hb1 ?_)) | (with_reducible refine Below.trans ?_ (Below.mono hb2 ?_)) | (with_reducible refine Below.trans ?_ (Below.mono hb3 ?_)) | (with_reducible refine Below.trans ?_ (Below.mono hb4 ?_)) | (with_reducible refine Below.trans ?_ (Below.mono hb5 ?_)) | (with_reducible refine Below.trans ?_ (Below.mono hb6 ?_)) | (with_reducible refine Below.trans ?_ (Below.mono hb7 ?_)) | (with_reducible refine Below.trans ?_ (Below.mono hb8 ?_)) | (with_reducible refine Below.trans ?_ (Below.mono hb9 ?_)) | (focus (first | omega | (simp; done) | (simp; omega))) | exact hB))
  clear hc1 hf1 hc2 hf2 hc3 hf3
  refine at_world fun W0 hW0 => ?_
  have t7 : W0.heap[w2.heap.size]? = some (.cells #[.int .u64 (dg 0 (A)), .int .u64 (dg 1 (A)), .int .u64 (dg 2 (A)), .int .u64 (dg 3 (A)), .int .u64 (dg 4 (A)), .int .u64 (dg 5 (A))] 102 (0, 0)) := by subst hW0; exact heap_alloc_new w2 _
  have rv0 : W0.heap[w.heap.size]? = some (.cells #[.int .u64 0, .int .u64 0, .int .u64 0, .int .u64 0, .int .u64 0, .int .u64 0] 102 (0, 0)) := by
    subst hW0; exact (Below.heap_alloc _ _ _ (lt_of_block rv)).trans rv
  have BW0 : Below w.heap.size w W0 := by subst hW0; exact (by repeat (first | (with_reducible exact Below.refl _ _) | (with_reducible assumption) | (with_reducible refine Below.drew ?_) | (with_reducible refine Below.alloc ?_ ?_ _) | (with_reducible refine Below.setCell ?_ ?_ _) | (with_reducible refine Below.trans ?_ (Below.mono hb ?_)) | (with_reducible refine Below.trans ?_ (Below.mono hb1 ?_)) | (with_reducible refine Below.trans ?_ (Below.mono hb2 ?_)) | (with_reducible refine Below.trans ?_ (Below.mono hb3 ?_)) | (with_reducible refine Below.trans ?_ (Below.mono hb4 ?_)) | (with_reducible refine Below.trans ?_ (Below.mono hb5 ?_)) | (with_reducible refine Below.trans ?_ (Below.mono hb6 ?_)) | (with_reducible refine Below.trans ?_ (Below.mono hb7 ?_)) | (with_reducible refine Below.trans ?_ (Below.mono hb8 ?_)) | (with_reducible refine Below.trans ?_ (Below.mono hb9 ?_)) | (focus (first | omega | (simp; done) | (simp; omega))) | exact hB))
  have hne : w.heap.size < w2.heap.size := lt_of_block rv
  generalize w2.heap.size = G at *
  clear hW0 hb1 hb2 hb3 BW rv hB
  have kG := lt_of_block t7
  have x0 := cell_of_row W0 G 0 _ _ _ t7
  have x1 := cell_of_row W0 G 1 _ _ _ t7
  have x2 := cell_of_row W0 G 2 _ _ _ t7
  have x3 := cell_of_row W0 G 3 _ _ _ t7
  have x4 := cell_of_row W0 G 4 _ _ _ t7
  have x5 := cell_of_row W0 G 5 _ _ _ t7
  have xf : ∀ i, W0.frozen? ⟨G, i, none⟩ = false := fun i => by simp [World.frozen?, t7]
  simp only [List.getElem?_toArray, List.getElem?_cons_zero, List.getElem?_cons_succ] at x0 x1 x2 x3 x4 x5
  generalize hC : A + upB 1 (a % 4294967296 * (b / 4294967296)) = C at *
  have HC := Lib.hid hC
  clear hC
  have e1 : IntKind.u64.wrap (b.tdiv 4294967296) = b / 4294967296 := by rw [Int.tdiv_eq_ediv_of_nonneg b0]; exact u64_id (by unfold U64; omega)
  have e2 : IntKind.u64.wrap (a % 4294967296 * (b / 4294967296)) = a % 4294967296 * (b / 4294967296) := u64_id ⟨r0, r1⟩
  go_cut [4] (fun v w' => v = .pointer (some ⟨w.heap.size, 0, none⟩) ∧ w'.heap[G]? = some (.cells #[.int .u64 (dg 0 (C)), .int .u64 (dg 1 (C)), .int .u64 (dg 2 (C)), .int .u64 (dg 3 (C)), .int .u64 (dg 4 (C)), .int .u64 (dg 5 (C))] 102 (0, 0)) ∧ w'.heap[w.heap.size]? = some (.cells #[.int .u64 0, .int .u64 0, .int .u64 0, .int .u64 0, .int .u64 0, .int .u64 0] 102 (0, 0)) ∧ Below w.heap.size w w')
  case first =>
    go_region_with (first
      | (go_at_call 103; refine (one64_any _ _ ⟨by assumption, by assumption⟩ (by omega) (by omega) _).mono ?_; rintro e w1 ⟨rfl, hb1⟩; replace hb1 := undrew hb1; obtain ⟨hc1, hf1, hz1⟩ := bcell hb1)
      | (go_at_call 102; refine (plus_any _ _ _).mono ?_; rw [HC.out]; rintro e w2 ⟨rfl, hb2⟩; obtain ⟨hc2, hf2, hz2⟩ := bcell hb2; (try simp at hz2); (try have : G < w1.heap.size := by omega)))
    all_goals
      go_wp2_with fail
      go_meet
      case rel => exact ⟨rfl, set6 _ _ _ _ _ _ ((hb2.block _ (by omega)).trans ((hb1.block _ kG).trans t7)), ((set6_below _ _ _ _ _ _ hne).block _ (Nat.lt_succ_self _)).trans ((hb2.block _ (by omega)).trans ((hb1.block _ (by omega)).trans rv0)), BW0.trans ((hb1.mono (by omega)).trans ((hb2.mono (by omega)).trans (set6_below _ _ _ _ _ _ (by omega))))⟩
  case rest =>
  obtain ⟨rfl, t8, rv1, BW1⟩ := hcut
  have y0 := cell_of_row wc G 0 _ _ _ t8
  have y1 := cell_of_row wc G 1 _ _ _ t8
  have y2 := cell_of_row wc G 2 _ _ _ t8
  have y3 := cell_of_row wc G 3 _ _ _ t8
  have y4 := cell_of_row wc G 4 _ _ _ t8
  have y5 := cell_of_row wc G 5 _ _ _ t8
  have z0 := cell_of_row wc w.heap.size 0 _ _ _ rv1
  have z1 := cell_of_row wc w.heap.size 1 _ _ _ rv1
  have z2 := cell_of_row wc w.heap.size 2 _ _ _ rv1
  have z3 := cell_of_row wc w.heap.size 3 _ _ _ rv1
  have z4 := cell_of_row wc w.heap.size 4 _ _ _ rv1
  have z5 := cell_of_row wc w.heap.size 5 _ _ _ rv1
  have zf : ∀ i, wc.frozen? ⟨w.heap.size, i, none⟩ = false := fun i => by simp [World.frozen?, rv1]
  simp only [List.getElem?_toArray, List.getElem?_cons_zero, List.getElem?_cons_succ] at y0 y1 y2 y3 y4 y5 z0 z1 z2 z3 z4 z5
  have k8 := lt_of_block t8
  have kw := lt_of_block rv1
  have e3 : IntKind.u64.wrap (a / 4294967296 * (b / 4294967296)) = a / 4294967296 * (b / 4294967296) := u64_id ⟨s0, s1⟩
  clear x0 x1 x2 x3 x4 x5 xf t7 rv0 BW0 kG
  go_wp2_with fail
  go_region_with (first
    | (go_at_call 103; refine (one64_any _ _ ⟨by assumption, by assumption⟩ (by omega) (by omega) _).mono ?_; rintro e w1 ⟨rfl, hb1⟩; replace hb1 := undrew hb1; obtain ⟨hc1, hf1, hz1⟩ := bcell hb1)
    | (go_at_call 102; refine (plus_any _ _ _).mono ?_; rintro e w2 ⟨rfl, hb2⟩; obtain ⟨hc2, hf2, hz2⟩ := bcell hb2; (try have : w.heap.size < w1.heap.size := by omega)))
  all_goals
    have r1 := set6 (.int .u64 (dg 0 (C + upB 2 (a / 4294967296 * (b / 4294967296))))) (.int .u64 (dg 1 (C + upB 2 (a / 4294967296 * (b / 4294967296))))) (.int .u64 (dg 2 (C + upB 2 (a / 4294967296 * (b / 4294967296))))) (.int .u64 (dg 3 (C + upB 2 (a / 4294967296 * (b / 4294967296))))) (.int .u64 (dg 4 (C + upB 2 (a / 4294967296 * (b / 4294967296))))) (.int .u64 (dg 5 (C + upB 2 (a / 4294967296 * (b / 4294967296))))) ((hb2.block w.heap.size (by omega)).trans ((hb1.block w.heap.size kw).trans rv1))
    have BB : Below w.heap.size w _ := BW1.trans ((hb1.mono (by omega)).trans ((hb2.mono (by omega)).trans (set6_below (g := w.heap.size) (.int .u64 (dg 0 (C + upB 2 (a / 4294967296 * (b / 4294967296))))) (.int .u64 (dg 1 (C + upB 2 (a / 4294967296 * (b / 4294967296))))) (.int .u64 (dg 2 (C + upB 2 (a / 4294967296 * (b / 4294967296))))) (.int .u64 (dg 3 (C + upB 2 (a / 4294967296 * (b / 4294967296))))) (.int .u64 (dg 4 (C + upB 2 (a / 4294967296 * (b / 4294967296))))) (.int .u64 (dg 5 (C + upB 2 (a / 4294967296 * (b / 4294967296))))) (Nat.le_refl _))))
    clear hc1 hf1 hc2 hf2 y0 y1 y2 y3 y4 y5 z0 z1 z2 z3 z4 z5 zf t8 rv1
    go_wp2
    refine bodyPost_ret (v := .agg #[.int .u64 (dg 0 (C + upB 2 (a / 4294967296 * (b / 4294967296)))), .int .u64 (dg 1 (C + upB 2 (a / 4294967296 * (b / 4294967296)))), .int .u64 (dg 2 (C + upB 2 (a / 4294967296 * (b / 4294967296)))), .int .u64 (dg 3 (C + upB 2 (a / 4294967296 * (b / 4294967296)))), .int .u64 (dg 4 (C + upB 2 (a / 4294967296 * (b / 4294967296)))), .int .u64 (dg 5 (C + upB 2 (a / 4294967296 * (b / 4294967296))))]) ?_ rfl ⟨by rw [HC.out], BB⟩
    have o0 := cell_of_row _ w.heap.size 0 _ _ _ r1
    have o1 := cell_of_row _ w.heap.size 1 _ _ _ r1
    have o2 := cell_of_row _ w.heap.size 2 _ _ _ r1
    have o3 := cell_of_row _ w.heap.size 3 _ _ _ r1
    have o4 := cell_of_row _ w.heap.size 4 _ _ _ r1
    have o5 := cell_of_row _ w.heap.size 5 _ _ _ r1
    simp only [List.getElem?_toArray, List.getElem?_cons_zero, List.getElem?_cons_succ] at o0 o1 o2 o3 o4 o5
    simp [results, Try.results100, go_sem, o0, o1, o2, o3, o4, o5]
end Go.Proofs.Ytikjomekhnkgcaa
