import Derived.Test.YtdnccplmpgcleaaB7
import Derived.Test.YtdnccplmpgcleaaB9
import Derived.Test.YtdnccplmpgcleaaB6
import Derived.Test.YtdnccplmpgcleaaL4
import Derived.Test.YtdnccplmpgcleaaAw1
import Derived.Deep.RegionWith
/- The law WideLongSums, walked. -/
namespace Go.Proofs.Ytdnccplmpgcleaa
open Go.RowKit
attribute [local go_sem ↓] Go.wp_at_zero Go.wp_at_succ

/-- A list of wide numbers, as it comes in. -/
def Ws (w : World) (A : Option Addr) (n : Nat) : Prop := 0 < n → ∃ (b off : Nat) (f : Nat → Int), A = some ⟨b, off, none⟩ ∧ b < w.heap.size ∧ ∀ j, j < n → In128 (f j) ∧ w.cell? ⟨b, off + j * 2, none⟩ = some (.int .i64 (hi (f j))) ∧ w.cell? ⟨b, off + j * 2 + 1, none⟩ = some (.int .u64 (lo (f j)))
theorem Ws.call {w w' : World} {A : Option Addr} {n : Nat} (h : Ws w A n) (hb : Below w.heap.size w w') : Ws w' A n := fun hn => by
  obtain ⟨b, off, f, rfl, hl, hc⟩ := h hn
  exact ⟨b, off, f, rfl, by have := hb.size; omega, fun j hj => ⟨(hc j hj).1, (hb.cell (p := ⟨b, off + j * 2, none⟩) hl).trans (hc j hj).2.1, (hb.cell (p := ⟨b, off + j * 2 + 1, none⟩) hl).trans (hc j hj).2.2⟩⟩
theorem Bx.self {x n : Nat} {W0 w : World} (h : Bx x n W0 w) : Bx x n w w := ⟨rfl, rfl, rfl, Nat.le_refl _, fun _ _ _ => rfl, h.here⟩
theorem Bt.bx {w w' : World} {g n x m : Nat} {v : Int} (h : Bt w g n v) (hX : Bx x m w w') (hne : g ≠ x) : Bt w' g n v :=
  ⟨by have := hX.size; have := h.1; omega, fun j hj => (hX.cell g j h.1 hne).trans (h.2 j hj)⟩
theorem w192_mod (T : Int) : w192 T = T + 2 ^ 192 * -((T + 3138550867693340381917894711603833208051177722232017256448) / 6277101735386680763835789423207666416102355444464034512896) := by
  unfold w192; omega
theorem w192_bits (T : Int) (j : Nat) (hj : j < 192) : bitI j T = bitI j (w192 T) := by rw [w192_mod, bit_far j 192 _ _ hj]
theorem w192_add (T a : Int) : w192 (w192 T + a) = w192 (T + a) := by unfold w192; omega

theorem near_ref (s n : Int) (h : n ≤ 191) : ∃ m : Nat, min (max n 0) 191 = (m : Int) ∧ m ≤ 191 ∧ nearI s n = (clampI (rndB s m), overI (rndB s m)) := by
  by_cases h0 : n ≤ 0
  · exact ⟨0, by omega, by omega, by unfold nearI rndB; rw [if_pos h0, if_pos rfl]⟩
  · exact ⟨n.toNat, by omega, by omega, by unfold nearI rndB; rw [if_neg h0, if_neg (by omega), if_neg (by omega)]⟩
theorem rndB_B {N m : Nat} {x : Int} (h : InB N x) (hm : m < N) : InB N (rndB x m) := by
  unfold rndB
  split
  · exact h
  · rename_i hm0
    obtain ⟨k, rfl⟩ : ∃ k, N = k + 2 := ⟨N - 2, by omega⟩
    unfold InB at *
    rw [show k + 2 - 1 = k + 1 by omega, p2succ] at *
    have hp := p2pos k
    have hq := p2pos m
    have hm2 : (2 : Int) ≤ 2 ^ m := by have := p2le (show 1 ≤ m by omega); omega
    have h1 : -2 ^ k ≤ x / 2 ^ m := by
      rw [Int.le_ediv_iff_mul_le hq]
      have : (2 : Int) ^ k * 2 ≤ 2 ^ k * 2 ^ m := Int.mul_le_mul_of_nonneg_left hm2 (by omega)
      rw [Int.neg_mul]; omega
    have h2 : x / 2 ^ m < 2 ^ k := by
      rw [Int.ediv_lt_iff_lt_mul hq]
      have : (2 : Int) ^ k * 2 ≤ 2 ^ k * 2 ^ m := Int.mul_le_mul_of_nonneg_left hm2 (by omega)
      omega
    unfold rnd
    split <;> omega
set_option maxHeartbeats 4000000 in
theorem wideLongSums_walk (A : Option Addr) (len cap : Nat) (a n : Int) {w : World} (hl : Ws w A len) (ha : In192 a) (hn : In64 n) :
    Calls Try.prog 14 #[.slice A len cap, .agg #[.int .i64 (tp a), .int .u64 (q1 a), .int .u64 (q0 a)], .int .i64 n] w fun e w' => e = .returned (.bool true) ∧ Below w.heap.size w w' := by
  by_cases hm : 60 < len
  · go_enter Try.func14, Try.ntmps14
    go_wp2_with (go_at_call 16; refine (awake_any _).mono ?_; rintro e w1 ⟨rfl, hb1⟩; obtain ⟨hc1, hf1, hz1⟩ := bcell hb1; (try simp at hz1); (try have : w.heap.size < w1.heap.size := by omega); (try have : w.heap.size + 1 < w1.heap.size := by omega); (try have : w.heap.size + 1 + 1 < w1.heap.size := by omega); (try have : w.heap.size + 1 + 1 + 1 < w1.heap.size := by omega); (try have : g < w1.heap.size := by omega); (try have : ga < w1.heap.size := by omega); (try have : gb < w1.heap.size := by omega); (try have : gc < w1.heap.size := by omega); have hB : Below w.heap.size w w1 := (by repeat (first | exact Below.refl _ _ | refine Below.drew ?_ | refine Below.alloc ?_ (by first | omega | (simp; done) | (simp; omega)) _ | refine Below.setCell ?_ (by first | omega | (simp; done) | (simp; omega)) _ | exact BC | exact BW | exact hB | refine Below.trans ?_ (Below.mono hb1 (by first | omega | (simp; done) | (simp; omega))) | refine Below.trans ?_ (Below.mono hb2 (by first | omega | (simp; done) | (simp; omega))) | refine Below.trans ?_ (Below.mono hb3 (by first | omega | (simp; done) | (simp; omega))) | refine Below.trans ?_ (Below.mono hb4 (by first | omega | (simp; done) | (simp; omega))) | refine Below.trans ?_ (Below.mono hb5 (by first | omega | (simp; done) | (simp; omega))) | refine Below.trans ?_ (Below.mono hb6 (by first | omega | (simp; done) | (simp; omega))) | refine Below.trans ?_ (Below.mono hb7 (by first | omega | (simp; done) | (simp; omega))) | refine Below.trans ?_ (Below.mono hb8 (by first | omega | (simp; done) | (simp; omega))) | refine Below.trans ?_ (Below.mono hb9 (by first | omega | (simp; done) | (simp; omega))))))
    go_ret
    exact ⟨rfl, hB⟩
  go_enter Try.func14, Try.ntmps14
  go_wp2_with (go_at_call 16; refine (awake_any _).mono ?_; rintro e w1 ⟨rfl, hb1⟩; obtain ⟨hc1, hf1, hz1⟩ := bcell hb1; (try simp at hz1); (try have : w.heap.size < w1.heap.size := by omega); (try have : w.heap.size + 1 < w1.heap.size := by omega); (try have : w.heap.size + 1 + 1 < w1.heap.size := by omega); (try have : w.heap.size + 1 + 1 + 1 < w1.heap.size := by omega); (try have : g < w1.heap.size := by omega); (try have : ga < w1.heap.size := by omega); (try have : gb < w1.heap.size := by omega); (try have : gc < w1.heap.size := by omega); have hB : Below w.heap.size w w1 := (by repeat (first | exact Below.refl _ _ | refine Below.drew ?_ | refine Below.alloc ?_ (by first | omega | (simp; done) | (simp; omega)) _ | refine Below.setCell ?_ (by first | omega | (simp; done) | (simp; omega)) _ | exact BC | exact BW | exact hB | refine Below.trans ?_ (Below.mono hb1 (by first | omega | (simp; done) | (simp; omega))) | refine Below.trans ?_ (Below.mono hb2 (by first | omega | (simp; done) | (simp; omega))) | refine Below.trans ?_ (Below.mono hb3 (by first | omega | (simp; done) | (simp; omega))) | refine Below.trans ?_ (Below.mono hb4 (by first | omega | (simp; done) | (simp; omega))) | refine Below.trans ?_ (Below.mono hb5 (by first | omega | (simp; done) | (simp; omega))) | refine Below.trans ?_ (Below.mono hb6 (by first | omega | (simp; done) | (simp; omega))) | refine Below.trans ?_ (Below.mono hb7 (by first | omega | (simp; done) | (simp; omega))) | refine Below.trans ?_ (Below.mono hb8 (by first | omega | (simp; done) | (simp; omega))) | refine Below.trans ?_ (Below.mono hb9 (by first | omega | (simp; done) | (simp; omega))))))
  have c1 : w1.cell? ⟨w.heap.size, 0, none⟩ = some (.int .i64 (tp a)) := by simp [hc1, go_sem]
  have c2 : w1.cell? ⟨w.heap.size, 1, none⟩ = some (.int .u64 (q1 a)) := by simp [hc1, go_sem]
  have c3 : w1.cell? ⟨w.heap.size, 2, none⟩ = some (.int .u64 (q0 a)) := by simp [hc1, go_sem]
  have k1 : w.heap.size < w1.heap.size := by omega
  clear hc1 hf1 hb1 hz1
  have l1 := hl.call hB
  have ea := w192_id ha
  obtain ⟨W0, hW0⟩ : ∃ W0, W0 = w1 := ⟨_, rfl⟩
  subst hW0
  have BW := hB
  clear hB hl
  go_cut [7, 8] (fun v v2 w' => ∃ b7 g c : Nat, v = .pointer (some ⟨b7, 0, none⟩) ∧ v2 = .slice (some ⟨g, 0, none⟩) 192 c ∧ 192 ≤ c ∧ g ≠ b7 ∧ Bt w' g 192 a ∧ W0.heap.size ≤ b7 ∧ Bx b7 3 w' w' ∧
      w'.cell? ⟨b7, 0, none⟩ = some (.int .i64 (tp a)) ∧ w'.cell? ⟨b7, 1, none⟩ = some (.int .u64 (q1 a)) ∧ w'.cell? ⟨b7, 2, none⟩ = some (.int .u64 (q0 a)) ∧ Below W0.heap.size W0 w')
  case first =>
    go_region_held3 (fun w' => Below W0.heap.size W0 w' ∧ ∀ b o, b < W0.heap.size → w'.cell? ⟨b, o, none⟩ = W0.cell? ⟨b, o, none⟩) ((first | (refine sb_call ?_ hb; assumption) | exact sb_of hs | exact sb_of (Below.drew hs) | (refine sb_call ?_ hb1; assumption) | (refine sb_call ?_ hb2; assumption) | (refine sb_call ?_ hb3; assumption) | (refine sb_call ?_ hb4; assumption) | (refine sb_call ?_ hb5; assumption) | (refine sb_call ?_ hb6; assumption) | (refine sb_call ?_ hb7; assumption) | (refine sb_call ?_ hb8; assumption) | (refine sb_call ?_ hb9; assumption) | exact sb_of (by repeat (first | exact Below.refl _ _ | exact hs | exact hB | exact hs1 | exact hs2 | exact hs3 | exact hs4 | exact hs5 | exact hs6 | exact hs7 | exact hs8 | exact hs9 | refine Below.drew ?_ | refine Below.alloc ?_ (by first | omega | (simp; done) | (simp; omega)) _ | refine Below.setCell ?_ (by first | omega | (simp; done) | (simp; omega)) _))))
      (first
        | (go_at_call 41; refine (long_any _ _).mono ?_; rintro e wk ⟨g1, c1, rfl, hcap1, hge1, qq, hfz1, hb⟩; (try have hs := sb_below (by assumption) hb); (try (first | have q1 := Bt.call q1 hb | have q1 := Bt.call (Bt.drew q1) hb)); (try (first | have q2 := Bt.call q2 hb | have q2 := Bt.call (Bt.drew q2) hb)); (try (first | have q3 := Bt.call q3 hb | have q3 := Bt.call (Bt.drew q3) hb)); (try (first | have q4 := Bt.call q4 hb | have q4 := Bt.call (Bt.drew q4) hb)); (try (first | have q5 := Bt.call q5 hb | have q5 := Bt.call (Bt.drew q5) hb)); (try (first | have q6 := Bt.call q6 hb | have q6 := Bt.call (Bt.drew q6) hb)); (try (first | have q7 := Bt.call q7 hb | have q7 := Bt.call (Bt.drew q7) hb)); (try (first | have q8 := Bt.call q8 hb | have q8 := Bt.call (Bt.drew q8) hb)); (try (first | have q9 := Bt.call q9 hb | have q9 := Bt.call (Bt.drew q9) hb)); (try (first | (have x1 := Cl.call x1 hb; have d1 := x1.2) | (have x1 := Cl.call (Cl.drew x1) hb; have d1 := x1.2))); (try (first | (have x2 := Cl.call x2 hb; have d2 := x2.2) | (have x2 := Cl.call (Cl.drew x2) hb; have d2 := x2.2))); (try (first | (have x3 := Cl.call x3 hb; have d3 := x3.2) | (have x3 := Cl.call (Cl.drew x3) hb; have d3 := x3.2))); (try (first | (have x4 := Cl.call x4 hb; have d4 := x4.2) | (have x4 := Cl.call (Cl.drew x4) hb; have d4 := x4.2))); (try (first | (have x5 := Cl.call x5 hb; have d5 := x5.2) | (have x5 := Cl.call (Cl.drew x5) hb; have d5 := x5.2))); (try (first | (have x6 := Cl.call x6 hb; have d6 := x6.2) | (have x6 := Cl.call (Cl.drew x6) hb; have d6 := x6.2))); (try (first | have hB := Below.trans hB (Below.mono hb (by have := hB.size; omega)) | have hB := Below.trans (Below.drew hB) (Below.mono hb (by have := hB.size; simp; omega)))); (try have hz := Below.size hB); have q1 := qq; clear qq; obtain ⟨hcb, hfb, hyb⟩ := bcell hb; (try simp at hyb); (try have : W0.heap.size < wk.heap.size := by omega)))
    all_goals
      go_wp2_with fail
      go_meet
      case rel =>
        have hge1' := hge1
        (try simp at hge1')
        have l1' := q1.1
        refine ⟨_, _, _, rfl, rfl, hcap1, ?_, ?_, ?_, ?_, ?_, ?_, ?_, ?_⟩
        · omega
        · first
            | exact ((q1.far (p := ⟨W0.heap.size, 0, none⟩) (by show W0.heap.size ≠ g1; omega) _).far (p := ⟨W0.heap.size, 1, none⟩) (by show W0.heap.size ≠ g1; omega) _).far (p := ⟨W0.heap.size, 2, none⟩) (by show W0.heap.size ≠ g1; omega) _
            | exact q1.call ((Below.refl _ _).alloc (Nat.le_refl _) _)
        · first | exact Nat.le_refl _ | exact hs.size
        · first
            | exact Bx.self (Bx.refl (heap_alloc_new wk _) (by simp))
            | exact Bx.self (Bx.set (Bx.set (Bx.set (Bx.call (Bx.drew (Bx.refl (heap_alloc_new W0 _) (by simp))) hb) (.inl rfl) _) (.inl rfl) _) (.inl rfl) _)
        · simp [*, go_sem]
        · simp [*, go_sem]
        · simp [*, go_sem]
        · first
            | exact hs.alloc hs.size _
            | exact ((hs.setCell (p := ⟨W0.heap.size, 0, none⟩) (Nat.le_refl _) _).setCell (p := ⟨W0.heap.size, 1, none⟩) (Nat.le_refl _) _).setCell (p := ⟨W0.heap.size, 2, none⟩) (Nat.le_refl _) _
  case rest =>
  obtain ⟨b7, g, cc, rfl, rfl, hcc, hne, qg, z7, X7, y1, y2, y3, hB⟩ := hcut
  obtain ⟨U, hU⟩ : ∃ U, U = W0 := ⟨_, rfl⟩
  subst hU
  clear c1 c2 c3 k1
  go_wp2
  go_loopw [8, 26] (fun v i wr => ∃ (k g c : Nat) (T : Int), k ≤ len ∧ i = .int .i64 k ∧ v = .slice (some ⟨g, 0, none⟩) 192 c ∧ 192 ≤ c ∧ g ≠ b7 ∧ Bt wr g 192 T ∧ Bx b7 3 wr wr ∧
      wr.cell? ⟨b7, 0, none⟩ = some (.int .i64 (tp (w192 T))) ∧ wr.cell? ⟨b7, 1, none⟩ = some (.int .u64 (q1 (w192 T))) ∧ wr.cell? ⟨b7, 2, none⟩ = some (.int .u64 (q0 (w192 T))) ∧ Below U.heap.size U wr) (fun _ i _ => len - (intOf i).toNat)
  case atStart => exact ⟨0, g, cc, a, Nat.zero_le _, rfl, rfl, hcc, hne, qg, X7, by rw [ea]; exact y1, by rw [ea]; exact y2, by rw [ea]; exact y3, hB⟩
  case round =>
    clear hne qg X7 y1 y2 y3 hB hcc
    obtain ⟨k, g, cc, T, hk, rfl, rfl, hcc, hne, qg, X7, y1, y2, y3, hB⟩ := hrel
    have zU := hB.size
    by_cases hlt : k < len
    · obtain ⟨b, off, f, rfl, lb, hf⟩ := l1 (by omega)
      obtain ⟨fx, f0, f1⟩ := hf k hlt
      obtain ⟨x, ex⟩ : ∃ x, f k = x := ⟨_, rfl⟩
      rw [ex] at fx f0 f1
      have d1 := (hB.cell (p := ⟨b, off + k * 2, none⟩) lb).trans f0
      have d2 := (hB.cell (p := ⟨b, off + k * 2 + 1, none⟩) lb).trans f1
      have lb2 : b < wr.heap.size := by omega
      clear hf ex f0 f1 l1
      go_wp2
      refine at_world fun W0 hW0 => ?_
      have C1 : W0.cell? ⟨b7, 0, none⟩ = some (.int .i64 (tp (w192 T))) := by subst hW0; have := X7.lt; simp [*, go_sem]
      have C2 : W0.cell? ⟨b7, 1, none⟩ = some (.int .u64 (q1 (w192 T))) := by subst hW0; have := X7.lt; simp [*, go_sem]
      have C3 : W0.cell? ⟨b7, 2, none⟩ = some (.int .u64 (q0 (w192 T))) := by subst hW0; have := X7.lt; simp [*, go_sem]
      have C4 : W0.cell? ⟨wr.heap.size, 0, none⟩ = some (.int .i64 (hi x)) := by subst hW0; simp [go_sem]
      have C5 : W0.cell? ⟨wr.heap.size, 1, none⟩ = some (.int .u64 (lo x)) := by subst hW0; simp [go_sem]
      have BX0 : Bx b7 3 W0 W0 := by subst hW0; exact (X7.alloc _).self
      have BR : Below wr.heap.size wr W0 := by subst hW0; exact (Below.refl _ _).alloc (Nat.le_refl _) _
      have G0 : Bt W0 g 192 T := qg.call BR
      have kr : wr.heap.size < W0.heap.size := by subst hW0; simp
      have k7 : b7 < W0.heap.size := BX0.lt
      have n7 : ¬ wr.heap.size = b7 := by have := X7.lt; omega
      have BU : Below U.heap.size U W0 := hB.trans (BR.mono hB.size)
      have zw := hB.size
      clear hW0 qg X7 y1 y2 y3 hB d1 d2 BR
      go_cut [7] (fun v w' => v = .pointer (some ⟨b7, 0, none⟩) ∧ Bx b7 3 W0 w' ∧ w'.cell? ⟨b7, 0, none⟩ = some (.int .i64 (tp (w192 (T + x)))) ∧ w'.cell? ⟨b7, 1, none⟩ = some (.int .u64 (q1 (w192 (T + x)))) ∧ w'.cell? ⟨b7, 2, none⟩ = some (.int .u64 (q0 (w192 (T + x)))))
      case first =>
        have P1 := w192_add T x
        have F1 := BX0.free 0
        have F2 := BX0.free 1
        have F3 := BX0.free 2
        go_region_with (first
          | (go_at_call 44; refine (ext_any _ fx _).mono ?_; rintro e w7 ⟨rfl, hbd⟩; have hb7 : Below W0.heap.size W0 w7 := ⟨hbd.os, hbd.tape, hbd.output, hbd.size, hbd.block⟩; clear hbd; obtain ⟨hc7, hf7, hz7⟩ := bcell hb7; have _z7 : W0.heap.size ≤ w7.heap.size := hb7.size; have : b7 < w7.heap.size := (by omega); have : wr.heap.size < w7.heap.size := (by omega))
          | (go_at_call 45; refine (lplus_any _ _ _).mono ?_; rintro e w8 ⟨rfl, hb8⟩; obtain ⟨hc8, hf8, hz8⟩ := bcell hb8; have _z8 : w7.heap.size ≤ w8.heap.size := hb8.size; have : b7 < w8.heap.size := (by omega); have : wr.heap.size < w8.heap.size := (by omega)))
        all_goals
          go_wp2_with fail
          go_meet
          case rel => exact ⟨rfl, Bx.set (Bx.set (Bx.set (Bx.call (Bx.call BX0 hb7) hb8) (.inl rfl) _) (.inl rfl) _) (.inl rfl) _, by simp [*, go_sem], by simp [*, go_sem], by simp [*, go_sem]⟩
      case rest =>
      obtain ⟨rfl, X8, y1, y2, y3⟩ := hcut
      have v4 := G0.bx X8 hne
      have d1 := (X8.cell wr.heap.size 0 kr n7).trans C4
      have d2 := (X8.cell wr.heap.size 1 kr n7).trans C5
      have kw : wr.heap.size < wc.heap.size := by have := X8.size; omega
      have BU2 : Below U.heap.size U wc := BU.trans (X8.below z7 (by have := BU.size; omega))
      have X9 := X8.self
      have l7 := X9.lt
      have iX : InB 128 x := by unfold In128 at fx; unfold InB; omega
      have x1 : Cl wc wr.heap.size 0 (.int .i64 (hi x)) := ⟨kw, d1⟩
      have x2 : Cl wc wr.heap.size 1 (.int .u64 (lo x)) := ⟨kw, d2⟩
      clear C1 C2 C3 C4 C5 BX0 G0 X8 BU
      have hB := Below.refl wc.heap.size wc
      have q4 := v4
      go_wp2_with (first
        | (go_at_call 17; refine (bits_any _ _).mono ?_; rintro e wk ⟨g1, c1, rfl, hcap1, hge1, qq, hfz1, hb⟩; (try have hs := sb_below (by assumption) hb); (try (first | have q1 := Bt.call q1 hb | have q1 := Bt.call (Bt.drew q1) hb)); (try (first | have q2 := Bt.call q2 hb | have q2 := Bt.call (Bt.drew q2) hb)); (try (first | have q3 := Bt.call q3 hb | have q3 := Bt.call (Bt.drew q3) hb)); (try (first | have q4 := Bt.call q4 hb | have q4 := Bt.call (Bt.drew q4) hb)); (try (first | have q5 := Bt.call q5 hb | have q5 := Bt.call (Bt.drew q5) hb)); (try (first | have q6 := Bt.call q6 hb | have q6 := Bt.call (Bt.drew q6) hb)); (try (first | have q7 := Bt.call q7 hb | have q7 := Bt.call (Bt.drew q7) hb)); (try (first | have q8 := Bt.call q8 hb | have q8 := Bt.call (Bt.drew q8) hb)); (try (first | have q9 := Bt.call q9 hb | have q9 := Bt.call (Bt.drew q9) hb)); (try (first | (have x1 := Cl.call x1 hb; have d1 := x1.2) | (have x1 := Cl.call (Cl.drew x1) hb; have d1 := x1.2))); (try (first | (have x2 := Cl.call x2 hb; have d2 := x2.2) | (have x2 := Cl.call (Cl.drew x2) hb; have d2 := x2.2))); (try (first | (have x3 := Cl.call x3 hb; have d3 := x3.2) | (have x3 := Cl.call (Cl.drew x3) hb; have d3 := x3.2))); (try (first | (have x4 := Cl.call x4 hb; have d4 := x4.2) | (have x4 := Cl.call (Cl.drew x4) hb; have d4 := x4.2))); (try (first | (have x5 := Cl.call x5 hb; have d5 := x5.2) | (have x5 := Cl.call (Cl.drew x5) hb; have d5 := x5.2))); (try (first | (have x6 := Cl.call x6 hb; have d6 := x6.2) | (have x6 := Cl.call (Cl.drew x6) hb; have d6 := x6.2))); (try (first | have hB := Below.trans hB (Below.mono hb (by have := hB.size; omega)) | have hB := Below.trans (Below.drew hB) (Below.mono hb (by have := hB.size; simp; omega)))); (try have hz := Below.size hB); have q1 := qq; clear qq)
        | (go_at_call 46; refine (rwider_any _ _ _ _ 192 iX (by omega) (by omega) (by omega) (by omega) _ (by assumption)).mono ?_; rintro e wk ⟨g2, c2, rfl, hcap2, hge2, qq, hfz2, hb⟩; (try have hs := sb_below (by assumption) hb); (try (first | have q1 := Bt.call q1 hb | have q1 := Bt.call (Bt.drew q1) hb)); (try (first | have q2 := Bt.call q2 hb | have q2 := Bt.call (Bt.drew q2) hb)); (try (first | have q3 := Bt.call q3 hb | have q3 := Bt.call (Bt.drew q3) hb)); (try (first | have q4 := Bt.call q4 hb | have q4 := Bt.call (Bt.drew q4) hb)); (try (first | have q5 := Bt.call q5 hb | have q5 := Bt.call (Bt.drew q5) hb)); (try (first | have q6 := Bt.call q6 hb | have q6 := Bt.call (Bt.drew q6) hb)); (try (first | have q7 := Bt.call q7 hb | have q7 := Bt.call (Bt.drew q7) hb)); (try (first | have q8 := Bt.call q8 hb | have q8 := Bt.call (Bt.drew q8) hb)); (try (first | have q9 := Bt.call q9 hb | have q9 := Bt.call (Bt.drew q9) hb)); (try (first | (have x1 := Cl.call x1 hb; have d1 := x1.2) | (have x1 := Cl.call (Cl.drew x1) hb; have d1 := x1.2))); (try (first | (have x2 := Cl.call x2 hb; have d2 := x2.2) | (have x2 := Cl.call (Cl.drew x2) hb; have d2 := x2.2))); (try (first | (have x3 := Cl.call x3 hb; have d3 := x3.2) | (have x3 := Cl.call (Cl.drew x3) hb; have d3 := x3.2))); (try (first | (have x4 := Cl.call x4 hb; have d4 := x4.2) | (have x4 := Cl.call (Cl.drew x4) hb; have d4 := x4.2))); (try (first | (have x5 := Cl.call x5 hb; have d5 := x5.2) | (have x5 := Cl.call (Cl.drew x5) hb; have d5 := x5.2))); (try (first | (have x6 := Cl.call x6 hb; have d6 := x6.2) | (have x6 := Cl.call (Cl.drew x6) hb; have d6 := x6.2))); (try (first | have hB := Below.trans hB (Below.mono hb (by have := hB.size; omega)) | have hB := Below.trans (Below.drew hB) (Below.mono hb (by have := hB.size; simp; omega)))); (try have hz := Below.size hB); have q2 := qq; clear qq)
        | (go_at_call 19; refine (radd_any _ _ _ _ _ _ _ (by omega) (by omega) _ (by assumption) (by assumption)).mono ?_; rintro e wk ⟨g3, c3, rfl, hcap3, hge3, qq, hfz3, hb⟩; (try have hs := sb_below (by assumption) hb); (try (first | have q1 := Bt.call q1 hb | have q1 := Bt.call (Bt.drew q1) hb)); (try (first | have q2 := Bt.call q2 hb | have q2 := Bt.call (Bt.drew q2) hb)); (try (first | have q3 := Bt.call q3 hb | have q3 := Bt.call (Bt.drew q3) hb)); (try (first | have q4 := Bt.call q4 hb | have q4 := Bt.call (Bt.drew q4) hb)); (try (first | have q5 := Bt.call q5 hb | have q5 := Bt.call (Bt.drew q5) hb)); (try (first | have q6 := Bt.call q6 hb | have q6 := Bt.call (Bt.drew q6) hb)); (try (first | have q7 := Bt.call q7 hb | have q7 := Bt.call (Bt.drew q7) hb)); (try (first | have q8 := Bt.call q8 hb | have q8 := Bt.call (Bt.drew q8) hb)); (try (first | have q9 := Bt.call q9 hb | have q9 := Bt.call (Bt.drew q9) hb)); (try (first | (have x1 := Cl.call x1 hb; have d1 := x1.2) | (have x1 := Cl.call (Cl.drew x1) hb; have d1 := x1.2))); (try (first | (have x2 := Cl.call x2 hb; have d2 := x2.2) | (have x2 := Cl.call (Cl.drew x2) hb; have d2 := x2.2))); (try (first | (have x3 := Cl.call x3 hb; have d3 := x3.2) | (have x3 := Cl.call (Cl.drew x3) hb; have d3 := x3.2))); (try (first | (have x4 := Cl.call x4 hb; have d4 := x4.2) | (have x4 := Cl.call (Cl.drew x4) hb; have d4 := x4.2))); (try (first | (have x5 := Cl.call x5 hb; have d5 := x5.2) | (have x5 := Cl.call (Cl.drew x5) hb; have d5 := x5.2))); (try (first | (have x6 := Cl.call x6 hb; have d6 := x6.2) | (have x6 := Cl.call (Cl.drew x6) hb; have d6 := x6.2))); (try (first | have hB := Below.trans hB (Below.mono hb (by have := hB.size; omega)) | have hB := Below.trans (Below.drew hB) (Below.mono hb (by have := hB.size; simp; omega)))); (try have hz := Below.size hB); have q3 := qq; clear qq))
      have g3ne : g3 ≠ b7 := by omega
      have X10 := (X9.call hB).self
      have u1 := (hB.cell (p := ⟨b7, 0, none⟩) l7).trans y1
      have u2 := (hB.cell (p := ⟨b7, 1, none⟩) l7).trans y2
      have u3 := (hB.cell (p := ⟨b7, 2, none⟩) l7).trans y3
      have BU3 := BU2.trans (hB.mono (by have := BU2.size; omega))
      go_roundw
      case rel => exact ⟨k + 1, _, _, _, by omega, by simp, rfl, hcap3, g3ne, q3, X10, u1, u2, u3, BU3⟩
      case measure => simp [intOf]; omega
    · obtain rfl : k = len := by omega
      have iS := w192_in T
      have v1 : Bt wr g 192 (w192 T) := qg.as fun j hj => w192_bits T j hj
      generalize w192 T = s at *
      have iB : InB 192 s := by unfold In192 at iS; unfold InB; omega
      have l7 := X7.lt
      have x1 : Cl wr b7 0 (.int .i64 (tp s)) := ⟨l7, y1⟩
      have x2 : Cl wr b7 1 (.int .u64 (q1 s)) := ⟨l7, y2⟩
      have x3 : Cl wr b7 2 (.int .u64 (q0 s)) := ⟨l7, y3⟩
      have BWR := BW.trans (hB.mono BW.size)
      clear qg X7 hB l1 BW
      have hB := Below.refl wr.heap.size wr
      by_cases h : 191 < n
      · have en : nearI s n = (0, false) := by unfold nearI; rw [if_neg (by omega), if_pos h]
        go_wp2_with (first
          | (go_at_call 47; refine (near_any _ _ iS hn _).mono ?_; rw [en]; rintro e wk ⟨rfl, hb⟩; (try have hs := sb_below (by assumption) hb); (try (first | have q1 := Bt.call q1 hb | have q1 := Bt.call (Bt.drew q1) hb)); (try (first | have q2 := Bt.call q2 hb | have q2 := Bt.call (Bt.drew q2) hb)); (try (first | have q3 := Bt.call q3 hb | have q3 := Bt.call (Bt.drew q3) hb)); (try (first | have q4 := Bt.call q4 hb | have q4 := Bt.call (Bt.drew q4) hb)); (try (first | have q5 := Bt.call q5 hb | have q5 := Bt.call (Bt.drew q5) hb)); (try (first | have q6 := Bt.call q6 hb | have q6 := Bt.call (Bt.drew q6) hb)); (try (first | have q7 := Bt.call q7 hb | have q7 := Bt.call (Bt.drew q7) hb)); (try (first | have q8 := Bt.call q8 hb | have q8 := Bt.call (Bt.drew q8) hb)); (try (first | have q9 := Bt.call q9 hb | have q9 := Bt.call (Bt.drew q9) hb)); (try (first | (have x1 := Cl.call x1 hb; have d1 := x1.2) | (have x1 := Cl.call (Cl.drew x1) hb; have d1 := x1.2))); (try (first | (have x2 := Cl.call x2 hb; have d2 := x2.2) | (have x2 := Cl.call (Cl.drew x2) hb; have d2 := x2.2))); (try (first | (have x3 := Cl.call x3 hb; have d3 := x3.2) | (have x3 := Cl.call (Cl.drew x3) hb; have d3 := x3.2))); (try (first | (have x4 := Cl.call x4 hb; have d4 := x4.2) | (have x4 := Cl.call (Cl.drew x4) hb; have d4 := x4.2))); (try (first | (have x5 := Cl.call x5 hb; have d5 := x5.2) | (have x5 := Cl.call (Cl.drew x5) hb; have d5 := x5.2))); (try (first | (have x6 := Cl.call x6 hb; have d6 := x6.2) | (have x6 := Cl.call (Cl.drew x6) hb; have d6 := x6.2))); (try (first | have hB := Below.trans hB (Below.mono hb (by have := hB.size; omega)) | have hB := Below.trans (Below.drew hB) (Below.mono hb (by have := hB.size; simp; omega)))); (try have hz := Below.size hB))
          | simp only [])
        go_ret
        exact ⟨rfl, BWR.trans (hB.mono BWR.size)⟩
      · obtain ⟨m, em, hm191, en⟩ := near_ref s n (by omega)
        have iR := rndB_B iB (show m < 192 by omega)
        have q4 := v1
        obtain ⟨ew0, ew1, ew2⟩ := wd_q s
        have etp : wrap64 (IntKind.u64.wrap (tp s)) = tp s := by
          rw [u64w]; unfold In192 at iS; unfold tp wrap64; omega
        go_wp2_with (first
          | (go_at_call 47; refine (near_any _ _ iS hn _).mono ?_; rw [en]; rintro e wk ⟨rfl, hb⟩; (try have hs := sb_below (by assumption) hb); (try (first | have q1 := Bt.call q1 hb | have q1 := Bt.call (Bt.drew q1) hb)); (try (first | have q2 := Bt.call q2 hb | have q2 := Bt.call (Bt.drew q2) hb)); (try (first | have q3 := Bt.call q3 hb | have q3 := Bt.call (Bt.drew q3) hb)); (try (first | have q4 := Bt.call q4 hb | have q4 := Bt.call (Bt.drew q4) hb)); (try (first | have q5 := Bt.call q5 hb | have q5 := Bt.call (Bt.drew q5) hb)); (try (first | have q6 := Bt.call q6 hb | have q6 := Bt.call (Bt.drew q6) hb)); (try (first | have q7 := Bt.call q7 hb | have q7 := Bt.call (Bt.drew q7) hb)); (try (first | have q8 := Bt.call q8 hb | have q8 := Bt.call (Bt.drew q8) hb)); (try (first | have q9 := Bt.call q9 hb | have q9 := Bt.call (Bt.drew q9) hb)); (try (first | (have x1 := Cl.call x1 hb; have d1 := x1.2) | (have x1 := Cl.call (Cl.drew x1) hb; have d1 := x1.2))); (try (first | (have x2 := Cl.call x2 hb; have d2 := x2.2) | (have x2 := Cl.call (Cl.drew x2) hb; have d2 := x2.2))); (try (first | (have x3 := Cl.call x3 hb; have d3 := x3.2) | (have x3 := Cl.call (Cl.drew x3) hb; have d3 := x3.2))); (try (first | (have x4 := Cl.call x4 hb; have d4 := x4.2) | (have x4 := Cl.call (Cl.drew x4) hb; have d4 := x4.2))); (try (first | (have x5 := Cl.call x5 hb; have d5 := x5.2) | (have x5 := Cl.call (Cl.drew x5) hb; have d5 := x5.2))); (try (first | (have x6 := Cl.call x6 hb; have d6 := x6.2) | (have x6 := Cl.call (Cl.drew x6) hb; have d6 := x6.2))); (try (first | have hB := Below.trans hB (Below.mono hb (by have := hB.size; omega)) | have hB := Below.trans (Below.drew hB) (Below.mono hb (by have := hB.size; simp; omega)))); (try have hz := Below.size hB))
          | (go_at_call 33; refine (times_any _ _ _).mono ?_; rintro e wk ⟨rfl, hb⟩; (try have hs := sb_below (by assumption) hb); (try (first | have q1 := Bt.call q1 hb | have q1 := Bt.call (Bt.drew q1) hb)); (try (first | have q2 := Bt.call q2 hb | have q2 := Bt.call (Bt.drew q2) hb)); (try (first | have q3 := Bt.call q3 hb | have q3 := Bt.call (Bt.drew q3) hb)); (try (first | have q4 := Bt.call q4 hb | have q4 := Bt.call (Bt.drew q4) hb)); (try (first | have q5 := Bt.call q5 hb | have q5 := Bt.call (Bt.drew q5) hb)); (try (first | have q6 := Bt.call q6 hb | have q6 := Bt.call (Bt.drew q6) hb)); (try (first | have q7 := Bt.call q7 hb | have q7 := Bt.call (Bt.drew q7) hb)); (try (first | have q8 := Bt.call q8 hb | have q8 := Bt.call (Bt.drew q8) hb)); (try (first | have q9 := Bt.call q9 hb | have q9 := Bt.call (Bt.drew q9) hb)); (try (first | (have x1 := Cl.call x1 hb; have d1 := x1.2) | (have x1 := Cl.call (Cl.drew x1) hb; have d1 := x1.2))); (try (first | (have x2 := Cl.call x2 hb; have d2 := x2.2) | (have x2 := Cl.call (Cl.drew x2) hb; have d2 := x2.2))); (try (first | (have x3 := Cl.call x3 hb; have d3 := x3.2) | (have x3 := Cl.call (Cl.drew x3) hb; have d3 := x3.2))); (try (first | (have x4 := Cl.call x4 hb; have d4 := x4.2) | (have x4 := Cl.call (Cl.drew x4) hb; have d4 := x4.2))); (try (first | (have x5 := Cl.call x5 hb; have d5 := x5.2) | (have x5 := Cl.call (Cl.drew x5) hb; have d5 := x5.2))); (try (first | (have x6 := Cl.call x6 hb; have d6 := x6.2) | (have x6 := Cl.call (Cl.drew x6) hb; have d6 := x6.2))); (try (first | have hB := Below.trans hB (Below.mono hb (by have := hB.size; omega)) | have hB := Below.trans (Below.drew hB) (Below.mono hb (by have := hB.size; simp; omega)))); (try have hz := Below.size hB))
          | (go_at_call 36; refine (rround_any _ _ _ _ m iB hcc (by omega) (by omega) _ q4).mono ?_; rintro e wk ⟨g5, c5, rfl, hcap5, qq, hb⟩; (try have hs := sb_below (by assumption) hb); (try (first | have q1 := Bt.call q1 hb | have q1 := Bt.call (Bt.drew q1) hb)); (try (first | have q2 := Bt.call q2 hb | have q2 := Bt.call (Bt.drew q2) hb)); (try (first | have q3 := Bt.call q3 hb | have q3 := Bt.call (Bt.drew q3) hb)); (try (first | have q4 := Bt.call q4 hb | have q4 := Bt.call (Bt.drew q4) hb)); (try (first | have q5 := Bt.call q5 hb | have q5 := Bt.call (Bt.drew q5) hb)); (try (first | have q6 := Bt.call q6 hb | have q6 := Bt.call (Bt.drew q6) hb)); (try (first | have q7 := Bt.call q7 hb | have q7 := Bt.call (Bt.drew q7) hb)); (try (first | have q8 := Bt.call q8 hb | have q8 := Bt.call (Bt.drew q8) hb)); (try (first | have q9 := Bt.call q9 hb | have q9 := Bt.call (Bt.drew q9) hb)); (try (first | (have x1 := Cl.call x1 hb; have d1 := x1.2) | (have x1 := Cl.call (Cl.drew x1) hb; have d1 := x1.2))); (try (first | (have x2 := Cl.call x2 hb; have d2 := x2.2) | (have x2 := Cl.call (Cl.drew x2) hb; have d2 := x2.2))); (try (first | (have x3 := Cl.call x3 hb; have d3 := x3.2) | (have x3 := Cl.call (Cl.drew x3) hb; have d3 := x3.2))); (try (first | (have x4 := Cl.call x4 hb; have d4 := x4.2) | (have x4 := Cl.call (Cl.drew x4) hb; have d4 := x4.2))); (try (first | (have x5 := Cl.call x5 hb; have d5 := x5.2) | (have x5 := Cl.call (Cl.drew x5) hb; have d5 := x5.2))); (try (first | (have x6 := Cl.call x6 hb; have d6 := x6.2) | (have x6 := Cl.call (Cl.drew x6) hb; have d6 := x6.2))); (try (first | have hB := Below.trans hB (Below.mono hb (by have := hB.size; omega)) | have hB := Below.trans (Below.drew hB) (Below.mono hb (by have := hB.size; simp; omega)))); (try have hz := Below.size hB); have q5 := qq; clear qq)
          | (go_at_call 43; refine (rclamp_any _ _ _ _ iR (by omega) hcap5 (by omega) _ q5).mono ?_; rintro e wk ⟨rfl, hb⟩; (try have hs := sb_below (by assumption) hb); (try (first | have q1 := Bt.call q1 hb | have q1 := Bt.call (Bt.drew q1) hb)); (try (first | have q2 := Bt.call q2 hb | have q2 := Bt.call (Bt.drew q2) hb)); (try (first | have q3 := Bt.call q3 hb | have q3 := Bt.call (Bt.drew q3) hb)); (try (first | have q4 := Bt.call q4 hb | have q4 := Bt.call (Bt.drew q4) hb)); (try (first | have q5 := Bt.call q5 hb | have q5 := Bt.call (Bt.drew q5) hb)); (try (first | have q6 := Bt.call q6 hb | have q6 := Bt.call (Bt.drew q6) hb)); (try (first | have q7 := Bt.call q7 hb | have q7 := Bt.call (Bt.drew q7) hb)); (try (first | have q8 := Bt.call q8 hb | have q8 := Bt.call (Bt.drew q8) hb)); (try (first | have q9 := Bt.call q9 hb | have q9 := Bt.call (Bt.drew q9) hb)); (try (first | (have x1 := Cl.call x1 hb; have d1 := x1.2) | (have x1 := Cl.call (Cl.drew x1) hb; have d1 := x1.2))); (try (first | (have x2 := Cl.call x2 hb; have d2 := x2.2) | (have x2 := Cl.call (Cl.drew x2) hb; have d2 := x2.2))); (try (first | (have x3 := Cl.call x3 hb; have d3 := x3.2) | (have x3 := Cl.call (Cl.drew x3) hb; have d3 := x3.2))); (try (first | (have x4 := Cl.call x4 hb; have d4 := x4.2) | (have x4 := Cl.call (Cl.drew x4) hb; have d4 := x4.2))); (try (first | (have x5 := Cl.call x5 hb; have d5 := x5.2) | (have x5 := Cl.call (Cl.drew x5) hb; have d5 := x5.2))); (try (first | (have x6 := Cl.call x6 hb; have d6 := x6.2) | (have x6 := Cl.call (Cl.drew x6) hb; have d6 := x6.2))); (try (first | have hB := Below.trans hB (Below.mono hb (by have := hB.size; omega)) | have hB := Below.trans (Below.drew hB) (Below.mono hb (by have := hB.size; simp; omega)))); (try have hz := Below.size hB))
          | (go_at_call 48; refine (rwords3 _ _ _ _ q4).mono ?_; rintro e wk ⟨gw, cw, rfl, hcapw, hgew, qw, hb⟩; (try have hs := sb_below (by assumption) hb); (try (first | have q1 := Bt.call q1 hb | have q1 := Bt.call (Bt.drew q1) hb)); (try (first | have q2 := Bt.call q2 hb | have q2 := Bt.call (Bt.drew q2) hb)); (try (first | have q3 := Bt.call q3 hb | have q3 := Bt.call (Bt.drew q3) hb)); (try (first | have q4 := Bt.call q4 hb | have q4 := Bt.call (Bt.drew q4) hb)); (try (first | have q5 := Bt.call q5 hb | have q5 := Bt.call (Bt.drew q5) hb)); (try (first | have q6 := Bt.call q6 hb | have q6 := Bt.call (Bt.drew q6) hb)); (try (first | have q7 := Bt.call q7 hb | have q7 := Bt.call (Bt.drew q7) hb)); (try (first | have q8 := Bt.call q8 hb | have q8 := Bt.call (Bt.drew q8) hb)); (try (first | have q9 := Bt.call q9 hb | have q9 := Bt.call (Bt.drew q9) hb)); (try (first | (have x1 := Cl.call x1 hb; have d1 := x1.2) | (have x1 := Cl.call (Cl.drew x1) hb; have d1 := x1.2))); (try (first | (have x2 := Cl.call x2 hb; have d2 := x2.2) | (have x2 := Cl.call (Cl.drew x2) hb; have d2 := x2.2))); (try (first | (have x3 := Cl.call x3 hb; have d3 := x3.2) | (have x3 := Cl.call (Cl.drew x3) hb; have d3 := x3.2))); (try (first | (have x4 := Cl.call x4 hb; have d4 := x4.2) | (have x4 := Cl.call (Cl.drew x4) hb; have d4 := x4.2))); (try (first | (have x5 := Cl.call x5 hb; have d5 := x5.2) | (have x5 := Cl.call (Cl.drew x5) hb; have d5 := x5.2))); (try (first | (have x6 := Cl.call x6 hb; have d6 := x6.2) | (have x6 := Cl.call (Cl.drew x6) hb; have d6 := x6.2))); (try (first | have hB := Below.trans hB (Below.mono hb (by have := hB.size; omega)) | have hB := Below.trans (Below.drew hB) (Below.mono hb (by have := hB.size; simp; omega)))); (try have hz := Below.size hB))
          | simp only [])
        have e0 := qw.2 0 (by omega)
        have e1 := qw.2 1 (by omega)
        have e2 := qw.2 2 (by omega)
        rw [ew0] at e0
        rw [ew1] at e1
        rw [ew2] at e2
        have kw := qw.1
        have kb := x1.1
        have p1 := pack_cell d1 kb
        have p2 := pack_cell d2 kb
        have p3 := pack_cell d3 kb
        have p4 := pack_cell e0 kw
        have p5 := pack_cell e1 kw
        have p6 := pack_cell e2 kw
        refine wp_region_pack (by kernel_rfl) (by kernel_rfl) ?_
        repeat (first | go_big_quiet_skip | (go_big_quiet_want; go_big_quiet_op; first | go_big_quiet_on | (apply Exists.intro; refine ⟨fun npk => ?_, ?_⟩; (focus (first | fail)); go_big_quiet_on)))
        refine wpQuiet_nil ?_
        intro nq
        go_wp2
        go_ret
        exact ⟨rfl, (BWR.trans (hB.mono BWR.size)).trans (Below.mono nq.ok (by have := hB.size; have := BWR.size; omega))⟩
end Go.Proofs.Ytdnccplmpgcleaa
