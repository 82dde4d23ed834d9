import Derived.Test.YtikjomekhnkgcaaMC
/- Axpy: one part. -/
namespace Go.Proofs.Ytikjomekhnkgcaa
open Go.RowKit
attribute [local go_sem ↓] Go.wp_at_zero Go.wp_at_succ

section
variable {W0 w w1 : World} {u : Option Nat}
theorem su_of (h : W0.grownBy w u) : W0.grownBy w u ∧ ∀ b o, b < W0.heap.size → ¬ some b = u → w.cell? ⟨b, o, none⟩ = W0.cell? ⟨b, o, none⟩ :=
  ⟨h, fun _ _ hb hn => gr_cell h hb hn⟩
theorem su_call (h : W0.grownBy w u ∧ ∀ b o, b < W0.heap.size → ¬ some b = u → w.cell? ⟨b, o, none⟩ = W0.cell? ⟨b, o, none⟩) (hb : Below w.heap.size w w1) :
    W0.grownBy w1 u ∧ ∀ b o, b < W0.heap.size → ¬ some b = u → w1.cell? ⟨b, o, none⟩ = W0.cell? ⟨b, o, none⟩ := su_of (gr_call h.1 hb)
theorem su_gr (h : W0.grownBy w u ∧ ∀ b o, b < W0.heap.size → ¬ some b = u → w.cell? ⟨b, o, none⟩ = W0.cell? ⟨b, o, none⟩) (hb : w.grownBy w1 u) :
    W0.grownBy w1 u ∧ ∀ b o, b < W0.heap.size → ¬ some b = u → w1.cell? ⟨b, o, none⟩ = W0.cell? ⟨b, o, none⟩ := su_of (gr_trans h.1 hb)
end
/-- One part of k times x and y. -/
def axI (k x y : Int) : Int := rnd (k * x + y * 4294967296) 4294967296
theorem axI_in (k x y : Int) (hk : In64 k) (hx : In64 x) (hy : In64 y) : In128 (k * x + y * 4294967296) := by
  have h1 : k * x ≤ 85070591730234615865843651857942052864 ∧ -85070591730234615865843651857942052864 ≤ k * x := by
    have := mul_in128 k x hk hx
    unfold In64 at hk hx
    have a1 : absI k ≤ 9223372036854775808 := by unfold absI; split <;> omega
    have a2 : absI x ≤ 9223372036854775808 := by unfold absI; split <;> omega
    have a3 : absI k * absI x ≤ 9223372036854775808 * 9223372036854775808 := Int.mul_le_mul a1 a2 (absI_nonneg x) (by omega)
    rw [← absI_mul] at a3
    have := absI_cases (k * x)
    omega
  unfold In64 at hy
  unfold In128
  omega
set_option maxHeartbeats 1000000 in
theorem axpy1_any (i n cp : Nat) (k x c : Int) (A : Option Addr) (ys : List Int) (U : Value) (u : Option Nat) (B5 B7 B4 : Nat) (hk : In64 k) (hx : In64 x) (hys : All64 ys) (hlt : i < n) (hn : n < 1000000) (w : World)
    (c5 : w.cell? ⟨B5, 0, none⟩ = some (.int .i64 k)) (c7 : w.cell? ⟨B7, 0, none⟩ = some (.slice A n cp)) (c4 : w.cell? ⟨B4, 0, none⟩ = some U) (n4 : ¬ some B4 = u)
    (hr : Rd w u A n ys) (hU : Unt w U u c) (hc0 : 0 ≤ c) (hc : c < 1000000000) :
    Calls Try.prog 65 #[.int .i64 i, .int .i64 x, .pointer (some ⟨B5, 0, none⟩), .pointer (some ⟨B7, 0, none⟩), .pointer (some ⟨B4, 0, none⟩)] w fun e w' =>
      e = .returned (.int .i64 (clampI (axI k x (ys.getD i 0)))) ∧ w.grownBy w' u ∧ Unt w' U u (c + ov (overI (axI k x (ys.getD i 0)))) := by
  have hy := hys i
  obtain ⟨b, off, rfl, hb, hbu, hcells⟩ := hr.2 (by omega)
  have cy := hcells i hlt
  have i128 := axI_in k x _ hk hx hy
  have RD := Lib.hid (fun W => round_any _ 32 i128 i32 W)
  rw [round32] at RD
  have AD := Lib.hid (fun W => add_any (k * x) (ys.getD i 0 * 4294967296) W)
  rw [w128_id i128] at AD
  have SH := Lib.hid (fun W => shl_any (ys.getD i 0) 32 i32 W)
  rw [(shl32 _ hy).1] at SH
  have OF := Lib.hid (fun W => of_any _ hy W)
  have MU := Lib.hid (fun W => mul_any k x hk hx W)
  clear hcells hr hys i128
  unfold axI
  generalize ys.getD i 0 = y at *
  generalize k * x + y * 4294967296 = s at *
  generalize rnd s 4294967296 = r at *
  generalize y * 4294967296 = y32 at *
  generalize k * x = kx at *
  have k5 := World.block_lt_of_cell? w _ c5
  have k7 := World.block_lt_of_cell? w _ c7
  have k4 := World.block_lt_of_cell? w _ c4
  have ia : (0 : Int) ≤ (i : Int) := by omega
  have ib : (i : Int) < (n : Int) := by omega
  have id : IntKind.i64.wrap (i : Int) = i := IntWalk.i64_in _ (by omega)
  go_enter Try.func65, Try.ntmps65
  go_wp2
  refine at_world fun W0 hW0 => ?_
  obtain rfl : W0 = w := hW0
  have hB := Below.refl W0.heap.size W0
  go_cut [8] (fun v w' => ∃ g : Nat, v = .pointer (some ⟨g, 0, none⟩) ∧ W0.heap.size ≤ g ∧ g < w'.heap.size ∧ Below W0.heap.size W0 w' ∧ w'.cell? ⟨g, 0, none⟩ = some (.int .i64 (hi s)) ∧ w'.cell? ⟨g, 1, none⟩ = some (.int .u64 (lo s)))
  case first =>
    go_region_held3 (fun w' => Below W0.heap.size W0 w' ∧ ∀ b o, b < W0.heap.size → w'.cell? ⟨b, o, none⟩ = W0.cell? ⟨b, o, none⟩) ((first | (refine sb_call ?_ hb; assumption) | exact sb_of hs | exact sb_of (Below.drew hs) | (refine sb_call ?_ hb1; assumption) | (refine sb_call ?_ hb2; assumption) | (refine sb_call ?_ hb3; assumption) | (refine sb_call ?_ hb4; assumption) | (refine sb_call ?_ hb5; assumption) | (refine sb_call ?_ hb6; assumption) | (refine sb_call ?_ hb7; assumption) | (refine sb_call ?_ hb8; assumption) | (refine sb_call ?_ hb9; assumption) | exact sb_of (by repeat (first | (with_reducible exact Below.refl _ _) | (with_reducible assumption) | (with_reducible refine Below.drew ?_) | (with_reducible refine Below.alloc ?_ ?_ _) | (with_reducible refine Below.setCell ?_ ?_ _) | (with_reducible refine Below.trans ?_ (Below.mono hb ?_)) | (with_reducible refine Below.trans ?_ (Below.mono hb1 ?_)) | (with_reducible refine Below.trans ?_ (Below.mono hb2 ?_)) | (with_reducible refine Below.trans ?_ (Below.mono hb3 ?_)) | (with_reducible refine Below.trans ?_ (Below.mono hb4 ?_)) | (with_reducible refine Below.trans ?_ (Below.mono hb5 ?_)) | (with_reducible refine Below.trans ?_ (Below.mono hb6 ?_)) | (with_reducible refine Below.trans ?_ (Below.mono hb7 ?_)) | (with_reducible refine Below.trans ?_ (Below.mono hb8 ?_)) | (with_reducible refine Below.trans ?_ (Below.mono hb9 ?_)) | (focus (first | omega | (simp; done) | (simp; omega))) | exact hB))))
      (first
        | (go_at_call 67; refine (MU.out _).mono ?_; rintro e w1 ⟨rfl, hb1⟩; have hs1 := sb_below (by assumption) hb1; have hz1 := hs1.size; obtain ⟨hc1, hf1, hy1⟩ := bcell hb1; (try simp at hy1); (try have : W0.heap.size < w1.heap.size := by omega))
        | (go_at_call 69; refine (OF.out _).mono ?_; rintro e w2 ⟨rfl, hb2⟩; have hs2 := sb_below (by assumption) hb2; have hz2 := hs2.size; obtain ⟨hc2, hf2, hy2⟩ := bcell hb2; (try simp at hy2); (try have : W0.heap.size < w2.heap.size := by omega); (try have : w1.heap.size < w2.heap.size := by omega))
        | (go_at_call 68; refine (SH.out _).mono ?_; rintro e w3 ⟨rfl, hb3⟩; have hs3 := sb_below (by assumption) hb3; have hz3 := hs3.size; obtain ⟨hc3, hf3, hy3⟩ := bcell hb3; (try simp at hy3); (try have : W0.heap.size < w3.heap.size := by omega); (try have : w1.heap.size < w3.heap.size := by omega); (try have : w2.heap.size < w3.heap.size := by omega))
        | (go_at_call 66; refine (AD.out _).mono ?_; rintro e w4 ⟨rfl, hb4⟩; have hs4 := sb_below (by assumption) hb4; have hz4 := hs4.size; obtain ⟨hc4, hf4, hy4⟩ := bcell hb4; (try simp at hy4); (try have : W0.heap.size < w4.heap.size := by omega); (try have : w1.heap.size < w4.heap.size := by omega); (try have : w2.heap.size < w4.heap.size := by omega); (try have : w3.heap.size < w4.heap.size := by omega)))
    all_goals
      go_wp2_with fail
      go_meet
      case rel => exact ⟨_, rfl, (by first | omega | (simp; done) | (simp; omega)), (by first | omega | (simp; done) | (simp; omega)), (by assumption : _ ∧ _).1, by simp [*, go_sem], by simp [*, go_sem]⟩
  case rest =>
  obtain ⟨g, rfl, g1, g2, hB0, d1, d2⟩ := hcut
  have d4 : wc.cell? ⟨B4, 0, none⟩ = some U := (hB0.cell (p := ⟨B4, 0, none⟩) k4).trans c4
  have ng : ¬ some g = u := hU.ne g1
  have hV0 := hU.call hB0
  have k8 : B4 < wc.heap.size := by omega
  clear c5 c7 cy AD
  go_wp2_with fail
  refine at_world fun W0 hW0 => ?_
  obtain rfl : W0 = wc := hW0
  have hB := Below.refl W0.heap.size W0
  go_region_held3 (fun w' => W0.grownBy w' u ∧ ∀ b o, b < W0.heap.size → ¬ some b = u → w'.cell? ⟨b, o, none⟩ = W0.cell? ⟨b, o, none⟩) ((first | (refine su_call ?_ hb; assumption) | (refine su_gr ?_ hg; assumption) | exact su_of (by repeat (first | assumption | exact World.grownBy.refl _ _ | refine gr_drew ?_ | refine gr_alloc ?_ _ | refine gr_set ?_ (by first | omega | (simp; done) | (simp; omega)) _))))
      (first
        | (go_at_call 71; refine (RD.out _).mono ?_; rintro e wk ⟨rfl, hb⟩; (try (have hs := sb_below (by assumption) hb; have hzs := Below.size hs)); (try (first | have q1 := Bt.call q1 hb | have q1 := Bt.call (Bt.drew q1) hb)); (try (first | have q2 := Bt.call q2 hb | have q2 := Bt.call (Bt.drew q2) hb)); (try (first | have q3 := Bt.call q3 hb | have q3 := Bt.call (Bt.drew q3) hb)); (try (first | have q4 := Bt.call q4 hb | have q4 := Bt.call (Bt.drew q4) hb)); (try (first | have q5 := Bt.call q5 hb | have q5 := Bt.call (Bt.drew q5) hb)); (try (first | have q6 := Bt.call q6 hb | have q6 := Bt.call (Bt.drew q6) hb)); (try (first | have q7 := Bt.call q7 hb | have q7 := Bt.call (Bt.drew q7) hb)); (try (first | have q8 := Bt.call q8 hb | have q8 := Bt.call (Bt.drew q8) hb)); (try (first | have q9 := Bt.call q9 hb | have q9 := Bt.call (Bt.drew q9) hb)); (try (first | (have x1 := Cl.call x1 hb; have d1 := x1.2) | (have x1 := Cl.call (Cl.drew x1) hb; have d1 := x1.2))); (try (first | (have x2 := Cl.call x2 hb; have d2 := x2.2) | (have x2 := Cl.call (Cl.drew x2) hb; have d2 := x2.2))); (try (first | (have x3 := Cl.call x3 hb; have d3 := x3.2) | (have x3 := Cl.call (Cl.drew x3) hb; have d3 := x3.2))); (try (first | (have x4 := Cl.call x4 hb; have d4 := x4.2) | (have x4 := Cl.call (Cl.drew x4) hb; have d4 := x4.2))); (try (first | (have x5 := Cl.call x5 hb; have d5 := x5.2) | (have x5 := Cl.call (Cl.drew x5) hb; have d5 := x5.2))); (try (first | (have x6 := Cl.call x6 hb; have d6 := x6.2) | (have x6 := Cl.call (Cl.drew x6) hb; have d6 := x6.2))); (try (first | have hB := Below.trans hB (Below.mono hb (by have := hB.size; first | omega | (simp; done) | (simp; omega))) | have hB := Below.trans (Below.drew hB) (Below.mono hb (by have := hB.size; first | omega | (simp; done) | (simp; omega))))); (try have hz := Below.size hB))
        | (go_at_call 70; refine (vtake_any U u c _ _ (Unt.call hV0 hB) hc0 hc).mono ?_; rintro e wl ⟨rfl, hg, hV⟩))
  all_goals
    go_wp2
    go_ret
    exact ⟨rfl, gr_trans (gr_below hB0 u) (gr_trans (gr_below hB u) hg), hV⟩
end Go.Proofs.Ytikjomekhnkgcaa
