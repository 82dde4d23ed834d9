import Derived.Test.YtcdnkecgnfdfnaaWOStill0
/- The law OuterStill, walked. -/
namespace Go.Proofs.Ytcdnkecgnfdfnaa
open Go.RowKit
attribute [local go_sem ↓] Go.wp_at_zero Go.wp_at_succ

theorem rd_zeros {w : World} {u : Option Nat} (n : Nat) (hn : n ≤ 1000000) (hu : ∀ g, u = some g → g < w.heap.size) : Rd (w.alloc (.cells (madeCells #[.int .i64 0] n) 22)) u (some ⟨w.heap.size, 0, none⟩) n (List.replicate n 0) := by
  have := (own_zeros w n hn).rdAt hu
  rwa [List.length_replicate] at this
theorem all_zeros (n : Nat) : All64 (List.replicate n 0) := by intro j; rw [rep_get]; unfold In64; omega
theorem rdz_at {w : World} (g n : Nat) (hn : n ≤ 1000000) (hg : g = w.heap.size) : Rd (w.alloc (.cells (madeCells #[.int .i64 0] n) 22)) none (some ⟨g, 0, none⟩) n (List.replicate n 0) := by
  subst hg; exact rd_zeros n hn (by intro g e; cases e)
theorem still_len {w : World} {u : Option Nat} {A : Option Addr} {n : Nat} {xs : List Int} (h : xs.length = n) (hr : Rd w u A xs.length xs) : Rd w u A n xs := h ▸ hr
def StillCut (W0 : World) (n : Nat) (ps bs : List Int) (v v10 : Value) (w' : World) : Prop :=
  ∃ (g : Nat) (Ap Ab : Option Addr) (cP cB : Nat), v = .pointer (some ⟨g, 0, none⟩) ∧ v10 = .int .i64 0 ∧ Below W0.heap.size W0 w' ∧ w'.cell? ⟨g, 0, none⟩ = some (.slice Ap n cP) ∧ w'.cell? ⟨g, 1, none⟩ = some (.slice Ab n cB) ∧ Rd w' none Ap n ps ∧ Rd w' none Ab n bs
set_option maxHeartbeats 2000000 in
set_option maxRecDepth 100000 in
theorem ostill_main (A C : Option Addr) (n cp cr : Nat) (r t : Int) (ps gs : List Int) (w : World) (hn : n ≤ 200) (hr : 0 ≤ r) (hr1 : r < 9223372036854775808) (ht : 0 ≤ t) (ht1 : t < 4294967296) (hA : Rd w none A n ps) (hC : Rd w none C n gs) (hp : All64 ps) (hg : All64 gs) :
    Calls Try.prog 3 #[.agg #[.int .i64 r, .int .i64 t], .slice A n cp, .slice C n cr] w fun e w' => e = .returned (.bool true) ∧ Below w.heap.size w w' := by
  have hn0 : ∀ (B g : Nat), none = some g → g < B := by intro B g e; cases e
  have AW := Lib.hid (fun W => awake10_any W)
  have hlp := hA.1
  have e1 := still_op r t n ps hlp hp
  have e2 := still_ob t n
  have E1 := Lib.hid e1
  have E2 := Lib.hid e2
  have HL := Lib.hid hlp
  clear e1 e2 hlp
  go_enter Try.func3, Try.ntmps3
  go_wp2_with (go_at_call 8; refine (AW.out _).mono ?_; rintro e w1 ⟨rfl, hb1⟩; obtain ⟨hc1, hf1, hz1⟩ := bcell hb1; (try simp at hz1); (try have : w.heap.size < w1.heap.size := by omega); (try have : w.heap.size + 1 < w1.heap.size := by omega); (try have : w.heap.size + 1 + 1 < w1.heap.size := by omega); (try have : w.heap.size + 1 + 1 + 1 < w1.heap.size := by omega); (try have : g < w1.heap.size := by omega); (try have : ga < w1.heap.size := by omega); (try have : gb < w1.heap.size := by omega); (try have : gc < w1.heap.size := by omega); have hB : Below w.heap.size w w1 := (by repeat (first | (with_reducible exact Below.refl _ _) | refine Below.drew ?_ | refine Below.alloc ?_ (by first | omega | (simp; done) | (simp; omega)) _ | refine Below.setCell ?_ (by first | omega | (simp; done) | (simp; omega)) _ | exact BC | exact BW | exact hB | refine Below.trans ?_ (Below.mono hb (by first | omega | (simp; done) | (simp; omega))) | refine Below.trans ?_ (Below.mono hb1 (by first | omega | (simp; done) | (simp; omega))) | refine Below.trans ?_ (Below.mono hb2 (by first | omega | (simp; done) | (simp; omega))) | refine Below.trans ?_ (Below.mono hb3 (by first | omega | (simp; done) | (simp; omega))) | refine Below.trans ?_ (Below.mono hb4 (by first | omega | (simp; done) | (simp; omega))) | refine Below.trans ?_ (Below.mono hb5 (by first | omega | (simp; done) | (simp; omega))) | refine Below.trans ?_ (Below.mono hb6 (by first | omega | (simp; done) | (simp; omega))) | refine Below.trans ?_ (Below.mono hb7 (by first | omega | (simp; done) | (simp; omega))) | refine Below.trans ?_ (Below.mono hb8 (by first | omega | (simp; done) | (simp; omega))) | refine Below.trans ?_ (Below.mono hb9 (by first | omega | (simp; done) | (simp; omega))))))
  refine (obegin_any A n cp ps _ (by omega) (hA.call (by repeat (first | (with_reducible exact Below.refl _ _) | refine Below.drew ?_ | refine Below.alloc ?_ (by first | omega | (simp; done) | (simp; omega)) _ | refine Below.setCell ?_ (by first | omega | (simp; done) | (simp; omega)) _ | exact BC | exact BW | exact hB | refine Below.trans ?_ (Below.mono hb (by first | omega | (simp; done) | (simp; omega))) | refine Below.trans ?_ (Below.mono hb1 (by first | omega | (simp; done) | (simp; omega))) | refine Below.trans ?_ (Below.mono hb2 (by first | omega | (simp; done) | (simp; omega))) | refine Below.trans ?_ (Below.mono hb3 (by first | omega | (simp; done) | (simp; omega))) | refine Below.trans ?_ (Below.mono hb4 (by first | omega | (simp; done) | (simp; omega))) | refine Below.trans ?_ (Below.mono hb5 (by first | omega | (simp; done) | (simp; omega))) | refine Below.trans ?_ (Below.mono hb6 (by first | omega | (simp; done) | (simp; omega))) | refine Below.trans ?_ (Below.mono hb7 (by first | omega | (simp; done) | (simp; omega))) | refine Below.trans ?_ (Below.mono hb8 (by first | omega | (simp; done) | (simp; omega))) | refine Below.trans ?_ (Below.mono hb9 (by first | omega | (simp; done) | (simp; omega))))))).mono ?_
  rintro e w2 ⟨V, V', rfl, hP, hZ, hG, _⟩
  obtain ⟨B1, cp1, rfl, hB1⟩ := hP.rd (hn0 _)
  obtain ⟨B2, cp2, rfl, hB2⟩ := hZ.rd (hn0 _)
  simp only [HL.out, List.length_replicate] at hB1 hB2
  simp only [HL.out, List.length_replicate]
  have hb2 := gr_none hG
  have z2 := hb2.size
  have hmk := run_zeros n (by omega)
  have BW2 : Below w.heap.size w w2 := (by repeat (first | (with_reducible exact Below.refl _ _) | refine Below.drew ?_ | refine Below.alloc ?_ (by first | omega | (simp; done) | (simp; omega)) _ | refine Below.setCell ?_ (by first | omega | (simp; done) | (simp; omega)) _ | exact BC | exact BW | exact hB | refine Below.trans ?_ (Below.mono hb (by first | omega | (simp; done) | (simp; omega))) | refine Below.trans ?_ (Below.mono hb1 (by first | omega | (simp; done) | (simp; omega))) | refine Below.trans ?_ (Below.mono hb2 (by first | omega | (simp; done) | (simp; omega))) | refine Below.trans ?_ (Below.mono hb3 (by first | omega | (simp; done) | (simp; omega))) | refine Below.trans ?_ (Below.mono hb4 (by first | omega | (simp; done) | (simp; omega))) | refine Below.trans ?_ (Below.mono hb5 (by first | omega | (simp; done) | (simp; omega))) | refine Below.trans ?_ (Below.mono hb6 (by first | omega | (simp; done) | (simp; omega))) | refine Below.trans ?_ (Below.mono hb7 (by first | omega | (simp; done) | (simp; omega))) | refine Below.trans ?_ (Below.mono hb8 (by first | omega | (simp; done) | (simp; omega))) | refine Below.trans ?_ (Below.mono hb9 (by first | omega | (simp; done) | (simp; omega)))))
  have cr0 : w2.cell? ⟨w.heap.size, 0, none⟩ = some (.int .i64 r) := by rw [hb2.cell (p := ⟨w.heap.size, 0, none⟩) (by omega)]; simp [*, go_sem]
  have cr1 : w2.cell? ⟨w.heap.size, 1, none⟩ = some (.int .i64 t) := by rw [hb2.cell (p := ⟨w.heap.size, 1, none⟩) (by omega)]; simp [*, go_sem]
  clear hP hZ hG hc1 hf1
  go_wp2_with fail
  have k0 : w.heap.size < w2.heap.size := by omega
  refine at_world fun W0 hW0 => ?_
  have c1 : W0.cell? ⟨w.heap.size, 0, none⟩ = some (.int .i64 r) := by subst hW0; simp [*, go_sem]
  have c2 : W0.cell? ⟨w.heap.size, 1, none⟩ = some (.int .i64 t) := by subst hW0; simp [*, go_sem]
  have c3 : W0.cell? ⟨w2.heap.size, 0, none⟩ = some (.slice B1 n cp1) := by subst hW0; simp [*, go_sem]
  have c4 : W0.cell? ⟨w2.heap.size, 1, none⟩ = some (.slice B2 n cp2) := by subst hW0; simp [*, go_sem]
  have k1 : w.heap.size < W0.heap.size := by subst hW0; simp; omega
  have k2 : w2.heap.size < W0.heap.size := by subst hW0; simp
  have BK : Below w2.heap.size w2 W0 := by subst hW0; exact (by repeat (first | (with_reducible exact Below.refl _ _) | refine Below.drew ?_ | refine Below.alloc ?_ (by first | omega | (simp; done) | (simp; omega)) _ | refine Below.setCell ?_ (by first | omega | (simp; done) | (simp; omega)) _ | exact BC | exact BW | exact hB | refine Below.trans ?_ (Below.mono hb (by first | omega | (simp; done) | (simp; omega))) | refine Below.trans ?_ (Below.mono hb1 (by first | omega | (simp; done) | (simp; omega))) | refine Below.trans ?_ (Below.mono hb2 (by first | omega | (simp; done) | (simp; omega))) | refine Below.trans ?_ (Below.mono hb3 (by first | omega | (simp; done) | (simp; omega))) | refine Below.trans ?_ (Below.mono hb4 (by first | omega | (simp; done) | (simp; omega))) | refine Below.trans ?_ (Below.mono hb5 (by first | omega | (simp; done) | (simp; omega))) | refine Below.trans ?_ (Below.mono hb6 (by first | omega | (simp; done) | (simp; omega))) | refine Below.trans ?_ (Below.mono hb7 (by first | omega | (simp; done) | (simp; omega))) | refine Below.trans ?_ (Below.mono hb8 (by first | omega | (simp; done) | (simp; omega))) | refine Below.trans ?_ (Below.mono hb9 (by first | omega | (simp; done) | (simp; omega)))))
  have BW : Below w.heap.size w W0 := BW2.trans (BK.mono (by omega))
  have rA := hA.call BW
  have rC := hC.call BW
  have rB1 := hB1.call BK
  have rB2 := hB2.call BK
  clear hW0 hA hC hB1 hB2 hb2 hB hb1 cr0 cr1 BW2
  have hB := Below.refl W0.heap.size W0
  go_cut [9, 10] (fun v v10 w' => StillCut W0 n ps (List.replicate n 0) v v10 w')
  case first =>
    go_region_held3 (fun w' => Below W0.heap.size W0 w' ∧ ∀ b o, b < W0.heap.size → w'.cell? ⟨b, o, none⟩ = W0.cell? ⟨b, o, none⟩) ((first | (refine sb_call ?_ hb; assumption) | exact sb_of hs | exact sb_of (Below.drew hs) | (refine sb_call ?_ hb1; assumption) | (refine sb_call ?_ hb2; assumption) | (refine sb_call ?_ hb3; assumption) | (refine sb_call ?_ hb4; assumption) | (refine sb_call ?_ hb5; assumption) | (refine sb_call ?_ hb6; assumption) | (refine sb_call ?_ hb7; assumption) | (refine sb_call ?_ hb8; assumption) | (refine sb_call ?_ hb9; assumption) | exact sb_of (by repeat (first | (with_reducible exact Below.refl _ _) | exact hs | exact hB | exact hs1 | exact hs2 | exact hs3 | exact hs4 | exact hs5 | exact hs6 | exact hs7 | exact hs8 | exact hs9 | refine Below.drew ?_ | refine Below.alloc ?_ (by first | omega | (simp; done) | (simp; omega)) _ | refine Below.setCell ?_ (by first | omega | (simp; done) | (simp; omega)) _))))
      ((go_at_call 10; refine (ostep_any B1 B2 _ n cp1 cp2 n ps (List.replicate n 0) (List.replicate n 0) _ none 0 r t _ hr hr1 ht ht1 (by omega) hp (all_zeros n) (all_zeros n) (rB1.call (by repeat (first | (with_reducible exact Below.refl _ _) | refine Below.drew ?_ | refine Below.alloc ?_ (by first | omega | (simp; done) | (simp; omega)) _ | refine Below.setCell ?_ (by first | omega | (simp; done) | (simp; omega)) _ | exact BC | exact BW | exact hB | refine Below.trans ?_ (Below.mono hb (by first | omega | (simp; done) | (simp; omega))) | refine Below.trans ?_ (Below.mono hb1 (by first | omega | (simp; done) | (simp; omega))) | refine Below.trans ?_ (Below.mono hb2 (by first | omega | (simp; done) | (simp; omega))) | refine Below.trans ?_ (Below.mono hb3 (by first | omega | (simp; done) | (simp; omega))) | refine Below.trans ?_ (Below.mono hb4 (by first | omega | (simp; done) | (simp; omega))) | refine Below.trans ?_ (Below.mono hb5 (by first | omega | (simp; done) | (simp; omega))) | refine Below.trans ?_ (Below.mono hb6 (by first | omega | (simp; done) | (simp; omega))) | refine Below.trans ?_ (Below.mono hb7 (by first | omega | (simp; done) | (simp; omega))) | refine Below.trans ?_ (Below.mono hb8 (by first | omega | (simp; done) | (simp; omega))) | refine Below.trans ?_ (Below.mono hb9 (by first | omega | (simp; done) | (simp; omega)))))) (rB2.call (by repeat (first | (with_reducible exact Below.refl _ _) | refine Below.drew ?_ | refine Below.alloc ?_ (by first | omega | (simp; done) | (simp; omega)) _ | refine Below.setCell ?_ (by first | omega | (simp; done) | (simp; omega)) _ | exact BC | exact BW | exact hB | refine Below.trans ?_ (Below.mono hb (by first | omega | (simp; done) | (simp; omega))) | refine Below.trans ?_ (Below.mono hb1 (by first | omega | (simp; done) | (simp; omega))) | refine Below.trans ?_ (Below.mono hb2 (by first | omega | (simp; done) | (simp; omega))) | refine Below.trans ?_ (Below.mono hb3 (by first | omega | (simp; done) | (simp; omega))) | refine Below.trans ?_ (Below.mono hb4 (by first | omega | (simp; done) | (simp; omega))) | refine Below.trans ?_ (Below.mono hb5 (by first | omega | (simp; done) | (simp; omega))) | refine Below.trans ?_ (Below.mono hb6 (by first | omega | (simp; done) | (simp; omega))) | refine Below.trans ?_ (Below.mono hb7 (by first | omega | (simp; done) | (simp; omega))) | refine Below.trans ?_ (Below.mono hb8 (by first | omega | (simp; done) | (simp; omega))) | refine Below.trans ?_ (Below.mono hb9 (by first | omega | (simp; done) | (simp; omega)))))) (by first | exact (rdz_at _ n (by omega) (by simp)).drew | exact ((rdz_at _ n (by omega) (by simp)).call ((Below.refl _ _).alloc (Nat.le_refl _) _)).drew) (Unt.nil _ _) (by omega) (by omega)).mono ?_; rintro e wk ⟨V, V', rfl, hP, hZ, hG, hUU⟩; clear hUU; have hb := gr_none hG; clear hG; have hs : Below W0.heap.size W0 wk := (by repeat (first | (with_reducible exact Below.refl _ _) | refine Below.drew ?_ | refine Below.alloc ?_ (by first | omega | (simp; done) | (simp; omega)) _ | refine Below.setCell ?_ (by first | omega | (simp; done) | (simp; omega)) _ | exact BC | exact BW | exact hB | refine Below.trans ?_ (Below.mono hb (by first | omega | (simp; done) | (simp; omega))) | refine Below.trans ?_ (Below.mono hb1 (by first | omega | (simp; done) | (simp; omega))) | refine Below.trans ?_ (Below.mono hb2 (by first | omega | (simp; done) | (simp; omega))) | refine Below.trans ?_ (Below.mono hb3 (by first | omega | (simp; done) | (simp; omega))) | refine Below.trans ?_ (Below.mono hb4 (by first | omega | (simp; done) | (simp; omega))) | refine Below.trans ?_ (Below.mono hb5 (by first | omega | (simp; done) | (simp; omega))) | refine Below.trans ?_ (Below.mono hb6 (by first | omega | (simp; done) | (simp; omega))) | refine Below.trans ?_ (Below.mono hb7 (by first | omega | (simp; done) | (simp; omega))) | refine Below.trans ?_ (Below.mono hb8 (by first | omega | (simp; done) | (simp; omega))) | refine Below.trans ?_ (Below.mono hb9 (by first | omega | (simp; done) | (simp; omega))))); have hzs := Below.size hs; rw [E1.out] at hP; rw [E2.out] at hZ; obtain ⟨Ap, cP, rfl, rP⟩ := hP.rd (u := none) (hn0 _); obtain ⟨Ab, cB, rfl, rB⟩ := hZ.rd (u := none) (hn0 _); clear rP rB; simp only [HL.out, List.length_replicate] at hP hZ; simp only [HL.out, List.length_replicate]; obtain ⟨hcb, hfb, hyb⟩ := bcell hb; (try simp at hyb); (try have : W0.heap.size < wk.heap.size := by omega)))
    all_goals
      go_wp2_with fail
      go_meet
      case rel =>
        first
          | exact ⟨_, Ap, Ab, cP, cB, rfl, rfl, (hs.alloc (by omega) _), by simp, by simp, still_len HL.out (OwnF.rdAt (hP.low ((Below.refl _ _).alloc (Nat.le_refl _) _)) (hn0 _)), still_len (by simp) (OwnF.rdAt (hZ.low ((Below.refl _ _).alloc (Nat.le_refl _) _)) (hn0 _))⟩
          | (have q0 := hb.cell (p := ⟨W0.heap.size + 1, 0, none⟩) (by first | omega | (simp; done) | (simp; omega))
             have q1 := hb.cell (p := ⟨W0.heap.size + 1, 1, none⟩) (by first | omega | (simp; done) | (simp; omega))
             have r0 := hb.cell (p := ⟨W0.heap.size, 0, none⟩) (by first | omega | (simp; done) | (simp; omega))
             have r1 := hb.cell (p := ⟨W0.heap.size, 1, none⟩) (by first | omega | (simp; done) | (simp; omega))
             simp at q0 q1 r0 r1
             exact ⟨_, Ap, Ab, cP, cB, rfl, rfl, (by repeat (first | exact hs | refine Below.setCell ?_ (by first | omega | (simp; done) | (simp; omega)) _)), by simp [*, go_sem], by simp [*, go_sem], still_len HL.out (OwnF.rdAt ((hP.setBelow (by first | omega | (show W0.heap.size < _; omega) | (show W0.heap.size + 1 < _; omega) | (simp; done) | (simp; omega)) _).setBelow (by first | omega | (show W0.heap.size < _; omega) | (show W0.heap.size + 1 < _; omega) | (simp; done) | (simp; omega)) _) (hn0 _)), still_len (by simp) (OwnF.rdAt ((hZ.setBelow (by first | omega | (show W0.heap.size < _; omega) | (show W0.heap.size + 1 < _; omega) | (simp; done) | (simp; omega)) _).setBelow (by first | omega | (show W0.heap.size < _; omega) | (show W0.heap.size + 1 < _; omega) | (simp; done) | (simp; omega)) _) (hn0 _))⟩)
  case rest =>
  obtain ⟨g, Ap, Ab, cP, cB, rfl, rfl, hB0, d0, d1, rP, rZ⟩ := hcut
  have m1 : wc.cell? ⟨w.heap.size, 1, none⟩ = some (.int .i64 t) := (hB0.cell (p := ⟨w.heap.size, 1, none⟩) k1).trans c2
  have m2 : wc.cell? ⟨w2.heap.size, 0, none⟩ = some (.slice B1 n cp1) := (hB0.cell (p := ⟨w2.heap.size, 0, none⟩) k2).trans c3
  have m3 : wc.cell? ⟨w2.heap.size, 1, none⟩ = some (.slice B2 n cp2) := (hB0.cell (p := ⟨w2.heap.size, 1, none⟩) k2).trans c4
  have k3 := World.block_lt_of_cell? wc _ d0
  have BWC : Below w.heap.size w wc := BW.trans (hB0.mono BW.size)
  have sA := rA.call hB0
  have sC := rC.call hB0
  have sB1 := rB1.call hB0
  have sB2 := rB2.call hB0
  clear c1 c2 c3 c4 rA rC rB1 rB2 hB BW hmk
  go_wp2_with fail
  refine (ostep_any B1 B2 C n cp1 cp2 cr ps (List.replicate n 0) gs _ none 0 0 t wc (by omega) (by omega) ht ht1 (by omega) hp (all_zeros n) hg sB1 sB2 sC (Unt.nil _ _) (by omega) (by omega)).mono ?_
  rintro e w5 ⟨V, V', rfl, hP, hZ, hG, hUU⟩
  clear hUU
  rw [rate0_op t n ps (List.replicate n 0) gs HL.out hp] at hP
  obtain ⟨Aq, cQ, rfl, rQ⟩ := hP.rd (u := none) (hn0 _)
  obtain ⟨Ar, cR, rfl, rR⟩ := hZ.rd (u := none) (hn0 _)
  simp only [HL.out] at rQ
  simp only [HL.out]
  have hb5 := gr_none hG
  have d2 : w5.cell? ⟨g, 0, none⟩ = some (.slice Ap n cP) := (hb5.cell (p := ⟨g, 0, none⟩) k3).trans d0
  have d3 : w5.cell? ⟨g, 1, none⟩ = some (.slice Ab n cB) := (hb5.cell (p := ⟨g, 1, none⟩) k3).trans d1
  have B5 : Below w.heap.size w w5 := BWC.trans (hb5.mono BWC.size)
  have k5 : g < w5.heap.size := by have := hb5.size; omega
  have tA := (sA.call hb5)
  have tP := (rP.call hb5)
  have tZ := (rZ.call hb5)
  clear hG hP hZ rP rZ sA sC sB1 sB2 m1 m2 m3 d0 d1 BWC rR
  go_wp2
  refine at_world fun W0 hW0 => ?_
  have x0 : W0.cell? ⟨g, 0, none⟩ = some (.slice Ap n cP) := by subst hW0; simp [*, go_sem]
  have x1 : W0.cell? ⟨g, 1, none⟩ = some (.slice Ab n cB) := by subst hW0; simp [*, go_sem]
  have x2 : W0.cell? ⟨w5.heap.size, 0, none⟩ = some (.slice Aq n cQ) := by subst hW0; simp [*, go_sem]
  have BE : Below w5.heap.size w5 W0 := by subst hW0; exact (by repeat (first | (with_reducible exact Below.refl _ _) | refine Below.drew ?_ | refine Below.alloc ?_ (by first | omega | (simp; done) | (simp; omega)) _ | refine Below.setCell ?_ (by first | omega | (simp; done) | (simp; omega)) _ | exact BC | exact BW | exact hB | refine Below.trans ?_ (Below.mono hb (by first | omega | (simp; done) | (simp; omega))) | refine Below.trans ?_ (Below.mono hb1 (by first | omega | (simp; done) | (simp; omega))) | refine Below.trans ?_ (Below.mono hb2 (by first | omega | (simp; done) | (simp; omega))) | refine Below.trans ?_ (Below.mono hb3 (by first | omega | (simp; done) | (simp; omega))) | refine Below.trans ?_ (Below.mono hb4 (by first | omega | (simp; done) | (simp; omega))) | refine Below.trans ?_ (Below.mono hb5 (by first | omega | (simp; done) | (simp; omega))) | refine Below.trans ?_ (Below.mono hb6 (by first | omega | (simp; done) | (simp; omega))) | refine Below.trans ?_ (Below.mono hb7 (by first | omega | (simp; done) | (simp; omega))) | refine Below.trans ?_ (Below.mono hb8 (by first | omega | (simp; done) | (simp; omega))) | refine Below.trans ?_ (Below.mono hb9 (by first | omega | (simp; done) | (simp; omega)))))
  have BZ : Below w.heap.size w W0 := B5.trans (BE.mono B5.size)
  have vA := tA.call BE
  have vP := tP.call BE
  have vZ := tZ.call BE
  have vQ := rQ.call BE
  clear hW0 tA tP tZ rQ d2 d3 BE B5 hb5
  go_loop [95] (fun i => ∃ k : Nat, k ≤ n ∧ i = .int .i64 k) (fun i => n - (intOf i).toNat)
  case atStart => exact ⟨0, Nat.zero_le _, rfl⟩
  case round =>
    obtain ⟨k, hk, rfl⟩ := hrel
    by_cases hlt : k < n
    · obtain ⟨b1, o1, rfl, _, _, q1⟩ := vA.2 (by omega)
      obtain ⟨b2, o2, rfl, _, _, q2⟩ := vP.2 (by omega)
      obtain ⟨b3, o3, rfl, _, _, q3⟩ := vZ.2 (by omega)
      obtain ⟨b4, o4, rfl, _, _, q4⟩ := vQ.2 (by omega)
      replace q1 := q1 k hlt
      replace q2 := q2 k hlt
      replace q3 := q3 k hlt
      replace q4 := q4 k hlt
      rw [rep_get] at q3
      clear vA vP vZ vQ
      go_wp2
      go_round
      case rel => exact ⟨k + 1, by omega, by simp⟩
      case measure => simp [intOf]; omega
    · clear vA vP vZ vQ
      go_wp2
      go_ret
      exact ⟨rfl, BZ⟩
end Go.Proofs.Ytcdnkecgnfdfnaa
