import Derived.Test.YtikjomekhnkgcaaG6
/- The reference's sums: Round, walked. -/
namespace Go.Proofs.Ytikjomekhnkgcaa
open Go.RowKit
attribute [local go_sem ↓] Go.wp_at_zero Go.wp_at_succ

/-- What stands behind k halvings. -/
def RndAt (w wr : World) (G : Nat) (m : Int) (j : Nat) : Prop := wr.heap[G]? = some (.cells #[.int .u64 (dg 0 (m / 2 ^ j)), .int .u64 (dg 1 (m / 2 ^ j)), .int .u64 (dg 2 (m / 2 ^ j)), .int .u64 (dg 3 (m / 2 ^ j)), .int .u64 (dg 4 (m / 2 ^ j)), .int .u64 (dg 5 (m / 2 ^ j))] 102 (0, 0)) ∧ Below w.heap.size w wr
set_option maxHeartbeats 4000000 in
theorem round02_any (p n k : Int) (hp : BIG p) (hn : BIG n) (hk0 : 0 ≤ k) (hk : k ≤ 128) (w : World) :
    Calls Try.prog 76 #[.agg #[.int .u64 (dg 0 (p)), .int .u64 (dg 1 (p)), .int .u64 (dg 2 (p)), .int .u64 (dg 3 (p)), .int .u64 (dg 4 (p)), .int .u64 (dg 5 (p)), .int .u64 (dg 0 (n)), .int .u64 (dg 1 (n)), .int .u64 (dg 2 (n)), .int .u64 (dg 3 (n)), .int .u64 (dg 4 (n)), .int .u64 (dg 5 (n))], .int .i64 k] w fun e w' => e = .returned (.tuple #[.int .i64 (clampI (rnd (p - n) (2 ^ k.toNat))), .bool (overI (rnd (p - n) (2 ^ k.toNat)))]) ∧ Below w.heap.size w w' := by
  have hm : BIG (absI (p - n)) := by unfold BIG at *; unfold absI; split <;> omega
  have WH := Lib.hid (fun W => whole_any p n hp hn W)
  obtain ⟨m, hm0⟩ : ∃ m, m = absI (p - n) := ⟨_, rfl⟩
  rw [← hm0] at hm WH
  have HM0 := Lib.hid hm0
  obtain ⟨s, hs⟩ : ∃ s, s = decide (p - n < 0) := ⟨_, rfl⟩
  rw [← hs] at WH
  have HS := Lib.hid hs
  clear hm0 hs
  go_enter Try.func76, Try.ntmps76
  go_wp2_with (go_at_call 104; refine (WH.out _).mono ?_; rintro e w1 ⟨rfl, hb1⟩; obtain ⟨hc1, hf1, hz1⟩ := bcell hb1; (try simp at hz1); (try have : w.heap.size < w1.heap.size := by omega); (try have : w.heap.size + 1 < w1.heap.size := by omega); (try have : w.heap.size + 1 + 1 < w1.heap.size := by omega); (try have : w.heap.size + 1 + 1 + 1 < w1.heap.size := by omega); (try have : g < w1.heap.size := by omega); (try have : ga < w1.heap.size := by omega); (try have : gb < w1.heap.size := by omega); (try have : gc < w1.heap.size := by omega); have hB : Below w.heap.size w w1 := (by repeat (first | (with_reducible exact Below.refl _ _) | (with_reducible assumption) | (with_reducible refine Below.drew ?_) | (with_reducible refine Below.alloc ?_ ?_ _) | (with_reducible refine Below.setCell ?_ ?_ _) | (with_reducible refine Below.trans ?_ (Below.mono hb ?_)) | (with_reducible refine Below.trans ?_ (Below.mono hb1 ?_)) | (with_reducible refine Below.trans ?_ (Below.mono hb2 ?_)) | (with_reducible refine Below.trans ?_ (Below.mono hb3 ?_)) | (with_reducible refine Below.trans ?_ (Below.mono hb4 ?_)) | (with_reducible refine Below.trans ?_ (Below.mono hb5 ?_)) | (with_reducible refine Below.trans ?_ (Below.mono hb6 ?_)) | (with_reducible refine Below.trans ?_ (Below.mono hb7 ?_)) | (with_reducible refine Below.trans ?_ (Below.mono hb8 ?_)) | (with_reducible refine Below.trans ?_ (Below.mono hb9 ?_)) | (focus (first | omega | (simp; done) | (simp; omega))) | exact hB)))
  obtain ⟨G, hG⟩ : ∃ G, G = w1.heap.size := ⟨_, rfl⟩
  have hGw : w.heap.size < G := by omega
  have HG := Lib.hid hG
  rw [← hG]
  have hz1 : w.heap.size + 1 ≤ G := by omega
  clear hG hc1 hf1
  go_loopw [8, 9, 10] (fun l r i wr => ∃ j : Nat, (j : Int) ≤ k ∧ i = .int .i64 j ∧ l = .int .u64 (lsI m j) ∧ r = .int .u64 (rsI m j) ∧ RndAt w wr G m j) (fun _ _ i _ => (k - intOf i).toNat)
  case atStart =>
    refine ⟨0, by omega, rfl, rfl, rfl, ?_, (by repeat (first | (with_reducible exact Below.refl _ _) | (with_reducible assumption) | (with_reducible refine Below.drew ?_) | (with_reducible refine Below.alloc ?_ ?_ _) | (with_reducible refine Below.setCell ?_ ?_ _) | (with_reducible refine Below.trans ?_ (Below.mono hb ?_)) | (with_reducible refine Below.trans ?_ (Below.mono hb1 ?_)) | (with_reducible refine Below.trans ?_ (Below.mono hb2 ?_)) | (with_reducible refine Below.trans ?_ (Below.mono hb3 ?_)) | (with_reducible refine Below.trans ?_ (Below.mono hb4 ?_)) | (with_reducible refine Below.trans ?_ (Below.mono hb5 ?_)) | (with_reducible refine Below.trans ?_ (Below.mono hb6 ?_)) | (with_reducible refine Below.trans ?_ (Below.mono hb7 ?_)) | (with_reducible refine Below.trans ?_ (Below.mono hb8 ?_)) | (with_reducible refine Below.trans ?_ (Below.mono hb9 ?_)) | (focus (first | omega | (simp; done) | (simp; omega))) | exact hB))⟩
    rw [HG.out, show m / 2 ^ 0 = m by simp]
    exact heap_alloc_new w1 _
  case round =>
    obtain ⟨j, hj, rfl, rfl, rfl, hM, hB⟩ := hrel
    have kG := lt_of_block hM
    by_cases hlt : (j : Int) < k
    · obtain ⟨hx0, hx1⟩ := big_div hm j
      have HF := Lib.hid (fun W => half_any (m / 2 ^ j) (big_div hm j) W)
      rw [half_div] at HF
      have l01 := ls_01 m j
      have r01 := rs_01 m j
      have ro := rs_succ m j
      have els := ls_succ m j
      rw [← els] at HF
      have y0 := cell_of_row wr G 0 _ _ _ hM
      have y1 := cell_of_row wr G 1 _ _ _ hM
      have y2 := cell_of_row wr G 2 _ _ _ hM
      have y3 := cell_of_row wr G 3 _ _ _ hM
      have y4 := cell_of_row wr G 4 _ _ _ hM
      have y5 := cell_of_row wr G 5 _ _ _ hM
      have yf : ∀ i, wr.frozen? ⟨G, i, none⟩ = false := fun i => by simp [World.frozen?, hM]
      simp only [List.getElem?_toArray, List.getElem?_cons_zero, List.getElem?_cons_succ] at y0 y1 y2 y3 y4 y5
      have HM := Lib.hid hM
      clear hM els l01 r01
      go_wp2_with (go_at_call 105; refine (HF.out _).mono ?_; rintro e w2 ⟨rfl, hb2⟩; obtain ⟨hc2, hf2, hz2⟩ := bcell hb2; have k2 : G < w2.heap.size := by omega)
      go_roundw
      case rel =>
        refine ⟨j + 1, by omega, by simp, rfl, rfl, set6 _ _ _ _ _ _ ((hb2.block _ kG).trans HM.out), ?_⟩
        exact hB.trans ((hb2.mono (by have := hB.size; omega)).trans (set6_below _ _ _ _ _ _ (by omega)))
      case measure => simp [intOf]; omega
    · obtain rfl : (j : Int) = k := by omega
      have hres := rnd_sgn (p - n) (2 ^ j) (pw_pos j)
      rw [← HM0.out, ← HS.out] at hres
      have y0 := cell_of_row wr G 0 _ _ _ hM
      have y1 := cell_of_row wr G 1 _ _ _ hM
      have y2 := cell_of_row wr G 2 _ _ _ hM
      have y3 := cell_of_row wr G 3 _ _ _ hM
      have y4 := cell_of_row wr G 4 _ _ _ hM
      have y5 := cell_of_row wr G 5 _ _ _ hM
      have yf : ∀ i, wr.frozen? ⟨G, i, none⟩ = false := fun i => by simp [World.frozen?, hM]
      simp only [List.getElem?_toArray, List.getElem?_cons_zero, List.getElem?_cons_succ] at y0 y1 y2 y3 y4 y5
      have HM := Lib.hid hM
      have HRES := Lib.hid hres
      have d0 := dg_in 0 (m / 2 ^ j)
      have ed : dg 0 (m / 2 ^ j) % 2 = m / 2 ^ j % 2 := by
        unfold dg; simp only [Nat.mul_zero, Int.pow_zero, Int.ediv_one]; omega
      obtain ⟨hq0, hq1⟩ := big_div hm j
      have hup : rnd m (2 ^ j) = if lsI m j = 1 ∧ (rsI m j = 1 ∨ m / 2 ^ j % 2 = 1) then m / 2 ^ j + 1 else m / 2 ^ j := by
        cases j with
        | zero => rw [rnd_one]; simp [lsI]
        | succ i => exact rnd_bits m i
      have hq2 : lsI m j = 1 → m / 2 ^ j + 1 < 6277101735386680763835789423207666416102355444464034512896 := by
        intro h
        cases j with
        | zero => simp [lsI] at h
        | succ i =>
          have h1 := Int.ediv_le_self (2 ^ i) hm.1
          have h2 := hm.2
          rw [← half_div]
          omega
      clear hM hres WH hlt hj hk hk0 hm hp hn
      generalize lsI m j = l at *
      generalize rsI m j = r at *
      generalize m / 2 ^ j = q at *
      by_cases hu : l = 1 ∧ (r = 1 ∨ q % 2 = 1)
      · rw [if_pos hu] at hup
        have CL := Lib.hid (fun W => clamp02_any (q + 1) s ⟨by omega, hq2 hu.1⟩ W)
        rw [show sgn s (q + 1) = rnd (p - n) (2 ^ j) by rw [← hup]; exact HRES.out] at CL
        obtain ⟨rfl, hu2⟩ := hu
        clear hup hq2 HRES
        have eu : upB 0 1 = 1 := rfl
        have ON := Lib.hid (fun W => one64_any 1 0 ⟨by omega, by omega⟩ (by omega) (by omega) W)
        have PL := Lib.hid (fun W => plus_any q 1 W)
        rw [eu] at ON
        clear eu
        by_cases hr : r = 1
        · subst hr
          clear hu2 ed
          go_wp2_with fail
          go_region_with (first
            | (go_at_call 103; refine (ON.out _).mono ?_; rintro e w3 ⟨rfl, hb3⟩; replace hb3 := undrew hb3; obtain ⟨hc3, hf3, hz3⟩ := bcell hb3; have k3 : G < w3.heap.size := by omega)
            | (go_at_call 102; refine (PL.out _).mono ?_; rintro e w4 ⟨rfl, hb4⟩; obtain ⟨hc4, hf4, hz4⟩ := bcell hb4; have k4 : G < w4.heap.size := by omega))
          all_goals
            have b5 := set6 (.int .u64 (dg 0 (q + 1))) (.int .u64 (dg 1 (q + 1))) (.int .u64 (dg 2 (q + 1))) (.int .u64 (dg 3 (q + 1))) (.int .u64 (dg 4 (q + 1))) (.int .u64 (dg 5 (q + 1))) ((hb4.block G (by omega)).trans ((hb3.block G kG).trans HM.out))
            have B5 : Below w.heap.size w _ := hB.trans ((hb3.mono (by have := hB.size; omega)).trans ((hb4.mono (by have := hB.size; omega)).trans (set6_below (g := G) (.int .u64 (dg 0 (q + 1))) (.int .u64 (dg 1 (q + 1))) (.int .u64 (dg 2 (q + 1))) (.int .u64 (dg 3 (q + 1))) (.int .u64 (dg 4 (q + 1))) (.int .u64 (dg 5 (q + 1))) (Nat.le_of_lt hGw))))
            have o0 := cell_of_row _ G 0 _ _ _ b5
            have o1 := cell_of_row _ G 1 _ _ _ b5
            have o2 := cell_of_row _ G 2 _ _ _ b5
            have o3 := cell_of_row _ G 3 _ _ _ b5
            have o4 := cell_of_row _ G 4 _ _ _ b5
            have o5 := cell_of_row _ G 5 _ _ _ b5
            simp only [List.getElem?_toArray, List.getElem?_cons_zero, List.getElem?_cons_succ] at o0 o1 o2 o3 o4 o5
            have z5 := B5.size
            clear b5 hc3 hf3 hc4 hf4 y0 y1 y2 y3 y4 y5 yf
            go_wp2_with (go_at_call 106; refine (CL.out _).mono ?_; rintro e w5 ⟨rfl, hb5⟩)
            go_ret2
            exact ⟨rfl, B5.trans (hb5.mono z5)⟩
        · have t1 : (r == 1) = false := by simpa using hr
          have t2 : (dg 0 q % 2 == 1) = true := by rw [ed]; simp; omega
          clear hu2 ed hr
          go_wp2_with fail
          go_region_with (first
            | (go_at_call 103; refine (ON.out _).mono ?_; rintro e w3 ⟨rfl, hb3⟩; replace hb3 := undrew hb3; obtain ⟨hc3, hf3, hz3⟩ := bcell hb3; have k3 : G < w3.heap.size := by omega)
            | (go_at_call 102; refine (PL.out _).mono ?_; rintro e w4 ⟨rfl, hb4⟩; obtain ⟨hc4, hf4, hz4⟩ := bcell hb4; have k4 : G < w4.heap.size := by omega))
          all_goals
            have b5 := set6 (.int .u64 (dg 0 (q + 1))) (.int .u64 (dg 1 (q + 1))) (.int .u64 (dg 2 (q + 1))) (.int .u64 (dg 3 (q + 1))) (.int .u64 (dg 4 (q + 1))) (.int .u64 (dg 5 (q + 1))) ((hb4.block G (by omega)).trans ((hb3.block G kG).trans HM.out))
            have B5 : Below w.heap.size w _ := hB.trans ((hb3.mono (by have := hB.size; omega)).trans ((hb4.mono (by have := hB.size; omega)).trans (set6_below (g := G) (.int .u64 (dg 0 (q + 1))) (.int .u64 (dg 1 (q + 1))) (.int .u64 (dg 2 (q + 1))) (.int .u64 (dg 3 (q + 1))) (.int .u64 (dg 4 (q + 1))) (.int .u64 (dg 5 (q + 1))) (Nat.le_of_lt hGw))))
            have o0 := cell_of_row _ G 0 _ _ _ b5
            have o1 := cell_of_row _ G 1 _ _ _ b5
            have o2 := cell_of_row _ G 2 _ _ _ b5
            have o3 := cell_of_row _ G 3 _ _ _ b5
            have o4 := cell_of_row _ G 4 _ _ _ b5
            have o5 := cell_of_row _ G 5 _ _ _ b5
            simp only [List.getElem?_toArray, List.getElem?_cons_zero, List.getElem?_cons_succ] at o0 o1 o2 o3 o4 o5
            have z5 := B5.size
            clear b5 hc3 hf3 hc4 hf4 y0 y1 y2 y3 y4 y5 yf
            go_wp2_with (go_at_call 106; refine (CL.out _).mono ?_; rintro e w5 ⟨rfl, hb5⟩)
            go_ret2
            exact ⟨rfl, B5.trans (hb5.mono z5)⟩
      · rw [if_neg hu] at hup
        have CL := Lib.hid (fun W => clamp02_any q s ⟨hq0, hq1⟩ W)
        rw [show sgn s q = rnd (p - n) (2 ^ j) by rw [← hup]; exact HRES.out] at CL
        clear hup hq2 HRES
        by_cases hl : l = 1
        · subst hl
          have hr : ¬ r = 1 := fun e => hu ⟨rfl, .inl e⟩
          have hq : ¬ q % 2 = 1 := fun e => hu ⟨rfl, .inr e⟩
          have t1 : (r == 1) = false := by simpa using hr
          have t2 : (dg 0 q % 2 == 1) = false := by rw [ed]; simpa using hq
          clear hu ed hr hq
          go_wp2_with (go_at_call 106; refine (CL.out _).mono ?_; rintro e w3 ⟨rfl, hb3⟩)
          go_ret2
          exact ⟨rfl, hB.trans (hb3.mono (by have := hB.size; omega))⟩
        · have t1 : (l == 1) = false := by simpa using hl
          clear hu ed hl
          go_wp2_with (go_at_call 106; refine (CL.out _).mono ?_; rintro e w3 ⟨rfl, hb3⟩)
          go_ret2
          exact ⟨rfl, hB.trans (hb3.mono (by have := hB.size; omega))⟩
end Go.Proofs.Ytikjomekhnkgcaa
