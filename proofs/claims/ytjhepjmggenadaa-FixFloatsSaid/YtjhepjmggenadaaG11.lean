import Derived.Test.YtjhepjmggenadaaG10
/- The reference's FromFloat, walked: any number. -/
namespace Go.Proofs.Ytjhepjmggenadaa
open Go.RowKit
attribute [local go_sem ↓] Go.wp_at_zero Go.wp_at_succ

/-- A float64's bits in parts. -/
theorem fparts (b : Nat) : ((b : Int) / 4503599627370496 % 2048 = ((b / 4503599627370496 % 2048 : Nat) : Int)) ∧ ((b : Int) % 4503599627370496 = ((b % 4503599627370496 : Nat) : Int)) := by omega
set_option maxHeartbeats 4000000 in
theorem rfrom_low1 (b k : Nat) (hb0 : b < 18446744073709551616) (e : Nat) (he : b / 4503599627370496 % 2048 = e) (he0 : 0 < e) (he1 : e < 1043) (hk : (e : Int) - 1043 = -(k : Int)) (w : World) :
    Calls Try.prog 23 #[.int .u64 b] w fun e w' => e = .returned (.tuple #[.int .i64 (clampI (floatI b)), .bool (overI (floatI b)), .bool true]) ∧ Below w.heap.size w w' := by
  have hW : apW b = ((b % 4503599627370496 : Nat) : Int) + 4503599627370496 := by unfold apW; rw [he, if_neg (by omega)]
  have hP : apP b = (e : Int) - 1075 := by unfold apP; rw [he, if_neg (by omega)]
  have hF := float_low b k (by rw [hP]; omega) (by omega)
  obtain ⟨f1, f2⟩ := fparts b
  rw [he] at f1
  obtain ⟨m0, hm0⟩ : ∃ m0, m0 = b % 4503599627370496 := ⟨_, rfl⟩
  rw [← hm0] at f2 hW
  have hm1 : m0 < 4503599627370496 := by omega
  have hS : ((b : Int) / 9223372036854775808 == 1) = apS b := by
    unfold apS
    rw [show (b : Int) / 9223372036854775808 = ((b / 9223372036854775808 : Nat) : Int) by omega]
  have h3 : (0 : Int) ≤ b := by omega
  have h4 : (b : Int) < 18446744073709551616 := by omega
  rw [hW] at hF
  obtain ⟨F, hFF⟩ : ∃ F, F = floatI b := ⟨_, rfl⟩
  rw [← hFF] at hF ⊢
  obtain ⟨s, hs⟩ : ∃ s, s = apS b := ⟨_, rfl⟩
  rw [← hs] at hS hF
  have ON := Lib.hid (fun V => one64_any ((m0 : Int) + 4503599627370496) 0 ⟨by omega, by omega⟩ (by omega) (by omega) V)
  rw [show upB 0 ((m0 : Int) + 4503599627370496) = (m0 : Int) + 4503599627370496 from rfl] at ON
  have hm : BIG ((m0 : Int) + 4503599627370496) := ⟨by omega, by omega⟩
  clear hW hP hm0 he hb0 hFF hs
  have HFL0 := Lib.hid hF
  clear hF
  generalize (b : Int) = c at *
  go_enter Try.func23, Try.ntmps23
  go_wp2_with (go_at_call 63; refine (ON.out _).mono ?_; rintro e w1 ⟨rfl, hb1⟩; obtain ⟨hc1, hf1, hz1⟩ := bcell hb1; (try simp at hz1); (try have : w.heap.size < w1.heap.size := by omega); (try have : w.heap.size + 1 < w1.heap.size := by omega); (try have : w.heap.size + 1 + 1 < w1.heap.size := by omega); (try have : w.heap.size + 1 + 1 + 1 < w1.heap.size := by omega); (try have : g < w1.heap.size := by omega); (try have : ga < w1.heap.size := by omega); (try have : gb < w1.heap.size := by omega); (try have : gc < w1.heap.size := by omega); have hB : Below w.heap.size w w1 := (by repeat (first | (with_reducible exact Below.refl _ _) | (with_reducible assumption) | (with_reducible refine Below.drew ?_) | (with_reducible refine Below.alloc ?_ ?_ _) | (with_reducible refine Below.setCell ?_ ?_ _) | (with_reducible refine Below.trans ?_ (Below.mono hb ?_)) | (with_reducible refine Below.trans ?_ (Below.mono hb1 ?_)) | (with_reducible refine Below.trans ?_ (Below.mono hb2 ?_)) | (with_reducible refine Below.trans ?_ (Below.mono hb3 ?_)) | (with_reducible refine Below.trans ?_ (Below.mono hb4 ?_)) | (with_reducible refine Below.trans ?_ (Below.mono hb5 ?_)) | (with_reducible refine Below.trans ?_ (Below.mono hb6 ?_)) | (with_reducible refine Below.trans ?_ (Below.mono hb7 ?_)) | (with_reducible refine Below.trans ?_ (Below.mono hb8 ?_)) | (with_reducible refine Below.trans ?_ (Below.mono hb9 ?_)) | (focus (first | omega | (simp; done) | (simp; omega))) | exact hB)))
  generalize hme : (m0 : Int) + 4503599627370496 = m at *
  have HFL := HFL0
  clear HFL0 hme ON
  obtain ⟨G, hG⟩ : ∃ G, G = w1.heap.size := ⟨_, rfl⟩
  have hGw : w.heap.size ≤ G := by omega
  have HG := Lib.hid hG
  rw [← hG]
  have BW1 := hB
  clear hG hc1 hf1 hb1
  have hw1 : ∃ o, o = (w1.alloc (.cells #[.int .u64 (dg 0 (m)), .int .u64 (dg 1 (m)), .int .u64 (dg 2 (m)), .int .u64 (dg 3 (m)), .int .u64 (dg 4 (m)), .int .u64 (dg 5 (m))] 45)) := ⟨_, rfl⟩
  clear hw1
  go_loopw [8, 10, 11] (fun i l r wr => ∃ j : Nat, j ≤ k ∧ i = .int .i64 ((j : Int) - k) ∧ l = .int .u64 (lsI m j) ∧ r = .int .u64 (rsI m j) ∧ RndAt w wr G m j) (fun i _ _ _ => (- intOf i).toNat)
  case atStart =>
    refine ⟨0, by omega, (by first | (simp; done) | (simp; omega)), rfl, rfl, ?_, (by repeat (first | (with_reducible exact Below.refl _ _) | (with_reducible assumption) | (with_reducible refine Below.drew ?_) | (with_reducible refine Below.alloc ?_ ?_ _) | (with_reducible refine Below.setCell ?_ ?_ _) | (with_reducible refine Below.trans ?_ (Below.mono hb ?_)) | (with_reducible refine Below.trans ?_ (Below.mono hb1 ?_)) | (with_reducible refine Below.trans ?_ (Below.mono hb2 ?_)) | (with_reducible refine Below.trans ?_ (Below.mono hb3 ?_)) | (with_reducible refine Below.trans ?_ (Below.mono hb4 ?_)) | (with_reducible refine Below.trans ?_ (Below.mono hb5 ?_)) | (with_reducible refine Below.trans ?_ (Below.mono hb6 ?_)) | (with_reducible refine Below.trans ?_ (Below.mono hb7 ?_)) | (with_reducible refine Below.trans ?_ (Below.mono hb8 ?_)) | (with_reducible refine Below.trans ?_ (Below.mono hb9 ?_)) | (focus (first | omega | (simp; done) | (simp; omega))) | exact hB))⟩
    rw [HG.out, show m / 2 ^ 0 = m by simp]
    exact heap_alloc_new w1 _
  case round =>
    clear BW1
    obtain ⟨j, hj, rfl, rfl, rfl, hM, hB⟩ := hrel
    have kG := lt_of_block hM
    have y0 := cell_of_row wr G 0 _ _ _ hM
    have y1 := cell_of_row wr G 1 _ _ _ hM
    have y2 := cell_of_row wr G 2 _ _ _ hM
    have y3 := cell_of_row wr G 3 _ _ _ hM
    have y4 := cell_of_row wr G 4 _ _ _ hM
    have y5 := cell_of_row wr G 5 _ _ _ hM
    have yf : ∀ i, wr.frozen? ⟨G, i, none⟩ = false := fun i => by simp [World.frozen?, hM]
    simp only [List.getElem?_toArray, List.getElem?_cons_zero, List.getElem?_cons_succ] at y0 y1 y2 y3 y4 y5
    have HM := Lib.hid hM
    clear hM
    by_cases hlt : j < k
    · obtain ⟨hx0, hx1⟩ := big_div hm j
      have HF := Lib.hid (fun W => half_any (m / 2 ^ j) (big_div hm j) W)
      rw [half_div] at HF
      have ro := rs_succ m j
      have els := ls_succ m j
      rw [← els] at HF
      have hneg : (j : Int) - k < 0 := by omega
      clear els
      go_wp2_with (go_at_call 64; refine (HF.out _).mono ?_; rintro e w2 ⟨rfl, hb2⟩; obtain ⟨hc2, hf2, hz2⟩ := bcell hb2; have k2 : G < w2.heap.size := by omega)
      go_roundw
      case rel =>
        refine ⟨j + 1, by omega, by simp; omega, rfl, rfl, set6 _ _ _ _ _ _ ((hb2.block _ kG).trans HM.out), ?_⟩
        exact hB.trans ((hb2.mono (by have := hB.size; omega)).trans (set6_below _ _ _ _ _ _ (by omega)))
      case measure => simp [intOf]; omega
    · obtain rfl : j = k := by omega
      have HRES := Lib.hid HFL.out
      have d0 := dg_in 0 (m / 2 ^ j)
      have hz0 : (j : Int) - (j : Int) = 0 := by omega
      have ed : dg 0 (m / 2 ^ j) % 2 = m / 2 ^ j % 2 := by
        unfold dg; simp only [Nat.mul_zero, Int.pow_zero, Int.ediv_one]; omega
      obtain ⟨hq0, hq1⟩ := big_div hm j
      have hup : rnd m (2 ^ j) = if lsI m j = 1 ∧ (rsI m j = 1 ∨ m / 2 ^ j % 2 = 1) then m / 2 ^ j + 1 else m / 2 ^ j := by
        cases j with
        | zero => rw [rnd_one]; simp [lsI]
        | succ i => exact rnd_bits m i
      have hq2 : lsI m j = 1 → m / 2 ^ j + 1 < 6277101735386680763835789423207666416102355444464034512896 := by
        intro h
        cases j with
        | zero => simp [lsI] at h
        | succ i =>
          have h1 := Int.ediv_le_self (2 ^ i) hm.1
          have h2 := hm.2
          rw [← half_div]
          omega
      clear hlt hj hm hz0 HFL
      generalize lsI m j = l at *
      generalize rsI m j = r at *
      generalize m / 2 ^ j = q at *
      by_cases hu : l = 1 ∧ (r = 1 ∨ q % 2 = 1)
      · rw [if_pos hu] at hup
        have CL := Lib.hid (fun W => clamp02_any (q + 1) s ⟨by omega, hq2 hu.1⟩ W)
        rw [show sgn s (q + 1) = F by rw [← hup]; exact HRES.out.symm] at CL
        obtain ⟨rfl, hu2⟩ := hu
        clear hup hq2 HRES
        have eu : upB 0 1 = 1 := rfl
        have ON1 := Lib.hid (fun W => one64_any 1 0 ⟨by omega, by omega⟩ (by omega) (by omega) W)
        have PL := Lib.hid (fun W => plus_any q 1 W)
        rw [eu] at ON1
        clear eu
        by_cases hr : r = 1
        · subst hr
          clear hu2 ed
          go_wp2_with fail
          go_region_with (first
            | (go_at_call 63; refine (ON1.out _).mono ?_; rintro e w3 ⟨rfl, hb3⟩; replace hb3 := undrew hb3; obtain ⟨hc3, hf3, hz3⟩ := bcell hb3; have k3 : G < w3.heap.size := by omega)
            | (go_at_call 65; refine (PL.out _).mono ?_; rintro e w4 ⟨rfl, hb4⟩; obtain ⟨hc4, hf4, hz4⟩ := bcell hb4; have k4 : G < w4.heap.size := by omega))
          all_goals
            have b5 := set6 (.int .u64 (dg 0 (q + 1))) (.int .u64 (dg 1 (q + 1))) (.int .u64 (dg 2 (q + 1))) (.int .u64 (dg 3 (q + 1))) (.int .u64 (dg 4 (q + 1))) (.int .u64 (dg 5 (q + 1))) ((hb4.block G (by omega)).trans ((hb3.block G kG).trans HM.out))
            have B5 : Below w.heap.size w _ := hB.trans ((hb3.mono (by have := hB.size; omega)).trans ((hb4.mono (by have := hB.size; omega)).trans (set6_below (g := G) (.int .u64 (dg 0 (q + 1))) (.int .u64 (dg 1 (q + 1))) (.int .u64 (dg 2 (q + 1))) (.int .u64 (dg 3 (q + 1))) (.int .u64 (dg 4 (q + 1))) (.int .u64 (dg 5 (q + 1))) hGw)))
            have o0 := cell_of_row _ G 0 _ _ _ b5
            have o1 := cell_of_row _ G 1 _ _ _ b5
            have o2 := cell_of_row _ G 2 _ _ _ b5
            have o3 := cell_of_row _ G 3 _ _ _ b5
            have o4 := cell_of_row _ G 4 _ _ _ b5
            have o5 := cell_of_row _ G 5 _ _ _ b5
            simp only [List.getElem?_toArray, List.getElem?_cons_zero, List.getElem?_cons_succ] at o0 o1 o2 o3 o4 o5
            have z5 := B5.size
            clear b5 hc3 hf3 hc4 hf4 y0 y1 y2 y3 y4 y5 yf
            go_wp2_with fail
            refine wp_loop_rounds 1 ?_
            rw [rounds_succ]
            go_wp2_with (go_at_call 66; refine (CL.out _).mono ?_; rintro e w5 ⟨rfl, hb5⟩)
            go_ret3
            exact ⟨rfl, B5.trans (hb5.mono z5)⟩
        · have t1 : (r == 1) = false := by simpa using hr
          have t2 : (dg 0 q % 2 == 1) = true := by rw [ed]; simp; omega
          clear hu2 ed hr
          go_wp2_with fail
          go_region_with (first
            | (go_at_call 63; refine (ON1.out _).mono ?_; rintro e w3 ⟨rfl, hb3⟩; replace hb3 := undrew hb3; obtain ⟨hc3, hf3, hz3⟩ := bcell hb3; have k3 : G < w3.heap.size := by omega)
            | (go_at_call 65; refine (PL.out _).mono ?_; rintro e w4 ⟨rfl, hb4⟩; obtain ⟨hc4, hf4, hz4⟩ := bcell hb4; have k4 : G < w4.heap.size := by omega))
          all_goals
            have b5 := set6 (.int .u64 (dg 0 (q + 1))) (.int .u64 (dg 1 (q + 1))) (.int .u64 (dg 2 (q + 1))) (.int .u64 (dg 3 (q + 1))) (.int .u64 (dg 4 (q + 1))) (.int .u64 (dg 5 (q + 1))) ((hb4.block G (by omega)).trans ((hb3.block G kG).trans HM.out))
            have B5 : Below w.heap.size w _ := hB.trans ((hb3.mono (by have := hB.size; omega)).trans ((hb4.mono (by have := hB.size; omega)).trans (set6_below (g := G) (.int .u64 (dg 0 (q + 1))) (.int .u64 (dg 1 (q + 1))) (.int .u64 (dg 2 (q + 1))) (.int .u64 (dg 3 (q + 1))) (.int .u64 (dg 4 (q + 1))) (.int .u64 (dg 5 (q + 1))) hGw)))
            have o0 := cell_of_row _ G 0 _ _ _ b5
            have o1 := cell_of_row _ G 1 _ _ _ b5
            have o2 := cell_of_row _ G 2 _ _ _ b5
            have o3 := cell_of_row _ G 3 _ _ _ b5
            have o4 := cell_of_row _ G 4 _ _ _ b5
            have o5 := cell_of_row _ G 5 _ _ _ b5
            simp only [List.getElem?_toArray, List.getElem?_cons_zero, List.getElem?_cons_succ] at o0 o1 o2 o3 o4 o5
            have z5 := B5.size
            clear b5 hc3 hf3 hc4 hf4 y0 y1 y2 y3 y4 y5 yf
            go_wp2_with fail
            refine wp_loop_rounds 1 ?_
            rw [rounds_succ]
            go_wp2_with (go_at_call 66; refine (CL.out _).mono ?_; rintro e w5 ⟨rfl, hb5⟩)
            go_ret3
            exact ⟨rfl, B5.trans (hb5.mono z5)⟩
      · rw [if_neg hu] at hup
        have CL := Lib.hid (fun W => clamp02_any q s ⟨hq0, hq1⟩ W)
        rw [show sgn s q = F by rw [← hup]; exact HRES.out.symm] at CL
        clear hup hq2 HRES
        by_cases hl : l = 1
        · subst hl
          have hr : ¬ r = 1 := fun e => hu ⟨rfl, .inl e⟩
          have hq : ¬ q % 2 = 1 := fun e => hu ⟨rfl, .inr e⟩
          have t1 : (r == 1) = false := by simpa using hr
          have t2 : (dg 0 q % 2 == 1) = false := by rw [ed]; simpa using hq
          clear hu ed hr hq
          go_wp2_with fail
          refine wp_loop_rounds 1 ?_
          rw [rounds_succ]
          go_wp2_with (go_at_call 66; refine (CL.out _).mono ?_; rintro e w3 ⟨rfl, hb3⟩)
          go_ret3
          exact ⟨rfl, hB.trans (hb3.mono (by have := hB.size; omega))⟩
        · have t1 : (l == 1) = false := by simpa using hl
          clear hu ed hl
          go_wp2_with fail
          refine wp_loop_rounds 1 ?_
          rw [rounds_succ]
          go_wp2_with (go_at_call 66; refine (CL.out _).mono ?_; rintro e w3 ⟨rfl, hb3⟩)
          go_ret3
          exact ⟨rfl, hB.trans (hb3.mono (by have := hB.size; omega))⟩
set_option maxHeartbeats 4000000 in
theorem rfrom_low0 (b k : Nat) (hb0 : b < 18446744073709551616) (he : b / 4503599627370496 % 2048 = 0) (hk : k = 1042) (w : World) :
    Calls Try.prog 23 #[.int .u64 b] w fun e w' => e = .returned (.tuple #[.int .i64 (clampI (floatI b)), .bool (overI (floatI b)), .bool true]) ∧ Below w.heap.size w w' := by
  have hW : apW b = ((b % 4503599627370496 : Nat) : Int) := by unfold apW; rw [he, if_pos rfl]
  have hP : apP b = -1074 := by unfold apP; rw [he, if_pos rfl]
  have hF := float_low b k (by rw [hP]; omega) (by omega)
  obtain ⟨f1, f2⟩ := fparts b
  rw [he] at f1
  obtain ⟨m0, hm0⟩ : ∃ m0, m0 = b % 4503599627370496 := ⟨_, rfl⟩
  rw [← hm0] at f2 hW
  have hm1 : m0 < 4503599627370496 := by omega
  have hS : ((b : Int) / 9223372036854775808 == 1) = apS b := by
    unfold apS
    rw [show (b : Int) / 9223372036854775808 = ((b / 9223372036854775808 : Nat) : Int) by omega]
  rw [hW] at hF
  obtain ⟨F, hFF⟩ : ∃ F, F = floatI b := ⟨_, rfl⟩
  rw [← hFF] at hF ⊢
  obtain ⟨s, hs⟩ : ∃ s, s = apS b := ⟨_, rfl⟩
  rw [← hs] at hS hF
  have h3 : (0 : Int) ≤ b := by omega
  have h4 : (b : Int) < 18446744073709551616 := by omega
  have ON := Lib.hid (fun V => one64_any (m0 : Int) 0 ⟨by omega, by omega⟩ (by omega) (by omega) V)
  rw [show upB 0 (m0 : Int) = (m0 : Int) from rfl] at ON
  have hm : BIG (m0 : Int) := ⟨by omega, by omega⟩
  have hk1 : (k : Int) ≤ 1042 := by omega
  have hk2 : 1042 ≤ (k : Int) := by omega
  clear hW hP hm0 he hb0 hFF hs hk
  have HFL := Lib.hid hF
  clear hF
  simp only [Int.natCast_zero] at f1
  have hm3 : (0 : Int) ≤ (m0 : Int) := by omega
  have hm4 : (m0 : Int) < 4503599627370496 := by omega
  generalize hme : (m0 : Int) = m at *
  generalize (b : Int) = c at *
  clear hme hm1
  go_enter Try.func23, Try.ntmps23
  go_wp2_with (go_at_call 63; refine (ON.out _).mono ?_; rintro e w1 ⟨rfl, hb1⟩; obtain ⟨hc1, hf1, hz1⟩ := bcell hb1; (try simp at hz1); (try have : w.heap.size < w1.heap.size := by omega); (try have : w.heap.size + 1 < w1.heap.size := by omega); (try have : w.heap.size + 1 + 1 < w1.heap.size := by omega); (try have : w.heap.size + 1 + 1 + 1 < w1.heap.size := by omega); (try have : g < w1.heap.size := by omega); (try have : ga < w1.heap.size := by omega); (try have : gb < w1.heap.size := by omega); (try have : gc < w1.heap.size := by omega); have hB : Below w.heap.size w w1 := (by repeat (first | (with_reducible exact Below.refl _ _) | (with_reducible assumption) | (with_reducible refine Below.drew ?_) | (with_reducible refine Below.alloc ?_ ?_ _) | (with_reducible refine Below.setCell ?_ ?_ _) | (with_reducible refine Below.trans ?_ (Below.mono hb ?_)) | (with_reducible refine Below.trans ?_ (Below.mono hb1 ?_)) | (with_reducible refine Below.trans ?_ (Below.mono hb2 ?_)) | (with_reducible refine Below.trans ?_ (Below.mono hb3 ?_)) | (with_reducible refine Below.trans ?_ (Below.mono hb4 ?_)) | (with_reducible refine Below.trans ?_ (Below.mono hb5 ?_)) | (with_reducible refine Below.trans ?_ (Below.mono hb6 ?_)) | (with_reducible refine Below.trans ?_ (Below.mono hb7 ?_)) | (with_reducible refine Below.trans ?_ (Below.mono hb8 ?_)) | (with_reducible refine Below.trans ?_ (Below.mono hb9 ?_)) | (focus (first | omega | (simp; done) | (simp; omega))) | exact hB)))
  clear ON
  obtain ⟨G, hG⟩ : ∃ G, G = w1.heap.size := ⟨_, rfl⟩
  have hGw : w.heap.size ≤ G := by omega
  have HG := Lib.hid hG
  rw [← hG]
  have BW1 := hB
  clear hG hc1 hf1 hb1
  have hw1 : ∃ o, o = (w1.alloc (.cells #[.int .u64 (dg 0 (m)), .int .u64 (dg 1 (m)), .int .u64 (dg 2 (m)), .int .u64 (dg 3 (m)), .int .u64 (dg 4 (m)), .int .u64 (dg 5 (m))] 45)) := ⟨_, rfl⟩
  clear hw1
  go_loopw [8, 10, 11] (fun i l r wr => ∃ j : Nat, j ≤ k ∧ i = .int .i64 ((j : Int) - k) ∧ l = .int .u64 (lsI m j) ∧ r = .int .u64 (rsI m j) ∧ RndAt w wr G m j) (fun i _ _ _ => (- intOf i).toNat)
  case atStart =>
    refine ⟨0, by omega, (by first | (simp; done) | (simp; omega)), rfl, rfl, ?_, (by repeat (first | (with_reducible exact Below.refl _ _) | (with_reducible assumption) | (with_reducible refine Below.drew ?_) | (with_reducible refine Below.alloc ?_ ?_ _) | (with_reducible refine Below.setCell ?_ ?_ _) | (with_reducible refine Below.trans ?_ (Below.mono hb ?_)) | (with_reducible refine Below.trans ?_ (Below.mono hb1 ?_)) | (with_reducible refine Below.trans ?_ (Below.mono hb2 ?_)) | (with_reducible refine Below.trans ?_ (Below.mono hb3 ?_)) | (with_reducible refine Below.trans ?_ (Below.mono hb4 ?_)) | (with_reducible refine Below.trans ?_ (Below.mono hb5 ?_)) | (with_reducible refine Below.trans ?_ (Below.mono hb6 ?_)) | (with_reducible refine Below.trans ?_ (Below.mono hb7 ?_)) | (with_reducible refine Below.trans ?_ (Below.mono hb8 ?_)) | (with_reducible refine Below.trans ?_ (Below.mono hb9 ?_)) | (focus (first | omega | (simp; done) | (simp; omega))) | exact hB))⟩
    rw [HG.out, show m / 2 ^ 0 = m by simp]
    exact heap_alloc_new w1 _
  case round =>
    clear BW1
    obtain ⟨j, hj, rfl, rfl, rfl, hM, hB⟩ := hrel
    have kG := lt_of_block hM
    have y0 := cell_of_row wr G 0 _ _ _ hM
    have y1 := cell_of_row wr G 1 _ _ _ hM
    have y2 := cell_of_row wr G 2 _ _ _ hM
    have y3 := cell_of_row wr G 3 _ _ _ hM
    have y4 := cell_of_row wr G 4 _ _ _ hM
    have y5 := cell_of_row wr G 5 _ _ _ hM
    have yf : ∀ i, wr.frozen? ⟨G, i, none⟩ = false := fun i => by simp [World.frozen?, hM]
    simp only [List.getElem?_toArray, List.getElem?_cons_zero, List.getElem?_cons_succ] at y0 y1 y2 y3 y4 y5
    have HM := Lib.hid hM
    clear hM
    by_cases hlt : j < k
    · obtain ⟨hx0, hx1⟩ := big_div hm j
      have HF := Lib.hid (fun W => half_any (m / 2 ^ j) (big_div hm j) W)
      rw [half_div] at HF
      have ro := rs_succ m j
      have els := ls_succ m j
      rw [← els] at HF
      have hneg : (j : Int) - k < 0 := by omega
      clear els
      go_wp2_with (go_at_call 64; refine (HF.out _).mono ?_; rintro e w2 ⟨rfl, hb2⟩; obtain ⟨hc2, hf2, hz2⟩ := bcell hb2; have k2 : G < w2.heap.size := by omega)
      go_roundw
      case rel =>
        refine ⟨j + 1, by omega, by simp; omega, rfl, rfl, set6 _ _ _ _ _ _ ((hb2.block _ kG).trans HM.out), ?_⟩
        exact hB.trans ((hb2.mono (by have := hB.size; omega)).trans (set6_below _ _ _ _ _ _ (by omega)))
      case measure => simp [intOf]; omega
    · obtain rfl : j = k := by omega
      have HRES := Lib.hid HFL.out
      have d0 := dg_in 0 (m / 2 ^ j)
      have hz0 : (j : Int) - (j : Int) = 0 := by omega
      have ed : dg 0 (m / 2 ^ j) % 2 = m / 2 ^ j % 2 := by
        unfold dg; simp only [Nat.mul_zero, Int.pow_zero, Int.ediv_one]; omega
      obtain ⟨hq0, hq1⟩ := big_div hm j
      have hup : rnd m (2 ^ j) = if lsI m j = 1 ∧ (rsI m j = 1 ∨ m / 2 ^ j % 2 = 1) then m / 2 ^ j + 1 else m / 2 ^ j := by
        cases j with
        | zero => rw [rnd_one]; simp [lsI]
        | succ i => exact rnd_bits m i
      have hq2 : lsI m j = 1 → m / 2 ^ j + 1 < 6277101735386680763835789423207666416102355444464034512896 := by
        intro h
        cases j with
        | zero => simp [lsI] at h
        | succ i =>
          have h1 := Int.ediv_le_self (2 ^ i) hm.1
          have h2 := hm.2
          rw [← half_div]
          omega
      clear hlt hj hm hz0 HFL
      generalize lsI m j = l at *
      generalize rsI m j = r at *
      generalize m / 2 ^ j = q at *
      by_cases hu : l = 1 ∧ (r = 1 ∨ q % 2 = 1)
      · rw [if_pos hu] at hup
        have CL := Lib.hid (fun W => clamp02_any (q + 1) s ⟨by omega, hq2 hu.1⟩ W)
        rw [show sgn s (q + 1) = F by rw [← hup]; exact HRES.out.symm] at CL
        obtain ⟨rfl, hu2⟩ := hu
        clear hup hq2 HRES
        have eu : upB 0 1 = 1 := rfl
        have ON1 := Lib.hid (fun W => one64_any 1 0 ⟨by omega, by omega⟩ (by omega) (by omega) W)
        have PL := Lib.hid (fun W => plus_any q 1 W)
        rw [eu] at ON1
        clear eu
        by_cases hr : r = 1
        · subst hr
          clear hu2 ed
          go_wp2_with fail
          go_region_with (first
            | (go_at_call 63; refine (ON1.out _).mono ?_; rintro e w3 ⟨rfl, hb3⟩; replace hb3 := undrew hb3; obtain ⟨hc3, hf3, hz3⟩ := bcell hb3; have k3 : G < w3.heap.size := by omega)
            | (go_at_call 65; refine (PL.out _).mono ?_; rintro e w4 ⟨rfl, hb4⟩; obtain ⟨hc4, hf4, hz4⟩ := bcell hb4; have k4 : G < w4.heap.size := by omega))
          all_goals
            have b5 := set6 (.int .u64 (dg 0 (q + 1))) (.int .u64 (dg 1 (q + 1))) (.int .u64 (dg 2 (q + 1))) (.int .u64 (dg 3 (q + 1))) (.int .u64 (dg 4 (q + 1))) (.int .u64 (dg 5 (q + 1))) ((hb4.block G (by omega)).trans ((hb3.block G kG).trans HM.out))
            have B5 : Below w.heap.size w _ := hB.trans ((hb3.mono (by have := hB.size; omega)).trans ((hb4.mono (by have := hB.size; omega)).trans (set6_below (g := G) (.int .u64 (dg 0 (q + 1))) (.int .u64 (dg 1 (q + 1))) (.int .u64 (dg 2 (q + 1))) (.int .u64 (dg 3 (q + 1))) (.int .u64 (dg 4 (q + 1))) (.int .u64 (dg 5 (q + 1))) hGw)))
            have o0 := cell_of_row _ G 0 _ _ _ b5
            have o1 := cell_of_row _ G 1 _ _ _ b5
            have o2 := cell_of_row _ G 2 _ _ _ b5
            have o3 := cell_of_row _ G 3 _ _ _ b5
            have o4 := cell_of_row _ G 4 _ _ _ b5
            have o5 := cell_of_row _ G 5 _ _ _ b5
            simp only [List.getElem?_toArray, List.getElem?_cons_zero, List.getElem?_cons_succ] at o0 o1 o2 o3 o4 o5
            have z5 := B5.size
            clear b5 hc3 hf3 hc4 hf4 y0 y1 y2 y3 y4 y5 yf
            go_wp2_with fail
            refine wp_loop_rounds 1 ?_
            rw [rounds_succ]
            go_wp2_with (go_at_call 66; refine (CL.out _).mono ?_; rintro e w5 ⟨rfl, hb5⟩)
            go_ret3
            exact ⟨rfl, B5.trans (hb5.mono z5)⟩
        · have t1 : (r == 1) = false := by simpa using hr
          have t2 : (dg 0 q % 2 == 1) = true := by rw [ed]; simp; omega
          clear hu2 ed hr
          go_wp2_with fail
          go_region_with (first
            | (go_at_call 63; refine (ON1.out _).mono ?_; rintro e w3 ⟨rfl, hb3⟩; replace hb3 := undrew hb3; obtain ⟨hc3, hf3, hz3⟩ := bcell hb3; have k3 : G < w3.heap.size := by omega)
            | (go_at_call 65; refine (PL.out _).mono ?_; rintro e w4 ⟨rfl, hb4⟩; obtain ⟨hc4, hf4, hz4⟩ := bcell hb4; have k4 : G < w4.heap.size := by omega))
          all_goals
            have b5 := set6 (.int .u64 (dg 0 (q + 1))) (.int .u64 (dg 1 (q + 1))) (.int .u64 (dg 2 (q + 1))) (.int .u64 (dg 3 (q + 1))) (.int .u64 (dg 4 (q + 1))) (.int .u64 (dg 5 (q + 1))) ((hb4.block G (by omega)).trans ((hb3.block G kG).trans HM.out))
            have B5 : Below w.heap.size w _ := hB.trans ((hb3.mono (by have := hB.size; omega)).trans ((hb4.mono (by have := hB.size; omega)).trans (set6_below (g := G) (.int .u64 (dg 0 (q + 1))) (.int .u64 (dg 1 (q + 1))) (.int .u64 (dg 2 (q + 1))) (.int .u64 (dg 3 (q + 1))) (.int .u64 (dg 4 (q + 1))) (.int .u64 (dg 5 (q + 1))) hGw)))
            have o0 := cell_of_row _ G 0 _ _ _ b5
            have o1 := cell_of_row _ G 1 _ _ _ b5
            have o2 := cell_of_row _ G 2 _ _ _ b5
            have o3 := cell_of_row _ G 3 _ _ _ b5
            have o4 := cell_of_row _ G 4 _ _ _ b5
            have o5 := cell_of_row _ G 5 _ _ _ b5
            simp only [List.getElem?_toArray, List.getElem?_cons_zero, List.getElem?_cons_succ] at o0 o1 o2 o3 o4 o5
            have z5 := B5.size
            clear b5 hc3 hf3 hc4 hf4 y0 y1 y2 y3 y4 y5 yf
            go_wp2_with fail
            refine wp_loop_rounds 1 ?_
            rw [rounds_succ]
            go_wp2_with (go_at_call 66; refine (CL.out _).mono ?_; rintro e w5 ⟨rfl, hb5⟩)
            go_ret3
            exact ⟨rfl, B5.trans (hb5.mono z5)⟩
      · rw [if_neg hu] at hup
        have CL := Lib.hid (fun W => clamp02_any q s ⟨hq0, hq1⟩ W)
        rw [show sgn s q = F by rw [← hup]; exact HRES.out.symm] at CL
        clear hup hq2 HRES
        by_cases hl : l = 1
        · subst hl
          have hr : ¬ r = 1 := fun e => hu ⟨rfl, .inl e⟩
          have hq : ¬ q % 2 = 1 := fun e => hu ⟨rfl, .inr e⟩
          have t1 : (r == 1) = false := by simpa using hr
          have t2 : (dg 0 q % 2 == 1) = false := by rw [ed]; simpa using hq
          clear hu ed hr hq
          go_wp2_with fail
          refine wp_loop_rounds 1 ?_
          rw [rounds_succ]
          go_wp2_with (go_at_call 66; refine (CL.out _).mono ?_; rintro e w3 ⟨rfl, hb3⟩)
          go_ret3
          exact ⟨rfl, hB.trans (hb3.mono (by have := hB.size; omega))⟩
        · have t1 : (l == 1) = false := by simpa using hl
          clear hu ed hl
          go_wp2_with fail
          refine wp_loop_rounds 1 ?_
          rw [rounds_succ]
          go_wp2_with (go_at_call 66; refine (CL.out _).mono ?_; rintro e w3 ⟨rfl, hb3⟩)
          go_ret3
          exact ⟨rfl, hB.trans (hb3.mono (by have := hB.size; omega))⟩
theorem dg_low {M : Int} (h0 : 0 ≤ M) (h : M < 18446744073709551616) : dg 2 M = 0 ∧ dg 3 M = 0 := by
  unfold dg
  simp only [show 32 * 2 = 64 by rfl, show 32 * 3 = 96 by rfl]
  rw [show (2 : Int) ^ 64 = 18446744073709551616 by rfl, show (2 : Int) ^ 96 = 79228162514264337593543950336 by rfl]
  omega
theorem dg_high {M : Int} (h : 18446744073709551616 ≤ M) (h1 : M < 36893488147419103232) : ¬ dg 2 M = 0 := by
  unfold dg
  simp only [show 32 * 2 = 64 by rfl]
  rw [show (2 : Int) ^ 64 = 18446744073709551616 by rfl]
  omega
def HiAt (w wr : World) (G : Nat) (M : Int) : Prop := wr.heap[G]? = some (.cells #[.int .u64 (dg 0 (M)), .int .u64 (dg 1 (M)), .int .u64 (dg 2 (M)), .int .u64 (dg 3 (M)), .int .u64 (dg 4 (M)), .int .u64 (dg 5 (M))] 45 (0, 0)) ∧ Below w.heap.size w wr
set_option maxHeartbeats 4000000 in
theorem rfrom_high (b n : Nat) (hb0 : b < 18446744073709551616) (e : Nat) (he : b / 4503599627370496 % 2048 = e) (he0 : 1043 ≤ e) (he1 : e < 2047) (hk : (e : Int) - 1043 = (n : Int)) (w : World) :
    Calls Try.prog 23 #[.int .u64 b] w fun e w' => e = .returned (.tuple #[.int .i64 (clampI (floatI b)), .bool (overI (floatI b)), .bool true]) ∧ Below w.heap.size w w' := by
  have hW : apW b = ((b % 4503599627370496 : Nat) : Int) + 4503599627370496 := by unfold apW; rw [he, if_neg (by omega)]
  have hP : apP b = (e : Int) - 1075 := by unfold apP; rw [he, if_neg (by omega)]
  have hF := fun t h1 h2 => float_high b n t (by rw [hP]; omega) h1 h2
  obtain ⟨f1, f2⟩ := fparts b
  rw [he] at f1
  obtain ⟨m0, hm0⟩ : ∃ m0, m0 = b % 4503599627370496 := ⟨_, rfl⟩
  rw [← hm0] at f2 hW
  have hm1 : m0 < 4503599627370496 := by omega
  have hS : ((b : Int) / 9223372036854775808 == 1) = apS b := by
    unfold apS
    rw [show (b : Int) / 9223372036854775808 = ((b / 9223372036854775808 : Nat) : Int) by omega]
  rw [hW] at hF
  obtain ⟨F, hFF⟩ : ∃ F, F = floatI b := ⟨_, rfl⟩
  rw [← hFF] at hF ⊢
  obtain ⟨s, hs⟩ : ∃ s, s = apS b := ⟨_, rfl⟩
  rw [← hs] at hS hF
  have h3 : (0 : Int) ≤ b := by omega
  have h4 : (b : Int) < 18446744073709551616 := by omega
  have ON := Lib.hid (fun V => one64_any ((m0 : Int) + 4503599627370496) 0 ⟨by omega, by omega⟩ (by omega) (by omega) V)
  rw [show upB 0 ((m0 : Int) + 4503599627370496) = (m0 : Int) + 4503599627370496 from rfl] at ON
  have hm : 0 ≤ (m0 : Int) + 4503599627370496 ∧ (m0 : Int) + 4503599627370496 < 9007199254740992 := ⟨by omega, by omega⟩
  clear hW hP hm0 he hb0 hFF hs
  have HFL := Lib.hid hF
  clear hF
  generalize (b : Int) = c at *
  go_enter Try.func23, Try.ntmps23
  go_wp2_with (go_at_call 63; refine (ON.out _).mono ?_; rintro e w1 ⟨rfl, hb1⟩; obtain ⟨hc1, hf1, hz1⟩ := bcell hb1; (try simp at hz1); (try have : w.heap.size < w1.heap.size := by omega); (try have : w.heap.size + 1 < w1.heap.size := by omega); (try have : w.heap.size + 1 + 1 < w1.heap.size := by omega); (try have : w.heap.size + 1 + 1 + 1 < w1.heap.size := by omega); (try have : g < w1.heap.size := by omega); (try have : ga < w1.heap.size := by omega); (try have : gb < w1.heap.size := by omega); (try have : gc < w1.heap.size := by omega); have hB : Below w.heap.size w w1 := (by repeat (first | (with_reducible exact Below.refl _ _) | (with_reducible assumption) | (with_reducible refine Below.drew ?_) | (with_reducible refine Below.alloc ?_ ?_ _) | (with_reducible refine Below.setCell ?_ ?_ _) | (with_reducible refine Below.trans ?_ (Below.mono hb ?_)) | (with_reducible refine Below.trans ?_ (Below.mono hb1 ?_)) | (with_reducible refine Below.trans ?_ (Below.mono hb2 ?_)) | (with_reducible refine Below.trans ?_ (Below.mono hb3 ?_)) | (with_reducible refine Below.trans ?_ (Below.mono hb4 ?_)) | (with_reducible refine Below.trans ?_ (Below.mono hb5 ?_)) | (with_reducible refine Below.trans ?_ (Below.mono hb6 ?_)) | (with_reducible refine Below.trans ?_ (Below.mono hb7 ?_)) | (with_reducible refine Below.trans ?_ (Below.mono hb8 ?_)) | (with_reducible refine Below.trans ?_ (Below.mono hb9 ?_)) | (focus (first | omega | (simp; done) | (simp; omega))) | exact hB)))
  clear ON
  generalize hme : (m0 : Int) + 4503599627370496 = m at *
  clear hme
  refine wp_loop_rounds 1 ?_
  rw [rounds_succ]
  go_wp2_with fail
  obtain ⟨G, hG⟩ : ∃ G, G = w1.heap.size := ⟨_, rfl⟩
  have hGw : w.heap.size ≤ G := by omega
  have HG := Lib.hid hG
  rw [← hG]
  clear hG hc1 hf1 hb1
  go_loopw [8] (fun i wr => ∃ t : Nat, t ≤ n ∧ i = .int .i64 ((n : Int) - t) ∧ 0 ≤ m * 2 ^ t ∧ m * 2 ^ t < 36893488147419103232 ∧ HiAt w wr G (m * 2 ^ t)) (fun i _ => (intOf i).toNat)
  case atStart =>
    refine ⟨0, by omega, by simp, by simp; omega, by simp; omega, ?_, (by repeat (first | (with_reducible exact Below.refl _ _) | (with_reducible assumption) | (with_reducible refine Below.drew ?_) | (with_reducible refine Below.alloc ?_ ?_ _) | (with_reducible refine Below.setCell ?_ ?_ _) | (with_reducible refine Below.trans ?_ (Below.mono hb ?_)) | (with_reducible refine Below.trans ?_ (Below.mono hb1 ?_)) | (with_reducible refine Below.trans ?_ (Below.mono hb2 ?_)) | (with_reducible refine Below.trans ?_ (Below.mono hb3 ?_)) | (with_reducible refine Below.trans ?_ (Below.mono hb4 ?_)) | (with_reducible refine Below.trans ?_ (Below.mono hb5 ?_)) | (with_reducible refine Below.trans ?_ (Below.mono hb6 ?_)) | (with_reducible refine Below.trans ?_ (Below.mono hb7 ?_)) | (with_reducible refine Below.trans ?_ (Below.mono hb8 ?_)) | (with_reducible refine Below.trans ?_ (Below.mono hb9 ?_)) | (focus (first | omega | (simp; done) | (simp; omega))) | exact hB))⟩
    rw [HG.out, show m * 2 ^ 0 = m by simp]
    exact heap_alloc_new w1 _
  case round =>
    obtain ⟨t, ht, rfl, hM0, hM1, hM, hB⟩ := hrel
    have kG := lt_of_block hM
    have y0 := cell_of_row wr G 0 _ _ _ hM
    have y1 := cell_of_row wr G 1 _ _ _ hM
    have y2 := cell_of_row wr G 2 _ _ _ hM
    have y3 := cell_of_row wr G 3 _ _ _ hM
    have y4 := cell_of_row wr G 4 _ _ _ hM
    have y5 := cell_of_row wr G 5 _ _ _ hM
    have yf : ∀ i, wr.frozen? ⟨G, i, none⟩ = false := fun i => by simp [World.frozen?, hM]
    simp only [List.getElem?_toArray, List.getElem?_cons_zero, List.getElem?_cons_succ] at y0 y1 y2 y3 y4 y5
    have HM := Lib.hid hM
    clear hM
    have hz := hB.size
    by_cases hlt : t < n
    · have hpos : (0 : Int) < (n : Int) - t := by omega
      by_cases hbig : m * 2 ^ t < 18446744073709551616
      · obtain ⟨d2, d3⟩ := dg_low hM0 hbig
        have PL := Lib.hid (fun W => plus_any (m * 2 ^ t) (m * 2 ^ t) W)
        have e2 : m * 2 ^ t + m * 2 ^ t = m * 2 ^ (t + 1) := by rw [Int.pow_succ, ← Int.mul_assoc]; omega
        rw [e2] at PL
        have hM2 : m * 2 ^ (t + 1) < 36893488147419103232 := by rw [← e2]; omega
        have hM3 : 0 ≤ m * 2 ^ (t + 1) := by rw [← e2]; omega
        have HM2 := Lib.hid hM2
        have HM3 := Lib.hid hM3
        clear e2 hM2 hM3
        have t2 : (dg 2 (m * 2 ^ t) == 0) = true := by simpa using d2
        have t3 : (dg 3 (m * 2 ^ t) == 0) = true := by simpa using d3
        clear d2 d3
        generalize m * 2 ^ t = M at *
        obtain ⟨M', hM'⟩ : ∃ M', M' = m * 2 ^ (t + 1) := ⟨_, rfl⟩
        rw [← hM'] at PL HM2 HM3
        have HM' := Lib.hid hM'
        clear hM'
        go_wp2_with (go_at_call 65; refine (PL.out _).mono ?_; rintro e w4 ⟨rfl, hb4⟩; obtain ⟨hc4, hf4, hz4⟩ := bcell hb4; have k4 : G < w4.heap.size := by omega)
        go_roundw
        case rel => exact ⟨t + 1, by omega, by simp; omega, by rw [← HM'.out]; exact HM3.out, by rw [← HM'.out]; exact HM2.out, by rw [← HM'.out]; exact set6 _ _ _ _ _ _ ((hb4.block _ kG).trans HM.out), hB.trans ((hb4.mono hB.size).trans (set6_below _ _ _ _ _ _ hGw))⟩
        case measure => simp [intOf]; omega
      · have d2 := dg_high (show 18446744073709551616 ≤ m * 2 ^ t by omega) hM1
        have t2 : (dg 2 (m * 2 ^ t) == 0) = false := by simpa using d2
        have CL := Lib.hid (fun W => clamp02_any (m * 2 ^ t) s ⟨hM0, by omega⟩ W)
        obtain ⟨q1, q2⟩ := HFL.out t (by omega) (.inr (by omega))
        rw [← q1, ← q2] at CL
        clear q1 q2 d2
        generalize m * 2 ^ t = M at *
        go_wp2_with (go_at_call 66; refine (CL.out _).mono ?_; rintro e w5 ⟨rfl, hb5⟩)
        go_ret3
        exact ⟨rfl, hB.trans (hb5.mono hz)⟩
    · obtain rfl : t = n := by omega
      have CL := Lib.hid (fun W => clamp02_any (m * 2 ^ t) s ⟨hM0, by omega⟩ W)
      obtain ⟨q1, q2⟩ := HFL.out t (by omega) (.inl rfl)
      rw [← q1, ← q2] at CL
      clear q1 q2
      generalize m * 2 ^ t = M at *
      go_wp2_with (go_at_call 66; refine (CL.out _).mono ?_; rintro e w5 ⟨rfl, hb5⟩)
      go_ret3
      exact ⟨rfl, hB.trans (hb5.mono hz)⟩
theorem rfrom_any (b : Nat) (hb0 : b < 18446744073709551616) (h : nanB b = false) (h1 : b ≠ 9218868437227405312) (h2 : b ≠ 18442240474082181120) (w : World) :
    Calls Try.prog 23 #[.int .u64 b] w fun e w' => e = .returned (.tuple #[.int .i64 (clampI (floatI b)), .bool (overI (floatI b)), .bool true]) ∧ Below w.heap.size w w' := by
  have he : b / 4503599627370496 % 2048 ≠ 2047 := by
    unfold nanB at h
    simp at h
    omega
  by_cases h3 : b / 4503599627370496 % 2048 = 0
  · exact rfrom_low0 b 1042 hb0 h3 rfl w
  · by_cases h4 : b / 4503599627370496 % 2048 < 1043
    · exact rfrom_low1 b (1043 - b / 4503599627370496 % 2048) hb0 _ rfl (by omega) h4 (by omega) w
    · exact rfrom_high b (b / 4503599627370496 % 2048 - 1043) hb0 _ rfl (by omega) (by omega) (by omega) w
end Go.Proofs.Ytjhepjmggenadaa
